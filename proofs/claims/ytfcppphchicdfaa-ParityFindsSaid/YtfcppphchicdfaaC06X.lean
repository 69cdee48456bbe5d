/- Chapter 06: lost strings; mathematics. -/
import Derived.Test.YtfcppphchicdfaaC06N
namespace Go.Proofs.Ytfcppphchicdfaa
set_option linter.unusedSimpArgs false
set_option linter.unusedVariables false
open Go.RowKit V
theorem colx_acc (L : List (List UInt8)) (k : Nat) : ∀ c, L.foldl (fun c s => c ^^^ s.getD k 0) c = c ^^^ colx L k := by
  unfold colx
  induction L with
  | nil => intro c; simp
  | cons x L ih =>
    intro c
    simp only [List.foldl_cons]
    rw [ih, ih (0 ^^^ _)]
    simp [UInt8.xor_assoc]
theorem colx_app (L M : List (List UInt8)) (k : Nat) : colx (L ++ M) k = colx L k ^^^ colx M k := by
  unfold colx
  rw [List.foldl_append, colx_acc]; rfl
theorem colx_one (x : List UInt8) (k : Nat) : colx [x] k = x.getD k 0 := by simp [colx]
theorem mxl_acc (L : List (List UInt8)) : ∀ c, L.foldl (fun m s => max m s.length) c = max c (mxl L) := by
  unfold mxl
  induction L with
  | nil => intro c; simp
  | cons x L ih =>
    intro c
    simp only [List.foldl_cons]
    rw [ih, ih (max 0 _)]
    omega
theorem mxl_app (L M : List (List UInt8)) : mxl (L ++ M) = max (mxl L) (mxl M) := by
  unfold mxl
  rw [List.foldl_append, mxl_acc]; rfl
theorem mxl_one (x : List UInt8) : mxl [x] = x.length := by simp [mxl]
theorem tls_app (L M : List ByteArray) : tls (L ++ M) = tls L ++ tls M := by simp [tls]
theorem u8_xor_cancel (a b : UInt8) : a ^^^ b ^^^ a = b := by rw [UInt8.xor_comm a b, UInt8.xor_assoc, UInt8.xor_self, UInt8.xor_zero]
theorem parL_ext {L : List (List UInt8)} {r : List UInt8} (hl : r.length = mxl L) (h : ∀ k, k < mxl L → r.getD k 0 = colx L k) : parL L = r := by
  apply List.ext_getElem?
  intro k
  by_cases hk : k < mxl L
  · rw [parL, List.getElem?_map, List.getElem?_range hk]
    have := h k hk
    rw [List.getD_eq_getElem?_getD, List.getElem?_eq_getElem (by omega)] at this
    rw [List.getElem?_eq_getElem (by omega)]
    simpa using this.symm
  · rw [List.getElem?_eq_none (by rw [parL_len]; omega), List.getElem?_eq_none (by omega)]
theorem rep0_getD (n k : Nat) : (List.replicate n (0 : UInt8)).getD k 0 = 0 := by
  rw [List.getD_eq_getElem?_getD, List.getElem?_replicate]; split <;> rfl
/-- the parity of strings and their parity -/
theorem par_with (L : List ByteArray) : parB (L ++ [parB L]) = ⟨(List.replicate (mxl (tls L)) 0).toArray⟩ := by
  apply ba_eq
  unfold parB
  rw [mk_toList, mk_toList, tls_app]
  have e : tls [(⟨(parL (tls L)).toArray⟩ : ByteArray)] = [parL (tls L)] := by simp [tls]
  rw [e]
  have hm : mxl (tls L ++ [parL (tls L)]) = mxl (tls L) := by rw [mxl_app, mxl_one, parL_len]; omega
  apply parL_ext
  · rw [hm, List.length_replicate]
  · intro k hk
    rw [colx_app, colx_one, parL_getD', UInt8.xor_self, rep0_getD]
theorem getD_app_rep (s : List UInt8) (m k : Nat) : (s ++ List.replicate m 0).getD k 0 = s.getD k 0 := by
  rw [List.getD_eq_getElem?_getD, List.getD_eq_getElem?_getD]
  by_cases h : k < s.length
  · rw [List.getElem?_append_left h]
  · rw [List.getElem?_append_right (by omega), List.getElem?_eq_none (l := s) (by omega), List.getElem?_replicate]
    split <;> rfl
/-- a lost string: the parity of the parity and the others -/
theorem par_lost (L : List ByteArray) (i : Nat) (x : ByteArray) (h : L[i]? = some x) :
    parB ([parB L] ++ L.drop (i + 1) ++ L.take i) = ⟨(x.data.toList ++ List.replicate (mxl (tls L) - x.size) 0).toArray⟩ := by
  have hL : L = L.take i ++ [x] ++ L.drop (i + 1) := by
    have hi := (List.getElem?_eq_some_iff.1 h)
    obtain ⟨hlt, hx⟩ := hi
    rw [List.append_assoc, ← hx]
    conv => lhs; rw [← List.take_append_drop i L, List.drop_eq_getElem_cons hlt]
    rfl
  have hxm : x.data.toList.length ≤ mxl (tls L) := by
    rw [hL, tls_app, tls_app, mxl_app, mxl_app]
    have : mxl (tls [x]) = x.data.toList.length := mxl_one _
    omega
  apply ba_eq
  unfold parB
  rw [mk_toList, mk_toList, tls_app, tls_app]
  have e : tls [(⟨(parL (tls L)).toArray⟩ : ByteArray)] = [parL (tls L)] := by simp [tls]
  rw [e]
  have hml : mxl (tls L) = max (max (mxl (tls (L.take i))) x.data.toList.length) (mxl (tls (L.drop (i + 1)))) := by
    conv => lhs; rw [hL, tls_app, tls_app, mxl_app, mxl_app]
    rw [show mxl (tls [x]) = x.data.toList.length from mxl_one _]
  have hm : mxl ([parL (tls L)] ++ tls (L.drop (i + 1)) ++ tls (L.take i)) = mxl (tls L) := by
    rw [mxl_app, mxl_app, mxl_one, parL_len]; omega
  apply parL_ext
  · rw [hm, List.length_append, List.length_replicate, toList_len]
    rw [toList_len] at hxm; omega
  · intro k _
    have hc : colx (tls L) k = colx (tls (L.take i)) k ^^^ x.data.toList.getD k 0 ^^^ colx (tls (L.drop (i + 1))) k := by
      conv => lhs; rw [hL, tls_app, tls_app, colx_app, colx_app]
      rw [show colx (tls [x]) k = x.data.toList.getD k 0 from colx_one _ _]
    rw [getD_app_rep, colx_app, colx_app, colx_one, parL_getD', hc]
    rw [UInt8.xor_assoc (colx (tls (L.take i)) k ^^^ x.data.toList.getD k 0), UInt8.xor_self, UInt8.xor_zero]
    exact (u8_xor_cancel _ _).symm
end Go.Proofs.Ytfcppphchicdfaa
