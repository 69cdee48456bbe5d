/- Chapter 06: parities of strings. -/
import Derived.Test.YtfcppphchicdfaaC06J
namespace Go.Proofs.Ytfcppphchicdfaa
set_option linter.unusedSimpArgs false
set_option linter.unusedVariables false
open Go.RowKit V

def mxl (L : List (List UInt8)) : Nat := L.foldl (fun m s => max m s.length) 0
def colx (L : List (List UInt8)) (k : Nat) : UInt8 := L.foldl (fun c s => c ^^^ s.getD k 0) 0
/-- the parity -/
def parL (L : List (List UInt8)) : List UInt8 := (List.range (mxl L)).map (colx L)
def px (o s : List UInt8) : List UInt8 := (List.range (max o.length s.length)).map fun i => o.getD i 0 ^^^ s.getD i 0
theorem px_len (o s : List UInt8) : (px o s).length = max o.length s.length := by simp [px]
theorem px_get (o s : List UInt8) (i : Nat) (h : i < max o.length s.length) : (px o s)[i]? = some (o.getD i 0 ^^^ s.getD i 0) := by
  rw [px, List.getElem?_map, List.getElem?_range h]; rfl
theorem parL_len (L : List (List UInt8)) : (parL L).length = mxl L := by simp [parL]
theorem parL_getD (L : List (List UInt8)) (k : Nat) : (parL L).getD k 0 = if k < mxl L then colx L k else 0 := by
  rw [List.getD_eq_getElem?_getD, parL, List.getElem?_map]
  split
  · rename_i h; rw [List.getElem?_range h]; rfl
  · rename_i h; rw [List.getElem?_eq_none (by simpa using h)]; rfl
theorem colx_high : ∀ (L : List (List UInt8)) (k : Nat), mxl L ≤ k → colx L k = 0 := by
  suffices h : ∀ (L : List (List UInt8)) (k m : Nat) (c : UInt8), L.foldl (fun m s => max m s.length) m ≤ k → L.foldl (fun c s => c ^^^ s.getD k 0) c = c from fun L k hk => h L k 0 0 hk
  intro L
  induction L with
  | nil => intros; rfl
  | cons s L ih =>
    intro k m c hk
    simp only [List.foldl_cons] at hk ⊢
    have hle : ∀ (L : List (List UInt8)) (m : Nat), m ≤ L.foldl (fun m s => max m s.length) m := by
      intro L
      induction L with
      | nil => intro m; exact Nat.le_refl _
      | cons s L ih => intro m; exact Nat.le_trans (Nat.le_max_left _ _) (ih _)
    have h1 := hle L (max m s.length)
    rw [ih k _ _ hk, List.getD_eq_getElem?_getD, List.getElem?_eq_none (by omega)]
    simp
theorem parL_getD' (L : List (List UInt8)) (k : Nat) : (parL L).getD k 0 = colx L k := by
  rw [parL_getD]; split
  · rfl
  · rw [colx_high L k (by omega)]
theorem parL_snoc (L : List (List UInt8)) (s : List UInt8) : parL (L ++ [s]) = px (parL L) s := by
  have hm : mxl (L ++ [s]) = max (mxl L) s.length := by simp [mxl]
  apply List.ext_getElem
  · rw [parL_len, px_len, parL_len, hm]
  intro i h1 h2
  have e : (px (parL L) s)[i] = (parL L).getD i 0 ^^^ s.getD i 0 := by
    have := px_get (parL L) s i (by rw [px_len] at h2; exact h2)
    rw [List.getElem?_eq_getElem h2] at this; exact Option.some.inj this
  rw [e, parL_getD']
  simp [parL, colx]
theorem px_nil (o : List UInt8) : px o [] = o := by
  apply List.ext_getElem
  · simp [px]
  intro i h1 h2; simp [px, h2]
theorem px_step (o s : List UInt8) (j : Nat) (hj : j < s.length) :
    ((px o (s.take j)) ++ List.replicate (if o.length ≤ j then 1 else 0) 0)[j]? = some (o.getD j 0) ∧
    ((px o (s.take j)) ++ List.replicate (if o.length ≤ j then 1 else 0) 0).set j (o.getD j 0 ^^^ s[j]) = px o (s.take (j + 1)) := by
  have hlj : (s.take j).length = j := by rw [List.length_take]; omega
  have hlj1 : (s.take (j + 1)).length = j + 1 := by rw [List.length_take]; omega
  have htj : ∀ i, i < j → (s.take j).getD i 0 = s.getD i 0 := fun i hi => by simp [List.getD_eq_getElem?_getD, List.getElem?_take, hi]
  have htj1 : ∀ i, i < j + 1 → (s.take (j + 1)).getD i 0 = s.getD i 0 := fun i hi => by simp [List.getD_eq_getElem?_getD, List.getElem?_take, hi]
  have hz : ∀ i, j ≤ i → (s.take j).getD i 0 = 0 := fun i hi => by rw [List.getD_eq_getElem?_getD, List.getElem?_eq_none (by omega)]; rfl
  have hz1 : ∀ i, j + 1 ≤ i → (s.take (j + 1)).getD i 0 = 0 := fun i hi => by rw [List.getD_eq_getElem?_getD, List.getElem?_eq_none (by omega)]; rfl
  have hsj : s.getD j 0 = s[j] := by simp [List.getD_eq_getElem?_getD, hj]
  have hoz : ∀ i, o.length ≤ i → o.getD i 0 = 0 := fun i hi => by rw [List.getD_eq_getElem?_getD, List.getElem?_eq_none hi]; rfl
  by_cases h : o.length ≤ j
  · rw [if_pos h]
    have hpl : (px o (s.take j)).length = j := by rw [px_len, hlj]; omega
    refine ⟨by rw [List.getElem?_append_right (by omega), hpl, Nat.sub_self, hoz j h]; rfl, ?_⟩
    apply List.ext_getElem
    · simp [px_len, hlj1, hpl]; omega
    intro i h1 h2
    rw [px_len, hlj1] at h2
    have e : (px o (s.take (j + 1)))[i]'(by rw [px_len, hlj1]; exact h2) = o.getD i 0 ^^^ (s.take (j + 1)).getD i 0 := by
      have := px_get o (s.take (j + 1)) i (by rw [hlj1]; exact h2)
      rw [List.getElem?_eq_getElem (by rw [px_len, hlj1]; exact h2)] at this; exact Option.some.inj this
    rw [e, List.getElem_set]
    by_cases hij : j = i
    · subst hij; rw [if_pos rfl, htj1 _ (by omega), hsj]
    · rw [if_neg hij, List.getElem_append_left (by omega)]
      have e2 : (px o (s.take j))[i]'(by omega) = o.getD i 0 ^^^ (s.take j).getD i 0 := by
        have := px_get o (s.take j) i (by rw [hlj]; omega)
        rw [List.getElem?_eq_getElem (by omega)] at this; exact Option.some.inj this
      rw [e2, htj i (by omega), htj1 i (by omega)]
  · rw [if_neg h, List.replicate_zero, List.append_nil]
    have hpl : (px o (s.take j)).length = o.length := by rw [px_len, hlj]; omega
    refine ⟨by rw [px_get o _ j (by omega), hz j (Nat.le_refl _)]; simp, ?_⟩
    apply List.ext_getElem
    · simp [px_len, hlj1, hlj]; omega
    intro i h1 h2
    rw [px_len, hlj1] at h2
    have e : (px o (s.take (j + 1)))[i]'(by rw [px_len, hlj1]; exact h2) = o.getD i 0 ^^^ (s.take (j + 1)).getD i 0 := by
      have := px_get o (s.take (j + 1)) i (by rw [hlj1]; exact h2)
      rw [List.getElem?_eq_getElem (by rw [px_len, hlj1]; exact h2)] at this; exact Option.some.inj this
    rw [e, List.getElem_set]
    by_cases hij : j = i
    · subst hij; rw [if_pos rfl, htj1 _ (by omega), hsj]
    · rw [if_neg hij]
      have e2 : (px o (s.take j))[i]'(by omega) = o.getD i 0 ^^^ (s.take j).getD i 0 := by
        have := px_get o (s.take j) i (by omega)
        rw [List.getElem?_eq_getElem (by omega)] at this; exact Option.some.inj this
      rw [e2]
      by_cases hlt : i < j
      · rw [htj i hlt, htj1 i (by omega)]
      · rw [hz i (by omega), hz1 i (by omega)]
end Go.Proofs.Ytfcppphchicdfaa
