/- Plain facts on bytes, strings, lists as cells. Own work. -/
import Derived.Test.YtejphmgpndgliaaX
import Derived.Test.YtejphmgpndgliaaR
namespace Go.Proofs.Ytejphmgpndgliaa
set_option linter.unusedSimpArgs false
set_option linter.unusedVariables false
open Go.RowKit V

theorem bytesV_len (l : List UInt8) : (bytesV l).length = l.length := by simp [bytesV]
theorem bytesV_get {l : List UInt8} {i : Nat} {b : UInt8} (h : l[i]? = some b) : (bytesV l)[i]? = some (.int .u8 (b.toNat : Nat)) := by simp [bytesV, h]
theorem bytesV_app (a b : List UInt8) : bytesV (a ++ b) = bytesV a ++ bytesV b := by simp [bytesV]
theorem bytesV_set (l : List UInt8) (zs : List Value) (i : Nat) (b : UInt8) (h : i < l.length) : (bytesV l ++ zs).set i (.int .u8 (b.toNat : Nat)) = bytesV (l.set i b) ++ zs := by
  rw [List.set_append_left _ _ (by rw [bytesV_len]; exact h)]
  simp [bytesV, List.map_set]
theorem one_bytes (l : List UInt8) : ∀ u ∈ bytesV l, u.oneCell' = true := by intro u hu; obtain ⟨x, _, rfl⟩ := List.mem_map.1 hu; rfl
theorem byt_mk (l : List UInt8) (i : Nat) : byt ⟨l.toArray⟩ i = (l.getD i 0).toNat := rfl
theorem mk_toList (l : List UInt8) : (⟨l.toArray⟩ : ByteArray).data.toList = l := by simp
theorem toList_mk (s : ByteArray) : (⟨s.data.toList.toArray⟩ : ByteArray) = s := by cases s; simp
theorem bA_size (l : List UInt8) : (⟨l.toArray⟩ : ByteArray).size = l.length := rfl
theorem toList_len (s : ByteArray) : s.data.toList.length = s.size := by simp
theorem bA_append (a b : List UInt8) : (⟨a.toArray⟩ : ByteArray) ++ ⟨b.toArray⟩ = ⟨(a ++ b).toArray⟩ := by
  apply ByteArray.ext; simp [ByteArray.data_append]
theorem app_toList (s t : ByteArray) : (s ++ t).data.toList = s.data.toList ++ t.data.toList := by simp [ByteArray.data_append]
theorem ext_toList (s : ByteArray) (a b : Nat) : (s.extract a b).data.toList = (s.data.toList.take b).drop a := by
  rw [ByteArray.data_extract, Array.toList_extract, List.extract_eq_take_drop, List.drop_take]
theorem ba_eq {s t : ByteArray} (h : s.data.toList = t.data.toList) : s = t := by
  cases s; cases t; simp at h; simp [h]
theorem byt_at (s : ByteArray) (i : Nat) (h : i < s.data.toList.length) : byt s i = (s.data.toList[i]).toNat := by
  show (s.data.toList.getD i 0).toNat = _
  rw [List.getD_eq_getElem?_getD, List.getElem?_eq_getElem h]; rfl
theorem u8_of (n : Nat) : ((UInt8.ofNat n).toNat : Int) = (n : Int) % 256 := by simp
def cutn (s : ByteArray) (n : Nat) : ByteArray := s.extract 0 (min s.size n)
theorem cutn_size (s : ByteArray) (n : Nat) : (cutn s n).size ≤ n := by unfold cutn; rw [size_extract _ _ _ (by omega)]; omega
theorem cutn_le (s : ByteArray) (n : Nat) : (cutn s n).size ≤ s.size := by unfold cutn; rw [size_extract _ _ _ (by omega)]; omega
/-- numbers as cells, of a kind -/
def kw (k : IntKind) (ws : List Nat) : List Value := ws.map fun x => .int k (x : Nat)
theorem kw_len (k : IntKind) (ws : List Nat) : (kw k ws).length = ws.length := by simp [kw]
theorem kw_get {k : IntKind} {ws : List Nat} {i x : Nat} (h : ws[i]? = some x) : (kw k ws)[i]? = some (.int k (x : Nat)) := by simp [kw, h]
theorem kw_set (k : IntKind) (ws : List Nat) (i x : Nat) : (kw k ws).set i (.int k (x : Nat)) = kw k (ws.set i x) := by simp [kw, List.map_set]
theorem kw_app (k : IntKind) (a b : List Nat) : kw k (a ++ b) = kw k a ++ kw k b := by simp [kw]
theorem kw_one (k : IntKind) (ws : List Nat) : ∀ u ∈ kw k ws, u.oneCell' = true := by intro u hu; obtain ⟨x, _, rfl⟩ := List.mem_map.1 hu; rfl
/-- Bools as cells -/
def bw (ws : List Bool) : List Value := ws.map .bool
theorem bw_len (ws : List Bool) : (bw ws).length = ws.length := by simp [bw]
theorem bw_get {ws : List Bool} {i : Nat} {x : Bool} (h : ws[i]? = some x) : (bw ws)[i]? = some (.bool x) := by simp [bw, h]
theorem bw_set (ws : List Bool) (i : Nat) (x : Bool) : (bw ws).set i (.bool x) = bw (ws.set i x) := by simp [bw, List.map_set]
theorem bw_app (a b : List Bool) : bw (a ++ b) = bw a ++ bw b := by simp [bw]
theorem bw_one (ws : List Bool) : ∀ u ∈ bw ws, u.oneCell' = true := by intro u hu; obtain ⟨x, _, rfl⟩ := List.mem_map.1 hu; rfl
/-- strings as cells -/
def sw (ws : List ByteArray) : List Value := ws.map .string
theorem sw_len (ws : List ByteArray) : (sw ws).length = ws.length := by simp [sw]
theorem sw_get {ws : List ByteArray} {i : Nat} {x : ByteArray} (h : ws[i]? = some x) : (sw ws)[i]? = some (.string x) := by simp [sw, h]
theorem sw_set (ws : List ByteArray) (i : Nat) (x : ByteArray) : (sw ws).set i (.string x) = sw (ws.set i x) := by simp [sw, List.map_set]
theorem sw_app (a b : List ByteArray) : sw (a ++ b) = sw a ++ sw b := by simp [sw]
theorem sw_one (ws : List ByteArray) : ∀ u ∈ sw ws, u.oneCell' = true := by intro u hu; obtain ⟨x, _, rfl⟩ := List.mem_map.1 hu; rfl
theorem app_get {α : Type} {a b : List α} {i : Nat} {x : α} (h : a[i]? = some x) : (a ++ b)[i]? = some x := by
  rw [List.getElem?_append_left (List.getElem?_eq_some_iff.1 h).1]; exact h
theorem app_set {α : Type} (a b : List α) (i : Nat) (x : α) (h : i < a.length) : (a ++ b).set i x = a.set i x ++ b := List.set_append_left _ _ h
theorem take_snoc {α : Type} {l : List α} {j : Nat} {x : α} (h : l[j]? = some x) : l.take (j + 1) = l.take j ++ [x] := by rw [List.take_add_one, h]; rfl
end Go.Proofs.Ytejphmgpndgliaa
