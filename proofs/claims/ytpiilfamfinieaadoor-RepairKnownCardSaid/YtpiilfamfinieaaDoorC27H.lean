/- Chapter 27: octets joined, covers; mathematics. -/
import Derived.Test.YtpiilfamfinieaaDoorC27F
namespace Go.Proofs.YtpiilfamfinieaaDoor
set_option linter.unusedSimpArgs false
set_option linter.unusedVariables false
open Go.RowKit V
/-- octets joined, the shorter continued by zeros -/
def px (o s : List UInt8) : List UInt8 := (List.range (max o.length s.length)).map fun i => o.getD i 0 ^^^ s.getD i 0
theorem px_len (o s : List UInt8) : (px o s).length = max o.length s.length := by simp [px]
theorem px_get (o s : List UInt8) (i : Nat) (h : i < max o.length s.length) : (px o s)[i]? = some (o.getD i 0 ^^^ s.getD i 0) := by
  rw [px, List.getElem?_map, List.getElem?_range h]; rfl
theorem getD_out (l : List UInt8) (i : Nat) (h : l.length ≤ i) : l.getD i 0 = 0 := by
  rw [List.getD_eq_getElem?_getD, List.getElem?_eq_none h]; rfl
theorem px_getD (o s : List UInt8) (i : Nat) : (px o s).getD i 0 = o.getD i 0 ^^^ s.getD i 0 := by
  by_cases h : i < max o.length s.length
  · rw [List.getD_eq_getElem?_getD, px_get o s i h]; rfl
  · rw [getD_out _ _ (by rw [px_len]; omega), getD_out o i (by omega), getD_out s i (by omega)]; rfl
theorem list_ext0 {a b : List UInt8} (hl : a.length = b.length) (h : ∀ i, a.getD i 0 = b.getD i 0) : a = b := by
  apply List.ext_getElem hl
  intro i h1 h2
  have := h i
  rw [List.getD_eq_getElem?_getD, List.getD_eq_getElem?_getD, List.getElem?_eq_getElem h1, List.getElem?_eq_getElem h2] at this
  exact this
theorem px_nil (o : List UInt8) : px o [] = o := list_ext0 (by rw [px_len]; simp) fun i => by rw [px_getD]; simp
theorem nil_px (o : List UInt8) : px [] o = o := list_ext0 (by rw [px_len]; simp) fun i => by rw [px_getD]; simp
theorem px_assoc (a b c : List UInt8) : px (px a b) c = px a (px b c) := list_ext0 (by simp only [px_len]; omega) fun i => by simp only [px_getD]; exact UInt8.xor_assoc ..
theorem px_comm (a b : List UInt8) : px a b = px b a := list_ext0 (by simp only [px_len]; omega) fun i => by simp only [px_getD]; exact UInt8.xor_comm ..
/-- the form of a packet -/
def formL (p : List UInt8) : List UInt8 := UInt8.ofNat (p.length / 256) :: UInt8.ofNat p.length :: p
theorem formL_len (p : List UInt8) : (formL p).length = p.length + 2 := rfl
/-- the first j octets are joined -/
def mixJ (b f : List UInt8) (j : Nat) : List UInt8 := (List.range (max b.length f.length)).map fun i => b.getD i 0 ^^^ (if i < j then f.getD i 0 else 0)
theorem mixJ_len (b f : List UInt8) (j : Nat) : (mixJ b f j).length = max b.length f.length := by simp [mixJ]
theorem mixJ_zero (b f : List UInt8) : mixJ b f 0 = b ++ List.replicate (f.length - b.length) 0 := by
  apply list_ext0
  · rw [mixJ_len, List.length_append, List.length_replicate]; omega
  · intro i
    by_cases h : i < max b.length f.length
    · rw [mixJ, List.getD_eq_getElem?_getD, List.getElem?_map, List.getElem?_range h]
      simp only [Nat.not_lt_zero, if_false, Option.map_some, Option.getD_some, UInt8.xor_zero]
      rw [List.getD_eq_getElem?_getD, List.getD_eq_getElem?_getD]
      by_cases hb : i < b.length
      · rw [List.getElem?_append_left hb]
      · rw [List.getElem?_append_right (by omega), List.getElem?_eq_none (by omega), List.getElem?_replicate]
        split <;> rfl
    · rw [getD_out _ _ (by rw [mixJ_len]; omega), getD_out _ _ (by rw [List.length_append, List.length_replicate]; omega)]
theorem mixJ_all (b f : List UInt8) (j : Nat) (h : f.length ≤ j) : mixJ b f j = px b f := by
  apply list_ext0
  · rw [mixJ_len, px_len]
  · intro i
    rw [px_getD]
    by_cases h' : i < max b.length f.length
    · rw [mixJ, List.getD_eq_getElem?_getD, List.getElem?_map, List.getElem?_range h']
      simp only [Option.map_some, Option.getD_some]
      congr 1
      split
      · rfl
      · rw [getD_out f i (by omega)]
    · rw [getD_out _ _ (by rw [mixJ_len]; omega), getD_out b i (by omega), getD_out f i (by omega)]; rfl
theorem mixJ_get (b f : List UInt8) (j : Nat) (h : j < f.length) : (mixJ b f j)[j]? = some (b.getD j 0) := by
  rw [mixJ, List.getElem?_map, List.getElem?_range (by omega)]
  simp
theorem mixJ_set (b f : List UInt8) (j : Nat) (h : j < f.length) : (mixJ b f j).set j (b.getD j 0 ^^^ f.getD j 0) = mixJ b f (j + 1) := by
  apply List.ext_getElem?
  intro i
  rw [List.getElem?_set]
  by_cases e : j = i
  · subst e
    rw [if_pos rfl, if_pos (by rw [mixJ_len]; omega), mixJ, List.getElem?_map, List.getElem?_range (by omega)]
    simp
  · rw [if_neg e]
    by_cases h' : i < max b.length f.length
    · rw [mixJ, mixJ, List.getElem?_map, List.getElem?_map, List.getElem?_range h']
      have : (i < j ↔ i < j + 1) := by omega
      simp [this]
    · rw [List.getElem?_eq_none (by rw [mixJ_len]; omega), List.getElem?_eq_none (by rw [mixJ_len]; omega)]
/-- the octets of a line's packets, but for one place: of the first k places -/
def covN (r c l : Nat) (but : Int) (L : List ByteArray) : Nat → List UInt8
  | 0 => []
  | k + 1 => if (onL r c l k && decide ((k : Int) ≠ but)) = true then px (covN r c l but L k) (formL ((L.getD k ⟨#[]⟩).data.toList)) else covN r c l but L k
theorem covN_len (r c l : Nat) (but : Int) (L : List ByteArray) (B : Nat) (hB : ∀ x ∈ L, x.size ≤ B) : ∀ k, (covN r c l but L k).length ≤ B + 2
  | 0 => by simp [covN]
  | k + 1 => by
    have ih := covN_len r c l but L B hB k
    rw [covN]
    split
    · rw [px_len, formL_len]
      have : ((L.getD k ⟨#[]⟩).data.toList).length ≤ B := by
        rw [toList_len, List.getD_eq_getElem?_getD]
        cases h : L[k]? with
        | none => exact Nat.zero_le _
        | some x => exact hB x (List.mem_of_getElem? h)
      omega
    · exact ih
def coverB (r c l : Nat) (L : List ByteArray) : ByteArray := ⟨(covN r c l (-1) L L.length).toArray⟩
def coversB (r c : Nat) (L : List ByteArray) : List ByteArray := (List.range (r + c)).map fun l => coverB r c l L
end Go.Proofs.YtpiilfamfinieaaDoor
