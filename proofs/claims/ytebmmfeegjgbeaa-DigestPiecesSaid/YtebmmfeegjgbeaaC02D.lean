/- Chapter 02: the program's constants. -/
import Derived.Test.YtebmmfeegjgbeaaC02C
namespace Go.Proofs.Ytebmmfeegjgbeaa
set_option linter.unusedSimpArgs false
set_option linter.unusedVariables false
open Go.RowKit V
set_option maxRecDepth 100000
def isP (p : Nat) : Bool := (List.range 17).all fun i => !(decide ((i + 2) * (i + 2) ≤ p)) || decide (p % (i + 2) ≠ 0)
def tri (p : Nat) : Nat → Bool
  | 0 => true
  | j + 1 => tri p j && decide (p % (j + 2) ≠ 0)
theorem tri_iff (p : Nat) : ∀ j, tri p j = true ↔ ∀ i, i < j → p % (i + 2) ≠ 0
  | 0 => by simp [tri]
  | j + 1 => by
    rw [tri, Bool.and_eq_true, tri_iff p j, decide_eq_true_eq]
    constructor
    · rintro ⟨h1, h2⟩ i hi
      rcases Nat.lt_or_ge i j with h | h
      · exact h1 i h
      · obtain rfl : i = j := by omega
        exact h2
    · exact fun h => ⟨fun i hi => h i (by omega), h j (by omega)⟩
theorem tri_isP (p j : Nat) (hp : p ≤ 312) (h1 : ∀ i, i < j → (i + 2) * (i + 2) ≤ p) (h2 : p < (j + 2) * (j + 2)) : tri p j = isP p := by
  rw [Bool.eq_iff_iff, tri_iff]
  unfold isP
  rw [List.all_eq_true]
  simp only [List.mem_range, Bool.or_eq_true, Bool.not_eq_true', decide_eq_false_iff_not, decide_eq_true_eq]
  constructor
  · intro h i _
    rcases Nat.lt_or_ge i j with hi | hi
    · exact .inr (h i hi)
    · left
      have := Nat.mul_le_mul (show j + 2 ≤ i + 2 by omega) (show j + 2 ≤ i + 2 by omega)
      omega
  · intro h i hi
    have h3 := h1 i hi
    have hi17 : i < 17 := by
      rcases Nat.lt_or_ge i 17 with h | h
      · exact h
      · have := Nat.mul_le_mul (show 19 ≤ i + 2 by omega) (show 19 ≤ i + 2 by omega)
        omega
    rcases h i hi17 with h | h
    · omega
    · exact h
def tabJ : Nat → Nat × List Nat × List Nat
  | 0 => (0, List.replicate 64 0, List.replicate 8 0)
  | i + 1 => if isP (i + 2) = true then ((tabJ i).1 + 1, (tabJ i).2.1.set (tabJ i).1 (frN (cubE (i + 2))), if (tabJ i).1 < 8 then (tabJ i).2.2.set (tabJ i).1 (frN (sqrE (i + 2))) else (tabJ i).2.2) else tabJ i
theorem tab_len : ∀ i, (tabJ i).2.1.length = 64 ∧ (tabJ i).2.2.length = 8
  | 0 => by decide
  | i + 1 => by
    obtain ⟨h1, h2⟩ := tab_len i
    rw [tabJ]
    split
    · refine ⟨by rw [List.length_set]; exact h1, ?_⟩
      show (if (tabJ i).1 < 8 then _ else _ : List Nat).length = 8
      split
      · rw [List.length_set]; exact h2
      · exact h2
    · exact ⟨h1, h2⟩
def KL : List Nat := [1116352408, 1899447441, 3049323471, 3921009573, 961987163, 1508970993, 2453635748, 2870763221, 3624381080, 310598401, 607225278, 1426881987, 1925078388, 2162078206, 2614888103, 3248222580, 3835390401, 4022224774, 264347078, 604807628, 770255983, 1249150122, 1555081692, 1996064986, 2554220882, 2821834349, 2952996808, 3210313671, 3336571891, 3584528711, 113926993, 338241895, 666307205, 773529912, 1294757372, 1396182291, 1695183700, 1986661051, 2177026350, 2456956037, 2730485921, 2820302411, 3259730800, 3345764771, 3516065817, 3600352804, 4094571909, 275423344, 430227734, 506948616, 659060556, 883997877, 958139571, 1322822218, 1537002063, 1747873779, 1955562222, 2024104815, 2227730452, 2361852424, 2428436474, 2756734187, 3204031479, 3329325298]
def SL : List Nat := [1779033703, 3144134277, 1013904242, 2773480762, 1359893119, 2600822924, 528734635, 1541459225]
theorem tab_cnt : ∀ i, i < 310 → (tabJ i).1 < 64 := by decide +kernel
theorem tab_end : tabJ 310 = (64, KL, SL) := by decide +kernel
theorem SL_W8 : W8 SL := by
  refine ⟨rfl, ?_⟩
  decide
theorem KL_len : KL.length = 64 := rfl
theorem KL_lt : ∀ x ∈ KL, x < M32 := by decide +kernel
end Go.Proofs.Ytebmmfeegjgbeaa
