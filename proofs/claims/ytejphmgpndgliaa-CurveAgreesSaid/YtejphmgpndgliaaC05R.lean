/- Chapter 05: octets and digits; mathematics. -/
import Derived.Test.YtejphmgpndgliaaC05Q
namespace Go.Proofs.Ytejphmgpndgliaa
set_option linter.unusedSimpArgs false
set_option linter.unusedVariables false
theorem dig_bit (w : Nat) (hw : 0 < w) (n M j t : Nat) (h : j < n) : ((digB (2 ^ w) n M).getD j 0).testBit t = (decide (t < w) && M.testBit (w * j + t)) := by
  rw [List.getD_eq_getElem?_getD, digB_get _ n M j h, Option.getD_some, Nat.testBit_mod_two_pow, ← Nat.pow_mul, Nat.testBit_div_two_pow, Nat.add_comm]
theorem dig_ext (w : Nat) (hw : 0 < w) (n M : Nat) (l : List Nat) (hl : l.length = n) (h : ∀ j < n, ∀ t, (l.getD j 0).testBit t = (decide (t < w) && M.testBit (w * j + t))) : l = digB (2 ^ w) n M := by
  apply List.ext_getElem?
  intro j
  by_cases hj : j < n
  · have e : l.getD j 0 = (digB (2 ^ w) n M).getD j 0 := Nat.eq_of_testBit_eq fun t => by rw [h j hj, dig_bit w hw n M j t hj]
    rw [List.getD_eq_getElem?_getD, List.getD_eq_getElem?_getD, List.getElem?_eq_getElem (by omega), List.getElem?_eq_getElem (by rw [digB_len]; omega)] at e
    rw [List.getElem?_eq_getElem (by omega), List.getElem?_eq_getElem (by rw [digB_len]; omega)]
    exact congrArg some e
  · rw [List.getElem?_eq_none (by omega), List.getElem?_eq_none (by rw [digB_len]; omega)]
/-- a bit more: its digit grows -/
theorem dig_or (w : Nat) (hw : 0 < w) (n M i : Nat) (h : i < w * n) : (digB (2 ^ w) n (M % 2 ^ i)).set (i / w) ((digB (2 ^ w) n (M % 2 ^ i)).getD (i / w) 0 ||| (if M.testBit i = true then 2 ^ (i % w) else 0)) = digB (2 ^ w) n (M % 2 ^ (i + 1)) := by
  have hd := Nat.div_add_mod i w
  have hm := Nat.mod_lt i hw
  have hq : i / w < n := Nat.div_lt_of_lt_mul h
  refine dig_ext w hw n _ _ (by rw [List.length_set, digB_len]) fun j hj t => ?_
  rw [Nat.testBit_mod_two_pow, List.getD_eq_getElem?_getD, List.getElem?_set]
  by_cases e : i / w = j
  · subst e
    rw [if_pos rfl, if_pos (by rw [digB_len]; exact hj), Option.getD_some, Nat.testBit_or, dig_bit w hw n _ _ t hj, Nat.testBit_mod_two_pow]
    have hbit : (if M.testBit i = true then 2 ^ (i % w) else 0).testBit t = (M.testBit i && decide (i % w = t)) := by
      split
      · rename_i hb; rw [Nat.testBit_two_pow, hb, Bool.true_and]
      · rename_i hb; rw [Nat.zero_testBit]; simp [hb]
    rw [hbit]
    by_cases ht : t = i % w
    · subst ht
      rw [hd]
      simp [hm]
    · have h1 : (i % w = t) = False := by simp; omega
      have h2 : (w * (i / w) + t < i + 1) = (w * (i / w) + t < i) := by apply propext; omega
      simp [h1, h2]
  · rw [if_neg e, ← List.getD_eq_getElem?_getD, dig_bit w hw n _ _ t hj, Nat.testBit_mod_two_pow]
    by_cases ht : t < w
    · have h2 : (w * j + t < i + 1) = (w * j + t < i) := by
        apply propext
        constructor
        · intro h3
          rcases Nat.lt_or_ge (w * j + t) i with h4 | h4
          · exact h4
          · exfalso
            have h5 : w * j + t = i := by omega
            apply e
            rw [← h5, Nat.mul_add_div hw, Nat.div_eq_of_lt ht, Nat.add_zero]
        · intro h3; omega
      simp only [h2]
    · simp [ht]
def bytesN (s : List UInt8) : Nat := valB 256 (s.map UInt8.toNat)
def le32 (n : Nat) : List UInt8 := (digB 256 32 n).map UInt8.ofNat
theorem le32_len (n : Nat) : (le32 n).length = 32 := by unfold le32; rw [List.length_map, digB_len]
theorem bytesN_lt (s : List UInt8) : bytesN s < 256 ^ s.length := by
  have := valB_lt 256 (by decide) (s.map UInt8.toNat) (fun x hx => by obtain ⟨u, _, rfl⟩ := List.mem_map.1 hx; exact u.toNat_lt)
  rwa [List.length_map] at this
theorem bytes_dig (s : List UInt8) : s.map UInt8.toNat = digB 256 s.length (bytesN s) := by
  have := digB_of 256 (by decide) (s.map UInt8.toNat) (fun x hx => by obtain ⟨u, _, rfl⟩ := List.mem_map.1 hx; exact u.toNat_lt)
  rwa [List.length_map] at this
theorem bytes_bit (s : List UInt8) (i : Nat) (h : i < 8 * s.length) : (bytesN s).testBit i = ((s.getD (i / 8) 0).toNat).testBit (i % 8) := by
  have hq : i / 8 < s.length := by omega
  have hb := dig_bit 8 (by decide) s.length (bytesN s) (i / 8) (i % 8) hq
  rw [show (2 : Nat) ^ 8 = 256 from rfl, ← bytes_dig, show 8 * (i / 8) + i % 8 = i by omega, decide_eq_true (Nat.mod_lt _ (by decide)), Bool.true_and] at hb
  rw [← hb, List.getD_eq_getElem?_getD, List.getElem?_map, List.getD_eq_getElem?_getD, List.getElem?_eq_getElem hq]
  rfl
theorem le32_bytes (s : List UInt8) (h : s.length = 32) : le32 (bytesN s) = s := by
  unfold le32
  rw [← h, ← bytes_dig, List.map_map]
  have : (UInt8.ofNat ∘ UInt8.toNat) = id := funext fun u => by simp
  rw [this, List.map_id]
theorem bytes_le32 (n : Nat) (h : n < W6) : bytesN (le32 n) = n := by
  have hd := digB_val 256 32 n
  have hl : (le32 n).map UInt8.toNat = digB 256 32 n := by
    unfold le32
    rw [List.map_map]
    conv => rhs; rw [← List.map_id (digB 256 32 n)]
    apply List.map_congr_left
    intro x hx
    have := digB_lt 256 (by decide) 32 n x hx
    simp
    omega
  unfold bytesN
  rw [hl, hd]
  exact Nat.mod_eq_of_lt h
theorem le32_inj {a b : Nat} (ha : a < W6) (hb : b < W6) (h : le32 a = le32 b) : a = b := by rw [← bytes_le32 a ha, ← bytes_le32 b hb, h]
/-- digits to the base 65536 are pairs of octets -/
theorem dig_pair : ∀ (n k : Nat), (digB 65536 n k).flatMap (fun x => [x % 256, x / 256]) = digB 256 (2 * n) k
  | 0, _ => rfl
  | n + 1, k => by
    rw [show 2 * (n + 1) = 2 * n + 1 + 1 by omega, digB, digB, digB, List.flatMap_cons, dig_pair n]
    have h1 : k % 65536 % 256 = k % 256 := by omega
    have h2 : k % 65536 / 256 = k / 256 % 256 := by omega
    have h3 : k / 65536 = k / 256 / 256 := by omega
    rw [h1, h2, h3]
    rfl
end Go.Proofs.Ytejphmgpndgliaa
