/- Chapter 06: changes of octets; mathematics. -/
import Derived.Test.YtfcppphchicdfaaC06N
namespace Go.Proofs.Ytfcppphchicdfaa
set_option linter.unusedSimpArgs false
set_option linter.unusedVariables false
open Go.RowKit V
/-- the octets of a number, the least one first -/
def leB (X n : Nat) : List UInt8 := (List.range n).map fun q => UInt8.ofNat (X / 256 ^ q)
theorem leB_len (X n : Nat) : (leB X n).length = n := by simp [leB]
theorem leB_succ (X n : Nat) : leB X (n + 1) = UInt8.ofNat X :: leB (X / 256) n := by
  unfold leB
  rw [List.range_succ_eq_map, List.map_cons, List.map_map]
  congr 1
  · simp
  · apply List.map_congr_left
    intro q _
    simp only [Function.comp]
    rw [Nat.div_div_eq_div_mul, Nat.pow_succ, Nat.mul_comm (256 ^ q)]
theorem absorb_le (C : Nat) : ∀ (n r X : Nat), absorb C r (leB X n) = stepn C (8 * n) (r ^^^ (X % 2 ^ (8 * n)))
  | 0, r, X => by simp [leB, absorb, stepn, Nat.mod_one]
  | n + 1, r, X => by
    rw [leB_succ]
    show absorb C (stepn C 8 (r ^^^ (UInt8.ofNat X).toNat)) (leB (X / 256) n) = _
    rw [absorb_le C n]
    have e : X % 2 ^ (8 * (n + 1)) = (2 ^ 8 * (X / 256 % 2 ^ (8 * n))) ^^^ (X % 256) := by
      rw [← add_xor _ _ 8 (Nat.mod_lt _ (by decide)), Nat.mul_add, Nat.mul_one, Nat.add_comm (8 * n), Nat.pow_add, Nat.mod_mul]
      rw [Nat.add_comm]
    rw [e, show 8 * (n + 1) = 8 + 8 * n by omega, stepn_add]
    congr 1
    rw [show r ^^^ ((2 ^ 8 * (X / 256 % 2 ^ (8 * n))) ^^^ (X % 256)) = (r ^^^ (X % 256)) ^^^ (2 ^ 8 * (X / 256 % 2 ^ (8 * n))) by
      rw [Nat.xor_comm (2 ^ 8 * _), Nat.xor_assoc], stepn_xor C 8 (r ^^^ (X % 256)), stepn_shift]
    simp
/-- octets with a number's octets joined -/
def mixZ (s : List UInt8) (X : Nat) : List UInt8 := List.zipWith (· ^^^ ·) s (leB X s.length)
theorem mixZ_len (s : List UInt8) (X : Nat) : (mixZ s X).length = s.length := by simp [mixZ, leB_len]
theorem mixZ_get (s : List UInt8) (X q : Nat) (h : q < s.length) : (mixZ s X)[q]? = some (s[q] ^^^ UInt8.ofNat (X / 256 ^ q)) := by
  unfold mixZ leB
  rw [List.getElem?_zipWith, List.getElem?_eq_getElem h, List.getElem?_map, List.getElem?_range h]
  rfl
theorem mixZ_zero (s : List UInt8) : mixZ s 0 = s := by
  apply List.ext_getElem?
  intro q
  by_cases h : q < s.length
  · rw [mixZ_get s 0 q h, List.getElem?_eq_getElem h, Nat.zero_div]; simp
  · rw [List.getElem?_eq_none (by rw [mixZ_len]; omega), List.getElem?_eq_none (by omega)]
theorem ofNat_pow (p q : Nat) : UInt8.ofNat (2 ^ p / 256 ^ q) = if q = p / 8 then UInt8.ofNat (2 ^ (p % 8)) else 0 := by
  rw [show (256 : Nat) = 2 ^ 8 from rfl, ← Nat.pow_mul]
  rcases Nat.lt_or_ge p (8 * q) with h | h
  · rw [Nat.div_eq_of_lt (Nat.pow_lt_pow_right (by omega) h), if_neg (by omega)]; rfl
  · rw [Nat.pow_div h (by omega)]
    by_cases hq : q = p / 8
    · rw [if_pos hq, show p - 8 * q = p % 8 by omega]
    · rw [if_neg hq]
      obtain ⟨d, hd⟩ : ∃ d, p - 8 * q = d + 8 := ⟨p - 8 * q - 8, by omega⟩
      rw [hd, Nat.pow_add]
      apply UInt8.toNat_inj.1
      simp
theorem mixZ_set (s : List UInt8) (X p : Nat) (h : p < 8 * s.length) (hp : p / 8 < s.length) :
    (mixZ s X).set (p / 8) ((s[p / 8] ^^^ UInt8.ofNat (X / 256 ^ (p / 8))) ^^^ UInt8.ofNat (2 ^ (p % 8))) = mixZ s (X ^^^ 2 ^ p) := by
  apply List.ext_getElem?
  intro q
  by_cases hq : q < s.length
  · rw [mixZ_get s _ q hq, List.getElem?_set]
    have hx : UInt8.ofNat ((X ^^^ 2 ^ p) / 256 ^ q) = UInt8.ofNat (X / 256 ^ q) ^^^ UInt8.ofNat (2 ^ p / 256 ^ q) := by
      rw [show (256 : Nat) = 2 ^ 8 from rfl, ← Nat.pow_mul, xor_div]
      apply UInt8.toNat_inj.1
      rw [UInt8.toNat_xor]
      simp only [UInt8.toNat_ofNat']
      exact xor_mod _ _ 8
    rw [hx, ofNat_pow]
    by_cases e : p / 8 = q
    · subst e
      rw [if_pos rfl, if_pos (by rw [mixZ_len]; exact hq), if_pos rfl, UInt8.xor_assoc]
    · rw [if_neg e, if_neg (fun e' => e e'.symm), mixZ_get s X q hq]; simp
  · rw [List.getElem?_eq_none (by rw [List.length_set, mixZ_len]; omega), List.getElem?_eq_none (by rw [mixZ_len]; omega)]
theorem crc_change (k : Nat) (s : List UInt8) (bit change : Nat) (hc : change < 4294967296) (h0 : change ≠ 0) (hb : bit + 32 ≤ 8 * s.length) : crcL k 0 (mixZ s (2 ^ bit * change)) ≠ crcL k 0 s := by
  intro he
  have hC := crcC_lt k
  have hl1 := absorb_lt hC s (r := 4294967295) (by omega)
  have hl2 := absorb_lt hC (mixZ s (2 ^ bit * change)) (r := 4294967295) (by omega)
  unfold crcL at he
  have hx := absorb_xor (crcC k) s (leB (2 ^ bit * change) s.length) (leB_len _ _).symm 4294967295 0
  rw [Nat.xor_zero] at hx
  have e2 : absorb (crcC k) 4294967295 (mixZ s (2 ^ bit * change)) = absorb (crcC k) 4294967295 s := by
    rw [show 4294967295 - 0 = 4294967295 from rfl] at he; omega
  unfold mixZ at e2
  rw [hx] at e2
  have e3 : absorb (crcC k) 0 (leB (2 ^ bit * change) s.length) = 0 := by
    have := congrArg (absorb (crcC k) 4294967295 s ^^^ ·) e2
    simp only [← Nat.xor_assoc, Nat.xor_self, Nat.zero_xor] at this
    exact this
  rw [absorb_le, Nat.zero_xor, Nat.mod_eq_of_lt] at e3
  · rw [show 8 * s.length = bit + (8 * s.length - bit) by omega, stepn_add, stepn_shift] at e3
    exact h0 (stepn_inj ⟨crcC_top k, hC⟩ _ hc e3)
  · have h1 : 2 ^ bit * change < 2 ^ bit * 2 ^ 32 := (Nat.mul_lt_mul_left (Nat.two_pow_pos bit)).2 hc
    rw [← Nat.pow_add] at h1
    exact Nat.lt_of_lt_of_le h1 (Nat.pow_le_pow_right (by omega) hb)
theorem low_step (bit change i : Nat) (h : change / 2 ^ i % 2 = 1) : (2 ^ bit * (change % 2 ^ i)) ^^^ 2 ^ (bit + i) = 2 ^ bit * (change % 2 ^ (i + 1)) := by
  have h1 : 2 ^ bit * (change % 2 ^ i) < 2 ^ (bit + i) := by rw [Nat.pow_add]; exact (Nat.mul_lt_mul_left (Nat.two_pow_pos bit)).2 (Nat.mod_lt _ (Nat.two_pow_pos i))
  have h2 := add_xor 1 _ (bit + i) h1
  rw [Nat.mul_one] at h2
  rw [Nat.xor_comm, ← h2, Nat.pow_succ, Nat.mod_mul, h, Nat.mul_one, Nat.mul_add, Nat.pow_add, Nat.add_comm]
theorem low_keep (change i : Nat) (h : ¬ change / 2 ^ i % 2 = 1) : change % 2 ^ (i + 1) = change % 2 ^ i := by
  have : change / 2 ^ i % 2 = 0 := by omega
  rw [Nat.pow_succ, Nat.mod_mul, this]; simp
/-- the parity of three strings of one length -/
theorem par_three (s t u : ByteArray) (h1 : s.size = t.size) (h2 : t.size = u.size) : (parB [s, t, u]).data.toList = List.zipWith (· ^^^ ·) (List.zipWith (· ^^^ ·) s.data.toList t.data.toList) u.data.toList := by
  unfold parB
  rw [mk_toList]
  have hm : mxl (tls [s, t, u]) = s.size := by simp [mxl, tls]; omega
  apply List.ext_getElem?
  intro i
  by_cases h : i < s.size
  · have l1 : i < s.data.toList.length := by rw [toList_len]; exact h
    have l2 : i < t.data.toList.length := by rw [toList_len]; omega
    have l3 : i < u.data.toList.length := by rw [toList_len]; omega
    rw [parL, hm, List.getElem?_map, List.getElem?_range h]
    simp only [List.getElem?_zipWith, List.getElem?_eq_getElem l1, List.getElem?_eq_getElem l2, List.getElem?_eq_getElem l3, Option.map_some]
    simp only [colx, tls, List.map_cons, List.map_nil, List.foldl_cons, List.foldl_nil, List.getD_eq_getElem?_getD, List.getElem?_eq_getElem l1, List.getElem?_eq_getElem l2, List.getElem?_eq_getElem l3, Option.getD_some]
    simp
  · rw [List.getElem?_eq_none (by rw [parL_len, hm]; omega), List.getElem?_eq_none (by simp only [List.length_zipWith, toList_len]; omega)]
end Go.Proofs.Ytfcppphchicdfaa
