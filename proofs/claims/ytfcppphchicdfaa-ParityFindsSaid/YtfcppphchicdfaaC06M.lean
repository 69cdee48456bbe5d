/- Checks: the plain mathematics. No program. Own work. -/
import Derived.Test.YtfcppphchicdfaaQ
namespace Go.Proofs.Ytfcppphchicdfaa
set_option linter.unusedSimpArgs false
set_option linter.unusedVariables false
open Go.RowKit V

/-! ### bits -/
theorem xor_mod (a b n : Nat) : (a ^^^ b) % 2 ^ n = (a % 2 ^ n) ^^^ (b % 2 ^ n) := Nat.xor_mod_two_pow
theorem xor_div (a b n : Nat) : (a ^^^ b) / 2 ^ n = (a / 2 ^ n) ^^^ (b / 2 ^ n) := by
  rw [← Nat.shiftRight_eq_div_pow, Nat.shiftRight_xor_distrib, Nat.shiftRight_eq_div_pow, Nat.shiftRight_eq_div_pow]
theorem add_xor (q r n : Nat) (h : r < 2 ^ n) : 2 ^ n * q + r = (2 ^ n * q) ^^^ r := by
  apply Nat.eq_of_testBit_eq
  intro j
  rw [Nat.testBit_xor, Nat.testBit_two_pow_mul_add _ h, Nat.testBit_two_pow_mul]
  by_cases hj : j < n
  · rw [if_pos hj]; simp [show ¬ j ≥ n by omega]
  · rw [if_neg hj]
    have : r.testBit j = false := Nat.testBit_lt_two_pow (Nat.lt_of_lt_of_le h (Nat.pow_le_pow_right (by omega) (by omega)))
    simp [this, show j ≥ n by omega]
theorem xor_lt32 {a b : Nat} (ha : a < 4294967296) (hb : b < 4294967296) : a ^^^ b < 4294967296 := Nat.xor_lt_two_pow (n := 32) ha hb
theorem not32 (a : Nat) (h : a < 4294967296) : a ^^^ 4294967295 = 4294967295 - a := by
  apply Nat.eq_of_testBit_eq
  intro j
  rw [Nat.testBit_xor, show (4294967295 : Nat) = 2 ^ 32 - 1 from rfl, Nat.testBit_two_pow_sub_one]
  have e : 2 ^ 32 - 1 - a = 2 ^ 32 - (a + 1) := by omega
  rw [e, Nat.testBit_two_pow_sub_succ (by simpa using h)]
  by_cases hj : j < 32
  · simp [hj]
  · have : a.testBit j = false := Nat.testBit_lt_two_pow (Nat.lt_of_lt_of_le h (show 2 ^ 32 ≤ 2 ^ j from Nat.pow_le_pow_right (by omega) (by omega)))
    simp [hj, this]

/-! ### steps -/
def crcC (k : Nat) : Nat := if k = 2 then 2197175160 else 3988292384
theorem crcC_lt (k : Nat) : crcC k < 4294967296 := by unfold crcC; split <;> omega
theorem crcC_top (k : Nat) : 2147483648 ≤ crcC k := by unfold crcC; split <;> omega
def step (C x : Nat) : Nat := if x % 2 = 1 then x / 2 ^^^ C else x / 2
theorem step_lt {C x : Nat} (hC : C < 4294967296) (h : x < 4294967296) : step C x < 4294967296 := by
  unfold step; split
  · exact xor_lt32 (by omega) hC
  · omega
theorem step_xor (C a b : Nat) : step C (a ^^^ b) = step C a ^^^ step C b := by
  have hm := xor_mod a b 1
  have hd := xor_div a b 1
  rw [show (2 : Nat) ^ 1 = 2 from rfl] at hm hd
  unfold step
  rw [hm, hd]
  rcases Nat.mod_two_eq_zero_or_one a with ha | ha <;> rcases Nat.mod_two_eq_zero_or_one b with hb | hb <;> rw [ha, hb] <;> simp
  · rw [Nat.xor_assoc]
  · rw [Nat.xor_assoc, Nat.xor_assoc]; congr 1; rw [Nat.xor_comm]
  · rw [Nat.xor_assoc, Nat.xor_comm C (b / 2 ^^^ C), Nat.xor_assoc, Nat.xor_self, Nat.xor_zero]
def stepn (C : Nat) : Nat → Nat → Nat
  | 0, x => x
  | n + 1, x => stepn C n (step C x)
theorem stepn_xor (C : Nat) : ∀ n a b, stepn C n (a ^^^ b) = stepn C n a ^^^ stepn C n b
  | 0, _, _ => rfl
  | n + 1, a, b => by simp only [stepn]; rw [step_xor, stepn_xor C n]
theorem stepn_lt {C : Nat} (hC : C < 4294967296) : ∀ n {x}, x < 4294967296 → stepn C n x < 4294967296
  | 0, _, h => h
  | n + 1, _, h => stepn_lt hC n (step_lt hC h)
theorem stepn_add (C : Nat) : ∀ m n x, stepn C (m + n) x = stepn C n (stepn C m x)
  | 0, n, x => by rw [Nat.zero_add]; rfl
  | m + 1, n, x => by rw [Nat.add_right_comm]; exact stepn_add C m n (step C x)
theorem stepn_succ (C n x : Nat) : stepn C (n + 1) x = step C (stepn C n x) := stepn_add C n 1 x
theorem stepn_zero (C : Nat) : ∀ n, stepn C n 0 = 0
  | 0 => rfl
  | n + 1 => by rw [stepn, show step C 0 = 0 from rfl, stepn_zero C n]
theorem step_even (C y : Nat) : step C (2 * y) = y := by unfold step; rw [if_neg (by omega)]; omega
theorem stepn_shift (C : Nat) : ∀ n y, stepn C n (2 ^ n * y) = y
  | 0, y => by simp [stepn]
  | n + 1, y => by
    rw [stepn, show 2 ^ (n + 1) * y = 2 * (2 ^ n * y) by rw [Nat.pow_succ, Nat.mul_comm (2 ^ n) 2, Nat.mul_assoc], step_even]; exact stepn_shift C n y
theorem step_inj {C x : Nat} (hC : 2147483648 ≤ C ∧ C < 4294967296) (h : x < 4294967296) (h0 : step C x = 0) : x = 0 := by
  unfold step at h0
  split at h0
  · exfalso
    have e : x / 2 = C := by rw [← Nat.xor_zero (x / 2), ← Nat.xor_self C, ← Nat.xor_assoc, h0, Nat.zero_xor]
    omega
  · omega
theorem stepn_inj {C : Nat} (hC : 2147483648 ≤ C ∧ C < 4294967296) : ∀ n {x}, x < 4294967296 → stepn C n x = 0 → x = 0
  | 0, _, _, h => h
  | n + 1, _, hx, h => step_inj hC hx (stepn_inj hC n (step_lt hC.2 hx) h)
theorem step8 (C x b : Nat) (hb : b < 256) : stepn C 8 (x ^^^ b) = (x / 256) ^^^ stepn C 8 ((x % 256) ^^^ b) := by
  have e : x = (2 ^ 8 * (x / 256)) ^^^ (x % 256) := by rw [← add_xor _ _ 8 (Nat.mod_lt _ (by omega))]; omega
  have e2 : x ^^^ b = (2 ^ 8 * (x / 256)) ^^^ ((x % 256) ^^^ b) := by rw [← Nat.xor_assoc, ← e]
  rw [e2, stepn_xor, stepn_shift]

/-! ### octets into a register -/
def absorb (C : Nat) (r : Nat) (s : List UInt8) : Nat := s.foldl (fun r b => stepn C 8 (r ^^^ b.toNat)) r
theorem u8_lt32 (b : UInt8) : b.toNat < 4294967296 := by have := b.toNat_lt; omega
theorem absorb_lt {C : Nat} (hC : C < 4294967296) : ∀ (s : List UInt8) {r : Nat}, r < 4294967296 → absorb C r s < 4294967296
  | [], _, h => h
  | b :: s, _, h => absorb_lt hC s (stepn_lt hC 8 (xor_lt32 h (u8_lt32 b)))
theorem absorb_app (C r : Nat) (s t : List UInt8) : absorb C r (s ++ t) = absorb C (absorb C r s) t := by simp [absorb]
theorem absorb_xor (C : Nat) : ∀ (s t : List UInt8), s.length = t.length → ∀ (r q : Nat), absorb C (r ^^^ q) (List.zipWith (· ^^^ ·) s t) = absorb C r s ^^^ absorb C q t
  | [], [], _, _, _ => rfl
  | b :: s, d :: t, h, r, q => by
    simp only [List.zipWith_cons_cons, absorb, List.foldl_cons]
    have := absorb_xor C s t (by simpa using h) (stepn C 8 (r ^^^ b.toNat)) (stepn C 8 (q ^^^ d.toNat))
    rw [← stepn_xor] at this
    rw [← absorb, ← absorb, ← absorb, ← this]
    congr 2
    rw [UInt8.toNat_xor, Nat.xor_assoc, Nat.xor_assoc]
    congr 1
    rw [← Nat.xor_assoc, ← Nat.xor_assoc, Nat.xor_comm q]
  | [], d :: t, h, _, _ => by simp at h
  | b :: s, [], h, _, _ => by simp at h
theorem absorb_zeros (C : Nat) : ∀ (n r : Nat), absorb C r (List.replicate n 0) = stepn C (8 * n) r
  | 0, r => rfl
  | n + 1, r => by
    rw [List.replicate_succ]
    simp only [absorb, List.foldl_cons]
    rw [← absorb, absorb_zeros C n, show (0 : UInt8).toNat = 0 from rfl, Nat.xor_zero, show 8 * (n + 1) = 8 + 8 * n by omega, stepn_add]
theorem absorb_split (C r : Nat) (s : List UInt8) : absorb C r s = stepn C (8 * s.length) r ^^^ absorb C 0 s := by
  have h := absorb_xor C (List.replicate s.length 0) s (by simp) r 0
  rw [Nat.xor_zero, absorb_zeros] at h
  rw [← h]
  congr 1
  apply List.ext_getElem (by simp)
  intro i h1 h2; simp
/-- the check of octets behind those whose check is c -/
def crcL (k c : Nat) (s : List UInt8) : Nat := 4294967295 - absorb (crcC k) (4294967295 - c) s
theorem crcL_lt (k c : Nat) (s : List UInt8) : crcL k c s < 4294967296 := by unfold crcL; omega
theorem crcL_app (k c : Nat) (hc : c < 4294967296) (s t : List UInt8) : crcL k c (s ++ t) = crcL k (crcL k c s) t := by
  unfold crcL
  have h := absorb_lt (crcC_lt k) s (show 4294967295 - c < 4294967296 by omega)
  rw [absorb_app, show 4294967295 - (4294967295 - absorb (crcC k) (4294967295 - c) s) = absorb (crcC k) (4294967295 - c) s by omega]
/-- two parts -/
def joinN (k a b n : Nat) : Nat := stepn (crcC k) (8 * n) a ^^^ b
theorem xor_cancel (a b c : Nat) : (a ^^^ c) ^^^ (b ^^^ c) = a ^^^ b := by
  rw [Nat.xor_assoc, ← Nat.xor_assoc c b c, Nat.xor_comm c b, Nat.xor_assoc b c c, Nat.xor_self, Nat.xor_zero]
theorem crcL_join (k c : Nat) (hc : c < 4294967296) (s t : List UInt8) : joinN k (crcL k c s) (crcL k 0 t) t.length = crcL k c (s ++ t) := by
  have hC := crcC_lt k
  have h1 := absorb_lt hC s (show 4294967295 - c < 4294967296 by omega)
  have h2 := absorb_lt hC t (show 4294967295 - 0 < 4294967296 by omega)
  have h3 := absorb_lt hC (s ++ t) (show 4294967295 - c < 4294967296 by omega)
  unfold joinN crcL
  rw [← not32 _ h1, ← not32 _ h2, ← not32 _ h3, absorb_app, absorb_split (crcC k) (absorb _ _ s) t, absorb_split (crcC k) (4294967295 - 0) t, stepn_xor]
  generalize stepn (crcC k) (8 * t.length) (absorb (crcC k) (4294967295 - c) s) = A
  rw [show (4294967295 - 0 : Nat) = 4294967295 from rfl]
  generalize stepn (crcC k) (8 * t.length) 4294967295 = B
  generalize absorb (crcC k) 0 t = D
  rw [Nat.xor_assoc A B, ← Nat.xor_assoc B, ← Nat.xor_assoc B, Nat.xor_self, Nat.zero_xor, Nat.xor_assoc A D]
/-- checks are linear -/
theorem crcL_lin (k : Nat) (s t u : List UInt8) (h1 : s.length = t.length) (h2 : t.length = u.length) :
    crcL k 0 s ^^^ crcL k 0 t ^^^ crcL k 0 u = crcL k 0 (List.zipWith (· ^^^ ·) (List.zipWith (· ^^^ ·) s t) u) := by
  have hC := crcC_lt k
  have a1 := absorb_lt hC s (show 4294967295 - 0 < 4294967296 by omega)
  have a2 := absorb_lt hC t (show 4294967295 - 0 < 4294967296 by omega)
  have a3 := absorb_lt hC u (show 4294967295 - 0 < 4294967296 by omega)
  have a4 := absorb_lt hC (List.zipWith (· ^^^ ·) (List.zipWith (· ^^^ ·) s t) u) (show 4294967295 - 0 < 4294967296 by omega)
  have e := absorb_xor (crcC k) (List.zipWith (· ^^^ ·) s t) u (by simp [h1, h2]) (4294967295 ^^^ 4294967295) 4294967295
  rw [absorb_xor (crcC k) s t h1, Nat.xor_self, Nat.zero_xor] at e
  unfold crcL
  rw [← not32 _ a1, ← not32 _ a2, ← not32 _ a3, ← not32 _ a4, show (4294967295 - 0 : Nat) = 4294967295 from rfl, e, xor_cancel]
  simp only [Nat.xor_assoc]
end Go.Proofs.Ytfcppphchicdfaa
