/- Chapter 27: lines as sets, counting; mathematics. -/
import Derived.Test.YtpiilfamfinieaaDoorQ
namespace Go.Proofs.YtpiilfamfinieaaDoor
set_option linter.unusedSimpArgs false
set_option linter.unusedVariables false
open Go.RowKit V

/-! ### lines -/
def onL (r c l i : Nat) : Bool := if l < r then i / c == l else i % c == l - r
def colB (c : Nat) : Nat → Nat
  | 0 => 0
  | r + 1 => colB c r ||| 2 ^ (r * c)
def lineS (r c l : Nat) : Nat := if l < r then (2 ^ c - 1) * 2 ^ (l * c) else colB c r * 2 ^ (l - r)
theorem colB_bit (c : Nat) (hc : 0 < c) (i : Nat) : ∀ r, (colB c r).testBit i = (decide (i % c = 0) && decide (i / c < r))
  | 0 => by simp [colB]
  | r + 1 => by
    rw [colB, Nat.testBit_or, colB_bit c hc i r, Nat.testBit_two_pow]
    by_cases h : r * c = i
    · subst h; rw [Nat.mul_mod_left, Nat.mul_div_cancel _ hc]; simp
    · rw [decide_eq_false h, Bool.or_false]
      by_cases h0 : i % c = 0
      · have hne : i / c ≠ r := by
          intro e; apply h; have := Nat.div_add_mod i c; rw [h0, e, Nat.mul_comm] at this; omega
        have : (i / c < r ↔ i / c < r + 1) := by omega
        simp [h0, this]
      · simp [h0]
theorem mul_pow_bit (x k i : Nat) : (x * 2 ^ k).testBit i = (decide (k ≤ i) && x.testBit (i - k)) := by
  rw [← Nat.shiftLeft_eq, Nat.testBit_shiftLeft]
theorem row_arith (c l i : Nat) (hc : 0 < c) : (l * c ≤ i ∧ i - l * c < c) ↔ i / c = l := by
  have h1 := Nat.div_add_mod i c
  have h2 := Nat.mod_lt i hc
  constructor
  · rintro ⟨a, b⟩
    exact Nat.div_eq_of_lt_le (by omega) (by rw [Nat.add_mul]; omega)
  · intro e; subst e; rw [Nat.mul_comm] at h1; omega
theorem lineS_bit (r c l i : Nat) (hc : 0 < c) (hl : l < r + c) : (lineS r c l).testBit i = (onL r c l i && decide (i < r * c)) := by
  unfold lineS onL
  by_cases h : l < r
  · rw [if_pos h, if_pos h, mul_pow_bit, Nat.testBit_two_pow_sub_one]
    have ha := row_arith c l i hc
    by_cases e : i / c = l
    · obtain ⟨h1, h2⟩ := ha.2 e
      have hlt : i < r * c := by rw [← Nat.div_lt_iff_lt_mul hc]; omega
      simp [h1, h2, e, hlt]
    · have := mt ha.1 e
      have hx : (decide (l * c ≤ i) && decide (i - l * c < c)) = false := by
        rw [Bool.and_eq_false_iff]; simp only [decide_eq_false_iff_not]; omega
      rw [hx]; simp [e]
  · rw [if_neg h, if_neg h, mul_pow_bit, colB_bit c hc]
    obtain ⟨j, hj⟩ : ∃ j, l - r = j := ⟨_, rfl⟩
    rw [hj]
    have hjc : j < c := by omega
    by_cases e : i % c = j
    · have hji : j ≤ i := by rw [← e]; exact Nat.mod_le _ _
      have h1 := Nat.div_add_mod i c
      have hsub : i - j = c * (i / c) := by omega
      have hm : (i - j) % c = 0 := by rw [hsub]; exact Nat.mul_mod_right _ _
      have hd : (i - j) / c = i / c := by rw [hsub]; exact Nat.mul_div_cancel_left _ hc
      have hlt : (i / c < r) ↔ i < r * c := Nat.div_lt_iff_lt_mul hc
      simp [e, hji, hm, hd, hlt]
    · by_cases hji : j ≤ i
      · have hm : ¬ (i - j) % c = 0 := by
          intro h0
          apply e
          have h1 := Nat.div_add_mod (i - j) c
          have : i = j + c * ((i - j) / c) := by omega
          rw [this, Nat.add_mul_mod_self_left, Nat.mod_eq_of_lt hjc]
        simp [e, hm]
      · simp [hji, e]
theorem colB_lt (c : Nat) : ∀ r, 0 < c → colB c r < 2 ^ (r * c - c + 1)
  | 0, _ => by simp [colB]
  | 1, hc => by simp [colB]
  | r + 2, hc => by
    rw [colB]
    have h1 := colB_lt c (r + 1) hc
    have e1 : (r + 1) * c - c + 1 = r * c + 1 := by rw [Nat.add_mul]; omega
    have e2 : (r + 2) * c - c + 1 = (r + 1) * c + 1 := by rw [Nat.add_mul, Nat.add_mul]; omega
    rw [e1] at h1
    rw [e2]
    refine Nat.or_lt_two_pow (Nat.lt_of_lt_of_le h1 (Nat.pow_le_pow_right (by omega) ?_)) (Nat.pow_lt_pow_right (by omega) (by omega))
    rw [Nat.add_mul]; omega
theorem lineS_lt (r c l : Nat) (hc : 0 < c) (hl : l < r + c) : lineS r c l < 2 ^ (r * c) := by
  apply Nat.lt_pow_two_of_testBit
  intro i hi
  rw [lineS_bit r c l i hc hl]
  simp; omega

/-! ### counting -/
def popN (x : Nat) : Nat → Nat
  | 0 => 0
  | n + 1 => x % 2 + popN (x / 2) n
theorem and_split (x y : Nat) (k : Nat) : x &&& y = 2 ^ k * ((x / 2 ^ k) &&& (y / 2 ^ k)) + ((x % 2 ^ k) &&& (y % 2 ^ k)) := by
  have h1 := Nat.div_add_mod (x &&& y) (2 ^ k)
  rw [Nat.and_div_two_pow, Nat.and_mod_two_pow] at h1
  omega
def pop8 (b : Nat) : Nat := popN b 8
/-- a constant octet, n times -/
def rep8 (m : Nat) : Nat → Nat
  | 0 => 0
  | n + 1 => 256 * rep8 m n + m
theorem rep8_div (m n : Nat) (h : m < 256) : rep8 m (n + 1) / 2 ^ 8 = rep8 m n := by rw [rep8]; omega
theorem rep8_mod (m n : Nat) (h : m < 256) : rep8 m (n + 1) % 2 ^ 8 = m := by rw [rep8]; omega
/-- octets of counts -/
def sum8 (x : Nat) : Nat → Nat
  | 0 => 0
  | n + 1 => 256 * sum8 (x / 256) n + pop8 (x % 256)
def g1 (n x : Nat) : Nat := (x / 2 &&& rep8 85 n) + (x &&& rep8 85 n)
def g2 (n x : Nat) : Nat := (x / 4 &&& rep8 51 n) + (x &&& rep8 51 n)
def g3 (n x : Nat) : Nat := (x / 16 + x) &&& rep8 15 n
theorem d1 : ∀ a < 2, ∀ b < 256, ((128 * a + b / 2) &&& 85) = (b / 2 &&& 85) := by decide +kernel
theorem d2 : ∀ a < 4, ∀ b < 256, ((64 * a + b / 4) &&& 51) = (b / 4 &&& 51) := by decide +kernel
theorem d5 : ∀ a < 16, ∀ b < 137, ((16 * a + b) &&& 15) = (b &&& 15) := by decide +kernel
theorem g1_step (n x : Nat) : g1 (n + 1) x = 256 * g1 n (x / 256) + g1 1 (x % 256) := by
  unfold g1
  rw [and_split (x / 2) (rep8 85 (n + 1)) 8, and_split x (rep8 85 (n + 1)) 8, rep8_div 85 n (by omega), rep8_mod 85 n (by omega)]
  have e1 : x / 2 / 2 ^ 8 = x / 256 / 2 := by omega
  have e2 : x / 2 % 2 ^ 8 = 128 * (x / 256 % 2) + x % 256 / 2 := by omega
  rw [e1, e2, d1 _ (by omega) _ (by omega)]
  have e3 : rep8 85 1 = 85 := rfl
  rw [e3]
  have e4 : (2 : Nat) ^ 8 = 256 := rfl
  rw [e4]
  omega
theorem g2_step (n x : Nat) : g2 (n + 1) x = 256 * g2 n (x / 256) + g2 1 (x % 256) := by
  unfold g2
  rw [and_split (x / 4) (rep8 51 (n + 1)) 8, and_split x (rep8 51 (n + 1)) 8, rep8_div 51 n (by omega), rep8_mod 51 n (by omega)]
  have e1 : x / 4 / 2 ^ 8 = x / 256 / 4 := by omega
  have e2 : x / 4 % 2 ^ 8 = 64 * (x / 256 % 4) + x % 256 / 4 := by omega
  rw [e1, e2, d2 _ (by omega) _ (by omega)]
  have e3 : rep8 51 1 = 51 := rfl
  rw [e3]
  have e4 : (2 : Nat) ^ 8 = 256 := rfl
  rw [e4]
  omega
theorem b1 : ∀ b < 256, g1 1 b < 256 := by decide +kernel
theorem b2 : ∀ b < 256, g2 1 (g1 1 b) < 69 ∧ g2 1 (g1 1 b) % 16 ≤ 4 := by decide +kernel
theorem b3 : ∀ b < 256, (g2 1 (g1 1 b) / 16 + g2 1 (g1 1 b)) &&& 15 = pop8 b := by decide +kernel
theorem g3_step (n h b : Nat) (hb : b < 69) (hh : h % 16 ≤ 4) : g3 (n + 1) (256 * h + b) = 256 * g3 n h + ((b / 16 + b) &&& 15) := by
  unfold g3
  rw [and_split _ (rep8 15 (n + 1)) 8, rep8_div 15 n (by omega), rep8_mod 15 n (by omega)]
  have e1 : ((256 * h + b) / 16 + (256 * h + b)) / 2 ^ 8 = h / 16 + h := by omega
  have e2 : ((256 * h + b) / 16 + (256 * h + b)) % 2 ^ 8 = 16 * (h % 16) + (b / 16 + b) := by omega
  rw [e1, e2, d5 _ (by omega) _ (by omega)]
theorem g21_low (n x : Nat) : g2 n (g1 n x) % 16 ≤ 4 := by
  cases n with
  | zero => simp [g2, rep8]
  | succ n =>
    rw [g1_step n x, g2_step]
    have hb := b1 (x % 256) (by omega)
    have e1 : (256 * g1 n (x / 256) + g1 1 (x % 256)) % 256 = g1 1 (x % 256) := by omega
    rw [e1]
    have := (b2 (x % 256) (by omega)).2
    omega
theorem g_all : ∀ (n x : Nat), g3 n (g2 n (g1 n x)) = sum8 x n
  | 0, x => by simp [g3, sum8, rep8]
  | n + 1, x => by
    rw [g1_step n x, g2_step]
    have hb := b1 (x % 256) (by omega)
    have e1 : (256 * g1 n (x / 256) + g1 1 (x % 256)) % 256 = g1 1 (x % 256) := by omega
    have e2 : (256 * g1 n (x / 256) + g1 1 (x % 256)) / 256 = g1 n (x / 256) := by omega
    have h2 := b2 (x % 256) (by omega)
    rw [e1, e2, g3_step _ _ _ h2.1 (g21_low n _), g_all n, b3 _ (by omega), sum8]
theorem pop8_le (b : Nat) : pop8 b ≤ 8 := by
  unfold pop8
  simp only [popN]
  omega
theorem popN_add (x : Nat) : ∀ m n, popN x (m + n) = popN x m + popN (x / 2 ^ m) n := by
  intro m
  induction m generalizing x with
  | zero => intro n; simp [popN]
  | succ m ih =>
    intro n
    rw [show m + 1 + n = (m + n) + 1 by omega, popN, ih, popN, Nat.div_div_eq_div_mul, Nat.pow_succ, Nat.mul_comm (2 ^ m)]
    omega
theorem popN_mod (x : Nat) : ∀ n m, n ≤ m → popN (x % 2 ^ m) n = popN x n := by
  intro n
  induction n generalizing x with
  | zero => intro m _; rfl
  | succ n ih =>
    intro m hm
    obtain ⟨m', rfl⟩ : ∃ m', m = m' + 1 := ⟨m - 1, by omega⟩
    rw [popN, popN]
    have e1 : x % 2 ^ (m' + 1) / 2 = x / 2 % 2 ^ m' := by
      rw [Nat.pow_succ, Nat.mul_comm, Nat.mod_mul_right_div_self]
    have e2 : x % 2 ^ (m' + 1) % 2 = x % 2 := Nat.mod_mod_of_dvd _ ⟨2 ^ m', by rw [Nat.pow_succ, Nat.mul_comm]⟩
    rw [e1, e2, ih _ m' (by omega)]
theorem popN_bytes (x : Nat) : popN x 64 = pop8 (x % 256) + pop8 (x / 256 % 256) + pop8 (x / 256 / 256 % 256) + pop8 (x / 256 / 256 / 256 % 256) + pop8 (x / 256 / 256 / 256 / 256 % 256) + pop8 (x / 256 / 256 / 256 / 256 / 256 % 256) + pop8 (x / 256 / 256 / 256 / 256 / 256 / 256 % 256) + pop8 (x / 256 / 256 / 256 / 256 / 256 / 256 / 256 % 256) := by
  unfold pop8
  have e : ∀ y, popN (y % 256) 8 = popN y 8 := fun y => popN_mod y 8 8 (Nat.le_refl _)
  simp only [e]
  rw [show (64 : Nat) = 8 + (8 + (8 + (8 + (8 + (8 + (8 + 8)))))) from rfl]
  simp only [popN_add]
  rw [show (2 : Nat) ^ 8 = 256 from rfl]
  omega
/-- digits to the base 256, the least one first -/
def Hx : List Nat → Nat
  | [] => 0
  | a :: l => a + 256 * Hx l
def addD : List Nat → List Nat → List Nat
  | [], b => b
  | a, [] => a
  | x :: a, y :: b => (x + y) :: addD a b
theorem Hx_add : ∀ a b, Hx (addD a b) = Hx a + Hx b
  | [], b => by simp [addD, Hx]
  | x :: a, [] => by simp [addD, Hx]
  | x :: a, y :: b => by rw [addD, Hx, Hx, Hx, Hx_add a b]; omega
theorem Hx_div (a : Nat) (l : List Nat) (h : a < 256) : Hx (a :: l) / 256 = Hx l := by rw [Hx]; omega
theorem Hx_lt : ∀ l : List Nat, (∀ a ∈ l, a < 256) → Hx l < 256 ^ l.length
  | [], _ => by simp [Hx]
  | a :: l, h => by
    have := Hx_lt l (fun b hb => h b (by simp [hb]))
    have ha := h a (by simp)
    rw [Hx, List.length_cons, Nat.pow_succ]; omega
theorem Hx_snoc : ∀ (l : List Nat) (a : Nat), Hx (l ++ [a]) = Hx l + 256 ^ l.length * a
  | [], a => by simp [Hx]
  | b :: l, a => by
    rw [List.cons_append, Hx, Hx_snoc l a, Hx, List.length_cons, Nat.pow_succ, Nat.mul_add, Nat.mul_comm (256 ^ l.length) 256, Nat.mul_assoc]; omega
/-- the sum of the octets of counts, as the code makes it -/
theorem pop_sum (x : Nat) (s t u v : Nat) (hs : s = sum8 x 8) (ht : t = s + s / 256) (hu : u = t + t / 65536) (hv : v = u + u / 4294967296) : v % 256 = popN x 64 ∧ v < 9223372036854775808 ∧ u < 18446744073709551616 ∧ t < 18446744073709551616 := by
  rw [popN_bytes]
  simp only [sum8] at hs
  have h0 := pop8_le (x % 256)
  have h1 := pop8_le (x / 256 % 256)
  have h2 := pop8_le (x / 256 / 256 % 256)
  have h3 := pop8_le (x / 256 / 256 / 256 % 256)
  have h4 := pop8_le (x / 256 / 256 / 256 / 256 % 256)
  have h5 := pop8_le (x / 256 / 256 / 256 / 256 / 256 % 256)
  have h6 := pop8_le (x / 256 / 256 / 256 / 256 / 256 / 256 % 256)
  have h7 := pop8_le (x / 256 / 256 / 256 / 256 / 256 / 256 / 256 % 256)
  generalize pop8 (x % 256) = p0 at *
  generalize pop8 (x / 256 % 256) = p1 at *
  generalize pop8 (x / 256 / 256 % 256) = p2 at *
  generalize pop8 (x / 256 / 256 / 256 % 256) = p3 at *
  generalize pop8 (x / 256 / 256 / 256 / 256 % 256) = p4 at *
  generalize pop8 (x / 256 / 256 / 256 / 256 / 256 % 256) = p5 at *
  generalize pop8 (x / 256 / 256 / 256 / 256 / 256 / 256 % 256) = p6 at *
  generalize pop8 (x / 256 / 256 / 256 / 256 / 256 / 256 / 256 % 256) = p7 at *
  have hs : s = Hx [p0, p1, p2, p3, p4, p5, p6, p7] := by rw [hs]; simp only [Hx, Nat.mul_zero, Nat.zero_add, Nat.add_zero, Nat.add_comm]
  rw [hs, Hx_div _ _ (by omega), ← Hx_add] at ht
  simp only [addD] at ht
  have e2 : ∀ y : Nat, y / 65536 = y / 256 / 256 := fun y => by rw [Nat.div_div_eq_div_mul]
  have e3 : ∀ y : Nat, y / 4294967296 = y / 256 / 256 / 256 / 256 := fun y => by simp only [Nat.div_div_eq_div_mul]
  rw [e2, ht, Hx_div _ _ (by omega), Hx_div _ _ (by omega), ← Hx_add] at hu
  simp only [addD] at hu
  rw [e3, hu, Hx_div _ _ (by omega), Hx_div _ _ (by omega), Hx_div _ _ (by omega), Hx_div _ _ (by omega), ← Hx_add] at hv
  simp only [addD] at hv
  have fit : ∀ l : List Nat, l.length = 8 → (∀ a ∈ l, a < 256) → Hx l < 18446744073709551616 := fun l hl h => by have := Hx_lt l h; rw [hl] at this; exact this
  refine ⟨?_, ?_, ?_, ?_⟩
  · rw [hv, Hx]; omega
  · rw [hv]
    have hl := Hx_snoc [p0 + p1 + (p2 + p3) + (p4 + p5 + (p6 + p7)), p1 + p2 + (p3 + p4) + (p5 + p6 + p7), p2 + p3 + (p4 + p5) + (p6 + p7), p3 + p4 + (p5 + p6) + p7, p4 + p5 + (p6 + p7), p5 + p6 + p7, p6 + p7] p7
    have hb := Hx_lt [p0 + p1 + (p2 + p3) + (p4 + p5 + (p6 + p7)), p1 + p2 + (p3 + p4) + (p5 + p6 + p7), p2 + p3 + (p4 + p5) + (p6 + p7), p3 + p4 + (p5 + p6) + p7, p4 + p5 + (p6 + p7), p5 + p6 + p7, p6 + p7] (by
      simp only [List.mem_cons, List.not_mem_nil, or_false]; rintro a (rfl | rfl | rfl | rfl | rfl | rfl | rfl) <;> omega)
    simp only [List.length_cons, List.length_nil, List.cons_append, List.nil_append] at hl hb
    rw [hl]
    have e7 : (256 : Nat) ^ 7 = 72057594037927936 := by decide
    have e8 : (256 : Nat) ^ (0 + 1 + 1 + 1 + 1 + 1 + 1 + 1) = 72057594037927936 := by decide
    rw [e8] at hb ⊢
    omega
  · rw [hu]; refine fit _ rfl ?_; simp only [List.mem_cons, List.not_mem_nil, or_false]; rintro a (rfl | rfl | rfl | rfl | rfl | rfl | rfl | rfl) <;> omega
  · rw [ht]; refine fit _ rfl ?_; simp only [List.mem_cons, List.not_mem_nil, or_false]; rintro a (rfl | rfl | rfl | rfl | rfl | rfl | rfl | rfl) <;> omega
theorem popN_le (x : Nat) : ∀ n, popN x n ≤ n := by
  intro n
  induction n generalizing x with
  | zero => exact Nat.le_refl _
  | succ n ih => rw [popN]; have := ih (x / 2); omega
end Go.Proofs.YtpiilfamfinieaaDoor
