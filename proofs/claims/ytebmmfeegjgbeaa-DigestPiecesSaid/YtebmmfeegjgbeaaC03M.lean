/- Plain mathematics: numbers, bits, octets. No program. -/
import Derived.Test.YtebmmfeegjgbeaaY
namespace Go.Proofs.Ytebmmfeegjgbeaa
set_option linter.unusedSimpArgs false
set_option linter.unusedVariables false
open Go.RowKit V

def le4 (s : ByteArray) (i : Nat) : Nat := byt s i + 256 * byt s (i+1) + 65536 * byt s (i+2) + 16777216 * byt s (i+3)
theorem le4_lt (s : ByteArray) (i : Nat) : le4 s i < 4294967296 := by
  have := byt_lt s i; have := byt_lt s (i+1); have := byt_lt s (i+2); have := byt_lt s (i+3)
  unfold le4; omega

theorem le4_bits (a b c d : Nat) (ha : a < 256) (hb : b < 256) (hc : c < 256) (hd : d < 256) :
    bits .or .u32 (bits .or .u32 (bits .or .u32 ((a : Int) % 4294967296) ((b : Int) % 4294967296 * 256 % 4294967296)) ((c : Int) % 4294967296 * 65536 % 4294967296)) ((d : Int) % 4294967296 * 16777216 % 4294967296)
      = ((a + 256 * b + 65536 * c + 16777216 * d : Nat) : Int) := by
  rw [show ((a : Int) % 4294967296) = ((a : Nat) : Int) by omega, show ((b : Int) % 4294967296 * 256 % 4294967296) = ((256 * b : Nat) : Int) by omega,
    show ((c : Int) % 4294967296 * 65536 % 4294967296) = ((65536 * c : Nat) : Int) by omega, show ((d : Int) % 4294967296 * 16777216 % 4294967296) = ((16777216 * d : Nat) : Int) by omega]
  rw [u32_or_nat _ _ (by omega) (by omega), Nat.or_comm, nat_join 8 _ _ (by omega) (by omega)]
  rw [u32_or_nat _ _ (by omega) (by omega), Nat.or_comm, nat_join 16 _ _ (by omega) (by omega)]
  rw [u32_or_nat _ _ (by omega) (by omega), Nat.or_comm, nat_join 24 _ _ (by omega) (by omega)]
  congr 1; omega

/-- a word turned up by one, by k -/
def rot1 (x : Nat) : Nat := if 2 * x ≥ 4294967296 then 2 * x - 4294967296 + 1 else 2 * x
def rotk : Nat → Nat → Nat
  | x, 0 => x
  | x, k+1 => rot1 (rotk x k)
theorem rot1_lt (x : Nat) (h : x < 4294967296) : rot1 x < 4294967296 := by unfold rot1; split <;> omega
theorem rotk_lt (x k : Nat) (h : x < 4294967296) : rotk x k < 4294967296 := by
  induction k with
  | zero => exact h
  | succ k ih => exact rot1_lt _ ih
def rotl (x k : Nat) : Nat := x * 2 ^ k % 4294967296 + x / 2 ^ (32 - k)
theorem rot_step (A C x : Nat) (hAC : A * C = 2147483648) (hx : x < 4294967296) :
    rot1 (x * A % 4294967296 + x / (2 * C)) = x * (2 * A) % 4294967296 + x / C := by
  have hC : 0 < C := Nat.pos_of_ne_zero (by rintro rfl; simp at hAC)
  have hA : 0 < A := Nat.pos_of_ne_zero (by rintro rfl; simp at hAC)
  obtain ⟨q, hq⟩ : ∃ q, x / (2 * C) = q := ⟨_, rfl⟩
  obtain ⟨r, hr⟩ : ∃ r, x % (2 * C) = r := ⟨_, rfl⟩
  have hxe : x = 2 * C * q + r := by rw [← hq, ← hr]; exact (Nat.div_add_mod _ _).symm
  have hr2 : r < 2 * C := by rw [← hr]; exact Nat.mod_lt _ (by omega)
  obtain ⟨b, hb⟩ : ∃ b, r / C = b := ⟨_, rfl⟩
  obtain ⟨s, hs⟩ : ∃ s, r % C = s := ⟨_, rfl⟩
  have hre : r = C * b + s := by rw [← hb, ← hs]; exact (Nat.div_add_mod _ _).symm
  have hs2 : s < C := by rw [← hs]; exact Nat.mod_lt _ hC
  have hb2 : b < 2 := by rw [← hb]; exact Nat.div_lt_of_lt_mul (by rw [Nat.mul_comm]; exact hr2)
  have hxC : x / C = 2 * q + b := by
    rw [hxe, hre, show 2 * C * q + (C * b + s) = s + C * (2 * q + b) by rw [Nat.mul_add, ← Nat.mul_assoc, Nat.mul_comm C 2]; omega, Nat.add_mul_div_left _ _ hC, Nat.div_eq_of_lt hs2]; omega
  have hCA : C * A = 2147483648 := by rw [Nat.mul_comm]; exact hAC
  have e1 : x * A = 4294967296 * q + (2147483648 * b + s * A) := by
    have h1 : 2 * C * q * A = 4294967296 * q := by
      rw [show 2 * C * q * A = 2 * (C * A) * q by rw [Nat.mul_assoc, Nat.mul_comm q A, ← Nat.mul_assoc, Nat.mul_assoc 2 C A], hCA]
    have h2 : C * b * A = 2147483648 * b := by rw [Nat.mul_assoc, Nat.mul_comm b A, ← Nat.mul_assoc, hCA]
    rw [hxe, hre, Nat.add_mul, Nat.add_mul, h1, h2]
  have hsA : s * A + A ≤ 2147483648 := by
    rw [← hCA, ← Nat.succ_mul]; exact Nat.mul_le_mul_right _ hs2
  have hqA : q < A := by
    by_cases h : q < A
    · exact h
    · exfalso
      have : 2 * C * A ≤ 2 * C * q := Nat.mul_le_mul_left _ (by omega)
      rw [Nat.mul_assoc, hCA] at this; omega
  have e2 : x * (2 * A) = 2 * (x * A) := by rw [Nat.mul_left_comm]
  rw [hxC, e2, e1, hq]
  generalize s * A = u at *
  unfold rot1
  rcases (show b = 0 ∨ b = 1 by omega) with rfl | rfl
  · rw [if_neg (by omega)]; omega
  · rw [if_pos (by omega)]; omega
theorem rotk_eq (x : Nat) (h : x < 4294967296) : ∀ k, k ≤ 31 → rotk x k = rotl x k
  | 0, _ => by simp only [rotk, rotl]; omega
  | k+1, hk => by
    rw [rotk, rotk_eq x h k (by omega)]
    have := rot_step (2 ^ k) (2 ^ (31 - k)) x (by rw [← Nat.pow_add, show k + (31 - k) = 31 by omega]) h
    rw [show 2 * 2 ^ (31 - k) = 2 ^ (32 - k) by rw [← Nat.pow_succ', show (31 - k).succ = 32 - k by omega]] at this
    unfold rotl
    rw [this, Nat.pow_succ', show 32 - (k + 1) = 31 - k by omega]
theorem rotl_lt (x k : Nat) (h : x < 4294967296) (hk : k ≤ 31) : rotl x k < 4294967296 := by rw [← rotk_eq x h k hk]; exact rotk_lt _ _ h

/-- exclusive or, bit by bit from below -/
theorem xor_step (x y i : Nat) : (x ^^^ y) % 2 ^ (i + 1) = (x ^^^ y) % 2 ^ i + (if (x / 2 ^ i) % 2 ≠ (y / 2 ^ i) % 2 then 2 ^ i else 0) := by
  rw [Nat.mod_pow_succ]
  congr 1
  have : ((x ^^^ y) / 2 ^ i) % 2 = if (x / 2 ^ i) % 2 ≠ (y / 2 ^ i) % 2 then 1 else 0 := by
    rw [← Nat.shiftRight_eq_div_pow, Nat.shiftRight_xor_distrib, Nat.shiftRight_eq_div_pow, Nat.shiftRight_eq_div_pow]
    have h := Nat.xor_mod_two_pow (a := x / 2 ^ i) (b := y / 2 ^ i) (n := 1)
    rw [show (2 ^ 1 : Nat) = 2 from rfl] at h
    rw [h]
    rcases Nat.mod_two_eq_zero_or_one (x / 2 ^ i) with e | e <;> rcases Nat.mod_two_eq_zero_or_one (y / 2 ^ i) with f | f <;> rw [e, f] <;> rfl
  rw [this]; split <;> simp

/-! the quarter round, on lists of words -/
def gw (ws : List Nat) (i : Nat) : Nat := ws.getD i 0
def addAt (ws : List Nat) (a b : Nat) : List Nat := ws.set a ((gw ws a + gw ws b) % 4294967296)
def rotAt (ws : List Nat) (d a k : Nat) : List Nat := ws.set d (rotl (gw ws d ^^^ gw ws a) k)
def qround (ws : List Nat) (x : Nat × Nat × Nat × Nat) : List Nat :=
  let (a, b, c, d) := x
  let ws := rotAt (addAt ws a b) d a 16
  let ws := rotAt (addAt ws c d) b c 12
  let ws := rotAt (addAt ws a b) d a 8
  rotAt (addAt ws c d) b c 7
def Words (ws : List Nat) : Prop := ws.length = 16 ∧ ∀ x ∈ ws, x < 4294967296
theorem Words.get {ws : List Nat} (h : Words ws) (i : Nat) : gw ws i < 4294967296 := by
  unfold gw
  rw [List.getD_eq_getElem?_getD]
  cases hi : ws[i]? with
  | none => simp
  | some x => exact h.2 x (List.mem_of_getElem? hi)
theorem Words.set {ws : List Nat} (h : Words ws) (i x : Nat) (hx : x < 4294967296) : Words (ws.set i x) :=
  ⟨by simpa using h.1, fun y hy => by
    rcases List.mem_or_eq_of_mem_set hy with h1 | h1
    · exact h.2 y h1
    · omega⟩
theorem Words.addAt {ws : List Nat} (h : Words ws) (a b : Nat) : Words (addAt ws a b) := h.set _ _ (Nat.mod_lt _ (by omega))
theorem Words.rotAt {ws : List Nat} (h : Words ws) (d a k : Nat) (hk : k ≤ 31) : Words (rotAt ws d a k) :=
  h.set _ _ (rotl_lt _ _ (Nat.xor_lt_two_pow (n := 32) (h.get _) (h.get _)) hk)
theorem Words.qround {ws : List Nat} (h : Words ws) (x : Nat × Nat × Nat × Nat) : Words (qround ws x) :=
  (((((((h.addAt _ _).rotAt _ _ 16 (by omega)).addAt _ _).rotAt _ _ 12 (by omega)).addAt _ _).rotAt _ _ 8 (by omega)).addAt _ _).rotAt _ _ 7 (by omega)
theorem Words.fold {ws : List Nat} (h : Words ws) (l : List (Nat × Nat × Nat × Nat)) : Words (l.foldl Go.Proofs.Ytebmmfeegjgbeaa.qround ws) := by
  induction l generalizing ws with
  | nil => exact h
  | cons x l ih => exact ih (h.qround x)
/-- words as cells -/
def uw (ws : List Nat) : List Value := ws.map fun x => .int .u32 (x : Nat)
theorem uw_len (ws : List Nat) : (uw ws).length = ws.length := by simp [uw]
theorem uw_get {ws : List Nat} {i : Nat} (h : i < ws.length) : (uw ws)[i]? = some (.int .u32 (gw ws i : Nat)) := by
  simp [uw, gw, List.getD_eq_getElem?_getD, h]
theorem uw_set (ws : List Nat) (i x : Nat) : (uw ws).set i (.int .u32 (x : Nat)) = uw (ws.set i x) := by simp [uw, List.map_set]
/-- four numbers of places, as cells -/
def flat4 (l : List (Nat × Nat × Nat × Nat)) : List Value := l.flatMap fun x => [.int .i64 (x.1 : Nat), .int .i64 (x.2.1 : Nat), .int .i64 (x.2.2.1 : Nat), .int .i64 (x.2.2.2 : Nat)]
theorem flat4_get : ∀ {l : List (Nat × Nat × Nat × Nat)} {k : Nat} {x : Nat × Nat × Nat × Nat}, l[k]? = some x →
    (flat4 l)[0 + 4 * k]? = some (.int .i64 (x.1 : Nat)) ∧ (flat4 l)[1 + 4 * k]? = some (.int .i64 (x.2.1 : Nat)) ∧ (flat4 l)[2 + 4 * k]? = some (.int .i64 (x.2.2.1 : Nat)) ∧ (flat4 l)[3 + 4 * k]? = some (.int .i64 (x.2.2.2 : Nat))
  | [], k, x, h => by simp at h
  | y :: l, 0, x, h => by simp at h; subst h; simp [flat4]
  | y :: l, k + 1, x, h => by
    have h1 := flat4_get (l := l) (k := k) (x := x) (by simpa using h)
    have e : flat4 (y :: l) = [.int .i64 (y.1 : Nat), .int .i64 (y.2.1 : Nat), .int .i64 (y.2.2.1 : Nat), .int .i64 (y.2.2.2 : Nat)] ++ flat4 l := rfl
    rw [e]
    refine ⟨?_, ?_, ?_, ?_⟩ <;> rw [List.getElem?_append_right (by simp; omega)] <;> simp only [List.length_cons, List.length_nil, Nat.zero_add, Nat.reduceAdd]
    · rw [show (4 * (k + 1) - 4) = 0 + 4 * k by omega]; exact h1.1
    · rw [show (1 + 4 * (k + 1) - 4) = 1 + 4 * k by omega]; exact h1.2.1
    · rw [show (2 + 4 * (k + 1) - 4) = 2 + 4 * k by omega]; exact h1.2.2.1
    · rw [show (3 + 4 * (k + 1) - 4) = 3 + 4 * k by omega]; exact h1.2.2.2
theorem flat4_len (l : List (Nat × Nat × Nat × Nat)) : (flat4 l).length = 4 * l.length := by
  induction l with
  | nil => rfl
  | cons x l ih => simp [flat4] at ih ⊢; omega
end Go.Proofs.Ytebmmfeegjgbeaa
