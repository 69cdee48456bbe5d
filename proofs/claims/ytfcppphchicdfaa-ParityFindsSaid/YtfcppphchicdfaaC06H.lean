/- Chapter 06: the reference's long division. -/
import Derived.Test.YtfcppphchicdfaaC06G
namespace Go.Proofs.Ytfcppphchicdfaa
set_option linter.unusedSimpArgs false
set_option linter.unusedVariables false
open Go.RowKit V

def coefL (n : Nat) : List Bool := (List.range 32).map fun k => n.testBit k
theorem coefL_len (n : Nat) : (coefL n).length = 32 := by simp [coefL]
theorem coefL_get (n k : Nat) (h : k < 32) : (coefL n)[k]? = some (n.testBit k) := by rw [coefL, List.getElem?_map, List.getElem?_range h]; rfl
theorem tb_high {x j : Nat} (h : x < 4294967296) (hj : 32 ≤ j) : x.testBit j = false := Nat.testBit_lt_two_pow (Nat.lt_of_lt_of_le h (show 2 ^ 32 ≤ 2 ^ j from Nat.pow_le_pow_right (by omega) hj))
/-- bit after bit -/
def absB (C r : Nat) (l : List Bool) : Nat := l.foldl (fun r b => step C (r ^^^ b.toNat)) r
theorem absB_snoc (C r : Nat) (l : List Bool) (b : Bool) : absB C r (l ++ [b]) = step C (absB C r l ^^^ b.toNat) := by simp [absB]
theorem absB_app (C r : Nat) (l m : List Bool) : absB C r (l ++ m) = absB C (absB C r l) m := by simp [absB]
theorem toNat_lt2 (b : Bool) : b.toNat < 4294967296 := by cases b <;> decide
theorem absB_lt {C : Nat} (hC : C < 4294967296) : ∀ (l : List Bool) {r : Nat}, r < 4294967296 → absB C r l < 4294967296
  | [], _, h => h
  | b :: l, _, h => absB_lt hC l (step_lt hC (xor_lt32 h (toNat_lt2 b)))
theorem absB_num (C r x : Nat) : ∀ n, absB C r ((List.range n).map fun k => x.testBit k) = stepn C n (r ^^^ (x % 2 ^ n))
  | 0 => by simp [absB, Nat.mod_one, stepn]
  | n + 1 => by
    rw [List.range_succ, List.map_append, List.map_cons, List.map_nil, absB_snoc, absB_num C r x n, stepn_succ, Nat.mod_pow_succ]
    have hb : x / 2 ^ n % 2 = (x.testBit n).toNat := by
      rw [testBit_dec]
      rcases Nat.mod_two_eq_zero_or_one (x / 2 ^ n) with h | h <;> rw [h] <;> rfl
    rw [hb, Nat.add_comm, add_xor _ _ n (Nat.mod_lt _ (Nat.two_pow_pos n)), Nat.xor_comm (2 ^ n * _), ← Nat.xor_assoc, stepn_xor C n (r ^^^ x % 2 ^ n) _, stepn_shift]
theorem absB_bits (C : Nat) : ∀ (s : List UInt8) (r : Nat), absB C r (bitsL s) = absorb C r s
  | [], _ => rfl
  | b :: s, r => by
    have e : bitsL (b :: s) = bit8 b ++ bitsL s := rfl
    rw [e, absB_app, bit8, absB_num, Nat.mod_eq_of_lt b.toNat_lt, absB_bits C s]
    rfl
theorem step_bit (C R : Nat) (b : Bool) (j : Nat) : (step C (R ^^^ b.toNat)).testBit j = (R.testBit (j + 1) ^^ ((R.testBit 0 ^^ b) && C.testBit j)) := by
  have hd : (R ^^^ b.toNat) / 2 = R / 2 := by
    have := xor_div R b.toNat 1
    rw [show (2 : Nat) ^ 1 = 2 from rfl] at this
    rw [this, show b.toNat / 2 = 0 by cases b <;> rfl, Nat.xor_zero]
  have hm : ((R ^^^ b.toNat) % 2 = 1) ↔ (R.testBit 0 ^^ b) = true := by
    have := xor_mod R b.toNat 1
    rw [show (2 : Nat) ^ 1 = 2 from rfl] at this
    rw [this, testBit_dec, Nat.pow_zero, Nat.div_one]
    rcases Nat.mod_two_eq_zero_or_one R with h | h <;> cases b <;> rw [h] <;> decide
  unfold step
  rw [hd]
  by_cases h : (R ^^^ b.toNat) % 2 = 1
  · rw [if_pos h, hm.1 h, Nat.testBit_xor, Nat.testBit_div_two]; simp
  · have h' : (R.testBit 0 ^^ b) = false := by
      cases hh : (R.testBit 0 ^^ b) with
      | false => rfl
      | true => exact absurd (hm.2 hh) h
    rw [if_neg h, h', Nat.testBit_div_two]; simp

theorem coef_f (n : Nat) (hn : n < 4294967296) : MakesF Try.prog 35 #[.int .i64 n] fun v => [row 4 1 v 32 (bw (coefL n))] := by
  first | refine v_makes TTok FFok Try.func35 rfl rfl fun w0 => ?_ | refine v_makes (args := []) TTok FFok Try.func35 rfl rfl fun w0 => ?_
  conv => whnf
  repeat (first | (refine VSeq.mk fun Kq hKq => ?_; conv => whnf) | (refine hKq _ _ _ (V.Sub.refl _) ?_; clear hKq Kq; conv => whnf) | (clear hKq Kq; refine hKq _ _ _ (V.Sub.refl _) ?_; clear hKq Kq; conv => whnf) | (clear hKq Kq; clear hKq Kq; refine hKq _ _ _ (V.Sub.refl _) ?_; clear hKq Kq; conv => whnf) | (clear hKq Kq; clear hKq Kq; clear hKq Kq; refine hKq _ _ _ (V.Sub.refl _) ?_; clear hKq Kq; conv => whnf) | (clear hKq Kq; clear hKq Kq; clear hKq Kq; clear hKq Kq; refine hKq _ _ _ (V.Sub.refl _) ?_; clear hKq Kq; conv => whnf) | (clear hKq Kq; clear hKq Kq; clear hKq Kq; clear hKq Kq; clear hKq Kq; refine hKq _ _ _ (V.Sub.refl _) ?_; clear hKq Kq; conv => whnf) | (refine And.intro (by omega) ?_; conv => whnf))
  have hp := Hp.nil w0
  have hp := hp.knil 4 1
  refine ⟨fun m l w => ∃ (i : Nat) (v : Value), m + i = 32 ∧ l = [(0, .v (.int .i64 (n / 2 ^ i : Nat))), (3, .v v), (4, .v (.int .i64 i))] ∧ Hp w0 w [row 4 1 v i (bw ((coefL n).take i))],
    ⟨32, _, ⟨0, _, by omega, rfl, hp⟩, sub_cons (look_int rfl (by simp)) (sub_cons rfl (sub_cons rfl sub_nil))⟩, ?_⟩
  clear hp
  repeat clear hp
  rintro m _ w ⟨i, v, hm, rfl, hp⟩
  have hd : n / 2 ^ (i + 1) = n / 2 ^ i / 2 := by rw [Nat.pow_succ, Nat.div_div_eq_div_mul]
  have hyl : n / 2 ^ i < 4294967296 := Nat.lt_of_le_of_lt (Nat.div_le_self _ _) hn
  have htb := testBit_dec n i
  generalize hy : n / 2 ^ i = y at *
  conv => whnf
  repeat (first | (refine VSeq.mk fun Kq hKq => ?_; conv => whnf) | (refine hKq _ _ _ (V.Sub.refl _) ?_; clear hKq Kq; conv => whnf) | (clear hKq Kq; refine hKq _ _ _ (V.Sub.refl _) ?_; clear hKq Kq; conv => whnf) | (clear hKq Kq; clear hKq Kq; refine hKq _ _ _ (V.Sub.refl _) ?_; clear hKq Kq; conv => whnf) | (clear hKq Kq; clear hKq Kq; clear hKq Kq; refine hKq _ _ _ (V.Sub.refl _) ?_; clear hKq Kq; conv => whnf) | (clear hKq Kq; clear hKq Kq; clear hKq Kq; clear hKq Kq; refine hKq _ _ _ (V.Sub.refl _) ?_; clear hKq Kq; conv => whnf) | (clear hKq Kq; clear hKq Kq; clear hKq Kq; clear hKq Kq; clear hKq Kq; refine hKq _ _ _ (V.Sub.refl _) ?_; clear hKq Kq; conv => whnf) | (refine And.intro (by omega) ?_; conv => whnf))
  refine ⟨fun hlt => ?_, fun hlt => ?_⟩
  · have hlt := of_decide_eq_true hlt
    conv => whnf
    repeat (first | (refine VSeq.mk fun Kq hKq => ?_; conv => whnf) | (refine hKq _ _ _ (V.Sub.refl _) ?_; clear hKq Kq; conv => whnf) | (clear hKq Kq; refine hKq _ _ _ (V.Sub.refl _) ?_; clear hKq Kq; conv => whnf) | (clear hKq Kq; clear hKq Kq; refine hKq _ _ _ (V.Sub.refl _) ?_; clear hKq Kq; conv => whnf) | (clear hKq Kq; clear hKq Kq; clear hKq Kq; refine hKq _ _ _ (V.Sub.refl _) ?_; clear hKq Kq; conv => whnf) | (clear hKq Kq; clear hKq Kq; clear hKq Kq; clear hKq Kq; refine hKq _ _ _ (V.Sub.refl _) ?_; clear hKq Kq; conv => whnf) | (clear hKq Kq; clear hKq Kq; clear hKq Kq; clear hKq Kq; clear hKq Kq; refine hKq _ _ _ (V.Sub.refl _) ?_; clear hKq Kq; conv => whnf) | (refine And.intro (by omega) ?_; conv => whnf))
    have htk : (coefL n).take (i + 1) = (coefL n).take i ++ [n.testBit i] := take_snoc (coefL_get n i (by omega))
    have e2 : (decide ((y : Int) % 2 = 1)) = n.testBit i := by rw [htb]; exact decide_eq_decide.2 (by omega)
    rw [e2]
    refine hp.kmade (bw [n.testBit i]) 4 (fun b => .slice (some ⟨b, 0, none⟩) 1 1) (by kernel_rfl) fun tb w hp hx => ?_
    conv => whnf
    repeat (first | (refine VSeq.mk fun Kq hKq => ?_; conv => whnf) | (refine hKq _ _ _ (V.Sub.refl _) ?_; clear hKq Kq; conv => whnf) | (clear hKq Kq; refine hKq _ _ _ (V.Sub.refl _) ?_; clear hKq Kq; conv => whnf) | (clear hKq Kq; clear hKq Kq; refine hKq _ _ _ (V.Sub.refl _) ?_; clear hKq Kq; conv => whnf) | (clear hKq Kq; clear hKq Kq; clear hKq Kq; refine hKq _ _ _ (V.Sub.refl _) ?_; clear hKq Kq; conv => whnf) | (clear hKq Kq; clear hKq Kq; clear hKq Kq; clear hKq Kq; refine hKq _ _ _ (V.Sub.refl _) ?_; clear hKq Kq; conv => whnf) | (clear hKq Kq; clear hKq Kq; clear hKq Kq; clear hKq Kq; clear hKq Kq; refine hKq _ _ _ (V.Sub.refl _) ?_; clear hKq Kq; conv => whnf) | (refine And.intro (by omega) ?_; conv => whnf))
    refine hp.kapp sl75 1 rfl (Blk.src TTok (hp.get (i := 0) rfl) rfl rfl (bw_one _)) (by omega) (by unfold maxLen; omega) fun v' w hp => ?_
    simp only [List.set_cons_zero, List.set_cons_succ] at hp
    conv => whnf
    repeat (first | (refine VSeq.mk fun Kq hKq => ?_; conv => whnf) | (refine hKq _ _ _ (V.Sub.refl _) ?_; clear hKq Kq; conv => whnf) | (clear hKq Kq; refine hKq _ _ _ (V.Sub.refl _) ?_; clear hKq Kq; conv => whnf) | (clear hKq Kq; clear hKq Kq; refine hKq _ _ _ (V.Sub.refl _) ?_; clear hKq Kq; conv => whnf) | (clear hKq Kq; clear hKq Kq; clear hKq Kq; refine hKq _ _ _ (V.Sub.refl _) ?_; clear hKq Kq; conv => whnf) | (clear hKq Kq; clear hKq Kq; clear hKq Kq; clear hKq Kq; refine hKq _ _ _ (V.Sub.refl _) ?_; clear hKq Kq; conv => whnf) | (clear hKq Kq; clear hKq Kq; clear hKq Kq; clear hKq Kq; clear hKq Kq; refine hKq _ _ _ (V.Sub.refl _) ?_; clear hKq Kq; conv => whnf) | (refine And.intro (by omega) ?_; conv => whnf))
    refine ⟨m - 1, _, by omega, ⟨i + 1, v', by omega, rfl, ?_⟩, sub_cons (look_int rfl (by rw [hd]; omega)) (sub_cons rfl (sub_cons rfl sub_nil))⟩
    rw [htk, bw_app]; exact hp.tail
  · have hlt := of_decide_eq_false hlt
    conv => whnf
    repeat (first | (refine VSeq.mk fun Kq hKq => ?_; conv => whnf) | (refine hKq _ _ _ (V.Sub.refl _) ?_; clear hKq Kq; conv => whnf) | (clear hKq Kq; refine hKq _ _ _ (V.Sub.refl _) ?_; clear hKq Kq; conv => whnf) | (clear hKq Kq; clear hKq Kq; refine hKq _ _ _ (V.Sub.refl _) ?_; clear hKq Kq; conv => whnf) | (clear hKq Kq; clear hKq Kq; clear hKq Kq; refine hKq _ _ _ (V.Sub.refl _) ?_; clear hKq Kq; conv => whnf) | (clear hKq Kq; clear hKq Kq; clear hKq Kq; clear hKq Kq; refine hKq _ _ _ (V.Sub.refl _) ?_; clear hKq Kq; conv => whnf) | (clear hKq Kq; clear hKq Kq; clear hKq Kq; clear hKq Kq; clear hKq Kq; refine hKq _ _ _ (V.Sub.refl _) ?_; clear hKq Kq; conv => whnf) | (refine And.intro (by omega) ?_; conv => whnf))
    obtain rfl : i = 32 := by omega
    rw [List.take_of_length_le (by rw [coefL_len]; omega)] at hp
    exact hp

theorem rpowers_p (k : Nat) (hk : Kd k) : PureF Try.prog 52 #[.int .i64 k] (.agg (bw (coefL (crcC k))).toArray) := by
  have hk : k = 1 ∨ k = 2 := by unfold Kd at hk; omega
  have hC := crcC_lt k
  have hc1 : k = 2 → crcC k = 2197175160 := fun h => by rw [h]; rfl
  have hc2 : ¬ k = 2 → crcC k = 3988292384 := fun h => by unfold crcC; rw [if_neg h]
  have hL := coefL_len (crcC k)
  have hg := coefL_get (crcC k)
  have htb := testBit_dec (crcC k)
  generalize coefL (crcC k) = cl at *
  generalize crcC k = C at *
  first | refine v_pure TTok FFok Try.func52 rfl rfl fun w0 => ?_ | refine v_pure (args := []) TTok FFok Try.func52 rfl rfl fun w0 => ?_
  conv => whnf
  repeat (first | (refine VSeq.mk fun Kq hKq => ?_; conv => whnf) | (refine hKq _ _ _ (V.Sub.refl _) ?_; clear hKq Kq; conv => whnf) | (clear hKq Kq; refine hKq _ _ _ (V.Sub.refl _) ?_; clear hKq Kq; conv => whnf) | (clear hKq Kq; clear hKq Kq; refine hKq _ _ _ (V.Sub.refl _) ?_; clear hKq Kq; conv => whnf) | (clear hKq Kq; clear hKq Kq; clear hKq Kq; refine hKq _ _ _ (V.Sub.refl _) ?_; clear hKq Kq; conv => whnf) | (clear hKq Kq; clear hKq Kq; clear hKq Kq; clear hKq Kq; refine hKq _ _ _ (V.Sub.refl _) ?_; clear hKq Kq; conv => whnf) | (clear hKq Kq; clear hKq Kq; clear hKq Kq; clear hKq Kq; clear hKq Kq; refine hKq _ _ _ (V.Sub.refl _) ?_; clear hKq Kq; conv => whnf) | (refine And.intro (by omega) ?_; conv => whnf))
  have hp := Hp.nil w0
  refine hp.kalloc z79 fun r w hp hx => ?_
  conv => whnf
  repeat (first | (refine VSeq.mk fun Kq hKq => ?_; conv => whnf) | (refine hKq _ _ _ (V.Sub.refl _) ?_; clear hKq Kq; conv => whnf) | (clear hKq Kq; refine hKq _ _ _ (V.Sub.refl _) ?_; clear hKq Kq; conv => whnf) | (clear hKq Kq; clear hKq Kq; refine hKq _ _ _ (V.Sub.refl _) ?_; clear hKq Kq; conv => whnf) | (clear hKq Kq; clear hKq Kq; clear hKq Kq; refine hKq _ _ _ (V.Sub.refl _) ?_; clear hKq Kq; conv => whnf) | (clear hKq Kq; clear hKq Kq; clear hKq Kq; clear hKq Kq; refine hKq _ _ _ (V.Sub.refl _) ?_; clear hKq Kq; conv => whnf) | (clear hKq Kq; clear hKq Kq; clear hKq Kq; clear hKq Kq; clear hKq Kq; refine hKq _ _ _ (V.Sub.refl _) ?_; clear hKq Kq; conv => whnf) | (refine And.intro (by omega) ?_; conv => whnf))
  clear hx
  refine ⟨fun h2 => ?_, fun h2 => ?_⟩
  · have h2 := of_decide_eq_true h2
    conv => whnf
    repeat (first | (refine VSeq.mk fun Kq hKq => ?_; conv => whnf) | (refine hKq _ _ _ (V.Sub.refl _) ?_; clear hKq Kq; conv => whnf) | (clear hKq Kq; refine hKq _ _ _ (V.Sub.refl _) ?_; clear hKq Kq; conv => whnf) | (clear hKq Kq; clear hKq Kq; refine hKq _ _ _ (V.Sub.refl _) ?_; clear hKq Kq; conv => whnf) | (clear hKq Kq; clear hKq Kq; clear hKq Kq; refine hKq _ _ _ (V.Sub.refl _) ?_; clear hKq Kq; conv => whnf) | (clear hKq Kq; clear hKq Kq; clear hKq Kq; clear hKq Kq; refine hKq _ _ _ (V.Sub.refl _) ?_; clear hKq Kq; conv => whnf) | (clear hKq Kq; clear hKq Kq; clear hKq Kq; clear hKq Kq; clear hKq Kq; refine hKq _ _ _ (V.Sub.refl _) ?_; clear hKq Kq; conv => whnf) | (refine And.intro (by omega) ?_; conv => whnf))
    refine hp.kalloc z79 fun o w hp hx => ?_
    conv => whnf
    repeat (first | (refine VSeq.mk fun Kq hKq => ?_; conv => whnf) | (refine hKq _ _ _ (V.Sub.refl _) ?_; clear hKq Kq; conv => whnf) | (clear hKq Kq; refine hKq _ _ _ (V.Sub.refl _) ?_; clear hKq Kq; conv => whnf) | (clear hKq Kq; clear hKq Kq; refine hKq _ _ _ (V.Sub.refl _) ?_; clear hKq Kq; conv => whnf) | (clear hKq Kq; clear hKq Kq; clear hKq Kq; refine hKq _ _ _ (V.Sub.refl _) ?_; clear hKq Kq; conv => whnf) | (clear hKq Kq; clear hKq Kq; clear hKq Kq; clear hKq Kq; refine hKq _ _ _ (V.Sub.refl _) ?_; clear hKq Kq; conv => whnf) | (clear hKq Kq; clear hKq Kq; clear hKq Kq; clear hKq Kq; clear hKq Kq; refine hKq _ _ _ (V.Sub.refl _) ?_; clear hKq Kq; conv => whnf) | (refine And.intro (by omega) ?_; conv => whnf))
    clear hx
    refine ⟨fun m l w => ∃ i : Nat, m + i = 32 ∧ l = [(2, .v (.pointer (some ⟨r, 0, none⟩))), (3, .v (.int .i64 (C : Nat))), (4, .v (.pointer (some ⟨o, 0, none⟩))), (5, .v (.int .i64 i))] ∧
        Hp w0 w [blk o ((bw cl).take i ++ List.replicate (32 - i) (.bool false)) 79, blk r (List.replicate 32 (.bool false)) 79],
      ⟨32, _, ⟨0, by omega, rfl, hp⟩, sub_cons rfl (sub_cons (look_int rfl (by have := hc1 (by omega); omega)) (sub_cons rfl (sub_cons rfl sub_nil)))⟩, ?_⟩
    clear hp
    repeat clear hp
    rintro m _ w ⟨i, hm, rfl, hp⟩
    have hL2 : (bw cl).length = 32 := by rw [bw_len, hL]
    conv => whnf
    repeat (first | (refine VSeq.mk fun Kq hKq => ?_; conv => whnf) | (refine hKq _ _ _ (V.Sub.refl _) ?_; clear hKq Kq; conv => whnf) | (clear hKq Kq; refine hKq _ _ _ (V.Sub.refl _) ?_; clear hKq Kq; conv => whnf) | (clear hKq Kq; clear hKq Kq; refine hKq _ _ _ (V.Sub.refl _) ?_; clear hKq Kq; conv => whnf) | (clear hKq Kq; clear hKq Kq; clear hKq Kq; refine hKq _ _ _ (V.Sub.refl _) ?_; clear hKq Kq; conv => whnf) | (clear hKq Kq; clear hKq Kq; clear hKq Kq; clear hKq Kq; refine hKq _ _ _ (V.Sub.refl _) ?_; clear hKq Kq; conv => whnf) | (clear hKq Kq; clear hKq Kq; clear hKq Kq; clear hKq Kq; clear hKq Kq; refine hKq _ _ _ (V.Sub.refl _) ?_; clear hKq Kq; conv => whnf) | (refine And.intro (by omega) ?_; conv => whnf))
    refine ⟨fun hlt => ?_, fun hlt => ?_⟩
    · have hlt := of_decide_eq_true hlt
      conv => whnf
      repeat (first | (refine VSeq.mk fun Kq hKq => ?_; conv => whnf) | (refine hKq _ _ _ (V.Sub.refl _) ?_; clear hKq Kq; conv => whnf) | (clear hKq Kq; refine hKq _ _ _ (V.Sub.refl _) ?_; clear hKq Kq; conv => whnf) | (clear hKq Kq; clear hKq Kq; refine hKq _ _ _ (V.Sub.refl _) ?_; clear hKq Kq; conv => whnf) | (clear hKq Kq; clear hKq Kq; clear hKq Kq; refine hKq _ _ _ (V.Sub.refl _) ?_; clear hKq Kq; conv => whnf) | (clear hKq Kq; clear hKq Kq; clear hKq Kq; clear hKq Kq; refine hKq _ _ _ (V.Sub.refl _) ?_; clear hKq Kq; conv => whnf) | (clear hKq Kq; clear hKq Kq; clear hKq Kq; clear hKq Kq; clear hKq Kq; refine hKq _ _ _ (V.Sub.refl _) ?_; clear hKq Kq; conv => whnf) | (refine And.intro (by omega) ?_; conv => whnf))
      have hgi := hg i (by omega)
      have hti := htb i
      have hyl : C / 2 ^ i < 4294967296 := Nat.lt_of_le_of_lt (Nat.div_le_self _ _) hC
      refine ⟨i, ⟨by first | rfl | omega, by omega⟩, ?_⟩
      conv => whnf
      repeat (first | (refine VSeq.mk fun Kq hKq => ?_; conv => whnf) | (refine hKq _ _ _ (V.Sub.refl _) ?_; clear hKq Kq; conv => whnf) | (clear hKq Kq; refine hKq _ _ _ (V.Sub.refl _) ?_; clear hKq Kq; conv => whnf) | (clear hKq Kq; clear hKq Kq; refine hKq _ _ _ (V.Sub.refl _) ?_; clear hKq Kq; conv => whnf) | (clear hKq Kq; clear hKq Kq; clear hKq Kq; refine hKq _ _ _ (V.Sub.refl _) ?_; clear hKq Kq; conv => whnf) | (clear hKq Kq; clear hKq Kq; clear hKq Kq; clear hKq Kq; refine hKq _ _ _ (V.Sub.refl _) ?_; clear hKq Kq; conv => whnf) | (clear hKq Kq; clear hKq Kq; clear hKq Kq; clear hKq Kq; clear hKq Kq; refine hKq _ _ _ (V.Sub.refl _) ?_; clear hKq Kq; conv => whnf) | (refine And.intro (by omega) ?_; conv => whnf))
      have e : ((C : Nat) : Int) / 2 ^ i = ((C / 2 ^ i : Nat) : Int) := by rw [Int.natCast_ediv, Int.natCast_pow]; rfl
      rw [e]
      generalize C.testBit i = tb0 at *
      clear e
      generalize C / 2 ^ i = y at *
      refine ⟨y, 1, y % 2, ⟨by first | rfl | omega, by first | rfl | omega, by omega, by omega⟩, by (dsimp only; exact and_one _), ?_⟩
      conv => whnf
      repeat (first | (refine VSeq.mk fun Kq hKq => ?_; conv => whnf) | (refine hKq _ _ _ (V.Sub.refl _) ?_; clear hKq Kq; conv => whnf) | (clear hKq Kq; refine hKq _ _ _ (V.Sub.refl _) ?_; clear hKq Kq; conv => whnf) | (clear hKq Kq; clear hKq Kq; refine hKq _ _ _ (V.Sub.refl _) ?_; clear hKq Kq; conv => whnf) | (clear hKq Kq; clear hKq Kq; clear hKq Kq; refine hKq _ _ _ (V.Sub.refl _) ?_; clear hKq Kq; conv => whnf) | (clear hKq Kq; clear hKq Kq; clear hKq Kq; clear hKq Kq; refine hKq _ _ _ (V.Sub.refl _) ?_; clear hKq Kq; conv => whnf) | (clear hKq Kq; clear hKq Kq; clear hKq Kq; clear hKq Kq; clear hKq Kq; refine hKq _ _ _ (V.Sub.refl _) ?_; clear hKq Kq; conv => whnf) | (refine And.intro (by omega) ?_; conv => whnf))
      have e2 : (decide (((y % 2 : Nat) : Int) = 1)) = tb0 := by rw [hti]; exact decide_eq_decide.2 (by omega)
      rw [e2]
      refine ⟨i, ⟨by first | rfl | omega, by omega⟩, ?_⟩
      conv => whnf
      repeat (first | (refine VSeq.mk fun Kq hKq => ?_; conv => whnf) | (refine hKq _ _ _ (V.Sub.refl _) ?_; clear hKq Kq; conv => whnf) | (clear hKq Kq; refine hKq _ _ _ (V.Sub.refl _) ?_; clear hKq Kq; conv => whnf) | (clear hKq Kq; clear hKq Kq; refine hKq _ _ _ (V.Sub.refl _) ?_; clear hKq Kq; conv => whnf) | (clear hKq Kq; clear hKq Kq; clear hKq Kq; refine hKq _ _ _ (V.Sub.refl _) ?_; clear hKq Kq; conv => whnf) | (clear hKq Kq; clear hKq Kq; clear hKq Kq; clear hKq Kq; refine hKq _ _ _ (V.Sub.refl _) ?_; clear hKq Kq; conv => whnf) | (clear hKq Kq; clear hKq Kq; clear hKq Kq; clear hKq Kq; clear hKq Kq; refine hKq _ _ _ (V.Sub.refl _) ?_; clear hKq Kq; conv => whnf) | (refine And.intro (by omega) ?_; conv => whnf))
      refine hp.kst1 (off := i) TTok (by rfl) 0 (by rfl) (by rfl) (by rfl) (by rw [List.length_append, List.length_take, List.length_replicate, hL2]; omega) fun w hp => ?_
      try simp only [List.set_cons_zero, List.set_cons_succ, EV.val] at hp
      conv => whnf
      repeat (first | (refine VSeq.mk fun Kq hKq => ?_; conv => whnf) | (refine hKq _ _ _ (V.Sub.refl _) ?_; clear hKq Kq; conv => whnf) | (clear hKq Kq; refine hKq _ _ _ (V.Sub.refl _) ?_; clear hKq Kq; conv => whnf) | (clear hKq Kq; clear hKq Kq; refine hKq _ _ _ (V.Sub.refl _) ?_; clear hKq Kq; conv => whnf) | (clear hKq Kq; clear hKq Kq; clear hKq Kq; refine hKq _ _ _ (V.Sub.refl _) ?_; clear hKq Kq; conv => whnf) | (clear hKq Kq; clear hKq Kq; clear hKq Kq; clear hKq Kq; refine hKq _ _ _ (V.Sub.refl _) ?_; clear hKq Kq; conv => whnf) | (clear hKq Kq; clear hKq Kq; clear hKq Kq; clear hKq Kq; clear hKq Kq; refine hKq _ _ _ (V.Sub.refl _) ?_; clear hKq Kq; conv => whnf) | (refine And.intro (by omega) ?_; conv => whnf))
      rw [set_next (bw cl) _ (Value.bool false) i 32 (by omega) hL2 (bw_get hgi)] at hp
      exact ⟨m - 1, _, by omega, ⟨i + 1, by omega, rfl, hp⟩, sub_cons rfl (sub_cons rfl (sub_cons rfl (sub_cons rfl sub_nil)))⟩
    · have hlt := of_decide_eq_false hlt
      conv => whnf
      repeat (first | (refine VSeq.mk fun Kq hKq => ?_; conv => whnf) | (refine hKq _ _ _ (V.Sub.refl _) ?_; clear hKq Kq; conv => whnf) | (clear hKq Kq; refine hKq _ _ _ (V.Sub.refl _) ?_; clear hKq Kq; conv => whnf) | (clear hKq Kq; clear hKq Kq; refine hKq _ _ _ (V.Sub.refl _) ?_; clear hKq Kq; conv => whnf) | (clear hKq Kq; clear hKq Kq; clear hKq Kq; refine hKq _ _ _ (V.Sub.refl _) ?_; clear hKq Kq; conv => whnf) | (clear hKq Kq; clear hKq Kq; clear hKq Kq; clear hKq Kq; refine hKq _ _ _ (V.Sub.refl _) ?_; clear hKq Kq; conv => whnf) | (clear hKq Kq; clear hKq Kq; clear hKq Kq; clear hKq Kq; clear hKq Kq; refine hKq _ _ _ (V.Sub.refl _) ?_; clear hKq Kq; conv => whnf) | (refine And.intro (by omega) ?_; conv => whnf))
      obtain rfl : i = 32 := by omega
      have hb : (bw cl).take 32 ++ List.replicate (32 - 32) (Value.bool false) = bw cl := by
        rw [List.take_of_length_le (by omega)]; simp
      rw [hb] at hp
      refine ⟨_, _, Blk.ldN (hp.get (i := 0) rfl) TTok rfl (hL2), ?_⟩
      conv => whnf
      repeat (first | (refine VSeq.mk fun Kq hKq => ?_; conv => whnf) | (refine hKq _ _ _ (V.Sub.refl _) ?_; clear hKq Kq; conv => whnf) | (clear hKq Kq; refine hKq _ _ _ (V.Sub.refl _) ?_; clear hKq Kq; conv => whnf) | (clear hKq Kq; clear hKq Kq; refine hKq _ _ _ (V.Sub.refl _) ?_; clear hKq Kq; conv => whnf) | (clear hKq Kq; clear hKq Kq; clear hKq Kq; refine hKq _ _ _ (V.Sub.refl _) ?_; clear hKq Kq; conv => whnf) | (clear hKq Kq; clear hKq Kq; clear hKq Kq; clear hKq Kq; refine hKq _ _ _ (V.Sub.refl _) ?_; clear hKq Kq; conv => whnf) | (clear hKq Kq; clear hKq Kq; clear hKq Kq; clear hKq Kq; clear hKq Kq; refine hKq _ _ _ (V.Sub.refl _) ?_; clear hKq Kq; conv => whnf) | (refine And.intro (by omega) ?_; conv => whnf))
      refine hp.kstA TTok rfl 1 rfl (hL2) (bw_one _) (List.length_replicate) fun w hp => ?_
      try simp only [List.set_cons_zero, List.set_cons_succ, EV.val] at hp
      conv => whnf
      repeat (first | (refine VSeq.mk fun Kq hKq => ?_; conv => whnf) | (refine hKq _ _ _ (V.Sub.refl _) ?_; clear hKq Kq; conv => whnf) | (clear hKq Kq; refine hKq _ _ _ (V.Sub.refl _) ?_; clear hKq Kq; conv => whnf) | (clear hKq Kq; clear hKq Kq; refine hKq _ _ _ (V.Sub.refl _) ?_; clear hKq Kq; conv => whnf) | (clear hKq Kq; clear hKq Kq; clear hKq Kq; refine hKq _ _ _ (V.Sub.refl _) ?_; clear hKq Kq; conv => whnf) | (clear hKq Kq; clear hKq Kq; clear hKq Kq; clear hKq Kq; refine hKq _ _ _ (V.Sub.refl _) ?_; clear hKq Kq; conv => whnf) | (clear hKq Kq; clear hKq Kq; clear hKq Kq; clear hKq Kq; clear hKq Kq; refine hKq _ _ _ (V.Sub.refl _) ?_; clear hKq Kq; conv => whnf) | (refine And.intro (by omega) ?_; conv => whnf))
      exact ⟨_, Blk.lvN (hp.get (i := 1) rfl) TTok rfl hL2, rfl, hp.ext⟩
  · have h2 := of_decide_eq_false h2
    conv => whnf
    repeat (first | (refine VSeq.mk fun Kq hKq => ?_; conv => whnf) | (refine hKq _ _ _ (V.Sub.refl _) ?_; clear hKq Kq; conv => whnf) | (clear hKq Kq; refine hKq _ _ _ (V.Sub.refl _) ?_; clear hKq Kq; conv => whnf) | (clear hKq Kq; clear hKq Kq; refine hKq _ _ _ (V.Sub.refl _) ?_; clear hKq Kq; conv => whnf) | (clear hKq Kq; clear hKq Kq; clear hKq Kq; refine hKq _ _ _ (V.Sub.refl _) ?_; clear hKq Kq; conv => whnf) | (clear hKq Kq; clear hKq Kq; clear hKq Kq; clear hKq Kq; refine hKq _ _ _ (V.Sub.refl _) ?_; clear hKq Kq; conv => whnf) | (clear hKq Kq; clear hKq Kq; clear hKq Kq; clear hKq Kq; clear hKq Kq; refine hKq _ _ _ (V.Sub.refl _) ?_; clear hKq Kq; conv => whnf) | (refine And.intro (by omega) ?_; conv => whnf))
    refine hp.kalloc z79 fun o w hp hx => ?_
    conv => whnf
    repeat (first | (refine VSeq.mk fun Kq hKq => ?_; conv => whnf) | (refine hKq _ _ _ (V.Sub.refl _) ?_; clear hKq Kq; conv => whnf) | (clear hKq Kq; refine hKq _ _ _ (V.Sub.refl _) ?_; clear hKq Kq; conv => whnf) | (clear hKq Kq; clear hKq Kq; refine hKq _ _ _ (V.Sub.refl _) ?_; clear hKq Kq; conv => whnf) | (clear hKq Kq; clear hKq Kq; clear hKq Kq; refine hKq _ _ _ (V.Sub.refl _) ?_; clear hKq Kq; conv => whnf) | (clear hKq Kq; clear hKq Kq; clear hKq Kq; clear hKq Kq; refine hKq _ _ _ (V.Sub.refl _) ?_; clear hKq Kq; conv => whnf) | (clear hKq Kq; clear hKq Kq; clear hKq Kq; clear hKq Kq; clear hKq Kq; refine hKq _ _ _ (V.Sub.refl _) ?_; clear hKq Kq; conv => whnf) | (refine And.intro (by omega) ?_; conv => whnf))
    clear hx
    refine ⟨fun m l w => ∃ i : Nat, m + i = 32 ∧ l = [(2, .v (.pointer (some ⟨r, 0, none⟩))), (3, .v (.int .i64 (C : Nat))), (4, .v (.pointer (some ⟨o, 0, none⟩))), (5, .v (.int .i64 i))] ∧
        Hp w0 w [blk o ((bw cl).take i ++ List.replicate (32 - i) (.bool false)) 79, blk r (List.replicate 32 (.bool false)) 79],
      ⟨32, _, ⟨0, by omega, rfl, hp⟩, sub_cons rfl (sub_cons (look_int rfl (by have := hc2 (by omega); omega)) (sub_cons rfl (sub_cons rfl sub_nil)))⟩, ?_⟩
    clear hp
    repeat clear hp
    rintro m _ w ⟨i, hm, rfl, hp⟩
    have hL2 : (bw cl).length = 32 := by rw [bw_len, hL]
    conv => whnf
    repeat (first | (refine VSeq.mk fun Kq hKq => ?_; conv => whnf) | (refine hKq _ _ _ (V.Sub.refl _) ?_; clear hKq Kq; conv => whnf) | (clear hKq Kq; refine hKq _ _ _ (V.Sub.refl _) ?_; clear hKq Kq; conv => whnf) | (clear hKq Kq; clear hKq Kq; refine hKq _ _ _ (V.Sub.refl _) ?_; clear hKq Kq; conv => whnf) | (clear hKq Kq; clear hKq Kq; clear hKq Kq; refine hKq _ _ _ (V.Sub.refl _) ?_; clear hKq Kq; conv => whnf) | (clear hKq Kq; clear hKq Kq; clear hKq Kq; clear hKq Kq; refine hKq _ _ _ (V.Sub.refl _) ?_; clear hKq Kq; conv => whnf) | (clear hKq Kq; clear hKq Kq; clear hKq Kq; clear hKq Kq; clear hKq Kq; refine hKq _ _ _ (V.Sub.refl _) ?_; clear hKq Kq; conv => whnf) | (refine And.intro (by omega) ?_; conv => whnf))
    refine ⟨fun hlt => ?_, fun hlt => ?_⟩
    · have hlt := of_decide_eq_true hlt
      conv => whnf
      repeat (first | (refine VSeq.mk fun Kq hKq => ?_; conv => whnf) | (refine hKq _ _ _ (V.Sub.refl _) ?_; clear hKq Kq; conv => whnf) | (clear hKq Kq; refine hKq _ _ _ (V.Sub.refl _) ?_; clear hKq Kq; conv => whnf) | (clear hKq Kq; clear hKq Kq; refine hKq _ _ _ (V.Sub.refl _) ?_; clear hKq Kq; conv => whnf) | (clear hKq Kq; clear hKq Kq; clear hKq Kq; refine hKq _ _ _ (V.Sub.refl _) ?_; clear hKq Kq; conv => whnf) | (clear hKq Kq; clear hKq Kq; clear hKq Kq; clear hKq Kq; refine hKq _ _ _ (V.Sub.refl _) ?_; clear hKq Kq; conv => whnf) | (clear hKq Kq; clear hKq Kq; clear hKq Kq; clear hKq Kq; clear hKq Kq; refine hKq _ _ _ (V.Sub.refl _) ?_; clear hKq Kq; conv => whnf) | (refine And.intro (by omega) ?_; conv => whnf))
      have hgi := hg i (by omega)
      have hti := htb i
      have hyl : C / 2 ^ i < 4294967296 := Nat.lt_of_le_of_lt (Nat.div_le_self _ _) hC
      refine ⟨i, ⟨by first | rfl | omega, by omega⟩, ?_⟩
      conv => whnf
      repeat (first | (refine VSeq.mk fun Kq hKq => ?_; conv => whnf) | (refine hKq _ _ _ (V.Sub.refl _) ?_; clear hKq Kq; conv => whnf) | (clear hKq Kq; refine hKq _ _ _ (V.Sub.refl _) ?_; clear hKq Kq; conv => whnf) | (clear hKq Kq; clear hKq Kq; refine hKq _ _ _ (V.Sub.refl _) ?_; clear hKq Kq; conv => whnf) | (clear hKq Kq; clear hKq Kq; clear hKq Kq; refine hKq _ _ _ (V.Sub.refl _) ?_; clear hKq Kq; conv => whnf) | (clear hKq Kq; clear hKq Kq; clear hKq Kq; clear hKq Kq; refine hKq _ _ _ (V.Sub.refl _) ?_; clear hKq Kq; conv => whnf) | (clear hKq Kq; clear hKq Kq; clear hKq Kq; clear hKq Kq; clear hKq Kq; refine hKq _ _ _ (V.Sub.refl _) ?_; clear hKq Kq; conv => whnf) | (refine And.intro (by omega) ?_; conv => whnf))
      have e : ((C : Nat) : Int) / 2 ^ i = ((C / 2 ^ i : Nat) : Int) := by rw [Int.natCast_ediv, Int.natCast_pow]; rfl
      rw [e]
      generalize C.testBit i = tb0 at *
      clear e
      generalize C / 2 ^ i = y at *
      refine ⟨y, 1, y % 2, ⟨by first | rfl | omega, by first | rfl | omega, by omega, by omega⟩, by (dsimp only; exact and_one _), ?_⟩
      conv => whnf
      repeat (first | (refine VSeq.mk fun Kq hKq => ?_; conv => whnf) | (refine hKq _ _ _ (V.Sub.refl _) ?_; clear hKq Kq; conv => whnf) | (clear hKq Kq; refine hKq _ _ _ (V.Sub.refl _) ?_; clear hKq Kq; conv => whnf) | (clear hKq Kq; clear hKq Kq; refine hKq _ _ _ (V.Sub.refl _) ?_; clear hKq Kq; conv => whnf) | (clear hKq Kq; clear hKq Kq; clear hKq Kq; refine hKq _ _ _ (V.Sub.refl _) ?_; clear hKq Kq; conv => whnf) | (clear hKq Kq; clear hKq Kq; clear hKq Kq; clear hKq Kq; refine hKq _ _ _ (V.Sub.refl _) ?_; clear hKq Kq; conv => whnf) | (clear hKq Kq; clear hKq Kq; clear hKq Kq; clear hKq Kq; clear hKq Kq; refine hKq _ _ _ (V.Sub.refl _) ?_; clear hKq Kq; conv => whnf) | (refine And.intro (by omega) ?_; conv => whnf))
      have e2 : (decide (((y % 2 : Nat) : Int) = 1)) = tb0 := by rw [hti]; exact decide_eq_decide.2 (by omega)
      rw [e2]
      refine ⟨i, ⟨by first | rfl | omega, by omega⟩, ?_⟩
      conv => whnf
      repeat (first | (refine VSeq.mk fun Kq hKq => ?_; conv => whnf) | (refine hKq _ _ _ (V.Sub.refl _) ?_; clear hKq Kq; conv => whnf) | (clear hKq Kq; refine hKq _ _ _ (V.Sub.refl _) ?_; clear hKq Kq; conv => whnf) | (clear hKq Kq; clear hKq Kq; refine hKq _ _ _ (V.Sub.refl _) ?_; clear hKq Kq; conv => whnf) | (clear hKq Kq; clear hKq Kq; clear hKq Kq; refine hKq _ _ _ (V.Sub.refl _) ?_; clear hKq Kq; conv => whnf) | (clear hKq Kq; clear hKq Kq; clear hKq Kq; clear hKq Kq; refine hKq _ _ _ (V.Sub.refl _) ?_; clear hKq Kq; conv => whnf) | (clear hKq Kq; clear hKq Kq; clear hKq Kq; clear hKq Kq; clear hKq Kq; refine hKq _ _ _ (V.Sub.refl _) ?_; clear hKq Kq; conv => whnf) | (refine And.intro (by omega) ?_; conv => whnf))
      refine hp.kst1 (off := i) TTok (by rfl) 0 (by rfl) (by rfl) (by rfl) (by rw [List.length_append, List.length_take, List.length_replicate, hL2]; omega) fun w hp => ?_
      try simp only [List.set_cons_zero, List.set_cons_succ, EV.val] at hp
      conv => whnf
      repeat (first | (refine VSeq.mk fun Kq hKq => ?_; conv => whnf) | (refine hKq _ _ _ (V.Sub.refl _) ?_; clear hKq Kq; conv => whnf) | (clear hKq Kq; refine hKq _ _ _ (V.Sub.refl _) ?_; clear hKq Kq; conv => whnf) | (clear hKq Kq; clear hKq Kq; refine hKq _ _ _ (V.Sub.refl _) ?_; clear hKq Kq; conv => whnf) | (clear hKq Kq; clear hKq Kq; clear hKq Kq; refine hKq _ _ _ (V.Sub.refl _) ?_; clear hKq Kq; conv => whnf) | (clear hKq Kq; clear hKq Kq; clear hKq Kq; clear hKq Kq; refine hKq _ _ _ (V.Sub.refl _) ?_; clear hKq Kq; conv => whnf) | (clear hKq Kq; clear hKq Kq; clear hKq Kq; clear hKq Kq; clear hKq Kq; refine hKq _ _ _ (V.Sub.refl _) ?_; clear hKq Kq; conv => whnf) | (refine And.intro (by omega) ?_; conv => whnf))
      rw [set_next (bw cl) _ (Value.bool false) i 32 (by omega) hL2 (bw_get hgi)] at hp
      exact ⟨m - 1, _, by omega, ⟨i + 1, by omega, rfl, hp⟩, sub_cons rfl (sub_cons rfl (sub_cons rfl (sub_cons rfl sub_nil)))⟩
    · have hlt := of_decide_eq_false hlt
      conv => whnf
      repeat (first | (refine VSeq.mk fun Kq hKq => ?_; conv => whnf) | (refine hKq _ _ _ (V.Sub.refl _) ?_; clear hKq Kq; conv => whnf) | (clear hKq Kq; refine hKq _ _ _ (V.Sub.refl _) ?_; clear hKq Kq; conv => whnf) | (clear hKq Kq; clear hKq Kq; refine hKq _ _ _ (V.Sub.refl _) ?_; clear hKq Kq; conv => whnf) | (clear hKq Kq; clear hKq Kq; clear hKq Kq; refine hKq _ _ _ (V.Sub.refl _) ?_; clear hKq Kq; conv => whnf) | (clear hKq Kq; clear hKq Kq; clear hKq Kq; clear hKq Kq; refine hKq _ _ _ (V.Sub.refl _) ?_; clear hKq Kq; conv => whnf) | (clear hKq Kq; clear hKq Kq; clear hKq Kq; clear hKq Kq; clear hKq Kq; refine hKq _ _ _ (V.Sub.refl _) ?_; clear hKq Kq; conv => whnf) | (refine And.intro (by omega) ?_; conv => whnf))
      obtain rfl : i = 32 := by omega
      have hb : (bw cl).take 32 ++ List.replicate (32 - 32) (Value.bool false) = bw cl := by
        rw [List.take_of_length_le (by omega)]; simp
      rw [hb] at hp
      refine ⟨_, _, Blk.ldN (hp.get (i := 0) rfl) TTok rfl (hL2), ?_⟩
      conv => whnf
      repeat (first | (refine VSeq.mk fun Kq hKq => ?_; conv => whnf) | (refine hKq _ _ _ (V.Sub.refl _) ?_; clear hKq Kq; conv => whnf) | (clear hKq Kq; refine hKq _ _ _ (V.Sub.refl _) ?_; clear hKq Kq; conv => whnf) | (clear hKq Kq; clear hKq Kq; refine hKq _ _ _ (V.Sub.refl _) ?_; clear hKq Kq; conv => whnf) | (clear hKq Kq; clear hKq Kq; clear hKq Kq; refine hKq _ _ _ (V.Sub.refl _) ?_; clear hKq Kq; conv => whnf) | (clear hKq Kq; clear hKq Kq; clear hKq Kq; clear hKq Kq; refine hKq _ _ _ (V.Sub.refl _) ?_; clear hKq Kq; conv => whnf) | (clear hKq Kq; clear hKq Kq; clear hKq Kq; clear hKq Kq; clear hKq Kq; refine hKq _ _ _ (V.Sub.refl _) ?_; clear hKq Kq; conv => whnf) | (refine And.intro (by omega) ?_; conv => whnf))
      refine hp.kstA TTok rfl 1 rfl (hL2) (bw_one _) (List.length_replicate) fun w hp => ?_
      try simp only [List.set_cons_zero, List.set_cons_succ, EV.val] at hp
      conv => whnf
      repeat (first | (refine VSeq.mk fun Kq hKq => ?_; conv => whnf) | (refine hKq _ _ _ (V.Sub.refl _) ?_; clear hKq Kq; conv => whnf) | (clear hKq Kq; refine hKq _ _ _ (V.Sub.refl _) ?_; clear hKq Kq; conv => whnf) | (clear hKq Kq; clear hKq Kq; refine hKq _ _ _ (V.Sub.refl _) ?_; clear hKq Kq; conv => whnf) | (clear hKq Kq; clear hKq Kq; clear hKq Kq; refine hKq _ _ _ (V.Sub.refl _) ?_; clear hKq Kq; conv => whnf) | (clear hKq Kq; clear hKq Kq; clear hKq Kq; clear hKq Kq; refine hKq _ _ _ (V.Sub.refl _) ?_; clear hKq Kq; conv => whnf) | (clear hKq Kq; clear hKq Kq; clear hKq Kq; clear hKq Kq; clear hKq Kq; refine hKq _ _ _ (V.Sub.refl _) ?_; clear hKq Kq; conv => whnf) | (refine And.intro (by omega) ?_; conv => whnf))
      exact ⟨_, Blk.lvN (hp.get (i := 1) rfl) TTok rfl hL2, rfl, hp.ext⟩

theorem number_p (R : Nat) (hR : R < 4294967296) : PureF Try.prog 36 #[.agg (bw (coefL R)).toArray] (.int .i64 R) := by
  first | refine v_pure TTok FFok Try.func36 rfl rfl fun w0 => ?_ | refine v_pure (args := []) TTok FFok Try.func36 rfl rfl fun w0 => ?_
  conv => whnf
  repeat (first | (refine VSeq.mk fun Kq hKq => ?_; conv => whnf) | (refine hKq _ _ _ (V.Sub.refl _) ?_; clear hKq Kq; conv => whnf) | (clear hKq Kq; refine hKq _ _ _ (V.Sub.refl _) ?_; clear hKq Kq; conv => whnf) | (clear hKq Kq; clear hKq Kq; refine hKq _ _ _ (V.Sub.refl _) ?_; clear hKq Kq; conv => whnf) | (clear hKq Kq; clear hKq Kq; clear hKq Kq; refine hKq _ _ _ (V.Sub.refl _) ?_; clear hKq Kq; conv => whnf) | (clear hKq Kq; clear hKq Kq; clear hKq Kq; clear hKq Kq; refine hKq _ _ _ (V.Sub.refl _) ?_; clear hKq Kq; conv => whnf) | (clear hKq Kq; clear hKq Kq; clear hKq Kq; clear hKq Kq; clear hKq Kq; refine hKq _ _ _ (V.Sub.refl _) ?_; clear hKq Kq; conv => whnf) | (refine And.intro (by omega) ?_; conv => whnf))
  have hp := Hp.nil w0
  refine hp.kbox (bw (coefL R)) rfl fun b w hp hx => ?_
  conv => whnf
  repeat (first | (refine VSeq.mk fun Kq hKq => ?_; conv => whnf) | (refine hKq _ _ _ (V.Sub.refl _) ?_; clear hKq Kq; conv => whnf) | (clear hKq Kq; refine hKq _ _ _ (V.Sub.refl _) ?_; clear hKq Kq; conv => whnf) | (clear hKq Kq; clear hKq Kq; refine hKq _ _ _ (V.Sub.refl _) ?_; clear hKq Kq; conv => whnf) | (clear hKq Kq; clear hKq Kq; clear hKq Kq; refine hKq _ _ _ (V.Sub.refl _) ?_; clear hKq Kq; conv => whnf) | (clear hKq Kq; clear hKq Kq; clear hKq Kq; clear hKq Kq; refine hKq _ _ _ (V.Sub.refl _) ?_; clear hKq Kq; conv => whnf) | (clear hKq Kq; clear hKq Kq; clear hKq Kq; clear hKq Kq; clear hKq Kq; refine hKq _ _ _ (V.Sub.refl _) ?_; clear hKq Kq; conv => whnf) | (refine And.intro (by omega) ?_; conv => whnf))
  clear hx
  refine ⟨fun m l w => m ≤ 32 ∧ l = [(1, .v (.pointer (some ⟨b, 0, none⟩))), (3, .v (.int .i64 (R / 2 ^ m : Nat))), (4, .v (.int .i64 ((m : Int) - 1)))] ∧ Hp w0 w [blk b (bw (coefL R)) 79],
    ⟨32, _, ⟨by omega, rfl, hp⟩, sub_cons rfl (sub_cons (look_int rfl (by rw [Nat.div_eq_of_lt (show R < 2 ^ 32 from hR)]; rfl)) (sub_cons rfl sub_nil))⟩, ?_⟩
  clear hp
  repeat clear hp
  rintro m _ w ⟨hm, rfl, hp⟩
  conv => whnf
  repeat (first | (refine VSeq.mk fun Kq hKq => ?_; conv => whnf) | (refine hKq _ _ _ (V.Sub.refl _) ?_; clear hKq Kq; conv => whnf) | (clear hKq Kq; refine hKq _ _ _ (V.Sub.refl _) ?_; clear hKq Kq; conv => whnf) | (clear hKq Kq; clear hKq Kq; refine hKq _ _ _ (V.Sub.refl _) ?_; clear hKq Kq; conv => whnf) | (clear hKq Kq; clear hKq Kq; clear hKq Kq; refine hKq _ _ _ (V.Sub.refl _) ?_; clear hKq Kq; conv => whnf) | (clear hKq Kq; clear hKq Kq; clear hKq Kq; clear hKq Kq; refine hKq _ _ _ (V.Sub.refl _) ?_; clear hKq Kq; conv => whnf) | (clear hKq Kq; clear hKq Kq; clear hKq Kq; clear hKq Kq; clear hKq Kq; refine hKq _ _ _ (V.Sub.refl _) ?_; clear hKq Kq; conv => whnf) | (refine And.intro (by omega) ?_; conv => whnf))
  refine ⟨fun hlt => ?_, fun hlt => ?_⟩
  · have hlt := of_decide_eq_true hlt
    conv => whnf
    repeat (first | (refine VSeq.mk fun Kq hKq => ?_; conv => whnf) | (refine hKq _ _ _ (V.Sub.refl _) ?_; clear hKq Kq; conv => whnf) | (clear hKq Kq; refine hKq _ _ _ (V.Sub.refl _) ?_; clear hKq Kq; conv => whnf) | (clear hKq Kq; clear hKq Kq; refine hKq _ _ _ (V.Sub.refl _) ?_; clear hKq Kq; conv => whnf) | (clear hKq Kq; clear hKq Kq; clear hKq Kq; refine hKq _ _ _ (V.Sub.refl _) ?_; clear hKq Kq; conv => whnf) | (clear hKq Kq; clear hKq Kq; clear hKq Kq; clear hKq Kq; refine hKq _ _ _ (V.Sub.refl _) ?_; clear hKq Kq; conv => whnf) | (clear hKq Kq; clear hKq Kq; clear hKq Kq; clear hKq Kq; clear hKq Kq; refine hKq _ _ _ (V.Sub.refl _) ?_; clear hKq Kq; conv => whnf) | (refine And.intro (by omega) ?_; conv => whnf))
    obtain ⟨j, rfl⟩ : ∃ j, m = j + 1 := ⟨m - 1, by omega⟩
    have hg := coefL_get R j (by omega)
    have htb := testBit_dec R j
    have hd : R / 2 ^ (j + 1) = R / 2 ^ j / 2 := by rw [Nat.pow_succ, Nat.div_div_eq_div_mul]
    have hyl : R / 2 ^ j < 4294967296 := Nat.lt_of_le_of_lt (Nat.div_le_self _ _) hR
    rw [hd]
    refine And.intro (by generalize R / 2 ^ j = y at *; omega) ?_
    conv => whnf
    repeat (first | (refine VSeq.mk fun Kq hKq => ?_; conv => whnf) | (refine hKq _ _ _ (V.Sub.refl _) ?_; clear hKq Kq; conv => whnf) | (clear hKq Kq; refine hKq _ _ _ (V.Sub.refl _) ?_; clear hKq Kq; conv => whnf) | (clear hKq Kq; clear hKq Kq; refine hKq _ _ _ (V.Sub.refl _) ?_; clear hKq Kq; conv => whnf) | (clear hKq Kq; clear hKq Kq; clear hKq Kq; refine hKq _ _ _ (V.Sub.refl _) ?_; clear hKq Kq; conv => whnf) | (clear hKq Kq; clear hKq Kq; clear hKq Kq; clear hKq Kq; refine hKq _ _ _ (V.Sub.refl _) ?_; clear hKq Kq; conv => whnf) | (clear hKq Kq; clear hKq Kq; clear hKq Kq; clear hKq Kq; clear hKq Kq; refine hKq _ _ _ (V.Sub.refl _) ?_; clear hKq Kq; conv => whnf) | (refine And.intro (by omega) ?_; conv => whnf))
    refine ⟨j, ⟨by first | rfl | omega, by omega⟩, ?_⟩
    conv => whnf
    repeat (first | (refine VSeq.mk fun Kq hKq => ?_; conv => whnf) | (refine hKq _ _ _ (V.Sub.refl _) ?_; clear hKq Kq; conv => whnf) | (clear hKq Kq; refine hKq _ _ _ (V.Sub.refl _) ?_; clear hKq Kq; conv => whnf) | (clear hKq Kq; clear hKq Kq; refine hKq _ _ _ (V.Sub.refl _) ?_; clear hKq Kq; conv => whnf) | (clear hKq Kq; clear hKq Kq; clear hKq Kq; refine hKq _ _ _ (V.Sub.refl _) ?_; clear hKq Kq; conv => whnf) | (clear hKq Kq; clear hKq Kq; clear hKq Kq; clear hKq Kq; refine hKq _ _ _ (V.Sub.refl _) ?_; clear hKq Kq; conv => whnf) | (clear hKq Kq; clear hKq Kq; clear hKq Kq; clear hKq Kq; clear hKq Kq; refine hKq _ _ _ (V.Sub.refl _) ?_; clear hKq Kq; conv => whnf) | (refine And.intro (by omega) ?_; conv => whnf))
    refine ⟨_, _, Blk.ld (hp.get (i := 0) rfl) TTok rfl (bw_get hg), ?_⟩
    conv => whnf
    repeat (first | (refine VSeq.mk fun Kq hKq => ?_; conv => whnf) | (refine hKq _ _ _ (V.Sub.refl _) ?_; clear hKq Kq; conv => whnf) | (clear hKq Kq; refine hKq _ _ _ (V.Sub.refl _) ?_; clear hKq Kq; conv => whnf) | (clear hKq Kq; clear hKq Kq; refine hKq _ _ _ (V.Sub.refl _) ?_; clear hKq Kq; conv => whnf) | (clear hKq Kq; clear hKq Kq; clear hKq Kq; refine hKq _ _ _ (V.Sub.refl _) ?_; clear hKq Kq; conv => whnf) | (clear hKq Kq; clear hKq Kq; clear hKq Kq; clear hKq Kq; refine hKq _ _ _ (V.Sub.refl _) ?_; clear hKq Kq; conv => whnf) | (clear hKq Kq; clear hKq Kq; clear hKq Kq; clear hKq Kq; clear hKq Kq; refine hKq _ _ _ (V.Sub.refl _) ?_; clear hKq Kq; conv => whnf) | (refine And.intro (by omega) ?_; conv => whnf))
    rw [htb]
    generalize hy : R / 2 ^ j = y at *
    refine ⟨fun hb => ?_, fun hb => ?_⟩
    · have hb := of_decide_eq_true hb
      conv => whnf
      repeat (first | (refine VSeq.mk fun Kq hKq => ?_; conv => whnf) | (refine hKq _ _ _ (V.Sub.refl _) ?_; clear hKq Kq; conv => whnf) | (clear hKq Kq; refine hKq _ _ _ (V.Sub.refl _) ?_; clear hKq Kq; conv => whnf) | (clear hKq Kq; clear hKq Kq; refine hKq _ _ _ (V.Sub.refl _) ?_; clear hKq Kq; conv => whnf) | (clear hKq Kq; clear hKq Kq; clear hKq Kq; refine hKq _ _ _ (V.Sub.refl _) ?_; clear hKq Kq; conv => whnf) | (clear hKq Kq; clear hKq Kq; clear hKq Kq; clear hKq Kq; refine hKq _ _ _ (V.Sub.refl _) ?_; clear hKq Kq; conv => whnf) | (clear hKq Kq; clear hKq Kq; clear hKq Kq; clear hKq Kq; clear hKq Kq; refine hKq _ _ _ (V.Sub.refl _) ?_; clear hKq Kq; conv => whnf) | (refine And.intro (by omega) ?_; conv => whnf))
      exact ⟨j, _, by omega, ⟨by omega, rfl, hp⟩, sub_cons rfl (sub_cons (look_int rfl (by rw [hy]; omega)) (sub_cons (look_int rfl (by omega)) sub_nil))⟩
    · have hb := of_decide_eq_false hb
      conv => whnf
      repeat (first | (refine VSeq.mk fun Kq hKq => ?_; conv => whnf) | (refine hKq _ _ _ (V.Sub.refl _) ?_; clear hKq Kq; conv => whnf) | (clear hKq Kq; refine hKq _ _ _ (V.Sub.refl _) ?_; clear hKq Kq; conv => whnf) | (clear hKq Kq; clear hKq Kq; refine hKq _ _ _ (V.Sub.refl _) ?_; clear hKq Kq; conv => whnf) | (clear hKq Kq; clear hKq Kq; clear hKq Kq; refine hKq _ _ _ (V.Sub.refl _) ?_; clear hKq Kq; conv => whnf) | (clear hKq Kq; clear hKq Kq; clear hKq Kq; clear hKq Kq; refine hKq _ _ _ (V.Sub.refl _) ?_; clear hKq Kq; conv => whnf) | (clear hKq Kq; clear hKq Kq; clear hKq Kq; clear hKq Kq; clear hKq Kq; refine hKq _ _ _ (V.Sub.refl _) ?_; clear hKq Kq; conv => whnf) | (refine And.intro (by omega) ?_; conv => whnf))
      exact ⟨j, _, by omega, ⟨by omega, rfl, hp⟩, sub_cons rfl (sub_cons (look_int rfl (by rw [hy]; omega)) (sub_cons (look_int rfl (by omega)) sub_nil))⟩
  · have hlt := of_decide_eq_false hlt
    conv => whnf
    repeat (first | (refine VSeq.mk fun Kq hKq => ?_; conv => whnf) | (refine hKq _ _ _ (V.Sub.refl _) ?_; clear hKq Kq; conv => whnf) | (clear hKq Kq; refine hKq _ _ _ (V.Sub.refl _) ?_; clear hKq Kq; conv => whnf) | (clear hKq Kq; clear hKq Kq; refine hKq _ _ _ (V.Sub.refl _) ?_; clear hKq Kq; conv => whnf) | (clear hKq Kq; clear hKq Kq; clear hKq Kq; refine hKq _ _ _ (V.Sub.refl _) ?_; clear hKq Kq; conv => whnf) | (clear hKq Kq; clear hKq Kq; clear hKq Kq; clear hKq Kq; refine hKq _ _ _ (V.Sub.refl _) ?_; clear hKq Kq; conv => whnf) | (clear hKq Kq; clear hKq Kq; clear hKq Kq; clear hKq Kq; clear hKq Kq; refine hKq _ _ _ (V.Sub.refl _) ?_; clear hKq Kq; conv => whnf) | (refine And.intro (by omega) ?_; conv => whnf))
    obtain rfl : m = 0 := by omega
    exact ⟨V.ret_int (by simp), hp.ext⟩
end Go.Proofs.Ytfcppphchicdfaa
