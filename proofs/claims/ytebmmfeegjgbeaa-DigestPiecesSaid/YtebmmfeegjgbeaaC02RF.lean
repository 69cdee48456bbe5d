/- Chapter 02: the reference's constants. -/
import Derived.Test.YtebmmfeegjgbeaaC02RE
namespace Go.Proofs.Ytebmmfeegjgbeaa
set_option linter.unusedSimpArgs false
set_option linter.unusedVariables false
open Go.RowKit V
set_option maxRecDepth 100000
theorem radd64_x (x y c : Nat) : extP Try.prog 77 #[.int .u64 x, .int .u64 y, .int .u64 c] (add64Entry #[.int .u64 x, .int .u64 y, .int .u64 c]) := fun w => by
  rw [run_callFunc_extern (f := 77) (e := add64Entry) Try.func77 (by kernel_rfl) (by kernel_rfl) (by kernel_rfl) (by kernel_rfl), Sem.run_bind]
  rfl
theorem radd64_r (x y c : Nat) (hc : c ≤ 1) (w : World) : (add64Entry #[.int .u64 x, .int .u64 y, .int .u64 c]).run Try.prog w = .ok (.tuple #[.int .u64 ((x + y + c) % 18446744073709551616 : Nat), .int .u64 ((x + y + c) / 18446744073709551616 : Nat)]) w := by
  rw [run_add64 x y c (by omega) (by omega) (by omega) (by omega)]
  congr 4 <;> simp <;> omega
theorem sq_lt8 {x : Nat} (hx : x < 274877906944) : x * x < 75557863725914323419136 := Nat.mul_lt_mul'' hx hx
set_option maxHeartbeats 4000000 in
theorem below2 (x p : Nat) (hx : x < 274877906944) (hp31 : p < 2147483648) : PureF Try.prog 68 #[.int .u64 x, .int .u64 p, .int .i64 2] (.bool (sqrE p x)) := by
  have m1 := Mul64_p x x (by omega) (by omega)
  unfold sqrE
  obtain ⟨hi, hhd⟩ : ∃ hi, x * x / M64 = hi := ⟨_, rfl⟩
  obtain ⟨lo, hld⟩ : ∃ lo, x * x % M64 = lo := ⟨_, rfl⟩
  rw [hhd, hld] at m1 ⊢
  clear hhd hld
  first | refine v_pure TTok FFok Try.func68 rfl rfl fun w0 => ?_ | refine v_pure (args := []) TTok FFok Try.func68 rfl rfl fun w0 => ?_
  conv => whnf
  refine VSeq.mk fun Kq hKq => ?_
  conv => whnf
  refine hKq _ _ _ (V.Sub.refl _) ?_
  clear hKq Kq
  conv => whnf
  refine VSeq.mk fun Kq hKq => ?_
  conv => whnf
  have hp := Hp.nil w0
  refine PureF.use (m1) fun w hx => ?_
  try (have hp := hp.call hx)
  conv => whnf
  refine hKq _ _ _ (V.Sub.refl _) ?_
  clear hKq Kq
  conv => whnf
  refine VSeq.mk fun Kq hKq => ?_
  conv => whnf
  refine VSeq.mk fun Kq hKq => ?_
  conv => whnf
  refine hKq _ _ _ (V.Sub.refl _) ?_
  clear hKq Kq
  conv => whnf
  refine And.intro (fun _ => ?_) (fun h => absurd (rfl) (of_decide_eq_false h))
  conv => whnf
  refine VSeq.mk fun Kq hKq => ?_
  conv => whnf
  refine VSeq.mk fun Kq hKq => ?_
  conv => whnf
  refine hKq _ _ _ (V.Sub.refl _) ?_
  clear hKq Kq
  conv => whnf
  refine ⟨fun h1 => ?_, fun h1 => ?_⟩
  · have h1 := of_decide_eq_true h1
    conv => whnf
    refine hKq _ _ _ (V.Sub.refl _) ?_
    clear hKq Kq
    conv => whnf
    refine ⟨?_, hp.ext⟩
    rw [decide_eq_true (show hi < p by omega), Bool.true_or]
    rfl
  · have h1 := of_decide_eq_false h1
    conv => whnf
    refine ⟨fun h2 => ?_, fun h2 => ?_⟩
    · have h2 := of_decide_eq_true h2
      conv => whnf
      refine hKq _ _ _ (V.Sub.refl _) ?_
      clear hKq Kq
      conv => whnf
      refine ⟨?_, hp.ext⟩
      rw [decide_eq_false (show ¬ hi < p by omega), Bool.false_or, decide_eq_true (show hi = p by omega), Bool.true_and]
      show Value.bool (decide ((lo : Int) = 0)) = _
      exact congrArg Value.bool (decide_eq_decide.2 (by omega))
    · have h2 := of_decide_eq_false h2
      conv => whnf
      refine hKq _ _ _ (V.Sub.refl _) ?_
      clear hKq Kq
      conv => whnf
      refine ⟨?_, hp.ext⟩
      rw [decide_eq_false (show ¬ hi < p by omega), Bool.false_or, decide_eq_false (show ¬ hi = p by omega), Bool.false_and]
      first | rfl | (show Value.bool (decide ((hi : Int) = (p : Int))) = _; exact congrArg Value.bool (decide_eq_false (by omega)))
set_option maxHeartbeats 4000000 in
theorem below3 (x p : Nat) (hx : x < 274877906944) (hp31 : p < 2147483648) : PureF Try.prog 68 #[.int .u64 x, .int .u64 p, .int .i64 3] (.bool (cubE p x)) := by
  have hsq := sq_lt8 hx
  have m1 := Mul64_p x x (by omega) (by omega)
  have hlo : x * x % M64 < M64 := Nat.mod_lt _ (by decide)
  have hhi : x * x / M64 < 4096 := Nat.div_lt_of_lt_mul (by omega)
  have m2 := Mul64_p (x * x % M64) x (by omega) (by omega)
  have m3 := Mul64_p (x * x / M64) x (by omega) (by omega)
  unfold cubE
  obtain ⟨hi, hhd⟩ : ∃ hi, x * x / M64 = hi := ⟨_, rfl⟩
  obtain ⟨lo, hld⟩ : ∃ lo, x * x % M64 = lo := ⟨_, rfl⟩
  rw [hhd] at m1 m3 hhi ⊢
  rw [hld] at m1 m2 hlo ⊢
  have htop : lo * x / M64 < 274877906944 := Nat.div_lt_of_lt_mul (Nat.mul_lt_mul'' hlo hx)
  obtain ⟨top, htd⟩ : ∃ top, lo * x / M64 = top := ⟨_, rfl⟩
  obtain ⟨a, had⟩ : ∃ a, lo * x % M64 = a := ⟨_, rfl⟩
  rw [htd] at m2 htop ⊢
  rw [had] at m2 ⊢
  have hhx : hi * x < 1125899906842624 := Nat.mul_lt_mul'' hhi hx
  obtain ⟨d, hdd⟩ : ∃ d, hi * x = d := ⟨_, rfl⟩
  rw [hdd] at hhx m3 ⊢
  rw [show d / 18446744073709551616 = 0 by omega, show d % 18446744073709551616 = d by omega] at m3
  clear hhd hld htd had hsq hlo hdd
  first | refine v_pure TTok FFok Try.func68 rfl rfl fun w0 => ?_ | refine v_pure (args := []) TTok FFok Try.func68 rfl rfl fun w0 => ?_
  conv => whnf
  refine VSeq.mk fun Kq hKq => ?_
  conv => whnf
  refine hKq _ _ _ (V.Sub.refl _) ?_
  clear hKq Kq
  conv => whnf
  refine VSeq.mk fun Kq hKq => ?_
  conv => whnf
  have hp := Hp.nil w0
  refine PureF.use (m1) fun w hx => ?_
  try (have hp := hp.call hx)
  conv => whnf
  refine hKq _ _ _ (V.Sub.refl _) ?_
  clear hKq Kq
  conv => whnf
  refine VSeq.mk fun Kq hKq => ?_
  conv => whnf
  refine VSeq.mk fun Kq hKq => ?_
  conv => whnf
  refine hKq _ _ _ (V.Sub.refl _) ?_
  clear hKq Kq
  conv => whnf
  refine And.intro (fun h => absurd (of_decide_eq_true h) ((by decide))) (fun _ => ?_)
  conv => whnf
  refine hKq _ _ _ (V.Sub.refl _) ?_
  clear hKq Kq
  conv => whnf
  refine VSeq.mk fun Kq hKq => ?_
  conv => whnf
  refine PureF.use (m2) fun w hx => ?_
  try (have hp := hp.call hx)
  conv => whnf
  refine hKq _ _ _ (V.Sub.refl _) ?_
  clear hKq Kq
  conv => whnf
  refine VSeq.mk fun Kq hKq => ?_
  conv => whnf
  refine PureF.use (m3) fun w hx => ?_
  try (have hp := hp.call hx)
  conv => whnf
  refine hKq _ _ _ (V.Sub.refl _) ?_
  clear hKq Kq
  conv => whnf
  refine VSeq.mk fun Kq hKq => ?_
  conv => whnf
  refine ⟨_, radd64_x top d 0, _, _, radd64_r top d 0 (by decide) _, ?_⟩
  rw [show (top + d + 0) / 18446744073709551616 = 0 by omega, show (top + d + 0) % 18446744073709551616 = d + top by omega]
  conv => whnf
  refine hKq _ _ _ (V.Sub.refl _) ?_
  clear hKq Kq
  conv => whnf
  refine VSeq.mk fun Kq hKq => ?_
  conv => whnf
  refine hKq _ _ _ (V.Sub.refl _) ?_
  clear hKq Kq
  conv => whnf
  refine VSeq.mk fun Kq hKq => ?_
  conv => whnf
  refine VSeq.mk fun Kq hKq => ?_
  conv => whnf
  refine hKq _ _ _ (V.Sub.refl _) ?_
  clear hKq Kq
  conv => whnf
  refine And.intro (fun _ => ?_) (fun h => absurd (rfl) (of_decide_eq_false h))
  conv => whnf
  refine ⟨32, ⟨by first | rfl | omega, by omega⟩, ?_⟩
  conv => whnf
  have hpe : ((p : Nat) : Int) * 2 ^ 32 % 18446744073709551616 = ((p * 4294967296 : Nat) : Int) := by omega
  rw [hpe]
  obtain ⟨Y, hY⟩ : ∃ Y, d + top = Y := ⟨_, rfl⟩
  obtain ⟨Q, hQ⟩ : ∃ Q, p * 4294967296 = Q := ⟨_, rfl⟩
  rw [hQ] at hpe
  rw [hY, hQ]
  refine ⟨fun h1 => ?_, fun h1 => ?_⟩
  · have h1 := of_decide_eq_true h1
    conv => whnf
    refine hKq _ _ _ (V.Sub.refl _) ?_
    clear hKq Kq
    conv => whnf
    refine ⟨?_, hp.ext⟩
    rw [hY, hQ, decide_eq_true (show Y < Q by omega), Bool.true_or]
    rfl
  · have h1 := of_decide_eq_false h1
    conv => whnf
    refine ⟨32, ⟨by first | rfl | omega, by omega⟩, ?_⟩
    conv => whnf
    rw [hpe]
    refine ⟨fun h2 => ?_, fun h2 => ?_⟩
    · have h2 := of_decide_eq_true h2
      conv => whnf
      refine hKq _ _ _ (V.Sub.refl _) ?_
      clear hKq Kq
      conv => whnf
      refine ⟨?_, hp.ext⟩
      rw [hY, hQ, decide_eq_false (show ¬ Y < Q by omega), Bool.false_or, decide_eq_true (show Y = Q by omega), Bool.true_and]
      show Value.bool (decide ((a : Int) = 0)) = _
      exact congrArg Value.bool (decide_eq_decide.2 (by omega))
    · have h2 := of_decide_eq_false h2
      conv => whnf
      refine hKq _ _ _ (V.Sub.refl _) ?_
      clear hKq Kq
      conv => whnf
      refine ⟨?_, hp.ext⟩
      rw [hY, hQ, decide_eq_false (show ¬ Y < Q by omega), Bool.false_or, decide_eq_false (show ¬ Y = Q by omega), Bool.false_and]
      first | rfl | (show Value.bool (decide ((Y : Int) = (Q : Int))) = _; exact congrArg Value.bool (decide_eq_false (by omega)))
/-- the greatest number below, by halves -/
def rbJ (E : Nat → Bool) : Nat → Nat
  | 0 => 0
  | j + 1 => if E (rbJ E j + 2 ^ (37 - j)) = true then rbJ E j + 2 ^ (37 - j) else rbJ E j
theorem rbJ_le (E : Nat → Bool) : ∀ j, j ≤ 38 → rbJ E j + 2 ^ (38 - j) ≤ 274877906944
  | 0, _ => by rw [rbJ]; decide
  | j + 1, h => by
    have ih := rbJ_le E j (by omega)
    have e : 2 ^ (38 - j) = 2 ^ (37 - j) + 2 ^ (37 - j) := by rw [show 38 - j = (37 - j) + 1 by omega, Nat.pow_succ]; omega
    rw [rbJ, show 38 - (j + 1) = 37 - j by omega]
    obtain ⟨c, hc⟩ : ∃ c, 2 ^ (37 - j) = c := ⟨_, rfl⟩
    rw [hc] at e ⊢
    rw [e] at ih
    split <;> omega
def rbN (E : Nat → Bool) : Nat := rbJ E 38 % 4294967296
set_option maxHeartbeats 1600000 in
theorem root3 (p : Nat) (hp31 : p < 2147483648) : PureF Try.prog 50 #[.int .i64 p, .int .i64 3] (.int .i64 (rbN (cubE p))) := by
  obtain ⟨E, hE⟩ : ∃ E, cubE p = E := ⟨_, rfl⟩
  have hb : ∀ x : Nat, x < 274877906944 → PureF Try.prog 68 #[.int .u64 x, .int .u64 p, .int .i64 3] (.bool (E x)) := fun x hx => by rw [← hE]; exact below3 x p hx hp31
  rw [hE]
  first | refine v_pure TTok FFok Try.func50 rfl rfl fun w0 => ?_ | refine v_pure (args := []) TTok FFok Try.func50 rfl rfl fun w0 => ?_
  conv => whnf
  refine VSeq.mk fun Kq hKq => ?_
  conv => whnf
  refine hKq _ _ _ (V.Sub.refl _) ?_
  clear hKq Kq
  conv => whnf
  refine VSeq.mk fun Kq hKq => ?_
  conv => whnf
  refine hKq _ _ _ (V.Sub.refl _) ?_
  clear hKq Kq
  conv => whnf
  refine VSeq.mk fun Kq hKq => ?_
  conv => whnf
  have hp := Hp.nil w0
  refine ⟨fun mm e w' => ∃ (j l h : Nat), mm + j = 38 ∧ l = rbJ E j ∧ h = l + 2 ^ (38 - j) ∧ e = [(0, .v (.int .i64 p)), (1, .v (.int .i64 3)), (5, .v (.int .u64 l)), (6, .v (.int .u64 h))] ∧ HpM [] w0 w' [],
      ⟨38, _, ⟨0, 0, 274877906944, by omega, rfl, by decide, rfl, hp⟩, sub_cons rfl (sub_cons rfl (sub_cons rfl (sub_cons rfl sub_nil)))⟩, ?_⟩
  clear hp
  repeat clear hp
  rintro mm _ w ⟨j, l, h, hmm, hl, hh, rfl, hp⟩
  have hle := rbJ_le E j (by omega)
  rw [← hl, ← hh] at hle
  have hpos : 0 < 2 ^ (38 - j) := Nat.pow_pos (by decide)
  have hle1 : l < 274877906944 := by omega
  have hhe : h ≤ 274877906944 := by omega
  conv => whnf
  refine VSeq.mk fun Kq hKq => ?_
  conv => whnf
  refine VSeq.mk fun Kq hKq => ?_
  conv => whnf
  refine hKq _ _ _ (V.Sub.refl _) ?_
  clear hKq Kq
  conv => whnf
  rw [show (((l : Nat) : Int) + 1) % 18446744073709551616 = ((l + 1 : Nat) : Int) by omega]
  refine ⟨fun hlt => ?_, fun hlt => ?_⟩
  · have hlt := of_decide_eq_true hlt
    conv => whnf
    refine hKq _ _ _ (V.Sub.refl _) ?_
    clear hKq Kq
    conv => whnf
    refine VSeq.mk fun Kq hKq => ?_
    conv => whnf
    refine And.intro (by omega) ?_
    conv => whnf
    refine hKq _ _ _ (V.Sub.refl _) ?_
    clear hKq Kq
    conv => whnf
    refine VSeq.mk fun Kq hKq => ?_
    conv => whnf
    refine And.intro (by omega) ?_
    conv => whnf
    have hj : j < 38 := by
      rcases Nat.lt_or_ge j 38 with h1 | h1
      · exact h1
      · obtain rfl : j = 38 := by omega
        rw [Nat.sub_self, Nat.pow_zero] at hh
        omega
    obtain ⟨c, hc⟩ : ∃ c, 2 ^ (37 - j) = c := ⟨_, rfl⟩
    have e : 2 ^ (38 - j) = c + c := by rw [← hc, show 38 - j = (37 - j) + 1 by omega, Nat.pow_succ]; omega
    have hc2 : 2 ^ (38 - (j + 1)) = c := by rw [← hc]; congr 1; omega
    have hst : rbJ E (j + 1) = if E (l + c) = true then l + c else l := by rw [rbJ, hc, ← hl]
    rw [e] at hh hpos
    have hcl : c < 274877906944 := by omega
    clear e hle hc
    have hm : (((l : Nat) : Int) + ((h : Nat) : Int)) % 18446744073709551616 / 2 = ((l + c : Nat) : Int) := by omega
    rw [hm]
    refine PureF.use (hb (l + c) (by omega)) fun w hx => ?_
    try (have hp := hp.call hx)
    conv => whnf
    refine hKq _ _ _ (V.Sub.refl _) ?_
    clear hKq Kq
    conv => whnf
    cases hEv : E (l + c) with
    | true =>
      rw [hEv, if_pos rfl] at hst
      refine And.intro (fun _ => ?_) (fun h => by cases h)
      conv => whnf
      exact ⟨mm - 1, _, by omega, ⟨j + 1, l + c, h, by omega, hst.symm, by rw [hc2]; omega, rfl, hp⟩, sub_cons rfl (sub_cons rfl (sub_cons rfl (sub_cons rfl sub_nil)))⟩
    | false =>
      rw [hEv, if_neg (by decide)] at hst
      refine And.intro (fun h => by cases h) (fun _ => ?_)
      conv => whnf
      exact ⟨mm - 1, _, by omega, ⟨j + 1, l, l + c, by omega, hst.symm, by rw [hc2], rfl, hp⟩, sub_cons rfl (sub_cons rfl (sub_cons rfl (sub_cons rfl sub_nil)))⟩
  · have hlt := of_decide_eq_false hlt
    conv => whnf
    clear hKq Kq
    refine hKq _ _ _ (V.Sub.refl _) ?_
    clear hKq Kq
    conv => whnf
    refine VSeq.mk fun Kq hKq => ?_
    conv => whnf
    refine And.intro (by omega) ?_
    conv => whnf
    refine And.intro (by omega) ?_
    conv => whnf
    refine hKq _ _ _ (V.Sub.refl _) ?_
    clear hKq Kq
    conv => whnf
    have hj : j = 38 := by
      rcases Nat.lt_or_ge j 38 with h1 | h1
      · have e : 2 ^ (38 - j) = 2 ^ (37 - j) + 2 ^ (37 - j) := by rw [show 38 - j = (37 - j) + 1 by omega, Nat.pow_succ]; omega
        have hp2 : 0 < 2 ^ (37 - j) := Nat.pow_pos (by decide)
        omega
      · omega
    subst hj
    unfold rbN
    rw [← hl]
    refine ⟨?_, hp.ext⟩
    show Value.int .i64 _ = Value.int .i64 _
    congr 1
set_option maxHeartbeats 1600000 in
theorem root2 (p : Nat) (hp31 : p < 2147483648) : PureF Try.prog 50 #[.int .i64 p, .int .i64 2] (.int .i64 (rbN (sqrE p))) := by
  obtain ⟨E, hE⟩ : ∃ E, sqrE p = E := ⟨_, rfl⟩
  have hb : ∀ x : Nat, x < 274877906944 → PureF Try.prog 68 #[.int .u64 x, .int .u64 p, .int .i64 2] (.bool (E x)) := fun x hx => by rw [← hE]; exact below2 x p hx hp31
  rw [hE]
  first | refine v_pure TTok FFok Try.func50 rfl rfl fun w0 => ?_ | refine v_pure (args := []) TTok FFok Try.func50 rfl rfl fun w0 => ?_
  conv => whnf
  refine VSeq.mk fun Kq hKq => ?_
  conv => whnf
  refine hKq _ _ _ (V.Sub.refl _) ?_
  clear hKq Kq
  conv => whnf
  refine VSeq.mk fun Kq hKq => ?_
  conv => whnf
  refine hKq _ _ _ (V.Sub.refl _) ?_
  clear hKq Kq
  conv => whnf
  refine VSeq.mk fun Kq hKq => ?_
  conv => whnf
  have hp := Hp.nil w0
  refine ⟨fun mm e w' => ∃ (j l h : Nat), mm + j = 38 ∧ l = rbJ E j ∧ h = l + 2 ^ (38 - j) ∧ e = [(0, .v (.int .i64 p)), (1, .v (.int .i64 2)), (5, .v (.int .u64 l)), (6, .v (.int .u64 h))] ∧ HpM [] w0 w' [],
      ⟨38, _, ⟨0, 0, 274877906944, by omega, rfl, by decide, rfl, hp⟩, sub_cons rfl (sub_cons rfl (sub_cons rfl (sub_cons rfl sub_nil)))⟩, ?_⟩
  clear hp
  repeat clear hp
  rintro mm _ w ⟨j, l, h, hmm, hl, hh, rfl, hp⟩
  have hle := rbJ_le E j (by omega)
  rw [← hl, ← hh] at hle
  have hpos : 0 < 2 ^ (38 - j) := Nat.pow_pos (by decide)
  have hle1 : l < 274877906944 := by omega
  have hhe : h ≤ 274877906944 := by omega
  conv => whnf
  refine VSeq.mk fun Kq hKq => ?_
  conv => whnf
  refine VSeq.mk fun Kq hKq => ?_
  conv => whnf
  refine hKq _ _ _ (V.Sub.refl _) ?_
  clear hKq Kq
  conv => whnf
  rw [show (((l : Nat) : Int) + 1) % 18446744073709551616 = ((l + 1 : Nat) : Int) by omega]
  refine ⟨fun hlt => ?_, fun hlt => ?_⟩
  · have hlt := of_decide_eq_true hlt
    conv => whnf
    refine hKq _ _ _ (V.Sub.refl _) ?_
    clear hKq Kq
    conv => whnf
    refine VSeq.mk fun Kq hKq => ?_
    conv => whnf
    refine And.intro (by omega) ?_
    conv => whnf
    refine hKq _ _ _ (V.Sub.refl _) ?_
    clear hKq Kq
    conv => whnf
    refine VSeq.mk fun Kq hKq => ?_
    conv => whnf
    refine And.intro (by omega) ?_
    conv => whnf
    have hj : j < 38 := by
      rcases Nat.lt_or_ge j 38 with h1 | h1
      · exact h1
      · obtain rfl : j = 38 := by omega
        rw [Nat.sub_self, Nat.pow_zero] at hh
        omega
    obtain ⟨c, hc⟩ : ∃ c, 2 ^ (37 - j) = c := ⟨_, rfl⟩
    have e : 2 ^ (38 - j) = c + c := by rw [← hc, show 38 - j = (37 - j) + 1 by omega, Nat.pow_succ]; omega
    have hc2 : 2 ^ (38 - (j + 1)) = c := by rw [← hc]; congr 1; omega
    have hst : rbJ E (j + 1) = if E (l + c) = true then l + c else l := by rw [rbJ, hc, ← hl]
    rw [e] at hh hpos
    have hcl : c < 274877906944 := by omega
    clear e hle hc
    have hm : (((l : Nat) : Int) + ((h : Nat) : Int)) % 18446744073709551616 / 2 = ((l + c : Nat) : Int) := by omega
    rw [hm]
    refine PureF.use (hb (l + c) (by omega)) fun w hx => ?_
    try (have hp := hp.call hx)
    conv => whnf
    refine hKq _ _ _ (V.Sub.refl _) ?_
    clear hKq Kq
    conv => whnf
    cases hEv : E (l + c) with
    | true =>
      rw [hEv, if_pos rfl] at hst
      refine And.intro (fun _ => ?_) (fun h => by cases h)
      conv => whnf
      exact ⟨mm - 1, _, by omega, ⟨j + 1, l + c, h, by omega, hst.symm, by rw [hc2]; omega, rfl, hp⟩, sub_cons rfl (sub_cons rfl (sub_cons rfl (sub_cons rfl sub_nil)))⟩
    | false =>
      rw [hEv, if_neg (by decide)] at hst
      refine And.intro (fun h => by cases h) (fun _ => ?_)
      conv => whnf
      exact ⟨mm - 1, _, by omega, ⟨j + 1, l, l + c, by omega, hst.symm, by rw [hc2], rfl, hp⟩, sub_cons rfl (sub_cons rfl (sub_cons rfl (sub_cons rfl sub_nil)))⟩
  · have hlt := of_decide_eq_false hlt
    conv => whnf
    clear hKq Kq
    refine hKq _ _ _ (V.Sub.refl _) ?_
    clear hKq Kq
    conv => whnf
    refine VSeq.mk fun Kq hKq => ?_
    conv => whnf
    refine And.intro (by omega) ?_
    conv => whnf
    refine And.intro (by omega) ?_
    conv => whnf
    refine hKq _ _ _ (V.Sub.refl _) ?_
    clear hKq Kq
    conv => whnf
    have hj : j = 38 := by
      rcases Nat.lt_or_ge j 38 with h1 | h1
      · have e : 2 ^ (38 - j) = 2 ^ (37 - j) + 2 ^ (37 - j) := by rw [show 38 - j = (37 - j) + 1 by omega, Nat.pow_succ]; omega
        have hp2 : 0 < 2 ^ (37 - j) := Nat.pow_pos (by decide)
        omega
      · omega
    subst hj
    unfold rbN
    rw [← hl]
    refine ⟨?_, hp.ext⟩
    show Value.int .i64 _ = Value.int .i64 _
    congr 1
/-- the primes that are found among the first numbers from 2 on -/
def prJ : Nat → List Nat
  | 0 => []
  | k + 1 => if (prJ k).all (fun q => decide ((k + 2) % q ≠ 0)) = true then prJ k ++ [k + 2] else prJ k
theorem prJ_pos : ∀ k, ∀ q ∈ prJ k, 2 ≤ q ∧ q < k + 2
  | 0 => by intro q hq; cases hq
  | k + 1 => by
    intro q hq
    rw [prJ] at hq
    split at hq
    · rcases List.mem_append.1 hq with h | h
      · have := prJ_pos k q h; omega
      · rw [List.mem_singleton] at h; omega
    · have := prJ_pos k q hq; omega
def PL : List Nat := prJ 310
theorem prJ_cnt : ∀ k, k < 310 → (prJ k).length < 64 := by decide +kernel
theorem PL_len : PL.length = 64 := by decide +kernel
theorem PL_lt : ∀ q ∈ PL, q < 2147483648 := fun q hq => by have := prJ_pos 310 q hq; omega
theorem root3_tab : ∀ i, i < 64 → rbN (cubE (PL.getD i 0)) = KL.getD i 0 := by decide +kernel
theorem root2_tab : ∀ i, i < 8 → rbN (sqrE (PL.getD i 0)) = SL.getD i 0 := by decide +kernel
theorem all_take (L : List Nat) (f : Nat → Bool) (i : Nat) (h : i < L.length) : (L.take (i + 1)).all f = ((L.take i).all f && f (L.getD i 0)) := by
  rw [List.take_add_one, List.getD_eq_getElem?_getD, List.getElem?_eq_getElem h, List.all_append]
  simp
set_option maxHeartbeats 1600000 in
theorem primes_f : MakesF Try.prog 49 #[.int .i64 64] fun v => [row 3 1 v 64 (kw .i64 PL)] := by
  first | refine v_makes TTok FFok Try.func49 rfl rfl fun w0 => ?_ | refine v_makes (args := []) TTok FFok Try.func49 rfl rfl fun w0 => ?_
  conv => whnf
  refine VSeq.mk fun Kq hKq => ?_
  conv => whnf
  refine hKq _ _ _ (V.Sub.refl _) ?_
  clear hKq Kq
  conv => whnf
  refine VSeq.mk fun Kq hKq => ?_
  conv => whnf
  refine hKq _ _ _ (V.Sub.refl _) ?_
  clear hKq Kq
  conv => whnf
  refine VSeq.mk fun Kq hKq => ?_
  conv => whnf
  refine VSeq.mk fun Kq hKq => ?_
  conv => whnf
  refine hKq _ _ _ (V.Sub.refl _) ?_
  clear hKq Kq
  conv => whnf
  have hp := Hp.nil w0
  have hp := hp.knil 3 1
  have hp : HpM [] w0 w0 [row 3 1 (.slice none 0 0) (prJ 0).length (kw .i64 (prJ 0))] := hp
  refine ⟨fun mm e w' => ∃ (k : Nat) (v : Value), mm + k = 310 ∧ e = [(0, .v (.int .i64 64)), (3, .v v), (4, .v (.int .i64 (k + 2 : Nat)))] ∧ HpM [] w0 w' [row 3 1 v (prJ k).length (kw .i64 (prJ k))],
      ⟨310, _, ⟨0, _, by omega, rfl, hp⟩, sub_cons rfl (sub_cons rfl (sub_cons rfl sub_nil))⟩, ?_⟩
  clear hp
  repeat clear hp
  rintro mm _ w ⟨k, v, hmm, rfl, hp⟩
  have hv := SLv.of_row (hp.get (i := 0) rfl)
  have hkl : (kw .i64 (prJ k)).length = (prJ k).length := kw_len _ _
  obtain ⟨p, c, rfl⟩ := hv.shape
  conv => whnf
  refine VSeq.mk fun Kq hKq => ?_
  conv => whnf
  refine VSeq.mk fun Kq hKq => ?_
  conv => whnf
  refine hKq _ _ _ (V.Sub.refl _) ?_
  clear hKq Kq
  conv => whnf
  rw [hkl]
  refine ⟨fun hlt => ?_, fun hlt => ?_⟩
  · have hlt := of_decide_eq_true hlt
    conv => whnf
    refine hKq _ _ _ (V.Sub.refl _) ?_
    clear hKq Kq
    conv => whnf
    refine VSeq.mk fun Kq hKq => ?_
    conv => whnf
    refine VSeq.mk fun Kq hKq => ?_
    conv => whnf
    refine hKq _ _ _ (V.Sub.refl _) ?_
    clear hKq Kq
    conv => whnf
    refine VSeq.mk fun Kq hKq => ?_
    conv => whnf
    refine VSeq.mk fun Kq hKq => ?_
    conv => whnf
    refine hKq _ _ _ (V.Sub.refl _) ?_
    clear hKq Kq
    conv => whnf
    have hk : k < 310 := by
      rcases Nat.lt_or_ge k 310 with h | h
      · exact h
      · obtain rfl : k = 310 := by omega
        have := PL_len
        unfold PL at this
        omega
    have hpos := prJ_pos k
    have hstep : prJ (k + 1) = if (prJ k).all (fun q => decide ((k + 2) % q ≠ 0)) = true then prJ k ++ [k + 2] else prJ k := rfl
    obtain ⟨f, hf⟩ : ∃ f : Nat → Bool, f = fun q => decide ((k + 2) % q ≠ 0) := ⟨_, rfl⟩
    rw [← hf] at hstep
    rw [hkl] at hp hv
    obtain ⟨L, hL⟩ : ∃ L, prJ k = L := ⟨_, rfl⟩
    rw [hL] at hp hv hkl hlt hpos hstep ⊢
    obtain ⟨n, hn⟩ : ∃ n, L.length = n := ⟨_, rfl⟩
    rw [hn] at hp hv hkl hlt ⊢
    refine ⟨fun m2 e w' => ∃ (i : Nat) (b : Bool), m2 + i = n ∧ b = (L.take i).all f ∧ e = [(0, .v (.int .i64 64)), (3, .v (.slice p n c)), (4, .v (.int .i64 (k + 2 : Nat))), (5, litE (.bool b)), (6, .v (.int .i64 i))] ∧ HpM [] w0 w' [row 3 1 (.slice p n c) n (kw .i64 L)],
        ⟨n, _, ⟨0, true, by omega, rfl, rfl, hp⟩, sub_cons rfl (sub_cons rfl (sub_cons rfl (sub_cons rfl (sub_cons rfl sub_nil))))⟩, ?_⟩
    clear hp hv
    repeat clear hp
    rintro m2 _ w ⟨i, b, hm2, hb, rfl, hp⟩
    have hv := SLv.of_row (hp.get (i := 0) rfl)
    conv => whnf
    refine VSeq.mk fun Kq hKq => ?_
    conv => whnf
    refine VSeq.mk fun Kq hKq => ?_
    conv => whnf
    refine hKq _ _ _ (V.Sub.refl _) ?_
    clear hKq Kq
    conv => whnf
    refine ⟨fun hlt2 => ?_, fun hlt2 => ?_⟩
    · have hlt2 := of_decide_eq_true hlt2
      conv => whnf
      refine hKq _ _ _ (V.Sub.refl _) ?_
      clear hKq Kq
      conv => whnf
      refine VSeq.mk fun Kq hKq => ?_
      conv => whnf
      refine VSeq.mk fun Kq hKq => ?_
      conv => whnf
      have hi : i < L.length := by omega
      have hat := all_take L f i hi
      have hqm : L.getD i 0 ∈ L := by rw [List.getD_eq_getElem?_getD, List.getElem?_eq_getElem hi]; exact List.getElem_mem hi
      have hq := hpos _ hqm
      have hfq : f (L.getD i 0) = decide ((k + 2) % L.getD i 0 ≠ 0) := by rw [hf]
      obtain ⟨g, off, rfl, c1⟩ := hv.at (getk (L := L) (i := i) hi)
      obtain ⟨q, hqd⟩ : ∃ q, L.getD i 0 = q := ⟨_, rfl⟩
      rw [hqd] at hat hq hfq c1
      refine ⟨i, ⟨by first | rfl | omega, by omega⟩, ?_⟩
      conv => whnf
      refine ⟨_, _, run_ld TTok rfl (by rw [addM_eq, Nat.mul_one]; exact c1), ?_⟩
      conv => whnf
      refine And.intro (by omega) ?_
      conv => whnf
      refine hKq _ _ _ (V.Sub.refl _) ?_
      clear hKq Kq
      conv => whnf
      have hmod : ((k + 2 : Nat) : Int) % ((q : Nat) : Int) = (((k + 2) % q : Nat) : Int) := rfl
      rw [hmod]
      refine ⟨fun h0 => ?_, fun h0 => ?_⟩
      · have h0 := of_decide_eq_true h0
        conv => whnf
        refine hKq _ _ _ (V.Sub.refl _) ?_
        clear hKq Kq
        conv => whnf
        refine And.intro (by omega) ?_
        conv => whnf
        have hz : (k + 2) % q = 0 := by omega
        cases b <;> exact ⟨m2 - 1, _, by omega, ⟨i + 1, false, by omega, by rw [hat, hfq, hz]; simp, rfl, hp⟩, sub_cons rfl (sub_cons rfl (sub_cons rfl (sub_cons rfl (sub_cons rfl sub_nil))))⟩
      · have h0 := of_decide_eq_false h0
        conv => whnf
        refine hKq _ _ _ (V.Sub.refl _) ?_
        clear hKq Kq
        conv => whnf
        refine And.intro (by omega) ?_
        conv => whnf
        have hz : (k + 2) % q ≠ 0 := by omega
        have hat2 : (L.take (i + 1)).all f = (L.take i).all f := by rw [hat, hfq, decide_eq_true hz, Bool.and_true]
        rw [← hat2] at hb
        cases b with
        | true => exact ⟨m2 - 1, _, by omega, ⟨i + 1, true, by omega, hb, rfl, hp⟩, sub_cons rfl (sub_cons rfl (sub_cons rfl (sub_cons rfl (sub_cons rfl sub_nil))))⟩
        | false => exact ⟨m2 - 1, _, by omega, ⟨i + 1, false, by omega, hb, rfl, hp⟩, sub_cons rfl (sub_cons rfl (sub_cons rfl (sub_cons rfl (sub_cons rfl sub_nil))))⟩
    · have hlt2 := of_decide_eq_false hlt2
      conv => whnf
      clear hKq Kq
      refine hKq _ _ _ (V.Sub.refl _) ?_
      clear hKq Kq
      conv => whnf
      refine VSeq.mk fun Kq hKq => ?_
      conv => whnf
      have hi : i = L.length := by omega
      rw [hi, List.take_of_length_le (Nat.le_refl _)] at hb
      cases b with
      | true =>
        rw [if_pos hb.symm] at hstep
        conv => whnf
        refine hKq _ _ _ (V.Sub.refl _) ?_
        clear hKq Kq
        conv => whnf
        refine hp.kmade (kw .i64 [k + 2]) 3 (fun b => .slice (some ⟨b, 0, none⟩) 1 1) (by kernel_rfl) fun tb w hp hx => ?_
        conv => whnf
        refine hp.kapp sl50 1 rfl (Blk.src TTok (hp.get (i := 0) rfl) rfl rfl (kw_one _ _)) (by omega) (by unfold maxLen; omega) fun v' w hp => ?_
        simp only [List.set_cons_zero, List.set_cons_succ] at hp
        rw [← kw_app, ← hstep] at hp
        have hln : (prJ (k + 1)).length = n + 1 := by rw [hstep, List.length_append, hn]; rfl
        conv => whnf
        refine hKq _ _ _ (V.Sub.refl _) ?_
        clear hKq Kq
        conv => whnf
        refine And.intro (by omega) ?_
        conv => whnf
        exact ⟨mm - 1, _, by omega, ⟨k + 1, v', by omega, rfl, by rw [hln]; exact hp.tail⟩, sub_cons rfl (sub_cons rfl (sub_cons rfl sub_nil))⟩
      | false =>
        rw [if_neg (by rw [← hb]; decide)] at hstep
        conv => whnf
        refine hKq _ _ _ (V.Sub.refl _) ?_
        clear hKq Kq
        conv => whnf
        refine hKq _ _ _ (V.Sub.refl _) ?_
        clear hKq Kq
        conv => whnf
        refine And.intro (by omega) ?_
        conv => whnf
        exact ⟨mm - 1, _, by omega, ⟨k + 1, _, by omega, rfl, by rw [hstep, hn]; exact hp⟩, sub_cons rfl (sub_cons rfl (sub_cons rfl sub_nil))⟩
  · have hlt := of_decide_eq_false hlt
    conv => whnf
    clear hKq Kq
    refine hKq _ _ _ (V.Sub.refl _) ?_
    clear hKq Kq
    conv => whnf
    refine VSeq.mk fun Kq hKq => ?_
    conv => whnf
    refine hKq _ _ _ (V.Sub.refl _) ?_
    clear hKq Kq
    conv => whnf
    have hk : k = 310 := by
      rcases Nat.lt_or_ge k 310 with h | h
      · have := prJ_cnt k h; omega
      · omega
    subst hk
    rw [hkl] at hp
    have e : (prJ 310).length = 64 := PL_len
    rw [e] at hp ⊢
    exact hp
end Go.Proofs.Ytebmmfeegjgbeaa
