/- Chapter 05: the reference's digit, power, read. -/
import Derived.Test.YtejphmgpndgliaaC05FB
import Derived.Test.YtejphmgpndgliaaC05F
import Derived.Test.YtejphmgpndgliaaC05Q
namespace Go.Proofs.Ytejphmgpndgliaa
set_option linter.unusedSimpArgs false
set_option linter.unusedVariables false
open Go.RowKit V
theorem digL_small (n : Nat) (h : n < 4294967296) : digL n = n % 65536 :: n / 65536 :: List.replicate 14 0 := by
  unfold digL
  rw [digB, digB, Nat.div_div_eq_div_mul, Nat.div_eq_of_lt (by omega : n < 65536 * 65536), Nat.mod_eq_of_lt (by omega : n / 65536 < 65536)]
  rfl
set_option maxHeartbeats 4000000 in
theorem digit_p (n : Nat) (h : n < 4294967296) : PureF Try.prog 26 #[.int .i64 n] (nV n) := by
  unfold nV
  rw [digL_small n h]
  first | refine v_pure TTok FFok Try.func26 rfl rfl fun w0 => ?_ | refine v_pure (args := []) TTok FFok Try.func26 rfl rfl fun w0 => ?_
  conv => whnf
  repeat (first | (refine VSeq.mk fun Kq hKq => ?_; conv => whnf) | (refine hKq _ _ _ (V.Sub.refl _) ?_; clear hKq Kq; conv => whnf) | (clear hKq Kq; refine hKq _ _ _ (V.Sub.refl _) ?_; clear hKq Kq; conv => whnf) | (clear hKq Kq; clear hKq Kq; refine hKq _ _ _ (V.Sub.refl _) ?_; clear hKq Kq; conv => whnf) | (clear hKq Kq; clear hKq Kq; clear hKq Kq; refine hKq _ _ _ (V.Sub.refl _) ?_; clear hKq Kq; conv => whnf) | (clear hKq Kq; clear hKq Kq; clear hKq Kq; clear hKq Kq; refine hKq _ _ _ (V.Sub.refl _) ?_; clear hKq Kq; conv => whnf) | (clear hKq Kq; clear hKq Kq; clear hKq Kq; clear hKq Kq; clear hKq Kq; refine hKq _ _ _ (V.Sub.refl _) ?_; clear hKq Kq; conv => whnf) | (refine And.intro (by omega) ?_; conv => whnf))
  have hp := Hp.nil w0
  refine hp.kalloc z43 fun q2 w hp hx => ?_
  conv => whnf
  repeat (first | (refine VSeq.mk fun Kq hKq => ?_; conv => whnf) | (refine hKq _ _ _ (V.Sub.refl _) ?_; clear hKq Kq; conv => whnf) | (clear hKq Kq; refine hKq _ _ _ (V.Sub.refl _) ?_; clear hKq Kq; conv => whnf) | (clear hKq Kq; clear hKq Kq; refine hKq _ _ _ (V.Sub.refl _) ?_; clear hKq Kq; conv => whnf) | (clear hKq Kq; clear hKq Kq; clear hKq Kq; refine hKq _ _ _ (V.Sub.refl _) ?_; clear hKq Kq; conv => whnf) | (clear hKq Kq; clear hKq Kq; clear hKq Kq; clear hKq Kq; refine hKq _ _ _ (V.Sub.refl _) ?_; clear hKq Kq; conv => whnf) | (clear hKq Kq; clear hKq Kq; clear hKq Kq; clear hKq Kq; clear hKq Kq; refine hKq _ _ _ (V.Sub.refl _) ?_; clear hKq Kq; conv => whnf) | (refine And.intro (by omega) ?_; conv => whnf))
  rw [show ((n : Nat) : Int) % 65536 = ((n % 65536 : Nat) : Int) by omega]
  first | refine ⟨.agg (kw .i64 (n % 65536 :: List.replicate 15 0)).toArray, w, by kernel_rfl, ?_⟩ | refine ⟨.agg (kw .i64 (n % 65536 :: List.replicate 15 0)).toArray, w0, by kernel_rfl, ?_⟩
  conv => whnf
  repeat (first | (refine VSeq.mk fun Kq hKq => ?_; conv => whnf) | (refine hKq _ _ _ (V.Sub.refl _) ?_; clear hKq Kq; conv => whnf) | (clear hKq Kq; refine hKq _ _ _ (V.Sub.refl _) ?_; clear hKq Kq; conv => whnf) | (clear hKq Kq; clear hKq Kq; refine hKq _ _ _ (V.Sub.refl _) ?_; clear hKq Kq; conv => whnf) | (clear hKq Kq; clear hKq Kq; clear hKq Kq; refine hKq _ _ _ (V.Sub.refl _) ?_; clear hKq Kq; conv => whnf) | (clear hKq Kq; clear hKq Kq; clear hKq Kq; clear hKq Kq; refine hKq _ _ _ (V.Sub.refl _) ?_; clear hKq Kq; conv => whnf) | (clear hKq Kq; clear hKq Kq; clear hKq Kq; clear hKq Kq; clear hKq Kq; refine hKq _ _ _ (V.Sub.refl _) ?_; clear hKq Kq; conv => whnf) | (refine And.intro (by omega) ?_; conv => whnf))
  refine hp.kalloc z43 fun q3 w hp hx => ?_
  conv => whnf
  repeat (first | (refine VSeq.mk fun Kq hKq => ?_; conv => whnf) | (refine hKq _ _ _ (V.Sub.refl _) ?_; clear hKq Kq; conv => whnf) | (clear hKq Kq; refine hKq _ _ _ (V.Sub.refl _) ?_; clear hKq Kq; conv => whnf) | (clear hKq Kq; clear hKq Kq; refine hKq _ _ _ (V.Sub.refl _) ?_; clear hKq Kq; conv => whnf) | (clear hKq Kq; clear hKq Kq; clear hKq Kq; refine hKq _ _ _ (V.Sub.refl _) ?_; clear hKq Kq; conv => whnf) | (clear hKq Kq; clear hKq Kq; clear hKq Kq; clear hKq Kq; refine hKq _ _ _ (V.Sub.refl _) ?_; clear hKq Kq; conv => whnf) | (clear hKq Kq; clear hKq Kq; clear hKq Kq; clear hKq Kq; clear hKq Kq; refine hKq _ _ _ (V.Sub.refl _) ?_; clear hKq Kq; conv => whnf) | (refine And.intro (by omega) ?_; conv => whnf))
  refine hp.kstA TTok rfl 0 rfl (by rfl) (kw_one _ _) (by rfl) fun w hp => ?_
  try simp only [List.set_cons_zero, List.set_cons_succ, EV.val] at hp
  conv => whnf
  repeat (first | (refine VSeq.mk fun Kq hKq => ?_; conv => whnf) | (refine hKq _ _ _ (V.Sub.refl _) ?_; clear hKq Kq; conv => whnf) | (clear hKq Kq; refine hKq _ _ _ (V.Sub.refl _) ?_; clear hKq Kq; conv => whnf) | (clear hKq Kq; clear hKq Kq; refine hKq _ _ _ (V.Sub.refl _) ?_; clear hKq Kq; conv => whnf) | (clear hKq Kq; clear hKq Kq; clear hKq Kq; refine hKq _ _ _ (V.Sub.refl _) ?_; clear hKq Kq; conv => whnf) | (clear hKq Kq; clear hKq Kq; clear hKq Kq; clear hKq Kq; refine hKq _ _ _ (V.Sub.refl _) ?_; clear hKq Kq; conv => whnf) | (clear hKq Kq; clear hKq Kq; clear hKq Kq; clear hKq Kq; clear hKq Kq; refine hKq _ _ _ (V.Sub.refl _) ?_; clear hKq Kq; conv => whnf) | (refine And.intro (by omega) ?_; conv => whnf))
  rw [show ((n : Nat) : Int) / 65536 = ((n / 65536 : Nat) : Int) by omega]
  refine ⟨1, ⟨by first | rfl | omega, by omega⟩, ?_⟩
  conv => whnf
  repeat (first | (refine VSeq.mk fun Kq hKq => ?_; conv => whnf) | (refine hKq _ _ _ (V.Sub.refl _) ?_; clear hKq Kq; conv => whnf) | (clear hKq Kq; refine hKq _ _ _ (V.Sub.refl _) ?_; clear hKq Kq; conv => whnf) | (clear hKq Kq; clear hKq Kq; refine hKq _ _ _ (V.Sub.refl _) ?_; clear hKq Kq; conv => whnf) | (clear hKq Kq; clear hKq Kq; clear hKq Kq; refine hKq _ _ _ (V.Sub.refl _) ?_; clear hKq Kq; conv => whnf) | (clear hKq Kq; clear hKq Kq; clear hKq Kq; clear hKq Kq; refine hKq _ _ _ (V.Sub.refl _) ?_; clear hKq Kq; conv => whnf) | (clear hKq Kq; clear hKq Kq; clear hKq Kq; clear hKq Kq; clear hKq Kq; refine hKq _ _ _ (V.Sub.refl _) ?_; clear hKq Kq; conv => whnf) | (refine And.intro (by omega) ?_; conv => whnf))
  refine hp.kst1 (off := 1) TTok (by rfl) 0 (by rfl) (by rfl) (by rfl) (by rw [kw_len, List.length_cons, List.length_replicate]; decide) fun w hp => ?_
  try simp only [List.set_cons_zero, List.set_cons_succ, EV.val] at hp
  conv => whnf
  repeat (first | (refine VSeq.mk fun Kq hKq => ?_; conv => whnf) | (refine hKq _ _ _ (V.Sub.refl _) ?_; clear hKq Kq; conv => whnf) | (clear hKq Kq; refine hKq _ _ _ (V.Sub.refl _) ?_; clear hKq Kq; conv => whnf) | (clear hKq Kq; clear hKq Kq; refine hKq _ _ _ (V.Sub.refl _) ?_; clear hKq Kq; conv => whnf) | (clear hKq Kq; clear hKq Kq; clear hKq Kq; refine hKq _ _ _ (V.Sub.refl _) ?_; clear hKq Kq; conv => whnf) | (clear hKq Kq; clear hKq Kq; clear hKq Kq; clear hKq Kq; refine hKq _ _ _ (V.Sub.refl _) ?_; clear hKq Kq; conv => whnf) | (clear hKq Kq; clear hKq Kq; clear hKq Kq; clear hKq Kq; clear hKq Kq; refine hKq _ _ _ (V.Sub.refl _) ?_; clear hKq Kq; conv => whnf) | (refine And.intro (by omega) ?_; conv => whnf))
  rw [kw_set] at hp
  refine ⟨_, _, Blk.ldN (hp.get (i := 0) rfl) TTok rfl (by rfl), ?_⟩
  conv => whnf
  repeat (first | (refine VSeq.mk fun Kq hKq => ?_; conv => whnf) | (refine hKq _ _ _ (V.Sub.refl _) ?_; clear hKq Kq; conv => whnf) | (clear hKq Kq; refine hKq _ _ _ (V.Sub.refl _) ?_; clear hKq Kq; conv => whnf) | (clear hKq Kq; clear hKq Kq; refine hKq _ _ _ (V.Sub.refl _) ?_; clear hKq Kq; conv => whnf) | (clear hKq Kq; clear hKq Kq; clear hKq Kq; refine hKq _ _ _ (V.Sub.refl _) ?_; clear hKq Kq; conv => whnf) | (clear hKq Kq; clear hKq Kq; clear hKq Kq; clear hKq Kq; refine hKq _ _ _ (V.Sub.refl _) ?_; clear hKq Kq; conv => whnf) | (clear hKq Kq; clear hKq Kq; clear hKq Kq; clear hKq Kq; clear hKq Kq; refine hKq _ _ _ (V.Sub.refl _) ?_; clear hKq Kq; conv => whnf) | (refine And.intro (by omega) ?_; conv => whnf))
  refine hp.kstA TTok rfl 1 rfl (by rfl) (kw_one _ _) (by rfl) fun w hp => ?_
  try simp only [List.set_cons_zero, List.set_cons_succ, EV.val] at hp
  conv => whnf
  repeat (first | (refine VSeq.mk fun Kq hKq => ?_; conv => whnf) | (refine hKq _ _ _ (V.Sub.refl _) ?_; clear hKq Kq; conv => whnf) | (clear hKq Kq; refine hKq _ _ _ (V.Sub.refl _) ?_; clear hKq Kq; conv => whnf) | (clear hKq Kq; clear hKq Kq; refine hKq _ _ _ (V.Sub.refl _) ?_; clear hKq Kq; conv => whnf) | (clear hKq Kq; clear hKq Kq; clear hKq Kq; refine hKq _ _ _ (V.Sub.refl _) ?_; clear hKq Kq; conv => whnf) | (clear hKq Kq; clear hKq Kq; clear hKq Kq; clear hKq Kq; refine hKq _ _ _ (V.Sub.refl _) ?_; clear hKq Kq; conv => whnf) | (clear hKq Kq; clear hKq Kq; clear hKq Kq; clear hKq Kq; clear hKq Kq; refine hKq _ _ _ (V.Sub.refl _) ?_; clear hKq Kq; conv => whnf) | (refine And.intro (by omega) ?_; conv => whnf))
  exact ⟨_, Blk.lvN (hp.get (i := 1) rfl) TTok rfl (by rfl), rfl, hp.ext⟩
theorem powN_take (a : Nat) : ∀ (ts : List Bool) (o i : Nat) (h : i < ts.length), powN a (ts.take (i + 1)) o = (if ts[i] = true then prodN (prodN (powN a (ts.take i) o) (powN a (ts.take i) o)) a else prodN (powN a (ts.take i) o) (powN a (ts.take i) o))
  | [], o, i, h => by simp at h
  | t :: ts, o, 0, h => rfl
  | t :: ts, o, i + 1, h => by
    rw [List.take_succ_cons, List.take_succ_cons, powN, powN, powN_take a ts _ i (by simpa using h)]
    rfl
theorem inv_len : invBits.length = 255 := by decide +kernel
theorem inv_get : ∀ j, (h : j < 255) → invBits[j]'(by rw [inv_len]; exact h) = (decide (254 - j ≠ 2) && decide (254 - j ≠ 4)) := by decide +kernel
set_option maxHeartbeats 4000000 in
theorem power_p (a : Nat) : PureF Try.prog 31 #[nV a] (nV (powN a invBits 1)) := by
  have h1 := digit_p 1 (by decide)
  unfold nV at h1 ⊢
  have hA : (kw .i64 (digL a)).length = 16 := fold_end
  first | refine v_pure TTok FFok Try.func31 rfl rfl fun w0 => ?_ | refine v_pure (args := []) TTok FFok Try.func31 rfl rfl fun w0 => ?_
  conv => whnf
  repeat (first | (refine VSeq.mk fun Kq hKq => ?_; conv => whnf) | (refine hKq _ _ _ (V.Sub.refl _) ?_; clear hKq Kq; conv => whnf) | (clear hKq Kq; refine hKq _ _ _ (V.Sub.refl _) ?_; clear hKq Kq; conv => whnf) | (clear hKq Kq; clear hKq Kq; refine hKq _ _ _ (V.Sub.refl _) ?_; clear hKq Kq; conv => whnf) | (clear hKq Kq; clear hKq Kq; clear hKq Kq; refine hKq _ _ _ (V.Sub.refl _) ?_; clear hKq Kq; conv => whnf) | (clear hKq Kq; clear hKq Kq; clear hKq Kq; clear hKq Kq; refine hKq _ _ _ (V.Sub.refl _) ?_; clear hKq Kq; conv => whnf) | (clear hKq Kq; clear hKq Kq; clear hKq Kq; clear hKq Kq; clear hKq Kq; refine hKq _ _ _ (V.Sub.refl _) ?_; clear hKq Kq; conv => whnf) | (refine And.intro (by omega) ?_; conv => whnf))
  have hp := Hp.nil w0
  refine hp.kbox (kw .i64 (digL a)) rfl fun q1 w hp hx => ?_
  conv => whnf
  repeat (first | (refine VSeq.mk fun Kq hKq => ?_; conv => whnf) | (refine hKq _ _ _ (V.Sub.refl _) ?_; clear hKq Kq; conv => whnf) | (clear hKq Kq; refine hKq _ _ _ (V.Sub.refl _) ?_; clear hKq Kq; conv => whnf) | (clear hKq Kq; clear hKq Kq; refine hKq _ _ _ (V.Sub.refl _) ?_; clear hKq Kq; conv => whnf) | (clear hKq Kq; clear hKq Kq; clear hKq Kq; refine hKq _ _ _ (V.Sub.refl _) ?_; clear hKq Kq; conv => whnf) | (clear hKq Kq; clear hKq Kq; clear hKq Kq; clear hKq Kq; refine hKq _ _ _ (V.Sub.refl _) ?_; clear hKq Kq; conv => whnf) | (clear hKq Kq; clear hKq Kq; clear hKq Kq; clear hKq Kq; clear hKq Kq; refine hKq _ _ _ (V.Sub.refl _) ?_; clear hKq Kq; conv => whnf) | (refine And.intro (by omega) ?_; conv => whnf))
  refine hp.kalloc z43 fun q2 w hp hx => ?_
  conv => whnf
  repeat (first | (refine VSeq.mk fun Kq hKq => ?_; conv => whnf) | (refine hKq _ _ _ (V.Sub.refl _) ?_; clear hKq Kq; conv => whnf) | (clear hKq Kq; refine hKq _ _ _ (V.Sub.refl _) ?_; clear hKq Kq; conv => whnf) | (clear hKq Kq; clear hKq Kq; refine hKq _ _ _ (V.Sub.refl _) ?_; clear hKq Kq; conv => whnf) | (clear hKq Kq; clear hKq Kq; clear hKq Kq; refine hKq _ _ _ (V.Sub.refl _) ?_; clear hKq Kq; conv => whnf) | (clear hKq Kq; clear hKq Kq; clear hKq Kq; clear hKq Kq; refine hKq _ _ _ (V.Sub.refl _) ?_; clear hKq Kq; conv => whnf) | (clear hKq Kq; clear hKq Kq; clear hKq Kq; clear hKq Kq; clear hKq Kq; refine hKq _ _ _ (V.Sub.refl _) ?_; clear hKq Kq; conv => whnf) | (refine And.intro (by omega) ?_; conv => whnf))
  refine PureF.use (h1) fun w hx => ?_
  try (have hp := hp.call hx)
  conv => whnf
  repeat (first | (refine VSeq.mk fun Kq hKq => ?_; conv => whnf) | (refine hKq _ _ _ (V.Sub.refl _) ?_; clear hKq Kq; conv => whnf) | (clear hKq Kq; refine hKq _ _ _ (V.Sub.refl _) ?_; clear hKq Kq; conv => whnf) | (clear hKq Kq; clear hKq Kq; refine hKq _ _ _ (V.Sub.refl _) ?_; clear hKq Kq; conv => whnf) | (clear hKq Kq; clear hKq Kq; clear hKq Kq; refine hKq _ _ _ (V.Sub.refl _) ?_; clear hKq Kq; conv => whnf) | (clear hKq Kq; clear hKq Kq; clear hKq Kq; clear hKq Kq; refine hKq _ _ _ (V.Sub.refl _) ?_; clear hKq Kq; conv => whnf) | (clear hKq Kq; clear hKq Kq; clear hKq Kq; clear hKq Kq; clear hKq Kq; refine hKq _ _ _ (V.Sub.refl _) ?_; clear hKq Kq; conv => whnf) | (refine And.intro (by omega) ?_; conv => whnf))
  refine hp.kalloc z43 fun q3 w hp hx => ?_
  conv => whnf
  repeat (first | (refine VSeq.mk fun Kq hKq => ?_; conv => whnf) | (refine hKq _ _ _ (V.Sub.refl _) ?_; clear hKq Kq; conv => whnf) | (clear hKq Kq; refine hKq _ _ _ (V.Sub.refl _) ?_; clear hKq Kq; conv => whnf) | (clear hKq Kq; clear hKq Kq; refine hKq _ _ _ (V.Sub.refl _) ?_; clear hKq Kq; conv => whnf) | (clear hKq Kq; clear hKq Kq; clear hKq Kq; refine hKq _ _ _ (V.Sub.refl _) ?_; clear hKq Kq; conv => whnf) | (clear hKq Kq; clear hKq Kq; clear hKq Kq; clear hKq Kq; refine hKq _ _ _ (V.Sub.refl _) ?_; clear hKq Kq; conv => whnf) | (clear hKq Kq; clear hKq Kq; clear hKq Kq; clear hKq Kq; clear hKq Kq; refine hKq _ _ _ (V.Sub.refl _) ?_; clear hKq Kq; conv => whnf) | (refine And.intro (by omega) ?_; conv => whnf))
  refine hp.kstA TTok rfl 0 rfl (by rw [fold_end]) (kw_one _ _) (by rfl) fun w hp => ?_
  try simp only [List.set_cons_zero, List.set_cons_succ, EV.val] at hp
  conv => whnf
  repeat (first | (refine VSeq.mk fun Kq hKq => ?_; conv => whnf) | (refine hKq _ _ _ (V.Sub.refl _) ?_; clear hKq Kq; conv => whnf) | (clear hKq Kq; refine hKq _ _ _ (V.Sub.refl _) ?_; clear hKq Kq; conv => whnf) | (clear hKq Kq; clear hKq Kq; refine hKq _ _ _ (V.Sub.refl _) ?_; clear hKq Kq; conv => whnf) | (clear hKq Kq; clear hKq Kq; clear hKq Kq; refine hKq _ _ _ (V.Sub.refl _) ?_; clear hKq Kq; conv => whnf) | (clear hKq Kq; clear hKq Kq; clear hKq Kq; clear hKq Kq; refine hKq _ _ _ (V.Sub.refl _) ?_; clear hKq Kq; conv => whnf) | (clear hKq Kq; clear hKq Kq; clear hKq Kq; clear hKq Kq; clear hKq Kq; refine hKq _ _ _ (V.Sub.refl _) ?_; clear hKq Kq; conv => whnf) | (refine And.intro (by omega) ?_; conv => whnf))
  have hp : HpM [] w0 w [blk q3 (kw .i64 (digL (powN a (invBits.take 0) 1))) 43, blk q2 (List.replicate 16 (.int .i64 0)) 43, blk q1 (kw .i64 (digL a)) 43] := hp
  refine ⟨fun m e w' => ∃ (j : Nat), m + j = 255 ∧ e = [(1, .v (.pointer (some ⟨q1, 0, none⟩))), (2, .v (.pointer (some ⟨q2, 0, none⟩))), (3, .v (.pointer (some ⟨q3, 0, none⟩))), (4, .v (.int .i64 (254 - (j : Int))))] ∧
      HpM [] w0 w' [blk q3 (kw .i64 (digL (powN a (invBits.take j) 1))) 43, blk q2 (List.replicate 16 (.int .i64 0)) 43, blk q1 (kw .i64 (digL a)) 43],
    ⟨255, _, ⟨0, by omega, rfl, hp⟩, sub_cons rfl (sub_cons rfl (sub_cons rfl (sub_cons rfl sub_nil)))⟩, ?_⟩
  clear hp hx
  repeat clear hp
  rintro m _ w ⟨j, hm, rfl, hp⟩
  conv => whnf
  repeat (first | (refine VSeq.mk fun Kq hKq => ?_; conv => whnf) | (refine hKq _ _ _ (V.Sub.refl _) ?_; clear hKq Kq; conv => whnf) | (clear hKq Kq; refine hKq _ _ _ (V.Sub.refl _) ?_; clear hKq Kq; conv => whnf) | (clear hKq Kq; clear hKq Kq; refine hKq _ _ _ (V.Sub.refl _) ?_; clear hKq Kq; conv => whnf) | (clear hKq Kq; clear hKq Kq; clear hKq Kq; refine hKq _ _ _ (V.Sub.refl _) ?_; clear hKq Kq; conv => whnf) | (clear hKq Kq; clear hKq Kq; clear hKq Kq; clear hKq Kq; refine hKq _ _ _ (V.Sub.refl _) ?_; clear hKq Kq; conv => whnf) | (clear hKq Kq; clear hKq Kq; clear hKq Kq; clear hKq Kq; clear hKq Kq; refine hKq _ _ _ (V.Sub.refl _) ?_; clear hKq Kq; conv => whnf) | (refine And.intro (by omega) ?_; conv => whnf))
  refine ⟨fun hlt => ?_, fun hlt => ?_⟩
  · have hlt := of_decide_eq_true hlt
    conv => whnf
    repeat (first | (refine VSeq.mk fun Kq hKq => ?_; conv => whnf) | (refine hKq _ _ _ (V.Sub.refl _) ?_; clear hKq Kq; conv => whnf) | (clear hKq Kq; refine hKq _ _ _ (V.Sub.refl _) ?_; clear hKq Kq; conv => whnf) | (clear hKq Kq; clear hKq Kq; refine hKq _ _ _ (V.Sub.refl _) ?_; clear hKq Kq; conv => whnf) | (clear hKq Kq; clear hKq Kq; clear hKq Kq; refine hKq _ _ _ (V.Sub.refl _) ?_; clear hKq Kq; conv => whnf) | (clear hKq Kq; clear hKq Kq; clear hKq Kq; clear hKq Kq; refine hKq _ _ _ (V.Sub.refl _) ?_; clear hKq Kq; conv => whnf) | (clear hKq Kq; clear hKq Kq; clear hKq Kq; clear hKq Kq; clear hKq Kq; refine hKq _ _ _ (V.Sub.refl _) ?_; clear hKq Kq; conv => whnf) | (refine And.intro (by omega) ?_; conv => whnf))
    have hj : j < 255 := by omega
    have htk := powN_take a invBits 1 j (by rw [inv_len]; exact hj)
    have hb := inv_get j hj
    rw [hb] at htk
    clear hb
    obtain ⟨o, ho⟩ : ∃ o, powN a (invBits.take j) 1 = o := ⟨_, rfl⟩
    rw [ho] at hp htk
    have p1 := product_p o o
    have p2 := product_p (prodN o o) a
    unfold nV at p1 p2
    refine ⟨_, _, Blk.ldN (hp.get (i := 0) rfl) TTok rfl (fold_end), ?_⟩
    conv => whnf
    repeat (first | (refine VSeq.mk fun Kq hKq => ?_; conv => whnf) | (refine hKq _ _ _ (V.Sub.refl _) ?_; clear hKq Kq; conv => whnf) | (clear hKq Kq; refine hKq _ _ _ (V.Sub.refl _) ?_; clear hKq Kq; conv => whnf) | (clear hKq Kq; clear hKq Kq; refine hKq _ _ _ (V.Sub.refl _) ?_; clear hKq Kq; conv => whnf) | (clear hKq Kq; clear hKq Kq; clear hKq Kq; refine hKq _ _ _ (V.Sub.refl _) ?_; clear hKq Kq; conv => whnf) | (clear hKq Kq; clear hKq Kq; clear hKq Kq; clear hKq Kq; refine hKq _ _ _ (V.Sub.refl _) ?_; clear hKq Kq; conv => whnf) | (clear hKq Kq; clear hKq Kq; clear hKq Kq; clear hKq Kq; clear hKq Kq; refine hKq _ _ _ (V.Sub.refl _) ?_; clear hKq Kq; conv => whnf) | (refine And.intro (by omega) ?_; conv => whnf))
    refine ⟨_, _, Blk.ldN (hp.get (i := 0) rfl) TTok rfl (fold_end), ?_⟩
    conv => whnf
    repeat (first | (refine VSeq.mk fun Kq hKq => ?_; conv => whnf) | (refine hKq _ _ _ (V.Sub.refl _) ?_; clear hKq Kq; conv => whnf) | (clear hKq Kq; refine hKq _ _ _ (V.Sub.refl _) ?_; clear hKq Kq; conv => whnf) | (clear hKq Kq; clear hKq Kq; refine hKq _ _ _ (V.Sub.refl _) ?_; clear hKq Kq; conv => whnf) | (clear hKq Kq; clear hKq Kq; clear hKq Kq; refine hKq _ _ _ (V.Sub.refl _) ?_; clear hKq Kq; conv => whnf) | (clear hKq Kq; clear hKq Kq; clear hKq Kq; clear hKq Kq; refine hKq _ _ _ (V.Sub.refl _) ?_; clear hKq Kq; conv => whnf) | (clear hKq Kq; clear hKq Kq; clear hKq Kq; clear hKq Kq; clear hKq Kq; refine hKq _ _ _ (V.Sub.refl _) ?_; clear hKq Kq; conv => whnf) | (refine And.intro (by omega) ?_; conv => whnf))
    refine PureF.use (p1) fun w hx => ?_
    try (have hp := hp.call hx)
    conv => whnf
    repeat (first | (refine VSeq.mk fun Kq hKq => ?_; conv => whnf) | (refine hKq _ _ _ (V.Sub.refl _) ?_; clear hKq Kq; conv => whnf) | (clear hKq Kq; refine hKq _ _ _ (V.Sub.refl _) ?_; clear hKq Kq; conv => whnf) | (clear hKq Kq; clear hKq Kq; refine hKq _ _ _ (V.Sub.refl _) ?_; clear hKq Kq; conv => whnf) | (clear hKq Kq; clear hKq Kq; clear hKq Kq; refine hKq _ _ _ (V.Sub.refl _) ?_; clear hKq Kq; conv => whnf) | (clear hKq Kq; clear hKq Kq; clear hKq Kq; clear hKq Kq; refine hKq _ _ _ (V.Sub.refl _) ?_; clear hKq Kq; conv => whnf) | (clear hKq Kq; clear hKq Kq; clear hKq Kq; clear hKq Kq; clear hKq Kq; refine hKq _ _ _ (V.Sub.refl _) ?_; clear hKq Kq; conv => whnf) | (refine And.intro (by omega) ?_; conv => whnf))
    refine hp.kstA TTok rfl 0 rfl (by rw [fold_end]) (kw_one _ _) (by rfl) fun w hp => ?_
    try simp only [List.set_cons_zero, List.set_cons_succ, EV.val] at hp
    conv => whnf
    repeat (first | (refine VSeq.mk fun Kq hKq => ?_; conv => whnf) | (refine hKq _ _ _ (V.Sub.refl _) ?_; clear hKq Kq; conv => whnf) | (clear hKq Kq; refine hKq _ _ _ (V.Sub.refl _) ?_; clear hKq Kq; conv => whnf) | (clear hKq Kq; clear hKq Kq; refine hKq _ _ _ (V.Sub.refl _) ?_; clear hKq Kq; conv => whnf) | (clear hKq Kq; clear hKq Kq; clear hKq Kq; refine hKq _ _ _ (V.Sub.refl _) ?_; clear hKq Kq; conv => whnf) | (clear hKq Kq; clear hKq Kq; clear hKq Kq; clear hKq Kq; refine hKq _ _ _ (V.Sub.refl _) ?_; clear hKq Kq; conv => whnf) | (clear hKq Kq; clear hKq Kq; clear hKq Kq; clear hKq Kq; clear hKq Kq; refine hKq _ _ _ (V.Sub.refl _) ?_; clear hKq Kq; conv => whnf) | (refine And.intro (by omega) ?_; conv => whnf))
    by_cases c1 : j = 252
    · rw [show (decide (254 - j ≠ 2) && decide (254 - j ≠ 4)) = false by subst c1; rfl, if_neg (by decide)] at htk
      rw [← htk] at hp
      refine And.intro (fun h => absurd (of_decide_eq_true h) ((by omega))) (fun _ => ?_)
      conv => whnf
      repeat (first | (refine VSeq.mk fun Kq hKq => ?_; conv => whnf) | (refine hKq _ _ _ (V.Sub.refl _) ?_; clear hKq Kq; conv => whnf) | (clear hKq Kq; refine hKq _ _ _ (V.Sub.refl _) ?_; clear hKq Kq; conv => whnf) | (clear hKq Kq; clear hKq Kq; refine hKq _ _ _ (V.Sub.refl _) ?_; clear hKq Kq; conv => whnf) | (clear hKq Kq; clear hKq Kq; clear hKq Kq; refine hKq _ _ _ (V.Sub.refl _) ?_; clear hKq Kq; conv => whnf) | (clear hKq Kq; clear hKq Kq; clear hKq Kq; clear hKq Kq; refine hKq _ _ _ (V.Sub.refl _) ?_; clear hKq Kq; conv => whnf) | (clear hKq Kq; clear hKq Kq; clear hKq Kq; clear hKq Kq; clear hKq Kq; refine hKq _ _ _ (V.Sub.refl _) ?_; clear hKq Kq; conv => whnf) | (refine And.intro (by omega) ?_; conv => whnf))
      exact ⟨m - 1, _, by omega, ⟨j + 1, by omega, by rw [show (254 - ((j + 1 : Nat) : Int)) = 254 - (j : Int) - 1 by omega], hp⟩, sub_cons rfl (sub_cons rfl (sub_cons rfl (sub_cons rfl sub_nil)))⟩
    · refine And.intro (fun _ => ?_) (fun h => absurd ((by omega)) (of_decide_eq_false h))
      conv => whnf
      repeat (first | (refine VSeq.mk fun Kq hKq => ?_; conv => whnf) | (refine hKq _ _ _ (V.Sub.refl _) ?_; clear hKq Kq; conv => whnf) | (clear hKq Kq; refine hKq _ _ _ (V.Sub.refl _) ?_; clear hKq Kq; conv => whnf) | (clear hKq Kq; clear hKq Kq; refine hKq _ _ _ (V.Sub.refl _) ?_; clear hKq Kq; conv => whnf) | (clear hKq Kq; clear hKq Kq; clear hKq Kq; refine hKq _ _ _ (V.Sub.refl _) ?_; clear hKq Kq; conv => whnf) | (clear hKq Kq; clear hKq Kq; clear hKq Kq; clear hKq Kq; refine hKq _ _ _ (V.Sub.refl _) ?_; clear hKq Kq; conv => whnf) | (clear hKq Kq; clear hKq Kq; clear hKq Kq; clear hKq Kq; clear hKq Kq; refine hKq _ _ _ (V.Sub.refl _) ?_; clear hKq Kq; conv => whnf) | (refine And.intro (by omega) ?_; conv => whnf))
      by_cases c2 : j = 250
      · rw [show (decide (254 - j ≠ 2) && decide (254 - j ≠ 4)) = false by subst c2; rfl, if_neg (by decide)] at htk
        rw [← htk] at hp
        refine And.intro (fun h => absurd (of_decide_eq_true h) ((by omega))) (fun _ => ?_)
        conv => whnf
        repeat (first | (refine VSeq.mk fun Kq hKq => ?_; conv => whnf) | (refine hKq _ _ _ (V.Sub.refl _) ?_; clear hKq Kq; conv => whnf) | (clear hKq Kq; refine hKq _ _ _ (V.Sub.refl _) ?_; clear hKq Kq; conv => whnf) | (clear hKq Kq; clear hKq Kq; refine hKq _ _ _ (V.Sub.refl _) ?_; clear hKq Kq; conv => whnf) | (clear hKq Kq; clear hKq Kq; clear hKq Kq; refine hKq _ _ _ (V.Sub.refl _) ?_; clear hKq Kq; conv => whnf) | (clear hKq Kq; clear hKq Kq; clear hKq Kq; clear hKq Kq; refine hKq _ _ _ (V.Sub.refl _) ?_; clear hKq Kq; conv => whnf) | (clear hKq Kq; clear hKq Kq; clear hKq Kq; clear hKq Kq; clear hKq Kq; refine hKq _ _ _ (V.Sub.refl _) ?_; clear hKq Kq; conv => whnf) | (refine And.intro (by omega) ?_; conv => whnf))
        exact ⟨m - 1, _, by omega, ⟨j + 1, by omega, by rw [show (254 - ((j + 1 : Nat) : Int)) = 254 - (j : Int) - 1 by omega], hp⟩, sub_cons rfl (sub_cons rfl (sub_cons rfl (sub_cons rfl sub_nil)))⟩
      · rw [decide_eq_true (show 254 - j ≠ 2 by omega), decide_eq_true (show 254 - j ≠ 4 by omega), if_pos (by decide)] at htk
        refine And.intro (fun _ => ?_) (fun h => absurd ((by omega)) (of_decide_eq_false h))
        conv => whnf
        repeat (first | (refine VSeq.mk fun Kq hKq => ?_; conv => whnf) | (refine hKq _ _ _ (V.Sub.refl _) ?_; clear hKq Kq; conv => whnf) | (clear hKq Kq; refine hKq _ _ _ (V.Sub.refl _) ?_; clear hKq Kq; conv => whnf) | (clear hKq Kq; clear hKq Kq; refine hKq _ _ _ (V.Sub.refl _) ?_; clear hKq Kq; conv => whnf) | (clear hKq Kq; clear hKq Kq; clear hKq Kq; refine hKq _ _ _ (V.Sub.refl _) ?_; clear hKq Kq; conv => whnf) | (clear hKq Kq; clear hKq Kq; clear hKq Kq; clear hKq Kq; refine hKq _ _ _ (V.Sub.refl _) ?_; clear hKq Kq; conv => whnf) | (clear hKq Kq; clear hKq Kq; clear hKq Kq; clear hKq Kq; clear hKq Kq; refine hKq _ _ _ (V.Sub.refl _) ?_; clear hKq Kq; conv => whnf) | (refine And.intro (by omega) ?_; conv => whnf))
        refine ⟨_, _, Blk.ldN (hp.get (i := 0) rfl) TTok rfl (fold_end), ?_⟩
        conv => whnf
        repeat (first | (refine VSeq.mk fun Kq hKq => ?_; conv => whnf) | (refine hKq _ _ _ (V.Sub.refl _) ?_; clear hKq Kq; conv => whnf) | (clear hKq Kq; refine hKq _ _ _ (V.Sub.refl _) ?_; clear hKq Kq; conv => whnf) | (clear hKq Kq; clear hKq Kq; refine hKq _ _ _ (V.Sub.refl _) ?_; clear hKq Kq; conv => whnf) | (clear hKq Kq; clear hKq Kq; clear hKq Kq; refine hKq _ _ _ (V.Sub.refl _) ?_; clear hKq Kq; conv => whnf) | (clear hKq Kq; clear hKq Kq; clear hKq Kq; clear hKq Kq; refine hKq _ _ _ (V.Sub.refl _) ?_; clear hKq Kq; conv => whnf) | (clear hKq Kq; clear hKq Kq; clear hKq Kq; clear hKq Kq; clear hKq Kq; refine hKq _ _ _ (V.Sub.refl _) ?_; clear hKq Kq; conv => whnf) | (refine And.intro (by omega) ?_; conv => whnf))
        refine ⟨_, _, Blk.ldN (hp.get (i := 2) rfl) TTok rfl (fold_end), ?_⟩
        conv => whnf
        repeat (first | (refine VSeq.mk fun Kq hKq => ?_; conv => whnf) | (refine hKq _ _ _ (V.Sub.refl _) ?_; clear hKq Kq; conv => whnf) | (clear hKq Kq; refine hKq _ _ _ (V.Sub.refl _) ?_; clear hKq Kq; conv => whnf) | (clear hKq Kq; clear hKq Kq; refine hKq _ _ _ (V.Sub.refl _) ?_; clear hKq Kq; conv => whnf) | (clear hKq Kq; clear hKq Kq; clear hKq Kq; refine hKq _ _ _ (V.Sub.refl _) ?_; clear hKq Kq; conv => whnf) | (clear hKq Kq; clear hKq Kq; clear hKq Kq; clear hKq Kq; refine hKq _ _ _ (V.Sub.refl _) ?_; clear hKq Kq; conv => whnf) | (clear hKq Kq; clear hKq Kq; clear hKq Kq; clear hKq Kq; clear hKq Kq; refine hKq _ _ _ (V.Sub.refl _) ?_; clear hKq Kq; conv => whnf) | (refine And.intro (by omega) ?_; conv => whnf))
        refine PureF.use (p2) fun w hx => ?_
        try (have hp := hp.call hx)
        conv => whnf
        repeat (first | (refine VSeq.mk fun Kq hKq => ?_; conv => whnf) | (refine hKq _ _ _ (V.Sub.refl _) ?_; clear hKq Kq; conv => whnf) | (clear hKq Kq; refine hKq _ _ _ (V.Sub.refl _) ?_; clear hKq Kq; conv => whnf) | (clear hKq Kq; clear hKq Kq; refine hKq _ _ _ (V.Sub.refl _) ?_; clear hKq Kq; conv => whnf) | (clear hKq Kq; clear hKq Kq; clear hKq Kq; refine hKq _ _ _ (V.Sub.refl _) ?_; clear hKq Kq; conv => whnf) | (clear hKq Kq; clear hKq Kq; clear hKq Kq; clear hKq Kq; refine hKq _ _ _ (V.Sub.refl _) ?_; clear hKq Kq; conv => whnf) | (clear hKq Kq; clear hKq Kq; clear hKq Kq; clear hKq Kq; clear hKq Kq; refine hKq _ _ _ (V.Sub.refl _) ?_; clear hKq Kq; conv => whnf) | (refine And.intro (by omega) ?_; conv => whnf))
        refine hp.kstA TTok rfl 0 rfl (by rw [fold_end]) (kw_one _ _) (by rw [fold_end]) fun w hp => ?_
        try simp only [List.set_cons_zero, List.set_cons_succ, EV.val] at hp
        conv => whnf
        repeat (first | (refine VSeq.mk fun Kq hKq => ?_; conv => whnf) | (refine hKq _ _ _ (V.Sub.refl _) ?_; clear hKq Kq; conv => whnf) | (clear hKq Kq; refine hKq _ _ _ (V.Sub.refl _) ?_; clear hKq Kq; conv => whnf) | (clear hKq Kq; clear hKq Kq; refine hKq _ _ _ (V.Sub.refl _) ?_; clear hKq Kq; conv => whnf) | (clear hKq Kq; clear hKq Kq; clear hKq Kq; refine hKq _ _ _ (V.Sub.refl _) ?_; clear hKq Kq; conv => whnf) | (clear hKq Kq; clear hKq Kq; clear hKq Kq; clear hKq Kq; refine hKq _ _ _ (V.Sub.refl _) ?_; clear hKq Kq; conv => whnf) | (clear hKq Kq; clear hKq Kq; clear hKq Kq; clear hKq Kq; clear hKq Kq; refine hKq _ _ _ (V.Sub.refl _) ?_; clear hKq Kq; conv => whnf) | (refine And.intro (by omega) ?_; conv => whnf))
        rw [← htk] at hp
        exact ⟨m - 1, _, by omega, ⟨j + 1, by omega, by rw [show (254 - ((j + 1 : Nat) : Int)) = 254 - (j : Int) - 1 by omega], hp⟩, sub_cons rfl (sub_cons rfl (sub_cons rfl (sub_cons rfl sub_nil)))⟩
  · have hlt := of_decide_eq_false hlt
    conv => whnf
    repeat (first | (refine VSeq.mk fun Kq hKq => ?_; conv => whnf) | (refine hKq _ _ _ (V.Sub.refl _) ?_; clear hKq Kq; conv => whnf) | (clear hKq Kq; refine hKq _ _ _ (V.Sub.refl _) ?_; clear hKq Kq; conv => whnf) | (clear hKq Kq; clear hKq Kq; refine hKq _ _ _ (V.Sub.refl _) ?_; clear hKq Kq; conv => whnf) | (clear hKq Kq; clear hKq Kq; clear hKq Kq; refine hKq _ _ _ (V.Sub.refl _) ?_; clear hKq Kq; conv => whnf) | (clear hKq Kq; clear hKq Kq; clear hKq Kq; clear hKq Kq; refine hKq _ _ _ (V.Sub.refl _) ?_; clear hKq Kq; conv => whnf) | (clear hKq Kq; clear hKq Kq; clear hKq Kq; clear hKq Kq; clear hKq Kq; refine hKq _ _ _ (V.Sub.refl _) ?_; clear hKq Kq; conv => whnf) | (refine And.intro (by omega) ?_; conv => whnf))
    obtain rfl : j = 255 := by omega
    rw [List.take_of_length_le (by rw [inv_len]; exact Nat.le_refl _)] at hp
    refine ⟨_, _, Blk.ldN (hp.get (i := 0) rfl) TTok rfl (fold_end), ?_⟩
    conv => whnf
    repeat (first | (refine VSeq.mk fun Kq hKq => ?_; conv => whnf) | (refine hKq _ _ _ (V.Sub.refl _) ?_; clear hKq Kq; conv => whnf) | (clear hKq Kq; refine hKq _ _ _ (V.Sub.refl _) ?_; clear hKq Kq; conv => whnf) | (clear hKq Kq; clear hKq Kq; refine hKq _ _ _ (V.Sub.refl _) ?_; clear hKq Kq; conv => whnf) | (clear hKq Kq; clear hKq Kq; clear hKq Kq; refine hKq _ _ _ (V.Sub.refl _) ?_; clear hKq Kq; conv => whnf) | (clear hKq Kq; clear hKq Kq; clear hKq Kq; clear hKq Kq; refine hKq _ _ _ (V.Sub.refl _) ?_; clear hKq Kq; conv => whnf) | (clear hKq Kq; clear hKq Kq; clear hKq Kq; clear hKq Kq; clear hKq Kq; refine hKq _ _ _ (V.Sub.refl _) ?_; clear hKq Kq; conv => whnf) | (refine And.intro (by omega) ?_; conv => whnf))
    refine hp.kstA TTok rfl 1 rfl (by rw [fold_end]) (kw_one _ _) (by rfl) fun w hp => ?_
    try simp only [List.set_cons_zero, List.set_cons_succ, EV.val] at hp
    conv => whnf
    repeat (first | (refine VSeq.mk fun Kq hKq => ?_; conv => whnf) | (refine hKq _ _ _ (V.Sub.refl _) ?_; clear hKq Kq; conv => whnf) | (clear hKq Kq; refine hKq _ _ _ (V.Sub.refl _) ?_; clear hKq Kq; conv => whnf) | (clear hKq Kq; clear hKq Kq; refine hKq _ _ _ (V.Sub.refl _) ?_; clear hKq Kq; conv => whnf) | (clear hKq Kq; clear hKq Kq; clear hKq Kq; refine hKq _ _ _ (V.Sub.refl _) ?_; clear hKq Kq; conv => whnf) | (clear hKq Kq; clear hKq Kq; clear hKq Kq; clear hKq Kq; refine hKq _ _ _ (V.Sub.refl _) ?_; clear hKq Kq; conv => whnf) | (clear hKq Kq; clear hKq Kq; clear hKq Kq; clear hKq Kq; clear hKq Kq; refine hKq _ _ _ (V.Sub.refl _) ?_; clear hKq Kq; conv => whnf) | (refine And.intro (by omega) ?_; conv => whnf))
    exact ⟨_, Blk.lvN (hp.get (i := 1) rfl) TTok rfl (by rw [fold_end]), rfl, hp.ext⟩
end Go.Proofs.Ytejphmgpndgliaa
