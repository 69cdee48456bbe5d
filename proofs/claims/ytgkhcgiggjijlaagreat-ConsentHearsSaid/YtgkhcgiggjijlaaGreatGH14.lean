/- Chapter 12: the layer does something, walked. -/
/- Chapter 12: ConsentHears. -/
/- Chapter 12: ConsentHears, over what comes in. -/
/- ConsentHears: for every draft, bends, watch, events, hop and time, Hear returns what the reference returns: the watch, the answer and the error. -/
import Derived.Test.YtgkhcgiggjijlaaGreatGH13
import Derived.Test.YtgkhcgiggjijlaaGreatRows
import Derived.WalkKit
import Derived.ProofKit
import Derived.OpenShut
import Derived.ShutString
import Derived.ChangeOld
import Derived.Below
import Derived.Test.YtgkhcgiggjijlaaGreatGH03
namespace Go.Proofs.YtgkhcgiggjijlaaGreat
set_option linter.unusedSimpArgs false
set_option linter.unusedVariables false
set_option maxRecDepth 100000
open Go.RowKit V
set_option maxHeartbeats 16000000
theorem wakes_p : PureF Tryz.prog 9 #[] (.bool true) := by
 have o1 : wk1.Ok := by have := newE_ok (adW_ok 1) (adW_ok 2) (word := (⟨#[97, 98, 99, 100]⟩ : ByteArray)) (noise := ⟨#[0, 128]⟩) (now := 0) (by unfold SzS maxLen; decide) (by unfold SzS maxLen; decide); rw [wk_new] at this; exact this
 have o3 : wk3.Ok := by have := timeE_ok o1 4000; rw [wk_time] at this; exact this
 have o5 : wk5.Ok := by have := restE_ok o1 10 (s := (⟨#[101, 102, 103, 104]⟩ : ByteArray)) (by unfold SzS maxLen; decide); rw [wk_rest] at this; exact this
 have hA : Prb.Ok (p2 0 (adW 1)) := p2_ok ⟨by decide, by decide⟩ (adW_ok 1)
 have s2 := fun {W : World} {v : Value} hv => Wake12_c (W := W) (v := v) wk1 o1 hv
 have s3 := fun {W : World} {v : Value} hv => TimeE_c (W := W) (v := v) wk1 o1 hv 4000
 have s4 := fun {W : World} {v : Value} hv => HearE_c (W := W) (v := v) wk3 o3 hv 4100 (adW 2, adW 1, p2 0 (adW 1)) ⟨adW_ok 2, adW_ok 1, hA⟩
 have s5 := fun {W : World} {v : Value} hv => RestE_c (W := W) (v := v) wk1 o1 hv 10 (⟨#[101, 102, 103, 104]⟩ : ByteArray) (by unfold SzS maxLen; decide)
 have s6 := fun {W : World} {v : Value} hv => SwE_c (W := W) (v := v) wk5 o5 hv 20 (adW 3).h (adW 2).h (adW 3).p (adW 2).p (adW_ok 3) (adW_ok 2)
 have s7 := fun {W : World} {v : Value} hv => Check12_c (W := W) (v := v) wk1 o1 hv
 have s8 := fun {W : World} {v : Value} hv => Check12_c (W := W) (v := v) zW zW_ok hv
 have s9 := fun {W : World} {v u : Value} hv hu => HEq_c (W := W) (v := v) (u := u) (adW 1, adW 2, askP 0) ⟨adW_ok 1, adW_ok 2, ⟨⟨by decide, by decide⟩, ⟨by decide, by decide⟩, ⟨by decide, by decide⟩, ⟨by decide, by decide⟩, Ad.z_ok⟩⟩ hv hu
 have e6 : swE wk5 20 ⟨(adW 3).h, (adW 3).p⟩ ⟨(adW 2).h, (adW 2).p⟩ = (wk6, 0) := wk_sw
 rw [wk_wake] at s2
 rw [wk_time] at s3
 rw [wk_hear] at s4
 rw [wk_rest] at s5
 rw [e6] at s6
 rw [wk_chk] at s7
 rw [wk_chk0] at s8
 clear e6 o1 o3 o5 hA
 dsimp only [ResE, ResW, Wt.c, hopF, hopC, wk1, wk3, wk4, wk5, wk6, adW, p2, Ad.z, zW, iv, List.map] at s2 s3 s4 s5 s6 s7 s8
 first | refine v_pure TTok FFok Tryz.func9 rfl rfl fun w0 => ?_ | refine v_pure (args := []) TTok FFok Tryz.func9 rfl rfl fun w0 => ?_
 conv => whnf
 refine VSeq.mk fun Kq hKq => ?_
 conv => whnf
 refine hKq _ _ _ (.refl _) ?_
 clear hKq Kq
 conv => whnf
 refine VSeq.mk fun Kq hKq => ?_
 conv => whnf
 have hp := Hp.nil w0
 (refine V.CallW.out ?_; (conv => arg 3; dsimp only [EV.val, List.toList_toArray, List.nil_append, List.append_nil, List.cons_append]); (with_reducible refine V.PureF.useW (sample_p) fun w hx => ?_); try (have hp := hp.call hx); conv => whnf)
 (refine hp.kalloc z34 fun al34 w hp hx => ?_; conv => whnf)
 (refine hp.kstA TTok rfl 0 rfl rfl (oneC_of rfl) (by rfl) fun w hp => ?_; try simp only [List.set_cons_zero, List.set_cons_succ, EV.val] at hp; conv => whnf)
 (refine hKq _ _ _ (.refl _) ?_; clear hKq Kq; conv => whnf)
 (refine VSeq.mk fun Kq hKq => ?_; conv => whnf)
 (refine ⟨_, _, Blk.ldV (vs := [_, _, _, _, _, _, _, _, _, _, _, _, _]) (hp.get (i := 0) rfl) TTok rfl rfl rfl, ?_⟩; conv => whnf)
 dsimp only [Wt.c, wk1, adW] at hp
 refine V.CallsUse (s2 SLv.nil) fun w hx => ?_
 have hp := hp.call hx
 conv => whnf
 clear s2
 (refine hKq _ _ _ (.refl _) ?_; clear hKq Kq; conv => whnf)
 (refine VSeq.mk fun Kq hKq => ?_; conv => whnf)
 (refine ⟨_, _, Blk.ldV (vs := [_, _, _, _, _, _, _, _, _, _, _, _, _]) (hp.get (i := 0) rfl) TTok rfl rfl rfl, ?_⟩; conv => whnf)
 refine Calls.mono (s3 SLv.nil) ?_
 rintro _ w ⟨_, rfl, v3, r3, rfl, hx, hs3, hr3⟩
 refine ⟨_, rfl, ?_⟩
 have hpO := hp.call hx
 have hB : Blk w _ _ _ := hpO.get (i := 0) rfl
 obtain ⟨p3, c3, rfl⟩ := hs3.shape
 obtain ⟨q3, d3, rfl⟩ := hr3.s.shape
 have hv3 := hs3.s
 have hr3 := hr3.s
 clear s3 hs3 hp
 repeat clear hp
 have hpN := Hp.nil w
 have hp := hpN
 conv => whnf
 (refine hp.kalloc z34 fun al34 w hp hx => ?_; conv => whnf)
 (refine hp.kstA TTok rfl 0 rfl rfl (oneC_of rfl) (by rfl) fun w hp => ?_; try simp only [List.set_cons_zero, List.set_cons_succ, EV.val] at hp; conv => whnf)
 (refine hKq _ _ _ (.refl _) ?_; clear hKq Kq; conv => whnf)
 (refine VSeq.mk fun Kq hKq => ?_; conv => whnf)
 have hcls := hp.pick [0] (by decide)
 simp only [List.filterMap_cons, List.filterMap_nil, List.getElem?_cons_zero, List.getElem?_cons_succ] at hcls
 refine v_mtC TTok FFok mixed _ hcls [] (.q 0 (.q 1 (.q 2 (.q 3 (.q 4 (.q 5 (.br 6 11 (.q 7 (.q 8 (.q 9 (.q 10 (.m 11 (.m 12 (.q 13 (.q 14 .nil)))))))) (.m 6 (.q 7 (.q 8 (.q 9 (.q 10 (.m 12 (.q 13 (.q 14 .nil))))))))))))))) (by kernel_rfl) ?_
 clear hcls
 conv => whnf
 (refine ⟨_, fun w' hc => Blk.ldV (vs := [_, _, _, _, _, _, _, _, _, _, _, _, _]) (hc.get (i := 0) rfl) TTok rfl rfl rfl, ?_⟩; conv => whnf)
 (refine V.QCallC.out ?_; (conv => arg 3; dsimp only [EV.val, List.toList_toArray, List.nil_append, List.append_nil, List.cons_append]); refine V.PureF.quietC (addr_2) ?_; conv => whnf)
 (refine V.QCallC.out ?_; (conv => arg 3; dsimp only [EV.val, List.toList_toArray, List.nil_append, List.append_nil, List.cons_append]); refine V.PureF.quietC (addr_1) ?_; conv => whnf)
 (refine V.QCallC.out ?_; (conv => arg 3; dsimp only [EV.val, List.toList_toArray, List.nil_append, List.append_nil, List.cons_append]); refine V.PureF.quietC (addr_1) ?_; conv => whnf)
 (refine ⟨_, fun w' hx' => bld61_0_6 w' _ _ _, ?_⟩; conv => whnf)
 (refine ⟨_, fun w' hx' => bld63_0_1_2 w' _ _ _ _ _ _ _ _ _ _ _ _, ?_⟩; conv => whnf)
 refine And.intro ?_ ?_
 all_goals
  conv => whnf
  first | ((intro w hx; try (have hp := hp.call hx); conv => whnf); (refine hp.kalloc z34 fun al34 w hp hx => ?_; conv => whnf); (refine And.intro (fun hc => hc.call hx) ?_; conv => whnf); (intro w hx; try (have hp := hp.call hx); conv => whnf)) | ((intro w hx; try (have hp := hp.call hx); conv => whnf))
  refine Calls.mono (s4 (hv3.ext hp.ext)) ?_
  rintro _ w ⟨_, rfl, v4, r4, rfl, hx, hs4, hr4⟩
  refine ⟨_, rfl, ?_⟩
  have hp := hp.call hx
  obtain ⟨p4, c4, rfl⟩ := hs4.shape
  obtain ⟨q4, d4, rfl⟩ := hr4.s.shape
  clear hs4 hr4
  conv => whnf
  first | ((refine And.intro (fun hc => hc.call hx) ?_; conv => whnf); (intro w hx; try (have hp := hp.call hx); conv => whnf); (refine hp.kalloc z34 fun al34 w hp hx => ?_; conv => whnf); (refine And.intro (fun hc => hc.call hx) ?_; conv => whnf); (intro w hx; try (have hp := hp.call hx); conv => whnf); (refine hp.kstA TTok rfl 0 rfl rfl (oneC_of rfl) (by rfl) fun w hp => ?_; try simp only [List.set_cons_zero, List.set_cons_succ, EV.val] at hp; conv => whnf); (refine And.intro (fun _ => hp.pick [1] (by decide)) ?_; conv => whnf); (intro w hx; try (have hp := hp.call hx); conv => whnf); (refine hKq _ _ _ (.refl _) ?_; clear hKq Kq; conv => whnf); (refine VSeq.mk fun Kq hKq => ?_; conv => whnf); (refine ⟨_, _, Blk.ldN (Blk.ext hB hp.ext) TTok rfl rfl, ?_⟩; conv => whnf)) | ((refine And.intro (fun hc => hc.call hx) ?_; conv => whnf); (intro w hx; try (have hp := hp.call hx); conv => whnf); (refine hp.kstA TTok rfl 0 rfl rfl (oneC_of rfl) (by rfl) fun w hp => ?_; try simp only [List.set_cons_zero, List.set_cons_succ, EV.val] at hp; conv => whnf); (refine And.intro (fun _ => hp.pick [1] (by decide)) ?_; conv => whnf); (intro w hx; try (have hp := hp.call hx); conv => whnf); (refine hKq _ _ _ (.refl _) ?_; clear hKq Kq; conv => whnf); (refine VSeq.mk fun Kq hKq => ?_; conv => whnf); (refine ⟨_, _, Blk.ldN (Blk.ext hB hp.ext) TTok rfl rfl, ?_⟩; conv => whnf))
  refine Calls.mono (s5 SLv.nil) ?_
  rintro _ w ⟨_, rfl, v5, rfl, hx, hs5⟩
  refine ⟨_, rfl, ?_⟩
  have hp := hp.call hx
  obtain ⟨p5, c5, rfl⟩ := hs5.shape
  clear hs5
  conv => whnf
  (refine hp.kalloc z34 fun al34 w hp hx => ?_; conv => whnf)
  (refine hp.kstA TTok rfl 0 rfl rfl (oneC_of rfl) (by rfl) fun w hp => ?_; try simp only [List.set_cons_zero, List.set_cons_succ, EV.val] at hp; conv => whnf)
  (refine hKq _ _ _ (.refl _) ?_; clear hKq Kq; conv => whnf)
  (refine VSeq.mk fun Kq hKq => ?_; conv => whnf)
  have hcls := hp.pick [0] (by decide)
  simp only [List.filterMap_cons, List.filterMap_nil, List.getElem?_cons_zero, List.getElem?_cons_succ] at hcls
  refine v_mtC TTok FFok mixed _ hcls [] (.q 0 (.q 1 (.q 2 (.q 3 (.br 4 8 (.q 5 (.q 6 (.q 7 (.m 8 (.m 9 (.q 10 .nil)))))) (.m 4 (.q 5 (.q 6 (.q 7 (.m 9 (.q 10 .nil))))))))))) (by kernel_rfl) ?_
  clear hcls
  conv => whnf
  (refine ⟨_, fun w' hc => Blk.ldV (vs := [_, _, _, _, _, _, _, _, _, _, _, _, _]) (hc.get (i := 0) rfl) TTok rfl rfl rfl, ?_⟩; conv => whnf)
  (refine V.QCallC.out ?_; (conv => arg 3; dsimp only [EV.val, List.toList_toArray, List.nil_append, List.append_nil, List.cons_append]); refine V.PureF.quietC (addr_3) ?_; conv => whnf)
  (refine V.QCallC.out ?_; (conv => arg 3; dsimp only [EV.val, List.toList_toArray, List.nil_append, List.append_nil, List.cons_append]); refine V.PureF.quietC (addr_2) ?_; conv => whnf)
  (refine ⟨_, fun w' hx' => bld31_0_1 w' _ _ _ _, ?_⟩; conv => whnf)
  refine And.intro ?_ ?_
  all_goals
   conv => whnf
   first | ((intro w hx; try (have hp := hp.call hx); conv => whnf); (refine hp.kalloc z34 fun al34 w hp hx => ?_; conv => whnf); (refine And.intro (fun hc => hc.call hx) ?_; conv => whnf); (intro w hx; try (have hp := hp.call hx); conv => whnf)) | ((intro w hx; try (have hp := hp.call hx); conv => whnf))
   refine Calls.mono (s6 (.inl ⟨rfl, _, _, rfl⟩)) ?_
   rintro _ w ⟨_, rfl, v6, rfl, hx, hs6⟩
   refine ⟨_, rfl, ?_⟩
   have hp := hp.call hx
   obtain ⟨p6, c6, rfl⟩ := hs6.shape
   clear hs6
   conv => whnf
   first | ((refine And.intro (fun hc => hc.call hx) ?_; conv => whnf); (intro w hx; try (have hp := hp.call hx); conv => whnf); (refine hp.kalloc z34 fun al34 w hp hx => ?_; conv => whnf); (refine And.intro (fun hc => hc.call hx) ?_; conv => whnf); (intro w hx; try (have hp := hp.call hx); conv => whnf); (refine hp.kstA TTok rfl 0 rfl rfl (oneC_of rfl) (by rfl) fun w hp => ?_; try simp only [List.set_cons_zero, List.set_cons_succ, EV.val] at hp; conv => whnf); (refine And.intro (fun _ => hp.pick [1] (by decide)) ?_; conv => whnf); (intro w hx; try (have hp := hp.call hx); conv => whnf); (refine hKq _ _ _ (.refl _) ?_; clear hKq Kq; conv => whnf); (refine VSeq.mk fun Kq hKq => ?_; conv => whnf); (refine VSeq.mk fun Kq hKq => ?_; conv => whnf); (refine hKq _ _ _ (.refl _) ?_; clear hKq Kq; conv => whnf); (refine VSeq.mk fun Kq hKq => ?_; conv => whnf); (refine And.intro (fun _ => ?_) (fun h => absurd (by first | rfl | assumption | omega | decide) (of_decide_eq_false h)); conv => whnf); (refine hKq _ _ _ (.refl _) ?_; clear hKq Kq; conv => whnf); (refine VSeq.mk fun Kq hKq => ?_; conv => whnf); (refine And.intro (fun _ => ?_) (fun h => absurd (by first | rfl | assumption | omega | decide) (of_decide_eq_false h)); conv => whnf); (refine hKq _ _ _ (.refl _) ?_; clear hKq Kq; conv => whnf); (refine VSeq.mk fun Kq hKq => ?_; conv => whnf); (refine And.intro (fun _ => ?_) (fun h => absurd (by first | rfl | assumption | omega | decide) (of_decide_eq_false h)); conv => whnf); (refine hKq _ _ _ (.refl _) ?_; clear hKq Kq; conv => whnf); (refine VSeq.mk fun Kq hKq => ?_; conv => whnf); (refine And.intro (fun _ => ?_) (fun h => absurd (by first | rfl | assumption | omega | decide) (of_decide_eq_false h)); conv => whnf); (refine ⟨_, _, Blk.ld (hp.get (i := 3) rfl) TTok rfl rfl, ?_⟩; conv => whnf); (refine hKq _ _ _ (.refl _) ?_; clear hKq Kq; conv => whnf); (refine VSeq.mk fun Kq hKq => ?_; conv => whnf); (refine And.intro (fun _ => ?_) (fun h => absurd (by first | rfl | assumption | omega | decide) (of_decide_eq_false h)); conv => whnf); (refine V.CallW.out ?_; (conv => arg 3; dsimp only [EV.val, List.toList_toArray, List.nil_append, List.append_nil, List.cons_append]); refine V.PureF.useW (addr_1) fun w hx => ?_; try (have hp := hp.call hx); conv => whnf); (refine V.CallW.out ?_; (conv => arg 3; dsimp only [EV.val, List.toList_toArray, List.nil_append, List.append_nil, List.cons_append]); refine V.PureF.useW (addr_2) fun w hx => ?_; try (have hp := hp.call hx); conv => whnf); (refine ⟨_, _, bld61_0_2 _ _ _, ?_⟩; conv => whnf); (refine ⟨_, _, bld63_0_1_2 _ _ _ _ _ _ _ _ _ _ _ _ _, ?_⟩; conv => whnf); (refine hp.kmade _ _ (fun b => .slice (some ⟨b, 0, none⟩) 1 1) (mks55_1_0 _ _ _ _ _ _ _ _ _ _ _ _ _) fun q w hp hx => ?_; conv => whnf)) | ((refine And.intro (fun hc => hc.call hx) ?_; conv => whnf); (intro w hx; try (have hp := hp.call hx); conv => whnf); (refine hp.kstA TTok rfl 0 rfl rfl (oneC_of rfl) (by rfl) fun w hp => ?_; try simp only [List.set_cons_zero, List.set_cons_succ, EV.val] at hp; conv => whnf); (refine And.intro (fun _ => hp.pick [1] (by decide)) ?_; conv => whnf); (intro w hx; try (have hp := hp.call hx); conv => whnf); (refine hKq _ _ _ (.refl _) ?_; clear hKq Kq; conv => whnf); (refine VSeq.mk fun Kq hKq => ?_; conv => whnf); (refine VSeq.mk fun Kq hKq => ?_; conv => whnf); (refine hKq _ _ _ (.refl _) ?_; clear hKq Kq; conv => whnf); (refine VSeq.mk fun Kq hKq => ?_; conv => whnf); (refine And.intro (fun _ => ?_) (fun h => absurd (by first | rfl | assumption | omega | decide) (of_decide_eq_false h)); conv => whnf); (refine hKq _ _ _ (.refl _) ?_; clear hKq Kq; conv => whnf); (refine VSeq.mk fun Kq hKq => ?_; conv => whnf); (refine And.intro (fun _ => ?_) (fun h => absurd (by first | rfl | assumption | omega | decide) (of_decide_eq_false h)); conv => whnf); (refine hKq _ _ _ (.refl _) ?_; clear hKq Kq; conv => whnf); (refine VSeq.mk fun Kq hKq => ?_; conv => whnf); (refine And.intro (fun _ => ?_) (fun h => absurd (by first | rfl | assumption | omega | decide) (of_decide_eq_false h)); conv => whnf); (refine hKq _ _ _ (.refl _) ?_; clear hKq Kq; conv => whnf); (refine VSeq.mk fun Kq hKq => ?_; conv => whnf); (refine And.intro (fun _ => ?_) (fun h => absurd (by first | rfl | assumption | omega | decide) (of_decide_eq_false h)); conv => whnf); (refine ⟨_, _, Blk.ld (hp.get (i := 3) rfl) TTok rfl rfl, ?_⟩; conv => whnf); (refine hKq _ _ _ (.refl _) ?_; clear hKq Kq; conv => whnf); (refine VSeq.mk fun Kq hKq => ?_; conv => whnf); (refine And.intro (fun _ => ?_) (fun h => absurd (by first | rfl | assumption | omega | decide) (of_decide_eq_false h)); conv => whnf); (refine V.CallW.out ?_; (conv => arg 3; dsimp only [EV.val, List.toList_toArray, List.nil_append, List.append_nil, List.cons_append]); refine V.PureF.useW (addr_1) fun w hx => ?_; try (have hp := hp.call hx); conv => whnf); (refine V.CallW.out ?_; (conv => arg 3; dsimp only [EV.val, List.toList_toArray, List.nil_append, List.append_nil, List.cons_append]); refine V.PureF.useW (addr_2) fun w hx => ?_; try (have hp := hp.call hx); conv => whnf); (refine ⟨_, _, bld61_0_2 _ _ _, ?_⟩; conv => whnf); (refine ⟨_, _, bld63_0_1_2 _ _ _ _ _ _ _ _ _ _ _ _ _, ?_⟩; conv => whnf); (refine hp.kmade _ _ (fun b => .slice (some ⟨b, 0, none⟩) 1 1) (mks55_1_0 _ _ _ _ _ _ _ _ _ _ _ _ _) fun q w hp hx => ?_; conv => whnf))
   refine V.CallsUse (s9 (hr3.ext hp.ext) (HR.blk (hp.get (i := 0) rfl))) fun w hx => ?_
   have hp := hp.call hx
   conv => whnf
   (refine hKq _ _ _ (.refl _) ?_; clear hKq Kq; conv => whnf)
   (refine VSeq.mk fun Kq hKq => ?_; conv => whnf)
   (refine And.intro (fun _ => ?_) (fun h => absurd h (by decide)); conv => whnf)
   (refine hKq _ _ _ (.refl _) ?_; clear hKq Kq; conv => whnf)
   (refine VSeq.mk fun Kq hKq => ?_; conv => whnf)
   (refine And.intro (fun _ => ?_) (fun h => absurd (by first | rfl | assumption | omega | decide) (of_decide_eq_false h)); conv => whnf)
   (refine hKq _ _ _ (.refl _) ?_; clear hKq Kq; conv => whnf)
   (refine VSeq.mk fun Kq hKq => ?_; conv => whnf)
   (refine And.intro (fun _ => ?_) (fun h => absurd (by first | rfl | assumption | omega | decide) (of_decide_eq_false h)); conv => whnf)
   (refine ⟨_, _, Blk.ld (hp.get (i := 3) rfl) TTok rfl rfl, ?_⟩; conv => whnf)
   (refine hKq _ _ _ (.refl _) ?_; clear hKq Kq; conv => whnf)
   (refine VSeq.mk fun Kq hKq => ?_; conv => whnf)
   (refine And.intro (fun _ => ?_) (fun h => absurd (by first | rfl | assumption | omega | decide) (of_decide_eq_false h)); conv => whnf)
   (refine ⟨_, _, Blk.ld (hp.get (i := 3) rfl) TTok rfl rfl, ?_⟩; conv => whnf)
   (refine hKq _ _ _ (.refl _) ?_; clear hKq Kq; conv => whnf)
   (refine VSeq.mk fun Kq hKq => ?_; conv => whnf)
   (refine And.intro (fun _ => ?_) (fun h => absurd (by first | rfl | assumption | omega | decide) (of_decide_eq_false h)); conv => whnf)
   (refine hKq _ _ _ (.refl _) ?_; clear hKq Kq; conv => whnf)
   (refine VSeq.mk fun Kq hKq => ?_; conv => whnf)
   (refine And.intro (fun _ => ?_) (fun h => absurd (by first | rfl | assumption | omega | decide) (of_decide_eq_false h)); conv => whnf)
   (refine ⟨_, _, Blk.ld (hp.get (i := 2) rfl) TTok rfl rfl, ?_⟩; conv => whnf)
   (refine hKq _ _ _ (.refl _) ?_; clear hKq Kq; conv => whnf)
   (refine VSeq.mk fun Kq hKq => ?_; conv => whnf)
   (refine And.intro (fun _ => ?_) (fun h => absurd (by first | rfl | assumption | omega | decide) (of_decide_eq_false h)); conv => whnf)
   (refine hKq _ _ _ (.refl _) ?_; clear hKq Kq; conv => whnf)
   (refine VSeq.mk fun Kq hKq => ?_; conv => whnf)
   (refine And.intro (fun _ => ?_) (fun h => absurd (by first | rfl | assumption | omega | decide) (of_decide_eq_false h)); conv => whnf)
   (refine ⟨_, _, Blk.ld (hp.get (i := 1) rfl) TTok rfl rfl, ?_⟩; conv => whnf)
   (refine hKq _ _ _ (.refl _) ?_; clear hKq Kq; conv => whnf)
   (refine VSeq.mk fun Kq hKq => ?_; conv => whnf)
   (refine And.intro (fun _ => ?_) (fun h => absurd (by first | rfl | assumption | omega | decide) (of_decide_eq_false h)); conv => whnf)
   (refine ⟨_, _, Blk.ld (hp.get (i := 1) rfl) TTok rfl rfl, ?_⟩; conv => whnf)
   (refine hKq _ _ _ (.refl _) ?_; clear hKq Kq; conv => whnf)
   (refine VSeq.mk fun Kq hKq => ?_; conv => whnf)
   (refine And.intro (fun _ => ?_) (fun h => absurd (by first | rfl | assumption | omega | decide) (of_decide_eq_false h)); conv => whnf)
   (refine ⟨_, _, Blk.ldN (Blk.ext hB hp.ext) TTok rfl rfl, ?_⟩; conv => whnf)
   refine V.CallsUse (s7 SLv.nil) fun w hx => ?_
   have hp := hp.call hx
   conv => whnf
   (refine hKq _ _ _ (.refl _) ?_; clear hKq Kq; conv => whnf)
   (refine And.intro (fun _ => ?_) (fun h => absurd (by first | rfl | assumption | omega | decide) (of_decide_eq_false h)); conv => whnf)
   (refine ⟨_, _, bld34_ _, ?_⟩; conv => whnf)
   refine V.CallsUse (s8 SLv.nil) fun w hx => ?_
   have hp := hp.call hx
   conv => whnf
   (refine hKq _ _ _ (.refl _) ?_; clear hKq Kq; conv => whnf)
   exact ⟨rfl, (hpO.join hp).ext⟩
set_option maxHeartbeats 16000000
theorem hearE_hops {x : Wt} (hok : x.Ok) (now : Int) (p : Hop3) (hp : p.Ok) : ∀ h ∈ (hearE x now p).2.1, h.1.Ok ∧ h.2.1.Ok ∧ h.2.2.Ok := fun h hh => by
 unfold hearE at hh
 split at hh
 ·cases hh
 ·split at hh
  ·cases hh
  ·split at hh
   ·cases hh
   ·obtain ⟨e1, e2, _⟩ := atW_same x now
    unfold hearW at hh
    dsimp only at hh
    split at hh
    ·cases hh
    ·split at hh
     ·rw [List.mem_singleton] at hh
      subst hh
      exact ⟨by rw [e1]; exact hok.a, by rw [e2]; exact hok.b, p2_ok hp.p.id hp.f⟩
     ·split at hh
      ·split at hh
       ·cases hh
       ·cases hh
      ·cases hh
theorem flat_at : ∀ {hs : List Hop3} {i : Nat} {h : Hop3}, hs[i]? = some h → ∀ {j : Nat} {v : Value}, (hopF h)[j]? = some v → (hs.flatMap hopF)[i * 12 + j]? = some v
 | [], i, h, hi, j, v, hj => by simp at hi
 | x :: hs, 0, h, hi, j, v, hj => by
  obtain rfl : x = h := by simpa using hi
  rw [List.flatMap_cons, Nat.zero_mul, Nat.zero_add, List.getElem?_append_left (List.getElem?_eq_some_iff.1 hj).1]
  exact hj
 | x :: hs, i + 1, h, hi, j, v, hj => by
  rw [List.flatMap_cons, List.getElem?_append_right (by show 12 ≤ (i + 1) * 12 + j; omega)]
  have := flat_at (hs := hs) (i := i) (by simpa using hi) hj
  rw [← this]
  congr 1
  show (i + 1) * 12 + j - 12 = i * 12 + j
  omega
theorem hop_one {h : Hop3} : ∀ u ∈ hopF h, u.oneCell' = true := by
 intro u hu
 simp only [hopF, hopC, List.mem_cons, List.not_mem_nil, or_false] at hu
 rcases hu with rfl | rfl | rfl | rfl | rfl | rfl | rfl | rfl | rfl | rfl | rfl | rfl <;> rfl
theorem flat_one {hs : List Hop3} : ∀ u ∈ hs.flatMap hopF, u.oneCell' = true := by
 intro u hu
 obtain ⟨h, _, hh⟩ := List.mem_flatMap.1 hu
 exact hop_one u hh
theorem hears_c {W : World} {vn ve v vl : Value} (p : Nat) (hp256 : p < 256) (nb : List UInt8) (evs : List Ev) (hev : ∀ x ∈ evs, x.Ok) (hn : SLv W vn (bytesV nb)) (he : SLn W 5 ve (evs.map Ev.c)) (b c : Bn) (hb : b.Ok) (hc : c.Ok) (z : Wt) (hz : z.Ok) (hv : SLv W v (iv z.asked)) (L : List Ev) (hL : ∀ x ∈ L, x.Ok) (hvl : SLn W 5 vl (L.map Ev.c)) (od : Hop3) (hod : od.Ok) (nw : Int) :
  Calls Tryz.prog 5 #[.agg #[.int .u8 p, vn, ve], .agg (b.c ++ c.c).toArray, .agg (z.c v).toArray, vl, .agg (hopF od).toArray, .int .i64 nw] W fun e w' => e = .returned (.bool true) ∧ Ext W w' := by
 have hml := hvl.len
 have hll : (L.map Ev.c).length = L.length := List.length_map _
 rw [hll] at hml
 unfold maxLen at hml
 obtain ⟨vs, hrun, hvs⟩ := SLn_hi (P := Tryz.prog) TTok (t := 23) rfl rfl hvl (min L.length 4) (by rw [hll]; omega)
 have hrun2 := hrun .i64
 rw [show ((min L.length 4 : Nat) : Int) = min (L.length : Int) 4 by omega] at hrun2
 have htm : (L.map Ev.c).take (min L.length 4) = (L.take 4).map Ev.c := by
  rw [← List.map_take]
  congr 1
  rcases Nat.le_total L.length 4 with h | h
  ·rw [Nat.min_eq_left h, List.take_length, List.take_of_length_le h]
  ·rw [Nat.min_eq_right h]
 rw [htm] at hvs
 obtain ⟨M, hM⟩ : ∃ M, L.take 4 = M := ⟨_, rfl⟩
 have hMl : M.length ≤ 4 := by rw [← hM, List.length_take]; omega
 have hMo : ∀ x ∈ M, x.Ok := fun x hx => hL x (List.mem_of_mem_take (hM ▸ hx))
 rw [hM] at hvs
 clear hM htm hL
 have hlm : (M.map Ev.c).length = M.length := List.length_map _
 obtain ⟨pl, cl, rfl⟩ := hvl.shape
 obtain ⟨pm, cm, rfl⟩ := hvs.shape
 rw [hll] at hrun2 hvl ⊢
 rw [hlm] at hrun2 hvs
 clear hrun
 refine v_reads (args := [.agg #[.int .u8 p, vn, ve], .agg #[.int .u8 b.what, .int .u8 b.at_, .int .i64 b.n, .string b.s, .string b.a.h, .int .i64 b.a.p, .int .u8 c.what, .int .u8 c.at_, .int .i64 c.n, .string c.s, .string c.a.h, .int .i64 c.a.p], .agg #[.string z.a.h, .int .i64 z.a.p, .string z.b.h, .int .i64 z.b.p, .int .i64 z.now, .int .i64 z.nxt, .int .i64 z.til, .int .i64 z.ser, .bool z.gone, .string z.noise, .string z.word, .string z.fresh, v], .slice pl L.length cl, .agg #[.string od.1.h, .int .i64 od.1.p, .string od.2.1.h, .int .i64 od.2.1.p, .int .i64 od.2.2.k, .int .i64 od.2.2.id, .int .i64 od.2.2.pr, .bool od.2.2.ct, .int .i64 od.2.2.ti, .bool od.2.2.no, .string od.2.2.m.h, .int .i64 od.2.2.m.p], .int .i64 nw]) TTok FFok Tryz.func5 rfl rfl ?_
 conv => whnf
 refine VSeq.mk fun Kq hKq => ?_
 conv => whnf
 have hp := Hp.nil W
 refine hp.kboxA fun q6 w hp hx => ?_
 conv => whnf
 refine hp.kboxA fun q7 w hp hx => ?_
 conv => whnf
 refine hp.kboxA fun q8 w hp hx => ?_
 conv => whnf
 refine hp.kboxA fun q10 w hp hx => ?_
 conv => whnf
 refine hKq _ _ _ (.refl _) ?_
 clear hKq Kq
 conv => whnf
 refine VSeq.mk fun Kq hKq => ?_
 conv => whnf
 refine VSeq.mk fun Kq hKq => ?_
 conv => whnf
 (refine V.CallW.out ?_; (conv => arg 3; dsimp only [EV.val, List.toList_toArray, List.nil_append, List.append_nil, List.cons_append]); (with_reducible refine V.PureF.useW (wakes_p) fun w hx => ?_); try (have hp := hp.call hx); conv => whnf)
 (refine hKq _ _ _ (.refl _) ?_; clear hKq Kq; conv => whnf)
 (refine And.intro (fun h => absurd h (by decide)) (fun _ => ?_); conv => whnf)
 (refine hKq _ _ _ (.refl _) ?_; clear hKq Kq; conv => whnf)
 (refine VSeq.mk fun Kq hKq => ?_; conv => whnf)
 (refine VSeq.mk fun Kq hKq => ?_; conv => whnf)
 (refine ⟨_, _, Blk.ldV (vs := [_, _, _]) (hp.get (i := 3) rfl) TTok rfl rfl rfl, ?_⟩; conv => whnf)
 (refine ⟨_, _, Blk.ldV (vs := [_, _, _, _, _, _, _, _, _, _, _, _]) (hp.get (i := 2) rfl) TTok rfl rfl rfl, ?_⟩; conv => whnf)
 (refine ⟨_, _, Blk.ldV (vs := [_, _, _, _, _, _, _, _, _, _, _, _, _]) (hp.get (i := 1) rfl) TTok rfl rfl rfl, ?_⟩; conv => whnf)
 refine Calls.mono (watches_c p hp256 nb evs hev (hn.ext hp.ext) (he.ext hp.ext) b c hb hc z hz (hv.ext hp.ext)) ?_
 rintro _ w ⟨_, rfl, hx, hF⟩
 refine ⟨_, rfl, ?_⟩
 obtain ⟨A, rfl⟩ := hF.1
 have hp := hp.call hx
 conv => whnf
 (refine hKq _ _ _ (.refl _) ?_; clear hKq Kq; conv => whnf)
 clear hn he hb hc hz hv
 refine ⟨fun mm e w' => ∃ (k : Nat), mm + k = 4 ∧ e = [(3, .v (.slice pl L.length cl)), (5, .v (.int .i64 nw)), (10, .v (.pointer (some ⟨q10, 0, none⟩))), (33, .v (.agg A)), (34, .v (.int .i64 k))] ∧ Four w' (.agg A) ∧ HpM [] W w' [blk q10 (hopF od) 63],
  ⟨4, _, ⟨0, by omega, rfl, hF, hp.pick [0] (by decide)⟩, (sub_cons rfl (sub_cons rfl (sub_cons rfl (sub_cons rfl (sub_cons rfl sub_nil)))))⟩, ?_⟩
 clear hF hp hx
 repeat clear hp
 rintro mm _ w ⟨k, hmm, rfl, hF, hp⟩
 conv => whnf
 refine VSeq.mk fun Kq hKq => ?_
 conv => whnf
 refine hKq _ _ _ (.refl _) ?_
 clear hKq Kq
 conv => whnf
 refine VSeq.mk fun Kq hKq => ?_
 conv => whnf
 skip
 refine ⟨fun hlt => ?_, fun hlt => ?_⟩
 ·have hlt := of_decide_eq_true hlt
  conv => whnf
  refine hKq _ _ _ (.refl _) ?_
  clear hKq Kq
  conv => whnf
  refine VSeq.mk fun Kq hKq => ?_
  conv => whnf
  refine VSeq.mk fun Kq hKq => ?_
  conv => whnf
  obtain ⟨y, vy, yo, sv, hix⟩ := hF.2 k (by omega)
  obtain ⟨pv, cv, rfl⟩ := sv.shape
  dsimp only [Wt.c] at hix
  obtain ⟨w0, rfl⟩ : ∃ w0, w0 = w := ⟨w, rfl⟩
  have hpO := hp
  have D0 : Blk w0 q10 _ _ := hpO.get (i := 0) rfl
  clear hp
  repeat clear hp
  have hp := Hp.nil w0
  skip
  refine ⟨_, _, hix _, ?_⟩
  conv => whnf
  clear hix
  (refine hp.kalloc z34 fun al34 w hp hx => ?_; conv => whnf)
  (refine hp.kstA TTok rfl 0 rfl rfl (oneC_of rfl) (by rfl) fun w hp => ?_; try simp only [List.set_cons_zero, List.set_cons_succ, EV.val] at hp; conv => whnf)
  (refine hKq _ _ _ (.refl _) ?_; clear hKq Kq; conv => whnf)
  (refine VSeq.mk fun Kq hKq => ?_; conv => whnf)
  (refine ⟨_, _, Blk.ldN (Blk.ext D0 hp.ext) TTok rfl rfl, ?_⟩; conv => whnf)
  (refine ⟨1, ⟨rfl, by decide⟩, ?_⟩; conv => whnf)
  (refine ⟨_, _, Blk.ldV (vs := [_, _]) (hp.get (i := 0) rfl) TTok rfl rfl rfl, ?_⟩; conv => whnf)
  (refine ⟨0, ⟨rfl, by decide⟩, ?_⟩; conv => whnf)
  (refine ⟨_, _, Blk.ldV (vs := [_, _]) (hp.get (i := 0) rfl) TTok rfl rfl rfl, ?_⟩; conv => whnf)
  (refine ⟨_, _, Blk.ldV (off := 4) (vs := od.2.2.c) (Blk.ext D0 hp.ext) TTok rfl rfl rfl, ?_⟩; conv => whnf)
  (refine ⟨_, _, bld63_0_1_2 _ _ _ _ _ _ _ _ _ _ _ _ _, ?_⟩; conv => whnf)
  refine hp.kmadeR ([od, (y.b, y.a, od.2.2)].flatMap hopF) 63 12 2 rfl (by decide) (mks55_2_0_1 _ _ _ _ _ _ _ _ _ _ _ _ _ _ _ _ _ _ _ _ _ _ _ _ _) fun bh w hp hx => ?_
  conv => whnf
  (refine hKq _ _ _ (.refl _) ?_; clear hKq Kq; conv => whnf)
  (refine VSeq.mk fun Kq hKq => ?_; conv => whnf)
  (refine VSeq.mk fun Kq hKq => ?_; conv => whnf)
  refine ⟨_, _, hrun2 _, ?_⟩
  conv => whnf
  refine hKq _ _ _ (.refl _) ?_
  clear hKq Kq
  conv => whnf
  skip
  refine ⟨fun mm e w' => ∃ (m : Nat) (hs : List Hop3) (vh : Value), mm + m = M.length ∧ e = [(3, .v (.slice pl L.length cl)), (5, .v (.int .i64 nw)), (10, .v (.pointer (some ⟨q10, 0, none⟩))), (14, .v (.pointer (some ⟨al34, 0, none⟩))), (15, .v vh), (33, .v (.agg A)), (34, .v (.int .i64 k)), (52, .v (.slice pm M.length cm)), (53, .v (.int .i64 M.length)), (54, .v (.int .i64 m))] ∧ hs.length = 2 + 3 * m ∧ (∀ h ∈ hs, Hop3.Ok h) ∧ HpM [] w0 w' [row 63 12 vh (2 + 3 * m) (hs.flatMap hopF), blk al34 [.string y.a.h, .int .i64 y.a.p, .string y.b.h, .int .i64 y.b.p, .int .i64 y.now, .int .i64 y.nxt, .int .i64 y.til, .int .i64 y.ser, .bool y.gone, .string y.noise, .string y.word, .string y.fresh, .slice pv (iv y.asked).length cv] 34],
   ⟨M.length, _, ⟨0, [od, (y.b, y.a, od.2.2)], _, by omega, rfl, rfl, fun h hh => ?_, hp⟩, (sub_cons rfl (sub_cons rfl (sub_cons rfl (sub_cons rfl (sub_cons rfl (sub_cons rfl (sub_cons rfl (sub_cons rfl (sub_cons rfl (sub_cons rfl sub_nil))))))))))⟩, ?_⟩
  ·rcases List.mem_cons.1 hh with rfl | hh
   ·exact hod
   ·rw [List.mem_singleton] at hh; subst hh; exact ⟨yo.b, yo.a, hod.p⟩
  clear hp hx
  repeat clear hp
  rintro m2 _ w ⟨m, hs, vh, hm2, rfl, hlen, hok, hp⟩
  conv => whnf
  refine VSeq.mk fun Kq hKq => ?_
  conv => whnf
  refine hKq _ _ _ (.refl _) ?_
  clear hKq Kq
  conv => whnf
  refine VSeq.mk fun Kq hKq => ?_
  conv => whnf
  skip
  refine ⟨fun hlm => ?_, fun hlm => ?_⟩
  ·have hlm := of_decide_eq_true hlm
   conv => whnf
   refine hKq _ _ _ (.refl _) ?_
   clear hKq Kq
   conv => whnf
   refine VSeq.mk fun Kq hKq => ?_
   conv => whnf
   refine VSeq.mk fun Kq hKq => ?_
   conv => whnf
   obtain ⟨x, hxi⟩ : ∃ x, M[m]? = some x := ⟨M[m]'(by omega), List.getElem?_eq_getElem (by omega)⟩
   obtain ⟨g, off, rfl, _, hcell⟩ := (hvs.ext (hpO.ext.trans hp.ext)).cells (j := m) (x := x.c) (by rw [List.getElem?_map, hxi]; rfl)
   have xo := hMo x (List.mem_of_getElem? hxi)
   have sP := fun {W : World} hv => Probe12_c (W := W) (v := .slice pv (iv y.asked).length cv) x xo y yo.len hv
   have pok := prE_ok xo yo
   obtain ⟨pr, hpr⟩ : ∃ pr, prE x y = pr := ⟨_, rfl⟩
   rw [hpr] at sP pok
   clear hpr
   dsimp only [Wt.c, Ev.c, Prb.c] at sP
   skip
   refine ⟨m, ⟨by first | rfl | omega, by show m < M.length; omega⟩, ?_⟩
   conv => whnf
   skip
   refine ⟨_, _, run_ldN TTok rfl (vs := x.c) rfl fun j v hj => hcell j v hj, ?_⟩
   conv => whnf
   (refine hp.kalloc z65 fun al65 w hp hx => ?_; conv => whnf)
   (refine hp.kstA TTok rfl 0 rfl rfl (oneC_of rfl) (by rfl) fun w hp => ?_; try simp only [List.set_cons_zero, List.set_cons_succ, EV.val] at hp; conv => whnf)
   (refine hKq _ _ _ (.refl _) ?_; clear hKq Kq; conv => whnf)
   (refine VSeq.mk fun Kq hKq => ?_; conv => whnf)
   (refine ⟨_, _, Blk.ldV (vs := [_, _, _, _, _]) (hp.get (i := 0) rfl) TTok rfl rfl rfl, ?_⟩; conv => whnf)
   (refine ⟨_, _, Blk.ldV (vs := [_, _, _, _, _, _, _, _, _, _, _, _, _]) (hp.get (i := 2) rfl) TTok rfl rfl rfl, ?_⟩; conv => whnf)
   refine V.CallsUse (sP (sv.ext hp.ext)) fun w hx => ?_
   have hp := hp.call hx
   conv => whnf
   clear sP
   (refine hp.kalloc z61 fun al61 w hp hx => ?_; conv => whnf)
   (refine hp.kstA TTok rfl 0 rfl rfl (oneC_of rfl) (by rfl) fun w hp => ?_; try simp only [List.set_cons_zero, List.set_cons_succ, EV.val] at hp; conv => whnf)
   (refine hKq _ _ _ (.refl _) ?_; clear hKq Kq; conv => whnf)
   (refine ⟨1, ⟨rfl, by decide⟩, ?_⟩; conv => whnf)
   (refine ⟨_, _, Blk.ldV (vs := [_, _]) (hp.get (i := 3) rfl) TTok rfl rfl rfl, ?_⟩; conv => whnf)
   (refine ⟨0, ⟨rfl, by decide⟩, ?_⟩; conv => whnf)
   (refine ⟨_, _, Blk.ldV (vs := [_, _]) (hp.get (i := 3) rfl) TTok rfl rfl rfl, ?_⟩; conv => whnf)
   (refine ⟨_, _, Blk.ldV (vs := [_, _, _, _, _, _, _, _]) (hp.get (i := 0) rfl) TTok rfl rfl rfl, ?_⟩; conv => whnf)
   (refine ⟨_, _, bld63_0_1_2 _ _ _ _ _ _ _ _ _ _ _ _ _, ?_⟩; conv => whnf)
   (refine ⟨_, _, Blk.ldV (off := 0) (vs := od.1.c) (Blk.ext D0 hp.ext) TTok rfl rfl rfl, ?_⟩; conv => whnf)
   (refine ⟨0, ⟨rfl, by decide⟩, ?_⟩; conv => whnf)
   (refine ⟨_, _, Blk.ldV (vs := [_, _]) (hp.get (i := 3) rfl) TTok rfl rfl rfl, ?_⟩; conv => whnf)
   (refine ⟨_, _, Blk.ldV (vs := [_, _, _, _, _, _, _, _]) (hp.get (i := 0) rfl) TTok rfl rfl rfl, ?_⟩; conv => whnf)
   (refine ⟨_, _, bld63_0_1_2 _ _ _ _ _ _ _ _ _ _ _ _ _, ?_⟩; conv => whnf)
   (refine ⟨1, ⟨rfl, by decide⟩, ?_⟩; conv => whnf)
   (refine ⟨_, _, Blk.ldV (vs := [_, _]) (hp.get (i := 3) rfl) TTok rfl rfl rfl, ?_⟩; conv => whnf)
   (refine ⟨_, _, Blk.ldV (off := 2) (vs := od.2.1.c) (Blk.ext D0 hp.ext) TTok rfl rfl rfl, ?_⟩; conv => whnf)
   (refine ⟨_, _, Blk.ldV (vs := [_, _, _, _, _, _, _, _]) (hp.get (i := 0) rfl) TTok rfl rfl rfl, ?_⟩; conv => whnf)
   (refine ⟨_, _, bld63_0_1_2 _ _ _ _ _ _ _ _ _ _ _ _ _, ?_⟩; conv => whnf)
   refine hp.kmade (([(y.b, y.a, pr), (od.1, y.a, pr), (y.b, od.2.1, pr)] : List Hop3).flatMap hopF) 63 (fun b => .slice (some ⟨b, 0, none⟩) 3 3) (mks55_3_0_1_2 _ _ _ _ _ _ _ _ _ _ _ _ _ _ _ _ _ _ _ _ _ _ _ _ _ _ _ _ _ _ _ _ _ _ _ _ _) fun q w hp hx => ?_
   conv => whnf
   skip
   refine hp.kapp sl55 3 rfl (Blk.src TTok (hp.get (i := 0) rfl) rfl rfl flat_one) (by omega) (by unfold maxLen; omega) fun v' w hp => ?_
   simp only [List.set_cons_zero, List.set_cons_succ] at hp
   conv => whnf
   (refine hKq _ _ _ (.refl _) ?_; clear hKq Kq; conv => whnf)
   (refine Or.inl (And.intro (by first | omega | decide) ?_); conv => whnf)
   refine ⟨m2 - 1, _, by omega, ⟨m + 1, hs ++ [(y.b, y.a, pr), (od.1, y.a, pr), (y.b, od.2.1, pr)], v', by omega, rfl, by rw [List.length_append, hlen]; rfl, fun h hh => ?_, by rw [List.flatMap_append]; exact hp.pick [3, 4] (by decide)⟩, (sub_cons rfl (sub_cons rfl (sub_cons rfl (sub_cons rfl (sub_cons rfl (sub_cons rfl (sub_cons rfl (sub_cons rfl (sub_cons rfl (sub_cons rfl sub_nil))))))))))⟩
   rcases List.mem_append.1 hh with hh | hh
   ·exact hok h hh
   ·simp only [List.mem_cons, List.not_mem_nil, or_false] at hh
    rcases hh with rfl | rfl | rfl
    ·exact ⟨yo.b, yo.a, pok⟩
    ·exact ⟨hod.f, yo.a, pok⟩
    ·exact ⟨yo.b, hod.t, pok⟩
  ·have hlm := of_decide_eq_false hlm
   conv => whnf
   clear hKq Kq
   refine hKq _ _ _ (.refl _) ?_
   clear hKq Kq
   conv => whnf
   refine VSeq.mk fun Kq hKq => ?_
   conv => whnf
   have hsl : hs.length = 2 + 3 * m := hlen
   obtain ⟨g, ch, rfl⟩ := row_form (hp.get (i := 0) rfl) (by omega)
   have hrow := fun (j : Nat) (h : Hop3) (hj : hs[j]? = some h) (r : Nat) (u : Value) (hr : (hopF h)[r]? = some u) => row_cell (hp.get (i := 0) rfl) (flat_at hj hr)
   (refine hKq _ _ _ (.refl _) ?_; clear hKq Kq; conv => whnf)
   refine ⟨fun mm e w' => ∃ (i : Nat), mm + i = 2 + 3 * m ∧ e = [(3, .v (.slice pl L.length cl)), (5, .v (.int .i64 nw)), (10, .v (.pointer (some ⟨q10, 0, none⟩))), (14, .v (.pointer (some ⟨al34, 0, none⟩))), (33, .v (.agg A)), (34, .v (.int .i64 k)), (87, .v (.slice (some ⟨g, 0, none⟩) (2 + 3 * m) ch)), (88, .v (.int .i64 (2 + 3 * m : Nat))), (89, .v (.int .i64 i))] ∧ (∀ (j : Nat) (h : Hop3), hs[j]? = some h → ∀ (r : Nat) (u : Value), (hopF h)[r]? = some u → w'.cell? ⟨g, j * 12 + r, none⟩ = some u) ∧ HpM [] w0 w' [blk al34 [.string y.a.h, .int .i64 y.a.p, .string y.b.h, .int .i64 y.b.p, .int .i64 y.now, .int .i64 y.nxt, .int .i64 y.til, .int .i64 y.ser, .bool y.gone, .string y.noise, .string y.word, .string y.fresh, .slice pv (iv y.asked).length cv] 34],
    ⟨2 + 3 * m, _, ⟨0, by omega, rfl, hrow, hp.pick [1] (by decide)⟩, (sub_cons rfl (sub_cons rfl (sub_cons rfl (sub_cons rfl (sub_cons rfl (sub_cons rfl (sub_cons rfl (sub_cons rfl (sub_cons rfl sub_nil)))))))))⟩, ?_⟩
   clear hp hrow
   repeat clear hp
   rintro m4 _ w ⟨i, hm4, rfl, hrow, hp⟩
   conv => whnf
   refine VSeq.mk fun Kq hKq => ?_
   conv => whnf
   refine hKq _ _ _ (.refl _) ?_
   clear hKq Kq
   conv => whnf
   refine VSeq.mk fun Kq hKq => ?_
   conv => whnf
   skip
   refine ⟨fun hli => ?_, fun hli => ?_⟩
   ·have hli := of_decide_eq_true hli
    conv => whnf
    refine hKq _ _ _ (.refl _) ?_
    clear hKq Kq
    conv => whnf
    refine VSeq.mk fun Kq hKq => ?_
    conv => whnf
    refine VSeq.mk fun Kq hKq => ?_
    conv => whnf
    refine Exists.elim (⟨_, List.getElem?_eq_getElem (show i < hs.length by omega)⟩ : ∃ h, hs[i]? = some h) fun h hh => ?_
    have ho := hok h (List.mem_of_getElem? hh)
    have hrow0 := hrow i h hh
    have hpO2 := hp
    have D1 : Blk w al34 _ _ := hpO2.get (i := 0) rfl
    clear hp
    repeat clear hp
    have hp := Hp.nil w
    (refine ⟨_, ⟨rfl, by omega⟩, ?_⟩; conv => whnf)
    refine ⟨_, _, run_ldN TTok rfl (vs := hopF h) rfl fun r u hu => by rw [addM_eq, Nat.zero_add]; exact hrow0 r u hu, ?_⟩
    conv => whnf
    (refine hp.kalloc z63 fun al63 w hp hx => ?_; conv => whnf)
    (refine hp.kstA TTok rfl 0 rfl rfl (oneC_of rfl) (by rfl) fun w hp => ?_; try simp only [List.set_cons_zero, List.set_cons_succ, EV.val] at hp; conv => whnf)
    (refine hKq _ _ _ (.refl _) ?_; clear hKq Kq; conv => whnf)
    (refine VSeq.mk fun Kq hKq => ?_; conv => whnf)
    (refine ⟨_, _, Blk.ld (Blk.ext D1 hp.ext) TTok rfl rfl, ?_⟩; conv => whnf)
    (refine Or.inl (And.intro (by first | omega | decide) ?_); conv => whnf)
    refine Exists.elim (⟨_, rfl⟩ : ∃ t, t = IntKind.i64.wrap (y.now + 900 * (i : Int))) fun t1 ht1 => ?_
    refine Or.inr ⟨t1, ht1, ?_⟩
    clear ht1
    conv => whnf
    (refine hKq _ _ _ (.refl _) ?_; clear hKq Kq; conv => whnf)
    (refine VSeq.mk fun Kq hKq => ?_; conv => whnf)
    (refine VSeq.mk fun Kq hKq => ?_; conv => whnf)
    (refine And.intro (by first | omega | decide) ?_; conv => whnf)
    (refine hKq _ _ _ (.refl _) ?_; clear hKq Kq; conv => whnf)
    refine ⟨fun h5 => ?_, fun h5 => ?_⟩
    ·have h5 := of_decide_eq_true h5
     conv => whnf
     refine hKq _ _ _ (.refl _) ?_
     clear hKq Kq
     conv => whnf
     refine VSeq.mk fun Kq hKq => ?_
     conv => whnf
     (refine ⟨_, _, Blk.ldN (Blk.ext D1 hp.ext) TTok rfl rfl, ?_⟩; conv => whnf)
     (refine ⟨_, _, Blk.ldV (vs := [_, _, _, _, _, _, _, _, _, _, _, _]) (hp.get (i := 0) rfl) TTok rfl rfl rfl, ?_⟩; conv => whnf)
     have sv1 := (sv.ext hpO2.ext).ext hp.ext
     have sT := HearE_c y yo sv1 nw h ho
     have sR := fun {W : World} hv => HearE12_c (W := W) (v := .slice pv (iv y.asked).length cv) y yo hv nw h ho
     have oR := hearE_ok yo nw h
     have hR := hearE_hops yo nw h ho
     refine Exists.elim (⟨_, rfl⟩ : ∃ R, hearE y nw h = R) fun R hRe => ?_
     rw [hRe] at sT sR oR hR
     clear hRe
     dsimp only [Wt.c] at sT sR
     refine ResE.mono (x := R.1) (o := R.2.1) (r := R.2.2) sT fun w p1 c1 r1 hx hs1 hr1 => ?_
     refine ⟨_, rfl, ?_⟩
     have hpA := hp.call hx
     have B0 := D1.ext hpA.ext
     have C0 : Blk w _ _ _ := hpA.get (i := 0) rfl
     have sv2 := sv1.ext hx
     clear hp sT
     repeat clear hp
     have hp := Hp.nil w
     conv => whnf
     (refine hp.kalloc z34 fun al34 w hp hx => ?_; conv => whnf)
     (refine hp.kstA TTok rfl 0 rfl rfl (oneC_of rfl) (by rfl) fun w hp => ?_; try simp only [List.set_cons_zero, List.set_cons_succ, EV.val] at hp; conv => whnf)
     (refine hKq _ _ _ (.refl _) ?_; clear hKq Kq; conv => whnf)
     (refine VSeq.mk fun Kq hKq => ?_; conv => whnf)
     (refine ⟨_, _, Blk.ldN (Blk.ext B0 hp.ext) TTok rfl rfl, ?_⟩; conv => whnf)
     (refine ⟨_, _, Blk.ldN (Blk.ext C0 hp.ext) TTok rfl rfl, ?_⟩; conv => whnf)
     refine ResE.mono (x := R.1) (o := R.2.1) (r := R.2.2) (sR (sv2.ext hp.ext)) fun w p2 c2 r2 hx hs2 hr2 => ?_
     refine ⟨_, rfl, ?_⟩
     have hpB := hp.call hx
     have B1 : Blk w _ _ _ := hpB.get (i := 0) rfl
     have hs1 := hs1.ext hpB.ext
     have hr1 := hr1.ext hpB.ext
     clear hp sR B0 C0
     repeat clear hp
     have hp := Hp.nil w
     conv => whnf
     (refine hp.kalloc z34 fun al34 w hp hx => ?_; conv => whnf)
     (refine hp.kstA TTok rfl 0 rfl rfl (oneC_of rfl) (by rfl) fun w hp => ?_; try simp only [List.set_cons_zero, List.set_cons_succ, EV.val] at hp; conv => whnf)
     (refine hKq _ _ _ (.refl _) ?_; clear hKq Kq; conv => whnf)
     (refine VSeq.mk fun Kq hKq => ?_; conv => whnf)
     (refine VSeq.mk fun Kq hKq => ?_; conv => whnf)
     (refine hKq _ _ _ (.refl _) ?_; clear hKq Kq; conv => whnf)
     (refine VSeq.mk fun Kq hKq => ?_; conv => whnf)
     (refine And.intro (fun h => absurd (of_decide_eq_true h) (by first | (intro h2; exact absurd rfl h2) | omega | decide)) (fun _ => ?_); conv => whnf)
     (refine ⟨_, _, Blk.ldN (Blk.ext B1 hp.ext) TTok rfl rfl, ?_⟩; conv => whnf)
     (refine ⟨_, _, Blk.ldV (vs := [_, _, _, _, _, _, _, _, _, _, _, _, _]) (hp.get (i := 0) rfl) TTok rfl rfl rfl, ?_⟩; conv => whnf)
     refine V.CallsUse (Same12_c R.1 oR (hs1.ext hp.ext) (hs2.ext hp.ext)) fun w hx => ?_
     have hp := hp.call hx
     conv => whnf
     (refine hKq _ _ _ (.refl _) ?_; clear hKq Kq; conv => whnf)
     (refine And.intro (fun h => absurd h (by decide)) (fun _ => ?_); conv => whnf)
     refine V.CallsUse (SameHops_c R.2.1 hR (hr1.ext hp.ext) (hr2.ext hp.ext)) fun w hx => ?_
     have hp := hp.call hx
     conv => whnf
     (refine hKq _ _ _ (.refl _) ?_; clear hKq Kq; conv => whnf)
     (refine And.intro (fun h => absurd h (by decide)) (fun _ => ?_); conv => whnf)
     (refine hKq _ _ _ (.refl _) ?_; clear hKq Kq; conv => whnf)
     (refine Or.inl (And.intro (by first | omega | decide) ?_); conv => whnf)
     exact ⟨m4 - 1, _, by omega, ⟨i + 1, by omega, rfl, fun j h hj r u hu => (((hpA.join hpB).join hp).ext).cell (hrow j h hj r u hu), (((hpO2.join hpA).join hpB).join hp).pick [3] (by decide)⟩, (sub_cons rfl (sub_cons rfl (sub_cons rfl (sub_cons rfl (sub_cons rfl (sub_cons rfl (sub_cons rfl (sub_cons rfl (sub_cons rfl sub_nil)))))))))⟩
    ·have h5 := of_decide_eq_false h5
     conv => whnf
     refine hKq _ _ _ (.refl _) ?_
     clear hKq Kq
     conv => whnf
     refine VSeq.mk fun Kq hKq => ?_
     conv => whnf
     (refine ⟨_, _, Blk.ldN (Blk.ext D1 hp.ext) TTok rfl rfl, ?_⟩; conv => whnf)
     (refine ⟨_, _, Blk.ldV (vs := [_, _, _, _, _, _, _, _, _, _, _, _]) (hp.get (i := 0) rfl) TTok rfl rfl rfl, ?_⟩; conv => whnf)
     have sv1 := (sv.ext hpO2.ext).ext hp.ext
     have sT := HearE_c y yo sv1 t1 h ho
     have sR := fun {W : World} hv => HearE12_c (W := W) (v := .slice pv (iv y.asked).length cv) y yo hv t1 h ho
     have oR := hearE_ok yo t1 h
     have hR := hearE_hops yo t1 h ho
     refine Exists.elim (⟨_, rfl⟩ : ∃ R, hearE y t1 h = R) fun R hRe => ?_
     rw [hRe] at sT sR oR hR
     clear hRe
     dsimp only [Wt.c] at sT sR
     refine ResE.mono (x := R.1) (o := R.2.1) (r := R.2.2) sT fun w p1 c1 r1 hx hs1 hr1 => ?_
     refine ⟨_, rfl, ?_⟩
     have hpA := hp.call hx
     have B0 := D1.ext hpA.ext
     have C0 : Blk w _ _ _ := hpA.get (i := 0) rfl
     have sv2 := sv1.ext hx
     clear hp sT
     repeat clear hp
     have hp := Hp.nil w
     conv => whnf
     (refine hp.kalloc z34 fun al34 w hp hx => ?_; conv => whnf)
     (refine hp.kstA TTok rfl 0 rfl rfl (oneC_of rfl) (by rfl) fun w hp => ?_; try simp only [List.set_cons_zero, List.set_cons_succ, EV.val] at hp; conv => whnf)
     (refine hKq _ _ _ (.refl _) ?_; clear hKq Kq; conv => whnf)
     (refine VSeq.mk fun Kq hKq => ?_; conv => whnf)
     (refine ⟨_, _, Blk.ldN (Blk.ext B0 hp.ext) TTok rfl rfl, ?_⟩; conv => whnf)
     (refine ⟨_, _, Blk.ldN (Blk.ext C0 hp.ext) TTok rfl rfl, ?_⟩; conv => whnf)
     refine ResE.mono (x := R.1) (o := R.2.1) (r := R.2.2) (sR (sv2.ext hp.ext)) fun w p2 c2 r2 hx hs2 hr2 => ?_
     refine ⟨_, rfl, ?_⟩
     have hpB := hp.call hx
     have B1 : Blk w _ _ _ := hpB.get (i := 0) rfl
     have hs1 := hs1.ext hpB.ext
     have hr1 := hr1.ext hpB.ext
     clear hp sR B0 C0
     repeat clear hp
     have hp := Hp.nil w
     conv => whnf
     (refine hp.kalloc z34 fun al34 w hp hx => ?_; conv => whnf)
     (refine hp.kstA TTok rfl 0 rfl rfl (oneC_of rfl) (by rfl) fun w hp => ?_; try simp only [List.set_cons_zero, List.set_cons_succ, EV.val] at hp; conv => whnf)
     (refine hKq _ _ _ (.refl _) ?_; clear hKq Kq; conv => whnf)
     (refine VSeq.mk fun Kq hKq => ?_; conv => whnf)
     (refine VSeq.mk fun Kq hKq => ?_; conv => whnf)
     (refine hKq _ _ _ (.refl _) ?_; clear hKq Kq; conv => whnf)
     (refine VSeq.mk fun Kq hKq => ?_; conv => whnf)
     (refine And.intro (fun h => absurd (of_decide_eq_true h) (by first | (intro h2; exact absurd rfl h2) | omega | decide)) (fun _ => ?_); conv => whnf)
     (refine ⟨_, _, Blk.ldN (Blk.ext B1 hp.ext) TTok rfl rfl, ?_⟩; conv => whnf)
     (refine ⟨_, _, Blk.ldV (vs := [_, _, _, _, _, _, _, _, _, _, _, _, _]) (hp.get (i := 0) rfl) TTok rfl rfl rfl, ?_⟩; conv => whnf)
     refine V.CallsUse (Same12_c R.1 oR (hs1.ext hp.ext) (hs2.ext hp.ext)) fun w hx => ?_
     have hp := hp.call hx
     conv => whnf
     (refine hKq _ _ _ (.refl _) ?_; clear hKq Kq; conv => whnf)
     (refine And.intro (fun h => absurd h (by decide)) (fun _ => ?_); conv => whnf)
     refine V.CallsUse (SameHops_c R.2.1 hR (hr1.ext hp.ext) (hr2.ext hp.ext)) fun w hx => ?_
     have hp := hp.call hx
     conv => whnf
     (refine hKq _ _ _ (.refl _) ?_; clear hKq Kq; conv => whnf)
     (refine And.intro (fun h => absurd h (by decide)) (fun _ => ?_); conv => whnf)
     (refine hKq _ _ _ (.refl _) ?_; clear hKq Kq; conv => whnf)
     (refine Or.inl (And.intro (by first | omega | decide) ?_); conv => whnf)
     exact ⟨m4 - 1, _, by omega, ⟨i + 1, by omega, rfl, fun j h hj r u hu => (((hpA.join hpB).join hp).ext).cell (hrow j h hj r u hu), (((hpO2.join hpA).join hpB).join hp).pick [3] (by decide)⟩, (sub_cons rfl (sub_cons rfl (sub_cons rfl (sub_cons rfl (sub_cons rfl (sub_cons rfl (sub_cons rfl (sub_cons rfl (sub_cons rfl sub_nil)))))))))⟩
   ·have hli := of_decide_eq_false hli
    conv => whnf
    clear hKq Kq
    refine hKq _ _ _ (.refl _) ?_
    clear hKq Kq
    conv => whnf
    refine Or.inl (And.intro (by omega) ?_)
    conv => whnf
    skip
    exact ⟨mm - 1, _, by omega, ⟨k + 1, by omega, rfl, hF.ext hp.ext, (hpO.join hp).pick [1] (by decide)⟩, (sub_cons rfl (sub_cons rfl (sub_cons rfl (sub_cons rfl (sub_cons rfl sub_nil)))))⟩
 ·have hlt := of_decide_eq_false hlt
  conv => whnf
  clear hKq Kq
  refine hKq _ _ _ (.refl _) ?_
  clear hKq Kq
  conv => whnf
  refine VSeq.mk fun Kq hKq => ?_
  conv => whnf
  refine hKq _ _ _ (.refl _) ?_
  clear hKq Kq
  conv => whnf
  (exact ⟨rfl, hp.ext⟩)
theorem prb_rd {w : World} {cs : List Value} (h : Rd w (.ag shP) cs) : ∃ a : Prb, a.Ok ∧ cs = a.c := by
 obtain ⟨_, _, rfl, ⟨n1, rfl, k1⟩, _, _, rfl, ⟨n2, rfl, k2⟩, _, _, rfl, ⟨n3, rfl, k3⟩, _, _, rfl, ⟨b4, rfl⟩, _, _, rfl, ⟨n5, rfl, k5⟩, _, _, rfl, ⟨b6, rfl⟩, _, _, rfl, h7, h8⟩ := h
 obtain rfl : _ = [] := h8
 obtain ⟨m, hm, rfl⟩ := ad_rd h7
 exact ⟨⟨n1, n2, n3, b4, n5, b6, m⟩, ⟨wf_in64 k1, wf_in64 k2, wf_in64 k3, wf_in64 k5, hm⟩, rfl⟩
theorem hop_rd {w : World} {cs : List Value} (h : Rd w (.cons (.ag shA) (.cons (.ag shA) (.cons (.ag shP) .nil))) cs) : ∃ h : Hop3, h.Ok ∧ cs = hopF h := by
 obtain ⟨_, _, rfl, h1, _, _, rfl, h2, _, _, rfl, h3, h4⟩ := h
 obtain rfl : _ = [] := h4
 obtain ⟨a, ha, rfl⟩ := ad_rd h1
 obtain ⟨b, hb, rfl⟩ := ad_rd h2
 obtain ⟨p, hp, rfl⟩ := prb_rd h3
 exact ⟨(a, b, p), ⟨ha, hb, hp⟩, rfl⟩
theorem hears_at {W : World} (c0 c1 c2 : Array Value) (e0 : Rd W (.cons (.int .u8) (.cons (.sl (.int .u8)) (.cons (.sl (.ag shE)) .nil))) c0.toList) (e1 : Rd W (.cons (.ag shBn) (.cons (.ag shBn) .nil)) c1.toList) (e2 : Rd W shW c2.toList) (v3 : Value) (x3 : List (List Value)) (s3 : SLn W 5 v3 x3) (e3 : ∀ x ∈ x3, Rd W (.ag shE) x) (c4 : Array Value) (e4 : Rd W (.cons (.ag shA) (.cons (.ag shA) (.cons (.ag shP) .nil))) c4.toList) (a5 : Int) :
  Calls Tryz.prog 5 #[.agg c0, .agg c1, .agg c2, v3, .agg c4, .int .i64 a5] W fun e w' => e = .returned (.bool true) ∧ Ext W w' := by
 obtain ⟨p, nb, evs, vn, ve, hp, hev, hn, he, h0⟩ := drf_rd e0
 obtain ⟨b, c, hb, hc, h1⟩ := bns_rd e1
 obtain ⟨y, v, hy, hv, h2⟩ := wt_rd e2
 obtain ⟨L, rfl, hL⟩ := Rd.all (Q := Ev.Ok) (f := Ev.c) (fun cs h => ev_rd h) e3
 obtain ⟨od, hod, h4⟩ := hop_rd e4
 have h0 : c0 = #[.int .u8 p, vn, ve] := Array.ext' h0
 have h1 : c1 = (b.c ++ c.c).toArray := Array.ext' h1
 have h2 : c2 = (y.c v).toArray := Array.ext' h2
 have h4 : c4 = (hopF od).toArray := Array.ext' h4
 subst h0 h1 h2 h4
 exact hears_c p hp nb evs hev hn he b c hb hc y hy hv L hL s3 od hod a5
end Go.Proofs.YtgkhcgiggjijlaaGreat
namespace Go.Proofs.YtgkhcgiggjijlaaGreat.consentHears
open Go.ChangeShapes Go.WideShapes Go.ChangeAt Go.RowKit
open Go.ChangeMaps (open_string shut_string)
set_option linter.unusedVariables false
theorem own : ownKnob Tryz.prog.godebug = none := by kernel_rfl
theorem laidOut : laidOutB Tryz.prog = true := by kernel_rfl
set_option maxRecDepth 100000 in
theorem lifted (os : Os) (started : os.Started) (H : Type) (enc : TypeId × Value → H) :
  ReturnsInHanded {} Tryz.checked os 5 .any (Rows.consentHearsSpec.pre6 enc Tryz.prog Tryz.f5 Rows.consentHearsRow.domain false) (Rows.consentHearsSpec.post enc Tryz.prog Tryz.f5 false true false false) := by
 refine returnsInHanded_of_change (C := Tryz.checked) own started (by kernel_rfl) Tryz.func5
  (ChangeSpec.witness6 (enc := enc) (C := Tryz.checked) false ⟨#[], #[.agg #[.int .u8 0, .slice none 0 0, .slice none 0 0], .agg #[.int .u8 0, .int .u8 0, .int .i64 0, .string ByteArray.empty, .string ByteArray.empty, .int .i64 0, .int .u8 0, .int .u8 0, .int .i64 0, .string ByteArray.empty, .string ByteArray.empty, .int .i64 0], .agg #[.string ByteArray.empty, .int .i64 0, .string ByteArray.empty, .int .i64 0, .int .i64 0, .int .i64 0, .int .i64 0, .int .i64 0, .bool false, .string ByteArray.empty, .string ByteArray.empty, .string ByteArray.empty, .slice none 0 0], .slice none 0 0, .agg #[.string ByteArray.empty, .int .i64 0, .string ByteArray.empty, .int .i64 0, .int .i64 0, .int .i64 0, .int .i64 0, .bool false, .int .i64 0, .bool false, .string ByteArray.empty, .int .i64 0], .int .i64 0], []⟩ 8 (by kernel_rfl) (by kernel_rfl) (by kernel_rfl) (by kernel_rfl)) ?_
 intro W base args ds gs before hval0 hW hcnd _
 have hval : ∀ (j : Nat) t v, Tryz.f5.params[j]? = some t → args[j]? = some v → Value.okWide Tryz.prog W .any base t v := hval0
 have hW' := hW
 obtain ⟨p, q, hA0, hV, rfl, hfz, hnd⟩ := hW
 have hA : DataW.TrodAll enc Tryz.prog W 0 (fun _ => true) true Tryz.f5.params.toList args.toList ds p := hA0
 rw [Tryz.params5] at hA hval
 obtain ⟨v0, vs0, d0, ds0, p0, q0, hargs, rfl, rfl, h0, r0⟩ := trodAll_cons hA
 obtain ⟨v1, vs1, d1, ds1, p1, q1, rfl, rfl, rfl, h1, r1⟩ := trodAll_cons r0
 obtain ⟨v2, vs2, d2, ds2, p2, q2, rfl, rfl, rfl, h2, r2⟩ := trodAll_cons r1
 obtain ⟨v3, vs3, d3, ds3, p3, q3, rfl, rfl, rfl, h3, r3⟩ := trodAll_cons r2
 obtain ⟨v4, vs4, d4, ds4, p4, q4, rfl, rfl, rfl, h4, r4⟩ := trodAll_cons r3
 obtain ⟨v5, vs5, d5, ds5, p5, q5, rfl, rfl, rfl, h5, r5⟩ := trodAll_cons r4
 obtain ⟨rfl, rfl, rfl⟩ := trodAll_nil r5
 obtain rfl : args = #[v0, v1, v2, v3, v4, v5] := by cases args; simp_all
 obtain ⟨rfl, rfl⟩ := trodVars_none hV
 have k0 := h0
 have lt0 : ∀ x ∈ p0, x.block < W.heap.size := by obtain ⟨m, hm⟩ := k0; exact DataW.trod_lt m _ _ _ hm
 obtain ⟨c0, rfl, e0⟩ := V.rd_ag (s := (.cons (.int .u8) (.cons (.sl (.int .u8)) (.cons (.sl (.ag (.cons (.int .u8) (.cons (.int .u8) (.cons (.int .u8) (.cons (.int .u16) (.cons (.int .u8) .nil))))))) .nil)))) (by kernel_rfl) (hval 0 25 v0 rfl rfl) h0
 have k1 := h1
 have lt1 : ∀ x ∈ p1, x.block < W.heap.size := by obtain ⟨m, hm⟩ := k1; exact DataW.trod_lt m _ _ _ hm
 obtain ⟨c1, rfl, e1⟩ := V.rd_ag (s := (.cons (.ag (.cons (.int .u8) (.cons (.int .u8) (.cons (.int .i64) (.cons .str (.cons (.ag (.cons .str (.cons (.int .i64) .nil))) .nil)))))) (.cons (.ag (.cons (.int .u8) (.cons (.int .u8) (.cons (.int .i64) (.cons .str (.cons (.ag (.cons .str (.cons (.int .i64) .nil))) .nil)))))) .nil))) (by kernel_rfl) (hval 1 30 v1 rfl rfl) h1
 have k2 := h2
 have lt2 : ∀ x ∈ p2, x.block < W.heap.size := by obtain ⟨m, hm⟩ := k2; exact DataW.trod_lt m _ _ _ hm
 obtain ⟨c2, rfl, e2⟩ := V.rd_ag (s := (.cons (.ag (.cons (.ag (.cons .str (.cons (.int .i64) .nil))) (.cons (.ag (.cons .str (.cons (.int .i64) .nil))) .nil))) (.cons (.int .i64) (.cons (.int .i64) (.cons (.int .i64) (.cons (.int .i64) (.cons .bool (.cons .str (.cons .str (.cons .str (.cons (.sl (.int .i64)) .nil))))))))))) (by kernel_rfl) (hval 2 34 v2 rfl rfl) h2
 have k3 := h3
 have lt3 : ∀ x ∈ p3, x.block < W.heap.size := by obtain ⟨m, hm⟩ := k3; exact DataW.trod_lt m _ _ _ hm
 obtain ⟨x3, s3, e3⟩ := V.rd_sl (e := (.ag (.cons (.int .u8) (.cons (.int .u8) (.cons (.int .u8) (.cons (.int .u16) (.cons (.int .u8) .nil))))))) (by kernel_rfl) (hval 3 23 v3 rfl rfl) h3
 have k4 := h4
 have lt4 : ∀ x ∈ p4, x.block < W.heap.size := by obtain ⟨m, hm⟩ := k4; exact DataW.trod_lt m _ _ _ hm
 obtain ⟨c4, rfl, e4⟩ := V.rd_ag (s := (.cons (.ag (.cons .str (.cons (.int .i64) .nil))) (.cons (.ag (.cons .str (.cons (.int .i64) .nil))) (.cons (.ag (.cons (.int .i64) (.cons (.int .i64) (.cons (.int .i64) (.cons .bool (.cons (.int .i64) (.cons .bool (.cons (.ag (.cons .str (.cons (.int .i64) .nil))) .nil)))))))) .nil)))) (by kernel_rfl) (hval 4 63 v4 rfl rfl) h4
 have k5 := h5
 have lt5 : ∀ x ∈ p5, x.block < W.heap.size := by obtain ⟨m, hm⟩ := k5; exact DataW.trod_lt m _ _ _ hm
 obtain ⟨a5, rfl, rfl, rfl, w5⟩ := open_int Tryz.underlying3 (hval 5 3 v5 rfl rfl) h5
 clear hA0 hval0
 refine (hears_at c0 c1 c2 e0 e1 e2 v3 x3 s3 e3 c4 e4 a5).mono fun e W' ⟨he, bel⟩ => ?_
 have bel : Below W.heap.size W W' := bel
 subst he
 exact ⟨_, rfl, _, _, _, [], _, [], hW', trodAll_mk1 (shut_bool Tryz.underlying4 _), (trodAll_cons_mk (Below.trod laidOut (by kernel_rfl) (of_decide_eq_true (by kernel_rfl)) k0 bel lt0) (trodAll_cons_mk (Below.trod laidOut (by kernel_rfl) (of_decide_eq_true (by kernel_rfl)) k1 bel lt1) (trodAll_cons_mk (Below.trod laidOut (by kernel_rfl) (of_decide_eq_true (by kernel_rfl)) k2 bel lt2) (trodAll_cons_mk (Below.trod laidOut (by kernel_rfl) (of_decide_eq_true (by kernel_rfl)) k3 bel lt3) (trodAll_cons_mk (Below.trod laidOut (by kernel_rfl) (of_decide_eq_true (by kernel_rfl)) k4 bel lt4) (trodAll_cons_mk (Below.trod laidOut (by kernel_rfl) (of_decide_eq_true (by kernel_rfl)) k5 bel lt5) trodAll_mk0)))))), rfl, bel.frame _, fun h => by cases h⟩

theorem over : Rows.consentHearsRow.holds Tryz.pinned (OpenSpec.ofChange Rows.consentHearsSpec) :=
 OpenClaim.holds_of_wide 5 Tryz.f5 rfl rfl rfl rfl rfl rfl rfl ⟨rfl, rfl, rfl, rfl, rfl⟩ rfl rfl rfl rfl rfl (by kernel_rfl) Tryz.func5 (by kernel_rfl)
  (of_decide_eq_true (by kernel_rfl)) (by unfold Func.isWrapper; first | (rw [if_pos (by decide +kernel)]; kernel_rfl) | (rw [if_neg (by decide +kernel)]; exact ⟨rfl, rfl⟩))
  (fun os started H enc _ => lifted os started H enc)

theorem proved : Rows.ConsentHearsSaid := over
#print axioms proved
end Go.Proofs.YtgkhcgiggjijlaaGreat.consentHears
