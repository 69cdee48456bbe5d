/- Chapter 12: the layer does something, walked. -/
/- Chapter 12: ConsentMakes. -/
/- ConsentMakes: for every draft, bends, watch, path, word, noise and time, Check, Wake and New answer as the reference does. -/
import Derived.Test.YtgkhcgiggjijlaaGreatGM13
import Derived.Test.YtgkhcgiggjijlaaGreatRows
import Derived.WalkKit
import Derived.ProofKit
import Derived.OpenShut
import Derived.ShutString
import Derived.ChangeOld
import Derived.Below
import Derived.Test.YtgkhcgiggjijlaaGreatGM03
namespace Go.Proofs.YtgkhcgiggjijlaaGreat
set_option linter.unusedSimpArgs false
set_option linter.unusedVariables false
set_option maxRecDepth 100000
open Go.RowKit V
set_option maxHeartbeats 16000000
theorem wakes_p : PureF Tryz.prog 9 #[] (.bool true) := by
  have o1 : wk1.Ok := by have := newE_ok (adW_ok 1) (adW_ok 2) (word := (⟨#[97, 98, 99, 100]⟩ : ByteArray)) (noise := ⟨#[0, 128]⟩) (now := 0) (by unfold SzS maxLen; decide) (by unfold SzS maxLen; decide); rw [wk_new] at this; exact this
  have o3 : wk3.Ok := by have := timeE_ok o1 4000; rw [wk_time] at this; exact this
  have o5 : wk5.Ok := by have := restE_ok o1 10 (s := (⟨#[101, 102, 103, 104]⟩ : ByteArray)) (by unfold SzS maxLen; decide); rw [wk_rest] at this; exact this
  have hA : Prb.Ok (p2 0 (adW 1)) := p2_ok ⟨by decide, by decide⟩ (adW_ok 1)
  have s2 := fun {W : World} {v : Value} hv => Wake12_c (W := W) (v := v) wk1 o1 hv
  have s3 := fun {W : World} {v : Value} hv => TimeE_c (W := W) (v := v) wk1 o1 hv 4000
  have s4 := fun {W : World} {v : Value} hv => HearE_c (W := W) (v := v) wk3 o3 hv 4100 (adW 2, adW 1, p2 0 (adW 1)) ⟨adW_ok 2, adW_ok 1, hA⟩
  have s5 := fun {W : World} {v : Value} hv => RestE_c (W := W) (v := v) wk1 o1 hv 10 (⟨#[101, 102, 103, 104]⟩ : ByteArray) (by unfold SzS maxLen; decide)
  have s6 := fun {W : World} {v : Value} hv => SwE_c (W := W) (v := v) wk5 o5 hv 20 (adW 3).h (adW 2).h (adW 3).p (adW 2).p (adW_ok 3) (adW_ok 2)
  have s7 := fun {W : World} {v : Value} hv => Check12_c (W := W) (v := v) wk1 o1 hv
  have s8 := fun {W : World} {v : Value} hv => Check12_c (W := W) (v := v) zW zW_ok hv
  have s9 := fun {W : World} {v u : Value} hv hu => HEq_c (W := W) (v := v) (u := u) (adW 1, adW 2, askP 0) ⟨adW_ok 1, adW_ok 2, ⟨⟨by decide, by decide⟩, ⟨by decide, by decide⟩, ⟨by decide, by decide⟩, ⟨by decide, by decide⟩, Ad.z_ok⟩⟩ hv hu
  have e6 : swE wk5 20 ⟨(adW 3).h, (adW 3).p⟩ ⟨(adW 2).h, (adW 2).p⟩ = (wk6, 0) := wk_sw
  rw [wk_wake] at s2
  rw [wk_time] at s3
  rw [wk_hear] at s4
  rw [wk_rest] at s5
  rw [e6] at s6
  rw [wk_chk] at s7
  rw [wk_chk0] at s8
  clear e6 o1 o3 o5 hA
  dsimp only [ResE, ResW, Wt.c, hopF, hopC, wk1, wk3, wk4, wk5, wk6, adW, p2, Ad.z, zW, iv, List.map] at s2 s3 s4 s5 s6 s7 s8
  first | refine v_pure TTok FFok Tryz.func9 rfl rfl fun w0 => ?_ | refine v_pure (args := []) TTok FFok Tryz.func9 rfl rfl fun w0 => ?_
  conv => whnf
  refine VSeq.mk fun Kq hKq => ?_
  conv => whnf
  refine hKq _ _ _ (.refl _) ?_
  clear hKq Kq
  conv => whnf
  refine VSeq.mk fun Kq hKq => ?_
  conv => whnf
  have hp := Hp.nil w0
  (refine V.CallW.out ?_; (conv => arg 3; dsimp only [EV.val, List.toList_toArray, List.nil_append, List.append_nil, List.cons_append]); (with_reducible refine V.PureF.useW (sample_p) fun w hx => ?_); try (have hp := hp.call hx); conv => whnf)
  (refine hp.kalloc z34 fun al34 w hp hx => ?_; conv => whnf)
  (refine hp.kstA TTok rfl 0 rfl rfl (oneC_of rfl) (by rfl) fun w hp => ?_; try simp only [List.set_cons_zero, List.set_cons_succ, EV.val] at hp; conv => whnf)
  (refine hKq _ _ _ (.refl _) ?_; clear hKq Kq; conv => whnf)
  (refine VSeq.mk fun Kq hKq => ?_; conv => whnf)
  (refine ⟨_, _, Blk.ldV (vs := [_, _, _, _, _, _, _, _, _, _, _, _, _]) (hp.get (i := 0) rfl) TTok rfl rfl rfl, ?_⟩; conv => whnf)
  dsimp only [Wt.c, wk1, adW] at hp
  refine V.CallsUse (s2 SLv.nil) fun w hx => ?_
  have hp := hp.call hx
  conv => whnf
  clear s2
  (refine hKq _ _ _ (.refl _) ?_; clear hKq Kq; conv => whnf)
  (refine VSeq.mk fun Kq hKq => ?_; conv => whnf)
  (refine ⟨_, _, Blk.ldV (vs := [_, _, _, _, _, _, _, _, _, _, _, _, _]) (hp.get (i := 0) rfl) TTok rfl rfl rfl, ?_⟩; conv => whnf)
  refine Calls.mono (s3 SLv.nil) ?_
  rintro _ w ⟨_, rfl, v3, r3, rfl, hx, hs3, hr3⟩
  refine ⟨_, rfl, ?_⟩
  have hpO := hp.call hx
  have hB : Blk w _ _ _ := hpO.get (i := 0) rfl
  obtain ⟨p3, c3, rfl⟩ := hs3.shape
  obtain ⟨q3, d3, rfl⟩ := hr3.s.shape
  have hv3 := hs3.s
  have hr3 := hr3.s
  clear s3 hs3 hp
  repeat clear hp
  have hpN := Hp.nil w
  have hp := hpN
  conv => whnf
  (refine hp.kalloc z34 fun al34 w hp hx => ?_; conv => whnf)
  (refine hp.kstA TTok rfl 0 rfl rfl (oneC_of rfl) (by rfl) fun w hp => ?_; try simp only [List.set_cons_zero, List.set_cons_succ, EV.val] at hp; conv => whnf)
  (refine hKq _ _ _ (.refl _) ?_; clear hKq Kq; conv => whnf)
  (refine VSeq.mk fun Kq hKq => ?_; conv => whnf)
  have hcls := hp.pick [0] (by decide)
  simp only [List.filterMap_cons, List.filterMap_nil, List.getElem?_cons_zero, List.getElem?_cons_succ] at hcls
  refine v_mtC TTok FFok mixed _ hcls [] (.q 0 (.q 1 (.q 2 (.q 3 (.q 4 (.q 5 (.br 6 11 (.q 7 (.q 8 (.q 9 (.q 10 (.m 11 (.m 12 (.q 13 (.q 14 .nil)))))))) (.m 6 (.q 7 (.q 8 (.q 9 (.q 10 (.m 12 (.q 13 (.q 14 .nil))))))))))))))) (by kernel_rfl) ?_
  clear hcls
  conv => whnf
  (refine ⟨_, fun w' hc => Blk.ldV (vs := [_, _, _, _, _, _, _, _, _, _, _, _, _]) (hc.get (i := 0) rfl) TTok rfl rfl rfl, ?_⟩; conv => whnf)
  (refine V.QCallC.out ?_; (conv => arg 3; dsimp only [EV.val, List.toList_toArray, List.nil_append, List.append_nil, List.cons_append]); refine V.PureF.quietC (addr_2) ?_; conv => whnf)
  (refine V.QCallC.out ?_; (conv => arg 3; dsimp only [EV.val, List.toList_toArray, List.nil_append, List.append_nil, List.cons_append]); refine V.PureF.quietC (addr_1) ?_; conv => whnf)
  (refine V.QCallC.out ?_; (conv => arg 3; dsimp only [EV.val, List.toList_toArray, List.nil_append, List.append_nil, List.cons_append]); refine V.PureF.quietC (addr_1) ?_; conv => whnf)
  (refine ⟨_, fun w' hx' => bld61_0_6 w' _ _ _, ?_⟩; conv => whnf)
  (refine ⟨_, fun w' hx' => bld63_0_1_2 w' _ _ _ _ _ _ _ _ _ _ _ _, ?_⟩; conv => whnf)
  refine And.intro ?_ ?_
  all_goals
    conv => whnf
    first | ((intro w hx; try (have hp := hp.call hx); conv => whnf); (refine hp.kalloc z34 fun al34 w hp hx => ?_; conv => whnf); (refine And.intro (fun hc => hc.call hx) ?_; conv => whnf); (intro w hx; try (have hp := hp.call hx); conv => whnf)) | ((intro w hx; try (have hp := hp.call hx); conv => whnf))
    refine Calls.mono (s4 (hv3.ext hp.ext)) ?_
    rintro _ w ⟨_, rfl, v4, r4, rfl, hx, hs4, hr4⟩
    refine ⟨_, rfl, ?_⟩
    have hp := hp.call hx
    obtain ⟨p4, c4, rfl⟩ := hs4.shape
    obtain ⟨q4, d4, rfl⟩ := hr4.s.shape
    clear hs4 hr4
    conv => whnf
    first | ((refine And.intro (fun hc => hc.call hx) ?_; conv => whnf); (intro w hx; try (have hp := hp.call hx); conv => whnf); (refine hp.kalloc z34 fun al34 w hp hx => ?_; conv => whnf); (refine And.intro (fun hc => hc.call hx) ?_; conv => whnf); (intro w hx; try (have hp := hp.call hx); conv => whnf); (refine hp.kstA TTok rfl 0 rfl rfl (oneC_of rfl) (by rfl) fun w hp => ?_; try simp only [List.set_cons_zero, List.set_cons_succ, EV.val] at hp; conv => whnf); (refine And.intro (fun _ => hp.pick [1] (by decide)) ?_; conv => whnf); (intro w hx; try (have hp := hp.call hx); conv => whnf); (refine hKq _ _ _ (.refl _) ?_; clear hKq Kq; conv => whnf); (refine VSeq.mk fun Kq hKq => ?_; conv => whnf); (refine ⟨_, _, Blk.ldN (Blk.ext hB hp.ext) TTok rfl rfl, ?_⟩; conv => whnf)) | ((refine And.intro (fun hc => hc.call hx) ?_; conv => whnf); (intro w hx; try (have hp := hp.call hx); conv => whnf); (refine hp.kstA TTok rfl 0 rfl rfl (oneC_of rfl) (by rfl) fun w hp => ?_; try simp only [List.set_cons_zero, List.set_cons_succ, EV.val] at hp; conv => whnf); (refine And.intro (fun _ => hp.pick [1] (by decide)) ?_; conv => whnf); (intro w hx; try (have hp := hp.call hx); conv => whnf); (refine hKq _ _ _ (.refl _) ?_; clear hKq Kq; conv => whnf); (refine VSeq.mk fun Kq hKq => ?_; conv => whnf); (refine ⟨_, _, Blk.ldN (Blk.ext hB hp.ext) TTok rfl rfl, ?_⟩; conv => whnf))
    refine Calls.mono (s5 SLv.nil) ?_
    rintro _ w ⟨_, rfl, v5, rfl, hx, hs5⟩
    refine ⟨_, rfl, ?_⟩
    have hp := hp.call hx
    obtain ⟨p5, c5, rfl⟩ := hs5.shape
    clear hs5
    conv => whnf
    (refine hp.kalloc z34 fun al34 w hp hx => ?_; conv => whnf)
    (refine hp.kstA TTok rfl 0 rfl rfl (oneC_of rfl) (by rfl) fun w hp => ?_; try simp only [List.set_cons_zero, List.set_cons_succ, EV.val] at hp; conv => whnf)
    (refine hKq _ _ _ (.refl _) ?_; clear hKq Kq; conv => whnf)
    (refine VSeq.mk fun Kq hKq => ?_; conv => whnf)
    have hcls := hp.pick [0] (by decide)
    simp only [List.filterMap_cons, List.filterMap_nil, List.getElem?_cons_zero, List.getElem?_cons_succ] at hcls
    refine v_mtC TTok FFok mixed _ hcls [] (.q 0 (.q 1 (.q 2 (.q 3 (.br 4 8 (.q 5 (.q 6 (.q 7 (.m 8 (.m 9 (.q 10 .nil)))))) (.m 4 (.q 5 (.q 6 (.q 7 (.m 9 (.q 10 .nil))))))))))) (by kernel_rfl) ?_
    clear hcls
    conv => whnf
    (refine ⟨_, fun w' hc => Blk.ldV (vs := [_, _, _, _, _, _, _, _, _, _, _, _, _]) (hc.get (i := 0) rfl) TTok rfl rfl rfl, ?_⟩; conv => whnf)
    (refine V.QCallC.out ?_; (conv => arg 3; dsimp only [EV.val, List.toList_toArray, List.nil_append, List.append_nil, List.cons_append]); refine V.PureF.quietC (addr_3) ?_; conv => whnf)
    (refine V.QCallC.out ?_; (conv => arg 3; dsimp only [EV.val, List.toList_toArray, List.nil_append, List.append_nil, List.cons_append]); refine V.PureF.quietC (addr_2) ?_; conv => whnf)
    (refine ⟨_, fun w' hx' => bld31_0_1 w' _ _ _ _, ?_⟩; conv => whnf)
    refine And.intro ?_ ?_
    all_goals
      conv => whnf
      first | ((intro w hx; try (have hp := hp.call hx); conv => whnf); (refine hp.kalloc z34 fun al34 w hp hx => ?_; conv => whnf); (refine And.intro (fun hc => hc.call hx) ?_; conv => whnf); (intro w hx; try (have hp := hp.call hx); conv => whnf)) | ((intro w hx; try (have hp := hp.call hx); conv => whnf))
      refine Calls.mono (s6 (.inl ⟨rfl, _, _, rfl⟩)) ?_
      rintro _ w ⟨_, rfl, v6, rfl, hx, hs6⟩
      refine ⟨_, rfl, ?_⟩
      have hp := hp.call hx
      obtain ⟨p6, c6, rfl⟩ := hs6.shape
      clear hs6
      conv => whnf
      first | ((refine And.intro (fun hc => hc.call hx) ?_; conv => whnf); (intro w hx; try (have hp := hp.call hx); conv => whnf); (refine hp.kalloc z34 fun al34 w hp hx => ?_; conv => whnf); (refine And.intro (fun hc => hc.call hx) ?_; conv => whnf); (intro w hx; try (have hp := hp.call hx); conv => whnf); (refine hp.kstA TTok rfl 0 rfl rfl (oneC_of rfl) (by rfl) fun w hp => ?_; try simp only [List.set_cons_zero, List.set_cons_succ, EV.val] at hp; conv => whnf); (refine And.intro (fun _ => hp.pick [1] (by decide)) ?_; conv => whnf); (intro w hx; try (have hp := hp.call hx); conv => whnf); (refine hKq _ _ _ (.refl _) ?_; clear hKq Kq; conv => whnf); (refine VSeq.mk fun Kq hKq => ?_; conv => whnf); (refine VSeq.mk fun Kq hKq => ?_; conv => whnf); (refine hKq _ _ _ (.refl _) ?_; clear hKq Kq; conv => whnf); (refine VSeq.mk fun Kq hKq => ?_; conv => whnf); (refine And.intro (fun _ => ?_) (fun h => absurd (by first | rfl | assumption | omega | decide) (of_decide_eq_false h)); conv => whnf); (refine hKq _ _ _ (.refl _) ?_; clear hKq Kq; conv => whnf); (refine VSeq.mk fun Kq hKq => ?_; conv => whnf); (refine And.intro (fun _ => ?_) (fun h => absurd (by first | rfl | assumption | omega | decide) (of_decide_eq_false h)); conv => whnf); (refine hKq _ _ _ (.refl _) ?_; clear hKq Kq; conv => whnf); (refine VSeq.mk fun Kq hKq => ?_; conv => whnf); (refine And.intro (fun _ => ?_) (fun h => absurd (by first | rfl | assumption | omega | decide) (of_decide_eq_false h)); conv => whnf); (refine hKq _ _ _ (.refl _) ?_; clear hKq Kq; conv => whnf); (refine VSeq.mk fun Kq hKq => ?_; conv => whnf); (refine And.intro (fun _ => ?_) (fun h => absurd (by first | rfl | assumption | omega | decide) (of_decide_eq_false h)); conv => whnf); (refine ⟨_, _, Blk.ld (hp.get (i := 3) rfl) TTok rfl rfl, ?_⟩; conv => whnf); (refine hKq _ _ _ (.refl _) ?_; clear hKq Kq; conv => whnf); (refine VSeq.mk fun Kq hKq => ?_; conv => whnf); (refine And.intro (fun _ => ?_) (fun h => absurd (by first | rfl | assumption | omega | decide) (of_decide_eq_false h)); conv => whnf); (refine V.CallW.out ?_; (conv => arg 3; dsimp only [EV.val, List.toList_toArray, List.nil_append, List.append_nil, List.cons_append]); refine V.PureF.useW (addr_1) fun w hx => ?_; try (have hp := hp.call hx); conv => whnf); (refine V.CallW.out ?_; (conv => arg 3; dsimp only [EV.val, List.toList_toArray, List.nil_append, List.append_nil, List.cons_append]); refine V.PureF.useW (addr_2) fun w hx => ?_; try (have hp := hp.call hx); conv => whnf); (refine ⟨_, _, bld61_0_2 _ _ _, ?_⟩; conv => whnf); (refine ⟨_, _, bld63_0_1_2 _ _ _ _ _ _ _ _ _ _ _ _ _, ?_⟩; conv => whnf); (refine hp.kmade _ _ (fun b => .slice (some ⟨b, 0, none⟩) 1 1) (mks55_1_0 _ _ _ _ _ _ _ _ _ _ _ _ _) fun q w hp hx => ?_; conv => whnf)) | ((refine And.intro (fun hc => hc.call hx) ?_; conv => whnf); (intro w hx; try (have hp := hp.call hx); conv => whnf); (refine hp.kstA TTok rfl 0 rfl rfl (oneC_of rfl) (by rfl) fun w hp => ?_; try simp only [List.set_cons_zero, List.set_cons_succ, EV.val] at hp; conv => whnf); (refine And.intro (fun _ => hp.pick [1] (by decide)) ?_; conv => whnf); (intro w hx; try (have hp := hp.call hx); conv => whnf); (refine hKq _ _ _ (.refl _) ?_; clear hKq Kq; conv => whnf); (refine VSeq.mk fun Kq hKq => ?_; conv => whnf); (refine VSeq.mk fun Kq hKq => ?_; conv => whnf); (refine hKq _ _ _ (.refl _) ?_; clear hKq Kq; conv => whnf); (refine VSeq.mk fun Kq hKq => ?_; conv => whnf); (refine And.intro (fun _ => ?_) (fun h => absurd (by first | rfl | assumption | omega | decide) (of_decide_eq_false h)); conv => whnf); (refine hKq _ _ _ (.refl _) ?_; clear hKq Kq; conv => whnf); (refine VSeq.mk fun Kq hKq => ?_; conv => whnf); (refine And.intro (fun _ => ?_) (fun h => absurd (by first | rfl | assumption | omega | decide) (of_decide_eq_false h)); conv => whnf); (refine hKq _ _ _ (.refl _) ?_; clear hKq Kq; conv => whnf); (refine VSeq.mk fun Kq hKq => ?_; conv => whnf); (refine And.intro (fun _ => ?_) (fun h => absurd (by first | rfl | assumption | omega | decide) (of_decide_eq_false h)); conv => whnf); (refine hKq _ _ _ (.refl _) ?_; clear hKq Kq; conv => whnf); (refine VSeq.mk fun Kq hKq => ?_; conv => whnf); (refine And.intro (fun _ => ?_) (fun h => absurd (by first | rfl | assumption | omega | decide) (of_decide_eq_false h)); conv => whnf); (refine ⟨_, _, Blk.ld (hp.get (i := 3) rfl) TTok rfl rfl, ?_⟩; conv => whnf); (refine hKq _ _ _ (.refl _) ?_; clear hKq Kq; conv => whnf); (refine VSeq.mk fun Kq hKq => ?_; conv => whnf); (refine And.intro (fun _ => ?_) (fun h => absurd (by first | rfl | assumption | omega | decide) (of_decide_eq_false h)); conv => whnf); (refine V.CallW.out ?_; (conv => arg 3; dsimp only [EV.val, List.toList_toArray, List.nil_append, List.append_nil, List.cons_append]); refine V.PureF.useW (addr_1) fun w hx => ?_; try (have hp := hp.call hx); conv => whnf); (refine V.CallW.out ?_; (conv => arg 3; dsimp only [EV.val, List.toList_toArray, List.nil_append, List.append_nil, List.cons_append]); refine V.PureF.useW (addr_2) fun w hx => ?_; try (have hp := hp.call hx); conv => whnf); (refine ⟨_, _, bld61_0_2 _ _ _, ?_⟩; conv => whnf); (refine ⟨_, _, bld63_0_1_2 _ _ _ _ _ _ _ _ _ _ _ _ _, ?_⟩; conv => whnf); (refine hp.kmade _ _ (fun b => .slice (some ⟨b, 0, none⟩) 1 1) (mks55_1_0 _ _ _ _ _ _ _ _ _ _ _ _ _) fun q w hp hx => ?_; conv => whnf))
      refine V.CallsUse (s9 (hr3.ext hp.ext) (HR.blk (hp.get (i := 0) rfl))) fun w hx => ?_
      have hp := hp.call hx
      conv => whnf
      (refine hKq _ _ _ (.refl _) ?_; clear hKq Kq; conv => whnf)
      (refine VSeq.mk fun Kq hKq => ?_; conv => whnf)
      (refine And.intro (fun _ => ?_) (fun h => absurd h (by decide)); conv => whnf)
      (refine hKq _ _ _ (.refl _) ?_; clear hKq Kq; conv => whnf)
      (refine VSeq.mk fun Kq hKq => ?_; conv => whnf)
      (refine And.intro (fun _ => ?_) (fun h => absurd (by first | rfl | assumption | omega | decide) (of_decide_eq_false h)); conv => whnf)
      (refine hKq _ _ _ (.refl _) ?_; clear hKq Kq; conv => whnf)
      (refine VSeq.mk fun Kq hKq => ?_; conv => whnf)
      (refine And.intro (fun _ => ?_) (fun h => absurd (by first | rfl | assumption | omega | decide) (of_decide_eq_false h)); conv => whnf)
      (refine ⟨_, _, Blk.ld (hp.get (i := 3) rfl) TTok rfl rfl, ?_⟩; conv => whnf)
      (refine hKq _ _ _ (.refl _) ?_; clear hKq Kq; conv => whnf)
      (refine VSeq.mk fun Kq hKq => ?_; conv => whnf)
      (refine And.intro (fun _ => ?_) (fun h => absurd (by first | rfl | assumption | omega | decide) (of_decide_eq_false h)); conv => whnf)
      (refine ⟨_, _, Blk.ld (hp.get (i := 3) rfl) TTok rfl rfl, ?_⟩; conv => whnf)
      (refine hKq _ _ _ (.refl _) ?_; clear hKq Kq; conv => whnf)
      (refine VSeq.mk fun Kq hKq => ?_; conv => whnf)
      (refine And.intro (fun _ => ?_) (fun h => absurd (by first | rfl | assumption | omega | decide) (of_decide_eq_false h)); conv => whnf)
      (refine hKq _ _ _ (.refl _) ?_; clear hKq Kq; conv => whnf)
      (refine VSeq.mk fun Kq hKq => ?_; conv => whnf)
      (refine And.intro (fun _ => ?_) (fun h => absurd (by first | rfl | assumption | omega | decide) (of_decide_eq_false h)); conv => whnf)
      (refine ⟨_, _, Blk.ld (hp.get (i := 2) rfl) TTok rfl rfl, ?_⟩; conv => whnf)
      (refine hKq _ _ _ (.refl _) ?_; clear hKq Kq; conv => whnf)
      (refine VSeq.mk fun Kq hKq => ?_; conv => whnf)
      (refine And.intro (fun _ => ?_) (fun h => absurd (by first | rfl | assumption | omega | decide) (of_decide_eq_false h)); conv => whnf)
      (refine hKq _ _ _ (.refl _) ?_; clear hKq Kq; conv => whnf)
      (refine VSeq.mk fun Kq hKq => ?_; conv => whnf)
      (refine And.intro (fun _ => ?_) (fun h => absurd (by first | rfl | assumption | omega | decide) (of_decide_eq_false h)); conv => whnf)
      (refine ⟨_, _, Blk.ld (hp.get (i := 1) rfl) TTok rfl rfl, ?_⟩; conv => whnf)
      (refine hKq _ _ _ (.refl _) ?_; clear hKq Kq; conv => whnf)
      (refine VSeq.mk fun Kq hKq => ?_; conv => whnf)
      (refine And.intro (fun _ => ?_) (fun h => absurd (by first | rfl | assumption | omega | decide) (of_decide_eq_false h)); conv => whnf)
      (refine ⟨_, _, Blk.ld (hp.get (i := 1) rfl) TTok rfl rfl, ?_⟩; conv => whnf)
      (refine hKq _ _ _ (.refl _) ?_; clear hKq Kq; conv => whnf)
      (refine VSeq.mk fun Kq hKq => ?_; conv => whnf)
      (refine And.intro (fun _ => ?_) (fun h => absurd (by first | rfl | assumption | omega | decide) (of_decide_eq_false h)); conv => whnf)
      (refine ⟨_, _, Blk.ldN (Blk.ext hB hp.ext) TTok rfl rfl, ?_⟩; conv => whnf)
      refine V.CallsUse (s7 SLv.nil) fun w hx => ?_
      have hp := hp.call hx
      conv => whnf
      (refine hKq _ _ _ (.refl _) ?_; clear hKq Kq; conv => whnf)
      (refine And.intro (fun _ => ?_) (fun h => absurd (by first | rfl | assumption | omega | decide) (of_decide_eq_false h)); conv => whnf)
      (refine ⟨_, _, bld34_ _, ?_⟩; conv => whnf)
      refine V.CallsUse (s8 SLv.nil) fun w hx => ?_
      have hp := hp.call hx
      conv => whnf
      (refine hKq _ _ _ (.refl _) ?_; clear hKq Kq; conv => whnf)
      exact ⟨rfl, (hpO.join hp).ext⟩
set_option maxHeartbeats 16000000
theorem makes_c {W : World} {vn ve v : Value} (p : Nat) (hp256 : p < 256) (nb : List UInt8) (evs : List Ev) (hev : ∀ x ∈ evs, x.Ok) (hn : SLv W vn (bytesV nb)) (he : SLn W 5 ve (evs.map Ev.c)) (b c : Bn) (hb : b.Ok) (hc : c.Ok) (z : Wt) (hz : z.Ok) (hv : SLv W v (iv z.asked)) (pa pb : Ad) (hpa : pa.Ok) (hpb : pb.Ok) (wd no : ByteArray) (hwd : SzS wd) (hno : SzS no) (nw : Int) (s0 s1 s2 : Nat) (h0 : s0 < 256) (h1 : s1 < 256) (h2 : s2 < 256) :
    Calls Tryz.prog 3 #[.agg #[.int .u8 p, vn, ve], .agg (b.c ++ c.c).toArray, .agg (z.c v).toArray, .agg #[.string pa.h, .int .i64 pa.p, .string pb.h, .int .i64 pb.p], .string wd, .string no, .int .i64 nw, .agg #[.int .u8 s0, .int .u8 s1, .int .u8 s2]] W fun e w' => e = .returned (.bool true) ∧ Ext W w' := by
  have lwd := hwd
  have lno := hno
  unfold SzS maxLen at lwd lno
  refine v_reads (args := [.agg #[.int .u8 p, vn, ve], .agg #[.int .u8 b.what, .int .u8 b.at_, .int .i64 b.n, .string b.s, .string b.a.h, .int .i64 b.a.p, .int .u8 c.what, .int .u8 c.at_, .int .i64 c.n, .string c.s, .string c.a.h, .int .i64 c.a.p], .agg #[.string z.a.h, .int .i64 z.a.p, .string z.b.h, .int .i64 z.b.p, .int .i64 z.now, .int .i64 z.nxt, .int .i64 z.til, .int .i64 z.ser, .bool z.gone, .string z.noise, .string z.word, .string z.fresh, v], .agg #[.string pa.h, .int .i64 pa.p, .string pb.h, .int .i64 pb.p], .string wd, .string no, .int .i64 nw, .agg #[.int .u8 s0, .int .u8 s1, .int .u8 s2]]) TTok FFok Tryz.func3 rfl rfl ?_
  conv => whnf
  refine VSeq.mk fun Kq hKq => ?_
  conv => whnf
  have hp := Hp.nil W
  refine hp.kboxA fun q8 w hp hx => ?_
  conv => whnf
  refine hp.kboxA fun q9 w hp hx => ?_
  conv => whnf
  refine hp.kboxA fun q10 w hp hx => ?_
  conv => whnf
  refine hp.kboxA fun q11 w hp hx => ?_
  conv => whnf
  refine hp.kboxA fun q15 w hp hx => ?_
  conv => whnf
  refine hKq _ _ _ (.refl _) ?_
  clear hKq Kq
  conv => whnf
  refine VSeq.mk fun Kq hKq => ?_
  conv => whnf
  refine VSeq.mk fun Kq hKq => ?_
  conv => whnf
  (refine V.CallW.out ?_; (conv => arg 3; dsimp only [EV.val, List.toList_toArray, List.nil_append, List.append_nil, List.cons_append]); (with_reducible refine V.PureF.useW (wakes_p) fun w hx => ?_); try (have hp := hp.call hx); conv => whnf)
  (refine hKq _ _ _ (.refl _) ?_; clear hKq Kq; conv => whnf)
  (refine And.intro (fun h => absurd h (by decide)) (fun _ => ?_); conv => whnf)
  (refine hKq _ _ _ (.refl _) ?_; clear hKq Kq; conv => whnf)
  (refine VSeq.mk fun Kq hKq => ?_; conv => whnf)
  (refine VSeq.mk fun Kq hKq => ?_; conv => whnf)
  (refine ⟨_, _, Blk.ldV (vs := [_, _, _]) (hp.get (i := 4) rfl) TTok rfl rfl rfl, ?_⟩; conv => whnf)
  (refine ⟨_, _, Blk.ldV (vs := [_, _, _, _, _, _, _, _, _, _, _, _]) (hp.get (i := 3) rfl) TTok rfl rfl rfl, ?_⟩; conv => whnf)
  (refine ⟨_, _, Blk.ldV (vs := [_, _, _, _, _, _, _, _, _, _, _, _, _]) (hp.get (i := 2) rfl) TTok rfl rfl rfl, ?_⟩; conv => whnf)
  refine Calls.mono (watches_c p hp256 nb evs hev (hn.ext hp.ext) (he.ext hp.ext) b c hb hc z hz (hv.ext hp.ext)) ?_
  rintro _ w ⟨_, rfl, hx, hF⟩
  refine ⟨_, rfl, ?_⟩
  obtain ⟨A, rfl⟩ := hF.1
  have hp := hp.call hx
  conv => whnf
  (refine hKq _ _ _ (.refl _) ?_; clear hKq Kq; conv => whnf)
  clear hn he hb hc hz hv
  have key : ∀ (l : Env) (w : World), V.Sub [(4, .v (.string wd)), (5, .v (.string no)), (6, .v (.int .i64 nw)), (11, .v (.pointer (some ⟨q11, 0, none⟩))), (15, .v (.pointer (some ⟨q15, 0, none⟩)))] l → HpM [] W w [blk q15 [.int .u8 s0, .int .u8 s1, .int .u8 s2] 35, blk q11 [.string pa.h, .int .i64 pa.p, .string pb.h, .int .i64 pb.p] 31] → Kq l w := by
    intro l w hs hp
    refine hKq _ _ _ hs ?_
    clear hKq Kq hF
    have m1 : (min (wd.size : Int) 70 = ((min wd.size 70 : Nat) : Int)) := by omega
    have m2 : (min (no.size : Int) 70 = ((min no.size 70 : Nat) : Int)) := by omega
    conv => whnf
    (refine VSeq.mk fun Kq hKq => ?_; conv => whnf)
    refine v_mixA TTok FFok mixed [(0, false), (1, false), (2, false), (3, false), (4, false), (5, false), (6, false), (7, false), (8, false), (9, false), (10, false), (11, false)] (by kernel_rfl) ?_
    conv => whnf
    skip
    refine ⟨min wd.size 70, ⟨m1, by omega⟩, ?_⟩
    conv => whnf
    skip
    refine ⟨min no.size 70, ⟨m2, by omega⟩, ?_⟩
    conv => whnf
    (intro w hx; try (have hp := hp.call hx); conv => whnf)
    (refine hKq _ _ _ (.refl _) ?_; clear hKq Kq; conv => whnf)
    (refine VSeq.mk fun Kq hKq => ?_; conv => whnf)
    have hwx := cut_sz hwd (min wd.size 70)
    obtain ⟨wx, hwe⟩ : ∃ wx, wd.extract 0 (min wd.size 70) = wx := ⟨_, rfl⟩
    rw [hwe] at hwx ⊢
    clear hwe
    have hnx := cut_sz hno (min no.size 70)
    obtain ⟨nx, hne⟩ : ∃ nx, no.extract 0 (min no.size 70) = nx := ⟨_, rfl⟩
    rw [hne] at hnx ⊢
    clear hne
    skip
    have key2 : ∀ (a24 : Nat) (l : Env) (w : World), V.Sub [(4, .v (.string wx)), (5, .v (.string nx)), (6, .v (.int .i64 nw)), (11, .v (.pointer (some ⟨q11, 0, none⟩))), (24, .v (.pointer (some ⟨a24, 0, none⟩))), (25, .v (.string (wordsF s1))), (26, .v (.string ⟨#[UInt8.ofNat s2]⟩))] l → HpM [] W w [blk a24 [.string (endA s0).h, .int .i64 (endA s0).p, .string (endB s0).h, .int .i64 (endB s0).p] 31, blk q11 [.string pa.h, .int .i64 pa.p, .string pb.h, .int .i64 pb.p] 31] → Kq l w := by
      intro a24 l w hs hp
      refine hKq _ _ _ hs ?_
      clear hKq Kq
      conv => whnf
      have hs2 : SzS (⟨#[UInt8.ofNat s2]⟩ : ByteArray) := by unfold SzS maxLen; show (1 : Nat) ≤ _; decide
      have h5 := five_of (y0 := ⟨endA s0, endB s0, wordsF s1, ⟨#[UInt8.ofNat s2]⟩, 5⟩) (y1 := ⟨pa, pb, wordsF s1, ⟨#[UInt8.ofNat s2]⟩, 5⟩) (y2 := ⟨endA s0, endB s0, wx, ⟨#[UInt8.ofNat s2]⟩, 5⟩) (y3 := ⟨endA s0, endB s0, wordsF s1, nx, 5⟩) (y4 := ⟨endA s0, endB s0, wordsF s1, ⟨#[UInt8.ofNat s2]⟩, nw⟩) ⟨endA_ok _, endB_ok _, wordsF_s _, hs2⟩ ⟨hpa, hpb, wordsF_s _, hs2⟩ ⟨endA_ok _, endB_ok _, hwx, hs2⟩ ⟨endA_ok _, endB_ok _, wordsF_s _, hnx⟩ ⟨endA_ok _, endB_ok _, wordsF_s _, hs2⟩
      obtain ⟨B, hB⟩ : ∃ B : Array Value, B = (Ask.c ⟨endA s0, endB s0, wordsF s1, ⟨#[UInt8.ofNat s2]⟩, 5⟩ ++ Ask.c ⟨pa, pb, wordsF s1, ⟨#[UInt8.ofNat s2]⟩, 5⟩ ++ Ask.c ⟨endA s0, endB s0, wx, ⟨#[UInt8.ofNat s2]⟩, 5⟩ ++ Ask.c ⟨endA s0, endB s0, wordsF s1, nx, 5⟩ ++ Ask.c ⟨endA s0, endB s0, wordsF s1, ⟨#[UInt8.ofNat s2]⟩, nw⟩).toArray := ⟨_, rfl⟩
      rw [← hB] at h5
      (refine VSeq.mk fun Kq hKq => ?_; conv => whnf)
      (refine VSeq.mk fun Kq hKq => ?_; conv => whnf)
      (refine ⟨_, _, Blk.ldV (vs := [_, _, _, _]) (hp.get (i := 0) rfl) TTok rfl rfl rfl, ?_⟩; conv => whnf)
      (refine ⟨_, _, bld47_0_1_2_3 _ _ _ _ _ _ _ _, ?_⟩; conv => whnf)
      (refine ⟨_, _, Blk.ldV (vs := [_, _, _, _]) (hp.get (i := 1) rfl) TTok rfl rfl rfl, ?_⟩; conv => whnf)
      (refine ⟨_, _, bld47_0_1_2_3 _ _ _ _ _ _ _ _, ?_⟩; conv => whnf)
      (refine ⟨_, _, Blk.ldV (vs := [_, _, _, _]) (hp.get (i := 0) rfl) TTok rfl rfl rfl, ?_⟩; conv => whnf)
      (refine ⟨_, _, bld47_0_1_2_3 _ _ _ _ _ _ _ _, ?_⟩; conv => whnf)
      (refine ⟨_, _, Blk.ldV (vs := [_, _, _, _]) (hp.get (i := 0) rfl) TTok rfl rfl rfl, ?_⟩; conv => whnf)
      (refine ⟨_, _, bld47_0_1_2_3 _ _ _ _ _ _ _ _, ?_⟩; conv => whnf)
      (refine ⟨_, _, Blk.ldV (vs := [_, _, _, _]) (hp.get (i := 0) rfl) TTok rfl rfl rfl, ?_⟩; conv => whnf)
      (refine ⟨_, _, bld47_0_1_2_3 _ _ _ _ _ _ _ _, ?_⟩; conv => whnf)
      (refine ⟨_, _, bld48_0_1_2_3_4 _ _ _ _ _ _ _ _ _ _ _ _ _ _ _ _ _ _ _ _ _ _ _ _ _ _ _ _ _ _ _ _ _ _ _ _, ?_⟩; conv => whnf)
      (refine hKq _ _ _ (.refl _) ?_; clear hKq Kq; conv => whnf)
      refine ⟨fun mm e w' => ∃ (k : Nat), mm + k = 5 ∧ e = [(118, .v (.agg B)), (119, .v (.int .i64 k))] ∧ HpM [] W w' [], ⟨5, _, ⟨0, by omega, rfl, hp.sub (List.nil_sublist _)⟩, sub_cons (by subst hB; rfl) (sub_cons rfl sub_nil)⟩, ?_⟩
      clear hp hB hs
      repeat clear hp
      rintro mm _ w ⟨k, hmm, rfl, hp⟩
      conv => whnf
      refine VSeq.mk fun Kq hKq => ?_
      conv => whnf
      refine hKq _ _ _ (.refl _) ?_
      clear hKq Kq
      conv => whnf
      refine VSeq.mk fun Kq hKq => ?_
      conv => whnf
      skip
      refine ⟨fun hlt => ?_, fun hlt => ?_⟩
      · have hlt := of_decide_eq_true hlt
        conv => whnf
        refine hKq _ _ _ (.refl _) ?_
        clear hKq Kq
        conv => whnf
        refine VSeq.mk fun Kq hKq => ?_
        conv => whnf
        refine VSeq.mk fun Kq hKq => ?_
        conv => whnf
        obtain ⟨y, yo, hix⟩ := h5 k (by omega)
        dsimp only [Ask.c] at hix
        have hpO := hp
        clear hp
        repeat clear hp
        have hp := Hp.nil w
        skip
        refine ⟨_, _, hix _, ?_⟩
        conv => whnf
        clear hix
        (refine hp.kalloc z47 fun al47 w hp hx => ?_; conv => whnf)
        (refine hp.kstA TTok rfl 0 rfl rfl (oneC_of rfl) (by rfl) fun w hp => ?_; try simp only [List.set_cons_zero, List.set_cons_succ, EV.val] at hp; conv => whnf)
        (refine hKq _ _ _ (.refl _) ?_; clear hKq Kq; conv => whnf)
        (refine VSeq.mk fun Kq hKq => ?_; conv => whnf)
        (refine ⟨_, _, Blk.ldV (vs := [_, _, _, _]) (hp.get (i := 0) rfl) TTok rfl rfl rfl, ?_⟩; conv => whnf)
        (refine ⟨_, _, Blk.ld (hp.get (i := 0) rfl) TTok rfl rfl, ?_⟩; conv => whnf)
        (refine ⟨_, _, Blk.ld (hp.get (i := 0) rfl) TTok rfl rfl, ?_⟩; conv => whnf)
        (refine ⟨_, _, Blk.ld (hp.get (i := 0) rfl) TTok rfl rfl, ?_⟩; conv => whnf)
        have sN := fun {W : World} => New_c (W := W) y.a.h y.b.h y.a.p y.b.p y.wd y.no y.nw yo.a yo.b yo.wd yo.no
        have sR := fun {W : World} => New12_c (W := W) y.a.h y.b.h y.a.p y.b.p y.wd y.no y.nw yo.a yo.b yo.wd yo.no
        have oR := newE_ok yo.a yo.b yo.wd yo.no (now := y.nw)
        have nR := newE_nil y.a y.b y.wd y.no y.nw
        obtain ⟨R, hRe⟩ : ∃ R, newE y.a y.b y.wd y.no y.nw = R := ⟨_, rfl⟩
        have hRe2 : newE ⟨y.a.h, y.a.p⟩ ⟨y.b.h, y.b.p⟩ y.wd y.no y.nw = R := hRe
        rw [hRe] at oR nR
        rw [hRe2] at sN sR
        clear hRe hRe2
        dsimp only [Wt.c] at sN sR
        refine V.CallsUse sN fun w hx => ?_
        have hp := hp.call hx
        conv => whnf
        clear sN
        (refine hp.kalloc z34 fun al34 w hp hx => ?_; conv => whnf)
        (refine hp.kstA TTok rfl 0 rfl rfl (oneC_of rfl) (by rfl) fun w hp => ?_; try simp only [List.set_cons_zero, List.set_cons_succ, EV.val] at hp; conv => whnf)
        (refine hKq _ _ _ (.refl _) ?_; clear hKq Kq; conv => whnf)
        (refine VSeq.mk fun Kq hKq => ?_; conv => whnf)
        (refine ⟨_, _, Blk.ldV (vs := [_, _, _, _]) (hp.get (i := 1) rfl) TTok rfl rfl rfl, ?_⟩; conv => whnf)
        (refine ⟨_, _, Blk.ld (hp.get (i := 1) rfl) TTok rfl rfl, ?_⟩; conv => whnf)
        (refine ⟨_, _, Blk.ld (hp.get (i := 1) rfl) TTok rfl rfl, ?_⟩; conv => whnf)
        (refine ⟨_, _, Blk.ld (hp.get (i := 1) rfl) TTok rfl rfl, ?_⟩; conv => whnf)
        refine V.CallsUse sR fun w hx => ?_
        have hp := hp.call hx
        conv => whnf
        clear sR
        (refine hp.kalloc z34 fun al34 w hp hx => ?_; conv => whnf)
        (refine hp.kstA TTok rfl 0 rfl rfl (oneC_of rfl) (by rfl) fun w hp => ?_; try simp only [List.set_cons_zero, List.set_cons_succ, EV.val] at hp; conv => whnf)
        (refine hKq _ _ _ (.refl _) ?_; clear hKq Kq; conv => whnf)
        (refine VSeq.mk fun Kq hKq => ?_; conv => whnf)
        (refine VSeq.mk fun Kq hKq => ?_; conv => whnf)
        (refine hKq _ _ _ (.refl _) ?_; clear hKq Kq; conv => whnf)
        (refine And.intro (fun h => absurd (of_decide_eq_true h) (by first | (intro h2; exact absurd rfl h2) | omega | decide)) (fun _ => ?_); conv => whnf)
        (refine ⟨_, _, Blk.ldV (vs := [_, _, _, _, _, _, _, _, _, _, _, _, _]) (hp.get (i := 1) rfl) TTok rfl rfl rfl, ?_⟩; conv => whnf)
        (refine ⟨_, _, Blk.ldV (vs := [_, _, _, _, _, _, _, _, _, _, _, _, _]) (hp.get (i := 0) rfl) TTok rfl rfl rfl, ?_⟩; conv => whnf)
        refine V.CallsUse (Same12_c (v := .slice none 0 0) (u := .slice none 0 0) R.1 oR (by rw [nR]; exact SLv.nil) (by rw [nR]; exact SLv.nil)) fun w hx => ?_
        have hp := hp.call hx
        conv => whnf
        (refine hKq _ _ _ (.refl _) ?_; clear hKq Kq; conv => whnf)
        (refine And.intro (fun h => absurd h (by decide)) (fun _ => ?_); conv => whnf)
        (refine hKq _ _ _ (.refl _) ?_; clear hKq Kq; conv => whnf)
        (refine Or.inl (And.intro (by first | omega | decide) ?_); conv => whnf)
        exact ⟨mm - 1, _, by omega, ⟨k + 1, by omega, rfl, (hpO.join hp).sub (List.nil_sublist _)⟩, sub_cons rfl (sub_cons rfl sub_nil)⟩
      · have hlt := of_decide_eq_false hlt
        conv => whnf
        clear hKq Kq
        refine hKq _ _ _ (.refl _) ?_
        clear hKq Kq
        conv => whnf
        refine VSeq.mk fun Kq hKq => ?_
        conv => whnf
        refine hKq _ _ _ (.refl _) ?_
        clear hKq Kq
        conv => whnf
        (exact ⟨rfl, hp.ext⟩)
    clear hKq
    have hcls := hp.pick [0] (by decide)
    simp only [List.filterMap_cons, List.filterMap_nil, List.getElem?_cons_zero, List.getElem?_cons_succ] at hcls
    refine v_mtC TTok FFok mixed _ hcls [] (.q 0 (.q 1 (.q 2 (.q 3 (.q 4 (.q 5 (.q 6 (.q 7 (.br 8 10 (.br 9 10 (.m 10 (.m 11 (.q 12 (.q 13 .nil)))) (.br 9 11 (.m 11 (.q 12 (.q 13 .nil))) (.q 12 (.m 9 (.q 13 .nil))))) (.br 8 11 (.br 9 11 (.m 11 (.q 12 (.q 13 .nil))) (.q 12 (.m 9 (.q 13 .nil)))) (.q 12 (.m 8 (.m 9 (.q 13 .nil)))))))))))))) (by kernel_rfl) ?_
    clear hcls
    conv => whnf
    (refine ⟨0, ⟨rfl, by decide⟩, ?_⟩; conv => whnf)
    (refine ⟨_, fun w' hc => Blk.ld (hc.get (i := 0) rfl) TTok rfl rfl, ?_⟩; conv => whnf)
    (refine V.QCallC.out ?_; (conv => arg 3; dsimp only [EV.val, List.toList_toArray, List.nil_append, List.append_nil, List.cons_append]); (with_reducible refine V.PureF.quietC (Ends_p _ (by assumption)) ?_); conv => whnf)
    (refine ⟨1, ⟨rfl, by decide⟩, ?_⟩; conv => whnf)
    (refine ⟨_, fun w' hc => Blk.ld (hc.get (i := 0) rfl) TTok rfl rfl, ?_⟩; conv => whnf)
    (refine V.QCallC.out ?_; (conv => arg 3; dsimp only [EV.val, List.toList_toArray, List.nil_append, List.append_nil, List.cons_append]); (with_reducible refine V.PureF.quietC (Words_p _ (by assumption)) ?_); conv => whnf)
    (refine ⟨2, ⟨rfl, by decide⟩, ?_⟩; conv => whnf)
    (refine ⟨_, fun w' hc => Blk.ld (hc.get (i := 0) rfl) TTok rfl rfl, ?_⟩; conv => whnf)
    refine And.intro ?_ ?_
    · conv => whnf
      (intro w hx; try (have hp := hp.call hx); conv => whnf)
      (refine hp.kmade _ _ (fun b => .slice (some ⟨b, 0, none⟩) 1 1) (mks22_1_0 _ _) fun q w hp hx => ?_; conv => whnf)
      (refine And.intro (fun hc => hc.call hx) ?_; conv => whnf)
      refine And.intro ?_ ?_
      · conv => whnf
        (intro w hx; try (have hp := hp.call hx); conv => whnf)
        refine ⟨_, _, Blk.str (l := [UInt8.ofNat s2]) (hp.get (i := 0) rfl) TTok rfl rfl rfl (by rw [cellU8 (x := (s2 : Int)) (n := s2) (by omega) (by omega)]; rfl) rfl, ?_⟩
        conv => whnf
        (refine And.intro (fun hc => hc) ?_; conv => whnf)
        (intro w hx; try (have hp := hp.call hx); conv => whnf)
        (refine hp.kalloc z31 fun al31 w hp hx => ?_; conv => whnf)
        (refine And.intro (fun hc => hc.call hx) ?_; conv => whnf)
        (intro w hx; try (have hp := hp.call hx); conv => whnf)
        (refine hp.kstA TTok rfl 0 rfl rfl (oneC_of rfl) (by rfl) fun w hp => ?_; try simp only [List.set_cons_zero, List.set_cons_succ, EV.val] at hp; conv => whnf)
        (refine And.intro (fun _ => hp.pick [2] (by decide)) ?_; conv => whnf)
        (intro w hx; try (have hp := hp.call hx); conv => whnf)
        exact key2 al31 _ _ (sub_cons rfl (sub_cons rfl (sub_cons rfl (sub_cons rfl (sub_cons rfl (sub_cons rfl (sub_cons rfl sub_nil))))))) (hp.pick [0, 3] (by decide))
      · conv => whnf
        (intro w hx; try (have hp := hp.call hx); conv => whnf)
        (refine hp.kalloc z31 fun al31 w hp hx => ?_; conv => whnf)
        (refine And.intro (fun hc => hc.call hx) ?_; conv => whnf)
        refine And.intro ?_ ?_
        · conv => whnf
          (intro w hx; try (have hp := hp.call hx); conv => whnf)
          refine ⟨_, _, Blk.str (l := [UInt8.ofNat s2]) (hp.get (i := 1) rfl) TTok rfl rfl rfl (by rw [cellU8 (x := (s2 : Int)) (n := s2) (by omega) (by omega)]; rfl) rfl, ?_⟩
          conv => whnf
          (refine And.intro (fun hc => hc) ?_; conv => whnf)
          (intro w hx; try (have hp := hp.call hx); conv => whnf)
          (refine hp.kstA TTok rfl 0 rfl rfl (oneC_of rfl) (by rfl) fun w hp => ?_; try simp only [List.set_cons_zero, List.set_cons_succ, EV.val] at hp; conv => whnf)
          (refine And.intro (fun _ => hp.pick [2] (by decide)) ?_; conv => whnf)
          (intro w hx; try (have hp := hp.call hx); conv => whnf)
          exact key2 al31 _ _ (sub_cons rfl (sub_cons rfl (sub_cons rfl (sub_cons rfl (sub_cons rfl (sub_cons rfl (sub_cons rfl sub_nil))))))) (hp.pick [0, 3] (by decide))
        · conv => whnf
          (intro w hx; try (have hp := hp.call hx); conv => whnf)
          (refine hp.kstA TTok rfl 0 rfl rfl (oneC_of rfl) (by rfl) fun w hp => ?_; try simp only [List.set_cons_zero, List.set_cons_succ, EV.val] at hp; conv => whnf)
          (refine And.intro (fun _ => hp.pick [2] (by decide)) ?_; conv => whnf)
          (intro w hx; try (have hp := hp.call hx); conv => whnf)
          skip
          refine ⟨_, _, Blk.str (l := [UInt8.ofNat s2]) (hp.get (i := 1) rfl) TTok rfl rfl rfl (by rw [cellU8 (x := (s2 : Int)) (n := s2) (by omega) (by omega)]; rfl) rfl, ?_⟩
          conv => whnf
          (refine And.intro (fun hc => hc) ?_; conv => whnf)
          (intro w hx; try (have hp := hp.call hx); conv => whnf)
          exact key2 al31 _ _ (sub_cons rfl (sub_cons rfl (sub_cons rfl (sub_cons rfl (sub_cons rfl (sub_cons rfl (sub_cons rfl sub_nil))))))) (hp.pick [0, 3] (by decide))
    · conv => whnf
      (intro w hx; try (have hp := hp.call hx); conv => whnf)
      (refine hp.kalloc z31 fun al31 w hp hx => ?_; conv => whnf)
      (refine And.intro (fun hc => hc.call hx) ?_; conv => whnf)
      refine And.intro ?_ ?_
      · conv => whnf
        (intro w hx; try (have hp := hp.call hx); conv => whnf)
        (refine hp.kmade _ _ (fun b => .slice (some ⟨b, 0, none⟩) 1 1) (mks22_1_0 _ _) fun q w hp hx => ?_; conv => whnf)
        (refine And.intro (fun hc => hc.call hx) ?_; conv => whnf)
        refine And.intro ?_ ?_
        · conv => whnf
          (intro w hx; try (have hp := hp.call hx); conv => whnf)
          refine ⟨_, _, Blk.str (l := [UInt8.ofNat s2]) (hp.get (i := 0) rfl) TTok rfl rfl rfl (by rw [cellU8 (x := (s2 : Int)) (n := s2) (by omega) (by omega)]; rfl) rfl, ?_⟩
          conv => whnf
          (refine And.intro (fun hc => hc) ?_; conv => whnf)
          (intro w hx; try (have hp := hp.call hx); conv => whnf)
          (refine hp.kstA TTok rfl 1 rfl rfl (oneC_of rfl) (by rfl) fun w hp => ?_; try simp only [List.set_cons_zero, List.set_cons_succ, EV.val] at hp; conv => whnf)
          (refine And.intro (fun _ => hp.pick [2] (by decide)) ?_; conv => whnf)
          (intro w hx; try (have hp := hp.call hx); conv => whnf)
          exact key2 al31 _ _ (sub_cons rfl (sub_cons rfl (sub_cons rfl (sub_cons rfl (sub_cons rfl (sub_cons rfl (sub_cons rfl sub_nil))))))) (hp.pick [1, 3] (by decide))
        · conv => whnf
          (intro w hx; try (have hp := hp.call hx); conv => whnf)
          (refine hp.kstA TTok rfl 1 rfl rfl (oneC_of rfl) (by rfl) fun w hp => ?_; try simp only [List.set_cons_zero, List.set_cons_succ, EV.val] at hp; conv => whnf)
          (refine And.intro (fun _ => hp.pick [2] (by decide)) ?_; conv => whnf)
          (intro w hx; try (have hp := hp.call hx); conv => whnf)
          skip
          refine ⟨_, _, Blk.str (l := [UInt8.ofNat s2]) (hp.get (i := 0) rfl) TTok rfl rfl rfl (by rw [cellU8 (x := (s2 : Int)) (n := s2) (by omega) (by omega)]; rfl) rfl, ?_⟩
          conv => whnf
          (refine And.intro (fun hc => hc) ?_; conv => whnf)
          (intro w hx; try (have hp := hp.call hx); conv => whnf)
          exact key2 al31 _ _ (sub_cons rfl (sub_cons rfl (sub_cons rfl (sub_cons rfl (sub_cons rfl (sub_cons rfl (sub_cons rfl sub_nil))))))) (hp.pick [1, 3] (by decide))
      · conv => whnf
        (intro w hx; try (have hp := hp.call hx); conv => whnf)
        (refine hp.kstA TTok rfl 0 rfl rfl (oneC_of rfl) (by rfl) fun w hp => ?_; try simp only [List.set_cons_zero, List.set_cons_succ, EV.val] at hp; conv => whnf)
        (refine And.intro (fun _ => hp.pick [1] (by decide)) ?_; conv => whnf)
        (intro w hx; try (have hp := hp.call hx); conv => whnf)
        (refine hp.kmade _ _ (fun b => .slice (some ⟨b, 0, none⟩) 1 1) (mks22_1_0 _ _) fun q w hp hx => ?_; conv => whnf)
        (refine And.intro (fun hc => hc.call hx) ?_; conv => whnf)
        (intro w hx; try (have hp := hp.call hx); conv => whnf)
        skip
        refine ⟨_, _, Blk.str (l := [UInt8.ofNat s2]) (hp.get (i := 0) rfl) TTok rfl rfl rfl (by rw [cellU8 (x := (s2 : Int)) (n := s2) (by omega) (by omega)]; rfl) rfl, ?_⟩
        conv => whnf
        (refine And.intro (fun hc => hc) ?_; conv => whnf)
        (intro w hx; try (have hp := hp.call hx); conv => whnf)
        exact key2 al31 _ _ (sub_cons rfl (sub_cons rfl (sub_cons rfl (sub_cons rfl (sub_cons rfl (sub_cons rfl (sub_cons rfl sub_nil))))))) (hp.pick [1, 3] (by decide))
  refine ⟨fun mm e w' => ∃ (k : Nat), mm + k = 4 ∧ e = [(4, .v (.string wd)), (5, .v (.string no)), (6, .v (.int .i64 nw)), (11, .v (.pointer (some ⟨q11, 0, none⟩))), (15, .v (.pointer (some ⟨q15, 0, none⟩))), (38, .v (.agg A)), (39, .v (.int .i64 k))] ∧ Four w' (.agg A) ∧ HpM [] W w' [blk q15 [.int .u8 s0, .int .u8 s1, .int .u8 s2] 35, blk q11 [.string pa.h, .int .i64 pa.p, .string pb.h, .int .i64 pb.p] 31],
    ⟨4, _, ⟨0, by omega, rfl, hF, hp.pick [0, 1] (by decide)⟩, sub_cons rfl (sub_cons rfl (sub_cons rfl (sub_cons rfl (sub_cons rfl (sub_cons rfl (sub_cons rfl sub_nil))))))⟩, ?_⟩
  clear hF hp hx
  repeat clear hp
  rintro mm _ w ⟨k, hmm, rfl, hF, hp⟩
  conv => whnf
  refine VSeq.mk fun Kq hKq => ?_
  conv => whnf
  refine hKq _ _ _ (.refl _) ?_
  clear hKq Kq
  conv => whnf
  refine VSeq.mk fun Kq hKq => ?_
  conv => whnf
  skip
  refine ⟨fun hlt => ?_, fun hlt => ?_⟩
  · have hlt := of_decide_eq_true hlt
    conv => whnf
    refine hKq _ _ _ (.refl _) ?_
    clear hKq Kq
    conv => whnf
    refine VSeq.mk fun Kq hKq => ?_
    conv => whnf
    refine VSeq.mk fun Kq hKq => ?_
    conv => whnf
    clear key
    obtain ⟨y, vy, yo, sv, hix⟩ := hF.2 k (by omega)
    obtain ⟨pv, cv, rfl⟩ := sv.shape
    have sA := fun {W : World} hv => right12_c (W := W) (v := .slice pv (iv y.asked).length cv) y yo hv
    have sB := fun {W : World} hv => Check12_c (W := W) (v := .slice pv (iv y.asked).length cv) y yo hv
    have sC := fun {W : World} hv => Wake12_c (W := W) (v := .slice pv (iv y.asked).length cv) y yo hv
    have sD := fun {W : World} hv => Wake12r_c (W := W) (v := .slice pv (iv y.asked).length cv) y yo hv
    unfold chkW at sB
    obtain ⟨T, hT⟩ : ∃ T, wakeW y = T := ⟨_, rfl⟩
    rw [hT] at sC sD
    obtain ⟨r, hr⟩ : ∃ r, wtB y = r := ⟨_, rfl⟩
    rw [hr] at sA sB
    clear hT hr
    dsimp only [Wt.c] at hix sA sB sC sD
    have hpO := hp
    clear hp
    repeat clear hp
    have hp := Hp.nil w
    skip
    refine ⟨_, _, hix _, ?_⟩
    conv => whnf
    clear hix
    (refine hp.kalloc z34 fun al34 w hp hx => ?_; conv => whnf)
    (refine hp.kstA TTok rfl 0 rfl rfl (oneC_of rfl) (by rfl) fun w hp => ?_; try simp only [List.set_cons_zero, List.set_cons_succ, EV.val] at hp; conv => whnf)
    (refine hKq _ _ _ (.refl _) ?_; clear hKq Kq; conv => whnf)
    (refine VSeq.mk fun Kq hKq => ?_; conv => whnf)
    (refine ⟨_, _, Blk.ldV (vs := [_, _, _, _, _, _, _, _, _, _, _, _, _]) (hp.get (i := 0) rfl) TTok rfl rfl rfl, ?_⟩; conv => whnf)
    refine V.CallsUse (sA (sv.ext hp.ext)) fun w hx => ?_
    have hp := hp.call hx
    conv => whnf
    clear sA
    (refine hKq _ _ _ (.refl _) ?_; clear hKq Kq; conv => whnf)
    (refine VSeq.mk fun Kq hKq => ?_; conv => whnf)
    (refine VSeq.mk fun Kq hKq => ?_; conv => whnf)
    (refine VSeq.mk fun Kq hKq => ?_; conv => whnf)
    (refine ⟨_, _, Blk.ldV (vs := [_, _, _, _, _, _, _, _, _, _, _, _, _]) (hp.get (i := 0) rfl) TTok rfl rfl rfl, ?_⟩; conv => whnf)
    cases r with
    | true =>
      rw [if_pos rfl] at sB
      refine V.CallsUse (sB (sv.ext hp.ext)) fun w hx => ?_
      have hp := hp.call hx
      conv => whnf
      skip
      first | refine ⟨.bool false, w, by kernel_rfl, ?_⟩ | refine ⟨.bool false, w0, by kernel_rfl, ?_⟩
      conv => whnf
      refine hKq _ _ _ (.refl _) ?_
      clear hKq Kq
      conv => whnf
      (refine And.intro (fun h => absurd h (by decide)) (fun _ => ?_); conv => whnf)
      (refine And.intro (fun h => absurd h (by decide)) (fun _ => ?_); conv => whnf)
      (refine hKq _ _ _ (.refl _) ?_; clear hKq Kq; conv => whnf)
      (refine hKq _ _ _ (.refl _) ?_; clear hKq Kq; conv => whnf)
      (refine VSeq.mk fun Kq hKq => ?_; conv => whnf)
      (refine ⟨_, _, Blk.ldV (vs := [_, _, _, _, _, _, _, _, _, _, _, _, _]) (hp.get (i := 0) rfl) TTok rfl rfl rfl, ?_⟩; conv => whnf)
      refine V.CallsUse (sC (sv.ext hp.ext)) fun w hx => ?_
      have hp := hp.call hx
      conv => whnf
      (refine hKq _ _ _ (.refl _) ?_; clear hKq Kq; conv => whnf)
      (refine VSeq.mk fun Kq hKq => ?_; conv => whnf)
      (refine ⟨_, _, Blk.ldV (vs := [_, _, _, _, _, _, _, _, _, _, _, _, _]) (hp.get (i := 0) rfl) TTok rfl rfl rfl, ?_⟩; conv => whnf)
      refine V.CallsUse (sD (sv.ext hp.ext)) fun w hx => ?_
      have hp := hp.call hx
      conv => whnf
      (refine hKq _ _ _ (.refl _) ?_; clear hKq Kq; conv => whnf)
      (refine VSeq.mk fun Kq hKq => ?_; conv => whnf)
      (refine VSeq.mk fun Kq hKq => ?_; conv => whnf)
      (refine hKq _ _ _ (.refl _) ?_; clear hKq Kq; conv => whnf)
      (refine And.intro (fun h => absurd (of_decide_eq_true h) (by first | (intro h2; exact absurd rfl h2) | omega | decide)) (fun _ => ?_); conv => whnf)
      (refine hKq _ _ _ (.refl _) ?_; clear hKq Kq; conv => whnf)
      (refine And.intro (fun h => absurd (of_decide_eq_true h) (by first | (intro h2; exact absurd rfl h2) | omega | decide)) (fun _ => ?_); conv => whnf)
      (refine hKq _ _ _ (.refl _) ?_; clear hKq Kq; conv => whnf)
      (refine Or.inl (And.intro (by first | omega | decide) ?_); conv => whnf)
      exact ⟨mm - 1, _, by omega, ⟨k + 1, by omega, rfl, hF.ext hp.ext, (hpO.join hp).pick [1, 2] (by decide)⟩, sub_cons rfl (sub_cons rfl (sub_cons rfl (sub_cons rfl (sub_cons rfl (sub_cons rfl (sub_cons rfl sub_nil))))))⟩
    | false =>
      rw [if_neg (by decide)] at sB
      refine V.CallsUse (sB (sv.ext hp.ext)) fun w hx => ?_
      have hp := hp.call hx
      conv => whnf
      skip
      first | refine ⟨.bool false, w, by kernel_rfl, ?_⟩ | refine ⟨.bool false, w0, by kernel_rfl, ?_⟩
      conv => whnf
      refine hKq _ _ _ (.refl _) ?_
      clear hKq Kq
      conv => whnf
      (refine And.intro (fun h => absurd h (by decide)) (fun _ => ?_); conv => whnf)
      (refine And.intro (fun _ => ?_) (fun h => absurd h (by decide)); conv => whnf)
      (refine ⟨_, _, Blk.ldV (vs := [_, _, _, _, _, _, _, _, _, _, _, _, _]) (hp.get (i := 0) rfl) TTok rfl rfl rfl, ?_⟩; conv => whnf)
      refine V.CallsUse (sB (sv.ext hp.ext)) fun w hx => ?_
      have hp := hp.call hx
      conv => whnf
      (refine hKq _ _ _ (.refl _) ?_; clear hKq Kq; conv => whnf)
      (refine And.intro (fun h => absurd (of_decide_eq_true h) (by first | (intro h2; exact absurd rfl h2) | omega | decide)) (fun _ => ?_); conv => whnf)
      (refine hKq _ _ _ (.refl _) ?_; clear hKq Kq; conv => whnf)
      (refine VSeq.mk fun Kq hKq => ?_; conv => whnf)
      (refine ⟨_, _, Blk.ldV (vs := [_, _, _, _, _, _, _, _, _, _, _, _, _]) (hp.get (i := 0) rfl) TTok rfl rfl rfl, ?_⟩; conv => whnf)
      refine V.CallsUse (sC (sv.ext hp.ext)) fun w hx => ?_
      have hp := hp.call hx
      conv => whnf
      (refine hKq _ _ _ (.refl _) ?_; clear hKq Kq; conv => whnf)
      (refine VSeq.mk fun Kq hKq => ?_; conv => whnf)
      (refine ⟨_, _, Blk.ldV (vs := [_, _, _, _, _, _, _, _, _, _, _, _, _]) (hp.get (i := 0) rfl) TTok rfl rfl rfl, ?_⟩; conv => whnf)
      refine V.CallsUse (sD (sv.ext hp.ext)) fun w hx => ?_
      have hp := hp.call hx
      conv => whnf
      (refine hKq _ _ _ (.refl _) ?_; clear hKq Kq; conv => whnf)
      (refine VSeq.mk fun Kq hKq => ?_; conv => whnf)
      (refine VSeq.mk fun Kq hKq => ?_; conv => whnf)
      (refine hKq _ _ _ (.refl _) ?_; clear hKq Kq; conv => whnf)
      (refine And.intro (fun h => absurd (of_decide_eq_true h) (by first | (intro h2; exact absurd rfl h2) | omega | decide)) (fun _ => ?_); conv => whnf)
      (refine hKq _ _ _ (.refl _) ?_; clear hKq Kq; conv => whnf)
      (refine And.intro (fun h => absurd (of_decide_eq_true h) (by first | (intro h2; exact absurd rfl h2) | omega | decide)) (fun _ => ?_); conv => whnf)
      (refine hKq _ _ _ (.refl _) ?_; clear hKq Kq; conv => whnf)
      (refine Or.inl (And.intro (by first | omega | decide) ?_); conv => whnf)
      exact ⟨mm - 1, _, by omega, ⟨k + 1, by omega, rfl, hF.ext hp.ext, (hpO.join hp).pick [1, 2] (by decide)⟩, sub_cons rfl (sub_cons rfl (sub_cons rfl (sub_cons rfl (sub_cons rfl (sub_cons rfl (sub_cons rfl sub_nil))))))⟩
  · have hlt := of_decide_eq_false hlt
    conv => whnf
    exact key _ _ (sub_cons rfl (sub_cons rfl (sub_cons rfl (sub_cons rfl (sub_cons rfl sub_nil))))) hp
theorem makes_at {W : World} (c0 c1 c2 c3 : Array Value) (e0 : Rd W (.cons (.int .u8) (.cons (.sl (.int .u8)) (.cons (.sl (.ag shE)) .nil))) c0.toList) (e1 : Rd W (.cons (.ag shBn) (.cons (.ag shBn) .nil)) c1.toList) (e2 : Rd W shW c2.toList) (e3 : Rd W shPa c3.toList) (a4 a5 : ByteArray) (w4 : a4.size ≤ maxLen) (w5 : a5.size ≤ maxLen) (a6 : Int) (c7 : Array Value) (e7 : Rd W (.cons (.int .u8) (.cons (.int .u8) (.cons (.int .u8) .nil))) c7.toList) :
    Calls Tryz.prog 3 #[.agg c0, .agg c1, .agg c2, .agg c3, .string a4, .string a5, .int .i64 a6, .agg c7] W fun e w' => e = .returned (.bool true) ∧ Ext W w' := by
  obtain ⟨p, nb, evs, vn, ve, hp, hev, hn, he, h0⟩ := drf_rd e0
  obtain ⟨b, c, hb, hc, h1⟩ := bns_rd e1
  obtain ⟨y, v, hy, hv, h2⟩ := wt_rd e2
  obtain ⟨pa, pb, hpa, hpb, h3⟩ := pa_rd2 e3
  obtain ⟨_, _, h7, ⟨n0, rfl, k0⟩, _, _, rfl, ⟨n1, rfl, k1⟩, _, _, rfl, ⟨n2, rfl, k2⟩, h8⟩ := e7
  obtain rfl : _ = [] := h8
  obtain ⟨s0, rfl, hs0⟩ := nat_of_u k0 rfl
  obtain ⟨s1, rfl, hs1⟩ := nat_of_u k1 rfl
  obtain ⟨s2, rfl, hs2⟩ := nat_of_u k2 rfl
  have h0 : c0 = #[.int .u8 p, vn, ve] := Array.ext' h0
  have h1 : c1 = (b.c ++ c.c).toArray := Array.ext' h1
  have h2 : c2 = (y.c v).toArray := Array.ext' h2
  have h3 : c3 = #[.string pa.h, .int .i64 pa.p, .string pb.h, .int .i64 pb.p] := Array.ext' h3
  have h7 : c7 = #[.int .u8 s0, .int .u8 s1, .int .u8 s2] := Array.ext' h7
  subst h0 h1 h2 h3 h7
  exact makes_c p hp nb evs hev hn he b c hb hc y hy hv pa pb hpa hpb a4 a5 w4 w5 a6 s0 s1 s2 hs0 hs1 hs2
end Go.Proofs.YtgkhcgiggjijlaaGreat
namespace Go.Proofs.YtgkhcgiggjijlaaGreat.consentMakes
open Go.ChangeShapes Go.WideShapes Go.ChangeAt Go.RowKit
open Go.ChangeMaps (open_string shut_string)
set_option linter.unusedVariables false
theorem own : ownKnob Tryz.prog.godebug = none := by kernel_rfl
theorem laidOut : laidOutB Tryz.prog = true := by kernel_rfl
set_option maxRecDepth 100000 in
theorem lifted (os : Os) (started : os.Started) (H : Type) (enc : TypeId × Value → H) :
    ReturnsInHanded {} Tryz.checked os 3 .any (Rows.consentMakesSpec.pre6 enc Tryz.prog Tryz.f3 Rows.consentMakesRow.domain false) (Rows.consentMakesSpec.post enc Tryz.prog Tryz.f3 false true false false) := by
  refine returnsInHanded_of_change (C := Tryz.checked) own started (by kernel_rfl) Tryz.func3
    (ChangeSpec.witness6 (enc := enc) (C := Tryz.checked) false ⟨#[], #[.agg #[.int .u8 0, .slice none 0 0, .slice none 0 0], .agg #[.int .u8 0, .int .u8 0, .int .i64 0, .string ByteArray.empty, .string ByteArray.empty, .int .i64 0, .int .u8 0, .int .u8 0, .int .i64 0, .string ByteArray.empty, .string ByteArray.empty, .int .i64 0], .agg #[.string ByteArray.empty, .int .i64 0, .string ByteArray.empty, .int .i64 0, .int .i64 0, .int .i64 0, .int .i64 0, .int .i64 0, .bool false, .string ByteArray.empty, .string ByteArray.empty, .string ByteArray.empty, .slice none 0 0], .agg #[.string ByteArray.empty, .int .i64 0, .string ByteArray.empty, .int .i64 0], .string ByteArray.empty, .string ByteArray.empty, .int .i64 0, .agg #[.int .u8 0, .int .u8 0, .int .u8 0]], []⟩ 8 (by kernel_rfl) (by kernel_rfl) (by kernel_rfl) (by kernel_rfl)) ?_
  intro W base args ds gs before hval0 hW hcnd _
  have hval : ∀ (j : Nat) t v, Tryz.f3.params[j]? = some t → args[j]? = some v → Value.okWide Tryz.prog W .any base t v := hval0
  have hW' := hW
  obtain ⟨p, q, hA0, hV, rfl, hfz, hnd⟩ := hW
  have hA : DataW.TrodAll enc Tryz.prog W 0 (fun _ => true) true Tryz.f3.params.toList args.toList ds p := hA0
  rw [Tryz.params3] at hA hval
  obtain ⟨v0, vs0, d0, ds0, p0, q0, hargs, rfl, rfl, h0, r0⟩ := trodAll_cons hA
  obtain ⟨v1, vs1, d1, ds1, p1, q1, rfl, rfl, rfl, h1, r1⟩ := trodAll_cons r0
  obtain ⟨v2, vs2, d2, ds2, p2, q2, rfl, rfl, rfl, h2, r2⟩ := trodAll_cons r1
  obtain ⟨v3, vs3, d3, ds3, p3, q3, rfl, rfl, rfl, h3, r3⟩ := trodAll_cons r2
  obtain ⟨v4, vs4, d4, ds4, p4, q4, rfl, rfl, rfl, h4, r4⟩ := trodAll_cons r3
  obtain ⟨v5, vs5, d5, ds5, p5, q5, rfl, rfl, rfl, h5, r5⟩ := trodAll_cons r4
  obtain ⟨v6, vs6, d6, ds6, p6, q6, rfl, rfl, rfl, h6, r6⟩ := trodAll_cons r5
  obtain ⟨v7, vs7, d7, ds7, p7, q7, rfl, rfl, rfl, h7, r7⟩ := trodAll_cons r6
  obtain ⟨rfl, rfl, rfl⟩ := trodAll_nil r7
  obtain rfl : args = #[v0, v1, v2, v3, v4, v5, v6, v7] := by cases args; simp_all
  obtain ⟨rfl, rfl⟩ := trodVars_none hV
  have k0 := h0
  have lt0 : ∀ x ∈ p0, x.block < W.heap.size := by obtain ⟨m, hm⟩ := k0; exact DataW.trod_lt m _ _ _ hm
  obtain ⟨c0, rfl, e0⟩ := V.rd_ag (s := (.cons (.int .u8) (.cons (.sl (.int .u8)) (.cons (.sl (.ag (.cons (.int .u8) (.cons (.int .u8) (.cons (.int .u8) (.cons (.int .u16) (.cons (.int .u8) .nil))))))) .nil)))) (by kernel_rfl) (hval 0 25 v0 rfl rfl) h0
  have k1 := h1
  have lt1 : ∀ x ∈ p1, x.block < W.heap.size := by obtain ⟨m, hm⟩ := k1; exact DataW.trod_lt m _ _ _ hm
  obtain ⟨c1, rfl, e1⟩ := V.rd_ag (s := (.cons (.ag (.cons (.int .u8) (.cons (.int .u8) (.cons (.int .i64) (.cons .str (.cons (.ag (.cons .str (.cons (.int .i64) .nil))) .nil)))))) (.cons (.ag (.cons (.int .u8) (.cons (.int .u8) (.cons (.int .i64) (.cons .str (.cons (.ag (.cons .str (.cons (.int .i64) .nil))) .nil)))))) .nil))) (by kernel_rfl) (hval 1 30 v1 rfl rfl) h1
  have k2 := h2
  have lt2 : ∀ x ∈ p2, x.block < W.heap.size := by obtain ⟨m, hm⟩ := k2; exact DataW.trod_lt m _ _ _ hm
  obtain ⟨c2, rfl, e2⟩ := V.rd_ag (s := (.cons (.ag (.cons (.ag (.cons .str (.cons (.int .i64) .nil))) (.cons (.ag (.cons .str (.cons (.int .i64) .nil))) .nil))) (.cons (.int .i64) (.cons (.int .i64) (.cons (.int .i64) (.cons (.int .i64) (.cons .bool (.cons .str (.cons .str (.cons .str (.cons (.sl (.int .i64)) .nil))))))))))) (by kernel_rfl) (hval 2 34 v2 rfl rfl) h2
  have k3 := h3
  have lt3 : ∀ x ∈ p3, x.block < W.heap.size := by obtain ⟨m, hm⟩ := k3; exact DataW.trod_lt m _ _ _ hm
  obtain ⟨c3, rfl, e3⟩ := V.rd_ag (s := (.cons (.ag (.cons .str (.cons (.int .i64) .nil))) (.cons (.ag (.cons .str (.cons (.int .i64) .nil))) .nil))) (by kernel_rfl) (hval 3 31 v3 rfl rfl) h3
  have k4 := h4
  have lt4 : ∀ x ∈ p4, x.block < W.heap.size := by obtain ⟨m, hm⟩ := k4; exact DataW.trod_lt m _ _ _ hm
  obtain ⟨a4, rfl, rfl, rfl, w4⟩ := open_string Tryz.underlying9 (hval 4 9 v4 rfl rfl) h4
  have k5 := h5
  have lt5 : ∀ x ∈ p5, x.block < W.heap.size := by obtain ⟨m, hm⟩ := k5; exact DataW.trod_lt m _ _ _ hm
  obtain ⟨a5, rfl, rfl, rfl, w5⟩ := open_string Tryz.underlying9 (hval 5 9 v5 rfl rfl) h5
  have k6 := h6
  have lt6 : ∀ x ∈ p6, x.block < W.heap.size := by obtain ⟨m, hm⟩ := k6; exact DataW.trod_lt m _ _ _ hm
  obtain ⟨a6, rfl, rfl, rfl, w6⟩ := open_int Tryz.underlying3 (hval 6 3 v6 rfl rfl) h6
  have k7 := h7
  have lt7 : ∀ x ∈ p7, x.block < W.heap.size := by obtain ⟨m, hm⟩ := k7; exact DataW.trod_lt m _ _ _ hm
  obtain ⟨c7, rfl, e7⟩ := V.rd_ag (s := (.cons (.int .u8) (.cons (.int .u8) (.cons (.int .u8) .nil)))) (by kernel_rfl) (hval 7 35 v7 rfl rfl) h7
  clear hA0 hval0
  refine (makes_at c0 c1 c2 c3 e0 e1 e2 e3 a4 a5 w4 w5 a6 c7 e7).mono fun e W' ⟨he, bel⟩ => ?_
  have bel : Below W.heap.size W W' := bel
  subst he
  exact ⟨_, rfl, _, _, _, [], _, [], hW', trodAll_mk1 (shut_bool Tryz.underlying4 _), (trodAll_cons_mk (Below.trod laidOut (by kernel_rfl) (of_decide_eq_true (by kernel_rfl)) k0 bel lt0) (trodAll_cons_mk (Below.trod laidOut (by kernel_rfl) (of_decide_eq_true (by kernel_rfl)) k1 bel lt1) (trodAll_cons_mk (Below.trod laidOut (by kernel_rfl) (of_decide_eq_true (by kernel_rfl)) k2 bel lt2) (trodAll_cons_mk (Below.trod laidOut (by kernel_rfl) (of_decide_eq_true (by kernel_rfl)) k3 bel lt3) (trodAll_cons_mk (Below.trod laidOut (by kernel_rfl) (of_decide_eq_true (by kernel_rfl)) k4 bel lt4) (trodAll_cons_mk (Below.trod laidOut (by kernel_rfl) (of_decide_eq_true (by kernel_rfl)) k5 bel lt5) (trodAll_cons_mk (Below.trod laidOut (by kernel_rfl) (of_decide_eq_true (by kernel_rfl)) k6 bel lt6) (trodAll_cons_mk (Below.trod laidOut (by kernel_rfl) (of_decide_eq_true (by kernel_rfl)) k7 bel lt7) trodAll_mk0)))))))), rfl, bel.frame _, fun h => by cases h⟩

theorem over : Rows.consentMakesRow.holds Tryz.pinned (OpenSpec.ofChange Rows.consentMakesSpec) :=
  OpenClaim.holds_of_wide 3 Tryz.f3 rfl rfl rfl rfl rfl rfl rfl ⟨rfl, rfl, rfl, rfl, rfl⟩ rfl rfl rfl rfl rfl (by kernel_rfl) Tryz.func3 (by kernel_rfl)
    (of_decide_eq_true (by kernel_rfl)) (by unfold Func.isWrapper; first | (rw [if_pos (by decide +kernel)]; kernel_rfl) | (rw [if_neg (by decide +kernel)]; exact ⟨rfl, rfl⟩))
    (fun os started H enc _ => lifted os started H enc)

theorem proved : Rows.ConsentMakesSaid := over
#print axioms proved
end Go.Proofs.YtgkhcgiggjijlaaGreat.consentMakes
