/- Chapter 08: the examples hold. -/
/- Chapter 08: mixed values are read. -/
import Derived.Test.YtmlmfmdmomegpaaGreatDoorKN15
import Derived.Test.YtmlmfmdmomegpaaGreatDoorKN14
import Derived.Test.YtmlmfmdmomegpaaGreatDoorKN12
namespace Go.Proofs.YtmlmfmdmomegpaaGreatDoor
set_option linter.unusedSimpArgs false
set_option linter.unusedVariables false
set_option maxRecDepth 100000
open Go.RowKit V
set_option maxHeartbeats 12800000
theorem works_p : PureF Tryz.prog 12 #[] (.bool true) := by
  have c1 := fun (w : World) => Encode_ok (W := w) 0 1 idC SA.nil8 k_s0
  have z0 := k_z0
  have x0 := k_x0
  have d0 := k_d0
  have d1 := k_d1
  have d2 := k_d2
  generalize wrB 0 1 idC [] 0 = S at *
  have z19 := size_extract S 0 19 (by omega)
  have z3 := size_extract S 0 3 (by omega)
  have z4 := size_extract S 4 S.size (by omega)
  have d2 : decC (S.extract 0 3 ++ ⟨#[4]⟩ ++ S.extract 4 S.size) = 7 := by rw [z0]; exact d2
  have e1 := fun (w : World) => Decode_no (W := w) (S.extract 0 19) (by unfold maxLen; omega) (by rw [d0]; decide)
  have e2 := fun (w : World) => Decode_no (W := w) (S ++ (⟨#[120]⟩ : ByteArray)) (by rw [ByteArray.size_append, z0]; decide) (by rw [d1]; decide)
  have e3 := fun (w : World) => Decode_no (W := w) (S.extract 0 3 ++ ⟨#[4]⟩ ++ S.extract 4 S.size) (by rw [ByteArray.size_append, ByteArray.size_append, z3, z4, z0]; decide) (by rw [d2]; decide)
  rw [d0] at e1
  rw [d1] at e2
  rw [d2] at e3
  have pr := fun (w : World) => Protect_ok (W := w) 0 1 idC (⟨#[107]⟩ : ByteArray) SA.nil8 k_s0 (by decide) rfl rfl k_s3
  have v0 := fun (w : World) => Verify_c (W := w) 0 1 idC (⟨#[107]⟩ : ByteArray) SA.nil8
  rw [k_v0] at v0
  have v1 := fun (w : World) (v : Value) (hv : SA w v [(8, exM)]) => Verify_c 0 1 idC (⟨#[107]⟩ : ByteArray) hv
  have v2 := fun (w : World) (v : Value) (hv : SA w v [(8, exM)]) => Verify_c 0 1 idC (⟨#[108]⟩ : ByteArray) hv
  rw [k_v1] at v1
  rw [k_v2] at v2
  have hM : macB (⟨#[107]⟩ : ByteArray) (wrB 0 1 idC [] 36) = exM := rfl
  rw [hM] at pr
  clear hM
  generalize exM = M at *
  first | refine v_pure TTok FFok Tryz.func12 rfl rfl fun w0 => ?_ | refine v_pure (args := []) TTok FFok Tryz.func12 rfl rfl fun w0 => ?_
  conv => whnf
  refine VSeq.mk fun Kq hKq => ?_
  conv => whnf
  refine hKq _ _ _ (.refl _) ?_
  clear hKq Kq
  conv => whnf
  refine VSeq.mk fun Kq hKq => ?_
  conv => whnf
  have hp := Hp.nil w0
  refine PureF.use (chapter_p) fun w hx => ?_
  try (have hp := hp.call hx)
  conv => whnf
  (refine hp.kalloc z24 fun al24 w hp hx => ?_; conv => whnf)
  (refine hp.kstA TTok rfl 0 rfl rfl (oneC_of rfl) (by rfl) fun w hp => ?_; try simp only [List.set_cons_zero, List.set_cons_succ, EV.val] at hp; conv => whnf)
  (refine hKq _ _ _ (.refl _) ?_; clear hKq Kq; conv => whnf)
  (refine VSeq.mk fun Kq hKq => ?_; conv => whnf)
  (refine ⟨_, _, Blk.ldV (vs := [_, _, _, _]) (hp.get (i := 0) rfl) TTok rfl rfl rfl, ?_⟩; conv => whnf)
  (refine ⟨_, _, bld54_0_1 _ _ _, ?_⟩; conv => whnf)
  (refine hp.kmade _ _ (fun b => .slice (some ⟨b, 0, none⟩) 1 1) (mks22_1_0 _ _ _) fun q w hp hx => ?_; conv => whnf)
  obtain ⟨b1, rfl⟩ : ∃ q, q = al24 := ⟨al24, rfl⟩
  have hd : SA w (.slice (some ⟨q, 0, none⟩) 1 1) doneL := SA.of_blk (hp.get (i := 0) rfl) rfl (by unfold maxLen; decide)
  refine Calls.mono (with8_c 0 1 idC SA.nil8 hd (by decide) (by decide)) ?_
  rintro _ w ⟨_, rfl, dv, rfl, hr⟩
  refine ⟨_, rfl, ?_⟩
  have hp := hp.join hr
  clear hr hd
  simp only [List.cons_append, List.nil_append] at hp
  obtain ⟨pd, cd, rfl⟩ := row_shape (hp.get (i := 0) rfl)
  conv => whnf
  (refine hp.kalloc z24 fun al24 w hp hx => ?_; conv => whnf)
  (refine hp.kstA TTok rfl 0 rfl rfl (oneC_of rfl) (by rfl) fun w hp => ?_; try simp only [List.set_cons_zero, List.set_cons_succ, EV.val] at hp; conv => whnf)
  (refine hKq _ _ _ (.refl _) ?_; clear hKq Kq; conv => whnf)
  (refine VSeq.mk fun Kq hKq => ?_; conv => whnf)
  (refine hp.kst1 TTok (by rfl) 0 (by rfl) (by rfl) (by rfl) (Nat.le_of_ble_eq_true rfl) fun w hp => ?_; try simp only [List.set_cons_zero, List.set_cons_succ, EV.val] at hp; conv => whnf)
  (refine hKq _ _ _ (.refl _) ?_; clear hKq Kq; conv => whnf)
  (refine VSeq.mk fun Kq hKq => ?_; conv => whnf)
  (refine ⟨_, _, Blk.ldV (vs := [_, _, _, _]) (hp.get (i := 3) rfl) TTok rfl rfl rfl, ?_⟩; conv => whnf)
  obtain ⟨b2, rfl⟩ : ∃ q, q = al24 := ⟨al24, rfl⟩
  have hp : HpM [] w0 w [blk b2 [.int .i64 2, .int .i64 1, .string idC, .slice pd 1 cd] 24, row 54 2 (.slice pd 1 cd) 1 (flatC doneL), blk q [.int .i64 6, .string (⟨#[97, 98]⟩ : ByteArray)] 54, blk b1 [.int .i64 0, .int .i64 1, .string idC, .slice none 0 0] 24] := hp
  have hp := hp.pick [0, 1, 3] (by decide)
  simp only [List.filterMap_cons, List.filterMap_nil, List.getElem?_cons_zero, List.getElem?_cons_succ] at hp
  refine V.CallsUse (c1 _) fun w hx => ?_
  try (have hp := hp.call hx)
  conv => whnf
  refine hKq _ _ _ (.refl _) ?_
  clear hKq Kq
  conv => whnf
  refine VSeq.mk fun Kq hKq => ?_
  conv => whnf
  refine VSeq.mk fun Kq hKq => ?_
  conv => whnf
  refine VSeq.mk fun Kq hKq => ?_
  conv => whnf
  refine hKq _ _ _ (.refl _) ?_
  clear hKq Kq
  conv => whnf
  (refine And.intro (fun h => absurd (of_decide_eq_true h) (by first | (intro h2; exact absurd rfl h2) | omega | decide)) (fun _ => ?_); conv => whnf)
  (refine hKq _ _ _ (.refl _) ?_; clear hKq Kq; conv => whnf)
  (refine And.intro (fun h => absurd (of_decide_eq_true h) (by first | (intro h2; exact absurd rfl h2) | omega | decide)) (fun _ => ?_); conv => whnf)
  (refine hKq _ _ _ (.refl _) ?_; clear hKq Kq; conv => whnf)
  (refine VSeq.mk fun Kq hKq => ?_; conv => whnf)
  (refine ⟨_, _, Blk.ldV (vs := [_, _, _, _]) (hp.get (i := 2) rfl) TTok rfl rfl rfl, ?_⟩; conv => whnf)
  (refine ⟨_, _, bld54_0_1 _ _ _, ?_⟩; conv => whnf)
  (refine ⟨_, _, bld54_0 _ _, ?_⟩; conv => whnf)
  (refine ⟨_, _, bld54_0 _ _, ?_⟩; conv => whnf)
  (refine ⟨_, _, bld54_0 _ _, ?_⟩; conv => whnf)
  (refine ⟨_, _, bld54_0_1 _ _ _, ?_⟩; conv => whnf)
  (refine hp.kmade _ _ (fun b => .slice (some ⟨b, 0, none⟩) 5 5) (mks22_5_0_1_2_3_4 _ _ _ _ _ _ _ _ _ _ _) fun q w hp hx => ?_; conv => whnf)
  have hd : SA w (.slice (some ⟨q, 0, none⟩) 5 5) oddL := SA.of_blk (hp.get (i := 0) rfl) rfl (by unfold maxLen; decide)
  refine Calls.mono (with8_c 0 1 idC SA.nil8 hd (by decide) (by decide)) ?_
  rintro _ w ⟨_, rfl, dv, rfl, hr⟩
  refine ⟨_, rfl, ?_⟩
  have hp := hp.join hr
  clear hr hd
  simp only [List.cons_append, List.nil_append] at hp
  obtain ⟨po, co, rfl⟩ := row_shape (hp.get (i := 0) rfl)
  conv => whnf
  (refine hp.kalloc z24 fun al24 w hp hx => ?_; conv => whnf)
  (refine hp.kstA TTok rfl 0 rfl rfl (oneC_of rfl) (by rfl) fun w hp => ?_; try simp only [List.set_cons_zero, List.set_cons_succ, EV.val] at hp; conv => whnf)
  (refine hKq _ _ _ (.refl _) ?_; clear hKq Kq; conv => whnf)
  (refine VSeq.mk fun Kq hKq => ?_; conv => whnf)
  (refine ⟨_, _, Blk.ldV (vs := [_, _, _, _]) (hp.get (i := 0) rfl) TTok rfl rfl rfl, ?_⟩; conv => whnf)
  obtain ⟨b5, rfl⟩ : ∃ q, q = al24 := ⟨al24, rfl⟩
  have hp := hp.pick [0, 1, 3, 4, 5] (by decide)
  simp only [List.filterMap_cons, List.filterMap_nil, List.getElem?_cons_zero, List.getElem?_cons_succ] at hp
  have hp : HpM [] w0 w [blk b5 [.int .i64 0, .int .i64 1, .string idC, .slice po 5 co] 24, row 54 2 (.slice po 5 co) 5 (flatC oddL), blk b2 [.int .i64 2, .int .i64 1, .string idC, .slice pd 1 cd] 24, row 54 2 (.slice pd 1 cd) 1 (flatC doneL), blk b1 [.int .i64 0, .int .i64 1, .string idC, .slice none 0 0] 24] := hp
  have hu := Unknown_ok (al := oddL) 0 1 idC (SA.of_row (hp.get (i := 1) rfl)) k_s2
  refine Calls.mono hu ?_
  clear hu
  rintro _ w ⟨_, rfl, lv, rfl, hr⟩
  refine ⟨_, rfl, ?_⟩
  rw [k_u] at hr
  have hp := hp.join hr
  clear hr
  simp only [List.cons_append, List.nil_append] at hp
  obtain ⟨pl, cl, rfl⟩ := row_shape (hp.get (i := 0) rfl)
  conv => whnf
  (refine hKq _ _ _ (.refl _) ?_; clear hKq Kq; conv => whnf)
  (refine VSeq.mk fun Kq hKq => ?_; conv => whnf)
  (refine ⟨_, _, Blk.ldV (vs := [_, _, _, _]) (hp.get (i := 1) rfl) TTok rfl rfl rfl, ?_⟩; conv => whnf)
  have hf := Find_c (al := oddL) 0 1 idC 6 (SA.of_row (hp.get (i := 2) rfl))
  rw [k_f0] at hf
  refine V.CallsUse (hf) fun w hx => ?_
  try (have hp := hp.call hx)
  conv => whnf
  refine hKq _ _ _ (.refl _) ?_
  clear hKq Kq
  conv => whnf
  refine VSeq.mk fun Kq hKq => ?_
  conv => whnf
  clear hf
  (refine ⟨_, _, Blk.ldV (vs := [_, _, _, _]) (hp.get (i := 5) rfl) TTok rfl rfl rfl, ?_⟩; conv => whnf)
  refine Calls.mono (pr _) ?_
  clear pr
  rintro _ w ⟨_, rfl, pv, rfl, hr⟩
  refine ⟨_, rfl, ?_⟩
  have hp := hp.join hr
  clear hr
  simp only [List.cons_append, List.nil_append] at hp
  obtain ⟨pp, cp, rfl⟩ := row_shape (hp.get (i := 0) rfl)
  conv => whnf
  (refine hp.kalloc z24 fun al24 w hp hx => ?_; conv => whnf)
  (refine hp.kstA TTok rfl 0 rfl rfl (oneC_of rfl) (by rfl) fun w hp => ?_; try simp only [List.set_cons_zero, List.set_cons_succ, EV.val] at hp; conv => whnf)
  (refine hKq _ _ _ (.refl _) ?_; clear hKq Kq; conv => whnf)
  (refine VSeq.mk fun Kq hKq => ?_; conv => whnf)
  obtain ⟨b10, rfl⟩ : ∃ q, q = al24 := ⟨al24, rfl⟩
  have hp : HpM [] w0 w [blk b10 [.int .i64 0, .int .i64 1, .string idC, .slice pp 1 cp] 24, row 54 2 (.slice pp 1 cp) 1 (flatC [(8, M)]), row 3 1 (.slice pl 1 cl) 1 [.int .i64 5], blk b5 [.int .i64 0, .int .i64 1, .string idC, .slice po 5 co] 24, row 54 2 (.slice po 5 co) 5 (flatC oddL), blk b2 [.int .i64 2, .int .i64 1, .string idC, .slice pd 1 cd] 24, row 54 2 (.slice pd 1 cd) 1 (flatC doneL), blk b1 [.int .i64 0, .int .i64 1, .string idC, .slice none 0 0] 24] := hp
  refine v_mixA TTok FFok mixed [(1, false), (0, true), (2, false), (3, false), (4, false), (5, false), (6, false), (8, false), (7, true), (9, false), (10, false), (11, false), (12, false), (13, false), (14, false), (16, false), (17, false), (18, false), (15, true), (19, false), (20, false), (21, false), (22, false), (23, false), (24, false), (26, false), (27, false), (25, true), (28, false), (29, false), (30, false), (31, false), (32, false), (33, false), (35, false), (36, false), (34, true), (37, false), (38, false), (39, false), (40, false), (41, false), (42, false), (44, false), (45, false), (46, false), (47, false), (48, false), (49, false), (43, true), (50, false), (51, false), (52, false), (53, false), (54, false), (55, false)] (by kernel_rfl) ?_
  conv => whnf
  refine ⟨_, fun w' hx' => Blk.ldN (Blk.ext (hp.get (i := 7) rfl) hx') TTok rfl (rfl), ?_⟩
  conv => whnf
  intro w hx
  try (have hp := hp.call hx)
  conv => whnf
  skip
  refine Calls.mono (is_c hp _) ?_
  rintro _ w ⟨v, rfl, bb, rfl, hp, hx⟩
  refine ⟨_, rfl, ?_⟩
  conv => whnf
  refine And.intro hx ?_
  conv => whnf
  refine ⟨_, fun w1 _ => c1 w1, ?_⟩
  conv => whnf
  refine ⟨_, fun w1 hx' => is_in S x0 (by omega) (Blk.ext (hp.get (i := 0) rfl) hx'), ?_⟩
  conv => whnf
  refine And.intro (fun _ => ?_) (fun h => by cases h)
  conv => whnf
  refine ⟨_, fun w' hx' => Blk.ldN (Blk.ext (hp.get (i := 6) rfl) hx') TTok rfl (rfl), ?_⟩
  conv => whnf
  intro w hx
  try (have hp := hp.call hx)
  conv => whnf
  skip
  refine Calls.mono (is_c hp _) ?_
  rintro _ w ⟨v, rfl, bb, rfl, hp, hx⟩
  refine ⟨_, rfl, ?_⟩
  conv => whnf
  refine And.intro hx ?_
  conv => whnf
  refine ⟨_, fun w1 hx' => Encode_ok (al := doneL) 2 1 idC ((SA.of_row (hp.get (i := 8) rfl)).ext hx') k_s1, ?_⟩
  conv => whnf
  refine ⟨_, fun w1 hx' => is_in _ k_x1 (by decide +kernel) (Blk.ext (hp.get (i := 0) rfl) hx'), ?_⟩
  conv => whnf
  refine And.intro (fun _ => ?_) (fun h => by cases h)
  conv => whnf
  refine ⟨_, fun w' hx' => Blk.ld (off := 2) (Blk.ext (hp.get (i := 9) rfl) hx') TTok rfl rfl, ?_⟩
  conv => whnf
  (refine ⟨_, fun w' hx' => bld63_0_1 w' _ _, ?_⟩; conv => whnf)
  (intro w hx; try (have hp := hp.call hx); conv => whnf)
  refine Calls.mono (is_c hp _) ?_
  rintro _ w ⟨v, rfl, bb, rfl, hp, hx⟩
  refine ⟨_, rfl, ?_⟩
  conv => whnf
  refine And.intro hx ?_
  conv => whnf
  first | refine PureF.quiet (Mixed_ok idC ⟨#[192, 0, 2, 1]⟩ 32853 rfl rfl (by decide)) ?_ | refine PureF.quietE (Mixed_ok idC ⟨#[192, 0, 2, 1]⟩ 32853 rfl rfl (by decide)) ?_
  conv => whnf
  refine ⟨_, fun w1 hx' => is_in _ k_x2 (by decide +kernel) (Blk.ext (hp.get (i := 0) rfl) hx'), ?_⟩
  conv => whnf
  refine And.intro (fun _ => ?_) (fun h => by cases h)
  conv => whnf
  refine ⟨19, ⟨by first | rfl | omega, by omega⟩, ?_⟩
  conv => whnf
  intro w hx
  try (have hp := hp.call hx)
  conv => whnf
  skip
  refine Calls.mono (refuses_c hp _) ?_
  rintro _ w ⟨v, rfl, bb, rfl, hp, hx⟩
  refine ⟨_, rfl, ?_⟩
  conv => whnf
  refine And.intro hx ?_
  conv => whnf
  refine ⟨_, fun w1 _ => e1 w1, ?_⟩
  conv => whnf
  refine ⟨_, fun w1 hx' => refuses_in (Blk.ext (hp.get (i := 0) rfl) hx'), ?_⟩
  conv => whnf
  refine And.intro (fun _ => ?_) (fun h => by cases h)
  conv => whnf
  refine And.intro (by rw [z0]; decide) ?_
  conv => whnf
  intro w hx
  try (have hp := hp.call hx)
  conv => whnf
  skip
  refine Calls.mono (refuses_c hp _) ?_
  rintro _ w ⟨v, rfl, bb, rfl, hp, hx⟩
  refine ⟨_, rfl, ?_⟩
  conv => whnf
  refine And.intro hx ?_
  conv => whnf
  refine ⟨_, fun w1 _ => e2 w1, ?_⟩
  conv => whnf
  refine ⟨_, fun w1 hx' => refuses_in (Blk.ext (hp.get (i := 0) rfl) hx'), ?_⟩
  conv => whnf
  refine And.intro (fun _ => ?_) (fun h => by cases h)
  conv => whnf
  refine ⟨3, ⟨by first | rfl | omega, by omega⟩, ?_⟩
  conv => whnf
  refine And.intro (by rw [z3]; decide) ?_
  conv => whnf
  refine ⟨4, ⟨by first | rfl | omega, by omega⟩, ?_⟩
  conv => whnf
  refine And.intro (by rw [ByteArray.size_append, z3, z4, z0]; decide) ?_
  conv => whnf
  intro w hx
  try (have hp := hp.call hx)
  conv => whnf
  skip
  refine Calls.mono (refuses_c hp _) ?_
  rintro _ w ⟨v, rfl, bb, rfl, hp, hx⟩
  refine ⟨_, rfl, ?_⟩
  conv => whnf
  refine And.intro hx ?_
  conv => whnf
  refine ⟨_, fun w1 _ => e3 w1, ?_⟩
  conv => whnf
  refine ⟨_, fun w1 hx' => refuses_in (Blk.ext (hp.get (i := 0) rfl) hx'), ?_⟩
  conv => whnf
  intro w hx
  try (have hp := hp.call hx)
  conv => whnf
  refine hKq _ _ _ (.refl _) ?_
  clear hKq Kq
  conv => whnf
  refine VSeq.mk fun Kq hKq => ?_
  conv => whnf
  clear c1 e1 e2 e3
  refine v_mixA TTok FFok mixed [(0, false), (1, false), (2, false), (3, false), (4, false), (5, false), (6, false), (7, true), (8, false), (9, false), (10, false), (11, false), (12, false), (13, false), (14, false), (15, false), (16, false), (17, false), (18, false), (20, false), (19, true), (21, false), (22, false), (23, false), (24, false), (25, false), (26, false), (27, true), (28, false), (29, false), (30, false), (31, false), (32, false), (33, false), (34, true), (35, false), (36, false), (37, false), (38, false), (39, false), (40, false)] (by kernel_rfl) ?_
  conv => whnf
  refine And.intro (fun _ => ?_) (fun h => by cases h)
  conv => whnf
  refine And.intro (fun _ => ?_) (fun h => absurd (rfl) (of_decide_eq_false h))
  conv => whnf
  intro w hx
  try (have hp := hp.call hx)
  conv => whnf
  obtain ⟨_, w, hr, tb, rfl, hp, hx⟩ : ∃ u w', (Instr.buildSlice 48 1 #[(0, .int .i64 5)]).run Tryz.prog w = .ok u w' ∧ ∃ b, u = .slice (some ⟨b, 0, none⟩) 1 1 ∧ HpM [] w0 w' (blk b [.int .i64 5] 3 :: _) ∧ Ext w w' := hp.kmade _ _ (fun b => .slice (some ⟨b, 0, none⟩) 1 1) (mks48_1_0 _ 5) fun tb w hp hx => ⟨tb, rfl, hp, hx⟩
  refine ⟨_, _, hr, ?_⟩
  clear hr
  conv => whnf
  refine And.intro hx ?_
  conv => whnf
  refine ⟨_, fun w1 hx' => ints8_c [5] [5] ((SLv.of_row (hp.get (i := 9) rfl)).ext hx') ((SLv.of_blk0 (hp.get (i := 0) rfl) rfl).ext hx') (by decide) (by decide), ?_⟩
  conv => whnf
  refine And.intro (fun _ => ?_) (fun h => absurd (rfl) (of_decide_eq_false h))
  conv => whnf
  refine And.intro (fun _ => ?_) (fun h => absurd (rfl) (of_decide_eq_false h))
  conv => whnf
  refine And.intro (fun _ => ?_) (fun h => absurd (rfl) (of_decide_eq_false h))
  conv => whnf
  refine ⟨_, fun w' hx' => Blk.ldN (Blk.ext (hp.get (i := 10) rfl) hx') TTok rfl (rfl), ?_⟩
  conv => whnf
  intro w hx
  try (have hp := hp.call hx)
  conv => whnf
  skip
  refine Calls.mono (fails_c hp _) ?_
  rintro _ w ⟨v, rfl, bb, rfl, hp, hx⟩
  refine ⟨_, rfl, ?_⟩
  conv => whnf
  refine And.intro hx ?_
  conv => whnf
  have hf7 := fun (w1 : World) (hx' : Ext w w1) => Find_c (al := oddL) 0 1 idC 7 ((SA.of_row (hp.get (i := 12) rfl)).ext hx')
  rw [k_f1] at hf7
  refine ⟨_, hf7, ?_⟩
  conv => whnf
  clear hf7
  refine ⟨_, fun w1 hx' => fails_in (Blk.ext (hp.get (i := 0) rfl) hx'), ?_⟩
  conv => whnf
  intro w hx
  try (have hp := hp.call hx)
  conv => whnf
  (refine And.intro (fun _ => ?_) (fun h => by cases h))
  refine Calls.mono (is_c hp _) ?_
  rintro _ w ⟨v, rfl, bb, rfl, hp, hx⟩
  refine ⟨_, rfl, ?_⟩
  conv => whnf
  refine And.intro hx ?_
  conv => whnf
  first | refine PureF.quiet (Reason_ok 487 (⟨#[120]⟩ : ByteArray) (by decide) (by decide) (by decide)) ?_ | refine PureF.quietE (Reason_ok 487 (⟨#[120]⟩ : ByteArray) (by decide) (by decide) (by decide)) ?_
  conv => whnf
  refine ⟨_, fun w1 hx' => is_in _ k_x3 (by decide +kernel) (Blk.ext (hp.get (i := 0) rfl) hx'), ?_⟩
  conv => whnf
  intro w hx
  try (have hp := hp.call hx)
  conv => whnf
  (refine And.intro (fun _ => ?_) (fun h => by cases h))
  refine Calls.mono (fails_c hp _) ?_
  rintro _ w ⟨v, rfl, bb, rfl, hp, hx⟩
  refine ⟨_, rfl, ?_⟩
  conv => whnf
  refine And.intro hx ?_
  conv => whnf
  first | refine PureF.quiet (Reason_arg 299 ⟨#[]⟩ (by decide)) ?_ | refine PureF.quietE (Reason_arg 299 ⟨#[]⟩ (by decide)) ?_
  conv => whnf
  refine ⟨_, fun w1 hx' => fails_in (Blk.ext (hp.get (i := 0) rfl) hx'), ?_⟩
  conv => whnf
  intro w hx
  try (have hp := hp.call hx)
  conv => whnf
  refine hKq _ _ _ (.refl _) ?_
  clear hKq Kq
  conv => whnf
  refine VSeq.mk fun Kq hKq => ?_
  conv => whnf
  refine VSeq.mk fun Kq hKq => ?_
  conv => whnf
  refine hKq _ _ _ (.refl _) ?_
  clear hKq Kq
  conv => whnf
  refine VSeq.mk fun Kq hKq => ?_
  conv => whnf
  refine And.intro (fun _ => ?_) (fun h => by cases h)
  conv => whnf
  refine ⟨_, _, Blk.ldN (hp.get (i := 17) rfl) TTok rfl (rfl), ?_⟩
  conv => whnf
  refine V.CallsUse (v0 _) fun w hx => ?_
  try (have hp := hp.call hx)
  conv => whnf
  refine hKq _ _ _ (.refl _) ?_
  clear hKq Kq
  conv => whnf
  refine VSeq.mk fun Kq hKq => ?_
  conv => whnf
  refine And.intro (fun _ => ?_) (fun h => absurd (rfl) (of_decide_eq_false h))
  conv => whnf
  refine hKq _ _ _ (.refl _) ?_
  clear hKq Kq
  conv => whnf
  refine VSeq.mk fun Kq hKq => ?_
  conv => whnf
  refine And.intro (fun _ => ?_) (fun h => absurd (rfl) (of_decide_eq_false h))
  conv => whnf
  refine ⟨_, _, Blk.ldN (hp.get (i := 10) rfl) TTok rfl (rfl), ?_⟩
  conv => whnf
  refine V.CallsUse (v1 _ _ (SA.of_row (hp.get (i := 11) rfl))) fun w hx => ?_
  try (have hp := hp.call hx)
  conv => whnf
  refine hKq _ _ _ (.refl _) ?_
  clear hKq Kq
  conv => whnf
  refine And.intro (fun _ => ?_) (fun h => absurd (rfl) (of_decide_eq_false h))
  conv => whnf
  refine ⟨_, _, Blk.ldN (hp.get (i := 10) rfl) TTok rfl (rfl), ?_⟩
  conv => whnf
  refine V.CallsUse (v2 _ _ (SA.of_row (hp.get (i := 11) rfl))) fun w hx => ?_
  try (have hp := hp.call hx)
  conv => whnf
  refine hKq _ _ _ (.refl _) ?_
  clear hKq Kq
  conv => whnf
  exact ⟨congrArg Value.bool (decide_eq_true rfl), hp.ext⟩
set_option maxHeartbeats 6400000
def rdmH (id s : ByteArray) : ByteArray := xorB (s.extract 4 s.size) (maskB id)
def rdmP (id s : ByteArray) : Nat := numB (xorB (s.extract 2 4) (maskB id))
theorem ext_self (s : ByteArray) (n : Nat) (h : s.size = n) : s.extract 0 n = s := by rw [← h]; exact ByteArray.extract_zero_size
theorem ReadMixed_id (id s : ByteArray) (h : id.size ≠ 12) : PureF Tryz.prog 33 #[.string id, .string s] (.tuple #[.agg #[.string ⟨#[]⟩, .int .i64 0], .int .i64 2]) := by
  first | refine v_pure TTok FFok Tryz.func33 rfl rfl fun w0 => ?_ | refine v_pure (args := []) TTok FFok Tryz.func33 rfl rfl fun w0 => ?_
  conv => whnf
  refine VSeq.mk fun Kq hKq => ?_
  conv => whnf
  have hp := Hp.nil w0
  (refine hp.kalloc z63 fun al63 w hp hx => ?_; conv => whnf)
  (refine hKq _ _ _ (.refl _) ?_; clear hKq Kq; conv => whnf)
  (refine VSeq.mk fun Kq hKq => ?_; conv => whnf)
  (refine VSeq.mk fun Kq hKq => ?_; conv => whnf)
  (refine hKq _ _ _ (.refl _) ?_; clear hKq Kq; conv => whnf)
  (refine And.intro (fun _ => ?_) (fun h => absurd (by first | rfl | assumption | omega | decide) (of_decide_eq_false h)); conv => whnf)
  (refine VSeq.mk fun Kq hKq => ?_; conv => whnf)
  (refine ⟨_, _, bld63_ _, ?_⟩; conv => whnf)
  (refine hp.kstA TTok rfl 0 rfl rfl (oneC_of rfl) (by rfl) fun w hp => ?_; try simp only [List.set_cons_zero, List.set_cons_succ, EV.val] at hp; conv => whnf)
  (refine hKq _ _ _ (.refl _) ?_; clear hKq Kq; conv => whnf)
  (refine ⟨_, Blk.lvN (hp.get (i := 0) rfl) TTok rfl rfl, ?_⟩; conv => whnf)
  (exact ⟨rfl, hp.ext⟩)
structure RdM (id s : ByteArray) : Prop where
  z1 : (s.extract 2 4).size = 2
  z2 : (s.extract 4 s.size).size ≤ 16
  hh : hostB (rdmH id s) = true
  zx : (xorB (s.extract 2 4) (maskB id)).size = 2
  pt : rdmP id s ≤ 65535
  zm : (maskB id).size = 16
theorem rdM {id s : ByteArray} (h : id.size = 12) (hs : s.size = 8 ∨ s.size = 20) : RdM id s := by
  have zm := maskB_size id h
  have z1 := size_extract s 2 4 (by omega)
  have z2 := size_extract s 4 s.size (Nat.le_refl _)
  have zx := xorB_size (s.extract 2 4) (maskB id) (by omega)
  have zh := xorB_size (s.extract 4 s.size) (maskB id) (by omega)
  refine ⟨z1, by omega, hostB_of (by unfold rdmH; omega), by omega, ?_, zm⟩
  have : rdmP id s < 2 ^ (8 * 2) := numL_lt 2 _ (by rw [bA_len, zx, z1])
  omega
theorem ReadMixed_rd (id s : ByteArray) (h : id.size = 12) (hs : s.size = 8 ∨ s.size = 20) :
    (mixB id (rdmH id s) (rdmP id s) = s → PureF Tryz.prog 33 #[.string id, .string s] (.tuple #[.agg #[.string (rdmH id s), .int .i64 (rdmP id s)], .int .i64 0])) ∧
    (mixB id (rdmH id s) (rdmP id s) ≠ s → PureF Tryz.prog 33 #[.string id, .string s] (.tuple #[.agg #[.string ⟨#[]⟩, .int .i64 0], .int .i64 5])) := by
  obtain ⟨z1, z2, hh, zx, pt, zm⟩ := rdM h hs
  have hm := mask_p id (by omega)
  have hc1 := changed_p (s.extract 2 4) (maskB id) (by omega) (by omega)
  have hc2 := changed_p (s.extract 4 s.size) (maskB id) (by omega) (by omega)
  have hu : PureF Tryz.prog 69 #[.agg #[.string (xorB (s.extract 2 4) (maskB id)), .int .i64 0], .int .i64 2] (.tuple #[.int .i64 (rdmP id s), .agg #[.string (xorB (s.extract 2 4) (maskB id)), .int .i64 2], .int .i64 0]) := by
    have := Uint_ok (xorB (s.extract 2 4) (maskB id)) 0 2 (by decide) (by decide) (by omega) (by omega)
    rw [ext_self _ 2 zx] at this
    exact this
  have hmx := Mixed_ok id (rdmH id s) (rdmP id s) h hh pt
  have hH : xorB (s.extract 4 s.size) (maskB id) = rdmH id s := rfl
  rw [hH] at hc2
  clear hH
  generalize rdmH id s = H at *
  generalize rdmP id s = P at *
  generalize xorB (s.extract 2 4) (maskB id) = X at *
  generalize maskB id = M at *
  constructor
  · intro hE
    first | refine v_pure TTok FFok Tryz.func33 rfl rfl fun w0 => ?_ | refine v_pure (args := []) TTok FFok Tryz.func33 rfl rfl fun w0 => ?_
    conv => whnf
    refine VSeq.mk fun Kq hKq => ?_
    conv => whnf
    have hp := Hp.nil w0
    rcases hs with h8 | h8
    · (refine hp.kalloc z63 fun al63 w hp hx => ?_; conv => whnf)
      (refine hKq _ _ _ (.refl _) ?_; clear hKq Kq; conv => whnf)
      (refine VSeq.mk fun Kq hKq => ?_; conv => whnf)
      (refine VSeq.mk fun Kq hKq => ?_; conv => whnf)
      (refine hKq _ _ _ (.refl _) ?_; clear hKq Kq; conv => whnf)
      (refine And.intro (fun h => absurd (of_decide_eq_true h) (by first | (intro h2; exact absurd rfl h2) | omega | decide)) (fun _ => ?_); conv => whnf)
      (refine hKq _ _ _ (.refl _) ?_; clear hKq Kq; conv => whnf)
      (refine VSeq.mk fun Kq hKq => ?_; conv => whnf)
      (refine VSeq.mk fun Kq hKq => ?_; conv => whnf)
      (refine VSeq.mk fun Kq hKq => ?_; conv => whnf)
      (refine hKq _ _ _ (.refl _) ?_; clear hKq Kq; conv => whnf)
      (refine And.intro (fun h => absurd (of_decide_eq_true h) (by first | (intro h2; exact absurd rfl h2) | omega | decide)) (fun _ => ?_); conv => whnf)
      (refine hKq _ _ _ (.refl _) ?_; clear hKq Kq; conv => whnf)
      (refine hKq _ _ _ (.refl _) ?_; clear hKq Kq; conv => whnf)
      (refine VSeq.mk fun Kq hKq => ?_; conv => whnf)
      have hpO := hp
      clear hp
      repeat clear hp
      have hp := Hp.nil w
      refine v_mtB TTok FFok mixed [] (.q 0 (.q 1 (.q 2 (.q 3 (.q 4 (.q 5 (.q 6 (.q 7 (.q 8 (.q 9 (.q 10 (.m 11 (.q 12 (.m 13 (.q 14 .nil))))))))))))))) (by kernel_rfl) ?_
      conv => whnf
      refine ⟨2, 4, ⟨by first | rfl | omega, by first | rfl | omega, by omega, by omega⟩, ?_⟩
      conv => whnf
      (refine V.QCallW.out ?_; (conv => arg 3; dsimp only [EV.val, List.toList_toArray, List.nil_append, List.append_nil, List.cons_append]); (with_reducible refine V.PureF.quietW (hm) ?_); conv => whnf)
      (refine V.QCallW.out ?_; (conv => arg 3; dsimp only [EV.val, List.toList_toArray, List.nil_append, List.append_nil, List.cons_append]); (with_reducible refine V.PureF.quietW (hc1) ?_); conv => whnf)
      (refine ⟨_, fun w' hx' => bld126_0 w' _, ?_⟩; conv => whnf)
      (refine V.QCallW.out ?_; (conv => arg 3; dsimp only [EV.val, List.toList_toArray, List.nil_append, List.append_nil, List.cons_append]); refine V.PureF.quietW (hu) ?_; conv => whnf)
      (intro w hx; try (have hp := hp.call hx); conv => whnf)
      (refine hp.kalloc z126 fun al126 w hp hx => ?_; conv => whnf)
      ((with_reducible show (Ext _ _ → Ext _ _) ∧ _); refine And.intro (fun _ => hp.ext) ?_; conv => whnf)
      (intro w hx; try (have hp := hp.call hx); conv => whnf)
      (refine hp.kstA TTok rfl 0 rfl rfl (oneC_of rfl) (by rfl) fun w hp => ?_; try simp only [List.set_cons_zero, List.set_cons_succ, EV.val] at hp; conv => whnf)
      ((with_reducible show (Ext _ _ → Ext _ _) ∧ _); refine And.intro (fun _ => hp.ext) ?_; conv => whnf)
      (intro w hx; try (have hp := hp.call hx); conv => whnf)
      (refine hKq _ _ _ (.refl _) ?_; clear hKq Kq; conv => whnf)
      (refine VSeq.mk fun Kq hKq => ?_; conv => whnf)
      have hp := hpO.join hp
      simp only [List.cons_append, List.nil_append] at hp
      clear hpO
      refine v_mix TTok FFok mixed 8 [(0, false), (1, false), (2, false), (3, false), (4, false), (5, false), (6, false), (7, true)] (by kernel_rfl) ?_
      conv => whnf
      refine ⟨4, ⟨by first | rfl | omega, by omega⟩, ?_⟩
      conv => whnf
      (refine V.QCallW.out ?_; (conv => arg 3; dsimp only [EV.val, List.toList_toArray, List.nil_append, List.append_nil, List.cons_append]); (with_reducible refine V.PureF.quietW (hm) ?_); conv => whnf)
      (refine V.QCallW.out ?_; (conv => arg 3; dsimp only [EV.val, List.toList_toArray, List.nil_append, List.append_nil, List.cons_append]); (with_reducible refine V.PureF.quietW (hc2) ?_); conv => whnf)
      (refine ⟨_, fun w' hx' => bld63_0_1 w' _ _, ?_⟩; conv => whnf)
      (intro w hx; try (have hp := hp.call hx); conv => whnf)
      (refine hp.kalloc z63 fun al63 w hp hx => ?_; conv => whnf)
      (with_reducible refine And.intro hx ?_; conv => whnf)
      (intro w hx; try (have hp := hp.call hx); conv => whnf)
      (refine hp.kstA TTok rfl 0 rfl rfl (oneC_of rfl) (by rfl) fun w hp => ?_; try simp only [List.set_cons_zero, List.set_cons_succ, EV.val] at hp; conv => whnf)
      (refine hKq _ _ _ (.refl _) ?_; clear hKq Kq; conv => whnf)
      (refine VSeq.mk fun Kq hKq => ?_; conv => whnf)
      (refine VSeq.mk fun Kq hKq => ?_; conv => whnf)
      (refine ⟨_, _, Blk.ldV (vs := [_, _]) (hp.get (i := 0) rfl) TTok rfl rfl rfl, ?_⟩; conv => whnf)
      (refine V.CallW.out ?_; (conv => arg 3; dsimp only [EV.val, List.toList_toArray, List.nil_append, List.append_nil, List.cons_append]); (with_reducible refine V.PureF.useW (hmx) fun w hx => ?_); try (have hp := hp.call hx); conv => whnf)
      (refine hKq _ _ _ (.refl _) ?_; clear hKq Kq; conv => whnf)
      (refine VSeq.mk fun Kq hKq => ?_; conv => whnf)
      (refine VSeq.mk fun Kq hKq => ?_; conv => whnf)
      (refine hKq _ _ _ (.refl _) ?_; clear hKq Kq; conv => whnf)
      (refine And.intro (fun h => absurd (of_decide_eq_true h) (by first | (intro h2; exact absurd rfl h2) | omega | decide)) (fun _ => ?_); conv => whnf)
      (refine hKq _ _ _ (.refl _) ?_; clear hKq Kq; conv => whnf)
      conv => whnf
      skip
      refine ⟨fun hq => ?_, fun hq => ?_⟩
      · have hq := of_decide_eq_true hq
        conv => whnf
        refine VSeq.mk fun Kq hKq => ?_
        conv => whnf
        exact absurd hE hq
      · (refine hKq _ _ _ (.refl _) ?_; clear hKq Kq; conv => whnf)
        (refine VSeq.mk fun Kq hKq => ?_; conv => whnf)
        (refine ⟨_, _, Blk.ldV (vs := [_, _]) (hp.get (i := 0) rfl) TTok rfl rfl rfl, ?_⟩; conv => whnf)
        (refine hp.kstA TTok rfl 2 rfl rfl (oneC_of rfl) (by rfl) fun w hp => ?_; try simp only [List.set_cons_zero, List.set_cons_succ, EV.val] at hp; conv => whnf)
        (refine hKq _ _ _ (.refl _) ?_; clear hKq Kq; conv => whnf)
        (refine ⟨_, Blk.lvN (hp.get (i := 2) rfl) TTok rfl rfl, ?_⟩; conv => whnf)
        (exact ⟨rfl, hp.ext⟩)
    · (refine hp.kalloc z63 fun al63 w hp hx => ?_; conv => whnf)
      (refine hKq _ _ _ (.refl _) ?_; clear hKq Kq; conv => whnf)
      (refine VSeq.mk fun Kq hKq => ?_; conv => whnf)
      (refine VSeq.mk fun Kq hKq => ?_; conv => whnf)
      (refine hKq _ _ _ (.refl _) ?_; clear hKq Kq; conv => whnf)
      (refine And.intro (fun h => absurd (of_decide_eq_true h) (by first | (intro h2; exact absurd rfl h2) | omega | decide)) (fun _ => ?_); conv => whnf)
      (refine hKq _ _ _ (.refl _) ?_; clear hKq Kq; conv => whnf)
      (refine VSeq.mk fun Kq hKq => ?_; conv => whnf)
      (refine VSeq.mk fun Kq hKq => ?_; conv => whnf)
      (refine VSeq.mk fun Kq hKq => ?_; conv => whnf)
      (refine hKq _ _ _ (.refl _) ?_; clear hKq Kq; conv => whnf)
      (refine And.intro (fun _ => ?_) (fun h => absurd (by first | rfl | assumption | omega | decide) (of_decide_eq_false h)); conv => whnf)
      (refine hKq _ _ _ (.refl _) ?_; clear hKq Kq; conv => whnf)
      (refine And.intro (fun h => absurd (of_decide_eq_true h) (by first | (intro h2; exact absurd rfl h2) | omega | decide)) (fun _ => ?_); conv => whnf)
      (refine hKq _ _ _ (.refl _) ?_; clear hKq Kq; conv => whnf)
      (refine VSeq.mk fun Kq hKq => ?_; conv => whnf)
      have hpO := hp
      clear hp
      repeat clear hp
      have hp := Hp.nil w
      refine v_mtB TTok FFok mixed [] (.q 0 (.q 1 (.q 2 (.q 3 (.q 4 (.q 5 (.q 6 (.q 7 (.q 8 (.q 9 (.q 10 (.m 11 (.q 12 (.m 13 (.q 14 .nil))))))))))))))) (by kernel_rfl) ?_
      conv => whnf
      refine ⟨2, 4, ⟨by first | rfl | omega, by first | rfl | omega, by omega, by omega⟩, ?_⟩
      conv => whnf
      (refine V.QCallW.out ?_; (conv => arg 3; dsimp only [EV.val, List.toList_toArray, List.nil_append, List.append_nil, List.cons_append]); (with_reducible refine V.PureF.quietW (hm) ?_); conv => whnf)
      (refine V.QCallW.out ?_; (conv => arg 3; dsimp only [EV.val, List.toList_toArray, List.nil_append, List.append_nil, List.cons_append]); (with_reducible refine V.PureF.quietW (hc1) ?_); conv => whnf)
      (refine ⟨_, fun w' hx' => bld126_0 w' _, ?_⟩; conv => whnf)
      (refine V.QCallW.out ?_; (conv => arg 3; dsimp only [EV.val, List.toList_toArray, List.nil_append, List.append_nil, List.cons_append]); refine V.PureF.quietW (hu) ?_; conv => whnf)
      (intro w hx; try (have hp := hp.call hx); conv => whnf)
      (refine hp.kalloc z126 fun al126 w hp hx => ?_; conv => whnf)
      ((with_reducible show (Ext _ _ → Ext _ _) ∧ _); refine And.intro (fun _ => hp.ext) ?_; conv => whnf)
      (intro w hx; try (have hp := hp.call hx); conv => whnf)
      (refine hp.kstA TTok rfl 0 rfl rfl (oneC_of rfl) (by rfl) fun w hp => ?_; try simp only [List.set_cons_zero, List.set_cons_succ, EV.val] at hp; conv => whnf)
      ((with_reducible show (Ext _ _ → Ext _ _) ∧ _); refine And.intro (fun _ => hp.ext) ?_; conv => whnf)
      (intro w hx; try (have hp := hp.call hx); conv => whnf)
      (refine hKq _ _ _ (.refl _) ?_; clear hKq Kq; conv => whnf)
      (refine VSeq.mk fun Kq hKq => ?_; conv => whnf)
      have hp := hpO.join hp
      simp only [List.cons_append, List.nil_append] at hp
      clear hpO
      refine v_mix TTok FFok mixed 8 [(0, false), (1, false), (2, false), (3, false), (4, false), (5, false), (6, false), (7, true)] (by kernel_rfl) ?_
      conv => whnf
      refine ⟨4, ⟨by first | rfl | omega, by omega⟩, ?_⟩
      conv => whnf
      (refine V.QCallW.out ?_; (conv => arg 3; dsimp only [EV.val, List.toList_toArray, List.nil_append, List.append_nil, List.cons_append]); (with_reducible refine V.PureF.quietW (hm) ?_); conv => whnf)
      (refine V.QCallW.out ?_; (conv => arg 3; dsimp only [EV.val, List.toList_toArray, List.nil_append, List.append_nil, List.cons_append]); (with_reducible refine V.PureF.quietW (hc2) ?_); conv => whnf)
      (refine ⟨_, fun w' hx' => bld63_0_1 w' _ _, ?_⟩; conv => whnf)
      (intro w hx; try (have hp := hp.call hx); conv => whnf)
      (refine hp.kalloc z63 fun al63 w hp hx => ?_; conv => whnf)
      (with_reducible refine And.intro hx ?_; conv => whnf)
      (intro w hx; try (have hp := hp.call hx); conv => whnf)
      (refine hp.kstA TTok rfl 0 rfl rfl (oneC_of rfl) (by rfl) fun w hp => ?_; try simp only [List.set_cons_zero, List.set_cons_succ, EV.val] at hp; conv => whnf)
      (refine hKq _ _ _ (.refl _) ?_; clear hKq Kq; conv => whnf)
      (refine VSeq.mk fun Kq hKq => ?_; conv => whnf)
      (refine VSeq.mk fun Kq hKq => ?_; conv => whnf)
      (refine ⟨_, _, Blk.ldV (vs := [_, _]) (hp.get (i := 0) rfl) TTok rfl rfl rfl, ?_⟩; conv => whnf)
      (refine V.CallW.out ?_; (conv => arg 3; dsimp only [EV.val, List.toList_toArray, List.nil_append, List.append_nil, List.cons_append]); (with_reducible refine V.PureF.useW (hmx) fun w hx => ?_); try (have hp := hp.call hx); conv => whnf)
      (refine hKq _ _ _ (.refl _) ?_; clear hKq Kq; conv => whnf)
      (refine VSeq.mk fun Kq hKq => ?_; conv => whnf)
      (refine VSeq.mk fun Kq hKq => ?_; conv => whnf)
      (refine hKq _ _ _ (.refl _) ?_; clear hKq Kq; conv => whnf)
      (refine And.intro (fun h => absurd (of_decide_eq_true h) (by first | (intro h2; exact absurd rfl h2) | omega | decide)) (fun _ => ?_); conv => whnf)
      (refine hKq _ _ _ (.refl _) ?_; clear hKq Kq; conv => whnf)
      conv => whnf
      skip
      refine ⟨fun hq => ?_, fun hq => ?_⟩
      · have hq := of_decide_eq_true hq
        conv => whnf
        refine VSeq.mk fun Kq hKq => ?_
        conv => whnf
        exact absurd hE hq
      · (refine hKq _ _ _ (.refl _) ?_; clear hKq Kq; conv => whnf)
        (refine VSeq.mk fun Kq hKq => ?_; conv => whnf)
        (refine ⟨_, _, Blk.ldV (vs := [_, _]) (hp.get (i := 0) rfl) TTok rfl rfl rfl, ?_⟩; conv => whnf)
        (refine hp.kstA TTok rfl 2 rfl rfl (oneC_of rfl) (by rfl) fun w hp => ?_; try simp only [List.set_cons_zero, List.set_cons_succ, EV.val] at hp; conv => whnf)
        (refine hKq _ _ _ (.refl _) ?_; clear hKq Kq; conv => whnf)
        (refine ⟨_, Blk.lvN (hp.get (i := 2) rfl) TTok rfl rfl, ?_⟩; conv => whnf)
        (exact ⟨rfl, hp.ext⟩)
  · intro hE
    first | refine v_pure TTok FFok Tryz.func33 rfl rfl fun w0 => ?_ | refine v_pure (args := []) TTok FFok Tryz.func33 rfl rfl fun w0 => ?_
    conv => whnf
    refine VSeq.mk fun Kq hKq => ?_
    conv => whnf
    have hp := Hp.nil w0
    rcases hs with h8 | h8
    · (refine hp.kalloc z63 fun al63 w hp hx => ?_; conv => whnf)
      (refine hKq _ _ _ (.refl _) ?_; clear hKq Kq; conv => whnf)
      (refine VSeq.mk fun Kq hKq => ?_; conv => whnf)
      (refine VSeq.mk fun Kq hKq => ?_; conv => whnf)
      (refine hKq _ _ _ (.refl _) ?_; clear hKq Kq; conv => whnf)
      (refine And.intro (fun h => absurd (of_decide_eq_true h) (by first | (intro h2; exact absurd rfl h2) | omega | decide)) (fun _ => ?_); conv => whnf)
      (refine hKq _ _ _ (.refl _) ?_; clear hKq Kq; conv => whnf)
      (refine VSeq.mk fun Kq hKq => ?_; conv => whnf)
      (refine VSeq.mk fun Kq hKq => ?_; conv => whnf)
      (refine VSeq.mk fun Kq hKq => ?_; conv => whnf)
      (refine hKq _ _ _ (.refl _) ?_; clear hKq Kq; conv => whnf)
      (refine And.intro (fun h => absurd (of_decide_eq_true h) (by first | (intro h2; exact absurd rfl h2) | omega | decide)) (fun _ => ?_); conv => whnf)
      (refine hKq _ _ _ (.refl _) ?_; clear hKq Kq; conv => whnf)
      (refine hKq _ _ _ (.refl _) ?_; clear hKq Kq; conv => whnf)
      (refine VSeq.mk fun Kq hKq => ?_; conv => whnf)
      have hpO := hp
      clear hp
      repeat clear hp
      have hp := Hp.nil w
      refine v_mtB TTok FFok mixed [] (.q 0 (.q 1 (.q 2 (.q 3 (.q 4 (.q 5 (.q 6 (.q 7 (.q 8 (.q 9 (.q 10 (.m 11 (.q 12 (.m 13 (.q 14 .nil))))))))))))))) (by kernel_rfl) ?_
      conv => whnf
      refine ⟨2, 4, ⟨by first | rfl | omega, by first | rfl | omega, by omega, by omega⟩, ?_⟩
      conv => whnf
      (refine V.QCallW.out ?_; (conv => arg 3; dsimp only [EV.val, List.toList_toArray, List.nil_append, List.append_nil, List.cons_append]); (with_reducible refine V.PureF.quietW (hm) ?_); conv => whnf)
      (refine V.QCallW.out ?_; (conv => arg 3; dsimp only [EV.val, List.toList_toArray, List.nil_append, List.append_nil, List.cons_append]); (with_reducible refine V.PureF.quietW (hc1) ?_); conv => whnf)
      (refine ⟨_, fun w' hx' => bld126_0 w' _, ?_⟩; conv => whnf)
      (refine V.QCallW.out ?_; (conv => arg 3; dsimp only [EV.val, List.toList_toArray, List.nil_append, List.append_nil, List.cons_append]); refine V.PureF.quietW (hu) ?_; conv => whnf)
      (intro w hx; try (have hp := hp.call hx); conv => whnf)
      (refine hp.kalloc z126 fun al126 w hp hx => ?_; conv => whnf)
      ((with_reducible show (Ext _ _ → Ext _ _) ∧ _); refine And.intro (fun _ => hp.ext) ?_; conv => whnf)
      (intro w hx; try (have hp := hp.call hx); conv => whnf)
      (refine hp.kstA TTok rfl 0 rfl rfl (oneC_of rfl) (by rfl) fun w hp => ?_; try simp only [List.set_cons_zero, List.set_cons_succ, EV.val] at hp; conv => whnf)
      ((with_reducible show (Ext _ _ → Ext _ _) ∧ _); refine And.intro (fun _ => hp.ext) ?_; conv => whnf)
      (intro w hx; try (have hp := hp.call hx); conv => whnf)
      (refine hKq _ _ _ (.refl _) ?_; clear hKq Kq; conv => whnf)
      (refine VSeq.mk fun Kq hKq => ?_; conv => whnf)
      have hp := hpO.join hp
      simp only [List.cons_append, List.nil_append] at hp
      clear hpO
      refine v_mix TTok FFok mixed 8 [(0, false), (1, false), (2, false), (3, false), (4, false), (5, false), (6, false), (7, true)] (by kernel_rfl) ?_
      conv => whnf
      refine ⟨4, ⟨by first | rfl | omega, by omega⟩, ?_⟩
      conv => whnf
      (refine V.QCallW.out ?_; (conv => arg 3; dsimp only [EV.val, List.toList_toArray, List.nil_append, List.append_nil, List.cons_append]); (with_reducible refine V.PureF.quietW (hm) ?_); conv => whnf)
      (refine V.QCallW.out ?_; (conv => arg 3; dsimp only [EV.val, List.toList_toArray, List.nil_append, List.append_nil, List.cons_append]); (with_reducible refine V.PureF.quietW (hc2) ?_); conv => whnf)
      (refine ⟨_, fun w' hx' => bld63_0_1 w' _ _, ?_⟩; conv => whnf)
      (intro w hx; try (have hp := hp.call hx); conv => whnf)
      (refine hp.kalloc z63 fun al63 w hp hx => ?_; conv => whnf)
      (with_reducible refine And.intro hx ?_; conv => whnf)
      (intro w hx; try (have hp := hp.call hx); conv => whnf)
      (refine hp.kstA TTok rfl 0 rfl rfl (oneC_of rfl) (by rfl) fun w hp => ?_; try simp only [List.set_cons_zero, List.set_cons_succ, EV.val] at hp; conv => whnf)
      (refine hKq _ _ _ (.refl _) ?_; clear hKq Kq; conv => whnf)
      (refine VSeq.mk fun Kq hKq => ?_; conv => whnf)
      (refine VSeq.mk fun Kq hKq => ?_; conv => whnf)
      (refine ⟨_, _, Blk.ldV (vs := [_, _]) (hp.get (i := 0) rfl) TTok rfl rfl rfl, ?_⟩; conv => whnf)
      (refine V.CallW.out ?_; (conv => arg 3; dsimp only [EV.val, List.toList_toArray, List.nil_append, List.append_nil, List.cons_append]); (with_reducible refine V.PureF.useW (hmx) fun w hx => ?_); try (have hp := hp.call hx); conv => whnf)
      (refine hKq _ _ _ (.refl _) ?_; clear hKq Kq; conv => whnf)
      (refine VSeq.mk fun Kq hKq => ?_; conv => whnf)
      (refine VSeq.mk fun Kq hKq => ?_; conv => whnf)
      (refine hKq _ _ _ (.refl _) ?_; clear hKq Kq; conv => whnf)
      (refine And.intro (fun h => absurd (of_decide_eq_true h) (by first | (intro h2; exact absurd rfl h2) | omega | decide)) (fun _ => ?_); conv => whnf)
      (refine hKq _ _ _ (.refl _) ?_; clear hKq Kq; conv => whnf)
      (refine And.intro (fun _ => ?_) (fun h => absurd (by first | rfl | assumption | omega | decide) (of_decide_eq_false h)); conv => whnf)
      (refine VSeq.mk fun Kq hKq => ?_; conv => whnf)
      (refine ⟨_, _, bld63_ _, ?_⟩; conv => whnf)
      (refine hp.kstA TTok rfl 2 rfl rfl (oneC_of rfl) (by rfl) fun w hp => ?_; try simp only [List.set_cons_zero, List.set_cons_succ, EV.val] at hp; conv => whnf)
      (refine hKq _ _ _ (.refl _) ?_; clear hKq Kq; conv => whnf)
      (refine ⟨_, Blk.lvN (hp.get (i := 2) rfl) TTok rfl rfl, ?_⟩; conv => whnf)
      conv => whnf
      skip
      (exact ⟨rfl, hp.ext⟩)
    · (refine hp.kalloc z63 fun al63 w hp hx => ?_; conv => whnf)
      (refine hKq _ _ _ (.refl _) ?_; clear hKq Kq; conv => whnf)
      (refine VSeq.mk fun Kq hKq => ?_; conv => whnf)
      (refine VSeq.mk fun Kq hKq => ?_; conv => whnf)
      (refine hKq _ _ _ (.refl _) ?_; clear hKq Kq; conv => whnf)
      (refine And.intro (fun h => absurd (of_decide_eq_true h) (by first | (intro h2; exact absurd rfl h2) | omega | decide)) (fun _ => ?_); conv => whnf)
      (refine hKq _ _ _ (.refl _) ?_; clear hKq Kq; conv => whnf)
      (refine VSeq.mk fun Kq hKq => ?_; conv => whnf)
      (refine VSeq.mk fun Kq hKq => ?_; conv => whnf)
      (refine VSeq.mk fun Kq hKq => ?_; conv => whnf)
      (refine hKq _ _ _ (.refl _) ?_; clear hKq Kq; conv => whnf)
      (refine And.intro (fun _ => ?_) (fun h => absurd (by first | rfl | assumption | omega | decide) (of_decide_eq_false h)); conv => whnf)
      (refine hKq _ _ _ (.refl _) ?_; clear hKq Kq; conv => whnf)
      (refine And.intro (fun h => absurd (of_decide_eq_true h) (by first | (intro h2; exact absurd rfl h2) | omega | decide)) (fun _ => ?_); conv => whnf)
      (refine hKq _ _ _ (.refl _) ?_; clear hKq Kq; conv => whnf)
      (refine VSeq.mk fun Kq hKq => ?_; conv => whnf)
      have hpO := hp
      clear hp
      repeat clear hp
      have hp := Hp.nil w
      refine v_mtB TTok FFok mixed [] (.q 0 (.q 1 (.q 2 (.q 3 (.q 4 (.q 5 (.q 6 (.q 7 (.q 8 (.q 9 (.q 10 (.m 11 (.q 12 (.m 13 (.q 14 .nil))))))))))))))) (by kernel_rfl) ?_
      conv => whnf
      refine ⟨2, 4, ⟨by first | rfl | omega, by first | rfl | omega, by omega, by omega⟩, ?_⟩
      conv => whnf
      (refine V.QCallW.out ?_; (conv => arg 3; dsimp only [EV.val, List.toList_toArray, List.nil_append, List.append_nil, List.cons_append]); (with_reducible refine V.PureF.quietW (hm) ?_); conv => whnf)
      (refine V.QCallW.out ?_; (conv => arg 3; dsimp only [EV.val, List.toList_toArray, List.nil_append, List.append_nil, List.cons_append]); (with_reducible refine V.PureF.quietW (hc1) ?_); conv => whnf)
      (refine ⟨_, fun w' hx' => bld126_0 w' _, ?_⟩; conv => whnf)
      (refine V.QCallW.out ?_; (conv => arg 3; dsimp only [EV.val, List.toList_toArray, List.nil_append, List.append_nil, List.cons_append]); refine V.PureF.quietW (hu) ?_; conv => whnf)
      (intro w hx; try (have hp := hp.call hx); conv => whnf)
      (refine hp.kalloc z126 fun al126 w hp hx => ?_; conv => whnf)
      ((with_reducible show (Ext _ _ → Ext _ _) ∧ _); refine And.intro (fun _ => hp.ext) ?_; conv => whnf)
      (intro w hx; try (have hp := hp.call hx); conv => whnf)
      (refine hp.kstA TTok rfl 0 rfl rfl (oneC_of rfl) (by rfl) fun w hp => ?_; try simp only [List.set_cons_zero, List.set_cons_succ, EV.val] at hp; conv => whnf)
      ((with_reducible show (Ext _ _ → Ext _ _) ∧ _); refine And.intro (fun _ => hp.ext) ?_; conv => whnf)
      (intro w hx; try (have hp := hp.call hx); conv => whnf)
      (refine hKq _ _ _ (.refl _) ?_; clear hKq Kq; conv => whnf)
      (refine VSeq.mk fun Kq hKq => ?_; conv => whnf)
      have hp := hpO.join hp
      simp only [List.cons_append, List.nil_append] at hp
      clear hpO
      refine v_mix TTok FFok mixed 8 [(0, false), (1, false), (2, false), (3, false), (4, false), (5, false), (6, false), (7, true)] (by kernel_rfl) ?_
      conv => whnf
      refine ⟨4, ⟨by first | rfl | omega, by omega⟩, ?_⟩
      conv => whnf
      (refine V.QCallW.out ?_; (conv => arg 3; dsimp only [EV.val, List.toList_toArray, List.nil_append, List.append_nil, List.cons_append]); (with_reducible refine V.PureF.quietW (hm) ?_); conv => whnf)
      (refine V.QCallW.out ?_; (conv => arg 3; dsimp only [EV.val, List.toList_toArray, List.nil_append, List.append_nil, List.cons_append]); (with_reducible refine V.PureF.quietW (hc2) ?_); conv => whnf)
      (refine ⟨_, fun w' hx' => bld63_0_1 w' _ _, ?_⟩; conv => whnf)
      (intro w hx; try (have hp := hp.call hx); conv => whnf)
      (refine hp.kalloc z63 fun al63 w hp hx => ?_; conv => whnf)
      (with_reducible refine And.intro hx ?_; conv => whnf)
      (intro w hx; try (have hp := hp.call hx); conv => whnf)
      (refine hp.kstA TTok rfl 0 rfl rfl (oneC_of rfl) (by rfl) fun w hp => ?_; try simp only [List.set_cons_zero, List.set_cons_succ, EV.val] at hp; conv => whnf)
      (refine hKq _ _ _ (.refl _) ?_; clear hKq Kq; conv => whnf)
      (refine VSeq.mk fun Kq hKq => ?_; conv => whnf)
      (refine VSeq.mk fun Kq hKq => ?_; conv => whnf)
      (refine ⟨_, _, Blk.ldV (vs := [_, _]) (hp.get (i := 0) rfl) TTok rfl rfl rfl, ?_⟩; conv => whnf)
      (refine V.CallW.out ?_; (conv => arg 3; dsimp only [EV.val, List.toList_toArray, List.nil_append, List.append_nil, List.cons_append]); (with_reducible refine V.PureF.useW (hmx) fun w hx => ?_); try (have hp := hp.call hx); conv => whnf)
      (refine hKq _ _ _ (.refl _) ?_; clear hKq Kq; conv => whnf)
      (refine VSeq.mk fun Kq hKq => ?_; conv => whnf)
      (refine VSeq.mk fun Kq hKq => ?_; conv => whnf)
      (refine hKq _ _ _ (.refl _) ?_; clear hKq Kq; conv => whnf)
      (refine And.intro (fun h => absurd (of_decide_eq_true h) (by first | (intro h2; exact absurd rfl h2) | omega | decide)) (fun _ => ?_); conv => whnf)
      (refine hKq _ _ _ (.refl _) ?_; clear hKq Kq; conv => whnf)
      (refine And.intro (fun _ => ?_) (fun h => absurd (by first | rfl | assumption | omega | decide) (of_decide_eq_false h)); conv => whnf)
      (refine VSeq.mk fun Kq hKq => ?_; conv => whnf)
      (refine ⟨_, _, bld63_ _, ?_⟩; conv => whnf)
      (refine hp.kstA TTok rfl 2 rfl rfl (oneC_of rfl) (by rfl) fun w hp => ?_; try simp only [List.set_cons_zero, List.set_cons_succ, EV.val] at hp; conv => whnf)
      (refine hKq _ _ _ (.refl _) ?_; clear hKq Kq; conv => whnf)
      (refine ⟨_, Blk.lvN (hp.get (i := 2) rfl) TTok rfl rfl, ?_⟩; conv => whnf)
      conv => whnf
      skip
      (exact ⟨rfl, hp.ext⟩)
end Go.Proofs.YtmlmfmdmomegpaaGreatDoor
