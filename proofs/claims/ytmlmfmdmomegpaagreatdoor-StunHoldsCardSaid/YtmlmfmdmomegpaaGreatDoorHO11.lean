/- Chapter 08: the examples hold. -/
/- Chapter 08: mixed values are read. -/
/- Chapter 08: mixed values are read by the reference. -/
/- Chapter 08: drafted addresses. -/
/- Chapter 08: plain laws of mixed values and of values of errors. -/
/- Chapter 08: StunMixes. -/
/- Chapter 08: StunValues. -/
/- Chapter 08: StunBack. -/
/- Chapter 08: StunHolds. -/
/- StunHolds returns true for every input, where the two tables of unicode/utf8 that its card ties read as they are laid. -/
import Derived.Test.YtmlmfmdmomegpaaGreatDoorHO10
import Derived.Test.YtmlmfmdmomegpaaGreatDoorHO08
import Derived.Test.YtmlmfmdmomegpaaGreatDoorHO06
import Derived.Test.YtmlmfmdmomegpaaGreatDoorHO05
import Derived.Test.YtmlmfmdmomegpaaGreatDoorHO09
import Derived.Test.YtmlmfmdmomegpaaGreatDoorCards
import Derived.Test.YtmlmfmdmomegpaaGreatDoorTie
import Derived.SevenTiedAt
import Derived.Stop.Joined
import Derived.LaidMore
import Derived.Lay
import Derived.MakeChecks
import Derived.Test.YtmlmfmdmomegpaaGreatDoorRows
import Derived.WalkKit
import Derived.ProofKit
import Derived.OpenShut
import Derived.SizedLaws
import Derived.ShutString
import Derived.ChangeOld
import Derived.Below
import Derived.Test.YtmlmfmdmomegpaaGreatDoorHO04
namespace Go.Proofs.YtmlmfmdmomegpaaGreatDoor
set_option linter.unusedSimpArgs false
set_option linter.unusedVariables false
set_option maxRecDepth 100000
open Go.RowKit V
set_option maxHeartbeats 12800000
theorem works_p : PureF Tryz.prog 12 #[] (.bool true) := by
  have c1 := fun (w : World) => Encode_ok (W := w) 0 1 idC SA.nil8 k_s0
  have z0 := k_z0
  have x0 := k_x0
  have d0 := k_d0
  have d1 := k_d1
  have d2 := k_d2
  generalize wrB 0 1 idC [] 0 = S at *
  have z19 := size_extract S 0 19 (by omega)
  have z3 := size_extract S 0 3 (by omega)
  have z4 := size_extract S 4 S.size (by omega)
  have d2 : decC (S.extract 0 3 ++ ⟨#[4]⟩ ++ S.extract 4 S.size) = 7 := by rw [z0]; exact d2
  have e1 := fun (w : World) => Decode_no (W := w) (S.extract 0 19) (by unfold maxLen; omega) (by rw [d0]; decide)
  have e2 := fun (w : World) => Decode_no (W := w) (S ++ (⟨#[120]⟩ : ByteArray)) (by rw [ByteArray.size_append, z0]; decide) (by rw [d1]; decide)
  have e3 := fun (w : World) => Decode_no (W := w) (S.extract 0 3 ++ ⟨#[4]⟩ ++ S.extract 4 S.size) (by rw [ByteArray.size_append, ByteArray.size_append, z3, z4, z0]; decide) (by rw [d2]; decide)
  rw [d0] at e1
  rw [d1] at e2
  rw [d2] at e3
  have pr := fun (w : World) => Protect_ok (W := w) 0 1 idC (⟨#[107]⟩ : ByteArray) SA.nil8 k_s0 (by decide) rfl rfl k_s3
  have v0 := fun (w : World) => Verify_c (W := w) 0 1 idC (⟨#[107]⟩ : ByteArray) SA.nil8
  rw [k_v0] at v0
  have v1 := fun (w : World) (v : Value) (hv : SA w v [(8, exM)]) => Verify_c 0 1 idC (⟨#[107]⟩ : ByteArray) hv
  have v2 := fun (w : World) (v : Value) (hv : SA w v [(8, exM)]) => Verify_c 0 1 idC (⟨#[108]⟩ : ByteArray) hv
  rw [k_v1] at v1
  rw [k_v2] at v2
  have hM : macB (⟨#[107]⟩ : ByteArray) (wrB 0 1 idC [] 36) = exM := rfl
  rw [hM] at pr
  clear hM
  generalize exM = M at *
  first | refine v_pure TTok FFok Tryz.func12 rfl rfl fun w0 => ?_ | refine v_pure (args := []) TTok FFok Tryz.func12 rfl rfl fun w0 => ?_
  conv => whnf
  refine VSeq.mk fun Kq hKq => ?_
  conv => whnf
  refine hKq _ _ _ (.refl _) ?_
  clear hKq Kq
  conv => whnf
  refine VSeq.mk fun Kq hKq => ?_
  conv => whnf
  have hp := Hp.nil w0
  refine PureF.use (chapter_p) fun w hx => ?_
  try (have hp := hp.call hx)
  conv => whnf
  (refine hp.kalloc z24 fun al24 w hp hx => ?_; conv => whnf)
  (refine hp.kstA TTok rfl 0 rfl rfl (oneC_of rfl) (by rfl) fun w hp => ?_; try simp only [List.set_cons_zero, List.set_cons_succ, EV.val] at hp; conv => whnf)
  (refine hKq _ _ _ (.refl _) ?_; clear hKq Kq; conv => whnf)
  (refine VSeq.mk fun Kq hKq => ?_; conv => whnf)
  (refine ⟨_, _, Blk.ldV (vs := [_, _, _, _]) (hp.get (i := 0) rfl) TTok rfl rfl rfl, ?_⟩; conv => whnf)
  (refine ⟨_, _, bld54_0_1 _ _ _, ?_⟩; conv => whnf)
  (refine hp.kmade _ _ (fun b => .slice (some ⟨b, 0, none⟩) 1 1) (mks22_1_0 _ _ _) fun q w hp hx => ?_; conv => whnf)
  obtain ⟨b1, rfl⟩ : ∃ q, q = al24 := ⟨al24, rfl⟩
  have hd : SA w (.slice (some ⟨q, 0, none⟩) 1 1) doneL := SA.of_blk (hp.get (i := 0) rfl) rfl (by unfold maxLen; decide)
  refine Calls.mono (with8_c 0 1 idC SA.nil8 hd (by decide) (by decide)) ?_
  rintro _ w ⟨_, rfl, dv, rfl, hr⟩
  refine ⟨_, rfl, ?_⟩
  have hp := hp.join hr
  clear hr hd
  simp only [List.cons_append, List.nil_append] at hp
  obtain ⟨pd, cd, rfl⟩ := row_shape (hp.get (i := 0) rfl)
  conv => whnf
  (refine hp.kalloc z24 fun al24 w hp hx => ?_; conv => whnf)
  (refine hp.kstA TTok rfl 0 rfl rfl (oneC_of rfl) (by rfl) fun w hp => ?_; try simp only [List.set_cons_zero, List.set_cons_succ, EV.val] at hp; conv => whnf)
  (refine hKq _ _ _ (.refl _) ?_; clear hKq Kq; conv => whnf)
  (refine VSeq.mk fun Kq hKq => ?_; conv => whnf)
  (refine hp.kst1 TTok (by rfl) 0 (by rfl) (by rfl) (by rfl) (Nat.le_of_ble_eq_true rfl) fun w hp => ?_; try simp only [List.set_cons_zero, List.set_cons_succ, EV.val] at hp; conv => whnf)
  (refine hKq _ _ _ (.refl _) ?_; clear hKq Kq; conv => whnf)
  (refine VSeq.mk fun Kq hKq => ?_; conv => whnf)
  (refine ⟨_, _, Blk.ldV (vs := [_, _, _, _]) (hp.get (i := 3) rfl) TTok rfl rfl rfl, ?_⟩; conv => whnf)
  obtain ⟨b2, rfl⟩ : ∃ q, q = al24 := ⟨al24, rfl⟩
  have hp : HpM [] w0 w [blk b2 [.int .i64 2, .int .i64 1, .string idC, .slice pd 1 cd] 24, row 54 2 (.slice pd 1 cd) 1 (flatC doneL), blk q [.int .i64 6, .string (⟨#[97, 98]⟩ : ByteArray)] 54, blk b1 [.int .i64 0, .int .i64 1, .string idC, .slice none 0 0] 24] := hp
  have hp := hp.pick [0, 1, 3] (by decide)
  simp only [List.filterMap_cons, List.filterMap_nil, List.getElem?_cons_zero, List.getElem?_cons_succ] at hp
  refine V.CallsUse (c1 _) fun w hx => ?_
  try (have hp := hp.call hx)
  conv => whnf
  refine hKq _ _ _ (.refl _) ?_
  clear hKq Kq
  conv => whnf
  refine VSeq.mk fun Kq hKq => ?_
  conv => whnf
  refine VSeq.mk fun Kq hKq => ?_
  conv => whnf
  refine VSeq.mk fun Kq hKq => ?_
  conv => whnf
  refine hKq _ _ _ (.refl _) ?_
  clear hKq Kq
  conv => whnf
  (refine And.intro (fun h => absurd (of_decide_eq_true h) (by first | (intro h2; exact absurd rfl h2) | omega | decide)) (fun _ => ?_); conv => whnf)
  (refine hKq _ _ _ (.refl _) ?_; clear hKq Kq; conv => whnf)
  (refine And.intro (fun h => absurd (of_decide_eq_true h) (by first | (intro h2; exact absurd rfl h2) | omega | decide)) (fun _ => ?_); conv => whnf)
  (refine hKq _ _ _ (.refl _) ?_; clear hKq Kq; conv => whnf)
  (refine VSeq.mk fun Kq hKq => ?_; conv => whnf)
  (refine ⟨_, _, Blk.ldV (vs := [_, _, _, _]) (hp.get (i := 2) rfl) TTok rfl rfl rfl, ?_⟩; conv => whnf)
  (refine ⟨_, _, bld54_0_1 _ _ _, ?_⟩; conv => whnf)
  (refine ⟨_, _, bld54_0 _ _, ?_⟩; conv => whnf)
  (refine ⟨_, _, bld54_0 _ _, ?_⟩; conv => whnf)
  (refine ⟨_, _, bld54_0 _ _, ?_⟩; conv => whnf)
  (refine ⟨_, _, bld54_0_1 _ _ _, ?_⟩; conv => whnf)
  (refine hp.kmade _ _ (fun b => .slice (some ⟨b, 0, none⟩) 5 5) (mks22_5_0_1_2_3_4 _ _ _ _ _ _ _ _ _ _ _) fun q w hp hx => ?_; conv => whnf)
  have hd : SA w (.slice (some ⟨q, 0, none⟩) 5 5) oddL := SA.of_blk (hp.get (i := 0) rfl) rfl (by unfold maxLen; decide)
  refine Calls.mono (with8_c 0 1 idC SA.nil8 hd (by decide) (by decide)) ?_
  rintro _ w ⟨_, rfl, dv, rfl, hr⟩
  refine ⟨_, rfl, ?_⟩
  have hp := hp.join hr
  clear hr hd
  simp only [List.cons_append, List.nil_append] at hp
  obtain ⟨po, co, rfl⟩ := row_shape (hp.get (i := 0) rfl)
  conv => whnf
  (refine hp.kalloc z24 fun al24 w hp hx => ?_; conv => whnf)
  (refine hp.kstA TTok rfl 0 rfl rfl (oneC_of rfl) (by rfl) fun w hp => ?_; try simp only [List.set_cons_zero, List.set_cons_succ, EV.val] at hp; conv => whnf)
  (refine hKq _ _ _ (.refl _) ?_; clear hKq Kq; conv => whnf)
  (refine VSeq.mk fun Kq hKq => ?_; conv => whnf)
  (refine ⟨_, _, Blk.ldV (vs := [_, _, _, _]) (hp.get (i := 0) rfl) TTok rfl rfl rfl, ?_⟩; conv => whnf)
  obtain ⟨b5, rfl⟩ : ∃ q, q = al24 := ⟨al24, rfl⟩
  have hp := hp.pick [0, 1, 3, 4, 5] (by decide)
  simp only [List.filterMap_cons, List.filterMap_nil, List.getElem?_cons_zero, List.getElem?_cons_succ] at hp
  have hp : HpM [] w0 w [blk b5 [.int .i64 0, .int .i64 1, .string idC, .slice po 5 co] 24, row 54 2 (.slice po 5 co) 5 (flatC oddL), blk b2 [.int .i64 2, .int .i64 1, .string idC, .slice pd 1 cd] 24, row 54 2 (.slice pd 1 cd) 1 (flatC doneL), blk b1 [.int .i64 0, .int .i64 1, .string idC, .slice none 0 0] 24] := hp
  have hu := Unknown_ok (al := oddL) 0 1 idC (SA.of_row (hp.get (i := 1) rfl)) k_s2
  refine Calls.mono hu ?_
  clear hu
  rintro _ w ⟨_, rfl, lv, rfl, hr⟩
  refine ⟨_, rfl, ?_⟩
  rw [k_u] at hr
  have hp := hp.join hr
  clear hr
  simp only [List.cons_append, List.nil_append] at hp
  obtain ⟨pl, cl, rfl⟩ := row_shape (hp.get (i := 0) rfl)
  conv => whnf
  (refine hKq _ _ _ (.refl _) ?_; clear hKq Kq; conv => whnf)
  (refine VSeq.mk fun Kq hKq => ?_; conv => whnf)
  (refine ⟨_, _, Blk.ldV (vs := [_, _, _, _]) (hp.get (i := 1) rfl) TTok rfl rfl rfl, ?_⟩; conv => whnf)
  have hf := Find_c (al := oddL) 0 1 idC 6 (SA.of_row (hp.get (i := 2) rfl))
  rw [k_f0] at hf
  refine V.CallsUse (hf) fun w hx => ?_
  try (have hp := hp.call hx)
  conv => whnf
  refine hKq _ _ _ (.refl _) ?_
  clear hKq Kq
  conv => whnf
  refine VSeq.mk fun Kq hKq => ?_
  conv => whnf
  clear hf
  (refine ⟨_, _, Blk.ldV (vs := [_, _, _, _]) (hp.get (i := 5) rfl) TTok rfl rfl rfl, ?_⟩; conv => whnf)
  refine Calls.mono (pr _) ?_
  clear pr
  rintro _ w ⟨_, rfl, pv, rfl, hr⟩
  refine ⟨_, rfl, ?_⟩
  have hp := hp.join hr
  clear hr
  simp only [List.cons_append, List.nil_append] at hp
  obtain ⟨pp, cp, rfl⟩ := row_shape (hp.get (i := 0) rfl)
  conv => whnf
  (refine hp.kalloc z24 fun al24 w hp hx => ?_; conv => whnf)
  (refine hp.kstA TTok rfl 0 rfl rfl (oneC_of rfl) (by rfl) fun w hp => ?_; try simp only [List.set_cons_zero, List.set_cons_succ, EV.val] at hp; conv => whnf)
  (refine hKq _ _ _ (.refl _) ?_; clear hKq Kq; conv => whnf)
  (refine VSeq.mk fun Kq hKq => ?_; conv => whnf)
  obtain ⟨b10, rfl⟩ : ∃ q, q = al24 := ⟨al24, rfl⟩
  have hp : HpM [] w0 w [blk b10 [.int .i64 0, .int .i64 1, .string idC, .slice pp 1 cp] 24, row 54 2 (.slice pp 1 cp) 1 (flatC [(8, M)]), row 3 1 (.slice pl 1 cl) 1 [.int .i64 5], blk b5 [.int .i64 0, .int .i64 1, .string idC, .slice po 5 co] 24, row 54 2 (.slice po 5 co) 5 (flatC oddL), blk b2 [.int .i64 2, .int .i64 1, .string idC, .slice pd 1 cd] 24, row 54 2 (.slice pd 1 cd) 1 (flatC doneL), blk b1 [.int .i64 0, .int .i64 1, .string idC, .slice none 0 0] 24] := hp
  refine v_mixA TTok FFok mixed [(1, false), (0, true), (2, false), (3, false), (4, false), (5, false), (6, false), (8, false), (7, true), (9, false), (10, false), (11, false), (12, false), (13, false), (14, false), (16, false), (17, false), (18, false), (15, true), (19, false), (20, false), (21, false), (22, false), (23, false), (24, false), (26, false), (27, false), (25, true), (28, false), (29, false), (30, false), (31, false), (32, false), (33, false), (35, false), (36, false), (34, true), (37, false), (38, false), (39, false), (40, false), (41, false), (42, false), (44, false), (45, false), (46, false), (47, false), (48, false), (49, false), (43, true), (50, false), (51, false), (52, false), (53, false), (54, false), (55, false)] (by kernel_rfl) ?_
  conv => whnf
  refine ⟨_, fun w' hx' => Blk.ldN (Blk.ext (hp.get (i := 7) rfl) hx') TTok rfl (rfl), ?_⟩
  conv => whnf
  intro w hx
  try (have hp := hp.call hx)
  conv => whnf
  skip
  refine Calls.mono (is_c hp _) ?_
  rintro _ w ⟨v, rfl, bb, rfl, hp, hx⟩
  refine ⟨_, rfl, ?_⟩
  conv => whnf
  refine And.intro hx ?_
  conv => whnf
  refine ⟨_, fun w1 _ => c1 w1, ?_⟩
  conv => whnf
  refine ⟨_, fun w1 hx' => is_in S x0 (by omega) (Blk.ext (hp.get (i := 0) rfl) hx'), ?_⟩
  conv => whnf
  refine And.intro (fun _ => ?_) (fun h => by cases h)
  conv => whnf
  refine ⟨_, fun w' hx' => Blk.ldN (Blk.ext (hp.get (i := 6) rfl) hx') TTok rfl (rfl), ?_⟩
  conv => whnf
  intro w hx
  try (have hp := hp.call hx)
  conv => whnf
  skip
  refine Calls.mono (is_c hp _) ?_
  rintro _ w ⟨v, rfl, bb, rfl, hp, hx⟩
  refine ⟨_, rfl, ?_⟩
  conv => whnf
  refine And.intro hx ?_
  conv => whnf
  refine ⟨_, fun w1 hx' => Encode_ok (al := doneL) 2 1 idC ((SA.of_row (hp.get (i := 8) rfl)).ext hx') k_s1, ?_⟩
  conv => whnf
  refine ⟨_, fun w1 hx' => is_in _ k_x1 (by decide +kernel) (Blk.ext (hp.get (i := 0) rfl) hx'), ?_⟩
  conv => whnf
  refine And.intro (fun _ => ?_) (fun h => by cases h)
  conv => whnf
  refine ⟨_, fun w' hx' => Blk.ld (off := 2) (Blk.ext (hp.get (i := 9) rfl) hx') TTok rfl rfl, ?_⟩
  conv => whnf
  (refine ⟨_, fun w' hx' => bld63_0_1 w' _ _, ?_⟩; conv => whnf)
  (intro w hx; try (have hp := hp.call hx); conv => whnf)
  refine Calls.mono (is_c hp _) ?_
  rintro _ w ⟨v, rfl, bb, rfl, hp, hx⟩
  refine ⟨_, rfl, ?_⟩
  conv => whnf
  refine And.intro hx ?_
  conv => whnf
  first | refine PureF.quiet (Mixed_ok idC ⟨#[192, 0, 2, 1]⟩ 32853 rfl rfl (by decide)) ?_ | refine PureF.quietE (Mixed_ok idC ⟨#[192, 0, 2, 1]⟩ 32853 rfl rfl (by decide)) ?_
  conv => whnf
  refine ⟨_, fun w1 hx' => is_in _ k_x2 (by decide +kernel) (Blk.ext (hp.get (i := 0) rfl) hx'), ?_⟩
  conv => whnf
  refine And.intro (fun _ => ?_) (fun h => by cases h)
  conv => whnf
  refine ⟨19, ⟨by first | rfl | omega, by omega⟩, ?_⟩
  conv => whnf
  intro w hx
  try (have hp := hp.call hx)
  conv => whnf
  skip
  refine Calls.mono (refuses_c hp _) ?_
  rintro _ w ⟨v, rfl, bb, rfl, hp, hx⟩
  refine ⟨_, rfl, ?_⟩
  conv => whnf
  refine And.intro hx ?_
  conv => whnf
  refine ⟨_, fun w1 _ => e1 w1, ?_⟩
  conv => whnf
  refine ⟨_, fun w1 hx' => refuses_in (Blk.ext (hp.get (i := 0) rfl) hx'), ?_⟩
  conv => whnf
  refine And.intro (fun _ => ?_) (fun h => by cases h)
  conv => whnf
  refine And.intro (by rw [z0]; decide) ?_
  conv => whnf
  intro w hx
  try (have hp := hp.call hx)
  conv => whnf
  skip
  refine Calls.mono (refuses_c hp _) ?_
  rintro _ w ⟨v, rfl, bb, rfl, hp, hx⟩
  refine ⟨_, rfl, ?_⟩
  conv => whnf
  refine And.intro hx ?_
  conv => whnf
  refine ⟨_, fun w1 _ => e2 w1, ?_⟩
  conv => whnf
  refine ⟨_, fun w1 hx' => refuses_in (Blk.ext (hp.get (i := 0) rfl) hx'), ?_⟩
  conv => whnf
  refine And.intro (fun _ => ?_) (fun h => by cases h)
  conv => whnf
  refine ⟨3, ⟨by first | rfl | omega, by omega⟩, ?_⟩
  conv => whnf
  refine And.intro (by rw [z3]; decide) ?_
  conv => whnf
  refine ⟨4, ⟨by first | rfl | omega, by omega⟩, ?_⟩
  conv => whnf
  refine And.intro (by rw [ByteArray.size_append, z3, z4, z0]; decide) ?_
  conv => whnf
  intro w hx
  try (have hp := hp.call hx)
  conv => whnf
  skip
  refine Calls.mono (refuses_c hp _) ?_
  rintro _ w ⟨v, rfl, bb, rfl, hp, hx⟩
  refine ⟨_, rfl, ?_⟩
  conv => whnf
  refine And.intro hx ?_
  conv => whnf
  refine ⟨_, fun w1 _ => e3 w1, ?_⟩
  conv => whnf
  refine ⟨_, fun w1 hx' => refuses_in (Blk.ext (hp.get (i := 0) rfl) hx'), ?_⟩
  conv => whnf
  intro w hx
  try (have hp := hp.call hx)
  conv => whnf
  refine hKq _ _ _ (.refl _) ?_
  clear hKq Kq
  conv => whnf
  refine VSeq.mk fun Kq hKq => ?_
  conv => whnf
  clear c1 e1 e2 e3
  refine v_mixA TTok FFok mixed [(0, false), (1, false), (2, false), (3, false), (4, false), (5, false), (6, false), (7, true), (8, false), (9, false), (10, false), (11, false), (12, false), (13, false), (14, false), (15, false), (16, false), (17, false), (18, false), (20, false), (19, true), (21, false), (22, false), (23, false), (24, false), (25, false), (26, false), (27, true), (28, false), (29, false), (30, false), (31, false), (32, false), (33, false), (34, true), (35, false), (36, false), (37, false), (38, false), (39, false), (40, false)] (by kernel_rfl) ?_
  conv => whnf
  refine And.intro (fun _ => ?_) (fun h => by cases h)
  conv => whnf
  refine And.intro (fun _ => ?_) (fun h => absurd (rfl) (of_decide_eq_false h))
  conv => whnf
  intro w hx
  try (have hp := hp.call hx)
  conv => whnf
  obtain ⟨_, w, hr, tb, rfl, hp, hx⟩ : ∃ u w', (Instr.buildSlice 48 1 #[(0, .int .i64 5)]).run Tryz.prog w = .ok u w' ∧ ∃ b, u = .slice (some ⟨b, 0, none⟩) 1 1 ∧ HpM [] w0 w' (blk b [.int .i64 5] 3 :: _) ∧ Ext w w' := hp.kmade _ _ (fun b => .slice (some ⟨b, 0, none⟩) 1 1) (mks48_1_0 _ 5) fun tb w hp hx => ⟨tb, rfl, hp, hx⟩
  refine ⟨_, _, hr, ?_⟩
  clear hr
  conv => whnf
  refine And.intro hx ?_
  conv => whnf
  refine ⟨_, fun w1 hx' => ints8_c [5] [5] ((SLv.of_row (hp.get (i := 9) rfl)).ext hx') ((SLv.of_blk0 (hp.get (i := 0) rfl) rfl).ext hx') (by decide) (by decide), ?_⟩
  conv => whnf
  refine And.intro (fun _ => ?_) (fun h => absurd (rfl) (of_decide_eq_false h))
  conv => whnf
  refine And.intro (fun _ => ?_) (fun h => absurd (rfl) (of_decide_eq_false h))
  conv => whnf
  refine And.intro (fun _ => ?_) (fun h => absurd (rfl) (of_decide_eq_false h))
  conv => whnf
  refine ⟨_, fun w' hx' => Blk.ldN (Blk.ext (hp.get (i := 10) rfl) hx') TTok rfl (rfl), ?_⟩
  conv => whnf
  intro w hx
  try (have hp := hp.call hx)
  conv => whnf
  skip
  refine Calls.mono (fails_c hp _) ?_
  rintro _ w ⟨v, rfl, bb, rfl, hp, hx⟩
  refine ⟨_, rfl, ?_⟩
  conv => whnf
  refine And.intro hx ?_
  conv => whnf
  have hf7 := fun (w1 : World) (hx' : Ext w w1) => Find_c (al := oddL) 0 1 idC 7 ((SA.of_row (hp.get (i := 12) rfl)).ext hx')
  rw [k_f1] at hf7
  refine ⟨_, hf7, ?_⟩
  conv => whnf
  clear hf7
  refine ⟨_, fun w1 hx' => fails_in (Blk.ext (hp.get (i := 0) rfl) hx'), ?_⟩
  conv => whnf
  intro w hx
  try (have hp := hp.call hx)
  conv => whnf
  (refine And.intro (fun _ => ?_) (fun h => by cases h))
  refine Calls.mono (is_c hp _) ?_
  rintro _ w ⟨v, rfl, bb, rfl, hp, hx⟩
  refine ⟨_, rfl, ?_⟩
  conv => whnf
  refine And.intro hx ?_
  conv => whnf
  first | refine PureF.quiet (Reason_ok 487 (⟨#[120]⟩ : ByteArray) (by decide) (by decide) (by decide)) ?_ | refine PureF.quietE (Reason_ok 487 (⟨#[120]⟩ : ByteArray) (by decide) (by decide) (by decide)) ?_
  conv => whnf
  refine ⟨_, fun w1 hx' => is_in _ k_x3 (by decide +kernel) (Blk.ext (hp.get (i := 0) rfl) hx'), ?_⟩
  conv => whnf
  intro w hx
  try (have hp := hp.call hx)
  conv => whnf
  (refine And.intro (fun _ => ?_) (fun h => by cases h))
  refine Calls.mono (fails_c hp _) ?_
  rintro _ w ⟨v, rfl, bb, rfl, hp, hx⟩
  refine ⟨_, rfl, ?_⟩
  conv => whnf
  refine And.intro hx ?_
  conv => whnf
  first | refine PureF.quiet (Reason_arg 299 ⟨#[]⟩ (by decide)) ?_ | refine PureF.quietE (Reason_arg 299 ⟨#[]⟩ (by decide)) ?_
  conv => whnf
  refine ⟨_, fun w1 hx' => fails_in (Blk.ext (hp.get (i := 0) rfl) hx'), ?_⟩
  conv => whnf
  intro w hx
  try (have hp := hp.call hx)
  conv => whnf
  refine hKq _ _ _ (.refl _) ?_
  clear hKq Kq
  conv => whnf
  refine VSeq.mk fun Kq hKq => ?_
  conv => whnf
  refine VSeq.mk fun Kq hKq => ?_
  conv => whnf
  refine hKq _ _ _ (.refl _) ?_
  clear hKq Kq
  conv => whnf
  refine VSeq.mk fun Kq hKq => ?_
  conv => whnf
  refine And.intro (fun _ => ?_) (fun h => by cases h)
  conv => whnf
  refine ⟨_, _, Blk.ldN (hp.get (i := 17) rfl) TTok rfl (rfl), ?_⟩
  conv => whnf
  refine V.CallsUse (v0 _) fun w hx => ?_
  try (have hp := hp.call hx)
  conv => whnf
  refine hKq _ _ _ (.refl _) ?_
  clear hKq Kq
  conv => whnf
  refine VSeq.mk fun Kq hKq => ?_
  conv => whnf
  refine And.intro (fun _ => ?_) (fun h => absurd (rfl) (of_decide_eq_false h))
  conv => whnf
  refine hKq _ _ _ (.refl _) ?_
  clear hKq Kq
  conv => whnf
  refine VSeq.mk fun Kq hKq => ?_
  conv => whnf
  refine And.intro (fun _ => ?_) (fun h => absurd (rfl) (of_decide_eq_false h))
  conv => whnf
  refine ⟨_, _, Blk.ldN (hp.get (i := 10) rfl) TTok rfl (rfl), ?_⟩
  conv => whnf
  refine V.CallsUse (v1 _ _ (SA.of_row (hp.get (i := 11) rfl))) fun w hx => ?_
  try (have hp := hp.call hx)
  conv => whnf
  refine hKq _ _ _ (.refl _) ?_
  clear hKq Kq
  conv => whnf
  refine And.intro (fun _ => ?_) (fun h => absurd (rfl) (of_decide_eq_false h))
  conv => whnf
  refine ⟨_, _, Blk.ldN (hp.get (i := 10) rfl) TTok rfl (rfl), ?_⟩
  conv => whnf
  refine V.CallsUse (v2 _ _ (SA.of_row (hp.get (i := 11) rfl))) fun w hx => ?_
  try (have hp := hp.call hx)
  conv => whnf
  refine hKq _ _ _ (.refl _) ?_
  clear hKq Kq
  conv => whnf
  exact ⟨congrArg Value.bool (decide_eq_true rfl), hp.ext⟩
set_option maxHeartbeats 6400000
set_option maxHeartbeats 6400000
set_option maxHeartbeats 12800000

set_option maxHeartbeats 12800000
theorem u16_rd {w : World} {cs : List Value} (h : Rd w (.int .u16) cs) : ∃ n : Nat, n < 65536 ∧ cs = [.int .u16 n] := by
  obtain ⟨n, rfl, hn⟩ := h
  simp [Lit.wf, IntKind.has, IntKind.min, IntKind.max, IntKind.signed, IntKind.bits] at hn
  exact ⟨n.toNat, by omega, by rw [Int.toNat_of_nonneg hn.1]⟩
theorem u8_rd {w : World} {cs : List Value} (h : Rd w (.int .u8) cs) : ∃ n : Nat, n < 256 ∧ cs = [.int .u8 n] := by
  obtain ⟨n, rfl, hn⟩ := h
  simp [Lit.wf, IntKind.has, IntKind.min, IntKind.max, IntKind.signed, IntKind.bits] at hn
  exact ⟨n.toNat, by omega, by rw [Int.toNat_of_nonneg hn.1]⟩
set_option maxHeartbeats 25600000
set_option maxHeartbeats 25600000
def sh8P : Sh := .cons (.int .u8) (.cons (.int .u16) (.cons .str .nil))
theorem pc_rd {w : World} {cs : List Value} (h : Rd w (.ag sh8P) cs) : ∃ p : Pc3, PcOk p ∧ cs = pcC p := by
  obtain ⟨_, _, rfl, h1, _, _, rfl, h2, _, _, rfl, ⟨s, rfl, hs⟩, h3⟩ := h
  obtain rfl : _ = [] := h3
  obtain ⟨a, ha, rfl⟩ := u8_rd h1
  obtain ⟨k, hk, rfl⟩ := u16_rd h2
  exact ⟨(a, k, s), ⟨ha, hk, hs⟩, rfl⟩
def sh8M : Sh := .cons (.int .u8) (.cons (.int .u16) (.cons .str (.cons (.sl (.ag sh8P)) .nil)))
theorem draft_rd {w : World} {cs : List Value} (h : Rd w sh8M cs) : ∃ (c8 m16 : Nat) (id : ByteArray) (v : Value) (ps : List Pc3), c8 < 256 ∧ m16 < 65536 ∧ id.size ≤ maxLen ∧ SPc w v ps ∧ (∀ p ∈ ps, PcOk p) ∧ cs = [.int .u8 c8, .int .u16 m16, .string id, v] := by
  obtain ⟨_, _, rfl, h1, _, _, rfl, h2, _, _, rfl, ⟨s, rfl, hs⟩, _, _, rfl, ⟨v, xs, rfl, hv, hx⟩, h3⟩ := h
  obtain rfl : _ = [] := h3
  obtain ⟨a, ha, rfl⟩ := u8_rd h1
  obtain ⟨k, hk, rfl⟩ := u16_rd h2
  obtain ⟨ps, rfl, hp⟩ := Rd.all (Q := PcOk) (f := pcC) (fun cs h => pc_rd h) hx
  exact ⟨a, k, s, v, ps, ha, hk, hs, hv, hp, rfl⟩
set_option maxHeartbeats 25600000
theorem holds_c {W : World} {v : Value} {ps : List Pc3} (c8 m16 : Nat) (id0 : ByteArray) (key0 : ByteArray) (wh kd : Nat) (s : ByteArray) (hv : SPc W v ps) (hps : ∀ p ∈ ps, PcOk p) (hc8 : c8 < 256) (hm16 : m16 < 65536) (hid : id0.size ≤ maxLen) (hkey : key0.size ≤ maxLen) (hwh : wh < 256) (hkd : kd < 65536) (hss : s.size ≤ maxLen) :
    Calls Tryz.prog 9 #[.agg #[.int .u8 c8, .int .u16 m16, .string id0, v], .string key0, .agg #[.int .u8 wh, .int .u16 kd, .string s]] W fun e w' => e = .returned (.bool true) ∧ Ext W w' := by
  have s1 := fun {w : World} (hx : Ext W w) => message_c (W := w) c8 m16 id0 (SLn.ext hv hx) hps hc8 hm16 hid
  obtain ⟨p, cp, rfl⟩ := SPc.shape hv
  refine v_reads (args := [.agg #[.int .u8 c8, .int .u16 m16, .string id0, .slice p ps.length cp], .string key0, .agg #[.int .u8 wh, .int .u16 kd, .string s]]) TTok FFok Tryz.func9 rfl rfl ?_
  conv => whnf
  refine VSeq.mk fun Kq hKq => ?_
  conv => whnf
  have hp := Hp.nil W
  refine hp.kboxA fun q3 w hp hx => ?_
  conv => whnf
  refine hp.kboxA fun q5 w hp hx => ?_
  conv => whnf
  refine hKq _ _ _ (.refl _) ?_
  clear hKq Kq
  conv => whnf
  refine VSeq.mk fun Kq hKq => ?_
  conv => whnf
  refine VSeq.mk fun Kq hKq => ?_
  conv => whnf
  refine PureF.use (works_p) fun w hx => ?_
  try (have hp := hp.call hx)
  conv => whnf
  refine hKq _ _ _ (.refl _) ?_
  clear hKq Kq
  conv => whnf
  refine And.intro (fun h => by cases h) (fun _ => ?_)
  conv => whnf
  refine hKq _ _ _ (.refl _) ?_
  clear hKq Kq
  conv => whnf
  refine VSeq.mk fun Kq hKq => ?_
  conv => whnf
  unfold maxLen at hkey hss
  refine ⟨min key0.size 100, ⟨by omega, by omega⟩, ?_⟩
  conv => whnf
  refine hKq _ _ _ (.refl _) ?_
  clear hKq Kq
  conv => whnf
  refine VSeq.mk fun Kq hKq => ?_
  conv => whnf
  have zk := size_extract key0 0 (min key0.size 100) (by omega)
  generalize key0.extract 0 (min key0.size 100) = key at *
  (refine ⟨_, _, Blk.ldV (vs := [_, _, _, _]) (hp.get (i := 1) rfl) TTok rfl rfl rfl, ?_⟩; conv => whnf)
  refine Calls.mono (s1 hp.ext) ?_
  rintro _ w ⟨_, rfl, c, m, id, al, u, rfl, dA, hr⟩
  refine ⟨_, rfl, ?_⟩
  have hp := hp.call hr.ext
  obtain ⟨pu, cu, rfl⟩ := row_shape (hr.get (i := 0) rfl)
  clear hr
  conv => whnf
  (refine hp.kalloc z24 fun al24 w hp hx => ?_; conv => whnf)
  (refine hp.kstA TTok rfl 0 rfl rfl (oneC_of rfl) (by rfl) fun w hp => ?_; try simp only [List.set_cons_zero, List.set_cons_succ, EV.val] at hp; conv => whnf)
  (refine hKq _ _ _ (.refl _) ?_; clear hKq Kq; conv => whnf)
  (refine VSeq.mk fun Kq hKq => ?_; conv => whnf)
  (refine hp.kst1 TTok (by rfl) 0 (by rfl) (by rfl) (by rfl) (Nat.le_of_ble_eq_true rfl) fun w hp => ?_; try simp only [List.set_cons_zero, List.set_cons_succ, EV.val] at hp; conv => whnf)
  (refine hKq _ _ _ (.refl _) ?_; clear hKq Kq; conv => whnf)
  (refine VSeq.mk fun Kq hKq => ?_; conv => whnf)
  (refine VSeq.mk fun Kq hKq => ?_; conv => whnf)
  (refine ⟨_, _, Blk.ldV (vs := [_, _, _, _]) (hp.get (i := 2) rfl) TTok rfl rfl rfl, ?_⟩; conv => whnf)
  obtain ⟨b7, rfl⟩ : ∃ q, q = al24 := ⟨al24, rfl⟩
  refine Calls.mono (s1 hp.ext) ?_
  clear s1
  rintro _ w ⟨_, rfl, c2, m2, id2, bl, u2, rfl, dB, hr⟩
  refine ⟨_, rfl, ?_⟩
  have hp := hp.join hr
  clear hr
  simp only [List.cons_append, List.nil_append] at hp
  obtain ⟨pb, cb, rfl⟩ := row_shape (hp.get (i := 0) rfl)
  conv => whnf
  skip
  have hp := hp.knil 54 2
  have hp := hp.pick [0, 1, 2, 3] (by decide)
  have hp : HpM [] W w [row 54 2 (.slice none 0 0) 0 (flatC []), row 54 2 (.slice pb bl.length cb) bl.length (flatC bl), blk b7 [.int .i64 c, .int .i64 m, .string id, .slice none 0 0] 24, blk q5 [.int .u8 wh, .int .u16 kd, .string s] 99] := hp
  have fO := filL_ok dA dB
  obtain ⟨f8, f9⟩ := filL_has bl
  first | refine ⟨.slice pb bl.length cb, w, by kernel_rfl, ?_⟩ | refine ⟨.slice pb bl.length cb, w0, by kernel_rfl, ?_⟩
  conv => whnf
  refine hKq _ _ _ (.refl _) ?_
  clear hKq Kq
  conv => whnf
  refine ⟨fun mm e w' => ∃ (i : Nat) (u : Value), mm + i = bl.length ∧ e = [(1, .v (.string key)), (5, .v (.pointer (some ⟨q5, 0, none⟩))), (7, .v (.pointer (some ⟨b7, 0, none⟩))), (31, .v (.slice pb bl.length cb)), (32, .v (.int .i64 bl.length)), (33, .v (.int .i64 i))] ∧ HpM [] W w' [row 54 2 u (filL (bl.take i)).length (flatC (filL (bl.take i))), row 54 2 (.slice pb bl.length cb) bl.length (flatC bl), blk b7 [.int .i64 c, .int .i64 m, .string id, u] 24, blk q5 [.int .u8 wh, .int .u16 kd, .string s] 99],
    ⟨bl.length, _, ⟨0, _, by omega, rfl, hp⟩, sub_cons rfl (sub_cons rfl (sub_cons rfl (sub_cons rfl (sub_cons rfl (sub_cons rfl sub_nil)))))⟩, ?_⟩
  clear hp hx
  repeat clear hp
  have hlb := dB.len
  rintro mm _ w ⟨i, u, hmm, rfl, hp⟩
  obtain ⟨pu, cu, rfl⟩ := row_shape (hp.get (i := 0) rfl)
  have hfl := filL_len (bl.take i)
  have htl : (bl.take i).length ≤ bl.length := by rw [List.length_take]; omega
  conv => whnf
  refine VSeq.mk fun Kq hKq => ?_
  conv => whnf
  refine hKq _ _ _ (.refl _) ?_
  clear hKq Kq
  conv => whnf
  refine VSeq.mk fun Kq hKq => ?_
  conv => whnf
  refine ⟨fun hlt => ?_, fun hlt => ?_⟩
  · have hlt := of_decide_eq_true hlt
    conv => whnf
    refine hKq _ _ _ (.refl _) ?_
    clear hKq Kq
    conv => whnf
    refine VSeq.mk fun Kq hKq => ?_
    conv => whnf
    refine VSeq.mk fun Kq hKq => ?_
    conv => whnf
    obtain ⟨a, hai⟩ : ∃ a, bl[i]? = some a := ⟨bl[i]'(by omega), List.getElem?_eq_getElem (by omega)⟩
    have hst := filL_take hai
    obtain ⟨g, off, he, hld⟩ := (SA.of_row (hp.get (i := 1) rfl)).at hai
    obtain rfl := he
    obtain ⟨k, t⟩ := a
    dsimp only at hld
    have hfc : flatC (filL (bl.take i)) ++ [.int .i64 k, .string t] = flatC (filL (bl.take i) ++ [(k, t)]) := by rw [flatC_app]; rfl
    generalize filL (bl.take i) = fl at *
    refine ⟨i, ⟨by first | rfl | omega, by show i < bl.length; omega⟩, ?_⟩
    conv => whnf
    refine ⟨_, _, hld, ?_⟩
    conv => whnf
    refine hp.kalloc z54 fun a9 w hp hx => ?_
    conv => whnf
    (refine hp.kstA TTok rfl 0 rfl rfl (oneC_of rfl) (by rfl) fun w hp => ?_; try simp only [List.set_cons_zero, List.set_cons_succ, EV.val] at hp; conv => whnf)
    (refine hKq _ _ _ (.refl _) ?_; clear hKq Kq; conv => whnf)
    (refine VSeq.mk fun Kq hKq => ?_; conv => whnf)
    (refine VSeq.mk fun Kq hKq => ?_; conv => whnf)
    (refine ⟨_, _, Blk.ld (hp.get (i := 0) rfl) TTok rfl rfl, ?_⟩; conv => whnf)
    (refine hKq _ _ _ (.refl _) ?_; clear hKq Kq; conv => whnf)
    by_cases h8 : k = 8
    · have hkb : keepB (k, t) = false := by unfold keepB; simp [h8]
      rw [hkb, if_neg (by decide), List.append_nil] at hst
      (refine And.intro (fun h => absurd (of_decide_eq_true h) (by first | (intro h2; exact absurd rfl h2) | omega | decide)) (fun _ => ?_); conv => whnf)
      (refine hKq _ _ _ (.refl _) ?_; clear hKq Kq; conv => whnf)
      (refine hKq _ _ _ (.refl _) ?_; clear hKq Kq; conv => whnf)
      (refine Or.inl (And.intro (by first | omega | decide) ?_); conv => whnf)
      exact ⟨mm - 1, _, by omega, ⟨i + 1, _, by omega, rfl, by rw [hst]; exact hp.pick [1, 2, 3, 4] (by decide)⟩, sub_cons rfl (sub_cons rfl (sub_cons rfl (sub_cons rfl (sub_cons rfl (sub_cons rfl sub_nil)))))⟩
    · by_cases h3 : k = 32808
      · have hkb : keepB (k, t) = false := by unfold keepB; simp [h3]
        rw [hkb, if_neg (by decide), List.append_nil] at hst
        (refine And.intro (fun _ => ?_) (fun h => absurd (by first | rfl | assumption | omega | decide) (of_decide_eq_false h)); conv => whnf)
        (refine ⟨_, _, Blk.ld (hp.get (i := 0) rfl) TTok rfl rfl, ?_⟩; conv => whnf)
        (refine hKq _ _ _ (.refl _) ?_; clear hKq Kq; conv => whnf)
        (refine And.intro (fun h => absurd (of_decide_eq_true h) (by first | (intro h2; exact absurd rfl h2) | omega | decide)) (fun _ => ?_); conv => whnf)
        (refine hKq _ _ _ (.refl _) ?_; clear hKq Kq; conv => whnf)
        (refine Or.inl (And.intro (by first | omega | decide) ?_); conv => whnf)
        exact ⟨mm - 1, _, by omega, ⟨i + 1, _, by omega, rfl, by rw [hst]; exact hp.pick [1, 2, 3, 4] (by decide)⟩, sub_cons rfl (sub_cons rfl (sub_cons rfl (sub_cons rfl (sub_cons rfl (sub_cons rfl sub_nil)))))⟩
      · have hkb : keepB (k, t) = true := by unfold keepB; simp [h8, h3]
        rw [hkb, if_pos rfl] at hst
        (refine And.intro (fun _ => ?_) (fun h => absurd (by first | rfl | assumption | omega | decide) (of_decide_eq_false h)); conv => whnf)
        (refine ⟨_, _, Blk.ld (hp.get (i := 0) rfl) TTok rfl rfl, ?_⟩; conv => whnf)
        (refine hKq _ _ _ (.refl _) ?_; clear hKq Kq; conv => whnf)
        (refine And.intro (fun _ => ?_) (fun h => absurd (by first | rfl | assumption | omega | decide) (of_decide_eq_false h)); conv => whnf)
        (refine ⟨_, _, Blk.ld (hp.get (i := 3) rfl) TTok rfl rfl, ?_⟩; conv => whnf)
        (refine ⟨_, _, Blk.ldV (vs := [_, _]) (hp.get (i := 0) rfl) TTok rfl rfl rfl, ?_⟩; conv => whnf)
        (refine hp.kmade _ _ (fun b => .slice (some ⟨b, 0, none⟩) 1 1) (mks22_1_0 _ _ _) fun q w hp hx => ?_; conv => whnf)
        refine hp.kapp sl22 2 rfl (Blk.src TTok (hp.get (i := 0) rfl) rfl (m := 1) rfl (oneC_of rfl)) (by omega) (by unfold maxLen; omega) fun v' w hp => ?_
        simp only [List.set_cons_zero, List.set_cons_succ] at hp
        rw [hfc] at hp
        obtain ⟨p1, c1, rfl⟩ := row_shape (hp.get (i := 2) rfl)
        conv => whnf
        (refine hp.kst1 TTok (by rfl) 4 (by rfl) (by rfl) (by rfl) (Nat.le_of_ble_eq_true rfl) fun w hp => ?_; try simp only [List.set_cons_zero, List.set_cons_succ, EV.val] at hp; conv => whnf)
        (refine hKq _ _ _ (.refl _) ?_; clear hKq Kq; conv => whnf)
        (refine Or.inl (And.intro (by first | omega | decide) ?_); conv => whnf)
        exact ⟨mm - 1, _, by omega, ⟨i + 1, _, by omega, rfl, by rw [hst, List.length_append]; exact hp.pick [2, 3, 4, 5] (by decide)⟩, sub_cons rfl (sub_cons rfl (sub_cons rfl (sub_cons rfl (sub_cons rfl (sub_cons rfl sub_nil)))))⟩
  · have hlt := of_decide_eq_false hlt
    conv => whnf
    clear hKq Kq
    refine hKq _ _ _ (.refl _) ?_
    clear hKq Kq
    conv => whnf
    refine VSeq.mk fun Kq hKq => ?_
    conv => whnf
    obtain rfl : i = bl.length := by omega
    rw [List.take_of_length_le (Nat.le_refl _)] at hp
    clear hfl htl
    generalize filL bl = fl at *
    have hp := hp.pick [0, 2, 3] (by decide)
    have hp : HpM [] W w [row 54 2 (.slice pu fl.length cu) fl.length (flatC fl), blk b7 [.int .i64 c, .int .i64 m, .string id, .slice pu fl.length cu] 24, blk q5 [.int .u8 wh, .int .u16 kd, .string s] 99] := hp
    clear hlt hmm dB hlb
    have zs := size_extract s 0 (min s.size 60) (by omega)
    obtain ⟨t, ht⟩ : ∃ t, s.extract 0 (min s.size 60) = t := ⟨_, rfl⟩
    rw [ht] at zs
    have kF := fO.stun
    have fl6 := fO.len
    obtain ⟨M, hM⟩ : ∃ M, macB key (wrB c m id fl 36) = M := ⟨_, rfl⟩
    have aM : attrB (8, M) = true ∧ M.size ≤ 60 := by rw [← hM]; exact ⟨mac_attr _ _, by rw [macB_size]; decide⟩
    have aT : attrB ((kd : Int), t) = true ∧ t.size ≤ 60 := ⟨by unfold attrB; simp only [Bool.and_eq_true, decide_eq_true_eq]; omega, by omega⟩
    have kP : stunB c m id (fl ++ [(8, M)]) = true := dr_more fO (by simp) (by intro a ha; rw [List.mem_singleton] at ha; subst ha; exact aM)
    have kL : stunB c m id (fl ++ [(8, M), ((kd : Int), t)]) = true := dr_more fO (by simp) (by
      intro a ha
      rcases List.mem_cons.1 ha with h | h
      · subst h; exact aM
      · rw [List.mem_singleton] at h; subst h; exact aT)
    obtain ⟨F, hF⟩ : ∃ F, fpB (wrB c m id (fl ++ [(8, M)]) 8) = F := ⟨_, rfl⟩
    have aF : attrB (32808, F) = true ∧ F.size ≤ 60 := by rw [← hF]; exact ⟨fp_attr _, by rw [fpB_size]; decide⟩
    have kQ : stunB c m id (fl ++ [(8, M), (32808, F)]) = true := dr_more fO (by simp) (by
      intro a ha
      rcases List.mem_cons.1 ha with h | h
      · subst h; exact aM
      · rw [List.mem_singleton] at h; subst h; exact aF)
    have vM := ver_none (c := (c : Int)) (m := (m : Int)) (id := id) (key := key) f8 (by omega) kF
    have vP := ver_ok (c := c) (m := m) (id := id) (key := key) (fl := fl) (tl := []) f8 (by omega) (by rw [hM]; exact kP)
    have vL := ver_ok (c := c) (m := m) (id := id) (key := key) (fl := fl) (tl := [((kd : Int), t)]) f8 (by omega) (by rw [hM]; exact kL)
    have vQ := ver_ok (c := c) (m := m) (id := id) (key := key) (fl := fl) (tl := [(32808, F)]) f8 (by omega) (by rw [hM]; exact kQ)
    rw [hM] at vP vL vQ
    have kP9 : hasB 32808 (fl ++ [(8, M)]) = false := by rw [hasB_app, f9]; rfl
    have kP8 : hasB 8 (fl ++ [(8, M)]) = true := by rw [hasB_app, f8]; rfl
    have kQ8 : hasB 8 (fl ++ [(8, M), (32808, F)]) = true := by rw [hasB_app, f8]; rfl
    have kQ9 : hasB 32808 (fl ++ [(8, M), (32808, F)]) = true := by rw [hasB_app, f9]; rfl
    have mP := mark_none (c := (c : Int)) (m := (m : Int)) (id := id) (fl := fl) (a := (8, M)) (by show (8 : Int) ≠ 32808; decide) kP
    have mQ := mark_ok (c := c) (m := m) (id := id) (fl := fl ++ [(8, M)]) (by rw [hF, List.append_assoc]; exact kQ)
    rw [hF] at mQ
    have pr := fun {w : World} hx => Protect_ok (W := w) (v := .slice pu fl.length cu) (al := fl) c m id key hx kF (by omega) f8 f9 (by rw [hM]; exact kP)
    rw [hM] at pr
    obtain ⟨al2, h2⟩ : ∃ al2, fl ++ [((8 : Int), M)] = al2 := ⟨_, rfl⟩
    rw [h2] at pr
    (refine ⟨_, _, Blk.ldV (vs := [_, _, _, _]) (hp.get (i := 1) rfl) TTok rfl rfl rfl, ?_⟩; conv => whnf)
    refine Calls.mono (pr (SA.of_row (hp.get (i := 0) rfl))) ?_
    clear pr
    rintro _ w ⟨_, rfl, v', rfl, hr⟩
    refine ⟨_, rfl, ?_⟩
    have hp := hp.join hr
    clear hr
    simp only [List.cons_append, List.nil_append] at hp
    obtain ⟨p2, c2, rfl⟩ := row_shape (hp.get (i := 0) rfl)
    conv => whnf
    (refine hp.kalloc z24 fun al24 w hp hx => ?_; conv => whnf)
    (refine hp.kstA TTok rfl 0 rfl rfl (oneC_of rfl) (by rfl) fun w hp => ?_; try simp only [List.set_cons_zero, List.set_cons_succ, EV.val] at hp; conv => whnf)
    (refine hKq _ _ _ (.refl _) ?_; clear hKq Kq; conv => whnf)
    (refine VSeq.mk fun Kq hKq => ?_; conv => whnf)
    (refine VSeq.mk fun Kq hKq => ?_; conv => whnf)
    obtain ⟨b10, rfl⟩ : ∃ q, q = al24 := ⟨al24, rfl⟩
    have vf0 := fun {w : World} hx => Verify_c (W := w) (v := .slice pu fl.length cu) (al := fl) c m id key hx
    rw [vM] at vf0
    rw [h2] at vP kP8 kP9 mP mQ
    have vf1 := fun {w : World} hx => Verify_c (W := w) (v := .slice p2 al2.length c2) (al := al2) c m id key hx
    rw [vP] at vf1
    have kP2 : stunB c m id al2 = true := by rw [← h2]; exact kP
    have pr2 := fun {w : World} hx => Protect_has (W := w) (v := .slice p2 al2.length c2) (al := al2) c m id key hx kP2 (by omega) (.inl kP8)
    refine v_mixA TTok FFok mixed [(0, false), (1, false), (2, false), (3, false), (4, false), (5, false), (6, false), (7, false), (8, false), (9, false), (10, false), (11, false), (12, false), (13, false), (14, false), (16, false), (17, false), (15, true), (18, false), (19, false), (20, false), (21, false), (22, false), (23, false)] (by kernel_rfl) ?_
    conv => whnf
    (refine And.intro (fun h => absurd (of_decide_eq_true h) (by first | (intro h2; exact absurd rfl h2) | omega | decide)) (fun _ => ?_); conv => whnf)
    (refine ⟨_, fun w' hx' => Blk.ldV (vs := [_, _, _, _]) (Blk.ext (hp.get (i := 3) rfl) hx') TTok rfl rfl rfl, ?_⟩; conv => whnf)
    refine ⟨_, fun w1 hx1 => vf0 ((SA.of_row (hp.get (i := 2) rfl)).ext hx1), ?_⟩
    conv => whnf
    (refine And.intro (fun h => absurd (of_decide_eq_true h) (by first | (intro h2; exact absurd rfl h2) | omega | decide)) (fun _ => ?_); conv => whnf)
    (refine ⟨_, fun w' hx' => Blk.ldV (vs := [_, _, _, _]) (Blk.ext (hp.get (i := 0) rfl) hx') TTok rfl rfl rfl, ?_⟩; conv => whnf)
    refine ⟨_, fun w1 hx1 => vf1 ((SA.of_row (hp.get (i := 1) rfl)).ext hx1), ?_⟩
    conv => whnf
    (refine And.intro (fun h => absurd (of_decide_eq_true h) (by first | (intro h2; exact absurd rfl h2) | omega | decide)) (fun _ => ?_); conv => whnf)
    (refine ⟨_, fun w' hx' => Blk.ldV (vs := [_, _, _, _]) (Blk.ext (hp.get (i := 0) rfl) hx') TTok rfl rfl rfl, ?_⟩; conv => whnf)
    (intro w hx; try (have hp := hp.call hx); conv => whnf)
    refine Calls.mono (refuses_c hp _) ?_
    rintro _ w ⟨v, rfl, bb, rfl, hp, hx⟩
    refine ⟨_, rfl, ?_⟩
    conv => whnf
    refine And.intro hx ?_
    conv => whnf
    skip
    refine ⟨_, fun w1 hx1 => pr2 ((SA.of_row (hp.get (i := 2) rfl)).ext hx1), ?_⟩
    conv => whnf
    skip
    refine ⟨_, fun w1 hx1 => refuses_in (Blk.ext (hp.get (i := 0) rfl) hx1), ?_⟩
    conv => whnf
    (intro w hx; try (have hp := hp.call hx); conv => whnf)
    (refine hKq _ _ _ (.refl _) ?_; clear hKq Kq; conv => whnf)
    (refine And.intro (fun h => absurd h (by decide)) (fun _ => ?_); conv => whnf)
    (refine hKq _ _ _ (.refl _) ?_; clear hKq Kq; conv => whnf)
    (refine VSeq.mk fun Kq hKq => ?_; conv => whnf)
    have hp := hp.pick [1, 2, 5] (by decide)
    have hp : HpM [] W w [blk b10 [.int .i64 c, .int .i64 m, .string id, .slice p2 al2.length c2] 24, row 54 2 (.slice p2 al2.length c2) al2.length (flatC al2), blk q5 [.int .u8 wh, .int .u16 kd, .string s] 99] := hp
    have hl2 : al2.length ≤ 100000 := by rw [← h2, List.length_append, List.length_singleton]; omega
    have kL2 : al2 ++ [((kd : Int), t)] = fl ++ [(8, M), ((kd : Int), t)] := by rw [← h2, List.append_assoc]; rfl
    clear vf0 pr2 hx
    have hK : ∀ (b12 : Nat) (p3 : Option Addr) (c3 : Nat) (w : World), HpM [] W w [blk b12 [.int .i64 c, .int .i64 m, .string id, .slice p3 (al2 ++ [((kd : Int), t)]).length c3] 24, row 54 2 (.slice p3 (al2 ++ [((kd : Int), t)]).length c3) (al2 ++ [((kd : Int), t)]).length (flatC (al2 ++ [((kd : Int), t)])), blk b10 [.int .i64 c, .int .i64 m, .string id, .slice p2 al2.length c2] 24, row 54 2 (.slice p2 al2.length c2) al2.length (flatC al2)] → ∀ l, V.Sub [(1, .v (.string key)), (10, .v (.pointer (some ⟨b10, 0, none⟩))), (12, .v (.pointer (some ⟨b12, 0, none⟩)))] l → Kq l w := by
      intro b12 p3 c3 w hp l hs
      refine hKq _ _ _ hs ?_
      clear hKq Kq hs
      conv => whnf
      rw [h2] at hF
      have e4 : al2 ++ [((32808 : Int), F)] = fl ++ [(8, M), (32808, F)] := by rw [← h2, List.append_assoc]; rfl
      rw [← e4] at kQ kQ8 kQ9 vQ
      rw [← kL2] at vL
      have mk := fun {w : World} hx => Mark_ok (W := w) (v := .slice p2 al2.length c2) (al := al2) c m id hx kP2 kP9 (by rw [hF]; exact kQ)
      rw [hF] at mk
      obtain ⟨al4, h4⟩ : ∃ al4, al2 ++ [((32808 : Int), F)] = al4 := ⟨_, rfl⟩
      rw [h4] at kQ kQ8 kQ9 vQ mQ mk
      obtain ⟨al3, h3⟩ : ∃ al3, al2 ++ [((kd : Int), t)] = al3 := ⟨_, rfl⟩
      rw [h3] at vL hp
      obtain ⟨d0, d1, d2, d3, d4⟩ := dec_of kQ
      have zA := wrB_size c m id al4 0
      have zi := fO.id
      have hz := (stunB_t kQ).2.2.2.2.2.2.2
      have oQ : ∀ a ∈ al4, AtOk a := fun a ha => AtOk.of ((stunB_t kQ).2.2.2.2.2.2.1 a ha)
      clear h4 h3 e4 kL2 kL kP8 aM aT aF hF hM h2
      have cE := fun {w : World} {v : Value} (hx : SA w v al4) => Encode_ok (W := w) c m id hx kQ
      obtain ⟨S, hS⟩ : ∃ S, wrB c m id al4 0 = S := ⟨_, rfl⟩
      rw [hS] at zA d0 d1 d2 d3 d4 cE
      (refine VSeq.mk fun Kq hKq => ?_; conv => whnf)
      (refine ⟨_, _, Blk.ldV (vs := [_, _, _, _]) (hp.get (i := 2) rfl) TTok rfl rfl rfl, ?_⟩; conv => whnf)
      refine Calls.mono (mk (SA.of_row (hp.get (i := 3) rfl))) ?_
      clear mk
      rintro _ w ⟨_, rfl, v4, rfl, hr⟩
      refine ⟨_, rfl, ?_⟩
      have hp := hp.join hr
      clear hr
      simp only [List.cons_append, List.nil_append] at hp
      obtain ⟨p4, c4, rfl⟩ := row_shape (hp.get (i := 0) rfl)
      conv => whnf
      (refine hp.kalloc z24 fun al24 w hp hx => ?_; conv => whnf)
      (refine hp.kstA TTok rfl 0 rfl rfl (oneC_of rfl) (by rfl) fun w hp => ?_; try simp only [List.set_cons_zero, List.set_cons_succ, EV.val] at hp; conv => whnf)
      (refine hKq _ _ _ (.refl _) ?_; clear hKq Kq; conv => whnf)
      (refine VSeq.mk fun Kq hKq => ?_; conv => whnf)
      (refine ⟨_, _, Blk.ldV (vs := [_, _, _, _]) (hp.get (i := 0) rfl) TTok rfl rfl rfl, ?_⟩; conv => whnf)
      obtain ⟨b13, rfl⟩ : ∃ q, q = al24 := ⟨al24, rfl⟩
      refine V.CallsUse (cE (SA.of_row (hp.get (i := 1) rfl))) fun w hx => ?_
      try (have hp := hp.call hx)
      conv => whnf
      refine hKq _ _ _ (.refl _) ?_
      clear hKq Kq
      conv => whnf
      refine VSeq.mk fun Kq hKq => ?_
      conv => whnf
      clear cE
      skip
      refine Calls.mono (Decode_c S (by unfold maxLen; omega)) ?_
      rintro e w (⟨-, v5, rfl, hr⟩ | ⟨h0, -⟩)
      rotate_left
      · exact absurd d0 h0
      rw [d1, d2, d3, d4] at *
      refine ⟨_, rfl, ?_⟩
      have hp := hp.join hr
      clear hr
      simp only [List.cons_append, List.nil_append] at hp
      obtain ⟨p5, c5, rfl⟩ := row_shape (hp.get (i := 0) rfl)
      conv => whnf
      (refine hp.kalloc z24 fun al24 w hp hx => ?_; conv => whnf)
      (refine hp.kstA TTok rfl 0 rfl rfl (oneC_of rfl) (by rfl) fun w hp => ?_; try simp only [List.set_cons_zero, List.set_cons_succ, EV.val] at hp; conv => whnf)
      (refine hKq _ _ _ (.refl _) ?_; clear hKq Kq; conv => whnf)
      (refine VSeq.mk fun Kq hKq => ?_; conv => whnf)
      obtain ⟨b17, rfl⟩ : ∃ q, q = al24 := ⟨al24, rfl⟩
      have hp : HpM [] W w [blk b17 [.int .i64 c, .int .i64 m, .string id, .slice p5 al4.length c5] 24, row 54 2 (.slice p5 al4.length c5) al4.length (flatC al4), blk b13 [.int .i64 c, .int .i64 m, .string id, .slice p4 al4.length c4] 24, row 54 2 (.slice p4 al4.length c4) al4.length (flatC al4), blk b12 [.int .i64 c, .int .i64 m, .string id, .slice p3 al3.length c3] 24, row 54 2 (.slice p3 al3.length c3) al3.length (flatC al3), blk b10 [.int .i64 c, .int .i64 m, .string id, .slice p2 al2.length c2] 24, row 54 2 (.slice p2 al2.length c2) al2.length (flatC al2)] := hp
      have f1 := fun {w : World} hx => Verify_c (W := w) (v := .slice p3 al3.length c3) (al := al3) c m id key hx
      rw [vL] at f1
      have f2 := fun {w : World} hx => Marked_c (W := w) (v := .slice p2 al2.length c2) (al := al2) c m id hx
      rw [mP] at f2
      have f3 := fun {w : World} hx hy => Same8_c (W := w) (v := .slice p5 al4.length c5) (u := .slice p4 al4.length c4) (al := al4) (bl := al4) c m id c m id hx hy oQ oQ
      rw [sameB_t ⟨rfl, rfl, rfl, rfl⟩] at f3
      have f4 := fun {w : World} hx => Verify_c (W := w) (v := .slice p5 al4.length c5) (al := al4) c m id key hx
      rw [vQ] at f4
      have f5 := fun {w : World} hx => Marked_c (W := w) (v := .slice p5 al4.length c5) (al := al4) c m id hx
      rw [mQ] at f5
      have f6 := fun {w : World} hx => Mark_has (W := w) (v := .slice p4 al4.length c4) (al := al4) c m id hx kQ kQ9
      have f7 := fun {w : World} hx => Protect_has (W := w) (v := .slice p4 al4.length c4) (al := al4) c m id key hx kQ (by omega) (.inl kQ8)
      refine v_mixA TTok FFok mixed [(0, false), (1, false), (2, false), (3, false), (4, false), (5, false), (6, false), (7, false), (8, false), (9, false), (10, false), (11, false), (12, false), (13, false), (14, false), (15, false), (16, false), (17, false), (18, false), (19, false), (20, false), (21, false), (22, false), (23, false), (24, false), (25, false), (26, false), (27, false), (28, false), (29, false), (30, false), (31, false), (32, false), (33, false), (34, false), (35, false), (36, false), (37, false), (39, false), (38, true), (40, false), (41, false), (42, false), (43, false), (44, false), (45, false), (47, false), (48, false), (46, true), (49, false), (50, false), (51, false), (52, false), (53, false), (54, false)] (by kernel_rfl) ?_
      conv => whnf
      (refine ⟨_, fun w' hx' => Blk.ldV (vs := [_, _, _, _]) (Blk.ext (hp.get (i := 4) rfl) hx') TTok rfl rfl rfl, ?_⟩; conv => whnf)
      refine ⟨_, fun w1 hx1 => f1 ((SA.of_row (hp.get (i := 5) rfl)).ext hx1), ?_⟩
      conv => whnf
      (refine And.intro (fun _ => ?_) (fun h => absurd (by first | rfl | assumption | omega | decide) (of_decide_eq_false h)); conv => whnf)
      (refine ⟨_, fun w' hx' => Blk.ldV (vs := [_, _, _, _]) (Blk.ext (hp.get (i := 6) rfl) hx') TTok rfl rfl rfl, ?_⟩; conv => whnf)
      refine ⟨_, fun w1 hx1 => f2 ((SA.of_row (hp.get (i := 7) rfl)).ext hx1), ?_⟩
      conv => whnf
      (refine And.intro (fun _ => ?_) (fun h => absurd (by first | rfl | assumption | omega | decide) (of_decide_eq_false h)); conv => whnf)
      (refine And.intro (fun _ => ?_) (fun h => absurd (by first | rfl | assumption | omega | decide) (of_decide_eq_false h)); conv => whnf)
      (refine And.intro (fun _ => ?_) (fun h => absurd (by first | rfl | assumption | omega | decide) (of_decide_eq_false h)); conv => whnf)
      (refine And.intro (fun _ => ?_) (fun h => absurd (by first | rfl | assumption | omega | decide) (of_decide_eq_false h)); conv => whnf)
      (refine ⟨_, fun w' hx' => Blk.ldV (vs := [_, _, _, _]) (Blk.ext (hp.get (i := 0) rfl) hx') TTok rfl rfl rfl, ?_⟩; conv => whnf)
      (refine ⟨_, fun w' hx' => Blk.ldV (vs := [_, _, _, _]) (Blk.ext (hp.get (i := 2) rfl) hx') TTok rfl rfl rfl, ?_⟩; conv => whnf)
      refine ⟨_, fun w1 hx1 => f3 ((SA.of_row (hp.get (i := 1) rfl)).ext hx1) ((SA.of_row (hp.get (i := 3) rfl)).ext hx1), ?_⟩
      conv => whnf
      (refine And.intro (fun _ => ?_) (fun h => absurd h (by decide)); conv => whnf)
      (refine ⟨_, fun w' hx' => Blk.ldV (vs := [_, _, _, _]) (Blk.ext (hp.get (i := 0) rfl) hx') TTok rfl rfl rfl, ?_⟩; conv => whnf)
      refine ⟨_, fun w1 hx1 => f4 ((SA.of_row (hp.get (i := 1) rfl)).ext hx1), ?_⟩
      conv => whnf
      (refine And.intro (fun _ => ?_) (fun h => absurd (by first | rfl | assumption | omega | decide) (of_decide_eq_false h)); conv => whnf)
      (refine ⟨_, fun w' hx' => Blk.ldV (vs := [_, _, _, _]) (Blk.ext (hp.get (i := 0) rfl) hx') TTok rfl rfl rfl, ?_⟩; conv => whnf)
      refine ⟨_, fun w1 hx1 => f5 ((SA.of_row (hp.get (i := 1) rfl)).ext hx1), ?_⟩
      conv => whnf
      (refine And.intro (fun _ => ?_) (fun h => absurd (by first | rfl | assumption | omega | decide) (of_decide_eq_false h)); conv => whnf)
      (refine ⟨_, fun w' hx' => Blk.ldV (vs := [_, _, _, _]) (Blk.ext (hp.get (i := 2) rfl) hx') TTok rfl rfl rfl, ?_⟩; conv => whnf)
      (intro w hx; try (have hp := hp.call hx); conv => whnf)
      refine Calls.mono (refuses_c hp _) ?_
      rintro _ w ⟨v, rfl, bb, rfl, hp, hx⟩
      refine ⟨_, rfl, ?_⟩
      conv => whnf
      refine And.intro hx ?_
      conv => whnf
      skip
      refine ⟨_, fun w1 hx1 => f6 ((SA.of_row (hp.get (i := 4) rfl)).ext hx1), ?_⟩
      conv => whnf
      skip
      refine ⟨_, fun w1 hx1 => refuses_in (Blk.ext (hp.get (i := 0) rfl) hx1), ?_⟩
      conv => whnf
      (refine And.intro (fun _ => ?_) (fun h => absurd h (by decide)); conv => whnf)
      (refine ⟨_, fun w' hx' => Blk.ldV (vs := [_, _, _, _]) (Blk.ext (hp.get (i := 3) rfl) hx') TTok rfl rfl rfl, ?_⟩; conv => whnf)
      (intro w hx; try (have hp := hp.call hx); conv => whnf)
      refine Calls.mono (refuses_c hp _) ?_
      rintro _ w ⟨v, rfl, bb, rfl, hp, hx⟩
      refine ⟨_, rfl, ?_⟩
      conv => whnf
      refine And.intro hx ?_
      conv => whnf
      skip
      refine ⟨_, fun w1 hx1 => f7 ((SA.of_row (hp.get (i := 5) rfl)).ext hx1), ?_⟩
      conv => whnf
      skip
      refine ⟨_, fun w1 hx1 => refuses_in (Blk.ext (hp.get (i := 0) rfl) hx1), ?_⟩
      conv => whnf
      (intro w hx; try (have hp := hp.call hx); conv => whnf)
      (refine hKq _ _ _ (.refl _) ?_; clear hKq Kq; conv => whnf)
      exact ⟨rfl, hp.ext⟩
    clear hKq
    refine v_mt TTok FFok mixed 15 (.q 0 (.q 1 (.q 2 (.q 3 (.q 4 (.q 5 (.q 6 (.q 7 (.q 8 (.q 9 (.q 10 (.q 11 (.br 12 14 (.br 13 14 (.m 14 .nil) (.m 13 .nil)) (.m 12 (.m 13 .nil))))))))))))))) (by kernel_rfl) ?_
    conv => whnf
    (refine ⟨_, fun w' hx' => Blk.ldV (vs := [_, _, _, _]) (Blk.ext (hp.get (i := 0) rfl) hx') TTok rfl rfl rfl, ?_⟩; conv => whnf)
    (refine ⟨_, fun w' hx' => Blk.ld (Blk.ext (hp.get (i := 2) rfl) hx') TTok rfl rfl, ?_⟩; conv => whnf)
    (refine Or.inl (And.intro (by first | omega | decide) ?_); conv => whnf)
    (refine ⟨_, fun w' hx' => Blk.ld (Blk.ext (hp.get (i := 2) rfl) hx') TTok rfl rfl, ?_⟩; conv => whnf)
    (refine ⟨_, fun w' hx' => Blk.ld (Blk.ext (hp.get (i := 2) rfl) hx') TTok rfl rfl, ?_⟩; conv => whnf)
    refine ⟨min s.size 60, ⟨by omega, by omega⟩, ?_⟩
    conv => whnf
    (refine ⟨_, fun w' hx' => bld54_0_1 w' _ _, ?_⟩; conv => whnf)
    rw [ht]
    conv => whnf
    refine And.intro ?_ ?_
    · intro w hx
      try (have hp := hp.call hx)
      conv => whnf
      refine hp.kmade _ _ (fun b => .slice (some ⟨b, 0, none⟩) 1 1) (mks22_1_0 _ (.int .i64 kd) (.string t)) fun tb w hp hx => ?_
      conv => whnf
      refine And.intro hx ?_
      conv => whnf
      refine And.intro ?_ ?_
      · intro w hx
        try (have hp := hp.call hx)
        conv => whnf
        have hd : SA w (.slice (some ⟨tb, 0, none⟩) 1 1) [((kd : Int), t)] := SA.of_blk (hp.get (i := 0) rfl) rfl (by unfold maxLen; decide)
        refine Calls.mono (with8_c c m id (SA.of_row (hp.get (i := 2) rfl)) hd hl2 (by simp)) ?_
        rintro _ w ⟨_, rfl, v3, rfl, hr⟩
        refine ⟨_, rfl, ?_⟩
        have hx := hr.ext
        have hp := hp.join hr
        clear hr hd
        simp only [List.cons_append, List.nil_append] at hp
        obtain ⟨p3, c3, rfl⟩ := row_shape (hp.get (i := 0) rfl)
        conv => whnf
        refine And.intro hx ?_
        conv => whnf
        intro w hx
        try (have hp := hp.call hx)
        conv => whnf
        refine hp.kalloc z24 fun b12 w hp hx => ?_
        conv => whnf
        refine And.intro hx ?_
        conv => whnf
        have hp := hp.pick [0, 1, 3, 4] (by decide)
        have hp : HpM [] W w [blk b12 [.int .i64 0, .int .i64 0, .string ⟨#[]⟩, .slice none 0 0] 24, row 54 2 (.slice p3 (al2 ++ [((kd : Int), t)]).length c3) (al2 ++ [((kd : Int), t)]).length (flatC (al2 ++ [((kd : Int), t)])), blk b10 [.int .i64 c, .int .i64 m, .string id, .slice p2 al2.length c2] 24, row 54 2 (.slice p2 al2.length c2) al2.length (flatC al2)] := hp
        intro w hx
        try (have hp := hp.call hx)
        conv => whnf
        (refine hp.kstA TTok rfl 0 rfl rfl (oneC_of rfl) (by rfl) fun w hp => ?_; try simp only [List.set_cons_zero, List.set_cons_succ, EV.val] at hp; conv => whnf)
        exact hK _ _ _ _ hp _ (sub_cons rfl (sub_cons rfl (sub_cons rfl sub_nil)))
      · intro w hx
        try (have hp := hp.call hx)
        conv => whnf
        refine hp.kalloc z24 fun b12 w hp hx => ?_
        conv => whnf
        refine And.intro hx ?_
        conv => whnf
        intro w hx
        try (have hp := hp.call hx)
        conv => whnf
        have hd : SA w (.slice (some ⟨tb, 0, none⟩) 1 1) [((kd : Int), t)] := SA.of_blk (hp.get (i := 1) rfl) rfl (by unfold maxLen; decide)
        refine Calls.mono (with8_c c m id (SA.of_row (hp.get (i := 3) rfl)) hd hl2 (by simp)) ?_
        rintro _ w ⟨_, rfl, v3, rfl, hr⟩
        refine ⟨_, rfl, ?_⟩
        have hx := hr.ext
        have hp := hp.join hr
        clear hr hd
        simp only [List.cons_append, List.nil_append] at hp
        obtain ⟨p3, c3, rfl⟩ := row_shape (hp.get (i := 0) rfl)
        conv => whnf
        refine And.intro hx ?_
        conv => whnf
        have hp := hp.pick [1, 0, 3, 4] (by decide)
        have hp : HpM [] W w [blk b12 [.int .i64 0, .int .i64 0, .string ⟨#[]⟩, .slice none 0 0] 24, row 54 2 (.slice p3 (al2 ++ [((kd : Int), t)]).length c3) (al2 ++ [((kd : Int), t)]).length (flatC (al2 ++ [((kd : Int), t)])), blk b10 [.int .i64 c, .int .i64 m, .string id, .slice p2 al2.length c2] 24, row 54 2 (.slice p2 al2.length c2) al2.length (flatC al2)] := hp
        intro w hx
        try (have hp := hp.call hx)
        conv => whnf
        (refine hp.kstA TTok rfl 0 rfl rfl (oneC_of rfl) (by rfl) fun w hp => ?_; try simp only [List.set_cons_zero, List.set_cons_succ, EV.val] at hp; conv => whnf)
        exact hK _ _ _ _ hp _ (sub_cons rfl (sub_cons rfl (sub_cons rfl sub_nil)))
    · intro w hx
      try (have hp := hp.call hx)
      conv => whnf
      refine hp.kalloc z24 fun b12 w hp hx => ?_
      conv => whnf
      refine And.intro hx ?_
      conv => whnf
      intro w hx
      try (have hp := hp.call hx)
      conv => whnf
      refine hp.kmade _ _ (fun b => .slice (some ⟨b, 0, none⟩) 1 1) (mks22_1_0 _ (.int .i64 kd) (.string t)) fun tb w hp hx => ?_
      conv => whnf
      refine And.intro hx ?_
      conv => whnf
      intro w hx
      try (have hp := hp.call hx)
      conv => whnf
      have hd : SA w (.slice (some ⟨tb, 0, none⟩) 1 1) [((kd : Int), t)] := SA.of_blk (hp.get (i := 0) rfl) rfl (by unfold maxLen; decide)
      refine Calls.mono (with8_c c m id (SA.of_row (hp.get (i := 3) rfl)) hd hl2 (by simp)) ?_
      rintro _ w ⟨_, rfl, v3, rfl, hr⟩
      refine ⟨_, rfl, ?_⟩
      have hx := hr.ext
      have hp := hp.join hr
      clear hr hd
      simp only [List.cons_append, List.nil_append] at hp
      obtain ⟨p3, c3, rfl⟩ := row_shape (hp.get (i := 0) rfl)
      conv => whnf
      refine And.intro hx ?_
      conv => whnf
      have hp := hp.pick [2, 0, 3, 4] (by decide)
      have hp : HpM [] W w [blk b12 [.int .i64 0, .int .i64 0, .string ⟨#[]⟩, .slice none 0 0] 24, row 54 2 (.slice p3 (al2 ++ [((kd : Int), t)]).length c3) (al2 ++ [((kd : Int), t)]).length (flatC (al2 ++ [((kd : Int), t)])), blk b10 [.int .i64 c, .int .i64 m, .string id, .slice p2 al2.length c2] 24, row 54 2 (.slice p2 al2.length c2) al2.length (flatC al2)] := hp
      intro w hx
      try (have hp := hp.call hx)
      conv => whnf
      (refine hp.kstA TTok rfl 0 rfl rfl (oneC_of rfl) (by rfl) fun w hp => ?_; try simp only [List.set_cons_zero, List.set_cons_succ, EV.val] at hp; conv => whnf)
      exact hK _ _ _ _ hp _ (sub_cons rfl (sub_cons rfl (sub_cons rfl sub_nil)))
theorem piece_rd {w : World} {cs : List Value} (h : Rd w sh8P cs) : ∃ (a k : Nat) (s : ByteArray), a < 256 ∧ k < 65536 ∧ s.size ≤ maxLen ∧ cs = [.int .u8 a, .int .u16 k, .string s] := by
  obtain ⟨_, _, rfl, h1, _, _, rfl, h2, _, _, rfl, ⟨s, rfl, hs⟩, h3⟩ := h
  obtain rfl : _ = [] := h3
  obtain ⟨a, ha, rfl⟩ := u8_rd h1
  obtain ⟨k, hk, rfl⟩ := u16_rd h2
  exact ⟨a, k, s, ha, hk, hs, rfl⟩
theorem holds_at {W : World} {c0 c2 : Array Value} {a1 : ByteArray} (e0 : Rd W sh8M c0.toList) (w1 : a1.size ≤ maxLen) (e2 : Rd W sh8P c2.toList) :
    Calls Tryz.prog 9 #[.agg c0, .string a1, .agg c2] W fun e w' => e = .returned (.bool true) ∧ Ext W w' := by
  obtain ⟨c8, m16, id, v, ps, h1, h2, h3, hv, hps, h0⟩ := draft_rd e0
  obtain ⟨wh, kd, s, k1, k2, k3, k0⟩ := piece_rd e2
  have h0 : c0 = #[.int .u8 c8, .int .u16 m16, .string id, v] := Array.ext' h0
  have k0 : c2 = #[.int .u8 wh, .int .u16 kd, .string s] := Array.ext' k0
  subst h0 k0
  exact holds_c c8 m16 id a1 wh kd s hv hps h1 h2 h3 w1 k1 k2 k3
end Go.Proofs.YtmlmfmdmomegpaaGreatDoor
namespace Go.Proofs.YtmlmfmdmomegpaaGreatDoor.stunHolds
open Go.ChangeShapes Go.WideShapes Go.ChangeAt Go.RowKit
open Go.ChangeMaps (open_string shut_string)
set_option linter.unusedVariables false
theorem own : ownKnob Tryz.prog.godebug = none := by kernel_rfl
theorem laidOut : laidOutB Tryz.prog = true := by kernel_rfl
def laid2 : List (String × DataW Unit) := [("unicode/utf8.acceptRanges", Rows.laid_unicode_utf8_acceptRanges), ("unicode/utf8.first", Rows.laid_unicode_utf8_first)]
set_option maxRecDepth 100000 in
theorem lifted (os : Os) (started : os.Started) (H : Type) (enc : TypeId × Value → H) :
    ReturnsInHanded {} Tryz.checked os 9 .any (fun w args => (Rows.stunHoldsSpec.pre enc Tryz.prog Tryz.f9 [] false w args ∧ laidMetH Tryz.prog laid2 w) ∧ sizedMet enc Tryz.prog Tryz.f9 (OpenSpec.ofChange Rows.stunHoldsSpec) false w args) (Rows.stunHoldsSpec.post enc Tryz.prog Tryz.f9 false true false false) := by
  refine returnsInHanded_of_change_and (C := Tryz.checked) (X := fun w _ => laidMetH Tryz.prog laid2 w) (fun _ _ _ hh h => h.of_heap hh) own started (by kernel_rfl) Tryz.func9
    (ChangeSpec.witness_shaped (enc := enc) (C := Tryz.checked) (os := os) (X := fun w _ => laidMetH Tryz.prog laid2 w) false (World.laidAll Tryz.prog os laid2) #[.agg #[.int .u8 0, .int .u16 0, .string ByteArray.empty, .slice none 0 0], .string ByteArray.empty, .agg #[.int .u8 0, .int .u16 0, .string ByteArray.empty]] 8 (World.laidAll_os _ _ _) (World.shaped_of_ZipB (by kernel_rfl) (by kernel_rfl)) (by kernel_rfl) (by kernel_rfl) (by kernel_rfl) (by rw [MakeChecks.laidMetH_plain _ _ _ (by kernel_rfl)]; exact laidMet_laidAll _ (by kernel_rfl) (by kernel_rfl))) ?_
  intro W base args ds gs before hval0 hW hcnd hsz0 hL _
  have hval : ∀ (j : Nat) t v, Tryz.f9.params[j]? = some t → args[j]? = some v → Value.okWide Tryz.prog W .any base t v := hval0
  have hW' := hW
  obtain ⟨p, q, hA0, hV, rfl, hfz, hnd⟩ := hW
  have hA : DataW.TrodAll enc Tryz.prog W 0 (fun _ => true) true Tryz.f9.params.toList args.toList ds p := hA0
  rw [Tryz.params9] at hA hval
  obtain ⟨v0, vs0, d0, ds0, p0, q0, hargs, rfl, rfl, h0, r0⟩ := trodAll_cons hA
  obtain ⟨v1, vs1, d1, ds1, p1, q1, rfl, rfl, rfl, h1, r1⟩ := trodAll_cons r0
  obtain ⟨v2, vs2, d2, ds2, p2, q2, rfl, rfl, rfl, h2, r2⟩ := trodAll_cons r1
  obtain ⟨rfl, rfl, rfl⟩ := trodAll_nil r2
  obtain rfl : args = #[v0, v1, v2] := by cases args; simp_all
  obtain ⟨rfl, rfl⟩ := trodVars_none hV
  have k0 := h0
  have lt0 : ∀ x ∈ p0, x.block < W.heap.size := by obtain ⟨m, hm⟩ := k0; exact DataW.trod_lt m _ _ _ hm
  obtain ⟨c0, rfl, e0⟩ := V.rd_ag (s := (.cons (.int .u8) (.cons (.int .u16) (.cons .str (.cons (.sl (.ag (.cons (.int .u8) (.cons (.int .u16) (.cons .str .nil))))) .nil))))) (by kernel_rfl) (hval 0 28 v0 rfl rfl) h0
  have k1 := h1
  have lt1 : ∀ x ∈ p1, x.block < W.heap.size := by obtain ⟨m, hm⟩ := k1; exact DataW.trod_lt m _ _ _ hm
  obtain ⟨a1, rfl, rfl, rfl, w1⟩ := open_string Tryz.underlying9 (hval 1 9 v1 rfl rfl) h1
  have k2 := h2
  have lt2 : ∀ x ∈ p2, x.block < W.heap.size := by obtain ⟨m, hm⟩ := k2; exact DataW.trod_lt m _ _ _ hm
  obtain ⟨c2, rfl, e2⟩ := V.rd_ag (s := (.cons (.int .u8) (.cons (.int .u16) (.cons .str .nil)))) (by kernel_rfl) (hval 2 99 v2 rfl rfl) h2
  clear hA0 hval0
  refine (holds_at e0 w1 e2).mono fun e W' ⟨he, bel⟩ => ?_
  have bel : Below W.heap.size W W' := bel
  subst he
  exact ⟨_, rfl, _, _, _, [], _, [], hW', trodAll_mk1 (shut_bool Tryz.underlying4 _), (trodAll_cons_mk (Below.trod laidOut (by kernel_rfl) (of_decide_eq_true (by kernel_rfl)) k0 bel lt0) (trodAll_cons_mk (Below.trod laidOut (by kernel_rfl) (of_decide_eq_true (by kernel_rfl)) k1 bel lt1) (trodAll_cons_mk (Below.trod laidOut (by kernel_rfl) (of_decide_eq_true (by kernel_rfl)) k2 bel lt2) trodAll_mk0))), rfl, bel.frame _, fun h => by cases h⟩

theorem over : Rows.stunHoldsRow.holds Tryz.pinned (OpenSpec.ofChange Rows.stunHoldsSpec) :=
  OpenClaim.holds_of_wide 9 Tryz.f9 rfl rfl rfl rfl rfl rfl rfl ⟨rfl, rfl, rfl, rfl, rfl⟩ rfl rfl rfl rfl rfl (by kernel_rfl) Tryz.func9 (by kernel_rfl)
    (of_decide_eq_true (by kernel_rfl)) (by unfold Func.isWrapper; first | (rw [if_pos (by decide +kernel)]; kernel_rfl) | (rw [if_neg (by decide +kernel)]; exact ⟨rfl, rfl⟩))
    (fun os started H enc _ => lifted os started H enc)

theorem proved : Rows.StunHoldsCardSaid :=
  Claim7.holds_tied_plain_at .later [] [.data, .pinned] true (true, "5f27dd6ed70dca3cf563e9660767357bc6414374a73c6f1dd9ec93831559d27f") true
    over (fun _ h => by cases h) (by kernel_rfl) (fun _ h => by cases h) stunHolds_row_tie rfl ⟨rfl, rfl⟩ (by kernel_rfl) rfl
    (fun f fn hf hfn => by
      obtain rfl : f = 9 := Option.some.inj ((show Tryz.prog.funcNamed "tannoy/tannoylaw08.StunHolds" = some 9 by kernel_rfl).symm.trans hf) |>.symm
      obtain rfl : fn = Tryz.f9 := (Option.some.inj (Tryz.func9.symm.trans hfn)).symm
      exact ⟨by kernel_rfl, fun j t ht => by
        rw [Tryz.params9] at ht
        have hm : t ∈ [28, 9, 99] := by simpa using Array.mem_of_getElem? ht
        have hall : ([28, 9, 99].all fun u => !Tryz.prog.wantsStandIn u) = true := by kernel_rfl
        exact (show Tryz.prog.wantsStandIn t = false by simpa using List.all_eq_true.1 hall t hm)⟩)
    (by kernel_rfl)
#print axioms proved
end Go.Proofs.YtmlmfmdmomegpaaGreatDoor.stunHolds
