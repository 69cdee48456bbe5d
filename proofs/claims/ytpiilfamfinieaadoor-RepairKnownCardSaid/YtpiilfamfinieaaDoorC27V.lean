/- Chapter 27: works. -/
import Derived.Test.YtpiilfamfinieaaDoorC27Z
namespace Go.Proofs.YtpiilfamfinieaaDoor
set_option linter.unusedSimpArgs false
set_option linter.unusedVariables false
open Go.RowKit V
def sqL : List ByteArray := [(⟨#[97]⟩ : ByteArray), (⟨#[98, 99]⟩ : ByteArray), (⟨#[]⟩ : ByteArray), (⟨#[100]⟩ : ByteArray)]
theorem sq_block : blockB (2 * 2) sqL = true := by decide +kernel
theorem sq3_block : blockB (2 * 2) (sqL.take 3) = false := by decide +kernel
theorem sq_rows : (coversB 2 2 sqL).take 2 = [⟨#[0, 3, 3, 99]⟩, ⟨#[0, 1, 100]⟩] := by decide +kernel
theorem sq_cols : (coversB 2 2 sqL).drop 2 = [⟨#[0, 1, 97]⟩, ⟨#[0, 3, 6, 99]⟩] := by decide +kernel
theorem sq_plan : (planL 2 2 7 3 3).1 = [(1, 2), (2, 0), (0, 1)] := by decide +kernel
theorem sq_stuck1 : (planL 2 2 15 3 3).2 = 15 := by decide +kernel
theorem sq_stuck2 : (planL 2 2 9 3 0).2 = 0 := by decide +kernel
theorem sq_stuck3 : (planL 2 2 3 3 0).2 = 3 := by decide +kernel
theorem sq_rep : repF 2 2 ([⟨#[0, 3, 3, 99]⟩, (⟨#[]⟩ : ByteArray)] ++ [(⟨#[63]⟩ : ByteArray), (⟨#[]⟩ : ByteArray)]) (planL 2 2 2 1 0).1 (lostL 2 [(⟨#[97]⟩ : ByteArray), (⟨#[120, 121, 122]⟩ : ByteArray), (⟨#[]⟩ : ByteArray), (⟨#[100]⟩ : ByteArray)] 4) = some sqL := by decide +kernel
theorem sq_left : (planL 2 2 2 1 0).2 = 0 := by decide +kernel
theorem sq_block2 : blockB (2 * 2) [(⟨#[97]⟩ : ByteArray), (⟨#[120, 121, 122]⟩ : ByteArray), (⟨#[]⟩ : ByteArray), (⟨#[100]⟩ : ByteArray)] = true := by decide +kernel
theorem plan_no_shape : ¬ Shp 7 1 := by unfold Shp; omega
theorem fits16 : PureF Tryd.prog 40 #[.agg #[.int .i64 2, .int .i64 2], .int .u64 16, .int .u64 0, .int .u64 0] (.bool false) := by
  have h := fits_ok 2 2 16 0 0 (by unfold Shp; omega)
  rw [show setsB 2 2 16 0 0 = false by decide] at h
  exact h
theorem shp22 : Shp ((2 : Nat) : Int) ((2 : Nat) : Int) := by unfold Shp; omega
set_option maxHeartbeats 4000000 in
theorem works_c {W : World} (hg : Good W) : Calls Tryd.prog 19 #[] W fun e w' => e = .returned (.bool true) ∧ Ext W w' := by
  refine v_reads (args := []) TTok FFok Tryd.func19 rfl rfl ?_
  have hp := Hp.nil W
  conv => whnf
  refine VSeq.mk fun Kq hKq => ?_
  conv => whnf
  refine hKq _ _ _ (V.Sub.refl _) ?_
  clear hKq Kq
  conv => whnf
  refine VSeq.mk fun Kq hKq => ?_
  conv => whnf
  refine MakesF.use (square_f) hp fun v1 w hp hx => ?_
  simp only [List.cons_append, List.nil_append] at hp
  conv => whnf
  obtain ⟨p1, c1, rfl⟩ := row_shape (hp.get (i := 0) rfl)
  conv => whnf
  refine (Cover_c 2 2 shp22 sqL (SLv.of_row (hp.get (i := 0) rfl)) sq_block).mono ?_
  rintro e w ⟨u, rfl, va, vb, rfl, hq⟩
  rw [sq_rows, sq_cols] at hq
  refine ⟨_, rfl, ?_⟩
  have hp := hp.join hq
  obtain ⟨pa, ca, rfl⟩ := row_shape (hp.get (i := 0) rfl)
  obtain ⟨pb, cb, rfl⟩ := row_shape (hp.get (i := 1) rfl)
  clear hq
  conv => whnf
  refine hKq _ _ _ (V.Sub.refl _) ?_
  clear hKq Kq
  conv => whnf
  refine VSeq.mk fun Kq hKq => ?_
  conv => whnf
  refine (Plan_c (hg.ext hp.ext) 2 2 7 3 3 shp22 (by decide)).mono ?_
  rintro e w ⟨u, rfl, vp, rfl, hq⟩
  rw [sq_plan] at hq
  refine ⟨_, rfl, ?_⟩
  have hp := hp.join hq
  obtain ⟨pp, cp, rfl⟩ := row_shape (hp.get (i := 0) rfl)
  clear hq
  conv => whnf
  refine hKq _ _ _ (V.Sub.refl _) ?_
  clear hKq Kq
  conv => whnf
  refine VSeq.mk fun Kq hKq => ?_
  conv => whnf
  refine hp.kmadeR (sw [(⟨#[97]⟩ : ByteArray), (⟨#[120, 121, 122]⟩ : ByteArray), (⟨#[]⟩ : ByteArray), (⟨#[100]⟩ : ByteArray)]) 9 1 4 rfl (by decide) (by kernel_rfl) fun b1 w hp hx => ?_
  conv => whnf
  refine hp.kmadeR (sw [⟨#[0, 3, 3, 99]⟩, (⟨#[]⟩ : ByteArray)]) 9 1 2 rfl (by decide) (by kernel_rfl) fun b2 w hp hx => ?_
  conv => whnf
  refine hp.kmadeR (sw [(⟨#[63]⟩ : ByteArray), (⟨#[]⟩ : ByteArray)]) 9 1 2 rfl (by decide) (by kernel_rfl) fun b3 w hp hx => ?_
  conv => whnf
  have hrp := Repair_c (hg.ext hp.ext) 2 2 2 1 0 shp22 (by decide) _ _ _ [(⟨#[97]⟩ : ByteArray), (⟨#[120, 121, 122]⟩ : ByteArray), (⟨#[]⟩ : ByteArray), (⟨#[100]⟩ : ByteArray)] [⟨#[0, 3, 3, 99]⟩, (⟨#[]⟩ : ByteArray)] [(⟨#[63]⟩ : ByteArray), (⟨#[]⟩ : ByteArray)] (SLv.of_row (hp.get (i := 2) rfl)) (SLv.of_row (hp.get (i := 1) rfl)) (SLv.of_row (hp.get (i := 0) rfl)) sq_block2 rfl rfl (by decide)
  rw [show [(⟨#[97]⟩ : ByteArray), (⟨#[120, 121, 122]⟩ : ByteArray), (⟨#[]⟩ : ByteArray), (⟨#[100]⟩ : ByteArray)].length = 4 from rfl, sq_rep, sq_left] at hrp
  refine hrp.mono ?_
  rintro e w ⟨u, rfl, vl, rfl, hq⟩
  refine ⟨_, rfl, ?_⟩
  have hp := hp.join hq
  obtain ⟨pl, cl, rfl⟩ := row_shape (hp.get (i := 0) rfl)
  clear hq hrp
  conv => whnf
  refine hKq _ _ _ (V.Sub.refl _) ?_
  clear hKq Kq
  conv => whnf
  refine VSeq.mk fun Kq hKq => ?_
  conv => whnf
  refine V.CallsUse (Plan_no 7 1 0 0 0 0 0 (of_no 7 1 plan_no_shape) (fits_no 0 0 0)) fun w hx => ?_
  try (have hp := hp.call hx)
  conv => whnf
  refine hKq _ _ _ (V.Sub.refl _) ?_
  clear hKq Kq
  conv => whnf
  refine VSeq.mk fun Kq hKq => ?_
  conv => whnf
  refine V.CallsUse (Plan_no 2 2 2 2 16 0 0 (of_ok 2 2 (by unfold Shp; omega)) fits16) fun w hx => ?_
  try (have hp := hp.call hx)
  conv => whnf
  refine hKq _ _ _ (V.Sub.refl _) ?_
  clear hKq Kq
  conv => whnf
  refine VSeq.mk fun Kq hKq => ?_
  conv => whnf
  refine MakesF.use (square_f) hp fun v2 w hp hx => ?_
  simp only [List.cons_append, List.nil_append] at hp
  conv => whnf
  obtain ⟨p2, c2, rfl⟩ := row_shape (hp.get (i := 0) rfl)
  conv => whnf
  obtain ⟨v3, hr3, hs3⟩ := SLv.hi TTok (t := 22) rfl rfl (SLv.of_row (hp.get (i := 0) rfl)) 3 (by decide)
  have hs3 : SLv w v3 (sw (sqL.take 3)) := hs3
  refine ⟨_, _, hr3 _ _, ?_⟩
  conv => whnf
  refine V.CallsUse (Cover_grid 2 2 shp22 (sqL.take 3) hs3 sq3_block) fun w hx => ?_
  try (have hp := hp.call hx)
  conv => whnf
  refine hKq _ _ _ (V.Sub.refl _) ?_
  clear hKq Kq
  conv => whnf
  refine VSeq.mk fun Kq hKq => ?_
  conv => whnf
  refine VSeq.mk fun Kq hKq => ?_
  conv => whnf
  refine hKq _ _ _ (V.Sub.refl _) ?_
  clear hKq Kq
  conv => whnf
  refine VSeq.mk fun Kq hKq => ?_
  conv => whnf
  clear hr3 hs3
  refine And.intro (fun _ => ?_) (fun h => absurd ((by omega)) (of_decide_eq_false h))
  conv => whnf
  refine hp.kmadeR (sw [⟨#[0, 3, 3, 99]⟩, ⟨#[0, 1, 100]⟩]) 9 1 2 rfl (by decide) (by kernel_rfl) fun b4 w hp hx => ?_
  conv => whnf
  have hs1 := Same_c [⟨#[0, 3, 3, 99]⟩, ⟨#[0, 1, 100]⟩] [⟨#[0, 3, 3, 99]⟩, ⟨#[0, 1, 100]⟩] (SLv.of_row (hp.get (i := 7) rfl)) (SLv.of_row (hp.get (i := 0) rfl)) (by decide) (by decide)
  rw [decide_eq_true rfl] at hs1
  refine V.CallsUse (hs1) fun w hx => ?_
  try (have hp := hp.call hx)
  conv => whnf
  refine hKq _ _ _ (V.Sub.refl _) ?_
  clear hKq Kq
  conv => whnf
  refine VSeq.mk fun Kq hKq => ?_
  conv => whnf
  clear hs1
  refine And.intro (fun _ => ?_) (fun h => by cases h)
  conv => whnf
  refine hp.kmadeR (sw [⟨#[0, 1, 97]⟩, ⟨#[0, 3, 6, 99]⟩]) 9 1 2 rfl (by decide) (by kernel_rfl) fun b5 w hp hx => ?_
  conv => whnf
  have hs1 := Same_c [⟨#[0, 1, 97]⟩, ⟨#[0, 3, 6, 99]⟩] [⟨#[0, 1, 97]⟩, ⟨#[0, 3, 6, 99]⟩] (SLv.of_row (hp.get (i := 9) rfl)) (SLv.of_row (hp.get (i := 0) rfl)) (by decide) (by decide)
  rw [decide_eq_true rfl] at hs1
  refine V.CallsUse (hs1) fun w hx => ?_
  try (have hp := hp.call hx)
  conv => whnf
  refine hKq _ _ _ (V.Sub.refl _) ?_
  clear hKq Kq
  conv => whnf
  refine VSeq.mk fun Kq hKq => ?_
  conv => whnf
  clear hs1
  refine And.intro (fun _ => ?_) (fun h => by cases h)
  conv => whnf
  refine hKq _ _ _ (V.Sub.refl _) ?_
  clear hKq Kq
  conv => whnf
  refine And.intro (fun _ => ?_) (fun h => absurd ((by omega)) (of_decide_eq_false h))
  conv => whnf
  refine ⟨.agg #[.int .i64 1, .int .i64 2], w, by kernel_rfl, ?_⟩
  conv => whnf
  refine ⟨.agg #[.int .i64 2, .int .i64 0], w, by kernel_rfl, ?_⟩
  conv => whnf
  refine ⟨.agg #[.int .i64 0, .int .i64 1], w, by kernel_rfl, ?_⟩
  conv => whnf
  refine hp.kmadeR (pw [(1, 2), (2, 0), (0, 1)]) 55 2 3 rfl (by decide) (by kernel_rfl) fun b6 w hp hx => ?_
  conv => whnf
  have hs1 := EqP_c [(1, 2), (2, 0), (0, 1)] [(1, 2), (2, 0), (0, 1)] (hp.get (i := 8) rfl) (hp.get (i := 0) rfl) (by decide) (by decide) (by decide) (by decide)
  rw [decide_eq_true rfl] at hs1
  refine V.CallsUse (hs1) fun w hx => ?_
  try (have hp := hp.call hx)
  conv => whnf
  refine hKq _ _ _ (V.Sub.refl _) ?_
  clear hKq Kq
  conv => whnf
  refine VSeq.mk fun Kq hKq => ?_
  conv => whnf
  refine VSeq.mk fun Kq hKq => ?_
  conv => whnf
  refine hKq _ _ _ (V.Sub.refl _) ?_
  clear hKq Kq
  conv => whnf
  refine VSeq.mk fun Kq hKq => ?_
  conv => whnf
  clear hs1
  have hs1 := stuck_c (hg.ext hp.ext) 15 3 3 15 (by decide)
  rw [sq_stuck1, decide_eq_true rfl] at hs1
  refine And.intro (fun _ => ?_) (fun h => by cases h)
  conv => whnf
  refine V.CallsUse (hs1) fun w hx => ?_
  try (have hp := hp.call hx)
  conv => whnf
  refine hKq _ _ _ (V.Sub.refl _) ?_
  clear hKq Kq
  conv => whnf
  refine VSeq.mk fun Kq hKq => ?_
  conv => whnf
  clear hs1
  have hs1 := stuck_c (hg.ext hp.ext) 9 3 0 0 (by decide)
  rw [sq_stuck2, decide_eq_true rfl] at hs1
  refine And.intro (fun _ => ?_) (fun h => by cases h)
  conv => whnf
  refine V.CallsUse (hs1) fun w hx => ?_
  try (have hp := hp.call hx)
  conv => whnf
  refine hKq _ _ _ (V.Sub.refl _) ?_
  clear hKq Kq
  conv => whnf
  refine VSeq.mk fun Kq hKq => ?_
  conv => whnf
  clear hs1
  have hs1 := stuck_c (hg.ext hp.ext) 3 3 0 3 (by decide)
  rw [sq_stuck3, decide_eq_true rfl] at hs1
  refine And.intro (fun _ => ?_) (fun h => by cases h)
  conv => whnf
  refine V.CallsUse (hs1) fun w hx => ?_
  try (have hp := hp.call hx)
  conv => whnf
  refine hKq _ _ _ (V.Sub.refl _) ?_
  clear hKq Kq
  conv => whnf
  refine VSeq.mk fun Kq hKq => ?_
  conv => whnf
  clear hs1
  refine And.intro (fun _ => ?_) (fun h => by cases h)
  conv => whnf
  refine hKq _ _ _ (V.Sub.refl _) ?_
  clear hKq Kq
  conv => whnf
  refine VSeq.mk fun Kq hKq => ?_
  conv => whnf
  refine And.intro (fun _ => ?_) (fun h => absurd ((by omega)) (of_decide_eq_false h))
  conv => whnf
  refine hKq _ _ _ (V.Sub.refl _) ?_
  clear hKq Kq
  conv => whnf
  refine VSeq.mk fun Kq hKq => ?_
  conv => whnf
  refine And.intro (fun _ => ?_) (fun h => absurd ((by omega)) (of_decide_eq_false h))
  conv => whnf
  refine MakesF.use (square_f) hp fun v5 w hp hx => ?_
  simp only [List.cons_append, List.nil_append] at hp
  conv => whnf
  obtain ⟨p5, c5, rfl⟩ := row_shape (hp.get (i := 0) rfl)
  conv => whnf
  have hs1 := Same_c sqL sqL (SLv.of_row (hp.get (i := 5) rfl)) (SLv.of_row (hp.get (i := 0) rfl)) (by decide) (by decide)
  rw [decide_eq_true rfl] at hs1
  refine V.CallsUse (hs1) fun w hx => ?_
  try (have hp := hp.call hx)
  conv => whnf
  refine hKq _ _ _ (V.Sub.refl _) ?_
  clear hKq Kq
  conv => whnf
  refine VSeq.mk fun Kq hKq => ?_
  conv => whnf
  clear hs1
  refine And.intro (fun _ => ?_) (fun h => by cases h)
  conv => whnf
  refine hKq _ _ _ (V.Sub.refl _) ?_
  clear hKq Kq
  conv => whnf
  refine VSeq.mk fun Kq hKq => ?_
  conv => whnf
  refine And.intro (fun _ => ?_) (fun h => absurd ((by omega)) (of_decide_eq_false h))
  conv => whnf
  refine hKq _ _ _ (V.Sub.refl _) ?_
  clear hKq Kq
  conv => whnf
  refine And.intro (fun _ => ?_) (fun h => absurd ((by omega)) (of_decide_eq_false h))
  conv => whnf
  refine hKq _ _ _ (V.Sub.refl _) ?_
  clear hKq Kq
  conv => whnf
  exact ⟨rfl, hp.ext⟩
end Go.Proofs.YtpiilfamfinieaaDoor
