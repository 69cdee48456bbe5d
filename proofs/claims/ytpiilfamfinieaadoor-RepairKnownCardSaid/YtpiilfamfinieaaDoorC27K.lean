/- Chapter 27: Plan, Stuck. -/
import Derived.Test.YtpiilfamfinieaaDoorC27G
import Derived.Test.YtpiilfamfinieaaDoorOB
namespace Go.Proofs.YtpiilfamfinieaaDoor
set_option linter.unusedSimpArgs false
set_option linter.unusedVariables false
open Go.RowKit V
theorem Plan_no {W : World} (r c R C : Int) (lost kr kc : Nat) (ho : PureF Tryd.prog 33 #[.int .i64 r, .int .i64 c] (.agg #[.int .i64 R, .int .i64 C]))
    (hf : PureF Tryd.prog 40 #[.agg #[.int .i64 R, .int .i64 C], .int .u64 lost, .int .u64 kr, .int .u64 kc] (.bool false)) :
    Calls Tryd.prog 21 #[.int .i64 r, .int .i64 c, .int .u64 lost, .int .u64 kr, .int .u64 kc] W fun e w' => e = .returned (.tuple #[.slice none 0 0, .int .i64 2]) ∧ Ext W w' := by
  refine v_reads TTok FFok Tryd.func21 rfl rfl ?_
  conv => whnf
  refine VSeq.mk fun Kq hKq => ?_
  conv => whnf
  refine hKq _ _ _ (V.Sub.refl _) ?_
  clear hKq Kq
  conv => whnf
  refine VSeq.mk fun Kq hKq => ?_
  conv => whnf
  have hp := Hp.nil W
  refine PureF.use (ho) fun w hx => ?_
  try (have hp := hp.call hx)
  conv => whnf
  refine hp.kalloc z75 fun hb w hp hx => ?_
  conv => whnf
  refine hp.kstA TTok rfl 0 rfl (by rfl) (by simp [Value.oneCell']) (by rfl) fun w hp => ?_
  try simp only [List.set_cons_zero, List.set_cons_succ, EV.val] at hp
  conv => whnf
  refine hKq _ _ _ (V.Sub.refl _) ?_
  clear hKq Kq
  conv => whnf
  refine VSeq.mk fun Kq hKq => ?_
  conv => whnf
  refine VSeq.mk fun Kq hKq => ?_
  conv => whnf
  refine ⟨_, _, Blk.ldN (hp.get (i := 0) rfl) TTok rfl (rfl), ?_⟩
  conv => whnf
  refine PureF.use (hf) fun w hx => ?_
  try (have hp := hp.call hx)
  conv => whnf
  refine hKq _ _ _ (V.Sub.refl _) ?_
  clear hKq Kq
  conv => whnf
  refine And.intro (fun _ => ?_) (fun h => by cases h)
  conv => whnf
  refine VSeq.mk fun Kq hKq => ?_
  conv => whnf
  refine hKq _ _ _ (V.Sub.refl _) ?_
  clear hKq Kq
  conv => whnf
  exact ⟨rfl, hp.ext⟩
theorem Stuck_no {W : World} (r c R C : Int) (lost kr kc : Nat) (ho : PureF Tryd.prog 33 #[.int .i64 r, .int .i64 c] (.agg #[.int .i64 R, .int .i64 C]))
    (hf : PureF Tryd.prog 40 #[.agg #[.int .i64 R, .int .i64 C], .int .u64 lost, .int .u64 kr, .int .u64 kc] (.bool false)) :
    Calls Tryd.prog 22 #[.int .i64 r, .int .i64 c, .int .u64 lost, .int .u64 kr, .int .u64 kc] W fun e w' => e = .returned (.tuple #[.int .u64 0, .int .i64 2]) ∧ Ext W w' := by
  refine v_reads TTok FFok Tryd.func22 rfl rfl ?_
  conv => whnf
  refine VSeq.mk fun Kq hKq => ?_
  conv => whnf
  refine hKq _ _ _ (V.Sub.refl _) ?_
  clear hKq Kq
  conv => whnf
  refine VSeq.mk fun Kq hKq => ?_
  conv => whnf
  have hp := Hp.nil W
  refine PureF.use (ho) fun w hx => ?_
  try (have hp := hp.call hx)
  conv => whnf
  refine hp.kalloc z75 fun hb w hp hx => ?_
  conv => whnf
  refine hp.kstA TTok rfl 0 rfl (by rfl) (by simp [Value.oneCell']) (by rfl) fun w hp => ?_
  try simp only [List.set_cons_zero, List.set_cons_succ, EV.val] at hp
  conv => whnf
  refine hKq _ _ _ (V.Sub.refl _) ?_
  clear hKq Kq
  conv => whnf
  refine VSeq.mk fun Kq hKq => ?_
  conv => whnf
  refine VSeq.mk fun Kq hKq => ?_
  conv => whnf
  refine ⟨_, _, Blk.ldN (hp.get (i := 0) rfl) TTok rfl (rfl), ?_⟩
  conv => whnf
  refine PureF.use (hf) fun w hx => ?_
  try (have hp := hp.call hx)
  conv => whnf
  refine hKq _ _ _ (V.Sub.refl _) ?_
  clear hKq Kq
  conv => whnf
  refine And.intro (fun _ => ?_) (fun h => by cases h)
  conv => whnf
  refine VSeq.mk fun Kq hKq => ?_
  conv => whnf
  refine hKq _ _ _ (V.Sub.refl _) ?_
  clear hKq Kq
  conv => whnf
  exact ⟨rfl, hp.ext⟩
theorem Plan_c {W : World} (hg : Good W) (r c lost kr kc : Nat) (h : Shp r c) (hs : setsB r c lost kr kc = true) :
    Calls Tryd.prog 21 #[.int .i64 r, .int .i64 c, .int .u64 lost, .int .u64 kr, .int .u64 kc] W fun e w' => ∃ u, e = .returned u ∧ ∃ v, u = .tuple #[v, .int .i64 0] ∧
      HpM [] W w' [row 55 2 v (planL r c lost kr kc).1.length (pw (planL r c lost kr kc).1)] := by
  have hfi := fits_ok r c lost kr kc h
  rw [hs] at hfi
  refine v_fn (args := [.int .i64 r, .int .i64 c, .int .u64 lost, .int .u64 kr, .int .u64 kc]) TTok FFok Tryd.func21 rfl (Nat.le_of_ble_eq_true rfl) ?_
  have hp := Hp.nil W
  conv => whnf
  refine VSeq.mk fun Kq hKq => ?_
  conv => whnf
  refine hKq _ _ _ (V.Sub.refl _) ?_
  clear hKq Kq
  conv => whnf
  refine VSeq.mk fun Kq hKq => ?_
  conv => whnf
  refine PureF.use (of_ok r c h) fun w hx => ?_
  try (have hp := hp.call hx)
  conv => whnf
  refine hp.kalloc z75 fun hb w hp hx => ?_
  conv => whnf
  refine hp.kstA TTok rfl 0 rfl (by rfl) (by simp [Value.oneCell']) (by rfl) fun w hp => ?_
  try simp only [List.set_cons_zero, List.set_cons_succ, EV.val] at hp
  conv => whnf
  refine hKq _ _ _ (V.Sub.refl _) ?_
  clear hKq Kq
  conv => whnf
  refine VSeq.mk fun Kq hKq => ?_
  conv => whnf
  refine VSeq.mk fun Kq hKq => ?_
  conv => whnf
  refine ⟨_, _, Blk.ldN (hp.get (i := 0) rfl) TTok rfl (rfl), ?_⟩
  conv => whnf
  refine PureF.use (hfi) fun w hx => ?_
  try (have hp := hp.call hx)
  conv => whnf
  refine hKq _ _ _ (V.Sub.refl _) ?_
  clear hKq Kq
  conv => whnf
  refine And.intro (fun h => by cases h) (fun _ => ?_)
  conv => whnf
  refine hKq _ _ _ (V.Sub.refl _) ?_
  clear hKq Kq
  conv => whnf
  refine VSeq.mk fun Kq hKq => ?_
  conv => whnf
  refine ⟨_, _, Blk.ldN (hp.get (i := 0) rfl) TTok rfl (rfl), ?_⟩
  conv => whnf
  refine (plan_c (hg.ext hp.ext) r c lost kr kc h hs).mono ?_
  rintro e w ⟨u, rfl, v, rfl, hq⟩
  refine ⟨_, rfl, ?_⟩
  have hp := hp.join hq
  obtain ⟨pp, pc, rfl⟩ := row_shape (hp.get (i := 0) rfl)
  conv => whnf
  refine hKq _ _ _ (V.Sub.refl _) ?_
  clear hKq Kq
  conv => whnf
  refine VSeq.mk fun Kq hKq => ?_
  conv => whnf
  refine hKq _ _ _ (V.Sub.refl _) ?_
  clear hKq Kq
  conv => whnf
  exact ⟨_, rfl, hp.sub (by simp)⟩
theorem Stuck_c {W : World} (hg : Good W) (r c lost kr kc : Nat) (h : Shp r c) (hs : setsB r c lost kr kc = true) :
    Calls Tryd.prog 22 #[.int .i64 r, .int .i64 c, .int .u64 lost, .int .u64 kr, .int .u64 kc] W fun e w' => e = .returned (.tuple #[.int .u64 ((planL r c lost kr kc).2 : Nat), .int .i64 0]) ∧ Ext W w' := by
  have hfi := fits_ok r c lost kr kc h
  rw [hs] at hfi
  refine v_reads TTok FFok Tryd.func22 rfl rfl ?_
  conv => whnf
  refine VSeq.mk fun Kq hKq => ?_
  conv => whnf
  refine hKq _ _ _ (V.Sub.refl _) ?_
  clear hKq Kq
  conv => whnf
  refine VSeq.mk fun Kq hKq => ?_
  conv => whnf
  have hp := Hp.nil W
  refine PureF.use (of_ok r c h) fun w hx => ?_
  try (have hp := hp.call hx)
  conv => whnf
  refine hp.kalloc z75 fun hb w hp hx => ?_
  conv => whnf
  refine hp.kstA TTok rfl 0 rfl (by rfl) (by simp [Value.oneCell']) (by rfl) fun w hp => ?_
  try simp only [List.set_cons_zero, List.set_cons_succ, EV.val] at hp
  conv => whnf
  refine hKq _ _ _ (V.Sub.refl _) ?_
  clear hKq Kq
  conv => whnf
  refine VSeq.mk fun Kq hKq => ?_
  conv => whnf
  refine VSeq.mk fun Kq hKq => ?_
  conv => whnf
  refine ⟨_, _, Blk.ldN (hp.get (i := 0) rfl) TTok rfl (rfl), ?_⟩
  conv => whnf
  refine PureF.use (hfi) fun w hx => ?_
  try (have hp := hp.call hx)
  conv => whnf
  refine hKq _ _ _ (V.Sub.refl _) ?_
  clear hKq Kq
  conv => whnf
  refine And.intro (fun h => by cases h) (fun _ => ?_)
  conv => whnf
  refine hKq _ _ _ (V.Sub.refl _) ?_
  clear hKq Kq
  conv => whnf
  refine VSeq.mk fun Kq hKq => ?_
  conv => whnf
  refine ⟨_, _, Blk.ldN (hp.get (i := 0) rfl) TTok rfl (rfl), ?_⟩
  conv => whnf
  refine (plan_c (hg.ext hp.ext) r c lost kr kc h hs).mono ?_
  rintro e w ⟨u, rfl, v, rfl, hq⟩
  refine ⟨_, rfl, ?_⟩
  have hp := hp.join hq
  obtain ⟨pp, pc, rfl⟩ := row_shape (hp.get (i := 0) rfl)
  conv => whnf
  refine hKq _ _ _ (V.Sub.refl _) ?_
  clear hKq Kq
  conv => whnf
  refine VSeq.mk fun Kq hKq => ?_
  conv => whnf
  refine hKq _ _ _ (V.Sub.refl _) ?_
  clear hKq Kq
  conv => whnf
  exact ⟨rfl, hp.ext⟩
end Go.Proofs.YtpiilfamfinieaaDoor
