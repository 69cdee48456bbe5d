/- Chapter 27: the program's plan. -/
import Derived.Test.YtpiilfamfinieaaDoorC27E
import Derived.Test.YtpiilfamfinieaaDoorC27F
import Derived.Test.YtpiilfamfinieaaDoorR2
namespace Go.Proofs.YtpiilfamfinieaaDoor
set_option linter.unusedSimpArgs false
set_option linter.unusedVariables false
open Go.RowKit V

/-- steps as cells -/
def pw (ps : List (Nat × Nat)) : List Value := ps.flatMap fun p => [.int .i64 (p.1 : Nat), .int .i64 (p.2 : Nat)]
theorem pw_len (ps : List (Nat × Nat)) : (pw ps).length = ps.length * 2 := by
  induction ps with
  | nil => rfl
  | cons p ps ih => simp only [pw, List.flatMap_cons, List.length_append, List.length_cons] at ih ⊢; simp [ih]; omega
theorem pw_app (a b : List (Nat × Nat)) : pw (a ++ b) = pw a ++ pw b := by simp [pw]
theorem pw_one (ps : List (Nat × Nat)) : ∀ u ∈ pw ps, u.oneCell' = true := by
  intro u hu
  obtain ⟨p, _, h⟩ := List.mem_flatMap.1 hu
  simp at h; rcases h with rfl | rfl <;> rfl
set_option maxHeartbeats 4000000 in
theorem plan_c {W : World} (hg : Good W) (r c lost kr kc : Nat) (h : Shp r c) (hs : setsB r c lost kr kc = true) :
    Calls Tryd.prog 41 #[.agg #[.int .i64 r, .int .i64 c], .int .u64 lost, .int .u64 kr, .int .u64 kc] W fun e w' => ∃ u, e = .returned u ∧ ∃ v, u = .tuple #[v, .int .u64 ((planL r c lost kr kc).2 : Nat)] ∧
      HpM [] W w' [row 55 2 v (planL r c lost kr kc).1.length (pw (planL r c lost kr kc).1)] := by
  obtain ⟨hs1, hs2, hs3⟩ := of_decide_eq_true hs
  have h' := h
  obtain ⟨h1, h2, h3, h4⟩ := h'
  have hrc : r * c ≤ 6 * 8 := Nat.mul_le_mul (by omega) (by omega)
  have hlost : lost < 18446744073709551616 := Nat.lt_of_lt_of_le hs1 (show 2 ^ (r * c) ≤ 2 ^ 64 from Nat.pow_le_pow_right (by omega) (by omega))
  have hkr : kr < 64 := Nat.lt_of_lt_of_le hs2 (show 2 ^ r ≤ 2 ^ 6 from Nat.pow_le_pow_right (by omega) (by omega))
  have hkc : kc < 256 := Nat.lt_of_lt_of_le hs3 (show 2 ^ c ≤ 2 ^ 8 from Nat.pow_le_pow_right (by omega) (by omega))
  have hp2 : 2 ^ r ≤ 64 := (show 2 ^ r ≤ 2 ^ 6 from Nat.pow_le_pow_right (by omega) (by omega))
  have hkm : kc * 2 ^ r ≤ 256 * 64 := Nat.mul_le_mul (by omega) hp2
  refine v_fn (args := [.agg #[.int .i64 r, .int .i64 c], .int .u64 lost, .int .u64 kr, .int .u64 kc]) TTok FFok Tryd.func41 rfl (Nat.le_of_ble_eq_true rfl) ?_
  have hp := Hp.nil W
  conv => whnf
  refine VSeq.mk fun Kq hKq => ?_
  conv => whnf
  refine hp.kbox ([.int .i64 r, .int .i64 c]) rfl fun sb w hp hx => ?_
  conv => whnf
  refine hp.kbox ([.int .u64 lost]) rfl fun lb w hp hx => ?_
  conv => whnf
  refine hKq _ _ _ (V.Sub.refl _) ?_
  clear hKq Kq
  conv => whnf
  obtain ⟨kn, hkn⟩ : ∃ kn, kr ||| kc * 2 ^ r = kn := ⟨_, rfl⟩
  have hknl : kn < 18446744073709551616 := by rw [← hkn]; exact Nat.or_lt_two_pow (n := 64) (by omega) (by omega)
  have hknb : ∀ l, (kn / 2 ^ l % 2 = 1) ↔ knownL r kr kc l = true := fun l => by rw [← hkn, div_bit, known_bit r kr kc l hs2]; split <;> simp [*]
  refine v_jumps TTok FFok 0 rfl (fun m l w => ∃ (Ds : List Nat) (ps : List (Nat × Nat)) (lst : Nat) (v : Value) (ob kb : Nat), l = [(4, .v (.pointer (some ⟨sb, 0, none⟩))), (5, .v (.pointer (some ⟨lb, 0, none⟩))), (10, .v (.pointer (some ⟨ob, 0, none⟩))), (11, .v (.pointer (some ⟨kb, 0, none⟩)))] ++ mks 50 Ds ∧
      cnt r c lst ≤ m ∧ lst < 18446744073709551616 ∧ (ps ++ (planF r c kr kc m lst).1, (planF r c kr kc m lst).2) = planL r c lost kr kc ∧ ps.length + m = r * c ∧
      HpM [] W w ([row 55 2 v ps.length (pw ps), blk ob [v] 46, blk lb [.int .u64 lst] 40, blk kb [.int .u64 kn] 40, blk sb [.int .i64 r, .int .i64 c] 75] ++ raws Ds)) ?_ ?_
  · conv => whnf
    refine VSeq.mk fun Kq hKq => ?_
    conv => whnf
    refine hp.kalloc z46 fun ob w hp hx => ?_
    conv => whnf
    refine hKq _ _ _ (V.Sub.refl _) ?_
    clear hKq Kq
    conv => whnf
    refine VSeq.mk fun Kq hKq => ?_
    conv => whnf
    refine ⟨_, _, Blk.ld (hp.get (i := 2) rfl) TTok rfl (rfl), ?_⟩
    conv => whnf
    refine ⟨r, ⟨by first | rfl | omega, by omega⟩, ?_⟩
    conv => whnf
    rw [shl_any kc r (by omega)]
    conv => whnf
    refine ⟨kr, kc * 2 ^ r, kn, ⟨by first | rfl | omega, by first | rfl | omega, by omega, by omega⟩, by (dsimp only; exact hkn), ?_⟩
    conv => whnf
    refine hp.kalloc z40 fun kb w hp hx => ?_
    conv => whnf
    refine hp.kst1 TTok (by rfl) 0 (by rfl) (by rfl) (by rfl) (by decide) fun w hp => ?_
    try simp only [List.set_cons_zero, List.set_cons_succ, EV.val] at hp
    conv => whnf
    have hp := (hp.knil 55 2).perm (List.Perm.cons _ ((List.Perm.swap _ _ _).trans (List.Perm.cons _ (List.Perm.swap _ _ _))))
    refine hKq [(4, .v (.pointer (some ⟨sb, 0, none⟩))), (5, .v (.pointer (some ⟨lb, 0, none⟩))), (10, .v (.pointer (some ⟨ob, 0, none⟩))), (11, .v (.pointer (some ⟨kb, 0, none⟩)))] _ _ (sub_cons rfl (sub_cons rfl (sub_cons rfl (sub_cons rfl sub_nil)))) ?_
    clear hKq Kq
    obtain ⟨m, hm⟩ : ∃ m, r * c = m := ⟨_, rfl⟩
    obtain ⟨Ds, hDs⟩ : ∃ Ds : List Nat, Ds = [] := ⟨_, rfl⟩
    obtain ⟨ps, hps⟩ : ∃ ps : List (Nat × Nat), ps = [] := ⟨_, rfl⟩
    obtain ⟨v, hv⟩ : ∃ v : Value, v = .slice none 0 0 := ⟨_, rfl⟩
    obtain ⟨lst, hlst⟩ : ∃ lst, lost = lst := ⟨_, rfl⟩
    have hcm : cnt r c lst ≤ m := by rw [← hm]; exact cnt_le _ _ _
    have hll : lst < 18446744073709551616 := by rw [← hlst]; exact hlost
    have hpl : (ps ++ (planF r c kr kc m lst).1, (planF r c kr kc m lst).2) = planL r c lost kr kc := by rw [hps, ← hm, ← hlst]; rfl
    have hpm : ps.length + m = r * c := by rw [hps, hm]; simp
    have hp : HpM [] W w ([row 55 2 v ps.length (pw ps), blk ob [v] 46, blk lb [.int .u64 lst] 40, blk kb [.int .u64 kn] 40, blk sb [.int .i64 r, .int .i64 c] 75] ++ raws Ds) := by
      rw [hDs, hps, hv, ← hlst]; exact hp
    have henv : ([(4, .v (.pointer (some ⟨sb, 0, none⟩))), (5, .v (.pointer (some ⟨lb, 0, none⟩))), (10, .v (.pointer (some ⟨ob, 0, none⟩))), (11, .v (.pointer (some ⟨kb, 0, none⟩)))] : Env) = [(4, .v (.pointer (some ⟨sb, 0, none⟩))), (5, .v (.pointer (some ⟨lb, 0, none⟩))), (10, .v (.pointer (some ⟨ob, 0, none⟩))), (11, .v (.pointer (some ⟨kb, 0, none⟩)))] ++ mks 50 Ds := by rw [hDs]; rfl
    rw [henv]
    clear henv hDs hps hv
    conv => whnf
    refine VSeq.mk fun Kq hKq => ?_
    conv => whnf
    refine hKq _ _ _ (V.Sub.refl _) ?_
    clear hKq Kq
    conv => whnf
    refine VSeq.mk fun Kq hKq => ?_
    conv => whnf
    refine VSeq.mk fun Kq hKq => ?_
    conv => whnf
    refine ⟨_, _, Blk.ldN (hp.get (i := 4) rfl) TTok rfl (rfl), ?_⟩
    conv => whnf
    refine Calls.mono (lines_c hp r c) ?_
    rintro _ w ⟨v', rfl, bw, rfl, hp, hx⟩
    refine ⟨_, rfl, ?_⟩
    conv => whnf
    refine hKq _ _ _ (V.Sub.refl _) ?_
    clear hKq Kq
    conv => whnf
    clear hx
    refine v_rangeG TTok FFok (lines_iter r c h bw) rfl rfl (by kernel_rfl) [(4, .v (.pointer (some ⟨sb, 0, none⟩))), (5, .v (.pointer (some ⟨lb, 0, none⟩))), (10, .v (.pointer (some ⟨ob, 0, none⟩))), (11, .v (.pointer (some ⟨kb, 0, none⟩)))]
      (subL_cons rfl (subL_cons rfl (subL_cons rfl (subL_cons rfl (fun _ _ h => by cases h))))) rfl (fun _ => rfl)
      (fun k X A => k ≤ r + c ∧ firstL r c kr kc lst 0 = firstL r c kr kc lst k ∧ HpM [] W A ([row 55 2 v ps.length (pw ps), blk ob [v] 46, blk lb [.int .u64 lst] 40, blk kb [.int .u64 kn] 40, blk sb [.int .i64 r, .int .i64 c] 75] ++ raws Ds ++ X))
      (fun e X A => e = .goto 0 ∧ ∃ (li ii : Nat) (v2 : Value), firstL r c kr kc lst 0 = some (li, ii) ∧ HpM [] W A ([row 55 2 v2 (ps.length + 1) (pw (ps ++ [(li, ii)])), blk ob [v2] 46, blk lb [.int .u64 (clr lst ii : Nat)] 40, blk kb [.int .u64 kn] 40, blk sb [.int .i64 r, .int .i64 c] 75] ++ raws Ds ++ X))
      (fun t => ⟨fun X A h x hx => h.2.2.holds x (by simp [hx]), fun X X' A B r h => ⟨h.1, h.2.1, h.2.2.reframe r⟩⟩)
      (fun e => ⟨fun X A h x hx => by obtain ⟨_, _, _, _, _, h⟩ := h; exact h.holds x (by simp [hx]), fun X X' A B r h => by obtain ⟨h0, li, ii, v2, h1, h⟩ := h; exact ⟨h0, li, ii, v2, h1, h.reframe r⟩⟩)
      (fun t X A h => by omega) [blk bw [.int .i64 (r : Nat), .int .i64 (c : Nat)] 75] (hp.sub (by simp)) rfl
      (fun B hx => (hp.get (i := 0) rfl : Blk _ _ _ _).ext hx) ⟨Nat.zero_le _, rfl, hp.perm (by
        exact (List.perm_append_comm (l₁ := [blk bw [.int .i64 (r : Nat), .int .i64 (c : Nat)] 75])))⟩ ?_ ?_ ?_ ?_ ?_
    · rintro k X A ⟨hk, hfk, hp⟩ htot
      have hk : k < r + c := by have : k ≠ r + c := htot; omega
      conv => whnf
      refine VSeq.mk fun Kq hKq => ?_
      conv => whnf
      refine hKq _ _ _ (V.Sub.refl _) ?_
      clear hKq Kq
      conv => whnf
      refine ⟨fun x hx => hp.holds x (by simp [hx]), fun X' B' rr => ?_⟩
      have hp := hp.reframe rr
      conv => whnf
      refine VSeq.mk fun Kq hKq => ?_
      conv => whnf
      refine VSeq.mk fun Kq hKq => ?_
      conv => whnf
      refine ⟨_, _, Blk.ld (hp.get (i := 3) rfl) TTok rfl (rfl), ?_⟩
      conv => whnf
      refine ⟨k, ⟨by first | rfl | omega, by omega⟩, ?_⟩
      conv => whnf
      rw [shr_cast]
      have hkd : kn / 2 ^ k < 18446744073709551616 := Nat.lt_of_le_of_lt (Nat.div_le_self _ _) hknl
      refine ⟨kn / 2 ^ k, 1, kn / 2 ^ k % 2, ⟨by first | rfl | omega, by first | rfl | omega, by omega, by omega⟩, by (dsimp only; exact Nat.and_one_is_mod _), ?_⟩
      conv => whnf
      refine hKq _ _ _ (V.Sub.refl _) ?_
      clear hKq Kq
      conv => whnf
      have hstep := firstL_step r c kr kc lst k hk
      have hl48 := lineS_lt48 r c k h hk
      refine ⟨fun hb => ?_, fun hb => ?_⟩
      · have hb := of_decide_eq_true hb
        conv => whnf
        have hkl : knownL r kr kc k = true := (hknb k).1 (by omega)
        refine ⟨_, _, Blk.ld (hp.get (i := 2) rfl) TTok rfl (rfl), ?_⟩
        conv => whnf
        have hpop := hits_pop r c lst k (by omega) (by omega) hk
        have hbit := hits_bit r c lst k
        have hclr := hits_clr r c lst k
        obtain ⟨z, hz⟩ : ∃ z, lst &&& lineS r c k = z := ⟨_, rfl⟩
        have hzl : z < 18446744073709551616 := by rw [← hz]; exact Nat.lt_of_le_of_lt Nat.and_le_left hll
        rw [hz] at hpop
        refine ⟨lst, lineS r c k, z, ⟨by first | rfl | omega, by first | rfl | omega, by omega, by omega⟩, by (dsimp only; exact hz), ?_⟩
        conv => whnf
        refine PureF.use (OnesCount_p z hzl) fun w hx => ?_
        try (have hp := hp.call hx)
        conv => whnf
        refine hKq _ _ _ (V.Sub.refl _) ?_
        clear hKq Kq
        conv => whnf
        refine ⟨fun hone => ?_, fun hone => ?_⟩
        · have hone := of_decide_eq_true hone
          conv => whnf
          refine VSeq.mk fun Kq hKq => ?_
          conv => whnf
          obtain ⟨ii, hii⟩ : ∃ ii, hits r c lst k = [ii] := by
            match hh : hits r c lst k, (by omega : (hits r c lst k).length = 1) with
            | [ii], _ => exact ⟨ii, rfl⟩
          have hbit := hbit ii (by omega) hk hii
          rw [hz] at hbit
          have hclr := hclr ii (by omega) (by omega) hk hll (by omega) hii
          have hfirst : firstL r c kr kc lst 0 = some (k, ii) := by
            rw [hfk, hstep]
            have : pickL r c kr kc lst k = some (k, ii) := by unfold pickL; rw [if_pos hkl, hii]; rfl
            rw [this]
          have hii48 : ii < r * c := by have : ii ∈ hits r c lst k := by rw [hii]; simp
                                        exact (mem_hits.1 this).1
          refine v_mix TTok FFok mixed 8 [(0, false), (1, false), (2, false), (3, false), (4, false), (5, true), (6, false), (7, true)] (by kernel_rfl) ?_
          conv => whnf
          refine ⟨_, fun w' hx' => Blk.ld (Blk.ext (hp.get (i := 1) rfl) hx') TTok rfl (rfl), ?_⟩
          conv => whnf
          refine ⟨_, fun w' hx' => Blk.ld (Blk.ext (hp.get (i := 2) rfl) hx') TTok rfl (rfl), ?_⟩
          conv => whnf
          refine ⟨lst, lineS r c k, 2 ^ ii, ⟨by first | rfl | omega, by first | rfl | omega, by omega, by omega⟩, by (dsimp only; (rw [hz]; exact hbit)), ?_⟩
          conv => whnf
          intro w hx
          have hp := hp.call hx
          conv => whnf
          refine V.CallsUse (TZ_c (hg.ext hp.ext) ii (by omega)) fun w hx => ?_
          try (have hp := hp.call hx)
          conv => whnf
          refine And.intro hx ?_
          conv => whnf
          refine ⟨.agg #[.int .i64 k, .int .i64 ii], fun w' _ => by kernel_rfl, ?_⟩
          conv => whnf
          intro w hx
          have hp := hp.call hx
          conv => whnf
          refine hp.kmade [.int .i64 k, .int .i64 ii] 55 (fun b => .slice (some ⟨b, 0, none⟩) 1 1) (by kernel_rfl) fun tb w hp hx => ?_
          simp only [List.cons_append, List.nil_append] at hp
          conv => whnf
          refine And.intro hx ?_
          intro w hx
          have hp := hp.call hx
          conv => whnf
          refine hp.kapp sl46 1 rfl (Blk.src TTok (hp.get (i := 0) rfl) rfl rfl (by intro u hu; simp at hu; rcases hu with rfl | rfl <;> rfl)) (by omega) (by unfold maxLen; omega) fun v2 w hp => ?_
          simp only [List.set_cons_zero, List.set_cons_succ] at hp
          have hp := hp.tail
          change HpM [] W w (row 55 2 v2 (ps.length + 1) (pw ps ++ pw [(k, ii)]) :: _) at hp
          rw [← pw_app] at hp
          obtain ⟨pp2, cc2, rfl⟩ := row_shape (hp.get (i := 0) rfl)
          conv => whnf
          refine hp.kst1 TTok (by rfl) 1 (by rfl) (by rfl) (by rfl) (by simp) fun w hp => ?_
          try simp only [List.set_cons_zero, List.set_cons_succ, EV.val] at hp
          conv => whnf
          refine hKq _ _ _ (V.Sub.refl _) ?_
          clear hKq Kq
          conv => whnf
          refine VSeq.mk fun Kq hKq => ?_
          conv => whnf
          refine ⟨_, _, Blk.ld (hp.get (i := 2) rfl) TTok rfl (rfl), ?_⟩
          conv => whnf
          refine ⟨lst, lineS r c k, clr lst ii, ⟨by first | rfl | omega, by first | rfl | omega, by omega, by omega⟩, by (dsimp only; exact hclr), ?_⟩
          conv => whnf
          refine hp.kst1 TTok (by rfl) 2 (by rfl) (by rfl) (by rfl) (by simp) fun w hp => ?_
          try simp only [List.set_cons_zero, List.set_cons_succ, EV.val] at hp
          conv => whnf
          refine hKq _ _ _ (V.Sub.refl _) ?_
          clear hKq Kq
          conv => whnf
          exact ⟨rfl, k, ii, _, hfirst, hp⟩
        · have hone := of_decide_eq_false hone
          conv => whnf
          refine And.intro (by omega) ?_
          conv => whnf
          refine ⟨?_, hp⟩
          rw [hfk, hstep]
          have : pickL r c kr kc lst k = none := by
            unfold pickL; rw [if_pos hkl]
            match hh : hits r c lst k with
            | [] => rfl
            | [ii] => exfalso; apply hone; rw [hpop, hh]; rfl
            | _ :: _ :: _ => rfl
          rw [this]
      · have hb := of_decide_eq_false hb
        conv => whnf
        refine hKq _ _ _ (V.Sub.refl _) ?_
        clear hKq Kq
        conv => whnf
        refine And.intro (by omega) ?_
        conv => whnf
        have hkl : ¬ knownL r kr kc k = true := fun e => hb (by have := (hknb k).2 e; omega)
        refine ⟨?_, hp⟩
        rw [hfk, hstep]
        have : pickL r c kr kc lst k = none := by unfold pickL; rw [if_neg hkl]
        rw [this]
    · rintro D k X W' hk ⟨_, hf, hp⟩
      have hend : firstL r c kr kc lst 0 = none := by rw [hf, hk]; exact firstL_end _ _ _ _ _ _ (Nat.le_refl _)
      rw [plan_end r c kr kc m lst hend, List.append_nil] at hpl
      have hp := hp.newMark
      conv => whnf
      refine hKq _ _ _ (V.Sub.refl _) ?_
      clear hKq Kq
      conv => whnf
      refine VSeq.mk fun Kq hKq => ?_
      conv => whnf
      refine v_q TTok FFok mixed (by kernel_rfl) ?_
      conv => whnf
      refine ⟨_, fun w' hx' => Blk.ld (Blk.ext (hp.get (i := 1) rfl) hx') TTok rfl (rfl), ?_⟩
      conv => whnf
      refine ⟨_, fun w' hx' => Blk.ld (Blk.ext (hp.get (i := 2) rfl) hx') TTok rfl (rfl), ?_⟩
      conv => whnf
      intro w hx
      have hp := hp.call hx
      conv => whnf
      refine hKq _ _ _ (V.Sub.refl _) ?_
      clear hKq Kq
      conv => whnf
      refine ⟨hp.get (i := 5) rfl, ?_⟩
      have hp := hp.shut (i := 5) rfl (o' := .deferred none)
      change vleave (marks (mks 50 Ds)) _ _
      rw [marks_mks]
      refine leave_all Ds (H := [row 55 2 v ps.length (pw ps), blk ob [v] 46, blk lb [.int .u64 lst] 40, blk kb [.int .u64 kn] 40, blk sb [.int .i64 r, .int .i64 c] 75, raw D (.deferred none)]) hp fun w' H' hp => ?_
      rw [← hpl]
      exact ⟨v, rfl, hp.sub (by simp)⟩
    · rintro D X W' ⟨e, _⟩; cases e
    · rintro i D X W' ⟨e, _⟩; cases e
    · rintro i D X W' ⟨e, li, ii, v2, hf, hp⟩
      cases e
      have hst := plan_step r c kr kc m lst li ii hll (by omega) hcm hf
      have hfs := firstL_some hf
      have hp := hp.newMark
      refine ⟨rfl, m - 1, _, ⟨D :: Ds, ps ++ [(li, ii)], clr lst ii, v2, ob, kb, rfl, hst.2.2, clr_lt _ _ hll, ?_, by rw [List.length_append]; simp; omega, by rw [List.length_append]; exact hp⟩, sub_mks rfl (subL_cons rfl (subL_cons rfl (subL_cons rfl (subL_cons rfl (fun _ _ h => by cases h))))) rfl (by show D :: marks (mks 50 Ds) = _; rw [marks_mks])⟩
      rw [← hpl, hst.2.1]
      simp
  · rintro m _ w ⟨Ds, ps, lst, v, ob, kb, rfl, hcm, hll, hpl, hpm, hp⟩
    conv => whnf
    refine VSeq.mk fun Kq hKq => ?_
    conv => whnf
    refine hKq _ _ _ (V.Sub.refl _) ?_
    clear hKq Kq
    conv => whnf
    refine VSeq.mk fun Kq hKq => ?_
    conv => whnf
    refine VSeq.mk fun Kq hKq => ?_
    conv => whnf
    refine ⟨_, _, Blk.ldN (hp.get (i := 4) rfl) TTok rfl (rfl), ?_⟩
    conv => whnf
    refine Calls.mono (lines_c hp r c) ?_
    rintro _ w ⟨v', rfl, bw, rfl, hp, hx⟩
    refine ⟨_, rfl, ?_⟩
    conv => whnf
    refine hKq _ _ _ (V.Sub.refl _) ?_
    clear hKq Kq
    conv => whnf
    clear hx
    refine v_rangeG TTok FFok (lines_iter r c h bw) rfl rfl (by kernel_rfl) [(4, .v (.pointer (some ⟨sb, 0, none⟩))), (5, .v (.pointer (some ⟨lb, 0, none⟩))), (10, .v (.pointer (some ⟨ob, 0, none⟩))), (11, .v (.pointer (some ⟨kb, 0, none⟩)))]
      (subL_cons rfl (subL_cons rfl (subL_cons rfl (subL_cons rfl (fun _ _ h => by cases h))))) rfl (fun _ => rfl)
      (fun k X A => k ≤ r + c ∧ firstL r c kr kc lst 0 = firstL r c kr kc lst k ∧ HpM [] W A ([row 55 2 v ps.length (pw ps), blk ob [v] 46, blk lb [.int .u64 lst] 40, blk kb [.int .u64 kn] 40, blk sb [.int .i64 r, .int .i64 c] 75] ++ raws Ds ++ X))
      (fun e X A => e = .goto 0 ∧ ∃ (li ii : Nat) (v2 : Value), firstL r c kr kc lst 0 = some (li, ii) ∧ HpM [] W A ([row 55 2 v2 (ps.length + 1) (pw (ps ++ [(li, ii)])), blk ob [v2] 46, blk lb [.int .u64 (clr lst ii : Nat)] 40, blk kb [.int .u64 kn] 40, blk sb [.int .i64 r, .int .i64 c] 75] ++ raws Ds ++ X))
      (fun t => ⟨fun X A h x hx => h.2.2.holds x (by simp [hx]), fun X X' A B r h => ⟨h.1, h.2.1, h.2.2.reframe r⟩⟩)
      (fun e => ⟨fun X A h x hx => by obtain ⟨_, _, _, _, _, h⟩ := h; exact h.holds x (by simp [hx]), fun X X' A B r h => by obtain ⟨h0, li, ii, v2, h1, h⟩ := h; exact ⟨h0, li, ii, v2, h1, h.reframe r⟩⟩)
      (fun t X A h => by omega) [blk bw [.int .i64 (r : Nat), .int .i64 (c : Nat)] 75] (hp.sub (by simp)) rfl
      (fun B hx => (hp.get (i := 0) rfl : Blk _ _ _ _).ext hx) ⟨Nat.zero_le _, rfl, hp.perm (by
        exact (List.perm_append_comm (l₁ := [blk bw [.int .i64 (r : Nat), .int .i64 (c : Nat)] 75])))⟩ ?_ ?_ ?_ ?_ ?_
    · rintro k X A ⟨hk, hfk, hp⟩ htot
      have hk : k < r + c := by have : k ≠ r + c := htot; omega
      conv => whnf
      refine VSeq.mk fun Kq hKq => ?_
      conv => whnf
      refine hKq _ _ _ (V.Sub.refl _) ?_
      clear hKq Kq
      conv => whnf
      refine ⟨fun x hx => hp.holds x (by simp [hx]), fun X' B' rr => ?_⟩
      have hp := hp.reframe rr
      conv => whnf
      refine VSeq.mk fun Kq hKq => ?_
      conv => whnf
      refine VSeq.mk fun Kq hKq => ?_
      conv => whnf
      refine ⟨_, _, Blk.ld (hp.get (i := 3) rfl) TTok rfl (rfl), ?_⟩
      conv => whnf
      refine ⟨k, ⟨by first | rfl | omega, by omega⟩, ?_⟩
      conv => whnf
      rw [shr_cast]
      have hkd : kn / 2 ^ k < 18446744073709551616 := Nat.lt_of_le_of_lt (Nat.div_le_self _ _) hknl
      refine ⟨kn / 2 ^ k, 1, kn / 2 ^ k % 2, ⟨by first | rfl | omega, by first | rfl | omega, by omega, by omega⟩, by (dsimp only; exact Nat.and_one_is_mod _), ?_⟩
      conv => whnf
      refine hKq _ _ _ (V.Sub.refl _) ?_
      clear hKq Kq
      conv => whnf
      have hstep := firstL_step r c kr kc lst k hk
      have hl48 := lineS_lt48 r c k h hk
      refine ⟨fun hb => ?_, fun hb => ?_⟩
      · have hb := of_decide_eq_true hb
        conv => whnf
        have hkl : knownL r kr kc k = true := (hknb k).1 (by omega)
        refine ⟨_, _, Blk.ld (hp.get (i := 2) rfl) TTok rfl (rfl), ?_⟩
        conv => whnf
        have hpop := hits_pop r c lst k (by omega) (by omega) hk
        have hbit := hits_bit r c lst k
        have hclr := hits_clr r c lst k
        obtain ⟨z, hz⟩ : ∃ z, lst &&& lineS r c k = z := ⟨_, rfl⟩
        have hzl : z < 18446744073709551616 := by rw [← hz]; exact Nat.lt_of_le_of_lt Nat.and_le_left hll
        rw [hz] at hpop
        refine ⟨lst, lineS r c k, z, ⟨by first | rfl | omega, by first | rfl | omega, by omega, by omega⟩, by (dsimp only; exact hz), ?_⟩
        conv => whnf
        refine PureF.use (OnesCount_p z hzl) fun w hx => ?_
        try (have hp := hp.call hx)
        conv => whnf
        refine hKq _ _ _ (V.Sub.refl _) ?_
        clear hKq Kq
        conv => whnf
        refine ⟨fun hone => ?_, fun hone => ?_⟩
        · have hone := of_decide_eq_true hone
          conv => whnf
          refine VSeq.mk fun Kq hKq => ?_
          conv => whnf
          obtain ⟨ii, hii⟩ : ∃ ii, hits r c lst k = [ii] := by
            match hh : hits r c lst k, (by omega : (hits r c lst k).length = 1) with
            | [ii], _ => exact ⟨ii, rfl⟩
          have hbit := hbit ii (by omega) hk hii
          rw [hz] at hbit
          have hclr := hclr ii (by omega) (by omega) hk hll (by omega) hii
          have hfirst : firstL r c kr kc lst 0 = some (k, ii) := by
            rw [hfk, hstep]
            have : pickL r c kr kc lst k = some (k, ii) := by unfold pickL; rw [if_pos hkl, hii]; rfl
            rw [this]
          have hii48 : ii < r * c := by have : ii ∈ hits r c lst k := by rw [hii]; simp
                                        exact (mem_hits.1 this).1
          refine v_mix TTok FFok mixed 8 [(0, false), (1, false), (2, false), (3, false), (4, false), (5, true), (6, false), (7, true)] (by kernel_rfl) ?_
          conv => whnf
          refine ⟨_, fun w' hx' => Blk.ld (Blk.ext (hp.get (i := 1) rfl) hx') TTok rfl (rfl), ?_⟩
          conv => whnf
          refine ⟨_, fun w' hx' => Blk.ld (Blk.ext (hp.get (i := 2) rfl) hx') TTok rfl (rfl), ?_⟩
          conv => whnf
          refine ⟨lst, lineS r c k, 2 ^ ii, ⟨by first | rfl | omega, by first | rfl | omega, by omega, by omega⟩, by (dsimp only; (rw [hz]; exact hbit)), ?_⟩
          conv => whnf
          intro w hx
          have hp := hp.call hx
          conv => whnf
          refine V.CallsUse (TZ_c (hg.ext hp.ext) ii (by omega)) fun w hx => ?_
          try (have hp := hp.call hx)
          conv => whnf
          refine And.intro hx ?_
          conv => whnf
          refine ⟨.agg #[.int .i64 k, .int .i64 ii], fun w' _ => by kernel_rfl, ?_⟩
          conv => whnf
          intro w hx
          have hp := hp.call hx
          conv => whnf
          refine hp.kmade [.int .i64 k, .int .i64 ii] 55 (fun b => .slice (some ⟨b, 0, none⟩) 1 1) (by kernel_rfl) fun tb w hp hx => ?_
          simp only [List.cons_append, List.nil_append] at hp
          conv => whnf
          refine And.intro hx ?_
          intro w hx
          have hp := hp.call hx
          conv => whnf
          refine hp.kapp sl46 1 rfl (Blk.src TTok (hp.get (i := 0) rfl) rfl rfl (by intro u hu; simp at hu; rcases hu with rfl | rfl <;> rfl)) (by omega) (by unfold maxLen; omega) fun v2 w hp => ?_
          simp only [List.set_cons_zero, List.set_cons_succ] at hp
          have hp := hp.tail
          change HpM [] W w (row 55 2 v2 (ps.length + 1) (pw ps ++ pw [(k, ii)]) :: _) at hp
          rw [← pw_app] at hp
          obtain ⟨pp2, cc2, rfl⟩ := row_shape (hp.get (i := 0) rfl)
          conv => whnf
          refine hp.kst1 TTok (by rfl) 1 (by rfl) (by rfl) (by rfl) (by simp) fun w hp => ?_
          try simp only [List.set_cons_zero, List.set_cons_succ, EV.val] at hp
          conv => whnf
          refine hKq _ _ _ (V.Sub.refl _) ?_
          clear hKq Kq
          conv => whnf
          refine VSeq.mk fun Kq hKq => ?_
          conv => whnf
          refine ⟨_, _, Blk.ld (hp.get (i := 2) rfl) TTok rfl (rfl), ?_⟩
          conv => whnf
          refine ⟨lst, lineS r c k, clr lst ii, ⟨by first | rfl | omega, by first | rfl | omega, by omega, by omega⟩, by (dsimp only; exact hclr), ?_⟩
          conv => whnf
          refine hp.kst1 TTok (by rfl) 2 (by rfl) (by rfl) (by rfl) (by simp) fun w hp => ?_
          try simp only [List.set_cons_zero, List.set_cons_succ, EV.val] at hp
          conv => whnf
          refine hKq _ _ _ (V.Sub.refl _) ?_
          clear hKq Kq
          conv => whnf
          exact ⟨rfl, k, ii, _, hfirst, hp⟩
        · have hone := of_decide_eq_false hone
          conv => whnf
          refine And.intro (by omega) ?_
          conv => whnf
          refine ⟨?_, hp⟩
          rw [hfk, hstep]
          have : pickL r c kr kc lst k = none := by
            unfold pickL; rw [if_pos hkl]
            match hh : hits r c lst k with
            | [] => rfl
            | [ii] => exfalso; apply hone; rw [hpop, hh]; rfl
            | _ :: _ :: _ => rfl
          rw [this]
      · have hb := of_decide_eq_false hb
        conv => whnf
        refine hKq _ _ _ (V.Sub.refl _) ?_
        clear hKq Kq
        conv => whnf
        refine And.intro (by omega) ?_
        conv => whnf
        have hkl : ¬ knownL r kr kc k = true := fun e => hb (by have := (hknb k).2 e; omega)
        refine ⟨?_, hp⟩
        rw [hfk, hstep]
        have : pickL r c kr kc lst k = none := by unfold pickL; rw [if_neg hkl]
        rw [this]
    · rintro D k X W' hk ⟨_, hf, hp⟩
      have hend : firstL r c kr kc lst 0 = none := by rw [hf, hk]; exact firstL_end _ _ _ _ _ _ (Nat.le_refl _)
      rw [plan_end r c kr kc m lst hend, List.append_nil] at hpl
      have hp := hp.newMark
      conv => whnf
      refine hKq _ _ _ (V.Sub.refl _) ?_
      clear hKq Kq
      conv => whnf
      refine VSeq.mk fun Kq hKq => ?_
      conv => whnf
      refine v_q TTok FFok mixed (by kernel_rfl) ?_
      conv => whnf
      refine ⟨_, fun w' hx' => Blk.ld (Blk.ext (hp.get (i := 1) rfl) hx') TTok rfl (rfl), ?_⟩
      conv => whnf
      refine ⟨_, fun w' hx' => Blk.ld (Blk.ext (hp.get (i := 2) rfl) hx') TTok rfl (rfl), ?_⟩
      conv => whnf
      intro w hx
      have hp := hp.call hx
      conv => whnf
      refine hKq _ _ _ (V.Sub.refl _) ?_
      clear hKq Kq
      conv => whnf
      refine ⟨hp.get (i := 5) rfl, ?_⟩
      have hp := hp.shut (i := 5) rfl (o' := .deferred none)
      change vleave (marks (mks 50 Ds)) _ _
      rw [marks_mks]
      refine leave_all Ds (H := [row 55 2 v ps.length (pw ps), blk ob [v] 46, blk lb [.int .u64 lst] 40, blk kb [.int .u64 kn] 40, blk sb [.int .i64 r, .int .i64 c] 75, raw D (.deferred none)]) hp fun w' H' hp => ?_
      rw [← hpl]
      exact ⟨v, rfl, hp.sub (by simp)⟩
    · rintro D X W' ⟨e, _⟩; cases e
    · rintro i D X W' ⟨e, _⟩; cases e
    · rintro i D X W' ⟨e, li, ii, v2, hf, hp⟩
      cases e
      have hst := plan_step r c kr kc m lst li ii hll (by omega) hcm hf
      have hfs := firstL_some hf
      have hp := hp.newMark
      refine ⟨rfl, m - 1, _, by omega,⟨D :: Ds, ps ++ [(li, ii)], clr lst ii, v2, ob, kb, rfl, hst.2.2, clr_lt _ _ hll, ?_, by rw [List.length_append]; simp; omega, by rw [List.length_append]; exact hp⟩, sub_mks rfl (subL_cons rfl (subL_cons rfl (subL_cons rfl (subL_cons rfl (fun _ _ h => by cases h))))) rfl (by show D :: marks (mks 50 Ds) = _; rw [marks_mks])⟩
      rw [← hpl, hst.2.1]
      simp
end Go.Proofs.YtpiilfamfinieaaDoor
