/- Chapter 27: the reference's Repair. -/
import Derived.Test.YtpiilfamfinieaaDoorC27U
namespace Go.Proofs.YtpiilfamfinieaaDoor
set_option linter.unusedSimpArgs false
set_option linter.unusedVariables false
open Go.RowKit V
set_option maxHeartbeats 4000000 in
theorem rRepair_c {W : World} (r c lost kr kc : Nat) (h : Shp r c) (hs : setsB r c lost kr kc = true) (v va vb : Value) (L A B : List ByteArray) (hv : SLv W v (sw L)) (hva : SLv W va (sw A)) (hvb : SLv W vb (sw B))
    (hb : blockB (r * c) L = true) (hlA : A.length = r) (hlB : B.length = c) (hCb : ∀ x ∈ A ++ B, x.size ≤ 1048576) :
    Calls Tryd.prog 28 #[.int .i64 r, .int .i64 c, v, .int .u64 lost, va, vb, .int .u64 kr, .int .u64 kc] W fun e w' => ∃ u, e = .returned u ∧
      match repF r c (A ++ B) (planL r c lost kr kc).1 (lostL lost L L.length) with
      | none => u = .tuple #[.slice none 0 0, .int .u64 0, .bool false] ∧ Ext W w'
      | some L2 => ∃ v2, u = .tuple #[v2, .int .u64 ((planL r c lost kr kc).2 : Nat), .bool true] ∧ HpM [] W w' [row 9 1 v2 L2.length (sw L2)] := by
  have hs' := hs
  obtain ⟨hs1, hs2, hs3⟩ := of_decide_eq_true hs'
  have h' := h
  obtain ⟨h1, h2, h3, h4⟩ := h'
  have hrc : r * c ≤ 6 * 8 := Nat.mul_le_mul (by omega) (by omega)
  have hlost : lost < 18446744073709551616 := Nat.lt_of_lt_of_le hs1 (show 2 ^ (r * c) ≤ 2 ^ 64 from Nat.pow_le_pow_right (by omega) (by omega))
  have hL : L.length = r * c := by unfold blockB at hb; rw [Bool.and_eq_true, decide_eq_true_iff] at hb; exact hb.1
  have hLb : ∀ x ∈ L, x.size ≤ 1100 := fun x hx => by
    unfold blockB at hb
    rw [Bool.and_eq_true, Bool.not_eq_true', List.any_eq_false] at hb
    have := hb.2 x hx
    unfold big at this; simp at this; omega
  obtain ⟨p, cc, rfl⟩ := hv.shape
  obtain ⟨pa, ca, rfl⟩ := hva.shape
  obtain ⟨pb, cb, rfl⟩ := hvb.shape
  simp only [sw_len] at hv hva hvb ⊢
  refine v_fn (args := [.int .i64 r, .int .i64 c, .slice p L.length cc, .int .u64 lost, .slice pa A.length ca, .slice pb B.length cb, .int .u64 kr, .int .u64 kc]) TTok FFok Tryd.func28 rfl (Nat.le_of_ble_eq_true rfl) ?_
  conv => whnf
  refine VSeq.mk fun Kq hKq => ?_
  conv => whnf
  refine hKq _ _ _ (V.Sub.refl _) ?_
  clear hKq Kq
  conv => whnf
  refine VSeq.mk fun Kq hKq => ?_
  conv => whnf
  refine (rPlan_c r c lost kr kc h hs).mono ?_
  rintro e w ⟨u, rfl, pv, rfl, hp⟩
  refine ⟨_, rfl, ?_⟩
  have hmem : ∀ x ∈ (planL r c lost kr kc).1, x.1 < r + c ∧ x.2 < r * c := planF_mem r c kr kc _ _
  have hpl : (planL r c lost kr kc).1.length ≤ 48 := hplen r c lost kr kc (by omega)
  obtain ⟨ps, hps⟩ : ∃ ps, (planL r c lost kr kc).1 = ps := ⟨_, rfl⟩
  obtain ⟨left, hleft⟩ : ∃ left, (planL r c lost kr kc).2 = left := ⟨_, rfl⟩
  rw [hps] at hmem hpl hp ⊢
  rw [hleft]
  obtain ⟨p5, c5, rfl⟩ := row_shape (hp.get (i := 0) rfl)
  have hL1l : (lostL lost L L.length).length = r * c := by rw [lostL_len]; exact hL
  have hL1b := lostL_size lost L L.length hLb
  obtain ⟨L1, hL1⟩ : ∃ L1, lostL lost L L.length = L1 := ⟨_, rfl⟩
  have hL1g : ∀ i, i < L.length → L1[i]? = some (if lost.testBit i = true then ⟨#[]⟩ else L.getD i ⟨#[]⟩) := fun i hi => by
    rw [← hL1, lostL_get _ _ _ _ hi, decide_eq_true hi, Bool.true_and]
  rw [hL1] at hL1l hL1b
  have hp := hp.knil 9 1
  conv => whnf
  refine hKq _ _ _ (V.Sub.refl _) ?_
  clear hKq Kq
  conv => whnf
  refine VSeq.mk fun Kq hKq => ?_
  conv => whnf
  refine hKq _ _ _ (V.Sub.refl _) ?_
  clear hKq Kq
  conv => whnf
  refine VSeq.mk fun Kq hKq => ?_
  conv => whnf
  refine VSeq.mk fun Kq hKq => ?_
  conv => whnf
  refine hKq _ _ _ (V.Sub.refl _) ?_
  clear hKq Kq
  conv => whnf
  refine ⟨fun m e w => ∃ (i : Nat) (u : Value), m + i = L.length ∧ e = [(0, .v (.int .i64 r)), (1, .v (.int .i64 c)), (2, .v (.slice p L.length cc)), (3, .v (.int .u64 lost)), (4, .v (.slice pa A.length ca)), (5, .v (.slice pb B.length cb)), (19, .v (.slice p5 ps.length c5)), (20, .v (.int .u64 left)), (21, .v u), (22, .v (.int .i64 i))] ∧
      HpM [] W w [row 9 1 u i (sw (L1.take i)), row 55 2 (.slice p5 ps.length c5) ps.length (pw ps)],
    ⟨L.length, _, ⟨0, _, rfl, rfl, hp⟩, sub_cons rfl (sub_cons rfl (sub_cons rfl (sub_cons rfl (sub_cons rfl (sub_cons rfl (sub_cons rfl (sub_cons rfl (sub_cons rfl (sub_cons rfl sub_nil)))))))))⟩, ?_⟩
  clear hp
  repeat clear hp
  rintro m _ w ⟨i, u, hm, rfl, hp⟩
  conv => whnf
  refine VSeq.mk fun Kq hKq => ?_
  conv => whnf
  refine VSeq.mk fun Kq hKq => ?_
  conv => whnf
  refine hKq _ _ _ (V.Sub.refl _) ?_
  clear hKq Kq
  conv => whnf
  refine ⟨fun hlt => ?_, fun hlt => ?_⟩
  · have hlt := of_decide_eq_true hlt
    conv => whnf
    refine hKq _ _ _ (V.Sub.refl _) ?_
    clear hKq Kq
    conv => whnf
    refine VSeq.mk fun Kq hKq => ?_
    conv => whnf
    refine VSeq.mk fun Kq hKq => ?_
    conv => whnf
    have hi : i < L.length := by omega
    have hg := hL1g i hi
    obtain ⟨z, hz⟩ : ∃ z, lost.testBit i = z := ⟨_, rfl⟩
    have hin := In_p lost i hlost (by omega)
    rw [hz] at hg hin
    refine PureF.use (hin) fun w hx => ?_
    try (have hp := hp.call hx)
    conv => whnf
    refine hKq _ _ _ (V.Sub.refl _) ?_
    clear hKq Kq
    conv => whnf
    cases z with
    | true =>
      have hsn := take_snoc hg
      rw [if_pos rfl] at hsn
      refine And.intro (fun _ => ?_) (fun h => by cases h)
      conv => whnf
      refine hp.kmade ([.string ⟨#[]⟩]) 9 (fun b => .slice (some ⟨b, 0, none⟩) 1 1) (by kernel_rfl) fun tb w hp hx => ?_
      conv => whnf
      refine hp.kapp sl22 1 rfl (Blk.src TTok (hp.get (i := 0) rfl) rfl rfl (by intro u hu; simp at hu; subst hu; rfl)) (by omega) (by unfold maxLen; omega) fun v3 w hp => ?_
      simp only [List.set_cons_zero, List.set_cons_succ] at hp
      have hp := hp.tail
      change HpM [] W w (row 9 1 v3 (i + 1) (sw (L1.take i) ++ sw [⟨#[]⟩]) :: _) at hp
      rw [← sw_app, ← hsn] at hp
      conv => whnf
      refine hKq _ _ _ (V.Sub.refl _) ?_
      clear hKq Kq
      conv => whnf
      refine And.intro (by omega) ?_
      conv => whnf
      exact ⟨m - 1, _, by omega, ⟨i + 1, v3, by omega, rfl, hp⟩, sub_cons rfl (sub_cons rfl (sub_cons rfl (sub_cons rfl (sub_cons rfl (sub_cons rfl (sub_cons rfl (sub_cons rfl (sub_cons rfl (sub_cons rfl sub_nil)))))))))⟩
    | false =>
      have hxi : L[i]? = some L[i] := List.getElem?_eq_getElem hi
      rw [if_neg (by simp), List.getD_eq_getElem?_getD, hxi, Option.getD_some] at hg
      generalize L[i] = x at hxi hg
      have hsn := take_snoc hg
      obtain ⟨g, off, rfl, hcell⟩ := hv.at (sw_get hxi)
      refine And.intro (fun h => by cases h) (fun _ => ?_)
      conv => whnf
      refine ⟨i, ⟨by first | rfl | omega, by omega⟩, ?_⟩
      conv => whnf
      refine ⟨_, _, run_ld TTok rfl (by rw [addM_eq, Nat.mul_one]; exact Ext.cell hp.ext hcell), ?_⟩
      conv => whnf
      refine hp.kmade ([.string x]) 9 (fun b => .slice (some ⟨b, 0, none⟩) 1 1) (by kernel_rfl) fun tb w hp hx => ?_
      conv => whnf
      refine hp.kapp sl22 1 rfl (Blk.src TTok (hp.get (i := 0) rfl) rfl rfl (by intro u hu; simp at hu; subst hu; rfl)) (by omega) (by unfold maxLen; omega) fun v3 w hp => ?_
      simp only [List.set_cons_zero, List.set_cons_succ] at hp
      have hp := hp.tail
      change HpM [] W w (row 9 1 v3 (i + 1) (sw (L1.take i) ++ sw [x]) :: _) at hp
      rw [← sw_app, ← hsn] at hp
      conv => whnf
      refine hKq _ _ _ (V.Sub.refl _) ?_
      clear hKq Kq
      conv => whnf
      refine And.intro (by omega) ?_
      conv => whnf
      exact ⟨m - 1, _, by omega, ⟨i + 1, v3, by omega, rfl, hp⟩, sub_cons rfl (sub_cons rfl (sub_cons rfl (sub_cons rfl (sub_cons rfl (sub_cons rfl (sub_cons rfl (sub_cons rfl (sub_cons rfl (sub_cons rfl sub_nil)))))))))⟩
  · have hlt := of_decide_eq_false hlt
    conv => whnf
    clear hKq Kq
    refine hKq _ _ _ (V.Sub.refl _) ?_
    clear hKq Kq
    conv => whnf
    refine VSeq.mk fun Kq hKq => ?_
    conv => whnf
    refine VSeq.mk fun Kq hKq => ?_
    conv => whnf
    refine hKq _ _ _ (V.Sub.refl _) ?_
    clear hKq Kq
    conv => whnf
    obtain rfl : i = L.length := by omega
    rw [List.take_of_length_le (by omega), show L.length = L1.length by omega] at hp
    have hpos : 0 < L1.length := by rw [hL1l]; exact Nat.mul_pos (by omega) (by omega)
    obtain ⟨g1, c1, rfl⟩ := row_form (hp.get (i := 0) rfl) hpos
    clear hlt hm
    conv => whnf
    refine ⟨fun m e w => ∃ (i : Nat) (L2 : List ByteArray), m + i = ps.length ∧ e = [(0, .v (.int .i64 r)), (1, .v (.int .i64 c)), (4, .v (.slice pa A.length ca)), (5, .v (.slice pb B.length cb)), (19, .v (.slice p5 ps.length c5)), (20, .v (.int .u64 left)), (21, .v (.slice (some ⟨g1, 0, none⟩) L2.length c1)), (23, .v (.int .i64 i))] ∧
        L2.length = r * c ∧ (∀ x ∈ L2, x.size ≤ 1100) ∧ repF r c (A ++ B) ps L1 = repF r c (A ++ B) (ps.drop i) L2 ∧
        HpM [] W w [row 9 1 (.slice (some ⟨g1, 0, none⟩) L2.length c1) L2.length (sw L2), row 55 2 (.slice p5 ps.length c5) ps.length (pw ps)],
      ⟨ps.length, _, ⟨0, L1, rfl, rfl, hL1l, hL1b, rfl, hp⟩, sub_cons rfl (sub_cons rfl (sub_cons rfl (sub_cons rfl (sub_cons rfl (sub_cons rfl (sub_cons rfl (sub_cons rfl sub_nil)))))))⟩, ?_⟩
    clear hp
    repeat clear hp
    rintro m _ w ⟨i, L2, hm, rfl, hl2, hb2, hrep, hp⟩
    conv => whnf
    refine VSeq.mk fun Kq hKq => ?_
    conv => whnf
    refine VSeq.mk fun Kq hKq => ?_
    conv => whnf
    refine hKq _ _ _ (V.Sub.refl _) ?_
    clear hKq Kq
    conv => whnf
    refine ⟨fun hlt => ?_, fun hlt => ?_⟩
    · have hlt := of_decide_eq_true hlt
      conv => whnf
      refine hKq _ _ _ (V.Sub.refl _) ?_
      clear hKq Kq
      conv => whnf
      refine VSeq.mk fun Kq hKq => ?_
      conv => whnf
      refine VSeq.mk fun Kq hKq => ?_
      conv => whnf
      have hi : i < ps.length := by omega
      have hxi : ps[i]? = some ps[i] := List.getElem?_eq_getElem hi
      have hxm := hmem _ (List.getElem_mem hi)
      rw [List.drop_eq_getElem_cons hi] at hrep
      generalize ps[i] = x at hxi hxm hrep
      obtain ⟨li, pi⟩ := x
      obtain ⟨hw0, hw1⟩ := pw_get ps i _ hxi
      have hli : li < r + c := hxm.1
      have hpi : pi < r * c := hxm.2
      obtain ⟨g5, c5', e5⟩ := row_form (hp.get (i := 1) rfl) (by omega)
      simp only [Value.slice.injEq, true_and] at e5
      obtain ⟨rfl, rfl⟩ := e5
      have hc0 := row_cell (hp.get (i := 1) rfl) hw0
      have hc1 := row_cell (hp.get (i := 1) rfl) hw1
      refine v_mixA TTok FFok mixed [(0, false), (1, false), (2, false), (3, false), (4, false), (5, false), (6, false), (7, false), (8, false), (9, false), (10, false), (11, false)] (by kernel_rfl) ?_
      conv => whnf
      refine ⟨i, ⟨by first | rfl | omega, by omega⟩, ?_⟩
      conv => whnf
      refine ⟨0, ⟨by first | rfl | omega, by omega⟩, ?_⟩
      conv => whnf
      refine ⟨_, fun w' hx' => run_ld TTok rfl (by rw [addM_eq, addM_eq, Nat.zero_mul, Nat.add_zero, Nat.zero_add]; exact Ext.cell hx' hc0), ?_⟩
      conv => whnf
      refine ⟨i, ⟨by first | rfl | omega, by omega⟩, ?_⟩
      conv => whnf
      refine ⟨1, ⟨by first | rfl | omega, by omega⟩, ?_⟩
      conv => whnf
      refine ⟨_, fun w' hx' => run_ld TTok rfl (by rw [addM_eq, addM_eq, Nat.one_mul, Nat.zero_add]; exact Ext.cell hx' hc1), ?_⟩
      conv => whnf
      intro w hx
      try (have hp := hp.call hx)
      conv => whnf
      refine hKq _ _ _ (V.Sub.refl _) ?_
      clear hKq Kq
      conv => whnf
      refine VSeq.mk fun Kq hKq => ?_
      conv => whnf
      refine hKq _ _ _ (V.Sub.refl _) ?_
      clear hKq Kq
      conv => whnf
      refine VSeq.mk fun Kq hKq => ?_
      conv => whnf
      refine VSeq.mk fun Kq hKq => ?_
      conv => whnf
      refine hKq _ _ _ (V.Sub.refl _) ?_
      clear hKq Kq
      conv => whnf
      refine ⟨fun hlr => ?_, fun hlr => ?_⟩
      · have hlr := of_decide_eq_true hlr
        conv => whnf
        obtain ⟨kn, hkA⟩ : ∃ kn, A[li]? = some kn := ⟨_, List.getElem?_eq_getElem (by omega)⟩
        have hkn : (A ++ B)[li]? = some kn := by rw [List.getElem?_append_left (by omega)]; exact hkA
        have hks := hCb kn (List.mem_of_getElem? hkn)
        obtain ⟨g, off, rfl, hcell⟩ := hva.at (sw_get hkA)
        refine ⟨li, ⟨by first | rfl | omega, by omega⟩, ?_⟩
        conv => whnf
        refine ⟨_, _, run_ld TTok rfl (by rw [addM_eq, Nat.mul_one]; exact Ext.cell hp.ext hcell), ?_⟩
        conv => whnf
        refine hKq _ _ _ (V.Sub.refl _) ?_
        clear hKq Kq
        conv => whnf
        refine VSeq.mk fun Kq hKq => ?_
        conv => whnf
        have hcov := rcover_c r c li (pi : Int) h hli (by omega) L2 (SLv.of_row (hp.get (i := 0) rfl)) hl2 hb2
        refine V.CallsUse (hcov) fun w hx => ?_
        try (have hp := hp.call hx)
        conv => whnf
        have hcvl := covN_len r c li (pi : Int) L2 1100 hb2 L2.length
        refine PureF.use (Xor_p kn ⟨(covN r c li (pi : Int) L2 L2.length).toArray⟩ (by omega) (by show (List.toArray _).size ≤ _; rw [List.size_toArray]; omega)) fun w hx => ?_
        try (have hp := hp.call hx)
        conv => whnf
        have hun : unfL (px kn.data.toList (covN r c li (pi : Int) L2 L2.length)) = stepL r c li pi L2 (A ++ B) := by unfold stepL; rw [List.getD_eq_getElem?_getD, hkn]; rfl
        have hup : PureF Tryd.prog 46 #[.string ⟨(px kn.data.toList (covN r c li (pi : Int) L2 L2.length)).toArray⟩] (unfV (stepL r c li pi L2 (A ++ B))) := by
          rw [← hun]
          exact unform_p ⟨(px kn.data.toList (covN r c li (pi : Int) L2 L2.length)).toArray⟩ (by show (List.toArray _).size ≤ _; rw [List.size_toArray, px_len, toList_len]; omega)
        change repF r c (A ++ B) ps L1 = repF r c (A ++ B) ((li, pi) :: ps.drop (i + 1)) L2 at hrep
        rw [repF] at hrep
        cases hst : stepL r c li pi L2 (A ++ B) with
        | none =>
          rw [hst] at hup hrep
          change PureF _ _ _ (.tuple #[.string ⟨#[]⟩, .bool false]) at hup
          refine PureF.use (hup) fun w hx => ?_
          try (have hp := hp.call hx)
          conv => whnf
          refine hKq _ _ _ (V.Sub.refl _) ?_
          clear hKq Kq
          conv => whnf
          refine VSeq.mk fun Kq hKq => ?_
          conv => whnf
          refine VSeq.mk fun Kq hKq => ?_
          conv => whnf
          refine hKq _ _ _ (V.Sub.refl _) ?_
          clear hKq Kq
          conv => whnf
          refine And.intro (fun _ => ?_) (fun h => by cases h)
          conv => whnf
          refine VSeq.mk fun Kq hKq => ?_
          conv => whnf
          refine hKq _ _ _ (V.Sub.refl _) ?_
          clear hKq Kq
          conv => whnf
          rw [hps, hL1, hrep]
          exact ⟨rfl, hp.ext⟩
        | some sN =>
          rw [hst] at hup hrep
          change PureF _ _ _ (.tuple #[.string sN, .bool true]) at hup
          refine PureF.use (hup) fun w hx => ?_
          try (have hp := hp.call hx)
          conv => whnf
          refine hKq _ _ _ (V.Sub.refl _) ?_
          clear hKq Kq
          conv => whnf
          refine VSeq.mk fun Kq hKq => ?_
          conv => whnf
          refine VSeq.mk fun Kq hKq => ?_
          conv => whnf
          refine hKq _ _ _ (V.Sub.refl _) ?_
          clear hKq Kq
          conv => whnf
          refine And.intro (fun h => by cases h) (fun _ => ?_)
          conv => whnf
          refine hKq _ _ _ (V.Sub.refl _) ?_
          clear hKq Kq
          conv => whnf
          refine ⟨pi, ⟨by first | rfl | omega, by omega⟩, ?_⟩
          conv => whnf
          rw [show addM 0 pi 1 = pi by rw [addM_eq]; omega]
          refine hp.kstR (t := 9) TTok rfl 0 rfl (off := pi) (v := .string sN) (by omega) rfl rfl fun w hp => ?_
          simp only [List.set_cons_zero] at hp
          rw [sw_set] at hp
          conv => whnf
          refine hKq _ _ _ (V.Sub.refl _) ?_
          clear hKq Kq
          conv => whnf
          refine And.intro (by omega) ?_
          conv => whnf
          exact ⟨m - 1, _, by omega, ⟨i + 1, L2.set pi sN, by omega, rfl, by rw [List.length_set]; exact hl2, fun y hy => by
            rcases List.mem_or_eq_of_mem_set hy with h | rfl
            · exact hb2 y h
            · exact unfL_size hst, hrep, by rw [List.length_set]; exact hp⟩, sub_cons rfl (sub_cons rfl (sub_cons rfl (sub_cons rfl (sub_cons rfl (sub_cons rfl (sub_cons (by rw [List.length_set]; rfl) (sub_cons rfl sub_nil)))))))⟩
      · have hlr := of_decide_eq_false hlr
        conv => whnf
        refine And.intro (by omega) ?_
        conv => whnf
        obtain ⟨kn, hkB⟩ : ∃ kn, B[li - r]? = some kn := ⟨_, List.getElem?_eq_getElem (by omega)⟩
        have hkn : (A ++ B)[li]? = some kn := by rw [List.getElem?_append_right (by omega), hlA]; exact hkB
        have hks := hCb kn (List.mem_of_getElem? hkn)
        obtain ⟨g, off, rfl, hcell⟩ := hvb.at (sw_get hkB)
        refine ⟨li - r, ⟨by first | rfl | omega, by omega⟩, ?_⟩
        conv => whnf
        refine ⟨_, _, run_ld TTok rfl (by rw [addM_eq, Nat.mul_one]; exact Ext.cell hp.ext hcell), ?_⟩
        conv => whnf
        refine hKq _ _ _ (V.Sub.refl _) ?_
        clear hKq Kq
        conv => whnf
        refine VSeq.mk fun Kq hKq => ?_
        conv => whnf
        have hcov := rcover_c r c li (pi : Int) h hli (by omega) L2 (SLv.of_row (hp.get (i := 0) rfl)) hl2 hb2
        refine V.CallsUse (hcov) fun w hx => ?_
        try (have hp := hp.call hx)
        conv => whnf
        have hcvl := covN_len r c li (pi : Int) L2 1100 hb2 L2.length
        refine PureF.use (Xor_p kn ⟨(covN r c li (pi : Int) L2 L2.length).toArray⟩ (by omega) (by show (List.toArray _).size ≤ _; rw [List.size_toArray]; omega)) fun w hx => ?_
        try (have hp := hp.call hx)
        conv => whnf
        have hun : unfL (px kn.data.toList (covN r c li (pi : Int) L2 L2.length)) = stepL r c li pi L2 (A ++ B) := by unfold stepL; rw [List.getD_eq_getElem?_getD, hkn]; rfl
        have hup : PureF Tryd.prog 46 #[.string ⟨(px kn.data.toList (covN r c li (pi : Int) L2 L2.length)).toArray⟩] (unfV (stepL r c li pi L2 (A ++ B))) := by
          rw [← hun]
          exact unform_p ⟨(px kn.data.toList (covN r c li (pi : Int) L2 L2.length)).toArray⟩ (by show (List.toArray _).size ≤ _; rw [List.size_toArray, px_len, toList_len]; omega)
        change repF r c (A ++ B) ps L1 = repF r c (A ++ B) ((li, pi) :: ps.drop (i + 1)) L2 at hrep
        rw [repF] at hrep
        cases hst : stepL r c li pi L2 (A ++ B) with
        | none =>
          rw [hst] at hup hrep
          change PureF _ _ _ (.tuple #[.string ⟨#[]⟩, .bool false]) at hup
          refine PureF.use (hup) fun w hx => ?_
          try (have hp := hp.call hx)
          conv => whnf
          refine hKq _ _ _ (V.Sub.refl _) ?_
          clear hKq Kq
          conv => whnf
          refine VSeq.mk fun Kq hKq => ?_
          conv => whnf
          refine VSeq.mk fun Kq hKq => ?_
          conv => whnf
          refine hKq _ _ _ (V.Sub.refl _) ?_
          clear hKq Kq
          conv => whnf
          refine And.intro (fun _ => ?_) (fun h => by cases h)
          conv => whnf
          refine VSeq.mk fun Kq hKq => ?_
          conv => whnf
          refine hKq _ _ _ (V.Sub.refl _) ?_
          clear hKq Kq
          conv => whnf
          rw [hps, hL1, hrep]
          exact ⟨rfl, hp.ext⟩
        | some sN =>
          rw [hst] at hup hrep
          change PureF _ _ _ (.tuple #[.string sN, .bool true]) at hup
          refine PureF.use (hup) fun w hx => ?_
          try (have hp := hp.call hx)
          conv => whnf
          refine hKq _ _ _ (V.Sub.refl _) ?_
          clear hKq Kq
          conv => whnf
          refine VSeq.mk fun Kq hKq => ?_
          conv => whnf
          refine VSeq.mk fun Kq hKq => ?_
          conv => whnf
          refine hKq _ _ _ (V.Sub.refl _) ?_
          clear hKq Kq
          conv => whnf
          refine And.intro (fun h => by cases h) (fun _ => ?_)
          conv => whnf
          refine hKq _ _ _ (V.Sub.refl _) ?_
          clear hKq Kq
          conv => whnf
          refine ⟨pi, ⟨by first | rfl | omega, by omega⟩, ?_⟩
          conv => whnf
          rw [show addM 0 pi 1 = pi by rw [addM_eq]; omega]
          refine hp.kstR (t := 9) TTok rfl 0 rfl (off := pi) (v := .string sN) (by omega) rfl rfl fun w hp => ?_
          simp only [List.set_cons_zero] at hp
          rw [sw_set] at hp
          conv => whnf
          refine hKq _ _ _ (V.Sub.refl _) ?_
          clear hKq Kq
          conv => whnf
          refine And.intro (by omega) ?_
          conv => whnf
          exact ⟨m - 1, _, by omega, ⟨i + 1, L2.set pi sN, by omega, rfl, by rw [List.length_set]; exact hl2, fun y hy => by
            rcases List.mem_or_eq_of_mem_set hy with h | rfl
            · exact hb2 y h
            · exact unfL_size hst, hrep, by rw [List.length_set]; exact hp⟩, sub_cons rfl (sub_cons rfl (sub_cons rfl (sub_cons rfl (sub_cons rfl (sub_cons rfl (sub_cons (by rw [List.length_set]; rfl) (sub_cons rfl sub_nil)))))))⟩
    · have hlt := of_decide_eq_false hlt
      conv => whnf
      clear hKq Kq
      refine hKq _ _ _ (V.Sub.refl _) ?_
      clear hKq Kq
      conv => whnf
      refine VSeq.mk fun Kq hKq => ?_
      conv => whnf
      refine hKq _ _ _ (V.Sub.refl _) ?_
      clear hKq Kq
      conv => whnf
      obtain rfl : i = ps.length := by omega
      rw [List.drop_eq_nil_of_le (Nat.le_refl _), repF] at hrep
      rw [hps, hL1, hrep, hleft]
      exact ⟨_, rfl, hp.pick [0] (by decide)⟩
end Go.Proofs.YtpiilfamfinieaaDoor
