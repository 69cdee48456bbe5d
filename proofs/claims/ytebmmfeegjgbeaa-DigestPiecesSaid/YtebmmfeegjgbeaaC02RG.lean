/- Chapter 02: the reference's table of constants. -/
import Derived.Test.YtebmmfeegjgbeaaC02RF
namespace Go.Proofs.Ytebmmfeegjgbeaa
set_option linter.unusedSimpArgs false
set_option linter.unusedVariables false
open Go.RowKit V
set_option maxRecDepth 100000
theorem take_next (L : List Nat) (i : Nat) (h : i < L.length) : L.take (i + 1) = L.take i ++ [L.getD i 0] := by
  rw [List.take_add_one, List.getD_eq_getElem?_getD, List.getElem?_eq_getElem h]; rfl
set_option maxHeartbeats 3200000 in
theorem rConst_c {W : World} : Calls Try.prog 23 #[] W fun e w' => ∃ v, e = .returned v ∧ (∃ vS vK, v = .agg #[vS, vK] ∧ SLv w' vS (kw .i64 SL) ∧ SLv w' vK (kw .i64 KL)) ∧ Ext W w' := by
  refine v_fn (args := []) TTok FFok Try.func23 rfl (Nat.le_of_ble_eq_true rfl) ?_
  conv => whnf
  refine VSeq.mk fun Kq hKq => ?_
  conv => whnf
  have hp := Hp.nil W
  refine hp.kalloc z52 fun q0 w hp hx => ?_
  conv => whnf
  refine hKq _ _ _ (V.Sub.refl _) ?_
  clear hKq Kq
  conv => whnf
  refine VSeq.mk fun Kq hKq => ?_
  conv => whnf
  refine hp.kalloc z52 fun q1 w hp hx => ?_
  conv => whnf
  refine hKq _ _ _ (V.Sub.refl _) ?_
  clear hKq Kq
  conv => whnf
  refine VSeq.mk fun Kq hKq => ?_
  conv => whnf
  refine MakesF.use (primes_f) hp fun vl w hp hx => ?_
  simp only [List.cons_append, List.nil_append] at hp
  conv => whnf
  refine hKq _ _ _ (V.Sub.refl _) ?_
  clear hKq Kq
  conv => whnf
  refine VSeq.mk fun Kq hKq => ?_
  conv => whnf
  refine VSeq.mk fun Kq hKq => ?_
  conv => whnf
  refine hKq _ _ _ (V.Sub.refl _) ?_
  clear hKq Kq
  conv => whnf
  have hvl := SLv.of_row (hp.get (i := 0) rfl)
  have hPl : (kw .i64 PL).length = 64 := by rw [kw_len, PL_len]
  obtain ⟨pl, cl, rfl⟩ := hvl.shape
  rw [hPl] at hp hvl ⊢
  have hp := (hp.knil 3 1).knil 3 1
  have hp : HpM [] W w [row 3 1 (.slice none 0 0) 0 (kw .i64 (KL.take 0)), row 3 1 (.slice none 0 0) (min 0 8) (kw .i64 (SL.take 0)), row 3 1 (.slice pl 64 cl) 64 (kw .i64 PL), blk q1 [.slice none 0 0, .slice none 0 0] 52, blk q0 [.slice none 0 0, .slice none 0 0] 52] := hp
  refine ⟨fun mm e w' => ∃ (i : Nat) (vS vK : Value), mm + i = 64 ∧ e = [(0, .v (.pointer (some ⟨q0, 0, none⟩))), (1, .v (.pointer (some ⟨q1, 0, none⟩))), (2, .v (.slice pl 64 cl)), (3, .v (.int .i64 i))] ∧
      HpM [] W w' [row 3 1 vK i (kw .i64 (KL.take i)), row 3 1 vS (min i 8) (kw .i64 (SL.take i)), row 3 1 (.slice pl 64 cl) 64 (kw .i64 PL), blk q1 [vS, vK] 52, blk q0 [.slice none 0 0, .slice none 0 0] 52],
      ⟨64, _, ⟨0, _, _, by omega, rfl, hp⟩, sub_cons rfl (sub_cons rfl (sub_cons rfl (sub_cons rfl sub_nil)))⟩, ?_⟩
  clear hp hx hvl
  repeat clear hp
  rintro mm _ w ⟨i, vS, vK, hmm, rfl, hp⟩
  conv => whnf
  refine VSeq.mk fun Kq hKq => ?_
  conv => whnf
  refine VSeq.mk fun Kq hKq => ?_
  conv => whnf
  refine hKq _ _ _ (V.Sub.refl _) ?_
  clear hKq Kq
  conv => whnf
  refine ⟨fun hlt => ?_, fun hlt => ?_⟩
  · have hlt := of_decide_eq_true hlt
    conv => whnf
    refine hKq _ _ _ (V.Sub.refl _) ?_
    clear hKq Kq
    conv => whnf
    refine VSeq.mk fun Kq hKq => ?_
    conv => whnf
    refine VSeq.mk fun Kq hKq => ?_
    conv => whnf
    have hi : i < PL.length := by rw [PL_len]; omega
    have hvl := SLv.of_row (hp.get (i := 2) rfl)
    have hq : PL.getD i 0 < 2147483648 := by
      refine PL_lt _ ?_
      rw [List.getD_eq_getElem?_getD, List.getElem?_eq_getElem hi]
      exact List.getElem_mem hi
    have hr := root3 (PL.getD i 0) hq
    rw [root3_tab i (by omega)] at hr
    have hst := take_next KL i (by rw [KL_len]; omega)
    obtain ⟨g, off, rfl, c1⟩ := hvl.at (getk (L := PL) (i := i) hi)
    obtain ⟨x, hxd⟩ : ∃ x, KL.getD i 0 = x := ⟨_, rfl⟩
    rw [hxd] at hr hst
    refine v_mix TTok FFok mixed 8 [(0, false), (1, false), (2, false), (3, false), (4, false), (5, false), (6, false), (7, true)] (by kernel_rfl) ?_
    conv => whnf
    refine ⟨_, fun w' hx' => Blk.ld (Blk.ext (hp.get (i := 3) rfl) hx') TTok rfl (rfl), ?_⟩
    conv => whnf
    refine ⟨i, ⟨by first | rfl | omega, by omega⟩, ?_⟩
    conv => whnf
    refine ⟨_, fun w2 hx' => run_ld TTok rfl (by rw [addM_eq, Nat.mul_one]; exact Ext.cell hx' c1), ?_⟩
    conv => whnf
    first | refine PureF.quiet (hr) ?_ | refine PureF.quietE (hr) ?_
    conv => whnf
    intro w hx
    try (have hp := hp.call hx)
    conv => whnf
    refine hp.kmade (kw .i64 [x]) 3 (fun b => .slice (some ⟨b, 0, none⟩) 1 1) (by kernel_rfl) fun tb w hp hx => ?_
    conv => whnf
    refine And.intro hx ?_
    conv => whnf
    intro w hx
    try (have hp := hp.call hx)
    conv => whnf
    refine hp.kapp' sl50 1 rfl (Blk.src TTok (hp.get (i := 0) rfl) rfl rfl (kw_one _ _)) (by omega) (by unfold maxLen; omega) (by omega) fun b' c' w hp => ?_
    simp only [List.set_cons_zero, List.set_cons_succ] at hp
    rw [← kw_app, ← hst] at hp
    conv => whnf
    refine hp.kst1 (off := 1) TTok (by rfl) 4 (by rfl) (by rfl) (by rfl) (by show 1 < 2; exact Nat.lt_succ_self 1) fun w hp => ?_
    try simp only [List.set_cons_zero, List.set_cons_succ, EV.val] at hp
    conv => whnf
    refine hKq _ _ _ (V.Sub.refl _) ?_
    clear hKq Kq
    conv => whnf
    refine VSeq.mk fun Kq hKq => ?_
    conv => whnf
    refine hKq _ _ _ (V.Sub.refl _) ?_
    clear hKq Kq
    conv => whnf
    have hp := hp.tail
    refine ⟨fun h8 => ?_, fun h8 => ?_⟩
    · have h8 := of_decide_eq_true h8
      conv => whnf
      have hvl := SLv.of_row (hp.get (i := 2) rfl)
      have c1 := hvl.get (getk (L := PL) (i := i) hi)
      have hr := root2 (PL.getD i 0) hq
      rw [root2_tab i (by omega)] at hr
      have hst := take_next SL i (by show i < 8; omega)
      obtain ⟨x, hxd⟩ : ∃ x, SL.getD i 0 = x := ⟨_, rfl⟩
      rw [hxd] at hr hst
      rw [show min i 8 = i by omega] at hp
      refine v_mix TTok FFok mixed 8 [(0, false), (1, false), (2, false), (3, false), (4, false), (5, false), (6, false), (7, true)] (by kernel_rfl) ?_
      conv => whnf
      refine ⟨_, fun w' hx' => Blk.ld (Blk.ext (hp.get (i := 3) rfl) hx') TTok rfl (rfl), ?_⟩
      conv => whnf
      refine ⟨i, ⟨by first | rfl | omega, by omega⟩, ?_⟩
      conv => whnf
      refine ⟨_, fun w2 hx' => run_ld TTok rfl (by rw [addM_eq, Nat.mul_one]; exact Ext.cell hx' c1), ?_⟩
      conv => whnf
      first | refine PureF.quiet (hr) ?_ | refine PureF.quietE (hr) ?_
      conv => whnf
      intro w hx
      try (have hp := hp.call hx)
      conv => whnf
      refine hp.kmade (kw .i64 [x]) 3 (fun b => .slice (some ⟨b, 0, none⟩) 1 1) (by kernel_rfl) fun tb w hp hx => ?_
      conv => whnf
      refine And.intro hx ?_
      conv => whnf
      intro w hx
      try (have hp := hp.call hx)
      conv => whnf
      refine hp.kapp' sl50 2 rfl (Blk.src TTok (hp.get (i := 0) rfl) rfl rfl (kw_one _ _)) (by omega) (by unfold maxLen; omega) (by omega) fun b' c' w hp => ?_
      simp only [List.set_cons_zero, List.set_cons_succ] at hp
      rw [← kw_app, ← hst] at hp
      conv => whnf
      refine hp.kst1 (off := 0) TTok (by rfl) 4 (by rfl) (by rfl) (by rfl) (by show 0 < 2; exact Nat.succ_pos 1) fun w hp => ?_
      try simp only [List.set_cons_zero, List.set_cons_succ, EV.val] at hp
      conv => whnf
      refine hKq _ _ _ (V.Sub.refl _) ?_
      clear hKq Kq
      conv => whnf
      refine And.intro (by omega) ?_
      conv => whnf
      exact ⟨mm - 1, _, by omega, ⟨i + 1, _, _, by omega, rfl, by rw [show min (i + 1) 8 = i + 1 by omega]; exact hp.tail⟩, sub_cons rfl (sub_cons rfl (sub_cons rfl (sub_cons rfl sub_nil)))⟩
    · have h8 := of_decide_eq_false h8
      conv => whnf
      refine hKq _ _ _ (V.Sub.refl _) ?_
      clear hKq Kq
      conv => whnf
      refine And.intro (by omega) ?_
      conv => whnf
      have e1 : min i 8 = min (i + 1) 8 := by omega
      have e2 : SL.take i = SL.take (i + 1) := by rw [List.take_of_length_le (by show 8 ≤ i; omega), List.take_of_length_le (by show 8 ≤ i + 1; omega)]
      rw [e1, e2] at hp
      exact ⟨mm - 1, _, by omega, ⟨i + 1, _, _, by omega, rfl, hp⟩, sub_cons rfl (sub_cons rfl (sub_cons rfl (sub_cons rfl sub_nil)))⟩
  · have hlt := of_decide_eq_false hlt
    conv => whnf
    clear hKq Kq
    refine hKq _ _ _ (V.Sub.refl _) ?_
    clear hKq Kq
    conv => whnf
    refine VSeq.mk fun Kq hKq => ?_
    conv => whnf
    obtain rfl : i = 64 := by omega
    have hvK := SLv.of_row (hp.get (i := 0) rfl)
    have hvS := SLv.of_row (hp.get (i := 1) rfl)
    obtain ⟨pK, cK, rfl⟩ := hvK.shape
    obtain ⟨pS, cS, rfl⟩ := hvS.shape
    refine ⟨_, _, Blk.ldN (hp.get (i := 3) rfl) TTok rfl (rfl), ?_⟩
    conv => whnf
    refine hp.kstA TTok rfl 4 rfl (rfl) ((by intro u hu; simp at hu; rcases hu with rfl | rfl <;> rfl)) (rfl) fun w hp => ?_
    try simp only [List.set_cons_zero, List.set_cons_succ, EV.val] at hp
    conv => whnf
    refine hKq _ _ _ (V.Sub.refl _) ?_
    clear hKq Kq
    conv => whnf
    exact ⟨_, Blk.lvN (hp.get (i := 4) rfl) TTok rfl rfl, ⟨_, _, rfl, SLv.of_row (hp.get (i := 1) rfl), SLv.of_row (hp.get (i := 0) rfl)⟩, hp.ext⟩
end Go.Proofs.Ytebmmfeegjgbeaa
