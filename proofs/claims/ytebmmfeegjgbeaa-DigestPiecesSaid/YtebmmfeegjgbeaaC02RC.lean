/- Chapter 02: the reference mixes a block in. -/
import Derived.Test.YtebmmfeegjgbeaaC02RB
namespace Go.Proofs.Ytebmmfeegjgbeaa
set_option linter.unusedSimpArgs false
set_option linter.unusedVariables false
open Go.RowKit V
set_option maxRecDepth 100000
theorem getk {k : IntKind} {L : List Nat} {i : Nat} (h : i < L.length) : (kw k L)[i]? = some (.int k ((L.getD i 0 : Nat) : Int)) := by
  refine kw_get ?_
  rw [List.getD_eq_getElem?_getD, List.getElem?_eq_getElem h]; rfl
theorem wV_ld (n : Nat) : Value.agg (wd n).toArray = wV n := rfl
theorem sched_ps (y : Nat) (hy : y < M32) : PureF Try.prog 83 #[wV y, .int .i64 7] (wV (rotl y 25)) ∧ PureF Try.prog 83 #[wV y, .int .i64 18] (wV (rotl y 14)) ∧ PureF Try.prog 84 #[wV y, .int .i64 3] (wV (y / 8)) ∧
    PureF Try.prog 82 #[wV (rotl y 25), wV (rotl y 14), wV (y / 8)] (wV (sg0 y)) ∧ PureF Try.prog 81 #[wV (sg0 y)] (.int .i64 (sg0 y)) :=
  ⟨turned_p y 7 hy (by decide) (by decide), turned_p y 18 hy (by decide) (by decide), moved_raw y 3 (by decide) hy, three_p _ _ _, value_p _ (sg0_lt hy)⟩
theorem sched_qs (y : Nat) (hy : y < M32) : PureF Try.prog 83 #[wV y, .int .i64 17] (wV (rotl y 15)) ∧ PureF Try.prog 83 #[wV y, .int .i64 19] (wV (rotl y 13)) ∧ PureF Try.prog 84 #[wV y, .int .i64 10] (wV (y / 1024)) ∧
    PureF Try.prog 82 #[wV (rotl y 15), wV (rotl y 13), wV (y / 1024)] (wV (sg1 y)) ∧ PureF Try.prog 81 #[wV (sg1 y)] (.int .i64 (sg1 y)) :=
  ⟨turned_p y 17 hy (by decide) (by decide), turned_p y 19 hy (by decide) (by decide), moved_raw y 10 (by decide) hy, three_p _ _ _, value_p _ (sg1_lt hy)⟩
theorem one_ps (e f g : Nat) (he : e < M32) (hf : f < M32) (hg : g < M32) : (PureF Try.prog 83 #[wV e, .int .i64 6] (wV (rotl e 26)) ∧ PureF Try.prog 83 #[wV e, .int .i64 11] (wV (rotl e 21)) ∧ PureF Try.prog 83 #[wV e, .int .i64 25] (wV (rotl e 7)) ∧
    PureF Try.prog 82 #[wV (rotl e 26), wV (rotl e 21), wV (rotl e 7)] (wV (bs1 e)) ∧ PureF Try.prog 81 #[wV (bs1 e)] (.int .i64 (bs1 e))) ∧
    (PureF Try.prog 86 #[wV e, wV f] (wV (e &&& f)) ∧ PureF Try.prog 87 #[wV e] (wV (4294967295 - e)) ∧ PureF Try.prog 86 #[wV (4294967295 - e), wV g] (wV ((4294967295 - e) &&& g)) ∧
    PureF Try.prog 85 #[wV (e &&& f), wV ((4294967295 - e) &&& g)] (wV (chf e f g)) ∧ PureF Try.prog 81 #[wV (chf e f g)] (.int .i64 (chf e f g))) :=
  ⟨⟨turned_p e 6 he (by decide) (by decide), turned_p e 11 he (by decide) (by decide), turned_p e 25 he (by decide) (by decide), three_p _ _ _, value_p _ (bs1_lt he)⟩, and_p _ _, not_p _ he, and_p _ _, xor_p _ _, value_p _ (chf_lt he hg)⟩
theorem two_ps (a b c : Nat) (ha : a < M32) (hb : b < M32) : (PureF Try.prog 83 #[wV a, .int .i64 2] (wV (rotl a 30)) ∧ PureF Try.prog 83 #[wV a, .int .i64 13] (wV (rotl a 19)) ∧ PureF Try.prog 83 #[wV a, .int .i64 22] (wV (rotl a 10)) ∧
    PureF Try.prog 82 #[wV (rotl a 30), wV (rotl a 19), wV (rotl a 10)] (wV (bs0 a)) ∧ PureF Try.prog 81 #[wV (bs0 a)] (.int .i64 (bs0 a))) ∧
    (PureF Try.prog 86 #[wV a, wV b] (wV (a &&& b)) ∧ PureF Try.prog 86 #[wV a, wV c] (wV (a &&& c)) ∧ PureF Try.prog 86 #[wV b, wV c] (wV (b &&& c)) ∧
    PureF Try.prog 82 #[wV (a &&& b), wV (a &&& c), wV (b &&& c)] (wV (maj a b c)) ∧ PureF Try.prog 81 #[wV (maj a b c)] (.int .i64 (maj a b c))) :=
  ⟨⟨turned_p a 2 ha (by decide) (by decide), turned_p a 13 ha (by decide) (by decide), turned_p a 22 ha (by decide) (by decide), three_p _ _ _, value_p _ (bs0_lt ha)⟩, and_p _ _, and_p _ _, and_p _ _, three_p _ _ _, value_p _ (maj_lt ha hb)⟩
set_option maxHeartbeats 6400000 in
theorem Mixed_c {W : World} {tS tK hs : Value} (h : List Nat) (b : ByteArray) {nS : List Value} (hS : SLv W tS nS) (hK : SLv W tK (kw .i64 KL)) (hh : SLv W hs (kw .i64 h)) (h8 : W8 h) (hb : b.size = 64) :
    Calls Try.prog 70 #[.agg #[tS, tK], hs, .string b] W fun e w' => ∃ v, e = .returned v ∧ SLv w' v (kw .i64 (mix1 KL h b.data.toList)) ∧ Ext W w' := by
  obtain ⟨pS, cS, rfl⟩ := hS.shape
  obtain ⟨pK, cK, rfl⟩ := hK.shape
  obtain ⟨ph, ch, rfl⟩ := hh.shape
  have hBl := toList_len b
  obtain ⟨B, hB⟩ : ∃ B, b.data.toList = B := ⟨_, rfl⟩
  rw [hB] at hBl ⊢
  have hwl := wsch_len B
  have hwm := wsch_lt B
  refine v_fn (args := [.agg #[.slice pS nS.length cS, .slice pK (kw .i64 KL).length cK], .slice ph (kw .i64 h).length ch, .string b]) TTok FFok Try.func70 rfl (Nat.le_of_ble_eq_true rfl) ?_
  conv => whnf
  refine VSeq.mk fun Kq hKq => ?_
  conv => whnf
  have hp := Hp.nil W
  refine hp.kbox ([.slice pS nS.length cS, .slice pK (kw .i64 KL).length cK]) rfl fun qt w hp hx => ?_
  conv => whnf
  refine hKq _ _ _ (V.Sub.refl _) ?_
  clear hKq Kq
  conv => whnf
  refine VSeq.mk fun Kq hKq => ?_
  conv => whnf
  refine hKq _ _ _ (V.Sub.refl _) ?_
  clear hKq Kq
  conv => whnf
  refine VSeq.mk fun Kq hKq => ?_
  conv => whnf
  refine VSeq.mk fun Kq hKq => ?_
  conv => whnf
  refine hKq _ _ _ (V.Sub.refl _) ?_
  clear hKq Kq
  conv => whnf
  have hp := hp.knil 3 1
  have hp : HpM [] W w [row 3 1 (.slice none 0 0) 0 (kw .i64 (wsch B 0)), blk qt [.slice pS nS.length cS, .slice pK (kw .i64 KL).length cK] 52] := hp
  conv => whnf
  refine ⟨fun mm e w' => ∃ (i : Nat) (v : Value), mm + i = 64 ∧ e = [(1, .v (.slice ph (kw .i64 h).length ch)), (2, .v (.string b)), (3, .v (.pointer (some ⟨qt, 0, none⟩))), (7, .v v), (8, .v (.int .i64 i))] ∧ HpM [] W w' [row 3 1 v i (kw .i64 (wsch B i)), blk qt [.slice pS nS.length cS, .slice pK (kw .i64 KL).length cK] 52],
      ⟨64, _, ⟨0, _, by omega, rfl, hp⟩, sub_cons rfl (sub_cons rfl (sub_cons rfl (sub_cons rfl (sub_cons rfl sub_nil))))⟩, ?_⟩
  clear hp hx
  repeat clear hp
  rintro mm _ w ⟨i, v, hmm, rfl, hp⟩
  conv => whnf
  refine VSeq.mk fun Kq hKq => ?_
  conv => whnf
  refine VSeq.mk fun Kq hKq => ?_
  conv => whnf
  refine hKq _ _ _ (V.Sub.refl _) ?_
  clear hKq Kq
  conv => whnf
  refine ⟨fun hlt => ?_, fun hlt => ?_⟩
  · have hlt := of_decide_eq_true hlt
    conv => whnf
    refine hKq _ _ _ (V.Sub.refl _) ?_
    clear hKq Kq
    conv => whnf
    refine VSeq.mk fun Kq hKq => ?_
    conv => whnf
    refine VSeq.mk fun Kq hKq => ?_
    conv => whnf
    refine VSeq.mk fun Kq hKq => ?_
    conv => whnf
    refine hKq _ _ _ (V.Sub.refl _) ?_
    clear hKq Kq
    conv => whnf
    have hi : i < 64 := by omega
    refine ⟨fun h16 => ?_, fun h16 => ?_⟩
    · have h16 := of_decide_eq_true h16
      conv => whnf
      refine VSeq.mk fun Kq hKq => ?_
      conv => whnf
      refine And.intro (by omega) ?_
      conv => whnf
      refine And.intro (by omega) ?_
      conv => whnf
      refine And.intro (by omega) ?_
      conv => whnf
      have hi16 : i < 16 := by omega
      have hnx : wnext B (wsch B i) i = be4 B (4 * i) := if_pos hi16
      have hN := Number_p (b.extract (4 * i) (4 * i + 4)) (by rw [size_extract _ _ _ (by omega)]; omega)
      have hNl : (b.extract (4 * i) (4 * i + 4)).data.toList = (B.drop (4 * i)).take 4 := by rw [ext_list, hB, show 4 * i + 4 - 4 * i = 4 by omega]
      rw [hNl, numL_be4 B (4 * i) (by omega), ← hnx] at hN
      refine ⟨4 * i, 4 * i + 4, ⟨by first | rfl | omega, by first | rfl | omega, by omega, by omega⟩, ?_⟩
      conv => whnf
      refine PureF.use (hN) fun w hx => ?_
      try (have hp := hp.call hx)
      conv => whnf
      refine hp.kmade (kw .i64 [wnext B (wsch B i) i]) 3 (fun b => .slice (some ⟨b, 0, none⟩) 1 1) (by kernel_rfl) fun tb w hp hx => ?_
      conv => whnf
      refine hp.kapp sl50 1 rfl (Blk.src TTok (hp.get (i := 0) rfl) rfl rfl (kw_one _ _)) (by omega) (by unfold maxLen; omega) fun v' w hp => ?_
      simp only [List.set_cons_zero, List.set_cons_succ] at hp
      rw [← kw_app] at hp
      conv => whnf
      refine hKq _ _ _ (V.Sub.refl _) ?_
      clear hKq Kq
      conv => whnf
      clear hKq Kq
      refine hKq _ _ _ (V.Sub.refl _) ?_
      clear hKq Kq
      conv => whnf
      refine And.intro (by omega) ?_
      conv => whnf
      exact ⟨mm - 1, _, by omega, ⟨i + 1, v', by omega, rfl, hp.tail⟩, sub_cons rfl (sub_cons rfl (sub_cons rfl (sub_cons rfl (sub_cons rfl sub_nil))))⟩
    · have h16 := of_decide_eq_false h16
      conv => whnf
      refine hKq _ _ _ (V.Sub.refl _) ?_
      clear hKq Kq
      conv => whnf
      refine VSeq.mk fun Kq hKq => ?_
      conv => whnf
      have hi16 : 16 ≤ i := by omega
      have hnx : wnext B (wsch B i) i = ((wsch B i).getD (i - 16) 0 + (wsch B i).getD (i - 7) 0 + sg0 ((wsch B i).getD (i - 15) 0) + sg1 ((wsch B i).getD (i - 2) 0)) % M32 := if_neg (by omega)
      have hwi := hwl i
      have hlt32 := fun k => getD_lt32 (hwm i) k
      obtain ⟨L, hL⟩ : ∃ L, wsch B i = L := ⟨_, rfl⟩
      have hsucc : wsch B (i + 1) = L ++ [wnext B L i] := by rw [← hL]; rfl
      rw [hL] at hp hnx hwi hlt32
      have hv := SLv.of_row (hp.get (i := 0) rfl)
      obtain ⟨p, c, rfl⟩ := hv.shape
      obtain ⟨g, off, rfl, hc15⟩ := hv.at (getk (L := L) (i := i - 15) (by omega))
      have hc2 := hv.get (getk (L := L) (i := i - 2) (by omega))
      have hc16 := hv.get (getk (L := L) (i := i - 16) (by omega))
      have hc7 := hv.get (getk (L := L) (i := i - 7) (by omega))
      have hy := hlt32 (i - 15)
      have hz := hlt32 (i - 2)
      have hx1 := hlt32 (i - 16)
      have hx2 := hlt32 (i - 7)
      obtain ⟨y, hyd⟩ : ∃ y, L.getD (i - 15) 0 = y := ⟨_, rfl⟩
      obtain ⟨z, hzd⟩ : ∃ z, L.getD (i - 2) 0 = z := ⟨_, rfl⟩
      obtain ⟨x1, hx1d⟩ : ∃ x, L.getD (i - 16) 0 = x := ⟨_, rfl⟩
      obtain ⟨x2, hx2d⟩ : ∃ x, L.getD (i - 7) 0 = x := ⟨_, rfl⟩
      rw [hyd] at hc15 hy hnx
      rw [hzd] at hc2 hz hnx
      rw [hx1d] at hc16 hx1 hnx
      rw [hx2d] at hc7 hx2 hnx
      obtain ⟨a1, a2, a3, a4, a5⟩ := sched_ps y hy
      obtain ⟨b1, b2, b3, b4, b5⟩ := sched_qs z hz
      have hwy := word_p y hy
      have hwz := word_p z hz
      have hsum := sum_p x1 x2 (sg0 y) (sg1 z) 0 hx1 hx2 (sg0_lt hy) (sg1_lt hz) (by decide)
      rw [show x1 + x2 + sg0 y + sg1 z + 0 = x1 + x2 + sg0 y + sg1 z from rfl, ← hnx] at hsum
      have hK : ∀ (w1 : World) (q9 q10 : Nat), HpM [] W w1 [blk q9 (wd y) 126, blk q10 (wd z) 126, row 3 1 (.slice (some ⟨g, off, none⟩) (kw .i64 L).length c) i (kw .i64 L), blk qt [.slice pS nS.length cS, .slice pK (kw .i64 KL).length cK] 52] →
          ∀ l, V.Sub [(1, .v (.slice ph (kw .i64 h).length ch)), (2, .v (.string b)), (3, .v (.pointer (some ⟨qt, 0, none⟩))), (7, .v (.slice (some ⟨g, off, none⟩) (kw .i64 L).length c)), (8, .v (.int .i64 i)), (9, .v (.pointer (some ⟨q9, 0, none⟩))), (10, .v (.pointer (some ⟨q10, 0, none⟩)))] l → Kq l w1 := by
        clear hp
        repeat clear hp
        intro w q9 q10 hp l hsub
        have hv := SLv.of_row (hp.get (i := 2) rfl)
        have hd16 := hv.get (getk (L := L) (i := i - 16) (by omega))
        have hd7 := hv.get (getk (L := L) (i := i - 7) (by omega))
        rw [hx1d] at hd16
        rw [hx2d] at hd7
        refine hKq _ _ _ hsub ?_
        clear hKq Kq hsub
        conv => whnf
        refine v_mix TTok FFok mixed 29 [(0, false), (1, false), (2, false), (3, false), (4, false), (5, false), (6, false), (7, false), (8, false), (9, false), (10, false), (11, false), (12, false), (13, false), (14, false), (15, false), (16, false), (17, false), (18, false), (19, false), (20, false), (21, false), (22, false), (23, false), (24, false), (25, false), (26, false), (27, false), (28, true)] (by kernel_rfl) ?_
        conv => whnf
        refine And.intro (by omega) ?_
        conv => whnf
        refine ⟨i - 16, ⟨by first | rfl | omega, by rw [kw_len]; omega⟩, ?_⟩
        conv => whnf
        refine ⟨_, fun w2 hx' => run_ld TTok rfl (by rw [addM_eq, Nat.mul_one]; exact Ext.cell hx' hd16), ?_⟩
        conv => whnf
        refine And.intro (by omega) ?_
        conv => whnf
        refine ⟨i - 7, ⟨by first | rfl | omega, by rw [kw_len]; omega⟩, ?_⟩
        conv => whnf
        refine ⟨_, fun w2 hx' => run_ld TTok rfl (by rw [addM_eq, Nat.mul_one]; exact Ext.cell hx' hd7), ?_⟩
        conv => whnf
        refine ⟨_, fun w' hx' => Blk.ldN (Blk.ext (hp.get (i := 0) rfl) hx') TTok rfl (wd_len _), ?_⟩
        conv => whnf
        first | refine PureF.quiet (a1) ?_ | refine PureF.quietE (a1) ?_
        conv => whnf
        refine ⟨_, fun w' hx' => Blk.ldN (Blk.ext (hp.get (i := 0) rfl) hx') TTok rfl (wd_len _), ?_⟩
        conv => whnf
        first | refine PureF.quiet (a2) ?_ | refine PureF.quietE (a2) ?_
        conv => whnf
        refine ⟨_, fun w' hx' => Blk.ldN (Blk.ext (hp.get (i := 0) rfl) hx') TTok rfl (wd_len _), ?_⟩
        conv => whnf
        first | refine PureF.quiet (a3) ?_ | refine PureF.quietE (a3) ?_
        conv => whnf
        first | refine PureF.quiet (a4) ?_ | refine PureF.quietE (a4) ?_
        conv => whnf
        first | refine PureF.quiet (a5) ?_ | refine PureF.quietE (a5) ?_
        conv => whnf
        refine ⟨_, fun w' hx' => Blk.ldN (Blk.ext (hp.get (i := 1) rfl) hx') TTok rfl (wd_len _), ?_⟩
        conv => whnf
        first | refine PureF.quiet (b1) ?_ | refine PureF.quietE (b1) ?_
        conv => whnf
        refine ⟨_, fun w' hx' => Blk.ldN (Blk.ext (hp.get (i := 1) rfl) hx') TTok rfl (wd_len _), ?_⟩
        conv => whnf
        first | refine PureF.quiet (b2) ?_ | refine PureF.quietE (b2) ?_
        conv => whnf
        refine ⟨_, fun w' hx' => Blk.ldN (Blk.ext (hp.get (i := 1) rfl) hx') TTok rfl (wd_len _), ?_⟩
        conv => whnf
        first | refine PureF.quiet (b3) ?_ | refine PureF.quietE (b3) ?_
        conv => whnf
        first | refine PureF.quiet (b4) ?_ | refine PureF.quietE (b4) ?_
        conv => whnf
        first | refine PureF.quiet (b5) ?_ | refine PureF.quietE (b5) ?_
        conv => whnf
        first | refine PureF.quiet (hsum) ?_ | refine PureF.quietE (hsum) ?_
        conv => whnf
        intro w hx
        try (have hp := hp.call hx)
        conv => whnf
        refine hp.kmade (kw .i64 [wnext B L i]) 3 (fun b => .slice (some ⟨b, 0, none⟩) 1 1) (by kernel_rfl) fun tb w hp hx => ?_
        conv => whnf
        refine And.intro hx ?_
        conv => whnf
        intro w hx
        try (have hp := hp.call hx)
        conv => whnf
        refine hp.kapp sl50 3 rfl (Blk.src TTok (hp.get (i := 0) rfl) rfl rfl (kw_one _ _)) (by omega) (by unfold maxLen; omega) fun v' w hp => ?_
        simp only [List.set_cons_zero, List.set_cons_succ] at hp
        rw [← kw_app, ← hsucc] at hp
        conv => whnf
        refine hKq _ _ _ (V.Sub.refl _) ?_
        clear hKq Kq
        conv => whnf
        refine And.intro (by omega) ?_
        conv => whnf
        exact ⟨mm - 1, _, by omega, ⟨i + 1, v', by omega, rfl, hp.tail.tail.tail⟩, sub_cons rfl (sub_cons rfl (sub_cons rfl (sub_cons rfl (sub_cons rfl sub_nil))))⟩
      clear hKq
      refine v_mt TTok FFok mixed 14 (.q 0 (.q 1 (.q 2 (.q 3 (.q 4 (.q 5 (.q 6 (.q 7 (.q 8 (.q 9 (.q 10 (.q 11 (.br 12 13 (.m 13 .nil) (.m 12 .nil)))))))))))))) (by kernel_rfl) ?_
      conv => whnf
      refine And.intro (by omega) ?_
      conv => whnf
      refine ⟨i - 15, ⟨by first | rfl | omega, by rw [kw_len]; omega⟩, ?_⟩
      conv => whnf
      refine ⟨_, fun w2 hx' => run_ld TTok rfl (by rw [addM_eq, Nat.mul_one]; exact Ext.cell hx' hc15), ?_⟩
      conv => whnf
      first | refine PureF.quiet (hwy) ?_ | refine PureF.quietE (hwy) ?_
      conv => whnf
      refine And.intro (by omega) ?_
      conv => whnf
      refine ⟨i - 2, ⟨by first | rfl | omega, by rw [kw_len]; omega⟩, ?_⟩
      conv => whnf
      refine ⟨_, fun w2 hx' => run_ld TTok rfl (by rw [addM_eq, Nat.mul_one]; exact Ext.cell hx' hc2), ?_⟩
      conv => whnf
      first | refine PureF.quiet (hwz) ?_ | refine PureF.quietE (hwz) ?_
      conv => whnf
      refine And.intro ?_ ?_
      · intro w hx
        try (have hp := hp.call hx)
        conv => whnf
        refine hp.kalloc z126 fun r1 w hp hx => ?_
        conv => whnf
        refine And.intro hx ?_
        conv => whnf
        intro w hx
        try (have hp := hp.call hx)
        conv => whnf
        refine hp.kalloc z126 fun r2 w hp hx => ?_
        conv => whnf
        refine And.intro hx ?_
        conv => whnf
        intro w hx
        try (have hp := hp.call hx)
        conv => whnf
        refine hp.kstA TTok rfl 1 rfl (wd_len _) (wd_one _) (by rfl) fun w hp => ?_
        try simp only [List.set_cons_zero, List.set_cons_succ, EV.val] at hp
        conv => whnf
        refine hp.kstA TTok rfl 0 rfl (wd_len _) (wd_one _) (by rfl) fun w hp => ?_
        try simp only [List.set_cons_zero, List.set_cons_succ, EV.val] at hp
        conv => whnf
        exact hK _ _ _ (hp.pick [1, 0, 2, 3] (by decide)) _ (sub_cons rfl (sub_cons rfl (sub_cons rfl (sub_cons rfl (sub_cons rfl (sub_cons rfl (sub_cons rfl sub_nil)))))))
      · intro w hx
        try (have hp := hp.call hx)
        conv => whnf
        refine hp.kalloc z126 fun r2 w hp hx => ?_
        conv => whnf
        refine And.intro hx ?_
        conv => whnf
        intro w hx
        try (have hp := hp.call hx)
        conv => whnf
        refine hp.kalloc z126 fun r1 w hp hx => ?_
        conv => whnf
        refine And.intro hx ?_
        conv => whnf
        intro w hx
        try (have hp := hp.call hx)
        conv => whnf
        refine hp.kstA TTok rfl 0 rfl (wd_len _) (wd_one _) (by rfl) fun w hp => ?_
        try simp only [List.set_cons_zero, List.set_cons_succ, EV.val] at hp
        conv => whnf
        refine hp.kstA TTok rfl 1 rfl (wd_len _) (wd_one _) (by rfl) fun w hp => ?_
        try simp only [List.set_cons_zero, List.set_cons_succ, EV.val] at hp
        conv => whnf
        exact hK _ _ _ (hp.pick [0, 1, 2, 3] (by decide)) _ (sub_cons rfl (sub_cons rfl (sub_cons rfl (sub_cons rfl (sub_cons rfl (sub_cons rfl (sub_cons rfl sub_nil)))))))
  · have hlt := of_decide_eq_false hlt
    conv => whnf
    clear hKq Kq
    refine hKq _ _ _ (V.Sub.refl _) ?_
    clear hKq Kq
    conv => whnf
    refine VSeq.mk fun Kq hKq => ?_
    conv => whnf
    refine hKq _ _ _ (V.Sub.refl _) ?_
    clear hKq Kq
    conv => whnf
    refine VSeq.mk fun Kq hKq => ?_
    conv => whnf
    obtain rfl : i = 64 := by omega
    have hWs := SLv.of_row (hp.get (i := 0) rfl)
    have hqt := hp.get (i := 1) rfl
    have hWl := hwl 64
    have hWm := fun k => getD_lt32 (hwm 64) k
    obtain ⟨Wd, hWd⟩ : ∃ L, wsch B 64 = L := ⟨_, rfl⟩
    rw [hWd] at hWs hWl hWm
    have hx1 := hp.ext
    have hmix : mix1 KL h B = addW h (rnds KL Wd h 64) := by unfold mix1; rw [hWd]
    rw [hmix]
    have hK := hK.ext hx1
    have hh := hh.ext hx1
    have hqt : Blk w qt [.slice pS nS.length cS, .slice pK (kw .i64 KL).length cK] 52 := hqt
    obtain ⟨pw, cw, rfl⟩ := hWs.shape
    clear hp hlt hmm hwl hwm hWd hS
    repeat clear hp
    conv => whnf
    have hp := (HpM.nil0 [] w).knil 3 1
    refine hp.kapp sl50 0 rfl (SLv.src TTok (tx := 50) rfl hh (kw_one _ _)) (by rw [kw_len, h8.1]; decide) (by rw [kw_len, h8.1]; unfold maxLen; decide) fun v2 w2 hp => ?_
    simp only [List.set_cons_zero, List.set_cons_succ, List.nil_append] at hp
    have hv2 : SLv w2 v2 (kw .i64 (rnds KL Wd h 0)) := SLv.of_row (hp.get (i := 0) rfl)
    have hx2 := hp.ext
    have hK := hK.ext hx2
    have hh := hh.ext hx2
    have hWs := hWs.ext hx2
    have hqt := Blk.ext hqt hx2
    have hx2 := hx1.trans hx2
    clear hp hx1
    repeat clear hp
    conv => whnf
    refine hKq _ _ _ (V.Sub.refl _) ?_
    clear hKq Kq
    conv => whnf
    refine VSeq.mk fun Kq hKq => ?_
    conv => whnf
    refine VSeq.mk fun Kq hKq => ?_
    conv => whnf
    refine hKq _ _ _ (V.Sub.refl _) ?_
    clear hKq Kq
    conv => whnf
    refine ⟨fun mm e w' => ∃ (i : Nat) (v : Value), mm + i = 64 ∧ e = [(1, .v (.slice ph (kw .i64 h).length ch)), (3, .v (.pointer (some ⟨qt, 0, none⟩))), (7, .v (.slice pw (kw .i64 Wd).length cw)), (11, .v v), (12, .v (.int .i64 i))] ∧ SLv w' v (kw .i64 (rnds KL Wd h i)) ∧ Ext w2 w',
      ⟨64, _, ⟨0, _, by omega, rfl, hv2, Ext.refl _⟩, sub_cons rfl (sub_cons rfl (sub_cons rfl (sub_cons rfl (sub_cons rfl sub_nil))))⟩, ?_⟩
    rintro mm _ w ⟨i, v, hmm, rfl, hv, hxw⟩
    conv => whnf
    refine VSeq.mk fun Kq hKq => ?_
    conv => whnf
    refine VSeq.mk fun Kq hKq => ?_
    conv => whnf
    refine hKq _ _ _ (V.Sub.refl _) ?_
    clear hKq Kq
    conv => whnf
    refine ⟨fun hlt => ?_, fun hlt => ?_⟩
    · have hlt := of_decide_eq_true hlt
      conv => whnf
      refine hKq _ _ _ (V.Sub.refl _) ?_
      clear hKq Kq
      conv => whnf
      refine VSeq.mk fun Kq hKq => ?_
      conv => whnf
      refine VSeq.mk fun Kq hKq => ?_
      conv => whnf
      have hi : i < 64 := by omega
      have hV8 := rnds_W8 KL Wd h8 i
      have hsucc : rnds KL Wd h (i + 1) = rnd8 (rnds KL Wd h i) (KL.getD i 0) (Wd.getD i 0) := rfl
      obtain ⟨V8, hV⟩ : ∃ L, rnds KL Wd h i = L := ⟨_, rfl⟩
      rw [hV] at hv hV8 hsucc
      obtain ⟨p, c, rfl⟩ := hv.shape
      obtain ⟨g, off, rfl, k0⟩ := hv.at (getk (L := V8) (i := 0) (by rw [hV8.1]; decide))
      have hg : ∀ j, j < 8 → w.cell? ⟨g, off + j, none⟩ = some (.int .i64 ((V8.getD j 0 : Nat) : Int)) := fun j hj => hv.get (getk (L := V8) (i := j) (by rw [hV8.1]; exact hj))
      have hlen8 : (kw .i64 V8).length = 8 := by rw [kw_len, hV8.1]
      have hl := hV8.get
      have hone : one V8 (KL.getD i 0) (Wd.getD i 0) < M32 := Nat.mod_lt _ (by decide)
      have htwo : two V8 < M32 := Nat.mod_lt _ (by decide)
      have hrnd : rnd8 V8 (KL.getD i 0) (Wd.getD i 0) = [(one V8 (KL.getD i 0) (Wd.getD i 0) + two V8) % M32, V8.getD 0 0, V8.getD 1 0, V8.getD 2 0, (V8.getD 3 0 + one V8 (KL.getD i 0) (Wd.getD i 0)) % M32, V8.getD 4 0, V8.getD 5 0, V8.getD 6 0] := rfl
      have hKi : KL.getD i 0 < M32 := getD_lt32 KL_lt i
      have hWi := hWm i
      obtain ⟨gK, offK, rfl, cK1⟩ := (hK.ext hxw).at (getk (L := KL) (i := i) hi)
      obtain ⟨gW, offW, rfl, cW1⟩ := (hWs.ext hxw).at (getk (L := Wd) (i := i) (by omega))
      have hqtw := Blk.ext hqt hxw
      obtain ⟨va, hva⟩ : ∃ x, V8.getD 0 0 = x := ⟨_, rfl⟩
      obtain ⟨vb, hvb⟩ : ∃ x, V8.getD 1 0 = x := ⟨_, rfl⟩
      obtain ⟨vc, hvc⟩ : ∃ x, V8.getD 2 0 = x := ⟨_, rfl⟩
      obtain ⟨vd, hvd⟩ : ∃ x, V8.getD 3 0 = x := ⟨_, rfl⟩
      obtain ⟨ve, hve⟩ : ∃ x, V8.getD 4 0 = x := ⟨_, rfl⟩
      obtain ⟨vf, hvf⟩ : ∃ x, V8.getD 5 0 = x := ⟨_, rfl⟩
      obtain ⟨vg, hvg⟩ : ∃ x, V8.getD 6 0 = x := ⟨_, rfl⟩
      obtain ⟨vh, hvh⟩ : ∃ x, V8.getD 7 0 = x := ⟨_, rfl⟩
      obtain ⟨kk, hkk⟩ : ∃ x, KL.getD i 0 = x := ⟨_, rfl⟩
      obtain ⟨ww, hww⟩ : ∃ x, Wd.getD i 0 = x := ⟨_, rfl⟩
      have ga := hg 0 (by decide); have gb := hg 1 (by decide); have gc := hg 2 (by decide); have gd := hg 3 (by decide)
      have ge := hg 4 (by decide); have gf := hg 5 (by decide); have gg := hg 6 (by decide); have gh := hg 7 (by decide)
      have la := hl 0; have lb := hl 1; have lc := hl 2; have ld := hl 3
      have le := hl 4; have lf := hl 5; have lg := hl 6; have lh := hl 7
      rw [hva] at ga la; rw [hvb] at gb lb; rw [hvc] at gc lc; rw [hvd] at gd ld
      rw [hve] at ge le; rw [hvf] at gf lf; rw [hvg] at gg lg; rw [hvh] at gh lh
      rw [hkk] at hKi cK1; rw [hww] at hWi cW1
      rw [hkk, hww] at hone hrnd hsucc
      rw [hva, hvb, hvc, hvd, hve, hvf, hvg] at hrnd
      have honeD : one V8 kk ww = (vh + bs1 ve + chf ve vf vg + kk + ww) % M32 := by unfold one; rw [hve, hvf, hvg, hvh]
      have htwoD : two V8 = (bs0 va + maj va vb vc) % M32 := by unfold two; rw [hva, hvb, hvc]
      obtain ⟨o1, ho1⟩ : ∃ x, one V8 kk ww = x := ⟨_, rfl⟩
      obtain ⟨t1, ht1⟩ : ∃ x, two V8 = x := ⟨_, rfl⟩
      rw [ho1] at hone hrnd honeD
      rw [ht1] at htwo hrnd htwoD
      obtain ⟨⟨e1, e2, e3, e4, e5⟩, f1, f2, f3, f4, f5⟩ := one_ps ve vf vg le lf lg
      obtain ⟨⟨a1, a2, a3, a4, a5⟩, b1, b2, b3, b4, b5⟩ := two_ps va vb vc la lb
      have s1 := sum_p vh (bs1 ve) (chf ve vf vg) kk ww lh (bs1_lt le) (chf_lt le lg) hKi hWi
      rw [← honeD] at s1
      have s2 := sum_p (bs0 va) (maj va vb vc) 0 0 0 (bs0_lt la) (maj_lt la lb) (by decide) (by decide) (by decide)
      rw [show bs0 va + maj va vb vc + 0 + 0 + 0 = bs0 va + maj va vb vc from rfl, ← htwoD] at s2
      have s3 := sum_p o1 t1 0 0 0 hone htwo (by decide) (by decide) (by decide)
      rw [show o1 + t1 + 0 + 0 + 0 = o1 + t1 from rfl] at s3
      have s4 := sum_p vd o1 0 0 0 ld hone (by decide) (by decide) (by decide)
      rw [show vd + o1 + 0 + 0 + 0 = vd + o1 from rfl] at s4
      rw [hrnd] at hsucc
      have wa := word_p va la; have wb' := word_p vb lb; have wc := word_p vc lc
      have we := word_p ve le; have wf := word_p vf lf; have wg := word_p vg lg
      have hp := HpM.nil0 [] w
      have hK2 : ∀ (w1 : World) (q1 q2 q3 : Nat), HpM [] w w1 [blk q1 (wd va) 126, blk q2 (wd vb) 126, blk q3 (wd vc) 126] →
          ∀ l, V.Sub [(1, .v (.slice ph (kw .i64 h).length ch)), (3, .v (.pointer (some ⟨qt, 0, none⟩))), (7, .v (.slice (some ⟨gW, offW, none⟩) (kw .i64 Wd).length cw)), (11, .v (.slice (some ⟨g, off, none⟩) (kw .i64 V8).length c)), (12, .v (.int .i64 i)), (13, .v (.pointer (some ⟨q1, 0, none⟩))), (14, .v (.pointer (some ⟨q2, 0, none⟩))), (15, .v (.pointer (some ⟨q3, 0, none⟩)))] l → Kq l w1 := by
        clear hp
        repeat clear hp
        intro wq q1 q2 q3 hp l hsub
        refine hKq _ _ _ hsub ?_
        clear hKq Kq hsub
        have hxq := hp.ext
        conv => whnf
        refine VSeq.mk fun Kq hKq => ?_
        conv => whnf
        have hK2 : ∀ (w1 : World) (q4 q5 q6 : Nat), HpM [] w w1 [blk q4 (wd ve) 126, blk q5 (wd vf) 126, blk q6 (wd vg) 126, blk q1 (wd va) 126, blk q2 (wd vb) 126, blk q3 (wd vc) 126] →
            ∀ l, V.Sub [(1, .v (.slice ph (kw .i64 h).length ch)), (3, .v (.pointer (some ⟨qt, 0, none⟩))), (7, .v (.slice (some ⟨gW, offW, none⟩) (kw .i64 Wd).length cw)), (11, .v (.slice (some ⟨g, off, none⟩) (kw .i64 V8).length c)), (12, .v (.int .i64 i)), (13, .v (.pointer (some ⟨q1, 0, none⟩))), (14, .v (.pointer (some ⟨q2, 0, none⟩))), (15, .v (.pointer (some ⟨q3, 0, none⟩))), (16, .v (.pointer (some ⟨q4, 0, none⟩))), (17, .v (.pointer (some ⟨q5, 0, none⟩))), (18, .v (.pointer (some ⟨q6, 0, none⟩)))] l → Kq l w1 := by
          clear hp
          repeat clear hp
          intro wr q4 q5 q6 hp l hsub
          refine hKq _ _ _ hsub ?_
          clear hKq Kq hsub
          have hxr := hp.ext
          conv => whnf
          refine VSeq.mk fun Kq hKq => ?_
          conv => whnf
          refine v_mixA TTok FFok mixed [(0, false), (1, false), (2, false), (3, false), (4, false), (5, false), (6, false), (7, false), (8, false), (9, false), (10, false), (11, false), (12, false), (13, false), (14, false), (15, false), (16, false), (17, false), (18, false), (19, false), (20, false), (21, false), (22, false), (23, false), (24, false), (25, false), (26, false), (27, false), (28, false), (29, false), (30, false)] (by kernel_rfl) ?_
          conv => whnf
          refine ⟨7, ⟨by first | rfl | omega, by rw [hlen8]; decide⟩, ?_⟩
          conv => whnf
          refine ⟨_, fun w2 hx' => run_ld TTok rfl (by rw [addM_eq, Nat.mul_one]; exact Ext.cell (hxr.trans hx') gh), ?_⟩
          conv => whnf
          refine ⟨_, fun w' hx' => Blk.ldN (Blk.ext (hp.get (i := 0) rfl) hx') TTok rfl (wd_len _), ?_⟩
          conv => whnf
          first | refine PureF.quiet (e1) ?_ | refine PureF.quietE (e1) ?_
          conv => whnf
          refine ⟨_, fun w' hx' => Blk.ldN (Blk.ext (hp.get (i := 0) rfl) hx') TTok rfl (wd_len _), ?_⟩
          conv => whnf
          first | refine PureF.quiet (e2) ?_ | refine PureF.quietE (e2) ?_
          conv => whnf
          refine ⟨_, fun w' hx' => Blk.ldN (Blk.ext (hp.get (i := 0) rfl) hx') TTok rfl (wd_len _), ?_⟩
          conv => whnf
          first | refine PureF.quiet (e3) ?_ | refine PureF.quietE (e3) ?_
          conv => whnf
          first | refine PureF.quiet (e4) ?_ | refine PureF.quietE (e4) ?_
          conv => whnf
          first | refine PureF.quiet (e5) ?_ | refine PureF.quietE (e5) ?_
          conv => whnf
          refine ⟨_, fun w' hx' => Blk.ldN (Blk.ext (hp.get (i := 0) rfl) hx') TTok rfl (wd_len _), ?_⟩
          conv => whnf
          refine ⟨_, fun w' hx' => Blk.ldN (Blk.ext (hp.get (i := 1) rfl) hx') TTok rfl (wd_len _), ?_⟩
          conv => whnf
          first | refine PureF.quiet (f1) ?_ | refine PureF.quietE (f1) ?_
          conv => whnf
          refine ⟨_, fun w' hx' => Blk.ldN (Blk.ext (hp.get (i := 0) rfl) hx') TTok rfl (wd_len _), ?_⟩
          conv => whnf
          first | refine PureF.quiet (f2) ?_ | refine PureF.quietE (f2) ?_
          conv => whnf
          refine ⟨_, fun w' hx' => Blk.ldN (Blk.ext (hp.get (i := 2) rfl) hx') TTok rfl (wd_len _), ?_⟩
          conv => whnf
          first | refine PureF.quiet (f3) ?_ | refine PureF.quietE (f3) ?_
          conv => whnf
          first | refine PureF.quiet (f4) ?_ | refine PureF.quietE (f4) ?_
          conv => whnf
          first | refine PureF.quiet (f5) ?_ | refine PureF.quietE (f5) ?_
          conv => whnf
          refine ⟨_, fun w2 hx' => Blk.ld (off := 1) (Blk.ext hqtw (hxr.trans hx')) TTok rfl rfl, ?_⟩
          conv => whnf
          refine ⟨i, ⟨by first | rfl | omega, by rw [kw_len, KL_len]; omega⟩, ?_⟩
          conv => whnf
          refine ⟨_, fun w2 hx' => run_ld TTok rfl (by rw [addM_eq, Nat.mul_one]; exact Ext.cell (hxr.trans hx') cK1), ?_⟩
          conv => whnf
          refine ⟨i, ⟨by first | rfl | omega, by rw [kw_len]; omega⟩, ?_⟩
          conv => whnf
          refine ⟨_, fun w2 hx' => run_ld TTok rfl (by rw [addM_eq, Nat.mul_one]; exact Ext.cell (hxr.trans hx') cW1), ?_⟩
          conv => whnf
          first | refine PureF.quiet (s1) ?_ | refine PureF.quietE (s1) ?_
          conv => whnf
          intro w hx
          try (have hp := hp.call hx)
          conv => whnf
          refine hKq _ _ _ (V.Sub.refl _) ?_
          clear hKq Kq
          conv => whnf
          refine VSeq.mk fun Kq hKq => ?_
          conv => whnf
          refine v_mixA TTok FFok mixed [(0, false), (1, false), (2, false), (3, false), (4, false), (5, false), (6, false), (7, false), (8, false), (9, false), (10, false), (11, false), (12, false), (13, false), (14, false), (15, false), (16, false), (17, false), (18, false), (19, false), (20, false)] (by kernel_rfl) ?_
          conv => whnf
          refine ⟨_, fun w' hx' => Blk.ldN (Blk.ext (hp.get (i := 3) rfl) hx') TTok rfl (wd_len _), ?_⟩
          conv => whnf
          first | refine PureF.quiet (a1) ?_ | refine PureF.quietE (a1) ?_
          conv => whnf
          refine ⟨_, fun w' hx' => Blk.ldN (Blk.ext (hp.get (i := 3) rfl) hx') TTok rfl (wd_len _), ?_⟩
          conv => whnf
          first | refine PureF.quiet (a2) ?_ | refine PureF.quietE (a2) ?_
          conv => whnf
          refine ⟨_, fun w' hx' => Blk.ldN (Blk.ext (hp.get (i := 3) rfl) hx') TTok rfl (wd_len _), ?_⟩
          conv => whnf
          first | refine PureF.quiet (a3) ?_ | refine PureF.quietE (a3) ?_
          conv => whnf
          first | refine PureF.quiet (a4) ?_ | refine PureF.quietE (a4) ?_
          conv => whnf
          first | refine PureF.quiet (a5) ?_ | refine PureF.quietE (a5) ?_
          conv => whnf
          refine ⟨_, fun w' hx' => Blk.ldN (Blk.ext (hp.get (i := 3) rfl) hx') TTok rfl (wd_len _), ?_⟩
          conv => whnf
          refine ⟨_, fun w' hx' => Blk.ldN (Blk.ext (hp.get (i := 4) rfl) hx') TTok rfl (wd_len _), ?_⟩
          conv => whnf
          first | refine PureF.quiet (b1) ?_ | refine PureF.quietE (b1) ?_
          conv => whnf
          refine ⟨_, fun w' hx' => Blk.ldN (Blk.ext (hp.get (i := 3) rfl) hx') TTok rfl (wd_len _), ?_⟩
          conv => whnf
          refine ⟨_, fun w' hx' => Blk.ldN (Blk.ext (hp.get (i := 5) rfl) hx') TTok rfl (wd_len _), ?_⟩
          conv => whnf
          first | refine PureF.quiet (b2) ?_ | refine PureF.quietE (b2) ?_
          conv => whnf
          refine ⟨_, fun w' hx' => Blk.ldN (Blk.ext (hp.get (i := 4) rfl) hx') TTok rfl (wd_len _), ?_⟩
          conv => whnf
          refine ⟨_, fun w' hx' => Blk.ldN (Blk.ext (hp.get (i := 5) rfl) hx') TTok rfl (wd_len _), ?_⟩
          conv => whnf
          first | refine PureF.quiet (b3) ?_ | refine PureF.quietE (b3) ?_
          conv => whnf
          first | refine PureF.quiet (b4) ?_ | refine PureF.quietE (b4) ?_
          conv => whnf
          first | refine PureF.quiet (b5) ?_ | refine PureF.quietE (b5) ?_
          conv => whnf
          first | refine PureF.quiet (s2) ?_ | refine PureF.quietE (s2) ?_
          conv => whnf
          intro w hx
          try (have hp := hp.call hx)
          conv => whnf
          refine hKq _ _ _ (V.Sub.refl _) ?_
          clear hKq Kq
          conv => whnf
          have hxr := hp.ext
          refine v_mixA TTok FFok mixed [(0, false), (1, false), (2, false), (3, false), (4, false), (5, false), (6, false), (7, false), (8, false), (9, false), (10, false), (11, false), (12, false), (13, false), (14, false), (15, false), (16, false), (17, false), (18, false), (19, false), (20, false), (21, false), (22, false), (23, false), (24, false), (25, false), (26, true), (27, false)] (by kernel_rfl) ?_
          conv => whnf
          first | refine PureF.quiet (s3) ?_ | refine PureF.quietE (s3) ?_
          conv => whnf
          refine ⟨0, ⟨by first | rfl | omega, by rw [hlen8]; decide⟩, ?_⟩
          conv => whnf
          refine ⟨_, fun w2 hx' => run_ld TTok rfl (by rw [addM_eq, Nat.mul_one]; exact Ext.cell (hxr.trans hx') ga), ?_⟩
          conv => whnf
          refine ⟨1, ⟨by first | rfl | omega, by rw [hlen8]; decide⟩, ?_⟩
          conv => whnf
          refine ⟨_, fun w2 hx' => run_ld TTok rfl (by rw [addM_eq, Nat.mul_one]; exact Ext.cell (hxr.trans hx') gb), ?_⟩
          conv => whnf
          refine ⟨2, ⟨by first | rfl | omega, by rw [hlen8]; decide⟩, ?_⟩
          conv => whnf
          refine ⟨_, fun w2 hx' => run_ld TTok rfl (by rw [addM_eq, Nat.mul_one]; exact Ext.cell (hxr.trans hx') gc), ?_⟩
          conv => whnf
          refine ⟨3, ⟨by first | rfl | omega, by rw [hlen8]; decide⟩, ?_⟩
          conv => whnf
          refine ⟨_, fun w2 hx' => run_ld TTok rfl (by rw [addM_eq, Nat.mul_one]; exact Ext.cell (hxr.trans hx') gd), ?_⟩
          conv => whnf
          first | refine PureF.quiet (s4) ?_ | refine PureF.quietE (s4) ?_
          conv => whnf
          refine ⟨4, ⟨by first | rfl | omega, by rw [hlen8]; decide⟩, ?_⟩
          conv => whnf
          refine ⟨_, fun w2 hx' => run_ld TTok rfl (by rw [addM_eq, Nat.mul_one]; exact Ext.cell (hxr.trans hx') ge), ?_⟩
          conv => whnf
          refine ⟨5, ⟨by first | rfl | omega, by rw [hlen8]; decide⟩, ?_⟩
          conv => whnf
          refine ⟨_, fun w2 hx' => run_ld TTok rfl (by rw [addM_eq, Nat.mul_one]; exact Ext.cell (hxr.trans hx') gf), ?_⟩
          conv => whnf
          refine ⟨6, ⟨by first | rfl | omega, by rw [hlen8]; decide⟩, ?_⟩
          conv => whnf
          refine ⟨_, fun w2 hx' => run_ld TTok rfl (by rw [addM_eq, Nat.mul_one]; exact Ext.cell (hxr.trans hx') gg), ?_⟩
          conv => whnf
          intro w hx
          try (have hp := hp.call hx)
          conv => whnf
          refine hp.kmade (kw .i64 [(o1 + t1) % M32, va, vb, vc, (vd + o1) % M32, ve, vf, vg]) 3 (fun b => .slice (some ⟨b, 0, none⟩) 8 8) (by kernel_rfl) fun tb w hp hx => ?_
          conv => whnf
          refine And.intro hx ?_
          conv => whnf
          intro w hx
          try (have hp := hp.call hx)
          conv => whnf
          refine hKq _ _ _ (V.Sub.refl _) ?_
          clear hKq Kq
          conv => whnf
          refine And.intro (by omega) ?_
          conv => whnf
          exact ⟨mm - 1, _, by omega, ⟨i + 1, _, by omega, rfl, by rw [hsucc]; exact SLv.of_blk0 (hp.get (i := 0) rfl) rfl, hxw.trans hp.ext⟩, sub_cons rfl (sub_cons rfl (sub_cons rfl (sub_cons rfl (sub_cons rfl sub_nil))))⟩
        refine v_mt TTok FFok mixed 15 (.q 0 (.q 1 (.q 2 (.q 3 (.q 4 (.q 5 (.q 6 (.q 7 (.q 8 (.q 9 (.q 10 (.q 11 (.br3 12 13 14 (.br 13 14 (.m 14 .nil) (.m 13 .nil)) (.br 12 14 (.m 14 .nil) (.m 12 .nil)) (.br 12 13 (.m 13 .nil) (.m 12 .nil))))))))))))))) (by kernel_rfl) ?_
        conv => whnf
        refine ⟨4, ⟨by first | rfl | omega, by rw [hlen8]; decide⟩, ?_⟩
        conv => whnf
        refine ⟨_, fun w2 hx' => run_ld TTok rfl (by rw [addM_eq, Nat.mul_one]; exact Ext.cell (hxq.trans hx') ge), ?_⟩
        conv => whnf
        first | refine PureF.quiet (we) ?_ | refine PureF.quietE (we) ?_
        conv => whnf
        refine ⟨5, ⟨by first | rfl | omega, by rw [hlen8]; decide⟩, ?_⟩
        conv => whnf
        refine ⟨_, fun w2 hx' => run_ld TTok rfl (by rw [addM_eq, Nat.mul_one]; exact Ext.cell (hxq.trans hx') gf), ?_⟩
        conv => whnf
        first | refine PureF.quiet (wf) ?_ | refine PureF.quietE (wf) ?_
        conv => whnf
        refine ⟨6, ⟨by first | rfl | omega, by rw [hlen8]; decide⟩, ?_⟩
        conv => whnf
        refine ⟨_, fun w2 hx' => run_ld TTok rfl (by rw [addM_eq, Nat.mul_one]; exact Ext.cell (hxq.trans hx') gg), ?_⟩
        conv => whnf
        first | refine PureF.quiet (wg) ?_ | refine PureF.quietE (wg) ?_
        conv => whnf
        clear hKq
        refine And.intro ?_ (And.intro ?_ ?_)
        · intro w hx
          try (have hp := hp.call hx)
          conv => whnf
          refine hp.kalloc z126 fun r1 w hp hx => ?_
          conv => whnf
          refine And.intro hx ?_
          conv => whnf
          refine And.intro ?_ ?_
          · intro w hx
            try (have hp := hp.call hx)
            conv => whnf
            refine hp.kalloc z126 fun r2 w hp hx => ?_
            conv => whnf
            refine And.intro hx ?_
            conv => whnf
            intro w hx
            try (have hp := hp.call hx)
            conv => whnf
            refine hp.kalloc z126 fun r3 w hp hx => ?_
            conv => whnf
            refine And.intro hx ?_
            conv => whnf
            intro w hx
            try (have hp := hp.call hx)
            conv => whnf
            refine hp.kstA TTok rfl 2 rfl (wd_len _) (wd_one _) (by rfl) fun w hp => ?_
            try simp only [List.set_cons_zero, List.set_cons_succ, EV.val] at hp
            conv => whnf
            refine hp.kstA TTok rfl 1 rfl (wd_len _) (wd_one _) (by rfl) fun w hp => ?_
            try simp only [List.set_cons_zero, List.set_cons_succ, EV.val] at hp
            conv => whnf
            refine hp.kstA TTok rfl 0 rfl (wd_len _) (wd_one _) (by rfl) fun w hp => ?_
            try simp only [List.set_cons_zero, List.set_cons_succ, EV.val] at hp
            conv => whnf
            exact hK2 _ _ _ _ (hp.pick [2, 1, 0, 3, 4, 5] (by decide)) _ (sub_cons rfl (sub_cons rfl (sub_cons rfl (sub_cons rfl (sub_cons rfl (sub_cons rfl (sub_cons rfl (sub_cons rfl (sub_cons rfl (sub_cons rfl (sub_cons rfl sub_nil)))))))))))
          · intro w hx
            try (have hp := hp.call hx)
            conv => whnf
            refine hp.kalloc z126 fun r3 w hp hx => ?_
            conv => whnf
            refine And.intro hx ?_
            conv => whnf
            intro w hx
            try (have hp := hp.call hx)
            conv => whnf
            refine hp.kalloc z126 fun r2 w hp hx => ?_
            conv => whnf
            refine And.intro hx ?_
            conv => whnf
            intro w hx
            try (have hp := hp.call hx)
            conv => whnf
            refine hp.kstA TTok rfl 2 rfl (wd_len _) (wd_one _) (by rfl) fun w hp => ?_
            try simp only [List.set_cons_zero, List.set_cons_succ, EV.val] at hp
            conv => whnf
            refine hp.kstA TTok rfl 0 rfl (wd_len _) (wd_one _) (by rfl) fun w hp => ?_
            try simp only [List.set_cons_zero, List.set_cons_succ, EV.val] at hp
            conv => whnf
            refine hp.kstA TTok rfl 1 rfl (wd_len _) (wd_one _) (by rfl) fun w hp => ?_
            try simp only [List.set_cons_zero, List.set_cons_succ, EV.val] at hp
            conv => whnf
            exact hK2 _ _ _ _ (hp.pick [2, 0, 1, 3, 4, 5] (by decide)) _ (sub_cons rfl (sub_cons rfl (sub_cons rfl (sub_cons rfl (sub_cons rfl (sub_cons rfl (sub_cons rfl (sub_cons rfl (sub_cons rfl (sub_cons rfl (sub_cons rfl sub_nil)))))))))))
        · intro w hx
          try (have hp := hp.call hx)
          conv => whnf
          refine hp.kalloc z126 fun r2 w hp hx => ?_
          conv => whnf
          refine And.intro hx ?_
          conv => whnf
          refine And.intro ?_ ?_
          · intro w hx
            try (have hp := hp.call hx)
            conv => whnf
            refine hp.kalloc z126 fun r1 w hp hx => ?_
            conv => whnf
            refine And.intro hx ?_
            conv => whnf
            intro w hx
            try (have hp := hp.call hx)
            conv => whnf
            refine hp.kalloc z126 fun r3 w hp hx => ?_
            conv => whnf
            refine And.intro hx ?_
            conv => whnf
            intro w hx
            try (have hp := hp.call hx)
            conv => whnf
            refine hp.kstA TTok rfl 1 rfl (wd_len _) (wd_one _) (by rfl) fun w hp => ?_
            try simp only [List.set_cons_zero, List.set_cons_succ, EV.val] at hp
            conv => whnf
            refine hp.kstA TTok rfl 2 rfl (wd_len _) (wd_one _) (by rfl) fun w hp => ?_
            try simp only [List.set_cons_zero, List.set_cons_succ, EV.val] at hp
            conv => whnf
            refine hp.kstA TTok rfl 0 rfl (wd_len _) (wd_one _) (by rfl) fun w hp => ?_
            try simp only [List.set_cons_zero, List.set_cons_succ, EV.val] at hp
            conv => whnf
            exact hK2 _ _ _ _ (hp.pick [1, 2, 0, 3, 4, 5] (by decide)) _ (sub_cons rfl (sub_cons rfl (sub_cons rfl (sub_cons rfl (sub_cons rfl (sub_cons rfl (sub_cons rfl (sub_cons rfl (sub_cons rfl (sub_cons rfl (sub_cons rfl sub_nil)))))))))))
          · intro w hx
            try (have hp := hp.call hx)
            conv => whnf
            refine hp.kalloc z126 fun r3 w hp hx => ?_
            conv => whnf
            refine And.intro hx ?_
            conv => whnf
            intro w hx
            try (have hp := hp.call hx)
            conv => whnf
            refine hp.kalloc z126 fun r1 w hp hx => ?_
            conv => whnf
            refine And.intro hx ?_
            conv => whnf
            intro w hx
            try (have hp := hp.call hx)
            conv => whnf
            refine hp.kstA TTok rfl 0 rfl (wd_len _) (wd_one _) (by rfl) fun w hp => ?_
            try simp only [List.set_cons_zero, List.set_cons_succ, EV.val] at hp
            conv => whnf
            refine hp.kstA TTok rfl 2 rfl (wd_len _) (wd_one _) (by rfl) fun w hp => ?_
            try simp only [List.set_cons_zero, List.set_cons_succ, EV.val] at hp
            conv => whnf
            refine hp.kstA TTok rfl 1 rfl (wd_len _) (wd_one _) (by rfl) fun w hp => ?_
            try simp only [List.set_cons_zero, List.set_cons_succ, EV.val] at hp
            conv => whnf
            exact hK2 _ _ _ _ (hp.pick [0, 2, 1, 3, 4, 5] (by decide)) _ (sub_cons rfl (sub_cons rfl (sub_cons rfl (sub_cons rfl (sub_cons rfl (sub_cons rfl (sub_cons rfl (sub_cons rfl (sub_cons rfl (sub_cons rfl (sub_cons rfl sub_nil)))))))))))
        · intro w hx
          try (have hp := hp.call hx)
          conv => whnf
          refine hp.kalloc z126 fun r3 w hp hx => ?_
          conv => whnf
          refine And.intro hx ?_
          conv => whnf
          refine And.intro ?_ ?_
          · intro w hx
            try (have hp := hp.call hx)
            conv => whnf
            refine hp.kalloc z126 fun r1 w hp hx => ?_
            conv => whnf
            refine And.intro hx ?_
            conv => whnf
            intro w hx
            try (have hp := hp.call hx)
            conv => whnf
            refine hp.kalloc z126 fun r2 w hp hx => ?_
            conv => whnf
            refine And.intro hx ?_
            conv => whnf
            intro w hx
            try (have hp := hp.call hx)
            conv => whnf
            refine hp.kstA TTok rfl 1 rfl (wd_len _) (wd_one _) (by rfl) fun w hp => ?_
            try simp only [List.set_cons_zero, List.set_cons_succ, EV.val] at hp
            conv => whnf
            refine hp.kstA TTok rfl 0 rfl (wd_len _) (wd_one _) (by rfl) fun w hp => ?_
            try simp only [List.set_cons_zero, List.set_cons_succ, EV.val] at hp
            conv => whnf
            refine hp.kstA TTok rfl 2 rfl (wd_len _) (wd_one _) (by rfl) fun w hp => ?_
            try simp only [List.set_cons_zero, List.set_cons_succ, EV.val] at hp
            conv => whnf
            exact hK2 _ _ _ _ (hp.pick [1, 0, 2, 3, 4, 5] (by decide)) _ (sub_cons rfl (sub_cons rfl (sub_cons rfl (sub_cons rfl (sub_cons rfl (sub_cons rfl (sub_cons rfl (sub_cons rfl (sub_cons rfl (sub_cons rfl (sub_cons rfl sub_nil)))))))))))
          · intro w hx
            try (have hp := hp.call hx)
            conv => whnf
            refine hp.kalloc z126 fun r2 w hp hx => ?_
            conv => whnf
            refine And.intro hx ?_
            conv => whnf
            intro w hx
            try (have hp := hp.call hx)
            conv => whnf
            refine hp.kalloc z126 fun r1 w hp hx => ?_
            conv => whnf
            refine And.intro hx ?_
            conv => whnf
            intro w hx
            try (have hp := hp.call hx)
            conv => whnf
            refine hp.kstA TTok rfl 0 rfl (wd_len _) (wd_one _) (by rfl) fun w hp => ?_
            try simp only [List.set_cons_zero, List.set_cons_succ, EV.val] at hp
            conv => whnf
            refine hp.kstA TTok rfl 1 rfl (wd_len _) (wd_one _) (by rfl) fun w hp => ?_
            try simp only [List.set_cons_zero, List.set_cons_succ, EV.val] at hp
            conv => whnf
            refine hp.kstA TTok rfl 2 rfl (wd_len _) (wd_one _) (by rfl) fun w hp => ?_
            try simp only [List.set_cons_zero, List.set_cons_succ, EV.val] at hp
            conv => whnf
            exact hK2 _ _ _ _ (hp.pick [0, 1, 2, 3, 4, 5] (by decide)) _ (sub_cons rfl (sub_cons rfl (sub_cons rfl (sub_cons rfl (sub_cons rfl (sub_cons rfl (sub_cons rfl (sub_cons rfl (sub_cons rfl (sub_cons rfl (sub_cons rfl sub_nil)))))))))))
      refine v_mt TTok FFok mixed 15 (.q 0 (.q 1 (.q 2 (.q 3 (.q 4 (.q 5 (.q 6 (.q 7 (.q 8 (.q 9 (.q 10 (.q 11 (.br3 12 13 14 (.br 13 14 (.m 14 .nil) (.m 13 .nil)) (.br 12 14 (.m 14 .nil) (.m 12 .nil)) (.br 12 13 (.m 13 .nil) (.m 12 .nil))))))))))))))) (by kernel_rfl) ?_
      conv => whnf
      refine ⟨0, ⟨by first | rfl | omega, by rw [hlen8]; decide⟩, ?_⟩
      conv => whnf
      refine ⟨_, fun w2 hx' => run_ld TTok rfl (by rw [addM_eq, Nat.mul_one]; exact Ext.cell hx' ga), ?_⟩
      conv => whnf
      first | refine PureF.quiet (wa) ?_ | refine PureF.quietE (wa) ?_
      conv => whnf
      refine ⟨1, ⟨by first | rfl | omega, by rw [hlen8]; decide⟩, ?_⟩
      conv => whnf
      refine ⟨_, fun w2 hx' => run_ld TTok rfl (by rw [addM_eq, Nat.mul_one]; exact Ext.cell hx' gb), ?_⟩
      conv => whnf
      first | refine PureF.quiet (wb') ?_ | refine PureF.quietE (wb') ?_
      conv => whnf
      refine ⟨2, ⟨by first | rfl | omega, by rw [hlen8]; decide⟩, ?_⟩
      conv => whnf
      refine ⟨_, fun w2 hx' => run_ld TTok rfl (by rw [addM_eq, Nat.mul_one]; exact Ext.cell hx' gc), ?_⟩
      conv => whnf
      first | refine PureF.quiet (wc) ?_ | refine PureF.quietE (wc) ?_
      conv => whnf
      clear hKq
      refine And.intro ?_ (And.intro ?_ ?_)
      · intro w hx
        try (have hp := hp.call hx)
        conv => whnf
        refine hp.kalloc z126 fun r1 w hp hx => ?_
        conv => whnf
        refine And.intro hx ?_
        conv => whnf
        refine And.intro ?_ ?_
        · intro w hx
          try (have hp := hp.call hx)
          conv => whnf
          refine hp.kalloc z126 fun r2 w hp hx => ?_
          conv => whnf
          refine And.intro hx ?_
          conv => whnf
          intro w hx
          try (have hp := hp.call hx)
          conv => whnf
          refine hp.kalloc z126 fun r3 w hp hx => ?_
          conv => whnf
          refine And.intro hx ?_
          conv => whnf
          intro w hx
          try (have hp := hp.call hx)
          conv => whnf
          refine hp.kstA TTok rfl 2 rfl (wd_len _) (wd_one _) (by rfl) fun w hp => ?_
          try simp only [List.set_cons_zero, List.set_cons_succ, EV.val] at hp
          conv => whnf
          refine hp.kstA TTok rfl 1 rfl (wd_len _) (wd_one _) (by rfl) fun w hp => ?_
          try simp only [List.set_cons_zero, List.set_cons_succ, EV.val] at hp
          conv => whnf
          refine hp.kstA TTok rfl 0 rfl (wd_len _) (wd_one _) (by rfl) fun w hp => ?_
          try simp only [List.set_cons_zero, List.set_cons_succ, EV.val] at hp
          conv => whnf
          exact hK2 _ _ _ _ (hp.pick [2, 1, 0] (by decide)) _ (sub_cons rfl (sub_cons rfl (sub_cons rfl (sub_cons rfl (sub_cons rfl (sub_cons rfl (sub_cons rfl (sub_cons rfl sub_nil))))))))
        · intro w hx
          try (have hp := hp.call hx)
          conv => whnf
          refine hp.kalloc z126 fun r3 w hp hx => ?_
          conv => whnf
          refine And.intro hx ?_
          conv => whnf
          intro w hx
          try (have hp := hp.call hx)
          conv => whnf
          refine hp.kalloc z126 fun r2 w hp hx => ?_
          conv => whnf
          refine And.intro hx ?_
          conv => whnf
          intro w hx
          try (have hp := hp.call hx)
          conv => whnf
          refine hp.kstA TTok rfl 2 rfl (wd_len _) (wd_one _) (by rfl) fun w hp => ?_
          try simp only [List.set_cons_zero, List.set_cons_succ, EV.val] at hp
          conv => whnf
          refine hp.kstA TTok rfl 0 rfl (wd_len _) (wd_one _) (by rfl) fun w hp => ?_
          try simp only [List.set_cons_zero, List.set_cons_succ, EV.val] at hp
          conv => whnf
          refine hp.kstA TTok rfl 1 rfl (wd_len _) (wd_one _) (by rfl) fun w hp => ?_
          try simp only [List.set_cons_zero, List.set_cons_succ, EV.val] at hp
          conv => whnf
          exact hK2 _ _ _ _ (hp.pick [2, 0, 1] (by decide)) _ (sub_cons rfl (sub_cons rfl (sub_cons rfl (sub_cons rfl (sub_cons rfl (sub_cons rfl (sub_cons rfl (sub_cons rfl sub_nil))))))))
      · intro w hx
        try (have hp := hp.call hx)
        conv => whnf
        refine hp.kalloc z126 fun r2 w hp hx => ?_
        conv => whnf
        refine And.intro hx ?_
        conv => whnf
        refine And.intro ?_ ?_
        · intro w hx
          try (have hp := hp.call hx)
          conv => whnf
          refine hp.kalloc z126 fun r1 w hp hx => ?_
          conv => whnf
          refine And.intro hx ?_
          conv => whnf
          intro w hx
          try (have hp := hp.call hx)
          conv => whnf
          refine hp.kalloc z126 fun r3 w hp hx => ?_
          conv => whnf
          refine And.intro hx ?_
          conv => whnf
          intro w hx
          try (have hp := hp.call hx)
          conv => whnf
          refine hp.kstA TTok rfl 1 rfl (wd_len _) (wd_one _) (by rfl) fun w hp => ?_
          try simp only [List.set_cons_zero, List.set_cons_succ, EV.val] at hp
          conv => whnf
          refine hp.kstA TTok rfl 2 rfl (wd_len _) (wd_one _) (by rfl) fun w hp => ?_
          try simp only [List.set_cons_zero, List.set_cons_succ, EV.val] at hp
          conv => whnf
          refine hp.kstA TTok rfl 0 rfl (wd_len _) (wd_one _) (by rfl) fun w hp => ?_
          try simp only [List.set_cons_zero, List.set_cons_succ, EV.val] at hp
          conv => whnf
          exact hK2 _ _ _ _ (hp.pick [1, 2, 0] (by decide)) _ (sub_cons rfl (sub_cons rfl (sub_cons rfl (sub_cons rfl (sub_cons rfl (sub_cons rfl (sub_cons rfl (sub_cons rfl sub_nil))))))))
        · intro w hx
          try (have hp := hp.call hx)
          conv => whnf
          refine hp.kalloc z126 fun r3 w hp hx => ?_
          conv => whnf
          refine And.intro hx ?_
          conv => whnf
          intro w hx
          try (have hp := hp.call hx)
          conv => whnf
          refine hp.kalloc z126 fun r1 w hp hx => ?_
          conv => whnf
          refine And.intro hx ?_
          conv => whnf
          intro w hx
          try (have hp := hp.call hx)
          conv => whnf
          refine hp.kstA TTok rfl 0 rfl (wd_len _) (wd_one _) (by rfl) fun w hp => ?_
          try simp only [List.set_cons_zero, List.set_cons_succ, EV.val] at hp
          conv => whnf
          refine hp.kstA TTok rfl 2 rfl (wd_len _) (wd_one _) (by rfl) fun w hp => ?_
          try simp only [List.set_cons_zero, List.set_cons_succ, EV.val] at hp
          conv => whnf
          refine hp.kstA TTok rfl 1 rfl (wd_len _) (wd_one _) (by rfl) fun w hp => ?_
          try simp only [List.set_cons_zero, List.set_cons_succ, EV.val] at hp
          conv => whnf
          exact hK2 _ _ _ _ (hp.pick [0, 2, 1] (by decide)) _ (sub_cons rfl (sub_cons rfl (sub_cons rfl (sub_cons rfl (sub_cons rfl (sub_cons rfl (sub_cons rfl (sub_cons rfl sub_nil))))))))
      · intro w hx
        try (have hp := hp.call hx)
        conv => whnf
        refine hp.kalloc z126 fun r3 w hp hx => ?_
        conv => whnf
        refine And.intro hx ?_
        conv => whnf
        refine And.intro ?_ ?_
        · intro w hx
          try (have hp := hp.call hx)
          conv => whnf
          refine hp.kalloc z126 fun r1 w hp hx => ?_
          conv => whnf
          refine And.intro hx ?_
          conv => whnf
          intro w hx
          try (have hp := hp.call hx)
          conv => whnf
          refine hp.kalloc z126 fun r2 w hp hx => ?_
          conv => whnf
          refine And.intro hx ?_
          conv => whnf
          intro w hx
          try (have hp := hp.call hx)
          conv => whnf
          refine hp.kstA TTok rfl 1 rfl (wd_len _) (wd_one _) (by rfl) fun w hp => ?_
          try simp only [List.set_cons_zero, List.set_cons_succ, EV.val] at hp
          conv => whnf
          refine hp.kstA TTok rfl 0 rfl (wd_len _) (wd_one _) (by rfl) fun w hp => ?_
          try simp only [List.set_cons_zero, List.set_cons_succ, EV.val] at hp
          conv => whnf
          refine hp.kstA TTok rfl 2 rfl (wd_len _) (wd_one _) (by rfl) fun w hp => ?_
          try simp only [List.set_cons_zero, List.set_cons_succ, EV.val] at hp
          conv => whnf
          exact hK2 _ _ _ _ (hp.pick [1, 0, 2] (by decide)) _ (sub_cons rfl (sub_cons rfl (sub_cons rfl (sub_cons rfl (sub_cons rfl (sub_cons rfl (sub_cons rfl (sub_cons rfl sub_nil))))))))
        · intro w hx
          try (have hp := hp.call hx)
          conv => whnf
          refine hp.kalloc z126 fun r2 w hp hx => ?_
          conv => whnf
          refine And.intro hx ?_
          conv => whnf
          intro w hx
          try (have hp := hp.call hx)
          conv => whnf
          refine hp.kalloc z126 fun r1 w hp hx => ?_
          conv => whnf
          refine And.intro hx ?_
          conv => whnf
          intro w hx
          try (have hp := hp.call hx)
          conv => whnf
          refine hp.kstA TTok rfl 0 rfl (wd_len _) (wd_one _) (by rfl) fun w hp => ?_
          try simp only [List.set_cons_zero, List.set_cons_succ, EV.val] at hp
          conv => whnf
          refine hp.kstA TTok rfl 1 rfl (wd_len _) (wd_one _) (by rfl) fun w hp => ?_
          try simp only [List.set_cons_zero, List.set_cons_succ, EV.val] at hp
          conv => whnf
          refine hp.kstA TTok rfl 2 rfl (wd_len _) (wd_one _) (by rfl) fun w hp => ?_
          try simp only [List.set_cons_zero, List.set_cons_succ, EV.val] at hp
          conv => whnf
          exact hK2 _ _ _ _ (hp.pick [0, 1, 2] (by decide)) _ (sub_cons rfl (sub_cons rfl (sub_cons rfl (sub_cons rfl (sub_cons rfl (sub_cons rfl (sub_cons rfl (sub_cons rfl sub_nil))))))))
    · have hlt := of_decide_eq_false hlt
      conv => whnf
      clear hKq Kq
      refine hKq _ _ _ (V.Sub.refl _) ?_
      clear hKq Kq
      conv => whnf
      refine VSeq.mk fun Kq hKq => ?_
      conv => whnf
      refine hKq _ _ _ (V.Sub.refl _) ?_
      clear hKq Kq
      conv => whnf
      refine VSeq.mk fun Kq hKq => ?_
      conv => whnf
      refine VSeq.mk fun Kq hKq => ?_
      conv => whnf
      refine hKq _ _ _ (V.Sub.refl _) ?_
      clear hKq Kq
      conv => whnf
      obtain rfl : i = 64 := by omega
      have hR8 := rnds_W8 KL Wd h8 64
      obtain ⟨R, hR⟩ : ∃ L, rnds KL Wd h 64 = L := ⟨_, rfl⟩
      rw [hR] at hv hR8
      have hh := hh.ext hxw
      have hxw := hx2.trans hxw
      obtain ⟨pv, cv, rfl⟩ := hv.shape
      have hlh : (kw .i64 h).length = 8 := by rw [kw_len, h8.1]
      have hlR : (kw .i64 R).length = 8 := by rw [kw_len, hR8.1]
      clear hlt hmm hx2 hWs hqt hK hWm hWl
      conv => whnf
      have hp := (HpM.nil0 [] w).knil 3 1
      have hp : HpM [] w w [row 3 1 (.slice none 0 0) 0 (kw .i64 ((addW h R).take 0))] := hp
      refine ⟨fun mm e w' => ∃ (i : Nat) (v : Value), mm + i = 8 ∧ e = [(1, .v (.slice ph (kw .i64 h).length ch)), (11, .v (.slice pv (kw .i64 R).length cv)), (21, .v v), (22, .v (.int .i64 i))] ∧ HpM [] w w' [row 3 1 v i (kw .i64 ((addW h R).take i))],
        ⟨8, _, ⟨0, _, by omega, rfl, hp⟩, sub_cons rfl (sub_cons rfl (sub_cons rfl (sub_cons rfl sub_nil)))⟩, ?_⟩
      clear hp
      repeat clear hp
      rintro mm _ w3 ⟨i, v, hmm, rfl, hp⟩
      conv => whnf
      refine VSeq.mk fun Kq hKq => ?_
      conv => whnf
      refine VSeq.mk fun Kq hKq => ?_
      conv => whnf
      refine hKq _ _ _ (V.Sub.refl _) ?_
      clear hKq Kq
      conv => whnf
      refine ⟨fun hlt => ?_, fun hlt => ?_⟩
      · have hlt := of_decide_eq_true hlt
        conv => whnf
        refine hKq _ _ _ (V.Sub.refl _) ?_
        clear hKq Kq
        conv => whnf
        refine VSeq.mk fun Kq hKq => ?_
        conv => whnf
        have hi : i < 8 := by omega
        obtain ⟨g1, o1, rfl, c1⟩ := hh.at (getk (L := h) (i := i) (by rw [h8.1]; exact hi))
        obtain ⟨g2, o2, rfl, c2⟩ := hv.at (getk (L := R) (i := i) (by rw [hR8.1]; exact hi))
        have hs := sum_p (h.getD i 0) (R.getD i 0) 0 0 0 (h8.get i) (hR8.get i) (by decide) (by decide) (by decide)
        have hsucc : (addW h R).take (i + 1) = (addW h R).take i ++ [(h.getD i 0 + R.getD i 0) % M32] := by
          rw [List.take_add_one, addW_get h R i hi]; rfl
        obtain ⟨x, hxd⟩ : ∃ x, (h.getD i 0 + R.getD i 0) % M32 = x := ⟨_, rfl⟩
        rw [hxd] at hsucc
        rw [show h.getD i 0 + R.getD i 0 + 0 + 0 + 0 = h.getD i 0 + R.getD i 0 from rfl, hxd] at hs
        have hxr := hp.ext
        refine v_mix TTok FFok mixed 11 [(0, false), (1, false), (2, false), (3, false), (4, false), (5, false), (6, false), (7, false), (8, false), (9, false), (10, true)] (by kernel_rfl) ?_
        conv => whnf
        refine ⟨i, ⟨by first | rfl | omega, by rw [hlh]; omega⟩, ?_⟩
        conv => whnf
        refine ⟨_, fun w2 hx' => run_ld TTok rfl (by rw [addM_eq, Nat.mul_one]; exact Ext.cell (hxr.trans hx') c1), ?_⟩
        conv => whnf
        refine ⟨i, ⟨by first | rfl | omega, by rw [hlR]; omega⟩, ?_⟩
        conv => whnf
        refine ⟨_, fun w2 hx' => run_ld TTok rfl (by rw [addM_eq, Nat.mul_one]; exact Ext.cell (hxr.trans hx') c2), ?_⟩
        conv => whnf
        first | refine PureF.quiet (hs) ?_ | refine PureF.quietE (hs) ?_
        conv => whnf
        intro w hx
        try (have hp := hp.call hx)
        conv => whnf
        refine hp.kmade (kw .i64 [x]) 3 (fun b => .slice (some ⟨b, 0, none⟩) 1 1) (by kernel_rfl) fun tb w hp hx => ?_
        conv => whnf
        refine And.intro hx ?_
        conv => whnf
        intro w hx
        try (have hp := hp.call hx)
        conv => whnf
        refine hp.kapp sl50 1 rfl (Blk.src TTok (hp.get (i := 0) rfl) rfl rfl (kw_one _ _)) (by omega) (by unfold maxLen; omega) fun v' w hp => ?_
        simp only [List.set_cons_zero, List.set_cons_succ] at hp
        rw [← kw_app, ← hsucc] at hp
        conv => whnf
        refine hKq _ _ _ (V.Sub.refl _) ?_
        clear hKq Kq
        conv => whnf
        refine And.intro (by omega) ?_
        conv => whnf
        exact ⟨mm - 1, _, by omega, ⟨i + 1, v', by omega, rfl, hp.tail⟩, sub_cons rfl (sub_cons rfl (sub_cons rfl (sub_cons rfl sub_nil)))⟩
      · have hlt := of_decide_eq_false hlt
        conv => whnf
        clear hKq Kq
        refine hKq _ _ _ (V.Sub.refl _) ?_
        clear hKq Kq
        conv => whnf
        refine VSeq.mk fun Kq hKq => ?_
        conv => whnf
        refine hKq _ _ _ (V.Sub.refl _) ?_
        clear hKq Kq
        conv => whnf
        obtain rfl : i = 8 := by omega
        rw [List.take_of_length_le (by rw [(addW_W8 h R).1]; exact Nat.le_refl _)] at hp
        exact ⟨by rw [hmix, hR]; exact SLv.of_row (hp.get (i := 0) rfl), hxw.trans hp.ext⟩
end Go.Proofs.Ytebmmfeegjgbeaa
