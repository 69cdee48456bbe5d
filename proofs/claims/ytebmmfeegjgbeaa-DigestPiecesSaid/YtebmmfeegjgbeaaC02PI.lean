/- Chapter 02: DigestPieces. -/
import Derived.Test.YtebmmfeegjgbeaaC02PB
namespace Go.Proofs.Ytebmmfeegjgbeaa
set_option linter.unusedSimpArgs false
set_option linter.unusedVariables false
open Go.RowKit V
set_option maxRecDepth 100000
theorem pick_sg (s g : ByteArray) (i : Nat) (h : i < 2) (w : World) : ∃ x : ByteArray, (Instr.index 56 (.agg #[.string s, .string g]) (.int .i64 (i : Nat))).run Try.prog w = .ok (.string x) w ∧ (x = s ∨ x = g) := by
  rcases (by omega : i = 0 ∨ i = 1) with rfl | rfl
  · exact ⟨s, rfl, .inl rfl⟩
  · exact ⟨g, rfl, .inr rfl⟩
theorem hXs_one (x : HX3) : hXs [x] = hX x := List.append_nil _
theorem hXs_app (a b : List HX3) : hXs (a ++ b) = hXs a ++ hXs b := by unfold hXs; rw [List.flatMap_append]
set_option maxHeartbeats 6400000 in
theorem DigestPieces_c {W : World} {v : Value} (h : List Nat) (tail : ByteArray) (c : Int) (s0 : ByteArray) (n : Nat) (L : List ByteArray) (hv : SLv W v (L.map .string)) (hh : W8 h) (hc : -9223372036854775808 ≤ c ∧ c ≤ 9223372036854775807) (hn : n < 65536) :
    Calls Try.prog 8 #[.agg (hC h tail c).toArray, .string s0, .int .u16 n, v] W fun e w' => e = .returned (.bool true) ∧ Ext W w' := by
  have hv : SLv W v (sw L) := hv
  obtain ⟨p, cp, rfl⟩ := hv.shape
  rw [sw_len] at hv ⊢
  obtain ⟨v', hrun, hv'⟩ := SLv.hi TTok (t := 22) rfl rfl hv (min L.length 5) (by rw [sw_len]; omega)
  rw [psw_take] at hv'
  obtain ⟨M, hM⟩ : ∃ M, L.take (min L.length 5) = M := ⟨_, rfl⟩
  have hMl : M.length ≤ 5 := by rw [← hM, List.length_take]; omega
  rw [hM] at hv'
  obtain ⟨p', c', rfl⟩ := hv'.shape
  rw [sw_len] at hv' hrun
  have hCl : (hC h tail c).length = 10 := by rw [hC_len, hh.1]
  refine v_reads (args := [.agg (hC h tail c).toArray, .string s0, .int .u16 n, .slice p L.length cp]) TTok FFok Try.func8 rfl rfl ?_
  conv => whnf
  refine VSeq.mk fun Kq hKq => ?_
  conv => whnf
  have hp := Hp.nil W
  refine hp.kbox (hC h tail c) rfl fun q4 w hp hx => ?_
  conv => whnf
  refine hKq _ _ _ (V.Sub.refl _) ?_
  clear hKq Kq
  conv => whnf
  refine VSeq.mk fun Kq hKq => ?_
  conv => whnf
  refine VSeq.mk fun Kq hKq => ?_
  conv => whnf
  have hp : HpM [] W w [blk q4 (hC h tail c) 27] := hp
  refine PureF.use (works_p) fun w hx => ?_
  try (have hp := hp.call hx)
  conv => whnf
  refine hKq _ _ _ (V.Sub.refl _) ?_
  clear hKq Kq
  conv => whnf
  refine And.intro (fun h => by cases h) (fun _ => ?_)
  conv => whnf
  refine hKq _ _ _ (V.Sub.refl _) ?_
  clear hKq Kq
  conv => whnf
  refine VSeq.mk fun Kq hKq => ?_
  conv => whnf
  refine v_mix TTok FFok mixed 10 [(0, false), (1, false), (2, false), (3, false), (4, false), (5, false), (6, false), (7, false), (8, false), (9, false)] (by kernel_rfl) ?_
  conv => whnf
  refine ⟨_, fun w' hx' => Blk.ld (Blk.ext (hp.get (i := 0) rfl) hx') TTok rfl (hC_get8 h tail c hh), ?_⟩
  conv => whnf
  refine ⟨_, fun w' hx' => Blk.ld (Blk.ext (hp.get (i := 0) rfl) hx') TTok rfl (hC_get8 h tail c hh), ?_⟩
  conv => whnf
  refine ⟨min tail.size 70, ⟨by first | rfl | omega, by omega⟩, ?_⟩
  conv => whnf
  first | refine PureF.quiet (cut_p s0) ?_ | refine PureF.quietE (cut_p s0) ?_
  conv => whnf
  intro w hx
  try (have hp := hp.call hx)
  conv => whnf
  have zt := size_extract tail 0 (min tail.size 70) (by omega)
  have zs := size_extract s0 0 (min s0.size 300) (by omega)
  obtain ⟨T, hT⟩ : ∃ s, tail.extract 0 (min tail.size 70) = s := ⟨_, rfl⟩
  obtain ⟨s, hs⟩ : ∃ s, s0.extract 0 (min s0.size 300) = s := ⟨_, rfl⟩
  rw [hT] at zt
  rw [hs] at zs
  rw [hT, hs]
  clear hT hs
  refine hp.kst1 (off := 8) TTok (by rfl) 0 (by rfl) (by rfl) (by rfl) (by rw [hCl]; omega) fun w hp => ?_
  try simp only [List.set_cons_zero, List.set_cons_succ, EV.val] at hp
  conv => whnf
  refine hKq _ _ _ (V.Sub.refl _) ?_
  clear hKq Kq
  conv => whnf
  refine VSeq.mk fun Kq hKq => ?_
  conv => whnf
  rw [hC_set8 h tail T c hh.1] at hp
  have hCT : (hC h T c).length = 10 := by rw [hC_len, hh.1]
  refine Calls.mono (rConst_c (W := w)) ?_
  rintro _ w ⟨_, rfl, ⟨vS, vK, rfl, hS, hK⟩, hx⟩
  refine ⟨_, rfl, ?_⟩
  conv => whnf
  have hp := hp.call hx
  obtain ⟨pS, cS, rfl⟩ := hS.shape
  obtain ⟨pK, cK, rfl⟩ := hK.shape
  have hx00 := hp.ext
  have hq4 : Blk w q4 (hC h T c) 27 := hp.get (i := 0) rfl
  have hp := HpM.nil0 [] w
  refine hp.kalloc z52 fun q9 w hp hx => ?_
  conv => whnf
  refine hp.kstA TTok rfl 0 rfl (rfl) ((by intro u hu; simp at hu; rcases hu with rfl | rfl <;> rfl)) (rfl) fun w hp => ?_
  try simp only [List.set_cons_zero, List.set_cons_succ, EV.val] at hp
  conv => whnf
  refine hKq _ _ _ (V.Sub.refl _) ?_
  clear hKq Kq
  conv => whnf
  refine VSeq.mk fun Kq hKq => ?_
  conv => whnf
  refine ⟨_, _, Blk.ldN (Blk.ext hq4 hp.ext) TTok rfl hCT, ?_⟩
  conv => whnf
  refine hp.kalloc z27 fun q10 w hp hx => ?_
  conv => whnf
  refine hp.kstA TTok rfl 0 rfl (hCT) (hC_one _ _ _) (by rfl) fun w hp => ?_
  try simp only [List.set_cons_zero, List.set_cons_succ, EV.val] at hp
  conv => whnf
  refine hKq _ _ _ (V.Sub.refl _) ?_
  clear hKq Kq
  conv => whnf
  refine VSeq.mk fun Kq hKq => ?_
  conv => whnf
  refine ⟨_, _, Blk.ld (off := 9) (Blk.ext hq4 hp.ext) TTok rfl (hC_get9 h T c hh), ?_⟩
  conv => whnf
  refine And.intro (by omega) ?_
  conv => whnf
  obtain ⟨k, hk, hk64⟩ : ∃ k : Nat, max c 0 % 64 = (k : Int) ∧ k < 64 := ⟨(max c 0 % 64).toNat, by omega, by omega⟩
  rw [hk]
  refine PureF.use (Repeat_p (⟨#[121]⟩ : ByteArray) k (by show 1 * k ≤ _; omega) (by omega)) fun w hx => ?_
  try (have hp := hp.call hx)
  conv => whnf
  have hYz : (repS (⟨#[121]⟩ : ByteArray) k).size = k := by rw [repS_size]; show k * 1 = k; omega
  obtain ⟨Y, hY⟩ : ∃ Y, repS (⟨#[121]⟩ : ByteArray) k = Y := ⟨_, rfl⟩
  rw [hY] at hYz ⊢
  refine hp.kst1 (off := 8) TTok (by rfl) 0 (by rfl) (by rfl) (by rfl) (by rw [hCT]; omega) fun w hp => ?_
  try simp only [List.set_cons_zero, List.set_cons_succ, EV.val] at hp
  conv => whnf
  refine hKq _ _ _ (V.Sub.refl _) ?_
  clear hKq Kq
  conv => whnf
  refine VSeq.mk fun Kq hKq => ?_
  conv => whnf
  rw [hC_set8 h T Y c hh.1] at hp
  obtain ⟨S0, hS0⟩ : ∃ S0, stB [] = S0 := ⟨_, rfl⟩
  have hSl : S0.length = 10 := by rw [← hS0]; exact stB_len []
  have hS1 : ∀ u ∈ S0, u.oneCell' = true := by rw [← hS0]; exact pB_one []
  have hS8 : S0[8]? = some (.string ⟨#[]⟩) := by rw [← hS0]; exact pB_tail []
  have hS9 : S0[9]? = some (.int .i64 0) := by rw [← hS0]; exact pB_cnt []
  have hSw : (S0.drop 0).take 8 = kw .u32 SL := by rw [← hS0]; rfl
  have hst : PureF Try.prog 11 #[] (.agg S0.toArray) := by rw [← hS0]; exact Start_st
  have hS0 : hX (hSt []) = S0 := by rw [← hS0]; rfl
  refine PureF.use (hst) fun w hx => ?_
  try (have hp := hp.call hx)
  conv => whnf
  refine hp.kalloc z27 fun q11 w hp hx => ?_
  conv => whnf
  refine hp.kstA TTok rfl 0 rfl (hSl) (hS1) (by rfl) fun w hp => ?_
  try simp only [List.set_cons_zero, List.set_cons_succ, EV.val] at hp
  conv => whnf
  refine hKq _ _ _ (V.Sub.refl _) ?_
  clear hKq Kq
  conv => whnf
  refine VSeq.mk fun Kq hKq => ?_
  conv => whnf
  refine VSeq.mk fun Kq hKq => ?_
  conv => whnf
  have hp : HpM [] _ w [blk q11 S0 27, blk q10 (hC h Y c) 27, blk q9 [.slice pS (kw .i64 SL).length cS, .slice pK (kw .i64 KL).length cK] 52] := hp
  have hCY : (hC h Y c).length = 10 := by rw [hC_len, hh.1]
  refine ⟨_, _, Blk.ldV (off := 0) (hp.get (i := 0) rfl) TTok rfl (vs := kw .u32 SL) (hSw) (by rfl), ?_⟩
  conv => whnf
  refine hKq _ _ _ (V.Sub.refl _) ?_
  clear hKq Kq
  conv => whnf
  refine ⟨fun mm e w' => ∃ (i : Nat), mm + i = 8 ∧ e = [(1, .v (.string s)), (2, .v (.int .u16 n)), (3, .v (.slice p L.length cp)), (4, .v (.pointer (some ⟨q4, 0, none⟩))), (9, .v (.pointer (some ⟨q9, 0, none⟩))), (10, .v (.pointer (some ⟨q10, 0, none⟩))), (11, .v (.pointer (some ⟨q11, 0, none⟩))), (53, .v (.agg (kw .u32 SL).toArray)), (54, .v (.int .i64 i))] ∧
      HpM [] _ w' [blk q11 S0 27, blk q10 (hC h Y c) 27, blk q9 [.slice pS (kw .i64 SL).length cS, .slice pK (kw .i64 KL).length cK] 52],
      ⟨8, _, ⟨0, by omega, rfl, hp⟩, sub_cons rfl (sub_cons rfl (sub_cons rfl (sub_cons rfl (sub_cons rfl (sub_cons rfl (sub_cons rfl (sub_cons rfl (sub_cons rfl sub_nil))))))))⟩, ?_⟩
  clear hp hx
  repeat clear hp
  rintro mm _ w ⟨i, hmm, rfl, hp⟩
  conv => whnf
  refine VSeq.mk fun Kq hKq => ?_
  conv => whnf
  refine hKq _ _ _ (V.Sub.refl _) ?_
  clear hKq Kq
  conv => whnf
  refine VSeq.mk fun Kq hKq => ?_
  conv => whnf
  refine ⟨fun hlt => ?_, fun hlt => ?_⟩
  · have hlt := of_decide_eq_true hlt
    conv => whnf
    refine hKq _ _ _ (V.Sub.refl _) ?_
    clear hKq Kq
    conv => whnf
    refine VSeq.mk fun Kq hKq => ?_
    conv => whnf
    refine VSeq.mk fun Kq hKq => ?_
    conv => whnf
    have hi : i < 8 := by omega
    obtain ⟨g, off, rfl, c1⟩ := hS.at (getk (L := SL) (i := i) hi)
    have hi8 := idx8 SL rfl i hi w
    have hx4 : SL.getD i 0 < 4294967296 := SL_W8.get i
    obtain ⟨x, hxd⟩ : ∃ x, SL.getD i 0 = x := ⟨_, rfl⟩
    rw [hxd] at hi8 hx4 c1
    refine ⟨_, w, hi8, ?_⟩
    conv => whnf
    refine hKq _ _ _ (V.Sub.refl _) ?_
    clear hKq Kq
    conv => whnf
    refine VSeq.mk fun Kq hKq => ?_
    conv => whnf
    refine And.intro (by omega) ?_
    conv => whnf
    refine ⟨_, _, Blk.ld (hp.get (i := 2) rfl) TTok rfl (rfl), ?_⟩
    conv => whnf
    refine ⟨i, ⟨by first | rfl | omega, by show i < 8; exact hi⟩, ?_⟩
    conv => whnf
    refine ⟨_, _, run_ld TTok rfl (by rw [addM_eq, Nat.mul_one]; exact Ext.cell hp.ext c1), ?_⟩
    conv => whnf
    refine hKq _ _ _ (V.Sub.refl _) ?_
    clear hKq Kq
    conv => whnf
    refine And.intro (fun h => absurd (of_decide_eq_true h) ((fun h => h rfl))) (fun _ => ?_)
    conv => whnf
    refine hKq _ _ _ (V.Sub.refl _) ?_
    clear hKq Kq
    conv => whnf
    refine And.intro (by omega) ?_
    conv => whnf
    exact ⟨mm - 1, _, by omega, ⟨i + 1, by omega, rfl, hp⟩, sub_cons rfl (sub_cons rfl (sub_cons rfl (sub_cons rfl (sub_cons rfl (sub_cons rfl (sub_cons rfl (sub_cons rfl (sub_cons rfl sub_nil))))))))⟩
  · have hlt := of_decide_eq_false hlt
    conv => whnf
    clear hKq Kq
    refine hKq _ _ _ (V.Sub.refl _) ?_
    clear hKq Kq
    conv => whnf
    refine VSeq.mk fun Kq hKq => ?_
    conv => whnf
    refine VSeq.mk fun Kq hKq => ?_
    conv => whnf
    refine VSeq.mk fun Kq hKq => ?_
    conv => whnf
    refine ⟨_, _, Blk.ld (hp.get (i := 0) rfl) TTok rfl (hS8), ?_⟩
    conv => whnf
    refine hKq _ _ _ (V.Sub.refl _) ?_
    clear hKq Kq
    conv => whnf
    refine And.intro (fun h => absurd (of_decide_eq_true h) ((fun h => h rfl))) (fun _ => ?_)
    conv => whnf
    refine ⟨_, _, Blk.ld (hp.get (i := 0) rfl) TTok rfl (hS9), ?_⟩
    conv => whnf
    refine hKq _ _ _ (V.Sub.refl _) ?_
    clear hKq Kq
    conv => whnf
    refine And.intro (fun h => absurd (of_decide_eq_true h) ((fun h => h rfl))) (fun _ => ?_)
    conv => whnf
    refine hKq _ _ _ (V.Sub.refl _) ?_
    clear hKq Kq
    conv => whnf
    refine VSeq.mk fun Kq hKq => ?_
    conv => whnf
    refine ⟨_, _, Blk.ldN (Blk.ext hq4 hp.ext) TTok rfl hCT, ?_⟩
    conv => whnf
    refine ⟨_, _, Blk.ldN (hp.get (i := 1) rfl) TTok rfl (hCY), ?_⟩
    conv => whnf
    refine ⟨_, _, Blk.ldN (hp.get (i := 0) rfl) TTok rfl (hSl), ?_⟩
    conv => whnf
    have okT : HOk (h, T, c) := ⟨hh, by show T.size ≤ 70; omega, hc⟩
    have okY : HOk (h, Y, c) := ⟨hh, by show Y.size ≤ 70; omega, hc⟩
    have ok0 : HOk (hSt []) := hSt_ok [] (by decide)
    have hok3 : ∀ x ∈ [(h, T, c), (h, Y, c), hSt []], HOk x := by
      intro x hx
      simp only [List.mem_cons, List.not_mem_nil, or_false] at hx
      rcases hx with rfl | rfl | rfl
      · exact okT
      · exact okY
      · exact ok0
    have hb3 : (Instr.buildSlice 62 3 #[(0, .agg (hC h T c).toArray), (1, .agg (hC h Y c).toArray), (2, .agg (hX (hSt [])).toArray)]).run Try.prog w = .ok (.slice (some ⟨w.heap.size, 0, none⟩) 3 3) (w.alloc (.cells (hXs [(h, T, c), (h, Y, c), hSt []]).toArray 27)) := build3 (h, T, c) (h, Y, c) (hSt []) okT okY ok0 w
    have hl3 : (hXs [(h, T, c), (h, Y, c), hSt []]).length = 3 * 10 := hXs_len _ hok3
    obtain ⟨HS, hHS⟩ : ∃ HS, [(h, T, c), (h, Y, c), hSt []] = HS := ⟨_, rfl⟩
    have hHl : HS.length = 3 := by rw [← hHS]; rfl
    rw [hHS] at hb3 hl3 hok3
    rw [hS0] at hb3
    refine hp.kmadeR (hXs HS) 27 10 3 hl3 (by unfold maxLen; omega) hb3 fun b w hp hx => ?_
    conv => whnf
    refine hKq _ _ _ (V.Sub.refl _) ?_
    clear hKq Kq
    conv => whnf
    refine VSeq.mk fun Kq hKq => ?_
    conv => whnf
    refine VSeq.mk fun Kq hKq => ?_
    conv => whnf
    rw [show min ((L.length : Nat) : Int) 5 = ((min L.length 5 : Nat) : Int) by omega]
    refine ⟨_, w, hrun _ w, ?_⟩
    conv => whnf
    refine hKq _ _ _ (V.Sub.refl _) ?_
    clear hKq Kq
    conv => whnf
    rw [← hHl] at hp
    rw [← hS0] at hp
    have hp : HpM [] _ w [row 27 10 (.slice (some ⟨b, 0, none⟩) HS.length HS.length) HS.length (hXs HS), blk q11 (stB []) 27, blk q9 [.slice pS (kw .i64 SL).length cS, .slice pK (kw .i64 KL).length cK] 52] := hp.pick [0, 1, 3] (by decide)
    have hHl3 : HS.length ≤ 3 + 0 := by omega
    have hHg3 : 3 ≤ HS.length := by omega
    have e14 : EV.v (.slice (some ⟨b, 0, none⟩) 3 3) = .v (.slice (some ⟨b, 0, none⟩) HS.length HS.length) := by rw [hHl]
    rw [e14]
    obtain ⟨v, hvd⟩ : ∃ v : Value, .slice (some ⟨b, 0, none⟩) HS.length HS.length = v := ⟨_, rfl⟩
    rw [hvd] at hp
    rw [hvd]
    clear hvd e14 hb3 hl3 hHS hHl hx
    refine ⟨fun mm e w' => ∃ (i : Nat) (a : List UInt8) (v : Value) (HS : List HX3), mm + i = M.length ∧ a.length ≤ 300 * i ∧ (∀ x ∈ HS, HOk x) ∧ HS.length ≤ 3 + i ∧ 3 ≤ HS.length ∧ e = [(1, .v (.string s)), (2, .v (.int .u16 n)), (9, .v (.pointer (some ⟨q9, 0, none⟩))), (11, .v (.pointer (some ⟨q11, 0, none⟩))), (14, .v v), (83, .v (.slice p' M.length c')), (84, .v (.int .i64 M.length)), (85, .v (.int .i64 i))] ∧
        HpM [] _ w' [row 27 10 v HS.length (hXs HS), blk q11 (stB a) 27, blk q9 [.slice pS (kw .i64 SL).length cS, .slice pK (kw .i64 KL).length cK] 52],
        ⟨M.length, _, ⟨0, [], v, HS, by omega, by simp, hok3, hHl3, hHg3, rfl, hp⟩, sub_cons rfl (sub_cons rfl (sub_cons rfl (sub_cons rfl (sub_cons rfl (sub_cons rfl (sub_cons rfl (sub_cons rfl sub_nil)))))))⟩, ?_⟩
    clear hp
    repeat clear hp
    rintro mm _ w ⟨i, a, v, HS, hmm, hal, hok, hHl, hHg, rfl, hp⟩
    conv => whnf
    refine VSeq.mk fun Kq hKq => ?_
    conv => whnf
    refine hKq _ _ _ (V.Sub.refl _) ?_
    clear hKq Kq
    conv => whnf
    refine VSeq.mk fun Kq hKq => ?_
    conv => whnf
    refine ⟨fun hlt => ?_, fun hlt => ?_⟩
    · have hlt := of_decide_eq_true hlt
      conv => whnf
      refine hKq _ _ _ (V.Sub.refl _) ?_
      clear hKq Kq
      conv => whnf
      refine VSeq.mk fun Kq hKq => ?_
      conv => whnf
      refine VSeq.mk fun Kq hKq => ?_
      conv => whnf
      obtain ⟨x, hx5⟩ : ∃ x, M[i]? = some x := ⟨M[i]'(by omega), List.getElem?_eq_getElem (by omega)⟩
      have hvi := (hv'.ext (hx00.trans hp.ext)).at (sw_get hx5)
      obtain ⟨g5, off5, rfl, c5⟩ := hvi
      refine ⟨i, ⟨by first | rfl | omega, by show i < M.length; omega⟩, ?_⟩
      conv => whnf
      refine ⟨_, _, run_ld TTok rfl (by rw [addM_eq, Nat.mul_one]; exact c5), ?_⟩
      conv => whnf
      refine hKq _ _ _ (V.Sub.refl _) ?_
      clear hKq Kq
      conv => whnf
      refine VSeq.mk fun Kq hKq => ?_
      conv => whnf
      have hBl := stB_len a
      have hcz := size_extract x 0 (min x.size 300) (by omega)
      have hcut := cut_p x
      obtain ⟨X, hXe⟩ : ∃ X, x.extract 0 (min x.size 300) = X := ⟨_, rfl⟩
      rw [hXe] at hcz hcut
      have hXz := toList_len X
      have hm := More_st a X (by omega) (by omega)
      unfold stV at hm
      have hAl := stB_len (a ++ X.data.toList)
      have hst2 := hSt_eq (a ++ X.data.toList)
      have hsok := hSt_ok (a ++ X.data.toList) (by rw [List.length_append]; omega)
      have hadd := stB_add a X
      obtain ⟨A, hA⟩ : ∃ A, a ++ X.data.toList = A := ⟨_, rfl⟩
      rw [hA] at hm hAl hst2 hsok hadd
      refine v_mtB TTok FFok mixed [8] (.q 0 (.q 1 (.q 2 (.q 3 (.q 4 (.q 5 (.br 6 7 (.m 7 (.m 8 (.m 9 .nil))) (.br 6 8 (.m 8 (.m 9 .nil)) (.m 6 (.m 9 .nil)))))))))) (by kernel_rfl) ?_
      conv => whnf
      refine ⟨_, fun w' hx' => Blk.ldN (Blk.ext (hp.get (i := 1) rfl) hx') TTok rfl (hBl), ?_⟩
      conv => whnf
      first | refine PureF.quiet (hcut) ?_ | refine PureF.quietE (hcut) ?_
      conv => whnf
      first | refine PureF.quiet (hm) ?_ | refine PureF.quietE (hm) ?_
      conv => whnf
      refine And.intro ?_ ?_
      · intro w hx
        try (have hp := hp.call hx)
        conv => whnf
        refine And.intro (fun h => h) ?_
        conv => whnf
        intro w hx
        try (have hp := hp.call hx)
        conv => whnf
        refine hp.kalloc z27 fun q17 w hp hx => ?_
        conv => whnf
        refine And.intro (fun h => h.trans hx) ?_
        conv => whnf
        intro w hx
        try (have hp := hp.call hx)
        conv => whnf
        refine hp.kstA TTok rfl 0 rfl (hAl) ((by intro u hu; exact hC_one _ _ _ u (by rw [← hst2] at hu; exact hu))) (by rfl) fun w hp => ?_
        try simp only [List.set_cons_zero, List.set_cons_succ, EV.val] at hp
        conv => whnf
        intro w hx
        try (have hp := hp.call hx)
        conv => whnf
        refine And.intro (fun h => h) ?_
        conv => whnf
        intro w hx
        try (have hp := hp.call hx)
        conv => whnf
        refine hKq _ _ _ (V.Sub.refl _) ?_
        clear hKq Kq
        conv => whnf
        refine VSeq.mk fun Kq hKq => ?_
        conv => whnf
        refine VSeq.mk fun Kq hKq => ?_
        conv => whnf
        refine v_mixA TTok FFok mixed [(0, false), (1, false), (2, false), (3, false), (4, false), (5, false), (6, false), (7, false), (8, true), (9, false), (10, false)] (by kernel_rfl) ?_
        conv => whnf
        refine And.intro (fun h => absurd (of_decide_eq_true h) ((fun h => h rfl))) (fun _ => ?_)
        conv => whnf
        refine ⟨_, fun w' hx' => Blk.ldN (Blk.ext (hp.get (i := 0) rfl) hx') TTok rfl (hAl), ?_⟩
        conv => whnf
        refine ⟨_, fun w' hx' => Blk.ldN (Blk.ext (hp.get (i := 3) rfl) hx') TTok rfl rfl, ?_⟩
        conv => whnf
        refine ⟨_, fun w' hx' => Blk.ldN (Blk.ext (hp.get (i := 2) rfl) hx') TTok rfl (hBl), ?_⟩
        conv => whnf
        first | refine PureF.quiet (hcut) ?_ | refine PureF.quietE (hcut) ?_
        conv => whnf
        intro w hx
        try (have hp := hp.call hx)
        conv => whnf
        refine Calls.mono (rMore_c (W := w) (mixA KL SL a) ⟨(rest a).toArray⟩ X a.length (hS.ext hp.ext) (hK.ext hp.ext) (mixA_W8 KL SL_W8 a) (by show (rest a).length < 64; rw [rest_len]; omega) (by omega) (by omega)) ?_
        rintro _ w ⟨_, rfl, rfl, hx⟩
        refine ⟨_, rfl, ?_⟩
        conv => whnf
        refine And.intro hx ?_
        conv => whnf
        have hp := hp.call hx
        rw [hadd]
        refine ⟨_, fun w' _ => hash_same (mixA KL SL A) ⟨(rest A).toArray⟩ ((A.length : Nat) : Int) (mixA_W8 KL SL_W8 A) (by show (rest A).length ≤ _; rw [rest_len]; unfold maxLen; omega) hsok.2.2 _ _ w', ?_⟩
        conv => whnf
        intro w hx
        try (have hp := hp.call hx)
        conv => whnf
        refine hKq _ _ _ (V.Sub.refl _) ?_
        clear hKq Kq
        conv => whnf
        refine And.intro (fun h => by cases h) (fun _ => ?_)
        conv => whnf
        refine hKq _ _ _ (V.Sub.refl _) ?_
        clear hKq Kq
        conv => whnf
        refine VSeq.mk fun Kq hKq => ?_
        conv => whnf
        refine ⟨_, _, Blk.ldN (hp.get (i := 0) rfl) TTok rfl (hAl), ?_⟩
        conv => whnf
        refine hp.kstA TTok rfl 2 rfl (hAl) ((by intro u hu; exact hC_one _ _ _ u (by rw [← hst2] at hu; exact hu))) (hBl) fun w hp => ?_
        try simp only [List.set_cons_zero, List.set_cons_succ, EV.val] at hp
        conv => whnf
        refine hKq _ _ _ (V.Sub.refl _) ?_
        clear hKq Kq
        conv => whnf
        refine ⟨_, _, Blk.ldN (hp.get (i := 2) rfl) TTok rfl (hAl), ?_⟩
        conv => whnf
        have hb1 := build1 (hSt A) hsok w
        rw [hst2] at hb1
        refine hp.kmade (hXs [hSt A]) 27 (fun b => .slice (some ⟨b, 0, none⟩) 1 1) hb1 fun tb w hp hx => ?_
        conv => whnf
        refine hp.kapp sl62 2 rfl (Blk.src TTok (hp.get (i := 0) rfl) rfl (hXs_len _ (by intro z hz; rw [List.mem_singleton] at hz; subst hz; exact hsok)) (by intro u hu; rw [hXs_one, hst2] at hu; exact pB_one A u hu)) (by omega) (by unfold maxLen; omega) fun v' w hp => ?_
        simp only [List.set_cons_zero, List.set_cons_succ] at hp
        rw [← hXs_app] at hp
        conv => whnf
        refine hKq _ _ _ (V.Sub.refl _) ?_
        clear hKq Kq
        conv => whnf
        refine And.intro (by omega) ?_
        conv => whnf
        have el : (HS ++ [hSt A]).length = HS.length + 1 := by rw [List.length_append]; rfl
        rw [← el] at hp
        have hp : HpM [] _ w [row 27 10 v' (HS ++ [hSt A]).length (hXs (HS ++ [hSt A])), blk q11 (stB A) 27, blk q9 [.slice pS (kw .i64 SL).length cS, .slice pK (kw .i64 KL).length cK] 52] := hp.pick [2, 3, 4] (by decide)
        exact ⟨mm - 1, _, by omega, ⟨i + 1, A, v', HS ++ [hSt A], by omega, by rw [← hA, List.length_append]; omega, (by
          intro z hz
          rcases List.mem_append.1 hz with hz | hz
          · exact hok z hz
          · rw [List.mem_singleton] at hz; subst hz; exact hsok), by omega, by omega, rfl, hp⟩, sub_cons rfl (sub_cons rfl (sub_cons rfl (sub_cons rfl (sub_cons rfl (sub_cons rfl (sub_cons rfl (sub_cons rfl sub_nil)))))))⟩
      · intro w hx
        try (have hp := hp.call hx)
        conv => whnf
        refine hp.kalloc z27 fun q17 w hp hx => ?_
        conv => whnf
        refine And.intro (fun h => h.trans hx) ?_
        conv => whnf
        refine And.intro ?_ ?_
        · intro w hx
          try (have hp := hp.call hx)
          conv => whnf
          refine And.intro (fun h => h) ?_
          conv => whnf
          intro w hx
          try (have hp := hp.call hx)
          conv => whnf
          refine hp.kstA TTok rfl 0 rfl (hAl) ((by intro u hu; exact hC_one _ _ _ u (by rw [← hst2] at hu; exact hu))) (by rfl) fun w hp => ?_
          try simp only [List.set_cons_zero, List.set_cons_succ, EV.val] at hp
          conv => whnf
          intro w hx
          try (have hp := hp.call hx)
          conv => whnf
          refine And.intro (fun h => h) ?_
          conv => whnf
          intro w hx
          try (have hp := hp.call hx)
          conv => whnf
          refine hKq _ _ _ (V.Sub.refl _) ?_
          clear hKq Kq
          conv => whnf
          refine VSeq.mk fun Kq hKq => ?_
          conv => whnf
          refine VSeq.mk fun Kq hKq => ?_
          conv => whnf
          refine v_mixA TTok FFok mixed [(0, false), (1, false), (2, false), (3, false), (4, false), (5, false), (6, false), (7, false), (8, true), (9, false), (10, false)] (by kernel_rfl) ?_
          conv => whnf
          refine And.intro (fun h => absurd (of_decide_eq_true h) ((fun h => h rfl))) (fun _ => ?_)
          conv => whnf
          refine ⟨_, fun w' hx' => Blk.ldN (Blk.ext (hp.get (i := 0) rfl) hx') TTok rfl (hAl), ?_⟩
          conv => whnf
          refine ⟨_, fun w' hx' => Blk.ldN (Blk.ext (hp.get (i := 3) rfl) hx') TTok rfl rfl, ?_⟩
          conv => whnf
          refine ⟨_, fun w' hx' => Blk.ldN (Blk.ext (hp.get (i := 2) rfl) hx') TTok rfl (hBl), ?_⟩
          conv => whnf
          first | refine PureF.quiet (hcut) ?_ | refine PureF.quietE (hcut) ?_
          conv => whnf
          intro w hx
          try (have hp := hp.call hx)
          conv => whnf
          refine Calls.mono (rMore_c (W := w) (mixA KL SL a) ⟨(rest a).toArray⟩ X a.length (hS.ext hp.ext) (hK.ext hp.ext) (mixA_W8 KL SL_W8 a) (by show (rest a).length < 64; rw [rest_len]; omega) (by omega) (by omega)) ?_
          rintro _ w ⟨_, rfl, rfl, hx⟩
          refine ⟨_, rfl, ?_⟩
          conv => whnf
          refine And.intro hx ?_
          conv => whnf
          have hp := hp.call hx
          rw [hadd]
          refine ⟨_, fun w' _ => hash_same (mixA KL SL A) ⟨(rest A).toArray⟩ ((A.length : Nat) : Int) (mixA_W8 KL SL_W8 A) (by show (rest A).length ≤ _; rw [rest_len]; unfold maxLen; omega) hsok.2.2 _ _ w', ?_⟩
          conv => whnf
          intro w hx
          try (have hp := hp.call hx)
          conv => whnf
          refine hKq _ _ _ (V.Sub.refl _) ?_
          clear hKq Kq
          conv => whnf
          refine And.intro (fun h => by cases h) (fun _ => ?_)
          conv => whnf
          refine hKq _ _ _ (V.Sub.refl _) ?_
          clear hKq Kq
          conv => whnf
          refine VSeq.mk fun Kq hKq => ?_
          conv => whnf
          refine ⟨_, _, Blk.ldN (hp.get (i := 0) rfl) TTok rfl (hAl), ?_⟩
          conv => whnf
          refine hp.kstA TTok rfl 2 rfl (hAl) ((by intro u hu; exact hC_one _ _ _ u (by rw [← hst2] at hu; exact hu))) (hBl) fun w hp => ?_
          try simp only [List.set_cons_zero, List.set_cons_succ, EV.val] at hp
          conv => whnf
          refine hKq _ _ _ (V.Sub.refl _) ?_
          clear hKq Kq
          conv => whnf
          refine ⟨_, _, Blk.ldN (hp.get (i := 2) rfl) TTok rfl (hAl), ?_⟩
          conv => whnf
          have hb1 := build1 (hSt A) hsok w
          rw [hst2] at hb1
          refine hp.kmade (hXs [hSt A]) 27 (fun b => .slice (some ⟨b, 0, none⟩) 1 1) hb1 fun tb w hp hx => ?_
          conv => whnf
          refine hp.kapp sl62 2 rfl (Blk.src TTok (hp.get (i := 0) rfl) rfl (hXs_len _ (by intro z hz; rw [List.mem_singleton] at hz; subst hz; exact hsok)) (by intro u hu; rw [hXs_one, hst2] at hu; exact pB_one A u hu)) (by omega) (by unfold maxLen; omega) fun v' w hp => ?_
          simp only [List.set_cons_zero, List.set_cons_succ] at hp
          rw [← hXs_app] at hp
          conv => whnf
          refine hKq _ _ _ (V.Sub.refl _) ?_
          clear hKq Kq
          conv => whnf
          refine And.intro (by omega) ?_
          conv => whnf
          have el : (HS ++ [hSt A]).length = HS.length + 1 := by rw [List.length_append]; rfl
          rw [← el] at hp
          have hp : HpM [] _ w [row 27 10 v' (HS ++ [hSt A]).length (hXs (HS ++ [hSt A])), blk q11 (stB A) 27, blk q9 [.slice pS (kw .i64 SL).length cS, .slice pK (kw .i64 KL).length cK] 52] := hp.pick [2, 3, 4] (by decide)
          exact ⟨mm - 1, _, by omega, ⟨i + 1, A, v', HS ++ [hSt A], by omega, by rw [← hA, List.length_append]; omega, (by
            intro z hz
            rcases List.mem_append.1 hz with hz | hz
            · exact hok z hz
            · rw [List.mem_singleton] at hz; subst hz; exact hsok), by omega, by omega, rfl, hp⟩, sub_cons rfl (sub_cons rfl (sub_cons rfl (sub_cons rfl (sub_cons rfl (sub_cons rfl (sub_cons rfl (sub_cons rfl sub_nil)))))))⟩
        · intro w hx
          try (have hp := hp.call hx)
          conv => whnf
          refine hp.kstA TTok rfl 0 rfl (hAl) ((by intro u hu; exact hC_one _ _ _ u (by rw [← hst2] at hu; exact hu))) (by rfl) fun w hp => ?_
          try simp only [List.set_cons_zero, List.set_cons_succ, EV.val] at hp
          conv => whnf
          intro w hx
          try (have hp := hp.call hx)
          conv => whnf
          refine And.intro (fun h => h) ?_
          conv => whnf
          intro w hx
          try (have hp := hp.call hx)
          conv => whnf
          refine And.intro (fun h => h) ?_
          conv => whnf
          intro w hx
          try (have hp := hp.call hx)
          conv => whnf
          refine hKq _ _ _ (V.Sub.refl _) ?_
          clear hKq Kq
          conv => whnf
          refine VSeq.mk fun Kq hKq => ?_
          conv => whnf
          refine VSeq.mk fun Kq hKq => ?_
          conv => whnf
          refine v_mixA TTok FFok mixed [(0, false), (1, false), (2, false), (3, false), (4, false), (5, false), (6, false), (7, false), (8, true), (9, false), (10, false)] (by kernel_rfl) ?_
          conv => whnf
          refine And.intro (fun h => absurd (of_decide_eq_true h) ((fun h => h rfl))) (fun _ => ?_)
          conv => whnf
          refine ⟨_, fun w' hx' => Blk.ldN (Blk.ext (hp.get (i := 0) rfl) hx') TTok rfl (hAl), ?_⟩
          conv => whnf
          refine ⟨_, fun w' hx' => Blk.ldN (Blk.ext (hp.get (i := 3) rfl) hx') TTok rfl rfl, ?_⟩
          conv => whnf
          refine ⟨_, fun w' hx' => Blk.ldN (Blk.ext (hp.get (i := 2) rfl) hx') TTok rfl (hBl), ?_⟩
          conv => whnf
          first | refine PureF.quiet (hcut) ?_ | refine PureF.quietE (hcut) ?_
          conv => whnf
          intro w hx
          try (have hp := hp.call hx)
          conv => whnf
          refine Calls.mono (rMore_c (W := w) (mixA KL SL a) ⟨(rest a).toArray⟩ X a.length (hS.ext hp.ext) (hK.ext hp.ext) (mixA_W8 KL SL_W8 a) (by show (rest a).length < 64; rw [rest_len]; omega) (by omega) (by omega)) ?_
          rintro _ w ⟨_, rfl, rfl, hx⟩
          refine ⟨_, rfl, ?_⟩
          conv => whnf
          refine And.intro hx ?_
          conv => whnf
          have hp := hp.call hx
          rw [hadd]
          refine ⟨_, fun w' _ => hash_same (mixA KL SL A) ⟨(rest A).toArray⟩ ((A.length : Nat) : Int) (mixA_W8 KL SL_W8 A) (by show (rest A).length ≤ _; rw [rest_len]; unfold maxLen; omega) hsok.2.2 _ _ w', ?_⟩
          conv => whnf
          intro w hx
          try (have hp := hp.call hx)
          conv => whnf
          refine hKq _ _ _ (V.Sub.refl _) ?_
          clear hKq Kq
          conv => whnf
          refine And.intro (fun h => by cases h) (fun _ => ?_)
          conv => whnf
          refine hKq _ _ _ (V.Sub.refl _) ?_
          clear hKq Kq
          conv => whnf
          refine VSeq.mk fun Kq hKq => ?_
          conv => whnf
          refine ⟨_, _, Blk.ldN (hp.get (i := 0) rfl) TTok rfl (hAl), ?_⟩
          conv => whnf
          refine hp.kstA TTok rfl 2 rfl (hAl) ((by intro u hu; exact hC_one _ _ _ u (by rw [← hst2] at hu; exact hu))) (hBl) fun w hp => ?_
          try simp only [List.set_cons_zero, List.set_cons_succ, EV.val] at hp
          conv => whnf
          refine hKq _ _ _ (V.Sub.refl _) ?_
          clear hKq Kq
          conv => whnf
          refine ⟨_, _, Blk.ldN (hp.get (i := 2) rfl) TTok rfl (hAl), ?_⟩
          conv => whnf
          have hb1 := build1 (hSt A) hsok w
          rw [hst2] at hb1
          refine hp.kmade (hXs [hSt A]) 27 (fun b => .slice (some ⟨b, 0, none⟩) 1 1) hb1 fun tb w hp hx => ?_
          conv => whnf
          refine hp.kapp sl62 2 rfl (Blk.src TTok (hp.get (i := 0) rfl) rfl (hXs_len _ (by intro z hz; rw [List.mem_singleton] at hz; subst hz; exact hsok)) (by intro u hu; rw [hXs_one, hst2] at hu; exact pB_one A u hu)) (by omega) (by unfold maxLen; omega) fun v' w hp => ?_
          simp only [List.set_cons_zero, List.set_cons_succ] at hp
          rw [← hXs_app] at hp
          conv => whnf
          refine hKq _ _ _ (V.Sub.refl _) ?_
          clear hKq Kq
          conv => whnf
          refine And.intro (by omega) ?_
          conv => whnf
          have el : (HS ++ [hSt A]).length = HS.length + 1 := by rw [List.length_append]; rfl
          rw [← el] at hp
          have hp : HpM [] _ w [row 27 10 v' (HS ++ [hSt A]).length (hXs (HS ++ [hSt A])), blk q11 (stB A) 27, blk q9 [.slice pS (kw .i64 SL).length cS, .slice pK (kw .i64 KL).length cK] 52] := hp.pick [2, 3, 4] (by decide)
          exact ⟨mm - 1, _, by omega, ⟨i + 1, A, v', HS ++ [hSt A], by omega, by rw [← hA, List.length_append]; omega, (by
            intro z hz
            rcases List.mem_append.1 hz with hz | hz
            · exact hok z hz
            · rw [List.mem_singleton] at hz; subst hz; exact hsok), by omega, by omega, rfl, hp⟩, sub_cons rfl (sub_cons rfl (sub_cons rfl (sub_cons rfl (sub_cons rfl (sub_cons rfl (sub_cons rfl (sub_cons rfl sub_nil)))))))⟩
    · have hlt := of_decide_eq_false hlt
      conv => whnf
      clear hKq Kq
      refine hKq _ _ _ (V.Sub.refl _) ?_
      clear hKq Kq
      conv => whnf
      refine VSeq.mk fun Kq hKq => ?_
      conv => whnf
      refine VSeq.mk fun Kq hKq => ?_
      conv => whnf
      have hp : HpM [] _ w [row 27 10 v HS.length (hXs HS), blk q9 [.slice pS (kw .i64 SL).length cS, .slice pK (kw .i64 KL).length cK] 52] := hp.pick [0, 2] (by decide)
      obtain ⟨gv, cv, zv, rfl, hp⟩ := hp.toBlk0 0 rfl (by omega)
      conv => whnf
      refine hKq _ _ _ (V.Sub.refl _) ?_
      clear hKq Kq
      conv => whnf
      have hSR := hS.ext hp.ext
      have hKR := hK.ext hp.ext
      have hB9 : Blk w q9 [.slice pS (kw .i64 SL).length cS, .slice pK (kw .i64 KL).length cK] 52 := hp.get (i := 1) rfl
      have hRow : Blk w gv (hXs HS ++ zv) 27 := hp.get (i := 0) rfl
      have hx01 := hx00.trans hp.ext
      have hHm := hXs_len HS hok
      clear hp
      repeat clear hp
      refine ⟨fun mm e w' => ∃ (j : Nat), mm + j = HS.length ∧ e = [(1, .v (.string s)), (2, .v (.int .u16 n)), (9, .v (.pointer (some ⟨q9, 0, none⟩))), (113, .v (.slice (some ⟨gv, 0, none⟩) HS.length cv)), (114, .v (.int .i64 HS.length)), (115, .v (.int .i64 j))] ∧ Ext w w',
        ⟨HS.length, _, ⟨0, by omega, rfl, Ext.refl _⟩, sub_cons rfl (sub_cons rfl (sub_cons rfl (sub_cons rfl (sub_cons rfl (sub_cons rfl sub_nil)))))⟩, ?_⟩
      rintro mm _ w1 ⟨j, hmm2, rfl, hxw⟩
      conv => whnf
      refine VSeq.mk fun Kq hKq => ?_
      conv => whnf
      refine hKq _ _ _ (V.Sub.refl _) ?_
      clear hKq Kq
      conv => whnf
      refine VSeq.mk fun Kq hKq => ?_
      conv => whnf
      refine ⟨fun hlt2 => ?_, fun hlt2 => ?_⟩
      · have hlt2 := of_decide_eq_true hlt2
        conv => whnf
        refine hKq _ _ _ (V.Sub.refl _) ?_
        clear hKq Kq
        conv => whnf
        refine VSeq.mk fun Kq hKq => ?_
        conv => whnf
        refine VSeq.mk fun Kq hKq => ?_
        conv => whnf
        have hp := HpM.nil0 [] w1
        obtain ⟨x, hx6⟩ : ∃ x, HS[j]? = some x := ⟨HS[j]'(by omega), List.getElem?_eq_getElem (by omega)⟩
        have hxo := hok x (List.mem_of_getElem? hx6)
        have hat := hXs_at HS hok j x hx6
        have hcut2 : ((hXs HS ++ zv).drop (j * 10)).take 10 = hX x := by
          rw [List.drop_append_of_le_length (by omega), List.take_append_of_le_length (by rw [List.length_drop]; omega)]
          exact hat
        obtain ⟨xh, xt, xc⟩ := x
        have hcut2 : ((hXs HS ++ zv).drop (j * 10)).take 10 = hC xh xt xc := hcut2
        obtain ⟨x8, xt70, xcb⟩ := hxo
        dsimp only at x8 xt70 xcb
        have xl : (hC xh xt xc).length = 10 := by rw [hC_len, x8.1]
        refine ⟨j, ⟨by first | rfl | omega, by show j < HS.length; omega⟩, ?_⟩
        conv => whnf
        refine ⟨_, _, Blk.ldV (off := j * 10) (Blk.ext hRow hxw) TTok rfl (vs := hC xh xt xc) hcut2 xl, ?_⟩
        conv => whnf
        refine hp.kalloc z27 fun q20 w hp hx => ?_
        conv => whnf
        refine hp.kstA TTok rfl 0 rfl (xl) (hC_one _ _ _) (by rfl) fun w hp => ?_
        try simp only [List.set_cons_zero, List.set_cons_succ, EV.val] at hp
        conv => whnf
        refine hKq _ _ _ (V.Sub.refl _) ?_
        clear hKq Kq
        conv => whnf
        refine VSeq.mk fun Kq hKq => ?_
        conv => whnf
        refine hKq _ _ _ (V.Sub.refl _) ?_
        clear hKq Kq
        conv => whnf
        refine VSeq.mk fun Kq hKq => ?_
        conv => whnf
        refine VSeq.mk fun Kq hKq => ?_
        conv => whnf
        refine ⟨_, _, Blk.ldN (hp.get (i := 0) rfl) TTok rfl (xl), ?_⟩
        conv => whnf
        refine PureF.use (Right_p xh xt xc x8.1) fun w hx => ?_
        try (have hp := hp.call hx)
        conv => whnf
        refine hKq _ _ _ (V.Sub.refl _) ?_
        clear hKq Kq
        conv => whnf
        obtain ⟨d, e, hE, hEv⟩ := ov_end xh xt xc x8
        have hck := Check_p xh xt xc x8.1
        unfold hH at hck
        obtain ⟨g, hgz, hgp⟩ := grown_p s n (by omega) hn
        rcases hEv with ⟨ho, rfl, hd⟩ | ⟨ho, rfl, rfl⟩
        · obtain ⟨ho1, ho2, ho3⟩ := okH_spec ho
          obtain ⟨m, rfl⟩ : ∃ m : Nat, xc = m := ⟨xc.toNat, by omega⟩
          rw [ho, if_pos rfl] at hck
          rw [ho]
          refine And.intro (fun h => by cases h) (fun _ => ?_)
          conv => whnf
          refine hKq _ _ _ (V.Sub.refl _) ?_
          clear hKq Kq
          conv => whnf
          refine VSeq.mk fun Kq hKq => ?_
          conv => whnf
          refine ⟨_, _, Blk.ldN (hp.get (i := 0) rfl) TTok rfl (xl), ?_⟩
          conv => whnf
          refine PureF.use (hE) fun w hx => ?_
          try (have hp := hp.call hx)
          conv => whnf
          refine hKq _ _ _ (V.Sub.refl _) ?_
          clear hKq Kq
          conv => whnf
          refine VSeq.mk fun Kq hKq => ?_
          conv => whnf
          refine hKq _ _ _ (V.Sub.refl _) ?_
          clear hKq Kq
          conv => whnf
          refine VSeq.mk fun Kq hKq => ?_
          conv => whnf
          refine VSeq.mk fun Kq hKq => ?_
          conv => whnf
          refine hKq _ _ _ (V.Sub.refl _) ?_
          clear hKq Kq
          conv => whnf
          refine And.intro (fun _ => ?_) (fun h => absurd (rfl) (of_decide_eq_false h))
          conv => whnf
          refine ⟨_, _, Blk.ldN (Blk.ext hB9 (hxw.trans hp.ext)) TTok rfl rfl, ?_⟩
          conv => whnf
          refine ⟨_, _, Blk.ldN (hp.get (i := 0) rfl) TTok rfl (xl), ?_⟩
          conv => whnf
          refine Calls.mono (rEnd_c (W := w) xh xt m (hSR.ext (hxw.trans hp.ext)) (hKR.ext (hxw.trans hp.ext)) x8 (by omega) (by omega)) ?_
          rintro _ w ⟨_, rfl, rfl, hx⟩
          refine ⟨_, rfl, ?_⟩
          conv => whnf
          refine hKq _ _ _ (V.Sub.refl _) ?_
          clear hKq Kq
          conv => whnf
          refine VSeq.mk fun Kq hKq => ?_
          conv => whnf
          refine VSeq.mk fun Kq hKq => ?_
          conv => whnf
          refine VSeq.mk fun Kq hKq => ?_
          conv => whnf
          have hp := hp.call hx
          have hd : d = (⟨(endL KL xh xt.data.toList m).toArray⟩ : ByteArray) := hd
          rw [← hd]
          refine ⟨_, _, Blk.ldN (hp.get (i := 0) rfl) TTok rfl (xl), ?_⟩
          conv => whnf
          refine PureF.use (hck) fun w hx => ?_
          try (have hp := hp.call hx)
          conv => whnf
          refine hKq _ _ _ (V.Sub.refl _) ?_
          clear hKq Kq
          conv => whnf
          refine And.intro (fun h => absurd (of_decide_eq_true h) ((fun h => h rfl))) (fun _ => ?_)
          conv => whnf
          refine PureF.use (told_t d 0 d (.inl ⟨rfl, rfl⟩)) fun w hx => ?_
          try (have hp := hp.call hx)
          conv => whnf
          refine hKq _ _ _ (V.Sub.refl _) ?_
          clear hKq Kq
          conv => whnf
          refine And.intro (fun h => by cases h) (fun _ => ?_)
          conv => whnf
          refine hKq _ _ _ (V.Sub.refl _) ?_
          clear hKq Kq
          conv => whnf
          refine VSeq.mk fun Kq hKq => ?_
          conv => whnf
          refine PureF.use (hgp) fun w hx => ?_
          try (have hp := hp.call hx)
          conv => whnf
          first | refine ⟨.agg #[.string s, .string g], w, by kernel_rfl, ?_⟩ | refine ⟨.agg #[.string s, .string g], w0, by kernel_rfl, ?_⟩
          conv => whnf
          refine hKq _ _ _ (V.Sub.refl _) ?_
          clear hKq Kq
          conv => whnf
          refine ⟨fun mm e w' => ∃ (i2 : Nat), mm + i2 = 2 ∧ e = [(1, .v (.string s)), (2, .v (.int .u16 n)), (9, .v (.pointer (some ⟨q9, 0, none⟩))), (20, .v (.pointer (some ⟨q20, 0, none⟩))), (21, .v (.int .i64 0)), (113, .v (.slice (some ⟨gv, 0, none⟩) HS.length cv)), (114, .v (.int .i64 HS.length)), (115, .v (.int .i64 j)), (148, .v (.agg #[.string s, .string g])), (149, .v (.int .i64 i2))] ∧ HpM [] w1 w' [blk q20 (hC xh xt m) 27],
            ⟨2, _, ⟨0, by omega, rfl, hp⟩, sub_cons rfl (sub_cons rfl (sub_cons rfl (sub_cons rfl (sub_cons rfl (sub_cons rfl (sub_cons rfl (sub_cons rfl (sub_cons rfl (sub_cons rfl sub_nil)))))))))⟩, ?_⟩
          clear hp
          repeat clear hp
          rintro m3 _ w ⟨i2, hm3, rfl, hp⟩
          conv => whnf
          refine VSeq.mk fun Kq hKq => ?_
          conv => whnf
          refine hKq _ _ _ (V.Sub.refl _) ?_
          clear hKq Kq
          conv => whnf
          refine VSeq.mk fun Kq hKq => ?_
          conv => whnf
          refine ⟨fun hlt3 => ?_, fun hlt3 => ?_⟩
          · have hlt3 := of_decide_eq_true hlt3
            conv => whnf
            refine hKq _ _ _ (V.Sub.refl _) ?_
            clear hKq Kq
            conv => whnf
            refine VSeq.mk fun Kq hKq => ?_
            conv => whnf
            refine VSeq.mk fun Kq hKq => ?_
            conv => whnf
            obtain ⟨x, hxi, hxz⟩ := pick_sg s g i2 (by omega) w
            refine ⟨_, w, hxi, ?_⟩
            conv => whnf
            refine hKq _ _ _ (V.Sub.refl _) ?_
            clear hKq Kq
            conv => whnf
            refine VSeq.mk fun Kq hKq => ?_
            conv => whnf
            refine ⟨_, _, Blk.ldN (hp.get (i := 0) rfl) TTok rfl (xl), ?_⟩
            conv => whnf
            obtain ⟨g', t', d', e2, hg8, hbd, hM, hMv⟩ := ov_more xh xt x ((m : Nat) : Int) x8 xcb
            have gl : (hC g' t' d').length = 10 := by rw [hC_len, hg8.1]
            refine PureF.use (hM) fun w hx => ?_
            try (have hp := hp.call hx)
            conv => whnf
            refine hp.kalloc z27 fun q27 w hp hx => ?_
            conv => whnf
            refine hp.kstA TTok rfl 0 rfl (gl) (hC_one _ _ _) (by rfl) fun w hp => ?_
            try simp only [List.set_cons_zero, List.set_cons_succ, EV.val] at hp
            conv => whnf
            refine hKq _ _ _ (V.Sub.refl _) ?_
            clear hKq Kq
            conv => whnf
            refine VSeq.mk fun Kq hKq => ?_
            conv => whnf
            refine hKq _ _ _ (V.Sub.refl _) ?_
            clear hKq Kq
            conv => whnf
            refine VSeq.mk fun Kq hKq => ?_
            conv => whnf
            refine VSeq.mk fun Kq hKq => ?_
            conv => whnf
            refine hKq _ _ _ (V.Sub.refl _) ?_
            clear hKq Kq
            conv => whnf
            refine And.intro (fun _ => ?_) (fun h => absurd (rfl) (of_decide_eq_false h))
            conv => whnf
            refine hp.kmade (sw [x]) 9 (fun b => .slice (some ⟨b, 0, none⟩) 1 1) (by kernel_rfl) fun tb w hp hx => ?_
            conv => whnf
            refine V.CallsUse (over_c [x] (SLv.of_blk0 (hp.get (i := 0) rfl) rfl) one_le) fun w hx => ?_
            try (have hp := hp.call hx)
            conv => whnf
            refine hKq _ _ _ (V.Sub.refl _) ?_
            clear hKq Kq
            conv => whnf
            refine VSeq.mk fun Kq hKq => ?_
            conv => whnf
            refine VSeq.mk fun Kq hKq => ?_
            conv => whnf
            refine VSeq.mk fun Kq hKq => ?_
            conv => whnf
            refine hKq _ _ _ (V.Sub.refl _) ?_
            clear hKq Kq
            conv => whnf
            have hp := hp.tail
            have xsz : x.size ≤ 4300 := by rcases hxz with rfl | rfl <;> omega
            rcases hMv with ⟨h, _⟩ | ⟨_, h4, rfl, hz⟩ | ⟨_, h4, h6, rfl, hz⟩ | ⟨_, h4, h6, rfl, hz⟩
            · rw [ho] at h; cases h
            · rw [show ovN [x] = 3 by unfold ovN bigS; rw [List.any_cons, decide_eq_true h4]; rfl]
              refine And.intro (fun h => absurd (of_decide_eq_true h) ((by decide))) (fun _ => ?_)
              conv => whnf
              refine hKq _ _ _ (V.Sub.refl _) ?_
              clear hKq Kq
              conv => whnf
              refine hKq _ _ _ (V.Sub.refl _) ?_
              clear hKq Kq
              conv => whnf
              refine VSeq.mk fun Kq hKq => ?_
              conv => whnf
              refine hp.kalloc z27 fun q30 w hp hx => ?_
              conv => whnf
              refine hKq _ _ _ (V.Sub.refl _) ?_
              clear hKq Kq
              conv => whnf
              refine VSeq.mk fun Kq hKq => ?_
              conv => whnf
              refine VSeq.mk fun Kq hKq => ?_
              conv => whnf
              refine hKq _ _ _ (V.Sub.refl _) ?_
              clear hKq Kq
              conv => whnf
              have hp : HpM [] w1 w [blk q30 (hC zz8 ⟨#[]⟩ 0) 27, blk q27 (hC g' t' d') 27, _] := hp
              refine And.intro (fun h => absurd (of_decide_eq_true h) ((by decide))) (fun _ => ?_)
              conv => whnf
              refine hKq _ _ _ (V.Sub.refl _) ?_
              clear hKq Kq
              conv => whnf
              refine VSeq.mk fun Kq hKq => ?_
              conv => whnf
              refine VSeq.mk fun Kq hKq => ?_
              conv => whnf
              refine hKq _ _ _ (V.Sub.refl _) ?_
              clear hKq Kq
              conv => whnf
              refine And.intro (fun h => absurd (of_decide_eq_true h) ((fun h => h rfl))) (fun _ => ?_)
              conv => whnf
              refine ⟨_, _, Blk.ldN (hp.get (i := 1) rfl) TTok rfl (gl), ?_⟩
              conv => whnf
              refine ⟨_, _, Blk.ldN (hp.get (i := 0) rfl) TTok rfl (by rfl), ?_⟩
              conv => whnf
              rw [← hz]
              refine ⟨_, _, hash_same g' t' d' hg8 (by unfold maxLen; omega) hbd.2 _ _ w, ?_⟩
              conv => whnf
              refine hKq _ _ _ (V.Sub.refl _) ?_
              clear hKq Kq
              conv => whnf
              refine And.intro (fun h => by cases h) (fun _ => ?_)
              conv => whnf
              refine hKq _ _ _ (V.Sub.refl _) ?_
              clear hKq Kq
              conv => whnf
              refine And.intro (by omega) ?_
              conv => whnf
              exact ⟨m3 - 1, _, by omega, ⟨i2 + 1, by omega, rfl, hp.tail.tail⟩, sub_cons rfl (sub_cons rfl (sub_cons rfl (sub_cons rfl (sub_cons rfl (sub_cons rfl (sub_cons rfl (sub_cons rfl (sub_cons rfl (sub_cons rfl sub_nil)))))))))⟩
            · rw [show ovN [x] = 0 by unfold ovN bigS; rw [List.any_cons, decide_eq_false (by omega)]; rfl]
              refine And.intro (fun _ => ?_) (fun h => absurd (rfl) (of_decide_eq_false h))
              conv => whnf
              refine ⟨_, _, Blk.ld (hp.get (i := 1) rfl) TTok rfl (hC_get9 xh xt m x8), ?_⟩
              conv => whnf
              refine And.intro (by omega) ?_
              conv => whnf
              refine hKq _ _ _ (V.Sub.refl _) ?_
              clear hKq Kq
              conv => whnf
              refine And.intro (fun _ => ?_) (fun h => absurd ((by omega)) (of_decide_eq_false h))
              conv => whnf
              refine hKq _ _ _ (V.Sub.refl _) ?_
              clear hKq Kq
              conv => whnf
              refine VSeq.mk fun Kq hKq => ?_
              conv => whnf
              refine hp.kalloc z27 fun q30 w hp hx => ?_
              conv => whnf
              refine hKq _ _ _ (V.Sub.refl _) ?_
              clear hKq Kq
              conv => whnf
              refine VSeq.mk fun Kq hKq => ?_
              conv => whnf
              refine VSeq.mk fun Kq hKq => ?_
              conv => whnf
              refine hKq _ _ _ (V.Sub.refl _) ?_
              clear hKq Kq
              conv => whnf
              have hp : HpM [] w1 w [blk q30 (hC zz8 ⟨#[]⟩ 0) 27, blk q27 (hC g' t' d') 27, _] := hp
              refine And.intro (fun h => absurd (of_decide_eq_true h) ((by decide))) (fun _ => ?_)
              conv => whnf
              refine hKq _ _ _ (V.Sub.refl _) ?_
              clear hKq Kq
              conv => whnf
              refine VSeq.mk fun Kq hKq => ?_
              conv => whnf
              refine VSeq.mk fun Kq hKq => ?_
              conv => whnf
              refine hKq _ _ _ (V.Sub.refl _) ?_
              clear hKq Kq
              conv => whnf
              refine And.intro (fun h => absurd (of_decide_eq_true h) ((fun h => h rfl))) (fun _ => ?_)
              conv => whnf
              refine ⟨_, _, Blk.ldN (hp.get (i := 1) rfl) TTok rfl (gl), ?_⟩
              conv => whnf
              refine ⟨_, _, Blk.ldN (hp.get (i := 0) rfl) TTok rfl (by rfl), ?_⟩
              conv => whnf
              rw [← hz]
              refine ⟨_, _, hash_same g' t' d' hg8 (by unfold maxLen; omega) hbd.2 _ _ w, ?_⟩
              conv => whnf
              refine hKq _ _ _ (V.Sub.refl _) ?_
              clear hKq Kq
              conv => whnf
              refine And.intro (fun h => by cases h) (fun _ => ?_)
              conv => whnf
              refine hKq _ _ _ (V.Sub.refl _) ?_
              clear hKq Kq
              conv => whnf
              refine And.intro (by omega) ?_
              conv => whnf
              exact ⟨m3 - 1, _, by omega, ⟨i2 + 1, by omega, rfl, hp.tail.tail⟩, sub_cons rfl (sub_cons rfl (sub_cons rfl (sub_cons rfl (sub_cons rfl (sub_cons rfl (sub_cons rfl (sub_cons rfl (sub_cons rfl (sub_cons rfl sub_nil)))))))))⟩
            · rw [show ovN [x] = 0 by unfold ovN bigS; rw [List.any_cons, decide_eq_false (by omega)]; rfl]
              refine And.intro (fun _ => ?_) (fun h => absurd (rfl) (of_decide_eq_false h))
              conv => whnf
              refine ⟨_, _, Blk.ld (hp.get (i := 1) rfl) TTok rfl (hC_get9 xh xt m x8), ?_⟩
              conv => whnf
              refine And.intro (by omega) ?_
              conv => whnf
              refine hKq _ _ _ (V.Sub.refl _) ?_
              clear hKq Kq
              conv => whnf
              refine And.intro (fun h => absurd (of_decide_eq_true h) ((by omega))) (fun _ => ?_)
              conv => whnf
              refine hKq _ _ _ (V.Sub.refl _) ?_
              clear hKq Kq
              conv => whnf
              refine VSeq.mk fun Kq hKq => ?_
              conv => whnf
              refine hp.kalloc z27 fun q30 w hp hx => ?_
              conv => whnf
              refine hKq _ _ _ (V.Sub.refl _) ?_
              clear hKq Kq
              conv => whnf
              refine VSeq.mk fun Kq hKq => ?_
              conv => whnf
              refine VSeq.mk fun Kq hKq => ?_
              conv => whnf
              refine hKq _ _ _ (V.Sub.refl _) ?_
              clear hKq Kq
              conv => whnf
              have hp : HpM [] w1 w [blk q30 (hC zz8 ⟨#[]⟩ 0) 27, blk q27 (hC g' t' d') 27, _] := hp
              refine And.intro (fun _ => ?_) (fun h => absurd (rfl) (of_decide_eq_false h))
              conv => whnf
              refine ⟨_, _, Blk.ldN (Blk.ext hB9 (hxw.trans hp.ext)) TTok rfl rfl, ?_⟩
              conv => whnf
              refine ⟨_, _, Blk.ldN (hp.get (i := 2) rfl) TTok rfl (xl), ?_⟩
              conv => whnf
              refine Calls.mono (rMore_c (W := w) xh xt x m (hSR.ext (hxw.trans hp.ext)) (hKR.ext (hxw.trans hp.ext)) x8 (by omega) (by omega) (by omega)) ?_
              rintro _ w ⟨_, rfl, rfl, hx⟩
              refine ⟨_, rfl, ?_⟩
              conv => whnf
              have hp := hp.call hx
              have hz : hC g' t' d' = hC (mixA KL xh (xt.data.toList ++ x.data.toList)) (restB (xt ++ x)) ((m + x.size : Nat) : Int) := hz
              rw [← hz]
              refine hp.kstA TTok rfl 0 rfl (gl) (hC_one _ _ _) (by rfl) fun w hp => ?_
              try simp only [List.set_cons_zero, List.set_cons_succ, EV.val] at hp
              conv => whnf
              refine hKq _ _ _ (V.Sub.refl _) ?_
              clear hKq Kq
              conv => whnf
              refine VSeq.mk fun Kq hKq => ?_
              conv => whnf
              refine VSeq.mk fun Kq hKq => ?_
              conv => whnf
              refine hKq _ _ _ (V.Sub.refl _) ?_
              clear hKq Kq
              conv => whnf
              refine And.intro (fun h => absurd (of_decide_eq_true h) ((fun h => h rfl))) (fun _ => ?_)
              conv => whnf
              refine ⟨_, _, Blk.ldN (hp.get (i := 1) rfl) TTok rfl (gl), ?_⟩
              conv => whnf
              refine ⟨_, _, Blk.ldN (hp.get (i := 0) rfl) TTok rfl (gl), ?_⟩
              conv => whnf
              refine ⟨_, _, hash_same g' t' d' hg8 (by unfold maxLen; omega) hbd.2 _ _ w, ?_⟩
              conv => whnf
              refine hKq _ _ _ (V.Sub.refl _) ?_
              clear hKq Kq
              conv => whnf
              refine And.intro (fun h => by cases h) (fun _ => ?_)
              conv => whnf
              refine hKq _ _ _ (V.Sub.refl _) ?_
              clear hKq Kq
              conv => whnf
              refine And.intro (by omega) ?_
              conv => whnf
              exact ⟨m3 - 1, _, by omega, ⟨i2 + 1, by omega, rfl, hp.tail.tail⟩, sub_cons rfl (sub_cons rfl (sub_cons rfl (sub_cons rfl (sub_cons rfl (sub_cons rfl (sub_cons rfl (sub_cons rfl (sub_cons rfl (sub_cons rfl sub_nil)))))))))⟩
          · have hlt3 := of_decide_eq_false hlt3
            conv => whnf
            clear hKq Kq
            refine hKq _ _ _ (V.Sub.refl _) ?_
            clear hKq Kq
            conv => whnf
            refine And.intro (by omega) ?_
            conv => whnf
            exact ⟨mm - 1, _, by omega, ⟨j + 1, by omega, rfl, hxw.trans hp.ext⟩, sub_cons rfl (sub_cons rfl (sub_cons rfl (sub_cons rfl (sub_cons rfl (sub_cons rfl sub_nil)))))⟩
        · rw [ho, if_neg (by decide)] at hck
          rw [ho]
          refine And.intro (fun _ => ?_) (fun h => by cases h)
          conv => whnf
          refine hKq _ _ _ (V.Sub.refl _) ?_
          clear hKq Kq
          conv => whnf
          refine VSeq.mk fun Kq hKq => ?_
          conv => whnf
          refine ⟨_, _, Blk.ldN (hp.get (i := 0) rfl) TTok rfl (xl), ?_⟩
          conv => whnf
          refine PureF.use (hE) fun w hx => ?_
          try (have hp := hp.call hx)
          conv => whnf
          refine hKq _ _ _ (V.Sub.refl _) ?_
          clear hKq Kq
          conv => whnf
          refine VSeq.mk fun Kq hKq => ?_
          conv => whnf
          refine hKq _ _ _ (V.Sub.refl _) ?_
          clear hKq Kq
          conv => whnf
          refine VSeq.mk fun Kq hKq => ?_
          conv => whnf
          refine VSeq.mk fun Kq hKq => ?_
          conv => whnf
          refine hKq _ _ _ (V.Sub.refl _) ?_
          clear hKq Kq
          conv => whnf
          refine And.intro (fun h => absurd (of_decide_eq_true h) ((by decide))) (fun _ => ?_)
          conv => whnf
          refine hKq _ _ _ (V.Sub.refl _) ?_
          clear hKq Kq
          conv => whnf
          refine VSeq.mk fun Kq hKq => ?_
          conv => whnf
          refine VSeq.mk fun Kq hKq => ?_
          conv => whnf
          refine VSeq.mk fun Kq hKq => ?_
          conv => whnf
          refine ⟨_, _, Blk.ldN (hp.get (i := 0) rfl) TTok rfl (xl), ?_⟩
          conv => whnf
          refine PureF.use (hck) fun w hx => ?_
          try (have hp := hp.call hx)
          conv => whnf
          refine hKq _ _ _ (V.Sub.refl _) ?_
          clear hKq Kq
          conv => whnf
          refine And.intro (fun h => absurd (of_decide_eq_true h) ((fun h => h rfl))) (fun _ => ?_)
          conv => whnf
          refine PureF.use (told_t ⟨#[]⟩ 2 ⟨#[]⟩ (.inr ⟨by decide, rfl⟩)) fun w hx => ?_
          try (have hp := hp.call hx)
          conv => whnf
          refine hKq _ _ _ (V.Sub.refl _) ?_
          clear hKq Kq
          conv => whnf
          refine And.intro (fun h => by cases h) (fun _ => ?_)
          conv => whnf
          refine hKq _ _ _ (V.Sub.refl _) ?_
          clear hKq Kq
          conv => whnf
          refine VSeq.mk fun Kq hKq => ?_
          conv => whnf
          refine PureF.use (hgp) fun w hx => ?_
          try (have hp := hp.call hx)
          conv => whnf
          first | refine ⟨.agg #[.string s, .string g], w, by kernel_rfl, ?_⟩ | refine ⟨.agg #[.string s, .string g], w0, by kernel_rfl, ?_⟩
          conv => whnf
          refine hKq _ _ _ (V.Sub.refl _) ?_
          clear hKq Kq
          conv => whnf
          refine ⟨fun mm e w' => ∃ (i2 : Nat), mm + i2 = 2 ∧ e = [(1, .v (.string s)), (2, .v (.int .u16 n)), (9, .v (.pointer (some ⟨q9, 0, none⟩))), (20, .v (.pointer (some ⟨q20, 0, none⟩))), (21, .v (.int .i64 2)), (113, .v (.slice (some ⟨gv, 0, none⟩) HS.length cv)), (114, .v (.int .i64 HS.length)), (115, .v (.int .i64 j)), (148, .v (.agg #[.string s, .string g])), (149, .v (.int .i64 i2))] ∧ HpM [] w1 w' [blk q20 (hC xh xt xc) 27],
            ⟨2, _, ⟨0, by omega, rfl, hp⟩, sub_cons rfl (sub_cons rfl (sub_cons rfl (sub_cons rfl (sub_cons rfl (sub_cons rfl (sub_cons rfl (sub_cons rfl (sub_cons rfl (sub_cons rfl sub_nil)))))))))⟩, ?_⟩
          clear hp
          repeat clear hp
          rintro m3 _ w ⟨i2, hm3, rfl, hp⟩
          conv => whnf
          refine VSeq.mk fun Kq hKq => ?_
          conv => whnf
          refine hKq _ _ _ (V.Sub.refl _) ?_
          clear hKq Kq
          conv => whnf
          refine VSeq.mk fun Kq hKq => ?_
          conv => whnf
          refine ⟨fun hlt3 => ?_, fun hlt3 => ?_⟩
          · have hlt3 := of_decide_eq_true hlt3
            conv => whnf
            refine hKq _ _ _ (V.Sub.refl _) ?_
            clear hKq Kq
            conv => whnf
            refine VSeq.mk fun Kq hKq => ?_
            conv => whnf
            refine VSeq.mk fun Kq hKq => ?_
            conv => whnf
            obtain ⟨x, hxi, hxz⟩ := pick_sg s g i2 (by omega) w
            refine ⟨_, w, hxi, ?_⟩
            conv => whnf
            refine hKq _ _ _ (V.Sub.refl _) ?_
            clear hKq Kq
            conv => whnf
            refine VSeq.mk fun Kq hKq => ?_
            conv => whnf
            refine ⟨_, _, Blk.ldN (hp.get (i := 0) rfl) TTok rfl (xl), ?_⟩
            conv => whnf
            obtain ⟨g', t', d', e2, hg8, hbd, hM, hMv⟩ := ov_more xh xt x xc x8 xcb
            have gl : (hC g' t' d').length = 10 := by rw [hC_len, hg8.1]
            refine PureF.use (hM) fun w hx => ?_
            try (have hp := hp.call hx)
            conv => whnf
            refine hp.kalloc z27 fun q27 w hp hx => ?_
            conv => whnf
            refine hp.kstA TTok rfl 0 rfl (gl) (hC_one _ _ _) (by rfl) fun w hp => ?_
            try simp only [List.set_cons_zero, List.set_cons_succ, EV.val] at hp
            conv => whnf
            refine hKq _ _ _ (V.Sub.refl _) ?_
            clear hKq Kq
            conv => whnf
            refine VSeq.mk fun Kq hKq => ?_
            conv => whnf
            refine hKq _ _ _ (V.Sub.refl _) ?_
            clear hKq Kq
            conv => whnf
            refine VSeq.mk fun Kq hKq => ?_
            conv => whnf
            refine VSeq.mk fun Kq hKq => ?_
            conv => whnf
            refine hKq _ _ _ (V.Sub.refl _) ?_
            clear hKq Kq
            conv => whnf
            refine And.intro (fun h => absurd (of_decide_eq_true h) ((by decide))) (fun _ => ?_)
            conv => whnf
            refine hKq _ _ _ (V.Sub.refl _) ?_
            clear hKq Kq
            conv => whnf
            refine VSeq.mk fun Kq hKq => ?_
            conv => whnf
            refine VSeq.mk fun Kq hKq => ?_
            conv => whnf
            refine VSeq.mk fun Kq hKq => ?_
            conv => whnf
            refine hKq _ _ _ (V.Sub.refl _) ?_
            clear hKq Kq
            conv => whnf
            rcases hMv with ⟨_, rfl, hz⟩ | ⟨h, _⟩ | ⟨h, _⟩ | ⟨h, _⟩
            · refine And.intro (fun h => absurd (of_decide_eq_true h) ((by decide))) (fun _ => ?_)
              conv => whnf
              refine hKq _ _ _ (V.Sub.refl _) ?_
              clear hKq Kq
              conv => whnf
              refine hKq _ _ _ (V.Sub.refl _) ?_
              clear hKq Kq
              conv => whnf
              refine VSeq.mk fun Kq hKq => ?_
              conv => whnf
              refine hp.kalloc z27 fun q30 w hp hx => ?_
              conv => whnf
              refine hKq _ _ _ (V.Sub.refl _) ?_
              clear hKq Kq
              conv => whnf
              refine VSeq.mk fun Kq hKq => ?_
              conv => whnf
              refine VSeq.mk fun Kq hKq => ?_
              conv => whnf
              refine hKq _ _ _ (V.Sub.refl _) ?_
              clear hKq Kq
              conv => whnf
              have hp : HpM [] w1 w [blk q30 (hC zz8 ⟨#[]⟩ 0) 27, blk q27 (hC g' t' d') 27, _] := hp
              refine And.intro (fun h => absurd (of_decide_eq_true h) ((by decide))) (fun _ => ?_)
              conv => whnf
              refine hKq _ _ _ (V.Sub.refl _) ?_
              clear hKq Kq
              conv => whnf
              refine VSeq.mk fun Kq hKq => ?_
              conv => whnf
              refine VSeq.mk fun Kq hKq => ?_
              conv => whnf
              refine hKq _ _ _ (V.Sub.refl _) ?_
              clear hKq Kq
              conv => whnf
              refine And.intro (fun h => absurd (of_decide_eq_true h) ((fun h => h rfl))) (fun _ => ?_)
              conv => whnf
              refine ⟨_, _, Blk.ldN (hp.get (i := 1) rfl) TTok rfl (gl), ?_⟩
              conv => whnf
              refine ⟨_, _, Blk.ldN (hp.get (i := 0) rfl) TTok rfl (by rfl), ?_⟩
              conv => whnf
              rw [← hz]
              refine ⟨_, _, hash_same g' t' d' hg8 (by unfold maxLen; omega) hbd.2 _ _ w, ?_⟩
              conv => whnf
              refine hKq _ _ _ (V.Sub.refl _) ?_
              clear hKq Kq
              conv => whnf
              refine And.intro (fun h => by cases h) (fun _ => ?_)
              conv => whnf
              refine hKq _ _ _ (V.Sub.refl _) ?_
              clear hKq Kq
              conv => whnf
              refine And.intro (by omega) ?_
              conv => whnf
              exact ⟨m3 - 1, _, by omega, ⟨i2 + 1, by omega, rfl, hp.tail.tail⟩, sub_cons rfl (sub_cons rfl (sub_cons rfl (sub_cons rfl (sub_cons rfl (sub_cons rfl (sub_cons rfl (sub_cons rfl (sub_cons rfl (sub_cons rfl sub_nil)))))))))⟩
            · rw [ho] at h; cases h
            · rw [ho] at h; cases h
            · rw [ho] at h; cases h
          · have hlt3 := of_decide_eq_false hlt3
            conv => whnf
            clear hKq Kq
            refine hKq _ _ _ (V.Sub.refl _) ?_
            clear hKq Kq
            conv => whnf
            refine And.intro (by omega) ?_
            conv => whnf
            exact ⟨mm - 1, _, by omega, ⟨j + 1, by omega, rfl, hxw.trans hp.ext⟩, sub_cons rfl (sub_cons rfl (sub_cons rfl (sub_cons rfl (sub_cons rfl (sub_cons rfl sub_nil)))))⟩
      · have hlt2 := of_decide_eq_false hlt2
        conv => whnf
        clear hKq Kq
        refine hKq _ _ _ (V.Sub.refl _) ?_
        clear hKq Kq
        conv => whnf
        refine VSeq.mk fun Kq hKq => ?_
        conv => whnf
        refine hKq _ _ _ (V.Sub.refl _) ?_
        clear hKq Kq
        conv => whnf
        exact ⟨rfl, hx01.trans hxw⟩
theorem pieces_at {W : World} {v3 : Value} (c0 : Array Value) (e0 : Rd W shH c0.toList) (a1 : ByteArray) (a2 : Int) (w2 : (Lit.int .u16 a2).wf = true) (L3 : List ByteArray) (s3 : SLv W v3 (L3.map .string)) :
    Calls Try.prog 8 #[.agg c0, .string a1, .int .u16 a2, v3] W fun e w' => e = .returned (.bool true) ∧ Ext W w' := by
  obtain ⟨h, tail, c, hc, hh, _, hb⟩ := hash_inv c0.toList e0
  obtain ⟨n, rfl, hn⟩ := nat_of_u w2 rfl
  have hc : c0 = (hC h tail c).toArray := by rw [← hc]
  rw [hc]
  exact DigestPieces_c h tail c a1 n L3 s3 hh hb hn
end Go.Proofs.Ytebmmfeegjgbeaa
