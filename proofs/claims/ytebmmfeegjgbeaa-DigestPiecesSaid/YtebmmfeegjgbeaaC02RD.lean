/- Chapter 02: the reference's digests. -/
import Derived.Test.YtebmmfeegjgbeaaC02RC
namespace Go.Proofs.Ytebmmfeegjgbeaa
set_option linter.unusedSimpArgs false
set_option linter.unusedVariables false
open Go.RowKit V
set_option maxRecDepth 100000
set_option maxHeartbeats 1600000 in
theorem all_c {W : World} {tS tK hs : Value} (h : List Nat) (s : ByteArray) {nS : List Value} (hS : SLv W tS nS) (hK : SLv W tK (kw .i64 KL)) (hh : SLv W hs (kw .i64 h)) (h8 : W8 h) (hb : s.size ≤ 1000000) :
    Calls Try.prog 52 #[.agg #[tS, tK], hs, .string s] W fun e w' => ∃ v, e = .returned v ∧ SLv w' v (kw .i64 (mixA KL h s.data.toList)) ∧ Ext W w' := by
  obtain ⟨pS, cS, rfl⟩ := hS.shape
  obtain ⟨pK, cK, rfl⟩ := hK.shape
  refine v_fn (args := [.agg #[.slice pS nS.length cS, .slice pK (kw .i64 KL).length cK], hs, .string s]) TTok FFok Try.func52 rfl (Nat.le_of_ble_eq_true rfl) ?_
  conv => whnf
  refine VSeq.mk fun Kq hKq => ?_
  conv => whnf
  have hp := Hp.nil W
  refine hp.kbox ([.slice pS nS.length cS, .slice pK (kw .i64 KL).length cK]) rfl fun qt w hp hx => ?_
  conv => whnf
  refine hKq _ _ _ (V.Sub.refl _) ?_
  clear hKq Kq
  conv => whnf
  refine VSeq.mk fun Kq hKq => ?_
  conv => whnf
  refine VSeq.mk fun Kq hKq => ?_
  conv => whnf
  refine hKq _ _ _ (V.Sub.refl _) ?_
  clear hKq Kq
  conv => whnf
  have hsl := toList_len s
  obtain ⟨N, hN⟩ : ∃ N, s.size / 64 = N := ⟨_, rfl⟩
  have hmix : mixA KL h s.data.toList = mixJ KL s.data.toList h N := by unfold mixA; rw [hsl, hN]
  rw [hmix]
  have hqt : Blk w qt [.slice pS nS.length cS, .slice pK (kw .i64 KL).length cK] 52 := hp.get (i := 0) rfl
  have hh0 : SLv w hs (kw .i64 (mixJ KL s.data.toList h 0)) := hh.ext hx
  clear hp
  repeat clear hp
  refine ⟨fun mm e w' => ∃ (j : Nat) (v : Value), mm + j = N ∧ e = [(1, .v v), (2, .v (.string s)), (3, .v (.pointer (some ⟨qt, 0, none⟩))), (7, .v (.int .i64 (64 * j : Nat)))] ∧ SLv w' v (kw .i64 (mixJ KL s.data.toList h j)) ∧ Ext w w',
      ⟨N, _, ⟨0, _, by omega, rfl, hh0, Ext.refl _⟩, sub_cons rfl (sub_cons rfl (sub_cons rfl (sub_cons rfl sub_nil)))⟩, ?_⟩
  rintro mm _ w1 ⟨j, v, hmm, rfl, hv, hxw⟩
  conv => whnf
  refine VSeq.mk fun Kq hKq => ?_
  conv => whnf
  refine VSeq.mk fun Kq hKq => ?_
  conv => whnf
  refine And.intro (by omega) ?_
  conv => whnf
  refine hKq _ _ _ (V.Sub.refl _) ?_
  clear hKq Kq
  conv => whnf
  refine ⟨fun hlt => ?_, fun hlt => ?_⟩
  · have hlt := of_decide_eq_true hlt
    conv => whnf
    refine hKq _ _ _ (V.Sub.refl _) ?_
    clear hKq Kq
    conv => whnf
    refine VSeq.mk fun Kq hKq => ?_
    conv => whnf
    have hj : j < N := by omega
    have hl : (s.extract (64 * j) (64 * j + 64)).data.toList = (s.data.toList.drop (64 * j)).take 64 := by rw [ext_list, show 64 * j + 64 - 64 * j = 64 by omega]
    have hp := HpM.nil0 [] w1
    have hx01 := hx.trans hxw
    refine v_mixA TTok FFok mixed [(0, false), (1, false), (2, false), (3, false), (4, false), (5, false), (6, false), (7, true), (8, false)] (by kernel_rfl) ?_
    conv => whnf
    refine ⟨_, fun w2 hx' => Blk.ldN (Blk.ext hqt (hxw.trans hx')) TTok rfl rfl, ?_⟩
    conv => whnf
    refine And.intro (by omega) ?_
    conv => whnf
    refine ⟨64 * j, 64 * j + 64, ⟨by first | rfl | omega, by first | rfl | omega, by omega, by omega⟩, ?_⟩
    conv => whnf
    intro w hx
    try (have hp := hp.call hx)
    conv => whnf
    refine Calls.mono (Mixed_c (W := w) (mixJ KL s.data.toList h j) (s.extract (64 * j) (64 * j + 64)) (hS.ext (hx01.trans hx)) (hK.ext (hx01.trans hx)) (hv.ext hx) (mixJ_W8 KL _ h8 j) (by rw [size_extract _ _ _ (by omega)]; omega)) ?_
    rintro _ w ⟨v2, rfl, hv2, hx⟩
    refine ⟨_, rfl, ?_⟩
    conv => whnf
    refine And.intro hx ?_
    conv => whnf
    have hp := hp.call hx
    intro w hx
    try (have hp := hp.call hx)
    conv => whnf
    refine hKq _ _ _ (V.Sub.refl _) ?_
    clear hKq Kq
    conv => whnf
    refine And.intro (by omega) ?_
    conv => whnf
    rw [hl] at hv2
    exact ⟨mm - 1, _, by omega, ⟨j + 1, v2, by omega, rfl, hv2.ext hx, hxw.trans hp.ext⟩, sub_cons rfl (sub_cons rfl (sub_cons rfl (sub_cons (by show some _ = some _; congr 3) sub_nil)))⟩
  · have hlt := of_decide_eq_false hlt
    conv => whnf
    clear hKq Kq
    refine hKq _ _ _ (V.Sub.refl _) ?_
    clear hKq Kq
    conv => whnf
    refine VSeq.mk fun Kq hKq => ?_
    conv => whnf
    refine hKq _ _ _ (V.Sub.refl _) ?_
    clear hKq Kq
    conv => whnf
    obtain rfl : j = N := by omega
    exact ⟨by rw [hmix]; exact hv, hx.trans hxw⟩
theorem cut64 (s : ByteArray) : (s.extract 0 (s.size / 64 * 64)).data.toList = s.data.toList.take (s.data.toList.length / 64 * 64) := by
  rw [ext_list, List.drop_zero, toList_len, Nat.sub_zero]
theorem sum_eq (s : ByteArray) : outW (mixA KL SL ((s.extract 0 (s.size / 64 * 64)) ++ (⟨((restB s).data.toList ++ closing (restB s).size s.size).toArray⟩ : ByteArray)).data.toList) = sumL2 KL SL s.data.toList := by
  have hsl := toList_len s
  rw [ByteArray.toList_data_append, cut64, mixA_app KL _ _ SL (by rw [List.length_take]; omega), mixA_full]
  unfold sumL2 endL
  have hr : (restB s).data.toList = rest s.data.toList := rfl
  have hz : (restB s).size = (rest s.data.toList).length := by rw [restB_size, rest_len, hsl]
  rw [hz, hsl]
  rfl
set_option maxHeartbeats 1600000 in
theorem rSum_c {W : World} {tS tK : Value} (s : ByteArray) (hS : SLv W tS (kw .i64 SL)) (hK : SLv W tK (kw .i64 KL)) (hb : s.size ≤ 100000) :
    Calls Try.prog 26 #[.agg #[tS, tK], .string s] W fun e w' => ∃ v, e = .returned v ∧ v = .string (sumB s) ∧ Ext W w' := by
  obtain ⟨pS, cS, rfl⟩ := hS.shape
  obtain ⟨pK, cK, rfl⟩ := hK.shape
  have hcz := closing_p (restB s) s.size (by rw [restB_size]; omega) (by omega)
  have hrs := restB_size s
  have hre := restB_ext s
  have hcs := size_extract s 0 (s.size / 64 * 64) (by omega)
  have heq := sum_eq s
  refine v_fn (args := [.agg #[.slice pS (kw .i64 SL).length cS, .slice pK (kw .i64 KL).length cK], .string s]) TTok FFok Try.func26 rfl (Nat.le_of_ble_eq_true rfl) ?_
  conv => whnf
  refine VSeq.mk fun Kq hKq => ?_
  conv => whnf
  have hp := Hp.nil W
  refine hp.kbox ([.slice pS (kw .i64 SL).length cS, .slice pK (kw .i64 KL).length cK]) rfl fun qt w hp hx => ?_
  conv => whnf
  refine hKq _ _ _ (V.Sub.refl _) ?_
  clear hKq Kq
  conv => whnf
  refine VSeq.mk fun Kq hKq => ?_
  conv => whnf
  refine And.intro (by omega) ?_
  conv => whnf
  refine And.intro (by omega) ?_
  conv => whnf
  refine hKq _ _ _ (V.Sub.refl _) ?_
  clear hKq Kq
  conv => whnf
  refine VSeq.mk fun Kq hKq => ?_
  conv => whnf
  rw [show ((s.size : Nat) : Int) / 64 * 64 = ((s.size / 64 * 64 : Nat) : Int) by omega]
  have hqt : Blk w qt [.slice pS (kw .i64 SL).length cS, .slice pK (kw .i64 KL).length cK] 52 := hp.get (i := 0) rfl
  have hS := hS.ext hx
  have hK := hK.ext hx
  have hx0 := hx
  clear hp
  repeat clear hp
  have hp := HpM.nil0 [] w
  refine v_mixA TTok FFok mixed [(0, false), (1, false), (2, false), (3, false), (4, false), (5, false), (6, false), (7, false), (8, false), (9, false), (10, false), (11, false), (12, false), (13, true), (14, true), (15, false)] (by kernel_rfl) ?_
  conv => whnf
  refine ⟨_, fun w2 hx' => Blk.ldN (Blk.ext hqt hx') TTok rfl rfl, ?_⟩
  conv => whnf
  refine ⟨_, fun w2 hx' => Blk.ld (off := 0) (Blk.ext hqt hx') TTok rfl rfl, ?_⟩
  conv => whnf
  refine ⟨s.size / 64 * 64, ⟨by first | rfl | omega, by omega⟩, ?_⟩
  conv => whnf
  refine ⟨s.size / 64 * 64, ⟨by first | rfl | omega, by omega⟩, ?_⟩
  conv => whnf
  rw [hre]
  first | refine PureF.quiet (hcz) ?_ | refine PureF.quietE (hcz) ?_
  conv => whnf
  have hlz : (⟨((restB s).data.toList ++ closing (restB s).size s.size).toArray⟩ : ByteArray).size ≤ 1000 := by
    rw [bA_size, List.length_append, toList_len]
    unfold closing be8
    rw [List.length_cons, List.length_append, List.length_replicate, List.length_map, List.length_range]
    omega
  obtain ⟨C, hC⟩ : ∃ C : ByteArray, ⟨((restB s).data.toList ++ closing (restB s).size s.size).toArray⟩ = C := ⟨_, rfl⟩
  rw [hC] at hlz heq ⊢
  obtain ⟨A, hA⟩ : ∃ A, s.extract 0 (s.size / 64 * 64) = A := ⟨_, rfl⟩
  rw [hA] at hcs heq ⊢
  have hAC : (A ++ C).size = A.size + C.size := ByteArray.size_append
  have h8 := mixA_W8 KL SL_W8 (A ++ C).data.toList
  refine And.intro (by omega) ?_
  conv => whnf
  intro w hx
  try (have hp := hp.call hx)
  conv => whnf
  refine Calls.mono (all_c (W := w) SL (A ++ C) (hS.ext hp.ext) (hK.ext hp.ext) (hS.ext hp.ext) SL_W8 (by omega)) ?_
  rintro _ w ⟨v2, rfl, hv2, hx⟩
  refine ⟨_, rfl, ?_⟩
  conv => whnf
  refine And.intro hx ?_
  conv => whnf
  have hp := hp.call hx
  intro w hx
  try (have hp := hp.call hx)
  conv => whnf
  refine Calls.mono (octets_c (W := w) (mixA KL SL (A ++ C).data.toList) (hv2.ext hx) h8.2 h8.1) ?_
  rintro _ w ⟨rfl, hx⟩
  refine ⟨_, rfl, ?_⟩
  conv => whnf
  refine And.intro hx ?_
  conv => whnf
  have hp := hp.call hx
  intro w hx
  try (have hp := hp.call hx)
  conv => whnf
  refine hKq _ _ _ (V.Sub.refl _) ?_
  clear hKq Kq
  conv => whnf
  rw [heq]
  exact ⟨rfl, hx0.trans hp.ext⟩
set_option maxHeartbeats 1600000 in
theorem ints_p {W : World} (h : List Nat) (tail : ByteArray) (c : Int) (hh : W8 h) : Calls Try.prog 55 #[.agg (hC h tail c).toArray] W fun e w' => ∃ v, e = .returned v ∧ SLv w' v (kw .i64 h) ∧ Ext W w' := by
  have hCl : (hC h tail c).length = 10 := by rw [hC_len, hh.1]
  refine v_fn (args := [.agg (hC h tail c).toArray]) TTok FFok Try.func55 rfl (Nat.le_of_ble_eq_true rfl) ?_
  conv => whnf
  refine VSeq.mk fun Kq hKq => ?_
  conv => whnf
  have hp := Hp.nil W
  refine hp.kbox (hC h tail c) rfl fun qt w hp hx => ?_
  conv => whnf
  refine hKq _ _ _ (V.Sub.refl _) ?_
  clear hKq Kq
  conv => whnf
  refine VSeq.mk fun Kq hKq => ?_
  conv => whnf
  refine hKq _ _ _ (V.Sub.refl _) ?_
  clear hKq Kq
  conv => whnf
  refine VSeq.mk fun Kq hKq => ?_
  conv => whnf
  refine VSeq.mk fun Kq hKq => ?_
  conv => whnf
  refine hKq _ _ _ (V.Sub.refl _) ?_
  clear hKq Kq
  conv => whnf
  have hp := hp.knil 3 1
  have hp : HpM [] W w [row 3 1 (.slice none 0 0) 0 (kw .i64 (h.take 0)), blk qt (hC h tail c) 27] := hp
  refine ⟨fun mm e w' => ∃ (i : Nat) (v : Value), mm + i = 8 ∧ e = [(1, .v (.pointer (some ⟨qt, 0, none⟩))), (3, .v v), (4, .v (.int .i64 i))] ∧ HpM [] W w' [row 3 1 v i (kw .i64 (h.take i)), blk qt (hC h tail c) 27],
      ⟨8, _, ⟨0, _, by omega, rfl, hp⟩, sub_cons rfl (sub_cons rfl (sub_cons rfl sub_nil))⟩, ?_⟩
  clear hp hx
  repeat clear hp
  rintro mm _ w ⟨i, v, hmm, rfl, hp⟩
  conv => whnf
  refine VSeq.mk fun Kq hKq => ?_
  conv => whnf
  refine VSeq.mk fun Kq hKq => ?_
  conv => whnf
  refine hKq _ _ _ (V.Sub.refl _) ?_
  clear hKq Kq
  conv => whnf
  refine ⟨fun hlt => ?_, fun hlt => ?_⟩
  · have hlt := of_decide_eq_true hlt
    conv => whnf
    refine hKq _ _ _ (V.Sub.refl _) ?_
    clear hKq Kq
    conv => whnf
    refine VSeq.mk fun Kq hKq => ?_
    conv => whnf
    have hi : i < h.length := by rw [hh.1]; omega
    have hx4 : h.getD i 0 < 4294967296 := hh.get i
    have hsucc : h.take (i + 1) = h.take i ++ [h.getD i 0] := by
      rw [List.take_add_one, List.getD_eq_getElem?_getD, List.getElem?_eq_getElem hi]; rfl
    have hg : (hC h tail c)[i]? = some (.int .u32 ((h.getD i 0 : Nat) : Int)) := by
      unfold hC
      rw [List.getElem?_append_left (by rw [kw_len]; exact hi)]
      exact getk hi
    obtain ⟨x, hxd⟩ : ∃ x, h.getD i 0 = x := ⟨_, rfl⟩
    rw [hxd] at hx4 hsucc hg
    refine ⟨i, ⟨by first | rfl | omega, by omega⟩, ?_⟩
    conv => whnf
    refine ⟨_, _, Blk.ld (hp.get (i := 1) rfl) TTok rfl (hg), ?_⟩
    conv => whnf
    refine And.intro (by omega) ?_
    conv => whnf
    refine hp.kmade (kw .i64 [x]) 3 (fun b => .slice (some ⟨b, 0, none⟩) 1 1) (by kernel_rfl) fun tb w hp hx => ?_
    conv => whnf
    refine hp.kapp sl50 1 rfl (Blk.src TTok (hp.get (i := 0) rfl) rfl rfl (kw_one _ _)) (by omega) (by unfold maxLen; omega) fun v' w hp => ?_
    simp only [List.set_cons_zero, List.set_cons_succ] at hp
    rw [← kw_app, ← hsucc] at hp
    conv => whnf
    refine hKq _ _ _ (V.Sub.refl _) ?_
    clear hKq Kq
    conv => whnf
    refine And.intro (by omega) ?_
    conv => whnf
    exact ⟨mm - 1, _, by omega, ⟨i + 1, v', by omega, rfl, hp.tail⟩, sub_cons rfl (sub_cons rfl (sub_cons rfl sub_nil))⟩
  · have hlt := of_decide_eq_false hlt
    conv => whnf
    clear hKq Kq
    refine hKq _ _ _ (V.Sub.refl _) ?_
    clear hKq Kq
    conv => whnf
    refine VSeq.mk fun Kq hKq => ?_
    conv => whnf
    refine hKq _ _ _ (V.Sub.refl _) ?_
    clear hKq Kq
    conv => whnf
    obtain rfl : i = 8 := by omega
    rw [List.take_of_length_le (by rw [hh.1]; exact Nat.le_refl _)] at hp
    exact ⟨SLv.of_row (hp.get (i := 0) rfl), hp.ext⟩
theorem hC_get8 (h : List Nat) (tail : ByteArray) (c : Int) (hh : W8 h) : (hC h tail c)[8]? = some (.string tail) := hC_tail _ _ _ hh.1
theorem hC_get9 (h : List Nat) (tail : ByteArray) (c : Int) (hh : W8 h) : (hC h tail c)[9]? = some (.int .i64 c) := hC_cnt _ _ _ hh.1
set_option maxHeartbeats 1600000 in
theorem rEnd_c {W : World} {tS tK : Value} {nS : List Value} (h : List Nat) (tail : ByteArray) (c : Nat) (hS : SLv W tS nS) (hK : SLv W tK (kw .i64 KL)) (hh : W8 h) (ht : tail.size < 64) (hc : c ≤ 1099511627776) :
    Calls Try.prog 31 #[.agg #[tS, tK], .agg (hC h tail c).toArray] W fun e w' => ∃ v, e = .returned v ∧ v = .string ⟨(endL KL h tail.data.toList c).toArray⟩ ∧ Ext W w' := by
  obtain ⟨pS, cS, rfl⟩ := hS.shape
  obtain ⟨pK, cK, rfl⟩ := hK.shape
  have hcz := closing_p tail c ht hc
  have hCl : (hC h tail c).length = 10 := by rw [hC_len, hh.1]
  refine v_fn (args := [.agg #[.slice pS nS.length cS, .slice pK (kw .i64 KL).length cK], .agg (hC h tail c).toArray]) TTok FFok Try.func31 rfl (Nat.le_of_ble_eq_true rfl) ?_
  conv => whnf
  refine VSeq.mk fun Kq hKq => ?_
  conv => whnf
  have hp := Hp.nil W
  refine hp.kbox ([.slice pS nS.length cS, .slice pK (kw .i64 KL).length cK]) rfl fun qt w hp hx => ?_
  conv => whnf
  refine hp.kbox (hC h tail c) rfl fun qh w hp hx => ?_
  conv => whnf
  refine hKq _ _ _ (V.Sub.refl _) ?_
  clear hKq Kq
  conv => whnf
  refine VSeq.mk fun Kq hKq => ?_
  conv => whnf
  have hp : HpM [] W w [blk qh (hC h tail c) 27, blk qt [.slice pS nS.length cS, .slice pK (kw .i64 KL).length cK] 52] := hp
  refine v_mixA TTok FFok mixed [(0, false), (1, false), (3, false), (4, false), (5, false), (6, false), (2, true), (7, false), (8, true), (9, true), (10, false)] (by kernel_rfl) ?_
  conv => whnf
  refine ⟨_, fun w' hx' => Blk.ldN (Blk.ext (hp.get (i := 1) rfl) hx') TTok rfl (rfl), ?_⟩
  conv => whnf
  refine ⟨_, fun w' hx' => Blk.ldN (Blk.ext (hp.get (i := 0) rfl) hx') TTok rfl (hCl), ?_⟩
  conv => whnf
  refine ⟨_, fun w' hx' => Blk.ld (Blk.ext (hp.get (i := 0) rfl) hx') TTok rfl (hC_get8 h tail c hh), ?_⟩
  conv => whnf
  refine ⟨_, fun w' hx' => Blk.ld (Blk.ext (hp.get (i := 0) rfl) hx') TTok rfl (hC_get9 h tail c hh), ?_⟩
  conv => whnf
  intro w hx
  try (have hp := hp.call hx)
  conv => whnf
  refine Calls.mono (ints_p (W := w) h tail c hh) ?_
  rintro _ w ⟨v1, rfl, hv1, hx⟩
  refine ⟨_, rfl, ?_⟩
  conv => whnf
  refine And.intro hx ?_
  conv => whnf
  have hp := hp.call hx
  first | refine PureF.quiet (hcz) ?_ | refine PureF.quietE (hcz) ?_
  conv => whnf
  have hlz : (⟨(tail.data.toList ++ closing tail.size c).toArray⟩ : ByteArray).size ≤ 1000 := by
    rw [bA_size, List.length_append, toList_len]
    unfold closing be8
    rw [List.length_cons, List.length_append, List.length_replicate, List.length_map, List.length_range]
    omega
  have hCd : (⟨(tail.data.toList ++ closing tail.size c).toArray⟩ : ByteArray).data.toList = tail.data.toList ++ closing tail.data.toList.length c := by rw [toList_len]
  obtain ⟨C, hC⟩ : ∃ C : ByteArray, ⟨(tail.data.toList ++ closing tail.size c).toArray⟩ = C := ⟨_, rfl⟩
  rw [hC] at hlz hCd ⊢
  have h8 := mixA_W8 KL hh C.data.toList
  intro w hx
  try (have hp := hp.call hx)
  conv => whnf
  refine Calls.mono (all_c (W := w) h C (hS.ext hp.ext) (hK.ext hp.ext) (hv1.ext hx) hh (by omega)) ?_
  rintro _ w ⟨v2, rfl, hv2, hx⟩
  refine ⟨_, rfl, ?_⟩
  conv => whnf
  refine And.intro hx ?_
  conv => whnf
  have hp := hp.call hx
  intro w hx
  try (have hp := hp.call hx)
  conv => whnf
  refine Calls.mono (octets_c (W := w) (mixA KL h C.data.toList) (hv2.ext hx) h8.2 h8.1) ?_
  rintro _ w ⟨rfl, hx⟩
  refine ⟨_, rfl, ?_⟩
  conv => whnf
  refine And.intro hx ?_
  conv => whnf
  have hp := hp.call hx
  intro w hx
  try (have hp := hp.call hx)
  conv => whnf
  refine hKq _ _ _ (V.Sub.refl _) ?_
  clear hKq Kq
  conv => whnf
  rw [hCd]
  exact ⟨rfl, hp.ext⟩
theorem Right_p (h : List Nat) (tail : ByteArray) (c : Int) (h8 : h.length = 8) : PureF Try.prog 30 #[.agg (hC h tail c).toArray] (.bool (okH tail c)) := by
  have hCl : (hC h tail c).length = 10 := by rw [hC_len, h8]
  first | refine v_pure TTok FFok Try.func30 rfl rfl fun w0 => ?_ | refine v_pure (args := []) TTok FFok Try.func30 rfl rfl fun w0 => ?_
  conv => whnf
  refine VSeq.mk fun Kq hKq => ?_
  conv => whnf
  have hp := Hp.nil w0
  refine hp.kbox (hC h tail c) rfl fun qh w hp hx => ?_
  conv => whnf
  refine hKq _ _ _ (V.Sub.refl _) ?_
  clear hKq Kq
  conv => whnf
  refine VSeq.mk fun Kq hKq => ?_
  conv => whnf
  refine VSeq.mk fun Kq hKq => ?_
  conv => whnf
  have hp : HpM [] w0 w [blk qh (hC h tail c) 27] := hp
  refine ⟨_, _, Blk.ld (hp.get (i := 0) rfl) TTok rfl (hC_cnt _ _ _ h8), ?_⟩
  conv => whnf
  refine hKq _ _ _ (V.Sub.refl _) ?_
  clear hKq Kq
  conv => whnf
  refine VSeq.mk fun Kq hKq => ?_
  conv => whnf
  refine ⟨fun hc => ?_, fun hc => ?_⟩
  · have hc := of_decide_eq_true hc
    conv => whnf
    refine ⟨_, _, Blk.ld (hp.get (i := 0) rfl) TTok rfl (hC_cnt _ _ _ h8), ?_⟩
    conv => whnf
    refine hKq _ _ _ (V.Sub.refl _) ?_
    clear hKq Kq
    conv => whnf
    refine ⟨fun hc2 => ?_, fun hc2 => ?_⟩
    · have hc2 := of_decide_eq_true hc2
      conv => whnf
      refine ⟨_, _, Blk.ld (hp.get (i := 0) rfl) TTok rfl (hC_tail _ _ _ h8), ?_⟩
      conv => whnf
      refine ⟨_, _, Blk.ld (hp.get (i := 0) rfl) TTok rfl (hC_cnt _ _ _ h8), ?_⟩
      conv => whnf
      refine And.intro (by omega) ?_
      conv => whnf
      refine hKq _ _ _ (V.Sub.refl _) ?_
      clear hKq Kq
      conv => whnf
      refine ⟨?_, hp.ext⟩
      unfold okH
      rw [decide_eq_true hc, decide_eq_true hc2]
      rfl
    · have hc2 := of_decide_eq_false hc2
      conv => whnf
      refine hKq _ _ _ (V.Sub.refl _) ?_
      clear hKq Kq
      conv => whnf
      refine ⟨?_, hp.ext⟩
      unfold okH
      rw [decide_eq_true hc, decide_eq_false hc2]
      rfl
  · have hc := of_decide_eq_false hc
    conv => whnf
    refine hKq _ _ _ (V.Sub.refl _) ?_
    clear hKq Kq
    conv => whnf
    refine hKq _ _ _ (V.Sub.refl _) ?_
    clear hKq Kq
    conv => whnf
    refine ⟨?_, hp.ext⟩
    unfold okH
    rw [decide_eq_false hc]
    rfl
def zz8 : List Nat := List.replicate 8 0
theorem kw0 (n : Nat) : List.replicate n (Value.int .u32 0) = kw .u32 (List.replicate n 0) := by unfold kw; rw [List.map_replicate]; rfl
def hP (M : List Nat) (S : ByteArray) (c : Int) (i : Nat) : List Value := hC (M.take i ++ List.replicate (8 - i) 0) S c
theorem hP_set (M : List Nat) (S : ByteArray) (c : Int) (i : Nat) (hM : M.length = 8) (hi : i < 8) : (hP M S c i).set i (.int .u32 ((M.getD i 0 : Nat) : Int)) = hP M S c (i + 1) := by
  unfold hP hC
  have hl : (M.take i ++ List.replicate (8 - i) 0).length = 8 := by rw [List.length_append, List.length_take, List.length_replicate]; omega
  rw [List.set_append_left _ _ (by rw [kw_len, hl]; exact hi), kw_set, set_next M (M.getD i 0) 0 i 8 hi hM (by rw [List.getD_eq_getElem?_getD, List.getElem?_eq_getElem (by omega)]; rfl)]
theorem hP_len (M : List Nat) (S : ByteArray) (c : Int) (i : Nat) (hM : M.length = 8) (hi : i ≤ 8) : (hP M S c i).length = 10 := by
  unfold hP
  rw [hC_len, List.length_append, List.length_take, List.length_replicate]
  omega
theorem V.HpM.only {M : List Nat} {w0 w : World} {q e : Nat} {c : List Value} {H : List It} (h : HpM M w0 w (blk q c e :: H)) : HpM [q] w w [blk q c e] :=
  ⟨ExtM.refl _ _, fun x hx => h.ok x (by rw [List.mem_singleton] at hx; subst hx; exact List.mem_cons_self), fun x hx => h.holds x (by rw [List.mem_singleton] at hx; subst hx; exact List.mem_cons_self),
    fun x hx b hb => by
      rw [List.mem_singleton] at hx; subst hx
      have hq : q = b := by injection hb
      subst hq
      exact ⟨.inl List.mem_cons_self, (h.lo _ List.mem_cons_self _ rfl).2⟩, List.pairwise_singleton _ _⟩
theorem V.HpM.step1 {w0 w w' : World} {q e : Nat} {c c' : List Value} {H : List It} (h : HpM [] w0 w (blk q c e :: H)) (k : HpM [q] w w' [blk q c' e]) : HpM [] w0 w' (blk q c' e :: H) := by
  have hq := h.lo _ List.mem_cons_self q rfl
  have hq0 : w0.heap.size ≤ q := hq.1.resolve_left (fun x => nomatch x)
  have hap := List.pairwise_cons.1 h.apart
  refine ⟨⟨k.extM.os.trans h.extM.os, k.extM.tape.trans h.extM.tape, k.extM.output.trans h.extM.output, Nat.le_trans h.extM.size k.extM.size, fun i hi hm => ?_⟩, ?_, ?_, ?_, ?_⟩
  · refine (k.extM.block i (Nat.lt_of_lt_of_le hi h.extM.size) fun x => ?_).trans (h.extM.block i hi hm)
    rw [List.mem_singleton] at x
    omega
  · intro x hx
    rcases List.mem_cons.1 hx with rfl | hx2
    · exact blk_ok _ _ _
    · exact h.ok x (List.mem_cons_of_mem _ hx2)
  · intro x hx
    rcases List.mem_cons.1 hx with rfl | hx2
    · exact k.holds _ List.mem_cons_self
    · refine h.ok x (List.mem_cons_of_mem _ hx2) w w' k.extM.size (fun b hb => ?_) (h.holds x (List.mem_cons_of_mem _ hx2))
      refine k.extM.block b (h.lo x (List.mem_cons_of_mem _ hx2) b hb).2 fun y => ?_
      rw [List.mem_singleton] at y
      subst y
      exact hap.1 x hx2 b rfl hb
  · intro x hx b hb
    rcases List.mem_cons.1 hx with rfl | hx2
    · have hq2 : q = b := by injection hb
      subst hq2
      exact ⟨.inr hq0, Nat.lt_of_lt_of_le hq.2 k.extM.size⟩
    · have := h.lo x (List.mem_cons_of_mem _ hx2) b hb
      exact ⟨this.1, Nat.lt_of_lt_of_le this.2 k.extM.size⟩
  · exact List.pairwise_cons.2 ⟨hap.1, hap.2⟩
theorem V.SLv.step1 {w w' : World} {q g off n c : Nat} {xs : List Value} (h : SLv w (.slice (some ⟨g, off, none⟩) n c) xs) (k : ExtM [q] w w') (hne : g ≠ q) : SLv w' (.slice (some ⟨g, off, none⟩) n c) xs := by
  rcases h with ⟨rfl, a, d, hv⟩ | ⟨g', off', c', hv, hl, hc⟩
  · exact .inl ⟨rfl, a, d, hv⟩
  · refine .inr ⟨g', off', c', hv, hl, fun j x hj => ?_⟩
    injection hv with hv _ _
    injection hv with hv
    injection hv with hg _ _
    subst hg
    have h0 := hc j x hj
    have hlt : g < w.heap.size := by
      rcases Nat.lt_or_ge g w.heap.size with h | h
      · exact h
      · have : w.heap[g]? = none := Array.getElem?_eq_none h
        simp [World.cell?, this] at h0
    have hb := k.block g hlt (by rw [List.mem_singleton]; exact hne)
    simp only [World.cell?, hb] at h0 ⊢
    exact h0
set_option maxHeartbeats 1600000 in
theorem rMore_c {W : World} {tS tK : Value} {nS : List Value} (h : List Nat) (tail s : ByteArray) (c : Nat) (hS : SLv W tS nS) (hK : SLv W tK (kw .i64 KL)) (hh : W8 h) (ht : tail.size < 64) (hc : c ≤ 1099511627776) (hs : s.size ≤ 100000) :
    Calls Try.prog 29 #[.agg #[tS, tK], .agg (hC h tail c).toArray, .string s] W fun e w' => ∃ v, e = .returned v ∧ v = .agg (hC (mixA KL h (tail.data.toList ++ s.data.toList)) (restB (tail ++ s)) ((c + s.size : Nat) : Int)).toArray ∧ Ext W w' := by
  obtain ⟨pS, cS, rfl⟩ := hS.shape
  obtain ⟨pK, cK, rfl⟩ := hK.shape
  have hCl : (hC h tail c).length = 10 := by rw [hC_len, hh.1]
  refine v_fn (args := [.agg #[.slice pS nS.length cS, .slice pK (kw .i64 KL).length cK], .agg (hC h tail c).toArray, .string s]) TTok FFok Try.func29 rfl (Nat.le_of_ble_eq_true rfl) ?_
  conv => whnf
  refine VSeq.mk fun Kq hKq => ?_
  conv => whnf
  have hp := Hp.nil W
  refine hp.kbox ([.slice pS nS.length cS, .slice pK (kw .i64 KL).length cK]) rfl fun qt w hp hx => ?_
  conv => whnf
  refine hp.kbox (hC h tail c) rfl fun qh w hp hx => ?_
  conv => whnf
  refine hp.kalloc z27 fun qr w hp hx => ?_
  conv => whnf
  refine hKq _ _ _ (V.Sub.refl _) ?_
  clear hKq Kq
  conv => whnf
  refine VSeq.mk fun Kq hKq => ?_
  conv => whnf
  have hp : HpM [] W w [blk qr (hC zz8 ⟨#[]⟩ 0) 27, blk qh (hC h tail c) 27, blk qt [.slice pS nS.length cS, .slice pK (kw .i64 KL).length cK] 52] := hp
  refine ⟨_, _, Blk.ld (hp.get (i := 1) rfl) TTok rfl (hC_get8 h tail c hh), ?_⟩
  conv => whnf
  refine And.intro (by omega) ?_
  conv => whnf
  refine hKq _ _ _ (V.Sub.refl _) ?_
  clear hKq Kq
  conv => whnf
  refine VSeq.mk fun Kq hKq => ?_
  conv => whnf
  have hts : (tail ++ s).size = tail.size + s.size := ByteArray.size_append
  have htl : (tail ++ s).data.toList = tail.data.toList ++ s.data.toList := ByteArray.toList_data_append
  refine And.intro (by omega) ?_
  conv => whnf
  refine And.intro (by omega) ?_
  conv => whnf
  refine hKq _ _ _ (V.Sub.refl _) ?_
  clear hKq Kq
  conv => whnf
  refine VSeq.mk fun Kq hKq => ?_
  conv => whnf
  have hre := restB_ext (tail ++ s)
  have hcut := cut64 (tail ++ s)
  have hcs := size_extract (tail ++ s) 0 ((tail ++ s).size / 64 * 64) (by omega)
  rw [← htl]
  obtain ⟨A, hA⟩ : ∃ A, tail ++ s = A := ⟨_, rfl⟩
  rw [hA] at hts htl hre hcut hcs ⊢
  rw [show ((A.size : Nat) : Int) / 64 * 64 = ((A.size / 64 * 64 : Nat) : Int) by omega]
  refine v_mix TTok FFok mixed 14 [(0, false), (1, false), (2, false), (3, false), (4, false), (5, false), (6, false), (7, false), (8, false), (9, false), (10, false), (11, false), (12, false), (13, true)] (by kernel_rfl) ?_
  conv => whnf
  refine ⟨A.size / 64 * 64, ⟨by first | rfl | omega, by omega⟩, ?_⟩
  conv => whnf
  rw [hre]
  refine ⟨_, fun w' hx' => Blk.ld (Blk.ext (hp.get (i := 1) rfl) hx') TTok rfl (hC_get9 h tail c hh), ?_⟩
  conv => whnf
  refine And.intro (by omega) ?_
  conv => whnf
  refine ⟨_, fun w' hx' => Blk.ld (Blk.ext (hp.get (i := 1) rfl) hx') TTok rfl (hC_get8 h tail c hh), ?_⟩
  conv => whnf
  refine And.intro (by omega) ?_
  conv => whnf
  have hcn : ((c : Nat) : Int) + ((A.size : Nat) : Int) - ((tail.size : Nat) : Int) = ((c + s.size : Nat) : Int) := by omega
  rw [hcn]
  obtain ⟨cn, hcnd⟩ : ∃ cn, c + s.size = cn := ⟨_, rfl⟩
  obtain ⟨R, hR⟩ : ∃ R, restB A = R := ⟨_, rfl⟩
  rw [hcnd, hR]
  refine ⟨.agg (hC zz8 R cn).toArray, fun w' hx' => by kernel_rfl, ?_⟩
  conv => whnf
  intro w hx
  try (have hp := hp.call hx)
  conv => whnf
  refine hp.kalloc z27 fun q8 w hp hx => ?_
  conv => whnf
  refine And.intro hx ?_
  conv => whnf
  intro w hx
  try (have hp := hp.call hx)
  conv => whnf
  refine hp.kstA TTok rfl 0 rfl (by rfl) (hC_one _ _ _) (by rfl) fun w hp => ?_
  try simp only [List.set_cons_zero, List.set_cons_succ, EV.val] at hp
  conv => whnf
  refine hKq _ _ _ (V.Sub.refl _) ?_
  clear hKq Kq
  conv => whnf
  refine VSeq.mk fun Kq hKq => ?_
  conv => whnf
  refine v_mixA TTok FFok mixed [(0, false), (1, false), (3, false), (4, false), (5, false), (2, true), (6, true), (7, false)] (by kernel_rfl) ?_
  conv => whnf
  refine ⟨_, fun w' hx' => Blk.ldN (Blk.ext (hp.get (i := 3) rfl) hx') TTok rfl (rfl), ?_⟩
  conv => whnf
  refine ⟨_, fun w' hx' => Blk.ldN (Blk.ext (hp.get (i := 2) rfl) hx') TTok rfl (hCl), ?_⟩
  conv => whnf
  refine ⟨A.size / 64 * 64, ⟨by first | rfl | omega, by omega⟩, ?_⟩
  conv => whnf
  intro w hx
  try (have hp := hp.call hx)
  conv => whnf
  refine Calls.mono (ints_p (W := w) h tail c hh) ?_
  rintro _ w ⟨v1, rfl, hv1, hx⟩
  refine ⟨_, rfl, ?_⟩
  conv => whnf
  refine And.intro hx ?_
  conv => whnf
  have hp := hp.call hx
  obtain ⟨B, hB⟩ : ∃ B, A.extract 0 (A.size / 64 * 64) = B := ⟨_, rfl⟩
  rw [hB] at hcs hcut ⊢
  have hmx : mixA KL h B.data.toList = mixA KL h A.data.toList := by rw [hcut, mixA_full]
  have h8 := mixA_W8 KL hh A.data.toList
  intro w hx
  try (have hp := hp.call hx)
  conv => whnf
  refine Calls.mono (all_c (W := w) h B (hS.ext hp.ext) (hK.ext hp.ext) (hv1.ext hx) hh (by omega)) ?_
  rintro _ w ⟨v2, rfl, hv2, hx⟩
  refine ⟨_, rfl, ?_⟩
  conv => whnf
  refine And.intro hx ?_
  conv => whnf
  have hp := hp.call hx
  rw [hmx] at hv2
  obtain ⟨M, hM⟩ : ∃ M, mixA KL h A.data.toList = M := ⟨_, rfl⟩
  rw [hM] at hv2 h8
  intro w hx
  try (have hp := hp.call hx)
  conv => whnf
  refine hKq _ _ _ (V.Sub.refl _) ?_
  clear hKq Kq
  conv => whnf
  refine VSeq.mk fun Kq hKq => ?_
  conv => whnf
  refine VSeq.mk fun Kq hKq => ?_
  conv => whnf
  refine hKq _ _ _ (V.Sub.refl _) ?_
  clear hKq Kq
  conv => whnf
  have hv2 := hv2.ext hx
  obtain ⟨p2, c2, rfl⟩ := hv2.shape
  have hlM : (kw .i64 M).length = 8 := by rw [kw_len, h8.1]
  have hp : HpM [] W w [blk q8 (hP M R cn 0) 27, blk qr (hC zz8 ⟨#[]⟩ 0) 27, blk qh (hC h tail c) 27, blk qt [.slice pS nS.length cS, .slice pK (kw .i64 KL).length cK] 52] := hp
  have hx0 := hp.ext
  refine ⟨fun mm e w' => ∃ (i : Nat), mm + i = 8 ∧ e = [(6, .v (.pointer (some ⟨qr, 0, none⟩))), (8, .v (.pointer (some ⟨q8, 0, none⟩))), (9, .v (.slice p2 (kw .i64 M).length c2)), (10, .v (.int .i64 i))] ∧ SLv w' (.slice p2 (kw .i64 M).length c2) (kw .i64 M) ∧ HpM [] W w' [blk q8 (hP M R cn i) 27, blk qr (hC zz8 ⟨#[]⟩ 0) 27, blk qh (hC h tail c) 27, blk qt [.slice pS nS.length cS, .slice pK (kw .i64 KL).length cK] 52],
      ⟨8, _, ⟨0, by omega, rfl, hv2, hp⟩, sub_cons rfl (sub_cons rfl (sub_cons rfl (sub_cons rfl sub_nil)))⟩, ?_⟩
  clear hp hx
  repeat clear hp
  rintro mm _ w ⟨i, hmm, rfl, hv, hp⟩
  conv => whnf
  refine VSeq.mk fun Kq hKq => ?_
  conv => whnf
  refine VSeq.mk fun Kq hKq => ?_
  conv => whnf
  refine hKq _ _ _ (V.Sub.refl _) ?_
  clear hKq Kq
  conv => whnf
  refine ⟨fun hlt => ?_, fun hlt => ?_⟩
  · have hlt := of_decide_eq_true hlt
    conv => whnf
    refine hKq _ _ _ (V.Sub.refl _) ?_
    clear hKq Kq
    conv => whnf
    refine VSeq.mk fun Kq hKq => ?_
    conv => whnf
    have hi : i < 8 := by omega
    obtain ⟨g, off, rfl, c1⟩ := hv.at (getk (L := M) (i := i) (by rw [h8.1]; exact hi))
    have hne : g ≠ q8 := by
      intro e
      subst e
      have hb := hp.get (i := 0) rfl
      have hb : Blk w g (hP M R cn i) 27 := hb
      have k0 := hv.get (getk (L := M) (i := 0) (by rw [h8.1]; decide))
      have k2 := hv.get (getk (L := M) (i := 2) (by rw [h8.1]; decide))
      rw [hb.cell] at k0 k2
      have hlen := hP_len M R cn i h8.1 (by omega)
      have hoff : off + 2 < 10 := by rw [← hlen]; exact (List.getElem?_eq_some_iff.1 k2).1
      unfold hP hC at k0
      rw [List.getElem?_append_left (by rw [kw_len, List.length_append, List.length_take, List.length_replicate, h8.1]; omega), kw, List.getElem?_map] at k0
      cases hz : (M.take i ++ List.replicate (8 - i) 0)[off + 0]? with
      | none => rw [hz] at k0; simp at k0
      | some z => rw [hz] at k0; simp at k0
    have hMi := h8.get i
    have hst := hP_set M R cn i h8.1 hi
    have hlP := hP_len M R cn i h8.1 (by omega)
    obtain ⟨x, hxd⟩ : ∃ x, M.getD i 0 = x := ⟨_, rfl⟩
    rw [hxd] at c1 hMi hst
    have hMi : x < 4294967296 := hMi
    refine ⟨i, ⟨by first | rfl | omega, by rw [hlM]; omega⟩, ?_⟩
    conv => whnf
    refine ⟨_, _, run_ld TTok rfl (by rw [addM_eq, Nat.mul_one]; exact c1), ?_⟩
    conv => whnf
    rw [show ((x : Nat) : Int) % 4294967296 = ((x : Nat) : Int) by omega]
    refine ⟨i, ⟨by first | rfl | omega, by omega⟩, ?_⟩
    conv => whnf
    have hp1 := hp.only
    refine hp1.kst1 (off := i) TTok (by rfl) 0 (by rfl) (by rfl) (by rfl) (by omega) fun w2 hp2 => ?_
    simp only [List.set_cons_zero] at hp2
    have hp2 : HpM [q8] w w2 [blk q8 ((hP M R cn i).set i (.int .u32 ((x : Nat) : Int))) 27] := hp2
    rw [hst] at hp2
    conv => whnf
    refine hKq _ _ _ (V.Sub.refl _) ?_
    clear hKq Kq
    conv => whnf
    refine And.intro (by omega) ?_
    conv => whnf
    exact ⟨mm - 1, _, by omega, ⟨i + 1, by omega, rfl, hv.step1 hp2.extM hne, hp.step1 hp2⟩, sub_cons rfl (sub_cons rfl (sub_cons rfl (sub_cons rfl sub_nil)))⟩
  · have hlt := of_decide_eq_false hlt
    conv => whnf
    clear hKq Kq
    refine hKq _ _ _ (V.Sub.refl _) ?_
    clear hKq Kq
    conv => whnf
    refine VSeq.mk fun Kq hKq => ?_
    conv => whnf
    obtain rfl : i = 8 := by omega
    have he : hP M R cn 8 = hC M R cn := by
      unfold hP
      rw [List.take_of_length_le (by rw [h8.1]; exact Nat.le_refl _), Nat.sub_self]
      rw [List.replicate_zero, List.append_nil]
    rw [he] at hp
    refine ⟨_, _, Blk.ldN (hp.get (i := 0) rfl) TTok rfl (by rw [hC_len, h8.1]), ?_⟩
    conv => whnf
    refine hp.kstA TTok rfl 1 rfl (by rw [hC_len, h8.1]) (hC_one _ _ _) (by rfl) fun w hp => ?_
    try simp only [List.set_cons_zero, List.set_cons_succ, EV.val] at hp
    conv => whnf
    refine hKq _ _ _ (V.Sub.refl _) ?_
    clear hKq Kq
    conv => whnf
    rw [hA, hR, hcnd, ← htl, hM]
    exact ⟨_, Blk.lvN (hp.get (i := 1) rfl) TTok rfl (by rw [hC_len, h8.1]), rfl, hp.ext⟩
end Go.Proofs.Ytebmmfeegjgbeaa
