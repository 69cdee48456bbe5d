/- Chapter 27: Cover. -/
import Derived.Test.YtpiilfamfinieaaDoorC27I
import Derived.Test.YtpiilfamfinieaaDoorC27D
import Derived.Test.YtpiilfamfinieaaDoorR2
namespace Go.Proofs.YtpiilfamfinieaaDoor
set_option linter.unusedSimpArgs false
set_option linter.unusedVariables false
open Go.RowKit V
def I64 (a : Int) : Prop := -9223372036854775808 ≤ a ∧ a ≤ 9223372036854775807
theorem Cover_arg {W : World} {v : Value} (r c : Int) (h : ¬ Shp r c) (L : List ByteArray) (hv : SLv W v (sw L)) :
    Calls Tryd.prog 14 #[.int .i64 r, .int .i64 c, v] W fun e w' => e = .returned (.tuple #[.slice none 0 0, .slice none 0 0, .int .i64 2]) ∧ Ext W w' := by
  obtain ⟨p, cc, rfl⟩ := hv.shape
  rw [sw_len] at hv ⊢
  refine v_reads TTok FFok Tryd.func14 rfl rfl ?_
  conv => whnf
  refine VSeq.mk fun Kq hKq => ?_
  conv => whnf
  have hp := Hp.nil W
  refine hp.kbox ([.int .i64 r]) rfl fun rb w hp hx => ?_
  conv => whnf
  refine hp.kbox ([.slice p L.length cc]) rfl fun sb w hp hx => ?_
  conv => whnf
  refine hp.kalloc z22 fun fb w hp hx => ?_
  conv => whnf
  refine hp.kalloc z22 fun gb w hp hx => ?_
  conv => whnf
  refine hKq _ _ _ (V.Sub.refl _) ?_
  clear hKq Kq
  conv => whnf
  refine VSeq.mk fun Kq hKq => ?_
  conv => whnf
  refine ⟨_, _, Blk.ld (hp.get (i := 3) rfl) TTok rfl (rfl), ?_⟩
  conv => whnf
  refine PureF.use (of_no r c h) fun w hx => ?_
  try (have hp := hp.call hx)
  conv => whnf
  refine hp.kalloc z75 fun hb w hp hx => ?_
  conv => whnf
  refine hp.kstA TTok rfl 0 rfl (by rfl) (by simp [Value.oneCell']) (by rfl) fun w hp => ?_
  try simp only [List.set_cons_zero, List.set_cons_succ, EV.val] at hp
  conv => whnf
  refine hKq _ _ _ (V.Sub.refl _) ?_
  clear hKq Kq
  conv => whnf
  refine VSeq.mk fun Kq hKq => ?_
  conv => whnf
  refine VSeq.mk fun Kq hKq => ?_
  conv => whnf
  refine ⟨_, _, Blk.ldN (hp.get (i := 0) rfl) TTok rfl (rfl), ?_⟩
  conv => whnf
  first | refine ⟨.agg #[.int .i64 0, .int .i64 0], w, by kernel_rfl, ?_⟩ | refine ⟨.agg #[.int .i64 0, .int .i64 0], w0, by kernel_rfl, ?_⟩
  conv => whnf
  first | refine ⟨.bool (decide ((0 : Int) = 0 ∧ (0 : Int) = 0)), w, (shape_eq _ (by omega) (by omega) (by omega) (by omega) _ _).1, ?_⟩ | refine ⟨.bool (decide ((0 : Int) = 0 ∧ (0 : Int) = 0)), w0, (shape_eq _ (by omega) (by omega) (by omega) (by omega) _ _).1, ?_⟩
  conv => whnf
  refine hKq _ _ _ (V.Sub.refl _) ?_
  clear hKq Kq
  conv => whnf
  refine And.intro (fun _ => ?_) (fun h => absurd ((by omega : ((0 : Int) = 0 ∧ (0 : Int) = 0))) (of_decide_eq_false h))
  conv => whnf
  refine VSeq.mk fun Kq hKq => ?_
  conv => whnf
  refine hp.kst1 TTok (by rfl) 2 (by rfl) (by rfl) (by rfl) (by simp) fun w hp => ?_
  try simp only [List.set_cons_zero, List.set_cons_succ, EV.val] at hp
  conv => whnf
  refine hp.kst1 TTok (by rfl) 1 (by rfl) (by rfl) (by rfl) (by simp) fun w hp => ?_
  try simp only [List.set_cons_zero, List.set_cons_succ, EV.val] at hp
  conv => whnf
  refine hKq _ _ _ (V.Sub.refl _) ?_
  clear hKq Kq
  conv => whnf
  exact ⟨_, Blk.lv (hp.get (i := 2) rfl) TTok rfl rfl, _, Blk.lv (hp.get (i := 1) rfl) TTok rfl rfl, rfl, hp.ext⟩
theorem Cover_grid {W : World} {v : Value} (r c : Nat) (h : Shp r c) (L : List ByteArray) (hv : SLv W v (sw L)) (hb : blockB (r * c) L = false) :
    Calls Tryd.prog 14 #[.int .i64 r, .int .i64 c, v] W fun e w' => e = .returned (.tuple #[.slice none 0 0, .slice none 0 0, .int .i64 270]) ∧ Ext W w' := by
  have h' := h
  obtain ⟨h1, h2, h3, h4⟩ := h'
  have hbc := fun w => @block_c w v r c h L
  rw [hb] at hbc
  obtain ⟨p, cc, rfl⟩ := hv.shape
  rw [sw_len] at hv hbc ⊢
  refine v_reads TTok FFok Tryd.func14 rfl rfl ?_
  conv => whnf
  refine VSeq.mk fun Kq hKq => ?_
  conv => whnf
  have hp := Hp.nil W
  refine hp.kbox ([.int .i64 r]) rfl fun rb w hp hx => ?_
  conv => whnf
  refine hp.kbox ([.slice p L.length cc]) rfl fun sb w hp hx => ?_
  conv => whnf
  refine hp.kalloc z22 fun fb w hp hx => ?_
  conv => whnf
  refine hp.kalloc z22 fun gb w hp hx => ?_
  conv => whnf
  refine hKq _ _ _ (V.Sub.refl _) ?_
  clear hKq Kq
  conv => whnf
  refine VSeq.mk fun Kq hKq => ?_
  conv => whnf
  refine ⟨_, _, Blk.ld (hp.get (i := 3) rfl) TTok rfl (rfl), ?_⟩
  conv => whnf
  refine PureF.use (of_ok r c h) fun w hx => ?_
  try (have hp := hp.call hx)
  conv => whnf
  refine hp.kalloc z75 fun hb w hp hx => ?_
  conv => whnf
  refine hp.kstA TTok rfl 0 rfl (by rfl) (by simp [Value.oneCell']) (by rfl) fun w hp => ?_
  try simp only [List.set_cons_zero, List.set_cons_succ, EV.val] at hp
  conv => whnf
  refine hKq _ _ _ (V.Sub.refl _) ?_
  clear hKq Kq
  conv => whnf
  refine VSeq.mk fun Kq hKq => ?_
  conv => whnf
  refine VSeq.mk fun Kq hKq => ?_
  conv => whnf
  refine ⟨_, _, Blk.ldN (hp.get (i := 0) rfl) TTok rfl (rfl), ?_⟩
  conv => whnf
  first | refine ⟨.agg #[.int .i64 0, .int .i64 0], w, by kernel_rfl, ?_⟩ | refine ⟨.agg #[.int .i64 0, .int .i64 0], w0, by kernel_rfl, ?_⟩
  conv => whnf
  first | refine ⟨.bool (decide ((r : Int) = 0 ∧ (c : Int) = 0)), w, (shape_eq _ (by omega) (by omega) (by omega) (by omega) _ _).1, ?_⟩ | refine ⟨.bool (decide ((r : Int) = 0 ∧ (c : Int) = 0)), w0, (shape_eq _ (by omega) (by omega) (by omega) (by omega) _ _).1, ?_⟩
  conv => whnf
  refine hKq _ _ _ (V.Sub.refl _) ?_
  clear hKq Kq
  conv => whnf
  refine And.intro (fun h => absurd (of_decide_eq_true h) ((by omega : ¬ ((r : Int) = 0 ∧ (c : Int) = 0)))) (fun _ => ?_)
  conv => whnf
  refine hKq _ _ _ (V.Sub.refl _) ?_
  clear hKq Kq
  conv => whnf
  refine VSeq.mk fun Kq hKq => ?_
  conv => whnf
  refine VSeq.mk fun Kq hKq => ?_
  conv => whnf
  refine ⟨_, _, Blk.ldN (hp.get (i := 0) rfl) TTok rfl (rfl), ?_⟩
  conv => whnf
  refine ⟨_, _, Blk.ld (hp.get (i := 3) rfl) TTok rfl (rfl), ?_⟩
  conv => whnf
  refine V.CallsUse (hbc _ (hv.ext hp.ext)) fun w hx => ?_
  try (have hp := hp.call hx)
  conv => whnf
  refine hKq _ _ _ (V.Sub.refl _) ?_
  clear hKq Kq
  conv => whnf
  refine And.intro (fun _ => ?_) (fun h => by cases h)
  conv => whnf
  refine VSeq.mk fun Kq hKq => ?_
  conv => whnf
  refine hp.kst1 TTok (by rfl) 2 (by rfl) (by rfl) (by rfl) (by simp) fun w hp => ?_
  try simp only [List.set_cons_zero, List.set_cons_succ, EV.val] at hp
  conv => whnf
  refine hp.kst1 TTok (by rfl) 1 (by rfl) (by rfl) (by rfl) (by simp) fun w hp => ?_
  try simp only [List.set_cons_zero, List.set_cons_succ, EV.val] at hp
  conv => whnf
  refine hKq _ _ _ (V.Sub.refl _) ?_
  clear hKq Kq
  conv => whnf
  exact ⟨_, Blk.lv (hp.get (i := 2) rfl) TTok rfl rfl, _, Blk.lv (hp.get (i := 1) rfl) TTok rfl rfl, rfl, hp.ext⟩
theorem coversB_get (r c k : Nat) (L : List ByteArray) (h : k < r + c) : (coversB r c L)[k]? = some (coverB r c k L) := by
  rw [coversB, List.getElem?_map, List.getElem?_range h]; rfl
theorem coversB_len (r c : Nat) (L : List ByteArray) : (coversB r c L).length = r + c := by simp [coversB]
set_option maxHeartbeats 4000000 in
theorem Cover_c {W : World} {v : Value} (r c : Nat) (h : Shp r c) (L : List ByteArray) (hv : SLv W v (sw L)) (hb : blockB (r * c) L = true) :
    Calls Tryd.prog 14 #[.int .i64 r, .int .i64 c, v] W fun e w' => ∃ u, e = .returned u ∧ ∃ v1 v2, u = .tuple #[v1, v2, .int .i64 0] ∧
      HpM [] W w' [row 9 1 v1 r (sw ((coversB r c L).take r)), row 9 1 v2 c (sw ((coversB r c L).drop r))] := by
  have h' := h
  obtain ⟨h1, h2, h3, h4⟩ := h'
  have hrc : r * c ≤ 6 * 8 := Nat.mul_le_mul (by omega) (by omega)
  have hbc := fun w => @block_c w v r c h L
  rw [hb] at hbc
  have hL : L.length = r * c := by unfold blockB at hb; rw [Bool.and_eq_true, decide_eq_true_iff] at hb; exact hb.1
  have hLb : ∀ x ∈ L, x.size ≤ 1100 := fun x hx => by
    unfold blockB at hb
    rw [Bool.and_eq_true, Bool.not_eq_true', List.any_eq_false] at hb
    have := hb.2 x hx
    unfold big at this; simp at this; omega
  obtain ⟨p, cc, rfl⟩ := hv.shape
  rw [sw_len] at hv hbc ⊢
  refine v_fn (args := [.int .i64 r, .int .i64 c, .slice p L.length cc]) TTok FFok Tryd.func14 rfl (Nat.le_of_ble_eq_true rfl) ?_
  have hp := Hp.nil W
  conv => whnf
  refine VSeq.mk fun Kq hKq => ?_
  conv => whnf
  refine hp.kbox ([.int .i64 r]) rfl fun rb w hp hx => ?_
  conv => whnf
  refine hp.kbox ([.slice p L.length cc]) rfl fun sb w hp hx => ?_
  conv => whnf
  refine hp.kalloc z22 fun fb w hp hx => ?_
  conv => whnf
  refine hp.kalloc z22 fun gb w hp hx => ?_
  conv => whnf
  refine hKq _ _ _ (V.Sub.refl _) ?_
  clear hKq Kq
  conv => whnf
  refine VSeq.mk fun Kq hKq => ?_
  conv => whnf
  refine ⟨_, _, Blk.ld (hp.get (i := 3) rfl) TTok rfl (rfl), ?_⟩
  conv => whnf
  refine PureF.use (of_ok r c h) fun w hx => ?_
  try (have hp := hp.call hx)
  conv => whnf
  refine hp.kalloc z75 fun qb w hp hx => ?_
  conv => whnf
  refine hp.kstA TTok rfl 0 rfl (by rfl) (by simp [Value.oneCell']) (by rfl) fun w hp => ?_
  try simp only [List.set_cons_zero, List.set_cons_succ, EV.val] at hp
  conv => whnf
  refine hKq _ _ _ (V.Sub.refl _) ?_
  clear hKq Kq
  conv => whnf
  refine VSeq.mk fun Kq hKq => ?_
  conv => whnf
  refine VSeq.mk fun Kq hKq => ?_
  conv => whnf
  refine ⟨_, _, Blk.ldN (hp.get (i := 0) rfl) TTok rfl (rfl), ?_⟩
  conv => whnf
  first | refine ⟨.agg #[.int .i64 0, .int .i64 0], w, by kernel_rfl, ?_⟩ | refine ⟨.agg #[.int .i64 0, .int .i64 0], w0, by kernel_rfl, ?_⟩
  conv => whnf
  first | refine ⟨.bool (decide ((r : Int) = 0 ∧ (c : Int) = 0)), w, (shape_eq _ (by omega) (by omega) (by omega) (by omega) _ _).1, ?_⟩ | refine ⟨.bool (decide ((r : Int) = 0 ∧ (c : Int) = 0)), w0, (shape_eq _ (by omega) (by omega) (by omega) (by omega) _ _).1, ?_⟩
  conv => whnf
  refine hKq _ _ _ (V.Sub.refl _) ?_
  clear hKq Kq
  conv => whnf
  refine And.intro (fun h => absurd (of_decide_eq_true h) ((by omega : ¬ ((r : Int) = 0 ∧ (c : Int) = 0)))) (fun _ => ?_)
  conv => whnf
  refine hKq _ _ _ (V.Sub.refl _) ?_
  clear hKq Kq
  conv => whnf
  refine VSeq.mk fun Kq hKq => ?_
  conv => whnf
  refine VSeq.mk fun Kq hKq => ?_
  conv => whnf
  refine ⟨_, _, Blk.ldN (hp.get (i := 0) rfl) TTok rfl (rfl), ?_⟩
  conv => whnf
  refine ⟨_, _, Blk.ld (hp.get (i := 3) rfl) TTok rfl (rfl), ?_⟩
  conv => whnf
  refine V.CallsUse (hbc _ (hv.ext hp.ext)) fun w hx => ?_
  try (have hp := hp.call hx)
  conv => whnf
  refine hKq _ _ _ (V.Sub.refl _) ?_
  clear hKq Kq
  conv => whnf
  refine And.intro (fun h => by cases h) (fun _ => ?_)
  conv => whnf
  refine hKq _ _ _ (V.Sub.refl _) ?_
  clear hKq Kq
  conv => whnf
  refine VSeq.mk fun Kq hKq => ?_
  conv => whnf
  refine VSeq.mk fun Kq hKq => ?_
  conv => whnf
  refine ⟨_, _, Blk.ldN (hp.get (i := 0) rfl) TTok rfl (rfl), ?_⟩
  conv => whnf
  refine Calls.mono (lines_c hp r c) ?_
  rintro _ w ⟨v', rfl, bw, rfl, hp, hx⟩
  refine ⟨_, rfl, ?_⟩
  conv => whnf
  refine hKq _ _ _ (V.Sub.refl _) ?_
  clear hKq Kq
  conv => whnf
  clear hx
  have hp := (hp.knil 9 1).knil 9 1
  have hp : HpM [] W w ([row 9 1 (.slice none 0 0) (min 0 r) (sw ((coversB r c L).take (min 0 r))), row 9 1 (.slice none 0 0) (0 - r) (sw (((coversB r c L).take 0).drop r)), blk fb [.slice none 0 0] 22, blk gb [.slice none 0 0] 22, blk sb [.slice p L.length cc] 22, blk rb [.int .i64 r] 3] ++ [blk bw [.int .i64 (r : Nat), .int .i64 (c : Nat)] 75]) := by
    simp only [Nat.zero_min, Nat.zero_sub, List.take_zero, List.drop_nil]
    exact hp.pick [0, 1, 5, 4, 6, 7, 2] (by decide)
  refine v_rangeG TTok FFok (lines_iter r c h bw) rfl rfl (by kernel_rfl) [(3, .v (.pointer (some ⟨rb, 0, none⟩))), (5, .v (.pointer (some ⟨sb, 0, none⟩))), (6, .v (.pointer (some ⟨fb, 0, none⟩))), (7, .v (.pointer (some ⟨gb, 0, none⟩)))]
    (subL_cons rfl (subL_cons rfl (subL_cons rfl (subL_cons rfl (fun _ _ h => by cases h))))) rfl (fun _ => rfl)
    (fun k X A => k ≤ r + c ∧ ∃ v1 v2, HpM [] W A ([row 9 1 v1 (min k r) (sw ((coversB r c L).take (min k r))), row 9 1 v2 (k - r) (sw (((coversB r c L).take k).drop r)), blk fb [v1] 22, blk gb [v2] 22, blk sb [.slice p L.length cc] 22, blk rb [.int .i64 r] 3] ++ X))
    (fun _ X A => False)
    (fun t => ⟨fun X A h x hx => by obtain ⟨_, _, _, h⟩ := h; exact h.holds x (by simp [hx]), fun X X' A B r h => by obtain ⟨h0, v1, v2, h⟩ := h; exact ⟨h0, v1, v2, h.reframe r⟩⟩)
    (fun e => ⟨fun X A h => h.elim, fun X X' A B r h => h⟩)
    (fun t X A h => by omega) [blk bw [.int .i64 (r : Nat), .int .i64 (c : Nat)] 75] (hp.sub (List.sublist_append_right _ _)) rfl
    (fun B hx => (hp.get (i := 6) rfl : Blk _ _ _ _).ext hx) ⟨Nat.zero_le _, _, _, hp⟩ ?_ ?_ (fun _ _ _ h => h.elim) (fun _ _ _ _ h => h.elim) (fun _ _ _ _ h => h.elim)
  · clear hp
    repeat clear hp
    rintro k X A ⟨hk, v1, v2, hp⟩ htot
    have hk : k < r + c := by have : k ≠ r + c := htot; omega
    conv => whnf
    refine VSeq.mk fun Kq hKq => ?_
    conv => whnf
    refine hKq _ _ _ (V.Sub.refl _) ?_
    clear hKq Kq
    conv => whnf
    refine ⟨fun x hx => hp.holds x (by simp [hx]), fun X' B' rr => ?_⟩
    have hp := hp.reframe rr
    clear rr
    conv => whnf
    refine VSeq.mk fun Kq hKq => ?_
    conv => whnf
    refine hKq _ _ _ (V.Sub.refl _) ?_
    clear hKq Kq
    conv => whnf
    refine VSeq.mk fun Kq hKq => ?_
    conv => whnf
    refine VSeq.mk fun Kq hKq => ?_
    conv => whnf
    refine ⟨_, _, Blk.ld (hp.get (i := 4) rfl) TTok rfl (rfl), ?_⟩
    conv => whnf
    refine hKq _ _ _ (V.Sub.refl _) ?_
    clear hKq Kq
    conv => whnf
    have hp := hp.knilO 5
    refine ⟨fun m l w => ∃ (i : Nat) (bv : Value), m + i = L.length ∧ l = [(3, .v (.pointer (some ⟨rb, 0, none⟩))), (5, .v (.pointer (some ⟨sb, 0, none⟩))), (6, .v (.pointer (some ⟨fb, 0, none⟩))), (7, .v (.pointer (some ⟨gb, 0, none⟩))), (10, .v (.int .i64 k)), (11, .v (.int .u64 (lineS r c k : Nat))), (12, .v bv), (29, .v (.slice p L.length cc)), (30, .v (.int .i64 L.length)), (31, .v (.int .i64 i))] ∧
        HpM [] W w (ob 5 bv (bytesV (covN r c k (-1) L i)) :: ([row 9 1 v1 (min k r) (sw ((coversB r c L).take (min k r))), row 9 1 v2 (k - r) (sw (((coversB r c L).take k).drop r)), blk fb [v1] 22, blk gb [v2] 22, blk sb [.slice p L.length cc] 22, blk rb [.int .i64 r] 3] ++ X')),
      ⟨L.length, _, ⟨0, _, rfl, rfl, hp⟩, sub_cons rfl (sub_cons rfl (sub_cons rfl (sub_cons rfl (sub_cons rfl (sub_cons rfl (sub_cons rfl (sub_cons rfl (sub_cons rfl (sub_cons rfl sub_nil)))))))))⟩, ?_⟩
    clear hp
    repeat clear hp
    rintro m _ w ⟨i, bv, hm, rfl, hp⟩
    conv => whnf
    refine VSeq.mk fun Kq hKq => ?_
    conv => whnf
    refine hKq _ _ _ (V.Sub.refl _) ?_
    clear hKq Kq
    conv => whnf
    refine VSeq.mk fun Kq hKq => ?_
    conv => whnf
    refine ⟨fun hlt => ?_, fun hlt => ?_⟩
    · have hlt := of_decide_eq_true hlt
      conv => whnf
      refine hKq _ _ _ (V.Sub.refl _) ?_
      clear hKq Kq
      conv => whnf
      refine VSeq.mk fun Kq hKq => ?_
      conv => whnf
      refine VSeq.mk fun Kq hKq => ?_
      conv => whnf
      have hi : i < L.length := by omega
      have hxi : L[i]? = some L[i] := List.getElem?_eq_getElem hi
      have hxb := hLb _ (List.getElem_mem hi)
      have hcs : covN r c k (-1) L (i + 1) = if onL r c k i = true then px (covN r c k (-1) L i) (formL (L[i]).data.toList) else covN r c k (-1) L i := by
        rw [covN, List.getD_eq_getElem?_getD, hxi]
        have : decide ((i : Int) ≠ -1) = true := by simp
        rw [this, Bool.and_true]; rfl
      generalize L[i] = x at hxi hxb hcs
      obtain ⟨g, off, rfl, hcell⟩ := hv.at (sw_get hxi)
      refine ⟨i, ⟨by first | rfl | omega, by omega⟩, ?_⟩
      conv => whnf
      refine ⟨_, _, run_ld TTok rfl (by rw [addM_eq, Nat.mul_one]; exact Ext.cell hp.ext hcell), ?_⟩
      conv => whnf
      refine hKq _ _ _ (V.Sub.refl _) ?_
      clear hKq Kq
      conv => whnf
      refine VSeq.mk fun Kq hKq => ?_
      conv => whnf
      refine ⟨i, ⟨by first | rfl | omega, by omega⟩, ?_⟩
      conv => whnf
      rw [shr_cast]
      have hl48 := lineS_lt48 r c k h hk
      have hkd : lineS r c k / 2 ^ i < 18446744073709551616 := Nat.lt_of_le_of_lt (Nat.div_le_self _ _) (by omega)
      refine ⟨lineS r c k / 2 ^ i, 1, lineS r c k / 2 ^ i % 2, ⟨by first | rfl | omega, by first | rfl | omega, by omega, by omega⟩, by (dsimp only; exact Nat.and_one_is_mod _), ?_⟩
      conv => whnf
      refine hKq _ _ _ (V.Sub.refl _) ?_
      clear hKq Kq
      conv => whnf
      have hbit : (lineS r c k / 2 ^ i % 2 = 1) ↔ onL r c k i = true := by
        rw [div_bit, lineS_bit r c k i (by omega) hk, decide_eq_true (by omega : i < r * c), Bool.and_true]; split <;> simp [*]
      refine ⟨fun hb1 => ?_, fun hb1 => ?_⟩
      · have hb1 := of_decide_eq_true hb1
        conv => whnf
        rw [if_pos (hbit.1 (by omega))] at hcs
        refine TakesF.use (mix_t bv (covN r c k (-1) L i) x (by have := covN_len r c k (-1) L 1100 hLb i; omega) (by omega)) hp 0 rfl fun bv' w hp => ?_
        simp only [List.set_cons_zero] at hp
        rw [← hcs] at hp
        conv => whnf
        refine hKq _ _ _ (V.Sub.refl _) ?_
        clear hKq Kq
        conv => whnf
        refine And.intro (by omega) ?_
        conv => whnf
        exact ⟨m - 1, _, by omega, ⟨i + 1, bv', by omega, rfl, hp⟩, sub_cons rfl (sub_cons rfl (sub_cons rfl (sub_cons rfl (sub_cons rfl (sub_cons rfl (sub_cons rfl (sub_cons rfl (sub_cons rfl (sub_cons rfl sub_nil)))))))))⟩
      · have hb1 := of_decide_eq_false hb1
        conv => whnf
        refine hKq _ _ _ (V.Sub.refl _) ?_
        clear hKq Kq
        conv => whnf
        refine And.intro (by omega) ?_
        conv => whnf
        rw [if_neg (mt hbit.2 (by omega))] at hcs
        rw [← hcs] at hp
        exact ⟨m - 1, _, by omega, ⟨i + 1, bv, by omega, rfl, hp⟩, sub_cons rfl (sub_cons rfl (sub_cons rfl (sub_cons rfl (sub_cons rfl (sub_cons rfl (sub_cons rfl (sub_cons rfl (sub_cons rfl (sub_cons rfl sub_nil)))))))))⟩
    · have hlt := of_decide_eq_false hlt
      conv => whnf
      clear hKq Kq
      refine hKq _ _ _ (V.Sub.refl _) ?_
      clear hKq Kq
      conv => whnf
      refine VSeq.mk fun Kq hKq => ?_
      conv => whnf
      obtain rfl : i = L.length := by omega
      have hsn := take_snoc (coversB_get r c k L hk)
      have hcl := coversB_len r c L
      have hcb : coverB r c k L = ⟨(covN r c k (-1) L L.length).toArray⟩ := rfl
      obtain ⟨p1, c1, rfl⟩ := row_shape (hp.get (i := 1) rfl)
      obtain ⟨p2, c2, rfl⟩ := row_shape (hp.get (i := 2) rfl)
      simp only [List.cons_append, List.nil_append] at hp ⊢
      refine ⟨_, _, Blk.ld (hp.get (i := 6) rfl) TTok rfl (rfl), ?_⟩
      conv => whnf
      refine hKq _ _ _ (V.Sub.refl _) ?_
      clear hKq Kq
      conv => whnf
      refine ⟨fun hkr => ?_, fun hkr => ?_⟩
      · have hkr := of_decide_eq_true hkr
        conv => whnf
        refine ⟨_, _, Blk.ld (hp.get (i := 3) rfl) TTok rfl (rfl), ?_⟩
        conv => whnf
        refine ⟨_, _, (OB.str (hp.get (i := 0) rfl) TTok rfl rfl rfl), ?_⟩
        conv => whnf
        rw [← hcb]
        refine hp.kmade ([.string (coverB r c k L)]) 9 (fun b => .slice (some ⟨b, 0, none⟩) 1 1) (by kernel_rfl) fun tb w hp hx => ?_
        conv => whnf
        refine hp.kapp sl22 2 rfl (Blk.src TTok (hp.get (i := 0) rfl) rfl rfl (by intro u hu; simp at hu; subst hu; rfl)) (by omega) (by unfold maxLen; omega) fun v3 w hp => ?_
        simp only [List.set_cons_zero, List.set_cons_succ] at hp
        have hp := hp.tail.tail
        obtain ⟨p3, c3, rfl⟩ := row_shape (hp.get (i := 0) rfl)
        conv => whnf
        refine hp.kst1 TTok (by rfl) 2 (by rfl) (by rfl) (by rfl) (by simp) fun w hp => ?_
        try simp only [List.set_cons_zero, List.set_cons_succ, EV.val] at hp
        conv => whnf
        refine And.intro (by omega) ?_
        conv => whnf
        refine ⟨.slice p3 (k + 1) c3, .slice p2 (k - r) c2, ?_⟩
        rw [show min (k + 1) r = k + 1 by omega, show k + 1 - r = k - r by omega, hsn, List.drop_eq_nil_of_le (by rw [List.length_append, List.length_take]; simp; omega)]
        rw [show min k r = k by omega, List.drop_eq_nil_of_le (by rw [List.length_take]; omega)] at hp
        rw [sw_app]
        exact hp
      · have hkr := of_decide_eq_false hkr
        conv => whnf
        refine ⟨_, _, Blk.ld (hp.get (i := 4) rfl) TTok rfl (rfl), ?_⟩
        conv => whnf
        refine ⟨_, _, (OB.str (hp.get (i := 0) rfl) TTok rfl rfl rfl), ?_⟩
        conv => whnf
        rw [← hcb]
        refine hp.kmade ([.string (coverB r c k L)]) 9 (fun b => .slice (some ⟨b, 0, none⟩) 1 1) (by kernel_rfl) fun tb w hp hx => ?_
        conv => whnf
        refine hp.kapp sl22 3 rfl (Blk.src TTok (hp.get (i := 0) rfl) rfl rfl (by intro u hu; simp at hu; subst hu; rfl)) (by omega) (by unfold maxLen; omega) fun v3 w hp => ?_
        simp only [List.set_cons_zero, List.set_cons_succ] at hp
        have hp := hp.tail.tail
        obtain ⟨p3, c3, rfl⟩ := row_shape (hp.get (i := 1) rfl)
        conv => whnf
        refine hp.kst1 TTok (by rfl) 3 (by rfl) (by rfl) (by rfl) (by simp) fun w hp => ?_
        try simp only [List.set_cons_zero, List.set_cons_succ, EV.val] at hp
        conv => whnf
        refine And.intro (by omega) ?_
        conv => whnf
        refine ⟨.slice p1 (min k r) c1, .slice p3 (k - r + 1) c3, ?_⟩
        rw [show min (k + 1) r = min k r by omega, show k + 1 - r = k - r + 1 by omega, hsn, List.drop_append_of_le_length (by rw [List.length_take]; omega), sw_app]
        exact hp
  · rintro D k X W' hk ⟨_, v1, v2, hp⟩
    have hk : k = r + c := hk
    subst hk
    have hcl := coversB_len r c L
    rw [show min (r + c) r = r by omega, show r + c - r = c by omega, List.take_of_length_le (i := r + c) (by omega)] at hp
    obtain ⟨p1, c1, rfl⟩ := row_shape (hp.get (i := 0) rfl)
    obtain ⟨p2, c2, rfl⟩ := row_shape (hp.get (i := 1) rfl)
    conv => whnf
    refine hKq _ _ _ (V.Sub.refl _) ?_
    clear hKq Kq
    conv => whnf
    refine VSeq.mk fun Kq hKq => ?_
    conv => whnf
    simp only [List.cons_append, List.nil_append] at hp
    refine v_mix TTok FFok mixed 3 [(0, false), (1, false), (2, true)] (by kernel_rfl) ?_
    conv => whnf
    refine ⟨_, fun w' hx' => Blk.ld (Blk.ext (hp.get (i := 2) rfl) hx') TTok rfl (rfl), ?_⟩
    conv => whnf
    refine ⟨_, fun w' hx' => Blk.ld (Blk.ext (hp.get (i := 3) rfl) hx') TTok rfl (rfl), ?_⟩
    conv => whnf
    intro w hx
    try (have hp := hp.call hx)
    conv => whnf
    have hsame := Blk.stSame (t := 22) (off := 0) (v := .slice p1 r c1) (hp.get (i := 2) rfl : Blk _ _ _ _) TTok rfl rfl rfl rfl
    refine ⟨_, _, hsame, ?_⟩
    conv => whnf
    refine And.intro (Ext.refl _) ?_
    intro w hx
    try (have hp := hp.call hx)
    conv => whnf
    refine hp.kst1 TTok (by rfl) 3 (by rfl) (by rfl) (by rfl) (by simp) fun w hp => ?_
    try simp only [List.set_cons_zero, List.set_cons_succ, EV.val] at hp
    conv => whnf
    refine hKq _ _ _ (V.Sub.refl _) ?_
    clear hKq Kq
    conv => whnf
    refine ⟨hp.get (i := 6) rfl, ?_⟩
    have hp := hp.shut (i := 6) rfl (o' := .deferred none)
    simp only [List.set_cons_zero, List.set_cons_succ] at hp
    conv => whnf
    exact ⟨_, Blk.lv (hp.get (i := 2) rfl) TTok rfl rfl, _, Blk.lv (hp.get (i := 3) rfl) TTok rfl rfl, _, _, rfl, hp.pick [0, 1] (by decide)⟩
end Go.Proofs.YtpiilfamfinieaaDoor
