/- Chapter 27: few strings; lists of steps compared. -/
import Derived.Test.YtpiilfamfinieaaDoorC27Y
namespace Go.Proofs.YtpiilfamfinieaaDoor
set_option linter.unusedSimpArgs false
set_option linter.unusedVariables false
open Go.RowKit V
def fewL (D : List ByteArray) : List ByteArray := (D.take 50).map fun s => cutn s 1200
theorem fewL_len (D : List ByteArray) : (fewL D).length = min 50 D.length := by simp [fewL]
theorem few_c {W : World} {v : Value} (D : List ByteArray) (hv : SLv W v (sw D)) :
    Calls Tryd.prog 13 #[v] W fun e w' => ∃ u, e = .returned u ∧ ∃ v', u = v' ∧ HpM [] W w' [row 9 1 v' (fewL D).length (sw (fewL D))] := by
  obtain ⟨v4, hr4, hs4⟩ := SLv.hi TTok (t := 22) rfl rfl hv (min D.length 50) (by rw [sw_len]; omega)
  obtain ⟨p, c, rfl⟩ := hv.shape
  obtain ⟨p4, c4, rfl⟩ := hs4.shape
  have hfl := fewL_len D
  have hl4 : ((sw D).take (min D.length 50)).length = (fewL D).length := by rw [List.length_take, sw_len, hfl]; omega
  have hg4 : ∀ i, i < (fewL D).length → ∃ x, ((sw D).take (min D.length 50))[i]? = some (.string x) ∧ (fewL D)[i]? = some (cutn x 1200) := fun i hi => by
    have hd : D[i]? = some (D[i]'(by omega)) := List.getElem?_eq_getElem (by omega)
    refine ⟨D[i]'(by omega), ?_, ?_⟩
    · rw [List.getElem?_take, if_pos (by omega)]; exact sw_get hd
    · rw [fewL, List.getElem?_map, List.getElem?_take, if_pos (by omega), hd]; rfl
  rw [hl4] at hr4 hs4
  rw [sw_len] at hv hr4 ⊢
  refine v_fn (args := [.slice p D.length c]) TTok FFok Tryd.func13 rfl (Nat.le_of_ble_eq_true rfl) ?_
  have hp := (Hp.nil W).knil 9 1
  conv => whnf
  refine VSeq.mk fun Kq hKq => ?_
  conv => whnf
  refine hKq _ _ _ (V.Sub.refl _) ?_
  clear hKq Kq
  conv => whnf
  refine VSeq.mk fun Kq hKq => ?_
  conv => whnf
  refine hKq _ _ _ (V.Sub.refl _) ?_
  clear hKq Kq
  conv => whnf
  refine VSeq.mk fun Kq hKq => ?_
  conv => whnf
  refine VSeq.mk fun Kq hKq => ?_
  conv => whnf
  rw [show (min (D.length : Int) 50) = ((min D.length 50 : Nat) : Int) by omega]
  refine ⟨_, _, hr4 _ _, ?_⟩
  conv => whnf
  refine hKq _ _ _ (V.Sub.refl _) ?_
  clear hKq Kq
  conv => whnf
  refine ⟨fun m e w => ∃ (i : Nat) (u : Value), m + i = (fewL D).length ∧ e = [(3, .v u), (10, .v (.slice p4 (fewL D).length c4)), (11, .v (.int .i64 (fewL D).length)), (12, .v (.int .i64 i))] ∧
      HpM [] W w [row 9 1 u i (sw ((fewL D).take i))],
    ⟨(fewL D).length, _, ⟨0, _, rfl, rfl, hp⟩, sub_cons rfl (sub_cons rfl (sub_cons rfl (sub_cons rfl sub_nil)))⟩, ?_⟩
  clear hp
  repeat clear hp
  rintro m _ w ⟨i, u, hm, rfl, hp⟩
  conv => whnf
  refine VSeq.mk fun Kq hKq => ?_
  conv => whnf
  refine hKq _ _ _ (V.Sub.refl _) ?_
  clear hKq Kq
  conv => whnf
  refine VSeq.mk fun Kq hKq => ?_
  conv => whnf
  refine ⟨fun hlt => ?_, fun hlt => ?_⟩
  · have hlt := of_decide_eq_true hlt
    conv => whnf
    refine hKq _ _ _ (V.Sub.refl _) ?_
    clear hKq Kq
    conv => whnf
    refine VSeq.mk fun Kq hKq => ?_
    conv => whnf
    refine VSeq.mk fun Kq hKq => ?_
    conv => whnf
    have hi : i < (fewL D).length := by omega
    obtain ⟨x, hx1, hx2⟩ := hg4 i hi
    have hsn := take_snoc hx2
    obtain ⟨g, off, rfl, hcell⟩ := hs4.at hx1
    refine ⟨i, ⟨by first | rfl | omega, by omega⟩, ?_⟩
    conv => whnf
    refine ⟨_, _, run_ld TTok rfl (by rw [addM_eq, Nat.mul_one]; exact Ext.cell hp.ext hcell), ?_⟩
    conv => whnf
    refine hKq _ _ _ (V.Sub.refl _) ?_
    clear hKq Kq
    conv => whnf
    rw [show (min (x.size : Int) 1200) = ((min x.size 1200 : Nat) : Int) by omega]
    refine ⟨min x.size 1200, ⟨by first | rfl | omega, by omega⟩, ?_⟩
    conv => whnf
    rw [show x.extract 0 (min x.size 1200) = cutn x 1200 from rfl]
    refine hp.kmade ([.string (cutn x 1200)]) 9 (fun b => .slice (some ⟨b, 0, none⟩) 1 1) (by kernel_rfl) fun tb w hp hx => ?_
    conv => whnf
    refine hp.kapp sl22 1 rfl (Blk.src TTok (hp.get (i := 0) rfl) rfl rfl (by intro u hu; simp at hu; subst hu; rfl)) (by omega) (by unfold maxLen; omega) fun v3 w hp => ?_
    simp only [List.set_cons_zero, List.set_cons_succ] at hp
    have hp := hp.tail
    change HpM [] W w (row 9 1 v3 (i + 1) (sw ((fewL D).take i) ++ sw [cutn x 1200]) :: _) at hp
    rw [← sw_app, ← hsn] at hp
    conv => whnf
    refine hKq _ _ _ (V.Sub.refl _) ?_
    clear hKq Kq
    conv => whnf
    refine And.intro (by omega) ?_
    conv => whnf
    exact ⟨m - 1, _, by omega, ⟨i + 1, v3, by omega, rfl, hp⟩, sub_cons rfl (sub_cons rfl (sub_cons rfl (sub_cons rfl sub_nil)))⟩
  · have hlt := of_decide_eq_false hlt
    conv => whnf
    clear hKq Kq
    refine hKq _ _ _ (V.Sub.refl _) ?_
    clear hKq Kq
    conv => whnf
    refine VSeq.mk fun Kq hKq => ?_
    conv => whnf
    refine hKq _ _ _ (V.Sub.refl _) ?_
    clear hKq Kq
    conv => whnf
    obtain rfl : i = (fewL D).length := by omega
    rw [List.take_of_length_le (Nat.le_refl _)] at hp
    exact ⟨u, rfl, hp⟩
theorem pair_ok : cmpOk Tryd.prog 55 2 shS = true := by kernel_rfl
theorem pair_ne (w : World) {a b c d : Int} (ha : -9223372036854775808 ≤ a ∧ a ≤ 9223372036854775807) (hb : -9223372036854775808 ≤ b ∧ b ≤ 9223372036854775807) (hc : -9223372036854775808 ≤ c ∧ c ≤ 9223372036854775807) (hd : -9223372036854775808 ≤ d ∧ d ≤ 9223372036854775807) (xo yo : Operand) :
    (do eqGuard .neq 55 xo yo (.agg #[.int .i64 a, .int .i64 b]) (.agg #[.int .i64 c, .int .i64 d]); binOp .neq 55 (.agg #[.int .i64 a, .int .i64 b]) (.agg #[.int .i64 c, .int .i64 d]) : Sem Value).run Tryd.prog w = .ok (.bool (!decide (a = c ∧ b = d))) w := by
  obtain ⟨r, hr, h1, h2⟩ := run_eq_agg pair_ok (w0 := w) (w1 := w) (shS_rd ha hb) (shS_rd hc hd) xo yo
  have e : r = decide (a = c ∧ b = d) := by rw [Bool.eq_iff_iff, hr, decide_eq_true_iff]; simp
  rw [← e]
  exact h2 w
theorem pair_cells {W : World} {p : Option Addr} {c : Nat} {A : List (Nat × Nat)} (h : (row 55 2 (.slice p A.length c) A.length (pw A)).holds W) (i : Nat) (x : Nat × Nat) (hx : A[i]? = some x) :
    ∃ g, p = some ⟨g, 0, none⟩ ∧ ∀ j u, [Value.int .i64 (x.1 : Nat), .int .i64 (x.2 : Nat)][j]? = some u → W.cell? ⟨g, i * 2 + j, none⟩ = some u := by
  have hi := (List.getElem?_eq_some_iff.1 hx).1
  obtain ⟨g, c', e⟩ := row_form h (by omega)
  simp only [Value.slice.injEq, true_and] at e
  obtain ⟨rfl, rfl⟩ := e
  obtain ⟨hw0, hw1⟩ := pw_get A i _ hx
  refine ⟨g, rfl, fun j u hj => ?_⟩
  match j, hj with
  | 0, hj => simp at hj; subst hj; exact row_cell h hw0
  | 1, hj => simp at hj; subst hj; exact row_cell h hw1
  | j + 2, hj => simp at hj
theorem EqP_c {W : World} {va vb : Value} (A B : List (Nat × Nat)) (ha : (row 55 2 va A.length (pw A)).holds W) (hb : (row 55 2 vb B.length (pw B)).holds W) (hl : A.length ≤ 1000) (hl2 : B.length ≤ 1000)
    (hsa : ∀ x ∈ A, x.1 ≤ 1000 ∧ x.2 ≤ 1000) (hsb : ∀ x ∈ B, x.1 ≤ 1000 ∧ x.2 ≤ 1000) :
    Calls Tryd.prog 25 #[va, vb] W fun e w' => e = .returned (.bool (decide (A = B))) ∧ Ext W w' := by
  obtain ⟨p, cc, rfl⟩ := row_shape ha
  obtain ⟨p2, cc2, rfl⟩ := row_shape hb
  refine v_reads (args := [.slice p A.length cc, .slice p2 B.length cc2]) TTok FFok Tryd.func25 rfl rfl ?_
  conv => whnf
  refine VSeq.mk fun Kq hKq => ?_
  conv => whnf
  refine hKq _ _ _ (V.Sub.refl _) ?_
  clear hKq Kq
  conv => whnf
  refine VSeq.mk fun Kq hKq => ?_
  conv => whnf
  refine VSeq.mk fun Kq hKq => ?_
  conv => whnf
  refine hKq _ _ _ (V.Sub.refl _) ?_
  clear hKq Kq
  conv => whnf
  refine ⟨fun hne => ?_, fun hne => ?_⟩
  · have hne := of_decide_eq_true hne
    conv => whnf
    refine VSeq.mk fun Kq hKq => ?_
    conv => whnf
    refine hKq _ _ _ (V.Sub.refl _) ?_
    clear hKq Kq
    conv => whnf
    exact ⟨congrArg Value.bool (decide_eq_false (fun e => hne (by rw [e]))).symm, Ext.refl _⟩
  · have hne := of_decide_eq_false hne
    conv => whnf
    refine hKq _ _ _ (V.Sub.refl _) ?_
    clear hKq Kq
    conv => whnf
    refine VSeq.mk fun Kq hKq => ?_
    conv => whnf
    refine VSeq.mk fun Kq hKq => ?_
    conv => whnf
    refine hKq _ _ _ (V.Sub.refl _) ?_
    clear hKq Kq
    conv => whnf
    have hlen : A.length = B.length := by omega
    refine ⟨fun m l w => ∃ k : Nat, m + k = A.length ∧ l = [(0, .v (.slice p A.length cc)), (1, .v (.slice p2 B.length cc2)), (12, .v (.int .i64 A.length)), (13, .v (.int .i64 k))] ∧ A.take k = B.take k ∧ Ext W w,
      ⟨A.length, _, ⟨0, rfl, rfl, rfl, Ext.refl _⟩, sub_cons rfl (sub_cons rfl (sub_cons rfl (sub_cons rfl sub_nil)))⟩, ?_⟩
    rintro m _ w ⟨k, hm, rfl, htk, hx⟩
    conv => whnf
    refine VSeq.mk fun Kq hKq => ?_
    conv => whnf
    refine hKq _ _ _ (V.Sub.refl _) ?_
    clear hKq Kq
    conv => whnf
    refine VSeq.mk fun Kq hKq => ?_
    conv => whnf
    refine ⟨fun hlt => ?_, fun hlt => ?_⟩
    · have hlt := of_decide_eq_true hlt
      conv => whnf
      refine hKq _ _ _ (V.Sub.refl _) ?_
      clear hKq Kq
      conv => whnf
      refine VSeq.mk fun Kq hKq => ?_
      conv => whnf
      refine VSeq.mk fun Kq hKq => ?_
      conv => whnf
      refine hKq _ _ _ (V.Sub.refl _) ?_
      clear hKq Kq
      conv => whnf
      refine VSeq.mk fun Kq hKq => ?_
      conv => whnf
      have hA : A[k]? = some A[k] := List.getElem?_eq_getElem (by omega)
      have hB : B[k]? = some B[k] := List.getElem?_eq_getElem (by omega)
      have hAs := hsa _ (List.mem_of_getElem? hA)
      have hBs := hsb _ (List.mem_of_getElem? hB)
      generalize A[k] = x at hA hAs
      generalize B[k] = y at hB hBs
      obtain ⟨g, rfl, hc1⟩ := pair_cells ha k x hA
      obtain ⟨g2, rfl, hc2⟩ := pair_cells hb k y hB
      refine v_mixA TTok FFok mixed [(0, false), (1, false), (2, false), (3, false), (4, false), (5, false), (6, false), (7, false), (8, false)] (by kernel_rfl) ?_
      conv => whnf
      refine ⟨k, ⟨by first | rfl | omega, by omega⟩, ?_⟩
      conv => whnf
      rw [show addM 0 k 2 = k * 2 by rw [addM_eq]; omega]
      refine ⟨_, fun w' hx' => run_ldN TTok (vs := [.int .i64 (x.1 : Nat), .int .i64 (x.2 : Nat)]) rfl rfl (fun j u hj => Ext.cell (hx.trans hx') (hc1 j u hj)), ?_⟩
      conv => whnf
      refine ⟨k, ⟨by first | rfl | omega, by omega⟩, ?_⟩
      conv => whnf
      rw [show addM 0 k 2 = k * 2 by rw [addM_eq]; omega]
      refine ⟨_, fun w' hx' => run_ldN TTok (vs := [.int .i64 (y.1 : Nat), .int .i64 (y.2 : Nat)]) rfl rfl (fun j u hj => Ext.cell (hx.trans hx') (hc2 j u hj)), ?_⟩
      conv => whnf
      refine ⟨.bool (!decide ((x.1 : Int) = (y.1 : Int) ∧ (x.2 : Int) = (y.2 : Int))), fun w' _ => pair_ne w' (by omega) (by omega) (by omega) (by omega) _ _, ?_⟩
      conv => whnf
      intro w hx2
      have hx := hx.trans hx2
      conv => whnf
      refine hKq _ _ _ (V.Sub.refl _) ?_
      clear hKq Kq
      conv => whnf
      refine ⟨fun hd => ?_, fun hd => ?_⟩
      · have hd : ¬ ((x.1 : Int) = (y.1 : Int) ∧ (x.2 : Int) = (y.2 : Int)) := by rw [Bool.not_eq_true'] at hd; exact of_decide_eq_false hd
        conv => whnf
        refine VSeq.mk fun Kq hKq => ?_
        conv => whnf
        refine hKq _ _ _ (V.Sub.refl _) ?_
        clear hKq Kq
        conv => whnf
        exact ⟨congrArg Value.bool (decide_eq_false (fun e => hd (by subst e; rw [hA] at hB; cases hB; exact ⟨rfl, rfl⟩))).symm, hx⟩
      · have hd : ((x.1 : Int) = (y.1 : Int) ∧ (x.2 : Int) = (y.2 : Int)) := by rw [Bool.not_eq_false'] at hd; exact of_decide_eq_true hd
        conv => whnf
        refine hKq _ _ _ (V.Sub.refl _) ?_
        clear hKq Kq
        conv => whnf
        refine And.intro (by omega) ?_
        conv => whnf
        have hxy : x = y := Prod.ext (by omega) (by omega)
        exact ⟨m - 1, _, by omega, ⟨k + 1, by omega, rfl, by rw [take_snoc hA, take_snoc hB, htk, hxy], hx⟩, sub_cons rfl (sub_cons rfl (sub_cons rfl (sub_cons rfl sub_nil)))⟩
    · have hlt := of_decide_eq_false hlt
      conv => whnf
      clear hKq Kq
      refine hKq _ _ _ (V.Sub.refl _) ?_
      clear hKq Kq
      conv => whnf
      refine VSeq.mk fun Kq hKq => ?_
      conv => whnf
      refine hKq _ _ _ (V.Sub.refl _) ?_
      clear hKq Kq
      conv => whnf
      rw [List.take_of_length_le (by omega), List.take_of_length_le (by omega)] at htk
      exact ⟨congrArg Value.bool (decide_eq_true htk).symm, hx⟩
end Go.Proofs.YtpiilfamfinieaaDoor
