/- Chapter 27: a step of the repair. -/
import Derived.Test.YtpiilfamfinieaaDoorC27J
import Derived.Test.YtpiilfamfinieaaDoorX3
namespace Go.Proofs.YtpiilfamfinieaaDoor
set_option linter.unusedSimpArgs false
set_option linter.unusedVariables false
open Go.RowKit V
def nz (b : UInt8) : Bool := decide (b ≠ 0)
theorem nz_p (b : UInt8) : PureF Tryd.prog 65 #[.int .u8 (b.toNat : Nat)] (.bool (nz b)) := by
  have hb : (((b.toNat : Nat) : Int) = 0) ↔ b = 0 := by
    rw [Int.natCast_eq_zero]
    exact ⟨fun h => UInt8.toNat_inj.1 h, fun h => by rw [h]; rfl⟩
  first | refine v_pure TTok FFok Tryd.func65 rfl rfl fun w0 => ?_ | refine v_pure (args := []) TTok FFok Tryd.func65 rfl rfl fun w0 => ?_
  conv => whnf
  refine VSeq.mk fun Kq hKq => ?_
  conv => whnf
  refine hKq _ _ _ (V.Sub.refl _) ?_
  clear hKq Kq
  conv => whnf
  refine VSeq.mk fun Kq hKq => ?_
  conv => whnf
  refine hKq _ _ _ (V.Sub.refl _) ?_
  clear hKq Kq
  conv => whnf
  exact ⟨congrArg Value.bool (by unfold nz; exact decide_eq_decide.2 (not_congr hb)), Ext.refl _⟩
theorem IndexB_c {W : World} {v : Value} (L : List UInt8) (hv : SLv W v (bytesV L)) (hl : L.length ≤ 2000000) :
    Calls Tryd.prog 74 #[v, .func (.func 65) #[] #[]] W fun e w' => ∃ u, e = .returned u ∧ ∃ k : Int, u = .int .i64 k ∧ (0 ≤ k ↔ L.any nz = true) ∧ Ext W w' := by
  obtain ⟨p, c, rfl⟩ := hv.shape
  rw [bytesV_len] at hv ⊢
  refine v_fn (args := [.slice p L.length c, .func (.func 65) #[] #[]]) TTok FFok (f := 74) rfl rfl (Nat.le_of_ble_eq_true rfl) ?_
  conv => whnf
  refine VSeq.mk fun Kq hKq => ?_
  conv => whnf
  refine hKq _ _ _ (V.Sub.refl _) ?_
  clear hKq Kq
  conv => whnf
  refine VSeq.mk fun Kq hKq => ?_
  conv => whnf
  refine VSeq.mk fun Kq hKq => ?_
  conv => whnf
  refine hKq _ _ _ (V.Sub.refl _) ?_
  clear hKq Kq
  conv => whnf
  refine ⟨fun m l w => ∃ (i : Nat), m + i = L.length ∧ l = [(0, .v (.slice p L.length c)), (1, .v (.func (.func 65) #[] #[])), (7, .v (.int .i64 L.length)), (8, .v (.int .i64 i))] ∧ (L.take i).any nz = false ∧ Ext W w,
    ⟨L.length, _, ⟨0, by omega, rfl, by simp, Ext.refl _⟩, sub_cons rfl (sub_cons rfl (sub_cons rfl (sub_cons rfl sub_nil)))⟩, ?_⟩
  rintro m _ w ⟨i, hm, rfl, hal, hx0⟩
  conv => whnf
  refine VSeq.mk fun Kq hKq => ?_
  conv => whnf
  refine hKq _ _ _ (V.Sub.refl _) ?_
  clear hKq Kq
  conv => whnf
  refine VSeq.mk fun Kq hKq => ?_
  conv => whnf
  refine ⟨fun hlt => ?_, fun hlt => ?_⟩
  · have hlt := of_decide_eq_true hlt
    conv => whnf
    refine hKq _ _ _ (V.Sub.refl _) ?_
    clear hKq Kq
    conv => whnf
    refine VSeq.mk fun Kq hKq => ?_
    conv => whnf
    refine VSeq.mk fun Kq hKq => ?_
    conv => whnf
    refine hKq _ _ _ (V.Sub.refl _) ?_
    clear hKq Kq
    conv => whnf
    refine VSeq.mk fun Kq hKq => ?_
    conv => whnf
    have hi : i < L.length := by omega
    have hxi : L[i]? = some L[i] := List.getElem?_eq_getElem hi
    have hmem := List.getElem_mem hi
    generalize L[i] = x at hxi hmem
    obtain ⟨g, off, rfl, hcell⟩ := hv.at (bytesV_get hxi)
    refine ⟨i, ⟨by first | rfl | omega, by omega⟩, ?_⟩
    conv => whnf
    refine ⟨_, _, run_ld TTok rfl (by rw [addM_eq, Nat.mul_one]; exact Ext.cell hx0 hcell), ?_⟩
    conv => whnf
    refine PureF.use (nz_p x) fun w hx => ?_
    try (have hp := hp.call hx)
    conv => whnf
    refine hKq _ _ _ (V.Sub.refl _) ?_
    clear hKq Kq
    conv => whnf
    have hx0 := hx0.trans hx
    refine ⟨fun hb => ?_, fun hb => ?_⟩
    · conv => whnf
      refine VSeq.mk fun Kq hKq => ?_
      conv => whnf
      refine hKq _ _ _ (V.Sub.refl _) ?_
      clear hKq Kq
      conv => whnf
      refine ⟨i, rfl, ?_, hx0⟩
      have : L.any nz = true := List.any_eq_true.2 ⟨x, hmem, hb⟩
      rw [this]; exact ⟨fun _ => rfl, fun _ => by omega⟩
    · conv => whnf
      refine hKq _ _ _ (V.Sub.refl _) ?_
      clear hKq Kq
      conv => whnf
      refine And.intro (by omega) ?_
      conv => whnf
      refine ⟨m - 1, _, by omega, ⟨i + 1, by omega, rfl, ?_, hx0⟩, sub_cons rfl (sub_cons rfl (sub_cons rfl (sub_cons rfl sub_nil)))⟩
      rw [take_snoc hxi, List.any_append, hal]; simp [hb]
  · have hlt := of_decide_eq_false hlt
    conv => whnf
    clear hKq Kq
    refine hKq _ _ _ (V.Sub.refl _) ?_
    clear hKq Kq
    conv => whnf
    refine VSeq.mk fun Kq hKq => ?_
    conv => whnf
    refine hKq _ _ _ (V.Sub.refl _) ?_
    clear hKq Kq
    conv => whnf
    rw [List.take_of_length_le (by omega)] at hal
    exact ⟨-1, rfl, by rw [hal]; simp, hx0⟩
theorem ContainsB_c {W : World} {v : Value} (L : List UInt8) (hv : SLv W v (bytesV L)) (hl : L.length ≤ 2000000) :
    Calls Tryd.prog 64 #[v, .func (.func 65) #[] #[]] W fun e w' => e = .returned (.bool (L.any nz)) ∧ Ext W w' := by
  obtain ⟨p, c, rfl⟩ := hv.shape
  rw [bytesV_len] at hv ⊢
  refine v_reads (args := [.slice p L.length c, .func (.func 65) #[] #[]]) TTok FFok Tryd.func64 rfl rfl ?_
  conv => whnf
  refine VSeq.mk fun Kq hKq => ?_
  conv => whnf
  refine hKq _ _ _ (V.Sub.refl _) ?_
  clear hKq Kq
  conv => whnf
  refine VSeq.mk fun Kq hKq => ?_
  conv => whnf
  refine Calls.mono (IndexB_c L hv hl) ?_
  rintro _ w ⟨u, rfl, k, rfl, hk, hx⟩
  refine ⟨_, rfl, ?_⟩
  conv => whnf
  refine hKq _ _ _ (V.Sub.refl _) ?_
  clear hKq Kq
  conv => whnf
  exact ⟨congrArg Value.bool (by rw [Bool.eq_iff_iff, decide_eq_true_iff]; exact hk), hx⟩
theorem OB.mid {w : World} {e g n c : Nat} {b : List UInt8} (h : OB w e (.slice (some ⟨g, 0, none⟩) n c) (bytesV b)) (m k : Nat) (hk : m + k ≤ b.length) :
    m + k ≤ c ∧ ∀ j, j < k → w.cell? ⟨g, (if c = m then 0 else 0 + m * 1) + j, none⟩ = (bytesV ((b.drop m).take k))[j]? := by
  have hc : b.length ≤ c := by
    rcases h with ⟨hv, _⟩ | ⟨g', zs, hv, _, _⟩
    · simp at hv
    · simp only [Value.slice.injEq] at hv
      rw [bytesV_len] at hv
      omega
  refine ⟨by omega, fun j hj => ?_⟩
  have hg : b[m + j]? = some b[m + j] := List.getElem?_eq_getElem (by omega)
  obtain ⟨g', e, hcell⟩ := OB.at h (bytesV_get hg)
  cases e
  rw [if_neg (by omega), Nat.zero_add, Nat.mul_one, hcell]
  have : ((b.drop m).take k)[j]? = some b[m + j] := by rw [List.getElem?_take, if_pos hj, List.getElem?_drop]; exact hg
  exact (bytesV_get this).symm
theorem bytesV_drop (b : List UInt8) (m : Nat) : (bytesV b).drop m = bytesV (b.drop m) := by simp [bytesV, List.map_drop]
/-- the packet of a form -/
def unfL (b : List UInt8) : Option ByteArray :=
  if b.length < 2 then none else
  let n := 256 * (b.getD 0 0).toNat + (b.getD 1 0).toNat
  if 1100 < n ∨ b.length < n + 2 ∨ (b.drop (n + 2)).any nz = true then none else some ⟨((b.drop 2).take n).toArray⟩
def stepL (r c l i : Nat) (L C : List ByteArray) : Option ByteArray := unfL (px ((C.getD l ⟨#[]⟩).data.toList) (covN r c l i L L.length))
set_option maxHeartbeats 4000000 in
theorem step_c {M : List Nat} {w0 w : World} {H : List It} (hp : HpM M w0 w H) (i j k wb : Nat) (r c line place : Nat) (h : Shp r c) (L C : List ByteArray) (bv cv : Value)
    (hi : H[i]? = some (blk wb [.int .i64 r, .int .i64 c, bv, cv] 92)) (hj : H[j]? = some (row 9 1 bv L.length (sw L))) (hk : H[k]? = some (row 9 1 cv C.length (sw C)))
    (hL : L.length = r * c) (hC : C.length = r + c) (hline : line < r + c) (hplace : place < r * c) (hLb : ∀ x ∈ L, x.size ≤ 1100) (hCb : ∀ x ∈ C, x.size ≤ 1048576) :
    Calls Tryd.prog 45 #[.pointer (some ⟨wb, 0, none⟩), .int .i64 line, .int .i64 place] w fun e w' => ∃ u, e = .returned u ∧ u = .bool (stepL r c line place L C).isSome ∧
      HpM M w0 w' (H.set j (row 9 1 bv L.length (sw (match stepL r c line place L C with | some s => L.set place s | none => L)))) := by
  have h' := h
  obtain ⟨h1, h2, h3, h4⟩ := h'
  have hrc : r * c ≤ 6 * 8 := Nat.mul_le_mul (by omega) (by omega)
  refine v_fn (args := [.pointer (some ⟨wb, 0, none⟩), .int .i64 line, .int .i64 place]) TTok FFok Tryd.func45 rfl (Nat.le_of_ble_eq_true rfl) ?_
  obtain ⟨gb, cb, rfl⟩ := row_form (hp.get hj) (by omega)
  obtain ⟨gc, cc, rfl⟩ := row_form (hp.get hk) (by omega)
  have hcl : C[line]? = some C[line] := List.getElem?_eq_getElem (by omega)
  have hcs := hCb _ (List.getElem_mem (by omega : line < C.length))
  have hcd : (C.getD line ⟨#[]⟩) = C[line] := by rw [List.getD_eq_getElem?_getD, hcl]; rfl
  unfold stepL
  rw [hcd]
  generalize C[line] = s0 at hcl hcs
  conv => whnf
  refine VSeq.mk fun Kq hKq => ?_
  conv => whnf
  refine hp.kbox ([.pointer (some ⟨wb, 0, none⟩)]) rfl fun pb w hp hx => ?_
  conv => whnf
  refine hp.kbox ([.int .i64 line]) rfl fun lb w hp hx => ?_
  conv => whnf
  refine hp.kbox ([.int .i64 place]) rfl fun qb w hp hx => ?_
  conv => whnf
  refine hKq _ _ _ (V.Sub.refl _) ?_
  clear hKq Kq
  conv => whnf
  refine VSeq.mk fun Kq hKq => ?_
  conv => whnf
  have hK : ∀ (w1 : World) (ab : Nat) (v1 : Value), HpM M w0 w1 (blk ab [v1] 81 :: ob 5 v1 (bytesV s0.data.toList) :: blk qb [.int .i64 place] 3 :: blk lb [.int .i64 line] 3 :: blk pb [.pointer (some ⟨wb, 0, none⟩)] 89 :: H) →
      ∀ l, V.Sub [(3, .v (.pointer (some ⟨pb, 0, none⟩))), (4, .v (.pointer (some ⟨lb, 0, none⟩))), (5, .v (.pointer (some ⟨qb, 0, none⟩))), (7, .v (.pointer (some ⟨ab, 0, none⟩)))] l → Kq l w1 := by
    clear hp
    repeat clear hp
    intro w ab v1 hp l hsub
    refine hKq _ _ _ hsub ?_
    clear hKq Kq hsub
    conv => whnf
    refine VSeq.mk fun Kq hKq => ?_
    conv => whnf
    refine VSeq.mk fun Kq hKq => ?_
    conv => whnf
    refine ⟨_, _, Blk.ld (hp.get (i := 4) rfl) TTok rfl (rfl), ?_⟩
    conv => whnf
    refine ⟨_, _, Blk.ldV (off := 0) (hp.get (i := i + 5) hi) TTok rfl (vs := [.int .i64 r, .int .i64 c]) rfl (by rfl), ?_⟩
    conv => whnf
    refine Calls.mono (lines_c hp r c) ?_
    rintro _ w ⟨v', rfl, bw, rfl, hp, hx⟩
    refine ⟨_, rfl, ?_⟩
    conv => whnf
    refine hKq _ _ _ (V.Sub.refl _) ?_
    clear hKq Kq
    conv => whnf
    clear hx
    have hp : HpM M w0 w ((blk ab [v1] 81 :: ob 5 v1 (bytesV (px s0.data.toList (if 0 ≤ line then [] else covN r c line place L L.length))) :: blk qb [.int .i64 place] 3 :: blk lb [.int .i64 line] 3 :: blk pb [.pointer (some ⟨wb, 0, none⟩)] 89 :: H) ++ [blk bw [.int .i64 (r : Nat), .int .i64 (c : Nat)] 75]) := by
      rw [if_pos (Nat.zero_le _), px_nil]
      exact hp.perm (List.perm_append_comm (l₁ := [blk bw [.int .i64 (r : Nat), .int .i64 (c : Nat)] 75]))
    have hbw : ∀ B, Ext w B → Blk B bw [.int .i64 (r : Nat), .int .i64 (c : Nat)] 75 := fun B hx => by
      have := hp.holds (blk bw [.int .i64 (r : Nat), .int .i64 (c : Nat)] 75) (List.mem_append_right _ (by simp))
      exact Blk.ext this hx
    refine v_rangeG TTok FFok (lines_iter r c h bw) rfl rfl (by kernel_rfl) [(3, .v (.pointer (some ⟨pb, 0, none⟩))), (4, .v (.pointer (some ⟨lb, 0, none⟩))), (5, .v (.pointer (some ⟨qb, 0, none⟩))), (7, .v (.pointer (some ⟨ab, 0, none⟩)))]
      (subL_cons rfl (subL_cons rfl (subL_cons rfl (subL_cons rfl (fun _ _ h => by cases h))))) rfl (fun _ => rfl)
      (fun t X A => t ≤ r + c ∧ ∃ v1, HpM M w0 A ((blk ab [v1] 81 :: ob 5 v1 (bytesV (px s0.data.toList (if t ≤ line then [] else covN r c line place L L.length))) :: blk qb [.int .i64 place] 3 :: blk lb [.int .i64 line] 3 :: blk pb [.pointer (some ⟨wb, 0, none⟩)] 89 :: H) ++ X))
      (fun _ X A => False)
      (fun t => ⟨fun X A h x hx => by obtain ⟨_, _, h⟩ := h; exact h.holds x (List.mem_append_right _ hx), fun X X' A B r h => by obtain ⟨h0, v1, h⟩ := h; exact ⟨h0, v1, h.reframe r⟩⟩)
      (fun e => ⟨fun X A h => h.elim, fun X X' A B r h => h⟩)
      (fun t X A h => by omega) [blk bw [.int .i64 (r : Nat), .int .i64 (c : Nat)] 75] (hp.sub (List.sublist_append_right _ _)) rfl
      hbw ⟨Nat.zero_le _, _, hp⟩ ?_ ?_ (fun _ _ _ h => h.elim) (fun _ _ _ _ h => h.elim) (fun _ _ _ _ h => h.elim)
    · clear hp
      repeat clear hp
      rintro t X A ⟨ht, v1, hp⟩ htot
      have ht : t < r + c := by have : t ≠ r + c := htot; omega
      conv => whnf
      refine VSeq.mk fun Kq hKq => ?_
      conv => whnf
      refine hKq _ _ _ (V.Sub.refl _) ?_
      clear hKq Kq
      conv => whnf
      refine ⟨fun x hx => hp.holds x (List.mem_append_right _ hx), fun X' B' rr => ?_⟩
      have hp := hp.reframe rr
      clear rr
      simp only [List.cons_append] at hp
      have hin : ∀ (q : Nat) (x : It), H[q]? = some x → (H ++ X')[q]? = some x := fun q x hq => by rw [List.getElem?_append_left (List.getElem?_eq_some_iff.1 hq).1]; exact hq
      have hi := hin i _ hi
      have hj := hin j _ hj
      conv => whnf
      refine VSeq.mk fun Kq hKq => ?_
      conv => whnf
      refine VSeq.mk fun Kq hKq => ?_
      conv => whnf
      refine ⟨_, _, Blk.ld (hp.get (i := 3) rfl) TTok rfl (rfl), ?_⟩
      conv => whnf
      refine hKq _ _ _ (V.Sub.refl _) ?_
      clear hKq Kq
      conv => whnf
      refine ⟨fun hne => ?_, fun hne => ?_⟩
      · have hne := of_decide_eq_true hne
        conv => whnf
        refine And.intro (by omega) ?_
        conv => whnf
        refine ⟨v1, ?_⟩
        rw [show (if t + 1 ≤ line then ([] : List UInt8) else covN r c line place L L.length) = (if t ≤ line then [] else covN r c line place L L.length) by
          by_cases hle : t ≤ line
          · rw [if_pos hle, if_pos (by omega)]
          · rw [if_neg hle, if_neg (by omega)]]
        exact hp
      · have hne := of_decide_eq_false hne
        conv => whnf
        refine hKq _ _ _ (V.Sub.refl _) ?_
        clear hKq Kq
        conv => whnf
        refine VSeq.mk fun Kq hKq => ?_
        conv => whnf
        obtain rfl : t = line := by omega
        rw [if_pos (Nat.le_refl _)] at hp
        refine ⟨_, _, Blk.ld (hp.get (i := 4) rfl) TTok rfl (rfl), ?_⟩
        conv => whnf
        refine ⟨_, _, Blk.ld (hp.get (i := i + 5) hi) TTok rfl rfl, ?_⟩
        conv => whnf
        refine hKq _ _ _ (V.Sub.refl _) ?_
        clear hKq Kq
        conv => whnf
        refine ⟨fun m l w => ∃ (q : Nat) (v1 : Value), m + q = L.length ∧ l = [(3, .v (.pointer (some ⟨pb, 0, none⟩))), (4, .v (.pointer (some ⟨lb, 0, none⟩))), (5, .v (.pointer (some ⟨qb, 0, none⟩))), (7, .v (.pointer (some ⟨ab, 0, none⟩))), (9, .v (.int .u64 (lineS r c t : Nat))), (34, .v (.slice (some ⟨gb, 0, none⟩) L.length cb)), (35, .v (.int .i64 L.length)), (36, .v (.int .i64 q))] ∧
            HpM M w0 w (blk ab [v1] 81 :: ob 5 v1 (bytesV (px s0.data.toList (covN r c t place L q))) :: blk qb [.int .i64 place] 3 :: blk lb [.int .i64 t] 3 :: blk pb [.pointer (some ⟨wb, 0, none⟩)] 89 :: (H ++ X')),
          ⟨L.length, _, ⟨0, v1, rfl, rfl, hp⟩, sub_cons rfl (sub_cons rfl (sub_cons rfl (sub_cons rfl (sub_cons rfl (sub_cons rfl (sub_cons rfl (sub_cons rfl sub_nil)))))))⟩, ?_⟩
        clear hp
        repeat clear hp
        rintro m _ w ⟨q, v1, hm, rfl, hp⟩
        conv => whnf
        refine VSeq.mk fun Kq hKq => ?_
        conv => whnf
        refine hKq _ _ _ (V.Sub.refl _) ?_
        clear hKq Kq
        conv => whnf
        refine VSeq.mk fun Kq hKq => ?_
        conv => whnf
        refine ⟨fun hlt => ?_, fun hlt => ?_⟩
        · have hlt := of_decide_eq_true hlt
          conv => whnf
          refine hKq _ _ _ (V.Sub.refl _) ?_
          clear hKq Kq
          conv => whnf
          refine VSeq.mk fun Kq hKq => ?_
          conv => whnf
          refine VSeq.mk fun Kq hKq => ?_
          conv => whnf
          have hq : q < L.length := by omega
          have hxi : L[q]? = some L[q] := List.getElem?_eq_getElem hq
          have hxb := hLb _ (List.getElem_mem hq)
          have hcs2 : covN r c t place L (q + 1) = if (onL r c t q && decide ((q : Int) ≠ (place : Int))) = true then px (covN r c t place L q) (formL (L[q]).data.toList) else covN r c t place L q := by
            rw [covN, List.getD_eq_getElem?_getD, hxi]; rfl
          generalize L[q] = x at hxi hxb hcs2
          have hl48 := lineS_lt48 r c t h ht
          have hkd : lineS r c t / 2 ^ q < 18446744073709551616 := Nat.lt_of_le_of_lt (Nat.div_le_self _ _) (by omega)
          have hbit : (lineS r c t / 2 ^ q % 2 = 1) ↔ onL r c t q = true := by
            rw [div_bit, lineS_bit r c t q (by omega) ht, decide_eq_true (by omega : q < r * c), Bool.and_true]; split <;> simp [*]
          refine ⟨q, ⟨by first | rfl | omega, by omega⟩, ?_⟩
          conv => whnf
          refine ⟨_, _, run_ld TTok rfl (by rw [addM_eq, Nat.mul_one, Nat.zero_add]; exact row_cell (hp.get (i := j + 5) hj) (sw_get hxi)), ?_⟩
          conv => whnf
          refine hKq _ _ _ (V.Sub.refl _) ?_
          clear hKq Kq
          conv => whnf
          refine VSeq.mk fun Kq hKq => ?_
          conv => whnf
          refine VSeq.mk fun Kq hKq => ?_
          conv => whnf
          refine ⟨q, ⟨by first | rfl | omega, by omega⟩, ?_⟩
          conv => whnf
          rw [shr_cast]
          refine ⟨lineS r c t / 2 ^ q, 1, lineS r c t / 2 ^ q % 2, ⟨by first | rfl | omega, by first | rfl | omega, by omega, by omega⟩, by (dsimp only; exact Nat.and_one_is_mod _), ?_⟩
          conv => whnf
          refine hKq _ _ _ (V.Sub.refl _) ?_
          clear hKq Kq
          conv => whnf
          refine ⟨fun g1 => ?_, fun g1 => ?_⟩
          · have g1 := of_decide_eq_true g1
            conv => whnf
            refine ⟨_, _, Blk.ld (hp.get (i := 2) rfl) TTok rfl (rfl), ?_⟩
            conv => whnf
            refine hKq _ _ _ (V.Sub.refl _) ?_
            clear hKq Kq
            conv => whnf
            refine ⟨fun g2 => ?_, fun g2 => ?_⟩
            · have g2 := of_decide_eq_true g2
              conv => whnf
              refine ⟨_, _, Blk.ld (hp.get (i := 0) rfl) TTok rfl (rfl), ?_⟩
              conv => whnf
              rw [if_pos (by rw [hbit.1 (by omega), Bool.true_and, decide_eq_true_iff]; exact g2)] at hcs2
              refine TakesF.use (mix_t v1 (px s0.data.toList (covN r c t place L q)) x (by have := covN_len r c t place L 1100 hLb q; rw [px_len, toList_len]; omega) (by omega)) hp 1 rfl fun v2 w hp => ?_
              simp only [List.set_cons_zero, List.set_cons_succ] at hp
              rw [px_assoc, ← hcs2] at hp
              obtain ⟨p2, c2, rfl⟩ := OB.shape (hp.get (i := 1) rfl)
              conv => whnf
              refine hp.kst1 TTok (by rfl) 0 (by rfl) (by rfl) (by rfl) (by simp) fun w hp => ?_
              try simp only [List.set_cons_zero, List.set_cons_succ, EV.val] at hp
              conv => whnf
              refine hKq _ _ _ (V.Sub.refl _) ?_
              clear hKq Kq
              conv => whnf
              refine And.intro (by omega) ?_
              conv => whnf
              exact ⟨m - 1, _, by omega, ⟨q + 1, _, by omega, rfl, hp⟩, sub_cons rfl (sub_cons rfl (sub_cons rfl (sub_cons rfl (sub_cons rfl (sub_cons rfl (sub_cons rfl (sub_cons rfl sub_nil)))))))⟩
            · have g2 := of_decide_eq_false g2
              conv => whnf
              refine hKq _ _ _ (V.Sub.refl _) ?_
              clear hKq Kq
              conv => whnf
              refine And.intro (by omega) ?_
              conv => whnf
              rw [if_neg (by rw [Bool.and_eq_true, decide_eq_true_iff]; exact fun e => g2 e.2)] at hcs2
              rw [← hcs2] at hp
              exact ⟨m - 1, _, by omega, ⟨q + 1, v1, by omega, rfl, hp⟩, sub_cons rfl (sub_cons rfl (sub_cons rfl (sub_cons rfl (sub_cons rfl (sub_cons rfl (sub_cons rfl (sub_cons rfl sub_nil)))))))⟩
          · have g1 := of_decide_eq_false g1
            conv => whnf
            refine hKq _ _ _ (V.Sub.refl _) ?_
            clear hKq Kq
            conv => whnf
            refine hKq _ _ _ (V.Sub.refl _) ?_
            clear hKq Kq
            conv => whnf
            refine And.intro (by omega) ?_
            conv => whnf
            rw [if_neg (by rw [Bool.and_eq_true]; exact fun e => g1 (by have := hbit.2 e.1; omega))] at hcs2
            rw [← hcs2] at hp
            exact ⟨m - 1, _, by omega, ⟨q + 1, v1, by omega, rfl, hp⟩, sub_cons rfl (sub_cons rfl (sub_cons rfl (sub_cons rfl (sub_cons rfl (sub_cons rfl (sub_cons rfl (sub_cons rfl sub_nil)))))))⟩
        · have hlt := of_decide_eq_false hlt
          conv => whnf
          refine And.intro (by omega) ?_
          conv => whnf
          obtain rfl : q = L.length := by omega
          rw [if_neg (by omega)]
          exact ⟨v1, hp⟩
    · rintro D t X W' ht ⟨_, v1, hp⟩
      have ht : t = r + c := ht
      rw [if_neg (by omega)] at hp
      obtain ⟨b, hb⟩ : ∃ b, px s0.data.toList (covN r c line place L L.length) = b := ⟨_, rfl⟩
      have hbl : b.length ≤ 1048576 := by have := covN_len r c line place L 1100 hLb L.length; rw [← hb, px_len, toList_len]; omega
      rw [hb] at hp
      have hp := hp.perm List.perm_append_comm
      have hp : HpM M w0 W' (raw D (.deferred (some [])) :: blk ab [v1] 81 :: ob 5 v1 (bytesV b) :: blk qb [.int .i64 place] 3 :: blk lb [.int .i64 line] 3 :: blk pb [.pointer (some ⟨wb, 0, none⟩)] 89 :: H) := hp.sub (List.Sublist.cons_cons _ (List.sublist_append_right X _))
      have hset : H.set j (row 9 1 (.slice (some ⟨gb, 0, none⟩) L.length cb) L.length (sw L)) = H := by
        obtain ⟨hil, hie⟩ := List.getElem?_eq_some_iff.1 hj
        rw [← hie, List.set_getElem_self]
      obtain ⟨p1, c1, rfl⟩ := OB.shape (hp.get (i := 2) rfl)
      rw [bytesV_len] at hp
      conv => whnf
      refine hKq _ _ _ (V.Sub.refl _) ?_
      clear hKq Kq
      conv => whnf
      refine VSeq.mk fun Kq hKq => ?_
      conv => whnf
      refine VSeq.mk fun Kq hKq => ?_
      conv => whnf
      refine ⟨_, _, Blk.ld (hp.get (i := 1) rfl) TTok rfl (rfl), ?_⟩
      conv => whnf
      refine hKq _ _ _ (V.Sub.refl _) ?_
      clear hKq Kq
      conv => whnf
      refine ⟨fun hlt => ?_, fun hlt => ?_⟩
      · have hlt := of_decide_eq_true hlt
        conv => whnf
        refine VSeq.mk fun Kq hKq => ?_
        conv => whnf
        refine hKq _ _ _ (V.Sub.refl _) ?_
        clear hKq Kq
        conv => whnf
        have hnone : unfL b = none := by unfold unfL; rw [if_pos (by omega)]
        refine ⟨hp.get (i := 0) rfl, ?_⟩
        have hp := hp.shut (i := 0) rfl (o' := .deferred none)
        simp only [List.set_cons_zero] at hp
        conv => whnf
        rw [hb, hnone]
        exact ⟨rfl, by dsimp only; rw [hset]; exact hp.tail.tail.tail.tail.tail.tail⟩
      · have hlt := of_decide_eq_false hlt
        conv => whnf
        refine hKq _ _ _ (V.Sub.refl _) ?_
        clear hKq Kq
        conv => whnf
        refine VSeq.mk fun Kq hKq => ?_
        conv => whnf
        have hg0 : b[0]? = some b[0] := List.getElem?_eq_getElem (by omega)
        have hg1 : b[1]? = some b[1] := List.getElem?_eq_getElem (by omega)
        have hun : unfL b = if 1100 < 256 * b[0].toNat + b[1].toNat ∨ b.length < 256 * b[0].toNat + b[1].toNat + 2 ∨ (b.drop (256 * b[0].toNat + b[1].toNat + 2)).any nz = true then none else some ⟨((b.drop 2).take (256 * b[0].toNat + b[1].toNat)).toArray⟩ := by
          unfold unfL; rw [if_neg (by omega), List.getD_eq_getElem?_getD, List.getD_eq_getElem?_getD, hg0, hg1]; rfl
        have hl0 := UInt8.toNat_lt b[0]
        have hl1 := UInt8.toNat_lt b[1]
        generalize b[0] = b0 at hg0 hun hl0
        generalize b[1] = b1 at hg1 hun hl1
        have hcells : ∀ w' , OB w' 5 (.slice p1 b.length c1) (bytesV b) → ∃ g, p1 = some ⟨g, 0, none⟩ ∧ w'.cell? ⟨g, 0, none⟩ = some (.int .u8 (b0.toNat : Nat)) := fun w' ho => OB.at ho (bytesV_get hg0)
        obtain ⟨g, rfl, hc0⟩ := hcells _ (hp.get (i := 2) rfl)
        clear hcells
        obtain ⟨g', e, hc1⟩ := OB.at (hp.get (i := 2) rfl : OB _ _ _ _) (bytesV_get hg1)
        cases e
        refine v_mixA TTok FFok mixed [(0, false), (1, false), (2, false), (3, false), (4, false), (5, false), (6, false), (7, false), (8, false), (9, false), (10, false)] (by kernel_rfl) ?_
        conv => whnf
        refine ⟨_, fun w' hx' => Blk.ld (Blk.ext (hp.get (i := 1) rfl) hx') TTok rfl (rfl), ?_⟩
        conv => whnf
        refine ⟨0, ⟨by first | rfl | omega, by omega⟩, ?_⟩
        conv => whnf
        refine ⟨_, fun w' hx' => run_ld TTok rfl (by rw [addM_eq, Nat.mul_one, Nat.zero_add]; exact Ext.cell hx' hc0), ?_⟩
        conv => whnf
        refine And.intro (by omega) ?_
        conv => whnf
        refine ⟨8, ⟨by first | rfl | omega, by omega⟩, ?_⟩
        conv => whnf
        refine And.intro (by omega) ?_
        conv => whnf
        refine ⟨_, fun w' hx' => Blk.ld (Blk.ext (hp.get (i := 1) rfl) hx') TTok rfl (rfl), ?_⟩
        conv => whnf
        refine ⟨1, ⟨by first | rfl | omega, by omega⟩, ?_⟩
        conv => whnf
        refine ⟨_, fun w' hx' => run_ld TTok rfl (by rw [addM_eq, Nat.mul_one, Nat.zero_add]; exact Ext.cell hx' hc1), ?_⟩
        conv => whnf
        refine And.intro (by omega) ?_
        conv => whnf
        refine ⟨b0.toNat * 256, b1.toNat, 256 * b0.toNat + b1.toNat, ⟨by first | rfl | omega, by first | rfl | omega, by omega, by omega⟩, by (dsimp only; (rw [Nat.mul_comm]; exact (Nat.two_pow_add_eq_or_of_lt (i := 8) hl1 b0.toNat).symm)), ?_⟩
        conv => whnf
        obtain ⟨n, hn⟩ : ∃ n, 256 * b0.toNat + b1.toNat = n := ⟨_, rfl⟩
        have hn6 : n < 65536 := by omega
        rw [hn] at hun ⊢
        intro w hx
        try (have hp := hp.call hx)
        conv => whnf
        refine hKq _ _ _ (V.Sub.refl _) ?_
        clear hKq Kq
        conv => whnf
        refine VSeq.mk fun Kq hKq => ?_
        conv => whnf
        refine VSeq.mk fun Kq hKq => ?_
        conv => whnf
        refine VSeq.mk fun Kq hKq => ?_
        conv => whnf
        refine hKq _ _ _ (V.Sub.refl _) ?_
        clear hKq Kq
        conv => whnf
        refine VSeq.mk fun Kq hKq => ?_
        conv => whnf
        refine ⟨fun hB => ?_, fun hB => ?_⟩
        · have hB := of_decide_eq_true hB
          conv => whnf
          refine hKq _ _ _ (V.Sub.refl _) ?_
          clear hKq Kq
          conv => whnf
          refine hKq _ _ _ (V.Sub.refl _) ?_
          clear hKq Kq
          conv => whnf
          refine VSeq.mk fun Kq hKq => ?_
          conv => whnf
          refine hKq _ _ _ (V.Sub.refl _) ?_
          clear hKq Kq
          conv => whnf
          have hnone : unfL b = none := by rw [hun, if_pos (.inl (by omega))]
          refine ⟨hp.get (i := 0) rfl, ?_⟩
          have hp := hp.shut (i := 0) rfl (o' := .deferred none)
          simp only [List.set_cons_zero] at hp
          conv => whnf
          rw [hb, hnone]
          exact ⟨rfl, by dsimp only; rw [hset]; exact hp.tail.tail.tail.tail.tail.tail⟩
        · have hB := of_decide_eq_false hB
          conv => whnf
          refine ⟨_, _, Blk.ld (hp.get (i := 1) rfl) TTok rfl (rfl), ?_⟩
          conv => whnf
          refine And.intro (by omega) ?_
          conv => whnf
          refine hKq _ _ _ (V.Sub.refl _) ?_
          clear hKq Kq
          conv => whnf
          refine ⟨fun hS => ?_, fun hS => ?_⟩
          · have hS := of_decide_eq_true hS
            conv => whnf
            refine hKq _ _ _ (V.Sub.refl _) ?_
            clear hKq Kq
            conv => whnf
            refine VSeq.mk fun Kq hKq => ?_
            conv => whnf
            refine hKq _ _ _ (V.Sub.refl _) ?_
            clear hKq Kq
            conv => whnf
            have hnone : unfL b = none := by rw [hun, if_pos (.inr (.inl (by omega)))]
            refine ⟨hp.get (i := 0) rfl, ?_⟩
            have hp := hp.shut (i := 0) rfl (o' := .deferred none)
            simp only [List.set_cons_zero] at hp
            conv => whnf
            rw [hb, hnone]
            exact ⟨rfl, by dsimp only; rw [hset]; exact hp.tail.tail.tail.tail.tail.tail⟩
          · have hS := of_decide_eq_false hS
            conv => whnf
            refine ⟨_, _, Blk.ld (hp.get (i := 1) rfl) TTok rfl (rfl), ?_⟩
            conv => whnf
            refine And.intro (by omega) ?_
            conv => whnf
            obtain ⟨v4, hr4, hs4⟩ := SLv.lo TTok (t := 81) rfl rfl (by have := OB.slv (hp.get (i := 2) rfl : OB _ _ _ _); exact this) (n + 2) (by rw [bytesV_len]; omega)
            rw [bytesV_drop] at hs4
            rw [show ((n : Int) + 2) = ((n + 2 : Nat) : Int) by omega]
            refine ⟨_, _, hr4 _ _, ?_⟩
            conv => whnf
            refine V.CallsUse (ContainsB_c (b.drop (n + 2)) hs4 (by rw [List.length_drop]; omega)) fun w hx => ?_
            try (have hp := hp.call hx)
            conv => whnf
            refine hKq _ _ _ (V.Sub.refl _) ?_
            clear hKq Kq
            conv => whnf
            refine ⟨fun hZ => ?_, fun hZ => ?_⟩
            · conv => whnf
              refine VSeq.mk fun Kq hKq => ?_
              conv => whnf
              refine hKq _ _ _ (V.Sub.refl _) ?_
              clear hKq Kq
              conv => whnf
              have hnone : unfL b = none := by rw [hun, if_pos (.inr (.inr hZ))]
              refine ⟨hp.get (i := 0) rfl, ?_⟩
              have hp := hp.shut (i := 0) rfl (o' := .deferred none)
              simp only [List.set_cons_zero] at hp
              conv => whnf
              rw [hb, hnone]
              exact ⟨rfl, by dsimp only; rw [hset]; exact hp.tail.tail.tail.tail.tail.tail⟩
            · conv => whnf
              refine hKq _ _ _ (V.Sub.refl _) ?_
              clear hKq Kq
              conv => whnf
              refine VSeq.mk fun Kq hKq => ?_
              conv => whnf
              have hsome : unfL b = some ⟨((b.drop 2).take n).toArray⟩ := by rw [hun, if_neg (by rintro (h | h | h); omega; omega; rw [hZ] at h; cases h)]
              obtain ⟨hmc, hmid⟩ := OB.mid (hp.get (i := 2) rfl : OB _ _ _ _) 2 n (by omega)
              have hml : ((b.drop 2).take n).length = n := by rw [List.length_take, List.length_drop]; omega
              generalize ((b.drop 2).take n) = pk at hmid hml hsome
              refine v_mix TTok FFok mixed 11 [(0, false), (1, false), (2, false), (3, false), (4, false), (5, false), (6, false), (7, false), (8, false), (9, false), (10, false)] (by kernel_rfl) ?_
              conv => whnf
              refine ⟨_, fun w' hx' => Blk.ld (Blk.ext (hp.get (i := 5) rfl) hx') TTok rfl (rfl), ?_⟩
              conv => whnf
              refine ⟨_, fun w' hx' => Blk.ld (Blk.ext (hp.get (i := i + 6) hi) hx') TTok rfl rfl, ?_⟩
              conv => whnf
              refine ⟨_, fun w' hx' => Blk.ld (Blk.ext (hp.get (i := 3) rfl) hx') TTok rfl (rfl), ?_⟩
              conv => whnf
              refine ⟨_, fun w' hx' => Blk.ld (Blk.ext (hp.get (i := 1) rfl) hx') TTok rfl (rfl), ?_⟩
              conv => whnf
              refine And.intro (by omega) ?_
              conv => whnf
              rw [show ((n : Int) + 2) = ((n + 2 : Nat) : Int) by omega]
              refine ⟨_, fun w' _ => run_slice_lohi TTok (t := 81) rfl rfl 2 (n + 2) (by omega) (by omega), ?_⟩
              conv => whnf
              refine ⟨_, fun w' hx' => conv_bytes (hT := TTok) (l := pk) rfl rfl rfl (by rw [hml]; omega) (fun q hq => by
                have hv : (bytesV pk)[q]? = some (.int .u8 ((pk[q]'(by omega)).toNat : Nat)) := bytesV_get (List.getElem?_eq_getElem (by omega))
                rw [hv]; exact Ext.cell hx' ((hmid q (by omega)).trans hv)), ?_⟩
              conv => whnf
              refine ⟨place, ⟨by first | rfl | omega, by omega⟩, ?_⟩
              conv => whnf
              intro w hx
              try (have hp := hp.call hx)
              conv => whnf
              rw [show addM 0 place 1 = place by rw [addM_eq]; omega]
              refine hp.kstR (t := 9) TTok rfl (j + 6) hj (off := place) (v := .string ⟨pk.toArray⟩) (by omega) rfl rfl fun w hp => ?_
              simp only [List.set_cons_succ] at hp
              rw [sw_set] at hp
              conv => whnf
              refine hKq _ _ _ (V.Sub.refl _) ?_
              clear hKq Kq
              conv => whnf
              refine VSeq.mk fun Kq hKq => ?_
              conv => whnf
              refine hKq _ _ _ (V.Sub.refl _) ?_
              clear hKq Kq
              conv => whnf
              refine ⟨hp.get (i := 0) rfl, ?_⟩
              have hp := hp.shut (i := 0) rfl (o' := .deferred none)
              simp only [List.set_cons_zero] at hp
              conv => whnf
              rw [hb, hsome]
              exact ⟨rfl, hp.tail.tail.tail.tail.tail.tail⟩
  clear hKq
  refine v_mt TTok FFok mixed 9 (.q 0 (.q 1 (.q 2 (.q 3 (.q 4 (.q 5 (.q 6 (.br 7 8 (.m 8 .nil) (.m 7 .nil))))))))) (by kernel_rfl) ?_
  conv => whnf
  refine ⟨_, fun w' hx' => Blk.ld (Blk.ext (hp.get (i := 2) rfl) hx') TTok rfl (rfl), ?_⟩
  conv => whnf
  refine ⟨_, fun w' hx' => Blk.ld (Blk.ext (hp.get (i := i + 3) hi) hx') TTok rfl rfl, ?_⟩
  conv => whnf
  refine ⟨_, fun w' hx' => Blk.ld (Blk.ext (hp.get (i := 1) rfl) hx') TTok rfl (rfl), ?_⟩
  conv => whnf
  refine ⟨line, ⟨by first | rfl | omega, by omega⟩, ?_⟩
  conv => whnf
  refine ⟨_, fun w' hx' => run_ld TTok rfl (by rw [addM_eq, Nat.mul_one, Nat.zero_add]; exact Ext.cell hx' (row_cell (hp.get (i := k + 3) hk) (sw_get hcl))), ?_⟩
  conv => whnf
  refine And.intro ?_ ?_
  · intro w hx
    try (have hp := hp.call hx)
    conv => whnf
    refine hp.kbytesO TTok rfl rfl rfl (by unfold maxLen; omega) fun v1 w hp hx => ?_
    obtain ⟨p1, c1, rfl⟩ := OB.shape (hp.get (i := 0) rfl)
    conv => whnf
    refine And.intro hx ?_
    intro w hx
    try (have hp := hp.call hx)
    conv => whnf
    refine hp.kalloc z81 fun ab w hp hx => ?_
    conv => whnf
    refine And.intro hx ?_
    intro w hx
    try (have hp := hp.call hx)
    conv => whnf
    refine hp.kst1 TTok (by rfl) 0 (by rfl) (by rfl) (by rfl) (by simp) fun w hp => ?_
    try simp only [List.set_cons_zero, List.set_cons_succ, EV.val] at hp
    conv => whnf
    exact hK _ _ _ hp _ (sub_cons rfl (sub_cons rfl (sub_cons rfl (sub_cons rfl sub_nil))))
  · intro w hx
    try (have hp := hp.call hx)
    conv => whnf
    refine hp.kalloc z81 fun ab w hp hx => ?_
    conv => whnf
    refine And.intro hx ?_
    intro w hx
    try (have hp := hp.call hx)
    conv => whnf
    refine hp.kbytesO TTok rfl rfl rfl (by unfold maxLen; omega) fun v1 w hp hx => ?_
    obtain ⟨p1, c1, rfl⟩ := OB.shape (hp.get (i := 0) rfl)
    conv => whnf
    refine And.intro hx ?_
    intro w hx
    try (have hp := hp.call hx)
    conv => whnf
    refine hp.kst1 TTok (by rfl) 1 (by rfl) (by rfl) (by rfl) (by simp) fun w hp => ?_
    try simp only [List.set_cons_zero, List.set_cons_succ, EV.val] at hp
    conv => whnf
    exact hK _ _ _ (hp.perm (List.Perm.swap _ _ _)) _ (sub_cons rfl (sub_cons rfl (sub_cons rfl (sub_cons rfl sub_nil))))
end Go.Proofs.YtpiilfamfinieaaDoor
