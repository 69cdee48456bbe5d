/- Chapter 27: the reference: unform, Same, Block. -/
import Derived.Test.YtpiilfamfinieaaDoorC27R
namespace Go.Proofs.YtpiilfamfinieaaDoor
set_option linter.unusedSimpArgs false
set_option linter.unusedVariables false
open Go.RowKit V
def unfV : Option ByteArray → Value
  | some p => .tuple #[.string p, .bool true]
  | none => .tuple #[.string ⟨#[]⟩, .bool false]
theorem unform_p (s : ByteArray) (hs : s.size ≤ 2000000) : PureF Tryd.prog 46 #[.string s] (unfV (unfL s.data.toList)) := by
  have hsl := toList_len s
  obtain ⟨b, hb⟩ : ∃ b, s.data.toList = b := ⟨_, rfl⟩
  rw [hb] at hsl ⊢
  first | refine v_pure TTok FFok Tryd.func46 rfl rfl fun w0 => ?_ | refine v_pure (args := []) TTok FFok Tryd.func46 rfl rfl fun w0 => ?_
  conv => whnf
  refine VSeq.mk fun Kq hKq => ?_
  conv => whnf
  refine hKq _ _ _ (V.Sub.refl _) ?_
  clear hKq Kq
  conv => whnf
  refine VSeq.mk fun Kq hKq => ?_
  conv => whnf
  refine VSeq.mk fun Kq hKq => ?_
  conv => whnf
  refine hKq _ _ _ (V.Sub.refl _) ?_
  clear hKq Kq
  conv => whnf
  refine ⟨fun hlt => ?_, fun hlt => ?_⟩
  · have hlt := of_decide_eq_true hlt
    conv => whnf
    refine VSeq.mk fun Kq hKq => ?_
    conv => whnf
    refine hKq _ _ _ (V.Sub.refl _) ?_
    clear hKq Kq
    conv => whnf
    have hnone : unfL b = none := by unfold unfL; rw [if_pos (by omega)]
    rw [hnone]
    exact ⟨rfl, Ext.refl _⟩
  · have hlt := of_decide_eq_false hlt
    conv => whnf
    refine hKq _ _ _ (V.Sub.refl _) ?_
    clear hKq Kq
    conv => whnf
    refine VSeq.mk fun Kq hKq => ?_
    conv => whnf
    have hg0 : b[0]? = some b[0] := List.getElem?_eq_getElem (by omega)
    have hg1 : b[1]? = some b[1] := List.getElem?_eq_getElem (by omega)
    have hun : unfL b = if 1100 < 256 * b[0].toNat + b[1].toNat ∨ b.length < 256 * b[0].toNat + b[1].toNat + 2 ∨ (b.drop (256 * b[0].toNat + b[1].toNat + 2)).any nz = true then none else some ⟨((b.drop 2).take (256 * b[0].toNat + b[1].toNat)).toArray⟩ := by
      unfold unfL; rw [if_neg (by omega), List.getD_eq_getElem?_getD, List.getD_eq_getElem?_getD, hg0, hg1]; rfl
    have hl0 := UInt8.toNat_lt b[0]
    have hl1 := UInt8.toNat_lt b[1]
    have hy0 : byt s 0 = b[0].toNat := by subst hb; exact byt_at s 0 (by omega)
    have hy1 : byt s 1 = b[1].toNat := by subst hb; exact byt_at s 1 (by omega)
    generalize b[0] = b0 at hg0 hun hl0 hy0
    generalize b[1] = b1 at hg1 hun hl1 hy1
    refine v_mixA TTok FFok mixed [(0, false), (1, false), (2, false), (3, false), (4, false), (5, false), (6, false), (7, false), (8, false)] (by kernel_rfl) ?_
    conv => whnf
    refine ⟨0, ⟨by first | rfl | omega, by omega⟩, ?_⟩
    conv => whnf
    refine And.intro (by omega) ?_
    conv => whnf
    refine And.intro (by omega) ?_
    conv => whnf
    rw [hy0]
    conv => whnf
    refine ⟨1, ⟨by first | rfl | omega, by omega⟩, ?_⟩
    conv => whnf
    refine And.intro (by omega) ?_
    conv => whnf
    refine And.intro (by omega) ?_
    conv => whnf
    rw [hy1]
    obtain ⟨n, hn⟩ : ∃ n, 256 * b0.toNat + b1.toNat = n := ⟨_, rfl⟩
    have hn6 : n < 65536 := by omega
    rw [hn] at hun
    rw [show ((256 : Int) * (b0.toNat : Int) + (b1.toNat : Int)) = (n : Int) by omega]
    intro w hx
    try (have hp := hp.call hx)
    conv => whnf
    refine hKq _ _ _ (V.Sub.refl _) ?_
    clear hKq Kq
    conv => whnf
    refine VSeq.mk fun Kq hKq => ?_
    conv => whnf
    refine VSeq.mk fun Kq hKq => ?_
    conv => whnf
    refine VSeq.mk fun Kq hKq => ?_
    conv => whnf
    refine hKq _ _ _ (V.Sub.refl _) ?_
    clear hKq Kq
    conv => whnf
    refine ⟨fun hB => ?_, fun hB => ?_⟩
    · have hB := of_decide_eq_true hB
      conv => whnf
      refine hKq _ _ _ (V.Sub.refl _) ?_
      clear hKq Kq
      conv => whnf
      refine VSeq.mk fun Kq hKq => ?_
      conv => whnf
      refine hKq _ _ _ (V.Sub.refl _) ?_
      clear hKq Kq
      conv => whnf
      have hnone : unfL b = none := by rw [hun, if_pos (.inl (by omega))]
      rw [hnone]
      exact ⟨rfl, hx⟩
    · have hB := of_decide_eq_false hB
      conv => whnf
      refine And.intro (by omega) ?_
      conv => whnf
      refine hKq _ _ _ (V.Sub.refl _) ?_
      clear hKq Kq
      conv => whnf
      refine ⟨fun hS => ?_, fun hS => ?_⟩
      · have hS := of_decide_eq_true hS
        conv => whnf
        refine VSeq.mk fun Kq hKq => ?_
        conv => whnf
        refine hKq _ _ _ (V.Sub.refl _) ?_
        clear hKq Kq
        conv => whnf
        have hnone : unfL b = none := by rw [hun, if_pos (.inr (.inl (by omega)))]
        rw [hnone]
        exact ⟨rfl, hx⟩
      · have hS := of_decide_eq_false hS
        conv => whnf
        refine hKq _ _ _ (V.Sub.refl _) ?_
        clear hKq Kq
        conv => whnf
        refine VSeq.mk fun Kq hKq => ?_
        conv => whnf
        refine VSeq.mk fun Kq hKq => ?_
        conv => whnf
        refine And.intro (by omega) ?_
        conv => whnf
        refine hKq _ _ _ (V.Sub.refl _) ?_
        clear hKq Kq
        conv => whnf
        refine ⟨fun m l w => ∃ k : Nat, m + k = s.size ∧ n + 2 ≤ k ∧ l = [(0, .v (.string s)), (4, .v (.int .i64 n)), (5, .v (.int .i64 k))] ∧ ((b.drop (n + 2)).take (k - (n + 2))).any nz = false ∧ Ext w0 w,
          ⟨s.size - (n + 2), _, ⟨n + 2, by omega, Nat.le_refl _, rfl, by simp, hx⟩, sub_cons rfl (sub_cons rfl (sub_cons (look_int rfl (by omega)) sub_nil))⟩, ?_⟩
        clear hx
        rintro m _ w ⟨k, hm, hnk, rfl, hal, hx⟩
        conv => whnf
        refine VSeq.mk fun Kq hKq => ?_
        conv => whnf
        refine VSeq.mk fun Kq hKq => ?_
        conv => whnf
        refine hKq _ _ _ (V.Sub.refl _) ?_
        clear hKq Kq
        conv => whnf
        refine ⟨fun hlt2 => ?_, fun hlt2 => ?_⟩
        · have hlt2 := of_decide_eq_true hlt2
          conv => whnf
          refine hKq _ _ _ (V.Sub.refl _) ?_
          clear hKq Kq
          conv => whnf
          refine VSeq.mk fun Kq hKq => ?_
          conv => whnf
          refine VSeq.mk fun Kq hKq => ?_
          conv => whnf
          have hk : k < b.length := by omega
          have hgk : b[k]? = some b[k] := List.getElem?_eq_getElem hk
          have hyk : byt s k = b[k].toNat := by subst hb; exact byt_at s k (by omega)
          have hsn : (b.drop (n + 2)).take (k + 1 - (n + 2)) = (b.drop (n + 2)).take (k - (n + 2)) ++ [b[k]] := by
            rw [show k + 1 - (n + 2) = (k - (n + 2)) + 1 by omega]
            exact take_snoc (by rw [List.getElem?_drop, show n + 2 + (k - (n + 2)) = k by omega]; exact hgk)
          have hin : b[k] ∈ b.drop (n + 2) := by
            have : (b.drop (n + 2))[k - (n + 2)]? = some b[k] := by rw [List.getElem?_drop, show n + 2 + (k - (n + 2)) = k by omega]; exact hgk
            exact List.mem_of_getElem? this
          generalize b[k] = x at hgk hyk hsn hin
          have hxz : (((x.toNat : Nat) : Int) = 0) ↔ x = 0 := by
            rw [Int.natCast_eq_zero]
            exact ⟨fun h => UInt8.toNat_inj.1 h, fun h => by rw [h]; rfl⟩
          refine ⟨k, ⟨by first | rfl | omega, by omega⟩, ?_⟩
          conv => whnf
          refine hKq _ _ _ (V.Sub.refl _) ?_
          clear hKq Kq
          conv => whnf
          rw [hyk]
          conv => whnf
          refine ⟨fun hz => ?_, fun hz => ?_⟩
          · have hz := of_decide_eq_true hz
            conv => whnf
            refine VSeq.mk fun Kq hKq => ?_
            conv => whnf
            refine hKq _ _ _ (V.Sub.refl _) ?_
            clear hKq Kq
            conv => whnf
            have hnone : unfL b = none := by rw [hun, if_pos (.inr (.inr (List.any_eq_true.2 ⟨x, hin, by unfold nz; rw [decide_eq_true_iff]; exact fun e => hz (hxz.2 e)⟩)))]
            rw [hnone]
            exact ⟨rfl, hx⟩
          · have hz := of_decide_eq_false hz
            conv => whnf
            refine hKq _ _ _ (V.Sub.refl _) ?_
            clear hKq Kq
            conv => whnf
            refine And.intro (by omega) ?_
            conv => whnf
            refine ⟨m - 1, _, by omega, ⟨k + 1, by omega, by omega, rfl, ?_, hx⟩, sub_cons rfl (sub_cons rfl (sub_cons rfl sub_nil))⟩
            have : x = 0 := hxz.1 (Decidable.not_not.1 hz)
            rw [hsn, List.any_append, hal, this]; rfl
        · have hlt2 := of_decide_eq_false hlt2
          conv => whnf
          clear hKq Kq
          refine hKq _ _ _ (V.Sub.refl _) ?_
          clear hKq Kq
          conv => whnf
          refine VSeq.mk fun Kq hKq => ?_
          conv => whnf
          refine And.intro (by omega) ?_
          conv => whnf
          rw [List.take_of_length_le (by rw [List.length_drop]; omega)] at hal
          have hsome : unfL b = some ⟨((b.drop 2).take n).toArray⟩ := by rw [hun, if_neg (by rintro (h | h | h); omega; omega; rw [hal] at h; cases h)]
          refine ⟨2, n + 2, ⟨by first | rfl | omega, by first | rfl | omega, by omega, by omega⟩, ?_⟩
          conv => whnf
          refine hKq _ _ _ (V.Sub.refl _) ?_
          clear hKq Kq
          conv => whnf
          refine ⟨?_, hx⟩
          rw [hsome]
          show Value.tuple #[.string (s.extract 2 (n + 2)), .bool true] = Value.tuple #[.string _, .bool true]
          congr 4
          apply ByteArray.ext
          apply Array.ext'
          subst hb
          rw [ext_toList, List.drop_take]
          simp
theorem Same_c {W : World} {va vb : Value} (A B : List ByteArray) (ha : SLv W va (sw A)) (hb : SLv W vb (sw B)) (hl : A.length ≤ 1000) (hl2 : B.length ≤ 1000) :
    Calls Tryd.prog 18 #[va, vb] W fun e w' => e = .returned (.bool (decide (A = B))) ∧ Ext W w' := by
  obtain ⟨p, cc, rfl⟩ := ha.shape
  obtain ⟨p2, cc2, rfl⟩ := hb.shape
  simp only [sw_len] at ha hb ⊢
  refine v_reads (args := [.slice p A.length cc, .slice p2 B.length cc2]) TTok FFok Tryd.func18 rfl rfl ?_
  conv => whnf
  refine VSeq.mk fun Kq hKq => ?_
  conv => whnf
  refine hKq _ _ _ (V.Sub.refl _) ?_
  clear hKq Kq
  conv => whnf
  refine VSeq.mk fun Kq hKq => ?_
  conv => whnf
  refine VSeq.mk fun Kq hKq => ?_
  conv => whnf
  refine hKq _ _ _ (V.Sub.refl _) ?_
  clear hKq Kq
  conv => whnf
  refine ⟨fun hne => ?_, fun hne => ?_⟩
  · have hne := of_decide_eq_true hne
    conv => whnf
    refine VSeq.mk fun Kq hKq => ?_
    conv => whnf
    refine hKq _ _ _ (V.Sub.refl _) ?_
    clear hKq Kq
    conv => whnf
    exact ⟨congrArg Value.bool (decide_eq_false (fun e => hne (by rw [e]))).symm, Ext.refl _⟩
  · have hne := of_decide_eq_false hne
    conv => whnf
    refine hKq _ _ _ (V.Sub.refl _) ?_
    clear hKq Kq
    conv => whnf
    refine VSeq.mk fun Kq hKq => ?_
    conv => whnf
    refine VSeq.mk fun Kq hKq => ?_
    conv => whnf
    refine hKq _ _ _ (V.Sub.refl _) ?_
    clear hKq Kq
    conv => whnf
    have hlen : A.length = B.length := by omega
    refine ⟨fun m l w => ∃ k : Nat, m + k = A.length ∧ l = [(0, .v (.slice p A.length cc)), (1, .v (.slice p2 B.length cc2)), (5, .v (.int .i64 k))] ∧ A.take k = B.take k ∧ Ext W w,
      ⟨A.length, _, ⟨0, rfl, rfl, rfl, Ext.refl _⟩, sub_cons rfl (sub_cons rfl (sub_cons rfl sub_nil))⟩, ?_⟩
    rintro m _ w ⟨k, hm, rfl, htk, hx⟩
    conv => whnf
    refine VSeq.mk fun Kq hKq => ?_
    conv => whnf
    refine VSeq.mk fun Kq hKq => ?_
    conv => whnf
    refine hKq _ _ _ (V.Sub.refl _) ?_
    clear hKq Kq
    conv => whnf
    refine ⟨fun hlt => ?_, fun hlt => ?_⟩
    · have hlt := of_decide_eq_true hlt
      conv => whnf
      refine hKq _ _ _ (V.Sub.refl _) ?_
      clear hKq Kq
      conv => whnf
      refine VSeq.mk fun Kq hKq => ?_
      conv => whnf
      refine VSeq.mk fun Kq hKq => ?_
      conv => whnf
      have hA : A[k]? = some A[k] := List.getElem?_eq_getElem (by omega)
      have hB : B[k]? = some B[k] := List.getElem?_eq_getElem (by omega)
      generalize A[k] = x at hA
      generalize B[k] = y at hB
      obtain ⟨g, off, rfl, hc1⟩ := ha.at (sw_get hA)
      obtain ⟨g2, off2, rfl, hc2⟩ := hb.at (sw_get hB)
      refine v_mixA TTok FFok mixed [(0, false), (1, false), (2, false), (3, false), (4, false), (5, false), (6, false), (7, false), (8, false)] (by kernel_rfl) ?_
      conv => whnf
      refine ⟨k, ⟨by first | rfl | omega, by omega⟩, ?_⟩
      conv => whnf
      refine ⟨_, fun w' hx' => run_ld TTok rfl (by rw [addM_eq, Nat.mul_one]; exact Ext.cell (hx.trans hx') hc1), ?_⟩
      conv => whnf
      refine ⟨k, ⟨by first | rfl | omega, by omega⟩, ?_⟩
      conv => whnf
      refine ⟨_, fun w' hx' => run_ld TTok rfl (by rw [addM_eq, Nat.mul_one]; exact Ext.cell (hx.trans hx') hc2), ?_⟩
      conv => whnf
      intro w hx2
      have hx := hx.trans hx2
      conv => whnf
      refine hKq _ _ _ (V.Sub.refl _) ?_
      clear hKq Kq
      conv => whnf
      refine ⟨fun hd => ?_, fun hd => ?_⟩
      · have hd := of_decide_eq_true hd
        conv => whnf
        refine VSeq.mk fun Kq hKq => ?_
        conv => whnf
        refine hKq _ _ _ (V.Sub.refl _) ?_
        clear hKq Kq
        conv => whnf
        exact ⟨congrArg Value.bool (decide_eq_false (fun e => hd (by subst e; rw [hA] at hB; exact Option.some.inj hB))).symm, hx⟩
      · have hd := of_decide_eq_false hd
        conv => whnf
        refine hKq _ _ _ (V.Sub.refl _) ?_
        clear hKq Kq
        conv => whnf
        refine And.intro (by omega) ?_
        conv => whnf
        have hxy : x = y := Decidable.not_not.1 hd
        exact ⟨m - 1, _, by omega, ⟨k + 1, by omega, rfl, by rw [take_snoc hA, take_snoc hB, htk, hxy], hx⟩, sub_cons rfl (sub_cons rfl (sub_cons rfl sub_nil))⟩
    · have hlt := of_decide_eq_false hlt
      conv => whnf
      clear hKq Kq
      refine hKq _ _ _ (V.Sub.refl _) ?_
      clear hKq Kq
      conv => whnf
      refine VSeq.mk fun Kq hKq => ?_
      conv => whnf
      refine hKq _ _ _ (V.Sub.refl _) ?_
      clear hKq Kq
      conv => whnf
      rw [List.take_of_length_le (by omega), List.take_of_length_le (by omega)] at htk
      exact ⟨congrArg Value.bool (decide_eq_true htk).symm, hx⟩
theorem rBlock_c {W : World} {v : Value} (r c : Nat) (h : Shp r c) (L : List ByteArray) (hv : SLv W v (sw L)) :
    Calls Tryd.prog 16 #[.int .i64 r, .int .i64 c, v] W fun e w' => e = .returned (.bool (blockB (r * c) L)) ∧ Ext W w' := by
  obtain ⟨p, cc, rfl⟩ := hv.shape
  simp only [sw_len] at hv ⊢
  have hrc : r * c ≤ 6 * 8 := Nat.mul_le_mul (by unfold Shp at h; omega) (by unfold Shp at h; omega)
  have he : (r : Int) * (c : Int) = ((r * c : Nat) : Int) := by simp
  have hr : r ≤ 6 := by unfold Shp at h; omega
  have hc : c ≤ 8 := by unfold Shp at h; omega
  refine v_reads (args := [.int .i64 r, .int .i64 c, .slice p L.length cc]) TTok FFok Tryd.func16 rfl rfl ?_
  conv => whnf
  refine VSeq.mk fun Kq hKq => ?_
  conv => whnf
  refine hKq _ _ _ (V.Sub.refl _) ?_
  clear hKq Kq
  conv => whnf
  refine VSeq.mk fun Kq hKq => ?_
  conv => whnf
  refine VSeq.mk fun Kq hKq => ?_
  conv => whnf
  refine And.intro (by omega) ?_
  conv => whnf
  refine hKq _ _ _ (V.Sub.refl _) ?_
  clear hKq Kq
  conv => whnf
  rw [he]
  conv => whnf
  refine ⟨fun hne => ?_, fun hne => ?_⟩
  · have hne := of_decide_eq_true hne
    conv => whnf
    refine VSeq.mk fun Kq hKq => ?_
    conv => whnf
    refine hKq _ _ _ (V.Sub.refl _) ?_
    clear hKq Kq
    conv => whnf
    exact ⟨congrArg Value.bool (by unfold blockB; rw [decide_eq_false (by omega)]; rfl), Ext.refl _⟩
  · have hne := of_decide_eq_false hne
    conv => whnf
    refine hKq _ _ _ (V.Sub.refl _) ?_
    clear hKq Kq
    conv => whnf
    refine VSeq.mk fun Kq hKq => ?_
    conv => whnf
    refine VSeq.mk fun Kq hKq => ?_
    conv => whnf
    refine hKq _ _ _ (V.Sub.refl _) ?_
    clear hKq Kq
    conv => whnf
    have hlen : L.length = r * c := by omega
    refine ⟨fun m l w => ∃ k : Nat, m + k = L.length ∧ l = [(2, .v (.slice p L.length cc)), (7, .v (.int .i64 k))] ∧ (L.take k).any big = false ∧ Ext W w,
      ⟨L.length, _, ⟨0, rfl, rfl, by simp, Ext.refl _⟩, sub_cons rfl (sub_cons rfl sub_nil)⟩, ?_⟩
    rintro m _ w ⟨k, hm, rfl, hal, hx⟩
    conv => whnf
    refine VSeq.mk fun Kq hKq => ?_
    conv => whnf
    refine VSeq.mk fun Kq hKq => ?_
    conv => whnf
    refine hKq _ _ _ (V.Sub.refl _) ?_
    clear hKq Kq
    conv => whnf
    refine ⟨fun hlt => ?_, fun hlt => ?_⟩
    · have hlt := of_decide_eq_true hlt
      conv => whnf
      refine hKq _ _ _ (V.Sub.refl _) ?_
      clear hKq Kq
      conv => whnf
      refine VSeq.mk fun Kq hKq => ?_
      conv => whnf
      refine VSeq.mk fun Kq hKq => ?_
      conv => whnf
      have hA : L[k]? = some L[k] := List.getElem?_eq_getElem (by omega)
      have hmem : L[k]'(by omega) ∈ L := List.getElem_mem (by omega)
      generalize L[k]'(by omega) = x at hA hmem
      obtain ⟨g, off, rfl, hc1⟩ := hv.at (sw_get hA)
      refine ⟨k, ⟨by first | rfl | omega, by omega⟩, ?_⟩
      conv => whnf
      refine ⟨_, _, run_ld TTok rfl (by rw [addM_eq, Nat.mul_one]; exact Ext.cell hx hc1), ?_⟩
      conv => whnf
      refine hKq _ _ _ (V.Sub.refl _) ?_
      clear hKq Kq
      conv => whnf
      refine ⟨fun hbg => ?_, fun hbg => ?_⟩
      · have hbg := of_decide_eq_true hbg
        conv => whnf
        refine VSeq.mk fun Kq hKq => ?_
        conv => whnf
        refine hKq _ _ _ (V.Sub.refl _) ?_
        clear hKq Kq
        conv => whnf
        exact ⟨congrArg Value.bool (by unfold blockB; rw [List.any_eq_true.2 ⟨x, hmem, by unfold big; rw [decide_eq_true_iff]; omega⟩]; simp), hx⟩
      · have hbg := of_decide_eq_false hbg
        conv => whnf
        refine hKq _ _ _ (V.Sub.refl _) ?_
        clear hKq Kq
        conv => whnf
        refine And.intro (by omega) ?_
        conv => whnf
        refine ⟨m - 1, _, by omega, ⟨k + 1, by omega, rfl, ?_, hx⟩, sub_cons rfl (sub_cons rfl sub_nil)⟩
        rw [take_snoc hA, List.any_append, hal]
        unfold big
        simp; omega
    · have hlt := of_decide_eq_false hlt
      conv => whnf
      clear hKq Kq
      refine hKq _ _ _ (V.Sub.refl _) ?_
      clear hKq Kq
      conv => whnf
      refine VSeq.mk fun Kq hKq => ?_
      conv => whnf
      refine hKq _ _ _ (V.Sub.refl _) ?_
      clear hKq Kq
      conv => whnf
      rw [List.take_of_length_le (by omega)] at hal
      exact ⟨congrArg Value.bool (by unfold blockB; rw [decide_eq_true hlen, hal]; rfl), hx⟩
end Go.Proofs.YtpiilfamfinieaaDoor
