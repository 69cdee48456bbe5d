/- Chapter 27: packets joined. -/
import Derived.Test.YtpiilfamfinieaaDoorC27E
import Derived.Test.YtpiilfamfinieaaDoorC27H
import Derived.Test.YtpiilfamfinieaaDoorOB
namespace Go.Proofs.YtpiilfamfinieaaDoor
set_option linter.unusedSimpArgs false
set_option linter.unusedVariables false
open Go.RowKit V
theorem mix1_c {M : List Nat} {w0 w : World} {H : List It} (hp : HpM M w0 w H) (i j tb : Nat) {v : Value} {xs : List Value} (hi : H[i]? = some (blk tb [v] 81)) (hj : H[j]? = some (ob 5 v xs)) (m : Nat) (hm : m ≤ 70368744177664) (hl : xs.length ≤ 70368744177664) :
    Calls Tryd.prog 60 #[.int .i64 (m : Nat), .pointer (some ⟨tb, 0, none⟩)] w fun e w' => ∃ u, e = .returned u ∧ ∃ v', u = v' ∧ HpM M w0 w' (H.set j (ob 5 v' (xs ++ List.replicate (m - xs.length) (.int .u8 0)))) := by
  refine v_fn (args := [.int .i64 (m : Nat), .pointer (some ⟨tb, 0, none⟩)]) TTok FFok Tryd.func60 rfl (Nat.le_of_ble_eq_true rfl) ?_
  obtain ⟨p, c, rfl⟩ := OB.shape (hp.get hj : OB _ _ _ _)
  conv => whnf
  refine VSeq.mk fun Kq hKq => ?_
  conv => whnf
  refine hKq _ _ _ (V.Sub.refl _) ?_
  clear hKq Kq
  conv => whnf
  refine VSeq.mk fun Kq hKq => ?_
  conv => whnf
  refine ⟨_, _, Blk.ld (hp.get hi) TTok rfl rfl, ?_⟩
  conv => whnf
  refine ⟨_, _, Blk.ld (hp.get hi) TTok rfl rfl, ?_⟩
  conv => whnf
  refine And.intro (by omega) ?_
  conv => whnf
  rw [show max (0 : Int) ((m : Int) - (xs.length : Int)) = ((m - xs.length : Nat) : Int) by omega]
  refine hp.kappZO sl81 z5 rfl j hj (tab_int TTok rfl) (by omega) (by unfold maxLen; omega) fun v' w hp => ?_
  conv => whnf
  refine hKq _ _ _ (V.Sub.refl _) ?_
  clear hKq Kq
  conv => whnf
  exact ⟨v', rfl, hp⟩
theorem OB.own' {w : World} {e : Nat} {v : Value} {xs : List Value} (h : OB w e v xs) (hx : 0 < xs.length) : ∃ g c, v = .slice (some ⟨g, 0, none⟩) xs.length c := by
  rcases h with ⟨_, rfl⟩ | ⟨g, zs, rfl, _, _⟩
  · simp at hx
  · exact ⟨g, _, rfl⟩
theorem bytesV_set1 (l : List UInt8) (i : Nat) (b : UInt8) : (bytesV l).set i (.int .u8 (b.toNat : Nat)) = bytesV (l.set i b) := by
  simp [bytesV, List.map_set]
theorem bytesV_zeros (l : List UInt8) (n : Nat) : bytesV l ++ List.replicate n (.int .u8 0) = bytesV (l ++ List.replicate n 0) := by
  simp [bytesV, List.map_append, List.map_replicate]
theorem mix_t (v : Value) (bs : List UInt8) (p : ByteArray) (hb : bs.length ≤ 1048576) (hpz : p.size ≤ 1048576) :
    TakesF Tryd.prog 36 #[v, .string p] (ob 5 v (bytesV bs)) (fun v' => ob 5 v' (bytesV (px bs (formL p.data.toList)))) := by
  intro W hh hlo
  obtain ⟨p0, c0, rfl⟩ := OB.shape hh
  have hp := HpM.took (ob_ok _ _ _) hh hlo
  generalize (ob 5 (.slice p0 (bytesV bs).length c0) (bytesV bs)).own.toList = MM at hp ⊢
  refine v_fn (args := [.slice p0 (bytesV bs).length c0, .string p]) TTok FFok Tryd.func36 rfl (Nat.le_of_ble_eq_true rfl) ?_
  conv => whnf
  refine VSeq.mk fun Kq hKq => ?_
  conv => whnf
  refine hp.kbox ([.slice p0 (bytesV bs).length c0]) rfl fun tb w hp hx => ?_
  conv => whnf
  refine hKq _ _ _ (V.Sub.refl _) ?_
  clear hKq Kq
  conv => whnf
  refine VSeq.mk fun Kq hKq => ?_
  conv => whnf
  refine hKq _ _ _ (V.Sub.refl _) ?_
  clear hKq Kq
  conv => whnf
  refine VSeq.mk fun Kq hKq => ?_
  conv => whnf
  refine And.intro (by omega) ?_
  conv => whnf
  refine (mix1_c hp 0 1 tb rfl rfl (p.size + 2) (by omega) (by simp [bytesV]; omega)).mono ?_
  rintro e w ⟨u, rfl, v1, rfl, hp⟩
  obtain ⟨F, hF⟩ : ∃ F, formL p.data.toList = F := ⟨_, rfl⟩
  have hFl : F.length = p.size + 2 := by rw [← hF, formL_len, toList_len]
  rw [bytesV_zeros, bytesV_len, show p.size + 2 = F.length from hFl.symm, ← mixJ_zero] at hp
  simp only [List.set_cons_zero, List.set_cons_succ] at hp
  have hlen : ∀ j, (mixJ bs F j).length = max bs.length (p.size + 2) := fun j => by rw [mixJ_len, hFl]
  obtain ⟨g, c1, rfl⟩ := OB.own' (hp.get (i := 1) rfl) (by rw [bytesV_len, hlen]; omega)
  rw [bytesV_len, hlen] at hp ⊢
  refine ⟨_, rfl, ?_⟩
  conv => whnf
  refine hp.kst1 TTok (by rfl) 0 (by rfl) (by rfl) (by rfl) (by simp) fun w hp => ?_
  try simp only [List.set_cons_zero, List.set_cons_succ, EV.val] at hp
  conv => whnf
  refine hKq _ _ _ (V.Sub.refl _) ?_
  clear hKq Kq
  conv => whnf
  refine VSeq.mk fun Kq hKq => ?_
  conv => whnf
  have hst : ∀ (j : Nat) (w' : World), j < F.length → OB w' 5 (.slice (some ⟨g, 0, none⟩) (max bs.length (p.size + 2)) c1) (bytesV (mixJ bs F j)) → w'.cell? ⟨g, j, none⟩ = some (.int .u8 ((bs.getD j 0).toNat : Nat)) := by
    intro j w' hj ho
    have hge := bytesV_get (mixJ_get bs F j hj)
    have ho' : OB w' 5 (.slice (some ⟨g, 0, none⟩) (bytesV (mixJ bs F j)).length c1) (bytesV (mixJ bs F j)) := by rw [bytesV_len, hlen]; exact ho
    obtain ⟨g', e, hc⟩ := OB.at ho' hge
    cases e
    exact hc
  refine ⟨_, _, Blk.ld (hp.get (i := 0) rfl) TTok rfl (rfl), ?_⟩
  conv => whnf
  refine ⟨0, ⟨by first | rfl | omega, by omega⟩, ?_⟩
  conv => whnf
  refine ⟨_, _, run_ld TTok rfl (by rw [addM_eq, Nat.mul_one, Nat.zero_add]; exact hst 0 _ (by omega) (hp.get (i := 1) rfl)), ?_⟩
  conv => whnf
  refine ⟨8, ⟨by first | rfl | omega, by omega⟩, ?_⟩
  conv => whnf
  have hF0 : (F.getD 0 0).toNat = p.size / 256 % 256 := by rw [← hF]; simp [formL]
  have hF1 : (F.getD 1 0).toNat = p.size % 256 := by rw [← hF]; simp [formL]
  have hb0 := UInt8.toNat_lt (bs.getD 0 0)
  have hb1 := UInt8.toNat_lt (bs.getD 1 0)
  rw [show ((p.size : Int) / 2 ^ 8 % 256) = ((p.size / 256 % 256 : Nat) : Int) by simp]
  conv => whnf
  refine ⟨(bs.getD 0 0).toNat, p.size / 256 % 256, (bs.getD 0 0 ^^^ F.getD 0 0).toNat, ⟨by first | rfl | omega, by first | rfl | omega, by omega, by omega⟩, by (dsimp only; (rw [UInt8.toNat_xor, hF0])), ?_⟩
  conv => whnf
  refine ⟨0, ⟨by first | rfl | omega, by omega⟩, ?_⟩
  conv => whnf
  rw [show addM 0 0 1 = 0 by rw [addM_eq]]
  refine hp.kstO (t := 5) TTok rfl 1 rfl (off := 0) (v := .int .u8 ((bs.getD 0 0 ^^^ F.getD 0 0).toNat : Nat)) (by rw [bytesV_len, hlen]; omega) rfl rfl fun w hp => ?_
  rw [bytesV_set1, mixJ_set _ _ _ (by omega)] at hp
  simp only [List.set_cons_zero, List.set_cons_succ] at hp
  conv => whnf
  refine hKq _ _ _ (V.Sub.refl _) ?_
  clear hKq Kq
  conv => whnf
  refine VSeq.mk fun Kq hKq => ?_
  conv => whnf
  refine ⟨_, _, Blk.ld (hp.get (i := 0) rfl) TTok rfl (rfl), ?_⟩
  conv => whnf
  refine ⟨1, ⟨by first | rfl | omega, by omega⟩, ?_⟩
  conv => whnf
  refine ⟨_, _, run_ld TTok rfl (by rw [addM_eq, Nat.mul_one, Nat.zero_add]; exact hst 1 _ (by omega) (hp.get (i := 1) rfl)), ?_⟩
  conv => whnf
  rw [show ((p.size : Int) % 256) = ((p.size % 256 : Nat) : Int) by simp]
  conv => whnf
  refine ⟨(bs.getD 1 0).toNat, p.size % 256, (bs.getD 1 0 ^^^ F.getD 1 0).toNat, ⟨by first | rfl | omega, by first | rfl | omega, by omega, by omega⟩, by (dsimp only; (rw [UInt8.toNat_xor, hF1])), ?_⟩
  conv => whnf
  refine ⟨1, ⟨by first | rfl | omega, by omega⟩, ?_⟩
  conv => whnf
  rw [show addM 0 1 1 = 1 by rw [addM_eq]]
  refine hp.kstO (t := 5) TTok rfl 1 rfl (off := 1) (v := .int .u8 ((bs.getD 1 0 ^^^ F.getD 1 0).toNat : Nat)) (by rw [bytesV_len, hlen]; omega) rfl rfl fun w hp => ?_
  rw [bytesV_set1, mixJ_set _ _ _ (by omega)] at hp
  simp only [List.set_cons_zero, List.set_cons_succ] at hp
  conv => whnf
  refine hKq _ _ _ (V.Sub.refl _) ?_
  clear hKq Kq
  conv => whnf
  refine VSeq.mk fun Kq hKq => ?_
  conv => whnf
  refine VSeq.mk fun Kq hKq => ?_
  conv => whnf
  refine hKq _ _ _ (V.Sub.refl _) ?_
  clear hKq Kq
  conv => whnf
  obtain ⟨vv, hvv⟩ : ∃ vv : Value, Value.slice (some ⟨g, 0, none⟩) (max bs.length (p.size + 2)) c1 = vv := ⟨_, rfl⟩
  refine ⟨fun m l w => ∃ j : Nat, m + j = p.size ∧ l = [(1, .v (.string p)), (2, .v (.pointer (some ⟨tb, 0, none⟩))), (31, .v (.int .i64 p.size)), (32, .v (.int .i64 j))] ∧
      HpM MM W w [blk tb [.slice (some ⟨g, 0, none⟩) (max bs.length (p.size + 2)) c1] 81, ob 5 (.slice (some ⟨g, 0, none⟩) (max bs.length (p.size + 2)) c1) (bytesV (mixJ bs F (j + 2)))],
    ⟨p.size, _, ⟨0, rfl, rfl, hp⟩, sub_cons rfl (sub_cons rfl (sub_cons rfl (sub_cons rfl sub_nil)))⟩, ?_⟩
  clear hp
  repeat clear hp
  rintro m _ w ⟨j, hj, rfl, hp⟩
  conv => whnf
  refine VSeq.mk fun Kq hKq => ?_
  conv => whnf
  refine hKq _ _ _ (V.Sub.refl _) ?_
  clear hKq Kq
  conv => whnf
  refine VSeq.mk fun Kq hKq => ?_
  conv => whnf
  refine ⟨fun hlt => ?_, fun hlt => ?_⟩
  · have hlt := of_decide_eq_true hlt
    conv => whnf
    refine hKq _ _ _ (V.Sub.refl _) ?_
    clear hKq Kq
    conv => whnf
    refine VSeq.mk fun Kq hKq => ?_
    conv => whnf
    refine VSeq.mk fun Kq hKq => ?_
    conv => whnf
    refine hKq _ _ _ (V.Sub.refl _) ?_
    clear hKq Kq
    conv => whnf
    have hjs : j < p.data.toList.length := by rw [toList_len]; omega
    have hS := byt_at p j hjs
    have hF2 : F.getD (j + 2) 0 = p.data.toList[j] := by rw [← hF]; show (p.data.toList).getD j 0 = _; rw [List.getD_eq_getElem?_getD, List.getElem?_eq_getElem hjs]; rfl
    rw [← hF2] at hS
    have hb2 := UInt8.toNat_lt (bs.getD (j + 2) 0)
    have hb3 := UInt8.toNat_lt (F.getD (j + 2) 0)
    have hs2 : 2 ≤ max bs.length (p.size + 2) := by omega
    refine v_mix TTok FFok mixed 10 [(0, false), (1, false), (2, false), (3, false), (4, false), (5, false), (6, false), (7, false), (8, false), (9, false)] (by kernel_rfl) ?_
    conv => whnf
    refine ⟨_, fun w' hx' => Blk.ld (Blk.ext (hp.get (i := 0) rfl) hx') TTok rfl (rfl), ?_⟩
    conv => whnf
    refine And.intro (by omega) ?_
    conv => whnf
    refine ⟨j + 2, ⟨by first | rfl | omega, by omega⟩, ?_⟩
    conv => whnf
    refine ⟨_, fun w' hx' => run_ld TTok rfl (by rw [addM_eq, Nat.mul_one, Nat.zero_add]; exact Ext.cell hx' (hst (j + 2) _ (by omega) (hp.get (i := 1) rfl))), ?_⟩
    conv => whnf
    refine ⟨j, ⟨by first | rfl | omega, by omega⟩, ?_⟩
    conv => whnf
    rw [hS]
    refine ⟨(bs.getD (j + 2) 0).toNat, (F.getD (j + 2) 0).toNat, (bs.getD (j + 2) 0 ^^^ F.getD (j + 2) 0).toNat, ⟨by first | rfl | omega, by first | rfl | omega, by omega, by omega⟩, by (dsimp only; rw [UInt8.toNat_xor]), ?_⟩
    conv => whnf
    refine ⟨j + 2, ⟨by first | rfl | omega, by omega⟩, ?_⟩
    conv => whnf
    intro w hx
    try (have hp := hp.call hx)
    conv => whnf
    rw [show addM 0 (j + 2) 1 = j + 2 by rw [addM_eq]; omega]
    refine hp.kstO (t := 5) TTok rfl 1 rfl (off := j + 2) (v := .int .u8 ((bs.getD (j + 2) 0 ^^^ F.getD (j + 2) 0).toNat : Nat)) (by rw [bytesV_len, hlen]; omega) rfl rfl fun w hp => ?_
    rw [bytesV_set1, mixJ_set _ _ _ (by omega)] at hp
    simp only [List.set_cons_zero, List.set_cons_succ] at hp
    conv => whnf
    refine hKq _ _ _ (V.Sub.refl _) ?_
    clear hKq Kq
    conv => whnf
    refine And.intro (by omega) ?_
    conv => whnf
    exact ⟨m - 1, _, by omega, ⟨j + 1, by omega, rfl, hp⟩, sub_cons rfl (sub_cons rfl (sub_cons rfl (sub_cons rfl sub_nil)))⟩
  · have hlt := of_decide_eq_false hlt
    conv => whnf
    clear hKq Kq
    refine hKq _ _ _ (V.Sub.refl _) ?_
    clear hKq Kq
    conv => whnf
    refine VSeq.mk fun Kq hKq => ?_
    conv => whnf
    obtain rfl : j = p.size := by omega
    rw [mixJ_all _ _ _ (by omega), ← hF] at hp
    refine ⟨_, _, Blk.ld (hp.get (i := 0) rfl) TTok rfl (rfl), ?_⟩
    conv => whnf
    refine hKq _ _ _ (V.Sub.refl _) ?_
    clear hKq Kq
    conv => whnf
    exact hp.tail
end Go.Proofs.YtpiilfamfinieaaDoor
