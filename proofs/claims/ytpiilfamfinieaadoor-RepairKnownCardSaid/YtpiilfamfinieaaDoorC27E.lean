/- Chapter 27: the lines, one after the other. -/
import Derived.Test.YtpiilfamfinieaaDoorC27D
namespace Go.Proofs.YtpiilfamfinieaaDoor
set_option linter.unusedSimpArgs false
set_option linter.unusedVariables false
open Go.RowKit V

theorem pow_lt64 (m : Nat) (h : m < 64) : 2 ^ m < 18446744073709551616 := Nat.pow_lt_pow_right (n := 64) (by omega) h
theorem shl_one (m : Nat) (h : m < 64) : ((1 : Int) * 2 ^ m % 18446744073709551616) = ((2 ^ m : Nat) : Int) := by
  have := pow_lt64 m h
  rw [Int.one_mul, show (2 : Int) ^ m = ((2 ^ m : Nat) : Int) from (Int.natCast_pow 2 m).symm]
  generalize ((2 : Nat) ^ m) = p at this ⊢
  omega
theorem shl_any (x m : Nat) (h : x * 2 ^ m < 18446744073709551616) : ((x : Int) * 2 ^ m % 18446744073709551616) = ((x * 2 ^ m : Nat) : Int) := by
  have e : ((x : Int) * 2 ^ m) = ((x * 2 ^ m : Nat) : Int) := by simp
  rw [e]; omega
theorem lineS_lt48 (r c l : Nat) (h : Shp r c) (hl : l < r + c) : lineS r c l < 281474976710656 := by
  have h1 := lineS_lt r c l (by unfold Shp at h; omega) hl
  have hm : r * c ≤ 6 * 8 := Nat.mul_le_mul (by unfold Shp at h; omega) (by unfold Shp at h; omega)
  exact Nat.lt_of_lt_of_le h1 (show 2 ^ (r * c) ≤ 2 ^ 48 from Nat.pow_le_pow_right (by omega) hm)
theorem lines_iter (r c : Nat) (h : Shp r c) (b1 : Nat) :
    Iter Tryd.prog 59 [.pointer (some ⟨b1, 0, none⟩)] [b1] (fun W => Blk W b1 [.int .i64 r, .int .i64 c] 75)
      (fun k => [.int .i64 k, .int .u64 (lineS r c k : Nat)]) (fun k => k = r + c) (r + c + 1) := by
  intro l J Jx W hcap hN hJ hJx hY h0
  have hs := h
  obtain ⟨h1, h2, h3, h4⟩ := hs
  refine (v_fn (R := fun _ B => (∃ k, k = r + c ∧ J k B) ∨ ∃ k, Jx k B) TTok FFok (f := 59) rfl rfl (Nat.le_of_ble_eq_true rfl) ?_).mono ?_
  rotate_left
  · rintro e B ⟨v, rfl, h⟩; exact ⟨⟨v, rfl⟩, h⟩
  conv => whnf
  refine VSeq.mk fun Kq hKq => ?_
  conv => whnf
  refine ⟨_, _, Blk.ld (hcap) TTok rfl (rfl), ?_⟩
  conv => whnf
  refine ⟨c, ⟨by first | rfl | omega, by omega⟩, ?_⟩
  conv => whnf
  refine hKq _ _ _ (V.Sub.refl _) ?_
  clear hKq Kq
  conv => whnf
  refine VSeq.mk fun Kq hKq => ?_
  conv => whnf
  refine VSeq.mk fun Kq hKq => ?_
  conv => whnf
  rw [shl_one c (by omega)]
  have hp2 := Nat.two_pow_pos c
  have hp3 := pow_lt64 c (by omega)
  rw [show ((((2 ^ c : Nat) : Int) - 1) % 18446744073709551616) = ((2 ^ c - 1 : Nat) : Int) by omega]
  clear hp2 hp3
  refine ⟨_, _, Blk.ld (hcap) TTok rfl (rfl), ?_⟩
  conv => whnf
  refine hKq _ _ _ (V.Sub.refl _) ?_
  clear hKq Kq
  conv => whnf
  refine ⟨fun q l' w => ∃ k : Nat, q + k = r ∧ l' = [(0, .v (.func (.yield l) #[] #[])), (1, .v (.pointer (some ⟨b1, 0, none⟩))), (3, .v (.int .u64 (2 ^ c - 1 : Nat))), (13, .v (.int .i64 r)), (14, .v (.int .i64 k))] ∧ J k w ∧ Blk w b1 [.int .i64 r, .int .i64 c] 75,
    ⟨r, _, ⟨0, rfl, rfl, h0, hcap⟩, sub_cons rfl (sub_cons rfl (sub_cons rfl (sub_cons rfl (sub_cons rfl sub_nil))))⟩, ?_⟩
  rintro q _ w ⟨k, hq, rfl, hj, hb⟩
  conv => whnf
  refine VSeq.mk fun Kq hKq => ?_
  conv => whnf
  refine hKq _ _ _ (V.Sub.refl _) ?_
  clear hKq Kq
  conv => whnf
  refine VSeq.mk fun Kq hKq => ?_
  conv => whnf
  refine ⟨fun hlt => ?_, fun hlt => ?_⟩
  · have hlt := of_decide_eq_true hlt
    conv => whnf
    refine hKq _ _ _ (V.Sub.refl _) ?_
    clear hKq Kq
    conv => whnf
    refine VSeq.mk fun Kq hKq => ?_
    conv => whnf
    refine VSeq.mk fun Kq hKq => ?_
    conv => whnf
    refine hKq _ _ _ (V.Sub.refl _) ?_
    clear hKq Kq
    conv => whnf
    refine VSeq.mk fun Kq hKq => ?_
    conv => whnf
    have hk : k < r := by omega
    have hl48 := lineS_lt48 r c k h (by omega)
    have hle : (2 ^ c - 1) * 2 ^ (k * c) = lineS r c k := by unfold lineS; rw [if_pos hk]
    have hkc : k * c ≤ 6 * 8 := Nat.mul_le_mul (by omega) (by omega)
    have hkc2 : ((k : Int) * (c : Int)) = ((k * c : Nat) : Int) := by simp
    refine ⟨_, _, Blk.ld (hb) TTok rfl (rfl), ?_⟩
    conv => whnf
    refine And.intro (by omega) ?_
    conv => whnf
    rw [hkc2]
    refine ⟨k * c, ⟨by first | rfl | omega, by omega⟩, ?_⟩
    conv => whnf
    rw [shl_any _ _ (by rw [hle]; omega), hle]
    conv => whnf
    refine y_mono (hY k w hj (show k ≠ r + c by omega)) ?_
    rintro e w' (⟨rfl, hj2, hkp⟩ | ⟨rfl, hx2⟩)
    · have hb' := Blk.same hb (hkp b1 (by simp))
      refine ⟨_, rfl, ?_⟩
      conv => whnf
      refine hKq _ _ _ (V.Sub.refl _) ?_
      clear hKq Kq
      conv => whnf
      refine And.intro (fun h => by cases h) (fun _ => ?_)
      conv => whnf
      refine hKq _ _ _ (V.Sub.refl _) ?_
      clear hKq Kq
      conv => whnf
      refine And.intro (by omega) ?_
      conv => whnf
      exact ⟨q - 1, _, by omega, ⟨k + 1, by omega, rfl, hj2, hb'⟩, sub_cons rfl (sub_cons rfl (sub_cons rfl (sub_cons rfl (sub_cons rfl sub_nil))))⟩
    · refine ⟨_, rfl, ?_⟩
      conv => whnf
      refine hKq _ _ _ (V.Sub.refl _) ?_
      clear hKq Kq
      conv => whnf
      refine And.intro (fun _ => ?_) (fun h => by cases h)
      conv => whnf
      exact .inr ⟨k, hx2⟩
  · have hlt := of_decide_eq_false hlt
    conv => whnf
    clear hKq Kq
    refine hKq _ _ _ (V.Sub.refl _) ?_
    clear hKq Kq
    conv => whnf
    refine VSeq.mk fun Kq hKq => ?_
    conv => whnf
    refine hKq _ _ _ (V.Sub.refl _) ?_
    clear hKq Kq
    conv => whnf
    refine VSeq.mk fun Kq hKq => ?_
    conv => whnf
    refine VSeq.mk fun Kq hKq => ?_
    conv => whnf
    obtain rfl : k = r := by omega
    refine ⟨_, _, Blk.ld (hb) TTok rfl (rfl), ?_⟩
    conv => whnf
    refine hKq _ _ _ (V.Sub.refl _) ?_
    clear hKq Kq
    conv => whnf
    refine ⟨fun q l' w => ∃ i : Nat, q + i = k ∧ l' = [(0, .v (.func (.yield l) #[] #[])), (1, .v (.pointer (some ⟨b1, 0, none⟩))), (5, .v (.int .u64 (colB c i : Nat))), (29, .v (.int .i64 k)), (30, .v (.int .i64 i))] ∧ J k w ∧ Blk w b1 [.int .i64 k, .int .i64 c] 75,
      ⟨k, _, ⟨0, rfl, rfl, hj, hb⟩, sub_cons rfl (sub_cons rfl (sub_cons rfl (sub_cons rfl (sub_cons rfl sub_nil))))⟩, ?_⟩
    clear hj hb
    rintro q _ w ⟨i, hq, rfl, hj, hb⟩
    conv => whnf
    refine VSeq.mk fun Kq hKq => ?_
    conv => whnf
    refine hKq _ _ _ (V.Sub.refl _) ?_
    clear hKq Kq
    conv => whnf
    refine VSeq.mk fun Kq hKq => ?_
    conv => whnf
    refine ⟨fun hlt2 => ?_, fun hlt2 => ?_⟩
    · have hlt2 := of_decide_eq_true hlt2
      conv => whnf
      refine hKq _ _ _ (V.Sub.refl _) ?_
      clear hKq Kq
      conv => whnf
      refine VSeq.mk fun Kq hKq => ?_
      conv => whnf
      refine VSeq.mk fun Kq hKq => ?_
      conv => whnf
      refine hKq _ _ _ (V.Sub.refl _) ?_
      clear hKq Kq
      conv => whnf
      have hic : i * c ≤ 6 * 8 := Nat.mul_le_mul (by omega) (by omega)
      have hic2 : ((i : Int) * (c : Int)) = ((i * c : Nat) : Int) := by simp
      have hcb : colB c i < 18446744073709551616 := by
        have h1 := colB_lt c i (by omega)
        refine Nat.lt_of_lt_of_le h1 (show 2 ^ (i * c - c + 1) ≤ 2 ^ 64 from Nat.pow_le_pow_right (by omega) (by omega))
      have hpw := pow_lt64 (i * c) (by omega)
      refine ⟨_, _, Blk.ld (hb) TTok rfl (rfl), ?_⟩
      conv => whnf
      refine And.intro (by omega) ?_
      conv => whnf
      rw [hic2]
      refine ⟨i * c, ⟨by first | rfl | omega, by omega⟩, ?_⟩
      conv => whnf
      rw [shl_one _ (by omega)]
      conv => whnf
      refine ⟨colB c i, 2 ^ (i * c), colB c (i + 1), ⟨by first | rfl | omega, by first | rfl | omega, by omega, by omega⟩, rfl, ?_⟩
      conv => whnf
      refine hKq _ _ _ (V.Sub.refl _) ?_
      clear hKq Kq
      conv => whnf
      refine And.intro (by omega) ?_
      conv => whnf
      exact ⟨q - 1, _, by omega, ⟨i + 1, by omega, rfl, hj, hb⟩, sub_cons rfl (sub_cons rfl (sub_cons rfl (sub_cons rfl (sub_cons rfl sub_nil))))⟩
    · have hlt2 := of_decide_eq_false hlt2
      conv => whnf
      clear hKq Kq
      refine hKq _ _ _ (V.Sub.refl _) ?_
      clear hKq Kq
      conv => whnf
      refine VSeq.mk fun Kq hKq => ?_
      conv => whnf
      obtain rfl : i = k := by omega
      refine ⟨_, _, Blk.ld (hb) TTok rfl (rfl), ?_⟩
      conv => whnf
      refine hKq _ _ _ (V.Sub.refl _) ?_
      clear hKq Kq
      conv => whnf
      refine ⟨fun q l' w => ∃ j : Nat, q + j = c ∧ l' = [(0, .v (.func (.yield l) #[] #[])), (1, .v (.pointer (some ⟨b1, 0, none⟩))), (5, .v (.int .u64 (colB c i : Nat))), (42, .v (.int .i64 c)), (43, .v (.int .i64 j))] ∧ J (i + j) w ∧ Blk w b1 [.int .i64 i, .int .i64 c] 75,
        ⟨c, _, ⟨0, by omega, rfl, hj, hb⟩, sub_cons rfl (sub_cons rfl (sub_cons rfl (sub_cons rfl (sub_cons rfl sub_nil))))⟩, ?_⟩
      clear hj hb
      rintro q _ w ⟨j, hq, rfl, hj, hb⟩
      conv => whnf
      refine VSeq.mk fun Kq hKq => ?_
      conv => whnf
      refine hKq _ _ _ (V.Sub.refl _) ?_
      clear hKq Kq
      conv => whnf
      refine VSeq.mk fun Kq hKq => ?_
      conv => whnf
      refine ⟨fun hlt3 => ?_, fun hlt3 => ?_⟩
      · have hlt3 := of_decide_eq_true hlt3
        conv => whnf
        refine hKq _ _ _ (V.Sub.refl _) ?_
        clear hKq Kq
        conv => whnf
        refine VSeq.mk fun Kq hKq => ?_
        conv => whnf
        refine VSeq.mk fun Kq hKq => ?_
        conv => whnf
        refine hKq _ _ _ (V.Sub.refl _) ?_
        clear hKq Kq
        conv => whnf
        refine VSeq.mk fun Kq hKq => ?_
        conv => whnf
        have hl48 := lineS_lt48 i c (i + j) h (by omega)
        have hle : colB c i * 2 ^ j = lineS i c (i + j) := by unfold lineS; rw [if_neg (by omega), show i + j - i = j by omega]
        have hij : ((i : Int) + (j : Int)) = ((i + j : Nat) : Int) := by simp
        refine v_qtY TTok FFok mixed 8 (by kernel_rfl) ?_
        conv => whnf
        refine ⟨_, fun w' hx' => Blk.ld (Blk.ext hb hx') TTok rfl rfl, ?_⟩
        conv => whnf
        refine And.intro (by omega) ?_
        conv => whnf
        rw [hij]
        refine ⟨j, ⟨by first | rfl | omega, by omega⟩, ?_⟩
        conv => whnf
        rw [shl_any _ _ (by rw [hle]; omega), hle]
        intro w' hx'
        conv => whnf
        refine y_mono (hY (i + j) w' (hJ _ _ _ hj ((ExtM.refl _ w).trans hx')) (show i + j ≠ i + c by omega)) ?_
        rintro e w2 (⟨rfl, hj2, hkp⟩ | ⟨rfl, hx2⟩)
        · have hb' := Blk.same (hb.ext hx') (hkp b1 (by simp))
          refine ⟨_, rfl, ?_⟩
          conv => whnf
          refine hKq _ _ _ (V.Sub.refl _) ?_
          clear hKq Kq
          conv => whnf
          refine And.intro (fun h => by cases h) (fun _ => ?_)
          conv => whnf
          refine hKq _ _ _ (V.Sub.refl _) ?_
          clear hKq Kq
          conv => whnf
          refine And.intro (by omega) ?_
          conv => whnf
          exact ⟨q - 1, _, by omega, ⟨j + 1, by omega, rfl, hj2, hb'⟩, sub_cons rfl (sub_cons rfl (sub_cons rfl (sub_cons rfl (sub_cons rfl sub_nil))))⟩
        · refine ⟨_, rfl, ?_⟩
          conv => whnf
          refine hKq _ _ _ (V.Sub.refl _) ?_
          clear hKq Kq
          conv => whnf
          refine And.intro (fun _ => ?_) (fun h => by cases h)
          conv => whnf
          exact .inr ⟨_, hx2⟩
      · have hlt3 := of_decide_eq_false hlt3
        conv => whnf
        obtain rfl : j = c := by omega
        exact .inl ⟨_, rfl, hj⟩
end Go.Proofs.YtpiilfamfinieaaDoor
