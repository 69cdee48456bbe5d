/- Chapter 27: drafts, cuts. -/
import Derived.Test.YtpiilfamfinieaaDoorC27X
namespace Go.Proofs.YtpiilfamfinieaaDoor
set_option linter.unusedSimpArgs false
set_option linter.unusedVariables false
open Go.RowKit V
theorem dShape_p (a b : Nat) (ha : a < 256) (hb : b < 256) (p : Option Addr) (n c : Nat) : PureF Tryd.prog 10 #[.agg #[.int .u8 a, .int .u8 b, .slice p n c]] (.tuple #[.int .i64 ((1 + a % 6 : Nat) : Int), .int .i64 ((1 + b % 8 : Nat) : Int)]) := by
  first | refine v_pure TTok FFok Tryd.func10 rfl rfl fun w0 => ?_ | refine v_pure (args := []) TTok FFok Tryd.func10 rfl rfl fun w0 => ?_
  conv => whnf
  refine VSeq.mk fun Kq hKq => ?_
  conv => whnf
  have hp := Hp.nil w0
  refine hp.kbox ([.int .u8 a, .int .u8 b, .slice p n c]) rfl fun qb w hp hx => ?_
  conv => whnf
  refine hKq _ _ _ (V.Sub.refl _) ?_
  clear hKq Kq
  conv => whnf
  refine VSeq.mk fun Kq hKq => ?_
  conv => whnf
  refine v_mixA TTok FFok mixed [(0, false), (1, false), (2, false), (3, false), (4, false), (5, false), (6, false), (7, false), (8, false), (9, false), (10, false), (11, false)] (by kernel_rfl) ?_
  conv => whnf
  refine ⟨_, fun w' hx' => Blk.ld (Blk.ext (hp.get (i := 0) rfl) hx') TTok rfl (rfl), ?_⟩
  conv => whnf
  refine And.intro (by omega) ?_
  conv => whnf
  refine And.intro (by omega) ?_
  conv => whnf
  refine And.intro (by omega) ?_
  conv => whnf
  refine ⟨_, fun w' hx' => Blk.ld (Blk.ext (hp.get (i := 0) rfl) hx') TTok rfl (rfl), ?_⟩
  conv => whnf
  refine And.intro (by omega) ?_
  conv => whnf
  refine And.intro (by omega) ?_
  conv => whnf
  refine And.intro (by omega) ?_
  conv => whnf
  rw [show (1 + (a : Int) % 6) = ((1 + a % 6 : Nat) : Int) by omega, show (1 + (b : Int) % 8) = ((1 + b % 8 : Nat) : Int) by omega]
  intro w hx
  try (have hp := hp.call hx)
  conv => whnf
  refine hKq _ _ _ (V.Sub.refl _) ?_
  clear hKq Kq
  conv => whnf
  exact ⟨rfl, hp.ext⟩
theorem lossOf_p (x y z : Nat) (hx : x < 18446744073709551616) (hy : y < 18446744073709551616) (hz : z < 18446744073709551616) (r c : Nat) (h : Shp r c) :
    PureF Tryd.prog 20 #[.agg #[.int .u64 x, .int .u64 y, .int .u64 z], .int .i64 r, .int .i64 c] (.agg #[.int .u64 ((x % 2 ^ (r * c) : Nat) : Int), .int .u64 ((y % 2 ^ r : Nat) : Int), .int .u64 ((z % 2 ^ c : Nat) : Int)]) := by
  first | refine v_pure TTok FFok Tryd.func20 rfl rfl fun w0 => ?_ | refine v_pure (args := []) TTok FFok Tryd.func20 rfl rfl fun w0 => ?_
  conv => whnf
  refine VSeq.mk fun Kq hKq => ?_
  conv => whnf
  have hp := Hp.nil w0
  have h' := h
  obtain ⟨h1, h2, h3, h4⟩ := h'
  have hrc : r * c ≤ 6 * 8 := Nat.mul_le_mul (by omega) (by omega)
  have hrc2 : ((r : Int) * (c : Int)) = ((r * c : Nat) : Int) := by simp
  refine hp.kbox ([.int .u64 x, .int .u64 y, .int .u64 z]) rfl fun qb w hp hx => ?_
  conv => whnf
  refine hp.kalloc z42 fun ob w hp hx => ?_
  conv => whnf
  refine hKq _ _ _ (V.Sub.refl _) ?_
  clear hKq Kq
  conv => whnf
  refine VSeq.mk fun Kq hKq => ?_
  conv => whnf
  refine v_mix TTok FFok mixed 21 [(0, false), (1, false), (2, false), (3, false), (4, false), (5, false), (6, false), (7, false), (8, false), (9, false), (10, false), (11, false), (12, false), (13, false), (14, false), (15, false), (16, false), (17, false), (18, false), (19, false), (20, false)] (by kernel_rfl) ?_
  conv => whnf
  refine ⟨_, fun w' hx' => Blk.ld (Blk.ext (hp.get (i := 1) rfl) hx') TTok rfl (rfl), ?_⟩
  conv => whnf
  refine And.intro (by omega) ?_
  conv => whnf
  refine ⟨r * c, ⟨by first | rfl | omega, by omega⟩, ?_⟩
  conv => whnf
  rw [shl_one (r * c) (by omega)]
  have hp2 := Nat.two_pow_pos (r * c)
  have hp3 := pow_lt64 (r * c) (by omega)
  rw [show ((((2 ^ (r * c) : Nat) : Int) - 1) % 18446744073709551616) = ((2 ^ (r * c) - 1 : Nat) : Int) by omega]
  conv => whnf
  refine ⟨x, 2 ^ (r * c) - 1, x % 2 ^ (r * c), ⟨by first | rfl | omega, by first | rfl | omega, by omega, by omega⟩, by (dsimp only; exact Nat.and_two_pow_sub_one_eq_mod x (r * c)), ?_⟩
  conv => whnf
  clear hp2 hp3
  refine ⟨_, fun w' hx' => Blk.ld (Blk.ext (hp.get (i := 1) rfl) hx') TTok rfl (rfl), ?_⟩
  conv => whnf
  refine ⟨r, ⟨by first | rfl | omega, by omega⟩, ?_⟩
  conv => whnf
  rw [shl_one (r) (by omega)]
  have hp2 := Nat.two_pow_pos (r)
  have hp3 := pow_lt64 (r) (by omega)
  rw [show ((((2 ^ (r) : Nat) : Int) - 1) % 18446744073709551616) = ((2 ^ (r) - 1 : Nat) : Int) by omega]
  conv => whnf
  refine ⟨y, 2 ^ (r) - 1, y % 2 ^ (r), ⟨by first | rfl | omega, by first | rfl | omega, by omega, by omega⟩, by (dsimp only; exact Nat.and_two_pow_sub_one_eq_mod y (r)), ?_⟩
  conv => whnf
  clear hp2 hp3
  refine ⟨_, fun w' hx' => Blk.ld (Blk.ext (hp.get (i := 1) rfl) hx') TTok rfl (rfl), ?_⟩
  conv => whnf
  refine ⟨c, ⟨by first | rfl | omega, by omega⟩, ?_⟩
  conv => whnf
  rw [shl_one (c) (by omega)]
  have hp2 := Nat.two_pow_pos (c)
  have hp3 := pow_lt64 (c) (by omega)
  rw [show ((((2 ^ (c) : Nat) : Int) - 1) % 18446744073709551616) = ((2 ^ (c) - 1 : Nat) : Int) by omega]
  conv => whnf
  refine ⟨z, 2 ^ (c) - 1, z % 2 ^ (c), ⟨by first | rfl | omega, by first | rfl | omega, by omega, by omega⟩, by (dsimp only; exact Nat.and_two_pow_sub_one_eq_mod z (c)), ?_⟩
  conv => whnf
  clear hp2 hp3
  refine ⟨.agg #[.int .u64 ((x % 2 ^ (r * c) : Nat) : Int), .int .u64 ((y % 2 ^ r : Nat) : Int), .int .u64 ((z % 2 ^ c : Nat) : Int)], fun w' _ => by kernel_rfl, ?_⟩
  conv => whnf
  intro w hx
  try (have hp := hp.call hx)
  conv => whnf
  refine hp.kstA TTok rfl 0 rfl (by rfl) (by simp [Value.oneCell']) (by rfl) fun w hp => ?_
  try simp only [List.set_cons_zero, List.set_cons_succ, EV.val] at hp
  conv => whnf
  refine hKq _ _ _ (V.Sub.refl _) ?_
  clear hKq Kq
  conv => whnf
  exact ⟨_, Blk.lvN (hp.get (i := 0) rfl) TTok rfl rfl, rfl, hp.ext⟩
theorem stuck_c {W : World} (hg : Good W) (lost kr kc want : Nat) (hs : setsB 2 2 lost kr kc = true) :
    Calls Tryd.prog 39 #[.int .u64 lost, .int .u64 kr, .int .u64 kc, .int .u64 want] W fun e w' => e = .returned (.bool (decide ((planL 2 2 lost kr kc).2 = want))) ∧ Ext W w' := by
  have hsc := Stuck_c hg 2 2 lost kr kc (by unfold Shp; omega) hs
  generalize (planL 2 2 lost kr kc).2 = left at hsc ⊢
  refine v_reads TTok FFok Tryd.func39 rfl rfl ?_
  conv => whnf
  refine VSeq.mk fun Kq hKq => ?_
  conv => whnf
  refine hKq _ _ _ (V.Sub.refl _) ?_
  clear hKq Kq
  conv => whnf
  refine VSeq.mk fun Kq hKq => ?_
  conv => whnf
  refine V.CallsUse (hsc) fun w hx => ?_
  try (have hp := hp.call hx)
  conv => whnf
  refine hKq _ _ _ (V.Sub.refl _) ?_
  clear hKq Kq
  conv => whnf
  refine VSeq.mk fun Kq hKq => ?_
  conv => whnf
  refine VSeq.mk fun Kq hKq => ?_
  conv => whnf
  refine hKq _ _ _ (V.Sub.refl _) ?_
  clear hKq Kq
  conv => whnf
  refine ⟨fun g => ?_, fun g => ?_⟩
  · have g := of_decide_eq_true g
    conv => whnf
    refine hKq _ _ _ (V.Sub.refl _) ?_
    clear hKq Kq
    conv => whnf
    exact ⟨congrArg Value.bool (by rw [decide_eq_true (by omega : left = want)]; rfl), hx⟩
  · have g := of_decide_eq_false g
    conv => whnf
    refine hKq _ _ _ (V.Sub.refl _) ?_
    clear hKq Kq
    conv => whnf
    exact ⟨congrArg Value.bool (decide_eq_false (by omega : ¬ left = want)).symm, hx⟩
theorem square_f : MakesF Tryd.prog 38 #[] fun v => [row 9 1 v 4 (sw [(⟨#[97]⟩ : ByteArray), (⟨#[98, 99]⟩ : ByteArray), (⟨#[]⟩ : ByteArray), (⟨#[100]⟩ : ByteArray)])] := by
  first | refine v_makes TTok FFok Tryd.func38 rfl rfl fun w0 => ?_ | refine v_makes (args := []) TTok FFok Tryd.func38 rfl rfl fun w0 => ?_
  conv => whnf
  refine VSeq.mk fun Kq hKq => ?_
  conv => whnf
  refine hKq _ _ _ (V.Sub.refl _) ?_
  clear hKq Kq
  conv => whnf
  refine VSeq.mk fun Kq hKq => ?_
  conv => whnf
  have hp := Hp.nil w0
  refine hp.kmadeR (sw [(⟨#[97]⟩ : ByteArray), (⟨#[98, 99]⟩ : ByteArray), (⟨#[]⟩ : ByteArray), (⟨#[100]⟩ : ByteArray)]) 9 1 4 rfl (by decide) (by kernel_rfl) fun b w hp hx => ?_
  conv => whnf
  refine hKq _ _ _ (V.Sub.refl _) ?_
  clear hKq Kq
  conv => whnf
  exact hp
def draftS (D : List ByteArray) (i : Nat) : ByteArray := if D.length = 0 then ⟨#[]⟩ else cutn (D.getD (i % D.length) ⟨#[]⟩) 40
def draftL (a b : Nat) (D : List ByteArray) : List ByteArray := (List.range ((1 + a % 6) * (1 + b % 8))).map (draftS D)
theorem draft_shp (a b : Nat) : Shp ((1 + a % 6 : Nat) : Int) ((1 + b % 8 : Nat) : Int) := by unfold Shp; omega
theorem draftL_len (a b : Nat) (D : List ByteArray) : (draftL a b D).length = (1 + a % 6) * (1 + b % 8) := by simp [draftL]
theorem draftL_get (a b : Nat) (D : List ByteArray) (i : Nat) (h : i < (1 + a % 6) * (1 + b % 8)) : (draftL a b D)[i]? = some (draftS D i) := by
  rw [draftL, List.getElem?_map, List.getElem?_range h]; rfl
theorem draftS_size (D : List ByteArray) (i : Nat) : (draftS D i).size ≤ 40 := by
  unfold draftS
  split
  · exact Nat.zero_le _
  · exact cutn_size _ _
set_option maxHeartbeats 1000000 in
theorem dBlock_c {W : World} {v : Value} (a b : Nat) (ha : a < 256) (hb : b < 256) (D : List ByteArray) (hv : SLv W v (sw D)) :
    Calls Tryd.prog 11 #[.agg #[.int .u8 a, .int .u8 b, v]] W fun e w' => ∃ u, e = .returned u ∧ ∃ v', u = v' ∧ HpM [] W w' [row 9 1 v' (draftL a b D).length (sw (draftL a b D))] := by
  obtain ⟨p, c, rfl⟩ := hv.shape
  rw [sw_len] at hv ⊢
  have hsh := dShape_p a b ha hb p D.length c
  have hdl := draftL_len a b D
  have hdg := draftL_get a b D
  have hshp := draft_shp a b
  obtain ⟨R, hR⟩ : ∃ R, 1 + a % 6 = R := ⟨_, rfl⟩
  obtain ⟨C, hC⟩ : ∃ C, 1 + b % 8 = C := ⟨_, rfl⟩
  rw [hR, hC] at hsh hdl hdg hshp
  obtain ⟨h1, h2, h3, h4⟩ := hshp
  have hrc : R * C ≤ 6 * 8 := Nat.mul_le_mul (by omega) (by omega)
  have hrc2 : ((R : Int) * (C : Int)) = ((R * C : Nat) : Int) := by simp
  refine v_fn (args := [.agg #[.int .u8 a, .int .u8 b, .slice p D.length c]]) TTok FFok Tryd.func11 rfl (Nat.le_of_ble_eq_true rfl) ?_
  have hp := Hp.nil W
  conv => whnf
  refine VSeq.mk fun Kq hKq => ?_
  conv => whnf
  refine hp.kbox ([.int .u8 a, .int .u8 b, .slice p D.length c]) rfl fun qb w hp hx => ?_
  conv => whnf
  refine hKq _ _ _ (V.Sub.refl _) ?_
  clear hKq Kq
  conv => whnf
  refine VSeq.mk fun Kq hKq => ?_
  conv => whnf
  refine ⟨_, _, Blk.ldN (hp.get (i := 0) rfl) TTok rfl (rfl), ?_⟩
  conv => whnf
  refine PureF.use (hsh) fun w hx => ?_
  try (have hp := hp.call hx)
  conv => whnf
  refine hKq _ _ _ (V.Sub.refl _) ?_
  clear hKq Kq
  conv => whnf
  refine VSeq.mk fun Kq hKq => ?_
  conv => whnf
  refine hKq _ _ _ (V.Sub.refl _) ?_
  clear hKq Kq
  conv => whnf
  refine VSeq.mk fun Kq hKq => ?_
  conv => whnf
  refine VSeq.mk fun Kq hKq => ?_
  conv => whnf
  refine hKq _ _ _ (V.Sub.refl _) ?_
  clear hKq Kq
  conv => whnf
  have hp := hp.knil 9 1
  refine ⟨fun m e w => ∃ (i : Nat) (u : Value), m + i = R * C ∧ e = [(1, .v (.pointer (some ⟨qb, 0, none⟩))), (3, .v (.int .i64 R)), (4, .v (.int .i64 C)), (5, .v u), (6, .v (.int .i64 i))] ∧
      HpM [] W w [row 9 1 u i (sw ((draftL a b D).take i)), blk qb [.int .u8 a, .int .u8 b, .slice p D.length c] 24],
    ⟨R * C, _, ⟨0, _, rfl, rfl, hp⟩, sub_cons rfl (sub_cons rfl (sub_cons rfl (sub_cons rfl (sub_cons rfl sub_nil))))⟩, ?_⟩
  clear hp
  repeat clear hp
  rintro m _ w ⟨i, u, hm, rfl, hp⟩
  conv => whnf
  refine VSeq.mk fun Kq hKq => ?_
  conv => whnf
  refine VSeq.mk fun Kq hKq => ?_
  conv => whnf
  refine And.intro (by omega) ?_
  conv => whnf
  refine hKq _ _ _ (V.Sub.refl _) ?_
  clear hKq Kq
  conv => whnf
  refine ⟨fun hlt => ?_, fun hlt => ?_⟩
  · have hlt := of_decide_eq_true hlt
    conv => whnf
    refine hKq _ _ _ (V.Sub.refl _) ?_
    clear hKq Kq
    conv => whnf
    refine VSeq.mk fun Kq hKq => ?_
    conv => whnf
    refine VSeq.mk fun Kq hKq => ?_
    conv => whnf
    refine hKq _ _ _ (V.Sub.refl _) ?_
    clear hKq Kq
    conv => whnf
    refine VSeq.mk fun Kq hKq => ?_
    conv => whnf
    refine VSeq.mk fun Kq hKq => ?_
    conv => whnf
    have hi : i < R * C := by omega
    have hsn := take_snoc (hdg i hi)
    refine ⟨_, _, Blk.ld (off := 2) (hp.get (i := 1) rfl) TTok rfl rfl, ?_⟩
    conv => whnf
    refine hKq _ _ _ (V.Sub.refl _) ?_
    clear hKq Kq
    conv => whnf
    refine ⟨fun hD => ?_, fun hD => ?_⟩
    · have hD := of_decide_eq_true hD
      conv => whnf
      refine VSeq.mk fun Kq hKq => ?_
      conv => whnf
      have hm : ((i : Int) % (D.length : Int)) = ((i % D.length : Nat) : Int) := by simp
      have hml := Nat.mod_lt i (by omega : 0 < D.length)
      have hds : draftS D i = cutn (D[i % D.length]) 40 := by
        unfold draftS; rw [if_neg (by omega), List.getD_eq_getElem?_getD, List.getElem?_eq_getElem hml]; rfl
      have hxi : D[i % D.length]? = some D[i % D.length] := List.getElem?_eq_getElem hml
      generalize D[i % D.length] = x at hds hxi
      refine v_mixA TTok FFok mixed [(0, false), (1, false), (2, false), (3, false), (4, false), (5, false), (6, false), (7, false), (8, false), (9, false)] (by kernel_rfl) ?_
      conv => whnf
      refine ⟨_, fun w' hx' => Blk.ld (off := 2) (Blk.ext (hp.get (i := 1) rfl) hx') TTok rfl rfl, ?_⟩
      conv => whnf
      refine ⟨_, fun w' hx' => Blk.ld (off := 2) (Blk.ext (hp.get (i := 1) rfl) hx') TTok rfl rfl, ?_⟩
      conv => whnf
      refine And.intro (by omega) ?_
      conv => whnf
      rw [hm]
      obtain ⟨g, off, rfl, hcell⟩ := hv.at (sw_get hxi)
      refine ⟨i % D.length, ⟨by first | rfl | omega, by omega⟩, ?_⟩
      conv => whnf
      refine ⟨_, fun w' hx' => run_ld TTok rfl (by rw [addM_eq, Nat.mul_one]; exact Ext.cell (hp.ext.trans hx') hcell), ?_⟩
      conv => whnf
      intro w hx
      try (have hp := hp.call hx)
      conv => whnf
      refine hKq _ _ _ (V.Sub.refl _) ?_
      clear hKq Kq
      conv => whnf
      rw [show (min (x.size : Int) 40) = ((min x.size 40 : Nat) : Int) by omega]
      refine ⟨min x.size 40, ⟨by first | rfl | omega, by omega⟩, ?_⟩
      conv => whnf
      refine hKq _ _ _ (V.Sub.refl _) ?_
      clear hKq Kq
      conv => whnf
      rw [show x.extract 0 (min x.size 40) = draftS D i from hds.symm]
      refine hp.kmade ([.string (draftS D i)]) 9 (fun b => .slice (some ⟨b, 0, none⟩) 1 1) (by kernel_rfl) fun tb w hp hx => ?_
      conv => whnf
      refine hp.kapp sl22 1 rfl (Blk.src TTok (hp.get (i := 0) rfl) rfl rfl (by intro u hu; simp at hu; subst hu; rfl)) (by omega) (by unfold maxLen; omega) fun v3 w hp => ?_
      simp only [List.set_cons_zero, List.set_cons_succ] at hp
      have hp := hp.tail
      change HpM [] W w (row 9 1 v3 (i + 1) (sw ((draftL a b D).take i) ++ sw [draftS D i]) :: _) at hp
      rw [← sw_app, ← hsn] at hp
      conv => whnf
      refine hKq _ _ _ (V.Sub.refl _) ?_
      clear hKq Kq
      conv => whnf
      refine And.intro (by omega) ?_
      conv => whnf
      exact ⟨m - 1, _, by omega, ⟨i + 1, v3, by omega, rfl, hp⟩, sub_cons rfl (sub_cons rfl (sub_cons rfl (sub_cons rfl (sub_cons rfl sub_nil))))⟩
    · have hD := of_decide_eq_false hD
      conv => whnf
      refine hKq _ _ _ (V.Sub.refl _) ?_
      clear hKq Kq
      conv => whnf
      have hds : draftS D i = ⟨#[]⟩ := by unfold draftS; rw [if_pos (by omega)]
      rw [← hds]
      refine hp.kmade ([.string (draftS D i)]) 9 (fun b => .slice (some ⟨b, 0, none⟩) 1 1) (by kernel_rfl) fun tb w hp hx => ?_
      conv => whnf
      refine hp.kapp sl22 1 rfl (Blk.src TTok (hp.get (i := 0) rfl) rfl rfl (by intro u hu; simp at hu; subst hu; rfl)) (by omega) (by unfold maxLen; omega) fun v3 w hp => ?_
      simp only [List.set_cons_zero, List.set_cons_succ] at hp
      have hp := hp.tail
      change HpM [] W w (row 9 1 v3 (i + 1) (sw ((draftL a b D).take i) ++ sw [draftS D i]) :: _) at hp
      rw [← sw_app, ← hsn] at hp
      conv => whnf
      refine hKq _ _ _ (V.Sub.refl _) ?_
      clear hKq Kq
      conv => whnf
      refine And.intro (by omega) ?_
      conv => whnf
      exact ⟨m - 1, _, by omega, ⟨i + 1, v3, by omega, rfl, hp⟩, sub_cons rfl (sub_cons rfl (sub_cons rfl (sub_cons rfl (sub_cons rfl sub_nil))))⟩
  · have hlt := of_decide_eq_false hlt
    conv => whnf
    clear hKq Kq
    refine hKq _ _ _ (V.Sub.refl _) ?_
    clear hKq Kq
    conv => whnf
    refine VSeq.mk fun Kq hKq => ?_
    conv => whnf
    refine hKq _ _ _ (V.Sub.refl _) ?_
    clear hKq Kq
    conv => whnf
    obtain rfl : i = R * C := by omega
    rw [List.take_of_length_le (by omega)] at hp
    rw [hdl]
    exact ⟨u, rfl, hp.pick [0] (by decide)⟩
end Go.Proofs.YtpiilfamfinieaaDoor
