/- Chapter 27: Repair equals the reference. -/
import Derived.Test.YtpiilfamfinieaaDoorC27BE
namespace Go.Proofs.YtpiilfamfinieaaDoor
set_option linter.unusedSimpArgs false
set_option linter.unusedVariables false
open Go.RowKit V
theorem bends_rd {w : World} {c : Array Value} (h : Rd w (.cons (.ag (.cons (.int .u8) (.cons (.int .u8) (.cons .str .nil)))) (.cons (.ag (.cons (.int .u8) (.cons (.int .u8) (.cons .str .nil)))) .nil)) c.toList) :
    ∃ (a b a2 b2 : Nat) (t t2 : ByteArray), c = #[.int .u8 a, .int .u8 b, .string t, .int .u8 a2, .int .u8 b2, .string t2] ∧ a < 256 ∧ b < 256 ∧ a2 < 256 ∧ b2 < 256 := by
  obtain ⟨z1, z2, e1, ⟨x1, y1, rfl, ⟨a, rfl, ha⟩, x2, y2, rfl, ⟨b, rfl, hb⟩, x3, y3, rfl, ⟨t, rfl, _⟩, (rfl : y3 = [])⟩, z3, z4, rfl, ⟨x4, y4, rfl, ⟨a2, rfl, ha2⟩, x5, y5, rfl, ⟨b2, rfl, hb2⟩, x6, y6, rfl, ⟨t2, rfl, _⟩, (rfl : y6 = [])⟩, (rfl : z4 = [])⟩ := h
  obtain ⟨a, rfl, k1⟩ := nat_of_u ha rfl
  obtain ⟨b, rfl, k2⟩ := nat_of_u hb rfl
  obtain ⟨a2, rfl, k3⟩ := nat_of_u ha2 rfl
  obtain ⟨b2, rfl, k4⟩ := nat_of_u hb2 rfl
  exact ⟨a, b, a2, b2, t, t2, Array.toList_inj.1 e1, k1, k2, k3, k4⟩
theorem repF_len (r c : Nat) (C : List ByteArray) : ∀ (ps : List (Nat × Nat)) (L L2 : List ByteArray), repF r c C ps L = some L2 → L2.length = L.length
  | [], L, L2, h => by rw [repF] at h; rw [Option.some.inj h]
  | (l, i) :: ps, L, L2, h => by
    rw [repF] at h
    split at h
    · cases h
    · rw [repF_len r c C ps _ L2 h, List.length_set]
theorem same_nil (W : World) : Calls Tryd.prog 18 #[.slice none 0 0, .slice none 0 0] W fun e w' => e = .returned (.bool true) ∧ Ext W w' := by
  have h := @Same_c W (.slice none 0 0) (.slice none 0 0) [] [] SLv.nil SLv.nil (by decide) (by decide)
  rw [decide_eq_true rfl] at h
  exact h
theorem four_at (a b c d e f g h i j k l : Value) (n : Nat) (hn : n < 4) : ∃ x y z, ((x = a ∧ y = b ∧ z = c) ∨ (x = d ∧ y = e ∧ z = f) ∨ (x = g ∧ y = h ∧ z = i) ∨ (x = j ∧ y = k ∧ z = l)) ∧
    ∀ w, (Instr.index 61 (.agg #[a, b, c, d, e, f, g, h, i, j, k, l]) (.int .i64 (n : Nat))).run Tryd.prog w = .ok (.agg #[x, y, z]) w := by
  rcases (by omega : n = 0 ∨ n = 1 ∨ n = 2 ∨ n = 3) with rfl | rfl | rfl | rfl
  · exact ⟨_, _, _, .inl ⟨rfl, rfl, rfl⟩, fun w => by kernel_rfl⟩
  · exact ⟨_, _, _, .inr (.inl ⟨rfl, rfl, rfl⟩), fun w => by kernel_rfl⟩
  · exact ⟨_, _, _, .inr (.inr (.inl ⟨rfl, rfl, rfl⟩)), fun w => by kernel_rfl⟩
  · exact ⟨_, _, _, .inr (.inr (.inr ⟨rfl, rfl, rfl⟩)), fun w => by kernel_rfl⟩
set_option maxHeartbeats 8000000 in
theorem makes_c {W : World} (hg : Good W) (a b x y z less b1 b2 b3 b4 : Nat) (t1 t2 : ByteArray) (v : Value) (D : List ByteArray) (ha : a < 256) (hb : b < 256) (h1 : x < 18446744073709551616) (hy : y < 18446744073709551616) (hz : z < 18446744073709551616) (hls : less < 256)
    (hb1 : b1 < 256) (hb2 : b2 < 256) (hb3 : b3 < 256) (hb4 : b4 < 256) (hv : SLv W v (sw D)) :
    Calls Tryd.prog 5 #[.agg #[.int .u8 a, .int .u8 b, v], .agg #[.int .u64 x, .int .u64 y, .int .u64 z], .agg #[.int .u8 b1, .int .u8 b2, .string t1, .int .u8 b3, .int .u8 b4, .string t2], .int .u8 less] W fun e w' => e = .returned (.bool true) ∧ Ext W w' := by
  have hdb := fun w (hw : SLv w v (sw D)) => @dBlock_c w v a b ha hb D hw
  obtain ⟨p, cc, rfl⟩ := hv.shape
  simp only [sw_len] at hv hdb ⊢
  refine v_reads TTok FFok Tryd.func5 rfl rfl ?_
  conv => whnf
  refine VSeq.mk fun Kq hKq => ?_
  conv => whnf
  have hp := Hp.nil W
  refine hp.kbox ([.int .u8 a, .int .u8 b, .slice p D.length cc]) rfl fun db w hp hx => ?_
  conv => whnf
  refine hp.kbox ([.int .u64 x, .int .u64 y, .int .u64 z]) rfl fun xb w hp hx => ?_
  conv => whnf
  refine hp.kbox ([.int .u8 b1, .int .u8 b2, .string t1, .int .u8 b3, .int .u8 b4, .string t2]) rfl fun bb w hp hx => ?_
  conv => whnf
  refine hKq _ _ _ (V.Sub.refl _) ?_
  clear hKq Kq
  conv => whnf
  refine VSeq.mk fun Kq hKq => ?_
  conv => whnf
  refine ⟨_, _, Blk.ldN (hp.get (i := 2) rfl) TTok rfl (rfl), ?_⟩
  conv => whnf
  refine PureF.use (dShape_p a b ha hb p D.length cc) fun w hx => ?_
  try (have hp := hp.call hx)
  conv => whnf
  refine hKq _ _ _ (V.Sub.refl _) ?_
  clear hKq Kq
  conv => whnf
  refine VSeq.mk fun Kq hKq => ?_
  conv => whnf
  have hsh := draft_shp a b
  have hDL := draftL_len a b D
  have hDS : ∀ q ∈ draftL a b D, q.size ≤ 40 := fun q hq => by
    obtain ⟨i, _, rfl⟩ := List.mem_map.1 hq
    exact draftS_size D i
  generalize draftL a b D = own at hdb hDL hDS
  obtain ⟨r, hrd⟩ : ∃ r, 1 + a % 6 = r := ⟨_, rfl⟩
  obtain ⟨c, hcd⟩ : ∃ c, 1 + b % 8 = c := ⟨_, rfl⟩
  have hrr : r ≤ 6 := by omega
  have hcc : c ≤ 8 := by omega
  have hr1 : 1 ≤ r := by omega
  have hc1 : 1 ≤ c := by omega
  rw [hrd] at hsh hDL ⊢
  rw [hcd] at hsh hDL ⊢
  have hlo := lossOf_p x y z h1 hy hz r c hsh
  have hrc : r * c ≤ 6 * 8 := Nat.mul_le_mul (by omega) (by omega)
  have hos : ∀ q ∈ own, q.size ≤ 1100 := fun q hq => by have := hDS q hq; omega
  have hcl := coversB_len r c own
  have hcz := coversB_size r c own hos
  refine ⟨_, _, Blk.ldN (hp.get (i := 2) rfl) TTok rfl (rfl), ?_⟩
  conv => whnf
  refine (hdb _ (hv.ext hp.ext)).mono ?_
  rintro e w ⟨u, rfl, vo, rfl, hq⟩
  refine ⟨_, rfl, ?_⟩
  have hp := hp.join hq
  have hpos : 0 < own.length := by rw [hDL]; exact Nat.mul_pos (by omega) (by omega)
  obtain ⟨go, co, rfl⟩ := row_form (hp.get (i := 0) rfl) hpos
  clear hq
  conv => whnf
  refine hKq _ _ _ (V.Sub.refl _) ?_
  clear hKq Kq
  conv => whnf
  refine VSeq.mk fun Kq hKq => ?_
  conv => whnf
  refine (rCovers_c r c hsh own (SLv.of_row (hp.get (i := 0) rfl)) hDL hos).mono ?_
  rintro e w ⟨u, rfl, vc, rfl, hq⟩
  refine ⟨_, rfl, ?_⟩
  have hp := hp.join hq
  obtain ⟨gc, cc2, rfl⟩ := row_form (hp.get (i := 0) rfl) (by omega)
  clear hq
  conv => whnf
  refine hKq _ _ _ (V.Sub.refl _) ?_
  clear hKq Kq
  conv => whnf
  refine VSeq.mk fun Kq hKq => ?_
  conv => whnf
  refine ⟨_, _, Blk.ldN (hp.get (i := 3) rfl) TTok rfl (rfl), ?_⟩
  conv => whnf
  refine PureF.use (hlo) fun w hx => ?_
  try (have hp := hp.call hx)
  conv => whnf
  clear hlo
  have hlx : x % 2 ^ (r * c) < 18446744073709551616 := Nat.lt_of_le_of_lt (Nat.mod_le _ _) h1
  have hkr : y % 2 ^ r < 18446744073709551616 := Nat.lt_of_le_of_lt (Nat.mod_le _ _) hy
  have hkc : z % 2 ^ c < 18446744073709551616 := Nat.lt_of_le_of_lt (Nat.mod_le _ _) hz
  refine hp.kalloc z42 fun qb w hp hx => ?_
  conv => whnf
  refine hp.kstA TTok rfl 0 rfl (by rfl) (by simp [Value.oneCell']) (by rfl) fun w hp => ?_
  try simp only [List.set_cons_zero, List.set_cons_succ, EV.val] at hp
  conv => whnf
  refine hKq _ _ _ (V.Sub.refl _) ?_; clear hKq Kq; conv => whnf
  refine VSeq.mk fun K1 hK1 => ?_
  have key : ∀ (lost kr kc : Nat) (l : Env) (w : World), lost < 18446744073709551616 → kr < 18446744073709551616 → kc < 18446744073709551616 →
      HpM [] W w [blk qb [.int .u64 lost, .int .u64 kr, .int .u64 kc] 42, row 9 1 (.slice (some ⟨gc, 0, none⟩) (r + c) cc2) (r + c) (sw (coversB r c own)), row 9 1 (.slice (some ⟨go, 0, none⟩) own.length co) own.length (sw own), blk bb [.int .u8 b1, .int .u8 b2, .string t1, .int .u8 b3, .int .u8 b4, .string t2] 59] →
      V.Sub [(3, .v (.int .u8 less)), (6, .v (.pointer (some ⟨bb, 0, none⟩))), (9, .v (.int .i64 r)), (10, .v (.int .i64 c)), (11, .v (.slice (some ⟨go, 0, none⟩) own.length co)), (12, .v (.slice (some ⟨gc, 0, none⟩) (r + c) cc2)), (13, .v (.pointer (some ⟨qb, 0, none⟩)))] l → K1 l w := by
    clear hp hx hlx hkr hkc h1 hy hz
    repeat clear hp
    intro lost kr kc l w hlx hkr hkc hp hsub
    refine hK1 _ _ _ hsub ?_
    clear hK1 hsub
    have hl4 : less / 4 % 2 ≤ 1 := by omega
    have hso : SLv w (.slice (some ⟨go, 0, none⟩) own.length co) (sw own) := SLv.of_row (hp.get (i := 2) rfl)
    have hsc : SLv w (.slice (some ⟨gc, 0, none⟩) (r + c) cc2) (sw (coversB r c own)) := SLv.of_row (hp.get (i := 1) rfl)
    obtain ⟨vA, hrA, hsA⟩ := SLv.hi TTok (t := 22) rfl rfl hsc r (by rw [sw_len]; omega)
    obtain ⟨vB, hrB, hsB⟩ := SLv.lo TTok (t := 22) rfl rfl hsc r (by rw [sw_len]; omega)
    obtain ⟨vC, hrC, hsC⟩ := SLv.hi TTok (t := 22) rfl rfl hsc (r - less % 2) (by rw [sw_len]; omega)
    obtain ⟨vD, hrD, hsD⟩ := SLv.lo TTok (t := 22) rfl rfl hso (less / 2 % 2) (by rw [sw_len]; omega)
    obtain ⟨vE, hrE, hsE⟩ := SLv.lo TTok (t := 22) rfl rfl hsc (r + less / 4 % 2) (by rw [sw_len]; omega)
    rw [sw_take] at hsA hsC
    rw [sw_drop] at hsB hsD hsE
    obtain ⟨pA, cA, rfl⟩ := hsA.shape
    obtain ⟨pB, cB, rfl⟩ := hsB.shape
    obtain ⟨pC, cC, rfl⟩ := hsC.shape
    obtain ⟨pD, cD, rfl⟩ := hsD.shape
    obtain ⟨pE, cE, rfl⟩ := hsE.shape
    simp only [sw_len] at hrA hrB hrC hrD hrE hsA hsB hsC hsD hsE
    have eC : ((r : Int) - (less : Int) % 2) = ((r - less % 2 : Nat) : Int) := by omega
    have eD : ((less : Int) / 2 % 2) = ((less / 2 % 2 : Nat) : Int) := by omega
    have eE : ((r : Int) + (less : Int) / 4 % 2) = ((r + less / 4 % 2 : Nat) : Int) := by omega
    have hBA := fun w' (hx : Ext w w') => @Bend_c w' _ b1 b2 t1 hb1 hb2 _ (hsA.ext hx) (by rw [List.length_take]; omega) 1102 (by omega) (fun q hq => hcz q (List.mem_of_mem_take hq))
    have hBB := fun w' (hx : Ext w w') => @Bend_c w' _ b3 b4 t2 hb3 hb4 _ (hsB.ext hx) (by rw [List.length_drop]; omega) 1102 (by omega) (fun q hq => hcz q (List.mem_of_mem_drop hq))
    conv => whnf
    refine VSeq.mk fun Kq hKq => ?_
    conv => whnf
    refine VSeq.mk fun Kq hKq => ?_
    conv => whnf
    refine v_mixA TTok FFok mixed [(0, false), (1, false), (2, false), (3, false), (4, false), (5, false), (6, false), (7, false), (8, false), (9, false), (10, false), (11, false), (12, false), (13, false), (15, false), (16, false), (17, false), (18, false), (19, false), (22, false), (23, false), (24, false), (25, false), (26, false), (27, false), (28, false), (29, false), (30, false), (31, false), (32, false), (33, false), (34, false), (35, false), (36, false), (37, false), (38, false), (39, false), (40, false), (41, false), (42, false), (43, false), (44, false), (45, false), (46, false), (47, false), (48, false), (49, false), (50, false), (51, false), (53, false), (14, true), (20, true), (21, false), (52, false)] (by kernel_rfl) ?_
    conv => whnf
    refine ⟨_, fun w' _ => hrA _ w', ?_⟩
    conv => whnf
    refine ⟨_, fun w' _ => hrB _ w', ?_⟩
    conv => whnf
    refine ⟨.agg #[.slice (some ⟨go, 0, none⟩) own.length co, .slice pA (List.take r (coversB r c own)).length cA, .slice pB (List.drop r (coversB r c own)).length cB], fun w' hx' => by kernel_rfl, ?_⟩
    conv => whnf
    refine ⟨0, ⟨by first | rfl | omega, by omega⟩, ?_⟩
    conv => whnf
    refine ⟨_, fun w' hx' => Blk.ldV (off := 0) (Blk.ext (hp.get (i := 3) rfl) hx') TTok rfl (vs := [.int .u8 b1, .int .u8 b2, .string t1]) rfl (by rfl), ?_⟩
    conv => whnf
    refine ⟨_, fun w' _ => hrA _ w', ?_⟩
    conv => whnf
    refine ⟨1, ⟨by first | rfl | omega, by omega⟩, ?_⟩
    conv => whnf
    refine ⟨_, fun w' hx' => Blk.ldV (off := 3) (Blk.ext (hp.get (i := 3) rfl) hx') TTok rfl (vs := [.int .u8 b3, .int .u8 b4, .string t2]) rfl (by rfl), ?_⟩
    conv => whnf
    refine ⟨_, fun w' _ => hrB _ w', ?_⟩
    conv => whnf
    refine And.intro (by omega) ?_
    conv => whnf
    refine And.intro (by omega) ?_
    conv => whnf
    refine And.intro (by omega) ?_
    conv => whnf
    rw [eC]
    refine ⟨_, fun w' _ => hrC _ w', ?_⟩
    conv => whnf
    refine ⟨_, fun w' _ => hrB _ w', ?_⟩
    conv => whnf
    refine ⟨.agg #[.slice (some ⟨go, 0, none⟩) own.length co, .slice pC (List.take (r - less % 2) (coversB r c own)).length cC, .slice pB (List.drop r (coversB r c own)).length cB], fun w' hx' => by kernel_rfl, ?_⟩
    conv => whnf
    refine And.intro (by omega) ?_
    conv => whnf
    refine And.intro (by omega) ?_
    conv => whnf
    refine And.intro (by omega) ?_
    conv => whnf
    rw [eD]
    refine ⟨_, fun w' _ => hrD _ w', ?_⟩
    conv => whnf
    refine ⟨_, fun w' _ => hrA _ w', ?_⟩
    conv => whnf
    refine And.intro (by omega) ?_
    conv => whnf
    refine And.intro (by omega) ?_
    conv => whnf
    refine And.intro (by omega) ?_
    conv => whnf
    refine And.intro (by omega) ?_
    conv => whnf
    rw [eE]
    refine ⟨_, fun w' _ => hrE _ w', ?_⟩
    conv => whnf
    refine ⟨.agg #[.slice pD (List.drop (less / 2 % 2) own).length cD, .slice pA (List.take r (coversB r c own)).length cA, .slice pE (List.drop (r + less / 4 % 2) (coversB r c own)).length cE], fun w' hx' => by kernel_rfl, ?_⟩
    conv => whnf
    intro w hx
    try (have hp := hp.call hx)
    conv => whnf
    have hw0 := hx
    refine (hBA _ hx).mono ?_
    rintro e w' ⟨u, rfl, vF, LvF, rfl, hq, hlvF, hzvF⟩
    refine ⟨_, rfl, ?_⟩
    have hxq := hq.ext
    have hp := hp.join hq
    obtain ⟨pvF, cvF, rfl⟩ := row_shape (hp.get (i := 0) rfl)
    clear hq
    conv => whnf
    refine And.intro hxq ?_
    conv => whnf
    intro w hx
    try (have hp := hp.call hx)
    conv => whnf
    refine (hBB _ (hw0.trans (hxq.trans hx))).mono ?_
    rintro e w2 ⟨u, rfl, vG, LG, rfl, hq, hlG, hzG⟩
    refine ⟨_, rfl, ?_⟩
    have hxq2 := hq.ext
    have hp := hp.join hq
    obtain ⟨pG, cG, rfl⟩ := row_shape (hp.get (i := 0) rfl)
    clear hq
    have hwall := hw0.trans (hxq.trans (hx.trans hxq2))
    clear hw0
    conv => whnf
    refine And.intro hxq2 ?_
    clear hxq hxq2
    conv => whnf
    refine ⟨.agg #[.slice (some ⟨go, 0, none⟩) own.length co, .slice pvF LvF.length cvF, .slice pG LG.length cG], fun w' hx' => by kernel_rfl, ?_⟩
    conv => whnf
    refine ⟨.agg #[.slice (some ⟨go, 0, none⟩) own.length co, .slice pA (List.take r (coversB r c own)).length cA, .slice pB (List.drop r (coversB r c own)).length cB, .slice (some ⟨go, 0, none⟩) own.length co, .slice pvF LvF.length cvF, .slice pG LG.length cG, .slice (some ⟨go, 0, none⟩) own.length co, .slice pC (List.take (r - less % 2) (coversB r c own)).length cC, .slice pB (List.drop r (coversB r c own)).length cB, .slice pD (List.drop (less / 2 % 2) own).length cD, .slice pA (List.take r (coversB r c own)).length cA, .slice pE (List.drop (r + less / 4 % 2) (coversB r c own)).length cE], fun w' hx' => by kernel_rfl, ?_⟩
    conv => whnf
    intro w hx
    try (have hp := hp.call hx)
    conv => whnf
    refine hKq _ _ _ (V.Sub.refl _) ?_
    clear hKq Kq
    conv => whnf
    have hwl := hwall.trans hx
    have hsel := four_at (.slice (some ⟨go, 0, none⟩) own.length co) (.slice pA (List.take r (coversB r c own)).length cA) (.slice pB (List.drop r (coversB r c own)).length cB) (.slice (some ⟨go, 0, none⟩) own.length co) (.slice pvF LvF.length cvF) (.slice pG LG.length cG) (.slice (some ⟨go, 0, none⟩) own.length co) (.slice pC (List.take (r - less % 2) (coversB r c own)).length cC) (.slice pB (List.drop r (coversB r c own)).length cB) (.slice pD (List.drop (less / 2 % 2) own).length cD) (.slice pA (List.take r (coversB r c own)).length cA) (.slice pE (List.drop (r + less / 4 % 2) (coversB r c own)).length cE)
    obtain ⟨Ag, hAg⟩ : ∃ Ag : Array Value, #[.slice (some ⟨go, 0, none⟩) own.length co, .slice pA (List.take r (coversB r c own)).length cA, .slice pB (List.drop r (coversB r c own)).length cB, .slice (some ⟨go, 0, none⟩) own.length co, .slice pvF LvF.length cvF, .slice pG LG.length cG, .slice (some ⟨go, 0, none⟩) own.length co, .slice pC (List.take (r - less % 2) (coversB r c own)).length cC, .slice pB (List.drop r (coversB r c own)).length cB, .slice pD (List.drop (less / 2 % 2) own).length cD, .slice pA (List.take r (coversB r c own)).length cA, .slice pE (List.drop (r + less / 4 % 2) (coversB r c own)).length cE] = Ag := ⟨_, rfl⟩
    rw [hAg] at hsel ⊢
    have hsF : SLv w (.slice pvF LvF.length cvF) (sw LvF) := SLv.of_row (hp.get (i := 1) rfl)
    have hsG : SLv w (.slice pG LG.length cG) (sw LG) := SLv.of_row (hp.get (i := 0) rfl)
    have hsel2 : ∀ i < 4, ∃ (L A B : List ByteArray) (x y z : Value), SLv w x (sw L) ∧ SLv w y (sw A) ∧ SLv w z (sw B) ∧ L.length ≤ 48 ∧ A.length ≤ 14 ∧ B.length ≤ 14 ∧ (∀ q ∈ A ++ B, q.size ≤ 1110) ∧
        ∀ w, (Instr.index 61 (.agg Ag) (.int .i64 (i : Nat))).run Tryd.prog w = .ok (.agg #[x, y, z]) w := by
      have tk : ∀ n, ∀ q ∈ List.take n (coversB r c own), q.size ≤ 1110 := fun n q hq => by have := hcz q (List.mem_of_mem_take hq); omega
      have dr : ∀ n, ∀ q ∈ List.drop n (coversB r c own), q.size ≤ 1110 := fun n q hq => by have := hcz q (List.mem_of_mem_drop hq); omega
      have ap : ∀ {A B : List ByteArray}, (∀ q ∈ A, q.size ≤ 1110) → (∀ q ∈ B, q.size ≤ 1110) → ∀ q ∈ A ++ B, q.size ≤ 1110 := fun h1 h2 q hq => by
        rcases List.mem_append.1 hq with h | h
        · exact h1 q h
        · exact h2 q h
      intro i hi
      obtain ⟨x, y, z, hxyz, hrun⟩ := hsel i hi
      rw [List.length_take] at hlvF
      rw [List.length_drop] at hlG
      rcases hxyz with ⟨rfl, rfl, rfl⟩ | ⟨rfl, rfl, rfl⟩ | ⟨rfl, rfl, rfl⟩ | ⟨rfl, rfl, rfl⟩
      · exact ⟨_, _, _, _, _, _, hso.ext hwl, hsA.ext hwl, hsB.ext hwl, by omega, by rw [List.length_take]; omega, by rw [List.length_drop]; omega, ap (tk _) (dr _), hrun⟩
      · exact ⟨_, _, _, _, _, _, hso.ext hwl, hsF, hsG, by omega, by omega, by omega, ap hzvF hzG, hrun⟩
      · exact ⟨_, _, _, _, _, _, hso.ext hwl, hsC.ext hwl, hsB.ext hwl, by omega, by rw [List.length_take]; omega, by rw [List.length_drop]; omega, ap (tk _) (dr _), hrun⟩
      · exact ⟨_, _, _, _, _, _, hsD.ext hwl, hsA.ext hwl, hsE.ext hwl, by rw [List.length_drop]; omega, by rw [List.length_take]; omega, by rw [List.length_drop]; omega, ap (tk _) (dr _), hrun⟩
    clear hsel hAg hrA hrB hrC hrD hrE hsA hsB hsC hsD hsE hsF hsG hso hsc hBA hBB hwall hzvF hzG
    have hx0 : Ext W w := hp.ext
    have hp := hp.pick [2] (by decide)
    change HpM [] W w [blk qb [.int .u64 lost, .int .u64 kr, .int .u64 kc] 42] at hp
    obtain ⟨w0, hw0⟩ : ∃ w0, w = w0 := ⟨_, rfl⟩
    have hsel2 : ∀ i < 4, ∃ (L A B : List ByteArray) (x y z : Value), (∀ w, Ext w0 w → SLv w x (sw L) ∧ SLv w y (sw A) ∧ SLv w z (sw B)) ∧ L.length ≤ 48 ∧ A.length ≤ 14 ∧ B.length ≤ 14 ∧ (∀ q ∈ A ++ B, q.size ≤ 1110) ∧
        ∀ w, (Instr.index 61 (.agg Ag) (.int .i64 (i : Nat))).run Tryd.prog w = .ok (.agg #[x, y, z]) w := fun i hi => by
      obtain ⟨L, A, B, x, y, z, s1, s2, s3, k1, k2, k3, k4, hrun⟩ := hsel2 i hi
      rw [hw0] at s1 s2 s3
      exact ⟨L, A, B, x, y, z, fun w hx => ⟨s1.ext hx, s2.ext hx, s3.ext hx⟩, k1, k2, k3, k4, hrun⟩
    rw [hw0] at hp ⊢
    have hx0 : Ext W w0 := hp.ext
    have hqb : Blk w0 qb [.int .u64 lost, .int .u64 kr, .int .u64 kc] 42 := hp.get (i := 0) rfl
    refine ⟨fun m l w => ∃ (i : Nat), m + i = 4 ∧ l = [(9, .v (.int .i64 r)), (10, .v (.int .i64 c)), (13, .v (.pointer (some ⟨qb, 0, none⟩))), (94, .v (.agg Ag)), (95, .v (.int .i64 i))] ∧ HpM [] w0 w [],
      ⟨4, _, ⟨0, by omega, rfl, HpM.nil0 [] w0⟩, sub_cons rfl (sub_cons rfl (sub_cons rfl (sub_cons rfl (sub_cons rfl sub_nil))))⟩, ?_⟩
    clear hp hw0 hwl hx
    repeat clear hp
    rintro m _ w ⟨i, hm, rfl, hp⟩
    conv => whnf
    refine VSeq.mk fun Kq hKq => ?_
    conv => whnf
    refine hKq _ _ _ (V.Sub.refl _) ?_
    clear hKq Kq
    conv => whnf
    refine VSeq.mk fun Kq hKq => ?_
    conv => whnf
    refine ⟨fun hlt => ?_, fun hlt => ?_⟩
    · have hlt := of_decide_eq_true hlt
      conv => whnf
      refine hKq _ _ _ (V.Sub.refl _) ?_
      clear hKq Kq
      conv => whnf
      refine VSeq.mk fun Kq hKq => ?_
      conv => whnf
      refine VSeq.mk fun Kq hKq => ?_
      conv => whnf
      obtain ⟨L, A, B, x, y, z, hss, k1, k2, k3, k4, hrun⟩ := hsel2 i (by omega)
      obtain ⟨s1, s2, s3⟩ := hss w0 (Ext.refl _)
      obtain ⟨p1, c1, rfl⟩ := s1.shape
      obtain ⟨p2, c2, rfl⟩ := s2.shape
      obtain ⟨p3, c3, rfl⟩ := s3.shape
      simp only [sw_len] at s1 s2 s3 hrun hss
      clear s1 s2 s3
      refine ⟨_, _, hrun _, ?_⟩
      conv => whnf
      clear hrun
      refine hp.kalloc z60 fun o w hp hx => ?_
      conv => whnf
      refine hp.kstA TTok rfl 0 rfl (by rfl) (by simp [Value.oneCell']) (by rfl) fun w hp => ?_
      try simp only [List.set_cons_zero, List.set_cons_succ, EV.val] at hp
      conv => whnf
      refine hKq _ _ _ (V.Sub.refl _) ?_
      clear hKq Kq
      conv => whnf
      refine VSeq.mk fun Kq hKq => ?_
      conv => whnf
      have hst := Sets_p r c lost kr kc hsh hlx hkr hkc
      refine ⟨_, _, Blk.ld (off := 0) (hp.get (i := 0) rfl) TTok rfl rfl, ?_⟩
      conv => whnf
      refine ⟨_, _, Blk.ld (off := 0) (Blk.ext hqb hp.ext) TTok rfl rfl, ?_⟩
      conv => whnf
      refine ⟨_, _, Blk.ld (off := 1) (hp.get (i := 0) rfl) TTok rfl rfl, ?_⟩
      conv => whnf
      refine ⟨_, _, Blk.ld (off := 2) (hp.get (i := 0) rfl) TTok rfl rfl, ?_⟩
      conv => whnf
      refine ⟨_, _, Blk.ld (off := 1) (Blk.ext hqb hp.ext) TTok rfl rfl, ?_⟩
      conv => whnf
      refine ⟨_, _, Blk.ld (off := 2) (Blk.ext hqb hp.ext) TTok rfl rfl, ?_⟩
      conv => whnf
      cases hset : setsB r c lost kr kc with
      | false =>
        have hfi := fits_ok r c lost kr kc hsh
        rw [hset] at hfi hst
        refine V.CallsUse (Repair_arg r c r c lost kr kc _ _ _ ⟨_, _, _, rfl⟩ ⟨_, _, _, rfl⟩ ⟨_, _, _, rfl⟩ (of_ok r c hsh) hfi) fun w hx => ?_
        try (have hp := hp.call hx)
        conv => whnf
        refine hKq _ _ _ (V.Sub.refl _) ?_
        clear hKq Kq
        conv => whnf
        refine VSeq.mk fun Kq hKq => ?_
        conv => whnf
        refine hKq _ _ _ (V.Sub.refl _) ?_
        clear hKq Kq
        conv => whnf
        refine VSeq.mk fun Kq hKq => ?_
        conv => whnf
        refine VSeq.mk fun Kq hKq => ?_
        conv => whnf
        refine ⟨_, _, Blk.ld (off := 0) (Blk.ext hqb hp.ext) TTok rfl rfl, ?_⟩
        conv => whnf
        refine ⟨_, _, Blk.ld (off := 1) (Blk.ext hqb hp.ext) TTok rfl rfl, ?_⟩
        conv => whnf
        refine ⟨_, _, Blk.ld (off := 2) (Blk.ext hqb hp.ext) TTok rfl rfl, ?_⟩
        conv => whnf
        refine PureF.use (hst) fun w hx => ?_
        try (have hp := hp.call hx)
        conv => whnf
        refine hKq _ _ _ (V.Sub.refl _) ?_
        clear hKq Kq
        conv => whnf
        refine And.intro (fun _ => ?_) (fun h => by cases h)
        conv => whnf
        refine hKq _ _ _ (V.Sub.refl _) ?_
        clear hKq Kq
        conv => whnf
        refine VSeq.mk fun Kq hKq => ?_
        conv => whnf
        refine hKq _ _ _ (V.Sub.refl _) ?_
        clear hKq Kq
        conv => whnf
        refine VSeq.mk fun Kq hKq => ?_
        conv => whnf
        refine hKq _ _ _ (V.Sub.refl _) ?_
        clear hKq Kq
        conv => whnf
        refine VSeq.mk fun Kq hKq => ?_
        conv => whnf
        refine VSeq.mk fun Kq hKq => ?_
        conv => whnf
        refine hKq _ _ _ (V.Sub.refl _) ?_
        clear hKq Kq
        conv => whnf
        refine And.intro (fun h => absurd (of_decide_eq_true h) ((by omega))) (fun _ => ?_)
        conv => whnf
        refine hKq _ _ _ (V.Sub.refl _) ?_
        clear hKq Kq
        conv => whnf
        refine VSeq.mk fun Kq hKq => ?_
        conv => whnf
        refine VSeq.mk fun Kq hKq => ?_
        conv => whnf
        refine hKq _ _ _ (V.Sub.refl _) ?_
        clear hKq Kq
        conv => whnf
        refine VSeq.mk fun Kq hKq => ?_
        conv => whnf
        refine And.intro (fun h => absurd (of_decide_eq_true h) ((by omega))) (fun _ => ?_)
        conv => whnf
        refine hKq _ _ _ (V.Sub.refl _) ?_
        clear hKq Kq
        conv => whnf
        refine And.intro (fun h => absurd (of_decide_eq_true h) ((by omega))) (fun _ => ?_)
        conv => whnf
        refine V.CallsUse (same_nil _) fun w hx => ?_
        try (have hp := hp.call hx)
        conv => whnf
        refine hKq _ _ _ (V.Sub.refl _) ?_
        clear hKq Kq
        conv => whnf
        refine And.intro (fun h => by cases h) (fun _ => ?_)
        conv => whnf
        refine hKq _ _ _ (V.Sub.refl _) ?_
        clear hKq Kq
        conv => whnf
        refine And.intro (by omega) ?_
        conv => whnf
        exact ⟨m - 1, _, by omega, ⟨i + 1, by omega, rfl, hp.pick [] (by decide)⟩, sub_cons rfl (sub_cons rfl (sub_cons rfl (sub_cons rfl (sub_cons rfl sub_nil))))⟩
      | true =>
        rw [hset] at hst
        have hrb := fun w (h : SLv w (.slice p1 L.length c1) (sw L)) => @rBlock_c w (.slice p1 L.length c1) r c hsh L h
        cases hok : (blockB (r * c) L && decide (A.length = r) && decide (B.length = c)) with
        | false =>
          obtain ⟨s1, s2, s3⟩ := hss _ hp.ext
          refine V.CallsUse (Repair_grid r c lost kr kc hsh hset _ _ _ L A B s1 s2 s3 hok (by omega) (by omega)) fun w hx => ?_
          try (have hp := hp.call hx)
          conv => whnf
          refine hKq _ _ _ (V.Sub.refl _) ?_
          clear hKq Kq
          conv => whnf
          refine VSeq.mk fun Kq hKq => ?_
          conv => whnf
          refine hKq _ _ _ (V.Sub.refl _) ?_
          clear hKq Kq
          conv => whnf
          refine VSeq.mk fun Kq hKq => ?_
          conv => whnf
          refine VSeq.mk fun Kq hKq => ?_
          conv => whnf
          clear s1 s2 s3
          refine ⟨_, _, Blk.ld (off := 0) (Blk.ext hqb hp.ext) TTok rfl rfl, ?_⟩
          conv => whnf
          refine ⟨_, _, Blk.ld (off := 1) (Blk.ext hqb hp.ext) TTok rfl rfl, ?_⟩
          conv => whnf
          refine ⟨_, _, Blk.ld (off := 2) (Blk.ext hqb hp.ext) TTok rfl rfl, ?_⟩
          conv => whnf
          refine PureF.use (hst) fun w hx => ?_
          try (have hp := hp.call hx)
          conv => whnf
          refine hKq _ _ _ (V.Sub.refl _) ?_
          clear hKq Kq
          conv => whnf
          refine And.intro (fun h => by cases h) (fun _ => ?_)
          conv => whnf
          refine VSeq.mk fun Kq hKq => ?_
          conv => whnf
          refine VSeq.mk fun Kq hKq => ?_
          conv => whnf
          refine ⟨_, _, Blk.ld (off := 0) (hp.get (i := 0) rfl) TTok rfl rfl, ?_⟩
          conv => whnf
          cases hbb : blockB (r * c) L with
          | false =>
            rw [hbb] at hrb
            refine V.CallsUse (hrb _ (hss _ hp.ext).1) fun w hx => ?_
            try (have hp := hp.call hx)
            conv => whnf
            refine hKq _ _ _ (V.Sub.refl _) ?_
            clear hKq Kq
            conv => whnf
            refine VSeq.mk fun Kq hKq => ?_
            conv => whnf
            refine And.intro (fun _ => ?_) (fun h => by cases h)
            conv => whnf
            refine hKq _ _ _ (V.Sub.refl _) ?_
            clear hKq Kq
            conv => whnf
            refine hKq _ _ _ (V.Sub.refl _) ?_
            clear hKq Kq
            conv => whnf
            refine hKq _ _ _ (V.Sub.refl _) ?_
            clear hKq Kq
            conv => whnf
            refine VSeq.mk fun Kq hKq => ?_
            conv => whnf
            refine hKq _ _ _ (V.Sub.refl _) ?_
            clear hKq Kq
            conv => whnf
            refine VSeq.mk fun Kq hKq => ?_
            conv => whnf
            refine hKq _ _ _ (V.Sub.refl _) ?_
            clear hKq Kq
            conv => whnf
            refine VSeq.mk fun Kq hKq => ?_
            conv => whnf
            refine VSeq.mk fun Kq hKq => ?_
            conv => whnf
            refine hKq _ _ _ (V.Sub.refl _) ?_
            clear hKq Kq
            conv => whnf
            refine And.intro (fun h => absurd (of_decide_eq_true h) ((by omega))) (fun _ => ?_)
            conv => whnf
            refine hKq _ _ _ (V.Sub.refl _) ?_
            clear hKq Kq
            conv => whnf
            refine VSeq.mk fun Kq hKq => ?_
            conv => whnf
            refine VSeq.mk fun Kq hKq => ?_
            conv => whnf
            refine hKq _ _ _ (V.Sub.refl _) ?_
            clear hKq Kq
            conv => whnf
            refine VSeq.mk fun Kq hKq => ?_
            conv => whnf
            refine And.intro (fun h => absurd (of_decide_eq_true h) ((by omega))) (fun _ => ?_)
            conv => whnf
            refine hKq _ _ _ (V.Sub.refl _) ?_
            clear hKq Kq
            conv => whnf
            refine And.intro (fun h => absurd (of_decide_eq_true h) ((by omega))) (fun _ => ?_)
            conv => whnf
            refine V.CallsUse (same_nil _) fun w hx => ?_
            try (have hp := hp.call hx)
            conv => whnf
            refine hKq _ _ _ (V.Sub.refl _) ?_
            clear hKq Kq
            conv => whnf
            refine And.intro (fun h => by cases h) (fun _ => ?_)
            conv => whnf
            refine hKq _ _ _ (V.Sub.refl _) ?_
            clear hKq Kq
            conv => whnf
            refine And.intro (by omega) ?_
            conv => whnf
            exact ⟨m - 1, _, by omega, ⟨i + 1, by omega, rfl, hp.pick [] (by decide)⟩, sub_cons rfl (sub_cons rfl (sub_cons rfl (sub_cons rfl (sub_cons rfl sub_nil))))⟩
          | true =>
            rw [hbb] at hrb hok
            refine V.CallsUse (hrb _ (hss _ hp.ext).1) fun w hx => ?_
            try (have hp := hp.call hx)
            conv => whnf
            refine hKq _ _ _ (V.Sub.refl _) ?_
            clear hKq Kq
            conv => whnf
            refine VSeq.mk fun Kq hKq => ?_
            conv => whnf
            refine And.intro (fun h => by cases h) (fun _ => ?_)
            conv => whnf
            refine ⟨_, _, Blk.ld (off := 1) (hp.get (i := 0) rfl) TTok rfl rfl, ?_⟩
            conv => whnf
            refine hKq _ _ _ (V.Sub.refl _) ?_
            clear hKq Kq
            conv => whnf
            by_cases hA : A.length = r
            · have hB : ¬ B.length = c := by
                intro e
                rw [decide_eq_true hA, decide_eq_true e] at hok
                cases hok
              refine And.intro (fun h => absurd (of_decide_eq_true h) ((by omega))) (fun _ => ?_)
              conv => whnf
              refine ⟨_, _, Blk.ld (off := 2) (hp.get (i := 0) rfl) TTok rfl rfl, ?_⟩
              conv => whnf
              refine hKq _ _ _ (V.Sub.refl _) ?_
              clear hKq Kq
              conv => whnf
              refine And.intro (fun _ => ?_) (fun h => absurd ((by omega)) (of_decide_eq_false h))
              conv => whnf
              refine hKq _ _ _ (V.Sub.refl _) ?_
              clear hKq Kq
              conv => whnf
              refine VSeq.mk fun Kq hKq => ?_
              conv => whnf
              refine hKq _ _ _ (V.Sub.refl _) ?_
              clear hKq Kq
              conv => whnf
              refine VSeq.mk fun Kq hKq => ?_
              conv => whnf
              refine hKq _ _ _ (V.Sub.refl _) ?_
              clear hKq Kq
              conv => whnf
              refine VSeq.mk fun Kq hKq => ?_
              conv => whnf
              refine VSeq.mk fun Kq hKq => ?_
              conv => whnf
              refine hKq _ _ _ (V.Sub.refl _) ?_
              clear hKq Kq
              conv => whnf
              refine And.intro (fun h => absurd (of_decide_eq_true h) ((by omega))) (fun _ => ?_)
              conv => whnf
              refine hKq _ _ _ (V.Sub.refl _) ?_
              clear hKq Kq
              conv => whnf
              refine VSeq.mk fun Kq hKq => ?_
              conv => whnf
              refine VSeq.mk fun Kq hKq => ?_
              conv => whnf
              refine hKq _ _ _ (V.Sub.refl _) ?_
              clear hKq Kq
              conv => whnf
              refine VSeq.mk fun Kq hKq => ?_
              conv => whnf
              refine And.intro (fun h => absurd (of_decide_eq_true h) ((by omega))) (fun _ => ?_)
              conv => whnf
              refine hKq _ _ _ (V.Sub.refl _) ?_
              clear hKq Kq
              conv => whnf
              refine And.intro (fun h => absurd (of_decide_eq_true h) ((by omega))) (fun _ => ?_)
              conv => whnf
              refine V.CallsUse (same_nil _) fun w hx => ?_
              try (have hp := hp.call hx)
              conv => whnf
              refine hKq _ _ _ (V.Sub.refl _) ?_
              clear hKq Kq
              conv => whnf
              refine And.intro (fun h => by cases h) (fun _ => ?_)
              conv => whnf
              refine hKq _ _ _ (V.Sub.refl _) ?_
              clear hKq Kq
              conv => whnf
              refine And.intro (by omega) ?_
              conv => whnf
              exact ⟨m - 1, _, by omega, ⟨i + 1, by omega, rfl, hp.pick [] (by decide)⟩, sub_cons rfl (sub_cons rfl (sub_cons rfl (sub_cons rfl (sub_cons rfl sub_nil))))⟩
            · refine And.intro (fun _ => ?_) (fun h => absurd ((by omega)) (of_decide_eq_false h))
              conv => whnf
              refine hKq _ _ _ (V.Sub.refl _) ?_
              clear hKq Kq
              conv => whnf
              refine hKq _ _ _ (V.Sub.refl _) ?_
              clear hKq Kq
              conv => whnf
              refine VSeq.mk fun Kq hKq => ?_
              conv => whnf
              refine hKq _ _ _ (V.Sub.refl _) ?_
              clear hKq Kq
              conv => whnf
              refine VSeq.mk fun Kq hKq => ?_
              conv => whnf
              refine hKq _ _ _ (V.Sub.refl _) ?_
              clear hKq Kq
              conv => whnf
              refine VSeq.mk fun Kq hKq => ?_
              conv => whnf
              refine VSeq.mk fun Kq hKq => ?_
              conv => whnf
              refine hKq _ _ _ (V.Sub.refl _) ?_
              clear hKq Kq
              conv => whnf
              refine And.intro (fun h => absurd (of_decide_eq_true h) ((by omega))) (fun _ => ?_)
              conv => whnf
              refine hKq _ _ _ (V.Sub.refl _) ?_
              clear hKq Kq
              conv => whnf
              refine VSeq.mk fun Kq hKq => ?_
              conv => whnf
              refine VSeq.mk fun Kq hKq => ?_
              conv => whnf
              refine hKq _ _ _ (V.Sub.refl _) ?_
              clear hKq Kq
              conv => whnf
              refine VSeq.mk fun Kq hKq => ?_
              conv => whnf
              refine And.intro (fun h => absurd (of_decide_eq_true h) ((by omega))) (fun _ => ?_)
              conv => whnf
              refine hKq _ _ _ (V.Sub.refl _) ?_
              clear hKq Kq
              conv => whnf
              refine And.intro (fun h => absurd (of_decide_eq_true h) ((by omega))) (fun _ => ?_)
              conv => whnf
              refine V.CallsUse (same_nil _) fun w hx => ?_
              try (have hp := hp.call hx)
              conv => whnf
              refine hKq _ _ _ (V.Sub.refl _) ?_
              clear hKq Kq
              conv => whnf
              refine And.intro (fun h => by cases h) (fun _ => ?_)
              conv => whnf
              refine hKq _ _ _ (V.Sub.refl _) ?_
              clear hKq Kq
              conv => whnf
              refine And.intro (by omega) ?_
              conv => whnf
              exact ⟨m - 1, _, by omega, ⟨i + 1, by omega, rfl, hp.pick [] (by decide)⟩, sub_cons rfl (sub_cons rfl (sub_cons rfl (sub_cons rfl (sub_cons rfl sub_nil))))⟩
        | true =>
          simp only [Bool.and_eq_true, decide_eq_true_eq] at hok
          obtain ⟨⟨hb1', hA⟩, hB⟩ := hok
          rw [hb1'] at hrb
          obtain ⟨s1, s2, s3⟩ := hss _ hp.ext
          refine (Repair_c (hg.ext (hx0.trans hp.ext)) r c lost kr kc hsh hset _ _ _ L A B s1 s2 s3 hb1' hA hB (fun q hq => by have := k4 q hq; omega)).mono ?_
          clear s1 s2 s3
          have hrr2 := fun w (h : SLv w (.slice p1 L.length c1) (sw L) ∧ SLv w (.slice p2 A.length c2) (sw A) ∧ SLv w (.slice p3 B.length c3) (sw B)) => @rRepair_c w r c lost kr kc hsh hset _ _ _ L A B h.1 h.2.1 h.2.2 hb1' hA hB (fun q hq => by have := k4 q hq; omega)
          cases hrf : repF r c (A ++ B) (planL r c lost kr kc).1 (lostL lost L L.length) with
          | none =>
            rw [hrf] at hrr2
            rintro e w ⟨u, rfl, hh⟩
            obtain ⟨rfl, hx2⟩ := hh
            refine ⟨_, rfl, ?_⟩
            have hp := hp.call hx2
            conv => whnf
            refine hKq _ _ _ (V.Sub.refl _) ?_
            clear hKq Kq
            conv => whnf
            refine VSeq.mk fun Kq hKq => ?_
            conv => whnf
            refine hKq _ _ _ (V.Sub.refl _) ?_
            clear hKq Kq
            conv => whnf
            refine VSeq.mk fun Kq hKq => ?_
            conv => whnf
            refine VSeq.mk fun Kq hKq => ?_
            conv => whnf
            refine ⟨_, _, Blk.ld (off := 0) (Blk.ext hqb hp.ext) TTok rfl rfl, ?_⟩
            conv => whnf
            refine ⟨_, _, Blk.ld (off := 1) (Blk.ext hqb hp.ext) TTok rfl rfl, ?_⟩
            conv => whnf
            refine ⟨_, _, Blk.ld (off := 2) (Blk.ext hqb hp.ext) TTok rfl rfl, ?_⟩
            conv => whnf
            refine PureF.use (hst) fun w hx => ?_
            try (have hp := hp.call hx)
            conv => whnf
            refine hKq _ _ _ (V.Sub.refl _) ?_
            clear hKq Kq
            conv => whnf
            refine And.intro (fun h => by cases h) (fun _ => ?_)
            conv => whnf
            refine VSeq.mk fun Kq hKq => ?_
            conv => whnf
            refine VSeq.mk fun Kq hKq => ?_
            conv => whnf
            refine ⟨_, _, Blk.ld (off := 0) (hp.get (i := 0) rfl) TTok rfl rfl, ?_⟩
            conv => whnf
            refine V.CallsUse (hrb _ (hss _ hp.ext).1) fun w hx => ?_
            try (have hp := hp.call hx)
            conv => whnf
            refine hKq _ _ _ (V.Sub.refl _) ?_
            clear hKq Kq
            conv => whnf
            refine VSeq.mk fun Kq hKq => ?_
            conv => whnf
            refine And.intro (fun h => by cases h) (fun _ => ?_)
            conv => whnf
            refine ⟨_, _, Blk.ld (off := 1) (hp.get (i := 0) rfl) TTok rfl rfl, ?_⟩
            conv => whnf
            refine hKq _ _ _ (V.Sub.refl _) ?_
            clear hKq Kq
            conv => whnf
            refine And.intro (fun h => absurd (of_decide_eq_true h) ((by omega))) (fun _ => ?_)
            conv => whnf
            refine ⟨_, _, Blk.ld (off := 2) (hp.get (i := 0) rfl) TTok rfl rfl, ?_⟩
            conv => whnf
            refine hKq _ _ _ (V.Sub.refl _) ?_
            clear hKq Kq
            conv => whnf
            refine And.intro (fun h => absurd (of_decide_eq_true h) ((by omega))) (fun _ => ?_)
            conv => whnf
            refine hKq _ _ _ (V.Sub.refl _) ?_
            clear hKq Kq
            conv => whnf
            refine VSeq.mk fun Kq hKq => ?_
            conv => whnf
            refine hKq _ _ _ (V.Sub.refl _) ?_
            clear hKq Kq
            conv => whnf
            refine VSeq.mk fun Kq hKq => ?_
            conv => whnf
            refine hKq _ _ _ (V.Sub.refl _) ?_
            clear hKq Kq
            conv => whnf
            refine VSeq.mk fun Kq hKq => ?_
            conv => whnf
            refine VSeq.mk fun Kq hKq => ?_
            conv => whnf
            refine hKq _ _ _ (V.Sub.refl _) ?_
            clear hKq Kq
            conv => whnf
            refine And.intro (fun _ => ?_) (fun h => absurd (rfl) (of_decide_eq_false h))
            conv => whnf
            refine VSeq.mk fun Kq hKq => ?_
            conv => whnf
            refine hKq _ _ _ (V.Sub.refl _) ?_
            clear hKq Kq
            conv => whnf
            refine VSeq.mk fun Kq hKq => ?_
            conv => whnf
            refine ⟨_, _, Blk.ld (off := 0) (hp.get (i := 0) rfl) TTok rfl rfl, ?_⟩
            conv => whnf
            refine ⟨_, _, Blk.ld (off := 0) (Blk.ext hqb hp.ext) TTok rfl rfl, ?_⟩
            conv => whnf
            refine ⟨_, _, Blk.ld (off := 1) (hp.get (i := 0) rfl) TTok rfl rfl, ?_⟩
            conv => whnf
            refine ⟨_, _, Blk.ld (off := 2) (hp.get (i := 0) rfl) TTok rfl rfl, ?_⟩
            conv => whnf
            refine ⟨_, _, Blk.ld (off := 1) (Blk.ext hqb hp.ext) TTok rfl rfl, ?_⟩
            conv => whnf
            refine ⟨_, _, Blk.ld (off := 2) (Blk.ext hqb hp.ext) TTok rfl rfl, ?_⟩
            conv => whnf
            refine (hrr2 _ (hss _ hp.ext)).mono ?_
            rintro e w ⟨u, rfl, rfl, hx3⟩
            refine ⟨_, rfl, ?_⟩
            have hp := hp.call hx3
            conv => whnf
            refine hKq _ _ _ (V.Sub.refl _) ?_
            clear hKq Kq
            conv => whnf
            refine VSeq.mk fun Kq hKq => ?_
            conv => whnf
            refine hKq _ _ _ (V.Sub.refl _) ?_
            clear hKq Kq
            conv => whnf
            refine And.intro (fun _ => ?_) (fun h => by cases h)
            conv => whnf
            refine hKq _ _ _ (V.Sub.refl _) ?_
            clear hKq Kq
            conv => whnf
            refine VSeq.mk fun Kq hKq => ?_
            conv => whnf
            refine VSeq.mk fun Kq hKq => ?_
            conv => whnf
            refine hKq _ _ _ (V.Sub.refl _) ?_
            clear hKq Kq
            conv => whnf
            refine VSeq.mk fun Kq hKq => ?_
            conv => whnf
            refine And.intro (fun h => absurd (of_decide_eq_true h) ((by omega))) (fun _ => ?_)
            conv => whnf
            refine hKq _ _ _ (V.Sub.refl _) ?_
            clear hKq Kq
            conv => whnf
            refine And.intro (fun h => absurd (of_decide_eq_true h) ((by omega))) (fun _ => ?_)
            conv => whnf
            refine V.CallsUse (same_nil _) fun w hx => ?_
            try (have hp := hp.call hx)
            conv => whnf
            refine hKq _ _ _ (V.Sub.refl _) ?_
            clear hKq Kq
            conv => whnf
            refine And.intro (fun h => by cases h) (fun _ => ?_)
            conv => whnf
            refine hKq _ _ _ (V.Sub.refl _) ?_
            clear hKq Kq
            conv => whnf
            refine And.intro (by omega) ?_
            conv => whnf
            exact ⟨m - 1, _, by omega, ⟨i + 1, by omega, rfl, hp.pick [] (by decide)⟩, sub_cons rfl (sub_cons rfl (sub_cons rfl (sub_cons rfl (sub_cons rfl sub_nil))))⟩
          | some L2 =>
            rw [hrf] at hrr2
            have hL2 := repF_len r c _ _ _ _ hrf
            rw [lostL_len] at hL2
            rintro e w ⟨u, rfl, hh⟩
            obtain ⟨v2, rfl, hq⟩ := hh
            refine ⟨_, rfl, ?_⟩
            have hp := hp.join hq
            clear hq
            conv => whnf
            refine hKq _ _ _ (V.Sub.refl _) ?_
            clear hKq Kq
            conv => whnf
            refine VSeq.mk fun Kq hKq => ?_
            conv => whnf
            refine hKq _ _ _ (V.Sub.refl _) ?_
            clear hKq Kq
            conv => whnf
            refine VSeq.mk fun Kq hKq => ?_
            conv => whnf
            refine VSeq.mk fun Kq hKq => ?_
            conv => whnf
            refine ⟨_, _, Blk.ld (off := 0) (Blk.ext hqb hp.ext) TTok rfl rfl, ?_⟩
            conv => whnf
            refine ⟨_, _, Blk.ld (off := 1) (Blk.ext hqb hp.ext) TTok rfl rfl, ?_⟩
            conv => whnf
            refine ⟨_, _, Blk.ld (off := 2) (Blk.ext hqb hp.ext) TTok rfl rfl, ?_⟩
            conv => whnf
            refine PureF.use (hst) fun w hx => ?_
            try (have hp := hp.call hx)
            conv => whnf
            refine hKq _ _ _ (V.Sub.refl _) ?_
            clear hKq Kq
            conv => whnf
            refine And.intro (fun h => by cases h) (fun _ => ?_)
            conv => whnf
            refine VSeq.mk fun Kq hKq => ?_
            conv => whnf
            refine VSeq.mk fun Kq hKq => ?_
            conv => whnf
            refine ⟨_, _, Blk.ld (off := 0) (hp.get (i := 1) rfl) TTok rfl rfl, ?_⟩
            conv => whnf
            refine V.CallsUse (hrb _ (hss _ hp.ext).1) fun w hx => ?_
            try (have hp := hp.call hx)
            conv => whnf
            refine hKq _ _ _ (V.Sub.refl _) ?_
            clear hKq Kq
            conv => whnf
            refine VSeq.mk fun Kq hKq => ?_
            conv => whnf
            refine And.intro (fun h => by cases h) (fun _ => ?_)
            conv => whnf
            refine ⟨_, _, Blk.ld (off := 1) (hp.get (i := 1) rfl) TTok rfl rfl, ?_⟩
            conv => whnf
            refine hKq _ _ _ (V.Sub.refl _) ?_
            clear hKq Kq
            conv => whnf
            refine And.intro (fun h => absurd (of_decide_eq_true h) ((by omega))) (fun _ => ?_)
            conv => whnf
            refine ⟨_, _, Blk.ld (off := 2) (hp.get (i := 1) rfl) TTok rfl rfl, ?_⟩
            conv => whnf
            refine hKq _ _ _ (V.Sub.refl _) ?_
            clear hKq Kq
            conv => whnf
            refine And.intro (fun h => absurd (of_decide_eq_true h) ((by omega))) (fun _ => ?_)
            conv => whnf
            refine hKq _ _ _ (V.Sub.refl _) ?_
            clear hKq Kq
            conv => whnf
            refine VSeq.mk fun Kq hKq => ?_
            conv => whnf
            refine hKq _ _ _ (V.Sub.refl _) ?_
            clear hKq Kq
            conv => whnf
            refine VSeq.mk fun Kq hKq => ?_
            conv => whnf
            refine hKq _ _ _ (V.Sub.refl _) ?_
            clear hKq Kq
            conv => whnf
            refine VSeq.mk fun Kq hKq => ?_
            conv => whnf
            refine VSeq.mk fun Kq hKq => ?_
            conv => whnf
            refine hKq _ _ _ (V.Sub.refl _) ?_
            clear hKq Kq
            conv => whnf
            refine And.intro (fun _ => ?_) (fun h => absurd (rfl) (of_decide_eq_false h))
            conv => whnf
            refine VSeq.mk fun Kq hKq => ?_
            conv => whnf
            refine hKq _ _ _ (V.Sub.refl _) ?_
            clear hKq Kq
            conv => whnf
            refine VSeq.mk fun Kq hKq => ?_
            conv => whnf
            refine ⟨_, _, Blk.ld (off := 0) (hp.get (i := 1) rfl) TTok rfl rfl, ?_⟩
            conv => whnf
            refine ⟨_, _, Blk.ld (off := 0) (Blk.ext hqb hp.ext) TTok rfl rfl, ?_⟩
            conv => whnf
            refine ⟨_, _, Blk.ld (off := 1) (hp.get (i := 1) rfl) TTok rfl rfl, ?_⟩
            conv => whnf
            refine ⟨_, _, Blk.ld (off := 2) (hp.get (i := 1) rfl) TTok rfl rfl, ?_⟩
            conv => whnf
            refine ⟨_, _, Blk.ld (off := 1) (Blk.ext hqb hp.ext) TTok rfl rfl, ?_⟩
            conv => whnf
            refine ⟨_, _, Blk.ld (off := 2) (Blk.ext hqb hp.ext) TTok rfl rfl, ?_⟩
            conv => whnf
            refine (hrr2 _ (hss _ hp.ext)).mono ?_
            rintro e w ⟨u, rfl, v3, rfl, hq⟩
            refine ⟨_, rfl, ?_⟩
            have hp := hp.join hq
            clear hq
            conv => whnf
            refine hKq _ _ _ (V.Sub.refl _) ?_
            clear hKq Kq
            conv => whnf
            refine VSeq.mk fun Kq hKq => ?_
            conv => whnf
            refine hKq _ _ _ (V.Sub.refl _) ?_
            clear hKq Kq
            conv => whnf
            refine And.intro (fun h => by cases h) (fun _ => ?_)
            conv => whnf
            refine hKq _ _ _ (V.Sub.refl _) ?_
            clear hKq Kq
            conv => whnf
            refine VSeq.mk fun Kq hKq => ?_
            conv => whnf
            refine VSeq.mk fun Kq hKq => ?_
            conv => whnf
            refine hKq _ _ _ (V.Sub.refl _) ?_
            clear hKq Kq
            conv => whnf
            refine VSeq.mk fun Kq hKq => ?_
            conv => whnf
            refine And.intro (fun h => absurd (of_decide_eq_true h) ((by omega))) (fun _ => ?_)
            conv => whnf
            refine hKq _ _ _ (V.Sub.refl _) ?_
            clear hKq Kq
            conv => whnf
            refine And.intro (fun h => absurd (of_decide_eq_true h) ((by omega))) (fun _ => ?_)
            conv => whnf
            have hsm := Same_c L2 L2 (SLv.of_row (hp.get (i := 1) rfl)) (SLv.of_row (hp.get (i := 0) rfl)) (by omega) (by omega)
            rw [decide_eq_true rfl] at hsm
            refine V.CallsUse (hsm) fun w hx => ?_
            try (have hp := hp.call hx)
            conv => whnf
            refine hKq _ _ _ (V.Sub.refl _) ?_
            clear hKq Kq
            conv => whnf
            refine And.intro (fun h => by cases h) (fun _ => ?_)
            conv => whnf
            refine hKq _ _ _ (V.Sub.refl _) ?_
            clear hKq Kq
            conv => whnf
            refine And.intro (by omega) ?_
            conv => whnf
            exact ⟨m - 1, _, by omega, ⟨i + 1, by omega, rfl, hp.pick [] (by decide)⟩, sub_cons rfl (sub_cons rfl (sub_cons rfl (sub_cons rfl (sub_cons rfl sub_nil))))⟩
    · have hlt := of_decide_eq_false hlt
      conv => whnf
      clear hKq Kq
      refine hKq _ _ _ (V.Sub.refl _) ?_
      clear hKq Kq
      conv => whnf
      refine VSeq.mk fun Kq hKq => ?_
      conv => whnf
      refine V.CallsUse (works_c (hg.ext (hx0.trans hp.ext))) fun w hx => ?_
      try (have hp := hp.call hx)
      conv => whnf
      refine hKq _ _ _ (V.Sub.refl _) ?_
      clear hKq Kq
      conv => whnf
      exact ⟨rfl, hx0.trans hp.ext⟩
  conv => whnf
  refine VSeq.mk fun Kq hKq => ?_
  conv => whnf
  refine And.intro (by omega) ?_
  conv => whnf
  refine hKq _ _ _ (V.Sub.refl _) ?_
  clear hKq Kq
  conv => whnf
  refine ⟨fun hq8 => ?_, fun hq8 => ?_⟩
  · have hq8 := of_decide_eq_true hq8
    conv => whnf
    refine ⟨_, _, Blk.ldN (hp.get (i := 4) rfl) TTok rfl (rfl), ?_⟩
    conv => whnf
    refine hp.kstA TTok rfl 0 rfl (by rfl) (by simp [Value.oneCell']) (by rfl) fun w hp => ?_
    try simp only [List.set_cons_zero, List.set_cons_succ, EV.val] at hp
    conv => whnf
    exact key _ _ _ _ _ h1 hy hz (hp.pick [0, 1, 2, 3] (by decide)) (sub_cons rfl (sub_cons rfl (sub_cons rfl (sub_cons rfl (sub_cons rfl (sub_cons rfl (sub_cons rfl sub_nil)))))))
  · have hq8 := of_decide_eq_false hq8
    conv => whnf
    exact key _ _ _ _ _ hlx hkr hkc (hp.pick [0, 1, 2, 3] (by decide)) (sub_cons rfl (sub_cons rfl (sub_cons rfl (sub_cons rfl (sub_cons rfl (sub_cons rfl (sub_cons rfl sub_nil)))))))
theorem makes_at {W : World} (hg : Good W) (c0 c1 c2 : Array Value) (a3 : Int) (e0 : Rd W (.cons (.int .u8) (.cons (.int .u8) (.cons (.sl .str) .nil))) c0.toList) (e1 : Rd W (.cons (.int .u64) (.cons (.int .u64) (.cons (.int .u64) .nil))) c1.toList)
    (e2 : Rd W (.cons (.ag (.cons (.int .u8) (.cons (.int .u8) (.cons .str .nil)))) (.cons (.ag (.cons (.int .u8) (.cons (.int .u8) (.cons .str .nil)))) .nil)) c2.toList) (w3 : (Lit.int .u8 a3).wf = true) :
    Calls Tryd.prog 5 #[.agg c0, .agg c1, .agg c2, .int .u8 a3] W fun e w' => e = .returned (.bool true) ∧ Ext W w' := by
  obtain ⟨a, b, v, D, rfl, ha, hb, hv, _⟩ := draft_rd e0
  obtain ⟨x, y, z, rfl, hx, hy, hz⟩ := loss_rd e1
  obtain ⟨b1, b2, b3, b4, t1, t2, rfl, h1, h2, h3, h4⟩ := bends_rd e2
  obtain ⟨q, rfl, hq⟩ := nat_of_u w3 rfl
  exact makes_c hg a b x y z q b1 b2 b3 b4 t1 t2 v D ha hb hx hy hz hq h1 h2 h3 h4 hv
end Go.Proofs.YtpiilfamfinieaaDoor
