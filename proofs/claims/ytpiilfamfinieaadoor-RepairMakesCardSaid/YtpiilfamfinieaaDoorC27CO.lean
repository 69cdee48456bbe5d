/- Chapter 27: Cover equals the reference. -/
import Derived.Test.YtpiilfamfinieaaDoorC27TR
namespace Go.Proofs.YtpiilfamfinieaaDoor
set_option linter.unusedSimpArgs false
set_option linter.unusedVariables false
open Go.RowKit V
theorem sw_take (L : List ByteArray) (n : Nat) : (sw L).take n = sw (L.take n) := by simp [sw, List.map_take]
theorem sw_drop (L : List ByteArray) (n : Nat) : (sw L).drop n = sw (L.drop n) := by simp [sw, List.map_drop]
theorem five_at (A B C D E : Array Value) (i : Nat) (hi : i < 5) (hA : A.size = 3) (hB : B.size = 3) (hC : C.size = 3) (hD : D.size = 3) (hE : E.size = 3) : ∃ X, (X = A ∨ X = B ∨ X = C ∨ X = D ∨ X = E) ∧
    ∀ w, (Instr.index 30 (.agg (A ++ B ++ C ++ D ++ E)) (.int .i64 (i : Nat))).run Tryd.prog w = .ok (.agg X) w := by
  obtain ⟨A⟩ := A
  obtain ⟨B⟩ := B
  obtain ⟨C⟩ := C
  obtain ⟨D⟩ := D
  obtain ⟨E⟩ := E
  match A, B, C, D, E, hA, hB, hC, hD, hE with
  | [a0, a1, a2], [b0, b1, b2], [c0, c1, c2], [d0, d1, d2], [e0, e1, e2], _, _, _, _, _ =>
    rcases (by omega : i = 0 ∨ i = 1 ∨ i = 2 ∨ i = 3 ∨ i = 4) with rfl | rfl | rfl | rfl | rfl
    · exact ⟨_, .inl rfl, fun w => by kernel_rfl⟩
    · exact ⟨_, .inr (.inl rfl), fun w => by kernel_rfl⟩
    · exact ⟨_, .inr (.inr (.inl rfl)), fun w => by kernel_rfl⟩
    · exact ⟨_, .inr (.inr (.inr (.inl rfl))), fun w => by kernel_rfl⟩
    · exact ⟨_, .inr (.inr (.inr (.inr rfl))), fun w => by kernel_rfl⟩
def CovV (R C : Int) (v : Value) : Array Value := #[.int .i64 R, .int .i64 C, v]
set_option maxHeartbeats 8000000 in
theorem covers_c {W : World} (hg : Good W) (a b q : Nat) (v vr : Value) (D E : List ByteArray) (rows columns : Int) (ha : a < 256) (hb : b < 256) (hqb : q < 256) (hr : I64 rows) (hc : I64 columns) (hv : SLv W v (sw D)) (hvr : SLv W vr (sw E)) :
    Calls Tryd.prog 3 #[.agg #[.int .u8 a, .int .u8 b, v], vr, .int .i64 rows, .int .i64 columns, .int .u8 q] W fun e w' => e = .returned (.bool true) ∧ Ext W w' := by
  have hdb := fun w (hw : SLv w v (sw D)) => @dBlock_c w v a b ha hb D hw
  obtain ⟨p, cc, rfl⟩ := hv.shape
  obtain ⟨pr, cr, rfl⟩ := hvr.shape
  simp only [sw_len] at hv hvr hdb ⊢
  refine v_reads TTok FFok Tryd.func3 rfl rfl ?_
  conv => whnf
  refine VSeq.mk fun Kq hKq => ?_
  conv => whnf
  have hp := Hp.nil W
  refine hp.kbox ([.int .u8 a, .int .u8 b, .slice p D.length cc]) rfl fun db w hp hx => ?_
  conv => whnf
  refine hKq _ _ _ (V.Sub.refl _) ?_
  clear hKq Kq
  conv => whnf
  refine VSeq.mk fun Kq hKq => ?_
  conv => whnf
  refine ⟨_, _, Blk.ldN (hp.get (i := 0) rfl) TTok rfl (rfl), ?_⟩
  conv => whnf
  refine PureF.use (dShape_p a b ha hb p D.length cc) fun w hx => ?_
  try (have hp := hp.call hx)
  conv => whnf
  refine hKq _ _ _ (V.Sub.refl _) ?_
  clear hKq Kq
  conv => whnf
  refine VSeq.mk fun Kq hKq => ?_
  conv => whnf
  have hsh := draft_shp a b
  have hDL := draftL_len a b D
  have hDS : ∀ q ∈ draftL a b D, q.size ≤ 40 := fun q hq => by
    obtain ⟨i, _, rfl⟩ := List.mem_map.1 hq
    exact draftS_size D i
  generalize draftL a b D = own at hdb hDL hDS
  obtain ⟨r, hrd⟩ : ∃ r, 1 + a % 6 = r := ⟨_, rfl⟩
  obtain ⟨c, hcd⟩ : ∃ c, 1 + b % 8 = c := ⟨_, rfl⟩
  have hrr : r ≤ 6 := by omega
  have hcc : c ≤ 8 := by omega
  have hr1 : 1 ≤ r := by omega
  have hc1 : 1 ≤ c := by omega
  rw [hrd] at hsh hDL ⊢
  rw [hcd] at hsh hDL ⊢
  have hrc : r * c ≤ 6 * 8 := Nat.mul_le_mul (by omega) (by omega)
  have hos : ∀ q ∈ own, q.size ≤ 1100 := fun q hq => by have := hDS q hq; omega
  refine ⟨_, _, Blk.ldN (hp.get (i := 0) rfl) TTok rfl (rfl), ?_⟩
  conv => whnf
  refine (hdb _ (hv.ext hp.ext)).mono ?_
  rintro e w ⟨u, rfl, vo, rfl, hq⟩
  refine ⟨_, rfl, ?_⟩
  have hp := hp.join hq
  have hpos : 0 < own.length := by rw [hDL]; exact Nat.mul_pos (by omega) (by omega)
  obtain ⟨go, co, rfl⟩ := row_form (hp.get (i := 0) rfl) hpos
  clear hq
  conv => whnf
  refine hKq _ _ _ (V.Sub.refl _) ?_
  clear hKq Kq
  conv => whnf
  refine VSeq.mk fun Kq hKq => ?_
  conv => whnf
  refine (CloneS_c own (SLv.of_row (hp.get (i := 0) rfl)) (by omega)).mono ?_
  rintro e w ⟨u, rfl, v3, rfl, hq⟩
  refine ⟨_, rfl, ?_⟩
  have hp := hp.join hq
  obtain ⟨gl, cl, rfl⟩ := row_form (hp.get (i := 0) rfl) hpos
  clear hq
  obtain ⟨k, hk⟩ : ∃ k, q % own.length = k := ⟨_, rfl⟩
  have hkl : k < own.length := by rw [← hk]; exact Nat.mod_lt _ hpos
  have hki : ((q : Int) % (own.length : Int)) = (k : Int) := by rw [← hk]; simp
  have hown : own = own.set k own[k] := (List.set_getElem_self hkl).symm
  have hks : own[k].size ≤ 40 := hDS _ (List.getElem_mem hkl)
  generalize own[k] = s0 at hown hks
  have hp := hp.pick [0, 1] (by decide)
  change HpM [] W w [row 9 1 (.slice (some ⟨gl, 0, none⟩) own.length cl) own.length (sw own), row 9 1 (.slice (some ⟨go, 0, none⟩) own.length co) own.length (sw own)] at hp
  have hp : HpM [] W w [row 9 1 (.slice (some ⟨gl, 0, none⟩) own.length cl) own.length (sw (own.set k s0)), row 9 1 (.slice (some ⟨go, 0, none⟩) own.length co) own.length (sw own)] := by
    rw [← hown]; exact hp
  clear hown
  conv => whnf
  refine hKq _ _ _ (V.Sub.refl _) ?_
  clear hKq Kq
  conv => whnf
  refine VSeq.mk fun Kq hKq => ?_
  conv => whnf
  refine ⟨fun m l w => ∃ (s : ByteArray), m + s.size = 1200 ∧ l = [(1, .v (.slice pr E.length cr)), (2, .v (.int .i64 rows)), (3, .v (.int .i64 columns)), (4, .v (.int .u8 q)), (11, .v (.int .i64 r)), (12, .v (.int .i64 c)), (13, .v (.slice (some ⟨go, 0, none⟩) own.length co)), (14, .v (.slice (some ⟨gl, 0, none⟩) own.length cl))] ∧ s.size ≤ 1150 ∧
      HpM [] W w [row 9 1 (.slice (some ⟨gl, 0, none⟩) own.length cl) own.length (sw (own.set k s)), row 9 1 (.slice (some ⟨go, 0, none⟩) own.length co) own.length (sw own)],
    ⟨1200 - s0.size, _, ⟨s0, by omega, rfl, by omega, hp⟩, sub_cons rfl (sub_cons rfl (sub_cons rfl (sub_cons rfl (sub_cons rfl (sub_cons rfl (sub_cons rfl (sub_cons rfl sub_nil)))))))⟩, ?_⟩
  clear hp hx hks
  repeat clear hp
  rintro m _ w ⟨s, hm, rfl, hss, hp⟩
  have hcell := row_cell (hp.get (i := 0) rfl) (sw_get (List.getElem?_set_self (by omega : k < own.length)))
  conv => whnf
  refine VSeq.mk fun Kq hKq => ?_
  conv => whnf
  refine VSeq.mk fun Kq hKq => ?_
  conv => whnf
  refine And.intro (by omega) ?_
  conv => whnf
  refine And.intro (by omega) ?_
  conv => whnf
  refine ⟨k, ⟨hki, by omega⟩, ?_⟩
  conv => whnf
  rw [show addM 0 k 1 = k by rw [addM_eq]; omega]
  refine ⟨_, _, run_ld TTok rfl hcell, ?_⟩
  conv => whnf
  refine And.intro (by omega) ?_
  conv => whnf
  refine And.intro (by omega) ?_
  conv => whnf
  refine And.intro (by omega) ?_
  conv => whnf
  refine hKq _ _ _ (V.Sub.refl _) ?_
  clear hKq Kq
  conv => whnf
  refine ⟨fun hlt => ?_, fun hlt => ?_⟩
  · have hlt := of_decide_eq_true hlt
    conv => whnf
    refine hKq _ _ _ (V.Sub.refl _) ?_
    clear hKq Kq
    conv => whnf
    refine And.intro (by omega) ?_
    conv => whnf
    refine And.intro (by omega) ?_
    conv => whnf
    refine ⟨k, ⟨hki, by omega⟩, ?_⟩
    conv => whnf
    rw [show addM 0 k 1 = k by rw [addM_eq]; omega]
    refine ⟨_, _, run_ld TTok rfl hcell, ?_⟩
    conv => whnf
    refine And.intro (by rw [show ((⟨#[48, 49, 50, 51, 52, 53, 54, 55, 56, 57, 97]⟩ : ByteArray)).size = 11 from rfl]; omega) ?_
    conv => whnf
    refine ⟨k, ⟨hki, by omega⟩, ?_⟩
    conv => whnf
    rw [show addM 0 k 1 = k by rw [addM_eq]; omega]
    refine hp.kstR (t := 9) TTok rfl 0 rfl (off := k) (v := .string (s ++ (⟨#[48, 49, 50, 51, 52, 53, 54, 55, 56, 57, 97]⟩ : ByteArray))) (by omega) rfl rfl fun w hp => ?_
    simp only [List.set_cons_zero, List.set_cons_succ] at hp
    rw [sw_set, List.set_set] at hp
    have hsz : (s ++ (⟨#[48, 49, 50, 51, 52, 53, 54, 55, 56, 57, 97]⟩ : ByteArray)).size = s.size + 11 := by rw [ByteArray.size_append]; rfl
    conv => whnf
    exact ⟨m - 11, _, by omega, ⟨_, by omega, rfl, by omega, hp⟩, sub_cons rfl (sub_cons rfl (sub_cons rfl (sub_cons rfl (sub_cons rfl (sub_cons rfl (sub_cons rfl (sub_cons rfl sub_nil)))))))⟩
  · have hlt := of_decide_eq_false hlt
    conv => whnf
    clear hKq Kq
    refine hKq _ _ _ (V.Sub.refl _) ?_
    clear hKq Kq
    conv => whnf
    refine VSeq.mk fun Kq hKq => ?_
    conv => whnf
    refine VSeq.mk fun Kq hKq => ?_
    conv => whnf
    clear hlt hcell
    have hlong : (own.set k s).length = own.length := List.length_set
    obtain ⟨long, hlo⟩ : ∃ long, own.set k s = long := ⟨_, rfl⟩
    rw [hlo] at hp hlong
    conv => whnf
    first | refine ⟨.agg (CovV r c (.slice (some ⟨go, 0, none⟩) own.length co)), w, by kernel_rfl, ?_⟩ | refine ⟨.agg (CovV r c (.slice (some ⟨go, 0, none⟩) own.length co)), w0, by kernel_rfl, ?_⟩
    conv => whnf
    first | refine ⟨.agg (CovV c r (.slice (some ⟨go, 0, none⟩) own.length co)), w, by kernel_rfl, ?_⟩ | refine ⟨.agg (CovV c r (.slice (some ⟨go, 0, none⟩) own.length co)), w0, by kernel_rfl, ?_⟩
    conv => whnf
    refine (few_c E (hvr.ext hp.ext)).mono ?_
    rintro e w ⟨u, rfl, vf, rfl, hq⟩
    refine ⟨_, rfl, ?_⟩
    have hp := hp.join hq
    clear hq
    have hfl := fewL_len E
    obtain ⟨few, hfew⟩ : ∃ few, fewL E = few := ⟨_, rfl⟩
    rw [hfew] at hp hfl
    obtain ⟨pf, cf, rfl⟩ := row_shape (hp.get (i := 0) rfl)
    conv => whnf
    first | refine ⟨.agg (CovV rows columns (.slice pf few.length cf)), w, by kernel_rfl, ?_⟩ | refine ⟨.agg (CovV rows columns (.slice pf few.length cf)), w0, by kernel_rfl, ?_⟩
    conv => whnf
    first | refine ⟨.agg (CovV r c (.slice (some ⟨gl, 0, none⟩) own.length cl)), w, by kernel_rfl, ?_⟩ | refine ⟨.agg (CovV r c (.slice (some ⟨gl, 0, none⟩) own.length cl)), w0, by kernel_rfl, ?_⟩
    conv => whnf
    refine (CloneS_c own (SLv.of_row (hp.get (i := 2) rfl)) (by omega)).mono ?_
    rintro e w ⟨u, rfl, v3, rfl, hq⟩
    refine ⟨_, rfl, ?_⟩
    have hp := hp.join hq
    clear hq
    conv => whnf
    refine hp.kmade ([.string ⟨#[]⟩]) 9 (fun b => .slice (some ⟨b, 0, none⟩) 1 1) (by kernel_rfl) fun tb w hp hx => ?_
    conv => whnf
    refine hp.kapp sl22 1 rfl (Blk.src TTok (hp.get (i := 0) rfl) rfl rfl (by intro u hu; simp at hu; subst hu; rfl)) (by omega) (by unfold maxLen; omega) fun v4 w hp => ?_
    simp only [List.set_cons_zero, List.set_cons_succ] at hp
    have hp := hp.tail
    change HpM [] W w [row 9 1 v4 (own.length + 1) (sw own ++ sw [⟨#[]⟩]), row 9 1 (.slice pf few.length cf) few.length (sw few), row 9 1 (.slice (some ⟨gl, 0, none⟩) own.length cl) own.length (sw long), row 9 1 (.slice (some ⟨go, 0, none⟩) own.length co) own.length (sw own)] at hp
    rw [← sw_app] at hp
    obtain ⟨p4, c4, rfl⟩ := row_shape (hp.get (i := 0) rfl)
    conv => whnf
    first | refine ⟨.agg (CovV r c (.slice p4 (own.length + 1) c4)), w, by kernel_rfl, ?_⟩ | refine ⟨.agg (CovV r c (.slice p4 (own.length + 1) c4)), w0, by kernel_rfl, ?_⟩
    conv => whnf
    first | refine ⟨.agg (CovV r c (.slice (some ⟨go, 0, none⟩) own.length co) ++ CovV c r (.slice (some ⟨go, 0, none⟩) own.length co) ++ CovV rows columns (.slice pf few.length cf) ++ CovV r c (.slice (some ⟨gl, 0, none⟩) own.length cl) ++ CovV r c (.slice p4 (own.length + 1) c4)), w, by kernel_rfl, ?_⟩ | refine ⟨.agg (CovV r c (.slice (some ⟨go, 0, none⟩) own.length co) ++ CovV c r (.slice (some ⟨go, 0, none⟩) own.length co) ++ CovV rows columns (.slice pf few.length cf) ++ CovV r c (.slice (some ⟨gl, 0, none⟩) own.length cl) ++ CovV r c (.slice p4 (own.length + 1) c4)), w0, by kernel_rfl, ?_⟩
    conv => whnf
    refine hKq _ _ _ (V.Sub.refl _) ?_
    clear hKq Kq
    conv => whnf
    obtain ⟨Ag, hAg⟩ : ∃ Ag, CovV r c (.slice (some ⟨go, 0, none⟩) own.length co) ++ CovV c r (.slice (some ⟨go, 0, none⟩) own.length co) ++ CovV rows columns (.slice pf few.length cf) ++ CovV r c (.slice (some ⟨gl, 0, none⟩) own.length cl) ++ CovV r c (.slice p4 (own.length + 1) c4) = Ag := ⟨_, rfl⟩
    have hsel : ∀ i < 5, ∃ (R C : Int) (v : Value) (L : List ByteArray), I64 R ∧ I64 C ∧ SLv w v (sw L) ∧ L.length ≤ 50 ∧
        ∀ w, (Instr.index 30 (.agg Ag) (.int .i64 (i : Nat))).run Tryd.prog w = .ok (.agg #[.int .i64 R, .int .i64 C, v]) w := by
      intro i hi
      rw [← hAg]
      have hrI : I64 r := by unfold I64; omega
      have hcI : I64 c := by unfold I64; omega
      obtain ⟨X, hX, hrun⟩ := five_at _ _ _ _ _ i hi (show (CovV r c (.slice (some ⟨go, 0, none⟩) own.length co)).size = 3 from rfl) (show (CovV c r (.slice (some ⟨go, 0, none⟩) own.length co)).size = 3 from rfl) (show (CovV rows columns (.slice pf few.length cf)).size = 3 from rfl) (show (CovV r c (.slice (some ⟨gl, 0, none⟩) own.length cl)).size = 3 from rfl) (show (CovV r c (.slice p4 (own.length + 1) c4)).size = 3 from rfl)
      rcases hX with rfl | rfl | rfl | rfl | rfl
      · exact ⟨r, c, _, own, hrI, hcI, SLv.of_row (hp.get (i := 3) rfl), by omega, hrun⟩
      · exact ⟨c, r, _, own, hcI, hrI, SLv.of_row (hp.get (i := 3) rfl), by omega, hrun⟩
      · exact ⟨rows, columns, _, few, hr, hc, SLv.of_row (hp.get (i := 1) rfl), by omega, hrun⟩
      · exact ⟨r, c, _, long, hrI, hcI, SLv.of_row (hp.get (i := 2) rfl), by omega, hrun⟩
      · exact ⟨r, c, _, own ++ [⟨#[]⟩], hrI, hcI, SLv.of_row (hp.get (i := 0) rfl), by rw [List.length_append]; show own.length + 1 ≤ 50; omega, hrun⟩
    rw [hAg]
    clear hAg
    have hx0 : Ext W w := hp.ext
    clear hp hx
    repeat clear hp
    refine ⟨fun m l w' => ∃ (i : Nat), m + i = 5 ∧ l = [(80, .v (.agg Ag)), (81, .v (.int .i64 i))] ∧ HpM [] w w' [],
      ⟨5, _, ⟨0, by omega, rfl, HpM.nil0 [] w⟩, sub_cons rfl (sub_cons rfl sub_nil)⟩, ?_⟩
    rintro m _ w' ⟨i, hm, rfl, hp⟩
    conv => whnf
    refine VSeq.mk fun Kq hKq => ?_
    conv => whnf
    refine hKq _ _ _ (V.Sub.refl _) ?_
    clear hKq Kq
    conv => whnf
    refine VSeq.mk fun Kq hKq => ?_
    conv => whnf
    refine ⟨fun hlt => ?_, fun hlt => ?_⟩
    · have hlt := of_decide_eq_true hlt
      conv => whnf
      refine hKq _ _ _ (V.Sub.refl _) ?_
      clear hKq Kq
      conv => whnf
      refine VSeq.mk fun Kq hKq => ?_
      conv => whnf
      refine VSeq.mk fun Kq hKq => ?_
      conv => whnf
      obtain ⟨R, C, v, L, hR, hC, hsv, hll, hrun⟩ := hsel i (by omega)
      obtain ⟨pv, cv, rfl⟩ := hsv.shape
      simp only [sw_len] at hsv hrun
      refine ⟨_, _, hrun _, ?_⟩
      conv => whnf
      clear hrun
      refine hp.kalloc z29 fun o w hp hx => ?_
      conv => whnf
      refine hp.kstA TTok rfl 0 rfl (by rfl) (by simp [Value.oneCell']) (by rfl) fun w hp => ?_
      try simp only [List.set_cons_zero, List.set_cons_succ, EV.val] at hp
      conv => whnf
      refine hKq _ _ _ (V.Sub.refl _) ?_
      clear hKq Kq
      conv => whnf
      refine VSeq.mk fun Kq hKq => ?_
      conv => whnf
      refine ⟨_, _, Blk.ld (off := 0) (hp.get (i := 0) rfl) TTok rfl rfl, ?_⟩
      conv => whnf
      refine ⟨_, _, Blk.ld (off := 1) (hp.get (i := 0) rfl) TTok rfl rfl, ?_⟩
      conv => whnf
      refine ⟨_, _, Blk.ld (off := 2) (hp.get (i := 0) rfl) TTok rfl rfl, ?_⟩
      conv => whnf
      by_cases hS : Shp R C
      · obtain ⟨rn, rfl⟩ : ∃ rn : Nat, R = rn := ⟨R.toNat, by unfold Shp at hS; omega⟩
        obtain ⟨cn, rfl⟩ : ∃ cn : Nat, C = cn := ⟨C.toNat, by unfold Shp at hS; omega⟩
        have hsp := Shape_p rn cn
        rw [decide_eq_true hS] at hsp
        have hrb := fun w (h : SLv w (.slice pv L.length cv) (sw L)) => @rBlock_c w (.slice pv L.length cv) rn cn hS L h
        cases hbl : blockB (rn * cn) L with
        | true =>
          rw [hbl] at hrb
          have hcl := coversB_len rn cn L
          obtain ⟨hLl, hLb⟩ : L.length = rn * cn ∧ ∀ x ∈ L, x.size ≤ 1100 := by
            unfold blockB at hbl
            rw [Bool.and_eq_true, decide_eq_true_iff, Bool.not_eq_true', List.any_eq_false] at hbl
            refine ⟨hbl.1, fun x hx => ?_⟩
            have := hbl.2 x hx
            unfold big at this; simp at this; omega
          have hrr2 : rn ≤ 6 ∧ cn ≤ 8 := by unfold Shp at hS; omega
          refine (Cover_c rn cn hS L (hsv.ext hp.ext) hbl).mono ?_
          rintro e w ⟨u, rfl, va, vb, rfl, hq⟩
          refine ⟨_, rfl, ?_⟩
          have hp := hp.join hq
          clear hq
          conv => whnf
          refine hKq _ _ _ (V.Sub.refl _) ?_
          clear hKq Kq
          conv => whnf
          refine VSeq.mk fun Kq hKq => ?_
          conv => whnf
          refine hKq _ _ _ (V.Sub.refl _) ?_
          clear hKq Kq
          conv => whnf
          refine VSeq.mk fun Kq hKq => ?_
          conv => whnf
          refine VSeq.mk fun Kq hKq => ?_
          conv => whnf
          refine ⟨_, _, Blk.ld (off := 0) (hp.get (i := 2) rfl) TTok rfl rfl, ?_⟩
          conv => whnf
          refine ⟨_, _, Blk.ld (off := 1) (hp.get (i := 2) rfl) TTok rfl rfl, ?_⟩
          conv => whnf
          refine PureF.use (hsp) fun w hx => ?_
          try (have hp := hp.call hx)
          conv => whnf
          refine hKq _ _ _ (V.Sub.refl _) ?_
          clear hKq Kq
          conv => whnf
          refine And.intro (fun h => by cases h) (fun _ => ?_)
          conv => whnf
          refine VSeq.mk fun Kq hKq => ?_
          conv => whnf
          refine ⟨_, _, Blk.ld (off := 0) (hp.get (i := 2) rfl) TTok rfl rfl, ?_⟩
          conv => whnf
          refine ⟨_, _, Blk.ld (off := 1) (hp.get (i := 2) rfl) TTok rfl rfl, ?_⟩
          conv => whnf
          refine ⟨_, _, Blk.ld (off := 2) (hp.get (i := 2) rfl) TTok rfl rfl, ?_⟩
          conv => whnf
          refine V.CallsUse (hrb _ (hsv.ext hp.ext)) fun w hx => ?_
          try (have hp := hp.call hx)
          conv => whnf
          refine hKq _ _ _ (V.Sub.refl _) ?_
          clear hKq Kq
          conv => whnf
          refine And.intro (fun h => by cases h) (fun _ => ?_)
          conv => whnf
          refine hKq _ _ _ (V.Sub.refl _) ?_
          clear hKq Kq
          conv => whnf
          refine VSeq.mk fun Kq hKq => ?_
          conv => whnf
          refine hKq _ _ _ (V.Sub.refl _) ?_
          clear hKq Kq
          conv => whnf
          refine VSeq.mk fun Kq hKq => ?_
          conv => whnf
          refine hKq _ _ _ (V.Sub.refl _) ?_
          clear hKq Kq
          conv => whnf
          refine VSeq.mk fun Kq hKq => ?_
          conv => whnf
          refine VSeq.mk fun Kq hKq => ?_
          conv => whnf
          refine hKq _ _ _ (V.Sub.refl _) ?_
          clear hKq Kq
          conv => whnf
          refine And.intro (fun _ => ?_) (fun h => absurd (rfl) (of_decide_eq_false h))
          conv => whnf
          refine v_mixA TTok FFok mixed [(0, false), (1, false), (2, false), (3, false), (4, false), (5, false), (7, false), (8, false), (6, true), (9, false), (10, false)] (by kernel_rfl) ?_
          conv => whnf
          refine ⟨_, fun w' hx' => Blk.ld (off := 0) (Blk.ext (hp.get (i := 2) rfl) hx') TTok rfl rfl, ?_⟩
          conv => whnf
          refine ⟨_, fun w' hx' => Blk.ld (off := 1) (Blk.ext (hp.get (i := 2) rfl) hx') TTok rfl rfl, ?_⟩
          conv => whnf
          refine ⟨_, fun w' hx' => Blk.ld (off := 2) (Blk.ext (hp.get (i := 2) rfl) hx') TTok rfl rfl, ?_⟩
          conv => whnf
          refine ⟨_, fun w' hx' => Blk.ld (off := 0) (Blk.ext (hp.get (i := 2) rfl) hx') TTok rfl rfl, ?_⟩
          conv => whnf
          intro w hx
          try (have hp := hp.call hx)
          conv => whnf
          refine (rCovers_c rn cn hS L (hsv.ext hp.ext) hLl hLb).mono ?_
          rintro e w ⟨u, rfl, vc, rfl, hq⟩
          refine ⟨_, rfl, ?_⟩
          have hxq := hq.ext
          have hp := hp.join hq
          obtain ⟨pc, cp, rfl⟩ := row_shape (hp.get (i := 0) rfl)
          clear hq
          conv => whnf
          refine And.intro hxq ?_
          conv => whnf
          intro w hx
          try (have hp := hp.call hx)
          conv => whnf
          refine hKq _ _ _ (V.Sub.refl _) ?_
          clear hKq Kq
          conv => whnf
          refine VSeq.mk fun Kq hKq => ?_
          conv => whnf
          refine VSeq.mk fun Kq hKq => ?_
          conv => whnf
          refine hKq _ _ _ (V.Sub.refl _) ?_
          clear hKq Kq
          conv => whnf
          refine VSeq.mk fun Kq hKq => ?_
          conv => whnf
          obtain ⟨v5, hr5, hs5⟩ := SLv.hi TTok (t := 22) rfl rfl (SLv.of_row (hp.get (i := 0) rfl)) rn (by rw [sw_len]; omega)
          obtain ⟨v6, hr6, hs6⟩ := SLv.lo TTok (t := 22) rfl rfl (SLv.of_row (hp.get (i := 0) rfl)) rn (by rw [sw_len]; omega)
          have hs5 : SLv w v5 (sw ((coversB rn cn L).take rn)) := by rw [← sw_take]; exact hs5
          have hs6 : SLv w v6 (sw ((coversB rn cn L).drop rn)) := by rw [← sw_drop]; exact hs6
          refine And.intro (fun h => absurd (of_decide_eq_true h) ((by omega))) (fun _ => ?_)
          conv => whnf
          refine ⟨_, _, hr5 _ _, ?_⟩
          conv => whnf
          have hS5 := Same_c _ _ (SLv.of_row (hp.get (i := 1) rfl)) hs5 (by rw [List.length_take]; omega) (by rw [List.length_take]; omega)
          rw [decide_eq_true rfl] at hS5
          have hs6' := fun w' (hx : Ext w w') => hs6.ext hx
          refine V.CallsUse (hS5) fun w hx => ?_
          try (have hp := hp.call hx)
          conv => whnf
          refine hKq _ _ _ (V.Sub.refl _) ?_
          clear hKq Kq
          conv => whnf
          refine And.intro (fun h => by cases h) (fun _ => ?_)
          conv => whnf
          refine ⟨_, _, hr6 _ _, ?_⟩
          conv => whnf
          have hS6 := Same_c _ _ (SLv.of_row (hp.get (i := 2) rfl)) (hs6' _ hx) (by rw [List.length_drop]; omega) (by rw [List.length_drop]; omega)
          rw [decide_eq_true rfl] at hS6
          clear hS5
          refine V.CallsUse (hS6) fun w hx => ?_
          try (have hp := hp.call hx)
          conv => whnf
          refine hKq _ _ _ (V.Sub.refl _) ?_
          clear hKq Kq
          conv => whnf
          refine And.intro (fun h => by cases h) (fun _ => ?_)
          conv => whnf
          refine hKq _ _ _ (V.Sub.refl _) ?_
          clear hKq Kq
          conv => whnf
          refine And.intro (by omega) ?_
          conv => whnf
          exact ⟨m - 1, _, by omega, ⟨i + 1, by omega, rfl, hp.pick [] (by decide)⟩, sub_cons rfl (sub_cons rfl sub_nil)⟩
        | false =>
          rw [hbl] at hrb
          refine V.CallsUse (Cover_grid rn cn hS L (hsv.ext hp.ext) hbl) fun w hx => ?_
          try (have hp := hp.call hx)
          conv => whnf
          refine hKq _ _ _ (V.Sub.refl _) ?_
          clear hKq Kq
          conv => whnf
          refine VSeq.mk fun Kq hKq => ?_
          conv => whnf
          refine hKq _ _ _ (V.Sub.refl _) ?_
          clear hKq Kq
          conv => whnf
          refine VSeq.mk fun Kq hKq => ?_
          conv => whnf
          refine VSeq.mk fun Kq hKq => ?_
          conv => whnf
          refine ⟨_, _, Blk.ld (off := 0) (hp.get (i := 0) rfl) TTok rfl rfl, ?_⟩
          conv => whnf
          refine ⟨_, _, Blk.ld (off := 1) (hp.get (i := 0) rfl) TTok rfl rfl, ?_⟩
          conv => whnf
          refine PureF.use (hsp) fun w hx => ?_
          try (have hp := hp.call hx)
          conv => whnf
          refine hKq _ _ _ (V.Sub.refl _) ?_
          clear hKq Kq
          conv => whnf
          refine And.intro (fun h => by cases h) (fun _ => ?_)
          conv => whnf
          refine VSeq.mk fun Kq hKq => ?_
          conv => whnf
          refine ⟨_, _, Blk.ld (off := 0) (hp.get (i := 0) rfl) TTok rfl rfl, ?_⟩
          conv => whnf
          refine ⟨_, _, Blk.ld (off := 1) (hp.get (i := 0) rfl) TTok rfl rfl, ?_⟩
          conv => whnf
          refine ⟨_, _, Blk.ld (off := 2) (hp.get (i := 0) rfl) TTok rfl rfl, ?_⟩
          conv => whnf
          refine V.CallsUse (hrb _ (hsv.ext hp.ext)) fun w hx => ?_
          try (have hp := hp.call hx)
          conv => whnf
          refine hKq _ _ _ (V.Sub.refl _) ?_
          clear hKq Kq
          conv => whnf
          refine And.intro (fun _ => ?_) (fun h => by cases h)
          conv => whnf
          refine hKq _ _ _ (V.Sub.refl _) ?_
          clear hKq Kq
          conv => whnf
          refine VSeq.mk fun Kq hKq => ?_
          conv => whnf
          refine hKq _ _ _ (V.Sub.refl _) ?_
          clear hKq Kq
          conv => whnf
          refine VSeq.mk fun Kq hKq => ?_
          conv => whnf
          refine hKq _ _ _ (V.Sub.refl _) ?_
          clear hKq Kq
          conv => whnf
          refine VSeq.mk fun Kq hKq => ?_
          conv => whnf
          refine VSeq.mk fun Kq hKq => ?_
          conv => whnf
          refine hKq _ _ _ (V.Sub.refl _) ?_
          clear hKq Kq
          conv => whnf
          refine And.intro (fun h => absurd (of_decide_eq_true h) ((by omega))) (fun _ => ?_)
          conv => whnf
          refine hKq _ _ _ (V.Sub.refl _) ?_
          clear hKq Kq
          conv => whnf
          refine VSeq.mk fun Kq hKq => ?_
          conv => whnf
          refine VSeq.mk fun Kq hKq => ?_
          conv => whnf
          refine hKq _ _ _ (V.Sub.refl _) ?_
          clear hKq Kq
          conv => whnf
          refine VSeq.mk fun Kq hKq => ?_
          conv => whnf
          obtain ⟨v5, hr5, hs5⟩ := SLv.hi TTok (t := 22) rfl rfl (SLv.nil : SLv w (.slice none 0 0) (sw [])) 0 (by decide)
          obtain ⟨v6, hr6, hs6⟩ := SLv.lo TTok (t := 22) rfl rfl (SLv.nil : SLv w (.slice none 0 0) (sw [])) 0 (by decide)
          refine And.intro (fun h => absurd (of_decide_eq_true h) ((by omega))) (fun _ => ?_)
          conv => whnf
          refine ⟨_, _, hr5 _ _, ?_⟩
          conv => whnf
          have hS5 := @Same_c _ (.slice none 0 0) v5 [] [] SLv.nil hs5 (by decide) (by decide)
          rw [decide_eq_true rfl] at hS5
          have hs6' := fun w' (hx : Ext w w') => hs6.ext hx
          refine V.CallsUse (hS5) fun w hx => ?_
          try (have hp := hp.call hx)
          conv => whnf
          refine hKq _ _ _ (V.Sub.refl _) ?_
          clear hKq Kq
          conv => whnf
          refine And.intro (fun h => by cases h) (fun _ => ?_)
          conv => whnf
          refine ⟨_, _, hr6 _ _, ?_⟩
          conv => whnf
          have hS6 := @Same_c _ (.slice none 0 0) v6 [] [] SLv.nil (hs6' _ hx) (by decide) (by decide)
          rw [decide_eq_true rfl] at hS6
          clear hS5
          refine V.CallsUse (hS6) fun w hx => ?_
          try (have hp := hp.call hx)
          conv => whnf
          refine hKq _ _ _ (V.Sub.refl _) ?_
          clear hKq Kq
          conv => whnf
          refine And.intro (fun h => by cases h) (fun _ => ?_)
          conv => whnf
          refine hKq _ _ _ (V.Sub.refl _) ?_
          clear hKq Kq
          conv => whnf
          refine And.intro (by omega) ?_
          conv => whnf
          exact ⟨m - 1, _, by omega, ⟨i + 1, by omega, rfl, hp.pick [] (by decide)⟩, sub_cons rfl (sub_cons rfl sub_nil)⟩
      · have hsp := Shape_p R C
        rw [decide_eq_false hS] at hsp
        refine V.CallsUse (Cover_arg R C hS L (hsv.ext hp.ext)) fun w hx => ?_
        try (have hp := hp.call hx)
        conv => whnf
        refine hKq _ _ _ (V.Sub.refl _) ?_
        clear hKq Kq
        conv => whnf
        refine VSeq.mk fun Kq hKq => ?_
        conv => whnf
        refine hKq _ _ _ (V.Sub.refl _) ?_
        clear hKq Kq
        conv => whnf
        refine VSeq.mk fun Kq hKq => ?_
        conv => whnf
        refine VSeq.mk fun Kq hKq => ?_
        conv => whnf
        refine ⟨_, _, Blk.ld (off := 0) (hp.get (i := 0) rfl) TTok rfl rfl, ?_⟩
        conv => whnf
        refine ⟨_, _, Blk.ld (off := 1) (hp.get (i := 0) rfl) TTok rfl rfl, ?_⟩
        conv => whnf
        refine PureF.use (hsp) fun w hx => ?_
        try (have hp := hp.call hx)
        conv => whnf
        refine hKq _ _ _ (V.Sub.refl _) ?_
        clear hKq Kq
        conv => whnf
        refine And.intro (fun _ => ?_) (fun h => by cases h)
        conv => whnf
        refine hKq _ _ _ (V.Sub.refl _) ?_
        clear hKq Kq
        conv => whnf
        refine VSeq.mk fun Kq hKq => ?_
        conv => whnf
        refine hKq _ _ _ (V.Sub.refl _) ?_
        clear hKq Kq
        conv => whnf
        refine VSeq.mk fun Kq hKq => ?_
        conv => whnf
        refine hKq _ _ _ (V.Sub.refl _) ?_
        clear hKq Kq
        conv => whnf
        refine VSeq.mk fun Kq hKq => ?_
        conv => whnf
        refine VSeq.mk fun Kq hKq => ?_
        conv => whnf
        refine hKq _ _ _ (V.Sub.refl _) ?_
        clear hKq Kq
        conv => whnf
        refine And.intro (fun h => absurd (of_decide_eq_true h) ((by omega))) (fun _ => ?_)
        conv => whnf
        refine hKq _ _ _ (V.Sub.refl _) ?_
        clear hKq Kq
        conv => whnf
        refine VSeq.mk fun Kq hKq => ?_
        conv => whnf
        refine VSeq.mk fun Kq hKq => ?_
        conv => whnf
        refine hKq _ _ _ (V.Sub.refl _) ?_
        clear hKq Kq
        conv => whnf
        refine VSeq.mk fun Kq hKq => ?_
        conv => whnf
        obtain ⟨v5, hr5, hs5⟩ := SLv.hi TTok (t := 22) rfl rfl (SLv.nil : SLv w (.slice none 0 0) (sw [])) 0 (by decide)
        obtain ⟨v6, hr6, hs6⟩ := SLv.lo TTok (t := 22) rfl rfl (SLv.nil : SLv w (.slice none 0 0) (sw [])) 0 (by decide)
        refine And.intro (fun h => absurd (of_decide_eq_true h) ((by omega))) (fun _ => ?_)
        conv => whnf
        refine ⟨_, _, hr5 _ _, ?_⟩
        conv => whnf
        have hS5 := @Same_c _ (.slice none 0 0) v5 [] [] SLv.nil hs5 (by decide) (by decide)
        rw [decide_eq_true rfl] at hS5
        have hs6' := fun w' (hx : Ext w w') => hs6.ext hx
        refine V.CallsUse (hS5) fun w hx => ?_
        try (have hp := hp.call hx)
        conv => whnf
        refine hKq _ _ _ (V.Sub.refl _) ?_
        clear hKq Kq
        conv => whnf
        refine And.intro (fun h => by cases h) (fun _ => ?_)
        conv => whnf
        refine ⟨_, _, hr6 _ _, ?_⟩
        conv => whnf
        have hS6 := @Same_c _ (.slice none 0 0) v6 [] [] SLv.nil (hs6' _ hx) (by decide) (by decide)
        rw [decide_eq_true rfl] at hS6
        clear hS5
        refine V.CallsUse (hS6) fun w hx => ?_
        try (have hp := hp.call hx)
        conv => whnf
        refine hKq _ _ _ (V.Sub.refl _) ?_
        clear hKq Kq
        conv => whnf
        refine And.intro (fun h => by cases h) (fun _ => ?_)
        conv => whnf
        refine hKq _ _ _ (V.Sub.refl _) ?_
        clear hKq Kq
        conv => whnf
        refine And.intro (by omega) ?_
        conv => whnf
        exact ⟨m - 1, _, by omega, ⟨i + 1, by omega, rfl, hp.pick [] (by decide)⟩, sub_cons rfl (sub_cons rfl sub_nil)⟩
    · have hlt := of_decide_eq_false hlt
      conv => whnf
      clear hKq Kq
      refine hKq _ _ _ (V.Sub.refl _) ?_
      clear hKq Kq
      conv => whnf
      refine VSeq.mk fun Kq hKq => ?_
      conv => whnf
      refine V.CallsUse (works_c (hg.ext (hx0.trans hp.ext))) fun w hx => ?_
      try (have hp := hp.call hx)
      conv => whnf
      refine hKq _ _ _ (V.Sub.refl _) ?_
      clear hKq Kq
      conv => whnf
      exact ⟨rfl, hx0.trans hp.ext⟩
theorem covers_at {W : World} (hg : Good W) (c0 : Array Value) (v : Value) (L : List ByteArray) (a2 a3 a4 : Int) (e0 : Rd W (.cons (.int .u8) (.cons (.int .u8) (.cons (.sl .str) .nil))) c0.toList) (hs : SLv W v (L.map .string)) (w2 : (Lit.int .i64 a2).wf = true) (w3 : (Lit.int .i64 a3).wf = true) (w4 : (Lit.int .u8 a4).wf = true) :
    Calls Tryd.prog 3 #[.agg c0, v, .int .i64 a2, .int .i64 a3, .int .u8 a4] W fun e w' => e = .returned (.bool true) ∧ Ext W w' := by
  obtain ⟨a, b, v0, D, rfl, ha, hb, hv, _⟩ := draft_rd e0
  obtain ⟨q, rfl, hq⟩ := nat_of_u w4 rfl
  exact covers_c hg a b q v0 v D L a2 a3 ha hb hq (wf_i64 w2) (wf_i64 w3) hv hs
end Go.Proofs.YtpiilfamfinieaaDoor
