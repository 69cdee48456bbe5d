/- Chapter 27: sets that fit, blocks. -/
import Derived.Test.YtpiilfamfinieaaDoorC27C
import Derived.Test.YtpiilfamfinieaaDoorE
namespace Go.Proofs.YtpiilfamfinieaaDoor
set_option linter.unusedSimpArgs false
set_option linter.unusedVariables false
open Go.RowKit V

theorem i64_wf {a : Int} (h : -9223372036854775808 ≤ a ∧ a ≤ 9223372036854775807) : (Lit.int .i64 a).wf = true := by
  simp [Lit.wf, IntKind.has, IntKind.min, IntKind.max, IntKind.signed, IntKind.bits]; omega
def shS : Sh := .cons (.int .i64) (.cons (.int .i64) .nil)
theorem shS_ok : cmpOk Tryd.prog 75 2 shS = true := by kernel_rfl
theorem shS_rd {w : World} {a b : Int} (ha : -9223372036854775808 ≤ a ∧ a ≤ 9223372036854775807) (hb : -9223372036854775808 ≤ b ∧ b ≤ 9223372036854775807) : Rd w shS [.int .i64 a, .int .i64 b] :=
  ⟨[_], [_], rfl, ⟨a, rfl, i64_wf ha⟩, [_], [], rfl, ⟨b, rfl, i64_wf hb⟩, rfl⟩
theorem shape_eq (w : World) {a b c d : Int} (ha : -9223372036854775808 ≤ a ∧ a ≤ 9223372036854775807) (hb : -9223372036854775808 ≤ b ∧ b ≤ 9223372036854775807) (hc : -9223372036854775808 ≤ c ∧ c ≤ 9223372036854775807) (hd : -9223372036854775808 ≤ d ∧ d ≤ 9223372036854775807) (xo yo : Operand) :
    ((do eqGuard .eql 75 xo yo (.agg #[.int .i64 a, .int .i64 b]) (.agg #[.int .i64 c, .int .i64 d]); binOp .eql 75 (.agg #[.int .i64 a, .int .i64 b]) (.agg #[.int .i64 c, .int .i64 d]) : Sem Value).run Tryd.prog w = .ok (.bool (decide (a = c ∧ b = d))) w) ∧
    ((do eqGuard .neq 75 xo yo (.agg #[.int .i64 a, .int .i64 b]) (.agg #[.int .i64 c, .int .i64 d]); binOp .neq 75 (.agg #[.int .i64 a, .int .i64 b]) (.agg #[.int .i64 c, .int .i64 d]) : Sem Value).run Tryd.prog w = .ok (.bool (!decide (a = c ∧ b = d))) w) := by
  obtain ⟨r, hr, h1, h2⟩ := run_eq_agg shS_ok (w0 := w) (w1 := w) (shS_rd ha hb) (shS_rd hc hd) xo yo
  have e : r = decide (a = c ∧ b = d) := by rw [Bool.eq_iff_iff, hr, decide_eq_true_iff]; simp
  rw [← e]
  exact ⟨h1 w, h2 w⟩
def setsB (r c lost kr kc : Nat) : Bool := decide (lost < 2 ^ (r * c) ∧ kr < 2 ^ r ∧ kc < 2 ^ c)
theorem div_zero (x n : Nat) : (((x / 2 ^ n : Nat) : Int) = 0) ↔ x < 2 ^ n := by
  rw [← Nat.div_eq_zero_iff_lt (Nat.two_pow_pos n)]; omega
theorem shr_cast (c i : Nat) : ((c : Int) / 2 ^ i) = ((c / 2 ^ i : Nat) : Int) := by simp
theorem fits_ok (r c lost kr kc : Nat) (h : Shp r c) : PureF Tryd.prog 40 #[.agg #[.int .i64 r, .int .i64 c], .int .u64 lost, .int .u64 kr, .int .u64 kc] (.bool (setsB r c lost kr kc)) := by
  have h' := h
  obtain ⟨h1, h2, h3, h4⟩ := h'
  have hm : r * c ≤ 6 * 8 := Nat.mul_le_mul (by omega) (by omega)
  first | refine v_pure TTok FFok Tryd.func40 rfl rfl fun w0 => ?_ | refine v_pure (args := []) TTok FFok Tryd.func40 rfl rfl fun w0 => ?_
  conv => whnf
  refine VSeq.mk fun Kq hKq => ?_
  conv => whnf
  have hp := Hp.nil w0
  refine hp.kbox ([.int .i64 r, .int .i64 c]) rfl fun b w hp hx => ?_
  conv => whnf
  refine hKq _ _ _ (V.Sub.refl _) ?_
  clear hKq Kq
  conv => whnf
  refine VSeq.mk fun Kq hKq => ?_
  conv => whnf
  refine VSeq.mk fun Kq hKq => ?_
  conv => whnf
  refine ⟨_, _, Blk.ldN (hp.get (i := 0) rfl) TTok rfl (rfl), ?_⟩
  conv => whnf
  first | refine ⟨.agg #[.int .i64 0, .int .i64 0], w, by kernel_rfl, ?_⟩ | refine ⟨.agg #[.int .i64 0, .int .i64 0], w0, by kernel_rfl, ?_⟩
  conv => whnf
  first | refine ⟨.bool (!decide ((r : Int) = 0 ∧ (c : Int) = 0)), w, (shape_eq _ (by omega) (by omega) (by omega) (by omega) _ _).2, ?_⟩ | refine ⟨.bool (!decide ((r : Int) = 0 ∧ (c : Int) = 0)), w0, (shape_eq _ (by omega) (by omega) (by omega) (by omega) _ _).2, ?_⟩
  conv => whnf
  refine hKq _ _ _ (V.Sub.refl _) ?_
  clear hKq Kq
  conv => whnf
  refine VSeq.mk fun Kq hKq => ?_
  conv => whnf
  refine And.intro (fun _ => ?_) (fun h => absurd (of_decide_eq_true (Eq.mp (Bool.not_eq_false' _) h)) ((by omega : ¬ ((r : Int) = 0 ∧ (c : Int) = 0))))
  conv => whnf
  refine ⟨_, _, Blk.ldN (hp.get (i := 0) rfl) TTok rfl (rfl), ?_⟩
  conv => whnf
  refine PureF.use (size_p r c h) fun w hx => ?_
  try (have hp := hp.call hx)
  conv => whnf
  refine ⟨r * c, ⟨by first | rfl | omega, by omega⟩, ?_⟩
  conv => whnf
  refine hKq _ _ _ (V.Sub.refl _) ?_
  clear hKq Kq
  conv => whnf
  refine VSeq.mk fun Kq hKq => ?_
  conv => whnf
  rw [shr_cast]
  refine ⟨fun g1 => ?_, fun g1 => ?_⟩
  · have g1 := of_decide_eq_true g1
    conv => whnf
    refine ⟨_, _, Blk.ld (hp.get (i := 0) rfl) TTok rfl (rfl), ?_⟩
    conv => whnf
    refine ⟨r, ⟨by first | rfl | omega, by omega⟩, ?_⟩
    conv => whnf
    refine hKq _ _ _ (V.Sub.refl _) ?_
    clear hKq Kq
    conv => whnf
    rw [shr_cast]
    refine ⟨fun g2 => ?_, fun g2 => ?_⟩
    · have g2 := of_decide_eq_true g2
      conv => whnf
      refine ⟨_, _, Blk.ld (hp.get (i := 0) rfl) TTok rfl (rfl), ?_⟩
      conv => whnf
      refine ⟨c, ⟨by first | rfl | omega, by omega⟩, ?_⟩
      conv => whnf
      refine hKq _ _ _ (V.Sub.refl _) ?_
      clear hKq Kq
      conv => whnf
      rw [shr_cast]
      rw [div_zero] at g1 g2
      exact ⟨congrArg Value.bool (by rw [Bool.eq_iff_iff]; simp only [setsB, decide_eq_true_iff, div_zero]; exact ⟨fun g3 => ⟨g1, g2, g3⟩, fun g => g.2.2⟩), hp.ext⟩
    · have g2 := of_decide_eq_false g2
      conv => whnf
      refine hKq _ _ _ (V.Sub.refl _) ?_
      clear hKq Kq
      conv => whnf
      rw [div_zero] at g2
      exact ⟨congrArg Value.bool (by symm; exact decide_eq_false (fun g => g2 g.2.1)), hp.ext⟩
  · have g1 := of_decide_eq_false g1
    conv => whnf
    refine hKq _ _ _ (V.Sub.refl _) ?_
    clear hKq Kq
    conv => whnf
    refine hKq _ _ _ (V.Sub.refl _) ?_
    clear hKq Kq
    conv => whnf
    rw [div_zero] at g1
    exact ⟨congrArg Value.bool (by symm; exact decide_eq_false (fun g => g1 g.1)), hp.ext⟩
theorem fits_no (lost kr kc : Nat) : PureF Tryd.prog 40 #[.agg #[.int .i64 0, .int .i64 0], .int .u64 lost, .int .u64 kr, .int .u64 kc] (.bool false) := by
  first | refine v_pure TTok FFok Tryd.func40 rfl rfl fun w0 => ?_ | refine v_pure (args := []) TTok FFok Tryd.func40 rfl rfl fun w0 => ?_
  conv => whnf
  refine VSeq.mk fun Kq hKq => ?_
  conv => whnf
  have hp := Hp.nil w0
  refine hp.kbox ([.int .i64 0, .int .i64 0]) rfl fun b w hp hx => ?_
  conv => whnf
  refine hKq _ _ _ (V.Sub.refl _) ?_
  clear hKq Kq
  conv => whnf
  refine VSeq.mk fun Kq hKq => ?_
  conv => whnf
  refine VSeq.mk fun Kq hKq => ?_
  conv => whnf
  refine ⟨_, _, Blk.ldN (hp.get (i := 0) rfl) TTok rfl (rfl), ?_⟩
  conv => whnf
  first | refine ⟨.agg #[.int .i64 0, .int .i64 0], w, by kernel_rfl, ?_⟩ | refine ⟨.agg #[.int .i64 0, .int .i64 0], w0, by kernel_rfl, ?_⟩
  conv => whnf
  first | refine ⟨.bool (!decide ((0 : Int) = 0 ∧ (0 : Int) = 0)), w, (shape_eq _ (by omega) (by omega) (by omega) (by omega) _ _).2, ?_⟩ | refine ⟨.bool (!decide ((0 : Int) = 0 ∧ (0 : Int) = 0)), w0, (shape_eq _ (by omega) (by omega) (by omega) (by omega) _ _).2, ?_⟩
  conv => whnf
  refine hKq _ _ _ (V.Sub.refl _) ?_
  clear hKq Kq
  conv => whnf
  refine VSeq.mk fun Kq hKq => ?_
  conv => whnf
  refine And.intro (fun h => absurd ((by omega : ((0 : Int) = 0 ∧ (0 : Int) = 0))) (of_decide_eq_false (Eq.mp (Bool.not_eq_true' _) h))) (fun _ => ?_)
  conv => whnf
  refine hKq _ _ _ (V.Sub.refl _) ?_
  clear hKq Kq
  conv => whnf
  refine VSeq.mk fun Kq hKq => ?_
  conv => whnf
  refine hKq _ _ _ (V.Sub.refl _) ?_
  clear hKq Kq
  conv => whnf
  refine hKq _ _ _ (V.Sub.refl _) ?_
  clear hKq Kq
  conv => whnf
  exact ⟨rfl, hp.ext⟩
def big (x : ByteArray) : Bool := decide (1100 < x.size)
theorem big_p (x : ByteArray) : PureF Tryd.prog 58 #[.string x] (.bool (big x)) := by
  first | refine v_pure TTok FFok Tryd.func58 rfl rfl fun w0 => ?_ | refine v_pure (args := []) TTok FFok Tryd.func58 rfl rfl fun w0 => ?_
  conv => whnf
  refine VSeq.mk fun Kq hKq => ?_
  conv => whnf
  refine hKq _ _ _ (V.Sub.refl _) ?_
  clear hKq Kq
  conv => whnf
  refine VSeq.mk fun Kq hKq => ?_
  conv => whnf
  refine hKq _ _ _ (V.Sub.refl _) ?_
  clear hKq Kq
  conv => whnf
  exact ⟨congrArg Value.bool (by unfold big; rw [Bool.eq_iff_iff]; simp; omega), Ext.refl _⟩
theorem IndexS_c {W : World} {v : Value} (L : List ByteArray) (hv : SLv W v (sw L)) (hl : L.length ≤ 1000) :
    Calls Tryd.prog 71 #[v, .func (.func 58) #[] #[]] W fun e w' => ∃ u, e = .returned u ∧ ∃ k : Int, u = .int .i64 k ∧ (0 ≤ k ↔ L.any big = true) ∧ Ext W w' := by
  obtain ⟨p, c, rfl⟩ := hv.shape
  rw [sw_len] at hv ⊢
  refine v_fn (args := [.slice p L.length c, .func (.func 58) #[] #[]]) TTok FFok (f := 71) rfl rfl (Nat.le_of_ble_eq_true rfl) ?_
  conv => whnf
  refine VSeq.mk fun Kq hKq => ?_
  conv => whnf
  refine hKq _ _ _ (V.Sub.refl _) ?_
  clear hKq Kq
  conv => whnf
  refine VSeq.mk fun Kq hKq => ?_
  conv => whnf
  refine VSeq.mk fun Kq hKq => ?_
  conv => whnf
  refine hKq _ _ _ (V.Sub.refl _) ?_
  clear hKq Kq
  conv => whnf
  refine ⟨fun m l w => ∃ (i : Nat), m + i = L.length ∧ l = [(0, .v (.slice p L.length c)), (1, .v (.func (.func 58) #[] #[])), (7, .v (.int .i64 L.length)), (8, .v (.int .i64 i))] ∧ (L.take i).any big = false ∧ Ext W w,
    ⟨L.length, _, ⟨0, by omega, rfl, by simp, Ext.refl _⟩, sub_cons rfl (sub_cons rfl (sub_cons rfl (sub_cons rfl sub_nil)))⟩, ?_⟩
  rintro m _ w ⟨i, hm, rfl, hal, hx0⟩
  conv => whnf
  refine VSeq.mk fun Kq hKq => ?_
  conv => whnf
  refine hKq _ _ _ (V.Sub.refl _) ?_
  clear hKq Kq
  conv => whnf
  refine VSeq.mk fun Kq hKq => ?_
  conv => whnf
  refine ⟨fun hlt => ?_, fun hlt => ?_⟩
  · have hlt := of_decide_eq_true hlt
    conv => whnf
    refine hKq _ _ _ (V.Sub.refl _) ?_
    clear hKq Kq
    conv => whnf
    refine VSeq.mk fun Kq hKq => ?_
    conv => whnf
    refine VSeq.mk fun Kq hKq => ?_
    conv => whnf
    refine hKq _ _ _ (V.Sub.refl _) ?_
    clear hKq Kq
    conv => whnf
    refine VSeq.mk fun Kq hKq => ?_
    conv => whnf
    have hi : i < L.length := by omega
    have hxi : L[i]? = some L[i] := List.getElem?_eq_getElem hi
    have hmem := List.getElem_mem hi
    generalize L[i] = x at hxi hmem
    obtain ⟨g, off, rfl, hcell⟩ := hv.at (sw_get hxi)
    refine ⟨i, ⟨by first | rfl | omega, by omega⟩, ?_⟩
    conv => whnf
    refine ⟨_, _, run_ld TTok rfl (by rw [addM_eq, Nat.mul_one]; exact Ext.cell hx0 hcell), ?_⟩
    conv => whnf
    refine PureF.use (big_p x) fun w hx => ?_
    try (have hp := hp.call hx)
    conv => whnf
    refine hKq _ _ _ (V.Sub.refl _) ?_
    clear hKq Kq
    conv => whnf
    have hx0 := hx0.trans hx
    refine ⟨fun hb => ?_, fun hb => ?_⟩
    · conv => whnf
      refine VSeq.mk fun Kq hKq => ?_
      conv => whnf
      refine hKq _ _ _ (V.Sub.refl _) ?_
      clear hKq Kq
      conv => whnf
      refine ⟨i, rfl, ?_, hx0⟩
      have : L.any big = true := List.any_eq_true.2 ⟨x, hmem, hb⟩
      rw [this]; exact ⟨fun _ => rfl, fun _ => by omega⟩
    · conv => whnf
      refine hKq _ _ _ (V.Sub.refl _) ?_
      clear hKq Kq
      conv => whnf
      refine And.intro (by omega) ?_
      conv => whnf
      refine ⟨m - 1, _, by omega, ⟨i + 1, by omega, rfl, ?_, hx0⟩, sub_cons rfl (sub_cons rfl (sub_cons rfl (sub_cons rfl sub_nil)))⟩
      rw [take_snoc hxi, List.any_append, hal]; simp [hb]
  · have hlt := of_decide_eq_false hlt
    conv => whnf
    clear hKq Kq
    refine hKq _ _ _ (V.Sub.refl _) ?_
    clear hKq Kq
    conv => whnf
    refine VSeq.mk fun Kq hKq => ?_
    conv => whnf
    refine hKq _ _ _ (V.Sub.refl _) ?_
    clear hKq Kq
    conv => whnf
    rw [List.take_of_length_le (by omega)] at hal
    exact ⟨-1, rfl, by rw [hal]; simp, hx0⟩
theorem ContainsS_c {W : World} {v : Value} (L : List ByteArray) (hv : SLv W v (sw L)) (hl : L.length ≤ 1000) :
    Calls Tryd.prog 57 #[v, .func (.func 58) #[] #[]] W fun e w' => e = .returned (.bool (L.any big)) ∧ Ext W w' := by
  obtain ⟨p, c, rfl⟩ := hv.shape
  rw [sw_len] at hv ⊢
  refine v_reads (args := [.slice p L.length c, .func (.func 58) #[] #[]]) TTok FFok Tryd.func57 rfl rfl ?_
  conv => whnf
  refine VSeq.mk fun Kq hKq => ?_
  conv => whnf
  refine hKq _ _ _ (V.Sub.refl _) ?_
  clear hKq Kq
  conv => whnf
  refine VSeq.mk fun Kq hKq => ?_
  conv => whnf
  refine Calls.mono (IndexS_c L hv hl) ?_
  rintro _ w ⟨u, rfl, k, rfl, hk, hx⟩
  refine ⟨_, rfl, ?_⟩
  conv => whnf
  refine hKq _ _ _ (V.Sub.refl _) ?_
  clear hKq Kq
  conv => whnf
  exact ⟨congrArg Value.bool (by rw [Bool.eq_iff_iff, decide_eq_true_iff]; exact hk), hx⟩
def blockB (n : Nat) (L : List ByteArray) : Bool := decide (L.length = n) && !L.any big
theorem block_c {W : World} {v : Value} (r c : Nat) (h : Shp r c) (L : List ByteArray) (hv : SLv W v (sw L)) :
    Calls Tryd.prog 34 #[.agg #[.int .i64 r, .int .i64 c], v] W fun e w' => e = .returned (.bool (blockB (r * c) L)) ∧ Ext W w' := by
  obtain ⟨p, cc, rfl⟩ := hv.shape
  rw [sw_len] at hv ⊢
  have hm : r * c ≤ 6 * 8 := Nat.mul_le_mul (by unfold Shp at h; omega) (by unfold Shp at h; omega)
  refine v_reads TTok FFok Tryd.func34 rfl rfl ?_
  conv => whnf
  refine VSeq.mk fun Kq hKq => ?_
  conv => whnf
  have hp := Hp.nil W
  refine hp.kbox ([.int .i64 r, .int .i64 c]) rfl fun b w hp hx => ?_
  conv => whnf
  refine hKq _ _ _ (V.Sub.refl _) ?_
  clear hKq Kq
  conv => whnf
  refine VSeq.mk fun Kq hKq => ?_
  conv => whnf
  refine VSeq.mk fun Kq hKq => ?_
  conv => whnf
  refine ⟨_, _, Blk.ldN (hp.get (i := 0) rfl) TTok rfl (rfl), ?_⟩
  conv => whnf
  refine PureF.use (size_p r c h) fun w hx => ?_
  try (have hp := hp.call hx)
  conv => whnf
  refine hKq _ _ _ (V.Sub.refl _) ?_
  clear hKq Kq
  conv => whnf
  refine ⟨fun g => ?_, fun g => ?_⟩
  · have g := of_decide_eq_true g
    conv => whnf
    refine V.CallsUse (ContainsS_c L (hv.ext hp.ext) (by omega)) fun w hx => ?_
    try (have hp := hp.call hx)
    conv => whnf
    refine hKq _ _ _ (V.Sub.refl _) ?_
    clear hKq Kq
    conv => whnf
    exact ⟨congrArg Value.bool (by unfold blockB; rw [decide_eq_true (by omega)]; simp), hp.ext⟩
  · have g := of_decide_eq_false g
    conv => whnf
    refine hKq _ _ _ (V.Sub.refl _) ?_
    clear hKq Kq
    conv => whnf
    exact ⟨congrArg Value.bool (by unfold blockB; rw [decide_eq_false (by omega)]; simp), hp.ext⟩
end Go.Proofs.YtpiilfamfinieaaDoor
