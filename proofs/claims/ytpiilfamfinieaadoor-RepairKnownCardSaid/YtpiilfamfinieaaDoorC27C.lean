/- Chapter 27: the least bit; shapes; the lines. -/
import Derived.Test.YtpiilfamfinieaaDoorC27B
import Derived.Test.YtpiilfamfinieaaDoorR
namespace Go.Proofs.YtpiilfamfinieaaDoor
set_option linter.unusedSimpArgs false
set_option linter.unusedVariables false
open Go.RowKit V

def tzT : List Nat := [0, 1, 56, 2, 57, 49, 28, 3, 61, 58, 42, 50, 38, 29, 17, 4, 62, 47, 59, 36, 45, 43, 51, 22, 53, 39, 33, 30, 24, 18, 12, 5, 63, 55, 48, 27, 60, 41, 37, 16, 46, 35, 44, 21, 52, 32, 23, 11, 54, 26, 40, 15, 34, 20, 31, 10, 25, 14, 19, 9, 13, 8, 7, 6]
/-- the table lies in the variable -/
def Good (w : World) : Prop := ∀ (i : Nat) (v : Value), (kw .u8 tzT)[i]? = some v → w.cell? ⟨1, i, none⟩ = some v
theorem Good.ext {w w' : World} (h : Good w) (hx : Ext w w') : Good w' := fun i v hv => Ext.cell hx (h i v hv)
theorem tz1 : ∀ t < 64, (2 ^ t &&& (18446744073709551616 - 2 ^ t)) = 2 ^ t := by decide +kernel
theorem tz2 : ∀ t < 64, tzT[(2 ^ t * 285870213051353865 % 18446744073709551616) / 288230376151711744]? = some t := by decide +kernel
theorem TZ64_c {w : World} (hg : Good w) (t : Nat) (ht : t < 64) : Calls Tryd.prog 73 #[.int .u64 (2 ^ t : Nat)] w fun e w' => e = .returned (.int .i64 t) ∧ Ext w w' := by
  have h1 := tz1 t ht
  have h2 := tz2 t ht
  have hX : 2 ^ t < 18446744073709551616 := Nat.pow_lt_pow_right (n := 64) (by omega) ht
  have hX0 := Nat.two_pow_pos t
  generalize 2 ^ t = X at *
  refine v_reads TTok FFok Tryd.func73 rfl rfl ?_
  conv => whnf
  refine VSeq.mk fun Kq hKq => ?_
  conv => whnf
  refine hKq _ _ _ (V.Sub.refl _) ?_
  clear hKq Kq
  conv => whnf
  refine VSeq.mk fun Kq hKq => ?_
  conv => whnf
  refine VSeq.mk fun Kq hKq => ?_
  conv => whnf
  refine hKq _ _ _ (V.Sub.refl _) ?_
  clear hKq Kq
  conv => whnf
  refine And.intro (fun h => absurd (of_decide_eq_true h) ((by omega))) (fun _ => ?_)
  conv => whnf
  refine hKq _ _ _ (V.Sub.refl _) ?_
  clear hKq Kq
  conv => whnf
  refine VSeq.mk fun Kq hKq => ?_
  conv => whnf
  rw [show ((0 - (X : Int)) % 18446744073709551616) = ((18446744073709551616 - X : Nat) : Int) by omega]
  refine ⟨X, 18446744073709551616 - X, X, ⟨by first | rfl | omega, by first | rfl | omega, by omega, by omega⟩, by (dsimp only; exact h1), ?_⟩
  conv => whnf
  refine ⟨58, ⟨by first | rfl | omega, by omega⟩, ?_⟩
  conv => whnf
  have hcell := hg _ _ (kw_get (k := .u8) h2)
  have hlt : (X * 285870213051353865 % 18446744073709551616) / 288230376151711744 < 64 := by omega
  generalize hm : (X * 285870213051353865 % 18446744073709551616) / 288230376151711744 = m at hcell hlt
  have e : ((X : Int) * 285870213051353865 % 18446744073709551616 / 2 ^ 58) = (m : Int) := by rw [← hm]; simp only [Int.natCast_ediv, Int.natCast_emod, Int.natCast_mul]; rfl
  rw [e]
  refine ⟨m, ⟨by first | rfl | omega, by omega⟩, ?_⟩
  conv => whnf
  refine ⟨_, _, run_ld TTok rfl (by rw [addM_eq, Nat.mul_one, Nat.zero_add]; exact hcell), ?_⟩
  conv => whnf
  refine And.intro (by omega) ?_
  conv => whnf
  refine hKq _ _ _ (V.Sub.refl _) ?_
  clear hKq Kq
  conv => whnf
  exact ⟨rfl, Ext.refl _⟩
theorem TZ_c {w : World} (hg : Good w) (t : Nat) (ht : t < 64) : Calls Tryd.prog 62 #[.int .u64 (2 ^ t : Nat)] w fun e w' => e = .returned (.int .i64 t) ∧ Ext w w' := by
  refine v_reads TTok FFok Tryd.func62 rfl rfl ?_
  conv => whnf
  refine VSeq.mk fun Kq hKq => ?_
  conv => whnf
  refine hKq _ _ _ (V.Sub.refl _) ?_
  clear hKq Kq
  conv => whnf
  refine VSeq.mk fun Kq hKq => ?_
  conv => whnf
  refine hKq _ _ _ (V.Sub.refl _) ?_
  clear hKq Kq
  conv => whnf
  refine VSeq.mk fun Kq hKq => ?_
  conv => whnf
  refine V.CallsUse (TZ64_c hg t ht) fun w hx => ?_
  try (have hp := hp.call hx)
  conv => whnf
  refine hKq _ _ _ (V.Sub.refl _) ?_
  clear hKq Kq
  conv => whnf
  exact ⟨rfl, by assumption⟩
def Shp (r c : Int) : Prop := 1 ≤ r ∧ r ≤ 6 ∧ 1 ≤ c ∧ c ≤ 8
theorem of_ok (r c : Int) (h : Shp r c) : PureF Tryd.prog 33 #[.int .i64 r, .int .i64 c] (.agg #[.int .i64 r, .int .i64 c]) := by
  obtain ⟨h1, h2, h3, h4⟩ := h
  first | refine v_pure TTok FFok Tryd.func33 rfl rfl fun w0 => ?_ | refine v_pure (args := []) TTok FFok Tryd.func33 rfl rfl fun w0 => ?_
  conv => whnf
  refine VSeq.mk fun Kq hKq => ?_
  conv => whnf
  have hp := Hp.nil w0
  refine hp.kalloc z75 fun b w hp hx => ?_
  conv => whnf
  refine hKq _ _ _ (V.Sub.refl _) ?_
  clear hKq Kq
  conv => whnf
  refine VSeq.mk fun Kq hKq => ?_
  conv => whnf
  refine VSeq.mk fun Kq hKq => ?_
  conv => whnf
  refine VSeq.mk fun Kq hKq => ?_
  conv => whnf
  refine hKq _ _ _ (V.Sub.refl _) ?_
  clear hKq Kq
  conv => whnf
  refine VSeq.mk fun Kq hKq => ?_
  conv => whnf
  refine And.intro (fun h => absurd (of_decide_eq_true h) ((by omega))) (fun _ => ?_)
  conv => whnf
  refine hKq _ _ _ (V.Sub.refl _) ?_
  clear hKq Kq
  conv => whnf
  refine VSeq.mk fun Kq hKq => ?_
  conv => whnf
  refine And.intro (fun h => absurd (of_decide_eq_true h) ((by omega))) (fun _ => ?_)
  conv => whnf
  refine hKq _ _ _ (V.Sub.refl _) ?_
  clear hKq Kq
  conv => whnf
  refine And.intro (fun h => absurd (of_decide_eq_true h) ((by omega))) (fun _ => ?_)
  conv => whnf
  refine hKq _ _ _ (V.Sub.refl _) ?_
  clear hKq Kq
  conv => whnf
  refine And.intro (fun h => absurd (of_decide_eq_true h) ((by omega))) (fun _ => ?_)
  conv => whnf
  refine hKq _ _ _ (V.Sub.refl _) ?_
  clear hKq Kq
  conv => whnf
  refine VSeq.mk fun Kq hKq => ?_
  conv => whnf
  first | refine ⟨.agg #[.int .i64 r, .int .i64 c], w, by kernel_rfl, ?_⟩ | refine ⟨.agg #[.int .i64 r, .int .i64 c], w0, by kernel_rfl, ?_⟩
  conv => whnf
  refine hp.kstA TTok rfl 0 rfl (by rfl) (by simp [Value.oneCell']) (by rfl) fun w hp => ?_
  try simp only [List.set_cons_zero, List.set_cons_succ, EV.val] at hp
  conv => whnf
  refine hKq _ _ _ (V.Sub.refl _) ?_
  clear hKq Kq
  conv => whnf
  exact ⟨_, Blk.lvN (hp.get (i := 0) rfl) TTok rfl rfl, rfl, hp.ext⟩
theorem of_no (r c : Int) (h : ¬ Shp r c) : PureF Tryd.prog 33 #[.int .i64 r, .int .i64 c] (.agg #[.int .i64 0, .int .i64 0]) := by
  unfold Shp at h
  first | refine v_pure TTok FFok Tryd.func33 rfl rfl fun w0 => ?_ | refine v_pure (args := []) TTok FFok Tryd.func33 rfl rfl fun w0 => ?_
  conv => whnf
  refine VSeq.mk fun Kq hKq => ?_
  conv => whnf
  have hp := Hp.nil w0
  refine hp.kalloc z75 fun b w hp hx => ?_
  conv => whnf
  refine hKq _ _ _ (V.Sub.refl _) ?_
  clear hKq Kq
  conv => whnf
  refine VSeq.mk fun Kq hKq => ?_
  conv => whnf
  refine VSeq.mk fun Kq hKq => ?_
  conv => whnf
  refine VSeq.mk fun Kq hKq => ?_
  conv => whnf
  refine hKq _ _ _ (V.Sub.refl _) ?_
  clear hKq Kq
  conv => whnf
  refine VSeq.mk fun Kq hKq => ?_
  conv => whnf
  refine ⟨fun h1 => ?_, fun h1 => ?_⟩
  · have h1 := of_decide_eq_true h1
    conv => whnf
    refine hKq _ _ _ (V.Sub.refl _) ?_
    clear hKq Kq
    conv => whnf
    refine VSeq.mk fun Kq hKq => ?_
    conv => whnf
    refine hKq _ _ _ (V.Sub.refl _) ?_
    clear hKq Kq
    conv => whnf
    refine hKq _ _ _ (V.Sub.refl _) ?_
    clear hKq Kq
    conv => whnf
    refine VSeq.mk fun Kq hKq => ?_
    conv => whnf
    first | refine ⟨.agg #[.int .i64 0, .int .i64 0], w, by kernel_rfl, ?_⟩ | refine ⟨.agg #[.int .i64 0, .int .i64 0], w0, by kernel_rfl, ?_⟩
    conv => whnf
    refine hp.kstA TTok rfl 0 rfl (by rfl) (by simp [Value.oneCell']) (by rfl) fun w hp => ?_
    try simp only [List.set_cons_zero, List.set_cons_succ, EV.val] at hp
    conv => whnf
    refine hKq _ _ _ (V.Sub.refl _) ?_
    clear hKq Kq
    conv => whnf
    exact ⟨_, Blk.lvN (hp.get (i := 0) rfl) TTok rfl rfl, rfl, hp.ext⟩
  · have h1 := of_decide_eq_false h1
    conv => whnf
    refine hKq _ _ _ (V.Sub.refl _) ?_
    clear hKq Kq
    conv => whnf
    refine VSeq.mk fun Kq hKq => ?_
    conv => whnf
    refine ⟨fun h2 => ?_, fun h2 => ?_⟩
    · have h2 := of_decide_eq_true h2
      conv => whnf
      refine hKq _ _ _ (V.Sub.refl _) ?_
      clear hKq Kq
      conv => whnf
      refine hKq _ _ _ (V.Sub.refl _) ?_
      clear hKq Kq
      conv => whnf
      refine VSeq.mk fun Kq hKq => ?_
      conv => whnf
      first | refine ⟨.agg #[.int .i64 0, .int .i64 0], w, by kernel_rfl, ?_⟩ | refine ⟨.agg #[.int .i64 0, .int .i64 0], w0, by kernel_rfl, ?_⟩
      conv => whnf
      refine hp.kstA TTok rfl 0 rfl (by rfl) (by simp [Value.oneCell']) (by rfl) fun w hp => ?_
      try simp only [List.set_cons_zero, List.set_cons_succ, EV.val] at hp
      conv => whnf
      refine hKq _ _ _ (V.Sub.refl _) ?_
      clear hKq Kq
      conv => whnf
      exact ⟨_, Blk.lvN (hp.get (i := 0) rfl) TTok rfl rfl, rfl, hp.ext⟩
    · have h2 := of_decide_eq_false h2
      conv => whnf
      refine hKq _ _ _ (V.Sub.refl _) ?_
      clear hKq Kq
      conv => whnf
      refine ⟨fun h3 => ?_, fun h3 => ?_⟩
      · have h3 := of_decide_eq_true h3
        conv => whnf
        refine hKq _ _ _ (V.Sub.refl _) ?_
        clear hKq Kq
        conv => whnf
        refine VSeq.mk fun Kq hKq => ?_
        conv => whnf
        first | refine ⟨.agg #[.int .i64 0, .int .i64 0], w, by kernel_rfl, ?_⟩ | refine ⟨.agg #[.int .i64 0, .int .i64 0], w0, by kernel_rfl, ?_⟩
        conv => whnf
        refine hp.kstA TTok rfl 0 rfl (by rfl) (by simp [Value.oneCell']) (by rfl) fun w hp => ?_
        try simp only [List.set_cons_zero, List.set_cons_succ, EV.val] at hp
        conv => whnf
        refine hKq _ _ _ (V.Sub.refl _) ?_
        clear hKq Kq
        conv => whnf
        exact ⟨_, Blk.lvN (hp.get (i := 0) rfl) TTok rfl rfl, rfl, hp.ext⟩
      · have h3 := of_decide_eq_false h3
        conv => whnf
        refine hKq _ _ _ (V.Sub.refl _) ?_
        clear hKq Kq
        conv => whnf
        refine And.intro (fun _ => ?_) (fun h => absurd ((by omega)) (of_decide_eq_false h))
        conv => whnf
        refine VSeq.mk fun Kq hKq => ?_
        conv => whnf
        first | refine ⟨.agg #[.int .i64 0, .int .i64 0], w, by kernel_rfl, ?_⟩ | refine ⟨.agg #[.int .i64 0, .int .i64 0], w0, by kernel_rfl, ?_⟩
        conv => whnf
        refine hp.kstA TTok rfl 0 rfl (by rfl) (by simp [Value.oneCell']) (by rfl) fun w hp => ?_
        try simp only [List.set_cons_zero, List.set_cons_succ, EV.val] at hp
        conv => whnf
        refine hKq _ _ _ (V.Sub.refl _) ?_
        clear hKq Kq
        conv => whnf
        exact ⟨_, Blk.lvN (hp.get (i := 0) rfl) TTok rfl rfl, rfl, hp.ext⟩
theorem size_p (r c : Nat) (h : Shp r c) : PureF Tryd.prog 56 #[.agg #[.int .i64 r, .int .i64 c]] (.int .i64 (r * c : Nat)) := by
  obtain ⟨h1, h2, h3, h4⟩ := h
  have hm : r * c ≤ 6 * 8 := Nat.mul_le_mul (by omega) (by omega)
  have he : (r : Int) * (c : Int) = ((r * c : Nat) : Int) := by simp
  first | refine v_pure TTok FFok Tryd.func56 rfl rfl fun w0 => ?_ | refine v_pure (args := []) TTok FFok Tryd.func56 rfl rfl fun w0 => ?_
  conv => whnf
  refine VSeq.mk fun Kq hKq => ?_
  conv => whnf
  have hp := Hp.nil w0
  refine hp.kbox ([.int .i64 r, .int .i64 c]) rfl fun b w hp hx => ?_
  conv => whnf
  refine hKq _ _ _ (V.Sub.refl _) ?_
  clear hKq Kq
  conv => whnf
  refine VSeq.mk fun Kq hKq => ?_
  conv => whnf
  refine ⟨_, _, Blk.ld (hp.get (i := 0) rfl) TTok rfl (rfl), ?_⟩
  conv => whnf
  refine ⟨_, _, Blk.ld (hp.get (i := 0) rfl) TTok rfl (rfl), ?_⟩
  conv => whnf
  refine And.intro (by omega) ?_
  conv => whnf
  refine hKq _ _ _ (V.Sub.refl _) ?_
  clear hKq Kq
  conv => whnf
  exact ⟨congrArg (Value.int .i64) he, hp.ext⟩
theorem lines_c {M : List Nat} {w0 w : World} {H : List It} (hp : HpM M w0 w H) (r c : Int) :
    Calls Tryd.prog 35 #[.agg #[.int .i64 r, .int .i64 c]] w fun e w' => ∃ v, e = .returned v ∧ ∃ b, v = .func (.func 59) #[] #[.pointer (some ⟨b, 0, none⟩)] ∧ HpM M w0 w' (blk b [.int .i64 r, .int .i64 c] 75 :: H) ∧ Ext w w' := by
  refine v_fn (args := [.agg #[.int .i64 r, .int .i64 c]]) TTok FFok (f := 35) rfl rfl (Nat.le_of_ble_eq_true rfl) ?_
  conv => whnf
  refine VSeq.mk fun Kq hKq => ?_
  conv => whnf
  refine hp.kbox [.int .i64 r, .int .i64 c] rfl fun b w1 hp hx1 => ?_
  conv => whnf
  refine hKq _ _ _ (V.Sub.refl _) ?_
  clear hKq Kq
  conv => whnf
  refine VSeq.mk fun Kq hKq => ?_
  conv => whnf
  refine hKq _ _ _ (V.Sub.refl _) ?_
  clear hKq Kq
  conv => whnf
  exact ⟨b, rfl, hp, hx1⟩
end Go.Proofs.YtpiilfamfinieaaDoor
