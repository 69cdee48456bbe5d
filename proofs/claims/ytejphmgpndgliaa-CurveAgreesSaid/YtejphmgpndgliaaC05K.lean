/- Chapter 05: the program's result. -/
import Derived.Test.YtejphmgpndgliaaC05J
namespace Go.Proofs.Ytejphmgpndgliaa
set_option linter.unusedSimpArgs false
set_option linter.unusedVariables false
set_option maxRecDepth 100000
open Go.RowKit V
def bitsD (s : ByteArray) : List Bool := (List.range 255).map (digK s)
theorem bitsD_len (s : ByteArray) : (bitsD s).length = 255 := by simp [bitsD]
theorem bitsD_get (s : ByteArray) (k : Nat) (h : k < (bitsD s).length) : (bitsD s)[k] = digK s k := by simp [bitsD]
theorem LadF.go_take (u : List Nat) : ∀ (ts : List Bool) (q : LadF) (i : Nat) (h : i < ts.length), LadF.go u (ts.take (i + 1)) q = (if ts[i] = true then ((LadF.go u (ts.take i) q).swap.step u).swap else (LadF.go u (ts.take i) q).step u)
  | [], q, i, h => by simp at h
  | t :: ts, q, 0, h => rfl
  | t :: ts, q, i + 1, h => by
    rw [List.take_succ_cons, List.take_succ_cons, LadF.go, LadF.go, LadF.go_take u ts _ i (by simpa using h)]
    rfl
def lad0 (u : List Nat) : LadF := ⟨[1, 0, 0, 0, 0], [0, 0, 0, 0, 0], u, [1, 0, 0, 0, 0]⟩
def BL (q : LadF) : Prop := Bd q.a ∧ Bd q.b ∧ Bd q.c ∧ Bd q.d
theorem BL.go {u : List Nat} (hu : Bd u) (ts : List Bool) : BL (LadF.go u ts (lad0 u)) := by
  have hu5 : R5 u (valB b51 u % PP) := ⟨hu, rfl⟩
  have := RLF.go hu5 ts (q := lad0 u) (z := ⟨1, 0, valB b51 u % PP, 1⟩) ⟨r5_one, r5_zero, hu5, r5_one⟩
  exact ⟨this.1.1, this.2.1.1, this.2.2.1.1, this.2.2.2.1⟩
theorem BL.swap {q : LadF} (h : BL q) : BL q.swap := ⟨h.2.2.1, h.2.2.2, h.1, h.2.1⟩
theorem BL.step {u : List Nat} (hu : Bd u) {q : LadF} (h : BL q) : BL (q.step u) := by
  have hu5 : R5 u (valB b51 u % PP) := ⟨hu, rfl⟩
  have := RLF.step hu5 (q := q) (z := ⟨valB b51 q.a % PP, valB b51 q.b % PP, valB b51 q.c % PP, valB b51 q.d % PP⟩) ⟨⟨h.1, rfl⟩, ⟨h.2.1, rfl⟩, ⟨h.2.2.1, rfl⟩, ⟨h.2.2.2, rfl⟩⟩
  exact ⟨this.1.1, this.2.1.1, this.2.2.1.1, this.2.2.2.1⟩
abbrev LL (u : List Nat) (q : LadF) : List Nat := L25 q.a q.b q.c q.d u
theorem LL_len {u : List Nat} (hu : Bd u) {q : LadF} (h : BL q) : (kw .u64 (LL u q)).length = 25 := by
  rw [kw_len]
  simp only [List.length_append, h.1.1, h.2.1.1, h.2.2.1.1, h.2.2.2.1, hu.1]
theorem LL_swap {u : List Nat} (hu : Bd u) {q : LadF} (h : BL q) :
    (((kw .u64 (LL u q)).drop 0).take 10 = kw .u64 (q.a ++ q.b) ∧ ((kw .u64 (LL u q)).drop 10).take 10 = kw .u64 (q.c ++ q.d)) ∧
    (kw .u64 (LL u q)).take 0 ++ kw .u64 (q.c ++ q.d) ++ (kw .u64 (LL u q)).drop (0 + 10) = kw .u64 (LL u ⟨q.c, q.d, q.c, q.d⟩) ∧
    (kw .u64 (LL u ⟨q.c, q.d, q.c, q.d⟩)).take 10 ++ kw .u64 (q.a ++ q.b) ++ (kw .u64 (LL u ⟨q.c, q.d, q.c, q.d⟩)).drop (10 + 10) = kw .u64 (LL u q.swap) :=
  ⟨l25_get10 _ _ _ _ _ h.1.1 h.2.1.1 h.2.2.1.1 h.2.2.2.1 hu.1, (l25_set10 _ _ _ _ _ q.c q.d h.1.1 h.2.1.1 h.2.2.1.1 h.2.2.2.1 hu.1).1, (l25_set10 _ _ _ _ _ q.a q.b h.2.2.1.1 h.2.2.2.1 h.2.2.1.1 h.2.2.2.1 hu.1).2⟩
theorem kw10 {a b : List Nat} (ha : Bd a) (hb : Bd b) : (kw .u64 (a ++ b)).length = 10 := by
  rw [kw_len, List.length_append, ha.1, hb.1]
set_option maxHeartbeats 4000000 in
theorem result_p (s p : ByteArray) (hs : s.size = 32) (hpz : p.size = 32) : PureF Try.prog 32 #[.string s, .string p]
    (.string ⟨(le32 (valB b51 (resF (bitsD ⟨(clampL s.data.toList).toArray⟩) (digB b51 5 (uN p))) % PP)).toArray⟩) := by
  have hu := dig51_Bd (uN p)
  have hrd := read_p p hpz
  have hcl := clamped_p s hs
  obtain ⟨sc, hsc⟩ : ∃ sc : ByteArray, ⟨(clampL s.data.toList).toArray⟩ = sc := ⟨_, rfl⟩
  have hscl : sc.size = 32 := by
    rw [← hsc]
    show (clampL s.data.toList).toArray.size = 32
    rw [List.size_toArray, clampL_len, Array.length_toList]; exact hs
  rw [hsc] at hcl ⊢
  obtain ⟨U, hU⟩ : ∃ U, digB b51 5 (uN p) = U := ⟨_, rfl⟩
  rw [hU] at hu hrd ⊢
  clear hU hsc
  unfold fV at hrd
  obtain ⟨u0, u1, u2, u3, u4, rfl⟩ : ∃ a b c d e, U = [a, b, c, d, e] := by
    match U, hu.1 with
    | [a, b, c, d, e], _ => exact ⟨a, b, c, d, e, rfl⟩
  first | refine v_pure TTok FFok Try.func32 rfl rfl fun w0 => ?_ | refine v_pure (args := []) TTok FFok Try.func32 rfl rfl fun w0 => ?_
  conv => whnf
  refine VSeq.mk fun Kq hKq => ?_
  conv => whnf
  refine hKq _ _ _ (V.Sub.refl _) ?_
  clear hKq Kq
  conv => whnf
  refine VSeq.mk fun Kq hKq => ?_
  conv => whnf
  have hp := Hp.nil w0
  refine PureF.use (hrd) fun w hx => ?_
  try (have hp := hp.call hx)
  conv => whnf
  refine hp.kalloc z68 fun qu w hp hx => ?_
  conv => whnf
  refine hp.kstA TTok rfl 0 rfl (by rfl) (kwu_one _) (by rfl) fun w hp => ?_
  try simp only [List.set_cons_zero, List.set_cons_succ, EV.val] at hp
  conv => whnf
  refine hKq _ _ _ (V.Sub.refl _) ?_
  clear hKq Kq
  conv => whnf
  refine VSeq.mk fun Kq hKq => ?_
  conv => whnf
  first | refine ⟨.agg (kw .u64 one5).toArray, w, by kernel_rfl, ?_⟩ | refine ⟨.agg (kw .u64 one5).toArray, w0, by kernel_rfl, ?_⟩
  conv => whnf
  first | refine ⟨.agg (kw .u64 (one5 ++ [0, 0, 0, 0, 0])).toArray, w, by kernel_rfl, ?_⟩ | refine ⟨.agg (kw .u64 (one5 ++ [0, 0, 0, 0, 0])).toArray, w0, by kernel_rfl, ?_⟩
  conv => whnf
  refine ⟨_, _, Blk.ldN (hp.get (i := 0) rfl) TTok rfl (by rfl), ?_⟩
  conv => whnf
  first | refine ⟨.agg (kw .u64 one5).toArray, w, by kernel_rfl, ?_⟩ | refine ⟨.agg (kw .u64 one5).toArray, w0, by kernel_rfl, ?_⟩
  conv => whnf
  first | refine ⟨.agg (kw .u64 ([u0, u1, u2, u3, u4] ++ one5)).toArray, w, by kernel_rfl, ?_⟩ | refine ⟨.agg (kw .u64 ([u0, u1, u2, u3, u4] ++ one5)).toArray, w0, by kernel_rfl, ?_⟩
  conv => whnf
  refine ⟨_, _, Blk.ldN (hp.get (i := 0) rfl) TTok rfl (by rfl), ?_⟩
  conv => whnf
  first | refine ⟨.agg (kw .u64 (LL [u0, u1, u2, u3, u4] (lad0 [u0, u1, u2, u3, u4]))).toArray, w, by kernel_rfl, ?_⟩ | refine ⟨.agg (kw .u64 (LL [u0, u1, u2, u3, u4] (lad0 [u0, u1, u2, u3, u4]))).toArray, w0, by kernel_rfl, ?_⟩
  conv => whnf
  refine hp.kalloc z73 fun qb w hp hx => ?_
  conv => whnf
  refine hp.kstA TTok rfl 0 rfl (by rfl) (kwu_one _) (by rfl) fun w hp => ?_
  try simp only [List.set_cons_zero, List.set_cons_succ, EV.val] at hp
  conv => whnf
  refine hKq _ _ _ (V.Sub.refl _) ?_
  clear hKq Kq
  conv => whnf
  refine VSeq.mk fun Kq hKq => ?_
  conv => whnf
  refine VSeq.mk fun Kq hKq => ?_
  conv => whnf
  obtain ⟨U, hU⟩ : ∃ U, [u0, u1, u2, u3, u4] = U := ⟨_, rfl⟩
  rw [hU] at hp hu
  refine PureF.use (hcl) fun w hx => ?_
  try (have hp := hp.call hx)
  conv => whnf
  refine Calls.mono (digits_c hp sc) ?_
  rintro _ w ⟨v, rfl, bs, rfl, hp, hx⟩
  refine ⟨_, rfl, ?_⟩
  clear hx
  have hp0 := hp.rot 1
  conv => whnf
  refine hKq _ _ _ (V.Sub.refl _) ?_
  clear hKq Kq
  conv => whnf
  refine v_range TTok FFok (digits_iter sc hscl bs) rfl rfl (by kernel_rfl) rfl (fun _ => rfl)
    (fun t X W => t ≤ 255 ∧ HpM [] w0 W (blk qb (kw .u64 (LL U (LadF.go U ((bitsD sc).take t) (lad0 U)))) 73 :: blk qu (kw .u64 U) 68 :: X))
    (fun _ _ _ => False)
    (fun t => ⟨fun X A h x hx => h.2.holds x (by simp [hx]), fun X X' A B r h => ⟨h.1, h.2.reframeAt 2 rfl r⟩⟩)
    (fun e => ⟨fun X A h x hx => h.elim, fun X X' A B r h => h.elim⟩)
    (fun t X A h => by omega) [blk bs [.string sc] 9] (hp.sub (by simp)) rfl
    (fun B hx => (hp.get (i := 0) rfl : Blk _ _ _ _).ext hx) ⟨by omega, hp0⟩ ?_ ?_ ?_ ?_
  · rintro k X A ⟨hk, hp⟩ hk5
    clear hp0
    conv => whnf
    refine ⟨fun x hx => hp.holds x (by simp [hx]), fun X' B' r => ?_⟩
    have hp := hp.reframeAt 2 rfl r
    simp only [List.take_succ_cons, List.take_zero, List.cons_append, List.nil_append] at hp
    have hstep := LadF.go_take U (bitsD sc) (lad0 U) k (by rw [bitsD_len]; omega)
    rw [bitsD_get] at hstep
    have hBq := BL.go hu ((bitsD sc).take k)
    have hBq1 := BL.go hu ((bitsD sc).take (k + 1))
    obtain ⟨q, hq⟩ : ∃ q, LadF.go U ((bitsD sc).take k) (lad0 U) = q := ⟨_, rfl⟩
    rw [hq] at hp hBq hstep
    obtain ⟨q1, hq1⟩ : ∃ q1, LadF.go U ((bitsD sc).take (k + 1)) (lad0 U) = q1 := ⟨_, rfl⟩
    rw [hq1] at hstep hBq1
    obtain ⟨b, hb⟩ : ∃ b, digK sc k = b := ⟨_, rfl⟩
    rw [hb] at hstep ⊢
    cases b with
    | false =>
      rw [if_neg (by decide)] at hstep
      conv => whnf
      refine VSeq.mk fun Kq hKq => ?_
      conv => whnf
      refine VSeq.mk fun Kq hKq => ?_
      conv => whnf
      refine hKq _ _ _ (V.Sub.refl _) ?_
      clear hKq Kq
      conv => whnf
      refine And.intro (fun h => by cases h) (fun _ => ?_)
      conv => whnf
      refine hKq _ _ _ (V.Sub.refl _) ?_
      clear hKq Kq
      conv => whnf
      refine VSeq.mk fun Kq hKq => ?_
      conv => whnf
      refine Calls.mono (step_c q.a q.b q.c q.d U hBq.1 hBq.2.1 hBq.2.2.1 hBq.2.2.2 hu (hp.get (i := 0) rfl)) ?_
      rintro e w ⟨v, rfl, rfl, hg, hb⟩
      refine ⟨_, rfl, ?_⟩
      have hp := hp.wrote (i := 0) rfl hg hb
      try simp only [List.set_cons_zero, List.set_cons_succ, EV.val] at hp
      conv => whnf
      refine hKq _ _ _ (V.Sub.refl _) ?_
      clear hKq Kq
      conv => whnf
      refine VSeq.mk fun Kq hKq => ?_
      conv => whnf
      refine hKq _ _ _ (V.Sub.refl _) ?_
      clear hKq Kq
      conv => whnf
      refine And.intro (fun h => by cases h) (fun _ => ?_)
      conv => whnf
      refine And.intro (by omega) ?_
      conv => whnf
      rw [hq1, hstep]
      exact hp
    | true =>
      rw [if_pos rfl] at hstep
      conv => whnf
      refine VSeq.mk fun Kq hKq => ?_
      conv => whnf
      refine VSeq.mk fun Kq hKq => ?_
      conv => whnf
      refine hKq _ _ _ (V.Sub.refl _) ?_
      clear hKq Kq
      conv => whnf
      refine And.intro (fun _ => ?_) (fun h => by cases h)
      conv => whnf
      obtain ⟨⟨g0, g1⟩, s0, s1⟩ := LL_swap hu hBq
      have hBx : BL ⟨q.c, q.d, q.c, q.d⟩ := ⟨hBq.2.2.1, hBq.2.2.2, hBq.2.2.1, hBq.2.2.2⟩
      refine ⟨_, _, Blk.ldV (off := 10) (hp.get (i := 0) rfl) TTok rfl (vs := kw .u64 (q.c ++ q.d)) g1 (kw10 hBq.2.2.1 hBq.2.2.2), ?_⟩
      conv => whnf
      refine ⟨_, _, Blk.ldV (off := 0) (hp.get (i := 0) rfl) TTok rfl (vs := kw .u64 (q.a ++ q.b)) g0 (kw10 hBq.1 hBq.2.1), ?_⟩
      conv => whnf
      refine hp.kst (off := 0) TTok rfl 0 rfl (kw .u64 (q.c ++ q.d)) rfl (kw10 hBq.2.2.1 hBq.2.2.2) (kwu_one _) (by rw [LL_len hu hBq]; decide) fun w hp => ?_
      simp only [List.set_cons_zero, List.set_cons_succ] at hp
      rw [s0] at hp
      conv => whnf
      refine hp.kst (off := 10) TTok rfl 0 rfl (kw .u64 (q.a ++ q.b)) rfl (kw10 hBq.1 hBq.2.1) (kwu_one _) (by rw [LL_len hu hBx]; decide) fun w hp => ?_
      simp only [List.set_cons_zero, List.set_cons_succ] at hp
      rw [s1] at hp
      conv => whnf
      refine hKq _ _ _ (V.Sub.refl _) ?_
      clear hKq Kq
      conv => whnf
      refine VSeq.mk fun Kq hKq => ?_
      conv => whnf
      clear g0 g1 s0 s1
      have hBs := hBq.swap
      have hBt := BL.step hu hBs
      obtain ⟨z, hz⟩ : ∃ z, q.swap = z := ⟨_, rfl⟩
      rw [hz] at hp hBs hBt hstep
      refine Calls.mono (step_c z.a z.b z.c z.d U hBs.1 hBs.2.1 hBs.2.2.1 hBs.2.2.2 hu (hp.get (i := 0) rfl)) ?_
      rintro e w ⟨v, rfl, rfl, hg, hb⟩
      refine ⟨_, rfl, ?_⟩
      have hp := hp.wrote (i := 0) rfl hg hb
      try simp only [List.set_cons_zero, List.set_cons_succ, EV.val] at hp
      conv => whnf
      refine hKq _ _ _ (V.Sub.refl _) ?_
      clear hKq Kq
      conv => whnf
      refine VSeq.mk fun Kq hKq => ?_
      conv => whnf
      refine hKq _ _ _ (V.Sub.refl _) ?_
      clear hKq Kq
      conv => whnf
      obtain ⟨y, hy⟩ : ∃ y, z.step U = y := ⟨_, rfl⟩
      rw [hy] at hp hBt hstep
      obtain ⟨⟨g0, g1⟩, s0, s1⟩ := LL_swap hu hBt
      have hBx : BL ⟨y.c, y.d, y.c, y.d⟩ := ⟨hBt.2.2.1, hBt.2.2.2, hBt.2.2.1, hBt.2.2.2⟩
      refine And.intro (fun _ => ?_) (fun h => by cases h)
      conv => whnf
      refine ⟨_, _, Blk.ldV (off := 10) (hp.get (i := 0) rfl) TTok rfl (vs := kw .u64 (y.c ++ y.d)) g1 (kw10 hBt.2.2.1 hBt.2.2.2), ?_⟩
      conv => whnf
      refine ⟨_, _, Blk.ldV (off := 0) (hp.get (i := 0) rfl) TTok rfl (vs := kw .u64 (y.a ++ y.b)) g0 (kw10 hBt.1 hBt.2.1), ?_⟩
      conv => whnf
      refine hp.kst (off := 0) TTok rfl 0 rfl (kw .u64 (y.c ++ y.d)) rfl (kw10 hBt.2.2.1 hBt.2.2.2) (kwu_one _) (by rw [LL_len hu hBt]; decide) fun w hp => ?_
      simp only [List.set_cons_zero, List.set_cons_succ] at hp
      rw [s0] at hp
      conv => whnf
      refine hp.kst (off := 10) TTok rfl 0 rfl (kw .u64 (y.a ++ y.b)) rfl (kw10 hBt.1 hBt.2.1) (kwu_one _) (by rw [LL_len hu hBx]; decide) fun w hp => ?_
      simp only [List.set_cons_zero, List.set_cons_succ] at hp
      rw [s1] at hp
      conv => whnf
      refine And.intro (by omega) ?_
      conv => whnf
      rw [hq1, hstep]
      exact hp
  · rintro D k X W rfl ⟨_, hp⟩
    clear hp0 hcl hrd
    have hBe := BL.go hu (bitsD sc)
    rw [List.take_of_length_le (by rw [bitsD_len]; exact Nat.le_refl _)] at hp
    refine hKq _ _ _ (V.Sub.refl _) ?_
    clear hKq Kq
    unfold resF
    change HpM [] w0 W (blk qb (kw .u64 (LL U (LadF.go U (bitsD sc) (lad0 U)))) 73 :: _) at hp
    rw [show (⟨[1, 0, 0, 0, 0], [0, 0, 0, 0, 0], [u0, u1, u2, u3, u4], [1, 0, 0, 0, 0]⟩ : LadF) = lad0 U by rw [← hU]; rfl, hU, show ([1, 0, 0, 0, 0] : List Nat) = one5 from rfl]
    obtain ⟨q, hq⟩ : ∃ q, LadF.go U (bitsD sc) (lad0 U) = q := ⟨_, rfl⟩
    rw [hq] at hp hBe ⊢
    clear hq
    obtain ⟨g0, g1, _⟩ := l25_get q.a q.b q.c q.d U hBe.1.1 hBe.2.1.1 hBe.2.2.1.1 hBe.2.2.2.1 hu.1
    have i1 := inverse_p q.b hBe.2.1
    obtain ⟨v, hv⟩ : ∃ v, powF q.b invBits one5 = v := ⟨_, rfl⟩
    have Bv : Bd v := by rw [← hv]; exact powF_Bd hBe.2.1 one5_Bd invBits
    rw [hv] at i1 ⊢
    have i2 := times_p q.a v hBe.1 Bv
    have i3 := octets_p (timesF q.a v) (timesF_ok _ _ hBe.1 Bv).1
    unfold fV at i1 i2 i3
    conv => whnf
    refine VSeq.mk fun Kq hKq => ?_
    conv => whnf
    refine v_q TTok FFok mixed (by kernel_rfl) ?_
    conv => whnf
    refine ⟨_, fun w' hx' => Blk.ldV (off := 0) (Blk.ext (hp.get (i := 0) rfl) hx') TTok rfl (vs := kw .u64 q.a) g0 (by rw [kw_len, hBe.1.1]), ?_⟩
    conv => whnf
    refine ⟨_, fun w' hx' => Blk.ldV (off := 5) (Blk.ext (hp.get (i := 0) rfl) hx') TTok rfl (vs := kw .u64 q.b) g1 (by rw [kw_len, hBe.2.1.1]), ?_⟩
    conv => whnf
    first | refine PureF.quiet (i1) ?_ | refine PureF.quietE (i1) ?_
    conv => whnf
    first | refine PureF.quiet (i2) ?_ | refine PureF.quietE (i2) ?_
    conv => whnf
    first | refine PureF.quiet (i3) ?_ | refine PureF.quietE (i3) ?_
    conv => whnf
    intro w hx
    have hp := hp.call hx
    conv => whnf
    refine hKq _ _ _ (V.Sub.refl _) ?_
    clear hKq Kq
    conv => whnf
    exact ⟨hp.get (i := 2) rfl, rfl, (hp.shut (i := 2) rfl).ext⟩
  · rintro D X W h; exact h.elim
  · rintro i D X W h; exact h.elim
end Go.Proofs.Ytejphmgpndgliaa
