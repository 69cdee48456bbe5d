/- Chapter 05: products of limbs. -/
import Derived.Test.YtejphmgpndgliaaC05C
namespace Go.Proofs.Ytejphmgpndgliaa
set_option linter.unusedSimpArgs false
set_option linter.unusedVariables false
open Go.RowKit V
abbrev M64 : Nat := 18446744073709551616
theorem idx5 (l : List Nat) (hl : l.length = 5) (i : Nat) (hi : i < 5) (w : World) : (Instr.index 68 (.agg (kw .u64 l).toArray) (.int .i64 (i : Nat))).run Try.prog w = .ok (.int .u64 (l.getD i 0 : Nat)) w := by
  match l, hl with
  | [x0, x1, x2, x3, x4], _ =>
    rcases (by omega : i = 0 ∨ i = 1 ∨ i = 2 ∨ i = 3 ∨ i = 4) with rfl | rfl | rfl | rfl | rfl
    · exact (by kernel_rfl : (Instr.index 68 (.agg (kw .u64 [x0, x1, x2, x3, x4]).toArray) (.int .i64 ((0 : Nat) : Int))).run Try.prog w = .ok (.int .u64 (x0 : Nat)) w)
    · exact (by kernel_rfl : (Instr.index 68 (.agg (kw .u64 [x0, x1, x2, x3, x4]).toArray) (.int .i64 ((1 : Nat) : Int))).run Try.prog w = .ok (.int .u64 (x1 : Nat)) w)
    · exact (by kernel_rfl : (Instr.index 68 (.agg (kw .u64 [x0, x1, x2, x3, x4]).toArray) (.int .i64 ((2 : Nat) : Int))).run Try.prog w = .ok (.int .u64 (x2 : Nat)) w)
    · exact (by kernel_rfl : (Instr.index 68 (.agg (kw .u64 [x0, x1, x2, x3, x4]).toArray) (.int .i64 ((3 : Nat) : Int))).run Try.prog w = .ok (.int .u64 (x3 : Nat)) w)
    · exact (by kernel_rfl : (Instr.index 68 (.agg (kw .u64 [x0, x1, x2, x3, x4]).toArray) (.int .i64 ((4 : Nat) : Int))).run Try.prog w = .ok (.int .u64 (x4 : Nat)) w)
theorem add_lo (u p : Nat) : (u % M64 + p % M64 + 0) % M64 = (u + p) % M64 := by unfold M64; omega
theorem add_c (u p : Nat) : (u % M64 + p % M64 + 0) / M64 ≤ 1 := by unfold M64; omega
theorem add_hi (u p : Nat) (h : u + p < 340282366920938463463374607431768211456) : (u / M64 + p / M64 + (u % M64 + p % M64 + 0) / M64) % M64 = (u + p) / M64 := by unfold M64; omega
theorem chain_nth (b : Nat) : ∀ (l : List Nat) (c i : Nat), i < l.length → (chain b c l).1[i]? = some ((l.getD i 0 + (chain b c (l.take i)).2) % b)
  | [], c, i, h => by simp at h
  | x :: l, c, 0, h => by simp [chain]
  | x :: l, c, i + 1, h => by
    have ih := chain_nth b l ((x + c) / b) i (by simpa using h)
    rw [List.take_succ_cons, chain, chain, List.getElem?_cons_succ, ih]
    rfl
theorem join13 (a b : Nat) (hb : b < 8192) : a * 8192 ||| b = a * 8192 + b := by
  have := Nat.two_pow_add_eq_or_of_lt (i := 13) (b := b) hb a
  rw [Nat.mul_comm a]
  exact this.symm
theorem up_join (s : Nat) : (s / M64 * 8192) ||| (s % M64 / 2 ^ 51) = s / b51 := by
  rw [join13 _ _ (by unfold M64; omega)]
  unfold M64 b51
  omega
theorem lo_mask (s : Nat) : s % M64 % b51 = s % b51 := by unfold M64 b51; omega
theorem add_lo1 (t u : Nat) (hu : u < M64) : (t % M64 + u + 0) % M64 = (t + u) % M64 := by unfold M64 at *; omega
theorem add_c1 (t u : Nat) (hu : u < M64) : (t % M64 + u + 0) / M64 ≤ 1 := by unfold M64 at *; omega
theorem add_hi1 (t u : Nat) (hu : u < M64) : t / M64 + (t % M64 + u + 0) / M64 = (t + u) / M64 := by unfold M64 at *; omega
theorem fin_lo (o U : Nat) : (o + U * 19 % M64 + 0) % M64 = (o + 19 * U) % M64 := by unfold M64; omega
theorem fin_c (o U : Nat) (ho : o < b51) : (o + U * 19 % M64 + 0) / M64 ≤ 1 := by unfold M64 b51 at *; omega
theorem fin_hi (o U : Nat) (ho : o < b51) : U * 19 / M64 + (o + U * 19 % M64 + 0) / M64 = (o + 19 * U) / M64 := by unfold M64 b51 at *; omega
theorem set_three (l : List Nat) (h : l.length = 5) (a b c : Nat) : ((l.set 0 a).set 1 b).set 0 c = (l.set 0 c).set 1 b := by
  match l, h with
  | [x0, x1, x2, x3, x4], _ => rfl
def loL (T : List Nat) : List Nat := T.map (· % M64)
def hiL (T : List Nat) : List Nat := T.map (· / M64)
theorem loL_len (T : List Nat) : (loL T).length = T.length := by simp [loL]
theorem hiL_len (T : List Nat) : (hiL T).length = T.length := by simp [hiL]
theorem loL_get (T : List Nat) (j : Nat) (h : j < T.length) : (loL T)[j]? = some (T.getD j 0 % M64) := by
  unfold loL
  rw [List.getElem?_map, getD_of h]; rfl
theorem hiL_get (T : List Nat) (j : Nat) (h : j < T.length) : (hiL T)[j]? = some (T.getD j 0 / M64) := by
  unfold hiL
  rw [List.getElem?_map, getD_of h]; rfl
theorem loL_set (T : List Nat) (j v : Nat) : (loL T).set j (v % M64) = loL (T.set j v) := by unfold loL; rw [List.map_set]
theorem hiL_set (T : List Nat) (j v : Nat) : (hiL T).set j (v / M64) = hiL (T.set j v) := by unfold hiL; rw [List.map_set]
set_option maxHeartbeats 8000000 in
theorem times_p (a b : List Nat) (ha : Bd a) (hb : Bd b) : PureF Try.prog 46 #[fV a, fV b] (fV (timesF a b)) := by
  have hpre := timesF_pre a b ha hb
  have hcells := mulI_cells a b ha hb
  have hT5 := mulI_len a b 5
  have hcar := carry_p (finF (chain b51 0 (mulI a b 5)).1 (chain b51 0 (mulI a b 5)).2) (by rw [finF_len, chain_len, hT5]) hpre
  unfold fV at hcar ⊢
  have hal := ha.1
  have hbl := hb.1
  first | refine v_pure TTok FFok Try.func46 rfl rfl fun w0 => ?_ | refine v_pure (args := []) TTok FFok Try.func46 rfl rfl fun w0 => ?_
  conv => whnf
  refine VSeq.mk fun Kq hKq => ?_
  conv => whnf
  have hp := Hp.nil w0
  refine hp.kbox (kw .u64 a) rfl fun qa w hp hx => ?_
  conv => whnf
  refine hp.kbox (kw .u64 b) rfl fun qb w hp hx => ?_
  conv => whnf
  refine hp.kalloc z68 fun qr w hp hx => ?_
  conv => whnf
  refine hKq _ _ _ (V.Sub.refl _) ?_
  clear hKq Kq
  conv => whnf
  refine VSeq.mk fun Kq hKq => ?_
  conv => whnf
  refine hp.kalloc z68 fun qh w hp hx => ?_
  conv => whnf
  refine hp.kalloc z68 fun ql w hp hx => ?_
  conv => whnf
  refine hKq _ _ _ (V.Sub.refl _) ?_
  clear hKq Kq
  conv => whnf
  refine VSeq.mk fun Kq hKq => ?_
  conv => whnf
  refine VSeq.mk fun Kq hKq => ?_
  conv => whnf
  refine ⟨_, _, Blk.ldN (hp.get (i := 4) rfl) TTok rfl (by rw [kw_len, hal]), ?_⟩
  conv => whnf
  refine hKq _ _ _ (V.Sub.refl _) ?_
  clear hKq Kq
  conv => whnf
  have hp := hp.pick [0, 1, 2, 3] (by decide)
  change HpM [] w0 w [blk ql (kw .u64 (loL (mulI a b 0))) 68, blk qh (kw .u64 (hiL (mulI a b 0))) 68, blk qr (List.replicate 5 (.int .u64 0)) 68, blk qb (kw .u64 b) 68] at hp
  refine ⟨fun m e w => ∃ (i : Nat), m + i = 5 ∧ e = [(3, .v (.pointer (some ⟨qb, 0, none⟩))), (4, .v (.pointer (some ⟨qr, 0, none⟩))), (5, .v (.pointer (some ⟨qh, 0, none⟩))), (6, .v (.pointer (some ⟨ql, 0, none⟩))), (21, .v (.agg (kw .u64 a).toArray)), (22, .v (.int .i64 i))] ∧
      HpM [] w0 w [blk ql (kw .u64 (loL (mulI a b i))) 68, blk qh (kw .u64 (hiL (mulI a b i))) 68, blk qr (List.replicate 5 (.int .u64 0)) 68, blk qb (kw .u64 b) 68],
    ⟨5, _, ⟨0, by omega, rfl, hp⟩, sub_cons rfl (sub_cons rfl (sub_cons rfl (sub_cons rfl (sub_cons rfl (sub_cons rfl sub_nil)))))⟩, ?_⟩
  clear hp hx
  repeat clear hp
  rintro m _ w ⟨i, hm, rfl, hp⟩
  conv => whnf
  refine VSeq.mk fun Kq hKq => ?_
  conv => whnf
  refine hKq _ _ _ (V.Sub.refl _) ?_
  clear hKq Kq
  conv => whnf
  refine VSeq.mk fun Kq hKq => ?_
  conv => whnf
  refine ⟨fun hlt => ?_, fun hlt => ?_⟩
  · have hlt := of_decide_eq_true hlt
    conv => whnf
    refine hKq _ _ _ (V.Sub.refl _) ?_
    clear hKq Kq
    conv => whnf
    refine VSeq.mk fun Kq hKq => ?_
    conv => whnf
    refine VSeq.mk fun Kq hKq => ?_
    conv => whnf
    have hi : i < 5 := by omega
    refine ⟨_, _, idx5 a hal i hi _, ?_⟩
    conv => whnf
    refine hKq _ _ _ (V.Sub.refl _) ?_
    clear hKq Kq
    conv => whnf
    refine VSeq.mk fun Kq hKq => ?_
    conv => whnf
    refine ⟨_, _, Blk.ldN (hp.get (i := 3) rfl) TTok rfl (by rw [kw_len, hbl]), ?_⟩
    conv => whnf
    refine hKq _ _ _ (V.Sub.refl _) ?_
    clear hKq Kq
    conv => whnf
    obtain ⟨x, hx⟩ : ∃ x, a.getD i 0 = x := ⟨_, rfl⟩
    have hxb : x ≤ BB := by rw [← hx]; exact ha.get i
    have hsucc : mulI a b (i + 1) = mulK x b i 5 (mulI a b i) := by rw [mulI, hx]
    have hTl := mulI_len a b i
    have hTb := mulI_le a b (BB * (19 * BB)) ha.get hb.get (Nat.le_refl _) i
    rw [hx]
    clear hx
    obtain ⟨T, hT⟩ : ∃ T, mulI a b i = T := ⟨_, rfl⟩
    rw [hT] at hsucc hTl hTb hp
    clear hT
    refine ⟨fun m2 e w => ∃ (k : Nat), m2 + k = 5 ∧ e = [(3, .v (.pointer (some ⟨qb, 0, none⟩))), (4, .v (.pointer (some ⟨qr, 0, none⟩))), (5, .v (.pointer (some ⟨qh, 0, none⟩))), (6, .v (.pointer (some ⟨ql, 0, none⟩))), (7, .v (.int .i64 i)), (8, .v (.int .u64 x)), (21, .v (.agg (kw .u64 a).toArray)), (22, .v (.int .i64 i)), (26, .v (.agg (kw .u64 b).toArray)), (27, .v (.int .i64 k))] ∧
        HpM [] w0 w [blk ql (kw .u64 (loL (mulK x b i k T))) 68, blk qh (kw .u64 (hiL (mulK x b i k T))) 68, blk qr (List.replicate 5 (.int .u64 0)) 68, blk qb (kw .u64 b) 68],
      ⟨5, _, ⟨0, by omega, rfl, hp⟩, sub_cons rfl (sub_cons rfl (sub_cons rfl (sub_cons rfl (sub_cons rfl (sub_cons rfl (sub_cons rfl (sub_cons rfl (sub_cons rfl (sub_cons rfl sub_nil)))))))))⟩, ?_⟩
    clear hp
    repeat clear hp
    rintro m2 _ w ⟨k, hm2, rfl, hp⟩
    conv => whnf
    refine VSeq.mk fun Kq hKq => ?_
    conv => whnf
    refine hKq _ _ _ (V.Sub.refl _) ?_
    clear hKq Kq
    conv => whnf
    refine VSeq.mk fun Kq hKq => ?_
    conv => whnf
    refine ⟨fun hlt2 => ?_, fun hlt2 => ?_⟩
    · have hlt2 := of_decide_eq_true hlt2
      conv => whnf
      refine hKq _ _ _ (V.Sub.refl _) ?_
      clear hKq Kq
      conv => whnf
      refine VSeq.mk fun Kq hKq => ?_
      conv => whnf
      refine VSeq.mk fun Kq hKq => ?_
      conv => whnf
      have hk : k < 5 := by omega
      refine ⟨_, _, idx5 b hbl k hk _, ?_⟩
      conv => whnf
      refine hKq _ _ _ (V.Sub.refl _) ?_
      clear hKq Kq
      conv => whnf
      refine VSeq.mk fun Kq hKq => ?_
      conv => whnf
      refine And.intro (by omega) ?_
      conv => whnf
      refine hKq _ _ _ (V.Sub.refl _) ?_
      clear hKq Kq
      conv => whnf
      refine VSeq.mk fun Kq hKq => ?_
      conv => whnf
      refine VSeq.mk fun Kq hKq => ?_
      conv => whnf
      refine hKq _ _ _ (V.Sub.refl _) ?_
      clear hKq Kq
      conv => whnf
      obtain ⟨y, hy⟩ : ∃ y, b.getD k 0 = y := ⟨_, rfl⟩
      have hyb : y ≤ BB := by rw [← hy]; exact hb.get k
      have hstep : mulK x b i (k + 1) T = (mulK x b i k T).set ((i + k) % 5) ((mulK x b i k T).getD ((i + k) % 5) 0 + x * (if i + k < 5 then y else 19 * y)) := by rw [mulK, hy]
      have hUl := mulK_len x b i T k
      have hUb := mulK_le x b i T (BB * (19 * BB)) hxb hb.get (Nat.le_refl _) _ hTb k
      rw [hy]
      clear hy
      obtain ⟨U, hU⟩ : ∃ U, mulK x b i k T = U := ⟨_, rfl⟩
      rw [hU] at hstep hUl hUb hp
      clear hU
      refine ⟨fun hge => ?_, fun hge => ?_⟩
      · have hge := of_decide_eq_true hge
        conv => whnf
        refine And.intro (by omega) ?_
        conv => whnf
        refine hKq _ _ _ (V.Sub.refl _) ?_
        clear hKq Kq
        conv => whnf
        refine VSeq.mk fun Kq hKq => ?_
        conv => whnf
        rw [if_neg (by omega), show (i + k) % 5 = i + k - 5 by omega] at hstep
        rw [show (19 * (y : Int) % 18446744073709551616) = ((19 * y : Nat) : Int) by unfold BB at hyb; omega, show ((i : Int) + (k : Int) - 5) = ((i + k - 5 : Nat) : Int) by omega]
        conv => whnf
        have hr : (i + k - 5) < 5 := by omega
        have hxz : x * (19 * y) ≤ BB * (19 * BB) := Nat.mul_le_mul hxb (by omega)
        have hbig : U.getD (i + k - 5) 0 + x * (19 * y) < 340282366920938463463374607431768211456 := by
          have h1 := hUb (i + k - 5)
          have h2 : i * (5 * (BB * (19 * BB))) + k * (BB * (19 * BB)) + BB * (19 * BB) ≤ 5 * (5 * (BB * (19 * BB))) + 5 * (BB * (19 * BB)) + BB * (19 * BB) :=
            Nat.add_le_add_right (Nat.add_le_add (Nat.mul_le_mul_right _ (by omega)) (Nat.mul_le_mul_right _ (by omega))) _
          have h3 : 5 * (5 * (BB * (19 * BB))) + 5 * (BB * (19 * BB)) + BB * (19 * BB) < 340282366920938463463374607431768211456 := by decide +kernel
          omega
        refine PureF.use (Mul64_p x (19 * y) (by unfold BB at hxb; omega) (by unfold BB at hyb; omega)) fun w hx => ?_
        try (have hp := hp.call hx)
        conv => whnf
        refine hKq _ _ _ (V.Sub.refl _) ?_
        clear hKq Kq
        conv => whnf
        refine VSeq.mk fun Kq hKq => ?_
        conv => whnf
        refine hKq _ _ _ (V.Sub.refl _) ?_
        clear hKq Kq
        conv => whnf
        refine VSeq.mk fun Kq hKq => ?_
        conv => whnf
        obtain ⟨pr, hpr⟩ : ∃ pr, x * (19 * y) = pr := ⟨_, rfl⟩
        rw [hpr] at hbig hstep ⊢
        clear hpr hxz
        have hlo := loL_get U (i + k - 5) (by omega)
        have hhi := hiL_get U (i + k - 5) (by omega)
        have hls := loL_set U (i + k - 5) (U.getD (i + k - 5) 0 + pr)
        have hhs := hiL_set U (i + k - 5) (U.getD (i + k - 5) 0 + pr)
        obtain ⟨u, hu⟩ : ∃ u, U.getD (i + k - 5) 0 = u := ⟨_, rfl⟩
        rw [hu] at hlo hhi hls hhs hbig hstep
        clear hu
        refine ⟨(i + k - 5), ⟨by first | rfl | omega, by omega⟩, ?_⟩
        conv => whnf
        refine ⟨_, _, Blk.ld (hp.get (i := 0) rfl) TTok rfl (kw_get hlo), ?_⟩
        conv => whnf
        refine ⟨_, add64_x (u % M64) (pr % M64) 0, _, _, add64_r (u % M64) (pr % M64) 0 (by decide) _, ?_⟩
        conv => whnf
        refine ⟨(i + k - 5), ⟨by first | rfl | omega, by omega⟩, ?_⟩
        conv => whnf
        refine hp.kst1 (off := (i + k - 5)) TTok (by rfl) 0 (by rfl) (by rfl) (by rfl) (by rw [kw_len, loL_len]; omega) fun w hp => ?_
        try simp only [List.set_cons_zero, List.set_cons_succ, EV.val] at hp
        conv => whnf
        refine hKq _ _ _ (V.Sub.refl _) ?_
        clear hKq Kq
        conv => whnf
        rw [kw_set, show (u % M64 + pr % M64 + 0) % M64 = (u + pr) % M64 from add_lo u pr, hls] at hp
        refine ⟨(i + k - 5), ⟨by first | rfl | omega, by omega⟩, ?_⟩
        conv => whnf
        refine ⟨_, _, Blk.ld (hp.get (i := 1) rfl) TTok rfl (kw_get hhi), ?_⟩
        conv => whnf
        refine ⟨_, add64_x (u / M64) (pr / M64) ((u % M64 + pr % M64 + 0) / M64), _, _, add64_r (u / M64) (pr / M64) ((u % M64 + pr % M64 + 0) / M64) (add_c u pr) _, ?_⟩
        conv => whnf
        refine ⟨(i + k - 5), ⟨by first | rfl | omega, by omega⟩, ?_⟩
        conv => whnf
        refine hp.kst1 (off := (i + k - 5)) TTok (by rfl) 1 (by rfl) (by rfl) (by rfl) (by rw [kw_len, hiL_len]; omega) fun w hp => ?_
        try simp only [List.set_cons_zero, List.set_cons_succ, EV.val] at hp
        conv => whnf
        refine hKq _ _ _ (V.Sub.refl _) ?_
        clear hKq Kq
        conv => whnf
        refine And.intro (by omega) ?_
        conv => whnf
        rw [kw_set, show (u / M64 + pr / M64 + (u % M64 + pr % M64 + 0) / M64) % M64 = (u + pr) / M64 from add_hi u pr hbig, hhs, ← hstep] at hp
        exact ⟨m2 - 1, _, by omega, ⟨k + 1, by omega, rfl, hp⟩, sub_cons rfl (sub_cons rfl (sub_cons rfl (sub_cons rfl (sub_cons rfl (sub_cons rfl (sub_cons rfl (sub_cons rfl (sub_cons rfl (sub_cons rfl sub_nil)))))))))⟩
      · have hge := of_decide_eq_false hge
        conv => whnf
        refine hKq _ _ _ (V.Sub.refl _) ?_
        clear hKq Kq
        conv => whnf
        refine VSeq.mk fun Kq hKq => ?_
        conv => whnf
        rw [if_pos (by omega), Nat.mod_eq_of_lt (by omega : i + k < 5)] at hstep
        rw [show ((i : Int) + (k : Int)) = ((i + k : Nat) : Int) by omega]
        conv => whnf
        have hr : (i + k) < 5 := by omega
        have hxz : x * y ≤ BB * (19 * BB) := Nat.mul_le_mul hxb (by omega)
        have hbig : U.getD (i + k) 0 + x * y < 340282366920938463463374607431768211456 := by
          have h1 := hUb (i + k)
          have h2 : i * (5 * (BB * (19 * BB))) + k * (BB * (19 * BB)) + BB * (19 * BB) ≤ 5 * (5 * (BB * (19 * BB))) + 5 * (BB * (19 * BB)) + BB * (19 * BB) :=
            Nat.add_le_add_right (Nat.add_le_add (Nat.mul_le_mul_right _ (by omega)) (Nat.mul_le_mul_right _ (by omega))) _
          have h3 : 5 * (5 * (BB * (19 * BB))) + 5 * (BB * (19 * BB)) + BB * (19 * BB) < 340282366920938463463374607431768211456 := by decide +kernel
          omega
        refine PureF.use (Mul64_p x y (by unfold BB at hxb; omega) (by unfold BB at hyb; omega)) fun w hx => ?_
        try (have hp := hp.call hx)
        conv => whnf
        refine hKq _ _ _ (V.Sub.refl _) ?_
        clear hKq Kq
        conv => whnf
        refine VSeq.mk fun Kq hKq => ?_
        conv => whnf
        refine hKq _ _ _ (V.Sub.refl _) ?_
        clear hKq Kq
        conv => whnf
        refine VSeq.mk fun Kq hKq => ?_
        conv => whnf
        obtain ⟨pr, hpr⟩ : ∃ pr, x * y = pr := ⟨_, rfl⟩
        rw [hpr] at hbig hstep ⊢
        clear hpr hxz
        have hlo := loL_get U (i + k) (by omega)
        have hhi := hiL_get U (i + k) (by omega)
        have hls := loL_set U (i + k) (U.getD (i + k) 0 + pr)
        have hhs := hiL_set U (i + k) (U.getD (i + k) 0 + pr)
        obtain ⟨u, hu⟩ : ∃ u, U.getD (i + k) 0 = u := ⟨_, rfl⟩
        rw [hu] at hlo hhi hls hhs hbig hstep
        clear hu
        refine ⟨(i + k), ⟨by first | rfl | omega, by omega⟩, ?_⟩
        conv => whnf
        refine ⟨_, _, Blk.ld (hp.get (i := 0) rfl) TTok rfl (kw_get hlo), ?_⟩
        conv => whnf
        refine ⟨_, add64_x (u % M64) (pr % M64) 0, _, _, add64_r (u % M64) (pr % M64) 0 (by decide) _, ?_⟩
        conv => whnf
        refine ⟨(i + k), ⟨by first | rfl | omega, by omega⟩, ?_⟩
        conv => whnf
        refine hp.kst1 (off := (i + k)) TTok (by rfl) 0 (by rfl) (by rfl) (by rfl) (by rw [kw_len, loL_len]; omega) fun w hp => ?_
        try simp only [List.set_cons_zero, List.set_cons_succ, EV.val] at hp
        conv => whnf
        refine hKq _ _ _ (V.Sub.refl _) ?_
        clear hKq Kq
        conv => whnf
        rw [kw_set, show (u % M64 + pr % M64 + 0) % M64 = (u + pr) % M64 from add_lo u pr, hls] at hp
        refine ⟨(i + k), ⟨by first | rfl | omega, by omega⟩, ?_⟩
        conv => whnf
        refine ⟨_, _, Blk.ld (hp.get (i := 1) rfl) TTok rfl (kw_get hhi), ?_⟩
        conv => whnf
        refine ⟨_, add64_x (u / M64) (pr / M64) ((u % M64 + pr % M64 + 0) / M64), _, _, add64_r (u / M64) (pr / M64) ((u % M64 + pr % M64 + 0) / M64) (add_c u pr) _, ?_⟩
        conv => whnf
        refine ⟨(i + k), ⟨by first | rfl | omega, by omega⟩, ?_⟩
        conv => whnf
        refine hp.kst1 (off := (i + k)) TTok (by rfl) 1 (by rfl) (by rfl) (by rfl) (by rw [kw_len, hiL_len]; omega) fun w hp => ?_
        try simp only [List.set_cons_zero, List.set_cons_succ, EV.val] at hp
        conv => whnf
        refine hKq _ _ _ (V.Sub.refl _) ?_
        clear hKq Kq
        conv => whnf
        refine And.intro (by omega) ?_
        conv => whnf
        rw [kw_set, show (u / M64 + pr / M64 + (u % M64 + pr % M64 + 0) / M64) % M64 = (u + pr) / M64 from add_hi u pr hbig, hhs, ← hstep] at hp
        exact ⟨m2 - 1, _, by omega, ⟨k + 1, by omega, rfl, hp⟩, sub_cons rfl (sub_cons rfl (sub_cons rfl (sub_cons rfl (sub_cons rfl (sub_cons rfl (sub_cons rfl (sub_cons rfl (sub_cons rfl (sub_cons rfl sub_nil)))))))))⟩
    · have hlt2 := of_decide_eq_false hlt2
      conv => whnf
      clear hKq Kq
      refine hKq _ _ _ (V.Sub.refl _) ?_
      clear hKq Kq
      conv => whnf
      refine And.intro (by omega) ?_
      conv => whnf
      obtain rfl : k = 5 := by omega
      rw [← hsucc] at hp
      exact ⟨m - 1, _, by omega, ⟨i + 1, by omega, rfl, hp⟩, sub_cons rfl (sub_cons rfl (sub_cons rfl (sub_cons rfl (sub_cons rfl (sub_cons rfl sub_nil)))))⟩
  · have hlt := of_decide_eq_false hlt
    conv => whnf
    clear hKq Kq
    refine hKq _ _ _ (V.Sub.refl _) ?_
    clear hKq Kq
    conv => whnf
    refine VSeq.mk fun Kq hKq => ?_
    conv => whnf
    obtain rfl : i = 5 := by omega
    have hup := fun i => mulI_up a b ha hb i
    have hTF : timesF a b = carF (finF (chain b51 0 (mulI a b 5)).1 (chain b51 0 (mulI a b 5)).2) := rfl
    obtain ⟨T, hT⟩ : ∃ T, mulI a b 5 = T := ⟨_, rfl⟩
    rw [hT] at hTF hT5 hcells hcar hpre hp
    simp only [hT] at hup
    clear hT hlt hm
    have hRl : (chain b51 0 T).1.length = 5 := by rw [chain_len, hT5]
    refine hp.kalloc z68 fun qo w hp hx => ?_
    conv => whnf
    refine hKq _ _ _ (V.Sub.refl _) ?_
    clear hKq Kq
    conv => whnf
    refine VSeq.mk fun Kq hKq => ?_
    conv => whnf
    refine hKq _ _ _ (V.Sub.refl _) ?_
    clear hKq Kq
    conv => whnf
    refine VSeq.mk fun Kq hKq => ?_
    conv => whnf
    refine VSeq.mk fun Kq hKq => ?_
    conv => whnf
    refine hKq _ _ _ (V.Sub.refl _) ?_
    clear hKq Kq
    conv => whnf
    have hp := hp.pick [0, 1, 2, 3] (by decide)
    change HpM [] w0 w [blk qo (kw .u64 (upto5 (List.replicate 5 0) (chain b51 0 T).1 0)) 68, blk ql (kw .u64 (loL T)) 68, blk qh (kw .u64 (hiL T)) 68, blk qr (List.replicate 5 (.int .u64 0)) 68] at hp
    refine ⟨fun m e w => ∃ (i : Nat) (Lo Hi : List Nat), m + i = 5 ∧ e = [(4, .v (.pointer (some ⟨qr, 0, none⟩))), (5, .v (.pointer (some ⟨qh, 0, none⟩))), (6, .v (.pointer (some ⟨ql, 0, none⟩))), (15, .v (.pointer (some ⟨qo, 0, none⟩))), (16, .v (.int .u64 ((chJ b51 0 T i).2 : Nat))), (69, .v (.int .i64 i))] ∧
        Lo.length = 5 ∧ Hi.length = 5 ∧ (∀ j, i ≤ j → j < 5 → Lo[j]? = some (T.getD j 0 % M64) ∧ Hi[j]? = some (T.getD j 0 / M64)) ∧
        HpM [] w0 w [blk qo (kw .u64 (upto5 (List.replicate 5 0) (chain b51 0 T).1 i)) 68, blk ql (kw .u64 Lo) 68, blk qh (kw .u64 Hi) 68, blk qr (List.replicate 5 (.int .u64 0)) 68],
      ⟨5, _, ⟨0, loL T, hiL T, by omega, rfl, by rw [loL_len, hT5], by rw [hiL_len, hT5], fun j _ hj => ⟨loL_get T j (by omega), hiL_get T j (by omega)⟩, hp⟩, sub_cons rfl (sub_cons rfl (sub_cons rfl (sub_cons rfl (sub_cons rfl (sub_cons rfl sub_nil)))))⟩, ?_⟩
    clear hp hx
    repeat clear hp
    rintro m _ w ⟨i, Lo, Hi, hm, rfl, hLl, hHl, hLH, hp⟩
    have hui := hup i
    conv => whnf
    refine VSeq.mk fun Kq hKq => ?_
    conv => whnf
    refine hKq _ _ _ (V.Sub.refl _) ?_
    clear hKq Kq
    conv => whnf
    refine VSeq.mk fun Kq hKq => ?_
    conv => whnf
    refine ⟨fun hlt => ?_, fun hlt => ?_⟩
    · have hlt := of_decide_eq_true hlt
      conv => whnf
      refine hKq _ _ _ (V.Sub.refl _) ?_
      clear hKq Kq
      conv => whnf
      refine VSeq.mk fun Kq hKq => ?_
      conv => whnf
      refine VSeq.mk fun Kq hKq => ?_
      conv => whnf
      refine hKq _ _ _ (V.Sub.refl _) ?_
      clear hKq Kq
      conv => whnf
      refine VSeq.mk fun Kq hKq => ?_
      conv => whnf
      have hi : i < 5 := by omega
      obtain ⟨hgl, hgh⟩ := hLH i (Nat.le_refl _) hi
      have hs := chJ_succ b51 0 T i (by omega)
      have hti : T[i]'(by omega) ≤ 1152921504606846976 * 2251799813685247 := hcells _ (List.getElem_mem (by omega))
      have hn := chain_nth b51 T 0 i (by omega)
      change (chain b51 0 T).1[i]? = some ((T.getD i 0 + (chJ b51 0 T i).2) % b51) at hn
      rw [getElem_getD (by omega)] at hs hti
      have hst := upto5_set (List.replicate 5 0) (chain b51 0 T).1 hRl rfl i hi
      rw [List.getD_eq_getElem?_getD, hn, Option.getD_some] at hst
      have hul := upto5_len (List.replicate 5 0) (chain b51 0 T).1 hRl rfl i (by omega)
      obtain ⟨up, hupd⟩ : ∃ up, (chJ b51 0 T i).2 = up := ⟨_, rfl⟩
      obtain ⟨t, htd⟩ : ∃ t, T.getD i 0 = t := ⟨_, rfl⟩
      rw [hupd] at hui hs hst ⊢
      rw [htd] at hti hs hst hgl hgh
      clear hupd htd hn
      have hum : up < M64 := by unfold M64; omega
      have e2 : (t + up) / b51 = (chJ b51 0 T (i + 1)).2 := by rw [hs]
      clear hs
      refine ⟨i, ⟨by first | rfl | omega, by omega⟩, ?_⟩
      conv => whnf
      refine ⟨_, _, Blk.ld (hp.get (i := 1) rfl) TTok rfl (kw_get hgl), ?_⟩
      conv => whnf
      refine ⟨_, add64_x (t % M64) up 0, _, _, add64_r (t % M64) up 0 (by decide) _, ?_⟩
      conv => whnf
      refine ⟨i, ⟨by first | rfl | omega, by omega⟩, ?_⟩
      conv => whnf
      refine hp.kst1 (off := i) TTok (by rfl) 1 (by rfl) (by rfl) (by rfl) (by rw [kw_len]; omega) fun w hp => ?_
      try simp only [List.set_cons_zero, List.set_cons_succ, EV.val] at hp
      conv => whnf
      refine hKq _ _ _ (V.Sub.refl _) ?_
      clear hKq Kq
      conv => whnf
      refine VSeq.mk fun Kq hKq => ?_
      conv => whnf
      rw [kw_set, show (t % M64 + up + 0) % M64 = (t + up) % M64 from add_lo1 t up hum] at hp
      refine ⟨i, ⟨by first | rfl | omega, by omega⟩, ?_⟩
      conv => whnf
      refine ⟨_, _, Blk.ld (hp.get (i := 2) rfl) TTok rfl (kw_get hgh), ?_⟩
      conv => whnf
      have hc1 := add_c1 t up hum
      have hh1 := add_hi1 t up hum
      have hh2 : (t + up) / M64 < 1000000000000000 := by unfold M64; omega
      rw [show (((t / M64 : Nat) : Int) + (((t % M64 + up + 0) / 18446744073709551616 : Nat) : Int)) % 18446744073709551616 = (((t + up) / M64 : Nat) : Int) by unfold M64 at hc1 hh1 hh2 ⊢; omega]
      refine ⟨i, ⟨by first | rfl | omega, by omega⟩, ?_⟩
      conv => whnf
      refine hp.kst1 (off := i) TTok (by rfl) 2 (by rfl) (by rfl) (by rfl) (by rw [kw_len]; omega) fun w hp => ?_
      try simp only [List.set_cons_zero, List.set_cons_succ, EV.val] at hp
      conv => whnf
      refine hKq _ _ _ (V.Sub.refl _) ?_
      clear hKq Kq
      conv => whnf
      refine VSeq.mk fun Kq hKq => ?_
      conv => whnf
      rw [kw_set] at hp
      have hlm := lo_mask (t + up)
      have hml : (t + up) % M64 < M64 := Nat.mod_lt _ (by decide)
      refine ⟨i, ⟨by first | rfl | omega, by omega⟩, ?_⟩
      conv => whnf
      refine ⟨_, _, Blk.ld (hp.get (i := 1) rfl) TTok rfl (kw_get (List.getElem?_set_self (by omega))), ?_⟩
      conv => whnf
      refine ⟨(t + up) % M64, 2251799813685247, (t + up) % b51, ⟨by first | rfl | omega, by first | rfl | omega, by omega, by omega⟩, by (dsimp only; rw [and51, hlm]), ?_⟩
      conv => whnf
      refine ⟨i, ⟨by first | rfl | omega, by omega⟩, ?_⟩
      conv => whnf
      refine hp.kst1 (off := i) TTok (by rfl) 0 (by rfl) (by rfl) (by rfl) (by rw [kw_len]; omega) fun w hp => ?_
      try simp only [List.set_cons_zero, List.set_cons_succ, EV.val] at hp
      conv => whnf
      refine hKq _ _ _ (V.Sub.refl _) ?_
      clear hKq Kq
      conv => whnf
      rw [kw_set, hst] at hp
      refine v_mixA TTok FFok mixed [(0, false), (1, false), (2, false), (3, false), (4, false), (5, false), (6, false), (7, false), (8, false), (9, false)] (by kernel_rfl) ?_
      conv => whnf
      refine ⟨i, ⟨by first | rfl | omega, by omega⟩, ?_⟩
      conv => whnf
      refine ⟨_, fun w' hx' => Blk.ld (Blk.ext (hp.get (i := 2) rfl) hx') TTok rfl (kw_get (List.getElem?_set_self (by omega))), ?_⟩
      conv => whnf
      refine ⟨13, ⟨by first | rfl | omega, by omega⟩, ?_⟩
      conv => whnf
      rw [show ((((t + up) / M64 : Nat) : Int) * 2 ^ 13 % 18446744073709551616) = (((t + up) / M64 * 8192 : Nat) : Int) by omega]
      refine ⟨i, ⟨by first | rfl | omega, by omega⟩, ?_⟩
      conv => whnf
      refine ⟨_, fun w' hx' => Blk.ld (Blk.ext (hp.get (i := 1) rfl) hx') TTok rfl (kw_get (List.getElem?_set_self (by omega))), ?_⟩
      conv => whnf
      refine ⟨51, ⟨by first | rfl | omega, by omega⟩, ?_⟩
      conv => whnf
      rw [shr_castN]
      have hj := up_join (t + up)
      have hq51 : (t + up) % M64 / 2 ^ 51 < 18446744073709551616 := Nat.lt_of_le_of_lt (Nat.div_le_self _ _) hml
      refine ⟨(t + up) / M64 * 8192, (t + up) % M64 / 2 ^ 51, (t + up) / b51, ⟨by first | rfl | omega, by first | rfl | omega, by omega, by omega⟩, by (dsimp only; exact hj), ?_⟩
      conv => whnf
      intro w hx
      try (have hp := hp.call hx)
      conv => whnf
      refine hKq _ _ _ (V.Sub.refl _) ?_
      clear hKq Kq
      conv => whnf
      refine And.intro (by omega) ?_
      conv => whnf
      rw [e2]
      exact ⟨m - 1, _, by omega, ⟨i + 1, _, _, by omega, rfl, by rw [List.length_set]; exact hLl, by rw [List.length_set]; exact hHl, fun j hj1 hj2 => by
        rw [List.getElem?_set_ne (by omega), List.getElem?_set_ne (by omega)]
        exact hLH j (by omega) hj2, hp⟩, sub_cons rfl (sub_cons rfl (sub_cons rfl (sub_cons rfl (sub_cons rfl (sub_cons rfl sub_nil)))))⟩
    · have hlt := of_decide_eq_false hlt
      conv => whnf
      clear hKq Kq
      refine hKq _ _ _ (V.Sub.refl _) ?_
      clear hKq Kq
      conv => whnf
      refine VSeq.mk fun Kq hKq => ?_
      conv => whnf
      obtain rfl : i = 5 := by omega
      rw [upto5_all _ _ hRl rfl] at hp
      have hall : chJ b51 0 T 5 = chain b51 0 T := by rw [← hT5]; exact chJ_all b51 0 T
      have hlt51 := chain51_lt T 0
      have hfl : (finF (chain b51 0 T).1 (chain b51 0 T).2).length = 5 := by rw [finF_len, hRl]
      have hcfl : (carF (finF (chain b51 0 T).1 (chain b51 0 T).2)).length = 5 := by rw [carF_len, hfl]
      rw [hall] at hui ⊢
      have hff : finF (chain b51 0 T).1 (chain b51 0 T).2 = ((chain b51 0 T).1.set 0 (((chain b51 0 T).1.getD 0 0 + 19 * (chain b51 0 T).2) % b51)).set 1 ((chain b51 0 T).1.getD 1 0 + ((chain b51 0 T).1.getD 0 0 + 19 * (chain b51 0 T).2) / b51) := rfl
      have hR0 := getD_le (l := (chain b51 0 T).1) (M := 2251799813685247) (fun y hy => by have := hlt51 y hy; omega)
      clear hall hlt51 hlt hLH hup hpre
      obtain ⟨F, hF⟩ : ∃ F, finF (chain b51 0 T).1 (chain b51 0 T).2 = F := ⟨_, rfl⟩
      rw [hF] at hff hfl hcfl hcar hTF
      clear hF
      obtain ⟨R, hR⟩ : ∃ R, (chain b51 0 T).1 = R := ⟨_, rfl⟩
      obtain ⟨U, hU⟩ : ∃ U, (chain b51 0 T).2 = U := ⟨_, rfl⟩
      rw [hR] at hff hRl hR0 hp
      rw [hU] at hff hui ⊢
      clear hR hU
      have ho0 := hR0 0
      have ho1 := hR0 1
      have hg0 := getD_of (l := R) (i := 0) (by omega)
      have hg1 := getD_of (l := R) (i := 1) (by omega)
      obtain ⟨o0, he0⟩ : ∃ o0, R.getD 0 0 = o0 := ⟨_, rfl⟩
      obtain ⟨o1, he1⟩ : ∃ o1, R.getD 1 0 = o1 := ⟨_, rfl⟩
      rw [he0] at ho0 hg0 hff
      rw [he1] at ho1 hg1 hff
      clear he0 he1 hR0
      have hob : o0 < b51 := by unfold b51; omega
      refine PureF.use (Mul64_p U 19 (by omega) (by omega)) fun w hx => ?_
      try (have hp := hp.call hx)
      conv => whnf
      refine hKq _ _ _ (V.Sub.refl _) ?_
      clear hKq Kq
      conv => whnf
      refine VSeq.mk fun Kq hKq => ?_
      conv => whnf
      refine ⟨0, ⟨by first | rfl | omega, by omega⟩, ?_⟩
      conv => whnf
      refine ⟨_, _, Blk.ld (hp.get (i := 0) rfl) TTok rfl (kw_get hg0), ?_⟩
      conv => whnf
      refine ⟨_, add64_x o0 (U * 19 % M64) 0, _, _, add64_r o0 (U * 19 % M64) 0 (by decide) _, ?_⟩
      conv => whnf
      refine ⟨0, ⟨by first | rfl | omega, by omega⟩, ?_⟩
      conv => whnf
      refine hp.kst1 (off := 0) TTok (by rfl) 0 (by rfl) (by rfl) (by rfl) (by rw [kw_len]; omega) fun w hp => ?_
      try simp only [List.set_cons_zero, List.set_cons_succ, EV.val] at hp
      conv => whnf
      refine hKq _ _ _ (V.Sub.refl _) ?_
      clear hKq Kq
      conv => whnf
      refine VSeq.mk fun Kq hKq => ?_
      conv => whnf
      refine hKq _ _ _ (V.Sub.refl _) ?_
      clear hKq Kq
      conv => whnf
      refine VSeq.mk fun Kq hKq => ?_
      conv => whnf
      rw [kw_set, show (o0 + U * 19 % M64 + 0) % M64 = (o0 + 19 * U) % M64 from fin_lo o0 U] at hp
      have hc1 := fin_c o0 U hob
      have hh1 := fin_hi o0 U hob
      have hh2 : (o0 + 19 * U) / M64 < 1000 := by unfold M64; omega
      rw [show (((U * 19 / 18446744073709551616 : Nat) : Int) + (((o0 + U * 19 % M64 + 0) / 18446744073709551616 : Nat) : Int)) % 18446744073709551616 = (((o0 + 19 * U) / M64 : Nat) : Int) by unfold M64 at hc1 hh1 hh2 ⊢; omega]
      refine ⟨1, ⟨by first | rfl | omega, by omega⟩, ?_⟩
      conv => whnf
      refine ⟨_, _, Blk.ld (hp.get (i := 0) rfl) TTok rfl (kw_get (by rw [List.getElem?_set_ne (by decide)]; exact hg1)), ?_⟩
      conv => whnf
      refine ⟨13, ⟨by first | rfl | omega, by omega⟩, ?_⟩
      conv => whnf
      rw [show ((((o0 + 19 * U) / M64 : Nat) : Int) * 2 ^ 13 % 18446744073709551616) = (((o0 + 19 * U) / M64 * 8192 : Nat) : Int) by omega]
      refine ⟨0, ⟨by first | rfl | omega, by omega⟩, ?_⟩
      conv => whnf
      refine ⟨_, _, Blk.ld (hp.get (i := 0) rfl) TTok rfl (kw_get (List.getElem?_set_self (by omega))), ?_⟩
      conv => whnf
      refine ⟨51, ⟨by first | rfl | omega, by omega⟩, ?_⟩
      conv => whnf
      rw [shr_castN]
      have hj := up_join (o0 + 19 * U)
      have hml : (o0 + 19 * U) % M64 < M64 := Nat.mod_lt _ (by decide)
      have hq51 : (o0 + 19 * U) % M64 / 2 ^ 51 < 18446744073709551616 := Nat.lt_of_le_of_lt (Nat.div_le_self _ _) hml
      refine ⟨(o0 + 19 * U) / M64 * 8192, (o0 + 19 * U) % M64 / 2 ^ 51, (o0 + 19 * U) / b51, ⟨by first | rfl | omega, by first | rfl | omega, by omega, by omega⟩, by (dsimp only; exact hj), ?_⟩
      conv => whnf
      have hqb : (o0 + 19 * U) / b51 < 100000 := by unfold b51; omega
      rw [show ((o1 : Int) + (((o0 + 19 * U) / b51 : Nat) : Int)) % 18446744073709551616 = ((o1 + (o0 + 19 * U) / b51 : Nat) : Int) by omega]
      refine ⟨1, ⟨by first | rfl | omega, by omega⟩, ?_⟩
      conv => whnf
      refine hp.kst1 (off := 1) TTok (by rfl) 0 (by rfl) (by rfl) (by rfl) (by rw [kw_len, List.length_set]; omega) fun w hp => ?_
      try simp only [List.set_cons_zero, List.set_cons_succ, EV.val] at hp
      conv => whnf
      refine hKq _ _ _ (V.Sub.refl _) ?_
      clear hKq Kq
      conv => whnf
      refine VSeq.mk fun Kq hKq => ?_
      conv => whnf
      rw [kw_set] at hp
      refine ⟨0, ⟨by first | rfl | omega, by omega⟩, ?_⟩
      conv => whnf
      refine ⟨_, _, Blk.ld (hp.get (i := 0) rfl) TTok rfl (kw_get (by rw [List.getElem?_set_ne (by decide)]; exact List.getElem?_set_self (by omega))), ?_⟩
      conv => whnf
      refine ⟨(o0 + 19 * U) % M64, 2251799813685247, (o0 + 19 * U) % b51, ⟨by first | rfl | omega, by first | rfl | omega, by omega, by omega⟩, by (dsimp only; rw [and51, lo_mask]), ?_⟩
      conv => whnf
      refine ⟨0, ⟨by first | rfl | omega, by omega⟩, ?_⟩
      conv => whnf
      refine hp.kst1 (off := 0) TTok (by rfl) 0 (by rfl) (by rfl) (by rfl) (by rw [kw_len, List.length_set, List.length_set]; omega) fun w hp => ?_
      try simp only [List.set_cons_zero, List.set_cons_succ, EV.val] at hp
      conv => whnf
      refine hKq _ _ _ (V.Sub.refl _) ?_
      clear hKq Kq
      conv => whnf
      refine VSeq.mk fun Kq hKq => ?_
      conv => whnf
      rw [kw_set, set_three R hRl, ← hff] at hp
      refine ⟨_, _, Blk.ldN (hp.get (i := 0) rfl) TTok rfl (by rw [kw_len, hfl]), ?_⟩
      conv => whnf
      refine PureF.use (hcar) fun w hx => ?_
      try (have hp := hp.call hx)
      conv => whnf
      refine hp.kstA TTok rfl 3 rfl (by rw [kw_len, hcfl]) (kwu_one _) (by rfl) fun w hp => ?_
      try simp only [List.set_cons_zero, List.set_cons_succ, EV.val] at hp
      conv => whnf
      refine hKq _ _ _ (V.Sub.refl _) ?_
      clear hKq Kq
      conv => whnf
      exact ⟨_, Blk.lvN (hp.get (i := 3) rfl) TTok rfl (by rw [kw_len, hcfl]), by rw [hTF]; rfl, hp.ext⟩
end Go.Proofs.Ytejphmgpndgliaa
