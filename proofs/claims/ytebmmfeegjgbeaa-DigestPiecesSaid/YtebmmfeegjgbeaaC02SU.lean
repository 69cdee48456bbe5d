/- Chapter 02: DigestSums. -/
import Derived.Test.YtebmmfeegjgbeaaC02RH
namespace Go.Proofs.Ytebmmfeegjgbeaa
set_option linter.unusedSimpArgs false
set_option linter.unusedVariables false
open Go.RowKit V
set_option maxRecDepth 100000
def prs (key s l : ByteArray) : List ByteArray := [key, s, key, l, l, key]
theorem prs_at (key s l : ByteArray) (hk : key.size ≤ 4200) (hs : s.size ≤ 4200) (hl : l.size ≤ 4200) (i : Nat) (hi : i < 3) : ∃ a b : ByteArray, ((sw (prs key s l)).drop (i * 2)).take 2 = sw [a, b] ∧ a.size ≤ 4200 ∧ b.size ≤ 4200 := by
  rcases (by omega : i = 0 ∨ i = 1 ∨ i = 2) with rfl | rfl | rfl
  · exact ⟨key, s, rfl, hk, hs⟩
  · exact ⟨key, l, rfl, hk, hl⟩
  · exact ⟨l, key, rfl, hl, hk⟩
theorem slice2 (qb : Nat) (w : World) (m : Nat) (hm : m = 2 ∨ m = 3) : Sem.run Try.prog (Instr.sliceAt 55 (.slice (some ⟨qb, 0, none⟩) 3 3) none (some (.int .i64 m)) none) w = Result.ok (.slice (some ⟨qb, 0, none⟩) m 3) w := by
  rcases hm with rfl | rfl <;> rfl
theorem ov_sum (x : ByteArray) : ∃ (d : ByteArray) (e : Nat), ovN [x] = e ∧ PureF Try.prog 16 #[.string x] (.tuple #[.string d, .int .i64 e]) ∧ ((e = 0 ∧ d = sumB x) ∨ (e = 3 ∧ d = ⟨#[]⟩)) := by
  have h := Sum_p x
  unfold sumR at h
  by_cases h4 : 4096 < x.size
  · rw [if_pos h4] at h
    exact ⟨_, 3, by unfold ovN bigS; rw [List.any_cons, decide_eq_true h4]; rfl, h, .inr ⟨rfl, rfl⟩⟩
  · rw [if_neg h4] at h
    exact ⟨_, 0, by unfold ovN bigS; rw [List.any_cons, decide_eq_false h4]; rfl, h, .inl ⟨rfl, rfl⟩⟩
theorem ov_mac (k x : ByteArray) : ∃ (d : ByteArray) (e : Nat), ovN [k, x] = e ∧ PureF Try.prog 17 #[.string k, .string x] (.tuple #[.string d, .int .i64 e]) ∧ ((e = 0 ∧ d = macB k x) ∨ (e = 3 ∧ d = ⟨#[]⟩)) := by
  have h := Mac_p k x
  unfold macR at h
  by_cases h4 : 4096 < k.size ∨ 4096 < x.size
  · rw [if_pos h4] at h
    refine ⟨_, 3, ?_, h, .inr ⟨rfl, rfl⟩⟩
    unfold ovN bigS
    rcases h4 with h4 | h4
    · rw [List.any_cons, decide_eq_true h4]; rfl
    · rw [List.any_cons, List.any_cons, decide_eq_true h4, Bool.true_or, Bool.or_true]; rfl
  · rw [if_neg h4] at h
    refine ⟨_, 0, ?_, h, .inl ⟨rfl, rfl⟩⟩
    unfold ovN bigS
    rw [List.any_cons, List.any_cons, decide_eq_false (by omega), decide_eq_false (by omega)]; rfl
theorem told_t (d : ByteArray) (e : Nat) (want : ByteArray) (h : (e = 0 ∧ d = want) ∨ (e ≠ 0 ∧ d = ⟨#[]⟩)) : PureF Try.prog 27 #[.string d, .int .i64 e, .int .i64 e, .string want] (.bool true) := by
  rcases h with ⟨rfl, rfl⟩ | ⟨h, rfl⟩
  · exact told_ok _
  · exact told_err _ _ h
set_option maxHeartbeats 3200000 in
theorem DigestSums_p (s0 k0 : ByteArray) (n wh : Nat) (hn : n < 65536) (hw : wh < 256) : PureF Try.prog 7 #[.string s0, .string k0, .int .u16 n, .int .u8 wh] (.bool true) := by
  first | refine v_pure TTok FFok Try.func7 rfl rfl fun w0 => ?_ | refine v_pure (args := []) TTok FFok Try.func7 rfl rfl fun w0 => ?_
  conv => whnf
  refine VSeq.mk fun Kq hKq => ?_
  conv => whnf
  refine hKq _ _ _ (V.Sub.refl _) ?_
  clear hKq Kq
  conv => whnf
  refine VSeq.mk fun Kq hKq => ?_
  conv => whnf
  refine VSeq.mk fun Kq hKq => ?_
  conv => whnf
  have hp := Hp.nil w0
  refine PureF.use (works_p) fun w hx => ?_
  try (have hp := hp.call hx)
  conv => whnf
  refine hKq _ _ _ (V.Sub.refl _) ?_
  clear hKq Kq
  conv => whnf
  refine And.intro (fun h => by cases h) (fun _ => ?_)
  conv => whnf
  refine hKq _ _ _ (V.Sub.refl _) ?_
  clear hKq Kq
  conv => whnf
  refine VSeq.mk fun Kq hKq => ?_
  conv => whnf
  refine PureF.use (cut_p s0) fun w hx => ?_
  try (have hp := hp.call hx)
  conv => whnf
  refine PureF.use (cut_p k0) fun w hx => ?_
  try (have hp := hp.call hx)
  conv => whnf
  refine hKq _ _ _ (V.Sub.refl _) ?_
  clear hKq Kq
  conv => whnf
  refine VSeq.mk fun Kq hKq => ?_
  conv => whnf
  have zk := size_extract k0 0 (min k0.size 300) (by omega)
  have zs := size_extract s0 0 (min s0.size 300) (by omega)
  obtain ⟨key, hk⟩ : ∃ key, k0.extract 0 (min k0.size 300) = key := ⟨_, rfl⟩
  obtain ⟨s, hs⟩ : ∃ s, s0.extract 0 (min s0.size 300) = s := ⟨_, rfl⟩
  rw [hk] at zk
  rw [hs] at zs
  rw [hk, hs]
  clear hk hs
  refine Calls.mono (rConst_c (W := w)) ?_
  rintro _ w ⟨_, rfl, ⟨vS, vK, rfl, hS, hK⟩, hx⟩
  refine ⟨_, rfl, ?_⟩
  conv => whnf
  have hp := hp.call hx
  obtain ⟨pS, cS, rfl⟩ := hS.shape
  obtain ⟨pK, cK, rfl⟩ := hK.shape
  have hx00 := hp.ext
  have hp := HpM.nil0 [] w
  refine hp.kalloc z52 fun qt w hp hx => ?_
  conv => whnf
  refine hp.kstA TTok rfl 0 rfl (rfl) ((by intro u hu; simp at hu; rcases hu with rfl | rfl <;> rfl)) (rfl) fun w hp => ?_
  try simp only [List.set_cons_zero, List.set_cons_succ, EV.val] at hp
  conv => whnf
  refine hKq _ _ _ (V.Sub.refl _) ?_
  clear hKq Kq
  conv => whnf
  refine VSeq.mk fun Kq hKq => ?_
  conv => whnf
  obtain ⟨g, hgz, hgp⟩ := grown_p s n (by omega) hn
  refine PureF.use (hgp) fun w hx => ?_
  try (have hp := hp.call hx)
  conv => whnf
  refine hKq _ _ _ (V.Sub.refl _) ?_
  clear hKq Kq
  conv => whnf
  refine VSeq.mk fun Kq hKq => ?_
  conv => whnf
  refine VSeq.mk fun Kq hKq => ?_
  conv => whnf
  first | refine ⟨.agg #[.string key, .string s], w, by kernel_rfl, ?_⟩ | refine ⟨.agg #[.string key, .string s], w0, by kernel_rfl, ?_⟩
  conv => whnf
  first | refine ⟨.agg #[.string key, .string g], w, by kernel_rfl, ?_⟩ | refine ⟨.agg #[.string key, .string g], w0, by kernel_rfl, ?_⟩
  conv => whnf
  first | refine ⟨.agg #[.string g, .string key], w, by kernel_rfl, ?_⟩ | refine ⟨.agg #[.string g, .string key], w0, by kernel_rfl, ?_⟩
  conv => whnf
  refine hp.kmade (sw (prs key s g)) 56 (fun b => .slice (some ⟨b, 0, none⟩) 3 3) (by kernel_rfl) fun qb w hp hx => ?_
  conv => whnf
  refine And.intro (by omega) ?_
  conv => whnf
  refine And.intro (by omega) ?_
  conv => whnf
  refine And.intro (by omega) ?_
  conv => whnf
  obtain ⟨m, hm, hmm⟩ : ∃ m : Nat, (2 : Int) + ((wh : Nat) : Int) % 2 = ((m : Nat) : Int) ∧ (m = 2 ∨ m = 3) := ⟨2 + wh % 2, by omega, by omega⟩
  rw [hm]
  first | refine ⟨.slice (some ⟨qb, 0, none⟩) m 3, w, slice2 qb w m hmm, ?_⟩ | refine ⟨.slice (some ⟨qb, 0, none⟩) m 3, w0, slice2 qb w m hmm, ?_⟩
  conv => whnf
  refine hKq _ _ _ (V.Sub.refl _) ?_
  clear hKq Kq
  conv => whnf
  have hm3 : m ≤ 3 := by omega
  clear hm hmm
  have hT : Blk w qt [.slice pS (kw .i64 SL).length cS, .slice pK (kw .i64 KL).length cK] 52 := hp.get (i := 1) rfl
  have hB : Blk w qb (sw (prs key s g)) 56 := hp.get (i := 0) rfl
  have hS := hS.ext hp.ext
  have hK := hK.ext hp.ext
  have hx0 := hx00.trans hp.ext
  clear hp hx hx00
  repeat clear hp
  refine ⟨fun mm e w' => ∃ (i : Nat), mm + i = m ∧ e = [(9, .v (.pointer (some ⟨qt, 0, none⟩))), (43, .v (.slice (some ⟨qb, 0, none⟩) m 3)), (44, .v (.int .i64 m)), (45, .v (.int .i64 i))] ∧ Ext w w',
      ⟨m, _, ⟨0, by omega, rfl, Ext.refl _⟩, sub_cons rfl (sub_cons rfl (sub_cons rfl (sub_cons rfl sub_nil)))⟩, ?_⟩
  rintro mm _ w1 ⟨i, hmm, rfl, hxw⟩
  conv => whnf
  refine VSeq.mk fun Kq hKq => ?_
  conv => whnf
  refine hKq _ _ _ (V.Sub.refl _) ?_
  clear hKq Kq
  conv => whnf
  refine VSeq.mk fun Kq hKq => ?_
  conv => whnf
  refine ⟨fun hlt => ?_, fun hlt => ?_⟩
  · have hlt := of_decide_eq_true hlt
    conv => whnf
    refine hKq _ _ _ (V.Sub.refl _) ?_
    clear hKq Kq
    conv => whnf
    refine VSeq.mk fun Kq hKq => ?_
    conv => whnf
    refine VSeq.mk fun Kq hKq => ?_
    conv => whnf
    obtain ⟨k, x, hcut, hkz, hxz⟩ := prs_at key s g (by omega) (by omega) (by omega) i (by omega)
    obtain ⟨d1, e1, ho1, hs1, hd1⟩ := ov_sum x
    obtain ⟨d2, e2, ho2, hs2, hd2⟩ := ov_mac k x
    have hp := HpM.nil0 [] w1
    have hS := hS.ext hxw
    have hK := hK.ext hxw
    have hT := Blk.ext hT hxw
    have hB := Blk.ext hB hxw
    refine ⟨i, ⟨by first | rfl | omega, by omega⟩, ?_⟩
    conv => whnf
    refine ⟨_, _, Blk.ldV (off := i * 2) hB TTok rfl (vs := sw [k, x]) hcut (by rfl), ?_⟩
    conv => whnf
    refine hp.kalloc z56 fun q12 w hp hx => ?_
    conv => whnf
    refine hp.kstA TTok rfl 0 rfl (by rfl) (sw_one _) (by rfl) fun w hp => ?_
    try simp only [List.set_cons_zero, List.set_cons_succ, EV.val] at hp
    conv => whnf
    refine hKq _ _ _ (V.Sub.refl _) ?_
    clear hKq Kq
    conv => whnf
    refine VSeq.mk fun Kq hKq => ?_
    conv => whnf
    refine ⟨1, ⟨by first | rfl | omega, by decide⟩, ?_⟩
    conv => whnf
    refine ⟨_, _, Blk.ld (hp.get (i := 0) rfl) TTok rfl (rfl), ?_⟩
    conv => whnf
    refine hp.kmade (sw [x]) 9 (fun b => .slice (some ⟨b, 0, none⟩) 1 1) (by kernel_rfl) fun tb w hp hx => ?_
    conv => whnf
    refine V.CallsUse (over_c [x] (SLv.of_blk0 (hp.get (i := 0) rfl) rfl) one_le) fun w hx => ?_
    try (have hp := hp.call hx)
    conv => whnf
    refine hKq _ _ _ (V.Sub.refl _) ?_
    clear hKq Kq
    conv => whnf
    refine VSeq.mk fun Kq hKq => ?_
    conv => whnf
    rw [ho1]
    have hp := hp.tail
    refine ⟨1, ⟨by first | rfl | omega, by decide⟩, ?_⟩
    conv => whnf
    refine ⟨_, _, Blk.ld (hp.get (i := 0) rfl) TTok rfl (rfl), ?_⟩
    conv => whnf
    refine PureF.use (hs1) fun w hx => ?_
    try (have hp := hp.call hx)
    conv => whnf
    refine hKq _ _ _ (V.Sub.refl _) ?_
    clear hKq Kq
    conv => whnf
    refine VSeq.mk fun Kq hKq => ?_
    conv => whnf
    refine hKq _ _ _ (V.Sub.refl _) ?_
    clear hKq Kq
    conv => whnf
    refine VSeq.mk fun Kq hKq => ?_
    conv => whnf
    refine VSeq.mk fun Kq hKq => ?_
    conv => whnf
    refine hKq _ _ _ (V.Sub.refl _) ?_
    clear hKq Kq
    conv => whnf
    have key2 : ∀ (w1' : World) (want : ByteArray), HpM [] w1 w1' [blk q12 (sw [k, x]) 56] → (e1 = 0 ∧ d1 = want ∨ e1 ≠ 0 ∧ d1 = ⟨#[]⟩) →
        ∀ l, V.Sub [(9, .v (.pointer (some ⟨qt, 0, none⟩))), (12, .v (.pointer (some ⟨q12, 0, none⟩))), (13, .v (.int .i64 e1)), (14, .v (.string d1)), (15, .v (.int .i64 e1)), (16, .v (.string want)), (43, .v (.slice (some ⟨qb, 0, none⟩) m 3)), (44, .v (.int .i64 m)), (45, .v (.int .i64 i))] l → Kq l w1' := by
      clear hp hx
      repeat clear hp
      intro w want hp hwant l hsub
      refine hKq _ _ _ hsub ?_
      clear hKq Kq hsub
      conv => whnf
      refine VSeq.mk fun Kq hKq => ?_
      conv => whnf
      refine VSeq.mk fun Kq hKq => ?_
      conv => whnf
      refine PureF.use (told_t d1 e1 want hwant) fun w hx => ?_
      try (have hp := hp.call hx)
      conv => whnf
      refine hKq _ _ _ (V.Sub.refl _) ?_
      clear hKq Kq
      conv => whnf
      refine And.intro (fun h => by cases h) (fun _ => ?_)
      conv => whnf
      refine hKq _ _ _ (V.Sub.refl _) ?_
      clear hKq Kq
      conv => whnf
      refine VSeq.mk fun Kq hKq => ?_
      conv => whnf
      refine ⟨0, ⟨by first | rfl | omega, by decide⟩, ?_⟩
      conv => whnf
      refine ⟨_, _, Blk.ld (hp.get (i := 0) rfl) TTok rfl (rfl), ?_⟩
      conv => whnf
      refine ⟨1, ⟨by first | rfl | omega, by decide⟩, ?_⟩
      conv => whnf
      refine ⟨_, _, Blk.ld (hp.get (i := 0) rfl) TTok rfl (rfl), ?_⟩
      conv => whnf
      refine hp.kmade (sw [k, x]) 9 (fun b => .slice (some ⟨b, 0, none⟩) 2 2) (by kernel_rfl) fun tb2 w hp hx => ?_
      conv => whnf
      refine V.CallsUse (over_c [k, x] (SLv.of_blk0 (hp.get (i := 0) rfl) rfl) (by show 2 ≤ 1000; omega)) fun w hx => ?_
      try (have hp := hp.call hx)
      conv => whnf
      refine hKq _ _ _ (V.Sub.refl _) ?_
      clear hKq Kq
      conv => whnf
      refine VSeq.mk fun Kq hKq => ?_
      conv => whnf
      rw [ho2]
      have hp := hp.tail
      refine ⟨0, ⟨by first | rfl | omega, by decide⟩, ?_⟩
      conv => whnf
      refine ⟨_, _, Blk.ld (hp.get (i := 0) rfl) TTok rfl (rfl), ?_⟩
      conv => whnf
      refine ⟨1, ⟨by first | rfl | omega, by decide⟩, ?_⟩
      conv => whnf
      refine ⟨_, _, Blk.ld (hp.get (i := 0) rfl) TTok rfl (rfl), ?_⟩
      conv => whnf
      refine PureF.use (hs2) fun w hx => ?_
      try (have hp := hp.call hx)
      conv => whnf
      refine hKq _ _ _ (V.Sub.refl _) ?_
      clear hKq Kq
      conv => whnf
      refine VSeq.mk fun Kq hKq => ?_
      conv => whnf
      refine hKq _ _ _ (V.Sub.refl _) ?_
      clear hKq Kq
      conv => whnf
      refine VSeq.mk fun Kq hKq => ?_
      conv => whnf
      refine VSeq.mk fun Kq hKq => ?_
      conv => whnf
      refine hKq _ _ _ (V.Sub.refl _) ?_
      clear hKq Kq
      conv => whnf
      have key3 : ∀ (w1' : World) (want : ByteArray), HpM [] w1 w1' [blk q12 (sw [k, x]) 56] → (e2 = 0 ∧ d2 = want ∨ e2 ≠ 0 ∧ d2 = ⟨#[]⟩) →
          ∀ l, V.Sub [(9, .v (.pointer (some ⟨qt, 0, none⟩))), (13, .v (.int .i64 e2)), (17, .v (.string d2)), (18, .v (.int .i64 e2)), (16, .v (.string want)), (43, .v (.slice (some ⟨qb, 0, none⟩) m 3)), (44, .v (.int .i64 m)), (45, .v (.int .i64 i))] l → Kq l w1' := by
        clear hp hx
        repeat clear hp
        intro w want hp hwant l hsub
        refine hKq _ _ _ hsub ?_
        clear hKq Kq hsub
        conv => whnf
        refine VSeq.mk fun Kq hKq => ?_
        conv => whnf
        refine PureF.use (told_t d2 e2 want hwant) fun w hx => ?_
        try (have hp := hp.call hx)
        conv => whnf
        refine hKq _ _ _ (V.Sub.refl _) ?_
        clear hKq Kq
        conv => whnf
        refine And.intro (fun h => by cases h) (fun _ => ?_)
        conv => whnf
        refine hKq _ _ _ (V.Sub.refl _) ?_
        clear hKq Kq
        conv => whnf
        refine And.intro (by omega) ?_
        conv => whnf
        exact ⟨mm - 1, _, by omega, ⟨i + 1, by omega, rfl, hxw.trans hp.ext⟩, sub_cons rfl (sub_cons rfl (sub_cons rfl (sub_cons rfl sub_nil)))⟩
      clear hKq
      refine ⟨fun h0 => ?_, fun h0 => ?_⟩
      · have h0 := of_decide_eq_true h0
        conv => whnf
        have he0 : e2 = 0 := by omega
        refine ⟨_, _, Blk.ldN (Blk.ext hT hp.ext) TTok rfl rfl, ?_⟩
        conv => whnf
        refine ⟨0, ⟨by first | rfl | omega, by decide⟩, ?_⟩
        conv => whnf
        refine ⟨_, _, Blk.ld (hp.get (i := 0) rfl) TTok rfl (rfl), ?_⟩
        conv => whnf
        refine ⟨1, ⟨by first | rfl | omega, by decide⟩, ?_⟩
        conv => whnf
        refine ⟨_, _, Blk.ld (hp.get (i := 0) rfl) TTok rfl (rfl), ?_⟩
        conv => whnf
        refine Calls.mono (rMac_c (W := w) k x (hS.ext hp.ext) (hK.ext hp.ext) (by omega) (by omega)) ?_
        rintro _ w ⟨_, rfl, rfl, hx⟩
        refine ⟨_, rfl, ?_⟩
        conv => whnf
        have hp := hp.call hx
        exact key3 _ (macB k x) hp (.inl ⟨he0, (hd2.resolve_right (fun h => by omega)).2⟩) _ (sub_cons rfl (sub_cons rfl (sub_cons rfl (sub_cons rfl (sub_cons rfl (sub_cons rfl (sub_cons rfl (sub_cons rfl sub_nil))))))))
      · have h0 := of_decide_eq_false h0
        conv => whnf
        have he0 : e2 ≠ 0 := by omega
        exact key3 _ ⟨#[]⟩ hp (.inr ⟨he0, (hd2.resolve_left (fun h => he0 h.1)).2⟩) _ (sub_cons rfl (sub_cons rfl (sub_cons rfl (sub_cons rfl (sub_cons rfl (sub_cons rfl (sub_cons rfl (sub_cons rfl sub_nil))))))))
    clear hKq
    refine ⟨fun h0 => ?_, fun h0 => ?_⟩
    · have h0 := of_decide_eq_true h0
      conv => whnf
      have he0 : e1 = 0 := by omega
      refine ⟨_, _, Blk.ldN (Blk.ext hT hp.ext) TTok rfl rfl, ?_⟩
      conv => whnf
      refine ⟨1, ⟨by first | rfl | omega, by decide⟩, ?_⟩
      conv => whnf
      refine ⟨_, _, Blk.ld (hp.get (i := 0) rfl) TTok rfl (rfl), ?_⟩
      conv => whnf
      refine Calls.mono (rSum_c (W := w) x (hS.ext hp.ext) (hK.ext hp.ext) (by omega)) ?_
      rintro _ w ⟨_, rfl, rfl, hx⟩
      refine ⟨_, rfl, ?_⟩
      conv => whnf
      have hp := hp.call hx
      exact key2 _ (sumB x) hp (.inl ⟨he0, (hd1.resolve_right (fun h => by omega)).2⟩) _ (sub_cons rfl (sub_cons rfl (sub_cons rfl (sub_cons rfl (sub_cons rfl (sub_cons rfl (sub_cons rfl (sub_cons rfl (sub_cons rfl sub_nil)))))))))
    · have h0 := of_decide_eq_false h0
      conv => whnf
      have he0 : e1 ≠ 0 := by omega
      exact key2 _ ⟨#[]⟩ hp (.inr ⟨he0, (hd1.resolve_left (fun h => he0 h.1)).2⟩) _ (sub_cons rfl (sub_cons rfl (sub_cons rfl (sub_cons rfl (sub_cons rfl (sub_cons rfl (sub_cons rfl (sub_cons rfl (sub_cons rfl sub_nil)))))))))
  · have hlt := of_decide_eq_false hlt
    conv => whnf
    clear hKq Kq
    refine hKq _ _ _ (V.Sub.refl _) ?_
    clear hKq Kq
    conv => whnf
    refine VSeq.mk fun Kq hKq => ?_
    conv => whnf
    refine hKq _ _ _ (V.Sub.refl _) ?_
    clear hKq Kq
    conv => whnf
    exact ⟨rfl, hx0.trans hxw⟩
theorem sums_at (a0 a1 : ByteArray) (a2 a3 : Int) (w2 : (Lit.int .u16 a2).wf = true) (w3 : (Lit.int .u8 a3).wf = true) : PureF Try.prog 7 #[.string a0, .string a1, .int .u16 a2, .int .u8 a3] (.bool true) := by
  obtain ⟨n, rfl, h⟩ := nat_of_u w2 rfl
  obtain ⟨m, rfl, h2⟩ := nat_of_u w3 rfl
  exact DigestSums_p a0 a1 n m h h2
end Go.Proofs.Ytebmmfeegjgbeaa
