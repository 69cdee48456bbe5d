/- Chapter 05: the reference's octets. -/
import Derived.Test.YtejphmgpndgliaaC05FE
import Derived.Test.YtejphmgpndgliaaHX
namespace Go.Proofs.Ytejphmgpndgliaa
set_option linter.unusedSimpArgs false
set_option linter.unusedVariables false
open Go.RowKit V
abbrev U15 : Nat := 1766847064778384329583297500742918515827483896875618958121606201292619776
theorem U15_pow : (65536 : Nat) ^ 15 = U15 := by decide
theorem digL_getD (n i : Nat) (h : i < 16) : (digL n).getD i 0 = n / 65536 ^ i % 65536 := by
  rw [List.getD_eq_getElem?_getD, digL_at n i h]; rfl
theorem dig_top (M y : Nat) (h : M + y * U15 < W6) : (digL M).set 15 ((digL M).getD 15 0 + y) = digL (M + y * U15) := by
  have hl := digL_len M
  have hM : M < W6 := by omega
  have hd := digL_getD M 15 (by decide)
  rw [U15_pow] at hd
  have hb : (digL M).getD 15 0 + y < 65536 := by
    rw [hd]
    unfold W6 U15 at *
    omega
  have h1 : ∀ x ∈ (digL M).set 15 ((digL M).getD 15 0 + y), x < 65536 := fun x hx => by
    rcases List.mem_or_eq_of_mem_set hx with h | h
    · have := digL_le M x h; omega
    · omega
  have h2 := digB_of 65536 (by decide) _ h1
  rw [List.length_set, hl, valB_set 65536 _ 15 _ (by rw [hl]; decide), digL_val M hM, U15_pow] at h2
  exact h2
theorem set_same (l : List Nat) (i : Nat) (h : i < l.length) : l.set i (l.getD i 0) = l := by
  rw [← getElem_getD h, List.set_getElem_self]
theorem chain19 (n : Nat) (hn : n < W6) : (chain 65536 19 (digL n)).1 = digL (19 + n) ∧ (chain 65536 19 (digL n)).2 = (19 + n) / W6 := by
  have h := chain_dig 65536 (by decide) (digL n) 19
  rw [digL_len, digL_val n hn] at h
  exact h
theorem digL_mod (n : Nat) : digL (n % W6) = digL n := digB_mod 65536 16 n
/-- less than 2^256 beyond: the digit falls -/
theorem fall_a (n : Nat) (h1 : PP ≤ n) (h2 : 19 + n < W6) : 32768 ≤ (digL (19 + n)).getD 15 0 ∧ (digL (19 + n)).set 15 ((digL (19 + n)).getD 15 0 - 32768) = digL (n - PP) := by
  have e : 19 + n = (n - PP) + 32768 * U15 := by unfold PP U15 at *; omega
  have ht := dig_top (n - PP) 32768 (by rw [← e]; exact h2)
  rw [← e] at ht
  have hl := digL_len (n - PP)
  have hg : (digL (19 + n)).getD 15 0 = (digL (n - PP)).getD 15 0 + 32768 := by rw [← ht, getD_set_self' _ _ _ (by omega)]
  refine ⟨by omega, ?_⟩
  rw [hg, ← ht, List.set_set, Nat.add_sub_cancel, set_same _ _ (by omega)]
/-- 2^256 or more: the digit is 0, and becomes 32768 -/
theorem fall_b (n : Nat) (h1 : W6 ≤ 19 + n) (h2 : n < W6) : (digL (19 + n)).getD 15 0 = 0 ∧ (digL (19 + n)).set 15 32768 = digL (n - PP) := by
  obtain ⟨M, hM⟩ : ∃ M, 19 + n = W6 + M := ⟨19 + n - W6, by omega⟩
  have e : digL (19 + n) = digL M := by
    rw [← digL_mod (19 + n), hM, Nat.add_mod_left, digL_mod]
  have hMl : M < 19 := by omega
  have e2 : n - PP = M + 32768 * U15 := by unfold PP U15 W6 at *; omega
  have hd := digL_getD M 15 (by decide)
  rw [U15_pow, Nat.div_eq_of_lt (by unfold U15; omega)] at hd
  have ht := dig_top M 32768 (by unfold U15 W6; omega)
  rw [e]
  rw [hd] at ht ⊢
  refine ⟨rfl, ?_⟩
  rw [e2, ← ht]
def wl (l : List Nat) : List UInt8 := l.flatMap fun x => [UInt8.ofNat (x % 256), UInt8.ofNat (x / 256)]
theorem wl_le (n : Nat) : wl (digL n) = le32 n := by
  unfold le32 digL
  rw [← dig_pair 16 n, List.map_flatMap]
  rfl
theorem wl_take (l : List Nat) (j : Nat) (h : j < l.length) : wl (l.take (j + 1)) = wl (l.take j) ++ [UInt8.ofNat (l.getD j 0 % 256), UInt8.ofNat (l.getD j 0 / 256)] := by
  rw [List.take_succ_eq_append_getElem h]; unfold wl; rw [List.flatMap_append, ← getElem_getD h]; rfl
set_option maxHeartbeats 4000000 in
theorem octets_r (n : Nat) (hn : n < W6) : PureF Try.prog 30 #[nV n] (.string ⟨(le32 (n % PP)).toArray⟩) := by
  unfold nV
  first | refine v_pure TTok FFok Try.func30 rfl rfl fun w0 => ?_ | refine v_pure (args := []) TTok FFok Try.func30 rfl rfl fun w0 => ?_
  conv => whnf
  refine VSeq.mk fun Kq hKq => ?_
  conv => whnf
  have hp := Hp.nil w0
  refine hp.kbox (kw .i64 (digL n)) rfl fun q1 w hp hx => ?_
  conv => whnf
  refine hKq _ _ _ (V.Sub.refl _) ?_
  clear hKq Kq
  conv => whnf
  refine VSeq.mk fun Kq hKq => ?_
  conv => whnf
  refine ⟨fun m e w' => m < W6 ∧ m % PP = n % PP ∧ e = [(1, .v (.pointer (some ⟨q1, 0, none⟩)))] ∧ HpM [] w0 w' [blk q1 (kw .i64 (digL m)) 43],
    ⟨n, _, ⟨hn, rfl, rfl, hp⟩, sub_cons rfl sub_nil⟩, ?_⟩
  clear hp hx
  repeat clear hp
  rintro m _ w ⟨hm, hmp, rfl, hp⟩
  have hPP : 0 < PP := by decide
  have hl := less_p m hm
  unfold nV at hl
  conv => whnf
  refine VSeq.mk fun Kq hKq => ?_
  conv => whnf
  refine VSeq.mk fun Kq hKq => ?_
  conv => whnf
  refine ⟨_, _, Blk.ldN (hp.get (i := 0) rfl) TTok rfl (fold_end), ?_⟩
  conv => whnf
  by_cases hc : m < PP
  · rw [decide_eq_true hc] at hl
    refine PureF.use (hl) fun w hx => ?_
    try (have hp := hp.call hx)
    conv => whnf
    refine hKq _ _ _ (V.Sub.refl _) ?_
    clear hKq Kq
    conv => whnf
    refine And.intro (fun h => by cases h) (fun _ => ?_)
    conv => whnf
    clear hKq Kq
    refine hKq _ _ _ (V.Sub.refl _) ?_
    clear hKq Kq
    conv => whnf
    refine VSeq.mk fun Kq hKq => ?_
    conv => whnf
    refine hKq _ _ _ (V.Sub.refl _) ?_
    clear hKq Kq
    conv => whnf
    refine VSeq.mk fun Kq hKq => ?_
    conv => whnf
    refine VSeq.mk fun Kq hKq => ?_
    conv => whnf
    refine hKq _ _ _ (V.Sub.refl _) ?_
    clear hKq Kq
    conv => whnf
    rw [Nat.mod_eq_of_lt hc] at hmp
    have hDl := digL_len m
    have hDd := digL_le m
    have hwl := wl_le m
    obtain ⟨D, hD⟩ : ∃ D, digL m = D := ⟨_, rfl⟩
    rw [hD] at hp hDl hDd hwl
    have hp := hp.knil 5 1
    have hp : HpM [] w0 w [row 5 1 (.slice none 0 0) (2 * 0) (bytesV (wl (D.take 0))), blk q1 (kw .i64 D) 43] := hp
    refine ⟨fun m e w' => ∃ (i : Nat) (v : Value), m + i = 16 ∧ e = [(1, .v (.pointer (some ⟨q1, 0, none⟩))), (5, .v v), (6, .v (.int .i64 i))] ∧
        HpM [] w0 w' [row 5 1 v (2 * i) (bytesV (wl (D.take i))), blk q1 (kw .i64 D) 43],
      ⟨16, _, ⟨0, _, by omega, rfl, hp⟩, sub_cons rfl (sub_cons rfl (sub_cons rfl sub_nil))⟩, ?_⟩
    clear hp hx
    repeat clear hp
    rintro m2 _ w ⟨i, v, hm2, rfl, hp⟩
    conv => whnf
    refine VSeq.mk fun Kq hKq => ?_
    conv => whnf
    refine VSeq.mk fun Kq hKq => ?_
    conv => whnf
    refine hKq _ _ _ (V.Sub.refl _) ?_
    clear hKq Kq
    conv => whnf
    refine ⟨fun hlt => ?_, fun hlt => ?_⟩
    · have hlt := of_decide_eq_true hlt
      conv => whnf
      refine hKq _ _ _ (V.Sub.refl _) ?_
      clear hKq Kq
      conv => whnf
      refine VSeq.mk fun Kq hKq => ?_
      conv => whnf
      have hg := getD_of (l := D) (i := i) (by omega)
      have hgl := hDd _ (List.mem_of_getElem? hg)
      have htk := wl_take D i (by omega)
      obtain ⟨x, hx⟩ : ∃ x, D.getD i 0 = x := ⟨_, rfl⟩
      rw [hx] at hg hgl htk
      have c1 : ((x : Nat) : Int) % 256 % 256 = (((UInt8.ofNat (x % 256)).toNat : Nat) : Int) := by rw [UInt8.toNat_ofNat_of_lt' (by show x % 256 < 256; omega)]; omega
      have c2 : ((x : Nat) : Int) / 256 % 256 = (((UInt8.ofNat (x / 256)).toNat : Nat) : Int) := by rw [UInt8.toNat_ofNat_of_lt' (by show x / 256 < 256; omega)]; omega
      refine v_mix TTok FFok mixed 12 [(0, false), (1, false), (2, false), (3, false), (4, false), (5, false), (6, false), (7, false), (8, false), (9, false), (10, false), (11, true)] (by kernel_rfl) ?_
      conv => whnf
      refine ⟨i, ⟨by first | rfl | omega, by omega⟩, ?_⟩
      conv => whnf
      refine ⟨_, fun w' hx' => Blk.ld (Blk.ext (hp.get (i := 1) rfl) hx') TTok rfl (kw_get hg), ?_⟩
      conv => whnf
      refine And.intro (by omega) ?_
      conv => whnf
      refine ⟨i, ⟨by first | rfl | omega, by omega⟩, ?_⟩
      conv => whnf
      refine ⟨_, fun w' hx' => Blk.ld (Blk.ext (hp.get (i := 1) rfl) hx') TTok rfl (kw_get hg), ?_⟩
      conv => whnf
      refine And.intro (by omega) ?_
      conv => whnf
      intro w hx
      try (have hp := hp.call hx)
      conv => whnf
      rw [c1, c2]
      refine hp.kmade (bytesV [UInt8.ofNat (x % 256), UInt8.ofNat (x / 256)]) 5 (fun b => .slice (some ⟨b, 0, none⟩) 2 2) (by kernel_rfl) fun tb w hp hx => ?_
      conv => whnf
      refine And.intro hx ?_
      conv => whnf
      intro w hx
      try (have hp := hp.call hx)
      conv => whnf
      refine hp.kapp sl29 1 rfl (Blk.src TTok (hp.get (i := 0) rfl) rfl rfl (one_bytes _)) (by omega) (by unfold maxLen; omega) fun v' w hp => ?_
      simp only [List.set_cons_zero, List.set_cons_succ] at hp
      conv => whnf
      refine hKq _ _ _ (V.Sub.refl _) ?_
      clear hKq Kq
      conv => whnf
      refine And.intro (by omega) ?_
      conv => whnf
      refine ⟨m2 - 1, _, by omega, ⟨i + 1, v', by omega, rfl, ?_⟩, sub_cons rfl (sub_cons rfl (sub_cons rfl sub_nil))⟩
      rw [htk, bytesV_app]; exact hp.tail
    · have hlt := of_decide_eq_false hlt
      conv => whnf
      clear hKq Kq
      refine hKq _ _ _ (V.Sub.refl _) ?_
      clear hKq Kq
      conv => whnf
      refine VSeq.mk fun Kq hKq => ?_
      conv => whnf
      obtain rfl : i = 16 := by omega
      rw [List.take_of_length_le (by omega), hwl, hmp] at hp
      refine ⟨_, _, row_str (hp.get (i := 0) rfl) TTok rfl rfl rfl, ?_⟩
      conv => whnf
      refine hKq _ _ _ (V.Sub.refl _) ?_
      clear hKq Kq
      conv => whnf
      exact ⟨rfl, hp.ext⟩
  · rw [decide_eq_false hc] at hl
    refine PureF.use (hl) fun w hx => ?_
    try (have hp := hp.call hx)
    conv => whnf
    refine hKq _ _ _ (V.Sub.refl _) ?_
    clear hKq Kq
    conv => whnf
    refine And.intro (fun _ => ?_) (fun h => by cases h)
    conv => whnf
    refine hKq _ _ _ (V.Sub.refl _) ?_
    clear hKq Kq
    conv => whnf
    refine VSeq.mk fun Kq hKq => ?_
    conv => whnf
    refine hKq _ _ _ (V.Sub.refl _) ?_
    clear hKq Kq
    conv => whnf
    refine VSeq.mk fun Kq hKq => ?_
    conv => whnf
    refine VSeq.mk fun Kq hKq => ?_
    conv => whnf
    refine hKq _ _ _ (V.Sub.refl _) ?_
    clear hKq Kq
    conv => whnf
    have hD := digL_le m
    have hDl := digL_len m
    have h19 := chain19 m hm
    have hp : HpM [] w0 w [blk q1 (kw .i64 (chJ 65536 19 (digL m) 0).1) 43] := by rw [chJ_zero]; exact hp
    obtain ⟨D, hDd⟩ : ∃ D, digL m = D := ⟨_, rfl⟩
    rw [hDd] at hp hD hDl h19
    refine ⟨fun m' e w' => ∃ (i : Nat), m' + i = 16 ∧ e = [(1, .v (.pointer (some ⟨q1, 0, none⟩))), (3, .v (.int .i64 ((chJ 65536 19 D i).2 : Nat))), (4, .v (.int .i64 i))] ∧
        HpM [] w0 w' [blk q1 (kw .i64 (chJ 65536 19 D i).1) 43],
      ⟨16, _, ⟨0, by omega, rfl, hp⟩, sub_cons rfl (sub_cons rfl (sub_cons rfl sub_nil))⟩, ?_⟩
    clear hp hx
    repeat clear hp
    rintro m2 _ w ⟨i, hm2, rfl, hp⟩
    have hcl := chJ_len 65536 19 D i
    have hcc := chJ_carry 65536 19 (by decide) D i 19 (fun x hx => by have := hD x hx; omega) (Nat.le_refl _)
    conv => whnf
    refine VSeq.mk fun Kq hKq => ?_
    conv => whnf
    refine VSeq.mk fun Kq hKq => ?_
    conv => whnf
    refine hKq _ _ _ (V.Sub.refl _) ?_
    clear hKq Kq
    conv => whnf
    refine ⟨fun hlt2 => ?_, fun hlt2 => ?_⟩
    · have hlt2 := of_decide_eq_true hlt2
      conv => whnf
      refine hKq _ _ _ (V.Sub.refl _) ?_
      clear hKq Kq
      conv => whnf
      refine VSeq.mk fun Kq hKq => ?_
      conv => whnf
      refine VSeq.mk fun Kq hKq => ?_
      conv => whnf
      have hi : i < D.length := by omega
      have hg := chJ_get 65536 19 D i hi
      have hs := chJ_succ 65536 19 D i hi
      have hli : D[i] ≤ 65535 := hD _ (List.getElem_mem hi)
      rw [getElem_getD hi] at hg hs hli
      obtain ⟨C, hC⟩ : ∃ C, (chJ 65536 19 D i).1 = C := ⟨_, rfl⟩
      obtain ⟨cc, hcd⟩ : ∃ cc, (chJ 65536 19 D i).2 = cc := ⟨_, rfl⟩
      obtain ⟨x, hxd⟩ : ∃ x, D.getD i 0 = x := ⟨_, rfl⟩
      rw [hC, hcd, hxd] at hs
      rw [hC] at hg hcl hp
      rw [hcd] at hcc ⊢
      rw [hxd] at hg hli
      clear hC hcd hxd
      refine ⟨i, ⟨by first | rfl | omega, by omega⟩, ?_⟩
      conv => whnf
      refine ⟨_, _, Blk.ld (hp.get (i := 0) rfl) TTok rfl (kw_get hg), ?_⟩
      conv => whnf
      refine And.intro (by omega) ?_
      conv => whnf
      refine hKq _ _ _ (V.Sub.refl _) ?_
      clear hKq Kq
      conv => whnf
      refine VSeq.mk fun Kq hKq => ?_
      conv => whnf
      refine And.intro (by omega) ?_
      conv => whnf
      rw [show ((cc : Int) + (x : Int)) = ((x + cc : Nat) : Int) by omega]
      refine ⟨i, ⟨by first | rfl | omega, by omega⟩, ?_⟩
      conv => whnf
      refine hp.kst1 (off := i) TTok (by rfl) 0 (by rfl) (by rfl) (by rfl) (by rw [kw_len]; omega) fun w hp => ?_
      try simp only [List.set_cons_zero, List.set_cons_succ, EV.val] at hp
      conv => whnf
      refine hKq _ _ _ (V.Sub.refl _) ?_
      clear hKq Kq
      conv => whnf
      refine And.intro (by omega) ?_
      conv => whnf
      refine hKq _ _ _ (V.Sub.refl _) ?_
      clear hKq Kq
      conv => whnf
      refine And.intro (by omega) ?_
      conv => whnf
      rw [show (((x + cc : Nat) : Int) % 65536) = (((x + cc) % 65536 : Nat) : Int) by omega, kw_set] at hp
      rw [show (((x + cc : Nat) : Int) / 65536) = (((x + cc) / 65536 : Nat) : Int) by omega]
      have e1 : C.set i ((x + cc) % 65536) = (chJ 65536 19 D (i + 1)).1 := by rw [hs]
      have e2 : (x + cc) / 65536 = (chJ 65536 19 D (i + 1)).2 := by rw [hs]
      rw [e1] at hp
      rw [e2]
      exact ⟨m2 - 1, _, by omega, ⟨i + 1, by omega, rfl, hp⟩, sub_cons rfl (sub_cons rfl (sub_cons rfl sub_nil))⟩
    · have hlt2 := of_decide_eq_false hlt2
      conv => whnf
      clear hKq Kq
      refine hKq _ _ _ (V.Sub.refl _) ?_
      clear hKq Kq
      conv => whnf
      refine VSeq.mk fun Kq hKq => ?_
      conv => whnf
      obtain rfl : i = D.length := by omega
      rw [chJ_all, h19.1] at hp
      rw [chJ_all, h19.2]
      clear hcl hcc h19 hlt2
      by_cases hcar : 19 + m < W6
      · obtain ⟨f1, f2⟩ := fall_a m (by omega) hcar
        rw [Nat.div_eq_of_lt hcar]
        have hE := digL_len (19 + m)
        have h15 := getD_of (l := digL (19 + m)) (i := 15) (by omega)
        obtain ⟨d, hd⟩ : ∃ d, (digL (19 + m)).getD 15 0 = d := ⟨_, rfl⟩
        rw [hd] at h15 f1 f2
        have hdl := digL_le (19 + m) _ (List.mem_of_getElem? h15)
        refine ⟨15, ⟨by first | rfl | omega, by omega⟩, ?_⟩
        conv => whnf
        refine ⟨_, _, Blk.ld (hp.get (i := 0) rfl) TTok rfl (kw_get h15), ?_⟩
        conv => whnf
        refine And.intro (by omega) ?_
        conv => whnf
        refine ⟨15, ⟨by first | rfl | omega, by omega⟩, ?_⟩
        conv => whnf
        refine hp.kst1 (off := 15) TTok (by rfl) 0 (by rfl) (by rfl) (by rfl) (by rw [kw_len]; omega) fun w hp => ?_
        try simp only [List.set_cons_zero, List.set_cons_succ, EV.val] at hp
        conv => whnf
        refine hKq _ _ _ (V.Sub.refl _) ?_
        clear hKq Kq
        conv => whnf
        refine VSeq.mk fun Kq hKq => ?_
        conv => whnf
        refine hKq _ _ _ (V.Sub.refl _) ?_
        clear hKq Kq
        conv => whnf
        rw [show (d : Int) - 32768 = ((d - 32768 : Nat) : Int) by omega, kw_set, f2] at hp
        refine And.intro (fun h => absurd (of_decide_eq_true h) ((by omega))) (fun _ => ?_)
        conv => whnf
        exact ⟨m - PP, _, by omega, ⟨by omega, by rw [← Nat.mod_eq_sub_mod (by omega)]; exact hmp, rfl, hp⟩, sub_cons rfl sub_nil⟩
      · obtain ⟨f1, f2⟩ := fall_b m (by omega) hm
        have hq : (19 + m) / W6 = 1 := by unfold W6 at *; omega
        rw [hq]
        have hE := digL_len (19 + m)
        have h15 := getD_of (l := digL (19 + m)) (i := 15) (by omega)
        rw [f1] at h15
        refine ⟨15, ⟨by first | rfl | omega, by omega⟩, ?_⟩
        conv => whnf
        refine ⟨_, _, Blk.ld (hp.get (i := 0) rfl) TTok rfl (kw_get h15), ?_⟩
        conv => whnf
        refine And.intro (by omega) ?_
        conv => whnf
        refine ⟨15, ⟨by first | rfl | omega, by omega⟩, ?_⟩
        conv => whnf
        refine hp.kst1 (off := 15) TTok (by rfl) 0 (by rfl) (by rfl) (by rfl) (by rw [kw_len]; omega) fun w hp => ?_
        try simp only [List.set_cons_zero, List.set_cons_succ, EV.val] at hp
        conv => whnf
        refine hKq _ _ _ (V.Sub.refl _) ?_
        clear hKq Kq
        conv => whnf
        refine VSeq.mk fun Kq hKq => ?_
        conv => whnf
        refine hKq _ _ _ (V.Sub.refl _) ?_
        clear hKq Kq
        conv => whnf
        refine And.intro (fun _ => ?_) (fun h => absurd ((by omega)) (of_decide_eq_false h))
        conv => whnf
        refine ⟨15, ⟨by first | rfl | omega, by omega⟩, ?_⟩
        conv => whnf
        refine ⟨_, _, Blk.ld (hp.get (i := 0) rfl) TTok rfl (List.getElem?_set_self (by rw [kw_len]; omega)), ?_⟩
        conv => whnf
        refine And.intro (by omega) ?_
        conv => whnf
        refine ⟨15, ⟨by first | rfl | omega, by omega⟩, ?_⟩
        conv => whnf
        refine hp.kst1 (off := 15) TTok (by rfl) 0 (by rfl) (by rfl) (by rfl) (by rw [List.length_set, kw_len]; omega) fun w hp => ?_
        try simp only [List.set_cons_zero, List.set_cons_succ, EV.val] at hp
        conv => whnf
        rw [List.set_set] at hp
        have hp : HpM [] w0 w [blk q1 ((kw .i64 (digL (19 + m))).set 15 (.int .i64 ((32768 : Nat) : Int))) 43] := hp
        rw [kw_set, f2] at hp
        exact ⟨m - PP, _, by omega, ⟨by omega, by rw [← Nat.mod_eq_sub_mod (by omega)]; exact hmp, rfl, hp⟩, sub_cons rfl sub_nil⟩
end Go.Proofs.Ytejphmgpndgliaa
