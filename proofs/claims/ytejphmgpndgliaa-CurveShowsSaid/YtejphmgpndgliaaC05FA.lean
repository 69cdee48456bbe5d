/- Chapter 05: the reference's folded. -/
import Derived.Test.YtejphmgpndgliaaC05N
import Derived.Test.YtejphmgpndgliaaC05B
namespace Go.Proofs.Ytejphmgpndgliaa
set_option linter.unusedSimpArgs false
set_option linter.unusedVariables false
open Go.RowKit V
def nV (n : Nat) : Value := .agg (kw .i64 (digL n)).toArray
def rndI (d : List Nat) : Nat → List Nat
  | 0 => d
  | i + 1 => rnd (rndI d i)
abbrev FB : Nat := 42991616 * 65535
theorem rnd_le (d : List Nat) (hd : ∀ x ∈ d, x ≤ FB) : ∀ x ∈ rnd d, x ≤ FB := by
  intro x hx
  have hc := chJ_carry 65536 0 (by decide) d d.length 42991616 hd (Nat.zero_le _)
  rw [chJ_all] at hc
  have hlt := chain_lt 65536 (by decide) d 0
  unfold rnd at hx
  rcases List.mem_or_eq_of_mem_set hx with h | h
  · have := hlt x h; unfold FB; omega
  · have h0 : (chain 65536 0 d).1.getD 0 0 ≤ 65535 := getD_le (fun y hy => by have := hlt y hy; omega) 0
    unfold FB
    omega
theorem rndI_ok (d : List Nat) (hd : ∀ x ∈ d, x ≤ FB) (h : d.length = 16) : ∀ i, (rndI d i).length = 16 ∧ ∀ x ∈ rndI d i, x ≤ FB
  | 0 => ⟨h, hd⟩
  | i + 1 => ⟨by rw [rndI, rnd_len]; exact (rndI_ok d hd h i).1, rnd_le _ (rndI_ok d hd h i).2⟩
theorem foldJ_FB (l : List Nat) (hM : ∀ x ∈ l, x ≤ 68719476736) (i : Nat) (hi : i ≤ 32) : ∀ x ∈ foldJ l i, x ≤ FB := fun x hx => by
  have := foldJ_cells l _ hM i hi x hx
  unfold FB; omega
set_option maxHeartbeats 4000000 in
theorem folded_c {w0 : World} {b e cap : Nat} (l : List Nat) (hl : l.length ≤ 32) (hM : ∀ x ∈ l, x ≤ 68719476736) (hb : Blk w0 b (kw .i64 l) e) :
    Calls Try.prog 41 #[.slice (some ⟨b, 0, none⟩) l.length cap] w0 fun e w' => e = .returned (nV (numL l)) ∧ Ext w0 w' := by
  obtain ⟨n1, n2, n3⟩ := numL_ok l hl hM
  unfold nV digL
  rw [← n1]
  clear n1 n2 n3
  refine v_reads TTok FFok Try.func41 rfl rfl ?_
  conv => whnf
  refine VSeq.mk fun Kq hKq => ?_
  conv => whnf
  have hp := Hp.nil w0
  refine hp.kalloc z43 fun q2 w hp hx => ?_
  conv => whnf
  refine hKq _ _ _ (V.Sub.refl _) ?_
  clear hKq Kq
  conv => whnf
  refine VSeq.mk fun Kq hKq => ?_
  conv => whnf
  refine hp.kalloc z43 fun q3 w hp hx => ?_
  conv => whnf
  refine hKq _ _ _ (V.Sub.refl _) ?_
  clear hKq Kq
  conv => whnf
  refine VSeq.mk fun Kq hKq => ?_
  conv => whnf
  refine VSeq.mk fun Kq hKq => ?_
  conv => whnf
  refine hKq _ _ _ (V.Sub.refl _) ?_
  clear hKq Kq
  conv => whnf
  have hp : HpM [] w0 w [blk q3 (kw .i64 (foldJ l 0)) 43, blk q2 (List.replicate 16 (.int .i64 0)) 43] := hp
  refine ⟨fun m e w' => ∃ (i : Nat), m + i = l.length ∧ e = [(0, .v (.slice (some ⟨b, 0, none⟩) l.length cap)), (2, .v (.pointer (some ⟨q2, 0, none⟩))), (3, .v (.pointer (some ⟨q3, 0, none⟩))), (4, .v (.int .i64 i))] ∧
      HpM [] w0 w' [blk q3 (kw .i64 (foldJ l i)) 43, blk q2 (List.replicate 16 (.int .i64 0)) 43],
    ⟨l.length, _, ⟨0, by omega, rfl, hp⟩, sub_cons rfl (sub_cons rfl (sub_cons rfl (sub_cons rfl sub_nil)))⟩, ?_⟩
  clear hp hx
  repeat clear hp
  rintro m _ w ⟨i, hm, rfl, hp⟩
  conv => whnf
  refine VSeq.mk fun Kq hKq => ?_
  conv => whnf
  refine VSeq.mk fun Kq hKq => ?_
  conv => whnf
  refine hKq _ _ _ (V.Sub.refl _) ?_
  clear hKq Kq
  conv => whnf
  refine ⟨fun hlt => ?_, fun hlt => ?_⟩
  · have hlt := of_decide_eq_true hlt
    conv => whnf
    refine hKq _ _ _ (V.Sub.refl _) ?_
    clear hKq Kq
    conv => whnf
    refine VSeq.mk fun Kq hKq => ?_
    conv => whnf
    refine VSeq.mk fun Kq hKq => ?_
    conv => whnf
    refine hKq _ _ _ (V.Sub.refl _) ?_
    clear hKq Kq
    conv => whnf
    have hi : i < l.length := by omega
    have hfl := foldJ_len l i
    have hfb := foldJ_cells l _ hM i (by omega)
    have hgl := getD_of hi
    have hls := hM _ (List.mem_of_getElem? hgl)
    obtain ⟨x, hxd⟩ : ∃ x, l.getD i 0 = x := ⟨_, rfl⟩
    rw [hxd] at hgl hls
    have hsu : foldJ l (i + 1) = if i < 16 then (foldJ l i).set i ((foldJ l i).getD i 0 + x) else (foldJ l i).set (i - 16) ((foldJ l i).getD (i - 16) 0 + 38 * x) := by rw [foldJ, hxd]
    obtain ⟨F, hF⟩ : ∃ F, foldJ l i = F := ⟨_, rfl⟩
    rw [hF] at hp hfl hfb hsu
    clear hF
    refine ⟨fun h16 => ?_, fun h16 => ?_⟩
    · have h16 := of_decide_eq_true h16
      conv => whnf
      rw [if_pos (by omega)] at hsu
      have hg := getD_of (l := F) (i := i) (by omega)
      have hgb := hfb _ (List.mem_of_getElem? hg)
      obtain ⟨y, hy⟩ : ∃ y, F.getD i 0 = y := ⟨_, rfl⟩
      rw [hy] at hg hgb hsu
      refine v_mix TTok FFok mixed 10 [(0, false), (1, false), (2, false), (3, false), (4, false), (5, false), (6, false), (7, false), (8, false), (9, false)] (by kernel_rfl) ?_
      conv => whnf
      refine ⟨i, ⟨by first | rfl | omega, by omega⟩, ?_⟩
      conv => whnf
      refine ⟨_, fun w' hx' => Blk.ld (Blk.ext (hp.get (i := 0) rfl) hx') TTok rfl (kw_get hg), ?_⟩
      conv => whnf
      refine ⟨i, ⟨by first | rfl | omega, by omega⟩, ?_⟩
      conv => whnf
      refine ⟨_, fun w' hx' => Blk.ld (Blk.ext (hb.ext hp.ext) hx') TTok rfl (kw_get hgl), ?_⟩
      conv => whnf
      refine And.intro (by omega) ?_
      conv => whnf
      refine ⟨i, ⟨by first | rfl | omega, by omega⟩, ?_⟩
      conv => whnf
      intro w hx
      try (have hp := hp.call hx)
      conv => whnf
      refine hp.kst1 (off := i) TTok (by rfl) 0 (by rfl) (by rfl) (by rfl) (by rw [kw_len]; omega) fun w hp => ?_
      try simp only [List.set_cons_zero, List.set_cons_succ, EV.val] at hp
      conv => whnf
      refine hKq _ _ _ (V.Sub.refl _) ?_
      clear hKq Kq
      conv => whnf
      refine And.intro (by omega) ?_
      conv => whnf
      rw [show (y : Int) + (x : Int) = ((y + x : Nat) : Int) by omega, kw_set, ← hsu] at hp
      exact ⟨m - 1, _, by omega, ⟨i + 1, by omega, rfl, hp⟩, sub_cons rfl (sub_cons rfl (sub_cons rfl (sub_cons rfl sub_nil)))⟩
    · have h16 := of_decide_eq_false h16
      conv => whnf
      rw [if_neg (by omega)] at hsu
      have hg := getD_of (l := F) (i := i - 16) (by omega)
      have hgb := hfb _ (List.mem_of_getElem? hg)
      obtain ⟨y, hy⟩ : ∃ y, F.getD (i - 16) 0 = y := ⟨_, rfl⟩
      rw [hy] at hg hgb hsu
      refine v_mix TTok FFok mixed 13 [(0, false), (1, false), (2, false), (3, false), (4, false), (5, false), (6, false), (7, false), (8, false), (9, false), (10, false), (11, false), (12, false)] (by kernel_rfl) ?_
      conv => whnf
      refine And.intro (by omega) ?_
      conv => whnf
      refine And.intro (by omega) ?_
      conv => whnf
      refine ⟨i - 16, ⟨by first | rfl | omega, by omega⟩, ?_⟩
      conv => whnf
      refine ⟨_, fun w' hx' => Blk.ld (Blk.ext (hp.get (i := 0) rfl) hx') TTok rfl (kw_get hg), ?_⟩
      conv => whnf
      refine ⟨i, ⟨by first | rfl | omega, by omega⟩, ?_⟩
      conv => whnf
      refine ⟨_, fun w' hx' => Blk.ld (Blk.ext (hb.ext hp.ext) hx') TTok rfl (kw_get hgl), ?_⟩
      conv => whnf
      refine And.intro (by omega) ?_
      conv => whnf
      refine And.intro (by omega) ?_
      conv => whnf
      refine ⟨i - 16, ⟨by first | rfl | omega, by omega⟩, ?_⟩
      conv => whnf
      intro w hx
      try (have hp := hp.call hx)
      conv => whnf
      refine hp.kst1 (off := i - 16) TTok (by rfl) 0 (by rfl) (by rfl) (by rfl) (by rw [kw_len]; omega) fun w hp => ?_
      try simp only [List.set_cons_zero, List.set_cons_succ, EV.val] at hp
      conv => whnf
      refine hKq _ _ _ (V.Sub.refl _) ?_
      clear hKq Kq
      conv => whnf
      refine And.intro (by omega) ?_
      conv => whnf
      rw [show (y : Int) + 38 * (x : Int) = ((y + 38 * x : Nat) : Int) by omega, kw_set, ← hsu] at hp
      exact ⟨m - 1, _, by omega, ⟨i + 1, by omega, rfl, hp⟩, sub_cons rfl (sub_cons rfl (sub_cons rfl (sub_cons rfl sub_nil)))⟩
  · have hlt := of_decide_eq_false hlt
    conv => whnf
    clear hKq Kq
    refine hKq _ _ _ (V.Sub.refl _) ?_
    clear hKq Kq
    conv => whnf
    refine VSeq.mk fun Kq hKq => ?_
    conv => whnf
    refine VSeq.mk fun Kq hKq => ?_
    conv => whnf
    refine hKq _ _ _ (V.Sub.refl _) ?_
    clear hKq Kq
    conv => whnf
    obtain rfl : i = l.length := by omega
    have hD := foldJ_FB l hM l.length hl
    have hDl := foldJ_len l l.length
    obtain ⟨D, hDd⟩ : ∃ D, foldJ l l.length = D := ⟨_, rfl⟩
    rw [hDd] at hp hD hDl ⊢
    clear hm hlt
    have hp : HpM [] w0 w [blk q3 (kw .i64 (rndI D 0)) 43, blk q2 (List.replicate 16 (.int .i64 0)) 43] := hp
    refine ⟨fun m e w' => ∃ (j : Nat), m + j = 3 ∧ e = [(2, .v (.pointer (some ⟨q2, 0, none⟩))), (3, .v (.pointer (some ⟨q3, 0, none⟩))), (5, .v (.int .i64 j))] ∧
        HpM [] w0 w' [blk q3 (kw .i64 (rndI D j)) 43, blk q2 (List.replicate 16 (.int .i64 0)) 43],
      ⟨3, _, ⟨0, by omega, rfl, hp⟩, sub_cons rfl (sub_cons rfl (sub_cons rfl sub_nil))⟩, ?_⟩
    clear hp
    repeat clear hp
    rintro m1 _ w ⟨j, hm1, rfl, hp⟩
    conv => whnf
    refine VSeq.mk fun Kq hKq => ?_
    conv => whnf
    refine VSeq.mk fun Kq hKq => ?_
    conv => whnf
    refine hKq _ _ _ (V.Sub.refl _) ?_
    clear hKq Kq
    conv => whnf
    refine ⟨fun hlt => ?_, fun hlt => ?_⟩
    · have hlt := of_decide_eq_true hlt
      conv => whnf
      refine hKq _ _ _ (V.Sub.refl _) ?_
      clear hKq Kq
      conv => whnf
      refine VSeq.mk fun Kq hKq => ?_
      conv => whnf
      refine VSeq.mk fun Kq hKq => ?_
      conv => whnf
      refine hKq _ _ _ (V.Sub.refl _) ?_
      clear hKq Kq
      conv => whnf
      refine VSeq.mk fun Kq hKq => ?_
      conv => whnf
      refine VSeq.mk fun Kq hKq => ?_
      conv => whnf
      refine hKq _ _ _ (V.Sub.refl _) ?_
      clear hKq Kq
      conv => whnf
      obtain ⟨hEl, hE⟩ := rndI_ok D hD hDl j
      have hrs : rndI D (j + 1) = rnd (rndI D j) := rfl
      obtain ⟨E, hEd⟩ : ∃ E, rndI D j = E := ⟨_, rfl⟩
      rw [hEd] at hp hEl hE hrs
      have hp : HpM [] w0 w [blk q3 (kw .i64 (chJ 65536 0 E 0).1) 43, blk q2 (List.replicate 16 (.int .i64 0)) 43] := by rw [chJ_zero]; exact hp
      refine ⟨fun m e w' => ∃ (i : Nat), m + i = 16 ∧ e = [(2, .v (.pointer (some ⟨q2, 0, none⟩))), (3, .v (.pointer (some ⟨q3, 0, none⟩))), (5, .v (.int .i64 j)), (6, .v (.int .i64 ((chJ 65536 0 E i).2 : Nat))), (7, .v (.int .i64 i))] ∧
          HpM [] w0 w' [blk q3 (kw .i64 (chJ 65536 0 E i).1) 43, blk q2 (List.replicate 16 (.int .i64 0)) 43],
        ⟨16, _, ⟨0, by omega, rfl, hp⟩, sub_cons rfl (sub_cons rfl (sub_cons rfl (sub_cons rfl (sub_cons rfl sub_nil))))⟩, ?_⟩
      clear hp
      repeat clear hp
      rintro m2 _ w ⟨i, hm2, rfl, hp⟩
      have hcl := chJ_len 65536 0 E i
      have hcc := chJ_carry 65536 0 (by decide) E i 42991616 hE (Nat.zero_le _)
      conv => whnf
      refine VSeq.mk fun Kq hKq => ?_
      conv => whnf
      refine VSeq.mk fun Kq hKq => ?_
      conv => whnf
      refine hKq _ _ _ (V.Sub.refl _) ?_
      clear hKq Kq
      conv => whnf
      refine ⟨fun hlt2 => ?_, fun hlt2 => ?_⟩
      · have hlt2 := of_decide_eq_true hlt2
        conv => whnf
        refine hKq _ _ _ (V.Sub.refl _) ?_
        clear hKq Kq
        conv => whnf
        refine VSeq.mk fun Kq hKq => ?_
        conv => whnf
        refine VSeq.mk fun Kq hKq => ?_
        conv => whnf
        have hi : i < E.length := by omega
        have hg := chJ_get 65536 0 E i hi
        have hs := chJ_succ 65536 0 E i hi
        have hli : E[i] ≤ FB := hE _ (List.getElem_mem hi)
        rw [getElem_getD hi] at hg hs hli
        obtain ⟨C, hC⟩ : ∃ C, (chJ 65536 0 E i).1 = C := ⟨_, rfl⟩
        obtain ⟨cc, hcd⟩ : ∃ cc, (chJ 65536 0 E i).2 = cc := ⟨_, rfl⟩
        obtain ⟨x, hxd⟩ : ∃ x, E.getD i 0 = x := ⟨_, rfl⟩
        rw [hC, hcd, hxd] at hs
        rw [hC] at hg hcl hp
        rw [hcd] at hcc ⊢
        rw [hxd] at hg hli
        clear hC hcd hxd
        unfold FB at hli
        refine ⟨i, ⟨by first | rfl | omega, by omega⟩, ?_⟩
        conv => whnf
        refine ⟨_, _, Blk.ld (hp.get (i := 0) rfl) TTok rfl (kw_get hg), ?_⟩
        conv => whnf
        refine And.intro (by omega) ?_
        conv => whnf
        refine hKq _ _ _ (V.Sub.refl _) ?_
        clear hKq Kq
        conv => whnf
        refine VSeq.mk fun Kq hKq => ?_
        conv => whnf
        refine And.intro (by omega) ?_
        conv => whnf
        rw [show ((cc : Int) + (x : Int)) = ((x + cc : Nat) : Int) by omega]
        refine ⟨i, ⟨by first | rfl | omega, by omega⟩, ?_⟩
        conv => whnf
        refine hp.kst1 (off := i) TTok (by rfl) 0 (by rfl) (by rfl) (by rfl) (by rw [kw_len]; omega) fun w hp => ?_
        try simp only [List.set_cons_zero, List.set_cons_succ, EV.val] at hp
        conv => whnf
        refine hKq _ _ _ (V.Sub.refl _) ?_
        clear hKq Kq
        conv => whnf
        refine And.intro (by omega) ?_
        conv => whnf
        refine hKq _ _ _ (V.Sub.refl _) ?_
        clear hKq Kq
        conv => whnf
        refine And.intro (by omega) ?_
        conv => whnf
        rw [show (((x + cc : Nat) : Int) % 65536) = (((x + cc) % 65536 : Nat) : Int) by omega, kw_set] at hp
        rw [show (((x + cc : Nat) : Int) / 65536) = (((x + cc) / 65536 : Nat) : Int) by omega]
        have e1 : C.set i ((x + cc) % 65536) = (chJ 65536 0 E (i + 1)).1 := by rw [hs]
        have e2 : (x + cc) / 65536 = (chJ 65536 0 E (i + 1)).2 := by rw [hs]
        rw [e1] at hp
        rw [e2]
        exact ⟨m2 - 1, _, by omega, ⟨i + 1, by omega, rfl, hp⟩, sub_cons rfl (sub_cons rfl (sub_cons rfl (sub_cons rfl (sub_cons rfl sub_nil))))⟩
      · have hlt2 := of_decide_eq_false hlt2
        conv => whnf
        clear hKq Kq
        refine hKq _ _ _ (V.Sub.refl _) ?_
        clear hKq Kq
        conv => whnf
        obtain rfl : i = E.length := by omega
        rw [chJ_all] at hp hcl hcc ⊢
        have hlt16 := chain_lt 65536 (by decide) E 0
        have hc0 : (chain 65536 0 E).1.getD 0 0 ≤ 65535 := getD_le (fun y hy => by have := hlt16 y hy; omega) 0
        have hg0 := getD_of (l := (chain 65536 0 E).1) (i := 0) (by omega)
        have hfin : (chain 65536 0 E).1.set 0 ((chain 65536 0 E).1.getD 0 0 + 38 * (chain 65536 0 E).2) = rndI D (j + 1) := by rw [hrs]; rfl
        generalize (chain 65536 0 E).1 = C at *
        generalize (chain 65536 0 E).2 = cc at *
        generalize C.getD 0 0 = x at *
        clear hlt16 hlt2
        refine ⟨0, ⟨by first | rfl | omega, by omega⟩, ?_⟩
        conv => whnf
        refine ⟨_, _, Blk.ld (hp.get (i := 0) rfl) TTok rfl (kw_get hg0), ?_⟩
        conv => whnf
        refine And.intro (by omega) ?_
        conv => whnf
        refine And.intro (by omega) ?_
        conv => whnf
        refine ⟨0, ⟨by first | rfl | omega, by omega⟩, ?_⟩
        conv => whnf
        refine hp.kst1 (off := 0) TTok (by rfl) 0 (by rfl) (by rfl) (by rfl) (by rw [kw_len]; omega) fun w hp => ?_
        try simp only [List.set_cons_zero, List.set_cons_succ, EV.val] at hp
        conv => whnf
        refine hKq _ _ _ (V.Sub.refl _) ?_
        clear hKq Kq
        conv => whnf
        refine And.intro (by omega) ?_
        conv => whnf
        rw [show (x : Int) + 38 * (cc : Int) = ((x + 38 * cc : Nat) : Int) by omega, kw_set, hfin] at hp
        exact ⟨m1 - 1, _, by omega, ⟨j + 1, by omega, rfl, hp⟩, sub_cons rfl (sub_cons rfl (sub_cons rfl sub_nil))⟩
    · have hlt := of_decide_eq_false hlt
      conv => whnf
      clear hKq Kq
      refine hKq _ _ _ (V.Sub.refl _) ?_
      clear hKq Kq
      conv => whnf
      refine VSeq.mk fun Kq hKq => ?_
      conv => whnf
      obtain rfl : j = 3 := by omega
      have h3 : (rndI D 3).length = 16 := (rndI_ok D hD hDl 3).1
      have hp : HpM [] w0 w [blk q3 (kw .i64 (rnd (rnd (rnd D)))) 43, blk q2 (List.replicate 16 (.int .i64 0)) 43] := hp
      have h3 : (rnd (rnd (rnd D))).length = 16 := h3
      refine ⟨_, _, Blk.ldN (hp.get (i := 0) rfl) TTok rfl (by rw [kw_len, h3]), ?_⟩
      conv => whnf
      refine hp.kstA TTok rfl 1 rfl (by rw [kw_len, h3]) (kw_one _ _) (by rfl) fun w hp => ?_
      try simp only [List.set_cons_zero, List.set_cons_succ, EV.val] at hp
      conv => whnf
      refine hKq _ _ _ (V.Sub.refl _) ?_
      clear hKq Kq
      conv => whnf
      exact ⟨_, Blk.lvN (hp.get (i := 1) rfl) TTok rfl (by rw [kw_len, h3]), by rw [hDd]; rfl, hp.ext⟩
end Go.Proofs.Ytejphmgpndgliaa
