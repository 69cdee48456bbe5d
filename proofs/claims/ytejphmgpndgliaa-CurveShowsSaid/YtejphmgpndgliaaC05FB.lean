/- Chapter 05: the reference's product, sum, difference. -/
import Derived.Test.YtejphmgpndgliaaC05FA
namespace Go.Proofs.Ytejphmgpndgliaa
set_option linter.unusedSimpArgs false
set_option linter.unusedVariables false
open Go.RowKit V
theorem fold_end {n : Nat} : (kw .i64 (digL n)).length = 16 := by rw [kw_len, digL_len]
theorem kw_rep (n : Nat) : List.replicate n (Value.int .i64 0) = kw .i64 (List.replicate n 0) := by unfold kw; rw [List.map_replicate]; rfl
set_option maxHeartbeats 4000000 in
theorem product_p (a b : Nat) : PureF Try.prog 29 #[nV a, nV b] (nV (prodN a b)) := by
  unfold nV prodN
  have hA := digL_len a
  have hAl := digL_le a
  have hB := digL_len b
  have hBl := digL_le b
  have hcl := convI_le (digL a) (digL b) hAl hBl
  obtain ⟨A, hAd⟩ : ∃ A, digL a = A := ⟨_, rfl⟩
  obtain ⟨B, hBd⟩ : ∃ B, digL b = B := ⟨_, rfl⟩
  rw [hAd, hBd] at hcl
  rw [hAd] at hA hAl ⊢
  rw [hBd] at hB hBl ⊢
  clear hAd hBd
  first | refine v_pure TTok FFok Try.func29 rfl rfl fun w0 => ?_ | refine v_pure (args := []) TTok FFok Try.func29 rfl rfl fun w0 => ?_
  conv => whnf
  refine VSeq.mk fun Kq hKq => ?_
  conv => whnf
  have hp := Hp.nil w0
  refine hp.kbox (kw .i64 A) rfl fun q2 w hp hx => ?_
  conv => whnf
  refine hp.kbox (kw .i64 B) rfl fun q3 w hp hx => ?_
  conv => whnf
  refine hp.kalloc z43 fun q4 w hp hx => ?_
  conv => whnf
  refine hKq _ _ _ (V.Sub.refl _) ?_
  clear hKq Kq
  conv => whnf
  refine VSeq.mk fun Kq hKq => ?_
  conv => whnf
  refine hp.kmkS sl63 z3 31 (by decide) (by unfold maxLen; decide) fun ql w hp hx => ?_
  rw [kw_rep 31] at hp
  have hp : HpM [] w0 w [blk ql (kw .i64 (convI A B 0)) 3, blk q4 (List.replicate 16 (.int .i64 0)) 43, blk q3 (kw .i64 B) 43, blk q2 (kw .i64 A) 43] := hp
  conv => whnf
  refine hKq _ _ _ (V.Sub.refl _) ?_
  clear hKq Kq
  conv => whnf
  refine VSeq.mk fun Kq hKq => ?_
  conv => whnf
  refine VSeq.mk fun Kq hKq => ?_
  conv => whnf
  refine hKq _ _ _ (V.Sub.refl _) ?_
  clear hKq Kq
  conv => whnf
  refine ⟨fun m e w' => ∃ (i : Nat), m + i = 16 ∧ e = [(2, .v (.pointer (some ⟨q2, 0, none⟩))), (3, .v (.pointer (some ⟨q3, 0, none⟩))), (4, .v (.pointer (some ⟨q4, 0, none⟩))), (5, .v (.slice (some ⟨ql, 0, none⟩) 31 31)), (6, .v (.int .i64 i))] ∧
      HpM [] w0 w' [blk ql (kw .i64 (convI A B i)) 3, blk q4 (List.replicate 16 (.int .i64 0)) 43, blk q3 (kw .i64 B) 43, blk q2 (kw .i64 A) 43],
    ⟨16, _, ⟨0, by omega, rfl, hp⟩, sub_cons rfl (sub_cons rfl (sub_cons rfl (sub_cons rfl (sub_cons rfl sub_nil))))⟩, ?_⟩
  clear hp hx
  repeat clear hp
  rintro m _ w ⟨i, hm, rfl, hp⟩
  conv => whnf
  refine VSeq.mk fun Kq hKq => ?_
  conv => whnf
  refine VSeq.mk fun Kq hKq => ?_
  conv => whnf
  refine hKq _ _ _ (V.Sub.refl _) ?_
  clear hKq Kq
  conv => whnf
  refine ⟨fun hlt => ?_, fun hlt => ?_⟩
  · have hlt := of_decide_eq_true hlt
    conv => whnf
    refine hKq _ _ _ (V.Sub.refl _) ?_
    clear hKq Kq
    conv => whnf
    refine VSeq.mk fun Kq hKq => ?_
    conv => whnf
    refine VSeq.mk fun Kq hKq => ?_
    conv => whnf
    refine hKq _ _ _ (V.Sub.refl _) ?_
    clear hKq Kq
    conv => whnf
    have hx := getD_of (l := A) (i := i) (by omega)
    have hxl := hAl _ (List.mem_of_getElem? hx)
    have hci := hcl i
    have hcn : convI A B (i + 1) = addK (A.getD i 0) B i 16 (convI A B i) := rfl
    have hcle := convI_len A B i
    obtain ⟨x, hxd⟩ : ∃ x, A.getD i 0 = x := ⟨_, rfl⟩
    rw [hxd] at hx hxl hcn
    obtain ⟨C, hC⟩ : ∃ C, convI A B i = C := ⟨_, rfl⟩
    rw [hC] at hp hci hcn hcle
    have hp : HpM [] w0 w [blk ql (kw .i64 (addK x B i 0 C)) 3, blk q4 (List.replicate 16 (.int .i64 0)) 43, blk q3 (kw .i64 B) 43, blk q2 (kw .i64 A) 43] := hp
    refine ⟨fun m e w' => ∃ (k : Nat), m + k = 16 ∧ e = [(2, .v (.pointer (some ⟨q2, 0, none⟩))), (3, .v (.pointer (some ⟨q3, 0, none⟩))), (4, .v (.pointer (some ⟨q4, 0, none⟩))), (5, .v (.slice (some ⟨ql, 0, none⟩) 31 31)), (6, .v (.int .i64 i)), (7, .v (.int .i64 k))] ∧
        HpM [] w0 w' [blk ql (kw .i64 (addK x B i k C)) 3, blk q4 (List.replicate 16 (.int .i64 0)) 43, blk q3 (kw .i64 B) 43, blk q2 (kw .i64 A) 43],
      ⟨16, _, ⟨0, by omega, rfl, hp⟩, sub_cons rfl (sub_cons rfl (sub_cons rfl (sub_cons rfl (sub_cons rfl (sub_cons rfl sub_nil)))))⟩, ?_⟩
    clear hp
    repeat clear hp
    rintro m2 _ w ⟨k, hm2, rfl, hp⟩
    conv => whnf
    refine VSeq.mk fun Kq hKq => ?_
    conv => whnf
    refine VSeq.mk fun Kq hKq => ?_
    conv => whnf
    refine hKq _ _ _ (V.Sub.refl _) ?_
    clear hKq Kq
    conv => whnf
    refine ⟨fun hlt2 => ?_, fun hlt2 => ?_⟩
    · have hlt2 := of_decide_eq_true hlt2
      conv => whnf
      refine hKq _ _ _ (V.Sub.refl _) ?_
      clear hKq Kq
      conv => whnf
      refine VSeq.mk fun Kq hKq => ?_
      conv => whnf
      have hy := getD_of (l := B) (i := k) (by omega)
      have hyl := hBl _ (List.mem_of_getElem? hy)
      have hle := addK_le x B i C 4294836225 (fun k => Nat.mul_le_mul hxl (getD_le hBl k)) k (i + k)
      rw [if_neg (by omega)] at hle
      have hci2 := hci (i + k)
      have hns : addK x B i (k + 1) C = (addK x B i k C).set (i + k) ((addK x B i k C).getD (i + k) 0 + x * B.getD k 0) := rfl
      have hnl := addK_len x B i C k
      have hz := getD_of (l := addK x B i k C) (i := i + k) (by omega)
      obtain ⟨y, hyd⟩ : ∃ y, B.getD k 0 = y := ⟨_, rfl⟩
      rw [hyd] at hy hyl hns
      obtain ⟨D, hD⟩ : ∃ D, addK x B i k C = D := ⟨_, rfl⟩
      rw [hD] at hp hle hns hnl hz
      obtain ⟨z, hzd⟩ : ∃ z, D.getD (i + k) 0 = z := ⟨_, rfl⟩
      rw [hzd] at hle hns hz
      have hxy : x * y ≤ 4294836225 := Nat.mul_le_mul hxl hyl
      have hxyI : (x : Int) * (y : Int) = ((x * y : Nat) : Int) := (Int.natCast_mul x y).symm
      clear hzd hD hyd
      refine v_mix TTok FFok mixed 19 [(0, false), (1, false), (2, false), (3, false), (4, false), (5, false), (6, false), (7, false), (8, false), (9, false), (10, false), (11, false), (12, false), (13, false), (14, false), (15, false), (16, false), (17, false), (18, false)] (by kernel_rfl) ?_
      conv => whnf
      refine And.intro (by omega) ?_
      conv => whnf
      refine And.intro (by omega) ?_
      conv => whnf
      refine ⟨i + k, ⟨by first | rfl | omega, by omega⟩, ?_⟩
      conv => whnf
      refine ⟨_, fun w' hx' => Blk.ld (Blk.ext (hp.get (i := 0) rfl) hx') TTok rfl (kw_get hz), ?_⟩
      conv => whnf
      refine ⟨i, ⟨by first | rfl | omega, by omega⟩, ?_⟩
      conv => whnf
      refine ⟨_, fun w' hx' => Blk.ld (Blk.ext (hp.get (i := 3) rfl) hx') TTok rfl (kw_get hx), ?_⟩
      conv => whnf
      refine ⟨k, ⟨by first | rfl | omega, by omega⟩, ?_⟩
      conv => whnf
      refine ⟨_, fun w' hx' => Blk.ld (Blk.ext (hp.get (i := 2) rfl) hx') TTok rfl (kw_get hy), ?_⟩
      conv => whnf
      refine And.intro (by omega) ?_
      conv => whnf
      refine And.intro (by omega) ?_
      conv => whnf
      refine ⟨i + k, ⟨by first | rfl | omega, by omega⟩, ?_⟩
      conv => whnf
      intro w hx
      try (have hp := hp.call hx)
      conv => whnf
      refine hp.kst1 (off := i + k) TTok (by rfl) 0 (by rfl) (by rfl) (by rfl) (by rw [kw_len]; omega) fun w hp => ?_
      try simp only [List.set_cons_zero, List.set_cons_succ, EV.val] at hp
      conv => whnf
      refine hKq _ _ _ (V.Sub.refl _) ?_
      clear hKq Kq
      conv => whnf
      refine And.intro (by omega) ?_
      conv => whnf
      rw [show (z : Int) + (x : Int) * (y : Int) = ((z + x * y : Nat) : Int) by omega, kw_set, ← hns] at hp
      exact ⟨m2 - 1, _, by omega, ⟨k + 1, by omega, rfl, hp⟩, sub_cons rfl (sub_cons rfl (sub_cons rfl (sub_cons rfl (sub_cons rfl (sub_cons rfl sub_nil)))))⟩
    · have hlt2 := of_decide_eq_false hlt2
      conv => whnf
      clear hKq Kq
      refine hKq _ _ _ (V.Sub.refl _) ?_
      clear hKq Kq
      conv => whnf
      refine And.intro (by omega) ?_
      conv => whnf
      obtain rfl : k = 16 := by omega
      rw [← hcn] at hp
      exact ⟨m - 1, _, by omega, ⟨i + 1, by omega, rfl, hp⟩, sub_cons rfl (sub_cons rfl (sub_cons rfl (sub_cons rfl (sub_cons rfl sub_nil))))⟩
  · have hlt := of_decide_eq_false hlt
    conv => whnf
    clear hKq Kq
    refine hKq _ _ _ (V.Sub.refl _) ?_
    clear hKq Kq
    conv => whnf
    refine VSeq.mk fun Kq hKq => ?_
    conv => whnf
    obtain rfl : i = 16 := by omega
    have hL := convI_len A B 16
    have hM : ∀ y ∈ convI A B 16, y ≤ 68719476736 := mem_le fun j => by have := hcl 16 j; omega
    obtain ⟨L, hLd⟩ : ∃ L, convI A B 16 = L := ⟨_, rfl⟩
    rw [hLd] at hp hL hM
    have hf := folded_c (cap := 31) L (by omega) hM (hp.get (i := 0) rfl)
    rw [hL] at hf
    unfold nV at hf
    refine V.CallsUse (hf) fun w hx => ?_
    try (have hp := hp.call hx)
    conv => whnf
    refine hp.kstA TTok rfl 1 rfl (by rw [fold_end]) (kw_one _ _) (by rfl) fun w hp => ?_
    try simp only [List.set_cons_zero, List.set_cons_succ, EV.val] at hp
    conv => whnf
    refine hKq _ _ _ (V.Sub.refl _) ?_
    clear hKq Kq
    conv => whnf
    exact ⟨_, Blk.lvN (hp.get (i := 1) rfl) TTok rfl (by rw [fold_end]), by rw [hLd]; rfl, hp.ext⟩
def partS (S : List Nat) (i : Nat) : List Nat := S.take i ++ List.replicate (16 - i) 0
theorem partS_len (S : List Nat) (h : S.length = 16) (i : Nat) (hi : i ≤ 16) : (partS S i).length = 16 := by
  unfold partS; rw [List.length_append, List.length_take, List.length_replicate]; omega
theorem partS_all (S : List Nat) (h : S.length = 16) : partS S 16 = S := by
  unfold partS; rw [List.take_of_length_le (by omega)]; exact List.append_nil _
theorem partS_set (S : List Nat) (h : S.length = 16) (i : Nat) (hi : i < 16) : (partS S i).set i (S.getD i 0) = partS S (i + 1) := by
  unfold partS
  rw [List.set_append, if_neg (by rw [List.length_take]; omega), List.length_take, show i - min i S.length = 0 by omega, List.take_add_one, getD_of (by omega : i < S.length), show 16 - i = (16 - (i + 1)) + 1 by omega, List.replicate_succ, List.set_cons_zero]
  simp
theorem sumL_get (a b : List Nat) (i : Nat) (h : i < 16) : (sumL a b).getD i 0 = a.getD i 0 + b.getD i 0 := by
  unfold sumL
  rw [List.getD_eq_getElem?_getD, List.getElem?_map, List.getElem?_range h]; rfl
def diff0 (a b : List Nat) : List Nat := (List.range 16).map fun i => a.getD i 0 + 131070 - b.getD i 0
theorem diff0_get (a b : List Nat) (i : Nat) (h : i < 16) : (diff0 a b).getD i 0 = a.getD i 0 + 131070 - b.getD i 0 := by
  unfold diff0
  rw [List.getD_eq_getElem?_getD, List.getElem?_map, List.getElem?_range h]; rfl
theorem diff0_len (a b : List Nat) : (diff0 a b).length = 16 := by simp [diff0]
theorem diff0_set (a b : List Nat) : (diff0 a b).set 0 ((diff0 a b).getD 0 0 - 74) = diffL a b := by
  apply List.ext_getElem?
  intro i
  by_cases hi : i < 16
  · rw [List.getElem?_set]
    unfold diffL
    rw [List.getElem?_map, List.getElem?_range hi]
    split
    · rename_i h0
      subst h0
      rw [if_pos (by rw [diff0_len]; decide), diff0_get _ _ _ (by decide)]
      rfl
    · rename_i h0
      unfold diff0
      rw [List.getElem?_map, List.getElem?_range hi]
      show some _ = some _
      congr 1
      show _ = _ - (if i = 0 then 74 else 0)
      rw [if_neg (by omega)]; rfl
  · rw [List.getElem?_eq_none (by rw [List.length_set, diff0_len]; omega), List.getElem?_eq_none (by rw [diffL_len]; omega)]
set_option maxHeartbeats 4000000 in
theorem sum_p (a b : Nat) : PureF Try.prog 27 #[nV a, nV b] (nV (sumN a b)) := by
  unfold nV sumN
  have hA := digL_len a
  have hAl := digL_le a
  have hB := digL_len b
  have hBl := digL_le b
  obtain ⟨A, hAd⟩ : ∃ A, digL a = A := ⟨_, rfl⟩
  obtain ⟨B, hBd⟩ : ∃ B, digL b = B := ⟨_, rfl⟩
  rw [hAd] at hA hAl ⊢
  rw [hBd] at hB hBl ⊢
  clear hAd hBd
  have hSl := sumL_len A B
  have hSM : ∀ x ∈ sumL A B, x ≤ 68719476736 := fun x hx => by have := sumL_le A B hAl hBl x hx; omega
  have hg := sumL_get A B
  obtain ⟨S, hS⟩ : ∃ S, sumL A B = S := ⟨_, rfl⟩
  rw [hS] at hSl hSM hg
  first | refine v_pure TTok FFok Try.func27 rfl rfl fun w0 => ?_ | refine v_pure (args := []) TTok FFok Try.func27 rfl rfl fun w0 => ?_
  conv => whnf
  refine VSeq.mk fun Kq hKq => ?_
  conv => whnf
  have hp := Hp.nil w0
  refine hp.kbox (kw .i64 A) rfl fun q2 w hp hx => ?_
  conv => whnf
  refine hp.kbox (kw .i64 B) rfl fun q3 w hp hx => ?_
  conv => whnf
  refine hp.kalloc z43 fun q4 w hp hx => ?_
  conv => whnf
  refine hKq _ _ _ (V.Sub.refl _) ?_
  clear hKq Kq
  conv => whnf
  refine VSeq.mk fun Kq hKq => ?_
  conv => whnf
  refine hp.kmkS sl63 z3 16 (by decide) (by unfold maxLen; decide) fun ql w hp hx => ?_
  rw [kw_rep 16] at hp
  have hp : HpM [] w0 w [blk ql (kw .i64 (partS S 0)) 3, blk q4 (List.replicate 16 (.int .i64 0)) 43, blk q3 (kw .i64 B) 43, blk q2 (kw .i64 A) 43] := hp
  conv => whnf
  refine hKq _ _ _ (V.Sub.refl _) ?_
  clear hKq Kq
  conv => whnf
  refine VSeq.mk fun Kq hKq => ?_
  conv => whnf
  refine VSeq.mk fun Kq hKq => ?_
  conv => whnf
  refine hKq _ _ _ (V.Sub.refl _) ?_
  clear hKq Kq
  conv => whnf
  refine ⟨fun m e w' => ∃ (i : Nat), m + i = 16 ∧ e = [(2, .v (.pointer (some ⟨q2, 0, none⟩))), (3, .v (.pointer (some ⟨q3, 0, none⟩))), (4, .v (.pointer (some ⟨q4, 0, none⟩))), (5, .v (.slice (some ⟨ql, 0, none⟩) 16 16)), (6, .v (.int .i64 i))] ∧
      HpM [] w0 w' [blk ql (kw .i64 (partS S i)) 3, blk q4 (List.replicate 16 (.int .i64 0)) 43, blk q3 (kw .i64 B) 43, blk q2 (kw .i64 A) 43],
    ⟨16, _, ⟨0, by omega, rfl, hp⟩, sub_cons rfl (sub_cons rfl (sub_cons rfl (sub_cons rfl (sub_cons rfl sub_nil))))⟩, ?_⟩
  clear hp hx
  repeat clear hp
  rintro m _ w ⟨i, hm, rfl, hp⟩
  conv => whnf
  refine VSeq.mk fun Kq hKq => ?_
  conv => whnf
  refine VSeq.mk fun Kq hKq => ?_
  conv => whnf
  refine hKq _ _ _ (V.Sub.refl _) ?_
  clear hKq Kq
  conv => whnf
  refine ⟨fun hlt => ?_, fun hlt => ?_⟩
  · have hlt := of_decide_eq_true hlt
    conv => whnf
    refine hKq _ _ _ (V.Sub.refl _) ?_
    clear hKq Kq
    conv => whnf
    refine VSeq.mk fun Kq hKq => ?_
    conv => whnf
    have hx := getD_of (l := A) (i := i) (by omega)
    have hxl := hAl _ (List.mem_of_getElem? hx)
    have hy := getD_of (l := B) (i := i) (by omega)
    have hyl := hBl _ (List.mem_of_getElem? hy)
    have hs := hg i (by omega)
    have hps := partS_set S hSl i (by omega)
    rw [hs] at hps
    obtain ⟨x, hxd⟩ : ∃ x, A.getD i 0 = x := ⟨_, rfl⟩
    obtain ⟨y, hyd⟩ : ∃ y, B.getD i 0 = y := ⟨_, rfl⟩
    rw [hxd] at hx hxl hps
    rw [hyd] at hy hyl hps
    clear hs hxd hyd
    refine v_mix TTok FFok mixed 10 [(0, false), (1, false), (2, false), (3, false), (4, false), (5, false), (6, false), (7, false), (8, false), (9, false)] (by kernel_rfl) ?_
    conv => whnf
    refine ⟨i, ⟨by first | rfl | omega, by omega⟩, ?_⟩
    conv => whnf
    refine ⟨_, fun w' hx' => Blk.ld (Blk.ext (hp.get (i := 3) rfl) hx') TTok rfl (kw_get hx), ?_⟩
    conv => whnf
    refine ⟨i, ⟨by first | rfl | omega, by omega⟩, ?_⟩
    conv => whnf
    refine ⟨_, fun w' hx' => Blk.ld (Blk.ext (hp.get (i := 2) rfl) hx') TTok rfl (kw_get hy), ?_⟩
    conv => whnf
    refine And.intro (by omega) ?_
    conv => whnf
    refine ⟨i, ⟨by first | rfl | omega, by omega⟩, ?_⟩
    conv => whnf
    intro w hx
    try (have hp := hp.call hx)
    conv => whnf
    refine hp.kst1 (off := i) TTok (by rfl) 0 (by rfl) (by rfl) (by rfl) (by rw [kw_len, partS_len S hSl i (by omega)]; omega) fun w hp => ?_
    try simp only [List.set_cons_zero, List.set_cons_succ, EV.val] at hp
    conv => whnf
    refine hKq _ _ _ (V.Sub.refl _) ?_
    clear hKq Kq
    conv => whnf
    refine And.intro (by omega) ?_
    conv => whnf
    rw [show (x : Int) + (y : Int) = ((x + y : Nat) : Int) by omega, kw_set, hps] at hp
    exact ⟨m - 1, _, by omega, ⟨i + 1, by omega, rfl, hp⟩, sub_cons rfl (sub_cons rfl (sub_cons rfl (sub_cons rfl (sub_cons rfl sub_nil))))⟩
  · have hlt := of_decide_eq_false hlt
    conv => whnf
    clear hKq Kq
    refine hKq _ _ _ (V.Sub.refl _) ?_
    clear hKq Kq
    conv => whnf
    refine VSeq.mk fun Kq hKq => ?_
    conv => whnf
    obtain rfl : i = 16 := by omega
    rw [partS_all S hSl] at hp
    have hf := folded_c (cap := 16) S (by omega) hSM (hp.get (i := 0) rfl)
    rw [hSl] at hf
    unfold nV at hf
    refine V.CallsUse (hf) fun w hx => ?_
    try (have hp := hp.call hx)
    conv => whnf
    refine hp.kstA TTok rfl 1 rfl (by rw [fold_end]) (kw_one _ _) (by rfl) fun w hp => ?_
    try simp only [List.set_cons_zero, List.set_cons_succ, EV.val] at hp
    conv => whnf
    refine hKq _ _ _ (V.Sub.refl _) ?_
    clear hKq Kq
    conv => whnf
    exact ⟨_, Blk.lvN (hp.get (i := 1) rfl) TTok rfl (by rw [fold_end]), by rw [hS]; rfl, hp.ext⟩
set_option maxHeartbeats 4000000 in
theorem difference_p (a b : Nat) : PureF Try.prog 28 #[nV a, nV b] (nV (diffN a b)) := by
  unfold nV diffN
  have hA := digL_len a
  have hAl := digL_le a
  have hB := digL_len b
  have hBl := digL_le b
  obtain ⟨A, hAd⟩ : ∃ A, digL a = A := ⟨_, rfl⟩
  obtain ⟨B, hBd⟩ : ∃ B, digL b = B := ⟨_, rfl⟩
  rw [hAd] at hA hAl ⊢
  rw [hBd] at hB hBl ⊢
  clear hAd hBd
  have hSl := diffL_len A B
  have hSM : ∀ x ∈ diffL A B, x ≤ 68719476736 := fun x hx => by have := diffL_le A B hAl  x hx; omega
  have hg := diff0_get A B
  have hds := diff0_set A B
  have hSl0 := diff0_len A B
  obtain ⟨S, hS⟩ : ∃ S, diff0 A B = S := ⟨_, rfl⟩
  rw [hS] at hg hds hSl0
  have hTl := hSl
  have hSl := hSl0
  first | refine v_pure TTok FFok Try.func28 rfl rfl fun w0 => ?_ | refine v_pure (args := []) TTok FFok Try.func28 rfl rfl fun w0 => ?_
  conv => whnf
  refine VSeq.mk fun Kq hKq => ?_
  conv => whnf
  have hp := Hp.nil w0
  refine hp.kbox (kw .i64 A) rfl fun q2 w hp hx => ?_
  conv => whnf
  refine hp.kbox (kw .i64 B) rfl fun q3 w hp hx => ?_
  conv => whnf
  refine hp.kalloc z43 fun q4 w hp hx => ?_
  conv => whnf
  refine hKq _ _ _ (V.Sub.refl _) ?_
  clear hKq Kq
  conv => whnf
  refine VSeq.mk fun Kq hKq => ?_
  conv => whnf
  refine hp.kmkS sl63 z3 16 (by decide) (by unfold maxLen; decide) fun ql w hp hx => ?_
  rw [kw_rep 16] at hp
  have hp : HpM [] w0 w [blk ql (kw .i64 (partS S 0)) 3, blk q4 (List.replicate 16 (.int .i64 0)) 43, blk q3 (kw .i64 B) 43, blk q2 (kw .i64 A) 43] := hp
  conv => whnf
  refine hKq _ _ _ (V.Sub.refl _) ?_
  clear hKq Kq
  conv => whnf
  refine VSeq.mk fun Kq hKq => ?_
  conv => whnf
  refine VSeq.mk fun Kq hKq => ?_
  conv => whnf
  refine hKq _ _ _ (V.Sub.refl _) ?_
  clear hKq Kq
  conv => whnf
  refine ⟨fun m e w' => ∃ (i : Nat), m + i = 16 ∧ e = [(2, .v (.pointer (some ⟨q2, 0, none⟩))), (3, .v (.pointer (some ⟨q3, 0, none⟩))), (4, .v (.pointer (some ⟨q4, 0, none⟩))), (5, .v (.slice (some ⟨ql, 0, none⟩) 16 16)), (6, .v (.int .i64 i))] ∧
      HpM [] w0 w' [blk ql (kw .i64 (partS S i)) 3, blk q4 (List.replicate 16 (.int .i64 0)) 43, blk q3 (kw .i64 B) 43, blk q2 (kw .i64 A) 43],
    ⟨16, _, ⟨0, by omega, rfl, hp⟩, sub_cons rfl (sub_cons rfl (sub_cons rfl (sub_cons rfl (sub_cons rfl sub_nil))))⟩, ?_⟩
  clear hp hx
  repeat clear hp
  rintro m _ w ⟨i, hm, rfl, hp⟩
  conv => whnf
  refine VSeq.mk fun Kq hKq => ?_
  conv => whnf
  refine VSeq.mk fun Kq hKq => ?_
  conv => whnf
  refine hKq _ _ _ (V.Sub.refl _) ?_
  clear hKq Kq
  conv => whnf
  refine ⟨fun hlt => ?_, fun hlt => ?_⟩
  · have hlt := of_decide_eq_true hlt
    conv => whnf
    refine hKq _ _ _ (V.Sub.refl _) ?_
    clear hKq Kq
    conv => whnf
    refine VSeq.mk fun Kq hKq => ?_
    conv => whnf
    have hx := getD_of (l := A) (i := i) (by omega)
    have hxl := hAl _ (List.mem_of_getElem? hx)
    have hy := getD_of (l := B) (i := i) (by omega)
    have hyl := hBl _ (List.mem_of_getElem? hy)
    have hs := hg i (by omega)
    have hps := partS_set S hSl i (by omega)
    rw [hs] at hps
    obtain ⟨x, hxd⟩ : ∃ x, A.getD i 0 = x := ⟨_, rfl⟩
    obtain ⟨y, hyd⟩ : ∃ y, B.getD i 0 = y := ⟨_, rfl⟩
    rw [hxd] at hx hxl hps
    rw [hyd] at hy hyl hps
    clear hs hxd hyd
    refine v_mix TTok FFok mixed 11 [(0, false), (1, false), (2, false), (3, false), (4, false), (5, false), (6, false), (7, false), (8, false), (9, false), (10, false)] (by kernel_rfl) ?_
    conv => whnf
    refine ⟨i, ⟨by first | rfl | omega, by omega⟩, ?_⟩
    conv => whnf
    refine ⟨_, fun w' hx' => Blk.ld (Blk.ext (hp.get (i := 3) rfl) hx') TTok rfl (kw_get hx), ?_⟩
    conv => whnf
    refine ⟨i, ⟨by first | rfl | omega, by omega⟩, ?_⟩
    conv => whnf
    refine ⟨_, fun w' hx' => Blk.ld (Blk.ext (hp.get (i := 2) rfl) hx') TTok rfl (kw_get hy), ?_⟩
    conv => whnf
    refine And.intro (by omega) ?_
    conv => whnf
    refine And.intro (by omega) ?_
    conv => whnf
    refine ⟨i, ⟨by first | rfl | omega, by omega⟩, ?_⟩
    conv => whnf
    intro w hx
    try (have hp := hp.call hx)
    conv => whnf
    refine hp.kst1 (off := i) TTok (by rfl) 0 (by rfl) (by rfl) (by rfl) (by rw [kw_len, partS_len S hSl i (by omega)]; omega) fun w hp => ?_
    try simp only [List.set_cons_zero, List.set_cons_succ, EV.val] at hp
    conv => whnf
    refine hKq _ _ _ (V.Sub.refl _) ?_
    clear hKq Kq
    conv => whnf
    refine And.intro (by omega) ?_
    conv => whnf
    rw [show (x : Int) - (y : Int) + 131070 = ((x + 131070 - y : Nat) : Int) by omega, kw_set, hps] at hp
    exact ⟨m - 1, _, by omega, ⟨i + 1, by omega, rfl, hp⟩, sub_cons rfl (sub_cons rfl (sub_cons rfl (sub_cons rfl (sub_cons rfl sub_nil))))⟩
  · have hlt := of_decide_eq_false hlt
    conv => whnf
    clear hKq Kq
    refine hKq _ _ _ (V.Sub.refl _) ?_
    clear hKq Kq
    conv => whnf
    refine VSeq.mk fun Kq hKq => ?_
    conv => whnf
    obtain rfl : i = 16 := by omega
    rw [partS_all S hSl] at hp
    have h0 := getD_of (l := S) (i := 0) (by omega)
    have hg0 := hg 0 (by decide)
    have hb0 := getD_le hBl 0
    have ha0 := getD_le hAl 0
    obtain ⟨z, hz⟩ : ∃ z, S.getD 0 0 = z := ⟨_, rfl⟩
    rw [hz] at h0 hg0 hds
    refine ⟨0, ⟨by first | rfl | omega, by omega⟩, ?_⟩
    conv => whnf
    refine ⟨_, _, Blk.ld (hp.get (i := 0) rfl) TTok rfl (kw_get h0), ?_⟩
    conv => whnf
    refine And.intro (by omega) ?_
    conv => whnf
    refine ⟨0, ⟨by first | rfl | omega, by omega⟩, ?_⟩
    conv => whnf
    refine hp.kst1 (off := 0) TTok (by rfl) 0 (by rfl) (by rfl) (by rfl) (by rw [kw_len, hSl]; decide) fun w hp => ?_
    try simp only [List.set_cons_zero, List.set_cons_succ, EV.val] at hp
    conv => whnf
    refine hKq _ _ _ (V.Sub.refl _) ?_
    clear hKq Kq
    conv => whnf
    refine VSeq.mk fun Kq hKq => ?_
    conv => whnf
    rw [show (z : Int) - 74 = ((z - 74 : Nat) : Int) by omega, kw_set, hds] at hp
    have hf := folded_c (cap := 16) (diffL A B) (by omega) hSM (hp.get (i := 0) rfl)
    rw [hTl] at hf
    unfold nV at hf
    refine V.CallsUse (hf) fun w hx => ?_
    try (have hp := hp.call hx)
    conv => whnf
    refine hp.kstA TTok rfl 1 rfl (by rw [fold_end]) (kw_one _ _) (by rfl) fun w hp => ?_
    try simp only [List.set_cons_zero, List.set_cons_succ, EV.val] at hp
    conv => whnf
    refine hKq _ _ _ (V.Sub.refl _) ?_
    clear hKq Kq
    conv => whnf
    exact ⟨_, Blk.lvN (hp.get (i := 1) rfl) TTok rfl (by rw [fold_end]), rfl, hp.ext⟩
end Go.Proofs.Ytejphmgpndgliaa
