/- Chapter 05: the program's octets of a number. -/
import Derived.Test.YtejphmgpndgliaaC05F
namespace Go.Proofs.Ytejphmgpndgliaa
set_option linter.unusedSimpArgs false
set_option linter.unusedVariables false
open Go.RowKit V
theorem carF_Bd2 {a : List Nat} (ha : Bd a) : Bd (carF a) := carF_Bd a ha.1 (fun x hx => by have := ha.2 x hx; unfold BB at this; omega)
theorem oct_norm (a : List Nat) (ha : Bd a) : carF (carF a) = digB b51 5 (valB b51 (carF (carF a))) ∧ valB b51 (carF (carF a)) < D5 ∧ valB b51 (carF (carF a)) % PP = valB b51 a % PP := by
  have h1 := carF_cells a 2 (fun x hx => by have := ha.2 x hx; unfold BB at this; omega)
  have hl1 : (carF a).length = 5 := by rw [carF_len, ha.1]
  have hv1 : valB b51 (carF a) < D5 + 38 := by
    have hc := chain51_lt a 0
    have hval := carF_val a ha.1
    have hcar := chain_carry b51 0 (by decide) a 2 (fun x hx => by have := ha.2 x hx; unfold BB at this; show x ≤ 2 * 2251799813685247; omega) (Nat.zero_le _)
    obtain ⟨_, h2⟩ := chain_dig b51 (by decide) a 0
    rw [h2, ha.1, Nat.zero_add, b51_5] at hcar
    rw [hval]
    unfold redp
    have := Nat.mod_lt (valB b51 a) (show 0 < D5 by decide)
    omega
  have hv2 := carF_val (carF a) hl1
  obtain ⟨g1, g2⟩ := chain_dig b51 (by decide) (carF a) 0
  rw [hl1, Nat.zero_add, b51_5] at g2
  rw [hl1, Nat.zero_add] at g1
  have hlt := chain51_lt (carF a) 0
  have hcell : ∀ x ∈ carF (carF a), x < b51 := fun x hx => by
    rcases List.mem_or_eq_of_mem_set hx with h | h
    · exact hlt x h
    · have h : x = (chain b51 0 (carF a)).1.getD 0 0 + 19 * (chain b51 0 (carF a)).2 := h
      rw [g2] at h
      have hd : (chain b51 0 (carF a)).1.getD 0 0 = valB b51 (carF a) % b51 := by
        rw [g1, List.getD_eq_getElem?_getD, digB_get b51 5 _ 0 (by decide), Nat.pow_zero, Nat.div_one]; rfl
      rw [hd] at h
      generalize valB b51 (carF a) = V at *
      rw [h]
      unfold b51 D5 at *
      by_cases hV : V < 57896044618658097711785492504343953926634992332820282019728792003956564819968
      · rw [Nat.div_eq_of_lt hV]; omega
      · have e1 : V / 57896044618658097711785492504343953926634992332820282019728792003956564819968 = 1 := by omega
        have e2 : V % 2251799813685248 < 38 := by omega
        rw [e1]; omega
  have hl2 : (carF (carF a)).length = 5 := by rw [carF_len, hl1]
  have hd := digB_of b51 (by decide) _ hcell
  have hb := valB_lt b51 (by decide) _ hcell
  rw [hl2] at hd hb
  exact ⟨hd, by rw [← b51_5]; exact hb, by rw [carF_mod _ hl1, carF_mod _ ha.1]⟩
/-- nineteen more, and what is chosen -/
def moreL (l : List Nat) : List Nat := l.set 0 (l.getD 0 0 + 19)
theorem more_dig (V : Nat) (hV : V < D5) : (chain b51 0 (moreL (digB b51 5 V))).2 = (V + 19) / D5 ∧ (if 0 < (chain b51 0 (moreL (digB b51 5 V))).2 then (chain b51 0 (moreL (digB b51 5 V))).1 else digB b51 5 V) = digB b51 5 (V % PP) := by
  have hl : (moreL (digB b51 5 V)).length = 5 := by unfold moreL; rw [List.length_set, digB_len]
  have hv : valB b51 (moreL (digB b51 5 V)) = V + 19 := by
    unfold moreL
    rw [valB_set b51 _ 0 19 (by rw [digB_len]; decide), digB_val, b51_5, Nat.mod_eq_of_lt hV, Nat.pow_zero]
  obtain ⟨g1, g2⟩ := chain_dig b51 (by decide) (moreL (digB b51 5 V)) 0
  rw [hl, hv, Nat.zero_add] at g1 g2
  rw [b51_5] at g2
  refine ⟨g2, ?_⟩
  rw [g1, g2]
  by_cases h : V < PP
  · rw [if_neg (by rw [Nat.div_eq_of_lt (by unfold PP at h; unfold D5; omega)]; omega), Nat.mod_eq_of_lt h]
  · have e1 : (V + 19) / D5 = 1 := by unfold PP at h; unfold D5 at *; omega
    rw [e1, if_pos (by decide), ← digB_mod b51 5 (V + 19), b51_5]
    congr 1
    unfold PP at h
    unfold PP D5 at *
    omega
theorem shl8 (b : Bool) (m : Nat) (h : m < 8) : ((((if b = true then 1 else 0 : Nat) : Int) % 256 * 2 ^ m) % 256) = ((if b = true then 2 ^ m else 0 : Nat) : Int) := by
  rcases (by omega : m = 0 ∨ m = 1 ∨ m = 2 ∨ m = 3 ∨ m = 4 ∨ m = 5 ∨ m = 6 ∨ m = 7) with rfl | rfl | rfl | rfl | rfl | rfl | rfl | rfl <;> cases b <;> rfl
theorem shl8_lt (b : Bool) (m : Nat) (h : m < 8) : (if b = true then 2 ^ m else 0) < 256 := by
  split
  · exact Nat.lt_of_lt_of_le (Nat.pow_lt_pow_right (by decide) h) (by decide)
  · decide
theorem kw8_le (n : Nat) : kw .u8 (digB 256 32 n) = bytesV (le32 n) := by
  unfold kw bytesV le32
  rw [List.map_map]
  apply List.map_congr_left
  intro x hx
  have := digB_lt 256 (by decide) 32 n x hx
  simp [Nat.mod_eq_of_lt this]
set_option maxHeartbeats 8000000 in
theorem octets_p (a : List Nat) (ha : Bd a) : PureF Try.prog 48 #[fV a] (.string ⟨(le32 (valB b51 a % PP)).toArray⟩) := by
  obtain ⟨n1, n2, n3⟩ := oct_norm a ha
  have hB1 := carF_Bd2 ha
  have hc1 := carry_p a ha.1 (fun x hx => by have := ha.2 x hx; unfold BB at this; omega)
  have hc2 := carry_p (carF a) hB1.1 (fun x hx => by have := hB1.2 x hx; unfold BB at this; omega)
  have hl2 : (carF (carF a)).length = 5 := by rw [carF_len, hB1.1]
  rw [← n3]
  generalize valB b51 (carF (carF a)) = X at *
  rw [n1] at hc2
  clear n1 n3
  obtain ⟨m1, m2⟩ := more_dig X n2
  unfold fV at hc1 hc2 ⊢
  have hal := ha.1
  have hdl := digB_len b51 5 X
  have hdlt := dig51_lt X
  first | refine v_pure TTok FFok Try.func48 rfl rfl fun w0 => ?_ | refine v_pure (args := []) TTok FFok Try.func48 rfl rfl fun w0 => ?_
  conv => whnf
  refine VSeq.mk fun Kq hKq => ?_
  conv => whnf
  have hp := Hp.nil w0
  refine hp.kbox (kw .u64 a) rfl fun qa w hp hx => ?_
  conv => whnf
  refine hKq _ _ _ (V.Sub.refl _) ?_
  clear hKq Kq
  conv => whnf
  refine VSeq.mk fun Kq hKq => ?_
  conv => whnf
  refine ⟨_, _, Blk.ldN (hp.get (i := 0) rfl) TTok rfl (by rw [kw_len, hal]), ?_⟩
  conv => whnf
  refine PureF.use (hc1) fun w hx => ?_
  try (have hp := hp.call hx)
  conv => whnf
  refine PureF.use (hc2) fun w hx => ?_
  try (have hp := hp.call hx)
  conv => whnf
  refine hp.kstA TTok rfl 0 rfl (by rw [kw_len, hdl]) (kwu_one _) (by rw [kw_len, hal]) fun w hp => ?_
  try simp only [List.set_cons_zero, List.set_cons_succ, EV.val] at hp
  conv => whnf
  refine hKq _ _ _ (V.Sub.refl _) ?_
  clear hKq Kq
  conv => whnf
  refine VSeq.mk fun Kq hKq => ?_
  conv => whnf
  refine ⟨_, _, Blk.ldN (hp.get (i := 0) rfl) TTok rfl (by rw [kw_len, hdl]), ?_⟩
  conv => whnf
  refine hp.kalloc z68 fun qm w hp hx => ?_
  conv => whnf
  refine hp.kstA TTok rfl 0 rfl (by rw [kw_len, hdl]) (kwu_one _) (by rfl) fun w hp => ?_
  try simp only [List.set_cons_zero, List.set_cons_succ, EV.val] at hp
  conv => whnf
  refine hKq _ _ _ (V.Sub.refl _) ?_
  clear hKq Kq
  conv => whnf
  refine VSeq.mk fun Kq hKq => ?_
  conv => whnf
  have hg0 := getD_of (l := digB b51 5 X) (i := 0) (by rw [hdl]; decide)
  have hd0 := getD_le (l := digB b51 5 X) (M := 2251799813685247) (fun y hy => by have := hdlt y hy; omega) 0
  refine ⟨0, ⟨by first | rfl | omega, by omega⟩, ?_⟩
  conv => whnf
  refine ⟨_, _, Blk.ld (hp.get (i := 0) rfl) TTok rfl (kw_get hg0), ?_⟩
  conv => whnf
  rw [show ((((digB b51 5 X).getD 0 0 : Nat) : Int) + 19) % 18446744073709551616 = (((digB b51 5 X).getD 0 0 + 19 : Nat) : Int) by omega]
  refine ⟨0, ⟨by first | rfl | omega, by omega⟩, ?_⟩
  conv => whnf
  refine hp.kst1 (off := 0) TTok (by rfl) 0 (by rfl) (by rfl) (by rfl) (by rw [kw_len, hdl]; decide) fun w hp => ?_
  try simp only [List.set_cons_zero, List.set_cons_succ, EV.val] at hp
  conv => whnf
  refine hKq _ _ _ (V.Sub.refl _) ?_
  clear hKq Kq
  conv => whnf
  refine VSeq.mk fun Kq hKq => ?_
  conv => whnf
  refine hKq _ _ _ (V.Sub.refl _) ?_
  clear hKq Kq
  conv => whnf
  refine VSeq.mk fun Kq hKq => ?_
  conv => whnf
  refine VSeq.mk fun Kq hKq => ?_
  conv => whnf
  refine hKq _ _ _ (V.Sub.refl _) ?_
  clear hKq Kq
  conv => whnf
  rw [kw_set, show (digB b51 5 X).set 0 ((digB b51 5 X).getD 0 0 + 19) = moreL (digB b51 5 X) from rfl] at hp
  have hml : (moreL (digB b51 5 X)).length = 5 := by unfold moreL; rw [List.length_set, hdl]
  have hmB : ∀ x ∈ moreL (digB b51 5 X), x ≤ 40 * 2251799813685247 := fun x hx => by
    rcases List.mem_or_eq_of_mem_set hx with h | h
    · have := hdlt x h; omega
    · omega
  obtain ⟨L, hL⟩ : ∃ L, moreL (digB b51 5 X) = L := ⟨_, rfl⟩
  rw [hL] at hml hmB hp m1 m2
  clear hL
  have hp : HpM [] w0 w [blk qm (kw .u64 (chJ b51 0 L 0).1) 68, blk qa (kw .u64 (digB b51 5 X)) 68] := hp
  refine ⟨fun m e w => ∃ (i : Nat), m + i = 5 ∧ e = [(1, .v (.pointer (some ⟨qa, 0, none⟩))), (3, .v (.pointer (some ⟨qm, 0, none⟩))), (4, .v (.int .u64 ((chJ b51 0 L i).2 : Nat))), (16, .v (.int .i64 i))] ∧
      HpM [] w0 w [blk qm (kw .u64 (chJ b51 0 L i).1) 68, blk qa (kw .u64 (digB b51 5 X)) 68],
    ⟨5, _, ⟨0, by omega, rfl, hp⟩, sub_cons rfl (sub_cons rfl (sub_cons rfl (sub_cons rfl sub_nil)))⟩, ?_⟩
  clear hp hx
  repeat clear hp
  rintro m _ w ⟨i, hm, rfl, hp⟩
  have hcl := chJ_len b51 0 L i
  have hcc := chJ_carry b51 0 (by decide) L i 40 hmB (Nat.zero_le _)
  conv => whnf
  refine VSeq.mk fun Kq hKq => ?_
  conv => whnf
  refine hKq _ _ _ (V.Sub.refl _) ?_
  clear hKq Kq
  conv => whnf
  refine VSeq.mk fun Kq hKq => ?_
  conv => whnf
  refine ⟨fun hlt => ?_, fun hlt => ?_⟩
  · have hlt := of_decide_eq_true hlt
    conv => whnf
    refine hKq _ _ _ (V.Sub.refl _) ?_
    clear hKq Kq
    conv => whnf
    refine VSeq.mk fun Kq hKq => ?_
    conv => whnf
    refine VSeq.mk fun Kq hKq => ?_
    conv => whnf
    refine hKq _ _ _ (V.Sub.refl _) ?_
    clear hKq Kq
    conv => whnf
    refine VSeq.mk fun Kq hKq => ?_
    conv => whnf
    have hi : i < L.length := by omega
    have hg := chJ_get b51 0 L i hi
    have hs := chJ_succ b51 0 L i hi
    have hli : L[i] ≤ 40 * 2251799813685247 := hmB _ (List.getElem_mem hi)
    rw [getElem_getD hi] at hg hs hli
    obtain ⟨C, hC⟩ : ∃ C, (chJ b51 0 L i).1 = C := ⟨_, rfl⟩
    obtain ⟨cc, hcd⟩ : ∃ cc, (chJ b51 0 L i).2 = cc := ⟨_, rfl⟩
    obtain ⟨x, hxd⟩ : ∃ x, L.getD i 0 = x := ⟨_, rfl⟩
    rw [hC, hcd, hxd] at hs
    rw [hC] at hg hcl hp
    rw [hcd] at hcc ⊢
    rw [hxd] at hg hli
    clear hC hcd hxd
    refine ⟨i, ⟨by first | rfl | omega, by omega⟩, ?_⟩
    conv => whnf
    refine ⟨_, _, Blk.ld (hp.get (i := 0) rfl) TTok rfl (kw_get hg), ?_⟩
    conv => whnf
    rw [show (((x : Int) + (cc : Int)) % 18446744073709551616) = ((x + cc : Nat) : Int) by omega]
    refine ⟨i, ⟨by first | rfl | omega, by omega⟩, ?_⟩
    conv => whnf
    refine hp.kst1 (off := i) TTok (by rfl) 0 (by rfl) (by rfl) (by rfl) (by rw [kw_len]; omega) fun w hp => ?_
    try simp only [List.set_cons_zero, List.set_cons_succ, EV.val] at hp
    conv => whnf
    refine hKq _ _ _ (V.Sub.refl _) ?_
    clear hKq Kq
    conv => whnf
    refine VSeq.mk fun Kq hKq => ?_
    conv => whnf
    rw [kw_set] at hp
    refine ⟨i, ⟨by first | rfl | omega, by omega⟩, ?_⟩
    conv => whnf
    refine ⟨_, _, Blk.ld (hp.get (i := 0) rfl) TTok rfl (kw_get (List.getElem?_set_self (by omega))), ?_⟩
    conv => whnf
    refine ⟨51, ⟨by first | rfl | omega, by omega⟩, ?_⟩
    conv => whnf
    refine hKq _ _ _ (V.Sub.refl _) ?_
    clear hKq Kq
    conv => whnf
    rw [shr_castN]
    refine ⟨i, ⟨by first | rfl | omega, by omega⟩, ?_⟩
    conv => whnf
    refine ⟨_, _, Blk.ld (hp.get (i := 0) rfl) TTok rfl (kw_get (List.getElem?_set_self (by omega))), ?_⟩
    conv => whnf
    refine ⟨x + cc, 2251799813685247, (x + cc) % b51, ⟨by first | rfl | omega, by first | rfl | omega, by omega, by omega⟩, by (dsimp only; exact and51 _), ?_⟩
    conv => whnf
    refine ⟨i, ⟨by first | rfl | omega, by omega⟩, ?_⟩
    conv => whnf
    refine hp.kst1 (off := i) TTok (by rfl) 0 (by rfl) (by rfl) (by rfl) (by rw [kw_len, List.length_set]; omega) fun w hp => ?_
    try simp only [List.set_cons_zero, List.set_cons_succ, EV.val] at hp
    conv => whnf
    refine hKq _ _ _ (V.Sub.refl _) ?_
    clear hKq Kq
    conv => whnf
    refine And.intro (by omega) ?_
    conv => whnf
    rw [kw_set, List.set_set] at hp
    have e1 : C.set i ((x + cc) % b51) = (chJ b51 0 L (i + 1)).1 := by rw [hs]
    have e2 : (x + cc) / 2 ^ 51 = (chJ b51 0 L (i + 1)).2 := by rw [hs]
    rw [e1] at hp
    rw [e2]
    exact ⟨m - 1, _, by omega, ⟨i + 1, by omega, rfl, hp⟩, sub_cons rfl (sub_cons rfl (sub_cons rfl (sub_cons rfl sub_nil)))⟩
  · have hlt := of_decide_eq_false hlt
    conv => whnf
    have h5 : i = L.length := by omega
    rw [h5, chJ_all] at hp hcl hcc ⊢
    clear h5 hlt
    clear hKq Kq
    refine hKq _ _ _ (V.Sub.refl _) ?_; clear hKq Kq; conv => whnf
    refine VSeq.mk fun K1 hK1 => ?_
    have key : ∀ (l : Env) (w : World), V.Sub [(1, .v (.pointer (some ⟨qa, 0, none⟩)))] l → HpM [] w0 w [blk qa (kw .u64 (digB b51 5 (X % PP))) 68] → K1 l w := by
      clear hp
      repeat clear hp
      intro l w hsub hp
      refine hK1 _ _ _ hsub ?_
      clear hK1 hsub
      conv => whnf
      refine VSeq.mk fun Kq hKq => ?_
      conv => whnf
      refine hp.kmkS sl29 z5 32 (by decide) (by unfold maxLen; decide) fun qo w hp hx => ?_
      have hY : X % PP < PP := Nat.mod_lt _ (by decide)
      obtain ⟨Y, hYd⟩ : ∃ Y, X % PP = Y := ⟨_, rfl⟩
      rw [hYd] at hp hY
      have hYlen := digB_len b51 5 Y
      have e0 : List.replicate 32 (Value.int .u8 0) = kw .u8 (digB 256 32 (Y % 2 ^ 0)) := by rw [Nat.pow_zero, Nat.mod_one]; rfl
      have hp : HpM [] w0 w [blk qo (kw .u8 (digB 256 32 (Y % 2 ^ 0))) 5, blk qa (kw .u64 (digB b51 5 Y)) 68] := by rw [← e0]; exact hp
      clear e0 hx
      conv => whnf
      refine hKq _ _ _ (V.Sub.refl _) ?_
      clear hKq Kq
      conv => whnf
      refine VSeq.mk fun Kq hKq => ?_
      conv => whnf
      refine VSeq.mk fun Kq hKq => ?_
      conv => whnf
      refine hKq _ _ _ (V.Sub.refl _) ?_
      clear hKq Kq
      conv => whnf
      refine ⟨fun m e w => ∃ (i : Nat), m + i = 255 ∧ e = [(1, .v (.pointer (some ⟨qa, 0, none⟩))), (6, .v (.slice (some ⟨qo, 0, none⟩) 32 32)), (39, .v (.int .i64 i))] ∧
          HpM [] w0 w [blk qo (kw .u8 (digB 256 32 (Y % 2 ^ i))) 5, blk qa (kw .u64 (digB b51 5 Y)) 68],
        ⟨255, _, ⟨0, by omega, rfl, hp⟩, sub_cons rfl (sub_cons rfl (sub_cons rfl sub_nil))⟩, ?_⟩
      clear hp
      repeat clear hp
      rintro m _ w ⟨i, hm, rfl, hp⟩
      conv => whnf
      refine VSeq.mk fun Kq hKq => ?_
      conv => whnf
      refine hKq _ _ _ (V.Sub.refl _) ?_
      clear hKq Kq
      conv => whnf
      refine VSeq.mk fun Kq hKq => ?_
      conv => whnf
      refine ⟨fun hlt => ?_, fun hlt => ?_⟩
      · have hlt := of_decide_eq_true hlt
        conv => whnf
        refine hKq _ _ _ (V.Sub.refl _) ?_
        clear hKq Kq
        conv => whnf
        refine VSeq.mk fun Kq hKq => ?_
        conv => whnf
        refine VSeq.mk fun Kq hKq => ?_
        conv => whnf
        refine hKq _ _ _ (V.Sub.refl _) ?_
        clear hKq Kq
        conv => whnf
        have hi : i < 255 := by omega
        have hor := dig_or 8 (by decide) 32 Y i (by omega)
        rw [show (2 : Nat) ^ 8 = 256 from rfl] at hor
        have hg := getD_of (l := digB 256 32 (Y % 2 ^ i)) (i := i / 8) (by rw [digB_len]; omega)
        have hgl := getD_le (l := digB 256 32 (Y % 2 ^ i)) (M := 255) (fun y hy => by have := digB_lt 256 (by decide) 32 _ y hy; omega) (i / 8)
        have ha5 := getD_of (l := digB b51 5 Y) (i := i / 51) (by rw [digB_len]; omega)
        have hal5 := getD_le (l := digB b51 5 Y) (M := 2251799813685247) (fun y hy => by have := dig51_lt Y y hy; omega) (i / 51)
        have hdb := dig_bit 51 (by decide) 5 Y (i / 51) (i % 51) (by omega)
        rw [← b51_pow, decide_eq_true (Nat.mod_lt _ (by decide)), Bool.true_and, show 51 * (i / 51) + i % 51 = i by omega] at hdb
        have hdv := div_bit ((digB b51 5 Y).getD (i / 51) 0) (i % 51)
        rw [hdb] at hdv
        obtain ⟨g, hgd⟩ : ∃ g, (digB 256 32 (Y % 2 ^ i)).getD (i / 8) 0 = g := ⟨_, rfl⟩
        obtain ⟨x, hxd⟩ : ∃ x, (digB b51 5 Y).getD (i / 51) 0 = x := ⟨_, rfl⟩
        rw [hgd] at hor hg hgl
        rw [hxd] at ha5 hal5 hdv
        clear hgd hxd hdb
        have hm8 : i % 8 < 8 := Nat.mod_lt _ (by decide)
        have hd1 : x / 2 ^ (i % 51) < 18446744073709551616 := Nat.lt_of_le_of_lt (Nat.div_le_self _ _) (by omega)
        refine v_mix TTok FFok mixed 19 [(0, false), (1, false), (2, false), (3, false), (4, false), (5, false), (6, false), (7, false), (8, false), (9, false), (10, false), (11, false), (12, false), (13, false), (14, false), (15, false), (16, false), (17, false), (18, false)] (by kernel_rfl) ?_
        conv => whnf
        refine And.intro (by omega) ?_
        conv => whnf
        refine ⟨i / 8, ⟨by first | rfl | omega, by omega⟩, ?_⟩
        conv => whnf
        refine ⟨_, fun w' hx' => Blk.ld (Blk.ext (hp.get (i := 0) rfl) hx') TTok rfl (kw_get hg), ?_⟩
        conv => whnf
        refine And.intro (by omega) ?_
        conv => whnf
        refine ⟨i / 51, ⟨by first | rfl | omega, by omega⟩, ?_⟩
        conv => whnf
        refine ⟨_, fun w' hx' => Blk.ld (Blk.ext (hp.get (i := 1) rfl) hx') TTok rfl (kw_get ha5), ?_⟩
        conv => whnf
        refine And.intro (by omega) ?_
        conv => whnf
        refine ⟨i % 51, ⟨by first | rfl | omega, by omega⟩, ?_⟩
        conv => whnf
        rw [shr_castN]
        refine ⟨x / 2 ^ (i % 51), 1, x / 2 ^ (i % 51) % 2, ⟨by first | rfl | omega, by first | rfl | omega, by omega, by omega⟩, by (dsimp only; exact Nat.and_one_is_mod _), ?_⟩
        conv => whnf
        refine And.intro (by omega) ?_
        conv => whnf
        rw [hdv]
        have hs8 := shl8 (Y.testBit i) (i % 8) hm8
        have hs9 := shl8_lt (Y.testBit i) (i % 8) hm8
        refine ⟨i % 8, ⟨by first | rfl | omega, by omega⟩, ?_⟩
        conv => whnf
        rw [hs8]
        refine ⟨g, (if Y.testBit i = true then 2 ^ (i % 8) else 0), g ||| (if Y.testBit i = true then 2 ^ (i % 8) else 0), ⟨by first | rfl | omega, by first | rfl | omega, by omega, by omega⟩, rfl, ?_⟩
        conv => whnf
        refine ⟨i / 8, ⟨by first | rfl | omega, by omega⟩, ?_⟩
        conv => whnf
        intro w hx
        try (have hp := hp.call hx)
        conv => whnf
        refine hp.kst1 (off := (i / 8)) TTok (by rfl) 0 (by rfl) (by rfl) (by rfl) (by rw [kw_len, digB_len]; omega) fun w hp => ?_
        try simp only [List.set_cons_zero, List.set_cons_succ, EV.val] at hp
        conv => whnf
        refine hKq _ _ _ (V.Sub.refl _) ?_
        clear hKq Kq
        conv => whnf
        refine And.intro (by omega) ?_
        conv => whnf
        rw [kw_set, hor] at hp
        exact ⟨m - 1, _, by omega, ⟨i + 1, by omega, rfl, hp⟩, sub_cons rfl (sub_cons rfl (sub_cons rfl sub_nil))⟩
      · have hlt := of_decide_eq_false hlt
        conv => whnf
        clear hKq Kq
        refine hKq _ _ _ (V.Sub.refl _) ?_
        clear hKq Kq
        conv => whnf
        refine VSeq.mk fun Kq hKq => ?_
        conv => whnf
        obtain rfl : i = 255 := by omega
        rw [show Y % 2 ^ 255 = Y from Nat.mod_eq_of_lt (by rw [← D5_pow]; unfold PP at hY; unfold D5; omega), kw8_le] at hp
        refine ⟨_, _, Blk.str (l := le32 Y) (hp.get (i := 0) rfl) TTok rfl rfl rfl rfl (le32_len Y), ?_⟩
        conv => whnf
        refine hKq _ _ _ (V.Sub.refl _) ?_
        clear hKq Kq
        conv => whnf
        rw [hYd]
        exact ⟨rfl, hp.ext⟩
    conv => whnf
    refine VSeq.mk fun Kq hKq => ?_
    conv => whnf
    refine hKq _ _ _ (V.Sub.refl _) ?_
    clear hKq Kq
    conv => whnf
    refine ⟨fun hc => ?_, fun hc => ?_⟩
    · have hc := of_decide_eq_true hc
      conv => whnf
      rw [if_pos (by omega)] at m2
      have hCl : (chain b51 0 L).1.length = 5 := by rw [chain_len, hml]
      refine ⟨_, _, Blk.ldN (hp.get (i := 0) rfl) TTok rfl (by rw [kw_len, hCl]), ?_⟩
      conv => whnf
      refine hp.kstA TTok rfl 1 rfl (by rw [kw_len, hCl]) (kwu_one _) (by rw [kw_len, hdl]) fun w hp => ?_
      try simp only [List.set_cons_zero, List.set_cons_succ, EV.val] at hp
      conv => whnf
      rw [m2] at hp
      exact key _ _ (sub_cons rfl sub_nil) (hp.pick [1] (by decide))
    · have hc := of_decide_eq_false hc
      conv => whnf
      rw [if_neg (by omega)] at m2
      rw [m2] at hp
      exact key _ _ (sub_cons rfl sub_nil) (hp.pick [1] (by decide))
end Go.Proofs.Ytejphmgpndgliaa
