/- Chapter 27: the stage's theorem. -/
import Derived.Test.YtpiilfamfinieaaDoorC27TM
import Derived.Test.YtpiilfamfinieaaDoorC27MO
namespace Go.Proofs.YtpiilfamfinieaaDoor
set_option linter.unusedSimpArgs false
set_option linter.unusedVariables false
open Go.RowKit V
def putL (p : Nat → Bool) (s : ByteArray) (L : List ByteArray) (k : Nat) : List ByteArray := (List.range L.length).map fun i => if (decide (i < k) && p i) = true then s else L.getD i ⟨#[]⟩
theorem putL_len (p : Nat → Bool) (s : ByteArray) (L : List ByteArray) (k : Nat) : (putL p s L k).length = L.length := by simp [putL]
theorem putL_get (p : Nat → Bool) (s : ByteArray) (L : List ByteArray) (k i : Nat) (h : i < L.length) : (putL p s L k)[i]? = some (if (decide (i < k) && p i) = true then s else L.getD i ⟨#[]⟩) := by
  rw [putL, List.getElem?_map, List.getElem?_range h]; rfl
theorem putL_zero (p : Nat → Bool) (s : ByteArray) (L : List ByteArray) : putL p s L 0 = L := by
  apply List.ext_getElem?
  intro i
  by_cases h : i < L.length
  · rw [putL_get _ _ _ _ _ h, List.getD_eq_getElem?_getD, List.getElem?_eq_getElem h]; simp
  · rw [List.getElem?_eq_none (by rw [putL_len]; omega), List.getElem?_eq_none (by omega)]
theorem putL_set (p : Nat → Bool) (s : ByteArray) (L : List ByteArray) (k : Nat) (hk : k < L.length) (hb : p k = true) : (putL p s L k).set k s = putL p s L (k + 1) := by
  apply List.ext_getElem?
  intro i
  rw [List.getElem?_set]
  by_cases e : k = i
  · subst e
    rw [if_pos rfl, if_pos (by rw [putL_len]; exact hk), putL_get _ _ _ _ _ hk, if_pos (by simp [hb])]
  · rw [if_neg e]
    by_cases h : i < L.length
    · rw [putL_get _ _ _ _ _ h, putL_get _ _ _ _ _ h]
      have : (i < k ↔ i < k + 1) := by omega
      simp [this]
    · rw [List.getElem?_eq_none (by rw [putL_len]; omega), List.getElem?_eq_none (by rw [putL_len]; omega)]
theorem putL_skip (p : Nat → Bool) (s : ByteArray) (L : List ByteArray) (k : Nat) (hb : ¬ p k = true) : putL p s L k = putL p s L (k + 1) := by
  apply List.ext_getElem?
  intro i
  by_cases h : i < L.length
  · rw [putL_get _ _ _ _ _ h, putL_get _ _ _ _ _ h]
    by_cases e : i = k
    · subst e; simp [hb]
    · have : (i < k ↔ i < k + 1) := by omega
      simp [this]
  · rw [List.getElem?_eq_none (by rw [putL_len]; omega), List.getElem?_eq_none (by rw [putL_len]; omega)]
theorem putL_size (p : Nat → Bool) (s : ByteArray) (L : List ByteArray) (k B : Nat) (hs : s.size ≤ B) (hL : ∀ x ∈ L, x.size ≤ B) : ∀ x ∈ putL p s L k, x.size ≤ B := by
  intro x hx
  obtain ⟨i, hi, rfl⟩ := List.mem_map.1 hx
  have hi : i < L.length := by simpa using hi
  split
  · exact hs
  · rw [List.getD_eq_getElem?_getD, List.getElem?_eq_getElem hi]; exact hL _ (List.getElem_mem hi)
theorem putL_getD (p : Nat → Bool) (s : ByteArray) (L : List ByteArray) (k i : Nat) (h : i < L.length) (hk : i < k) : (putL p s L k).getD i ⟨#[]⟩ = if p i = true then s else L.getD i ⟨#[]⟩ := by
  rw [List.getD_eq_getElem?_getD, putL_get _ _ _ _ _ h, decide_eq_true hk, Bool.true_and]; rfl
theorem putL_lost (lost : Nat) (s : ByteArray) (L : List ByteArray) : lostL lost (putL lost.testBit s L L.length) (putL lost.testBit s L L.length).length = lostL lost L L.length := by
  apply List.ext_getElem?
  intro i
  rw [putL_len]
  by_cases h : i < L.length
  · rw [lostL_get _ _ _ _ (by rw [putL_len]; exact h), lostL_get _ _ _ _ h, putL_getD _ _ _ _ _ h h]
    by_cases hb : lost.testBit i = true
    · simp [hb, h]
    · simp [hb]
  · rw [List.getElem?_eq_none (by rw [lostL_len, putL_len]; omega), List.getElem?_eq_none (by rw [lostL_len]; omega)]
theorem putL_empty (lost : Nat) (L : List ByteArray) (k : Nat) : putL lost.testBit ⟨#[]⟩ L k = lostL lost L k := rfl
theorem block_of {n : Nat} {L : List ByteArray} (hl : L.length = n) (h : ∀ x ∈ L, x.size ≤ 1100) : blockB n L = true := by
  unfold blockB
  rw [Bool.and_eq_true, decide_eq_true_iff, Bool.not_eq_true', List.any_eq_false]
  exact ⟨hl, fun x hx => by unfold big; simp; exact h x hx⟩
theorem coverB_size (r c l : Nat) (L : List ByteArray) (h : ∀ x ∈ L, x.size ≤ 1100) : (coverB r c l L).size ≤ 1102 := by
  show (List.toArray _).size ≤ _
  rw [List.size_toArray]
  exact covN_len r c l (-1) L 1100 h L.length
theorem coversB_size (r c : Nat) (L : List ByteArray) (h : ∀ x ∈ L, x.size ≤ 1100) : ∀ x ∈ coversB r c L, x.size ≤ 1102 := fun x hx => by
  obtain ⟨l, _, rfl⟩ := List.mem_map.1 hx
  exact coverB_size r c l L h
/-- what Repair answers for a block with its covers -/
theorem true_math (r c lost kr kc : Nat) (hsh : Shp r c) (hs : setsB r c lost kr kc = true) (own : List ByteArray) (t : ByteArray) (hown : own.length = r * c) (hsz : ∀ x ∈ own, x.size ≤ 1100) :
    repF r c (putL (fun i => !kr.testBit i) t ((coversB r c own).take r) r ++ putL (fun i => !kc.testBit i) t ((coversB r c own).drop r) c) (planL r c lost kr kc).1 (lostL lost (putL lost.testBit t own own.length) (putL lost.testBit t own own.length).length) = some (putL (planL r c lost kr kc).2.testBit ⟨#[]⟩ own own.length) := by
  have hsh' := hsh
  unfold Shp at hsh'
  have hrc : r * c ≤ 6 * 8 := Nat.mul_le_mul (by omega) (by omega)
  obtain ⟨hs1, _, _⟩ := of_decide_eq_true hs
  have hx : lost < 18446744073709551616 := Nat.lt_of_lt_of_le hs1 (show 2 ^ (r * c) ≤ 2 ^ 64 from Nat.pow_le_pow_right (by omega) (by omega))
  have hcl := coversB_len r c own
  rw [putL_lost, putL_empty]
  refine repF_true r c kr kc (by omega) own _ hown hsz (fun l hl hk => ?_) (r * c) lost _ hx (by rw [lostL_len]; exact hown) (fun j hj => ?_)
  · unfold knownL at hk
    rw [List.getD_eq_getElem?_getD]
    by_cases hlr : l < r
    · rw [if_pos hlr] at hk
      rw [List.getElem?_append_left (by rw [putL_len, List.length_take]; omega), ← List.getD_eq_getElem?_getD, putL_getD _ _ _ _ _ (by rw [List.length_take]; omega) hlr, if_neg (by simp [hk]), List.getD_eq_getElem?_getD, List.getElem?_take_of_lt hlr, coversB_get r c l own hl]; rfl
    · rw [if_neg hlr] at hk
      rw [List.getElem?_append_right (by rw [putL_len, List.length_take]; omega), putL_len, List.length_take, show min r (coversB r c own).length = r by omega, ← List.getD_eq_getElem?_getD, putL_getD _ _ _ _ _ (by rw [List.length_drop]; omega) (by omega), if_neg (by simp [hk]), List.getD_eq_getElem?_getD, List.getElem?_drop, show r + (l - r) = l by omega, coversB_get r c l own hl]; rfl
  · rw [List.getD_eq_getElem?_getD, lostL_get _ _ _ _ (by omega), decide_eq_true (by omega : j < own.length), Bool.true_and]; rfl
set_option maxHeartbeats 8000000 in
theorem true_c {W : World} (hg : Good W) (a b x y z : Nat) (s : ByteArray) (v : Value) (D : List ByteArray) (ha : a < 256) (hb : b < 256) (h1 : x < 18446744073709551616) (hy : y < 18446744073709551616) (hz : z < 18446744073709551616) (hv : SLv W v (sw D)) :
    Calls Tryd.prog 6 #[.agg #[.int .u8 a, .int .u8 b, v], .agg #[.int .u64 x, .int .u64 y, .int .u64 z], .string s] W fun e w' => e = .returned (.bool true) ∧ Ext W w' := by
  have hdb := fun w (hw : SLv w v (sw D)) => @dBlock_c w v a b ha hb D hw
  obtain ⟨p, cc, rfl⟩ := hv.shape
  simp only [sw_len] at hv hdb ⊢
  refine v_reads TTok FFok Tryd.func6 rfl rfl ?_
  conv => whnf
  refine VSeq.mk fun Kq hKq => ?_
  conv => whnf
  have hp := Hp.nil W
  refine hp.kbox ([.int .u8 a, .int .u8 b, .slice p D.length cc]) rfl fun db w hp hx => ?_
  conv => whnf
  refine hp.kbox ([.int .u64 x, .int .u64 y, .int .u64 z]) rfl fun xb w hp hx => ?_
  conv => whnf
  refine hKq _ _ _ (V.Sub.refl _) ?_
  clear hKq Kq
  conv => whnf
  refine VSeq.mk fun Kq hKq => ?_
  conv => whnf
  refine VSeq.mk fun Kq hKq => ?_
  conv => whnf
  refine V.CallsUse (works_c (hg.ext hp.ext)) fun w hx => ?_
  try (have hp := hp.call hx)
  conv => whnf
  refine hKq _ _ _ (V.Sub.refl _) ?_
  clear hKq Kq
  conv => whnf
  refine And.intro (fun h => by cases h) (fun _ => ?_)
  conv => whnf
  refine hKq _ _ _ (V.Sub.refl _) ?_
  clear hKq Kq
  conv => whnf
  refine VSeq.mk fun Kq hKq => ?_
  conv => whnf
  refine ⟨_, _, Blk.ldN (hp.get (i := 1) rfl) TTok rfl (rfl), ?_⟩
  conv => whnf
  refine PureF.use (dShape_p a b ha hb p D.length cc) fun w hx => ?_
  try (have hp := hp.call hx)
  conv => whnf
  refine hKq _ _ _ (V.Sub.refl _) ?_
  clear hKq Kq
  conv => whnf
  refine VSeq.mk fun Kq hKq => ?_
  conv => whnf
  have hsh := draft_shp a b
  have hDL := draftL_len a b D
  have hDS : ∀ q ∈ draftL a b D, q.size ≤ 40 := fun q hq => by
    obtain ⟨i, _, rfl⟩ := List.mem_map.1 hq
    exact draftS_size D i
  generalize draftL a b D = own at hdb hDL hDS
  obtain ⟨r, hrd⟩ : ∃ r, 1 + a % 6 = r := ⟨_, rfl⟩
  obtain ⟨c, hcd⟩ : ∃ c, 1 + b % 8 = c := ⟨_, rfl⟩
  have hrr : r ≤ 6 := by omega
  have hcc : c ≤ 8 := by omega
  rw [hrd] at hsh hDL ⊢
  rw [hcd] at hsh hDL ⊢
  have hlo := lossOf_p x y z h1 hy hz r c hsh
  have hset := of_sets r c x y z
  have hrc : r * c ≤ 6 * 8 := Nat.mul_le_mul (by omega) (by omega)
  have hr1 : 1 ≤ r := by omega
  have hc1 : 1 ≤ c := by omega
  have hos : ∀ q ∈ own, q.size ≤ 1100 := fun q hq => by have := hDS q hq; omega
  refine ⟨_, _, Blk.ldN (hp.get (i := 1) rfl) TTok rfl (rfl), ?_⟩
  conv => whnf
  refine (hdb _ (hv.ext hp.ext)).mono ?_
  rintro e w ⟨u, rfl, vo, rfl, hq⟩
  refine ⟨_, rfl, ?_⟩
  have hp := hp.join hq
  have hpos : 0 < own.length := by rw [hDL]; exact Nat.mul_pos (by omega) (by omega)
  obtain ⟨go, co, rfl⟩ := row_form (hp.get (i := 0) rfl) hpos
  clear hq
  conv => whnf
  refine hKq _ _ _ (V.Sub.refl _) ?_
  clear hKq Kq
  conv => whnf
  refine VSeq.mk fun Kq hKq => ?_
  conv => whnf
  refine ⟨_, _, Blk.ldN (hp.get (i := 1) rfl) TTok rfl (rfl), ?_⟩
  conv => whnf
  refine PureF.use (hlo) fun w hx => ?_
  try (have hp := hp.call hx)
  conv => whnf
  have hl : x % 2 ^ (r * c) < 2 ^ (r * c) := Nat.mod_lt _ (Nat.two_pow_pos _)
  have hkr : y % 2 ^ r < 18446744073709551616 := Nat.lt_of_le_of_lt (Nat.mod_le _ _) hy
  have hkc : z % 2 ^ c < 18446744073709551616 := Nat.lt_of_le_of_lt (Nat.mod_le _ _) hz
  have hlx : x % 2 ^ (r * c) < 18446744073709551616 := Nat.lt_of_le_of_lt (Nat.mod_le _ _) h1
  clear hlo
  obtain ⟨lost, hlost⟩ : ∃ l, x % 2 ^ (r * c) = l := ⟨_, rfl⟩
  obtain ⟨kr, hkrd⟩ : ∃ l, y % 2 ^ r = l := ⟨_, rfl⟩
  obtain ⟨kc, hkcd⟩ : ∃ l, z % 2 ^ c = l := ⟨_, rfl⟩
  rw [hlost, hkrd, hkcd] at hset
  rw [hlost] at hl hlx
  rw [hkrd] at hkr
  rw [hkcd] at hkc
  rw [hlost, hkrd, hkcd]
  clear hlost hkrd hkcd hrd hcd
  obtain ⟨st1, st2, st3⟩ := planL_stuck r c lost kr kc (by omega) hlx
  have hcl := coversB_len r c own
  have hcz := coversB_size r c own hos
  have hob := block_of hDL hos
  have hSc := fun w (hg : Good w) => @Stuck_c w hg r c lost kr kc hsh hset
  refine hp.kalloc z42 fun qb w hp hx => ?_
  conv => whnf
  refine hp.kstA TTok rfl 0 rfl (by rfl) (by simp [Value.oneCell']) (by rfl) fun w hp => ?_
  try simp only [List.set_cons_zero, List.set_cons_succ, EV.val] at hp
  conv => whnf
  refine hKq _ _ _ (V.Sub.refl _) ?_
  clear hKq Kq
  conv => whnf
  refine VSeq.mk fun Kq hKq => ?_
  conv => whnf
  refine (Cover_c r c hsh own (SLv.of_row (hp.get (i := 1) rfl)) hob).mono ?_
  rintro e w ⟨u, rfl, va, vb, rfl, hq⟩
  refine ⟨_, rfl, ?_⟩
  have hp := hp.join hq
  obtain ⟨ga, ca, rfl⟩ := row_form (hp.get (i := 0) rfl) (by omega)
  obtain ⟨gb, cb, rfl⟩ := row_form (hp.get (i := 1) rfl) (by omega)
  clear hq
  conv => whnf
  refine hKq _ _ _ (V.Sub.refl _) ?_
  clear hKq Kq
  conv => whnf
  refine VSeq.mk fun Kq hKq => ?_
  conv => whnf
  refine ⟨_, _, Blk.ld (off := 0) (hp.get (i := 2) rfl) TTok rfl rfl, ?_⟩
  conv => whnf
  refine ⟨_, _, Blk.ld (off := 1) (hp.get (i := 2) rfl) TTok rfl rfl, ?_⟩
  conv => whnf
  refine ⟨_, _, Blk.ld (off := 2) (hp.get (i := 2) rfl) TTok rfl rfl, ?_⟩
  conv => whnf
  refine V.CallsUse (hSc _ (hg.ext hp.ext)) fun w hx => ?_
  try (have hp := hp.call hx)
  conv => whnf
  refine hKq _ _ _ (V.Sub.refl _) ?_
  clear hKq Kq
  conv => whnf
  refine VSeq.mk fun Kq hKq => ?_
  conv => whnf
  refine VSeq.mk fun Kq hKq => ?_
  conv => whnf
  refine VSeq.mk fun Kq hKq => ?_
  conv => whnf
  refine hKq _ _ _ (V.Sub.refl _) ?_
  clear hKq Kq
  conv => whnf
  refine VSeq.mk fun Kq hKq => ?_
  conv => whnf
  refine And.intro (fun h => absurd (of_decide_eq_true h) ((by omega))) (fun _ => ?_)
  conv => whnf
  refine hKq _ _ _ (V.Sub.refl _) ?_
  clear hKq Kq
  conv => whnf
  refine VSeq.mk fun Kq hKq => ?_
  conv => whnf
  refine And.intro (fun h => absurd (of_decide_eq_true h) ((by omega))) (fun _ => ?_)
  conv => whnf
  refine hKq _ _ _ (V.Sub.refl _) ?_
  clear hKq Kq
  conv => whnf
  refine VSeq.mk fun Kq hKq => ?_
  conv => whnf
  refine And.intro (fun h => absurd (of_decide_eq_true h) ((by omega))) (fun _ => ?_)
  conv => whnf
  refine hKq _ _ _ (V.Sub.refl _) ?_
  clear hKq Kq
  conv => whnf
  refine And.intro (fun h => absurd (of_decide_eq_true h) ((by omega))) (fun _ => ?_)
  conv => whnf
  refine ⟨_, _, Blk.ld (off := 0) (hp.get (i := 2) rfl) TTok rfl rfl, ?_⟩
  conv => whnf
  refine ⟨(planL r c lost kr kc).2, lost, 0, ⟨by first | rfl | omega, by first | rfl | omega, by omega, by omega⟩, by (dsimp only; exact subB_andNot st3 hlx st2), ?_⟩
  conv => whnf
  refine hKq _ _ _ (V.Sub.refl _) ?_
  clear hKq Kq
  conv => whnf
  refine And.intro (fun h => absurd (of_decide_eq_true h) ((by omega))) (fun _ => ?_)
  conv => whnf
  refine hKq _ _ _ (V.Sub.refl _) ?_
  clear hKq Kq
  conv => whnf
  refine VSeq.mk fun Kq hKq => ?_
  conv => whnf
  refine ⟨min s.size 50, ⟨by first | rfl | omega, by omega⟩, ?_⟩
  conv => whnf
  refine hKq _ _ _ (V.Sub.refl _) ?_
  clear hKq Kq
  conv => whnf
  refine VSeq.mk fun Kq hKq => ?_
  conv => whnf
  obtain ⟨t, ht⟩ : ∃ t, s.extract 0 (min s.size 50) = t := ⟨_, rfl⟩
  have hts : t.size ≤ 50 := by rw [← ht, ByteArray.size_extract]; omega
  rw [ht]
  refine (CloneS_c own (SLv.of_row (hp.get (i := 3) rfl)) (by omega)).mono ?_
  rintro e w ⟨u, rfl, v3, rfl, hq⟩
  refine ⟨_, rfl, ?_⟩
  have hp := hp.join hq
  obtain ⟨g1, cg1, rfl⟩ := row_form (hp.get (i := 0) rfl) hpos
  clear hq
  conv => whnf
  refine (CloneS_c own (SLv.of_row (hp.get (i := 4) rfl)) (by omega)).mono ?_
  rintro e w ⟨u, rfl, v3, rfl, hq⟩
  refine ⟨_, rfl, ?_⟩
  have hp := hp.join hq
  obtain ⟨g2, cg2, rfl⟩ := row_form (hp.get (i := 0) rfl) hpos
  clear hq
  conv => whnf
  refine hKq _ _ _ (V.Sub.refl _) ?_
  clear hKq Kq
  conv => whnf
  refine VSeq.mk fun Kq hKq => ?_
  conv => whnf
  refine VSeq.mk fun Kq hKq => ?_
  conv => whnf
  refine hKq _ _ _ (V.Sub.refl _) ?_
  clear hKq Kq
  conv => whnf
  have hgd := putL_zero lost.testBit t own
  have hwd := putL_zero (planL r c lost kr kc).2.testBit ⟨#[]⟩ own
  have hfin := true_math r c lost kr kc hsh hset own t hDL hos
  have hRp := fun w (hg : Good w) => @Repair_c w hg r c lost kr kc hsh hset
  obtain ⟨pl, hpl⟩ : ∃ pl, planL r c lost kr kc = pl := ⟨_, rfl⟩
  rw [hpl] at hwd hfin st1 st2 st3 ⊢
  simp only [hpl] at hRp
  obtain ⟨ps, left⟩ := pl
  dsimp only at hwd hfin st1 st2 st3 hRp ⊢
  clear hSc hpl
  have hp := hp.pick [0, 1, 2, 3, 4] (by decide)
  change HpM [] W w [row 9 1 (.slice (some ⟨g2, 0, none⟩) own.length cg2) own.length (sw own), row 9 1 (.slice (some ⟨g1, 0, none⟩) own.length cg1) own.length (sw own), row 9 1 (.slice (some ⟨ga, 0, none⟩) r ca) r (sw ((coversB r c own).take r)), row 9 1 (.slice (some ⟨gb, 0, none⟩) c cb) c (sw ((coversB r c own).drop r)), blk qb [.int .u64 lost, .int .u64 kr, .int .u64 kc] 42] at hp
  have hp : HpM [] W w [row 9 1 (.slice (some ⟨g2, 0, none⟩) own.length cg2) own.length (sw (putL left.testBit ⟨#[]⟩ own 0)), row 9 1 (.slice (some ⟨g1, 0, none⟩) own.length cg1) own.length (sw (putL lost.testBit t own 0)), row 9 1 (.slice (some ⟨ga, 0, none⟩) r ca) r (sw ((coversB r c own).take r)), row 9 1 (.slice (some ⟨gb, 0, none⟩) c cb) c (sw ((coversB r c own).drop r)), blk qb [.int .u64 lost, .int .u64 kr, .int .u64 kc] 42] := by
    rw [putL_zero, putL_zero]; exact hp
  refine ⟨fun m l w => ∃ (i : Nat), m + i = own.length ∧ l = [(2, .v (.string t)), (7, .v (.int .i64 r)), (8, .v (.int .i64 c)), (10, .v (.pointer (some ⟨qb, 0, none⟩))), (11, .v (.slice (some ⟨ga, 0, none⟩) r ca)), (12, .v (.slice (some ⟨gb, 0, none⟩) c cb)), (14, .v (.int .u64 left)), (16, .v (.slice (some ⟨g1, 0, none⟩) own.length cg1)), (17, .v (.slice (some ⟨g2, 0, none⟩) own.length cg2)), (92, .v (.int .i64 own.length)), (93, .v (.int .i64 i))] ∧
      HpM [] W w [row 9 1 (.slice (some ⟨g2, 0, none⟩) own.length cg2) own.length (sw (putL left.testBit ⟨#[]⟩ own i)), row 9 1 (.slice (some ⟨g1, 0, none⟩) own.length cg1) own.length (sw (putL lost.testBit t own i)), row 9 1 (.slice (some ⟨ga, 0, none⟩) r ca) r (sw ((coversB r c own).take r)), row 9 1 (.slice (some ⟨gb, 0, none⟩) c cb) c (sw ((coversB r c own).drop r)), blk qb [.int .u64 lost, .int .u64 kr, .int .u64 kc] 42],
    ⟨own.length, _, ⟨0, by omega, rfl, hp⟩, sub_cons rfl (sub_cons rfl (sub_cons rfl (sub_cons rfl (sub_cons rfl (sub_cons rfl (sub_cons rfl (sub_cons rfl (sub_cons rfl (sub_cons rfl (sub_cons rfl sub_nil))))))))))⟩, ?_⟩
  clear hp hx
  repeat clear hp
  rintro m _ w ⟨i, hm, rfl, hp⟩
  conv => whnf
  refine VSeq.mk fun Kq hKq => ?_
  conv => whnf
  refine hKq _ _ _ (V.Sub.refl _) ?_
  clear hKq Kq
  conv => whnf
  refine VSeq.mk fun Kq hKq => ?_
  conv => whnf
  refine ⟨fun hlt => ?_, fun hlt => ?_⟩
  · have hlt := of_decide_eq_true hlt
    conv => whnf
    refine hKq _ _ _ (V.Sub.refl _) ?_
    clear hKq Kq
    conv => whnf
    refine VSeq.mk fun Kq hKq => ?_
    conv => whnf
    refine VSeq.mk fun Kq hKq => ?_
    conv => whnf
    refine hKq _ _ _ (V.Sub.refl _) ?_
    clear hKq Kq
    conv => whnf
    refine VSeq.mk fun Kq hKq => ?_
    conv => whnf
    refine VSeq.mk fun Kq hKq => ?_
    conv => whnf
    have hi : i < own.length := by omega
    have hd1 : lost / 2 ^ i < 18446744073709551616 := Nat.lt_of_le_of_lt (Nat.div_le_self _ _) hlx
    have hd2 : left / 2 ^ i < 18446744073709551616 := Nat.lt_of_le_of_lt (Nat.div_le_self _ _) st3
    have hb1 := bit_iff lost i
    have hb2 := bit_iff left i
    refine ⟨_, _, Blk.ld (off := 0) (hp.get (i := 4) rfl) TTok rfl rfl, ?_⟩
    conv => whnf
    refine ⟨i, ⟨by first | rfl | omega, by omega⟩, ?_⟩
    conv => whnf
    rw [shr_cast]
    refine ⟨lost / 2 ^ i, 1, lost / 2 ^ i % 2, ⟨by first | rfl | omega, by first | rfl | omega, by omega, by omega⟩, by (dsimp only; exact Nat.and_one_is_mod _), ?_⟩
    conv => whnf
    refine hKq _ _ _ (V.Sub.refl _) ?_
    clear hKq Kq
    conv => whnf
    refine ⟨fun q1 => ?_, fun q1 => ?_⟩
    · have q1 := of_decide_eq_true q1
      conv => whnf
      refine ⟨i, ⟨by first | rfl | omega, by omega⟩, ?_⟩
      conv => whnf
      rw [show addM 0 i 1 = i by rw [addM_eq]; omega]
      refine hp.kstR (t := 9) TTok rfl 1 rfl (off := i) (v := .string t) (by omega) rfl rfl fun w hp => ?_
      simp only [List.set_cons_zero, List.set_cons_succ] at hp
      rw [sw_set, putL_set _ _ _ _ (by omega) (hb1.1 (by omega))] at hp
      conv => whnf
      refine hKq _ _ _ (V.Sub.refl _) ?_
      clear hKq Kq
      conv => whnf
      refine VSeq.mk fun Kq hKq => ?_
      conv => whnf
      refine ⟨i, ⟨by first | rfl | omega, by omega⟩, ?_⟩
      conv => whnf
      rw [shr_cast]
      refine ⟨left / 2 ^ i, 1, left / 2 ^ i % 2, ⟨by first | rfl | omega, by first | rfl | omega, by omega, by omega⟩, by (dsimp only; exact Nat.and_one_is_mod _), ?_⟩
      conv => whnf
      refine hKq _ _ _ (V.Sub.refl _) ?_
      clear hKq Kq
      conv => whnf
      refine ⟨fun q2 => ?_, fun q2 => ?_⟩
      · have q2 := of_decide_eq_true q2
        conv => whnf
        refine ⟨i, ⟨by first | rfl | omega, by omega⟩, ?_⟩
        conv => whnf
        rw [show addM 0 i 1 = i by rw [addM_eq]; omega]
        refine hp.kstR (t := 9) TTok rfl 0 rfl (off := i) (v := .string ⟨#[]⟩) (by omega) rfl rfl fun w hp => ?_
        simp only [List.set_cons_zero, List.set_cons_succ] at hp
        rw [sw_set, putL_set _ _ _ _ (by omega) (hb2.1 (by omega))] at hp
        conv => whnf
        refine hKq _ _ _ (V.Sub.refl _) ?_
        clear hKq Kq
        conv => whnf
        refine And.intro (by omega) ?_
        conv => whnf
        exact ⟨m - 1, _, by omega, ⟨i + 1, by omega, rfl, hp⟩, sub_cons rfl (sub_cons rfl (sub_cons rfl (sub_cons rfl (sub_cons rfl (sub_cons rfl (sub_cons rfl (sub_cons rfl (sub_cons rfl (sub_cons rfl (sub_cons rfl sub_nil))))))))))⟩
      · have q2 := of_decide_eq_false q2
        conv => whnf
        refine hKq _ _ _ (V.Sub.refl _) ?_
        clear hKq Kq
        conv => whnf
        refine And.intro (by omega) ?_
        conv => whnf
        rw [putL_skip left.testBit _ _ _ (fun h => q2 (by have := hb2.2 h; omega))] at hp
        exact ⟨m - 1, _, by omega, ⟨i + 1, by omega, rfl, hp⟩, sub_cons rfl (sub_cons rfl (sub_cons rfl (sub_cons rfl (sub_cons rfl (sub_cons rfl (sub_cons rfl (sub_cons rfl (sub_cons rfl (sub_cons rfl (sub_cons rfl sub_nil))))))))))⟩
    · have q1 := of_decide_eq_false q1
      conv => whnf
      refine hKq _ _ _ (V.Sub.refl _) ?_
      clear hKq Kq
      conv => whnf
      refine VSeq.mk fun Kq hKq => ?_
      conv => whnf
      rw [putL_skip lost.testBit _ _ _ (fun h => q1 (by have := hb1.2 h; omega))] at hp
      refine ⟨i, ⟨by first | rfl | omega, by omega⟩, ?_⟩
      conv => whnf
      rw [shr_cast]
      refine ⟨left / 2 ^ i, 1, left / 2 ^ i % 2, ⟨by first | rfl | omega, by first | rfl | omega, by omega, by omega⟩, by (dsimp only; exact Nat.and_one_is_mod _), ?_⟩
      conv => whnf
      refine hKq _ _ _ (V.Sub.refl _) ?_
      clear hKq Kq
      conv => whnf
      refine ⟨fun q2 => ?_, fun q2 => ?_⟩
      · have q2 := of_decide_eq_true q2
        conv => whnf
        refine ⟨i, ⟨by first | rfl | omega, by omega⟩, ?_⟩
        conv => whnf
        rw [show addM 0 i 1 = i by rw [addM_eq]; omega]
        refine hp.kstR (t := 9) TTok rfl 0 rfl (off := i) (v := .string ⟨#[]⟩) (by omega) rfl rfl fun w hp => ?_
        simp only [List.set_cons_zero, List.set_cons_succ] at hp
        rw [sw_set, putL_set _ _ _ _ (by omega) (hb2.1 (by omega))] at hp
        conv => whnf
        refine hKq _ _ _ (V.Sub.refl _) ?_
        clear hKq Kq
        conv => whnf
        refine And.intro (by omega) ?_
        conv => whnf
        exact ⟨m - 1, _, by omega, ⟨i + 1, by omega, rfl, hp⟩, sub_cons rfl (sub_cons rfl (sub_cons rfl (sub_cons rfl (sub_cons rfl (sub_cons rfl (sub_cons rfl (sub_cons rfl (sub_cons rfl (sub_cons rfl (sub_cons rfl sub_nil))))))))))⟩
      · have q2 := of_decide_eq_false q2
        conv => whnf
        refine hKq _ _ _ (V.Sub.refl _) ?_
        clear hKq Kq
        conv => whnf
        refine And.intro (by omega) ?_
        conv => whnf
        rw [putL_skip left.testBit _ _ _ (fun h => q2 (by have := hb2.2 h; omega))] at hp
        exact ⟨m - 1, _, by omega, ⟨i + 1, by omega, rfl, hp⟩, sub_cons rfl (sub_cons rfl (sub_cons rfl (sub_cons rfl (sub_cons rfl (sub_cons rfl (sub_cons rfl (sub_cons rfl (sub_cons rfl (sub_cons rfl (sub_cons rfl sub_nil))))))))))⟩
  · have hlt := of_decide_eq_false hlt
    conv => whnf
    clear hKq Kq
    refine hKq _ _ _ (V.Sub.refl _) ?_
    clear hKq Kq
    conv => whnf
    refine VSeq.mk fun Kq hKq => ?_
    conv => whnf
    refine VSeq.mk fun Kq hKq => ?_
    conv => whnf
    refine hKq _ _ _ (V.Sub.refl _) ?_
    clear hKq Kq
    conv => whnf
    obtain rfl : i = own.length := by omega
    clear hlt hm
    have hp : HpM [] W w [row 9 1 (.slice (some ⟨g2, 0, none⟩) own.length cg2) own.length (sw (putL left.testBit ⟨#[]⟩ own own.length)), row 9 1 (.slice (some ⟨g1, 0, none⟩) own.length cg1) own.length (sw (putL lost.testBit t own own.length)), row 9 1 (.slice (some ⟨ga, 0, none⟩) r ca) r (sw (putL (fun i => !kr.testBit i) t ((coversB r c own).take r) 0)), row 9 1 (.slice (some ⟨gb, 0, none⟩) c cb) c (sw ((coversB r c own).drop r)), blk qb [.int .u64 lost, .int .u64 kr, .int .u64 kc] 42] := by
      first | exact hp | (rw [putL_zero]; exact hp)
    refine ⟨fun m l w => ∃ (i : Nat), m + i = r ∧ l = [(2, .v (.string t)), (7, .v (.int .i64 r)), (8, .v (.int .i64 c)), (10, .v (.pointer (some ⟨qb, 0, none⟩))), (11, .v (.slice (some ⟨ga, 0, none⟩) r ca)), (12, .v (.slice (some ⟨gb, 0, none⟩) c cb)), (14, .v (.int .u64 left)), (16, .v (.slice (some ⟨g1, 0, none⟩) own.length cg1)), (17, .v (.slice (some ⟨g2, 0, none⟩) own.length cg2)), (116, .v (.int .i64 r)), (117, .v (.int .i64 i))] ∧
        HpM [] W w [row 9 1 (.slice (some ⟨g2, 0, none⟩) own.length cg2) own.length (sw (putL left.testBit ⟨#[]⟩ own own.length)), row 9 1 (.slice (some ⟨g1, 0, none⟩) own.length cg1) own.length (sw (putL lost.testBit t own own.length)), row 9 1 (.slice (some ⟨ga, 0, none⟩) r ca) r (sw (putL (fun i => !kr.testBit i) t ((coversB r c own).take r) i)), row 9 1 (.slice (some ⟨gb, 0, none⟩) c cb) c (sw ((coversB r c own).drop r)), blk qb [.int .u64 lost, .int .u64 kr, .int .u64 kc] 42],
      ⟨r, _, ⟨0, by omega, rfl, hp⟩, sub_cons rfl (sub_cons rfl (sub_cons rfl (sub_cons rfl (sub_cons rfl (sub_cons rfl (sub_cons rfl (sub_cons rfl (sub_cons rfl (sub_cons rfl (sub_cons rfl sub_nil))))))))))⟩, ?_⟩
    clear hp
    repeat clear hp
    rintro m _ w ⟨i, hm, rfl, hp⟩
    conv => whnf
    refine VSeq.mk fun Kq hKq => ?_
    conv => whnf
    refine hKq _ _ _ (V.Sub.refl _) ?_
    clear hKq Kq
    conv => whnf
    refine VSeq.mk fun Kq hKq => ?_
    conv => whnf
    refine ⟨fun hlt => ?_, fun hlt => ?_⟩
    · have hlt := of_decide_eq_true hlt
      conv => whnf
      refine hKq _ _ _ (V.Sub.refl _) ?_
      clear hKq Kq
      conv => whnf
      refine VSeq.mk fun Kq hKq => ?_
      conv => whnf
      refine VSeq.mk fun Kq hKq => ?_
      conv => whnf
      refine hKq _ _ _ (V.Sub.refl _) ?_
      clear hKq Kq
      conv => whnf
      refine VSeq.mk fun Kq hKq => ?_
      conv => whnf
      have hi : i < ((coversB r c own).take r).length := by rw [List.length_take]; omega
      have hd1 : kr / 2 ^ i < 18446744073709551616 := Nat.lt_of_le_of_lt (Nat.div_le_self _ _) hkr
      have hb1 := bit_iff kr i
      refine ⟨_, _, Blk.ld (off := 1) (hp.get (i := 4) rfl) TTok rfl rfl, ?_⟩
      conv => whnf
      refine ⟨i, ⟨by first | rfl | omega, by omega⟩, ?_⟩
      conv => whnf
      rw [shr_cast]
      refine ⟨kr / 2 ^ i, 1, kr / 2 ^ i % 2, ⟨by first | rfl | omega, by first | rfl | omega, by omega, by omega⟩, by (dsimp only; exact Nat.and_one_is_mod _), ?_⟩
      conv => whnf
      refine hKq _ _ _ (V.Sub.refl _) ?_
      clear hKq Kq
      conv => whnf
      refine ⟨fun q1 => ?_, fun q1 => ?_⟩
      · have q1 := of_decide_eq_true q1
        conv => whnf
        have hbf : (!kr.testBit i) = true := by
          cases hbb : kr.testBit i with
          | false => rfl
          | true => have := hb1.2 hbb; omega
        refine ⟨i, ⟨by first | rfl | omega, by omega⟩, ?_⟩
        conv => whnf
        rw [show addM 0 i 1 = i by rw [addM_eq]; omega]
        refine hp.kstR (t := 9) TTok rfl 2 rfl (off := i) (v := .string t) (by omega) rfl rfl fun w hp => ?_
        simp only [List.set_cons_zero, List.set_cons_succ] at hp
        rw [sw_set, putL_set (fun i => !kr.testBit i) t _ _ hi hbf] at hp
        conv => whnf
        refine hKq _ _ _ (V.Sub.refl _) ?_
        clear hKq Kq
        conv => whnf
        refine And.intro (by omega) ?_
        conv => whnf
        exact ⟨m - 1, _, by omega, ⟨i + 1, by omega, rfl, hp⟩, sub_cons rfl (sub_cons rfl (sub_cons rfl (sub_cons rfl (sub_cons rfl (sub_cons rfl (sub_cons rfl (sub_cons rfl (sub_cons rfl (sub_cons rfl (sub_cons rfl sub_nil))))))))))⟩
      · have q1 := of_decide_eq_false q1
        conv => whnf
        refine hKq _ _ _ (V.Sub.refl _) ?_
        clear hKq Kq
        conv => whnf
        refine And.intro (by omega) ?_
        conv => whnf
        rw [putL_skip (fun i => !kr.testBit i) t ((coversB r c own).take r) i (by
          cases hbb : kr.testBit i with
          | false => exact fun _ => q1 (by have := mt hb1.1 (by rw [hbb]; simp); omega)
          | true => simp)] at hp
        exact ⟨m - 1, _, by omega, ⟨i + 1, by omega, rfl, hp⟩, sub_cons rfl (sub_cons rfl (sub_cons rfl (sub_cons rfl (sub_cons rfl (sub_cons rfl (sub_cons rfl (sub_cons rfl (sub_cons rfl (sub_cons rfl (sub_cons rfl sub_nil))))))))))⟩
    · have hlt := of_decide_eq_false hlt
      conv => whnf
      clear hKq Kq
      refine hKq _ _ _ (V.Sub.refl _) ?_
      clear hKq Kq
      conv => whnf
      refine VSeq.mk fun Kq hKq => ?_
      conv => whnf
      refine VSeq.mk fun Kq hKq => ?_
      conv => whnf
      refine hKq _ _ _ (V.Sub.refl _) ?_
      clear hKq Kq
      conv => whnf
      obtain rfl : r = i := by omega
      clear hlt hm
      have hp : HpM [] W w [row 9 1 (.slice (some ⟨g2, 0, none⟩) own.length cg2) own.length (sw (putL left.testBit ⟨#[]⟩ own own.length)), row 9 1 (.slice (some ⟨g1, 0, none⟩) own.length cg1) own.length (sw (putL lost.testBit t own own.length)), row 9 1 (.slice (some ⟨ga, 0, none⟩) r ca) r (sw (putL (fun j => !kr.testBit j) t ((coversB r c own).take r) r)), row 9 1 (.slice (some ⟨gb, 0, none⟩) c cb) c (sw (putL (fun j => !kc.testBit j) t ((coversB r c own).drop r) 0)), blk qb [.int .u64 lost, .int .u64 kr, .int .u64 kc] 42] := by
        first | exact hp | (rw [putL_zero]; exact hp)
      refine ⟨fun m l w => ∃ (i : Nat), m + i = c ∧ l = [(2, .v (.string t)), (7, .v (.int .i64 r)), (8, .v (.int .i64 c)), (10, .v (.pointer (some ⟨qb, 0, none⟩))), (11, .v (.slice (some ⟨ga, 0, none⟩) r ca)), (12, .v (.slice (some ⟨gb, 0, none⟩) c cb)), (14, .v (.int .u64 left)), (16, .v (.slice (some ⟨g1, 0, none⟩) own.length cg1)), (17, .v (.slice (some ⟨g2, 0, none⟩) own.length cg2)), (132, .v (.int .i64 c)), (133, .v (.int .i64 i))] ∧
          HpM [] W w [row 9 1 (.slice (some ⟨g2, 0, none⟩) own.length cg2) own.length (sw (putL left.testBit ⟨#[]⟩ own own.length)), row 9 1 (.slice (some ⟨g1, 0, none⟩) own.length cg1) own.length (sw (putL lost.testBit t own own.length)), row 9 1 (.slice (some ⟨ga, 0, none⟩) r ca) r (sw (putL (fun j => !kr.testBit j) t ((coversB r c own).take r) r)), row 9 1 (.slice (some ⟨gb, 0, none⟩) c cb) c (sw (putL (fun j => !kc.testBit j) t ((coversB r c own).drop r) i)), blk qb [.int .u64 lost, .int .u64 kr, .int .u64 kc] 42],
        ⟨c, _, ⟨0, by omega, rfl, hp⟩, sub_cons rfl (sub_cons rfl (sub_cons rfl (sub_cons rfl (sub_cons rfl (sub_cons rfl (sub_cons rfl (sub_cons rfl (sub_cons rfl (sub_cons rfl (sub_cons rfl sub_nil))))))))))⟩, ?_⟩
      clear hp
      repeat clear hp
      rintro m _ w ⟨i, hm, rfl, hp⟩
      conv => whnf
      refine VSeq.mk fun Kq hKq => ?_
      conv => whnf
      refine hKq _ _ _ (V.Sub.refl _) ?_
      clear hKq Kq
      conv => whnf
      refine VSeq.mk fun Kq hKq => ?_
      conv => whnf
      refine ⟨fun hlt => ?_, fun hlt => ?_⟩
      · have hlt := of_decide_eq_true hlt
        conv => whnf
        refine hKq _ _ _ (V.Sub.refl _) ?_
        clear hKq Kq
        conv => whnf
        refine VSeq.mk fun Kq hKq => ?_
        conv => whnf
        refine VSeq.mk fun Kq hKq => ?_
        conv => whnf
        refine hKq _ _ _ (V.Sub.refl _) ?_
        clear hKq Kq
        conv => whnf
        refine VSeq.mk fun Kq hKq => ?_
        conv => whnf
        have hi : i < ((coversB r c own).drop r).length := by rw [List.length_drop]; omega
        have hd1 : kc / 2 ^ i < 18446744073709551616 := Nat.lt_of_le_of_lt (Nat.div_le_self _ _) hkc
        have hb1 := bit_iff kc i
        refine ⟨_, _, Blk.ld (off := 2) (hp.get (i := 4) rfl) TTok rfl rfl, ?_⟩
        conv => whnf
        refine ⟨i, ⟨by first | rfl | omega, by omega⟩, ?_⟩
        conv => whnf
        rw [shr_cast]
        refine ⟨kc / 2 ^ i, 1, kc / 2 ^ i % 2, ⟨by first | rfl | omega, by first | rfl | omega, by omega, by omega⟩, by (dsimp only; exact Nat.and_one_is_mod _), ?_⟩
        conv => whnf
        refine hKq _ _ _ (V.Sub.refl _) ?_
        clear hKq Kq
        conv => whnf
        refine ⟨fun q1 => ?_, fun q1 => ?_⟩
        · have q1 := of_decide_eq_true q1
          conv => whnf
          have hbf : (!kc.testBit i) = true := by
            cases hbb : kc.testBit i with
            | false => rfl
            | true => have := hb1.2 hbb; omega
          refine ⟨i, ⟨by first | rfl | omega, by omega⟩, ?_⟩
          conv => whnf
          rw [show addM 0 i 1 = i by rw [addM_eq]; omega]
          refine hp.kstR (t := 9) TTok rfl 3 rfl (off := i) (v := .string t) (by omega) rfl rfl fun w hp => ?_
          simp only [List.set_cons_zero, List.set_cons_succ] at hp
          rw [sw_set, putL_set (fun i => !kc.testBit i) t _ _ hi hbf] at hp
          conv => whnf
          refine hKq _ _ _ (V.Sub.refl _) ?_
          clear hKq Kq
          conv => whnf
          refine And.intro (by omega) ?_
          conv => whnf
          exact ⟨m - 1, _, by omega, ⟨i + 1, by omega, rfl, hp⟩, sub_cons rfl (sub_cons rfl (sub_cons rfl (sub_cons rfl (sub_cons rfl (sub_cons rfl (sub_cons rfl (sub_cons rfl (sub_cons rfl (sub_cons rfl (sub_cons rfl sub_nil))))))))))⟩
        · have q1 := of_decide_eq_false q1
          conv => whnf
          refine hKq _ _ _ (V.Sub.refl _) ?_
          clear hKq Kq
          conv => whnf
          refine And.intro (by omega) ?_
          conv => whnf
          rw [putL_skip (fun i => !kc.testBit i) t ((coversB r c own).drop r) i (by
            cases hbb : kc.testBit i with
            | false => exact fun _ => q1 (by have := mt hb1.1 (by rw [hbb]; simp); omega)
            | true => simp)] at hp
          exact ⟨m - 1, _, by omega, ⟨i + 1, by omega, rfl, hp⟩, sub_cons rfl (sub_cons rfl (sub_cons rfl (sub_cons rfl (sub_cons rfl (sub_cons rfl (sub_cons rfl (sub_cons rfl (sub_cons rfl (sub_cons rfl (sub_cons rfl sub_nil))))))))))⟩
      · have hlt := of_decide_eq_false hlt
        conv => whnf
        clear hKq Kq
        refine hKq _ _ _ (V.Sub.refl _) ?_
        clear hKq Kq
        conv => whnf
        refine VSeq.mk fun Kq hKq => ?_
        conv => whnf
        obtain rfl : c = i := by omega
        clear hlt hm
        refine ⟨_, _, Blk.ld (off := 0) (hp.get (i := 4) rfl) TTok rfl rfl, ?_⟩
        conv => whnf
        refine ⟨_, _, Blk.ld (off := 1) (hp.get (i := 4) rfl) TTok rfl rfl, ?_⟩
        conv => whnf
        refine ⟨_, _, Blk.ld (off := 2) (hp.get (i := 4) rfl) TTok rfl rfl, ?_⟩
        conv => whnf
        have hA : (putL (fun j => !kr.testBit j) t ((coversB r c own).take r) r).length = r := by rw [putL_len, List.length_take]; omega
        have hB : (putL (fun j => !kc.testBit j) t ((coversB r c own).drop r) c).length = c := by rw [putL_len, List.length_drop]; omega
        have hG : (putL lost.testBit t own own.length).length = own.length := putL_len _ _ _ _
        have hz1 := putL_size (fun j => !kr.testBit j) t ((coversB r c own).take r) r 1102 (by omega) (fun q hq => hcz q (List.mem_of_mem_take hq))
        have hz2 := putL_size (fun j => !kc.testBit j) t ((coversB r c own).drop r) c 1102 (by omega) (fun q hq => hcz q (List.mem_of_mem_drop hq))
        have hz3 := putL_size lost.testBit t own own.length 1100 (by omega) hos
        have hWl : (putL left.testBit ⟨#[]⟩ own own.length).length = own.length := putL_len _ _ _ _
        have hs1 : SLv w (.slice (some ⟨g1, 0, none⟩) own.length cg1) (sw (putL lost.testBit t own own.length)) := SLv.of_row (hp.get (i := 1) rfl)
        have hs2 : SLv w (.slice (some ⟨ga, 0, none⟩) r ca) (sw (putL (fun j => !kr.testBit j) t ((coversB r c own).take r) r)) := SLv.of_row (hp.get (i := 2) rfl)
        have hs3 : SLv w (.slice (some ⟨gb, 0, none⟩) c cb) (sw (putL (fun j => !kc.testBit j) t ((coversB r c own).drop r) c)) := SLv.of_row (hp.get (i := 3) rfl)
        have hrp := hRp w (hg.ext hp.ext) _ _ _ _ _ _ hs1 hs2 hs3 (block_of (by rw [hG]; exact hDL) hz3) hA hB (fun q hq => by
          rcases List.mem_append.1 hq with h | h
          · have := hz1 q h; omega
          · have := hz2 q h; omega)
        rw [hfin] at hrp
        refine hrp.mono ?_
        rintro e w ⟨u, rfl, v2, rfl, hq⟩
        refine ⟨_, rfl, ?_⟩
        have hp := hp.join hq
        obtain ⟨p2, c2, rfl⟩ := row_shape (hp.get (i := 0) rfl)
        clear hq hrp hs1 hs2 hs3
        conv => whnf
        refine hKq _ _ _ (V.Sub.refl _) ?_
        clear hKq Kq
        conv => whnf
        refine VSeq.mk fun Kq hKq => ?_
        conv => whnf
        refine VSeq.mk fun Kq hKq => ?_
        conv => whnf
        refine hKq _ _ _ (V.Sub.refl _) ?_
        clear hKq Kq
        conv => whnf
        refine VSeq.mk fun Kq hKq => ?_
        conv => whnf
        refine And.intro (fun _ => ?_) (fun h => absurd (rfl) (of_decide_eq_false h))
        conv => whnf
        refine hKq _ _ _ (V.Sub.refl _) ?_
        clear hKq Kq
        conv => whnf
        refine And.intro (fun _ => ?_) (fun h => absurd (rfl) (of_decide_eq_false h))
        conv => whnf
        have hsm := Same_c (putL left.testBit ⟨#[]⟩ own own.length) (putL left.testBit ⟨#[]⟩ own own.length) (SLv.of_row (hp.get (i := 0) rfl)) (SLv.of_row (hp.get (i := 1) rfl)) (by omega) (by omega)
        rw [decide_eq_true rfl] at hsm
        refine V.CallsUse (hsm) fun w hx => ?_
        try (have hp := hp.call hx)
        conv => whnf
        refine hKq _ _ _ (V.Sub.refl _) ?_
        clear hKq Kq
        conv => whnf
        exact ⟨rfl, hp.ext⟩
theorem true_at {W : World} (hg : Good W) (c0 c1 : Array Value) (a2 : ByteArray) (e0 : Rd W (.cons (.int .u8) (.cons (.int .u8) (.cons (.sl .str) .nil))) c0.toList) (e1 : Rd W (.cons (.int .u64) (.cons (.int .u64) (.cons (.int .u64) .nil))) c1.toList) :
    Calls Tryd.prog 6 #[.agg c0, .agg c1, .string a2] W fun e w' => e = .returned (.bool true) ∧ Ext W w' := by
  obtain ⟨a, b, v, D, rfl, ha, hb, hv, _⟩ := draft_rd e0
  obtain ⟨x, y, z, rfl, hx, hy, hz⟩ := loss_rd e1
  exact true_c hg a b x y z a2 v D ha hb hx hy hz hv
end Go.Proofs.YtpiilfamfinieaaDoor
