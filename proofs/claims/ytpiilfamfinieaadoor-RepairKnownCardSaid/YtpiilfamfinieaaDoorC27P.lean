/- Chapter 27: Repair. -/
import Derived.Test.YtpiilfamfinieaaDoorC27O
import Derived.Test.YtpiilfamfinieaaDoorC27N
import Derived.Test.YtpiilfamfinieaaDoorC27K
namespace Go.Proofs.YtpiilfamfinieaaDoor
set_option linter.unusedSimpArgs false
set_option linter.unusedVariables false
open Go.RowKit V
def lostL (lost : Nat) (L : List ByteArray) (k : Nat) : List ByteArray := (List.range L.length).map fun i => if (decide (i < k) && lost.testBit i) = true then ⟨#[]⟩ else L.getD i ⟨#[]⟩
theorem lostL_len (lost : Nat) (L : List ByteArray) (k : Nat) : (lostL lost L k).length = L.length := by simp [lostL]
theorem lostL_get (lost : Nat) (L : List ByteArray) (k i : Nat) (h : i < L.length) : (lostL lost L k)[i]? = some (if (decide (i < k) && lost.testBit i) = true then ⟨#[]⟩ else L.getD i ⟨#[]⟩) := by
  rw [lostL, List.getElem?_map, List.getElem?_range h]; rfl
theorem lostL_zero (lost : Nat) (L : List ByteArray) : lostL lost L 0 = L := by
  apply List.ext_getElem?
  intro i
  by_cases h : i < L.length
  · rw [lostL_get _ _ _ _ h, List.getD_eq_getElem?_getD, List.getElem?_eq_getElem h]; simp
  · rw [List.getElem?_eq_none (by rw [lostL_len]; omega), List.getElem?_eq_none (by omega)]
theorem lostL_set (lost : Nat) (L : List ByteArray) (k : Nat) (hk : k < L.length) (hb : lost.testBit k = true) : (lostL lost L k).set k ⟨#[]⟩ = lostL lost L (k + 1) := by
  apply List.ext_getElem?
  intro i
  rw [List.getElem?_set]
  by_cases e : k = i
  · subst e
    rw [if_pos rfl, if_pos (by rw [lostL_len]; exact hk), lostL_get _ _ _ _ hk, if_pos (by simp [hb])]
  · rw [if_neg e]
    by_cases h : i < L.length
    · rw [lostL_get _ _ _ _ h, lostL_get _ _ _ _ h]
      have : (i < k ↔ i < k + 1) := by omega
      simp [this]
    · rw [List.getElem?_eq_none (by rw [lostL_len]; omega), List.getElem?_eq_none (by rw [lostL_len]; omega)]
theorem lostL_skip (lost : Nat) (L : List ByteArray) (k : Nat) (hb : ¬ lost.testBit k = true) : lostL lost L k = lostL lost L (k + 1) := by
  apply List.ext_getElem?
  intro i
  by_cases h : i < L.length
  · rw [lostL_get _ _ _ _ h, lostL_get _ _ _ _ h]
    by_cases e : i = k
    · subst e; simp [hb]
    · have : (i < k ↔ i < k + 1) := by omega
      simp [this]
  · rw [List.getElem?_eq_none (by rw [lostL_len]; omega), List.getElem?_eq_none (by rw [lostL_len]; omega)]
theorem lostL_size (lost : Nat) (L : List ByteArray) (k : Nat) (hL : ∀ x ∈ L, x.size ≤ 1100) : ∀ x ∈ lostL lost L k, x.size ≤ 1100 := by
  intro x hx
  obtain ⟨i, hi, rfl⟩ := List.mem_map.1 hx
  have hi : i < L.length := by simpa using hi
  split
  · exact Nat.zero_le _
  · rw [List.getD_eq_getElem?_getD, List.getElem?_eq_getElem hi]; exact hL _ (List.getElem_mem hi)
theorem unfL_size {b : List UInt8} {s : ByteArray} (h : unfL b = some s) : s.size ≤ 1100 := by
  unfold unfL at h
  split at h
  · cases h
  · dsimp only at h
    split at h
    · cases h
    · rename_i hn
      cases h
      show (List.take _ _).toArray.size ≤ 1100
      rw [List.size_toArray, List.length_take]
      omega
def repF (r c : Nat) (C : List ByteArray) : List (Nat × Nat) → List ByteArray → Option (List ByteArray)
  | [], L => some L
  | (l, i) :: ps, L => match stepL r c l i L C with
    | none => none
    | some s => repF r c C ps (L.set i s)
theorem planF_mem (r c kr kc : Nat) : ∀ (f lost : Nat), ∀ p ∈ (planF r c kr kc f lost).1, p.1 < r + c ∧ p.2 < r * c
  | 0, _, p, hp => by simp [planF] at hp
  | f + 1, lost, p, hp => by
    rw [planF] at hp
    cases hf : firstL r c kr kc lost 0 with
    | none => rw [hf] at hp; simp at hp
    | some q =>
      obtain ⟨l, i⟩ := q
      rw [hf] at hp
      obtain ⟨h1, _, h2⟩ := firstL_some hf
      have hi : i ∈ hits r c lost l := by rw [h2]; simp
      rcases List.mem_cons.1 hp with rfl | hp
      · exact ⟨h1, (mem_hits.1 hi).1⟩
      · exact planF_mem r c kr kc f _ p hp
theorem pw_get (ps : List (Nat × Nat)) : ∀ (i : Nat) (p : Nat × Nat), ps[i]? = some p → (pw ps)[i * 2]? = some (.int .i64 (p.1 : Nat)) ∧ (pw ps)[i * 2 + 1]? = some (.int .i64 (p.2 : Nat)) := by
  induction ps with
  | nil => intro i p h; simp at h
  | cons q ps ih =>
    intro i p h
    cases i with
    | zero => simp at h; subst h; exact ⟨rfl, rfl⟩
    | succ i =>
      have := ih i p (by simpa using h)
      rw [show (i + 1) * 2 = i * 2 + 2 by omega, show i * 2 + 2 + 1 = i * 2 + 1 + 2 by omega]
      exact this
theorem planF_len (r c kr kc : Nat) : ∀ (f lost : Nat), (planF r c kr kc f lost).1.length ≤ f
  | 0, _ => by simp [planF]
  | f + 1, lost => by
    rw [planF]
    cases hf : firstL r c kr kc lost 0 with
    | none => simp
    | some q =>
      have := planF_len r c kr kc f (clr lost q.2)
      simp; exact this
theorem hplen (r c lost kr kc : Nat) (h : r * c ≤ 48) : (planL r c lost kr kc).1.length ≤ 48 := Nat.le_trans (planF_len r c kr kc _ _) h
def rErr (k : Int) : Value := .tuple #[.slice none 0 0, .int .u64 0, .int .i64 k]
theorem Repair_arg {W : World} (r c R C : Int) (lost kr kc : Nat) (v va vb : Value) (hv : ∃ p n c, v = .slice p n c) (hva : ∃ p n c, va = .slice p n c) (hvb : ∃ p n c, vb = .slice p n c)
    (ho : PureF Tryd.prog 33 #[.int .i64 r, .int .i64 c] (.agg #[.int .i64 R, .int .i64 C]))
    (hf : PureF Tryd.prog 40 #[.agg #[.int .i64 R, .int .i64 C], .int .u64 lost, .int .u64 kr, .int .u64 kc] (.bool false)) :
    Calls Tryd.prog 27 #[.int .i64 r, .int .i64 c, v, .int .u64 lost, va, vb, .int .u64 kr, .int .u64 kc] W fun e w' => e = .returned (rErr 2) ∧ Ext W w' := by
  obtain ⟨_, _, _, rfl⟩ := hv
  obtain ⟨_, _, _, rfl⟩ := hva
  obtain ⟨_, _, _, rfl⟩ := hvb
  refine v_reads TTok FFok Tryd.func27 rfl rfl ?_
  conv => whnf
  refine VSeq.mk fun Kq hKq => ?_
  conv => whnf
  refine hKq _ _ _ (V.Sub.refl _) ?_
  clear hKq Kq
  conv => whnf
  refine VSeq.mk fun Kq hKq => ?_
  conv => whnf
  have hp := Hp.nil W
  refine PureF.use (ho) fun w hx => ?_
  try (have hp := hp.call hx)
  conv => whnf
  refine hp.kalloc z75 fun hb w hp hx => ?_
  conv => whnf
  refine hp.kstA TTok rfl 0 rfl (by rfl) (by simp [Value.oneCell']) (by rfl) fun w hp => ?_
  try simp only [List.set_cons_zero, List.set_cons_succ, EV.val] at hp
  conv => whnf
  refine hKq _ _ _ (V.Sub.refl _) ?_
  clear hKq Kq
  conv => whnf
  refine VSeq.mk fun Kq hKq => ?_
  conv => whnf
  refine VSeq.mk fun Kq hKq => ?_
  conv => whnf
  refine ⟨_, _, Blk.ldN (hp.get (i := 0) rfl) TTok rfl (rfl), ?_⟩
  conv => whnf
  refine PureF.use (hf) fun w hx => ?_
  try (have hp := hp.call hx)
  conv => whnf
  refine hKq _ _ _ (V.Sub.refl _) ?_
  clear hKq Kq
  conv => whnf
  refine And.intro (fun _ => ?_) (fun h => by cases h)
  conv => whnf
  refine VSeq.mk fun Kq hKq => ?_
  conv => whnf
  refine hKq _ _ _ (V.Sub.refl _) ?_
  clear hKq Kq
  conv => whnf
  exact ⟨rfl, hp.ext⟩
theorem Repair_grid {W : World} (r c lost kr kc : Nat) (h : Shp r c) (hs : setsB r c lost kr kc = true) (v va vb : Value) (L A B : List ByteArray) (hv : SLv W v (sw L)) (hva : SLv W va (sw A)) (hvb : SLv W vb (sw B))
    (hbad : (blockB (r * c) L && decide (A.length = r) && decide (B.length = c)) = false) (hlA : A.length ≤ 1000) (hlB : B.length ≤ 1000) :
    Calls Tryd.prog 27 #[.int .i64 r, .int .i64 c, v, .int .u64 lost, va, vb, .int .u64 kr, .int .u64 kc] W fun e w' => e = .returned (rErr 270) ∧ Ext W w' := by
  have hfi := fits_ok r c lost kr kc h
  rw [hs] at hfi
  have hbc := fun w => @block_c w v r c h L
  obtain ⟨p, cc, rfl⟩ := hv.shape
  obtain ⟨pa, ca, rfl⟩ := hva.shape
  obtain ⟨pb, cb, rfl⟩ := hvb.shape
  simp only [sw_len] at hv hva hvb hbc ⊢
  obtain ⟨z, hz⟩ : ∃ z, blockB (r * c) L = z := ⟨_, rfl⟩
  rw [hz] at hbad hbc
  refine v_reads TTok FFok Tryd.func27 rfl rfl ?_
  conv => whnf
  refine VSeq.mk fun Kq hKq => ?_
  conv => whnf
  refine hKq _ _ _ (V.Sub.refl _) ?_
  clear hKq Kq
  conv => whnf
  refine VSeq.mk fun Kq hKq => ?_
  conv => whnf
  have hp := Hp.nil W
  refine PureF.use (of_ok r c h) fun w hx => ?_
  try (have hp := hp.call hx)
  conv => whnf
  refine hp.kalloc z75 fun hb w hp hx => ?_
  conv => whnf
  refine hp.kstA TTok rfl 0 rfl (by rfl) (by simp [Value.oneCell']) (by rfl) fun w hp => ?_
  try simp only [List.set_cons_zero, List.set_cons_succ, EV.val] at hp
  conv => whnf
  refine hKq _ _ _ (V.Sub.refl _) ?_
  clear hKq Kq
  conv => whnf
  refine VSeq.mk fun Kq hKq => ?_
  conv => whnf
  refine VSeq.mk fun Kq hKq => ?_
  conv => whnf
  refine ⟨_, _, Blk.ldN (hp.get (i := 0) rfl) TTok rfl (rfl), ?_⟩
  conv => whnf
  refine PureF.use (hfi) fun w hx => ?_
  try (have hp := hp.call hx)
  conv => whnf
  refine hKq _ _ _ (V.Sub.refl _) ?_
  clear hKq Kq
  conv => whnf
  refine And.intro (fun h => by cases h) (fun _ => ?_)
  conv => whnf
  refine hKq _ _ _ (V.Sub.refl _) ?_
  clear hKq Kq
  conv => whnf
  refine VSeq.mk fun Kq hKq => ?_
  conv => whnf
  refine VSeq.mk fun Kq hKq => ?_
  conv => whnf
  refine VSeq.mk fun Kq hKq => ?_
  conv => whnf
  refine ⟨_, _, Blk.ldN (hp.get (i := 0) rfl) TTok rfl (rfl), ?_⟩
  conv => whnf
  refine V.CallsUse (hbc _ (hv.ext hp.ext)) fun w hx => ?_
  try (have hp := hp.call hx)
  conv => whnf
  refine hKq _ _ _ (V.Sub.refl _) ?_
  clear hKq Kq
  conv => whnf
  refine VSeq.mk fun Kq hKq => ?_
  conv => whnf
  cases z with
  | false =>
    refine And.intro (fun _ => ?_) (fun h => by cases h)
    conv => whnf
    refine hKq _ _ _ (V.Sub.refl _) ?_
    clear hKq Kq
    conv => whnf
    refine hKq _ _ _ (V.Sub.refl _) ?_
    clear hKq Kq
    conv => whnf
    refine VSeq.mk fun Kq hKq => ?_
    conv => whnf
    refine hKq _ _ _ (V.Sub.refl _) ?_
    clear hKq Kq
    conv => whnf
    exact ⟨rfl, hp.ext⟩
  | true =>
    refine And.intro (fun h => by cases h) (fun _ => ?_)
    conv => whnf
    refine hKq _ _ _ (V.Sub.refl _) ?_
    clear hKq Kq
    conv => whnf
    refine ⟨fun g1 => ?_, fun g1 => ?_⟩
    · have g1 := of_decide_eq_true g1
      conv => whnf
      refine hKq _ _ _ (V.Sub.refl _) ?_
      clear hKq Kq
      conv => whnf
      refine VSeq.mk fun Kq hKq => ?_
      conv => whnf
      refine hKq _ _ _ (V.Sub.refl _) ?_
      clear hKq Kq
      conv => whnf
      exact ⟨rfl, hp.ext⟩
    · have g1 := of_decide_eq_false g1
      conv => whnf
      refine hKq _ _ _ (V.Sub.refl _) ?_
      clear hKq Kq
      conv => whnf
      have hA : A.length = r := by omega
      have hB : ¬ B.length = c := by
        intro e
        rw [decide_eq_true hA, decide_eq_true e] at hbad
        cases hbad
      refine And.intro (fun _ => ?_) (fun h => absurd ((by omega)) (of_decide_eq_false h))
      conv => whnf
      refine VSeq.mk fun Kq hKq => ?_
      conv => whnf
      refine hKq _ _ _ (V.Sub.refl _) ?_
      clear hKq Kq
      conv => whnf
      exact ⟨rfl, hp.ext⟩
set_option maxHeartbeats 4000000 in
theorem Repair_c {W : World} (hg : Good W) (r c lost kr kc : Nat) (h : Shp r c) (hs : setsB r c lost kr kc = true) (v va vb : Value) (L A B : List ByteArray) (hv : SLv W v (sw L)) (hva : SLv W va (sw A)) (hvb : SLv W vb (sw B))
    (hb : blockB (r * c) L = true) (hlA : A.length = r) (hlB : B.length = c) (hCb : ∀ x ∈ A ++ B, x.size ≤ 1048576) :
    Calls Tryd.prog 27 #[.int .i64 r, .int .i64 c, v, .int .u64 lost, va, vb, .int .u64 kr, .int .u64 kc] W fun e w' => ∃ u, e = .returned u ∧
      match repF r c (A ++ B) (planL r c lost kr kc).1 (lostL lost L L.length) with
      | none => u = rErr 5 ∧ Ext W w'
      | some L2 => ∃ v2, u = .tuple #[v2, .int .u64 ((planL r c lost kr kc).2 : Nat), .int .i64 0] ∧ HpM [] W w' [row 9 1 v2 L2.length (sw L2)] := by
  have hfi := fits_ok r c lost kr kc h
  rw [hs] at hfi
  have hs' := hs
  obtain ⟨hs1, hs2, hs3⟩ := of_decide_eq_true hs'
  have hbc := fun w => @block_c w v r c h L
  rw [hb] at hbc
  have h' := h
  obtain ⟨h1, h2, h3, h4⟩ := h'
  have hrc : r * c ≤ 6 * 8 := Nat.mul_le_mul (by omega) (by omega)
  have hlost : lost < 18446744073709551616 := Nat.lt_of_lt_of_le hs1 (show 2 ^ (r * c) ≤ 2 ^ 64 from Nat.pow_le_pow_right (by omega) (by omega))
  have hL : L.length = r * c := by unfold blockB at hb; rw [Bool.and_eq_true, decide_eq_true_iff] at hb; exact hb.1
  have hLb : ∀ x ∈ L, x.size ≤ 1100 := fun x hx => by
    unfold blockB at hb
    rw [Bool.and_eq_true, Bool.not_eq_true', List.any_eq_false] at hb
    have := hb.2 x hx
    unfold big at this; simp at this; omega
  obtain ⟨p, cc, rfl⟩ := hv.shape
  obtain ⟨pa, ca, rfl⟩ := hva.shape
  obtain ⟨pb, cb, rfl⟩ := hvb.shape
  simp only [sw_len] at hv hva hvb hbc ⊢
  refine v_fn (args := [.int .i64 r, .int .i64 c, .slice p L.length cc, .int .u64 lost, .slice pa A.length ca, .slice pb B.length cb, .int .u64 kr, .int .u64 kc]) TTok FFok Tryd.func27 rfl (Nat.le_of_ble_eq_true rfl) ?_
  have hp := Hp.nil W
  conv => whnf
  refine VSeq.mk fun Kq hKq => ?_
  conv => whnf
  refine hKq _ _ _ (V.Sub.refl _) ?_
  clear hKq Kq
  conv => whnf
  refine VSeq.mk fun Kq hKq => ?_
  conv => whnf
  refine PureF.use (of_ok r c h) fun w hx => ?_
  try (have hp := hp.call hx)
  conv => whnf
  refine hp.kalloc z75 fun qb w hp hx => ?_
  conv => whnf
  refine hp.kstA TTok rfl 0 rfl (by rfl) (by simp [Value.oneCell']) (by rfl) fun w hp => ?_
  try simp only [List.set_cons_zero, List.set_cons_succ, EV.val] at hp
  conv => whnf
  refine hKq _ _ _ (V.Sub.refl _) ?_
  clear hKq Kq
  conv => whnf
  refine VSeq.mk fun Kq hKq => ?_
  conv => whnf
  refine VSeq.mk fun Kq hKq => ?_
  conv => whnf
  refine ⟨_, _, Blk.ldN (hp.get (i := 0) rfl) TTok rfl (rfl), ?_⟩
  conv => whnf
  refine PureF.use (hfi) fun w hx => ?_
  try (have hp := hp.call hx)
  conv => whnf
  refine hKq _ _ _ (V.Sub.refl _) ?_
  clear hKq Kq
  conv => whnf
  refine And.intro (fun h => by cases h) (fun _ => ?_)
  conv => whnf
  refine hKq _ _ _ (V.Sub.refl _) ?_
  clear hKq Kq
  conv => whnf
  refine VSeq.mk fun Kq hKq => ?_
  conv => whnf
  refine VSeq.mk fun Kq hKq => ?_
  conv => whnf
  refine VSeq.mk fun Kq hKq => ?_
  conv => whnf
  refine ⟨_, _, Blk.ldN (hp.get (i := 0) rfl) TTok rfl (rfl), ?_⟩
  conv => whnf
  refine V.CallsUse (hbc _ (hv.ext hp.ext)) fun w hx => ?_
  try (have hp := hp.call hx)
  conv => whnf
  refine hKq _ _ _ (V.Sub.refl _) ?_
  clear hKq Kq
  conv => whnf
  refine VSeq.mk fun Kq hKq => ?_
  conv => whnf
  refine And.intro (fun h => by cases h) (fun _ => ?_)
  conv => whnf
  refine hKq _ _ _ (V.Sub.refl _) ?_
  clear hKq Kq
  conv => whnf
  refine And.intro (fun h => absurd (of_decide_eq_true h) ((by omega))) (fun _ => ?_)
  conv => whnf
  refine hKq _ _ _ (V.Sub.refl _) ?_
  clear hKq Kq
  conv => whnf
  refine And.intro (fun h => absurd (of_decide_eq_true h) ((by omega))) (fun _ => ?_)
  conv => whnf
  refine hKq _ _ _ (V.Sub.refl _) ?_
  clear hKq Kq
  conv => whnf
  refine VSeq.mk fun Kq hKq => ?_
  conv => whnf
  have hK : ∀ (w1 : World) (wb : Nat) (v1 v2 : Value), HpM [] W w1 [blk wb [.int .i64 r, .int .i64 c, v1, v2] 92, row 9 1 v1 L.length (sw L), row 9 1 v2 (A ++ B).length (sw (A ++ B))] →
      ∀ l, V.Sub [(3, .v (.int .u64 lost)), (6, .v (.int .u64 kr)), (7, .v (.int .u64 kc)), (20, .v (.pointer (some ⟨wb, 0, none⟩)))] l → Kq l w1 := by
    clear hp
    repeat clear hp
    intro w wb v1 v2 hp l hsub
    refine hKq _ _ _ hsub ?_
    clear hKq Kq hsub
    have hpos : 0 < L.length := by rw [hL]; exact Nat.mul_pos (by omega) (by omega)
    obtain ⟨g1, c1, rfl⟩ := row_form (hp.get (i := 1) rfl) hpos
    obtain ⟨g2, c2, rfl⟩ := row_form (hp.get (i := 2) rfl) (by rw [List.length_append]; omega)
    rw [← lostL_zero lost L, lostL_len] at hp
    conv => whnf
    refine VSeq.mk fun Kq hKq => ?_
    conv => whnf
    refine VSeq.mk fun Kq hKq => ?_
    conv => whnf
    refine ⟨_, _, Blk.ld (off := 2) (hp.get (i := 0) rfl) TTok rfl rfl, ?_⟩
    conv => whnf
    refine hKq _ _ _ (V.Sub.refl _) ?_
    clear hKq Kq
    conv => whnf
    refine ⟨fun m l w => ∃ (i : Nat), m + i = L.length ∧ l = [(3, .v (.int .u64 lost)), (6, .v (.int .u64 kr)), (7, .v (.int .u64 kc)), (20, .v (.pointer (some ⟨wb, 0, none⟩))), (64, .v (.int .i64 L.length)), (65, .v (.int .i64 i))] ∧
        HpM [] W w [blk wb [.int .i64 r, .int .i64 c, .slice (some ⟨g1, 0, none⟩) L.length c1, .slice (some ⟨g2, 0, none⟩) (A ++ B).length c2] 92, row 9 1 (.slice (some ⟨g1, 0, none⟩) L.length c1) L.length (sw (lostL lost L i)), row 9 1 (.slice (some ⟨g2, 0, none⟩) (A ++ B).length c2) (A ++ B).length (sw (A ++ B))],
      ⟨L.length, _, ⟨0, rfl, rfl, hp⟩, sub_cons rfl (sub_cons rfl (sub_cons rfl (sub_cons rfl (sub_cons rfl (sub_cons rfl sub_nil)))))⟩, ?_⟩
    clear hp
    repeat clear hp
    rintro m _ w ⟨i, hm, rfl, hp⟩
    conv => whnf
    refine VSeq.mk fun Kq hKq => ?_
    conv => whnf
    refine hKq _ _ _ (V.Sub.refl _) ?_
    clear hKq Kq
    conv => whnf
    refine VSeq.mk fun Kq hKq => ?_
    conv => whnf
    refine ⟨fun hlt => ?_, fun hlt => ?_⟩
    · have hlt := of_decide_eq_true hlt
      conv => whnf
      refine hKq _ _ _ (V.Sub.refl _) ?_
      clear hKq Kq
      conv => whnf
      refine VSeq.mk fun Kq hKq => ?_
      conv => whnf
      refine VSeq.mk fun Kq hKq => ?_
      conv => whnf
      refine hKq _ _ _ (V.Sub.refl _) ?_
      clear hKq Kq
      conv => whnf
      refine VSeq.mk fun Kq hKq => ?_
      conv => whnf
      have hkd : lost / 2 ^ i < 18446744073709551616 := Nat.lt_of_le_of_lt (Nat.div_le_self _ _) hlost
      have hbit : (lost / 2 ^ i % 2 = 1) ↔ lost.testBit i = true := by rw [div_bit]; split <;> simp [*]
      refine ⟨i, ⟨by first | rfl | omega, by omega⟩, ?_⟩
      conv => whnf
      rw [shr_cast]
      refine ⟨lost / 2 ^ i, 1, lost / 2 ^ i % 2, ⟨by first | rfl | omega, by first | rfl | omega, by omega, by omega⟩, by (dsimp only; exact Nat.and_one_is_mod _), ?_⟩
      conv => whnf
      refine hKq _ _ _ (V.Sub.refl _) ?_
      clear hKq Kq
      conv => whnf
      refine ⟨fun hb1 => ?_, fun hb1 => ?_⟩
      · have hb1 := of_decide_eq_true hb1
        conv => whnf
        refine ⟨_, _, Blk.ld (off := 2) (hp.get (i := 0) rfl) TTok rfl rfl, ?_⟩
        conv => whnf
        refine ⟨i, ⟨by first | rfl | omega, by omega⟩, ?_⟩
        conv => whnf
        rw [show addM 0 i 1 = i by rw [addM_eq]; omega]
        refine hp.kstR (t := 9) TTok rfl 1 rfl (off := i) (v := .string ⟨#[]⟩) (by omega) rfl rfl fun w hp => ?_
        simp only [List.set_cons_zero, List.set_cons_succ] at hp
        rw [sw_set, lostL_set _ _ _ (by omega) (hbit.1 (by omega))] at hp
        conv => whnf
        refine hKq _ _ _ (V.Sub.refl _) ?_
        clear hKq Kq
        conv => whnf
        refine And.intro (by omega) ?_
        conv => whnf
        exact ⟨m - 1, _, by omega, ⟨i + 1, by omega, rfl, hp⟩, sub_cons rfl (sub_cons rfl (sub_cons rfl (sub_cons rfl (sub_cons rfl (sub_cons rfl sub_nil)))))⟩
      · have hb1 := of_decide_eq_false hb1
        conv => whnf
        refine hKq _ _ _ (V.Sub.refl _) ?_
        clear hKq Kq
        conv => whnf
        refine And.intro (by omega) ?_
        conv => whnf
        rw [lostL_skip _ _ _ (mt hbit.2 (by omega))] at hp
        exact ⟨m - 1, _, by omega, ⟨i + 1, by omega, rfl, hp⟩, sub_cons rfl (sub_cons rfl (sub_cons rfl (sub_cons rfl (sub_cons rfl (sub_cons rfl sub_nil)))))⟩
    · have hlt := of_decide_eq_false hlt
      conv => whnf
      clear hKq Kq
      refine hKq _ _ _ (V.Sub.refl _) ?_
      clear hKq Kq
      conv => whnf
      refine VSeq.mk fun Kq hKq => ?_
      conv => whnf
      obtain rfl : i = L.length := by omega
      refine ⟨_, _, Blk.ldV (off := 0) (hp.get (i := 0) rfl) TTok rfl (vs := [.int .i64 r, .int .i64 c]) rfl (by rfl), ?_⟩
      conv => whnf
      refine (plan_c (hg.ext hp.ext) r c lost kr kc h hs).mono ?_
      rintro e w ⟨u, rfl, pv, rfl, hq⟩
      refine ⟨_, rfl, ?_⟩
      have hp := hp.join hq
      have hmem : ∀ x ∈ (planL r c lost kr kc).1, x.1 < r + c ∧ x.2 < r * c := planF_mem r c kr kc _ _
      have hpl : (planL r c lost kr kc).1.length ≤ 48 := hplen r c lost kr kc (by omega)
      obtain ⟨ps, hps⟩ : ∃ ps, (planL r c lost kr kc).1 = ps := ⟨_, rfl⟩
      obtain ⟨left, hleft⟩ : ∃ left, (planL r c lost kr kc).2 = left := ⟨_, rfl⟩
      rw [hps] at hmem hpl hp ⊢
      rw [hleft]
      obtain ⟨p5, c5, rfl⟩ := row_shape (hp.get (i := 0) rfl)
      have hL1l : (lostL lost L L.length).length = r * c := by rw [lostL_len]; exact hL
      have hL1b := lostL_size lost L L.length hLb
      obtain ⟨L1, hL1⟩ : ∃ L1, lostL lost L L.length = L1 := ⟨_, rfl⟩
      rw [hL1] at hL1l hL1b hp
      rw [show L.length = L1.length by omega] at hp
      clear hlt hm
      conv => whnf
      refine hKq _ _ _ (V.Sub.refl _) ?_
      clear hKq Kq
      conv => whnf
      refine VSeq.mk fun Kq hKq => ?_
      conv => whnf
      refine VSeq.mk fun Kq hKq => ?_
      conv => whnf
      refine hKq _ _ _ (V.Sub.refl _) ?_
      clear hKq Kq
      conv => whnf
      refine ⟨fun m l w => ∃ (i : Nat) (L2 : List ByteArray), m + i = ps.length ∧ l = [(20, .v (.pointer (some ⟨wb, 0, none⟩))), (23, .v (.int .u64 left)), (91, .v (.slice p5 ps.length c5)), (92, .v (.int .i64 ps.length)), (93, .v (.int .i64 i))] ∧
          L2.length = r * c ∧ (∀ x ∈ L2, x.size ≤ 1100) ∧ repF r c (A ++ B) ps L1 = repF r c (A ++ B) (ps.drop i) L2 ∧
          HpM [] W w [row 55 2 (.slice p5 ps.length c5) ps.length (pw ps), blk wb [.int .i64 r, .int .i64 c, .slice (some ⟨g1, 0, none⟩) L2.length c1, .slice (some ⟨g2, 0, none⟩) (A ++ B).length c2] 92, row 9 1 (.slice (some ⟨g1, 0, none⟩) L2.length c1) L2.length (sw L2), row 9 1 (.slice (some ⟨g2, 0, none⟩) (A ++ B).length c2) (A ++ B).length (sw (A ++ B))],
        ⟨ps.length, _, ⟨0, L1, rfl, rfl, hL1l, hL1b, rfl, hp⟩, sub_cons rfl (sub_cons rfl (sub_cons rfl (sub_cons rfl (sub_cons rfl sub_nil))))⟩, ?_⟩
      clear hp
      repeat clear hp
      rintro m _ w ⟨i, L2, hm, rfl, hl2, hb2, hrep, hp⟩
      conv => whnf
      refine VSeq.mk fun Kq hKq => ?_
      conv => whnf
      refine hKq _ _ _ (V.Sub.refl _) ?_
      clear hKq Kq
      conv => whnf
      refine VSeq.mk fun Kq hKq => ?_
      conv => whnf
      refine ⟨fun hlt => ?_, fun hlt => ?_⟩
      · have hlt := of_decide_eq_true hlt
        conv => whnf
        refine hKq _ _ _ (V.Sub.refl _) ?_
        clear hKq Kq
        conv => whnf
        refine VSeq.mk fun Kq hKq => ?_
        conv => whnf
        refine VSeq.mk fun Kq hKq => ?_
        conv => whnf
        have hi : i < ps.length := by omega
        have hxi : ps[i]? = some ps[i] := List.getElem?_eq_getElem hi
        have hxm := hmem _ (List.getElem_mem hi)
        rw [List.drop_eq_getElem_cons hi] at hrep
        generalize ps[i] = x at hxi hxm hrep
        obtain ⟨li, pi⟩ := x
        obtain ⟨hw0, hw1⟩ := pw_get ps i _ hxi
        obtain ⟨g5, c5', e5⟩ := row_form (hp.get (i := 0) rfl) (by omega)
        simp only [Value.slice.injEq, true_and] at e5
        obtain ⟨rfl, rfl⟩ := e5
        have hc0 := row_cell (hp.get (i := 0) rfl) hw0
        have hc1 := row_cell (hp.get (i := 0) rfl) hw1
        refine ⟨i, ⟨by first | rfl | omega, by omega⟩, ?_⟩
        conv => whnf
        rw [show addM 0 i 2 = i * 2 by rw [addM_eq]; omega]
        refine ⟨_, _, run_ldN TTok (vs := [.int .i64 li, .int .i64 pi]) rfl rfl (fun q u hq => by
          match q, hq with
          | 0, hq => simp at hq; subst hq; exact hc0
          | 1, hq => simp at hq; subst hq; exact hc1
          | q + 2, hq => simp at hq), ?_⟩
        conv => whnf
        refine hp.kalloc z55 fun xb w hp hx => ?_
        conv => whnf
        refine hp.kstA TTok rfl 0 rfl (by rfl) (by simp [Value.oneCell']) (by rfl) fun w hp => ?_
        try simp only [List.set_cons_zero, List.set_cons_succ, EV.val] at hp
        conv => whnf
        refine hKq _ _ _ (V.Sub.refl _) ?_
        clear hKq Kq
        conv => whnf
        refine VSeq.mk fun Kq hKq => ?_
        conv => whnf
        refine ⟨0, ⟨by first | rfl | omega, by omega⟩, ?_⟩
        conv => whnf
        refine ⟨_, _, Blk.ld (hp.get (i := 0) rfl) TTok rfl (rfl), ?_⟩
        conv => whnf
        refine ⟨1, ⟨by first | rfl | omega, by omega⟩, ?_⟩
        conv => whnf
        refine ⟨_, _, Blk.ld (hp.get (i := 0) rfl) TTok rfl (rfl), ?_⟩
        conv => whnf
        refine (step_c hp 2 3 4 wb r c li pi h L2 (A ++ B) _ _ rfl rfl rfl hl2 (by rw [List.length_append]; omega) hxm.1 hxm.2 hb2 hCb).mono ?_
        rintro e w ⟨u, rfl, rfl, hp⟩
        refine ⟨_, rfl, ?_⟩
        rw [repF] at hrep
        cases hst : stepL r c li pi L2 (A ++ B) with
        | none =>
          rw [hst] at hp hrep
          conv => whnf
          refine hKq _ _ _ (V.Sub.refl _) ?_
          clear hKq Kq
          conv => whnf
          refine And.intro (fun _ => ?_) (fun h => by cases h)
          conv => whnf
          refine VSeq.mk fun Kq hKq => ?_
          conv => whnf
          refine hKq _ _ _ (V.Sub.refl _) ?_
          clear hKq Kq
          conv => whnf
          rw [hps, hL1, hrep]
          exact ⟨rfl, hp.ext⟩
        | some s =>
          rw [hst] at hp hrep
          simp only [List.set_cons_zero, List.set_cons_succ] at hp
          conv => whnf
          refine hKq _ _ _ (V.Sub.refl _) ?_
          clear hKq Kq
          conv => whnf
          refine And.intro (fun h => by cases h) (fun _ => ?_)
          conv => whnf
          refine hKq _ _ _ (V.Sub.refl _) ?_
          clear hKq Kq
          conv => whnf
          refine And.intro (by omega) ?_
          conv => whnf
          exact ⟨m - 1, _, by omega, ⟨i + 1, L2.set pi s, by omega, rfl, by rw [List.length_set]; exact hl2, fun y hy => by
            rcases List.mem_or_eq_of_mem_set hy with h | rfl
            · exact hb2 y h
            · exact unfL_size hst, hrep, by rw [List.length_set]; exact hp.tail⟩, sub_cons rfl (sub_cons rfl (sub_cons rfl (sub_cons rfl (sub_cons rfl sub_nil))))⟩
      · have hlt := of_decide_eq_false hlt
        conv => whnf
        clear hKq Kq
        refine hKq _ _ _ (V.Sub.refl _) ?_
        clear hKq Kq
        conv => whnf
        refine VSeq.mk fun Kq hKq => ?_
        conv => whnf
        obtain rfl : i = ps.length := by omega
        rw [List.drop_eq_nil_of_le (Nat.le_refl _), repF] at hrep
        refine ⟨_, _, Blk.ld (off := 2) (hp.get (i := 1) rfl) TTok rfl rfl, ?_⟩
        conv => whnf
        refine hKq _ _ _ (V.Sub.refl _) ?_
        clear hKq Kq
        conv => whnf
        rw [hps, hL1, hrep, hleft]
        exact ⟨_, rfl, hp.pick [2] (by decide)⟩
  clear hKq
  refine v_mtA TTok FFok mixed (.q 0 (.q 1 (.q 3 (.q 4 (.br 2 5 (.m 5 (.m 6 (.q 7 (.m 8 (.q 9 .nil))))) (.m 2 (.m 6 (.q 7 (.m 8 (.q 9 .nil)))))))))) (by kernel_rfl) ?_
  conv => whnf
  refine ⟨_, fun w' hx' => Blk.ldN (Blk.ext (hp.get (i := 0) rfl) hx') TTok rfl rfl, ?_⟩
  conv => whnf
  refine And.intro ?_ ?_
  · intro w hx
    have hp := hp.call hx
    conv => whnf
    refine (CloneS_c L (hv.ext hp.ext) (by omega)).mono ?_
    rintro e w ⟨v1, rfl, _, rfl, hq⟩
    refine ⟨_, rfl, ?_⟩
    have hp := hp.join hq
    conv => whnf
    refine And.intro hq.ext ?_
    intro w hx
    have hp := hp.call hx
    conv => whnf
    refine hp.kmade [.slice pa A.length ca, .slice pb B.length cb] 22 (fun b => .slice (some ⟨b, 0, none⟩) 2 2) (by kernel_rfl) fun ab w hp hx => ?_
    have hp : HpM [] W w [row 9 1 v1 L.length (sw L), blk ab [.slice pa A.length ca, .slice pb B.length cb] 22] := hp.pick [1, 0] (by decide)
    conv => whnf
    refine And.intro hx ?_
    intro w hx
    have hp := hp.call hx
    conv => whnf
    have hab : Blk w ab [.slice pa A.length ca, .slice pb B.length cb] 22 := hp.get (i := 1) rfl
    refine (ConcatS_c [.slice pa A.length ca, .slice pb B.length cb] [A, B] (SLv.of_blk0 (n := 2) (c := 2) hab rfl (by decide)) rfl (by
      intro i x hx
      match i, hx with
      | 0, hx => simp at hx; subst hx; exact ⟨A, rfl, hva.ext hp.ext⟩
      | 1, hx => simp at hx; subst hx; exact ⟨B, rfl, hvb.ext hp.ext⟩
      | i + 2, hx => simp at hx) (by simp; omega) (by simp)).mono ?_
    rintro e w ⟨v2, rfl, _, rfl, hq2⟩
    refine ⟨_, rfl, ?_⟩
    have hp := hp.join hq2
    obtain ⟨p2, c2, rfl⟩ := row_shape (hp.get (i := 0) rfl)
    obtain ⟨p1, c1, rfl⟩ := row_shape (hp.get (i := 1) rfl)
    rw [show [A, B].flatten = A ++ B by simp] at hp ⊢
    conv => whnf
    refine And.intro hq2.ext ?_
    conv => whnf
    refine ⟨.agg #[.int .i64 r, .int .i64 c, .slice p1 L.length c1, .slice p2 (A ++ B).length c2], fun w' _ => by kernel_rfl, ?_⟩
    conv => whnf
    intro w hx
    have hp := hp.call hx
    conv => whnf
    refine hp.kbox ([.int .i64 r, .int .i64 c, .slice p1 L.length c1, .slice p2 (A ++ B).length c2]) rfl fun wb w hp hx => ?_
    have hp := hp.pick [0, 2, 1] (by decide)
    conv => whnf
    refine And.intro hx ?_
    conv => whnf
    intro w hx
    have hp := hp.call hx
    exact hK _ _ _ _ hp _ (sub_cons rfl (sub_cons rfl (sub_cons rfl (sub_cons rfl sub_nil))))
  · intro w hx
    have hp := hp.call hx
    conv => whnf
    refine hp.kmade [.slice pa A.length ca, .slice pb B.length cb] 22 (fun b => .slice (some ⟨b, 0, none⟩) 2 2) (by kernel_rfl) fun ab w hp hx => ?_
    conv => whnf
    refine And.intro hx ?_
    intro w hx
    have hp := hp.call hx
    conv => whnf
    refine (CloneS_c L (hv.ext hp.ext) (by omega)).mono ?_
    rintro e w ⟨v1, rfl, _, rfl, hq⟩
    refine ⟨_, rfl, ?_⟩
    have hp := hp.join hq
    have hp : HpM [] W w [row 9 1 v1 L.length (sw L), blk ab [.slice pa A.length ca, .slice pb B.length cb] 22] := hp.pick [0, 1] (by decide)
    conv => whnf
    refine And.intro hq.ext ?_
    intro w hx
    have hp := hp.call hx
    conv => whnf
    have hab : Blk w ab [.slice pa A.length ca, .slice pb B.length cb] 22 := hp.get (i := 1) rfl
    refine (ConcatS_c [.slice pa A.length ca, .slice pb B.length cb] [A, B] (SLv.of_blk0 (n := 2) (c := 2) hab rfl (by decide)) rfl (by
      intro i x hx
      match i, hx with
      | 0, hx => simp at hx; subst hx; exact ⟨A, rfl, hva.ext hp.ext⟩
      | 1, hx => simp at hx; subst hx; exact ⟨B, rfl, hvb.ext hp.ext⟩
      | i + 2, hx => simp at hx) (by simp; omega) (by simp)).mono ?_
    rintro e w ⟨v2, rfl, _, rfl, hq2⟩
    refine ⟨_, rfl, ?_⟩
    have hp := hp.join hq2
    obtain ⟨p2, c2, rfl⟩ := row_shape (hp.get (i := 0) rfl)
    obtain ⟨p1, c1, rfl⟩ := row_shape (hp.get (i := 1) rfl)
    rw [show [A, B].flatten = A ++ B by simp] at hp ⊢
    conv => whnf
    refine And.intro hq2.ext ?_
    conv => whnf
    refine ⟨.agg #[.int .i64 r, .int .i64 c, .slice p1 L.length c1, .slice p2 (A ++ B).length c2], fun w' _ => by kernel_rfl, ?_⟩
    conv => whnf
    intro w hx
    have hp := hp.call hx
    conv => whnf
    refine hp.kbox ([.int .i64 r, .int .i64 c, .slice p1 L.length c1, .slice p2 (A ++ B).length c2]) rfl fun wb w hp hx => ?_
    have hp := hp.pick [0, 2, 1] (by decide)
    conv => whnf
    refine And.intro hx ?_
    conv => whnf
    intro w hx
    have hp := hp.call hx
    exact hK _ _ _ _ hp _ (sub_cons rfl (sub_cons rfl (sub_cons rfl (sub_cons rfl sub_nil))))
end Go.Proofs.YtpiilfamfinieaaDoor
