/- Chapter 27: what stays lost; mathematics. -/
import Derived.Test.YtpiilfamfinieaaDoorC27AL
namespace Go.Proofs.YtpiilfamfinieaaDoor
set_option linter.unusedSimpArgs false
set_option linter.unusedVariables false
open Go.RowKit V
def subB (a b : Nat) : Prop := ∀ j, a.testBit j = true → b.testBit j = true
theorem subB.refl (a : Nat) : subB a a := fun _ h => h
theorem subB.trans {a b c : Nat} (h : subB a b) (k : subB b c) : subB a c := fun j hj => k j (h j hj)
theorem subB_clr (x i : Nat) (hx : x < 18446744073709551616) (hi : i < 64) : subB (clr x i) x := fun j h => by
  rw [clr_bit x i j hx hi] at h
  simp at h; exact h.1
theorem hits_sub {r c a b l : Nat} (h : subB a b) : ∀ i ∈ hits r c a l, i ∈ hits r c b l := fun i hi => by
  obtain ⟨h1, h2, h3⟩ := mem_hits.1 hi
  exact mem_hits.2 ⟨h1, h i h2, h3⟩
theorem hits_nodup (r c a l : Nat) : (hits r c a l).Nodup := List.Pairwise.filter _ List.nodup_range
theorem hits_eq_one {r c a l i : Nat} (h : ∀ j, j ∈ hits r c a l ↔ j = i) : hits r c a l = [i] := by
  have hn := hits_nodup r c a l
  generalize hits r c a l = L at h hn
  match L with
  | [] => have := (h i).2 rfl; simp at this
  | [x] => rw [(h x).1 (by simp)]
  | x :: y :: t =>
    have hx := (h x).1 (by simp)
    have hy := (h y).1 (by simp)
    rw [List.nodup_cons] at hn
    exact absurd (by rw [hx, hy]; simp) hn.1
/-- alone, by lines -/
def AloneL (r c kr kc set i : Nat) : Prop := ∃ l, l < r + c ∧ knownL r kr kc l = true ∧ hits r c set l = [i]
theorem hits_of_and (r c set l i : Nat) (hc : 0 < c) (hl : l < r + c) (hi : i < r * c) (h : set &&& lineS r c l = 2 ^ i) : hits r c set l = [i] := by
  apply hits_eq_one
  intro j
  rw [mem_hits]
  have := congrArg (fun n => n.testBit j) h
  simp only [Nat.testBit_and, lineS_bit r c l j hc hl, Nat.testBit_two_pow] at this
  constructor
  · rintro ⟨h1, h2, h3⟩
    rw [h2, h3] at this
    simp [h1] at this
    exact this.symm
  · rintro rfl
    simp at this
    exact ⟨hi, this.1, this.2.1⟩
theorem alone_iff (r c kr kc set i : Nat) (h : Shp r c) (hi : i < r * c) : aloneB r c kr kc set i = true ↔ AloneL r c kr kc set i := by
  unfold Shp at h
  have hc0 : 0 < c := by omega
  have hdi : i / c < r := Nat.div_lt_of_lt_mul (by rw [Nat.mul_comm]; exact hi)
  have hmi : i % c < c := Nat.mod_lt _ hc0
  unfold aloneB
  rw [Bool.or_eq_true, Bool.and_eq_true, Bool.and_eq_true, decide_eq_true_iff, decide_eq_true_iff]
  constructor
  · rintro (⟨h1, h2⟩ | ⟨h1, h2⟩)
    · exact ⟨i / c, by omega, by unfold knownL; rw [if_pos hdi]; exact h1, hits_of_and r c set _ i hc0 (by omega) hi h2⟩
    · exact ⟨r + i % c, by omega, by unfold knownL; rw [if_neg (by omega), Nat.add_sub_cancel_left]; exact h1, hits_of_and r c set _ i hc0 (by omega) hi h2⟩
  · rintro ⟨l, hl, hk, hh⟩
    have hon : onL r c l i = true := (mem_hits.1 (by rw [hh]; simp : i ∈ hits r c set l)).2.2
    have hb := hits_bit r c set l i hc0 hl hh
    unfold onL at hon
    unfold knownL at hk
    by_cases hlr : l < r
    · rw [if_pos hlr, beq_iff_eq] at hon
      rw [if_pos hlr] at hk
      subst hon
      exact .inl ⟨hk, hb⟩
    · rw [if_neg hlr, beq_iff_eq] at hon
      rw [if_neg hlr] at hk
      have : l = r + i % c := by omega
      subst this
      rw [Nat.add_sub_cancel_left] at hk
      exact .inr ⟨hk, hb⟩
theorem firstL_none {r c kr kc lost : Nat} (h : firstL r c kr kc lost 0 = none) (i : Nat) : ¬ AloneL r c kr kc lost i := by
  rintro ⟨l, hl, hk, hh⟩
  unfold firstL at h
  rw [List.findSome?_eq_none_iff] at h
  have := h l (by simp; omega)
  unfold pickL at this
  rw [if_pos hk, hh] at this
  simp [one1] at this
/-- what stays lost has no place that is alone -/
theorem planF_stuck (r c kr kc : Nat) (hrc : r * c ≤ 48) : ∀ (f lost : Nat), lost < 18446744073709551616 → cnt r c lost ≤ f → (firstL r c kr kc (planF r c kr kc f lost).2 0 = none ∧ subB (planF r c kr kc f lost).2 lost ∧ (planF r c kr kc f lost).2 < 18446744073709551616)
  | 0, lost, hx, hc => by
    cases hf : firstL r c kr kc lost 0 with
    | none => exact ⟨hf, subB.refl _, hx⟩
    | some p =>
      obtain ⟨l, i⟩ := p
      obtain ⟨h, _⟩ := plan_step r c kr kc 0 lost l i hx hrc hc hf
      omega
  | f + 1, lost, hx, hc => by
    cases hf : firstL r c kr kc lost 0 with
    | none => rw [plan_end r c kr kc (f + 1) lost hf]; exact ⟨hf, subB.refl _, hx⟩
    | some p =>
      obtain ⟨l, i⟩ := p
      obtain ⟨h, e, hc2⟩ := plan_step r c kr kc (f + 1) lost l i hx hrc hc hf
      rw [e]
      obtain ⟨h1, h2, h3⟩ := planF_stuck r c kr kc hrc f (clr lost i) (clr_lt _ _ hx) hc2
      obtain ⟨_, _, hh⟩ := firstL_some hf
      have hi := (mem_hits.1 (by rw [hh]; simp : i ∈ hits r c lost l)).1
      exact ⟨h1, h2.trans (subB_clr lost i hx (by omega)), h3⟩
/-- it is the greatest such set -/
theorem planF_great (r c kr kc : Nat) (hrc : r * c ≤ 48) (T : Nat) (hT : ∀ i, T.testBit i = true → ¬ AloneL r c kr kc T i) : ∀ (f lost : Nat), lost < 18446744073709551616 → subB T lost → subB T (planF r c kr kc f lost).2
  | 0, lost, hx, h => h
  | f + 1, lost, hx, h => by
    rw [planF]
    cases hf : firstL r c kr kc lost 0 with
    | none => exact h
    | some p =>
      obtain ⟨l, i⟩ := p
      obtain ⟨hl, hk, hh⟩ := firstL_some hf
      have hi := (mem_hits.1 (by rw [hh]; simp : i ∈ hits r c lost l))
      refine planF_great r c kr kc hrc T hT f (clr lost i) (clr_lt _ _ hx) fun j hj => ?_
      rw [clr_bit lost i j hx (by omega), h j hj]
      by_cases e : j = i
      · subst e
        exfalso
        refine hT j hj ⟨l, hl, hk, hits_eq_one fun m => ⟨fun hm => ?_, ?_⟩⟩
        · have := hits_sub h m hm
          rw [hh] at this; simpa using this
        · rintro rfl
          exact mem_hits.2 ⟨hi.1, hj, hi.2.2⟩
      · simp [e]
theorem planL_stuck (r c lost kr kc : Nat) (hrc : r * c ≤ 48) (hx : lost < 18446744073709551616) : (∀ i, ¬ AloneL r c kr kc (planL r c lost kr kc).2 i) ∧ subB (planL r c lost kr kc).2 lost ∧ (planL r c lost kr kc).2 < 18446744073709551616 := by
  obtain ⟨h1, h2, h3⟩ := planF_stuck r c kr kc hrc (r * c) lost hx (cnt_le r c lost)
  exact ⟨firstL_none h1, h2, h3⟩
theorem planL_great (r c lost kr kc : Nat) (hrc : r * c ≤ 48) (hx : lost < 18446744073709551616) (T : Nat) (hT : ∀ i, T.testBit i = true → ¬ AloneL r c kr kc T i) (h : subB T lost) : subB T (planL r c lost kr kc).2 :=
  planF_great r c kr kc hrc T hT (r * c) lost hx h
/-- with more known covers and fewer lost places no more stays lost -/
theorem planL_more (r c lost kr kc lost2 kr2 kc2 : Nat) (hrc : r * c ≤ 48) (hx : lost < 18446744073709551616) (hx2 : lost2 < 18446744073709551616) (h : subB lost2 lost) (hk : ∀ l, knownL r kr kc l = true → knownL r kr2 kc2 l = true) :
    subB (planL r c lost2 kr2 kc2).2 (planL r c lost kr kc).2 := by
  obtain ⟨h1, h2, _⟩ := planL_stuck r c lost2 kr2 kc2 hrc hx2
  refine planL_great r c lost kr kc hrc hx _ (fun i _ => ?_) (h2.trans h)
  rintro ⟨l, hl, hkn, hh⟩
  exact h1 i ⟨l, hl, hk l hkn, hh⟩
/-- how many bits are set below n -/
def bitsN (n x : Nat) : Nat := ((List.range n).filter x.testBit).length
theorem bitsN_succ (n x : Nat) : bitsN (n + 1) x = bitsN n x + (if x.testBit n = true then 1 else 0) := by
  unfold bitsN
  rw [List.range_succ, List.filter_append, List.length_append]
  by_cases h : x.testBit n = true
  · rw [if_pos h, List.filter_cons, if_pos h]; rfl
  · rw [if_neg h, List.filter_cons, if_neg h]; rfl
theorem bitsN_congr (x y : Nat) : ∀ n, (∀ j < n, x.testBit j = y.testBit j) → bitsN n x = bitsN n y
  | 0, _ => rfl
  | n + 1, h => by rw [bitsN_succ, bitsN_succ, bitsN_congr x y n (fun j hj => h j (by omega)), h n (by omega)]
theorem bitsN_one (x y i : Nat) (hx : x.testBit i = true) (hy : y.testBit i = false) (h : ∀ j, j ≠ i → x.testBit j = y.testBit j) : ∀ n, i < n → bitsN n x = bitsN n y + 1
  | 0, hi => by omega
  | n + 1, hi => by
    rw [bitsN_succ, bitsN_succ]
    by_cases e : n = i
    · subst e
      rw [hx, hy, bitsN_congr x y n (fun j hj => h j (by omega))]; simp
    · rw [bitsN_one x y i hx hy h n (by omega), h n (by omega)]; omega
theorem planF_count (r c kr kc : Nat) (hrc : r * c ≤ 48) : ∀ (f lost : Nat), lost < 18446744073709551616 → (planF r c kr kc f lost).2 < 18446744073709551616 ∧ subB (planF r c kr kc f lost).2 lost ∧ (planF r c kr kc f lost).1.length = bitsN 64 (lost &&& (18446744073709551615 - (planF r c kr kc f lost).2))
  | 0, lost, hx => by
    refine ⟨hx, subB.refl _, ?_⟩
    show 0 = bitsN 64 (lost &&& (18446744073709551615 - lost))
    rw [bitsN_congr _ 0 64 (fun j _ => by rw [andNot_bit lost lost j hx hx]; simp)]
    rfl
  | f + 1, lost, hx => by
    rw [planF]
    cases hf : firstL r c kr kc lost 0 with
    | none =>
      refine ⟨hx, subB.refl _, ?_⟩
      show 0 = bitsN 64 (lost &&& (18446744073709551615 - lost))
      rw [bitsN_congr _ 0 64 (fun j _ => by rw [andNot_bit lost lost j hx hx]; simp)]
      rfl
    | some p =>
      obtain ⟨l, i⟩ := p
      obtain ⟨hl, hk, hh⟩ := firstL_some hf
      obtain ⟨g1, g2, g3⟩ := (mem_hits.1 (by rw [hh]; simp : i ∈ hits r c lost l))
      obtain ⟨k1, k2, k3⟩ := planF_count r c kr kc hrc f (clr lost i) (clr_lt _ _ hx)
      have hi : i < 64 := by omega
      have hni : (planF r c kr kc f (clr lost i)).2.testBit i = false := by
        cases hb : (planF r c kr kc f (clr lost i)).2.testBit i with
        | false => rfl
        | true =>
          have := k2 i hb
          rw [clr_bit lost i i hx hi] at this
          simp at this
      refine ⟨k1, k2.trans (subB_clr lost i hx hi), ?_⟩
      show (planF r c kr kc f (clr lost i)).1.length + 1 = _
      rw [k3]
      refine (bitsN_one _ _ i ?_ ?_ ?_ 64 hi).symm
      · rw [andNot_bit lost _ i hx k1, g2, hni]; rfl
      · rw [andNot_bit _ _ i (clr_lt _ _ hx) k1, clr_bit lost i i hx hi]; simp
      · intro j hj
        rw [andNot_bit lost _ j hx k1, andNot_bit _ _ j (clr_lt _ _ hx) k1, clr_bit lost i j hx hi]; simp [hj]
theorem planL_count (r c lost kr kc : Nat) (hrc : r * c ≤ 48) (hx : lost < 18446744073709551616) : (planL r c lost kr kc).1.length = popN (lost &&& (18446744073709551615 - (planL r c lost kr kc).2)) 64 := by
  rw [popN_filter]
  exact (planF_count r c kr kc hrc (r * c) lost hx).2.2
theorem subB_andNot {a b : Nat} (ha : a < 18446744073709551616) (hb : b < 18446744073709551616) (h : subB a b) : a &&& (18446744073709551615 - b) = 0 := by
  apply Nat.eq_of_testBit_eq
  intro j
  rw [andNot_bit a b j ha hb, Nat.zero_testBit]
  cases hj : a.testBit j with
  | false => rfl
  | true => rw [h j hj]; rfl
/-- a set is made smaller: one look at a place -/
def peel1 (r c kr kc set i : Nat) : Nat := if (set.testBit i && aloneB r c kr kc set i) = true then clr set i else set
/-- the places below n, the greatest first -/
def peelN (r c kr kc : Nat) : Nat → Nat → Nat
  | 0, set => set
  | n + 1, set => peelN r c kr kc n (peel1 r c kr kc set n)
def peelR (r c kr kc : Nat) : Nat → Nat → Nat
  | 0, set => set
  | n + 1, set => peelR r c kr kc n (peelN r c kr kc (r * c) set)
theorem peel1_lt (r c kr kc set i : Nat) (hx : set < 18446744073709551616) : peel1 r c kr kc set i < 18446744073709551616 := by
  unfold peel1
  split
  · exact clr_lt _ _ hx
  · exact hx
theorem peelN_lt (r c kr kc : Nat) : ∀ (n set : Nat), set < 18446744073709551616 → peelN r c kr kc n set < 18446744073709551616
  | 0, _, h => h
  | n + 1, set, h => peelN_lt r c kr kc n _ (peel1_lt r c kr kc set n h)
theorem peelR_lt (r c kr kc : Nat) : ∀ (n set : Nat), set < 18446744073709551616 → peelR r c kr kc n set < 18446744073709551616
  | 0, _, h => h
  | n + 1, set, h => peelR_lt r c kr kc n _ (peelN_lt r c kr kc (r * c) set h)
theorem peel1_cases (r c kr kc set i : Nat) (hx : set < 18446744073709551616) (hi : i < 64) : (peel1 r c kr kc set i = set ∧ ¬ (set.testBit i = true ∧ aloneB r c kr kc set i = true)) ∨ (subB (peel1 r c kr kc set i) set ∧ bitsN 64 (peel1 r c kr kc set i) < bitsN 64 set) := by
  unfold peel1
  split
  · rename_i h
    rw [Bool.and_eq_true] at h
    refine .inr ⟨subB_clr set i hx hi, ?_⟩
    have := bitsN_one set (clr set i) i h.1 (by rw [clr_bit set i i hx hi]; simp) (fun j hj => by rw [clr_bit set i j hx hi]; simp [hj]) 64 hi
    omega
  · rename_i h
    rw [Bool.and_eq_true] at h
    exact .inl ⟨rfl, h⟩
theorem peelN_cases (r c kr kc : Nat) : ∀ (n set : Nat), n ≤ 64 → set < 18446744073709551616 → (peelN r c kr kc n set = set ∧ ∀ i < n, ¬ (set.testBit i = true ∧ aloneB r c kr kc set i = true)) ∨ (subB (peelN r c kr kc n set) set ∧ bitsN 64 (peelN r c kr kc n set) < bitsN 64 set)
  | 0, set, _, _ => .inl ⟨rfl, fun i hi => by omega⟩
  | n + 1, set, hn, hx => by
    rw [peelN]
    rcases peel1_cases r c kr kc set n hx (by omega) with ⟨e, h1⟩ | ⟨h1, h2⟩
    · rw [e]
      rcases peelN_cases r c kr kc n set (by omega) hx with ⟨e2, h2⟩ | h2
      · refine .inl ⟨e2, fun i hi => ?_⟩
        by_cases hin : i = n
        · subst hin; exact h1
        · exact h2 i (by omega)
      · exact .inr h2
    · rcases peelN_cases r c kr kc n _ (by omega) (peel1_lt r c kr kc set n hx) with ⟨e2, _⟩ | ⟨g1, g2⟩
      · rw [e2]; exact .inr ⟨h1, h2⟩
      · exact .inr ⟨g1.trans h1, by omega⟩
theorem peelR_same (r c kr kc set : Nat) (h : peelN r c kr kc (r * c) set = set) : ∀ n, peelR r c kr kc n set = set
  | 0 => rfl
  | n + 1 => by rw [peelR, h]; exact peelR_same r c kr kc set h n
theorem peelR_end (r c kr kc : Nat) (hrc : r * c ≤ 48) : ∀ (n set : Nat), set < 18446744073709551616 → bitsN 64 set ≤ n → subB (peelR r c kr kc n set) set ∧ ∀ i < r * c, ¬ ((peelR r c kr kc n set).testBit i = true ∧ aloneB r c kr kc (peelR r c kr kc n set) i = true)
  | n, set, hx, hb => by
    rcases peelN_cases r c kr kc (r * c) set (by omega) hx with ⟨e, h⟩ | ⟨h1, h2⟩
    · rw [peelR_same r c kr kc set e n]; exact ⟨subB.refl _, h⟩
    · match n, hb with
      | 0, hb => omega
      | n + 1, hb =>
        rw [peelR]
        obtain ⟨g1, g2⟩ := peelR_end r c kr kc hrc n (peelN r c kr kc (r * c) set) (peelN_lt r c kr kc (r * c) set hx) (by omega)
        exact ⟨g1.trans h1, g2⟩
theorem bitsN_le (x n : Nat) (h : x < 2 ^ n) : ∀ m, bitsN m x ≤ n := fun m => by
  have key : bitsN m x ≤ bitsN n x := by
    have : ∀ m, bitsN m x ≤ bitsN (min m n) x := fun m => by
      induction m with
      | zero => simp
      | succ m ih =>
        by_cases hm : m < n
        · rw [show min (m + 1) n = m + 1 by omega]; exact Nat.le_refl _
        · rw [bitsN_succ, Nat.testBit_lt_two_pow (Nat.lt_of_lt_of_le h (Nat.pow_le_pow_right (by omega) (by omega)))]
          rw [show min (m + 1) n = min m n by omega]
          simpa using ih
    have mono : ∀ a b, a ≤ b → bitsN a x ≤ bitsN b x := fun a b hab => by
      obtain ⟨d, rfl⟩ : ∃ d, b = a + d := ⟨b - a, by omega⟩
      induction d with
      | zero => exact Nat.le_refl _
      | succ d ih => have := bitsN_succ (a + d) x; have := ih (by omega); rw [← Nat.add_assoc]; omega
    exact Nat.le_trans (this m) (mono _ _ (by omega))
  have : bitsN n x ≤ n := by unfold bitsN; have := List.length_filter_le x.testBit (List.range n); simpa using this
  omega
/-- the law RepairGreatest: any set of lost places, made smaller until none is alone, is a part of what stays lost -/
theorem peel_great (r c lost kr kc other : Nat) (h : Shp r c) (hl : lost < 2 ^ (r * c)) (ho : other < 18446744073709551616) :
    peelR r c kr kc (r * c) (other &&& lost) &&& (18446744073709551615 - (planL r c lost kr kc).2) = 0 := by
  have h' := h
  unfold Shp at h'
  have hrc : r * c ≤ 6 * 8 := Nat.mul_le_mul (by omega) (by omega)
  have hx : lost < 18446744073709551616 := Nat.lt_of_lt_of_le hl (show 2 ^ (r * c) ≤ 2 ^ 64 from Nat.pow_le_pow_right (by omega) (by omega))
  have ha : other &&& lost < 2 ^ (r * c) := Nat.lt_of_le_of_lt Nat.and_le_right hl
  have hax : other &&& lost < 18446744073709551616 := Nat.lt_of_le_of_lt Nat.and_le_right hx
  obtain ⟨g1, g2⟩ := peelR_end r c kr kc (by omega) (r * c) (other &&& lost) hax (bitsN_le _ _ ha 64)
  have hsub : subB (other &&& lost) lost := fun j hj => by
    rw [Nat.testBit_and, Bool.and_eq_true] at hj; exact hj.2
  obtain ⟨_, _, hlt⟩ := planL_stuck r c lost kr kc (by omega) hx
  refine subB_andNot (peelR_lt r c kr kc _ _ hax) hlt (planL_great r c lost kr kc (by omega) hx _ (fun i hi hal => ?_) (g1.trans hsub))
  have hirc : i < r * c := by
    apply Nat.lt_of_not_le
    intro hle
    have := hsub i (g1 i hi)
    rw [Nat.testBit_lt_two_pow (Nat.lt_of_lt_of_le hl (Nat.pow_le_pow_right (by omega) hle))] at this
    cases this
  exact g2 i hirc ⟨hi, (alone_iff r c kr kc _ i h hirc).2 hal⟩
end Go.Proofs.YtpiilfamfinieaaDoor
