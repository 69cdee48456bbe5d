/- Chapter 27: plans; mathematics. -/
import Derived.Test.YtpiilfamfinieaaDoorC27M
namespace Go.Proofs.YtpiilfamfinieaaDoor
set_option linter.unusedSimpArgs false
set_option linter.unusedVariables false
open Go.RowKit V
def knownL (r kr kc l : Nat) : Bool := if l < r then kr.testBit l else kc.testBit (l - r)
def hits (r c lost l : Nat) : List Nat := (List.range (r * c)).filter fun i => lost.testBit i && onL r c l i
def one1 : List Nat → Option Nat
  | [i] => some i
  | _ => none
def pickL (r c kr kc lost l : Nat) : Option (Nat × Nat) := if knownL r kr kc l = true then (one1 (hits r c lost l)).map fun i => (l, i) else none
def firstL (r c kr kc lost k : Nat) : Option (Nat × Nat) := ((List.range (r + c)).drop k).findSome? (pickL r c kr kc lost)
def clr (lost i : Nat) : Nat := lost &&& (18446744073709551615 - 2 ^ i)
def planF (r c kr kc : Nat) : Nat → Nat → List (Nat × Nat) × Nat
  | 0, lost => ([], lost)
  | f + 1, lost => match firstL r c kr kc lost 0 with
    | none => ([], lost)
    | some (l, i) => ((l, i) :: (planF r c kr kc f (clr lost i)).1, (planF r c kr kc f (clr lost i)).2)
def planL (r c lost kr kc : Nat) : List (Nat × Nat) × Nat := planF r c kr kc (r * c) lost
def cnt (r c lost : Nat) : Nat := ((List.range (r * c)).filter lost.testBit).length
theorem neg_bit (n j : Nat) (h : n < 18446744073709551616) : (18446744073709551615 - n).testBit j = (decide (j < 64) && !n.testBit j) := by
  have := Nat.testBit_two_pow_sub_succ (n := 64) (x := n) h j
  rw [show 2 ^ 64 - (n + 1) = 18446744073709551615 - n by omega] at this
  exact this
theorem hi_bit {x j : Nat} (h : x < 18446744073709551616) (hj : 64 ≤ j) : x.testBit j = false :=
  Nat.testBit_lt_two_pow (Nat.lt_of_lt_of_le h (show 2 ^ 64 ≤ 2 ^ j from Nat.pow_le_pow_right (by omega) hj))
theorem andNot_bit (x n j : Nat) (hx : x < 18446744073709551616) (hn : n < 18446744073709551616) : (x &&& (18446744073709551615 - n)).testBit j = (x.testBit j && !n.testBit j) := by
  rw [Nat.testBit_and, neg_bit n j hn]
  by_cases h : j < 64
  · simp [h]
  · rw [hi_bit hx (by omega)]; simp
theorem clr_bit (x i j : Nat) (hx : x < 18446744073709551616) (hi : i < 64) : (clr x i).testBit j = (x.testBit j && decide (j ≠ i)) := by
  unfold clr
  rw [andNot_bit x _ j hx (Nat.pow_lt_pow_right (n := 64) (by omega) hi), Nat.testBit_two_pow]
  congr 1
  by_cases h : i = j
  · simp [h]
  · simp [h, Ne.symm h]
theorem clr_lt (x i : Nat) (hx : x < 18446744073709551616) : clr x i < 18446744073709551616 := Nat.lt_of_le_of_lt Nat.and_le_left hx
theorem filter_lt {α : Type} {p q : α → Bool} : ∀ {l : List α} {x : α}, (∀ y ∈ l, q y = true → p y = true) → x ∈ l → p x = true → q x = false → (l.filter q).length < (l.filter p).length
  | [], x, _, hx, _, _ => by simp at hx
  | y :: l, x, h, hx, hp, hq => by
    have hle : ∀ l : List α, (∀ y ∈ l, q y = true → p y = true) → (l.filter q).length ≤ (l.filter p).length := by
      intro l
      induction l with
      | nil => intro _; simp
      | cons z l ih =>
        intro h
        have := ih (fun y hy => h y (List.mem_cons_of_mem _ hy))
        have hz := h z List.mem_cons_self
        rw [List.filter_cons, List.filter_cons]
        split
        · rename_i hqz; rw [if_pos (hz hqz)]; simpa using this
        · split
          · simp; omega
          · exact this
    have h' : ∀ y ∈ l, q y = true → p y = true := fun y hy => h y (List.mem_cons_of_mem _ hy)
    rw [List.filter_cons, List.filter_cons]
    rcases List.mem_cons.1 hx with rfl | hx
    · rw [if_neg (by simp [hq]), if_pos hp]; have := hle l h'; simp; omega
    · have ih := filter_lt h' hx hp hq
      have hy := h y List.mem_cons_self
      split
      · rename_i hqy; rw [if_pos (hy hqy)]; simpa using ih
      · split
        · simp; omega
        · exact ih
theorem mem_hits {r c lost l i : Nat} : i ∈ hits r c lost l ↔ i < r * c ∧ lost.testBit i = true ∧ onL r c l i = true := by simp [hits]
theorem one1_some {l : List Nat} {i : Nat} (h : one1 l = some i) : l = [i] := by
  match l, h with
  | [j], h => simp [one1] at h; rw [h]
theorem pickL_some {r c kr kc lost l : Nat} {p : Nat × Nat} (h : pickL r c kr kc lost l = some p) : ∃ i, p = (l, i) ∧ knownL r kr kc l = true ∧ hits r c lost l = [i] := by
  unfold pickL at h
  split at h
  · rename_i hk
    rw [Option.map_eq_some_iff] at h
    obtain ⟨i, hi, rfl⟩ := h
    exact ⟨i, rfl, hk, one1_some hi⟩
  · cases h
theorem firstL_some {r c kr kc lost k : Nat} {l i : Nat} (h : firstL r c kr kc lost k = some (l, i)) : l < r + c ∧ knownL r kr kc l = true ∧ hits r c lost l = [i] := by
  unfold firstL at h
  obtain ⟨l', hl', hp⟩ := List.exists_of_findSome?_eq_some h
  obtain ⟨j, e, hk, hh⟩ := pickL_some hp
  cases e
  exact ⟨by have := List.mem_of_mem_drop hl'; simpa using this, hk, hh⟩
theorem firstL_step (r c kr kc lost k : Nat) (h : k < r + c) : firstL r c kr kc lost k = match pickL r c kr kc lost k with
    | some p => some p
    | none => firstL r c kr kc lost (k + 1) := by
  unfold firstL
  rw [List.drop_eq_getElem_cons (by simpa using h), List.findSome?_cons]
  simp only [List.getElem_range]
  cases pickL r c kr kc lost k <;> rfl
theorem firstL_end (r c kr kc lost k : Nat) (h : r + c ≤ k) : firstL r c kr kc lost k = none := by
  unfold firstL
  rw [List.drop_eq_nil_of_le (by simpa using h)]; rfl
theorem cnt_clr (r c lost l i : Nat) (hx : lost < 18446744073709551616) (hm : r * c ≤ 48) (h : hits r c lost l = [i]) : cnt r c (clr lost i) < cnt r c lost := by
  have hi : i ∈ hits r c lost l := by rw [h]; simp
  obtain ⟨h1, h2, _⟩ := mem_hits.1 hi
  refine filter_lt (x := i) (fun y _ hy => ?_) (by simpa using h1) h2 (by rw [clr_bit _ _ _ hx (by omega)]; simp)
  rw [clr_bit _ _ _ hx (by omega)] at hy
  simp at hy; exact hy.1
theorem cnt_le (r c lost : Nat) : cnt r c lost ≤ r * c := by unfold cnt; have := List.length_filter_le lost.testBit (List.range (r * c)); simpa using this
theorem cnt_pos (r c lost l i : Nat) (h : hits r c lost l = [i]) : 0 < cnt r c lost := by
  have hi : i ∈ hits r c lost l := by rw [h]; simp
  obtain ⟨h1, h2, _⟩ := mem_hits.1 hi
  unfold cnt
  exact List.length_pos_of_mem (List.mem_filter.2 ⟨by simpa using h1, h2⟩)
/-- a step of the plan -/
theorem plan_step (r c kr kc m lost l i : Nat) (hx : lost < 18446744073709551616) (hrc : r * c ≤ 48) (hc : cnt r c lost ≤ m) (h : firstL r c kr kc lost 0 = some (l, i)) :
    0 < m ∧ planF r c kr kc m lost = ((l, i) :: (planF r c kr kc (m - 1) (clr lost i)).1, (planF r c kr kc (m - 1) (clr lost i)).2) ∧ cnt r c (clr lost i) ≤ m - 1 := by
  obtain ⟨_, _, hh⟩ := firstL_some h
  have h1 := cnt_pos r c lost l i hh
  have h2 := cnt_clr r c lost l i hx hrc hh
  obtain ⟨m, rfl⟩ : ∃ m', m = m' + 1 := ⟨m - 1, by omega⟩
  refine ⟨by omega, ?_, by omega⟩
  rw [planF, h, Nat.add_sub_cancel]
theorem plan_end (r c kr kc m lost : Nat) (h : firstL r c kr kc lost 0 = none) : planF r c kr kc m lost = ([], lost) := by
  cases m with
  | zero => rfl
  | succ m => rw [planF, h]
theorem popN_filter (x : Nat) : ∀ n, popN x n = ((List.range n).filter x.testBit).length := by
  intro n
  induction n generalizing x with
  | zero => rfl
  | succ n ih =>
    rw [popN, ih, List.range_succ_eq_map, List.filter_cons, List.filter_map, Nat.testBit_zero]
    have e : (List.filter ((x.testBit) ∘ Nat.succ) (List.range n)) = List.filter ((x / 2).testBit) (List.range n) := by
      apply List.filter_congr
      intro i _
      simp only [Function.comp, Nat.testBit_succ]
    by_cases h : x % 2 = 1
    · rw [decide_eq_true h, if_pos rfl]; simp [e, h]; omega
    · rw [decide_eq_false h, if_neg (by simp)]; simp [e]; omega
theorem filter_range_ext {p : Nat → Bool} {m n : Nat} (hmn : m ≤ n) (h : ∀ i, m ≤ i → p i = false) : (List.range n).filter p = (List.range m).filter p := by
  obtain ⟨d, rfl⟩ : ∃ d, n = m + d := ⟨n - m, by omega⟩
  rw [List.range_add, List.filter_append]
  have : (List.map (fun x => m + x) (List.range d)).filter p = [] := by
    rw [List.filter_eq_nil_iff]
    intro a ha
    obtain ⟨i, _, rfl⟩ := List.mem_map.1 ha
    simp [h (m + i) (by omega)]
  rw [this, List.append_nil]
/-- what is counted on a line -/
theorem hits_pop (r c lost l : Nat) (hc : 0 < c) (hrc : r * c ≤ 48) (hl : l < r + c) : popN (lost &&& lineS r c l) 64 = (hits r c lost l).length := by
  rw [popN_filter]
  have h1 : (List.range 64).filter (lost &&& lineS r c l).testBit = (List.range (r * c)).filter (lost &&& lineS r c l).testBit :=
    filter_range_ext (by omega) fun i hi => by
      rw [Nat.testBit_and, lineS_bit r c l i hc hl]; simp; intro _ _; omega
  rw [h1]
  unfold hits
  congr 1
  apply List.filter_congr
  intro i hi
  rw [Nat.testBit_and, lineS_bit r c l i hc hl]
  simp at hi
  simp [hi]
theorem hits_bit (r c lost l i : Nat) (hc : 0 < c) (hl : l < r + c) (h : hits r c lost l = [i]) : lost &&& lineS r c l = 2 ^ i := by
  apply Nat.eq_of_testBit_eq
  intro j
  rw [Nat.testBit_and, lineS_bit r c l j hc hl, Nat.testBit_two_pow]
  have hm : j ∈ hits r c lost l ↔ j = i := by rw [h]; simp
  rw [mem_hits] at hm
  rw [Bool.eq_iff_iff]
  simp only [Bool.and_eq_true, decide_eq_true_eq]
  constructor
  · rintro ⟨h1, h2, h3⟩; exact (hm.1 ⟨h3, h1, h2⟩).symm
  · intro e; obtain ⟨h1, h2, h3⟩ := hm.2 e.symm; exact ⟨h2, h3, h1⟩
theorem hits_clr (r c lost l i : Nat) (hc : 0 < c) (hrc : r * c ≤ 48) (hl : l < r + c) (hx : lost < 18446744073709551616) (hlt : lineS r c l < 18446744073709551616) (h : hits r c lost l = [i]) : lost &&& (18446744073709551615 - lineS r c l) = clr lost i := by
  apply Nat.eq_of_testBit_eq
  intro j
  have hi : i ∈ hits r c lost l := by rw [h]; simp
  have h1 := (mem_hits.1 hi).1
  rw [andNot_bit _ _ _ hx hlt, clr_bit _ _ _ hx (by omega), lineS_bit r c l j hc hl]
  have hm : j ∈ hits r c lost l ↔ j = i := by rw [h]; simp
  rw [mem_hits] at hm
  cases hb : lost.testBit j with
  | false => simp
  | true =>
    rw [hb] at hm
    simp only [Bool.true_and]
    by_cases e : j = i
    · obtain ⟨a, _, b⟩ := hm.2 e
      subst e
      simp [a, b]
    · have := mt hm.1 e
      simp only [e, ne_eq, not_false_eq_true, decide_true, Bool.not_eq_true']
      rw [Bool.and_eq_false_iff]
      by_cases ho : onL r c l j = true
      · right; simp; apply Nat.le_of_not_lt; intro hlt'; exact this ⟨hlt', rfl, ho⟩
      · left; simpa using ho
theorem known_bit (r kr kc l : Nat) (hk : kr < 2 ^ r) : (kr ||| kc * 2 ^ r).testBit l = knownL r kr kc l := by
  unfold knownL
  rw [Nat.testBit_or, mul_pow_bit]
  by_cases h : l < r
  · rw [if_pos h, decide_eq_false (by omega)]; simp
  · rw [if_neg h, decide_eq_true (by omega), Nat.testBit_lt_two_pow (Nat.lt_of_lt_of_le hk (Nat.pow_le_pow_right (by omega) (by omega)))]; simp
theorem div_bit (x i : Nat) : x / 2 ^ i % 2 = if x.testBit i then 1 else 0 := by
  rw [Nat.testBit_eq_decide_div_mod_eq]
  by_cases h : x / 2 ^ i % 2 = 1
  · simp [h]
  · simp [h]; omega
end Go.Proofs.YtpiilfamfinieaaDoor
