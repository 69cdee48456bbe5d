/- Chapter 05: numbers and their digits; mathematics. -/
import Derived.Test.YtejphmgpndgliaaQ
namespace Go.Proofs.Ytejphmgpndgliaa
set_option linter.unusedSimpArgs false
set_option linter.unusedVariables false
def valB (b : Nat) : List Nat → Nat
  | [] => 0
  | x :: l => x + b * valB b l
def chain (b : Nat) : Nat → List Nat → List Nat × Nat
  | c, [] => ([], c)
  | c, x :: l => ((x + c) % b :: (chain b ((x + c) / b) l).1, (chain b ((x + c) / b) l).2)
def digB (b : Nat) : Nat → Nat → List Nat
  | 0, _ => []
  | n + 1, k => k % b :: digB b n (k / b)
theorem digB_len (b : Nat) : ∀ n k, (digB b n k).length = n
  | 0, _ => rfl
  | n + 1, k => by rw [digB, List.length_cons, digB_len b n]
theorem digB_lt (b : Nat) (hb : 0 < b) : ∀ n k, ∀ x ∈ digB b n k, x < b
  | 0, _, x, h => by simp [digB] at h
  | n + 1, k, x, h => by
    rw [digB] at h
    rcases List.mem_cons.1 h with rfl | h
    · exact Nat.mod_lt _ hb
    · exact digB_lt b hb n _ x h
theorem digB_val (b : Nat) : ∀ n k, valB b (digB b n k) = k % b ^ n
  | 0, k => by rw [digB, valB, Nat.pow_zero, Nat.mod_one]
  | n + 1, k => by
    rw [digB, valB, digB_val b n, Nat.pow_succ, Nat.mul_comm (b ^ n) b, Nat.mod_mul]
theorem digB_get (b : Nat) : ∀ n k i, i < n → (digB b n k)[i]? = some (k / b ^ i % b)
  | 0, k, i, h => by omega
  | n + 1, k, 0, h => by rw [digB]; simp
  | n + 1, k, i + 1, h => by
    rw [digB, List.getElem?_cons_succ, digB_get b n (k / b) i (by omega), Nat.div_div_eq_div_mul, Nat.pow_succ, Nat.mul_comm b]
theorem digB_mod (b : Nat) : ∀ n k, digB b n (k % b ^ n) = digB b n k
  | 0, _ => rfl
  | n + 1, k => by
    have h1 : k % b ^ (n + 1) % b = k % b := by rw [Nat.pow_succ, Nat.mod_mul_left_mod]
    have h2 : k % b ^ (n + 1) / b = k / b % b ^ n := by rw [Nat.pow_succ, Nat.mul_comm (b ^ n) b, Nat.mod_mul_right_div_self]
    rw [digB, digB, h1, h2, digB_mod b n]
theorem digB_of (b : Nat) (hb : 0 < b) : ∀ l : List Nat, (∀ x ∈ l, x < b) → l = digB b l.length (valB b l)
  | [], _ => rfl
  | x :: l, h => by
    have hx := h x List.mem_cons_self
    have ih := digB_of b hb l fun y hy => h y (List.mem_cons_of_mem _ hy)
    rw [List.length_cons, digB, valB, Nat.add_mul_mod_self_left, Nat.mod_eq_of_lt hx, Nat.add_mul_div_left _ _ hb, Nat.div_eq_of_lt hx, Nat.zero_add, ← ih]
theorem valB_lt (b : Nat) (hb : 0 < b) : ∀ l : List Nat, (∀ x ∈ l, x < b) → valB b l < b ^ l.length
  | [], _ => by simp [valB]
  | x :: l, h => by
    have hx := h x List.mem_cons_self
    have ih := valB_lt b hb l fun y hy => h y (List.mem_cons_of_mem _ hy)
    rw [valB, List.length_cons, Nat.pow_succ, Nat.mul_comm (b ^ l.length)]
    calc x + b * valB b l < b + b * valB b l := by omega
      _ = b * (valB b l + 1) := by rw [Nat.mul_add, Nat.mul_one, Nat.add_comm]
      _ ≤ b * b ^ l.length := Nat.mul_le_mul_left b ih
theorem chain_val (b : Nat) : ∀ (l : List Nat) (c : Nat), valB b (chain b c l).1 + b ^ l.length * (chain b c l).2 = c + valB b l
  | [], c => by simp [chain, valB]
  | x :: l, c => by
    have ih := chain_val b l ((x + c) / b)
    rw [chain, valB, valB, List.length_cons, Nat.pow_succ, Nat.mul_comm (b ^ l.length) b, Nat.mul_assoc, Nat.add_assoc, ← Nat.mul_add, ih, Nat.mul_add]
    have := Nat.mod_add_div (x + c) b
    omega
theorem chain_len (b : Nat) : ∀ (l : List Nat) (c : Nat), (chain b c l).1.length = l.length
  | [], _ => rfl
  | x :: l, c => by rw [chain, List.length_cons, List.length_cons, chain_len b l]
theorem chain_lt (b : Nat) (hb : 0 < b) : ∀ (l : List Nat) (c : Nat), ∀ x ∈ (chain b c l).1, x < b
  | [], _, x, h => by simp [chain] at h
  | y :: l, c, x, h => by
    rw [chain] at h
    rcases List.mem_cons.1 h with rfl | h
    · exact Nat.mod_lt _ hb
    · exact chain_lt b hb l _ x h
/-- carries are digits of the value -/
theorem chain_dig (b : Nat) (hb : 0 < b) (l : List Nat) (c : Nat) : (chain b c l).1 = digB b l.length (c + valB b l) ∧ (chain b c l).2 = (c + valB b l) / b ^ l.length := by
  have hv := chain_val b l c
  have hl := chain_lt b hb l c
  have h1 := digB_of b hb _ hl
  have h2 := valB_lt b hb _ hl
  rw [chain_len] at h1 h2
  have hp : 0 < b ^ l.length := Nat.pow_pos hb
  constructor
  · rw [h1, ← hv, ← digB_mod b l.length (_ + _), Nat.add_mul_mod_self_left, digB_mod]
  · rw [← hv, Nat.add_mul_div_left _ _ hp, Nat.div_eq_of_lt h2, Nat.zero_add]
/-- the carries of the first i places are made -/
def chJ (b c : Nat) (l : List Nat) (i : Nat) : List Nat × Nat := ((chain b c (l.take i)).1 ++ l.drop i, (chain b c (l.take i)).2)
theorem chain_app (b : Nat) : ∀ (l : List Nat) (c y : Nat), chain b c (l ++ [y]) = ((chain b c l).1 ++ [(y + (chain b c l).2) % b], (y + (chain b c l).2) / b)
  | [], c, y => by simp [chain]
  | x :: l, c, y => by
    rw [List.cons_append, chain, chain_app b l, chain]
    rfl
theorem chJ_zero (b c : Nat) (l : List Nat) : chJ b c l 0 = (l, c) := by simp [chJ, chain]
theorem chJ_all (b c : Nat) (l : List Nat) : chJ b c l l.length = chain b c l := by simp [chJ]
theorem chJ_len (b c : Nat) (l : List Nat) (i : Nat) : (chJ b c l i).1.length = l.length := by
  unfold chJ
  rw [List.length_append, chain_len, List.length_take, List.length_drop]; omega
theorem chJ_get (b c : Nat) (l : List Nat) (i : Nat) (h : i < l.length) : (chJ b c l i).1[i]? = some l[i] := by
  have hl : (chain b c (l.take i)).1.length = i := by rw [chain_len, List.length_take]; omega
  show ((chain b c (l.take i)).1 ++ l.drop i)[i]? = some l[i]
  rw [List.getElem?_append_right (by omega), hl, Nat.sub_self, List.getElem?_drop, Nat.add_zero, List.getElem?_eq_getElem h]
theorem chJ_succ (b c : Nat) (l : List Nat) (i : Nat) (h : i < l.length) : chJ b c l (i + 1) = ((chJ b c l i).1.set i ((l[i] + (chJ b c l i).2) % b), (l[i] + (chJ b c l i).2) / b) := by
  have hl : (chain b c (l.take i)).1.length = i := by rw [chain_len, List.length_take]; omega
  unfold chJ
  rw [show l.take (i + 1) = l.take i ++ [l[i]] from by rw [List.take_add_one, List.getElem?_eq_getElem h]; rfl, chain_app, List.set_append, if_neg (by omega), hl, Nat.sub_self, List.drop_eq_getElem_cons h, List.set_cons_zero, List.append_assoc]
  rfl
theorem chJ_carry (b c : Nat) (hb : 0 < b) (l : List Nat) (i : Nat) (B : Nat) (hB : ∀ x ∈ l, x ≤ B * (b - 1)) (hc : c ≤ B) : (chJ b c l i).2 ≤ B := by
  show (chain b c (l.take i)).2 ≤ B
  have key : ∀ (l : List Nat) (c : Nat), (∀ x ∈ l, x ≤ B * (b - 1)) → c ≤ B → (chain b c l).2 ≤ B := by
    intro l
    induction l with
    | nil => intro c _ hc; exact hc
    | cons x l ih =>
      intro c h hc
      rw [chain]
      refine ih _ (fun y hy => h y (List.mem_cons_of_mem _ hy)) ?_
      have hx := h x List.mem_cons_self
      have : x + c ≤ B * b := by
        have e : B * b = B * (b - 1) + B := by
          obtain ⟨k, rfl⟩ : ∃ k, b = k + 1 := ⟨b - 1, by omega⟩
          rw [Nat.add_sub_cancel, Nat.mul_succ]
        omega
      calc (x + c) / b ≤ B * b / b := Nat.div_le_div_right this
        _ = B := Nat.mul_div_cancel _ hb
  exact key _ _ (fun x hx => hB x (List.mem_of_mem_take hx)) hc
end Go.Proofs.Ytejphmgpndgliaa
