/- Chapter 05: the reference's numbers; mathematics. -/
import Derived.Test.YtejphmgpndgliaaC05M
namespace Go.Proofs.Ytejphmgpndgliaa
set_option linter.unusedSimpArgs false
set_option linter.unusedVariables false
abbrev PP : Nat := 57896044618658097711785492504343953926634992332820282019728792003956564819949
abbrev W6 : Nat := 115792089237316195423570985008687907853269984665640564039457584007913129639936
def red (V : Nat) : Nat := V % W6 + 38 * (V / W6)
def nrm (V : Nat) : Nat := red (red V)
theorem red_mod (V : Nat) : red V % PP = V % PP := by
  have h := Nat.mod_add_div V W6
  unfold red
  generalize V / W6 = q at *
  generalize V % W6 = r at *
  have e : V = r + 38 * q + PP * (2 * q) := by
    have : W6 * q = 38 * q + PP * (2 * q) := by unfold W6 PP; omega
    omega
  rw [e, Nat.add_mul_mod_self_left]
theorem nrm_mod (V : Nat) : nrm V % PP = V % PP := by unfold nrm; rw [red_mod, red_mod]
theorem nrm_lt (V : Nat) (h : V < 2 ^ 44 * W6) : nrm V < W6 := by
  unfold nrm red
  have h1 : V / W6 < 17592186044416 := Nat.div_lt_of_lt_mul (by rw [Nat.mul_comm]; exact h)
  have h2 : V % W6 < W6 := Nat.mod_lt _ (by decide)
  generalize V / W6 = q at *
  generalize V % W6 = r at *
  have h3 := Nat.mod_add_div (r + 38 * q) W6
  have h4 := Nat.mod_lt (r + 38 * q) (show 0 < W6 by decide)
  generalize (r + 38 * q) / W6 = q2 at *
  generalize (r + 38 * q) % W6 = r2 at *
  unfold W6 at *
  omega
theorem digB_zero_get (n k : Nat) (h : 0 < n) : (digB 65536 n k).getD 0 0 = k % 65536 := by
  rw [List.getD_eq_getElem?_getD, digB_get 65536 n k 0 h]; simp
def rnd (d : List Nat) : List Nat := (chain 65536 0 d).1.set 0 ((chain 65536 0 d).1.getD 0 0 + 38 * (chain 65536 0 d).2)
theorem valB_set (b : Nat) : ∀ (l : List Nat) (j y : Nat), j < l.length → valB b (l.set j (l.getD j 0 + y)) = valB b l + y * b ^ j
  | [], j, y, h => by simp at h
  | x :: l, 0, y, h => by simp [valB]; omega
  | x :: l, j + 1, y, h => by
    have ih := valB_set b l j y (by simpa using h)
    rw [List.set_cons_succ, valB, valB]
    have e : (x :: l).getD (j + 1) 0 = l.getD j 0 := rfl
    rw [e, ih, Nat.mul_add, Nat.pow_succ, ← Nat.add_assoc, Nat.mul_comm (b ^ j) b, Nat.mul_left_comm]
theorem rnd_len (d : List Nat) : (rnd d).length = d.length := by unfold rnd; rw [List.length_set, chain_len]
theorem rnd_val (d : List Nat) (h : d.length = 16) : valB 65536 (rnd d) = red (valB 65536 d) := by
  obtain ⟨h1, h2⟩ := chain_dig 65536 (by decide) d 0
  unfold rnd
  rw [valB_set 65536 _ 0 _ (by rw [chain_len]; omega), h1, h2, h, digB_val, Nat.zero_add, Nat.pow_zero, Nat.mul_one]
  rfl
theorem rnd3 (d : List Nat) (h : d.length = 16) (hV : valB 65536 d < 2 ^ 44 * W6) : rnd (rnd (rnd d)) = digB 65536 16 (nrm (valB 65536 d)) := by
  have l1 : (rnd d).length = 16 := by rw [rnd_len, h]
  have l2 : (rnd (rnd d)).length = 16 := by rw [rnd_len, l1]
  have v2 : valB 65536 (rnd (rnd d)) = nrm (valB 65536 d) := by rw [rnd_val _ l1, rnd_val _ h]; rfl
  have hn := nrm_lt _ hV
  obtain ⟨h1, h2⟩ := chain_dig 65536 (by decide) (rnd (rnd d)) 0
  rw [v2, l2, Nat.zero_add] at h1 h2
  have hz : (chain 65536 0 (rnd (rnd d))).2 = 0 := by rw [h2]; exact Nat.div_eq_of_lt hn
  show (chain 65536 0 (rnd (rnd d))).1.set 0 ((chain 65536 0 (rnd (rnd d))).1.getD 0 0 + 38 * (chain 65536 0 (rnd (rnd d))).2) = _
  rw [hz, h1, Nat.mul_zero, Nat.add_zero]
  have e : digB 65536 16 (nrm (valB 65536 d)) = (digB 65536 16 (nrm (valB 65536 d))).set 0 ((digB 65536 16 (nrm (valB 65536 d))).getD 0 0) := rfl
  exact e.symm
theorem valB_le (b M : Nat) (hb : 0 < b) : ∀ l : List Nat, (∀ x ∈ l, x ≤ M * (b - 1)) → valB b l ≤ M * (b ^ l.length - 1)
  | [], _ => by simp [valB]
  | x :: l, h => by
    have hx := h x List.mem_cons_self
    have ih := valB_le b M hb l fun y hy => h y (List.mem_cons_of_mem _ hy)
    have hp : 0 < b ^ l.length := Nat.pow_pos hb
    rw [valB, List.length_cons, Nat.pow_succ]
    obtain ⟨c, rfl⟩ : ∃ c, b = c + 1 := ⟨b - 1, by omega⟩
    obtain ⟨p, hp'⟩ : ∃ p, (c + 1) ^ l.length = p + 1 := ⟨(c + 1) ^ l.length - 1, by omega⟩
    rw [hp'] at ih ⊢
    simp only [Nat.add_sub_cancel] at hx ih ⊢
    have e1 : (p + 1) * (c + 1) - 1 = c + (c + 1) * p := by
      rw [Nat.add_mul, Nat.one_mul, Nat.mul_comm p]; omega
    rw [e1, Nat.mul_add]
    have e2 : (c + 1) * valB (c + 1) l ≤ (c + 1) * (M * p) := Nat.mul_le_mul_left _ ih
    have e3 : (c + 1) * (M * p) = M * ((c + 1) * p) := Nat.mul_left_comm _ _ _
    omega
/-- the list is folded: the first i places -/
def foldJ (l : List Nat) : Nat → List Nat
  | 0 => List.replicate 16 0
  | i + 1 => if i < 16 then (foldJ l i).set i ((foldJ l i).getD i 0 + l.getD i 0) else (foldJ l i).set (i - 16) ((foldJ l i).getD (i - 16) 0 + 38 * l.getD i 0)
theorem foldJ_len (l : List Nat) : ∀ i, (foldJ l i).length = 16
  | 0 => rfl
  | i + 1 => by rw [foldJ]; split <;> rw [List.length_set, foldJ_len l i]
theorem valB_take (b : Nat) : ∀ (l : List Nat) (i : Nat), valB b (l.take (i + 1)) = valB b (l.take i) + l.getD i 0 * b ^ i
  | [], i => by simp [valB]
  | x :: l, 0 => by simp [valB]
  | x :: l, i + 1 => by
    rw [List.take_succ_cons, List.take_succ_cons, valB, valB, valB_take b l i]
    have e : (x :: l).getD (i + 1) 0 = l.getD i 0 := rfl
    rw [e, Nat.mul_add, Nat.pow_succ, Nat.add_assoc, Nat.mul_comm (b ^ i) b, Nat.mul_left_comm]
theorem foldJ_val (l : List Nat) : ∀ i, i ≤ 32 → valB 65536 (foldJ l i) % PP = valB 65536 (l.take i) % PP
  | 0, _ => by rw [foldJ, List.take_zero]; decide
  | i + 1, h => by
    have ih := foldJ_val l i (by omega)
    rw [foldJ, valB_take]
    split
    · rename_i hi
      rw [valB_set _ _ _ _ (by rw [foldJ_len]; exact hi), Nat.add_mod, ih, ← Nat.add_mod]
    · rename_i hi
      rw [valB_set _ _ _ _ (by rw [foldJ_len]; omega), Nat.add_mod, ih, ← Nat.add_mod]
      obtain ⟨j, rfl⟩ : ∃ j, i = j + 16 := ⟨i - 16, by omega⟩
      rw [Nat.add_sub_cancel, Nat.pow_add]
      have e : l.getD (j + 16) 0 * (65536 ^ j * 65536 ^ 16) = 38 * l.getD (j + 16) 0 * 65536 ^ j + PP * (2 * (l.getD (j + 16) 0 * 65536 ^ j)) := by
        have : (65536 : Nat) ^ 16 = 38 + PP * 2 := by decide
        rw [this]
        generalize 65536 ^ j = u
        generalize l.getD (j + 16) 0 = v
        rw [← Nat.mul_assoc, Nat.mul_add, Nat.mul_assoc 38, Nat.mul_comm (v * u) 38, ← Nat.mul_assoc (v * u), Nat.mul_comm (v * u) PP, Nat.mul_assoc PP, Nat.mul_comm (v * u) 2]
      rw [e, ← Nat.add_assoc, Nat.add_mul_mod_self_left]
theorem foldJ_le (l : List Nat) (M : Nat) (hM : ∀ x ∈ l, x ≤ M) : ∀ i, i ≤ 32 → ∀ j, (foldJ l i).getD j 0 ≤ (if j < i then M else 0) + (if j + 16 < i then 38 * M else 0) := by
  have hg : ∀ k, l.getD k 0 ≤ M := fun k => by
    rw [List.getD_eq_getElem?_getD]
    cases h : l[k]? with
    | none => exact Nat.zero_le _
    | some x => exact hM x (List.mem_of_getElem? h)
  intro i
  induction i with
  | zero => intro _ j; rw [foldJ, List.getD_eq_getElem?_getD, List.getElem?_replicate]; split <;> exact Nat.zero_le _
  | succ i ih =>
    intro h j
    have ih := ih (by omega)
    rw [foldJ]
    split
    · rename_i hi
      rw [List.getD_eq_getElem?_getD, List.getElem?_set]
      split
      · rename_i e
        subst e
        rw [if_pos (by rw [foldJ_len]; exact hi)]
        have := ih i
        rw [if_neg (Nat.lt_irrefl _), if_neg (by omega)] at this
        have := hg i
        show (foldJ l i).getD i 0 + l.getD i 0 ≤ _
        rw [if_pos (by omega)]; omega
      · rw [← List.getD_eq_getElem?_getD]
        have := ih j
        split at this <;> split at this <;> (try rw [if_pos (by omega)]) <;> (try rw [if_pos (by omega)]) <;> omega
    · rename_i hi
      rw [List.getD_eq_getElem?_getD, List.getElem?_set]
      split
      · rename_i e
        subst e
        rw [if_pos (by rw [foldJ_len]; omega)]
        have := ih (i - 16)
        rw [if_pos (by omega), if_neg (by omega)] at this
        have := hg i
        show (foldJ l i).getD (i - 16) 0 + 38 * l.getD i 0 ≤ _
        rw [if_pos (by omega), if_pos (by omega)]; omega
      · rw [← List.getD_eq_getElem?_getD]
        have := ih j
        split at this <;> split at this <;> (try rw [if_pos (by omega)]) <;> (try rw [if_pos (by omega)]) <;> omega
theorem foldJ_cells (l : List Nat) (M : Nat) (hM : ∀ x ∈ l, x ≤ M) (i : Nat) (hi : i ≤ 32) : ∀ x ∈ foldJ l i, x ≤ 39 * M := fun x hx => by
  obtain ⟨j, hj⟩ := List.getElem?_of_mem hx
  have := foldJ_le l M hM i hi j
  rw [List.getD_eq_getElem?_getD, hj] at this
  show x ≤ 39 * M
  have h2 : x ≤ (if j < i then M else 0) + (if j + 16 < i then 38 * M else 0) := this
  split at h2 <;> split at h2 <;> omega
/-- the number of a list of at most 32 digits, each of at most 42 bits -/
def numL (l : List Nat) : Nat := nrm (valB 65536 (foldJ l l.length))
theorem numL_ok (l : List Nat) (hl : l.length ≤ 32) (hM : ∀ x ∈ l, x ≤ 68719476736) : rnd (rnd (rnd (foldJ l l.length))) = digB 65536 16 (numL l) ∧ numL l < W6 ∧ numL l % PP = valB 65536 l % PP := by
  have hc := foldJ_cells l _ hM l.length hl
  have hV : valB 65536 (foldJ l l.length) < 2 ^ 44 * W6 := by
    have := valB_le 65536 (41 * 1048576) (by decide) (foldJ l l.length) (fun x hx => by have := hc x hx; omega)
    rw [foldJ_len] at this
    exact Nat.lt_of_le_of_lt this (by decide)
  refine ⟨rnd3 _ (foldJ_len _ _) hV, nrm_lt _ hV, ?_⟩
  unfold numL
  rw [nrm_mod, foldJ_val l _ hl, List.take_length]
/-- products: l[i+k] += x b[k] for the first k places -/
def addK (x : Nat) (b : List Nat) (i : Nat) : Nat → List Nat → List Nat
  | 0, l => l
  | k + 1, l => (addK x b i k l).set (i + k) ((addK x b i k l).getD (i + k) 0 + x * b.getD k 0)
def convI (a b : List Nat) : Nat → List Nat
  | 0 => List.replicate 31 0
  | i + 1 => addK (a.getD i 0) b i 16 (convI a b i)
theorem addK_len (x : Nat) (b : List Nat) (i : Nat) (l : List Nat) : ∀ k, (addK x b i k l).length = l.length
  | 0 => rfl
  | k + 1 => by rw [addK, List.length_set, addK_len x b i l k]
theorem convI_len (a b : List Nat) : ∀ i, (convI a b i).length = 31
  | 0 => rfl
  | i + 1 => by rw [convI, addK_len, convI_len a b i]
theorem addK_val (x : Nat) (b : List Nat) (i : Nat) (l : List Nat) : ∀ k, i + k ≤ l.length → valB 65536 (addK x b i k l) = valB 65536 l + x * valB 65536 (b.take k) * 65536 ^ i
  | 0, _ => by simp [addK, valB]
  | k + 1, h => by
    rw [addK, valB_set _ _ _ _ (by rw [addK_len]; omega), addK_val x b i l k (by omega), valB_take, Nat.mul_add, Nat.add_mul, Nat.pow_add, Nat.add_assoc]
    congr 2
    rw [Nat.mul_assoc x, Nat.mul_assoc x, Nat.mul_assoc, Nat.mul_comm (65536 ^ i)]
theorem convI_val (a b : List Nat) (hb : b.length = 16) : ∀ i, i ≤ 16 → valB 65536 (convI a b i) = valB 65536 (a.take i) * valB 65536 b
  | 0, _ => by rw [convI]; simp [valB]
  | i + 1, h => by
    rw [convI, addK_val _ _ _ _ _ (by rw [convI_len]; omega), convI_val a b hb i (by omega), show b.take 16 = b by rw [List.take_of_length_le (by omega)], valB_take, Nat.add_mul, Nat.mul_right_comm]
theorem addK_le (x : Nat) (b : List Nat) (i : Nat) (l : List Nat) (M : Nat) (hM : ∀ k, x * b.getD k 0 ≤ M) : ∀ k j, (addK x b i k l).getD j 0 ≤ l.getD j 0 + (if j < i + k ∧ i ≤ j then M else 0)
  | 0, j => by rw [addK]; omega
  | k + 1, j => by
    have ih := addK_le x b i l M hM k
    rw [addK, List.getD_eq_getElem?_getD, List.getElem?_set]
    split
    · rename_i e
      subst e
      split
      · have := ih (i + k)
        rw [if_neg (by omega)] at this
        have := hM k
        show (addK x b i k l).getD (i + k) 0 + x * b.getD k 0 ≤ _
        rw [if_pos (by omega)]; omega
      · exact Nat.zero_le _
    · rw [← List.getD_eq_getElem?_getD]
      have := ih j
      split at this
      · rw [if_pos (by omega)]; omega
      · split <;> omega
theorem getD_le {l : List Nat} {M : Nat} (h : ∀ x ∈ l, x ≤ M) (k : Nat) : l.getD k 0 ≤ M := by
  rw [List.getD_eq_getElem?_getD]
  cases hk : l[k]? with
  | none => exact Nat.zero_le _
  | some x => exact h x (List.mem_of_getElem? hk)
theorem mem_le {l : List Nat} {M : Nat} (h : ∀ j, l.getD j 0 ≤ M) : ∀ x ∈ l, x ≤ M := fun x hx => by
  obtain ⟨j, hj⟩ := List.getElem?_of_mem hx
  have := h j
  rw [List.getD_eq_getElem?_getD, hj] at this
  exact this
theorem convI_le (a b : List Nat) (ha : ∀ x ∈ a, x ≤ 65535) (hb : ∀ x ∈ b, x ≤ 65535) : ∀ i j, (convI a b i).getD j 0 ≤ i * 4294836225
  | 0, j => by rw [convI, List.getD_eq_getElem?_getD, List.getElem?_replicate]; split <;> exact Nat.zero_le _
  | i + 1, j => by
    have ih := convI_le a b ha hb i j
    have := addK_le (a.getD i 0) b i (convI a b i) 4294836225 (fun k => Nat.mul_le_mul (getD_le ha i) (getD_le hb k)) 16 j
    rw [convI]
    split at this <;> omega
def digL (n : Nat) : List Nat := digB 65536 16 n
theorem digL_len (n : Nat) : (digL n).length = 16 := digB_len _ _ _
theorem digL_le (n : Nat) : ∀ x ∈ digL n, x ≤ 65535 := fun x hx => by have := digB_lt 65536 (by decide) 16 n x hx; omega
theorem digL_val (n : Nat) (h : n < W6) : valB 65536 (digL n) = n := by
  unfold digL
  rw [digB_val]; exact Nat.mod_eq_of_lt h
def prodN (a b : Nat) : Nat := numL (convI (digL a) (digL b) 16)
theorem prodN_ok (a b : Nat) (ha : a < W6) (hb : b < W6) : rnd (rnd (rnd (foldJ (convI (digL a) (digL b) 16) 31))) = digL (prodN a b) ∧ prodN a b < W6 ∧ prodN a b % PP = a * b % PP := by
  have h := numL_ok (convI (digL a) (digL b) 16) (by rw [convI_len]; decide) (mem_le fun j => by have := convI_le (digL a) (digL b) (digL_le a) (digL_le b) 16 j; omega)
  rw [convI_len] at h
  obtain ⟨h1, h2, h3⟩ := h
  refine ⟨h1, h2, ?_⟩
  show numL _ % PP = _
  rw [h3, convI_val _ _ (digL_len b) 16 (by decide), show (digL a).take 16 = digL a from List.take_of_length_le (by rw [digL_len]; decide), digL_val a ha, digL_val b hb]
def sumL (a b : List Nat) : List Nat := (List.range 16).map fun i => a.getD i 0 + b.getD i 0
def diffL (a b : List Nat) : List Nat := (List.range 16).map fun i => (a.getD i 0 + 131070 - b.getD i 0) - (if i = 0 then 74 else 0)
theorem sumL_len (a b : List Nat) : (sumL a b).length = 16 := by simp [sumL]
theorem diffL_len (a b : List Nat) : (diffL a b).length = 16 := by simp [diffL]
theorem valB_range (b : Nat) (f : Nat → Nat) : ∀ n, valB b ((List.range (n + 1)).map f) = valB b ((List.range n).map f) + f n * b ^ n := fun n => by
  have key : ∀ (l : List Nat) (y : Nat), valB b (l ++ [y]) = valB b l + y * b ^ l.length := by
    intro l y
    induction l with
    | nil => simp [valB]
    | cons x l ih => rw [List.cons_append, valB, ih, valB, List.length_cons, Nat.pow_succ, Nat.mul_add, Nat.add_assoc, Nat.mul_comm (b ^ l.length) b, Nat.mul_left_comm]
  rw [List.range_succ, List.map_append]
  show valB b (_ ++ [f n]) = _
  rw [key, List.length_map, List.length_range]
theorem sumL_val (a b : List Nat) (ha : a.length = 16) (hb : b.length = 16) : valB 65536 (sumL a b) = valB 65536 a + valB 65536 b := by
  have key : ∀ n, valB 65536 ((List.range n).map fun i => a.getD i 0 + b.getD i 0) = valB 65536 (a.take n) + valB 65536 (b.take n) := by
    intro n
    induction n with
    | zero => simp [valB]
    | succ n ih => rw [valB_range, ih, valB_take, valB_take, Nat.add_mul]; omega
  have := key 16
  rw [List.take_of_length_le (by omega), List.take_of_length_le (by omega)] at this
  exact this
theorem diffL_val (a b : List Nat) (ha : a.length = 16) (hb : b.length = 16) (hb2 : ∀ x ∈ b, x ≤ 65535) : valB 65536 (diffL a b) + valB 65536 b = valB 65536 a + 4 * PP := by
  have key : ∀ n, 1 ≤ n → valB 65536 ((List.range n).map fun i => (a.getD i 0 + 131070 - b.getD i 0) - (if i = 0 then 74 else 0)) + valB 65536 (b.take n) + 74 = valB 65536 (a.take n) + 2 * (65536 ^ n - 1) := by
    intro n
    induction n with
    | zero => intro h; omega
    | succ n ih =>
      intro _
      have hbn := getD_le hb2 n
      by_cases hn : n = 0
      · subst hn
        rw [valB_range, valB_take, valB_take]
        simp only [List.range_zero, List.map_nil, List.take_zero, valB, if_true, Nat.pow_zero, Nat.mul_one, Nat.zero_add, Nat.pow_one]
        omega
      · have ih := ih (by omega)
        rw [valB_range, valB_take, valB_take, if_neg hn, Nat.sub_zero]
        have hp : 0 < 65536 ^ n := Nat.pow_pos (by decide)
        have e : (a.getD n 0 + 131070 - b.getD n 0) * 65536 ^ n + b.getD n 0 * 65536 ^ n = a.getD n 0 * 65536 ^ n + 131070 * 65536 ^ n := by
          rw [← Nat.add_mul, ← Nat.add_mul]; congr 1; omega
        rw [Nat.pow_succ]
        generalize 65536 ^ n = u at *
        generalize (a.getD n 0 + 131070 - b.getD n 0) * u = v1 at *
        generalize b.getD n 0 * u = v2 at *
        generalize a.getD n 0 * u = v3 at *
        omega
  have := key 16 (by decide)
  rw [List.take_of_length_le (by omega), List.take_of_length_le (by omega)] at this
  have e : 2 * (65536 ^ 16 - 1) = 4 * PP + 74 := by decide
  rw [e] at this
  show valB 65536 ((List.range 16).map _) + _ = _
  omega
def sumN (a b : Nat) : Nat := numL (sumL (digL a) (digL b))
def diffN (a b : Nat) : Nat := numL (diffL (digL a) (digL b))
theorem sumL_le (a b : List Nat) (ha : ∀ x ∈ a, x ≤ 65535) (hb : ∀ x ∈ b, x ≤ 65535) : ∀ x ∈ sumL a b, x ≤ 131070 := fun x hx => by
  obtain ⟨i, _, rfl⟩ := List.mem_map.1 hx
  have := getD_le ha i
  have := getD_le hb i
  omega
theorem diffL_le (a b : List Nat) (ha : ∀ x ∈ a, x ≤ 65535) : ∀ x ∈ diffL a b, x ≤ 196605 := fun x hx => by
  obtain ⟨i, _, rfl⟩ := List.mem_map.1 hx
  have := getD_le ha i
  omega
theorem sumN_ok (a b : Nat) (ha : a < W6) (hb : b < W6) : rnd (rnd (rnd (foldJ (sumL (digL a) (digL b)) 16))) = digL (sumN a b) ∧ sumN a b < W6 ∧ sumN a b % PP = (a + b) % PP := by
  have h := numL_ok (sumL (digL a) (digL b)) (by rw [sumL_len]; decide) (fun x hx => by have := sumL_le _ _ (digL_le a) (digL_le b) x hx; omega)
  rw [sumL_len, sumL_val _ _ (digL_len a) (digL_len b), digL_val a ha, digL_val b hb] at h
  exact h
theorem diffN_ok (a b : Nat) (ha : a < W6) (hb : b < W6) : rnd (rnd (rnd (foldJ (diffL (digL a) (digL b)) 16))) = digL (diffN a b) ∧ diffN a b < W6 ∧ diffN a b % PP = (a + 4 * PP - b) % PP := by
  have h := numL_ok (diffL (digL a) (digL b)) (by rw [diffL_len]; decide) (fun x hx => by have := diffL_le _ _ (digL_le a) x hx; omega)
  have hv := diffL_val _ _ (digL_len a) (digL_len b) (digL_le b)
  rw [digL_val a ha, digL_val b hb] at hv
  rw [diffL_len, show valB 65536 (diffL (digL a) (digL b)) = a + 4 * PP - b by omega] at h
  exact h
end Go.Proofs.Ytejphmgpndgliaa
