/- Chapter 05: the program's numbers; mathematics. -/
import Derived.Test.YtejphmgpndgliaaC05N
namespace Go.Proofs.Ytejphmgpndgliaa
set_option linter.unusedSimpArgs false
set_option linter.unusedVariables false
abbrev b51 : Nat := 2251799813685248
abbrev D5 : Nat := 57896044618658097711785492504343953926634992332820282019728792003956564819968
abbrev BB : Nat := 2251799813686248
def redp (V : Nat) : Nat := V % D5 + 19 * (V / D5)
theorem redp_mod (V : Nat) : redp V % PP = V % PP := by
  have h := Nat.mod_add_div V D5
  unfold redp
  generalize V / D5 = q at *
  generalize V % D5 = r at *
  have e : V = r + 19 * q + PP * q := by
    have : D5 * q = 19 * q + PP * q := by unfold D5 PP; omega
    omega
  rw [e, Nat.add_mul_mod_self_left]
/-- limbs: five, each a little greater than 51 bits at most -/
def Bd (l : List Nat) : Prop := l.length = 5 ∧ ∀ x ∈ l, x ≤ BB
theorem Bd.get {l : List Nat} (h : Bd l) (i : Nat) : l.getD i 0 ≤ BB := getD_le h.2 i
def carF (l : List Nat) : List Nat := (chain b51 0 l).1.set 0 ((chain b51 0 l).1.getD 0 0 + 19 * (chain b51 0 l).2)
theorem carF_len (l : List Nat) : (carF l).length = l.length := by unfold carF; rw [List.length_set, chain_len]
theorem carF_val (l : List Nat) (h : l.length = 5) : valB b51 (carF l) = redp (valB b51 l) := by
  obtain ⟨h1, h2⟩ := chain_dig b51 (by decide) l 0
  unfold carF
  rw [valB_set b51 _ 0 _ (by rw [chain_len]; omega), h1, h2, h, digB_val, Nat.zero_add, Nat.pow_zero, Nat.mul_one]
  rfl
theorem carF_mod (l : List Nat) (h : l.length = 5) : valB b51 (carF l) % PP = valB b51 l % PP := by rw [carF_val l h, redp_mod]
theorem chain_carry (b c : Nat) (hb : 0 < b) (l : List Nat) (B : Nat) (hB : ∀ x ∈ l, x ≤ B * (b - 1)) (hc : c ≤ B) : (chain b c l).2 ≤ B := by
  have := chJ_carry b c hb l l.length B hB hc
  rw [chJ_all] at this; exact this
theorem chain51_lt (l : List Nat) (c : Nat) : ∀ x ∈ (chain b51 c l).1, x < 2251799813685248 := chain_lt b51 (by decide) l c
theorem carF_cells (l : List Nat) (B : Nat) (hB : ∀ x ∈ l, x ≤ B * 2251799813685247) : ∀ x ∈ carF l, x ≤ 2251799813685247 + 19 * B := fun x hx => by
  have hlt := chain51_lt l 0
  have hc := chain_carry b51 0 (by decide) l B hB (Nat.zero_le _)
  rcases List.mem_or_eq_of_mem_set hx with h | rfl
  · have := hlt x h; omega
  · have := getD_le (M := 2251799813685247) (fun y hy => by have := hlt y hy; omega) 0
    have e : (chain b51 0 l).1.getD 0 0 ≤ 2251799813685247 := this
    omega
theorem carF_Bd (l : List Nat) (h : l.length = 5) (hB : ∀ x ∈ l, x ≤ 40 * 2251799813685247) : Bd (carF l) :=
  ⟨by rw [carF_len, h], fun x hx => by have := carF_cells l 40 hB x hx; unfold BB; omega⟩
def addL (a b : List Nat) : List Nat := (List.range 5).map fun i => a.getD i 0 + b.getD i 0
def subL (a b : List Nat) : List Nat := (List.range 5).map fun i => a.getD i 0 + (9007199254740988 - b.getD i 0) - (if i = 0 then 72 else 0)
theorem addL_len (a b : List Nat) : (addL a b).length = 5 := by simp [addL]
theorem subL_len (a b : List Nat) : (subL a b).length = 5 := by simp [subL]
theorem addL_val (a b : List Nat) (ha : a.length = 5) (hb : b.length = 5) : valB b51 (addL a b) = valB b51 a + valB b51 b := by
  have key : ∀ n, valB b51 ((List.range n).map fun i => a.getD i 0 + b.getD i 0) = valB b51 (a.take n) + valB b51 (b.take n) := by
    intro n
    induction n with
    | zero => simp [valB]
    | succ n ih => rw [valB_range, ih, valB_take, valB_take, Nat.add_mul]; omega
  have := key 5
  rw [List.take_of_length_le (by omega), List.take_of_length_le (by omega)] at this
  exact this
theorem subL_val (a b : List Nat) (ha : a.length = 5) (hb : b.length = 5) (hb2 : ∀ x ∈ b, x ≤ BB) : valB b51 (subL a b) + valB b51 b = valB b51 a + 4 * PP := by
  have key : ∀ n, 1 ≤ n → valB b51 ((List.range n).map fun i => a.getD i 0 + (9007199254740988 - b.getD i 0) - (if i = 0 then 72 else 0)) + valB b51 (b.take n) + 72 = valB b51 (a.take n) + 4 * (b51 ^ n - 1) := by
    intro n
    induction n with
    | zero => intro h; omega
    | succ n ih =>
      intro _
      have hbn := getD_le hb2 n
      unfold BB at hbn
      by_cases hn : n = 0
      · subst hn
        rw [valB_range, valB_take, valB_take]
        simp only [List.range_zero, List.map_nil, List.take_zero, valB, if_true, Nat.pow_zero, Nat.mul_one, Nat.zero_add, Nat.pow_one]
        unfold b51
        omega
      · have ih := ih (by omega)
        rw [valB_range, valB_take, valB_take, if_neg hn, Nat.sub_zero]
        have hp : 0 < b51 ^ n := Nat.pow_pos (by decide)
        have e : (a.getD n 0 + (9007199254740988 - b.getD n 0)) * b51 ^ n + b.getD n 0 * b51 ^ n = a.getD n 0 * b51 ^ n + 9007199254740988 * b51 ^ n := by
          rw [← Nat.add_mul, ← Nat.add_mul]; congr 1; omega
        rw [Nat.pow_succ]
        generalize b51 ^ n = u at *
        generalize (a.getD n 0 + (9007199254740988 - b.getD n 0)) * u = v1 at *
        generalize b.getD n 0 * u = v2 at *
        generalize a.getD n 0 * u = v3 at *
        rw [show u * b51 = 2251799813685248 * u from Nat.mul_comm _ _]
        omega
  have := key 5 (by decide)
  rw [List.take_of_length_le (by omega), List.take_of_length_le (by omega)] at this
  have e : 4 * (b51 ^ 5 - 1) = 4 * PP + 72 := by decide
  rw [e] at this
  show valB b51 ((List.range 5).map _) + _ = _
  omega
def plusF (a b : List Nat) : List Nat := carF (addL a b)
def minusF (a b : List Nat) : List Nat := carF (subL a b)
theorem addL_le (a b : List Nat) (ha : Bd a) (hb : Bd b) : ∀ x ∈ addL a b, x ≤ 40 * 2251799813685247 := fun x hx => by
  obtain ⟨i, _, rfl⟩ := List.mem_map.1 hx
  have := ha.get i
  have := hb.get i
  unfold BB at *
  omega
theorem subL_le (a b : List Nat) (ha : Bd a) : ∀ x ∈ subL a b, x ≤ 40 * 2251799813685247 := fun x hx => by
  obtain ⟨i, _, rfl⟩ := List.mem_map.1 hx
  have := ha.get i
  unfold BB at *
  omega
theorem plusF_ok (a b : List Nat) (ha : Bd a) (hb : Bd b) : Bd (plusF a b) ∧ valB b51 (plusF a b) % PP = (valB b51 a + valB b51 b) % PP :=
  ⟨carF_Bd _ (addL_len _ _) (addL_le a b ha hb), by unfold plusF; rw [carF_mod _ (addL_len _ _), addL_val a b ha.1 hb.1]⟩
theorem valB_Bd {l : List Nat} (h : Bd l) : valB b51 l ≤ 4 * PP := by
  have := valB_le b51 2 (by decide) l (fun x hx => by have := h.2 x hx; unfold BB at this; show x ≤ 2 * 2251799813685247; omega)
  rw [h.1] at this
  exact Nat.le_trans this (by decide)
theorem minusF_ok (a b : List Nat) (ha : Bd a) (hb : Bd b) : Bd (minusF a b) ∧ valB b51 (minusF a b) % PP = (valB b51 a + 4 * PP - valB b51 b) % PP := by
  refine ⟨carF_Bd _ (subL_len _ _) (subL_le a b ha), ?_⟩
  have := subL_val a b ha.1 hb.1 hb.2
  unfold minusF
  rw [carF_mod _ (subL_len _ _), show valB b51 (subL a b) = valB b51 a + 4 * PP - valB b51 b by omega]
/-- columns of a product: row i, the first k places -/
def mulK (x : Nat) (b : List Nat) (i : Nat) : Nat → List Nat → List Nat
  | 0, T => T
  | k + 1, T => (mulK x b i k T).set ((i + k) % 5) ((mulK x b i k T).getD ((i + k) % 5) 0 + x * (if i + k < 5 then b.getD k 0 else 19 * b.getD k 0))
def mulI (a b : List Nat) : Nat → List Nat
  | 0 => List.replicate 5 0
  | i + 1 => mulK (a.getD i 0) b i 5 (mulI a b i)
theorem mulK_len (x : Nat) (b : List Nat) (i : Nat) (T : List Nat) : ∀ k, (mulK x b i k T).length = T.length
  | 0 => rfl
  | k + 1 => by rw [mulK, List.length_set, mulK_len x b i T k]
theorem mulI_len (a b : List Nat) : ∀ i, (mulI a b i).length = 5
  | 0 => rfl
  | i + 1 => by rw [mulI, mulK_len, mulI_len a b i]
theorem mulK_val (x : Nat) (b : List Nat) (i : Nat) (hi : i < 5) (T : List Nat) (hT : T.length = 5) : ∀ k, k ≤ 5 → valB b51 (mulK x b i k T) % PP = (valB b51 T + x * valB b51 (b.take k) * b51 ^ i) % PP
  | 0, _ => by simp [mulK, valB]
  | k + 1, h => by
    have ih := mulK_val x b i hi T hT k (by omega)
    have hm : (i + k) % 5 < 5 := Nat.mod_lt _ (by decide)
    rw [mulK, valB_set _ _ _ _ (by rw [mulK_len]; omega), Nat.add_mod, ih, ← Nat.add_mod, valB_take, Nat.mul_add, Nat.add_mul, Nat.add_assoc]
    have e : x * (b.getD k 0 * b51 ^ k) * b51 ^ i = x * b.getD k 0 * b51 ^ (i + k) := by
      rw [Nat.pow_add, ← Nat.mul_assoc x, Nat.mul_assoc (x * b.getD k 0), Nat.mul_comm (b51 ^ k)]
    by_cases hk : i + k < 5
    · rw [if_pos hk, Nat.mod_eq_of_lt hk, e]
    · rw [if_neg hk, show (i + k) % 5 = i + k - 5 by omega, e]
      obtain ⟨j, hj⟩ : ∃ j, i + k = j + 5 := ⟨i + k - 5, by omega⟩
      rw [hj, Nat.add_sub_cancel, Nat.pow_add]
      have e2 : x * b.getD k 0 * (b51 ^ j * b51 ^ 5) = x * (19 * b.getD k 0) * b51 ^ j + PP * (x * b.getD k 0 * b51 ^ j) := by
        have : b51 ^ 5 = 19 + PP := by decide
        rw [this, Nat.mul_left_comm x 19, Nat.mul_assoc 19, ← Nat.mul_assoc (x * b.getD k 0), Nat.mul_comm _ (19 + PP), Nat.add_mul]
      rw [e2, ← Nat.add_assoc, ← Nat.add_assoc, ← Nat.add_assoc, Nat.add_mul_mod_self_left]
theorem mulI_val (a b : List Nat) (hb : b.length = 5) : ∀ i, i ≤ 5 → valB b51 (mulI a b i) % PP = (valB b51 (a.take i) * valB b51 b) % PP
  | 0, _ => by rw [mulI, List.take_zero, valB, Nat.zero_mul]; decide
  | i + 1, h => by
    have ih := mulI_val a b hb i (by omega)
    rw [mulI, mulK_val _ _ _ (by omega) _ (mulI_len a b i) 5 (by decide), Nat.add_mod, ih, ← Nat.add_mod, show b.take 5 = b by rw [List.take_of_length_le (by omega)], valB_take, Nat.add_mul, Nat.mul_right_comm]
theorem mulK_le (x : Nat) (b : List Nat) (i : Nat) (T : List Nat) (K : Nat) (hx : x ≤ BB) (hb : ∀ k, b.getD k 0 ≤ BB) (hK : BB * (19 * BB) ≤ K) (M : Nat) (hM : ∀ j, T.getD j 0 ≤ M) : ∀ k j, (mulK x b i k T).getD j 0 ≤ M + k * K
  | 0, j => by rw [mulK]; have := hM j; omega
  | k + 1, j => by
    have ih := mulK_le x b i T K hx hb hK M hM k
    rw [mulK, List.getD_eq_getElem?_getD, List.getElem?_set, show (k + 1) * K = k * K + K from Nat.succ_mul k K]
    have hy : (if i + k < 5 then b.getD k 0 else 19 * b.getD k 0) ≤ 19 * BB := by have := hb k; split <;> omega
    have hxy : x * (if i + k < 5 then b.getD k 0 else 19 * b.getD k 0) ≤ K := Nat.le_trans (Nat.mul_le_mul hx hy) hK
    split
    · split
      · have h1 := ih ((i + k) % 5)
        rw [Option.getD_some]
        generalize x * (if i + k < 5 then b.getD k 0 else 19 * b.getD k 0) = y at *
        omega
      · exact Nat.zero_le _
    · rw [← List.getD_eq_getElem?_getD]
      have := ih j
      omega
theorem mulI_le (a b : List Nat) (K : Nat) (ha : ∀ k, a.getD k 0 ≤ BB) (hb : ∀ k, b.getD k 0 ≤ BB) (hK : BB * (19 * BB) ≤ K) : ∀ i j, (mulI a b i).getD j 0 ≤ i * (5 * K)
  | 0, j => by rw [mulI, List.getD_eq_getElem?_getD, List.getElem?_replicate]; split <;> exact Nat.zero_le _
  | i + 1, j => by
    have := mulK_le (a.getD i 0) b i (mulI a b i) K (ha i) hb hK _ (mulI_le a b K ha hb hK i) 5 j
    rw [mulI, show (i + 1) * (5 * K) = i * (5 * K) + 5 * K from Nat.succ_mul i (5 * K)]; exact this
def finF (o : List Nat) (U : Nat) : List Nat := (o.set 0 ((o.getD 0 0 + 19 * U) % b51)).set 1 (o.getD 1 0 + (o.getD 0 0 + 19 * U) / b51)
theorem finF_len (o : List Nat) (U : Nat) : (finF o U).length = o.length := by simp [finF]
theorem finF_val (o : List Nat) (U : Nat) (h : o.length = 5) : valB b51 (finF o U) = valB b51 o + 19 * U := by
  match o, h with
  | [x0, x1, x2, x3, x4], _ =>
    have := Nat.mod_add_div (x0 + 19 * U) b51
    show (x0 + 19 * U) % b51 + b51 * ((x1 + (x0 + 19 * U) / b51) + b51 * valB b51 [x2, x3, x4]) = x0 + b51 * (x1 + b51 * valB b51 [x2, x3, x4]) + 19 * U
    generalize b51 * valB b51 [x2, x3, x4] = v at *
    generalize (x0 + 19 * U) % b51 = r at *
    generalize (x0 + 19 * U) / b51 = q at *
    unfold b51 at *
    omega
def timesF (a b : List Nat) : List Nat := carF (finF (chain b51 0 (mulI a b 5)).1 (chain b51 0 (mulI a b 5)).2)
theorem cells_num : 5 * (5 * (BB * (19 * BB))) ≤ 1152921504606846976 * 2251799813685247 := by decide +kernel
theorem mulI_cells (a b : List Nat) (ha : Bd a) (hb : Bd b) : ∀ x ∈ mulI a b 5, x ≤ 1152921504606846976 * 2251799813685247 := fun x hx =>
  Nat.le_trans (mem_le (mulI_le a b _ ha.get hb.get (Nat.le_refl _) 5) x hx) cells_num
theorem mulI_up (a b : List Nat) (ha : Bd a) (hb : Bd b) (i : Nat) : (chJ b51 0 (mulI a b 5) i).2 ≤ 1152921504606846976 := chJ_carry b51 0 (by decide) _ i _ (mulI_cells a b ha hb) (Nat.zero_le _)
theorem fin_q (g U : Nat) (hg : g < 2251799813685248) (hU : U ≤ 1152921504606846976) : (g + 19 * U) / 2251799813685248 ≤ 100000 := by omega
theorem fin_cells (o : List Nat) (U : Nat) (ho : ∀ x ∈ o, x < 2251799813685248) (hU : U ≤ 1152921504606846976) : ∀ x ∈ finF o U, x ≤ 40 * 2251799813685247 := fun x hx => by
  have hg := getD_le (l := o) (M := 2251799813685247) (fun y hy => by have := ho y hy; omega)
  have h0 := hg 0
  have h1 := hg 1
  have hq := fin_q (o.getD 0 0) U (by omega) hU
  have hr : (o.getD 0 0 + 19 * U) % 2251799813685248 < 2251799813685248 := Nat.mod_lt _ (by decide)
  unfold finF at hx
  rcases List.mem_or_eq_of_mem_set hx with h | h
  · rcases List.mem_or_eq_of_mem_set h with h | h
    · have := ho x h; omega
    · have h : x = (o.getD 0 0 + 19 * U) % 2251799813685248 := h
      omega
  · have h : x = o.getD 1 0 + (o.getD 0 0 + 19 * U) / 2251799813685248 := h
    omega
theorem timesF_pre (a b : List Nat) (ha : Bd a) (hb : Bd b) : ∀ x ∈ finF (chain b51 0 (mulI a b 5)).1 (chain b51 0 (mulI a b 5)).2, x ≤ 40 * 2251799813685247 :=
  fin_cells _ _ (chain51_lt _ _) (chain_carry b51 0 (by decide) _ _ (mulI_cells a b ha hb) (Nat.zero_le _))
theorem b51_5 : b51 ^ 5 = D5 := by decide
theorem chain_redp (T : List Nat) (h : T.length = 5) : valB b51 (chain b51 0 T).1 + 19 * (chain b51 0 T).2 = redp (valB b51 T) := by
  obtain ⟨h1, h2⟩ := chain_dig b51 (by decide) T 0
  rw [h1, h2, h, digB_val, Nat.zero_add, b51_5]
  rfl
theorem timesF_ok (a b : List Nat) (ha : Bd a) (hb : Bd b) : Bd (timesF a b) ∧ valB b51 (timesF a b) % PP = (valB b51 a * valB b51 b) % PP := by
  have hpre := timesF_pre a b ha hb
  have h3 := mulI_val a b hb.1 5 (by decide)
  have hT := mulI_len a b 5
  rw [List.take_of_length_le (by rw [ha.1]; decide)] at h3
  unfold timesF
  generalize mulI a b 5 = T at *
  have hl : (finF (chain b51 0 T).1 (chain b51 0 T).2).length = 5 := by rw [finF_len, chain_len, hT]
  refine ⟨carF_Bd _ hl hpre, ?_⟩
  rw [carF_mod _ hl, finF_val _ _ (by rw [chain_len, hT]), chain_redp T hT, redp_mod, h3]
/-- the power 2^255 - 21: squares, and products where the bit is 1 -/
def powF (a : List Nat) : List Bool → List Nat → List Nat
  | [], o => o
  | t :: ts, o => powF a ts (if t = true then timesF (timesF o o) a else timesF o o)
def powZ (a : Nat) : List Bool → Nat → Nat
  | [], o => o
  | t :: ts, o => powZ a ts (if t = true then o * o % PP * a % PP else o * o % PP)
def invBits : List Bool := List.replicate 250 true ++ [false, true, false, true, true]
theorem powF_ok (a : List Nat) (ha : Bd a) : ∀ (ts : List Bool) (o : List Nat), Bd o → Bd (powF a ts o) ∧ valB b51 (powF a ts o) % PP = powZ (valB b51 a % PP) ts (valB b51 o % PP) % PP
  | [], o, ho => ⟨ho, by rw [powF, powZ, Nat.mod_mod]⟩
  | t :: ts, o, ho => by
    obtain ⟨h1, h2⟩ := timesF_ok o o ho ho
    have e1 : valB b51 o % PP * (valB b51 o % PP) % PP = valB b51 (timesF o o) % PP := by rw [h2, ← Nat.mul_mod]
    rw [powF, powZ]
    cases t with
    | false =>
      rw [if_neg (by simp), if_neg (by simp), e1]
      exact powF_ok a ha ts _ h1
    | true =>
      obtain ⟨h3, h4⟩ := timesF_ok (timesF o o) a h1 ha
      rw [if_pos rfl, if_pos rfl, e1, ← Nat.mul_mod, ← h4]
      exact powF_ok a ha ts _ h3
end Go.Proofs.Ytejphmgpndgliaa
