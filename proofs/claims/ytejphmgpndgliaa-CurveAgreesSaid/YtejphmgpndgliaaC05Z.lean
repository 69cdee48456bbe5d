/- Chapter 05: numbers without a result; mathematics. -/
import Derived.Test.YtejphmgpndgliaaC05R
namespace Go.Proofs.Ytejphmgpndgliaa
set_option linter.unusedSimpArgs false
set_option linter.unusedVariables false
theorem fm_zero (x : Nat) : fm x 0 = 0 := by unfold fm; rw [Nat.mul_zero, Nat.zero_mod]
theorem zero_fm (x : Nat) : fm 0 x = 0 := by rw [fm_comm, fm_zero]
theorem fs_self (x : Nat) : fs x x = 0 := by unfold fs; rw [Nat.add_sub_cancel_left]; decide
theorem fs_zero (x : Nat) : fs x 0 = fa x 0 := by unfold fs fa; rw [Nat.sub_zero, Nat.add_zero, Nat.mul_comm, Nat.add_mul_mod_self_left]
theorem fa_zero {x : Nat} (h : x < PP) : fa x 0 = x := by unfold fa; rw [Nat.add_zero, Nat.mod_eq_of_lt h]
theorem zero_fa {x : Nat} (h : x < PP) : fa 0 x = x := by unfold fa; rw [Nat.zero_add, Nat.mod_eq_of_lt h]
theorem one_fm {x : Nat} (h : x < PP) : fm 1 x = x := by unfold fm; rw [Nat.one_mul, Nat.mod_eq_of_lt h]
theorem sq_neg (n g : Nat) (h : (n + g) % PP = 0) : fm n n = fm g g := by
  unfold fm
  have e : n * n + (n + g) * g = g * g + (n + g) * n := by
    rw [Nat.add_mul, Nat.add_mul, Nat.mul_comm g n]; omega
  obtain ⟨q, hq⟩ : ∃ q, n + g = PP * q := ⟨(n + g) / PP, by have := Nat.mod_add_div (n + g) PP; omega⟩
  rw [hq, Nat.mul_assoc, Nat.mul_assoc] at e
  have h1 : (n * n + PP * (q * g)) % PP = n * n % PP := Nat.add_mul_mod_self_left _ _ _
  have h2 : (g * g + PP * (q * n)) % PP = g * g % PP := Nat.add_mul_mod_self_left _ _ _
  rw [← h1, e, h2]
theorem neg_sum {g : Nat} (h : g < PP) : (fs 0 g + g) % PP = 0 := by
  unfold fs
  have e : ((0 + 4 * PP - g) % PP + g) % PP = ((0 + 4 * PP - g) + g) % PP := by rw [Nat.mod_add_mod]
  rw [e, show 0 + 4 * PP - g + g = PP * 4 by omega, Nat.mul_mod_right]
theorem sq_fs {g : Nat} (h : g < PP) : fm (fs 0 g) (fs 0 g) = fm g g := sq_neg _ _ (neg_sum h)
/-- all places of a state are below the prime -/
def Lad.ok (q : Lad) : Prop := q.a < PP ∧ q.b < PP ∧ q.c < PP ∧ q.d < PP
theorem Lad.ok.swap {q : Lad} (h : q.ok) : q.swap.ok := ⟨h.2.2.1, h.2.2.2, h.1, h.2.1⟩
theorem Lad.step_ok (u : Nat) (q : Lad) : (q.step u).ok := by
  unfold Lad.step Lad.ok
  exact ⟨fm_lt _ _, fm_lt _ _, fm_lt _ _, fm_lt _ _⟩
theorem powS_zero : ∀ (ts : List Bool), powS 0 ts 0 = 0
  | [] => rfl
  | t :: ts => by
    rw [powS, zero_fm]
    cases t with
    | false => exact powS_zero ts
    | true => rw [if_pos rfl, zero_fm]; exact powS_zero ts
theorem inv_zero : invS 0 = 0 := by
  unfold invS invBits
  rw [show List.replicate 250 true = true :: List.replicate 249 true from rfl, List.cons_append, powS, if_pos rfl, fm_zero]
  exact powS_zero _
theorem Lad.go_app (u : Nat) : ∀ (a b : List Bool) (q : Lad), Lad.go u (a ++ b) q = Lad.go u b (Lad.go u a q)
  | [], _, _ => rfl
  | t :: ts, b, q => by rw [List.cons_append, Lad.go, Lad.go, Lad.go_app u ts b]
theorem res_none {ts : List Bool} {u : Nat} (h : (Lad.go u ts ⟨1, 0, u, 1⟩).b = 0) : resS ts u = 0 := by
  unfold resS
  rw [h, inv_zero, fm_zero]
/-- the number 0 -/
def Z0 (q : Lad) : Prop := q.b = 0 ∧ q.d = 0
theorem Z0.step {q : Lad} (h : Z0 q) (ho : q.ok) : Z0 (q.step 0) := by
  obtain ⟨a, b, c, d⟩ := q
  obtain ⟨h1, h2⟩ := h
  obtain ⟨o1, _, _, _⟩ := ho
  dsimp only at h1 h2 o1
  subst h1
  subst h2
  unfold Lad.step Z0
  dsimp only
  rw [fs_zero, fs_self, zero_fm, zero_fm]
  exact ⟨rfl, rfl⟩
theorem Z0.go : ∀ (ts : List Bool) {q : Lad}, Z0 q → q.ok → Z0 (Lad.go 0 ts q)
  | [], _, h, _ => h
  | t :: ts, q, h, ho => by
    rw [Lad.go]
    cases t with
    | false => exact Z0.go ts (Z0.step h ho) (Lad.step_ok _ _)
    | true =>
      have := Z0.step (q := q.swap) ⟨h.2, h.1⟩ ho.swap
      exact Z0.go ts (q := (q.swap.step 0).swap) ⟨this.2, this.1⟩ (Lad.step_ok _ _).swap
theorem zero_first : Lad.go 0 [true] ⟨1, 0, 0, 1⟩ = ⟨0, 0, 1, 0⟩ := by
  have : ∀ q : Lad, (q.a = 0 ∧ q.b = 0 ∧ q.c = 1 ∧ q.d = 0) → q = ⟨0, 0, 1, 0⟩ := fun q h => by
    obtain ⟨a, b, c, d⟩ := q
    obtain ⟨rfl, rfl, rfl, rfl⟩ := h
    rfl
  exact this _ (by decide +kernel)
theorem res_zero (ts : List Bool) : resS (true :: ts) 0 = 0 := by
  apply res_none
  rw [show true :: ts = [true] ++ ts from rfl, Lad.go_app, zero_first]
  exact (Z0.go ts (q := ⟨0, 0, 1, 0⟩) ⟨rfl, rfl⟩ ⟨by decide, by decide, by decide, by decide⟩).1
/-- the number 1: points of order 4: none, the point, its double -/
def S1a (q : Lad) : Prop := q.b = 0 ∧ q.c = q.d
def S1b (q : Lad) : Prop := q.a = q.b ∧ q.c = 0
def S1c (q : Lad) : Prop := q.a = 0 ∧ q.c = q.d
def S1d (q : Lad) : Prop := q.a = q.b ∧ q.d = 0
def S1 (q : Lad) : Prop := S1a q ∨ S1b q ∨ S1c q ∨ S1d q
theorem S1.swap {q : Lad} (h : S1 q) : S1 q.swap := by
  rcases h with h | h | h | h
  · exact .inr (.inr (.inr ⟨h.2, h.1⟩))
  · exact .inr (.inr (.inl ⟨h.2, h.1⟩))
  · exact .inr (.inl ⟨h.2, h.1⟩)
  · exact .inl ⟨h.2, h.1⟩
theorem S1.step {q : Lad} (h : S1 q) (ho : q.ok) : (S1a (q.step 1) ∨ S1c (q.step 1)) ∧ ((S1a q ∨ S1c q) → S1a (q.step 1)) := by
  have ca : S1a q → S1a (q.step 1) := fun h => by
    obtain ⟨a, b, c, d⟩ := q
    obtain ⟨h1, h2⟩ := h
    obtain ⟨o1, _, o3, _⟩ := ho
    dsimp only at h1 h2 o1 o3
    subst h1
    subst h2
    unfold Lad.step S1a
    dsimp only
    rw [fs_zero, fs_self, fs_self, zero_fm, zero_fm, zero_fa (fm_lt _ _), sq_fs (fm_lt _ _), one_fm (fm_lt _ _)]
    exact ⟨rfl, rfl⟩
  have cb : S1b q → S1c (q.step 1) := fun h => by
    obtain ⟨a, b, c, d⟩ := q
    obtain ⟨h1, h2⟩ := h
    dsimp only at h1 h2
    subst h1
    subst h2
    unfold Lad.step S1c
    dsimp only
    rw [fs_self, fm_zero, fm_zero, fm_zero, fs_zero, one_fm (fm_lt _ _)]
    exact ⟨rfl, rfl⟩
  have cc : S1c q → S1a (q.step 1) := fun h => by
    obtain ⟨a, b, c, d⟩ := q
    obtain ⟨h1, h2⟩ := h
    obtain ⟨_, o2, _, _⟩ := ho
    dsimp only at h1 h2 o2
    subst h1
    subst h2
    unfold Lad.step S1a
    dsimp only
    rw [zero_fa o2, sq_fs o2, fs_self, fs_self, zero_fm, zero_fm, zero_fa (fm_lt _ _), sq_fs (fm_lt _ _), one_fm (fm_lt _ _)]
    exact ⟨rfl, rfl⟩
  have cd : S1d q → S1c (q.step 1) := fun h => by
    obtain ⟨a, b, c, d⟩ := q
    obtain ⟨h1, h2⟩ := h
    dsimp only at h1 h2
    subst h1
    subst h2
    unfold Lad.step S1c
    dsimp only
    rw [fs_self, fm_zero, fm_zero, fm_zero, fs_zero, fs_zero, one_fm (fm_lt _ _)]
    exact ⟨rfl, rfl⟩
  refine ⟨?_, fun h => h.elim ca cc⟩
  rcases h with h | h | h | h
  · exact .inl (ca h)
  · exact .inr (cb h)
  · exact .inl (cc h)
  · exact .inr (cd h)
theorem S1.go : ∀ (ts : List Bool) {q : Lad}, S1 q → q.ok → S1 (Lad.go 1 ts q) ∧ (Lad.go 1 ts q).ok
  | [], _, h, ho => ⟨h, ho⟩
  | t :: ts, q, h, ho => by
    rw [Lad.go]
    have st : ∀ {q : Lad}, S1 q → q.ok → S1 (q.step 1) := fun h ho => (S1.step h ho).1.elim .inl (fun h => .inr (.inr (.inl h)))
    cases t with
    | false => exact S1.go ts (st h ho) (Lad.step_ok _ _)
    | true => exact S1.go ts (q := (q.swap.step 1).swap) (S1.swap (st (S1.swap h) ho.swap)) (Lad.step_ok _ _).swap
theorem res_one (ts : List Bool) : resS (ts ++ [false, false, false]) 1 = 0 := by
  apply res_none
  rw [Lad.go_app]
  obtain ⟨h, ho⟩ := S1.go ts (q := ⟨1, 0, 1, 1⟩) (.inl ⟨rfl, rfl⟩) ⟨by decide, by decide, by decide, by decide⟩
  generalize Lad.go 1 ts ⟨1, 0, 1, 1⟩ = q at *
  have h1 := (S1.step h ho).1
  have o1 := Lad.step_ok 1 q
  have s1 : S1 (q.step 1) := h1.elim .inl (fun h => .inr (.inr (.inl h)))
  have h2 := (S1.step s1 o1).2 h1
  exact ((S1.step (.inl h2) (Lad.step_ok 1 (q.step 1))).2 (.inl h2)).1
/-- the number -1 -/
def neg1 : Nat := 57896044618658097711785492504343953926634992332820282019728792003956564819948
theorem fm_neg1 {x : Nat} (h : x < PP) : fa (fm neg1 x) x = 0 := by
  unfold fa fm
  rw [Nat.mod_add_mod, show neg1 * x + x = PP * x by unfold neg1 PP; omega, Nat.mul_mod_right]
theorem fa_comm (x y : Nat) : fa x y = fa y x := by unfold fa; rw [Nat.add_comm]
def S2a (q : Lad) : Prop := q.b = 0 ∧ fa q.c q.d = 0
def S2b (q : Lad) : Prop := fa q.a q.b = 0 ∧ q.c = 0
def S2c (q : Lad) : Prop := q.a = 0 ∧ fa q.c q.d = 0
def S2d (q : Lad) : Prop := fa q.a q.b = 0 ∧ q.d = 0
def S2 (q : Lad) : Prop := S2a q ∨ S2b q ∨ S2c q ∨ S2d q
theorem S2.swap {q : Lad} (h : S2 q) : S2 q.swap := by
  rcases h with h | h | h | h
  · exact .inr (.inr (.inr ⟨h.2, h.1⟩))
  · exact .inr (.inr (.inl ⟨h.2, h.1⟩))
  · exact .inr (.inl ⟨h.2, h.1⟩)
  · exact .inl ⟨h.2, h.1⟩
theorem S2.step {q : Lad} (h : S2 q) (ho : q.ok) : (S2a (q.step neg1) ∨ S2c (q.step neg1)) ∧ ((S2a q ∨ S2c q) → S2a (q.step neg1)) := by
  have ca : S2a q → S2a (q.step neg1) := fun h => by
    obtain ⟨a, b, c, d⟩ := q
    obtain ⟨h1, h2⟩ := h
    dsimp only at h1 h2
    subst h1
    unfold Lad.step S2a
    dsimp only
    rw [h2, fs_zero, fs_self, zero_fm, zero_fm, fs_zero, fa_comm, fm_neg1 (fm_lt _ _)]
    exact ⟨rfl, rfl⟩
  have cb : S2b q → S2c (q.step neg1) := fun h => by
    obtain ⟨a, b, c, d⟩ := q
    obtain ⟨h1, h2⟩ := h
    obtain ⟨_, _, _, o4⟩ := ho
    dsimp only at h1 h2 o4
    subst h2
    unfold Lad.step S2c
    dsimp only
    rw [h1, fm_zero, zero_fm, fm_zero, zero_fa (fm_lt _ _), sq_fs (fm_lt _ _), fa_comm, fm_neg1 (fm_lt _ _)]
    exact ⟨rfl, rfl⟩
  have cc : S2c q → S2a (q.step neg1) := fun h => by
    obtain ⟨a, b, c, d⟩ := q
    obtain ⟨h1, h2⟩ := h
    obtain ⟨_, o2, _, _⟩ := ho
    dsimp only at h1 h2 o2
    subst h1
    unfold Lad.step S2a
    dsimp only
    rw [h2, zero_fa o2, sq_fs o2, fs_self, zero_fm, zero_fm, fs_zero, fa_comm, fm_neg1 (fm_lt _ _)]
    exact ⟨rfl, rfl⟩
  have cd : S2d q → S2c (q.step neg1) := fun h => by
    obtain ⟨a, b, c, d⟩ := q
    obtain ⟨h1, h2⟩ := h
    dsimp only at h1 h2
    subst h2
    unfold Lad.step S2c
    dsimp only
    rw [h1, fm_zero, zero_fm, fm_zero, zero_fa (fm_lt _ _), sq_fs (fm_lt _ _), fa_comm, fm_neg1 (fm_lt _ _)]
    exact ⟨rfl, rfl⟩
  refine ⟨?_, fun h => h.elim ca cc⟩
  rcases h with h | h | h | h
  · exact .inl (ca h)
  · exact .inr (cb h)
  · exact .inl (cc h)
  · exact .inr (cd h)
theorem S2.go : ∀ (ts : List Bool) {q : Lad}, S2 q → q.ok → S2 (Lad.go neg1 ts q) ∧ (Lad.go neg1 ts q).ok
  | [], _, h, ho => ⟨h, ho⟩
  | t :: ts, q, h, ho => by
    rw [Lad.go]
    have st : ∀ {q : Lad}, S2 q → q.ok → S2 (q.step neg1) := fun h ho => (S2.step h ho).1.elim .inl (fun h => .inr (.inr (.inl h)))
    cases t with
    | false => exact S2.go ts (st h ho) (Lad.step_ok _ _)
    | true => exact S2.go ts (q := (q.swap.step neg1).swap) (S2.swap (st (S2.swap h) ho.swap)) (Lad.step_ok _ _).swap
theorem res_neg (ts : List Bool) : resS (ts ++ [false, false, false]) neg1 = 0 := by
  apply res_none
  rw [Lad.go_app]
  obtain ⟨h, ho⟩ := S2.go ts (q := ⟨1, 0, neg1, 1⟩) (.inl ⟨rfl, by decide⟩) ⟨by decide, by decide, by decide, by decide⟩
  generalize Lad.go neg1 ts ⟨1, 0, neg1, 1⟩ = q at *
  have h1 := (S2.step h ho).1
  have o1 := Lad.step_ok neg1 q
  have s1 : S2 (q.step neg1) := h1.elim .inl (fun h => .inr (.inr (.inl h)))
  have h2 := (S2.step s1 o1).2 h1
  exact ((S2.step (.inl h2) (Lad.step_ok neg1 (q.step neg1))).2 (.inl h2)).1
end Go.Proofs.Ytejphmgpndgliaa
