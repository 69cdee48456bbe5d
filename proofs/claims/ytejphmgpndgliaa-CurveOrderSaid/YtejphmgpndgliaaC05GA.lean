/- Finite commutative groups as lists; prime numbers and their certificates; the field of the curve. -/
import Derived.Test.YtejphmgpndgliaaC05Z
namespace Go.Proofs.Ytejphmgpndgliaa.GA
set_option linter.unusedVariables false
theorem sub_perm {α : Type} [DecidableEq α] : ∀ (M L : List α), M.Nodup → (∀ x ∈ M, x ∈ L) → L.length ≤ M.length → M.Perm L
  | [], L, _, _, h => by
    have : L = [] := List.eq_nil_of_length_eq_zero (by simpa using h)
    rw [this]
  | x :: M, L, hn, hs, h => by
    have hx : x ∈ L := hs x List.mem_cons_self
    have hp : L.Perm (x :: L.erase x) := List.perm_cons_erase hx
    have hn2 := List.nodup_cons.1 hn
    have hl : (L.erase x).length = L.length - 1 := List.length_erase_of_mem hx
    have ih := sub_perm M (L.erase x) hn2.2 (fun y hy => by
      have hy2 := hs y (List.mem_cons_of_mem _ hy)
      have hne : y ≠ x := fun e => hn2.1 (e ▸ hy)
      exact (List.mem_erase_of_ne hne).2 hy2) (by rw [hl]; rw [List.length_cons] at h; omega)
    exact (ih.cons x).trans hp.symm
theorem len_le {α : Type} [DecidableEq α] : ∀ (M L : List α), M.Nodup → (∀ x ∈ M, x ∈ L) → M.length ≤ L.length
  | [], L, _, _ => Nat.zero_le _
  | x :: M, L, hn, hs => by
    have hx : x ∈ L := hs x List.mem_cons_self
    have hn2 := List.nodup_cons.1 hn
    have hl : (L.erase x).length = L.length - 1 := List.length_erase_of_mem hx
    have h0 : 0 < L.length := List.length_pos_of_mem hx
    have ih := len_le M (L.erase x) hn2.2 (fun y hy => by
      have hy2 := hs y (List.mem_cons_of_mem _ hy)
      have hne : y ≠ x := fun e => hn2.1 (e ▸ hy)
      exact (List.mem_erase_of_ne hne).2 hy2)
    rw [List.length_cons]; omega
theorem map_perm {α : Type} [DecidableEq α] (L : List α) (hn : L.Nodup) (f : α → α) (hm : ∀ x ∈ L, f x ∈ L) (hi : ∀ x ∈ L, ∀ y ∈ L, f x = f y → x = y) : (L.map f).Perm L := by
  refine sub_perm _ L ?_ (fun y hy => ?_) (by rw [List.length_map]; exact Nat.le_refl _)
  · rw [List.Nodup, List.pairwise_map]
    refine List.Pairwise.imp_of_mem (fun {a b} ha hb h e => h (hi a ha b hb e)) hn
  · obtain ⟨x, hx, rfl⟩ := List.mem_map.1 hy
    exact hm x hx
structure CM (α : Type) where
  op : α → α → α
  e : α
  comm : ∀ a b, op a b = op b a
  assoc : ∀ a b c, op (op a b) c = op a (op b c)
  one : ∀ a, op e a = a
namespace CM
variable {α : Type} (G : CM α)
def pw (g : α) : Nat → α
  | 0 => G.e
  | n + 1 => G.op g (pw g n)
def prod : List α → α
  | [] => G.e
  | x :: l => G.op x (prod l)
theorem lcomm (a b c : α) : G.op a (G.op b c) = G.op b (G.op a c) := by rw [← G.assoc, G.comm a b, G.assoc]
theorem one_r (a : α) : G.op a G.e = a := by rw [G.comm, G.one]
theorem prod_perm {l1 l2 : List α} (h : l1.Perm l2) : G.prod l1 = G.prod l2 := by
  induction h with
  | nil => rfl
  | cons x _ ih => rw [prod, prod, ih]
  | swap x y l => rw [prod, prod, prod, prod, G.lcomm]
  | trans _ _ h1 h2 => rw [h1, h2]
theorem prod_map (g : α) : ∀ l : List α, G.prod (l.map (G.op g)) = G.op (G.pw g l.length) (G.prod l)
  | [] => by rw [List.map_nil, prod, List.length_nil, pw, G.one]
  | x :: l => by
    rw [List.map_cons, prod, prod_map g l, List.length_cons, pw, prod, G.assoc, G.assoc]
    congr 1
    rw [G.lcomm]
theorem pw_add (g : α) (m : Nat) : ∀ n, G.pw g (n + m) = G.op (G.pw g n) (G.pw g m)
  | 0 => by rw [Nat.zero_add, pw, G.one]
  | n + 1 => by rw [Nat.succ_add, pw, pw, pw_add g m n, G.assoc]
theorem pw_one (n : Nat) : G.pw G.e n = G.e := by
  induction n with
  | zero => rfl
  | succ n ih => rw [pw, ih, G.one]
theorem pw_mul (g : α) (m : Nat) : ∀ n, G.pw g (m * n) = G.pw (G.pw g m) n
  | 0 => rfl
  | n + 1 => by rw [Nat.mul_succ, Nat.add_comm, pw_add, pw, pw_mul g m n]
theorem pw_single (g : α) : G.pw g 1 = g := by rw [pw, pw, G.one_r]
theorem lagrange [DecidableEq α] (L : List α) (hn : L.Nodup) (he : G.e ∈ L) (hc : ∀ x ∈ L, ∀ y ∈ L, G.op x y ∈ L) (hk : ∀ g ∈ L, ∀ x y, G.op g x = G.op g y → x = y) (g : α) (hg : g ∈ L) : G.pw g L.length = G.e := by
  have hp := G.prod_perm (map_perm L hn (G.op g) (fun x hx => hc g hg x hx) (fun x _ y _ h => hk g hg x y h))
  rw [G.prod_map] at hp
  have hP : ∀ l : List α, (∀ x ∈ l, x ∈ L) → G.prod l ∈ L := by
    intro l
    induction l with
    | nil => intro _; exact he
    | cons x l ih => intro h; exact hc _ (h x List.mem_cons_self) _ (ih fun y hy => h y (List.mem_cons_of_mem _ hy))
  have := hP L fun x h => h
  refine hk _ this _ _ ?_
  rw [G.comm, hp, G.one_r]
/-- two exponents that annul: so does their greatest common divisor -/
theorem pw_gcd (g : α) : ∀ m n : Nat, G.pw g m = G.e → G.pw g n = G.e → G.pw g (m.gcd n) = G.e := by
  intro m
  induction m using Nat.strongRecOn with
  | ind m ih =>
    intro n hm hn
    by_cases h0 : m = 0
    · subst h0; rw [Nat.gcd_zero_left]; exact hn
    · rw [Nat.gcd_rec]
      refine ih (n % m) (Nat.mod_lt _ (by omega)) m ?_ hm
      have : n = n % m + m * (n / m) := (Nat.mod_add_div n m).symm
      rw [this, pw_add, pw_mul, hm, pw_one, one_r] at hn
      exact hn
end CM
/-- prime numbers -/
def Pr (p : Nat) : Prop := 1 < p ∧ ∀ d, d ∣ p → d = 1 ∨ d = p
theorem Pr.cop {p a : Nat} (h : Pr p) (ha : ¬ p ∣ a) : p.Coprime a := by
  rcases h.2 (p.gcd a) (Nat.gcd_dvd_left _ _) with h1 | h1
  · exact h1
  · exact absurd (h1 ▸ Nat.gcd_dvd_right p a) ha
theorem Pr.dvd {p a b : Nat} (h : Pr p) (hd : p ∣ a * b) : p ∣ a ∨ p ∣ b := by
  by_cases ha : p ∣ a
  · exact .inl ha
  · exact .inr ((h.cop ha).dvd_of_dvd_mul_left hd)
theorem ex_prime : ∀ n : Nat, 2 ≤ n → ∃ r, Pr r ∧ r ∣ n := by
  intro n
  induction n using Nat.strongRecOn with
  | ind n ih =>
    intro h
    by_cases hp : ∀ d, d ∣ n → d = 1 ∨ d = n
    · exact ⟨n, ⟨by omega, hp⟩, Nat.dvd_refl _⟩
    · obtain ⟨d, hd⟩ := Classical.not_forall.1 hp
      have hd1 : d ∣ n := Classical.byContradiction fun h => hd fun x => absurd x h
      have hd2 : d ≠ 1 := fun h => hd fun _ => .inl h
      have hd3 : d ≠ n := fun h => hd fun _ => .inr h
      have hle := Nat.le_of_dvd (by omega) hd1
      have h0 : d ≠ 0 := fun h => by subst h; have := Nat.eq_zero_of_zero_dvd hd1; omega
      obtain ⟨r, hr, hrd⟩ := ih d (by omega) (by omega)
      exact ⟨r, hr, Nat.dvd_trans hrd hd1⟩
def finM (m : Nat) : CM (Fin (m + 1)) := ⟨(· * ·), Fin.ofNat (m + 1) 1, Fin.mul_comm, Fin.mul_assoc, fun a => by
  apply Fin.ext
  rw [Fin.val_mul]
  show 1 % (m + 1) * a.val % (m + 1) = a.val
  rw [Nat.mod_mul_mod, Nat.one_mul, Nat.mod_eq_of_lt a.isLt]⟩
theorem fin_pw (m : Nat) (a : Fin (m + 1)) : ∀ n, ((finM m).pw a n).val = a.val ^ n % (m + 1)
  | 0 => by show 1 % (m + 1) = _; rw [Nat.pow_zero]
  | n + 1 => by
    rw [CM.pw, Nat.pow_succ, Nat.mul_comm]
    show (a * (finM m).pw a n).val = _
    rw [Fin.val_mul, fin_pw m a n, Nat.mul_mod_mod]
theorem fermat {r : Nat} (hr : Pr r) (a : Nat) (ha : ¬ r ∣ a) : a ^ (r - 1) % r = 1 := by
  obtain ⟨m, rfl⟩ : ∃ m, r = m + 1 := ⟨r - 1, by have := hr.1; omega⟩
  have h1 := hr.1
  rw [Nat.add_sub_cancel]
  have nz : ∀ x : Fin (m + 1), x ∈ (List.finRange (m + 1)).filter (fun x => decide (x.val ≠ 0)) ↔ x.val ≠ 0 := fun x => by
    rw [List.mem_filter]
    constructor
    · intro h; exact of_decide_eq_true h.2
    · intro h; exact ⟨List.mem_finRange x, decide_eq_true h⟩
  have nd : ∀ x : Fin (m + 1), x.val ≠ 0 → ¬ (m + 1) ∣ x.val := fun x hx hd => by
    have := Nat.le_of_dvd (by omega) hd
    have := x.isLt
    omega
  have hl : ((List.finRange (m + 1)).filter (fun x => decide (x.val ≠ 0))).length = m := by
    rw [List.finRange_succ, List.filter_cons, if_neg (by simp), List.filter_map, List.length_map]
    have hf : ((List.finRange m).filter ((fun x : Fin (m + 1) => decide (x.val ≠ 0)) ∘ Fin.succ)) = List.finRange m := List.filter_eq_self.2 (fun x _ => decide_eq_true (p := ¬ (Fin.succ x).val = 0) (fun h => by
      have h : x.val + 1 = 0 := h
      omega))
    rw [hf, List.length_finRange]
  have key := (finM m).lagrange ((List.finRange (m + 1)).filter (fun x => decide (x.val ≠ 0)))
    ((List.nodup_finRange (m + 1)).filter _)
    ((nz _).2 (by show 1 % (m + 1) ≠ 0; rw [Nat.mod_eq_of_lt (by omega)]; decide))
    (fun x hx y hy => (nz _).2 (by
      have hx := nd x ((nz x).1 hx)
      have hy := nd y ((nz y).1 hy)
      show (x * y).val ≠ 0
      rw [Fin.val_mul]
      intro h
      rcases hr.dvd (Nat.dvd_of_mod_eq_zero h) with h | h
      · exact hx h
      · exact hy h))
    (fun g hg x y h => by
      have hg := nd g ((nz g).1 hg)
      have h : g * x = g * y := h
      have h : (g * x).val = (g * y).val := by rw [h]
      rw [Fin.val_mul, Fin.val_mul] at h
      have hc := hr.cop hg
      apply Fin.ext
      have hx := x.isLt
      have hy := y.isLt
      rcases Nat.le_total x.val y.val with hle | hle
      · have hd : (m + 1) ∣ g.val * (y.val - x.val) := by
          rw [Nat.mul_sub]
          exact Nat.dvd_of_mod_eq_zero (Nat.sub_mod_eq_zero_of_mod_eq h.symm)
        have := hc.dvd_of_dvd_mul_left hd
        by_cases e : y.val - x.val = 0
        · omega
        · have := Nat.le_of_dvd (by omega) this; omega
      · have hd : (m + 1) ∣ g.val * (x.val - y.val) := by
          rw [Nat.mul_sub]
          exact Nat.dvd_of_mod_eq_zero (Nat.sub_mod_eq_zero_of_mod_eq h)
        have := hc.dvd_of_dvd_mul_left hd
        by_cases e : x.val - y.val = 0
        · omega
        · have := Nat.le_of_dvd (by omega) this; omega)
    (Fin.ofNat (m + 1) a) ((nz _).2 (by
      show a % (m + 1) ≠ 0
      intro h; exact ha (Nat.dvd_of_mod_eq_zero h)))
  rw [hl] at key
  have := congrArg Fin.val key
  rw [fin_pw] at this
  have e : (Fin.ofNat (m + 1) a).val = a % (m + 1) := rfl
  rw [e, ← Nat.pow_mod] at this
  rw [this]
  show 1 % (m + 1) = 1
  exact Nat.mod_eq_of_lt (by omega)

def powm (N : Nat) : Nat → Nat → Nat → Nat
  | 0, _, _ => 1 % N
  | f + 1, a, e => match e with
    | 0 => 1 % N
    | e => match e % 2 with
      | 0 => powm N f (a * a % N) (e / 2)
      | _ => a * powm N f (a * a % N) (e / 2) % N
theorem powm_eq (N : Nat) : ∀ f a e, e < 2 ^ f → powm N f a e = a ^ e % N
  | 0, a, e, h => by
    have : e = 0 := by rw [Nat.pow_zero] at h; omega
    subst this; rfl
  | f + 1, a, e, h => by
    have ih := powm_eq N f (a * a % N) (e / 2) (by rw [Nat.pow_succ] at h; omega)
    have hs : (a * a % N) ^ (e / 2) % N = a ^ (2 * (e / 2)) % N := by
      rw [← Nat.pow_mod, Nat.pow_mul, Nat.pow_two]
    rw [hs] at ih
    match e, h with
    | 0, _ => rfl
    | e + 1, h =>
      show (match (e + 1) % 2 with
        | 0 => powm N f (a * a % N) ((e + 1) / 2)
        | _ => a * powm N f (a * a % N) ((e + 1) / 2) % N) = _
      rcases Nat.mod_two_eq_zero_or_one (e + 1) with h2 | h2
      · rw [h2]
        show powm N f (a * a % N) ((e + 1) / 2) = _
        rw [ih]
        congr 2; omega
      · rw [h2]
        show a * powm N f (a * a % N) ((e + 1) / 2) % N = _
        rw [ih, Nat.mul_mod_mod]
        have : a * a ^ (2 * ((e + 1) / 2)) = a ^ (e + 1) := by
          rw [← Nat.pow_succ']
          congr 1; omega
        rw [this]
theorem pow_gcd_one {r : Nat} (h1 : 1 < r) (b : Nat) : ∀ m n : Nat, b ^ m % r = 1 → b ^ n % r = 1 → b ^ (m.gcd n) % r = 1 := by
  intro m
  induction m using Nat.strongRecOn with
  | ind m ih =>
    intro n hm hn
    by_cases h0 : m = 0
    · subst h0; rw [Nat.gcd_zero_left]; exact hn
    · rw [Nat.gcd_rec]
      refine ih (n % m) (Nat.mod_lt _ (by omega)) m ?_ hm
      have : n = n % m + m * (n / m) := (Nat.mod_add_div n m).symm
      rw [this, Nat.pow_add, Nat.pow_mul, Nat.mul_mod, Nat.pow_mod (b ^ m), hm, Nat.one_pow, Nat.mod_eq_of_lt h1, Nat.mul_one, Nat.mod_mod] at hn
      exact hn
/-- one prime of a certificate -/
theorem pock_q {N q a : Nat} (hN : 1 < N) (hq : Pr q) (hd : q ∣ N - 1) (h1 : a ^ (N - 1) % N = 1) (h2 : (a ^ ((N - 1) / q) % N + N - 1).gcd N = 1) (r : Nat) (hr : Pr r) (hrN : r ∣ N) : q ∣ r - 1 := by
  refine Classical.byContradiction fun hn => ?_
  have hr1 := hr.1
  have hm : ∀ x y : Nat, x % N = y → x % r = y % r := fun x y h => by
    rw [← h, Nat.mod_mod_of_dvd x hrN]
  have e1 : a ^ (N - 1) % r = 1 := by rw [hm _ _ h1, Nat.mod_eq_of_lt hr1]
  have ha : ¬ r ∣ a := fun h => by
    have : a ^ (N - 1) % r = 0 := by
      rw [Nat.pow_mod, Nat.mod_eq_zero_of_dvd h, Nat.zero_pow (by omega), Nat.zero_mod]
    omega
  have hb : ¬ r ∣ a ^ ((N - 1) / q) := fun h => by
    have hx : a ^ (N - 1) = (a ^ ((N - 1) / q)) ^ q := by rw [← Nat.pow_mul, Nat.div_mul_cancel hd]
    rw [hx, Nat.pow_mod, Nat.mod_eq_zero_of_dvd h, Nat.zero_pow (by have := hq.1; omega), Nat.zero_mod] at e1
    omega
  have f1 := fermat hr _ hb
  have f2 : (a ^ ((N - 1) / q)) ^ q % r = 1 := by rw [← Nat.pow_mul, Nat.div_mul_cancel hd]; exact e1
  have f3 := pow_gcd_one hr1 _ _ _ f2 f1
  have hc : q.gcd (r - 1) = 1 := hq.cop hn
  rw [hc, Nat.pow_one] at f3
  have hdv : r ∣ (a ^ ((N - 1) / q) % N + N - 1) := by
    have e : (a ^ ((N - 1) / q) % N) % r = 1 := by rw [Nat.mod_mod_of_dvd _ hrN]; exact f3
    have : a ^ ((N - 1) / q) % N + N - 1 = (a ^ ((N - 1) / q) % N - 1) + N := by
      have : a ^ ((N - 1) / q) % N ≠ 0 := fun h => by rw [h, Nat.zero_mod] at e; omega
      omega
    rw [this]
    refine Nat.dvd_add ?_ hrN
    refine Nat.dvd_of_mod_eq_zero ?_
    have := Nat.mod_add_div (a ^ ((N - 1) / q) % N) r
    rw [e] at this
    rw [← this, Nat.add_sub_cancel_left, Nat.mul_mod_right]
  have := Nat.dvd_gcd hdv hrN
  rw [h2] at this
  have := Nat.le_of_dvd (by decide) this
  omega
theorem pr_of {N B : Nat} (hN : 1 < N) (hB : N < B * B) (h : ∀ r, Pr r → r ∣ N → B ≤ r) : Pr N := by
  refine ⟨hN, fun d hd => ?_⟩
  obtain ⟨e, rfl⟩ := hd
  by_cases hd1 : d = 1
  · exact .inl hd1
  by_cases he1 : e = 1
  · subst he1; right; rw [Nat.mul_one]
  exfalso
  have hd0 : d ≠ 0 := fun h => by subst h; rw [Nat.zero_mul] at hN; omega
  have he0 : e ≠ 0 := fun h => by subst h; rw [Nat.mul_zero] at hN; omega
  obtain ⟨r, hr, hrd⟩ := ex_prime d (by omega)
  obtain ⟨s, hs, hse⟩ := ex_prime e (by omega)
  have h1 := h r hr (Nat.dvd_trans hrd (Nat.dvd_mul_right _ _))
  have h2 := h s hs (Nat.dvd_trans hse (Nat.dvd_mul_left _ _))
  have h3 := Nat.le_of_dvd (by omega) hrd
  have h4 := Nat.le_of_dvd (by omega) hse
  have : B * B ≤ d * e := Nat.mul_le_mul (Nat.le_trans h1 h3) (Nat.le_trans h2 h4)
  omega
def pcheck (N q a : Nat) : Bool := (N - 1) % q == 0 && powm N 260 a (N - 1) == 1 && (powm N 260 a ((N - 1) / q) + N - 1).gcd N == 1
theorem pcheck_ok {N q a : Nat} (hN : 1 < N) (hb : N < 2 ^ 260) (hq : Pr q) (h : pcheck N q a = true) (r : Nat) (hr : Pr r) (hrN : r ∣ N) : q ∣ r - 1 := by
  unfold pcheck at h
  simp only [Bool.and_eq_true, beq_iff_eq] at h
  obtain ⟨⟨h1, h2⟩, h3⟩ := h
  rw [powm_eq _ _ _ _ (by omega)] at h2
  rw [powm_eq _ _ _ _ (Nat.lt_of_le_of_lt (Nat.div_le_self _ _) (by omega))] at h3
  exact pock_q hN hq (Nat.dvd_of_mod_eq_zero h1) h2 h3 r hr hrN
theorem pock1 (N q a : Nat) (hq : Pr q) (h : (Nat.blt 1 N && Nat.blt N (2 ^ 260) && pcheck N q a && Nat.blt N (q * q)) = true) : Pr N := by
  simp only [Bool.and_eq_true, Nat.blt_eq] at h
  obtain ⟨⟨⟨h1, h2⟩, h3⟩, h4⟩ := h
  refine pr_of h1 h4 fun r hr hrN => ?_
  have := Nat.le_of_dvd (by have := hr.1; omega) (pcheck_ok h1 h2 hq h3 r hr hrN)
  omega
theorem pock2 (N q a s b : Nat) (hq : Pr q) (hs : Pr s) (h : (Nat.blt 1 N && Nat.blt N (2 ^ 260) && pcheck N q a && pcheck N s b && Nat.blt N (q * s * (q * s)) && q.gcd s == 1) = true) : Pr N := by
  simp only [Bool.and_eq_true, Nat.blt_eq, beq_iff_eq] at h
  obtain ⟨⟨⟨⟨⟨h1, h2⟩, h3⟩, h4⟩, h5⟩, h6⟩ := h
  refine pr_of h1 h5 fun r hr hrN => ?_
  have hd := Nat.Coprime.mul_dvd_of_dvd_of_dvd h6 (pcheck_ok h1 h2 hq h3 r hr hrN) (pcheck_ok h1 h2 hs h4 r hr hrN)
  have := Nat.le_of_dvd (by have := hr.1; omega) hd
  omega
def nodiv (N : Nat) : Nat → Bool
  | 0 => true
  | 1 => true
  | k + 2 => N % (k + 2) != 0 && nodiv N (k + 1)
theorem nodiv_ok (N : Nat) : ∀ k, nodiv N k = true → ∀ d, 2 ≤ d → d ≤ k → ¬ d ∣ N
  | 0, _, d, h2, hk => by omega
  | 1, _, d, h2, hk => by omega
  | k + 2, h, d, h2, hk => by
    unfold nodiv at h
    simp only [Bool.and_eq_true, bne_iff_ne] at h
    by_cases e : d = k + 2
    · subst e; intro hd; exact h.1 (Nat.mod_eq_zero_of_dvd hd)
    · exact nodiv_ok N (k + 1) h.2 d h2 (by omega)
theorem pr_small (N k : Nat) (h : (Nat.blt 1 N && Nat.blt N ((k + 1) * (k + 1)) && nodiv N k) = true) : Pr N := by
  simp only [Bool.and_eq_true, Nat.blt_eq] at h
  refine pr_of h.1.1 h.1.2 fun r hr hrN => ?_
  refine Classical.byContradiction fun hn => ?_
  exact nodiv_ok N k h.2 r hr.1 (by omega) hrN
theorem pr_991 : Pr 991 := pr_small 991 31 (by decide +kernel)
theorem pr_3 : Pr 3 := pr_small 3 1 (by decide +kernel)
theorem pr_8574133 : Pr 8574133 := pock2 8574133 991 2 3 2 pr_991 pr_3 (by decide +kernel)
theorem pr_7 : Pr 7 := pr_small 7 2 (by decide +kernel)
theorem pr_b4 : Pr 1919519569386763 := pock2 1919519569386763 8574133 2 7 2 pr_8574133 pr_7 (by decide +kernel)
theorem pr_75707 : Pr 75707 := pr_small 75707 275 (by decide +kernel)
theorem pr_b6 : Pr 75445702479781427272750846543864801 := pock2 75445702479781427272750846543864801 1919519569386763 2 75707 2 pr_b4 pr_75707 (by decide +kernel)
theorem pr_353 : Pr 353 := pr_small 353 18 (by decide +kernel)
theorem pr_b8 : Pr 74058212732561358302231226437062788676166966415465897661863160754340907 := pock2 74058212732561358302231226437062788676166966415465897661863160754340907 75445702479781427272750846543864801 2 353 2 pr_b6 pr_353 (by decide +kernel)
theorem pr_p : Pr 57896044618658097711785492504343953926634992332820282019728792003956564819949 := pock1 57896044618658097711785492504343953926634992332820282019728792003956564819949 74058212732561358302231226437062788676166966415465897661863160754340907 2 pr_b8 (by decide +kernel)
theorem pr_2551 : Pr 2551 := pr_small 2551 50 (by decide +kernel)
theorem pr_1224481 : Pr 1224481 := pock1 1224481 2551 2 pr_2551 (by decide +kernel)
theorem pr_3797 : Pr 3797 := pr_small 3797 61 (by decide +kernel)
theorem pr_531581 : Pr 531581 := pock1 531581 3797 2 pr_3797 (by decide +kernel)
theorem pr_b14 : Pr 1257559732178653 := pock2 1257559732178653 1224481 2 531581 2 pr_1224481 pr_531581 (by decide +kernel)
theorem pr_b15 : Pr 4434155615661930479 := pock1 4434155615661930479 1257559732178653 2 pr_b14 (by decide +kernel)
theorem pr_b16 : Pr 172054593956031949258510691 := pock1 172054593956031949258510691 4434155615661930479 2 pr_b15 (by decide +kernel)
theorem pr_b17 : Pr 19757330305831588566944191468367130476339 := pock1 19757330305831588566944191468367130476339 172054593956031949258510691 2 pr_b16 (by decide +kernel)
theorem pr_b18 : Pr 276602624281642239937218680557139826668747 := pock1 276602624281642239937218680557139826668747 19757330305831588566944191468367130476339 2 pr_b17 (by decide +kernel)
theorem pr_l : Pr 7237005577332262213973186563042994240857116359379907606001950938285454250989 := pock1 7237005577332262213973186563042994240857116359379907606001950938285454250989 276602624281642239937218680557139826668747 2 pr_b18 (by decide +kernel)
theorem pr_3911 : Pr 3911 := pr_small 3911 62 (by decide +kernel)
theorem pr_383 : Pr 383 := pr_small 383 19 (by decide +kernel)
theorem pr_b22 : Pr 1013266244677 := pock2 1013266244677 3911 2 383 2 pr_3911 pr_383 (by decide +kernel)
theorem pr_11351 : Pr 11351 := pr_small 11351 106 (by decide +kernel)
theorem pr_743104567 : Pr 743104567 := pock2 743104567 11351 2 3 2 pr_11351 pr_3 (by decide +kernel)
theorem pr_b25 : Pr 203852586375664218368381551393371968928013 := pock2 203852586375664218368381551393371968928013 1013266244677 2 743104567 2 pr_b22 pr_743104567 (by decide +kernel)
theorem pr_b26 : Pr 104719073621178708975837602950775180438320278101 := pock1 104719073621178708975837602950775180438320278101 203852586375664218368381551393371968928013 2 pr_b25 (by decide +kernel)
theorem pr_b27 : Pr 27413359092552162435694767700453926735143482401279781 := pock1 27413359092552162435694767700453926735143482401279781 104719073621178708975837602950775180438320278101 2 pr_b26 (by decide +kernel)
theorem pr_t : Pr 14474011154664524427946373126085988481603263447650325797860494125407373907997 := pock1 14474011154664524427946373126085988481603263447650325797860494125407373907997 27413359092552162435694767700453926735143482401279781 2 pr_b27 (by decide +kernel)
instance : NeZero PP := ⟨by decide⟩
abbrev F : Type := Fin PP
def ofN (n : Nat) : F := Fin.ofNat PP n
theorem ofN_val (n : Nat) : (ofN n).val = n % PP := rfl
theorem ofN_add (m n : Nat) : ofN (m + n) = ofN m + ofN n := by
  apply Fin.ext
  rw [Fin.val_add, ofN_val, ofN_val, ofN_val, ← Nat.add_mod]
theorem ofN_mul (m n : Nat) : ofN (m * n) = ofN m * ofN n := by
  apply Fin.ext
  rw [Fin.val_mul, ofN_val, ofN_val, ofN_val, ← Nat.mul_mod]
theorem ofN_mod (m : Nat) : ofN (m % PP) = ofN m := by
  apply Fin.ext
  rw [ofN_val, ofN_val, Nat.mod_mod]
theorem ofN_of (a : F) : ofN a.val = a := by
  apply Fin.ext
  rw [ofN_val, Nat.mod_eq_of_lt a.isLt]
theorem ofN_one : ofN 1 = 1 := rfl
theorem f_one (a : F) : 1 * a = a := by grind
def MF : CM F := ⟨fun a b => a * b, 1, fun a b => by grind, fun a b c => by grind, fun a => by grind⟩
theorem f_pw (a : F) : ∀ n, MF.pw a n = ofN (a.val ^ n)
  | 0 => by rw [Nat.pow_zero, ofN_one]; rfl
  | n + 1 => by
    rw [CM.pw, f_pw a n, Nat.pow_succ, Nat.mul_comm, ofN_mul, ofN_of]
    rfl
theorem pw_mulb (a b : F) : ∀ n, MF.pw (a * b) n = MF.pw a n * MF.pw b n
  | 0 => by show (1 : F) = 1 * 1; grind
  | n + 1 => by
    rw [CM.pw, CM.pw, CM.pw, pw_mulb a b n]
    show a * b * (MF.pw a n * MF.pw b n) = a * MF.pw a n * (b * MF.pw b n)
    grind
theorem nz_dvd {a : F} (h : a ≠ 0) : ¬ PP ∣ a.val := fun hd => by
  have h0 : a.val ≠ 0 := fun e => h (Fin.ext e)
  have := Nat.le_of_dvd (by omega) hd
  have := a.isLt
  omega
def hP : Nat := 28948022309329048855892746252171976963317496166410141009864396001978282409974
def mP : Nat := 14474011154664524427946373126085988481658748083205070504932198000989141204987
def eP : Nat := 7237005577332262213973186563042994240829374041602535252466099000494570602494
theorem hP_eq : hP * 2 = PP - 1 := by decide
theorem mP_eq : mP * 2 = hP := by decide
theorem eP_eq : eP * 2 = mP + 1 := by decide
theorem f_fermat {a : F} (h : a ≠ 0) : MF.pw a (PP - 1) = 1 := by
  rw [f_pw]
  apply Fin.ext
  rw [ofN_val, fermat pr_p _ (nz_dvd h)]
  rfl
theorem f_dvd {a b : F} (h : a * b = 0) : a = 0 ∨ b = 0 := by
  by_cases ha : a = 0
  · exact .inl ha
  by_cases hb : b = 0
  · exact .inr hb
  exfalso
  have h : (a * b).val = 0 := by rw [h]; rfl
  rw [Fin.val_mul] at h
  rcases pr_p.dvd (Nat.dvd_of_mod_eq_zero h) with h | h
  · exact nz_dvd ha h
  · exact nz_dvd hb h
def iP : Nat := PP - 2
theorem iP_eq : iP + 1 = PP - 1 := by decide
theorem pw_s (a : F) (n : Nat) : MF.pw a (n + 1) = a * MF.pw a n := rfl
def finv (a : F) : F := MF.pw a iP
theorem f_inv {a : F} (h : a ≠ 0) : a * finv a = 1 := by
  rw [← f_fermat h, ← iP_eq, pw_s]
  rfl
theorem f_cancel {a b c : F} (h : a ≠ 0) (e : a * b = a * c) : b = c := by
  have : a * (b - c) = 0 := by grind
  rcases f_dvd this with h1 | h1
  · exact absurd h1 h
  · grind
def SQ (a : F) : Prop := ∃ s : F, s * s = a
def NS (a : F) : Prop := MF.pw a hP = -1
theorem one_ne : (1 : F) ≠ -1 := by decide +kernel
theorem pw_sq (s : F) (n : Nat) : MF.pw (s * s) n = MF.pw s (n * 2) := by
  rw [Nat.mul_comm, MF.pw_mul]
  congr 1
  show s * s = s * (s * 1)
  grind
theorem NS.nz {a : F} (h : NS a) : a ≠ 0 := fun e => by
  subst e
  unfold NS at h
  have : MF.pw (0 : F) (hP - 1 + 1) = 0 := by
    rw [CM.pw]
    show (0 : F) * _ = 0
    grind
  rw [show hP - 1 + 1 = hP by decide] at this
  rw [this] at h
  exact absurd h (by decide +kernel)
theorem NS.not_sq {a : F} (h : NS a) : ¬ SQ a := fun ⟨s, hs⟩ => by
  have h0 : s ≠ 0 := fun e => by
    subst e
    exact h.nz (by rw [← hs]; grind)
  unfold NS at h
  rw [← hs, pw_sq, hP_eq, f_fermat h0] at h
  exact one_ne h
theorem root_one {x : F} (h : x * x = 1) : x = 1 ∨ x = -1 := by
  have : (x - 1) * (x + 1) = 0 := by grind
  rcases f_dvd this with h1 | h1
  · left; grind
  · right; grind
theorem two_ns : MF.pw (2 : F) hP = -1 := by
  rw [f_pw]
  apply Fin.ext
  rw [ofN_val]
  have : (2 : F).val = 2 := rfl
  rw [this, ← powm_eq PP 255 2 hP (by decide)]
  decide +kernel
theorem sq_or {a : F} (h : a ≠ 0) : SQ a ∨ NS a := by
  have hf := f_fermat h
  rw [← hP_eq, ← pw_sq, pw_mulb] at hf
  rcases root_one hf with h1 | h1
  · left
    rw [← mP_eq, ← pw_sq, pw_mulb] at h1
    have hr : MF.pw a eP * MF.pw a eP = a * MF.pw a mP := by
      rw [← pw_mulb, pw_sq, eP_eq, pw_s]
    rcases root_one h1 with h2 | h2
    · exact ⟨MF.pw a eP, by rw [hr, h2]; grind⟩
    · have t := two_ns
      rw [← mP_eq, ← pw_sq, pw_mulb] at t
      refine ⟨MF.pw a eP * MF.pw 2 mP, ?_⟩
      generalize MF.pw 2 mP = z at *
      generalize MF.pw a eP = y at *
      rw [h2] at hr
      grind
  · exact .inr h1
theorem NS.mul {a b : F} (ha : NS a) (hb : NS b) : SQ (a * b) := by
  have h0 : a * b ≠ 0 := fun h => (f_dvd h).elim ha.nz hb.nz
  rcases sq_or h0 with h | h
  · exact h
  · unfold NS at *
    rw [pw_mulb, ha, hb] at h
    exact absurd h (by decide +kernel)
theorem sq_div {a b : F} (h0 : b ≠ 0) (h : SQ (b * b * a)) : SQ a := by
  obtain ⟨s, hs⟩ := h
  have hi := f_inv h0
  refine ⟨s * finv b, ?_⟩
  generalize finv b = i at *
  grind
end Go.Proofs.Ytejphmgpndgliaa.GA
