/- Chapter 05: what both texts compute; mathematics. -/
import Derived.Test.YtejphmgpndgliaaC05P
namespace Go.Proofs.Ytejphmgpndgliaa
set_option linter.unusedSimpArgs false
set_option linter.unusedVariables false
def fa (x y : Nat) : Nat := (x + y) % PP
def fs (x y : Nat) : Nat := (x + 4 * PP - y) % PP
def fm (x y : Nat) : Nat := x * y % PP
theorem fm_comm (x y : Nat) : fm x y = fm y x := by unfold fm; rw [Nat.mul_comm]
theorem add_pp (a b : Nat) : (a + b) % PP = fa (a % PP) (b % PP) := by unfold fa; rw [Nat.add_mod]
theorem mul_pp (a b : Nat) : a * b % PP = fm (a % PP) (b % PP) := by unfold fm; rw [Nat.mul_mod]
theorem sub_pp (a b : Nat) (hb : b ≤ 4 * PP) : (a + 4 * PP - b) % PP = fs (a % PP) (b % PP) := by
  unfold fs
  have h1 := Nat.mod_add_div a PP
  have h2 := Nat.mod_add_div b PP
  have h3 := Nat.mod_lt b (show 0 < PP by decide)
  generalize a / PP = s at *
  generalize b / PP = q at *
  generalize a % PP = t at *
  generalize b % PP = r at *
  have e : (a + 4 * PP - b) + PP * q = (t + 4 * PP - r) + PP * s := by omega
  rw [← Nat.add_mul_mod_self_left (a + 4 * PP - b) PP q, e, Nat.add_mul_mod_self_left]
theorem fa_lt (x y : Nat) : fa x y < PP := Nat.mod_lt _ (by decide)
theorem fs_lt (x y : Nat) : fs x y < PP := Nat.mod_lt _ (by decide)
theorem fm_lt (x y : Nat) : fm x y < PP := Nat.mod_lt _ (by decide)
/-- five limbs that stand for a number -/
def R5 (l : List Nat) (x : Nat) : Prop := Bd l ∧ valB b51 l % PP = x
theorem R5.plus {a b : List Nat} {x y : Nat} (h : R5 a x) (k : R5 b y) : R5 (plusF a b) (fa x y) := by
  obtain ⟨h1, rfl⟩ := h
  obtain ⟨k1, rfl⟩ := k
  obtain ⟨g1, g2⟩ := plusF_ok a b h1 k1
  exact ⟨g1, by rw [g2, add_pp]⟩
theorem R5.minus {a b : List Nat} {x y : Nat} (h : R5 a x) (k : R5 b y) : R5 (minusF a b) (fs x y) := by
  obtain ⟨h1, rfl⟩ := h
  obtain ⟨k1, rfl⟩ := k
  obtain ⟨g1, g2⟩ := minusF_ok a b h1 k1
  exact ⟨g1, by rw [g2, sub_pp _ _ (valB_Bd k1)]⟩
theorem R5.times {a b : List Nat} {x y : Nat} (h : R5 a x) (k : R5 b y) : R5 (timesF a b) (fm x y) := by
  obtain ⟨h1, rfl⟩ := h
  obtain ⟨k1, rfl⟩ := k
  obtain ⟨g1, g2⟩ := timesF_ok a b h1 k1
  exact ⟨g1, by rw [g2, mul_pp]⟩
/-- a number of the reference that stands for a number -/
def R16 (n x : Nat) : Prop := n < W6 ∧ n % PP = x
theorem R16.plus {a b x y : Nat} (h : R16 a x) (k : R16 b y) : R16 (sumN a b) (fa x y) := by
  obtain ⟨h1, rfl⟩ := h
  obtain ⟨k1, rfl⟩ := k
  obtain ⟨_, g1, g2⟩ := sumN_ok a b h1 k1
  exact ⟨g1, by rw [g2, add_pp]⟩
theorem R16.minus {a b x y : Nat} (h : R16 a x) (k : R16 b y) : R16 (diffN a b) (fs x y) := by
  obtain ⟨h1, rfl⟩ := h
  obtain ⟨k1, rfl⟩ := k
  obtain ⟨_, g1, g2⟩ := diffN_ok a b h1 k1
  exact ⟨g1, by rw [g2, sub_pp _ _ (by unfold W6 at k1; unfold PP; omega)]⟩
theorem R16.times {a b x y : Nat} (h : R16 a x) (k : R16 b y) : R16 (prodN a b) (fm x y) := by
  obtain ⟨h1, rfl⟩ := h
  obtain ⟨k1, rfl⟩ := k
  obtain ⟨_, g1, g2⟩ := prodN_ok a b h1 k1
  exact ⟨g1, by rw [g2, mul_pp]⟩
/-- powers -/
def powS (a : Nat) : List Bool → Nat → Nat
  | [], o => o
  | t :: ts, o => powS a ts (if t = true then fm (fm o o) a else fm o o)
def powN (a : Nat) : List Bool → Nat → Nat
  | [], o => o
  | t :: ts, o => powN a ts (if t = true then prodN (prodN o o) a else prodN o o)
theorem R5.pow {a : List Nat} {x : Nat} (h : R5 a x) : ∀ (ts : List Bool) {o : List Nat} {z : Nat}, R5 o z → R5 (powF a ts o) (powS x ts z)
  | [], _, _, ho => ho
  | t :: ts, o, z, ho => by
    rw [powF, powS]
    cases t with
    | false => exact R5.pow h ts (ho.times ho)
    | true => exact R5.pow h ts ((ho.times ho).times h)
theorem R16.pow {a x : Nat} (h : R16 a x) : ∀ (ts : List Bool) {o z : Nat}, R16 o z → R16 (powN a ts o) (powS x ts z)
  | [], _, _, ho => ho
  | t :: ts, o, z, ho => by
    rw [powN, powS]
    cases t with
    | false => exact R16.pow h ts (ho.times ho)
    | true => exact R16.pow h ts ((ho.times ho).times h)
def invS (x : Nat) : Nat := powS x invBits 1
/-- a step of the ladder -/
structure Lad where
  a : Nat
  b : Nat
  c : Nat
  d : Nat
def Lad.swap (q : Lad) : Lad := ⟨q.c, q.d, q.a, q.b⟩
def Lad.step (u : Nat) (q : Lad) : Lad :=
  let up := fa q.a q.b
  let dn := fs q.a q.b
  let s := fm up up
  let m := fm dn dn
  let e := fs s m
  let f := fm (fs q.c q.d) up
  let g := fm (fa q.c q.d) dn
  ⟨fm s m, fm e (fa s (fm e 121665)), fm (fa f g) (fa f g), fm u (fm (fs f g) (fs f g))⟩
def Lad.go (u : Nat) : List Bool → Lad → Lad
  | [], q => q
  | t :: ts, q => Lad.go u ts (if t = true then (q.swap.step u).swap else q.step u)
structure LadF where
  a : List Nat
  b : List Nat
  c : List Nat
  d : List Nat
def LadF.swap (q : LadF) : LadF := ⟨q.c, q.d, q.a, q.b⟩
def LadF.step (u : List Nat) (q : LadF) : LadF :=
  let up := plusF q.a q.b
  let dn := minusF q.a q.b
  let s := timesF up up
  let m := timesF dn dn
  let e := minusF s m
  let f := timesF (minusF q.c q.d) up
  let g := timesF (plusF q.c q.d) dn
  ⟨timesF s m, timesF e (plusF s (timesF e [121665, 0, 0, 0, 0])), timesF (plusF f g) (plusF f g), timesF u (timesF (minusF f g) (minusF f g))⟩
def LadF.go (u : List Nat) : List Bool → LadF → LadF
  | [], q => q
  | t :: ts, q => LadF.go u ts (if t = true then (q.swap.step u).swap else q.step u)
def RLF (q : LadF) (z : Lad) : Prop := R5 q.a z.a ∧ R5 q.b z.b ∧ R5 q.c z.c ∧ R5 q.d z.d
theorem RLF.swap {q : LadF} {z : Lad} (h : RLF q z) : RLF q.swap z.swap := ⟨h.2.2.1, h.2.2.2, h.1, h.2.1⟩
theorem r5_k : R5 [121665, 0, 0, 0, 0] 121665 := ⟨⟨rfl, by decide⟩, by decide⟩
theorem RLF.step {u : List Nat} {x : Nat} (hu : R5 u x) {q : LadF} {z : Lad} (h : RLF q z) : RLF (q.step u) (z.step x) := by
  obtain ⟨ha, hb, hc, hd⟩ := h
  have up := ha.plus hb
  have dn := ha.minus hb
  have s := up.times up
  have m := dn.times dn
  have e := s.minus m
  have f := (hc.minus hd).times up
  have g := (hc.plus hd).times dn
  unfold LadF.step Lad.step RLF
  dsimp only
  exact ⟨s.times m, e.times (s.plus (e.times r5_k)), (f.plus g).times (f.plus g), hu.times ((f.minus g).times (f.minus g))⟩
theorem RLF.go {u : List Nat} {x : Nat} (hu : R5 u x) : ∀ (ts : List Bool) {q : LadF} {z : Lad}, RLF q z → RLF (q.go u ts) (z.go x ts)
  | [], _, _, h => h
  | t :: ts, q, z, h => by
    rw [LadF.go, Lad.go]
    cases t with
    | false => exact RLF.go hu ts (RLF.step hu h)
    | true => exact RLF.go hu ts (RLF.step hu (RLF.swap h)).swap
/-- the reference's ladder, in its numbers -/
def Lad.stepN (u : Nat) (q : Lad) : Lad :=
  let up := sumN q.a q.b
  let dn := diffN q.a q.b
  let s := prodN up up
  let m := prodN dn dn
  let e := diffN s m
  let f := prodN (diffN q.c q.d) up
  let g := prodN (sumN q.c q.d) dn
  ⟨prodN s m, prodN e (sumN s (prodN 121665 e)), prodN (sumN f g) (sumN f g), prodN u (prodN (diffN f g) (diffN f g))⟩
def Lad.goN (u : Nat) : List Bool → Lad → Lad
  | [], q => q
  | t :: ts, q => Lad.goN u ts (if t = true then (q.swap.stepN u).swap else q.stepN u)
def RLN (q z : Lad) : Prop := R16 q.a z.a ∧ R16 q.b z.b ∧ R16 q.c z.c ∧ R16 q.d z.d
theorem RLN.swap {q z : Lad} (h : RLN q z) : RLN q.swap z.swap := ⟨h.2.2.1, h.2.2.2, h.1, h.2.1⟩
theorem r16_k : R16 121665 121665 := ⟨by decide, by decide⟩
theorem RLN.step {u x : Nat} (hu : R16 u x) {q z : Lad} (h : RLN q z) : RLN (q.stepN u) (z.step x) := by
  obtain ⟨ha, hb, hc, hd⟩ := h
  have up := ha.plus hb
  have dn := ha.minus hb
  have s := up.times up
  have m := dn.times dn
  have e := s.minus m
  have f := (hc.minus hd).times up
  have g := (hc.plus hd).times dn
  have ke := r16_k.times e
  rw [fm_comm] at ke
  unfold Lad.stepN Lad.step RLN
  dsimp only
  exact ⟨s.times m, e.times (s.plus ke), (f.plus g).times (f.plus g), hu.times ((f.minus g).times (f.minus g))⟩
theorem RLN.go {u x : Nat} (hu : R16 u x) : ∀ (ts : List Bool) {q z : Lad}, RLN q z → RLN (q.goN u ts) (z.go x ts)
  | [], _, _, h => h
  | t :: ts, q, z, h => by
    rw [Lad.goN, Lad.go]
    cases t with
    | false => exact RLN.go hu ts (RLN.step hu h)
    | true => exact RLN.go hu ts (RLN.step hu (RLN.swap h)).swap
/-- the result of a secret's bits and a number, as a number below the prime -/
def resS (ts : List Bool) (u : Nat) : Nat := fm (Lad.go u ts ⟨1, 0, u, 1⟩).a (invS (Lad.go u ts ⟨1, 0, u, 1⟩).b)
def resF (ts : List Bool) (u : List Nat) : List Nat := timesF (LadF.go u ts ⟨[1, 0, 0, 0, 0], [0, 0, 0, 0, 0], u, [1, 0, 0, 0, 0]⟩).a (powF (LadF.go u ts ⟨[1, 0, 0, 0, 0], [0, 0, 0, 0, 0], u, [1, 0, 0, 0, 0]⟩).b invBits [1, 0, 0, 0, 0])
def resN (ts : List Bool) (u : Nat) : Nat := prodN (Lad.goN u ts ⟨1, 0, u, 1⟩).a (powN (Lad.goN u ts ⟨1, 0, u, 1⟩).b invBits 1)
theorem r5_one : R5 [1, 0, 0, 0, 0] 1 := ⟨⟨rfl, by decide⟩, by decide⟩
theorem r5_zero : R5 [0, 0, 0, 0, 0] 0 := ⟨⟨rfl, by decide⟩, by decide⟩
theorem r16_one : R16 1 1 := ⟨by decide, by decide⟩
theorem r16_zero : R16 0 0 := ⟨by decide, by decide⟩
theorem resF_ok (ts : List Bool) {u : List Nat} {x : Nat} (hu : R5 u x) : R5 (resF ts u) (resS ts x) := by
  have h := RLF.go hu ts (q := ⟨[1, 0, 0, 0, 0], [0, 0, 0, 0, 0], u, [1, 0, 0, 0, 0]⟩) (z := ⟨1, 0, x, 1⟩) ⟨r5_one, r5_zero, hu, r5_one⟩
  exact h.1.times (R5.pow h.2.1 invBits r5_one)
theorem resN_ok (ts : List Bool) {u x : Nat} (hu : R16 u x) : R16 (resN ts u) (resS ts x) := by
  have h := RLN.go hu ts (q := ⟨1, 0, u, 1⟩) (z := ⟨1, 0, x, 1⟩) ⟨r16_one, r16_zero, hu, r16_one⟩
  exact h.1.times (R16.pow h.2.1 invBits r16_one)
theorem resS_lt (ts : List Bool) (u : Nat) : resS ts u < PP := fm_lt _ _
end Go.Proofs.Ytejphmgpndgliaa
