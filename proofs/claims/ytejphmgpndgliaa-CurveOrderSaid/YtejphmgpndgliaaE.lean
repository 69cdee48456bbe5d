/- Structs and arrays that are compared. Own work, over the kit's law for deep keys. No program is named here. -/
import Derived.Test.YtejphmgpndgliaaA
import Derived.DeepKeys
import Derived.Laws.StructEq
namespace Go.Proofs.Ytejphmgpndgliaa
set_option linter.unusedSimpArgs false
set_option linter.unusedVariables false
open Go.RowKit Go.WideShapes Go.ChangeShapes
namespace V
def litOf : Value → Lit
  | .bool b => .bool b
  | .int k n => .int k n
  | .string s => .string s.data.toList
  | _ => .bool false
def Sh.noSl : Sh → Bool
  | .sl _ => false
  | .ag s => s.noSl
  | .cons a b => !a.isL && a.noSl && b.noSl
  | _ => true
def Sh.dep : Sh → Nat
  | .ag s => s.dep + 1
  | .cons a b => max a.dep b.dep
  | _ => 1
section
variable {P : Program} {w : World}
theorem mapM_opt {α β : Type} {f : α → Option β} : ∀ {l : List α} {r : List β}, l.length = r.length → (∀ (i : Nat) (x : α), l[i]? = some x → f x = r[i]?) → l.mapM f = some r
  | [], [], _, _ => by simp
  | [], _ :: _, h, _ => by simp at h
  | _ :: _, [], h, _ => by simp at h
  | x :: l, y :: r, h, hf => by
    have h0 := hf 0 x rfl
    have ih := mapM_opt (f := f) (l := l) (r := r) (by simpa using h) (fun i x hx => hf (i + 1) x hx)
    simp at h0
    simp [h0, ih]
theorem lits_aux : ∀ (s : Sh), s.noSl = true →
    (∀ (t m D : Nat) (cs : List Value), shOk P s t [] 0 = true → s.isL = false → P.keyTypeAt m t = true → s.dep ≤ D → Rd w s cs → P.keyLits D t cs = some (cs.map litOf)) ∧
    (∀ (l : List (Nat × Nat)) (off m D : Nat) (cs : List Value), shOk P s 0 l off = true → s.isL = true → (∀ p ∈ l, P.keyTypeAt m p.2 = true) → s.dep ≤ D → Rd w s (cs.drop off) → off ≤ cs.length →
      ∃ LL : List (List Lit), l.mapM (fun p => P.keyLits D p.2 ((cs.drop p.1).take (P.cellsOf p.2))) = some LL ∧ LL.flatten = (cs.drop off).map litOf) := by
  intro s
  induction s with
  | bool =>
    refine fun _ => ⟨fun t m D cs h _ _ hD hr => ?_, fun _ _ _ _ _ _ h => by cases h⟩
    obtain ⟨b, rfl⟩ := hr
    obtain ⟨D, rfl⟩ : ∃ d, D = d + 1 := ⟨D - 1, by simp [Sh.dep] at hD; omega⟩
    simp only [shOk] at h
    split at h <;> try cases h
    rename_i ht
    simp [Program.keyLits, ht, litOf]
  | int k =>
    refine fun _ => ⟨fun t m D cs h _ _ hD hr => ?_, fun _ _ _ _ _ _ h => by cases h⟩
    obtain ⟨b, rfl, hw⟩ := hr
    obtain ⟨D, rfl⟩ : ∃ d, D = d + 1 := ⟨D - 1, by simp [Sh.dep] at hD; omega⟩
    simp only [shOk] at h
    split at h <;> try cases h
    rename_i k' ht
    have h := of_decide_eq_true h
    subst h
    simp [Program.keyLits, ht, litOf, hw]
  | str =>
    refine fun _ => ⟨fun t m D cs h _ _ hD hr => ?_, fun _ _ _ _ _ _ h => by cases h⟩
    obtain ⟨b, rfl, hw⟩ := hr
    obtain ⟨D, rfl⟩ : ∃ d, D = d + 1 := ⟨D - 1, by simp [Sh.dep] at hD; omega⟩
    simp only [shOk] at h
    split at h <;> try cases h
    rename_i ht
    simp [Program.keyLits, ht, litOf, hw]
  | sl e ih => intro h; cases h
  | ag s ih =>
    intro hn
    have ih := ih hn
    refine ⟨fun t m D cs h _ hk hD hr => ?_, fun _ _ _ _ _ _ h => by cases h⟩
    have hr : Rd w s cs := hr
    have hlen := Rd.len s hr
    obtain ⟨D, rfl⟩ : ∃ d, D = d + 1 := ⟨D - 1, by simp [Sh.dep] at hD; omega⟩
    have hD : s.dep ≤ D := by simp [Sh.dep] at hD; omega
    simp only [shOk, Bool.and_eq_true] at h
    obtain ⟨⟨hL, hc⟩, h⟩ := h
    have hc := Nat.eq_of_beq_eq_true hc
    cases m with
    | zero => simp [Program.keyTypeAt] at hk
    | succ m =>
      split at h
      · rename_i fs ht
        simp only [Program.keyTypeAt, ht, Bool.and_eq_true, Array.all_eq_true'] at hk
        obtain ⟨⟨hall, _⟩, _⟩ := hk
        obtain ⟨LL, h1, h2⟩ := ih.2 _ 0 m D cs h hL (by
          intro p hp
          obtain ⟨f, hf, rfl⟩ := List.mem_map.1 hp
          exact (hall f (by simpa using hf)).2) hD (by simpa using hr) (Nat.zero_le _)
        rw [List.mapM_map] at h1
        have hnm : fs.all (·.name != "_") = true := by rw [Array.all_eq_true']; intro f hf; exact (hall f hf).1
        simp only [Program.keyLits, ht]
        rw [if_pos ⟨by omega, hnm⟩]
        simp only [Function.comp_def] at h1
        rw [h1]
        simpa using h2
      · rename_i n e ht
        simp only [Program.keyTypeAt, ht] at hk
        obtain ⟨LL, h1, h2⟩ := ih.2 _ 0 m D cs h hL (by
          intro p hp
          obtain ⟨i, _, rfl⟩ := List.mem_map.1 hp
          exact hk) hD (by simpa using hr) (Nat.zero_le _)
        rw [List.mapM_map] at h1
        simp only [Program.keyLits, ht]
        rw [if_pos (by omega)]
        simp only [Function.comp_def] at h1
        rw [h1]
        simpa using h2
      · cases h
  | nil =>
    refine fun _ => ⟨fun _ _ _ _ _ h => (by cases h), fun l off m D cs h _ _ _ hr _ => ?_⟩
    cases l with
    | nil =>
      have hr : cs.drop off = [] := hr
      exact ⟨[], by simp, by rw [hr]; rfl⟩
    | cons => simp [shOk] at h
  | cons a b iha ihb =>
    intro hn
    simp only [Sh.noSl, Bool.and_eq_true] at hn
    have haL : a.isL = false := by simpa using hn.1.1
    have iha := iha hn.1.2
    have ihb := ihb hn.2
    refine ⟨fun _ _ _ _ _ h => (by cases h), fun l off m D cs h _ hk hD hr ho => ?_⟩
    cases l with
    | nil => simp [shOk] at h
    | cons p r =>
      obtain ⟨o, t⟩ := p
      simp only [shOk, Bool.and_eq_true] at h
      obtain ⟨⟨⟨ho', hc⟩, ha⟩, hL, hb⟩ := h
      have ho' := Nat.eq_of_beq_eq_true ho'
      have hc := Nat.eq_of_beq_eq_true hc
      subst ho'
      simp only [Sh.dep] at hD
      obtain ⟨x, y, hxy, hx, hy⟩ := hr
      have hxl := Rd.len a hx
      have hcl : cs.length = o + (x.length + y.length) := by
        have := congrArg List.length hxy
        rw [List.length_drop, List.length_append] at this; omega
      have hdr : cs.drop (o + a.n) = y := by rw [← List.drop_drop, hxy, ← hxl, List.drop_left]
      obtain ⟨LL, h1, h2⟩ := ihb.2 r (o + a.n) m D cs hb hL (fun p hp => hk p (List.mem_cons_of_mem _ hp)) (by omega) (by rw [hdr]; exact hy) (by omega)
      have hlit := iha.1 t m D x ha haL (hk (o, t) List.mem_cons_self) (by omega) hx
      refine ⟨x.map litOf :: LL, ?_, ?_⟩
      · rw [List.mapM_cons]
        have e : (cs.drop o).take (P.cellsOf t) = x := by rw [hxy, hc, ← hxl, List.take_left]
        simp only [e, hlit, h1]
        rfl
      · rw [List.flatten_cons, h2, hdr, hxy, List.map_append]
theorem litOf_inj {w w' : World} : ∀ (s : Sh), s.noSl = true → ∀ (cs ds : List Value), Rd w s cs → Rd w' s ds → cs.map litOf = ds.map litOf → cs = ds := by
  intro s
  induction s with
  | bool => rintro _ _ _ ⟨a, rfl⟩ ⟨b, rfl⟩ h; simpa [litOf] using h
  | int k => rintro _ _ _ ⟨a, rfl, _⟩ ⟨b, rfl, _⟩ h; simpa [litOf] using h
  | str =>
    rintro _ _ _ ⟨a, rfl, _⟩ ⟨b, rfl, _⟩ h
    simp [litOf] at h
    have : a = b := by cases a; cases b; simp at h; subst h; rfl
    rw [this]
  | sl e ih => intro h; cases h
  | ag s ih => intro h cs ds hc hd he; exact ih h cs ds hc hd he
  | nil => intro _ cs ds hc hd _; exact Eq.trans hc (Eq.symm hd)
  | cons a b iha ihb =>
    rintro hn _ _ ⟨x, y, rfl, hx, hy⟩ ⟨x', y', rfl, hx', hy'⟩ he
    simp only [Sh.noSl, Bool.and_eq_true] at hn
    rw [List.map_append, List.map_append] at he
    have hl : (x.map litOf).length = (x'.map litOf).length := by simp [Rd.len a hx, Rd.len a hx']
    obtain ⟨h1, h2⟩ := List.append_inj he hl
    rw [iha hn.1.2 x x' hx hx' h1, ihb hn.2 y y' hy hy' h2]
/-- the check of a type that may be compared so -/
def cmpOk (P : Program) (t m : Nat) (s : Sh) : Bool := shOk P (.ag s) t [] 0 && P.keyTypeAt m t && Nat.ble m 10000 && s.noSl && !P.eqGuardType P.depth t
theorem run_eq_agg {t m : Nat} {s : Sh} (hk : cmpOk P t m s = true) {w0 w1 : World} {cs ds : List Value} (hc : Rd w0 s cs) (hd : Rd w1 s ds) (xo yo : Operand) :
    ∃ r : Bool, (r = true ↔ cs = ds) ∧ (∀ w, (do eqGuard .eql t xo yo (.agg cs.toArray) (.agg ds.toArray); binOp .eql t (.agg cs.toArray) (.agg ds.toArray) : Sem Value).run P w = .ok (.bool r) w) ∧
      (∀ w, (do eqGuard .neq t xo yo (.agg cs.toArray) (.agg ds.toArray); binOp .neq t (.agg cs.toArray) (.agg ds.toArray) : Sem Value).run P w = .ok (.bool (!r)) w) := by
  classical
  simp only [cmpOk, Bool.and_eq_true, Bool.not_eq_true'] at hk
  obtain ⟨⟨⟨⟨hs, hkt⟩, hm⟩, hn⟩, hg⟩ := hk
  have hm : m ≤ 10000 := Nat.le_of_ble_eq_true hm
  have form : ∀ zs : List Value, Rd w0 s zs ∨ Rd w1 s zs → (Value.agg zs.toArray).formed P t = true := by
    intro zs hz
    have hl : zs.length = s.n := by rcases hz with h | h <;> exact Rd.len s h
    simp only [shOk, Bool.and_eq_true] at hs
    obtain ⟨⟨_, hcn⟩, hu⟩ := hs
    have hcn := Nat.eq_of_beq_eq_true hcn
    unfold Value.formed
    split at hu
    · rename_i fs ht; simp [ht, hl, hcn]
    · rename_i n e ht; simp [ht, hl, hcn]
    · cases hu
  have l1 := (lits_aux (P := P) (w := w0) (.ag s) hn).1 t m (Sh.ag s).dep cs hs rfl hkt (Nat.le_refl _) hc
  have l2 := (lits_aux (P := P) (w := w1) (.ag s) hn).1 t m (Sh.ag s).dep ds hs rfl hkt (Nat.le_refl _) hd
  have key := fun w => run_equalIn_deep (P := P) (10000 - m) m t hkt w _ _ (.agg cs.toArray) (.agg ds.toArray) _ _ (form cs (.inl hc)) (form ds (.inr hd)) (by simpa [Value.cells] using l1) (by simpa [Value.cells] using l2)
  rw [show 10000 - m + m = 10000 by omega] at key
  refine ⟨decide (cs.map litOf = ds.map litOf), ?_, fun w => ?_, fun w => ?_⟩
  · rw [decide_eq_true_iff]
    exact ⟨litOf_inj s hn cs ds hc hd, fun h => by rw [h]⟩
  · obtain ⟨r, hr, hri⟩ := key w
    have : r = decide (cs.map litOf = ds.map litOf) := by rw [Bool.eq_iff_iff, hri, decide_eq_true_iff]
    rw [Sem.run_bind, run_eqGuard_agg _ _ _ _ _ _ _ hg]
    simp only [Result.andThen]
    rw [run_eql_struct, hr, this]
    rfl
  · obtain ⟨r, hr, hri⟩ := key w
    have : r = decide (cs.map litOf = ds.map litOf) := by rw [Bool.eq_iff_iff, hri, decide_eq_true_iff]
    rw [Sem.run_bind, run_eqGuard_agg _ _ _ _ _ _ _ hg]
    simp only [Result.andThen]
    rw [run_neq_struct, hr, this]
    rfl
end
end V
end Go.Proofs.Ytejphmgpndgliaa
