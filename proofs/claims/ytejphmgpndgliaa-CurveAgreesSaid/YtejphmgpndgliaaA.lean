/- Data that come in: read by a shape. Own work. No program is named here. -/
import Derived.Test.YtejphmgpndgliaaP
import Derived.ChangeSlices
namespace Go.Proofs.Ytejphmgpndgliaa
set_option linter.unusedSimpArgs false
set_option linter.unusedVariables false
open Go.RowKit Go.WideShapes Go.ChangeShapes
namespace V
/-- The shape of a datum: what its cells hold. 'ag': a struct or an array, by 'nil' and 'cons'. -/
inductive Sh where
  | bool | int (k : IntKind) | str | sl (e : Sh) | ag (s : Sh) | nil | cons (a b : Sh)
def Sh.n : Sh → Nat
  | .bool | .int _ | .str | .sl _ => 1
  | .ag s => s.n
  | .nil => 0
  | .cons a b => a.n + b.n
def Sh.isL : Sh → Bool
  | .nil | .cons _ _ => true
  | _ => false
theorem Sh.isL_or {s : Sh} (h : s.isL = true) : s = .nil ∨ ∃ a b, s = .cons a b := by
  cases s <;> first | exact .inl rfl | exact .inr ⟨_, _, rfl⟩ | cases h
/-- A slice that reads as a list of rows of so many cells. -/
def SLn (w : World) (size : Nat) (v : Value) (xs : List (List Value)) : Prop :=
  (v = .slice none 0 0 ∧ xs = []) ∨ (∃ a c, v = .slice a 0 c ∧ xs = []) ∨
  ∃ g off c, v = .slice (some ⟨g, off, none⟩) xs.length c ∧ xs.length ≤ c ∧ c ≤ maxLen ∧ ∀ (j : Nat) (x : List Value), xs[j]? = some x → x.length = size ∧ ∀ (i : Nat) (y : Value), x[i]? = some y → w.cell? ⟨g, off + (j * size + i), none⟩ = some y
def Rd (w : World) : Sh → List Value → Prop
  | .bool, cs => ∃ b, cs = [.bool b]
  | .int k, cs => ∃ n, cs = [.int k n] ∧ (Lit.int k n).wf = true
  | .str, cs => ∃ s : ByteArray, cs = [.string s] ∧ s.size ≤ maxLen
  | .sl e, cs => ∃ (v : Value) (xs : List (List Value)), cs = [v] ∧ SLn w e.n v xs ∧ ∀ x ∈ xs, Rd w e x
  | .ag s, cs => Rd w s cs
  | .nil, cs => cs = []
  | .cons a b, cs => ∃ x y, cs = x ++ y ∧ Rd w a x ∧ Rd w b y
theorem Rd.len {w : World} : ∀ (s : Sh) {cs : List Value}, Rd w s cs → cs.length = s.n
  | .bool, _, ⟨_, h⟩ => by rw [h]; rfl
  | .int _, _, ⟨_, h, _⟩ => by rw [h]; rfl
  | .str, _, ⟨_, h, _⟩ => by rw [h]; rfl
  | .sl _, _, ⟨_, _, h, _⟩ => by rw [h]; rfl
  | .ag s, _, h => by have h' : Rd w s _ := h; rw [Rd.len s h']; rfl
  | .nil, _, h => by have h' : _ = [] := h; rw [h']; rfl
  | .cons a b, _, ⟨x, y, h, h1, h2⟩ => by rw [h, List.length_append, Rd.len a h1, Rd.len b h2]; rfl
/-- The shape is the type's; for 'nil' and 'cons': the list's of places and types, from a place on. -/
def shOk (P : Program) : Sh → Nat → List (Nat × Nat) → Nat → Bool
  | .bool, t, _, _ => (match P.underlying t with | some .bool => true | _ => false)
  | .int k, t, _, _ => (match P.underlying t with | some (.int k') => decide (k = k') | _ => false)
  | .str, t, _, _ => (match P.underlying t with | some .string => true | _ => false)
  | .sl e, t, _, _ => (match P.underlying t with | some (.slice u) => Nat.beq (P.cellsOf u) e.n && Nat.blt 0 e.n && shOk P e u [] 0 | _ => false)
  | .ag s, t, _, _ => s.isL && Nat.beq (P.cellsOf t) s.n && (match P.underlying t with
    | some (.struct fs) => shOk P s 0 (fs.toList.map fun f => (f.offset, f.type)) 0
    | some (.array n e) => shOk P s 0 ((List.range n).map fun i => (i * P.cellsOf e, e)) 0
    | _ => false)
  | .nil, _, [], _ => true
  | .nil, _, _ :: _, _ => false
  | .cons _ _, _, [], _ => false
  | .cons a b, _, (o, t) :: r, off => Nat.beq o off && Nat.beq (P.cellsOf t) a.n && shOk P a t [] 0 && (b.isL && shOk P b 0 r (off + a.n))
section
variable {H : Type} {enc : TypeId × Value → H} {P : Program} {w : World}
theorem rd_aux : ∀ (s : Sh),
    (∀ (t fuel : Nat) (cs : List Value) (x : DataW H × List MemPlace), shOk P s t [] 0 = true → DataW.trod enc P w 0 (fun _ => true) true fuel t cs = some x → Rd w s cs ∨ (s = .nil)) ∧
    (∀ (l : List (Nat × Nat)) (off n : Nat) (cs : List Value), shOk P s 0 l off = true → (s = .nil ∨ ∃ a b, s = .cons a b) → cs.length = off + s.n →
      (∀ p ∈ l, ∃ x, DataW.trod enc P w 0 (fun _ => true) true n p.2 ((cs.drop p.1).take (P.cellsOf p.2)) = some x) → Rd w s (cs.drop off)) := by
  intro s
  induction s with
  | bool =>
    refine ⟨fun t fuel cs x h hx => .inl ?_, fun _ _ _ _ _ h => by rcases h with h | ⟨_, _, h⟩ <;> cases h⟩
    simp only [shOk] at h
    split at h <;> try cases h
    rename_i ht
    obtain ⟨b, rfl, _⟩ := DataW.trod_bool ht hx
    exact ⟨b, rfl⟩
  | int k =>
    refine ⟨fun t fuel cs x h hx => .inl ?_, fun _ _ _ _ _ h => by rcases h with h | ⟨_, _, h⟩ <;> cases h⟩
    simp only [shOk] at h
    split at h <;> try cases h
    rename_i k' ht
    have h := of_decide_eq_true h
    subst h
    obtain ⟨n, rfl, _, hw⟩ := DataW.trod_int ht hx
    exact ⟨n, rfl, hw⟩
  | str =>
    refine ⟨fun t fuel cs x h hx => .inl ?_, fun _ _ _ _ _ h => by rcases h with h | ⟨_, _, h⟩ <;> cases h⟩
    simp only [shOk] at h
    split at h <;> try cases h
    rename_i ht
    obtain ⟨s, rfl, _, hw⟩ := DataW.trod_string ht hx
    exact ⟨s, rfl, hw⟩
  | sl e ih =>
    refine ⟨fun t fuel cs x h hx => .inl ?_, fun _ _ _ _ _ h => by rcases h with h | ⟨_, _, h⟩ <;> cases h⟩
    simp only [shOk] at h
    split at h
    case h_2 => cases h
    rename_i u ht
    simp only [Bool.and_eq_true] at h
    obtain ⟨⟨hn, hpos⟩, hu⟩ := h
    have hn := Nat.eq_of_beq_eq_true hn
    have hpos : 0 < e.n := by simpa using hpos
    rcases DataW.trod_slice ht hx with ⟨rfl, _⟩ | ⟨a, len, cap, elems, rest, n, _, rfl, _, _, hl, hm, hlen, hel, hspare⟩
    · exact ⟨_, [], rfl, .inl ⟨rfl, rfl⟩, by simp⟩
    · rw [hn] at hel
      have each : ∀ i, i < len → ∃ cs', w.cells? 0 (a.add (i * e.n)) e.n = some cs' ∧ Rd w e cs' := by
        intro i hi
        have := hel i hi
        rw [List.getElem?_eq_getElem (by omega), Option.bind_eq_some_iff] at this
        obtain ⟨cs', h1, h2⟩ := this
        refine ⟨cs', h1, ?_⟩
        rcases (ih.1 u n cs' _ hu h2) with h | h
        · exact h
        · subst h; exact absurd hpos (by simp [Sh.n])
      have hex : ∃ xs : List (List Value), xs.length = len ∧ ∀ i x, xs[i]? = some x → w.cells? 0 (a.add (i * e.n)) e.n = some x ∧ Rd w e x := by
        clear hlen hel hl hx hspare
        induction len with
        | zero => exact ⟨[], rfl, by simp⟩
        | succ k ihk =>
          obtain ⟨xs, hxs, hall⟩ := ihk (fun i hi => each i (by omega))
          obtain ⟨c, h1, h2⟩ := each k (by omega)
          refine ⟨xs ++ [c], by simp [hxs], fun i x hix => ?_⟩
          by_cases hi : i < xs.length
          · rw [List.getElem?_append_left hi] at hix; exact hall i x hix
          · rw [List.getElem?_append_right (by omega)] at hix
            have : i - xs.length = 0 := by
              by_cases h0 : i - xs.length = 0
              · exact h0
              · rw [List.getElem?_eq_none (by simp; omega)] at hix; cases hix
            rw [this] at hix
            simp at hix
            subst hix
            rw [show i = k by omega]
            exact ⟨h1, h2⟩
      obtain ⟨xs, hxs, hall⟩ := hex
      refine ⟨_, xs, rfl, ?_, fun x hx' => ?_⟩
      · cases len with
        | zero => exact .inr (.inl ⟨_, _, rfl, List.eq_nil_of_length_eq_zero hxs⟩)
        | succ k =>
          right; right
          have h0 := World.cells?_some (hall 0 xs[0] (by simp [hxs])).1
          obtain ⟨g, off, sp⟩ := a
          have hsp : sp = none := by
            cases sp with
            | none => rfl
            | some z =>
              exfalso
              have h := h0.2.2 0 hpos
              simp [Addr.add, World.cell?] at h
              have hlen0 : 0 < xs[0].length := by omega
              rw [List.getElem?_eq_getElem hlen0] at h
              split at h <;> cases h
          subst hsp
          refine ⟨g, off, cap, by rw [hxs], by omega, hm, fun j x hj => ?_⟩
          have hj' := World.cells?_some (hall j x hj).1
          refine ⟨by simpa using hj'.2.1, fun i y hy => ?_⟩
          have hi : i < e.n := by rw [← hj'.2.1]; exact (List.getElem?_eq_some_iff.1 hy).1
          have h := hj'.2.2 i hi
          rw [hy] at h
          rw [← h]
          congr 1
          unfold Addr.add
          split <;> split <;> simp_all <;> omega
      · obtain ⟨i, hi⟩ := List.getElem?_of_mem hx'
        exact (hall i x hi).2
  | ag s ih =>
    refine ⟨fun t fuel cs x h hx => .inl ?_, fun _ _ _ _ _ h => by rcases h with h | ⟨_, _, h⟩ <;> cases h⟩
    simp only [shOk, Bool.and_eq_true] at h
    obtain ⟨⟨hL, hc⟩, h⟩ := h
    have hc := Nat.eq_of_beq_eq_true hc
    show Rd w s cs
    split at h
    · rename_i fs ht
      obtain ⟨xs, n, _, _, hl, hlen, hf⟩ := DataW.trod_struct ht hx
      have key := ih.2 _ 0 n cs h (Sh.isL_or hL) (by omega) ?_
      · simpa using key
      · intro p hp
        obtain ⟨f, hf', rfl⟩ := List.mem_map.1 hp
        obtain ⟨i, hi⟩ := List.getElem?_of_mem hf'
        have hi2 : i < fs.size := by simpa using (List.getElem?_eq_some_iff.1 hi).1
        have := hf i f (by simpa using hi)
        rw [List.getElem?_eq_getElem (by omega)] at this
        exact ⟨_, this⟩
    · rename_i n e ht
      obtain ⟨xs, m, _, _, hl, hlen, hf⟩ := DataW.trod_array ht hx
      have key := ih.2 _ 0 m cs h (Sh.isL_or hL) (by omega) ?_
      · simpa using key
      · intro p hp
        obtain ⟨i, hi', rfl⟩ := List.mem_map.1 hp
        have hi2 := List.mem_range.1 hi'
        have := hf i hi2
        rw [List.getElem?_eq_getElem (by omega)] at this
        exact ⟨_, this⟩
    · cases h
  | nil =>
    refine ⟨fun _ _ _ _ _ _ => .inr rfl, fun l off n cs h _ hl _ => ?_⟩
    show cs.drop off = []
    rw [List.drop_eq_nil_iff]
    simp only [Sh.n] at hl
    omega
  | cons a b iha ihb =>
    refine ⟨fun t fuel cs x h => by simp [shOk] at h, fun l off n cs h _ hl hall => ?_⟩
    cases l with
    | nil => simp [shOk] at h
    | cons p r =>
      obtain ⟨o, t⟩ := p
      simp only [shOk, Bool.and_eq_true] at h
      obtain ⟨⟨⟨ho, hc⟩, ha⟩, hL, hb⟩ := h
      have ho := Nat.eq_of_beq_eq_true ho
      have hc := Nat.eq_of_beq_eq_true hc
      subst ho
      simp only [Sh.n] at hl
      obtain ⟨x, hx⟩ := hall (o, t) List.mem_cons_self
      refine ⟨(cs.drop o).take a.n, cs.drop (o + a.n), by rw [← List.drop_drop, List.take_append_drop], ?_, ?_⟩
      · rw [← hc]
        rcases iha.1 t n _ x ha hx with h | h
        · exact h
        · subst h; simp only [Sh.n] at hc; rw [show P.cellsOf t = 0 from hc]; exact rfl
      · exact ihb.2 r (o + a.n) n cs hb (Sh.isL_or hL) (by omega) (fun p hp => hall p (List.mem_cons_of_mem _ hp))
theorem rd_of {s : Sh} {t : Nat} {v : Value} {d : DataW H} {ps : List MemPlace} (hs : shOk P s t [] 0 = true) (hn : s.isL = false) (h : DataW.Trod enc P w 0 (fun _ => true) true t v d ps) : Rd w s v.cells.toList := by
  obtain ⟨fuel, hf⟩ := h
  rcases (rd_aux s).1 t fuel _ _ hs hf with h | h
  · exact h
  · subst h; cases hn
/-- a slice among the arguments -/
theorem rd_sl {e : Sh} {t : Nat} {v : Value} {d : DataW H} {ps : List MemPlace} (hs : shOk P (.sl e) t [] 0 = true) {r : Reach} {b : Nat} (hv : Value.okWide P w r b t v) (h : DataW.Trod enc P w 0 (fun _ => true) true t v d ps) : ∃ xs, SLn w e.n v xs ∧ ∀ x ∈ xs, Rd w e x := by
  obtain ⟨u, xs, h1, h2, h3⟩ := rd_of hs rfl h
  have ht : ∃ u, P.underlying t = some (.slice u) := by
    simp only [shOk] at hs
    split at hs
    · rename_i u ht; exact ⟨u, ht⟩
    · cases hs
  obtain ⟨_, ht⟩ := ht
  obtain ⟨a, l, c, rfl⟩ := okWide_slice ht hv
  simp [Value.cells] at h1
  subst h1
  exact ⟨xs, h2, h3⟩
/-- a struct or an array among the arguments -/
theorem rd_ag {s : Sh} {t : Nat} {v : Value} {d : DataW H} {ps : List MemPlace} (hs : shOk P (.ag s) t [] 0 = true) {r : Reach} {b : Nat} (hv : Value.okWide P w r b t v) (h : DataW.Trod enc P w 0 (fun _ => true) true t v d ps) : ∃ cs, v = .agg cs ∧ Rd w s cs.toList := by
  have h1 := rd_of hs rfl h
  have h2 : ∃ cs, v = .agg cs := by
    simp only [shOk, Bool.and_eq_true] at hs
    have hs := hs.2
    split at hs
    · rename_i fs ht; obtain ⟨cs, h, _⟩ := okWide_struct ht hv; exact ⟨cs, h⟩
    · rename_i n e ht
      simp only [Value.okWide, ht] at hv
      obtain ⟨cs, h, _⟩ := hv; exact ⟨cs, h⟩
    · cases hs
  obtain ⟨cs, rfl⟩ := h2
  exact ⟨cs, rfl, h1⟩
theorem Rd.strs {xs : List (List Value)} (h : ∀ x ∈ xs, Rd w .str x) : ∃ L : List ByteArray, xs = L.map (fun s => [.string s]) ∧ ∀ s ∈ L, s.size ≤ maxLen := by
  induction xs with
  | nil => exact ⟨[], rfl, by simp⟩
  | cons x xs ih =>
    obtain ⟨L, rfl, hL⟩ := ih (fun y hy => h y (List.mem_cons_of_mem _ hy))
    obtain ⟨s, rfl, hs⟩ := h x List.mem_cons_self
    exact ⟨s :: L, rfl, fun y hy => by
      rcases List.mem_cons.1 hy with rfl | hy
      · exact hs
      · exact hL y hy⟩
/-- []string -/
theorem SLn.strs {v : Value} {xs : List (List Value)} (h : SLn w 1 v xs) (hx : ∀ x ∈ xs, Rd w .str x) : ∃ L : List ByteArray, SLv w v (L.map .string) ∧ ∀ s ∈ L, s.size ≤ maxLen := by
  obtain ⟨L, rfl, hL⟩ := Rd.strs hx
  refine ⟨L, ?_, hL⟩
  rcases h with ⟨rfl, h⟩ | ⟨a, c, rfl, h⟩ | ⟨g, off, c, rfl, hle, _, h⟩
  · exact .inl ⟨by simpa using h, _, _, rfl⟩
  · exact .inl ⟨by simpa using h, _, _, rfl⟩
  · refine .inr ⟨g, off, c, by simp, by simpa using hle, fun j y hy => ?_⟩
    rw [List.getElem?_map, Option.map_eq_some_iff] at hy
    obtain ⟨s, hs, rfl⟩ := hy
    have := (h j [.string s] (by simp [hs])).2 0 (.string s) rfl
    simpa using this
end
end V
end Go.Proofs.Ytejphmgpndgliaa
