/- Data that come in: read by a shape. Own work. No program is named here. -/
/- Structs and arrays that are compared. Own work, over the kit's law for deep keys. No program is named here. -/
/- Plain mathematics: numbers, bits, octets. No program. -/
/- Chapter 02: digests, as numbers; mathematics. No program. -/
/- Chapter 02: small functions, walked: Mul64, RotateLeft32 to the left, Clone, HasPrefix. -/
/- Chapter 02: the constants. -/
/- Chapter 02: the program's constants. -/
/- Own slices, elements of one cell, whatever marks their rows bear. Own work. No program is named here. -/
/- Chapter 02: the program's constants, walked. -/
/- Chapter 02: the blocks, one after another. -/
import Derived.Test.YtmlmfmdmomegpaaGreatDoorCO03
import Derived.ChangeSlices
import Derived.DeepKeys
import Derived.Laws.StructEq
import Derived.Test.YtmlmfmdmomegpaaGreatDoorCO02
import Derived.Lib.UnsafeStr
namespace Go.Proofs.YtmlmfmdmomegpaaGreatDoor
set_option linter.unusedSimpArgs false
set_option linter.unusedVariables false
open Go.RowKit Go.WideShapes Go.ChangeShapes
namespace V
/-- The shape of a datum: what its cells hold. 'ag': a struct or an array, by 'nil' and 'cons'. -/
inductive Sh where
  | bool | int (k : IntKind) | str | sl (e : Sh) | ag (s : Sh) | nil | cons (a b : Sh)
def Sh.n : Sh → Nat
  | .bool | .int _ | .str | .sl _ => 1
  | .ag s => s.n
  | .nil => 0
  | .cons a b => a.n + b.n
def Sh.isL : Sh → Bool
  | .nil | .cons _ _ => true
  | _ => false
theorem Sh.isL_or {s : Sh} (h : s.isL = true) : s = .nil ∨ ∃ a b, s = .cons a b := by
  cases s <;> first | exact .inl rfl | exact .inr ⟨_, _, rfl⟩ | cases h
/-- A slice that reads as a list of rows of so many cells. -/
def SLn (w : World) (size : Nat) (v : Value) (xs : List (List Value)) : Prop :=
  (v = .slice none 0 0 ∧ xs = []) ∨ (∃ a c, v = .slice a 0 c ∧ xs = []) ∨
  ∃ g off c, v = .slice (some ⟨g, off, none⟩) xs.length c ∧ xs.length ≤ c ∧ c ≤ maxLen ∧ ∀ (j : Nat) (x : List Value), xs[j]? = some x → x.length = size ∧ ∀ (i : Nat) (y : Value), x[i]? = some y → w.cell? ⟨g, off + (j * size + i), none⟩ = some y
def Rd (w : World) : Sh → List Value → Prop
  | .bool, cs => ∃ b, cs = [.bool b]
  | .int k, cs => ∃ n, cs = [.int k n] ∧ (Lit.int k n).wf = true
  | .str, cs => ∃ s : ByteArray, cs = [.string s] ∧ s.size ≤ maxLen
  | .sl e, cs => ∃ (v : Value) (xs : List (List Value)), cs = [v] ∧ SLn w e.n v xs ∧ ∀ x ∈ xs, Rd w e x
  | .ag s, cs => Rd w s cs
  | .nil, cs => cs = []
  | .cons a b, cs => ∃ x y, cs = x ++ y ∧ Rd w a x ∧ Rd w b y
theorem Rd.len {w : World} : ∀ (s : Sh) {cs : List Value}, Rd w s cs → cs.length = s.n
  | .bool, _, ⟨_, h⟩ => by rw [h]; rfl
  | .int _, _, ⟨_, h, _⟩ => by rw [h]; rfl
  | .str, _, ⟨_, h, _⟩ => by rw [h]; rfl
  | .sl _, _, ⟨_, _, h, _⟩ => by rw [h]; rfl
  | .ag s, _, h => by have h' : Rd w s _ := h; rw [Rd.len s h']; rfl
  | .nil, _, h => by have h' : _ = [] := h; rw [h']; rfl
  | .cons a b, _, ⟨x, y, h, h1, h2⟩ => by rw [h, List.length_append, Rd.len a h1, Rd.len b h2]; rfl
/-- The shape is the type's; for 'nil' and 'cons': the list's of places and types, from a place on. -/
def shOk (P : Program) : Sh → Nat → List (Nat × Nat) → Nat → Bool
  | .bool, t, _, _ => (match P.underlying t with | some .bool => true | _ => false)
  | .int k, t, _, _ => (match P.underlying t with | some (.int k') => decide (k = k') | _ => false)
  | .str, t, _, _ => (match P.underlying t with | some .string => true | _ => false)
  | .sl e, t, _, _ => (match P.underlying t with | some (.slice u) => Nat.beq (P.cellsOf u) e.n && Nat.blt 0 e.n && shOk P e u [] 0 | _ => false)
  | .ag s, t, _, _ => s.isL && Nat.beq (P.cellsOf t) s.n && (match P.underlying t with
    | some (.struct fs) => shOk P s 0 (fs.toList.map fun f => (f.offset, f.type)) 0
    | some (.array n e) => shOk P s 0 ((List.range n).map fun i => (i * P.cellsOf e, e)) 0
    | _ => false)
  | .nil, _, [], _ => true
  | .nil, _, _ :: _, _ => false
  | .cons _ _, _, [], _ => false
  | .cons a b, _, (o, t) :: r, off => Nat.beq o off && Nat.beq (P.cellsOf t) a.n && shOk P a t [] 0 && (b.isL && shOk P b 0 r (off + a.n))
section
variable {H : Type} {enc : TypeId × Value → H} {P : Program} {w : World}
theorem rd_aux : ∀ (s : Sh),
    (∀ (t fuel : Nat) (cs : List Value) (x : DataW H × List MemPlace), shOk P s t [] 0 = true → DataW.trod enc P w 0 (fun _ => true) true fuel t cs = some x → Rd w s cs ∨ (s = .nil)) ∧
    (∀ (l : List (Nat × Nat)) (off n : Nat) (cs : List Value), shOk P s 0 l off = true → (s = .nil ∨ ∃ a b, s = .cons a b) → cs.length = off + s.n →
      (∀ p ∈ l, ∃ x, DataW.trod enc P w 0 (fun _ => true) true n p.2 ((cs.drop p.1).take (P.cellsOf p.2)) = some x) → Rd w s (cs.drop off)) := by
  intro s
  induction s with
  | bool =>
    refine ⟨fun t fuel cs x h hx => .inl ?_, fun _ _ _ _ _ h => by rcases h with h | ⟨_, _, h⟩ <;> cases h⟩
    simp only [shOk] at h
    split at h <;> try cases h
    rename_i ht
    obtain ⟨b, rfl, _⟩ := DataW.trod_bool ht hx
    exact ⟨b, rfl⟩
  | int k =>
    refine ⟨fun t fuel cs x h hx => .inl ?_, fun _ _ _ _ _ h => by rcases h with h | ⟨_, _, h⟩ <;> cases h⟩
    simp only [shOk] at h
    split at h <;> try cases h
    rename_i k' ht
    have h := of_decide_eq_true h
    subst h
    obtain ⟨n, rfl, _, hw⟩ := DataW.trod_int ht hx
    exact ⟨n, rfl, hw⟩
  | str =>
    refine ⟨fun t fuel cs x h hx => .inl ?_, fun _ _ _ _ _ h => by rcases h with h | ⟨_, _, h⟩ <;> cases h⟩
    simp only [shOk] at h
    split at h <;> try cases h
    rename_i ht
    obtain ⟨s, rfl, _, hw⟩ := DataW.trod_string ht hx
    exact ⟨s, rfl, hw⟩
  | sl e ih =>
    refine ⟨fun t fuel cs x h hx => .inl ?_, fun _ _ _ _ _ h => by rcases h with h | ⟨_, _, h⟩ <;> cases h⟩
    simp only [shOk] at h
    split at h
    case h_2 => cases h
    rename_i u ht
    simp only [Bool.and_eq_true] at h
    obtain ⟨⟨hn, hpos⟩, hu⟩ := h
    have hn := Nat.eq_of_beq_eq_true hn
    have hpos : 0 < e.n := by simpa using hpos
    rcases DataW.trod_slice ht hx with ⟨rfl, _⟩ | ⟨a, len, cap, elems, rest, n, _, rfl, _, _, hl, hm, hlen, hel, hspare⟩
    · exact ⟨_, [], rfl, .inl ⟨rfl, rfl⟩, by simp⟩
    · rw [hn] at hel
      have each : ∀ i, i < len → ∃ cs', w.cells? 0 (a.add (i * e.n)) e.n = some cs' ∧ Rd w e cs' := by
        intro i hi
        have := hel i hi
        rw [List.getElem?_eq_getElem (by omega), Option.bind_eq_some_iff] at this
        obtain ⟨cs', h1, h2⟩ := this
        refine ⟨cs', h1, ?_⟩
        rcases (ih.1 u n cs' _ hu h2) with h | h
        · exact h
        · subst h; exact absurd hpos (by simp [Sh.n])
      have hex : ∃ xs : List (List Value), xs.length = len ∧ ∀ i x, xs[i]? = some x → w.cells? 0 (a.add (i * e.n)) e.n = some x ∧ Rd w e x := by
        clear hlen hel hl hx hspare
        induction len with
        | zero => exact ⟨[], rfl, by simp⟩
        | succ k ihk =>
          obtain ⟨xs, hxs, hall⟩ := ihk (fun i hi => each i (by omega))
          obtain ⟨c, h1, h2⟩ := each k (by omega)
          refine ⟨xs ++ [c], by simp [hxs], fun i x hix => ?_⟩
          by_cases hi : i < xs.length
          · rw [List.getElem?_append_left hi] at hix; exact hall i x hix
          · rw [List.getElem?_append_right (by omega)] at hix
            have : i - xs.length = 0 := by
              by_cases h0 : i - xs.length = 0
              · exact h0
              · rw [List.getElem?_eq_none (by simp; omega)] at hix; cases hix
            rw [this] at hix
            simp at hix
            subst hix
            rw [show i = k by omega]
            exact ⟨h1, h2⟩
      obtain ⟨xs, hxs, hall⟩ := hex
      refine ⟨_, xs, rfl, ?_, fun x hx' => ?_⟩
      · cases len with
        | zero => exact .inr (.inl ⟨_, _, rfl, List.eq_nil_of_length_eq_zero hxs⟩)
        | succ k =>
          right; right
          have h0 := World.cells?_some (hall 0 xs[0] (by simp [hxs])).1
          obtain ⟨g, off, sp⟩ := a
          have hsp : sp = none := by
            cases sp with
            | none => rfl
            | some z =>
              exfalso
              have h := h0.2.2 0 hpos
              simp [Addr.add, World.cell?] at h
              have hlen0 : 0 < xs[0].length := by omega
              rw [List.getElem?_eq_getElem hlen0] at h
              split at h <;> cases h
          subst hsp
          refine ⟨g, off, cap, by rw [hxs], by omega, hm, fun j x hj => ?_⟩
          have hj' := World.cells?_some (hall j x hj).1
          refine ⟨by simpa using hj'.2.1, fun i y hy => ?_⟩
          have hi : i < e.n := by rw [← hj'.2.1]; exact (List.getElem?_eq_some_iff.1 hy).1
          have h := hj'.2.2 i hi
          rw [hy] at h
          rw [← h]
          congr 1
          unfold Addr.add
          split <;> split <;> simp_all <;> omega
      · obtain ⟨i, hi⟩ := List.getElem?_of_mem hx'
        exact (hall i x hi).2
  | ag s ih =>
    refine ⟨fun t fuel cs x h hx => .inl ?_, fun _ _ _ _ _ h => by rcases h with h | ⟨_, _, h⟩ <;> cases h⟩
    simp only [shOk, Bool.and_eq_true] at h
    obtain ⟨⟨hL, hc⟩, h⟩ := h
    have hc := Nat.eq_of_beq_eq_true hc
    show Rd w s cs
    split at h
    · rename_i fs ht
      obtain ⟨xs, n, _, _, hl, hlen, hf⟩ := DataW.trod_struct ht hx
      have key := ih.2 _ 0 n cs h (Sh.isL_or hL) (by omega) ?_
      · simpa using key
      · intro p hp
        obtain ⟨f, hf', rfl⟩ := List.mem_map.1 hp
        obtain ⟨i, hi⟩ := List.getElem?_of_mem hf'
        have hi2 : i < fs.size := by simpa using (List.getElem?_eq_some_iff.1 hi).1
        have := hf i f (by simpa using hi)
        rw [List.getElem?_eq_getElem (by omega)] at this
        exact ⟨_, this⟩
    · rename_i n e ht
      obtain ⟨xs, m, _, _, hl, hlen, hf⟩ := DataW.trod_array ht hx
      have key := ih.2 _ 0 m cs h (Sh.isL_or hL) (by omega) ?_
      · simpa using key
      · intro p hp
        obtain ⟨i, hi', rfl⟩ := List.mem_map.1 hp
        have hi2 := List.mem_range.1 hi'
        have := hf i hi2
        rw [List.getElem?_eq_getElem (by omega)] at this
        exact ⟨_, this⟩
    · cases h
  | nil =>
    refine ⟨fun _ _ _ _ _ _ => .inr rfl, fun l off n cs h _ hl _ => ?_⟩
    show cs.drop off = []
    rw [List.drop_eq_nil_iff]
    simp only [Sh.n] at hl
    omega
  | cons a b iha ihb =>
    refine ⟨fun t fuel cs x h => by simp [shOk] at h, fun l off n cs h _ hl hall => ?_⟩
    cases l with
    | nil => simp [shOk] at h
    | cons p r =>
      obtain ⟨o, t⟩ := p
      simp only [shOk, Bool.and_eq_true] at h
      obtain ⟨⟨⟨ho, hc⟩, ha⟩, hL, hb⟩ := h
      have ho := Nat.eq_of_beq_eq_true ho
      have hc := Nat.eq_of_beq_eq_true hc
      subst ho
      simp only [Sh.n] at hl
      obtain ⟨x, hx⟩ := hall (o, t) List.mem_cons_self
      refine ⟨(cs.drop o).take a.n, cs.drop (o + a.n), by rw [← List.drop_drop, List.take_append_drop], ?_, ?_⟩
      · rw [← hc]
        rcases iha.1 t n _ x ha hx with h | h
        · exact h
        · subst h; simp only [Sh.n] at hc; rw [show P.cellsOf t = 0 from hc]; exact rfl
      · exact ihb.2 r (o + a.n) n cs hb (Sh.isL_or hL) (by omega) (fun p hp => hall p (List.mem_cons_of_mem _ hp))
theorem rd_of {s : Sh} {t : Nat} {v : Value} {d : DataW H} {ps : List MemPlace} (hs : shOk P s t [] 0 = true) (hn : s.isL = false) (h : DataW.Trod enc P w 0 (fun _ => true) true t v d ps) : Rd w s v.cells.toList := by
  obtain ⟨fuel, hf⟩ := h
  rcases (rd_aux s).1 t fuel _ _ hs hf with h | h
  · exact h
  · subst h; cases hn
/-- a struct or an array among the arguments -/
theorem rd_ag {s : Sh} {t : Nat} {v : Value} {d : DataW H} {ps : List MemPlace} (hs : shOk P (.ag s) t [] 0 = true) {r : Reach} {b : Nat} (hv : Value.okWide P w r b t v) (h : DataW.Trod enc P w 0 (fun _ => true) true t v d ps) : ∃ cs, v = .agg cs ∧ Rd w s cs.toList := by
  have h1 := rd_of hs rfl h
  have h2 : ∃ cs, v = .agg cs := by
    simp only [shOk, Bool.and_eq_true] at hs
    have hs := hs.2
    split at hs
    · rename_i fs ht; obtain ⟨cs, h, _⟩ := okWide_struct ht hv; exact ⟨cs, h⟩
    · rename_i n e ht
      simp only [Value.okWide, ht] at hv
      obtain ⟨cs, h, _⟩ := hv; exact ⟨cs, h⟩
    · cases hs
  obtain ⟨cs, rfl⟩ := h2
  exact ⟨cs, rfl, h1⟩
end
end V
end Go.Proofs.YtmlmfmdmomegpaaGreatDoor
namespace Go.Proofs.YtmlmfmdmomegpaaGreatDoor
set_option linter.unusedSimpArgs false
set_option linter.unusedVariables false
open Go.RowKit Go.WideShapes Go.ChangeShapes
namespace V
def litOf : Value → Lit
  | .bool b => .bool b
  | .int k n => .int k n
  | .string s => .string s.data.toList
  | _ => .bool false
def Sh.noSl : Sh → Bool
  | .sl _ => false
  | .ag s => s.noSl
  | .cons a b => !a.isL && a.noSl && b.noSl
  | _ => true
def Sh.dep : Sh → Nat
  | .ag s => s.dep + 1
  | .cons a b => max a.dep b.dep
  | _ => 1
section
variable {P : Program} {w : World}
theorem lits_aux : ∀ (s : Sh), s.noSl = true →
    (∀ (t m D : Nat) (cs : List Value), shOk P s t [] 0 = true → s.isL = false → P.keyTypeAt m t = true → s.dep ≤ D → Rd w s cs → P.keyLits D t cs = some (cs.map litOf)) ∧
    (∀ (l : List (Nat × Nat)) (off m D : Nat) (cs : List Value), shOk P s 0 l off = true → s.isL = true → (∀ p ∈ l, P.keyTypeAt m p.2 = true) → s.dep ≤ D → Rd w s (cs.drop off) → off ≤ cs.length →
      ∃ LL : List (List Lit), l.mapM (fun p => P.keyLits D p.2 ((cs.drop p.1).take (P.cellsOf p.2))) = some LL ∧ LL.flatten = (cs.drop off).map litOf) := by
  intro s
  induction s with
  | bool =>
    refine fun _ => ⟨fun t m D cs h _ _ hD hr => ?_, fun _ _ _ _ _ _ h => by cases h⟩
    obtain ⟨b, rfl⟩ := hr
    obtain ⟨D, rfl⟩ : ∃ d, D = d + 1 := ⟨D - 1, by simp [Sh.dep] at hD; omega⟩
    simp only [shOk] at h
    split at h <;> try cases h
    rename_i ht
    simp [Program.keyLits, ht, litOf]
  | int k =>
    refine fun _ => ⟨fun t m D cs h _ _ hD hr => ?_, fun _ _ _ _ _ _ h => by cases h⟩
    obtain ⟨b, rfl, hw⟩ := hr
    obtain ⟨D, rfl⟩ : ∃ d, D = d + 1 := ⟨D - 1, by simp [Sh.dep] at hD; omega⟩
    simp only [shOk] at h
    split at h <;> try cases h
    rename_i k' ht
    have h := of_decide_eq_true h
    subst h
    simp [Program.keyLits, ht, litOf, hw]
  | str =>
    refine fun _ => ⟨fun t m D cs h _ _ hD hr => ?_, fun _ _ _ _ _ _ h => by cases h⟩
    obtain ⟨b, rfl, hw⟩ := hr
    obtain ⟨D, rfl⟩ : ∃ d, D = d + 1 := ⟨D - 1, by simp [Sh.dep] at hD; omega⟩
    simp only [shOk] at h
    split at h <;> try cases h
    rename_i ht
    simp [Program.keyLits, ht, litOf, hw]
  | sl e ih => intro h; cases h
  | ag s ih =>
    intro hn
    have ih := ih hn
    refine ⟨fun t m D cs h _ hk hD hr => ?_, fun _ _ _ _ _ _ h => by cases h⟩
    have hr : Rd w s cs := hr
    have hlen := Rd.len s hr
    obtain ⟨D, rfl⟩ : ∃ d, D = d + 1 := ⟨D - 1, by simp [Sh.dep] at hD; omega⟩
    have hD : s.dep ≤ D := by simp [Sh.dep] at hD; omega
    simp only [shOk, Bool.and_eq_true] at h
    obtain ⟨⟨hL, hc⟩, h⟩ := h
    have hc := Nat.eq_of_beq_eq_true hc
    cases m with
    | zero => simp [Program.keyTypeAt] at hk
    | succ m =>
      split at h
      · rename_i fs ht
        simp only [Program.keyTypeAt, ht, Bool.and_eq_true, Array.all_eq_true'] at hk
        obtain ⟨⟨hall, _⟩, _⟩ := hk
        obtain ⟨LL, h1, h2⟩ := ih.2 _ 0 m D cs h hL (by
          intro p hp
          obtain ⟨f, hf, rfl⟩ := List.mem_map.1 hp
          exact (hall f (by simpa using hf)).2) hD (by simpa using hr) (Nat.zero_le _)
        rw [List.mapM_map] at h1
        have hnm : fs.all (·.name != "_") = true := by rw [Array.all_eq_true']; intro f hf; exact (hall f hf).1
        simp only [Program.keyLits, ht]
        rw [if_pos ⟨by omega, hnm⟩]
        simp only [Function.comp_def] at h1
        rw [h1]
        simpa using h2
      · rename_i n e ht
        simp only [Program.keyTypeAt, ht] at hk
        obtain ⟨LL, h1, h2⟩ := ih.2 _ 0 m D cs h hL (by
          intro p hp
          obtain ⟨i, _, rfl⟩ := List.mem_map.1 hp
          exact hk) hD (by simpa using hr) (Nat.zero_le _)
        rw [List.mapM_map] at h1
        simp only [Program.keyLits, ht]
        rw [if_pos (by omega)]
        simp only [Function.comp_def] at h1
        rw [h1]
        simpa using h2
      · cases h
  | nil =>
    refine fun _ => ⟨fun _ _ _ _ _ h => (by cases h), fun l off m D cs h _ _ _ hr _ => ?_⟩
    cases l with
    | nil =>
      have hr : cs.drop off = [] := hr
      exact ⟨[], by simp, by rw [hr]; rfl⟩
    | cons => simp [shOk] at h
  | cons a b iha ihb =>
    intro hn
    simp only [Sh.noSl, Bool.and_eq_true] at hn
    have haL : a.isL = false := by simpa using hn.1.1
    have iha := iha hn.1.2
    have ihb := ihb hn.2
    refine ⟨fun _ _ _ _ _ h => (by cases h), fun l off m D cs h _ hk hD hr ho => ?_⟩
    cases l with
    | nil => simp [shOk] at h
    | cons p r =>
      obtain ⟨o, t⟩ := p
      simp only [shOk, Bool.and_eq_true] at h
      obtain ⟨⟨⟨ho', hc⟩, ha⟩, hL, hb⟩ := h
      have ho' := Nat.eq_of_beq_eq_true ho'
      have hc := Nat.eq_of_beq_eq_true hc
      subst ho'
      simp only [Sh.dep] at hD
      obtain ⟨x, y, hxy, hx, hy⟩ := hr
      have hxl := Rd.len a hx
      have hcl : cs.length = o + (x.length + y.length) := by
        have := congrArg List.length hxy
        rw [List.length_drop, List.length_append] at this; omega
      have hdr : cs.drop (o + a.n) = y := by rw [← List.drop_drop, hxy, ← hxl, List.drop_left]
      obtain ⟨LL, h1, h2⟩ := ihb.2 r (o + a.n) m D cs hb hL (fun p hp => hk p (List.mem_cons_of_mem _ hp)) (by omega) (by rw [hdr]; exact hy) (by omega)
      have hlit := iha.1 t m D x ha haL (hk (o, t) List.mem_cons_self) (by omega) hx
      refine ⟨x.map litOf :: LL, ?_, ?_⟩
      · rw [List.mapM_cons]
        have e : (cs.drop o).take (P.cellsOf t) = x := by rw [hxy, hc, ← hxl, List.take_left]
        simp only [e, hlit, h1]
        rfl
      · rw [List.flatten_cons, h2, hdr, hxy, List.map_append]
theorem litOf_inj {w w' : World} : ∀ (s : Sh), s.noSl = true → ∀ (cs ds : List Value), Rd w s cs → Rd w' s ds → cs.map litOf = ds.map litOf → cs = ds := by
  intro s
  induction s with
  | bool => rintro _ _ _ ⟨a, rfl⟩ ⟨b, rfl⟩ h; simpa [litOf] using h
  | int k => rintro _ _ _ ⟨a, rfl, _⟩ ⟨b, rfl, _⟩ h; simpa [litOf] using h
  | str =>
    rintro _ _ _ ⟨a, rfl, _⟩ ⟨b, rfl, _⟩ h
    simp [litOf] at h
    have : a = b := by cases a; cases b; simp at h; subst h; rfl
    rw [this]
  | sl e ih => intro h; cases h
  | ag s ih => intro h cs ds hc hd he; exact ih h cs ds hc hd he
  | nil => intro _ cs ds hc hd _; exact Eq.trans hc (Eq.symm hd)
  | cons a b iha ihb =>
    rintro hn _ _ ⟨x, y, rfl, hx, hy⟩ ⟨x', y', rfl, hx', hy'⟩ he
    simp only [Sh.noSl, Bool.and_eq_true] at hn
    rw [List.map_append, List.map_append] at he
    have hl : (x.map litOf).length = (x'.map litOf).length := by simp [Rd.len a hx, Rd.len a hx']
    obtain ⟨h1, h2⟩ := List.append_inj he hl
    rw [iha hn.1.2 x x' hx hx' h1, ihb hn.2 y y' hy hy' h2]
/-- the check of a type that may be compared so -/
def cmpOk (P : Program) (t m : Nat) (s : Sh) : Bool := shOk P (.ag s) t [] 0 && P.keyTypeAt m t && Nat.ble m 10000 && s.noSl && !P.eqGuardType P.depth t
theorem run_eq_agg {t m : Nat} {s : Sh} (hk : cmpOk P t m s = true) {w0 w1 : World} {cs ds : List Value} (hc : Rd w0 s cs) (hd : Rd w1 s ds) (xo yo : Operand) :
    ∃ r : Bool, (r = true ↔ cs = ds) ∧ (∀ w, (do eqGuard .eql t xo yo (.agg cs.toArray) (.agg ds.toArray); binOp .eql t (.agg cs.toArray) (.agg ds.toArray) : Sem Value).run P w = .ok (.bool r) w) ∧
      (∀ w, (do eqGuard .neq t xo yo (.agg cs.toArray) (.agg ds.toArray); binOp .neq t (.agg cs.toArray) (.agg ds.toArray) : Sem Value).run P w = .ok (.bool (!r)) w) := by
  classical
  simp only [cmpOk, Bool.and_eq_true, Bool.not_eq_true'] at hk
  obtain ⟨⟨⟨⟨hs, hkt⟩, hm⟩, hn⟩, hg⟩ := hk
  have hm : m ≤ 10000 := Nat.le_of_ble_eq_true hm
  have form : ∀ zs : List Value, Rd w0 s zs ∨ Rd w1 s zs → (Value.agg zs.toArray).formed P t = true := by
    intro zs hz
    have hl : zs.length = s.n := by rcases hz with h | h <;> exact Rd.len s h
    simp only [shOk, Bool.and_eq_true] at hs
    obtain ⟨⟨_, hcn⟩, hu⟩ := hs
    have hcn := Nat.eq_of_beq_eq_true hcn
    unfold Value.formed
    split at hu
    · rename_i fs ht; simp [ht, hl, hcn]
    · rename_i n e ht; simp [ht, hl, hcn]
    · cases hu
  have l1 := (lits_aux (P := P) (w := w0) (.ag s) hn).1 t m (Sh.ag s).dep cs hs rfl hkt (Nat.le_refl _) hc
  have l2 := (lits_aux (P := P) (w := w1) (.ag s) hn).1 t m (Sh.ag s).dep ds hs rfl hkt (Nat.le_refl _) hd
  have key := fun w => run_equalIn_deep (P := P) (10000 - m) m t hkt w _ _ (.agg cs.toArray) (.agg ds.toArray) _ _ (form cs (.inl hc)) (form ds (.inr hd)) (by simpa [Value.cells] using l1) (by simpa [Value.cells] using l2)
  rw [show 10000 - m + m = 10000 by omega] at key
  refine ⟨decide (cs.map litOf = ds.map litOf), ?_, fun w => ?_, fun w => ?_⟩
  · rw [decide_eq_true_iff]
    exact ⟨litOf_inj s hn cs ds hc hd, fun h => by rw [h]⟩
  · obtain ⟨r, hr, hri⟩ := key w
    have : r = decide (cs.map litOf = ds.map litOf) := by rw [Bool.eq_iff_iff, hri, decide_eq_true_iff]
    rw [Sem.run_bind, run_eqGuard_agg _ _ _ _ _ _ _ hg]
    simp only [Result.andThen]
    rw [run_eql_struct, hr, this]
    rfl
  · obtain ⟨r, hr, hri⟩ := key w
    have : r = decide (cs.map litOf = ds.map litOf) := by rw [Bool.eq_iff_iff, hri, decide_eq_true_iff]
    rw [Sem.run_bind, run_eqGuard_agg _ _ _ _ _ _ _ hg]
    simp only [Result.andThen]
    rw [run_neq_struct, hr, this]
    rfl
end
end V
end Go.Proofs.YtmlmfmdmomegpaaGreatDoor
namespace Go.Proofs.YtmlmfmdmomegpaaGreatDoor
set_option linter.unusedSimpArgs false
set_option linter.unusedVariables false
open Go.RowKit V

/-- a word turned up by one, by k -/
def rot1 (x : Nat) : Nat := if 2 * x ≥ 4294967296 then 2 * x - 4294967296 + 1 else 2 * x
def rotk : Nat → Nat → Nat
  | x, 0 => x
  | x, k+1 => rot1 (rotk x k)
theorem rot1_lt (x : Nat) (h : x < 4294967296) : rot1 x < 4294967296 := by unfold rot1; split <;> omega
theorem rotk_lt (x k : Nat) (h : x < 4294967296) : rotk x k < 4294967296 := by
  induction k with
  | zero => exact h
  | succ k ih => exact rot1_lt _ ih
def rotl (x k : Nat) : Nat := x * 2 ^ k % 4294967296 + x / 2 ^ (32 - k)
theorem rot_step (A C x : Nat) (hAC : A * C = 2147483648) (hx : x < 4294967296) :
    rot1 (x * A % 4294967296 + x / (2 * C)) = x * (2 * A) % 4294967296 + x / C := by
  have hC : 0 < C := Nat.pos_of_ne_zero (by rintro rfl; simp at hAC)
  have hA : 0 < A := Nat.pos_of_ne_zero (by rintro rfl; simp at hAC)
  obtain ⟨q, hq⟩ : ∃ q, x / (2 * C) = q := ⟨_, rfl⟩
  obtain ⟨r, hr⟩ : ∃ r, x % (2 * C) = r := ⟨_, rfl⟩
  have hxe : x = 2 * C * q + r := by rw [← hq, ← hr]; exact (Nat.div_add_mod _ _).symm
  have hr2 : r < 2 * C := by rw [← hr]; exact Nat.mod_lt _ (by omega)
  obtain ⟨b, hb⟩ : ∃ b, r / C = b := ⟨_, rfl⟩
  obtain ⟨s, hs⟩ : ∃ s, r % C = s := ⟨_, rfl⟩
  have hre : r = C * b + s := by rw [← hb, ← hs]; exact (Nat.div_add_mod _ _).symm
  have hs2 : s < C := by rw [← hs]; exact Nat.mod_lt _ hC
  have hb2 : b < 2 := by rw [← hb]; exact Nat.div_lt_of_lt_mul (by rw [Nat.mul_comm]; exact hr2)
  have hxC : x / C = 2 * q + b := by
    rw [hxe, hre, show 2 * C * q + (C * b + s) = s + C * (2 * q + b) by rw [Nat.mul_add, ← Nat.mul_assoc, Nat.mul_comm C 2]; omega, Nat.add_mul_div_left _ _ hC, Nat.div_eq_of_lt hs2]; omega
  have hCA : C * A = 2147483648 := by rw [Nat.mul_comm]; exact hAC
  have e1 : x * A = 4294967296 * q + (2147483648 * b + s * A) := by
    have h1 : 2 * C * q * A = 4294967296 * q := by
      rw [show 2 * C * q * A = 2 * (C * A) * q by rw [Nat.mul_assoc, Nat.mul_comm q A, ← Nat.mul_assoc, Nat.mul_assoc 2 C A], hCA]
    have h2 : C * b * A = 2147483648 * b := by rw [Nat.mul_assoc, Nat.mul_comm b A, ← Nat.mul_assoc, hCA]
    rw [hxe, hre, Nat.add_mul, Nat.add_mul, h1, h2]
  have hsA : s * A + A ≤ 2147483648 := by
    rw [← hCA, ← Nat.succ_mul]; exact Nat.mul_le_mul_right _ hs2
  have hqA : q < A := by
    by_cases h : q < A
    · exact h
    · exfalso
      have : 2 * C * A ≤ 2 * C * q := Nat.mul_le_mul_left _ (by omega)
      rw [Nat.mul_assoc, hCA] at this; omega
  have e2 : x * (2 * A) = 2 * (x * A) := by rw [Nat.mul_left_comm]
  rw [hxC, e2, e1, hq]
  generalize s * A = u at *
  unfold rot1
  rcases (show b = 0 ∨ b = 1 by omega) with rfl | rfl
  · rw [if_neg (by omega)]; omega
  · rw [if_pos (by omega)]; omega
theorem rotk_eq (x : Nat) (h : x < 4294967296) : ∀ k, k ≤ 31 → rotk x k = rotl x k
  | 0, _ => by simp only [rotk, rotl]; omega
  | k+1, hk => by
    rw [rotk, rotk_eq x h k (by omega)]
    have := rot_step (2 ^ k) (2 ^ (31 - k)) x (by rw [← Nat.pow_add, show k + (31 - k) = 31 by omega]) h
    rw [show 2 * 2 ^ (31 - k) = 2 ^ (32 - k) by rw [← Nat.pow_succ', show (31 - k).succ = 32 - k by omega]] at this
    unfold rotl
    rw [this, Nat.pow_succ', show 32 - (k + 1) = 31 - k by omega]
theorem rotl_lt (x k : Nat) (h : x < 4294967296) (hk : k ≤ 31) : rotl x k < 4294967296 := by rw [← rotk_eq x h k hk]; exact rotk_lt _ _ h

/-! the quarter round, on lists of words -/
def gw (ws : List Nat) (i : Nat) : Nat := ws.getD i 0
def Words (ws : List Nat) : Prop := ws.length = 16 ∧ ∀ x ∈ ws, x < 4294967296
theorem Words.get {ws : List Nat} (h : Words ws) (i : Nat) : gw ws i < 4294967296 := by
  unfold gw
  rw [List.getD_eq_getElem?_getD]
  cases hi : ws[i]? with
  | none => simp
  | some x => exact h.2 x (List.mem_of_getElem? hi)
theorem Words.set {ws : List Nat} (h : Words ws) (i x : Nat) (hx : x < 4294967296) : Words (ws.set i x) :=
  ⟨by simpa using h.1, fun y hy => by
    rcases List.mem_or_eq_of_mem_set hy with h1 | h1
    · exact h.2 y h1
    · omega⟩
abbrev M32 : Nat := 4294967296
def sg0 (x : Nat) : Nat := rotl x 25 ^^^ rotl x 14 ^^^ (x / 8)
def sg1 (x : Nat) : Nat := rotl x 15 ^^^ rotl x 13 ^^^ (x / 1024)
def bs1 (x : Nat) : Nat := rotl x 26 ^^^ rotl x 21 ^^^ rotl x 7
def bs0 (x : Nat) : Nat := rotl x 30 ^^^ rotl x 19 ^^^ rotl x 10
def chf (e f g : Nat) : Nat := (e &&& f) ^^^ ((4294967295 - e) &&& g)
def maj (a b c : Nat) : Nat := (a &&& b) ^^^ (a &&& c) ^^^ (b &&& c)
theorem xor_lt32 {x y : Nat} (hx : x < M32) (hy : y < M32) : x ^^^ y < M32 := Nat.xor_lt_two_pow (n := 32) hx hy
theorem and_lt32 {x y : Nat} (hx : x < M32) : x &&& y < M32 := Nat.lt_of_le_of_lt Nat.and_le_left hx
theorem sg0_lt {x : Nat} (h : x < M32) : sg0 x < M32 := xor_lt32 (xor_lt32 (rotl_lt _ _ h (by decide)) (rotl_lt _ _ h (by decide))) (Nat.lt_of_le_of_lt (Nat.div_le_self _ _) h)
theorem sg1_lt {x : Nat} (h : x < M32) : sg1 x < M32 := xor_lt32 (xor_lt32 (rotl_lt _ _ h (by decide)) (rotl_lt _ _ h (by decide))) (Nat.lt_of_le_of_lt (Nat.div_le_self _ _) h)
theorem bs1_lt {x : Nat} (h : x < M32) : bs1 x < M32 := xor_lt32 (xor_lt32 (rotl_lt _ _ h (by decide)) (rotl_lt _ _ h (by decide))) (rotl_lt _ _ h (by decide))
theorem bs0_lt {x : Nat} (h : x < M32) : bs0 x < M32 := xor_lt32 (xor_lt32 (rotl_lt _ _ h (by decide)) (rotl_lt _ _ h (by decide))) (rotl_lt _ _ h (by decide))
theorem chf_lt {e f g : Nat} (h : e < M32) (hg : g < M32) : chf e f g < M32 := xor_lt32 (and_lt32 h) (Nat.lt_of_le_of_lt Nat.and_le_right hg)
theorem maj_lt {a b c : Nat} (h : a < M32) (hb : b < M32) : maj a b c < M32 := xor_lt32 (xor_lt32 (and_lt32 h) (and_lt32 h)) (and_lt32 hb)
/-- four octets, the greatest one first -/
def be4 (s : List UInt8) (i : Nat) : Nat := (s.getD i 0).toNat * 16777216 + (s.getD (i + 1) 0).toNat * 65536 + (s.getD (i + 2) 0).toNat * 256 + (s.getD (i + 3) 0).toNat
theorem be4_lt (s : List UInt8) (i : Nat) : be4 s i < M32 := by
  have h0 := (s.getD i 0).toNat_lt; have h1 := (s.getD (i + 1) 0).toNat_lt; have h2 := (s.getD (i + 2) 0).toNat_lt; have h3 := (s.getD (i + 3) 0).toNat_lt
  unfold be4 M32; omega
/-- the first n words of a block's schedule -/
def wnext (b : List UInt8) (l : List Nat) (t : Nat) : Nat := if t < 16 then be4 b (4 * t) else (l.getD (t - 16) 0 + l.getD (t - 7) 0 + sg0 (l.getD (t - 15) 0) + sg1 (l.getD (t - 2) 0)) % M32
def wsch (b : List UInt8) : Nat → List Nat
  | 0 => []
  | t + 1 => wsch b t ++ [wnext b (wsch b t) t]
theorem wsch_len (b : List UInt8) : ∀ t, (wsch b t).length = t
  | 0 => rfl
  | t + 1 => by rw [wsch, List.length_append, wsch_len b t]; rfl
theorem getD_lt32 {l : List Nat} (h : ∀ x ∈ l, x < M32) (i : Nat) : l.getD i 0 < M32 := by
  rw [List.getD_eq_getElem?_getD]
  cases hi : l[i]? with
  | none => exact by decide
  | some x => exact h x (List.mem_of_getElem? hi)
theorem wnext_lt (b : List UInt8) (l : List Nat) (t : Nat) : wnext b l t < M32 := by
  unfold wnext
  split
  · exact be4_lt _ _
  · exact Nat.mod_lt _ (by decide)
theorem wsch_lt (b : List UInt8) : ∀ t, ∀ x ∈ wsch b t, x < M32
  | 0 => by simp [wsch]
  | t + 1 => fun x hx => by
    rw [wsch, List.mem_append] at hx
    rcases hx with h | h
    · exact wsch_lt b t x h
    · rw [List.mem_singleton] at h; rw [h]; exact wnext_lt _ _ _
/-- a round -/
def one (v : List Nat) (k w : Nat) : Nat := (v.getD 7 0 + bs1 (v.getD 4 0) + chf (v.getD 4 0) (v.getD 5 0) (v.getD 6 0) + k + w) % M32
def two (v : List Nat) : Nat := (bs0 (v.getD 0 0) + maj (v.getD 0 0) (v.getD 1 0) (v.getD 2 0)) % M32
def rnd8 (v : List Nat) (k w : Nat) : List Nat := [(one v k w + two v) % M32, v.getD 0 0, v.getD 1 0, v.getD 2 0, (v.getD 3 0 + one v k w) % M32, v.getD 4 0, v.getD 5 0, v.getD 6 0]
def W8 (v : List Nat) : Prop := v.length = 8 ∧ ∀ x ∈ v, x < M32
theorem W8.get {v : List Nat} (h : W8 v) (i : Nat) : v.getD i 0 < M32 := getD_lt32 h.2 i
theorem W8.rnd {v : List Nat} (h : W8 v) (k w : Nat) : W8 (rnd8 v k w) := by
  refine ⟨rfl, fun x hx => ?_⟩
  have := h.get
  simp only [rnd8, List.mem_cons, List.not_mem_nil, or_false] at hx
  rcases hx with rfl | rfl | rfl | rfl | rfl | rfl | rfl | rfl <;> first | exact Nat.mod_lt _ (by decide) | exact this _
def rnds (K W : List Nat) (v : List Nat) : Nat → List Nat
  | 0 => v
  | t + 1 => rnd8 (rnds K W v t) (K.getD t 0) (W.getD t 0)
theorem rnds_W8 (K W : List Nat) {v : List Nat} (h : W8 v) : ∀ t, W8 (rnds K W v t)
  | 0 => h
  | t + 1 => (rnds_W8 K W h t).rnd _ _
/-- a block is mixed in -/
def addW (h v : List Nat) : List Nat := (List.range 8).map fun i => (h.getD i 0 + v.getD i 0) % M32
theorem addW_W8 (h v : List Nat) : W8 (addW h v) := by
  refine ⟨by simp [addW], fun x hx => ?_⟩
  obtain ⟨i, _, rfl⟩ := List.mem_map.1 hx
  exact Nat.mod_lt _ (by decide)
def mix1 (K h : List Nat) (b : List UInt8) : List Nat := addW h (rnds K (wsch b 64) h 64)
/-- the first n blocks of octets -/
def mixJ (K : List Nat) (s : List UInt8) (h : List Nat) : Nat → List Nat
  | 0 => h
  | n + 1 => mix1 K (mixJ K s h n) ((s.drop (64 * n)).take 64)
def mixA (K h : List Nat) (s : List UInt8) : List Nat := mixJ K s h (s.length / 64)
theorem mixJ_W8 (K : List Nat) (s : List UInt8) {h : List Nat} (hh : W8 h) : ∀ n, W8 (mixJ K s h n)
  | 0 => hh
  | n + 1 => addW_W8 _ _
theorem mixA_W8 (K : List Nat) {h : List Nat} (hh : W8 h) (s : List UInt8) : W8 (mixA K h s) := mixJ_W8 K s hh _
theorem mixJ_add (K : List Nat) (s : List UInt8) (h : List Nat) (a : Nat) : ∀ n, mixJ K s h (a + n) = mixJ K (s.drop (64 * a)) (mixJ K s h a) n
  | 0 => rfl
  | n + 1 => by
    rw [← Nat.add_assoc, mixJ, mixJ, mixJ_add K s h a n, List.drop_drop, Nat.mul_add]
theorem mixJ_pre (K : List Nat) (s t : List UInt8) (h : List Nat) : ∀ n, 64 * n ≤ s.length → mixJ K (s ++ t) h n = mixJ K s h n
  | 0, _ => rfl
  | n + 1, hn => by
    rw [mixJ, mixJ, mixJ_pre K s t h n (by omega), List.drop_append_of_le_length (by omega), List.take_append_of_le_length (by rw [List.length_drop]; omega)]
/-- full blocks first, the rest behind them -/
theorem mixA_app (K : List Nat) (s t : List UInt8) (h : List Nat) (hs : s.length % 64 = 0) : mixA K h (s ++ t) = mixA K (mixA K h s) t := by
  obtain ⟨a, ha⟩ : ∃ a, s.length = 64 * a := ⟨s.length / 64, by omega⟩
  unfold mixA
  rw [List.length_append, show (s.length + t.length) / 64 = a + t.length / 64 by omega, show s.length / 64 = a by omega, mixJ_add, mixJ_pre K s t h a (by omega)]
  rw [List.drop_append_of_le_length (by omega), List.drop_eq_nil_of_le (by omega), List.nil_append]
theorem mixA_full (K h : List Nat) (s : List UInt8) : mixA K h (s.take (s.length / 64 * 64)) = mixA K h s := by
  have e : s = s.take (s.length / 64 * 64) ++ s.drop (s.length / 64 * 64) := (List.take_append_drop _ _).symm
  have hl : (s.take (s.length / 64 * 64)).length = s.length / 64 * 64 := by rw [List.length_take]; omega
  unfold mixA
  rw [hl, Nat.mul_div_cancel _ (by decide)]
  conv => rhs; rw [e]
  rw [List.length_append, hl, List.length_drop, show (s.length / 64 * 64 + (s.length - s.length / 64 * 64)) / 64 = s.length / 64 by omega, mixJ_pre K _ _ h _ (by rw [hl]; omega)]
/-- what is left over -/
def rest (s : List UInt8) : List UInt8 := s.drop (s.length / 64 * 64)
theorem rest_len (s : List UInt8) : (rest s).length = s.length % 64 := by unfold rest; rw [List.length_drop]; omega
theorem rest_app (p x : List UInt8) (hp : p.length % 64 = 0) : rest (p ++ x) = rest x := by
  unfold rest
  rw [List.length_append, show (p.length + x.length) / 64 * 64 = p.length + x.length / 64 * 64 by omega, ← List.drop_drop, List.drop_left]
/-- more octets behind some -/
theorem mix_more (K h : List Nat) (a s : List UInt8) : mixA K (mixA K h a) (rest a ++ s) = mixA K h (a ++ s) ∧ rest (rest a ++ s) = rest (a ++ s) := by
  have hl : (a.take (a.length / 64 * 64)).length = a.length / 64 * 64 := by rw [List.length_take]; omega
  have e : a ++ s = a.take (a.length / 64 * 64) ++ (rest a ++ s) := by rw [← List.append_assoc]; unfold rest; rw [List.take_append_drop]
  constructor
  · rw [e, mixA_app K _ _ h (by rw [hl]; omega), mixA_full]
  · conv => rhs; rw [e]
    rw [rest_app (a.take (a.length / 64 * 64)) (rest a ++ s) (by rw [hl]; omega)]
/-- eight octets of a number, the greatest one first -/
def be8 (n : Nat) : List UInt8 := (List.range 8).map fun i => UInt8.ofNat (n / 2 ^ (56 - 8 * i))
def closing (l : Nat) (n : Nat) : List UInt8 := (128 : UInt8) :: (List.replicate ((119 - l) % 64) 0 ++ be8 (n * 8))
/-- the octets of words -/
def out4 (w : Nat) : List UInt8 := [UInt8.ofNat (w / 16777216), UInt8.ofNat (w / 65536), UInt8.ofNat (w / 256), UInt8.ofNat w]
def outW (h : List Nat) : List UInt8 := h.flatMap out4
theorem outW_len : ∀ h : List Nat, (outW h).length = 4 * h.length
  | [] => rfl
  | x :: h => by
    have := outW_len h
    unfold outW at *
    rw [List.flatMap_cons, List.length_append, this, List.length_cons]
    show 4 + _ = _
    omega
/-- the digest of what words and left octets stand for -/
def endL (K h : List Nat) (tail : List UInt8) (n : Nat) : List UInt8 := outW (mixA K h (tail ++ closing tail.length n))
theorem endL_len (K : List Nat) {h : List Nat} (hh : W8 h) (tail : List UInt8) (n : Nat) : (endL K h tail n).length = 32 := by
  unfold endL; rw [outW_len, (mixA_W8 K hh _).1]
/-- the digest -/
def sumL2 (K S : List Nat) (s : List UInt8) : List UInt8 := endL K (mixA K S s) (rest s) s.length
set_option maxRecDepth 100000
theorem Mul64_p (x y : Nat) (hx : x < 18446744073709551616) (hy : y < 18446744073709551616) : PureF Tryz.prog 136 #[.int .u64 x, .int .u64 y] (.tuple #[.int .u64 (x * y / 18446744073709551616 : Nat), .int .u64 (x * y % 18446744073709551616 : Nat)]) := fun w =>
  (Any.bits_Mul64 lays264 x y hx hy w).mono fun e w' ⟨h1, h2⟩ => ⟨h1, by rw [h2]; exact Ext.refl _⟩
def TR : V.Tab := TT.filter fun x => !Nat.beq x.1 78
theorem TRok : V.tabOk Tryz.prog TR = true := by kernel_rfl
theorem conv_neg (k : Nat) (h1 : 1 ≤ k) (h2 : k ≤ 31) (w : World) : (convert 3 78 (.int .i64 (-(k : Int)))).run Tryz.prog w = .ok (.int .u64 (18446744073709551616 - k : Nat)) w := by
  have e : IntKind.u64.wrap (-(k : Int)) = ((18446744073709551616 - k : Nat) : Int) := by
    show (-(k : Int)) % 18446744073709551616 = _
    omega
  rw [← e]
  simp only [convert, Sem.run_bind, V.run_underlying (tab_int TTok (t := 3) rfl), V.run_underlying (tab_int TTok (t := 78) rfl), Result.andThen]
  rfl
theorem rotN_p (x k : Nat) (hx : x < 4294967296) (h1 : 1 ≤ k) (h2 : k ≤ 31) : PureF Tryz.prog 184 #[.int .u32 x, .int .i64 (-(k : Int))] (.int .u32 (rotl x (32 - k) : Nat)) := by
  have hor : (x * 2 ^ (32 - k) % 4294967296) ||| (x / 2 ^ k) = rotl x (32 - k) := by
    unfold rotl
    rw [show 32 - (32 - k) = k by omega]
    refine nat_join (32 - k) _ _ ?_ ?_
    · rw [show 4294967296 = 2 ^ (32 - k) * 2 ^ k by rw [← Nat.pow_add, show (32 - k) + k = 32 by omega], Nat.mul_comm x, Nat.mul_mod_mul_left, Nat.mul_mod_right]
    · refine Nat.div_lt_of_lt_mul ?_
      rw [← Nat.pow_add, show k + (32 - k) = 32 by omega]; exact hx
  have hdv : x / 2 ^ k ≤ x := Nat.div_le_self _ _
  have hand : (18446744073709551616 - k) &&& 31 = 32 - k := by
    have := Nat.and_two_pow_sub_one_eq_mod (18446744073709551616 - k) 5
    rw [show 2 ^ 5 - 1 = 31 from rfl, show (2 : Nat) ^ 5 = 32 from rfl] at this
    rw [this]; omega
  refine v_pure (T := TR) TRok FFok Tryz.func184 rfl rfl fun w0 => ?_
  conv => whnf
  refine VSeq.mk fun Kq hKq => ?_
  conv => whnf
  refine hKq _ _ _ (.refl _) ?_
  clear hKq Kq
  conv => whnf
  refine VSeq.mk fun Kq hKq => ?_
  conv => whnf
  refine ⟨.int .u64 (18446744073709551616 - k : Nat), w0, conv_neg k h1 h2 w0, ?_⟩
  conv => whnf
  refine ⟨18446744073709551616 - k, 31, 32 - k, ⟨by first | rfl | omega, by first | rfl | omega, by omega, by omega⟩, by (dsimp only; exact hand), ?_⟩
  conv => whnf
  refine hKq _ _ _ (.refl _) ?_
  clear hKq Kq
  conv => whnf
  refine VSeq.mk fun Kq hKq => ?_
  conv => whnf
  refine ⟨32 - k, ⟨by first | rfl | omega, by omega⟩, ?_⟩
  conv => whnf
  refine ⟨k, ⟨by first | rfl | omega, by omega⟩, ?_⟩
  conv => whnf
  refine ⟨x * 2 ^ (32 - k) % 4294967296, x / 2 ^ k, rotl x (32 - k), ⟨by first | rfl | omega, by first | rfl | omega, by omega, by omega⟩, by (dsimp only; exact hor), ?_⟩
  conv => whnf
  refine hKq _ _ _ (.refl _) ?_
  clear hKq Kq
  conv => whnf
  exact ⟨rfl, Ext.refl _⟩
theorem Ext_freeze {a w : World} (h : Ext a w) (g n : Nat) (hg : a.heap.size ≤ g) : Ext a (w.freeze ⟨g, 0, none⟩ n) := by
  unfold World.freeze
  split
  · exact h
  · exact Below.trans (show Below a.heap.size a w from h) ⟨rfl, rfl, rfl, by simp, fun k hk => by
      simp only [Array.getElem?_modify]
      rw [if_neg (by omega)]⟩
theorem clone_p (s : ByteArray) (hs : s.size ≤ 1000000) : PureF Tryz.prog 185 #[.string s] (.string s) := by
  have hsl : s.data.toList.length = s.size := by simp
  first | refine v_pure TTok FFok Tryz.func185 rfl rfl fun w0 => ?_ | refine v_pure (args := []) TTok FFok Tryz.func185 rfl rfl fun w0 => ?_
  conv => whnf
  refine VSeq.mk fun Kq hKq => ?_
  conv => whnf
  refine hKq _ _ _ (.refl _) ?_
  clear hKq Kq
  conv => whnf
  refine VSeq.mk fun Kq hKq => ?_
  conv => whnf
  refine VSeq.mk fun Kq hKq => ?_
  conv => whnf
  refine hKq _ _ _ (.refl _) ?_
  clear hKq Kq
  conv => whnf
  have hp := Hp.nil w0
  refine ⟨fun h0 => ?_, fun h0 => ?_⟩
  · have h0 := of_decide_eq_true h0
    conv => whnf
    refine VSeq.mk fun Kq hKq => ?_
    conv => whnf
    refine hKq _ _ _ (.refl _) ?_
    clear hKq Kq
    conv => whnf
    refine ⟨?_, hp.ext⟩
    have : s = ⟨#[]⟩ := by
      apply ba_eq
      exact List.eq_nil_of_length_eq_zero (by omega)
    rw [this]; rfl
  · have h0 := of_decide_eq_false h0
    conv => whnf
    refine hKq _ _ _ (.refl _) ?_
    clear hKq Kq
    conv => whnf
    refine VSeq.mk fun Kq hKq => ?_
    conv => whnf
    refine hp.kmkS sl88 z5 s.size (by omega) (by unfold maxLen; omega) fun b w hp hx => ?_
    conv => whnf
    refine hKq _ _ _ (.refl _) ?_
    clear hKq Kq
    conv => whnf
    refine VSeq.mk fun Kq hKq => ?_
    conv => whnf
    refine hp.kcopyS sl88 0 rfl s (bytesV s.data.toList) (by rw [List.take_of_length_le (by omega)]) (by rw [bytesV_len, List.length_replicate]; omega) fun w hp => ?_
    simp only [List.set_cons_zero] at hp
    rw [List.drop_eq_nil_of_le (by rw [bytesV_len, List.length_replicate]; omega), List.append_nil] at hp
    conv => whnf
    refine hKq _ _ _ (.refl _) ?_
    clear hKq Kq
    conv => whnf
    refine VSeq.mk fun Kq hKq => ?_
    conv => whnf
    refine ⟨0, ⟨by first | rfl | omega, by omega⟩, ?_⟩
    conv => whnf
    have hl0 : s.data.toList ≠ [] := fun h => by rw [h] at hsl; simp at hsl; omega
    have hb : Blk w b (bytesV s.data.toList) 5 := hp.get (i := 0) rfl
    have hu := Go.Lib.run_unsafeString_row (P := Tryz.prog) (w := w) 211 3 9 5 (by kernel_rfl) (by kernel_rfl) b s.size (by obtain ⟨f, hf, hh⟩ := hb; simp [World.shape?, hh, bytesV_len, hsl]) s.data.toList hl0 (by omega) (by omega) (fun j x hj => by rw [add_none, Nat.zero_add, hb.cell]; exact bytesV_get hj)
    rw [hsl] at hu
    refine ⟨_, _, hu, ?_⟩
    conv => whnf
    refine hKq _ _ _ (.refl _) ?_
    clear hKq Kq
    conv => whnf
    refine ⟨rfl, Ext_freeze hp.ext b _ ?_⟩
    have := (hp.lo _ (List.mem_cons_self) b rfl).1
    rcases this with h | h
    · cases h
    · exact h
theorem Clone_p (s : ByteArray) (hs : s.size ≤ 1000000) : PureF Tryz.prog 170 #[.string s] (.string s) := by
  first | refine v_pure TTok FFok Tryz.func170 rfl rfl fun w0 => ?_ | refine v_pure (args := []) TTok FFok Tryz.func170 rfl rfl fun w0 => ?_
  conv => whnf
  refine VSeq.mk fun Kq hKq => ?_
  conv => whnf
  refine hKq _ _ _ (.refl _) ?_
  clear hKq Kq
  conv => whnf
  refine VSeq.mk fun Kq hKq => ?_
  conv => whnf
  have hp := Hp.nil w0
  refine PureF.use (clone_p s hs) fun w hx => ?_
  try (have hp := hp.call hx)
  conv => whnf
  refine hKq _ _ _ (.refl _) ?_
  clear hKq Kq
  conv => whnf
  exact ⟨rfl, hp.ext⟩
abbrev M64 : Nat := 18446744073709551616
def cubE (p x : Nat) : Bool := decide ((x * x / M64 * x + x * x % M64 * x / M64) < p * 4294967296) || (decide ((x * x / M64 * x + x * x % M64 * x / M64) = p * 4294967296) && decide (x * x % M64 * x % M64 = 0))
def sqrE (p x : Nat) : Bool := decide (x * x / M64 < p) || (decide (x * x / M64 = p) && decide (x * x % M64 = 0))
/-- the greatest number for which it is true, bit by bit -/
def frJ (E : Nat → Bool) : Nat → Nat
  | 0 => 0
  | j + 1 => if E (frJ E j ||| 68719476736 / 2 ^ j) = true then frJ E j ||| 68719476736 / 2 ^ j else frJ E j
theorem frJ_lt (E : Nat → Bool) : ∀ j, j ≤ 37 → frJ E j < 137438953472
  | 0, _ => by rw [frJ]; decide
  | j + 1, h => by
    have ih := frJ_lt E j (by omega)
    rw [frJ]
    split
    · exact Nat.or_lt_two_pow (n := 37) ih (Nat.lt_of_le_of_lt (Nat.div_le_self _ _) (by decide))
    · exact ih
def frN (E : Nat → Bool) : Nat := frJ E 37 % 4294967296
theorem sq_lt {x : Nat} (hx : x < 137438953472) : x * x < 18889465931478580854784 := Nat.mul_lt_mul'' hx hx
set_option maxHeartbeats 4000000 in
theorem cube_c {w : World} (x p qp : Nat) (hx : x < 137438953472) (hp31 : p < 2147483648) (hb : Blk w qp [.int .u64 p] 203) :
    Calls Tryz.prog 153 #[.int .u64 x, .pointer (some ⟨qp, 0, none⟩)] w fun e w' => e = .returned (.bool (cubE p x)) ∧ Ext w w' := by
  have hsq := sq_lt hx
  have m1 := Mul64_p x x (by omega) (by omega)
  have hlo : x * x % M64 < M64 := Nat.mod_lt _ (by decide)
  have hhi : x * x / M64 < 1024 := Nat.div_lt_of_lt_mul (by omega)
  have m2 := Mul64_p (x * x % M64) x (by omega) (by omega)
  unfold cubE
  obtain ⟨hi, hhd⟩ : ∃ hi, x * x / M64 = hi := ⟨_, rfl⟩
  obtain ⟨lo, hld⟩ : ∃ lo, x * x % M64 = lo := ⟨_, rfl⟩
  rw [hhd] at m1 hhi ⊢
  rw [hld] at m1 m2 hlo ⊢
  have htop : lo * x / M64 < 137438953472 := Nat.div_lt_of_lt_mul (Nat.mul_lt_mul'' hlo hx)
  obtain ⟨top, htd⟩ : ∃ top, lo * x / M64 = top := ⟨_, rfl⟩
  obtain ⟨a, had⟩ : ∃ a, lo * x % M64 = a := ⟨_, rfl⟩
  rw [htd] at m2 htop ⊢
  rw [had] at m2 ⊢
  have hhx : hi * x < 140737488355328 := Nat.mul_lt_mul'' hhi hx
  have hhxI : (hi : Int) * (x : Int) = ((hi * x : Nat) : Int) := (Int.natCast_mul hi x).symm
  clear hhd hld htd had hsq hlo
  refine v_reads TTok FFok Tryz.func153 rfl rfl ?_
  conv => whnf
  refine VSeq.mk fun Kq hKq => ?_
  conv => whnf
  refine hKq _ _ _ (.refl _) ?_
  clear hKq Kq
  conv => whnf
  refine VSeq.mk fun Kq hKq => ?_
  conv => whnf
  have hp := Hp.nil w
  refine PureF.use (m1) fun w hx => ?_
  try (have hp := hp.call hx)
  conv => whnf
  refine hKq _ _ _ (.refl _) ?_
  clear hKq Kq
  conv => whnf
  refine VSeq.mk fun Kq hKq => ?_
  conv => whnf
  refine PureF.use (m2) fun w hx => ?_
  try (have hp := hp.call hx)
  conv => whnf
  refine hKq _ _ _ (.refl _) ?_
  clear hKq Kq
  conv => whnf
  refine VSeq.mk fun Kq hKq => ?_
  conv => whnf
  refine hKq _ _ _ (.refl _) ?_
  clear hKq Kq
  conv => whnf
  refine VSeq.mk fun Kq hKq => ?_
  conv => whnf
  refine VSeq.mk fun Kq hKq => ?_
  conv => whnf
  rw [show ((hi : Int) * (x : Int) % 18446744073709551616 + (top : Int)) % 18446744073709551616 = ((hi * x + top : Nat) : Int) by omega]
  refine ⟨_, _, Blk.ld (hb.ext hp.ext) TTok rfl (rfl), ?_⟩
  conv => whnf
  refine ⟨32, ⟨by first | rfl | omega, by omega⟩, ?_⟩
  conv => whnf
  refine hKq _ _ _ (.refl _) ?_
  clear hKq Kq
  conv => whnf
  have hpe : ((p : Nat) : Int) * 2 ^ 32 % 18446744073709551616 = ((p * 4294967296 : Nat) : Int) := by omega
  rw [hpe]
  obtain ⟨Y, hY⟩ : ∃ Y, hi * x + top = Y := ⟨_, rfl⟩
  obtain ⟨Q, hQ⟩ : ∃ Q, p * 4294967296 = Q := ⟨_, rfl⟩
  rw [hQ] at hpe
  rw [hY, hQ]
  refine ⟨fun h1 => ?_, fun h1 => ?_⟩
  · have h1 := of_decide_eq_true h1
    conv => whnf
    refine hKq _ _ _ (.refl _) ?_
    clear hKq Kq
    conv => whnf
    refine ⟨?_, hp.ext⟩
    rw [hY, hQ, decide_eq_true (show Y < Q by omega), Bool.true_or]
    rfl
  · have h1 := of_decide_eq_false h1
    conv => whnf
    refine ⟨_, _, Blk.ld (hb.ext hp.ext) TTok rfl (rfl), ?_⟩
    conv => whnf
    refine ⟨32, ⟨by first | rfl | omega, by omega⟩, ?_⟩
    conv => whnf
    rw [hpe]
    refine ⟨fun h2 => ?_, fun h2 => ?_⟩
    · have h2 := of_decide_eq_true h2
      conv => whnf
      refine hKq _ _ _ (.refl _) ?_
      clear hKq Kq
      conv => whnf
      refine ⟨?_, hp.ext⟩
      rw [hY, hQ, decide_eq_false (show ¬ Y < Q by omega), Bool.false_or, decide_eq_true (show Y = Q by omega), Bool.true_and]
      show Value.bool (decide ((a : Int) = 0)) = _
      exact congrArg Value.bool (decide_eq_decide.2 (by omega))
    · have h2 := of_decide_eq_false h2
      conv => whnf
      refine hKq _ _ _ (.refl _) ?_
      clear hKq Kq
      conv => whnf
      refine ⟨?_, hp.ext⟩
      rw [hY, hQ, decide_eq_false (show ¬ Y < Q by omega), Bool.false_or, decide_eq_false (show ¬ Y = Q by omega), Bool.false_and]
      first | rfl | (show Value.bool (decide ((Y : Int) = (Q : Int))) = _; exact congrArg Value.bool (decide_eq_false (by omega)))
set_option maxHeartbeats 4000000 in
theorem sqr_c {w : World} (x p qp : Nat) (hx : x < 137438953472) (hp31 : p < 2147483648) (hb : Blk w qp [.int .u64 p] 203) :
    Calls Tryz.prog 154 #[.int .u64 x, .pointer (some ⟨qp, 0, none⟩)] w fun e w' => e = .returned (.bool (sqrE p x)) ∧ Ext w w' := by
  have m1 := Mul64_p x x (by omega) (by omega)
  unfold sqrE
  obtain ⟨hi, hhd⟩ : ∃ hi, x * x / M64 = hi := ⟨_, rfl⟩
  obtain ⟨lo, hld⟩ : ∃ lo, x * x % M64 = lo := ⟨_, rfl⟩
  rw [hhd, hld] at m1 ⊢
  clear hhd hld
  refine v_reads TTok FFok Tryz.func154 rfl rfl ?_
  conv => whnf
  refine VSeq.mk fun Kq hKq => ?_
  conv => whnf
  refine hKq _ _ _ (.refl _) ?_
  clear hKq Kq
  conv => whnf
  refine VSeq.mk fun Kq hKq => ?_
  conv => whnf
  have hp := Hp.nil w
  refine PureF.use (m1) fun w hx => ?_
  try (have hp := hp.call hx)
  conv => whnf
  refine hKq _ _ _ (.refl _) ?_
  clear hKq Kq
  conv => whnf
  refine VSeq.mk fun Kq hKq => ?_
  conv => whnf
  refine VSeq.mk fun Kq hKq => ?_
  conv => whnf
  refine ⟨_, _, Blk.ld (hb.ext hp.ext) TTok rfl (rfl), ?_⟩
  conv => whnf
  refine hKq _ _ _ (.refl _) ?_
  clear hKq Kq
  conv => whnf
  refine ⟨fun h1 => ?_, fun h1 => ?_⟩
  · have h1 := of_decide_eq_true h1
    conv => whnf
    refine hKq _ _ _ (.refl _) ?_
    clear hKq Kq
    conv => whnf
    refine ⟨?_, hp.ext⟩
    rw [decide_eq_true (show hi < p by omega), Bool.true_or]
    rfl
  · have h1 := of_decide_eq_false h1
    conv => whnf
    refine ⟨_, _, Blk.ld (hb.ext hp.ext) TTok rfl (rfl), ?_⟩
    conv => whnf
    refine ⟨fun h2 => ?_, fun h2 => ?_⟩
    · have h2 := of_decide_eq_true h2
      conv => whnf
      refine hKq _ _ _ (.refl _) ?_
      clear hKq Kq
      conv => whnf
      refine ⟨?_, hp.ext⟩
      rw [decide_eq_false (show ¬ hi < p by omega), Bool.false_or, decide_eq_true (show hi = p by omega), Bool.true_and]
      show Value.bool (decide ((lo : Int) = 0)) = _
      exact congrArg Value.bool (decide_eq_decide.2 (by omega))
    · have h2 := of_decide_eq_false h2
      conv => whnf
      refine hKq _ _ _ (.refl _) ?_
      clear hKq Kq
      conv => whnf
      refine ⟨?_, hp.ext⟩
      rw [decide_eq_false (show ¬ hi < p by omega), Bool.false_or, decide_eq_false (show ¬ hi = p by omega), Bool.false_and]
      first | rfl | (show Value.bool (decide ((hi : Int) = (p : Int))) = _; exact congrArg Value.bool (decide_eq_false (by omega)))
theorem bit_pos : ∀ j, j < 37 → 0 < 68719476736 / 2 ^ j := by decide +kernel
theorem bit_end : 68719476736 / 2 ^ 37 = 0 := by decide
set_option maxHeartbeats 4000000 in
theorem fraction_cube {w0 : World} (p qp : Nat) (hp31 : p < 2147483648) (hb : Blk w0 qp [.int .u64 p] 203) :
    Calls Tryz.prog 152 #[.func (.func 153) #[] #[.pointer (some ⟨qp, 0, none⟩)]] w0 fun e w' => e = .returned (.int .u32 (frN (cubE p) : Nat)) ∧ Ext w0 w' := by
  refine v_reads TTok FFok Tryz.func152 rfl rfl ?_
  conv => whnf
  refine VSeq.mk fun Kq hKq => ?_
  conv => whnf
  refine hKq _ _ _ (.refl _) ?_
  clear hKq Kq
  conv => whnf
  refine VSeq.mk fun Kq hKq => ?_
  conv => whnf
  refine hKq _ _ _ (.refl _) ?_
  clear hKq Kq
  conv => whnf
  refine VSeq.mk fun Kq hKq => ?_
  conv => whnf
  refine VSeq.mk fun Kq hKq => ?_
  conv => whnf
  refine hKq _ _ _ (.refl _) ?_
  clear hKq Kq
  conv => whnf
  have hp := Hp.nil w0
  refine ⟨fun m e w' => ∃ (j : Nat), m + j = 37 ∧ e = [(0, .v (.func (.func 153) #[] #[.pointer (some ⟨qp, 0, none⟩)])), (3, .v (.int .u64 (frJ (cubE p) j : Nat))), (4, .v (.int .u64 (68719476736 / 2 ^ j : Nat)))] ∧ Hp w0 w' [],
    ⟨37, _, ⟨0, by omega, rfl, hp⟩, sub_cons rfl (sub_cons rfl (sub_cons rfl sub_nil))⟩, ?_⟩
  clear hp
  repeat clear hp
  rintro m _ w ⟨j, hm, rfl, hp⟩
  have hx := frJ_lt (cubE p) j (by omega)
  have hbe : 68719476736 / 2 ^ j < 137438953472 := Nat.lt_of_le_of_lt (Nat.div_le_self _ _) (by decide)
  conv => whnf
  refine VSeq.mk fun Kq hKq => ?_
  conv => whnf
  refine VSeq.mk fun Kq hKq => ?_
  conv => whnf
  refine hKq _ _ _ (.refl _) ?_
  clear hKq Kq
  conv => whnf
  refine ⟨fun hlt => ?_, fun hlt => ?_⟩
  · have hlt := of_decide_eq_true hlt
    conv => whnf
    refine hKq _ _ _ (.refl _) ?_
    clear hKq Kq
    conv => whnf
    refine VSeq.mk fun Kq hKq => ?_
    conv => whnf
    refine VSeq.mk fun Kq hKq => ?_
    conv => whnf
    have hj : j < 37 := by
      rcases Nat.lt_or_ge j 37 with h | h
      · exact h
      · obtain rfl : j = 37 := by omega
        rw [bit_end] at hlt; omega
    have hs : frJ (cubE p) (j + 1) = if cubE p (frJ (cubE p) j ||| 68719476736 / 2 ^ j) = true then frJ (cubE p) j ||| 68719476736 / 2 ^ j else frJ (cubE p) j := rfl
    have hdv : 68719476736 / 2 ^ (j + 1) = 68719476736 / 2 ^ j / 2 := by rw [Nat.div_div_eq_div_mul]; rfl
    obtain ⟨X, hX⟩ : ∃ X, frJ (cubE p) j = X := ⟨_, rfl⟩
    obtain ⟨B, hB⟩ : ∃ B, 68719476736 / 2 ^ j = B := ⟨_, rfl⟩
    rw [hX, hB] at hs
    rw [hX] at hx ⊢
    rw [hB] at hbe hdv ⊢
    have hor : X ||| B < 137438953472 := Nat.or_lt_two_pow (n := 37) hx hbe
    have hc := cube_c (X ||| B) p qp hor hp31 (hb.ext hp.ext)
    refine ⟨X, B, X ||| B, ⟨by first | rfl | omega, by first | rfl | omega, by omega, by omega⟩, rfl, ?_⟩
    conv => whnf
    cases hE : cubE p (X ||| B) with
    | true =>
      rw [hE] at hc hs
      rw [if_pos rfl] at hs
      refine V.CallsUse (hc) fun w hx => ?_
      try (have hp := hp.call hx)
      conv => whnf
      refine hKq _ _ _ (.refl _) ?_
      clear hKq Kq
      conv => whnf
      refine And.intro (fun _ => ?_) (fun h => by cases h)
      conv => whnf
      refine ⟨X, B, X ||| B, ⟨by first | rfl | omega, by first | rfl | omega, by omega, by omega⟩, rfl, ?_⟩
      conv => whnf
      refine hKq _ _ _ (.refl _) ?_
      clear hKq Kq
      conv => whnf
      refine ⟨1, ⟨by first | rfl | omega, by omega⟩, ?_⟩
      conv => whnf
      rw [show ((B : Nat) : Int) / 2 ^ 1 = ((B / 2 : Nat) : Int) by omega, ← hdv, ← hs]
      exact ⟨m - 1, _, by omega, ⟨j + 1, by omega, rfl, hp⟩, sub_cons rfl (sub_cons rfl (sub_cons rfl sub_nil))⟩
    | false =>
      rw [hE] at hc hs
      rw [if_neg (by decide)] at hs
      refine V.CallsUse (hc) fun w hx => ?_
      try (have hp := hp.call hx)
      conv => whnf
      refine hKq _ _ _ (.refl _) ?_
      clear hKq Kq
      conv => whnf
      refine And.intro (fun h => by cases h) (fun _ => ?_)
      conv => whnf
      refine hKq _ _ _ (.refl _) ?_
      clear hKq Kq
      conv => whnf
      refine ⟨1, ⟨by first | rfl | omega, by omega⟩, ?_⟩
      conv => whnf
      rw [show ((B : Nat) : Int) / 2 ^ 1 = ((B / 2 : Nat) : Int) by omega, ← hdv, ← hs]
      exact ⟨m - 1, _, by omega, ⟨j + 1, by omega, rfl, hp⟩, sub_cons rfl (sub_cons rfl (sub_cons rfl sub_nil))⟩
  · have hlt := of_decide_eq_false hlt
    conv => whnf
    clear hKq Kq
    refine hKq _ _ _ (.refl _) ?_
    clear hKq Kq
    conv => whnf
    refine VSeq.mk fun Kq hKq => ?_
    conv => whnf
    have hj : j = 37 := by
      rcases Nat.lt_or_ge j 37 with h | h
      · have := bit_pos j h; omega
      · omega
    subst hj
    unfold frN
    obtain ⟨X, hX⟩ : ∃ X, frJ (cubE p) 37 = X := ⟨_, rfl⟩
    rw [hX] at hx ⊢
    have hand : X &&& 4294967295 = X % 4294967296 := Nat.and_two_pow_sub_one_eq_mod X 32
    refine ⟨X, 4294967295, X % 4294967296, ⟨by first | rfl | omega, by first | rfl | omega, by omega, by omega⟩, by (dsimp only; exact hand), ?_⟩
    conv => whnf
    refine hKq _ _ _ (.refl _) ?_
    clear hKq Kq
    conv => whnf
    refine ⟨?_, hp.ext⟩
    show Value.int .u32 (((X % 4294967296 : Nat) : Int) % 4294967296) = _
    unfold frN
    rw [hX, show (((X % 4294967296 : Nat) : Int) % 4294967296) = ((X % 4294967296 : Nat) : Int) by omega]
set_option maxHeartbeats 4000000 in
theorem fraction_sqr {w0 : World} (p qp : Nat) (hp31 : p < 2147483648) (hb : Blk w0 qp [.int .u64 p] 203) :
    Calls Tryz.prog 152 #[.func (.func 154) #[] #[.pointer (some ⟨qp, 0, none⟩)]] w0 fun e w' => e = .returned (.int .u32 (frN (sqrE p) : Nat)) ∧ Ext w0 w' := by
  refine v_reads TTok FFok Tryz.func152 rfl rfl ?_
  conv => whnf
  refine VSeq.mk fun Kq hKq => ?_
  conv => whnf
  refine hKq _ _ _ (.refl _) ?_
  clear hKq Kq
  conv => whnf
  refine VSeq.mk fun Kq hKq => ?_
  conv => whnf
  refine hKq _ _ _ (.refl _) ?_
  clear hKq Kq
  conv => whnf
  refine VSeq.mk fun Kq hKq => ?_
  conv => whnf
  refine VSeq.mk fun Kq hKq => ?_
  conv => whnf
  refine hKq _ _ _ (.refl _) ?_
  clear hKq Kq
  conv => whnf
  have hp := Hp.nil w0
  refine ⟨fun m e w' => ∃ (j : Nat), m + j = 37 ∧ e = [(0, .v (.func (.func 154) #[] #[.pointer (some ⟨qp, 0, none⟩)])), (3, .v (.int .u64 (frJ (sqrE p) j : Nat))), (4, .v (.int .u64 (68719476736 / 2 ^ j : Nat)))] ∧ Hp w0 w' [],
    ⟨37, _, ⟨0, by omega, rfl, hp⟩, sub_cons rfl (sub_cons rfl (sub_cons rfl sub_nil))⟩, ?_⟩
  clear hp
  repeat clear hp
  rintro m _ w ⟨j, hm, rfl, hp⟩
  have hx := frJ_lt (sqrE p) j (by omega)
  have hbe : 68719476736 / 2 ^ j < 137438953472 := Nat.lt_of_le_of_lt (Nat.div_le_self _ _) (by decide)
  conv => whnf
  refine VSeq.mk fun Kq hKq => ?_
  conv => whnf
  refine VSeq.mk fun Kq hKq => ?_
  conv => whnf
  refine hKq _ _ _ (.refl _) ?_
  clear hKq Kq
  conv => whnf
  refine ⟨fun hlt => ?_, fun hlt => ?_⟩
  · have hlt := of_decide_eq_true hlt
    conv => whnf
    refine hKq _ _ _ (.refl _) ?_
    clear hKq Kq
    conv => whnf
    refine VSeq.mk fun Kq hKq => ?_
    conv => whnf
    refine VSeq.mk fun Kq hKq => ?_
    conv => whnf
    have hj : j < 37 := by
      rcases Nat.lt_or_ge j 37 with h | h
      · exact h
      · obtain rfl : j = 37 := by omega
        rw [bit_end] at hlt; omega
    have hs : frJ (sqrE p) (j + 1) = if sqrE p (frJ (sqrE p) j ||| 68719476736 / 2 ^ j) = true then frJ (sqrE p) j ||| 68719476736 / 2 ^ j else frJ (sqrE p) j := rfl
    have hdv : 68719476736 / 2 ^ (j + 1) = 68719476736 / 2 ^ j / 2 := by rw [Nat.div_div_eq_div_mul]; rfl
    obtain ⟨X, hX⟩ : ∃ X, frJ (sqrE p) j = X := ⟨_, rfl⟩
    obtain ⟨B, hB⟩ : ∃ B, 68719476736 / 2 ^ j = B := ⟨_, rfl⟩
    rw [hX, hB] at hs
    rw [hX] at hx ⊢
    rw [hB] at hbe hdv ⊢
    have hor : X ||| B < 137438953472 := Nat.or_lt_two_pow (n := 37) hx hbe
    have hc := sqr_c (X ||| B) p qp hor hp31 (hb.ext hp.ext)
    refine ⟨X, B, X ||| B, ⟨by first | rfl | omega, by first | rfl | omega, by omega, by omega⟩, rfl, ?_⟩
    conv => whnf
    cases hE : sqrE p (X ||| B) with
    | true =>
      rw [hE] at hc hs
      rw [if_pos rfl] at hs
      refine V.CallsUse (hc) fun w hx => ?_
      try (have hp := hp.call hx)
      conv => whnf
      refine hKq _ _ _ (.refl _) ?_
      clear hKq Kq
      conv => whnf
      refine And.intro (fun _ => ?_) (fun h => by cases h)
      conv => whnf
      refine ⟨X, B, X ||| B, ⟨by first | rfl | omega, by first | rfl | omega, by omega, by omega⟩, rfl, ?_⟩
      conv => whnf
      refine hKq _ _ _ (.refl _) ?_
      clear hKq Kq
      conv => whnf
      refine ⟨1, ⟨by first | rfl | omega, by omega⟩, ?_⟩
      conv => whnf
      rw [show ((B : Nat) : Int) / 2 ^ 1 = ((B / 2 : Nat) : Int) by omega, ← hdv, ← hs]
      exact ⟨m - 1, _, by omega, ⟨j + 1, by omega, rfl, hp⟩, sub_cons rfl (sub_cons rfl (sub_cons rfl sub_nil))⟩
    | false =>
      rw [hE] at hc hs
      rw [if_neg (by decide)] at hs
      refine V.CallsUse (hc) fun w hx => ?_
      try (have hp := hp.call hx)
      conv => whnf
      refine hKq _ _ _ (.refl _) ?_
      clear hKq Kq
      conv => whnf
      refine And.intro (fun h => by cases h) (fun _ => ?_)
      conv => whnf
      refine hKq _ _ _ (.refl _) ?_
      clear hKq Kq
      conv => whnf
      refine ⟨1, ⟨by first | rfl | omega, by omega⟩, ?_⟩
      conv => whnf
      rw [show ((B : Nat) : Int) / 2 ^ 1 = ((B / 2 : Nat) : Int) by omega, ← hdv, ← hs]
      exact ⟨m - 1, _, by omega, ⟨j + 1, by omega, rfl, hp⟩, sub_cons rfl (sub_cons rfl (sub_cons rfl sub_nil))⟩
  · have hlt := of_decide_eq_false hlt
    conv => whnf
    clear hKq Kq
    refine hKq _ _ _ (.refl _) ?_
    clear hKq Kq
    conv => whnf
    refine VSeq.mk fun Kq hKq => ?_
    conv => whnf
    have hj : j = 37 := by
      rcases Nat.lt_or_ge j 37 with h | h
      · have := bit_pos j h; omega
      · omega
    subst hj
    unfold frN
    obtain ⟨X, hX⟩ : ∃ X, frJ (sqrE p) 37 = X := ⟨_, rfl⟩
    rw [hX] at hx ⊢
    have hand : X &&& 4294967295 = X % 4294967296 := Nat.and_two_pow_sub_one_eq_mod X 32
    refine ⟨X, 4294967295, X % 4294967296, ⟨by first | rfl | omega, by first | rfl | omega, by omega, by omega⟩, by (dsimp only; exact hand), ?_⟩
    conv => whnf
    refine hKq _ _ _ (.refl _) ?_
    clear hKq Kq
    conv => whnf
    refine ⟨?_, hp.ext⟩
    show Value.int .u32 (((X % 4294967296 : Nat) : Int) % 4294967296) = _
    unfold frN
    rw [hX, show (((X % 4294967296 : Nat) : Int) % 4294967296) = ((X % 4294967296 : Nat) : Int) by omega]
def isP (p : Nat) : Bool := (List.range 17).all fun i => !(decide ((i + 2) * (i + 2) ≤ p)) || decide (p % (i + 2) ≠ 0)
def tri (p : Nat) : Nat → Bool
  | 0 => true
  | j + 1 => tri p j && decide (p % (j + 2) ≠ 0)
theorem tri_iff (p : Nat) : ∀ j, tri p j = true ↔ ∀ i, i < j → p % (i + 2) ≠ 0
  | 0 => by simp [tri]
  | j + 1 => by
    rw [tri, Bool.and_eq_true, tri_iff p j, decide_eq_true_eq]
    constructor
    · rintro ⟨h1, h2⟩ i hi
      rcases Nat.lt_or_ge i j with h | h
      · exact h1 i h
      · obtain rfl : i = j := by omega
        exact h2
    · exact fun h => ⟨fun i hi => h i (by omega), h j (by omega)⟩
theorem tri_isP (p j : Nat) (hp : p ≤ 312) (h1 : ∀ i, i < j → (i + 2) * (i + 2) ≤ p) (h2 : p < (j + 2) * (j + 2)) : tri p j = isP p := by
  rw [Bool.eq_iff_iff, tri_iff]
  unfold isP
  rw [List.all_eq_true]
  simp only [List.mem_range, Bool.or_eq_true, Bool.not_eq_true', decide_eq_false_iff_not, decide_eq_true_eq]
  constructor
  · intro h i _
    rcases Nat.lt_or_ge i j with hi | hi
    · exact .inr (h i hi)
    · left
      have := Nat.mul_le_mul (show j + 2 ≤ i + 2 by omega) (show j + 2 ≤ i + 2 by omega)
      omega
  · intro h i hi
    have h3 := h1 i hi
    have hi17 : i < 17 := by
      rcases Nat.lt_or_ge i 17 with h | h
      · exact h
      · have := Nat.mul_le_mul (show 19 ≤ i + 2 by omega) (show 19 ≤ i + 2 by omega)
        omega
    rcases h i hi17 with h | h
    · omega
    · exact h
def tabJ : Nat → Nat × List Nat × List Nat
  | 0 => (0, List.replicate 64 0, List.replicate 8 0)
  | i + 1 => if isP (i + 2) = true then ((tabJ i).1 + 1, (tabJ i).2.1.set (tabJ i).1 (frN (cubE (i + 2))), if (tabJ i).1 < 8 then (tabJ i).2.2.set (tabJ i).1 (frN (sqrE (i + 2))) else (tabJ i).2.2) else tabJ i
theorem tab_len : ∀ i, (tabJ i).2.1.length = 64 ∧ (tabJ i).2.2.length = 8
  | 0 => by decide
  | i + 1 => by
    obtain ⟨h1, h2⟩ := tab_len i
    rw [tabJ]
    split
    · refine ⟨by rw [List.length_set]; exact h1, ?_⟩
      show (if (tabJ i).1 < 8 then _ else _ : List Nat).length = 8
      split
      · rw [List.length_set]; exact h2
      · exact h2
    · exact ⟨h1, h2⟩
def KL : List Nat := [1116352408, 1899447441, 3049323471, 3921009573, 961987163, 1508970993, 2453635748, 2870763221, 3624381080, 310598401, 607225278, 1426881987, 1925078388, 2162078206, 2614888103, 3248222580, 3835390401, 4022224774, 264347078, 604807628, 770255983, 1249150122, 1555081692, 1996064986, 2554220882, 2821834349, 2952996808, 3210313671, 3336571891, 3584528711, 113926993, 338241895, 666307205, 773529912, 1294757372, 1396182291, 1695183700, 1986661051, 2177026350, 2456956037, 2730485921, 2820302411, 3259730800, 3345764771, 3516065817, 3600352804, 4094571909, 275423344, 430227734, 506948616, 659060556, 883997877, 958139571, 1322822218, 1537002063, 1747873779, 1955562222, 2024104815, 2227730452, 2361852424, 2428436474, 2756734187, 3204031479, 3329325298]
def SL : List Nat := [1779033703, 3144134277, 1013904242, 2773480762, 1359893119, 2600822924, 528734635, 1541459225]
theorem tab_cnt : ∀ i, i < 310 → (tabJ i).1 < 64 := by decide +kernel
theorem tab_end : tabJ 310 = (64, KL, SL) := by decide +kernel
theorem SL_W8 : W8 SL := by
  refine ⟨rfl, ?_⟩
  decide
theorem KL_len : KL.length = 64 := rfl
theorem KL_lt : ∀ x ∈ KL, x < M32 := by decide +kernel
open Go.RowKit
namespace V
def OB (w : World) (e : Nat) (v : Value) (xs : List Value) : Prop :=
  (v = .slice none 0 0 ∧ xs = []) ∨ ∃ g zs, v = .slice (some ⟨g, 0, none⟩) xs.length (xs.length + zs.length) ∧ xs.length + zs.length ≤ maxLen ∧ Blk w g (xs ++ zs) e
def ob (e : Nat) (v : Value) (xs : List Value) : It := ⟨v.ownBlock, fun w => OB w e v xs⟩
theorem ob_ok (e : Nat) (v : Value) (xs : List Value) : (ob e v xs).Ok := fun w w' _ h hh => by
  rcases hh with hh | ⟨g, zs, rfl, hm, hb⟩
  · exact .inl hh
  · exact .inr ⟨g, zs, rfl, hm, Blk.same hb (h g rfl)⟩
section
variable {P : Program} {T : Tab} {M : List Nat} {w0 w : World} {H : List It} {K : Value → World → Prop}
theorem OB.shape {e : Nat} {v : Value} {xs : List Value} (h : OB w e v xs) : ∃ p c, v = .slice p xs.length c := by
  rcases h with ⟨rfl, rfl⟩ | ⟨g, zs, rfl, _, _⟩
  · exact ⟨_, _, rfl⟩
  · exact ⟨_, _, rfl⟩
theorem OB.at {e : Nat} {p : Option Addr} {n c : Nat} {xs : List Value} (h : OB w e (.slice p n c) xs) {j : Nat} {x : Value} (hj : xs[j]? = some x) : ∃ g, p = some ⟨g, 0, none⟩ ∧ w.cell? ⟨g, j, none⟩ = some x := by
  rcases h with ⟨_, rfl⟩ | ⟨g, zs, hv, _, hb⟩
  · simp at hj
  · simp only [Value.slice.injEq] at hv
    exact ⟨g, hv.1, by rw [hb.cell, List.getElem?_append_left (List.getElem?_eq_some_iff.1 hj).1]; exact hj⟩
/-- '[]byte(s)' -/
theorem HpM.kbytesO (h : HpM M w0 w H) (hT : tabOk P T = true) {src dst e n1 n2 n3 : Nat} (hs : tfind T src = some ⟨.str, n1⟩) (hd : tfind T dst = some ⟨.slice e, n2⟩) (he : tfind T e = some ⟨.int .u8, n3⟩) {s : ByteArray} (hsm : s.size ≤ maxLen)
    (hk : ∀ v w', HpM M w0 w' (ob e v (bytesV s.data.toList) :: H) → Ext w w' → K v w') :
    ∃ v w', (convert src dst (.string s)).run P w = .ok v w' ∧ K v w' := by
  have hr := run_bytes_of_string (P := P) w src dst e s (tab_str hT hs) (tab_slice hT hd) (tab_int hT he)
  have hx : Ext w (w.drew.alloc (.cells (bytesRow s (grownCap w s.size 0 e)) e ((bytesRow s (grownCap w s.size 0 e)).size, (bytesRow s (grownCap w s.size 0 e)).size + 1))) := ((Ext.refl w).drew).alloc _
  have hn : ∀ o : Obj, (w.drew.alloc o).heap[w.heap.size]? = some o := fun o => by
    show (w.heap.push o)[w.heap.size]? = some o
    simp
  have hge := grownCap_ge w s.size 0 e
  have hle := grownCap_le_maxLen w s.size 0 e hsm
  have hl : (bytesV s.data.toList).length = s.size := by simp [bytesV]
  have hcap : (bytesV s.data.toList).length + (List.replicate (grownCap w s.size 0 e - s.size) (Value.int .u8 0)).length = grownCap w s.size 0 e := by rw [hl, List.length_replicate]; omega
  refine ⟨_, _, hr, hk _ _ (h.push hx (ob_ok _ _ _) (.inr ⟨w.heap.size, List.replicate (grownCap w s.size 0 e - s.size) (.int .u8 0), by rw [hl]; exact congrArg (Value.slice _ _) (by rw [List.length_replicate]; omega), by rw [hcap]; exact hle, ⟨((bytesRow s (grownCap w s.size 0 e)).size, (bytesRow s (grownCap w s.size 0 e)).size + 1), .inr (by simp [bytesRow, bytesV]), ?_⟩⟩) ?_) hx⟩
  · rw [hn]
    refine congrArg (fun c => some (Obj.cells c e _)) ?_
    apply Array.ext'
    simp [bytesRow, bytesV]
  · intro b hb
    simp only [ob, Value.ownBlock, Option.some.injEq] at hb
    subst hb
    exact ⟨Nat.le_refl _, by rw [World.size_alloc]; exact Nat.lt_succ_self _⟩
/-- the bytes of such a slice, as a string -/
theorem OB.str {e : Nat} {v : Value} {l : List UInt8} (h : OB w e v (bytesV l)) (hT : tabOk P T = true) {src dst n1 n2 n3 : Nat} (hs : tfind T src = some ⟨.slice e, n1⟩) (he : tfind T e = some ⟨.int .u8, n2⟩) (hd : tfind T dst = some ⟨.str, n3⟩) :
    (convert src dst v).run P w = .ok (.string ⟨l.toArray⟩) w := by
  rcases h with ⟨rfl, h0⟩ | ⟨g, zs, rfl, _, hb⟩
  · have : l = [] := by cases l with
      | nil => rfl
      | cons _ _ => simp [bytesV] at h0
    subst this
    exact conv_nil (hT := hT) hs he hd
  · exact Blk.str' hb hT hs he hd rfl (by simp [bytesV])
/-- A call that takes a thing over and hands it back, turned. -/
def TakesF (P : Program) (f : Nat) (args : Array Value) (x : It) (R : Value → It) : Prop := ∀ w, x.holds w → (∀ b, x.own = some b → b < w.heap.size) → Calls P f args w fun e w' => ∃ v, e = .returned v ∧ HpM x.own.toList w w' [R v]
theorem ExtM.grownO {w w' : World} {o : Option Nat} (h : ExtM o.toList w w') : w.grownBy w' o :=
  ⟨h.os, h.tape, h.output, h.size, fun k hk hne => h.block k hk (fun e => hne (by simp at e; exact e.symm))⟩
theorem TakesF.use {f : Nat} {args : Array Value} {x : It} {R : Value → It} (h : TakesF P f args x R) (hp : HpM M w0 w H) (i : Nat) (hi : H[i]? = some x) (hk : ∀ v w', HpM M w0 w' (H.set i (R v)) → K v w') :
    Calls P f args w fun e w' => ∃ v, e = .returned v ∧ K v w' := by
  refine (h w (hp.get hi) (fun b hb => (hp.lo x (List.mem_of_getElem? hi) b hb).2)).mono ?_
  rintro e w' ⟨v, rfl, hq⟩
  refine ⟨v, rfl, hk v w' (hp.upd hi hq.extM.grownO (hq.ok _ (by simp)) (hq.holds _ (by simp)) (fun b hb => ?_))⟩
  have := hq.lo _ (by simp) b hb
  rcases this.1 with h1 | h1
  · exact .inl (by simpa using h1)
  · exact .inr ⟨h1, this.2⟩
theorem Blk.lv {w : World} {b : Nat} {cs : List Value} {e : Nat} (h : Blk w b cs e) (hT : tabOk P T = true) {t off : Nat} {v : Value} (ht : plainT T t = true) (hc : cs[off]? = some v) : (loadVar t ⟨b, off, none⟩).run P w = .ok v w :=
  run_loadVar1 hT ht ((h.cell off).trans hc)
/-- some of the things, in a new order -/
theorem HpM.pick (h : HpM M w0 w H) (ns : List Nat) (hn : ns.Nodup) : HpM M w0 w (ns.filterMap fun i => H[i]?) := by
  have hm : ∀ x ∈ ns.filterMap (fun i => H[i]?), x ∈ H := fun x hx => by
    obtain ⟨i, _, hi⟩ := List.mem_filterMap.1 hx
    exact List.mem_of_getElem? hi
  refine ⟨h.extM, fun x hx => h.ok x (hm x hx), fun x hx => h.holds x (hm x hx), fun x hx => h.lo x (hm x hx), ?_⟩
  rw [List.pairwise_filterMap]
  refine hn.imp fun {i j} hij x hx y hy b hb hyb => ?_
  obtain ⟨hil, rfl⟩ := List.getElem?_eq_some_iff.1 hx
  obtain ⟨hjl, rfl⟩ := List.getElem?_eq_some_iff.1 hy
  have hap := List.pairwise_iff_getElem.1 h.apart
  rcases Nat.lt_or_gt_of_ne hij with hlt | hlt
  · exact hap i j hil hjl hlt b hb hyb
  · exact hap j i hjl hil hlt b hyb hb
end
end V
def hV (h : List Nat) : Value := .agg (kw .u32 h).toArray
set_option maxHeartbeats 4000000 in
theorem constants_p : PureF Tryz.prog 127 #[] (.tuple #[hV SL, hV KL]) := by
  unfold hV
  first | refine v_pure TTok FFok Tryz.func127 rfl rfl fun w0 => ?_ | refine v_pure (args := []) TTok FFok Tryz.func127 rfl rfl fun w0 => ?_
  conv => whnf
  refine VSeq.mk fun Kq hKq => ?_
  conv => whnf
  have hp := Hp.nil w0
  refine hp.kalloc z157 fun q0 w hp hx => ?_
  conv => whnf
  refine hp.kalloc z158 fun q1 w hp hx => ?_
  conv => whnf
  refine hKq _ _ _ (.refl _) ?_
  clear hKq Kq
  conv => whnf
  refine VSeq.mk fun Kq hKq => ?_
  conv => whnf
  refine hKq _ _ _ (.refl _) ?_
  clear hKq Kq
  conv => whnf
  refine VSeq.mk fun Kq hKq => ?_
  conv => whnf
  refine VSeq.mk fun Kq hKq => ?_
  conv => whnf
  refine hp.kalloc z203 fun qp w hp hx => ?_
  conv => whnf
  refine hp.kst1 TTok (by rfl) 0 (by rfl) (by rfl) (by rfl) (by decide) fun w hp => ?_
  try simp only [List.set_cons_zero, List.set_cons_succ, EV.val] at hp
  conv => whnf
  refine hKq _ _ _ (.refl _) ?_
  clear hKq Kq
  conv => whnf
  have hp : HpM [] w0 w [blk qp [.int .u64 ((0 + 2 : Nat) : Int)] 203, blk q1 (kw .u32 (tabJ 0).2.1) 158, blk q0 (kw .u32 (tabJ 0).2.2) 157] := hp
  refine ⟨fun m e w' => ∃ (i qp : Nat), m + i = 310 ∧ e = [(0, .v (.pointer (some ⟨q0, 0, none⟩))), (1, .v (.pointer (some ⟨q1, 0, none⟩))), (2, .v (.int .i64 ((tabJ i).1 : Nat))), (3, .v (.pointer (some ⟨qp, 0, none⟩)))] ∧
      HpM [] w0 w' [blk qp [.int .u64 ((i + 2 : Nat) : Int)] 203, blk q1 (kw .u32 (tabJ i).2.1) 158, blk q0 (kw .u32 (tabJ i).2.2) 157],
    ⟨310, _, ⟨0, qp, by omega, rfl, hp⟩, sub_cons rfl (sub_cons rfl (sub_cons rfl (sub_cons rfl sub_nil)))⟩, ?_⟩
  clear hp hx
  repeat clear hp
  rintro m _ w ⟨i, qp, hm, rfl, hp⟩
  conv => whnf
  refine VSeq.mk fun Kq hKq => ?_
  conv => whnf
  refine VSeq.mk fun Kq hKq => ?_
  conv => whnf
  refine hKq _ _ _ (.refl _) ?_
  clear hKq Kq
  conv => whnf
  refine ⟨fun hlt => ?_, fun hlt => ?_⟩
  · have hlt := of_decide_eq_true hlt
    conv => whnf
    refine hKq _ _ _ (.refl _) ?_
    clear hKq Kq
    conv => whnf
    refine VSeq.mk fun Kq hKq => ?_
    conv => whnf
    refine VSeq.mk fun Kq hKq => ?_
    conv => whnf
    refine hKq _ _ _ (.refl _) ?_
    clear hKq Kq
    conv => whnf
    refine VSeq.mk fun Kq hKq => ?_
    conv => whnf
    refine VSeq.mk fun Kq hKq => ?_
    conv => whnf
    refine hKq _ _ _ (.refl _) ?_
    clear hKq Kq
    conv => whnf
    have hi : i < 310 := by
      rcases Nat.lt_or_ge i 310 with h | h
      · exact h
      · obtain rfl : i = 310 := by omega
        rw [tab_end] at hlt
        exact absurd hlt (by decide)
    have hn := tab_cnt i hi
    obtain ⟨hl1, hl2⟩ := tab_len i
    have hsu : tabJ (i + 1) = if isP (i + 2) = true then ((tabJ i).1 + 1, (tabJ i).2.1.set (tabJ i).1 (frN (cubE (i + 2))), if (tabJ i).1 < 8 then (tabJ i).2.2.set (tabJ i).1 (frN (sqrE (i + 2))) else (tabJ i).2.2) else tabJ i := rfl
    obtain ⟨n, hnd⟩ : ∃ n, (tabJ i).1 = n := ⟨_, rfl⟩
    obtain ⟨ks, hkd⟩ : ∃ ks, (tabJ i).2.1 = ks := ⟨_, rfl⟩
    obtain ⟨ss, hsd⟩ : ∃ ss, (tabJ i).2.2 = ss := ⟨_, rfl⟩
    have hti : tabJ i = (n, ks, ss) := by rw [← hnd, ← hkd, ← hsd]
    rw [hnd, hkd, hsd, hti] at hsu
    rw [hkd, hsd] at hp
    rw [hnd] at hn hlt ⊢
    rw [hkd] at hl1
    rw [hsd] at hl2
    clear hnd hkd hsd
    obtain ⟨p, hpd⟩ : ∃ p, i + 2 = p := ⟨_, rfl⟩
    rw [hpd] at hp hsu
    have hp31 : p ≤ 311 := by omega
    clear hti
    refine ⟨fun m e w' => ∃ (j : Nat) (ev : EV), m + j = 17 ∧ (∀ i, i < j → (i + 2) * (i + 2) ≤ p) ∧ ((∃ b, ev = litE (.bool b) ∧ tri p j = b) ∨ ev = .v (.bool (tri p j))) ∧ e = [(0, .v (.pointer (some ⟨q0, 0, none⟩))), (1, .v (.pointer (some ⟨q1, 0, none⟩))), (2, .v (.int .i64 n)), (3, .v (.pointer (some ⟨qp, 0, none⟩))), (4, ev), (5, .v (.int .u64 ((j + 2 : Nat) : Int)))] ∧
        HpM [] w0 w' [blk qp [.int .u64 (p : Nat)] 203, blk q1 (kw .u32 ks) 158, blk q0 (kw .u32 ss) 157],
      ⟨17, _, ⟨0, _, by omega, fun i hi => by omega, .inl ⟨true, rfl, rfl⟩, rfl, hp⟩, sub_cons rfl (sub_cons rfl (sub_cons rfl (sub_cons rfl (sub_cons rfl (sub_cons rfl sub_nil)))))⟩, ?_⟩
    clear hp
    repeat clear hp
    rintro m2 _ w ⟨j, ev, hm2, hall, hev, rfl, hp⟩
    have hj17 : (j + 2) * (j + 2) ≤ 361 := Nat.mul_le_mul (show j + 2 ≤ 19 by omega) (show j + 2 ≤ 19 by omega)
    have hsq : ((j + 2 : Nat) : Int) * ((j + 2 : Nat) : Int) = (((j + 2) * (j + 2) : Nat) : Int) := (Int.natCast_mul _ _).symm
    conv => whnf
    refine VSeq.mk fun Kq hKq => ?_
    conv => whnf
    refine VSeq.mk fun Kq hKq => ?_
    conv => whnf
    refine ⟨_, _, Blk.ld (hp.get (i := 0) rfl) TTok rfl (rfl), ?_⟩
    conv => whnf
    refine hKq _ _ _ (.refl _) ?_
    clear hKq Kq
    conv => whnf
    rw [hsq]
    obtain ⟨D, hD⟩ : ∃ D, (j + 2) * (j + 2) = D := ⟨_, rfl⟩
    rw [hD] at hj17 ⊢
    rw [show ((D : Nat) : Int) % 18446744073709551616 = (D : Nat) by omega]
    refine ⟨fun hlt2 => ?_, fun hlt2 => ?_⟩
    · have hlt2 := of_decide_eq_true hlt2
      conv => whnf
      refine hKq _ _ _ (.refl _) ?_
      clear hKq Kq
      conv => whnf
      refine VSeq.mk fun Kq hKq => ?_
      conv => whnf
      refine VSeq.mk fun Kq hKq => ?_
      conv => whnf
      have hj2 : j < 16 := by
        rcases Nat.lt_or_ge j 16 with h | h
        · exact h
        · have := Nat.mul_le_mul (show 18 ≤ j + 2 by omega) (show 18 ≤ j + 2 by omega)
          omega
      have hall2 : ∀ i, i < j + 1 → (i + 2) * (i + 2) ≤ p := fun i hi => by
        rcases Nat.lt_or_ge i j with h | h
        · exact hall i h
        · obtain rfl : i = j := by omega
          omega
      have hts : tri p (j + 1) = (tri p j && decide (p % (j + 2) ≠ 0)) := rfl
      have hmod : ((p : Nat) : Int) % ((j + 2 : Nat) : Int) = ((p % (j + 2) : Nat) : Int) := (Int.natCast_emod p (j + 2)).symm
      rcases hev with ⟨b, rfl, htr⟩ | rfl
      · cases b with
        | true =>
          rw [htr, Bool.true_and] at hts
          conv => whnf
          refine hKq _ _ _ (.refl _) ?_
          clear hKq Kq
          conv => whnf
          refine ⟨_, _, Blk.ld (hp.get (i := 0) rfl) TTok rfl (rfl), ?_⟩
          conv => whnf
          refine And.intro (by omega) ?_
          conv => whnf
          refine hKq _ _ _ (.refl _) ?_
          clear hKq Kq
          conv => whnf
          rw [hmod]
          rw [show (((j + 2 : Nat) : Int) + 1) % 18446744073709551616 = ((j + 1 + 2 : Nat) : Int) by omega]
          refine ⟨m2 - 1, _, by omega, ⟨j + 1, _, by omega, hall2, .inr ?_, rfl, hp⟩, sub_cons rfl (sub_cons rfl (sub_cons rfl (sub_cons rfl (sub_cons rfl (sub_cons rfl sub_nil)))))⟩
          rw [hts]
          exact congrArg (fun b => EV.v (.bool b)) (decide_eq_decide.2 (by omega))
        | false =>
          rw [htr, Bool.false_and] at hts
          conv => whnf
          refine hKq _ _ _ (.refl _) ?_
          clear hKq Kq
          conv => whnf
          refine hKq _ _ _ (.refl _) ?_
          clear hKq Kq
          conv => whnf
          rw [show (((j + 2 : Nat) : Int) + 1) % 18446744073709551616 = ((j + 1 + 2 : Nat) : Int) by omega]
          refine ⟨m2 - 1, _, by omega, ⟨j + 1, _, by omega, hall2, .inl ⟨false, rfl, hts⟩, rfl, hp⟩, sub_cons rfl (sub_cons rfl (sub_cons rfl (sub_cons rfl (sub_cons rfl (sub_cons rfl sub_nil)))))⟩
      · cases htr : tri p j with
        | true =>
          rw [htr, Bool.true_and] at hts
          conv => whnf
          refine hKq _ _ _ (.refl _) ?_
          clear hKq Kq
          conv => whnf
          refine And.intro (fun _ => ?_) (fun h => by cases h)
          conv => whnf
          refine ⟨_, _, Blk.ld (hp.get (i := 0) rfl) TTok rfl (rfl), ?_⟩
          conv => whnf
          refine And.intro (by omega) ?_
          conv => whnf
          refine hKq _ _ _ (.refl _) ?_
          clear hKq Kq
          conv => whnf
          rw [hmod]
          rw [show (((j + 2 : Nat) : Int) + 1) % 18446744073709551616 = ((j + 1 + 2 : Nat) : Int) by omega]
          refine ⟨m2 - 1, _, by omega, ⟨j + 1, _, by omega, hall2, .inr ?_, rfl, hp⟩, sub_cons rfl (sub_cons rfl (sub_cons rfl (sub_cons rfl (sub_cons rfl (sub_cons rfl sub_nil)))))⟩
          rw [hts]
          exact congrArg (fun b => EV.v (.bool b)) (decide_eq_decide.2 (by omega))
        | false =>
          rw [htr, Bool.false_and] at hts
          conv => whnf
          refine hKq _ _ _ (.refl _) ?_
          clear hKq Kq
          conv => whnf
          refine And.intro (fun h => by cases h) (fun _ => ?_)
          conv => whnf
          refine hKq _ _ _ (.refl _) ?_
          clear hKq Kq
          conv => whnf
          rw [show (((j + 2 : Nat) : Int) + 1) % 18446744073709551616 = ((j + 1 + 2 : Nat) : Int) by omega]
          refine ⟨m2 - 1, _, by omega, ⟨j + 1, _, by omega, hall2, .inl ⟨false, rfl, hts⟩, rfl, hp⟩, sub_cons rfl (sub_cons rfl (sub_cons rfl (sub_cons rfl (sub_cons rfl (sub_cons rfl sub_nil)))))⟩
    · have hlt2 := of_decide_eq_false hlt2
      conv => whnf
      clear hKq Kq
      refine hKq _ _ _ (.refl _) ?_
      clear hKq Kq
      conv => whnf
      refine VSeq.mk fun Kq hKq => ?_
      conv => whnf
      refine VSeq.mk fun Kq hKq => ?_
      conv => whnf
      have hpr := tri_isP p j (by omega) hall (by omega)
      rw [hpr] at hev
      have hfc := fraction_cube p qp (by omega) (hp.get (i := 0) rfl)
      have hln : n < ks.length := by omega
      clear hpr hlt2 hD hsq hall hm2
      rcases hev with ⟨b, rfl, hP⟩ | rfl
      · cases b with
        | true =>
          rw [hP, if_pos rfl] at hsu
          conv => whnf
          refine hKq _ _ _ (.refl _) ?_
          clear hKq Kq
          conv => whnf
          refine hKq _ _ _ (.refl _) ?_
          clear hKq Kq
          conv => whnf
          refine VSeq.mk fun Kq hKq => ?_
          conv => whnf
          refine V.CallsUse (hfc) fun w hx => ?_
          try (have hp := hp.call hx)
          conv => whnf
          refine ⟨n, ⟨by first | rfl | omega, by omega⟩, ?_⟩
          conv => whnf
          refine hp.kst1 (off := n) TTok (by rfl) 1 (by rfl) (by rfl) (by rfl) (by rw [kw_len]; omega) fun w hp => ?_
          try simp only [List.set_cons_zero, List.set_cons_succ, EV.val] at hp
          conv => whnf
          refine hKq _ _ _ (.refl _) ?_
          clear hKq Kq
          conv => whnf
          refine VSeq.mk fun Kq hKq => ?_
          conv => whnf
          refine VSeq.mk fun Kq hKq => ?_
          conv => whnf
          refine hKq _ _ _ (.refl _) ?_
          clear hKq Kq
          conv => whnf
          rw [kw_set] at hp
          refine ⟨fun h8 => ?_, fun h8 => ?_⟩
          · have h8 := of_decide_eq_true h8
            conv => whnf
            rw [if_pos (by omega)] at hsu
            have hfs := fraction_sqr p qp (by omega) (hp.get (i := 0) rfl)
            refine V.CallsUse (hfs) fun w hx => ?_
            try (have hp := hp.call hx)
            conv => whnf
            refine ⟨n, ⟨by first | rfl | omega, by omega⟩, ?_⟩
            conv => whnf
            refine hp.kst1 (off := n) TTok (by rfl) 2 (by rfl) (by rfl) (by rfl) (by rw [kw_len]; omega) fun w hp => ?_
            try simp only [List.set_cons_zero, List.set_cons_succ, EV.val] at hp
            conv => whnf
            refine hKq _ _ _ (.refl _) ?_
            clear hKq Kq
            conv => whnf
            refine Or.inl (And.intro (by omega) ?_)
            conv => whnf
            refine hKq _ _ _ (.refl _) ?_
            clear hKq Kq
            conv => whnf
            refine VSeq.mk fun Kq hKq => ?_
            conv => whnf
            refine VSeq.mk fun Kq hKq => ?_
            conv => whnf
            rw [kw_set] at hp
            refine ⟨_, _, Blk.ld (hp.get (i := 0) rfl) TTok rfl (rfl), ?_⟩
            conv => whnf
            refine hKq _ _ _ (.refl _) ?_
            clear hKq Kq
            conv => whnf
            refine hp.kalloc z203 fun qn w hp hx => ?_
            conv => whnf
            refine hp.kst1 TTok (by rfl) 0 (by rfl) (by rfl) (by rfl) (by exact Nat.zero_lt_one) fun w hp => ?_
            try simp only [List.set_cons_zero, List.set_cons_succ, EV.val] at hp
            conv => whnf
            refine hKq _ _ _ (.refl _) ?_
            clear hKq Kq
            conv => whnf
            refine ⟨_, _, Blk.ld (hp.get (i := 0) rfl) TTok rfl (rfl), ?_⟩
            conv => whnf
            rw [show (((p : Nat) : Int) + 1) % 18446744073709551616 = ((i + 1 + 2 : Nat) : Int) by omega]
            refine hp.kst1 TTok (by rfl) 0 (by rfl) (by rfl) (by rfl) (by exact Nat.zero_lt_one) fun w hp => ?_
            try simp only [List.set_cons_zero, List.set_cons_succ, EV.val] at hp
            conv => whnf
            have hp := hp.pick [0, 2, 3] (by decide)
            refine ⟨m - 1, _, by omega, ⟨i + 1, qn, by omega, by rw [hsu], by rw [hsu]; exact hp⟩, sub_cons rfl (sub_cons rfl (sub_cons rfl (sub_cons rfl sub_nil)))⟩
          · have h8 := of_decide_eq_false h8
            conv => whnf
            refine hKq _ _ _ (.refl _) ?_
            clear hKq Kq
            conv => whnf
            refine Or.inl (And.intro (by omega) ?_)
            conv => whnf
            refine hKq _ _ _ (.refl _) ?_
            clear hKq Kq
            conv => whnf
            refine VSeq.mk fun Kq hKq => ?_
            conv => whnf
            refine VSeq.mk fun Kq hKq => ?_
            conv => whnf
            rw [if_neg (by omega)] at hsu
            refine ⟨_, _, Blk.ld (hp.get (i := 0) rfl) TTok rfl (rfl), ?_⟩
            conv => whnf
            refine hKq _ _ _ (.refl _) ?_
            clear hKq Kq
            conv => whnf
            refine hp.kalloc z203 fun qn w hp hx => ?_
            conv => whnf
            refine hp.kst1 TTok (by rfl) 0 (by rfl) (by rfl) (by rfl) (by exact Nat.zero_lt_one) fun w hp => ?_
            try simp only [List.set_cons_zero, List.set_cons_succ, EV.val] at hp
            conv => whnf
            refine hKq _ _ _ (.refl _) ?_
            clear hKq Kq
            conv => whnf
            refine ⟨_, _, Blk.ld (hp.get (i := 0) rfl) TTok rfl (rfl), ?_⟩
            conv => whnf
            rw [show (((p : Nat) : Int) + 1) % 18446744073709551616 = ((i + 1 + 2 : Nat) : Int) by omega]
            refine hp.kst1 TTok (by rfl) 0 (by rfl) (by rfl) (by rfl) (by exact Nat.zero_lt_one) fun w hp => ?_
            try simp only [List.set_cons_zero, List.set_cons_succ, EV.val] at hp
            conv => whnf
            have hp := hp.pick [0, 2, 3] (by decide)
            refine ⟨m - 1, _, by omega, ⟨i + 1, qn, by omega, by rw [hsu], by rw [hsu]; exact hp⟩, sub_cons rfl (sub_cons rfl (sub_cons rfl (sub_cons rfl sub_nil)))⟩
        | false =>
          rw [hP, if_neg (by decide)] at hsu
          conv => whnf
          refine hKq _ _ _ (.refl _) ?_
          clear hKq Kq
          conv => whnf
          clear hKq Kq
          refine hKq _ _ _ (.refl _) ?_
          clear hKq Kq
          conv => whnf
          refine VSeq.mk fun Kq hKq => ?_
          conv => whnf
          refine VSeq.mk fun Kq hKq => ?_
          conv => whnf
          refine ⟨_, _, Blk.ld (hp.get (i := 0) rfl) TTok rfl (rfl), ?_⟩
          conv => whnf
          refine hKq _ _ _ (.refl _) ?_
          clear hKq Kq
          conv => whnf
          refine hp.kalloc z203 fun qn w hp hx => ?_
          conv => whnf
          refine hp.kst1 TTok (by rfl) 0 (by rfl) (by rfl) (by rfl) (by exact Nat.zero_lt_one) fun w hp => ?_
          try simp only [List.set_cons_zero, List.set_cons_succ, EV.val] at hp
          conv => whnf
          refine hKq _ _ _ (.refl _) ?_
          clear hKq Kq
          conv => whnf
          refine ⟨_, _, Blk.ld (hp.get (i := 0) rfl) TTok rfl (rfl), ?_⟩
          conv => whnf
          rw [show (((p : Nat) : Int) + 1) % 18446744073709551616 = ((i + 1 + 2 : Nat) : Int) by omega]
          refine hp.kst1 TTok (by rfl) 0 (by rfl) (by rfl) (by rfl) (by exact Nat.zero_lt_one) fun w hp => ?_
          try simp only [List.set_cons_zero, List.set_cons_succ, EV.val] at hp
          conv => whnf
          have hp := hp.pick [0, 2, 3] (by decide)
          refine ⟨m - 1, _, by omega, ⟨i + 1, qn, by omega, by rw [hsu], by rw [hsu]; exact hp⟩, sub_cons rfl (sub_cons rfl (sub_cons rfl (sub_cons rfl sub_nil)))⟩
      · cases hP : isP p with
        | false =>
          rw [hP, if_neg (by decide)] at hsu
          conv => whnf
          refine hKq _ _ _ (.refl _) ?_
          clear hKq Kq
          conv => whnf
          refine And.intro (fun _ => ?_) (fun h => by cases h)
          conv => whnf
          clear hKq Kq
          refine hKq _ _ _ (.refl _) ?_
          clear hKq Kq
          conv => whnf
          refine VSeq.mk fun Kq hKq => ?_
          conv => whnf
          refine VSeq.mk fun Kq hKq => ?_
          conv => whnf
          refine ⟨_, _, Blk.ld (hp.get (i := 0) rfl) TTok rfl (rfl), ?_⟩
          conv => whnf
          refine hKq _ _ _ (.refl _) ?_
          clear hKq Kq
          conv => whnf
          refine hp.kalloc z203 fun qn w hp hx => ?_
          conv => whnf
          refine hp.kst1 TTok (by rfl) 0 (by rfl) (by rfl) (by rfl) (by exact Nat.zero_lt_one) fun w hp => ?_
          try simp only [List.set_cons_zero, List.set_cons_succ, EV.val] at hp
          conv => whnf
          refine hKq _ _ _ (.refl _) ?_
          clear hKq Kq
          conv => whnf
          refine ⟨_, _, Blk.ld (hp.get (i := 0) rfl) TTok rfl (rfl), ?_⟩
          conv => whnf
          rw [show (((p : Nat) : Int) + 1) % 18446744073709551616 = ((i + 1 + 2 : Nat) : Int) by omega]
          refine hp.kst1 TTok (by rfl) 0 (by rfl) (by rfl) (by rfl) (by exact Nat.zero_lt_one) fun w hp => ?_
          try simp only [List.set_cons_zero, List.set_cons_succ, EV.val] at hp
          conv => whnf
          have hp := hp.pick [0, 2, 3] (by decide)
          refine ⟨m - 1, _, by omega, ⟨i + 1, qn, by omega, by rw [hsu], by rw [hsu]; exact hp⟩, sub_cons rfl (sub_cons rfl (sub_cons rfl (sub_cons rfl sub_nil)))⟩
        | true =>
          rw [hP, if_pos rfl] at hsu
          conv => whnf
          refine hKq _ _ _ (.refl _) ?_
          clear hKq Kq
          conv => whnf
          refine And.intro (fun h => by cases h) (fun _ => ?_)
          conv => whnf
          refine hKq _ _ _ (.refl _) ?_
          clear hKq Kq
          conv => whnf
          refine VSeq.mk fun Kq hKq => ?_
          conv => whnf
          refine V.CallsUse (hfc) fun w hx => ?_
          try (have hp := hp.call hx)
          conv => whnf
          refine ⟨n, ⟨by first | rfl | omega, by omega⟩, ?_⟩
          conv => whnf
          refine hp.kst1 (off := n) TTok (by rfl) 1 (by rfl) (by rfl) (by rfl) (by rw [kw_len]; omega) fun w hp => ?_
          try simp only [List.set_cons_zero, List.set_cons_succ, EV.val] at hp
          conv => whnf
          refine hKq _ _ _ (.refl _) ?_
          clear hKq Kq
          conv => whnf
          refine VSeq.mk fun Kq hKq => ?_
          conv => whnf
          refine VSeq.mk fun Kq hKq => ?_
          conv => whnf
          refine hKq _ _ _ (.refl _) ?_
          clear hKq Kq
          conv => whnf
          rw [kw_set] at hp
          refine ⟨fun h8 => ?_, fun h8 => ?_⟩
          · have h8 := of_decide_eq_true h8
            conv => whnf
            rw [if_pos (by omega)] at hsu
            have hfs := fraction_sqr p qp (by omega) (hp.get (i := 0) rfl)
            refine V.CallsUse (hfs) fun w hx => ?_
            try (have hp := hp.call hx)
            conv => whnf
            refine ⟨n, ⟨by first | rfl | omega, by omega⟩, ?_⟩
            conv => whnf
            refine hp.kst1 (off := n) TTok (by rfl) 2 (by rfl) (by rfl) (by rfl) (by rw [kw_len]; omega) fun w hp => ?_
            try simp only [List.set_cons_zero, List.set_cons_succ, EV.val] at hp
            conv => whnf
            refine hKq _ _ _ (.refl _) ?_
            clear hKq Kq
            conv => whnf
            refine Or.inl (And.intro (by omega) ?_)
            conv => whnf
            refine hKq _ _ _ (.refl _) ?_
            clear hKq Kq
            conv => whnf
            refine VSeq.mk fun Kq hKq => ?_
            conv => whnf
            refine VSeq.mk fun Kq hKq => ?_
            conv => whnf
            rw [kw_set] at hp
            refine ⟨_, _, Blk.ld (hp.get (i := 0) rfl) TTok rfl (rfl), ?_⟩
            conv => whnf
            refine hKq _ _ _ (.refl _) ?_
            clear hKq Kq
            conv => whnf
            refine hp.kalloc z203 fun qn w hp hx => ?_
            conv => whnf
            refine hp.kst1 TTok (by rfl) 0 (by rfl) (by rfl) (by rfl) (by exact Nat.zero_lt_one) fun w hp => ?_
            try simp only [List.set_cons_zero, List.set_cons_succ, EV.val] at hp
            conv => whnf
            refine hKq _ _ _ (.refl _) ?_
            clear hKq Kq
            conv => whnf
            refine ⟨_, _, Blk.ld (hp.get (i := 0) rfl) TTok rfl (rfl), ?_⟩
            conv => whnf
            rw [show (((p : Nat) : Int) + 1) % 18446744073709551616 = ((i + 1 + 2 : Nat) : Int) by omega]
            refine hp.kst1 TTok (by rfl) 0 (by rfl) (by rfl) (by rfl) (by exact Nat.zero_lt_one) fun w hp => ?_
            try simp only [List.set_cons_zero, List.set_cons_succ, EV.val] at hp
            conv => whnf
            have hp := hp.pick [0, 2, 3] (by decide)
            refine ⟨m - 1, _, by omega, ⟨i + 1, qn, by omega, by rw [hsu], by rw [hsu]; exact hp⟩, sub_cons rfl (sub_cons rfl (sub_cons rfl (sub_cons rfl sub_nil)))⟩
          · have h8 := of_decide_eq_false h8
            conv => whnf
            refine hKq _ _ _ (.refl _) ?_
            clear hKq Kq
            conv => whnf
            refine Or.inl (And.intro (by omega) ?_)
            conv => whnf
            refine hKq _ _ _ (.refl _) ?_
            clear hKq Kq
            conv => whnf
            refine VSeq.mk fun Kq hKq => ?_
            conv => whnf
            refine VSeq.mk fun Kq hKq => ?_
            conv => whnf
            rw [if_neg (by omega)] at hsu
            refine ⟨_, _, Blk.ld (hp.get (i := 0) rfl) TTok rfl (rfl), ?_⟩
            conv => whnf
            refine hKq _ _ _ (.refl _) ?_
            clear hKq Kq
            conv => whnf
            refine hp.kalloc z203 fun qn w hp hx => ?_
            conv => whnf
            refine hp.kst1 TTok (by rfl) 0 (by rfl) (by rfl) (by rfl) (by exact Nat.zero_lt_one) fun w hp => ?_
            try simp only [List.set_cons_zero, List.set_cons_succ, EV.val] at hp
            conv => whnf
            refine hKq _ _ _ (.refl _) ?_
            clear hKq Kq
            conv => whnf
            refine ⟨_, _, Blk.ld (hp.get (i := 0) rfl) TTok rfl (rfl), ?_⟩
            conv => whnf
            rw [show (((p : Nat) : Int) + 1) % 18446744073709551616 = ((i + 1 + 2 : Nat) : Int) by omega]
            refine hp.kst1 TTok (by rfl) 0 (by rfl) (by rfl) (by rfl) (by exact Nat.zero_lt_one) fun w hp => ?_
            try simp only [List.set_cons_zero, List.set_cons_succ, EV.val] at hp
            conv => whnf
            have hp := hp.pick [0, 2, 3] (by decide)
            refine ⟨m - 1, _, by omega, ⟨i + 1, qn, by omega, by rw [hsu], by rw [hsu]; exact hp⟩, sub_cons rfl (sub_cons rfl (sub_cons rfl (sub_cons rfl sub_nil)))⟩
  · have hlt := of_decide_eq_false hlt
    conv => whnf
    clear hKq Kq
    refine hKq _ _ _ (.refl _) ?_
    clear hKq Kq
    conv => whnf
    refine VSeq.mk fun Kq hKq => ?_
    conv => whnf
    have hi : i = 310 := by
      rcases Nat.lt_or_ge i 310 with h | h
      · have := tab_cnt i h; omega
      · omega
    subst hi
    rw [tab_end] at hp
    refine v_mtB TTok FFok mixed [2, 3] (.q 0 (.br 1 2 (.m 2 (.m 3 .nil)) (.m 1 (.m 3 .nil)))) (by kernel_rfl) ?_
    conv => whnf
    refine ⟨_, fun w' hx' => Blk.ldN (Blk.ext (hp.get (i := 2) rfl) hx') TTok rfl (by rfl), ?_⟩
    conv => whnf
    refine And.intro ?_ ?_
    · intro w hx
      try (have hp := hp.call hx)
      conv => whnf
      refine ⟨_, _, Blk.ldN (hp.get (i := 1) rfl) TTok rfl (by rfl), ?_⟩
      conv => whnf
      refine And.intro (fun h => h) ?_
      conv => whnf
      intro w hx
      try (have hp := hp.call hx)
      conv => whnf
      refine hp.kstA TTok rfl 2 rfl (by rfl) (kw_one _ _) (by rfl) fun w hp => ?_
      try simp only [List.set_cons_zero, List.set_cons_succ, EV.val] at hp
      conv => whnf
      intro w hx
      try (have hp := hp.call hx)
      conv => whnf
      refine hp.kstA TTok rfl 1 rfl (by rfl) (kw_one _ _) (by rfl) fun w hp => ?_
      try simp only [List.set_cons_zero, List.set_cons_succ, EV.val] at hp
      conv => whnf
      intro w hx
      try (have hp := hp.call hx)
      conv => whnf
      refine hKq _ _ _ (.refl _) ?_
      clear hKq Kq
      conv => whnf
      exact ⟨_, Blk.lvN (hp.get (i := 2) rfl) TTok rfl (by rfl), _, Blk.lvN (hp.get (i := 1) rfl) TTok rfl (by rfl), rfl, hp.ext⟩
    · intro w hx
      try (have hp := hp.call hx)
      conv => whnf
      refine hp.kstA TTok rfl 2 rfl (by rfl) (kw_one _ _) (by rfl) fun w hp => ?_
      try simp only [List.set_cons_zero, List.set_cons_succ, EV.val] at hp
      conv => whnf
      intro w hx
      try (have hp := hp.call hx)
      conv => whnf
      refine ⟨_, _, Blk.ldN (hp.get (i := 1) rfl) TTok rfl (by rfl), ?_⟩
      conv => whnf
      refine And.intro (fun h => h) ?_
      conv => whnf
      intro w hx
      try (have hp := hp.call hx)
      conv => whnf
      refine hp.kstA TTok rfl 1 rfl (by rfl) (kw_one _ _) (by rfl) fun w hp => ?_
      try simp only [List.set_cons_zero, List.set_cons_succ, EV.val] at hp
      conv => whnf
      intro w hx
      try (have hp := hp.call hx)
      conv => whnf
      refine hKq _ _ _ (.refl _) ?_
      clear hKq Kq
      conv => whnf
      exact ⟨_, Blk.lvN (hp.get (i := 2) rfl) TTok rfl (by rfl), _, Blk.lvN (hp.get (i := 1) rfl) TTok rfl (by rfl), rfl, hp.ext⟩
def dropB (s : ByteArray) (k : Nat) : ByteArray := ⟨(s.data.toList.drop (64 * k)).toArray⟩
def blkB (s : ByteArray) (k : Nat) : ByteArray := ⟨((s.data.toList.drop (64 * k)).take 64).toArray⟩
theorem dropB_size (s : ByteArray) (k : Nat) : (dropB s k).size = s.size - 64 * k := by
  unfold dropB; rw [bA_size, List.length_drop, toList_len]
theorem blkB_size (s : ByteArray) (k : Nat) (h : 64 * k + 64 ≤ s.size) : (blkB s k).size = 64 := by
  unfold blkB; rw [bA_size, List.length_take, List.length_drop, toList_len]; omega
theorem ext_list (s : ByteArray) (a b : Nat) : (s.extract a b).data.toList = (s.data.toList.drop a).take (b - a) := by
  rw [ByteArray.data_extract, Array.toList_extract, List.extract_eq_take_drop]
theorem dropB_head (s : ByteArray) (k : Nat) : (dropB s k).extract 0 64 = blkB s k := by
  apply ba_eq
  rw [ext_list, List.drop_zero]
  rfl
theorem dropB_tail (s : ByteArray) (k : Nat) : (dropB s k).extract 64 (dropB s k).size = dropB s (k + 1) := by
  apply ba_eq
  rw [ext_list, dropB_size]
  show ((s.data.toList.drop (64 * k)).drop 64).take _ = s.data.toList.drop (64 * (k + 1))
  rw [List.drop_drop, List.take_of_length_le (by rw [List.length_drop, toList_len]; omega)]
  rfl
theorem dropB_zero (s : ByteArray) : dropB s 0 = s := by
  apply ba_eq; rfl
theorem blocks_iter (s : ByteArray) (bs : Nat) :
    Iter Tryz.prog 192 [.pointer (some ⟨bs, 0, none⟩)] [bs] (fun W => Blk W bs [.string s] 9) (fun k => [.string (blkB s k)]) (fun k => k = s.size / 64) (s.size / 64 + 1) := by
  intro l J Jx W hb hN hJ hJx hY h0
  refine (v_fn (R := fun _ B => (∃ k, k = s.size / 64 ∧ J k B) ∨ ∃ k, Jx k B) TTok FFok (f := 192) rfl rfl (Nat.le_of_ble_eq_true rfl) ?_).mono ?_
  rotate_left
  · rintro e B ⟨v, rfl, h⟩; exact ⟨⟨v, rfl⟩, h⟩
  rw [← dropB_zero s] at hb
  conv => whnf
  refine ⟨fun m l' w => ∃ (k : Nat), m + k = s.size / 64 ∧ l' = [(0, .v (.func (.yield l) #[] #[])), (1, .v (.pointer (some ⟨bs, 0, none⟩)))] ∧ J k w ∧ Blk w bs [.string (dropB s k)] 9,
    ⟨s.size / 64, _, ⟨0, by omega, rfl, h0, hb⟩, sub_cons rfl (sub_cons rfl sub_nil)⟩, ?_⟩
  clear h0 hb
  rintro m _ w ⟨k, hk, rfl, hj, hb⟩
  have hp := (HpM.nil0 [bs] w).take hb (by simp) (by simp)
  have hds := dropB_size s k
  conv => whnf
  refine VSeq.mk fun Kq hKq => ?_
  conv => whnf
  refine VSeq.mk fun Kq hKq => ?_
  conv => whnf
  refine ⟨_, _, Blk.ld (hp.get (i := 0) rfl) TTok rfl (rfl), ?_⟩
  conv => whnf
  refine hKq _ _ _ (.refl _) ?_
  clear hKq Kq
  conv => whnf
  refine ⟨fun hlt => ?_, fun hlt => ?_⟩
  · have hlt := of_decide_eq_true hlt
    conv => whnf
    refine hKq _ _ _ (.refl _) ?_
    clear hKq Kq
    conv => whnf
    refine VSeq.mk fun Kq hKq => ?_
    conv => whnf
    refine VSeq.mk fun Kq hKq => ?_
    conv => whnf
    have hk2 : k < s.size / 64 := by omega
    refine ⟨_, _, Blk.ld (hp.get (i := 0) rfl) TTok rfl (rfl), ?_⟩
    conv => whnf
    refine ⟨64, ⟨by first | rfl | omega, by omega⟩, ?_⟩
    conv => whnf
    rw [dropB_head]
    have hj1 := hJ k _ _ hj hp.extM
    refine y_mono (hY k _ hj1 (by omega)) ?_
    rintro e w' (⟨rfl, hj2, hkp⟩ | ⟨rfl, hx2⟩)
    · have hb' : Blk w' bs [.string (dropB s k)] 9 := Blk.same (hp.get (i := 0) rfl) (hkp bs (by simp))
      refine ⟨_, rfl, ?_⟩
      have hp := (HpM.nil0 [bs] w').take hb' (by simp) (by simp)
      conv => whnf
      refine hKq _ _ _ (.refl _) ?_
      clear hKq Kq
      conv => whnf
      refine ⟨fun h => (by cases h), fun _ => ?_⟩
      conv => whnf
      refine hKq _ _ _ (.refl _) ?_
      clear hKq Kq
      conv => whnf
      refine ⟨_, _, Blk.ld (hp.get (i := 0) rfl) TTok rfl (rfl), ?_⟩
      conv => whnf
      refine ⟨64, ⟨by first | rfl | omega, by omega⟩, ?_⟩
      conv => whnf
      rw [dropB_tail]
      refine hp.kst1 TTok (by rfl) 0 (by rfl) (by rfl) (by rfl) (by exact Nat.zero_lt_one) fun w hp => ?_
      try simp only [List.set_cons_zero, List.set_cons_succ, EV.val] at hp
      conv => whnf
      exact ⟨m - 1, _, by omega, ⟨k + 1, by omega, rfl, hJ _ _ _ hj2 hp.extM, hp.get (i := 0) rfl⟩, sub_cons rfl (sub_cons rfl sub_nil)⟩
    · refine ⟨_, rfl, ?_⟩
      conv => whnf
      refine hKq _ _ _ (.refl _) ?_
      clear hKq Kq
      conv => whnf
      refine ⟨fun _ => ?_, fun h => (by cases h)⟩
      conv => whnf
      exact .inr ⟨k, hx2⟩
  · have hlt := of_decide_eq_false hlt
    conv => whnf
    have hk2 : k = s.size / 64 := by omega
    exact .inl ⟨k, hk2, hj⟩
theorem blocks_c {M : List Nat} {w0 w : World} {H : List It} (hp : HpM M w0 w H) (s : ByteArray) :
    Calls Tryz.prog 183 #[.string s] w fun e w' => ∃ v, e = .returned v ∧ ∃ bs, v = .func (.func 192) #[] #[.pointer (some ⟨bs, 0, none⟩)] ∧
      HpM M w0 w' (blk bs [.string s] 9 :: H) ∧ Ext w w' := by
  refine v_fn (args := [.string s]) TTok FFok (f := 183) rfl rfl (Nat.le_of_ble_eq_true rfl) ?_
  conv => whnf
  refine VSeq.mk fun Kq hKq => ?_
  conv => whnf
  refine hp.kbox [.string s] rfl fun bs w1 hp hx1 => ?_
  conv => whnf
  refine hKq _ _ _ (.refl _) ?_
  clear hKq Kq
  conv => whnf
  refine VSeq.mk fun Kq hKq => ?_
  conv => whnf
  refine hKq _ _ _ (.refl _) ?_
  clear hKq Kq
  conv => whnf
  exact ⟨bs, rfl, hp, hx1⟩
end Go.Proofs.YtmlmfmdmomegpaaGreatDoor
