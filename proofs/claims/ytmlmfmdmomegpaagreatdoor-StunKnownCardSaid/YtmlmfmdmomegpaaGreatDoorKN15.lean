/- Maps of the call's own, keyed by integers. Own work. No program is named here. -/
/- Drawn regions as trees, over a class of worlds: a quiet operation is quiet in every world of the class; an operation that is not quiet leaves the class' worlds in the class. Own work. No program is named here. -/
/- Slices of rows and of octets that come in: what is read of them. Own work. -/
/- Chapter 08: messages are compared; lists of integers. -/
/- Chapter 08: kinds that are not known. -/
/- Chapter 08: the reference: kinds that are not known; lists of integers. -/
/- Chapter 08: the reference: the octets of a message. -/
/- Chapter 08: the law's small functions. -/
/- Chapter 08: a message is protected. -/
/- Chapter 08: the examples, computed. -/
import Derived.Test.YtmlmfmdmomegpaaGreatDoorKN09
import Derived.MapKept
import Derived.Test.YtmlmfmdmomegpaaGreatDoorKN06
import Derived.Test.YtmlmfmdmomegpaaGreatDoorKN05
import Derived.Test.YtmlmfmdmomegpaaGreatDoorKN12
import Derived.Test.YtmlmfmdmomegpaaGreatDoorKN14
import Derived.Test.YtmlmfmdmomegpaaGreatDoorKN11
namespace Go.Proofs.YtmlmfmdmomegpaaGreatDoor
set_option linter.unusedSimpArgs false
set_option linter.unusedVariables false
open Go.RowKit
namespace V
/-- Block b is a map of integers that holds just these entries, the oldest first. -/
def MPs (w : World) (b : Nat) (kvs : List (Int × Value)) : Prop := ∃ (es : Array MapEntry) (clock : Nat), w.heap[b]? = some (.map es clock) ∧ es.toList.map (fun e => (e.key, e.val)) = kvs.map fun p => (Value.int .i64 p.1, p.2)
def mp (b : Nat) (kvs : List (Int × Value)) : It := ⟨some b, fun w => MPs w b kvs⟩
theorem mp_ok (b : Nat) (kvs : List (Int × Value)) : (mp b kvs).Ok := fun w w' _ h hh => by
  obtain ⟨es, c, h1, h2⟩ := hh
  exact ⟨es, c, (h b rfl).trans h1, h2⟩
theorem find_mp (k : Int) : ∀ (l : List MapEntry) (kvs : List (Int × Value)) (i : Nat), l.map (fun e => (e.key, e.val)) = kvs.map (fun p => (Value.int .i64 p.1, p.2)) →
    (∃ r, Instr.findNow (.int .i64) (.int .i64 k) l i = some r ∧ (r.map (·.2)) = (kvs.find? fun p => decide (p.1 = k)).map (·.2))
  | [], [], i, _ => ⟨none, rfl, rfl⟩
  | e :: l, [], i, h => by simp at h
  | [], p :: kvs, i, h => by simp at h
  | e :: l, p :: kvs, i, h => by
    simp only [List.map_cons, List.cons.injEq, Prod.mk.injEq] at h
    obtain ⟨⟨hk, hv⟩, ht⟩ := h
    obtain ⟨r, hr, hr2⟩ := find_mp k l kvs (i + 1) ht
    by_cases e1 : p.1 = k
    · refine ⟨some (i, e.val), ?_, ?_⟩
      · subst e1
        simp [Instr.findNow, Instr.sameNow, hk]
      · simp [List.find?_cons, e1, hv]
    · refine ⟨r, ?_, ?_⟩
      · have e2 : (k == p.1) = false := by simp; exact fun h => e1 h.symm
        simp [Instr.findNow, Instr.sameNow, hk, e2, hr]
      · rw [hr2, List.find?_cons, decide_eq_false e1]
theorem find_mp' {k : Int} {l : List MapEntry} {kvs : List (Int × Value)} (h : l.map (fun e => (e.key, e.val)) = kvs.map (fun p => (Value.int .i64 p.1, p.2))) (hn : (kvs.find? fun p => decide (p.1 = k)) = none) : Instr.findNow (.int .i64) (.int .i64 k) l 0 = some none := by
  obtain ⟨r, hr, h2⟩ := find_mp k l kvs 0 h
  rw [hn] at h2
  cases r with
  | none => exact hr
  | some a => simp at h2
section
variable {P : Program} {T : Tab} {M : List Nat} {w0 w : World} {H : List It} {K : Value → World → Prop}
theorem HpM.kmap (h : HpM M w0 w H) {t : Nat} (hk : ∀ b w', HpM M w0 w' (mp b [] :: H) → Ext w w' → K (.map (some b)) w') : ∃ u w', (Instr.makeMap t none).run P w = .ok u w' ∧ K u w' := by
  have hr : (Instr.makeMap t none).run P w = .ok (.map (some w.heap.size)) (w.alloc (.map #[] 0)) := by
    simp [Instr.makeMap, Result.andThen]
  have hx : Ext w (w.alloc (.map #[] 0)) := (Ext.refl w).alloc _
  refine ⟨_, _, hr, hk _ _ (h.push hx (mp_ok _ _) ⟨#[], 0, (MapKept.heap_alloc w _).1, rfl⟩ ?_) hx⟩
  intro b hb
  simp only [mp, Option.some.injEq] at hb
  subst hb
  exact ⟨Nat.le_refl _, by simp⟩
/-- a new key -/
theorem HpM.kins (h : HpM M w0 w H) {t kt et : Nat} (ht : P.underlying t = some (.map kt et)) (hkt : P.underlying kt = some (.int .i64)) (i : Nat) {b : Nat} {kvs : List (Int × Value)} (hi : H[i]? = some (mp b kvs)) {k : Int} {v : Value}
    (hn : (kvs.find? fun p => decide (p.1 = k)) = none) (hk : ∀ w', HpM M w0 w' (H.set i (mp b (kvs ++ [(k, v)]))) → K undef w') :
    ∃ u w', (do Instr.mapUpdate t (.map (some b)) (.int .i64 k) v; Pure.pure undef : Sem Value).run P w = .ok u w' ∧ K u w' := by
  obtain ⟨es, clock, hb, hes⟩ : MPs w b kvs := h.get hi
  have hf := find_mp' hes hn
  have hr : (Instr.mapUpdate t (.map (some b)) (.int .i64 k) v).run P w = .ok () { w with heap := w.heap.setIfInBounds b (.map (es.push { key := .int .i64 k, val := v, born := clock }) (clock + 1)) } := by
    simp only [Instr.mapUpdate, Sem.run_bind, Go.Proofs.YtmlmfmdmomegpaaGreatDoor.V.run_underlying ht, Result.andThen, MapKept.run_getObj_map hb, MapKept.run_checkKey hkt (show MapKept.IsKey (.int .i64) (.int .i64 k) from rfl), MapKept.run_findKey hkt hf]
    exact MapKept.run_setObj_map _ hb
  have hset := MapKept.heap_set hb (o' := .map (es.push { key := .int .i64 k, val := v, born := clock }) (clock + 1))
  have hg : w.grownBy { w with heap := w.heap.setIfInBounds b (.map (es.push { key := .int .i64 k, val := v, born := clock }) (clock + 1)) } (mp b kvs).own :=
    ⟨rfl, rfl, rfl, by simp, fun j hj hne => hset.2 j (fun e => hne (by rw [e]; rfl))⟩
  have hr2 : (do Instr.mapUpdate t (.map (some b)) (.int .i64 k) v; Pure.pure undef : Sem Value).run P w = .ok undef { w with heap := w.heap.setIfInBounds b (.map (es.push { key := .int .i64 k, val := v, born := clock }) (clock + 1)) } := by
    rw [Sem.run_bind, hr]
    simp [Result.andThen]
  exact ⟨_, _, hr2, hk _ (h.upd hi hg (mp_ok _ _) ⟨_, _, hset.1, by simp [hes]⟩ (fun b' hb' => .inl hb'))⟩
/-- a key is looked up -/
theorem MPs.look {b : Nat} {kvs : List (Int × Value)} (h : MPs w b kvs) {t kt et : Nat} (ht : P.underlying t = some (.map kt et)) (hkt : P.underlying kt = some (.int .i64)) {z : Value} (hz : (zeroValue et).run P w = .ok z w) (k : Int) (ok : Bool) :
    (Instr.lookup t (.map (some b)) (.int .i64 k) ok).run P w = .ok (match kvs.find? fun p => decide (p.1 = k) with
      | some p => if ok then .tuple #[p.2, .bool true] else p.2
      | none => if ok then .tuple #[z, .bool false] else z) w := by
  obtain ⟨es, clock, hb, hes⟩ := h
  obtain ⟨r, hr, h2⟩ := find_mp k es.toList kvs 0 hes
  simp only [Instr.lookup, Sem.run_bind, Go.Proofs.YtmlmfmdmomegpaaGreatDoor.V.run_underlying ht, Result.andThen, MapKept.run_getObj_map hb, Sem.run_pure, MapKept.run_checkKey hkt (show MapKept.IsKey (.int .i64) (.int .i64 k) from rfl), MapKept.run_findKey hkt hr]
  cases hf : kvs.find? fun p => decide (p.1 = k) with
  | none =>
    rw [hf] at h2
    cases r with
    | none => simp [hz, Result.andThen]
    | some a => simp at h2
  | some p =>
    rw [hf] at h2
    cases r with
    | none => simp at h2
    | some a =>
      have : a.2 = p.2 := by simpa using h2
      simp [Result.andThen, this]
end
end V
namespace V
section
variable {P : Program} {md : Region.Mode} {ops : Array Oper}
def YC (P : Program) (ops : Array Oper) (o : Oper) (v : Value) (a : Act) (C : World → Prop) : Prop :=
  (Region.wanted o (yielded ops a.tmps) = true ∧ ∀ w1, C w1 → o.quietAt P a (Ext w1) w1 v) ∨ (Region.wanted o (yielded ops a.tmps) = false ∧ v = undef)
theorem YC.of_same {o : Oper} {v : Value} {a a' : Act} {C : World → Prop} (hy : YC P ops o v a C) (he : execOp a'.eval o = execOp a.eval o) (hw : Region.wanted o (yielded ops a'.tmps) = Region.wanted o (yielded ops a.tmps)) : YC P ops o v a' C := by
  unfold YC Oper.quietAt at *
  rw [he, hw]
  exact hy
end
/-! ### over environments -/
section
variable (P : Program) (T : Tab) (Fs : List Nat) (n : Nat) (all : List Oper) (bars : List Nat) (C : World → Prop)
end
section
variable {P : Program} {T : Tab} {Fs : List Nat} (hT : tabOk P T = true) (hF : ∀ f, memB f Fs = true → Enters P f)
include hT hF
end
end V
set_option maxRecDepth 100000
open Go.RowKit V
namespace V
theorem SLn.shape {w : World} {sz : Nat} {v : Value} {xs : List (List Value)} (h : SLn w sz v xs) : ∃ p c, v = .slice p xs.length c := by
  rcases h with ⟨rfl, rfl⟩ | ⟨a, c, rfl, rfl⟩ | ⟨g, off, c, rfl, _⟩
  · exact ⟨_, _, rfl⟩
  · exact ⟨_, _, rfl⟩
  · exact ⟨_, _, rfl⟩
theorem SLn.len {w : World} {sz : Nat} {v : Value} {xs : List (List Value)} (h : SLn w sz v xs) : xs.length ≤ maxLen := by
  rcases h with ⟨_, rfl⟩ | ⟨a, c, _, rfl⟩ | ⟨g, off, c, _, h1, h2, _⟩
  · exact Nat.zero_le _
  · exact Nat.zero_le _
  · omega
theorem SLn.ext {w w' : World} {sz : Nat} {v : Value} {xs : List (List Value)} (h : SLn w sz v xs) (hx : Ext w w') : SLn w' sz v xs := by
  rcases h with h | h | ⟨g, off, c, hv, h1, h2, h3⟩
  · exact .inl h
  · exact .inr (.inl h)
  · exact .inr (.inr ⟨g, off, c, hv, h1, h2, fun j x hj => ⟨(h3 j x hj).1, fun i y hy => Ext.cell hx ((h3 j x hj).2 i y hy)⟩⟩)
theorem SLn.cells {w : World} {sz : Nat} {p : Option Addr} {n c : Nat} {xs : List (List Value)} (h : SLn w sz (.slice p n c) xs) {j : Nat} {x : List Value} (hj : xs[j]? = some x) :
    ∃ g off, p = some ⟨g, off, none⟩ ∧ x.length = sz ∧ ∀ i y, x[i]? = some y → w.cell? ⟨g, addM off j sz + i, none⟩ = some y := by
  rcases h with ⟨_, h⟩ | ⟨_, _, _, h⟩ | ⟨g, off, c', hv, _, _, h3⟩
  · rw [h] at hj; simp at hj
  · rw [h] at hj; simp at hj
  · simp only [Value.slice.injEq] at hv
    refine ⟨g, off, hv.1, (h3 j x hj).1, fun i y hy => ?_⟩
    rw [addM_eq, Nat.add_assoc]
    exact (h3 j x hj).2 i y hy
theorem SLn.one {α : Type} {f : α → Value} {w : World} {v : Value} {l : List α} (h : SLn w 1 v (l.map fun a => [f a])) : SLv w v (l.map f) := by
  rcases h with ⟨rfl, h⟩ | ⟨a, c, rfl, h⟩ | ⟨g, off, c, rfl, hle, _, h⟩
  · have : l = [] := List.map_eq_nil_iff.1 h
    subst this; exact .inl ⟨rfl, _, _, rfl⟩
  · have : l = [] := List.map_eq_nil_iff.1 h
    subst this; exact .inl ⟨rfl, _, _, rfl⟩
  · refine .inr ⟨g, off, c, by simp, by simpa using hle, fun j y hy => ?_⟩
    rw [List.getElem?_map, Option.map_eq_some_iff] at hy
    obtain ⟨s, hs, rfl⟩ := hy
    have := (h j [f s] (by simp [hs])).2 0 (f s) rfl
    simpa using this
theorem Rd.all {α : Type} {w : World} {s : Sh} {Q : α → Prop} {f : α → List Value} (h1 : ∀ cs, Rd w s cs → ∃ a, Q a ∧ cs = f a) :
    ∀ {xs : List (List Value)}, (∀ x ∈ xs, Rd w s x) → ∃ l : List α, xs = l.map f ∧ ∀ a ∈ l, Q a
  | [], _ => ⟨[], rfl, by simp⟩
  | x :: xs, h => by
    obtain ⟨a, ha, hx⟩ := h1 x (h x List.mem_cons_self)
    obtain ⟨l, hl, hq⟩ := Rd.all h1 (xs := xs) fun y hy => h y (List.mem_cons_of_mem _ hy)
    refine ⟨a :: l, by rw [List.map_cons, ← hx, ← hl], fun b hb => ?_⟩
    rcases List.mem_cons.1 hb with rfl | hb
    · exact ha
    · exact hq b hb
theorem conv_zero {P : Program} {T : Tab} (hT : tabOk P T = true) {src dst e n1 n2 n3 : Nat} (hs : tfind T src = some ⟨.slice e, n1⟩) (he : tfind T e = some ⟨.int .u8, n2⟩) (hd : tfind T dst = some ⟨.str, n3⟩) {w : World} {a : Option Addr} {cap : Nat} :
    (convert src dst (.slice a 0 cap)).run P w = .ok (.string ⟨#[]⟩) w := by
  cases a with
  | none => exact conv_nil (hT := hT) hs he hd
  | some a =>
    rw [run_convert_bytes_string w src dst e _ 0 cap (tab_slice hT hs) (tab_int hT he) (tab_str hT hd)]
    have hld := run_loadCells_list (P := P) w a [] (fun j v hj => by simp at hj)
    rw [run_bytesToString w _ 0 cap [] (by rw [show (0 : Nat) = ([] : List Value).length from rfl, hld]; rfl)]
    rfl
/-- the octets of a slice, as a string -/
theorem SLv.str {P : Program} {T : Tab} (hT : tabOk P T = true) {src dst e n1 n2 n3 : Nat} (hs : tfind T src = some ⟨.slice e, n1⟩) (he : tfind T e = some ⟨.int .u8, n2⟩) (hd : tfind T dst = some ⟨.str, n3⟩) {w : World} {v : Value} {l : List UInt8} (h : SLv w v (bytesV l)) :
    (convert src dst v).run P w = .ok (.string ⟨l.toArray⟩) w := by
  rcases h with ⟨h, a, c, rfl⟩ | ⟨g, off, c, rfl, _, hc⟩
  · have : l = [] := List.map_eq_nil_iff.1 h
    subst this
    exact conv_zero hT hs he hd
  · have hl : (bytesV l).length = l.length := by simp [bytesV]
    rw [hl]
    refine conv_bytes (hT := hT) hs he hd rfl fun j hj => ?_
    have hj' : j < (bytesV l).length := by omega
    rw [List.getElem?_eq_getElem hj']
    exact hc j _ (List.getElem?_eq_getElem hj')
end V
set_option maxHeartbeats 3200000
def in8 (a : Int) : Prop := -9223372036854775808 ≤ a ∧ a ≤ 9223372036854775807
theorem in8_wf {a : Int} (h : in8 a) : (Lit.int .i64 a).wf = true := by
  unfold in8 at h
  simp [Lit.wf, IntKind.has, IntKind.min, IntKind.max, IntKind.signed, IntKind.bits]; omega
def AtOk (a : At2) : Prop := in8 a.1 ∧ a.2.size ≤ maxLen
theorem AtOk.of {a : At2} (h : attrB a = true) : AtOk a := by
  have := attrB_t h
  refine ⟨⟨by omega, by omega⟩, ?_⟩
  unfold maxLen; omega
def sh8A : Sh := .cons (.int .i64) (.cons .str .nil)
theorem sh8A_ok : cmpOk Tryz.prog 54 10 sh8A = true := by kernel_rfl
theorem AtOk.rd {w : World} {a : At2} (h : AtOk a) : Rd w sh8A (atC a) := ⟨[_], [_], rfl, ⟨a.1, rfl, in8_wf h.1⟩, [_], [], rfl, ⟨a.2, rfl, h.2⟩, rfl⟩
theorem atC_inj {a b : At2} : atC a = atC b ↔ a = b := by
  constructor
  · intro h
    obtain ⟨_, _⟩ := a
    obtain ⟨_, _⟩ := b
    simp only [atC, List.cons.injEq, Value.string.injEq, Value.int.injEq, true_and, and_true] at h
    rw [h.1, h.2]
  · rintro rfl; rfl
theorem at_eq (w : World) (a b : At2) (ha : AtOk a) (hb : AtOk b) (xo yo : Operand) :
    ((do eqGuard .eql 54 xo yo (.agg #[.int .i64 a.1, .string a.2]) (.agg #[.int .i64 b.1, .string b.2]); binOp .eql 54 (.agg #[.int .i64 a.1, .string a.2]) (.agg #[.int .i64 b.1, .string b.2]) : Sem Value).run Tryz.prog w = .ok (.bool (decide (a = b))) w) ∧
    ((do eqGuard .neq 54 xo yo (.agg #[.int .i64 a.1, .string a.2]) (.agg #[.int .i64 b.1, .string b.2]); binOp .neq 54 (.agg #[.int .i64 a.1, .string a.2]) (.agg #[.int .i64 b.1, .string b.2]) : Sem Value).run Tryz.prog w = .ok (.bool (!decide (a = b))) w) := by
  obtain ⟨r, hr, h1, h2⟩ := run_eq_agg sh8A_ok (w0 := w) (w1 := w) ha.rd hb.rd xo yo
  have e : r = decide (a = b) := by rw [Bool.eq_iff_iff, hr, decide_eq_true_iff]; exact atC_inj
  rw [← e]
  exact ⟨h1 w, h2 w⟩
def sameB (c m : Int) (id : ByteArray) (al : List At2) (c2 m2 : Int) (id2 : ByteArray) (bl : List At2) : Bool := decide (c = c2 ∧ m = m2 ∧ id = id2 ∧ al = bl)
theorem sameB_f {c m : Int} {id : ByteArray} {al : List At2} {c2 m2 : Int} {id2 : ByteArray} {bl : List At2} (h : ¬ (c = c2 ∧ m = m2 ∧ id = id2 ∧ al = bl)) : sameB c m id al c2 m2 id2 bl = false := decide_eq_false h
theorem sameB_t {c m : Int} {id : ByteArray} {al : List At2} {c2 m2 : Int} {id2 : ByteArray} {bl : List At2} (h : c = c2 ∧ m = m2 ∧ id = id2 ∧ al = bl) : sameB c m id al c2 m2 id2 bl = true := decide_eq_true h
theorem Same8_c {W : World} {v u : Value} {al bl : List At2} (c m : Int) (id : ByteArray) (c2 m2 : Int) (id2 : ByteArray) (hv : SA W v al) (hu : SA W u bl) (ha : ∀ a ∈ al, AtOk a) (hb : ∀ a ∈ bl, AtOk a) :
    Calls Tryz.prog 21 #[.agg #[.int .i64 c, .int .i64 m, .string id, v], .agg #[.int .i64 c2, .int .i64 m2, .string id2, u]] W fun e w' => e = .returned (.bool (sameB c m id al c2 m2 id2 bl)) ∧ Ext W w' := by
  have hml := hv.len
  have hml2 := hu.len
  obtain ⟨p, cp, rfl⟩ := hv.shape
  obtain ⟨p2, cp2, rfl⟩ := hu.shape
  by_cases hg : c = c2 ∧ m = m2 ∧ id = id2 ∧ al.length = bl.length
  · obtain ⟨rfl, rfl, rfl, hlen⟩ := hg
    refine v_reads (args := [.agg #[.int .i64 c, .int .i64 m, .string id, .slice p al.length cp], .agg #[.int .i64 c, .int .i64 m, .string id, .slice p2 bl.length cp2]]) TTok FFok Tryz.func21 rfl rfl ?_
    conv => whnf
    refine VSeq.mk fun Kq hKq => ?_
    conv => whnf
    have hp := Hp.nil W
    refine hp.kboxA fun q w hp hx => ?_
    conv => whnf
    refine hp.kboxA fun q2 w hp hx => ?_
    conv => whnf
    refine hKq _ _ _ (.refl _) ?_
    clear hKq Kq
    conv => whnf
    refine VSeq.mk fun Kq hKq => ?_
    conv => whnf
    refine VSeq.mk fun Kq hKq => ?_
    conv => whnf
    refine VSeq.mk fun Kq hKq => ?_
    conv => whnf
    (refine ⟨_, _, Blk.ld (hp.get (i := 1) rfl) TTok rfl rfl, ?_⟩; conv => whnf)
    (refine ⟨_, _, Blk.ld (hp.get (i := 0) rfl) TTok rfl rfl, ?_⟩; conv => whnf)
    (refine hKq _ _ _ (.refl _) ?_; clear hKq Kq; conv => whnf)
    (refine VSeq.mk fun Kq hKq => ?_; conv => whnf)
    (refine And.intro (fun h => absurd (of_decide_eq_true h) (by first | (intro h2; exact absurd rfl h2) | omega | decide)) (fun _ => ?_); conv => whnf)
    (refine ⟨_, _, Blk.ld (hp.get (i := 1) rfl) TTok rfl rfl, ?_⟩; conv => whnf)
    (refine ⟨_, _, Blk.ld (hp.get (i := 0) rfl) TTok rfl rfl, ?_⟩; conv => whnf)
    (refine hKq _ _ _ (.refl _) ?_; clear hKq Kq; conv => whnf)
    (refine VSeq.mk fun Kq hKq => ?_; conv => whnf)
    (refine And.intro (fun h => absurd (of_decide_eq_true h) (by first | (intro h2; exact absurd rfl h2) | omega | decide)) (fun _ => ?_); conv => whnf)
    (refine ⟨_, _, Blk.ld (hp.get (i := 1) rfl) TTok rfl rfl, ?_⟩; conv => whnf)
    (refine ⟨_, _, Blk.ld (hp.get (i := 0) rfl) TTok rfl rfl, ?_⟩; conv => whnf)
    (refine hKq _ _ _ (.refl _) ?_; clear hKq Kq; conv => whnf)
    (refine And.intro (fun h => absurd (of_decide_eq_true h) (by first | (intro h2; exact absurd rfl h2) | omega | decide)) (fun _ => ?_); conv => whnf)
    (refine ⟨_, _, Blk.ld (hp.get (i := 1) rfl) TTok rfl rfl, ?_⟩; conv => whnf)
    (refine ⟨_, _, Blk.ld (hp.get (i := 0) rfl) TTok rfl rfl, ?_⟩; conv => whnf)
    (refine hKq _ _ _ (.refl _) ?_; clear hKq Kq; conv => whnf)
    (refine And.intro (fun h => absurd (of_decide_eq_true h) (by first | (intro h2; exact absurd rfl h2) | omega | decide)) (fun _ => ?_); conv => whnf)
    (refine hKq _ _ _ (.refl _) ?_; clear hKq Kq; conv => whnf)
    (refine VSeq.mk fun Kq hKq => ?_; conv => whnf)
    (refine VSeq.mk fun Kq hKq => ?_; conv => whnf)
    (refine hKq _ _ _ (.refl _) ?_; clear hKq Kq; conv => whnf)
    refine ⟨fun mm e w' => ∃ (i : Nat), mm + i = al.length ∧ e = [(2, .v (.pointer (some ⟨q, 0, none⟩))), (3, .v (.pointer (some ⟨q2, 0, none⟩))), (5, .v (.int .i64 i))] ∧ al.take i = bl.take i ∧ HpM [] W w' [blk q2 [.int .i64 c, .int .i64 m, .string id, .slice p2 bl.length cp2] 24, blk q [.int .i64 c, .int .i64 m, .string id, .slice p al.length cp] 24],
      ⟨al.length, _, ⟨0, by omega, rfl, rfl, hp⟩, sub_cons rfl (sub_cons rfl (sub_cons rfl sub_nil))⟩, ?_⟩
    clear hp hx
    repeat clear hp
    rintro mm _ w ⟨i, hmm, rfl, hall, hp⟩
    (refine VSeq.mk fun Kq hKq => ?_; conv => whnf)
    (refine VSeq.mk fun Kq hKq => ?_; conv => whnf)
    (refine ⟨_, _, Blk.ld (hp.get (i := 1) rfl) TTok rfl rfl, ?_⟩; conv => whnf)
    (refine hKq _ _ _ (.refl _) ?_; clear hKq Kq; conv => whnf)
    refine ⟨fun hlt => ?_, fun hlt => ?_⟩
    · have hlt := of_decide_eq_true hlt
      conv => whnf
      refine hKq _ _ _ (.refl _) ?_
      clear hKq Kq
      conv => whnf
      refine VSeq.mk fun Kq hKq => ?_
      conv => whnf
      refine VSeq.mk fun Kq hKq => ?_
      conv => whnf
      obtain ⟨a, hai⟩ : ∃ a, al[i]? = some a := ⟨al[i]'(by omega), List.getElem?_eq_getElem (by omega)⟩
      obtain ⟨b, hbi⟩ : ∃ b, bl[i]? = some b := ⟨bl[i]'(by omega), List.getElem?_eq_getElem (by omega)⟩
      have hA := ha a (List.mem_of_getElem? hai)
      have hB := hb b (List.mem_of_getElem? hbi)
      obtain ⟨g, off, rfl, -⟩ := (hv.ext hp.ext).at hai
      obtain ⟨g2, off2, rfl, -⟩ := (hu.ext hp.ext).at hbi
      have hld : ∀ w1, Ext w w1 → (Instr.loadAt 54 (.pointer (some ⟨g, addM off i 2, none⟩))).run Tryz.prog w1 = .ok (.agg #[.int .i64 a.1, .string a.2]) w1 := fun w1 hx => by
        obtain ⟨_, _, he, hl⟩ := (hv.ext (hp.ext.trans hx)).at hai
        simp only [Option.some.injEq, Addr.mk.injEq] at he
        obtain ⟨rfl, rfl, -⟩ := he
        exact hl
      have hld2 : ∀ w1, Ext w w1 → (Instr.loadAt 54 (.pointer (some ⟨g2, addM off2 i 2, none⟩))).run Tryz.prog w1 = .ok (.agg #[.int .i64 b.1, .string b.2]) w1 := fun w1 hx => by
        obtain ⟨_, _, he, hl⟩ := (hu.ext (hp.ext.trans hx)).at hbi
        simp only [Option.some.injEq, Addr.mk.injEq] at he
        obtain ⟨rfl, rfl, -⟩ := he
        exact hl
      refine v_mixA TTok FFok mixed [(0, false), (1, false), (2, false), (3, false), (4, false), (5, false), (6, false), (7, false), (8, false), (9, false), (10, false)] (by kernel_rfl) ?_
      conv => whnf
      (refine ⟨_, fun w' hx' => Blk.ld (Blk.ext (hp.get (i := 1) rfl) hx') TTok rfl rfl, ?_⟩; conv => whnf)
      (refine ⟨_, ⟨rfl, by omega⟩, ?_⟩; conv => whnf)
      refine ⟨_, hld, ?_⟩
      conv => whnf
      (refine ⟨_, fun w' hx' => Blk.ld (Blk.ext (hp.get (i := 0) rfl) hx') TTok rfl rfl, ?_⟩; conv => whnf)
      (refine ⟨_, ⟨rfl, by omega⟩, ?_⟩; conv => whnf)
      refine ⟨_, hld2, ?_⟩
      conv => whnf
      refine ⟨_, fun w1 _ => (at_eq w1 a b hA hB _ _).2, ?_⟩
      conv => whnf
      (intro w hx; try (have hp := hp.call hx); conv => whnf)
      (refine hKq _ _ _ (.refl _) ?_; clear hKq Kq; conv => whnf)
      refine ⟨fun hq => ?_, fun hq => ?_⟩
      · have hq : ¬ a = b := by simpa using hq
        have hF : sameB c m id al c m id bl = false := sameB_f fun h => hq (by have := h.2.2.2; subst this; rw [hai] at hbi; exact Option.some.inj hbi)
        rw [hF]
        (refine VSeq.mk fun Kq hKq => ?_; conv => whnf)
        (refine hKq _ _ _ (.refl _) ?_; clear hKq Kq; conv => whnf)
        (exact ⟨rfl, hp.ext⟩)
      · have hq : a = b := by simpa using hq
        subst hq
        conv => whnf
        refine hKq _ _ _ (.refl _) ?_
        clear hKq Kq
        conv => whnf
        refine Or.inl (And.intro (by omega) ?_)
        conv => whnf
        refine ⟨mm - 1, _, by omega, ⟨i + 1, by omega, rfl, by rw [List.take_add_one, List.take_add_one, hai, hbi, hall], hp⟩, sub_cons rfl (sub_cons rfl (sub_cons rfl sub_nil))⟩
    · have hlt := of_decide_eq_false hlt
      conv => whnf
      clear hKq Kq
      refine hKq _ _ _ (.refl _) ?_
      clear hKq Kq
      conv => whnf
      refine VSeq.mk fun Kq hKq => ?_
      conv => whnf
      refine hKq _ _ _ (.refl _) ?_
      clear hKq Kq
      conv => whnf
      obtain rfl : i = al.length := by omega
      have hF : al = bl := by
        rw [List.take_of_length_le (Nat.le_refl _), List.take_of_length_le (by omega)] at hall
        exact hall
      rw [sameB_t ⟨rfl, rfl, rfl, hF⟩]
      (exact ⟨rfl, hp.ext⟩)
  · rw [sameB_f fun h => hg ⟨h.1, h.2.1, h.2.2.1, by rw [h.2.2.2]⟩]
    refine v_reads (args := [.agg #[.int .i64 c, .int .i64 m, .string id, .slice p al.length cp], .agg #[.int .i64 c2, .int .i64 m2, .string id2, .slice p2 bl.length cp2]]) TTok FFok Tryz.func21 rfl rfl ?_
    conv => whnf
    refine VSeq.mk fun Kq hKq => ?_
    conv => whnf
    have hp := Hp.nil W
    refine hp.kboxA fun q w hp hx => ?_
    conv => whnf
    refine hp.kboxA fun q2 w hp hx => ?_
    conv => whnf
    refine hKq _ _ _ (.refl _) ?_
    clear hKq Kq
    conv => whnf
    refine VSeq.mk fun Kq hKq => ?_
    conv => whnf
    refine VSeq.mk fun Kq hKq => ?_
    conv => whnf
    refine VSeq.mk fun Kq hKq => ?_
    conv => whnf
    (refine ⟨_, _, Blk.ld (hp.get (i := 1) rfl) TTok rfl rfl, ?_⟩; conv => whnf)
    (refine ⟨_, _, Blk.ld (hp.get (i := 0) rfl) TTok rfl rfl, ?_⟩; conv => whnf)
    (refine hKq _ _ _ (.refl _) ?_; clear hKq Kq; conv => whnf)
    (refine VSeq.mk fun Kq hKq => ?_; conv => whnf)
    (refine ⟨fun hd => ?_, fun hd => ?_⟩ <;> (try simp only [Bool.not_eq_true', Bool.not_eq_false', decide_eq_true_eq, decide_eq_false_iff_not, ne_eq, Classical.not_not] at hd) <;> (conv => whnf))
    (refine hKq _ _ _ (.refl _) ?_; clear hKq Kq; conv => whnf)
    (refine VSeq.mk fun Kq hKq => ?_; conv => whnf)
    (refine hKq _ _ _ (.refl _) ?_; clear hKq Kq; conv => whnf)
    (refine hKq _ _ _ (.refl _) ?_; clear hKq Kq; conv => whnf)
    (refine VSeq.mk fun Kq hKq => ?_; conv => whnf)
    (refine hKq _ _ _ (.refl _) ?_; clear hKq Kq; conv => whnf)
    (exact ⟨rfl, hp.ext⟩)
    (refine ⟨_, _, Blk.ld (hp.get (i := 1) rfl) TTok rfl rfl, ?_⟩; conv => whnf)
    (refine ⟨_, _, Blk.ld (hp.get (i := 0) rfl) TTok rfl rfl, ?_⟩; conv => whnf)
    (refine hKq _ _ _ (.refl _) ?_; clear hKq Kq; conv => whnf)
    (refine VSeq.mk fun Kq hKq => ?_; conv => whnf)
    (refine ⟨fun hd => ?_, fun hd => ?_⟩ <;> (try simp only [Bool.not_eq_true', Bool.not_eq_false', decide_eq_true_eq, decide_eq_false_iff_not, ne_eq, Classical.not_not] at hd) <;> (conv => whnf))
    (refine hKq _ _ _ (.refl _) ?_; clear hKq Kq; conv => whnf)
    (refine hKq _ _ _ (.refl _) ?_; clear hKq Kq; conv => whnf)
    (refine VSeq.mk fun Kq hKq => ?_; conv => whnf)
    (refine hKq _ _ _ (.refl _) ?_; clear hKq Kq; conv => whnf)
    (exact ⟨rfl, hp.ext⟩)
    (refine ⟨_, _, Blk.ld (hp.get (i := 1) rfl) TTok rfl rfl, ?_⟩; conv => whnf)
    (refine ⟨_, _, Blk.ld (hp.get (i := 0) rfl) TTok rfl rfl, ?_⟩; conv => whnf)
    (refine hKq _ _ _ (.refl _) ?_; clear hKq Kq; conv => whnf)
    (refine ⟨fun hd => ?_, fun hd => ?_⟩ <;> (try simp only [Bool.not_eq_true', Bool.not_eq_false', decide_eq_true_eq, decide_eq_false_iff_not, ne_eq, Classical.not_not] at hd) <;> (conv => whnf))
    (refine hKq _ _ _ (.refl _) ?_; clear hKq Kq; conv => whnf)
    (refine VSeq.mk fun Kq hKq => ?_; conv => whnf)
    (refine hKq _ _ _ (.refl _) ?_; clear hKq Kq; conv => whnf)
    (exact ⟨rfl, hp.ext⟩)
    (refine ⟨_, _, Blk.ld (hp.get (i := 1) rfl) TTok rfl rfl, ?_⟩; conv => whnf)
    (refine ⟨_, _, Blk.ld (hp.get (i := 0) rfl) TTok rfl rfl, ?_⟩; conv => whnf)
    (refine hKq _ _ _ (.refl _) ?_; clear hKq Kq; conv => whnf)
    (refine ⟨fun hd => ?_, fun hd => ?_⟩ <;> (try simp only [Bool.not_eq_true', Bool.not_eq_false', decide_eq_true_eq, decide_eq_false_iff_not, ne_eq, Classical.not_not] at hd) <;> (conv => whnf))
    (refine VSeq.mk fun Kq hKq => ?_; conv => whnf)
    (refine hKq _ _ _ (.refl _) ?_; clear hKq Kq; conv => whnf)
    (exact ⟨rfl, hp.ext⟩)
    (refine hKq _ _ _ (.refl _) ?_; clear hKq Kq; conv => whnf)
    (refine VSeq.mk fun Kq hKq => ?_; conv => whnf)
    (refine VSeq.mk fun Kq hKq => ?_; conv => whnf)
    (refine hKq _ _ _ (.refl _) ?_; clear hKq Kq; conv => whnf)
    exact absurd ⟨by assumption, by assumption, by assumption, by omega⟩ hg
set_option maxHeartbeats 6400000
def knL : List Int := [1, 6, 8, 9, 10, 12, 13, 18, 19, 20, 21, 22, 25, 32, 36, 37]
def knV : List Value := knL.map (Value.int .i64)
def kvS (l : List Int) : List (Int × Value) := l.map fun k => (k, .bool true)
theorem kv_find (l : List Int) (k : Int) : (kvS l).find? (fun p => decide (p.1 = k)) = if l.contains k then some (k, .bool true) else none := by
  induction l with
  | nil => rfl
  | cons x l ih =>
    unfold kvS at ih ⊢
    rw [List.map_cons, List.find?_cons]
    by_cases h : x = k
    · subst h
      simp
    · have h2 : ¬ k = x := fun e => h e.symm
      simp only [decide_eq_false h]
      rw [ih]
      simp [List.contains_cons, h2]
theorem kvS_snoc (l : List Int) (k : Int) : kvS l ++ [(k, .bool true)] = kvS (l ++ [k]) := by unfold kvS; rw [List.map_append]; rfl
theorem t_kmap : Tryz.prog.underlying 136 = some (.map 3 4) := by kernel_rfl
theorem t_kint : Tryz.prog.underlying 3 = some (.int .i64) := by kernel_rfl
theorem z_kbool (w : World) : (zeroValue 4).run Tryz.prog w = .ok (.bool false) w := by kernel_rfl
theorem kn_take (i : Nat) (h : i < 16) : ((knL.take i).contains (knL.getD i 0)) = false := by
  have : i = 0 ∨ i = 1 ∨ i = 2 ∨ i = 3 ∨ i = 4 ∨ i = 5 ∨ i = 6 ∨ i = 7 ∨ i = 8 ∨ i = 9 ∨ i = 10 ∨ i = 11 ∨ i = 12 ∨ i = 13 ∨ i = 14 ∨ i = 15 := by omega
  rcases this with rfl | rfl | rfl | rfl | rfl | rfl | rfl | rfl | rfl | rfl | rfl | rfl | rfl | rfl | rfl | rfl <;> rfl
theorem kn_snoc (i : Nat) (h : i < 16) : knL.take i ++ [knL.getD i 0] = knL.take (i + 1) := by
  rw [List.take_add_one, List.getD_eq_getElem?_getD, List.getElem?_eq_getElem (show i < knL.length from h)]; rfl
theorem kn_get (i : Nat) (h : i < 16) : knV[i]? = some (.int .i64 (knL.getD i 0)) := by
  unfold knV
  rw [List.getElem?_map, List.getD_eq_getElem?_getD, List.getElem?_eq_getElem (show i < knL.length from h)]; rfl
theorem known_c {W : World} : Calls Tryz.prog 76 #[] W fun e w' => ∃ u, e = .returned u ∧ ∃ b, u = .map (some b) ∧ HpM [] W w' [mp b (kvS knL)] := by
  refine v_fn (args := []) TTok FFok (f := 76) rfl rfl (Nat.le_of_ble_eq_true rfl) ?_
  conv => whnf
  refine VSeq.mk fun Kq hKq => ?_
  conv => whnf
  refine hKq _ _ _ (.refl _) ?_
  clear hKq Kq
  conv => whnf
  refine VSeq.mk fun Kq hKq => ?_
  conv => whnf
  have hp := Hp.nil W
  refine hp.kmap fun b w1 hp hx => ?_
  conv => whnf
  refine hKq _ _ _ (.refl _) ?_
  clear hKq Kq
  conv => whnf
  refine VSeq.mk fun Kq hKq => ?_
  conv => whnf
  refine VSeq.mk fun Kq hKq => ?_
  conv => whnf
  refine hp.kmade (knV) 3 (fun b => .slice (some ⟨b, 0, none⟩) 16 16) (by kernel_rfl) fun tb w hp hx => ?_
  conv => whnf
  refine hKq _ _ _ (.refl _) ?_
  clear hKq Kq
  conv => whnf
  refine ⟨fun mm e w' => ∃ (i : Nat), mm + i = 16 ∧ e = [(1, .v (.map (some b))), (5, .v (.slice (some ⟨tb, 0, none⟩) 16 16)), (6, .v (.int .i64 16)), (7, .v (.int .i64 i))] ∧ HpM [] W w' [blk tb knV 3, mp b (kvS (knL.take i))],
    ⟨16, _, ⟨0, by omega, rfl, hp⟩, sub_cons rfl (sub_cons rfl (sub_cons rfl (sub_cons rfl sub_nil)))⟩, ?_⟩
  clear hp hx
  repeat clear hp
  rintro mm _ w ⟨i, hmm, rfl, hp⟩
  conv => whnf
  refine VSeq.mk fun Kq hKq => ?_
  conv => whnf
  refine hKq _ _ _ (.refl _) ?_
  clear hKq Kq
  conv => whnf
  refine VSeq.mk fun Kq hKq => ?_
  conv => whnf
  refine ⟨fun hlt => ?_, fun hlt => ?_⟩
  · have hlt := of_decide_eq_true hlt
    conv => whnf
    refine hKq _ _ _ (.refl _) ?_
    clear hKq Kq
    conv => whnf
    refine VSeq.mk fun Kq hKq => ?_
    conv => whnf
    refine VSeq.mk fun Kq hKq => ?_
    conv => whnf
    have hi : i < 16 := by omega
    refine ⟨i, ⟨by first | rfl | omega, by omega⟩, ?_⟩
    conv => whnf
    refine ⟨_, _, Blk.ld (hp.get (i := 0) rfl) TTok rfl (kn_get i hi), ?_⟩
    conv => whnf
    refine hKq _ _ _ (.refl _) ?_
    clear hKq Kq
    conv => whnf
    refine hp.kins t_kmap t_kint 1 rfl (by rw [kv_find, kn_take i hi]; rfl) fun w hp => ?_
    have hp : HpM [] W w [blk tb knV 3, mp b (kvS (knL.take i) ++ [(knL.getD i 0, .bool true)])] := hp
    rw [kvS_snoc, kn_snoc i hi] at hp
    conv => whnf
    refine hKq _ _ _ (.refl _) ?_
    clear hKq Kq
    conv => whnf
    refine Or.inl (And.intro (by omega) ?_)
    conv => whnf
    exact ⟨mm - 1, _, by omega, ⟨i + 1, by omega, rfl, hp⟩, sub_cons rfl (sub_cons rfl (sub_cons rfl (sub_cons rfl sub_nil)))⟩
  · have hlt := of_decide_eq_false hlt
    conv => whnf
    clear hKq Kq
    refine hKq _ _ _ (.refl _) ?_
    clear hKq Kq
    conv => whnf
    refine VSeq.mk fun Kq hKq => ?_
    conv => whnf
    refine hKq _ _ _ (.refl _) ?_
    clear hKq Kq
    conv => whnf
    obtain rfl : i = 16 := by omega
    conv => whnf
    exact ⟨b, rfl, hp.tail⟩
theorem MPs.lookB {w : World} {b : Nat} {l : List Int} (h : MPs w b (kvS l)) (k : Int) : (Instr.lookup 136 (.map (some b)) (.int .i64 k) false).run Tryz.prog w = .ok (.bool (l.contains k)) w := by
  rw [h.look t_kmap t_kint (z_kbool w) k false, kv_find]
  cases l.contains k <;> rfl
/-- the kinds that are told as not known -/
def unC (out : List Int) (k : Int) : Bool := decide (k < 32768) && !((knL ++ out).contains k)
def unS (out : List Int) (a : At2) : List Int := if unC out a.1 = true then out ++ [a.1] else out
def unL (al : List At2) : List Int := al.foldl unS []
theorem unL_snoc (l : List At2) (a : At2) : unL (l ++ [a]) = unS (unL l) a := by unfold unL; rw [List.foldl_append]; rfl
theorem unS_len (out : List Int) (a : At2) : (unS out a).length ≤ out.length + 1 := by unfold unS; split <;> simp
theorem unL_len (l : List At2) : (unL l).length ≤ l.length := by
  suffices h : ∀ (l : List At2) (o : List Int), (l.foldl unS o).length ≤ o.length + l.length by have := h l []; simpa [unL] using this
  intro l
  induction l with
  | nil => intro o; simp
  | cons a l ih => intro o; have := ih (unS o a); have := unS_len o a; rw [List.foldl_cons, List.length_cons]; omega
theorem unL_take {al : List At2} {i : Nat} {a : At2} (h : al[i]? = some a) : unL (al.take (i + 1)) = unS (unL (al.take i)) a := by
  rw [List.take_add_one, h]; exact unL_snoc _ _
theorem Unknown_ok {W : World} {v : Value} {al : List At2} (c m : Int) (id : ByteArray) (hv : SA W v al) (hb : stunB c m id al = true) :
    Calls Tryz.prog 22 #[.agg #[.int .i64 c, .int .i64 m, .string id, v]] W fun e w' => ∃ u, e = .returned u ∧ ∃ v', u = .tuple #[v', .int .i64 0] ∧ HpM [] W w' [row 3 1 v' (unL al).length ((unL al).map (.int .i64))] := by
  obtain ⟨b1, b2, b3, b4, b5, b6, b7, b8⟩ := stunB_t hb
  obtain ⟨p, cp, rfl⟩ := hv.shape
  refine v_fn (args := [.agg #[.int .i64 c, .int .i64 m, .string id, .slice p al.length cp]]) TTok FFok (f := 22) rfl rfl (Nat.le_of_ble_eq_true rfl) ?_
  conv => whnf
  refine VSeq.mk fun Kq hKq => ?_
  conv => whnf
  have hp := Hp.nil W
  have hck := fun (w : World) (hx : Ext W w) => Check_c c m id (hv.ext hx)
  have hN : chkN c m id al = 0 := by unfold chkN; rw [hb]; rfl
  rw [hN] at hck
  refine hp.kboxA fun qs w hp hx => ?_
  conv => whnf
  refine hKq _ _ _ (.refl _) ?_
  clear hKq Kq
  conv => whnf
  refine VSeq.mk fun Kq hKq => ?_
  conv => whnf
  refine VSeq.mk fun Kq hKq => ?_
  conv => whnf
  (refine ⟨_, _, Blk.ldV (vs := [_, _, _, _]) (hp.get (i := 0) rfl) TTok rfl rfl rfl, ?_⟩; conv => whnf)
  refine V.CallsUse (hck _ hp.ext) fun w hx => ?_
  try (have hp := hp.call hx)
  conv => whnf
  refine hKq _ _ _ (.refl _) ?_
  clear hKq Kq
  conv => whnf
  refine VSeq.mk fun Kq hKq => ?_
  conv => whnf
  refine hKq _ _ _ (.refl _) ?_
  clear hKq Kq
  conv => whnf
  clear hck
  (refine And.intro (fun h => absurd (of_decide_eq_true h) (by first | (intro h2; exact absurd rfl h2) | omega | decide)) (fun _ => ?_); conv => whnf)
  (refine hKq _ _ _ (.refl _) ?_; clear hKq Kq; conv => whnf)
  (refine VSeq.mk fun Kq hKq => ?_; conv => whnf)
  refine Calls.mono known_c ?_
  rintro _ w ⟨_, rfl, b, rfl, hk⟩
  refine ⟨_, rfl, ?_⟩
  have hp := hp.join hk
  clear hk
  simp only [List.cons_append, List.nil_append] at hp
  conv => whnf
  have hp := hp.knil 3 1
  (refine hKq _ _ _ (.refl _) ?_; clear hKq Kq; conv => whnf)
  (refine VSeq.mk fun Kq hKq => ?_; conv => whnf)
  (refine hKq _ _ _ (.refl _) ?_; clear hKq Kq; conv => whnf)
  (refine VSeq.mk fun Kq hKq => ?_; conv => whnf)
  (refine VSeq.mk fun Kq hKq => ?_; conv => whnf)
  (refine ⟨_, _, Blk.ld (hp.get (i := 2) rfl) TTok rfl rfl, ?_⟩; conv => whnf)
  (refine hKq _ _ _ (.refl _) ?_; clear hKq Kq; conv => whnf)
  have hp : HpM [] W w [row 3 1 (.slice none 0 0) 0 [], mp b (kvS (knL ++ [])), blk qs [.int .i64 c, .int .i64 m, .string id, .slice p al.length cp] 24] := by rw [List.append_nil]; exact hp
  refine ⟨fun mm e w' => ∃ (i : Nat) (u : Value), mm + i = al.length ∧ e = [(5, .v (.map (some b))), (6, .v u), (16, .v (.slice p al.length cp)), (17, .v (.int .i64 al.length)), (18, .v (.int .i64 i))] ∧ HpM [] W w' [row 3 1 u (unL (al.take i)).length ((unL (al.take i)).map (.int .i64)), mp b (kvS (knL ++ unL (al.take i))), blk qs [.int .i64 c, .int .i64 m, .string id, .slice p al.length cp] 24],
    ⟨al.length, _, ⟨0, _, by omega, rfl, hp⟩, sub_cons rfl (sub_cons rfl (sub_cons rfl (sub_cons rfl (sub_cons rfl sub_nil))))⟩, ?_⟩
  clear hp hx
  repeat clear hp
  rintro mm _ w ⟨i, u, hmm, rfl, hp⟩
  have hol := unL_len (al.take i)
  have htl : (al.take i).length ≤ al.length := by rw [List.length_take]; omega
  conv => whnf
  refine VSeq.mk fun Kq hKq => ?_
  conv => whnf
  refine hKq _ _ _ (.refl _) ?_
  clear hKq Kq
  conv => whnf
  refine VSeq.mk fun Kq hKq => ?_
  conv => whnf
  refine ⟨fun hlt => ?_, fun hlt => ?_⟩
  · have hlt := of_decide_eq_true hlt
    conv => whnf
    refine hKq _ _ _ (.refl _) ?_
    clear hKq Kq
    conv => whnf
    refine VSeq.mk fun Kq hKq => ?_
    conv => whnf
    refine VSeq.mk fun Kq hKq => ?_
    conv => whnf
    obtain ⟨a, ha⟩ : ∃ a, al[i]? = some a := ⟨al[i]'(by omega), List.getElem?_eq_getElem (by omega)⟩
    have hst := unL_take ha
    obtain ⟨g, off, rfl, hld⟩ := (hv.ext hp.ext).at ha
    obtain ⟨k, s⟩ := a
    dsimp only at hld
    generalize unL (al.take i) = out at *
    refine ⟨i, ⟨by first | rfl | omega, by show i < al.length; omega⟩, ?_⟩
    conv => whnf
    refine ⟨_, _, hld, ?_⟩
    conv => whnf
    refine hp.kalloc z54 fun a8 w hp hx => ?_
    conv => whnf
    (refine hp.kstA TTok rfl 0 rfl rfl (oneC_of rfl) (by rfl) fun w hp => ?_; try simp only [List.set_cons_zero, List.set_cons_succ, EV.val] at hp; conv => whnf)
    (refine hKq _ _ _ (.refl _) ?_; clear hKq Kq; conv => whnf)
    (refine VSeq.mk fun Kq hKq => ?_; conv => whnf)
    (refine VSeq.mk fun Kq hKq => ?_; conv => whnf)
    (refine ⟨_, _, Blk.ld (hp.get (i := 0) rfl) TTok rfl rfl, ?_⟩; conv => whnf)
    (refine hKq _ _ _ (.refl _) ?_; clear hKq Kq; conv => whnf)
    by_cases h1 : k < 32768
    · (refine And.intro (fun _ => ?_) (fun h => absurd (by first | rfl | assumption | omega | decide) (of_decide_eq_false h)); conv => whnf)
      (refine ⟨_, _, Blk.ld (hp.get (i := 0) rfl) TTok rfl rfl, ?_⟩; conv => whnf)
      refine ⟨_, _, MPs.lookB (hp.get (i := 2) rfl) k, ?_⟩
      conv => whnf
      refine hKq _ _ _ (.refl _) ?_
      clear hKq Kq
      conv => whnf
      cases hc : (knL ++ out).contains k with
      | true =>
        have hS : unS out (k, s) = out := by unfold unS unC; rw [hc]; simp
        rw [hS] at hst
        (refine And.intro (fun h => absurd h (by decide)) (fun _ => ?_); conv => whnf)
        (refine hKq _ _ _ (.refl _) ?_; clear hKq Kq; conv => whnf)
        (refine Or.inl (And.intro (by first | omega | decide) ?_); conv => whnf)
        refine ⟨mm - 1, _, by omega, ⟨i + 1, _, by omega, rfl, ?_⟩, sub_cons rfl (sub_cons rfl (sub_cons rfl (sub_cons rfl (sub_cons rfl sub_nil))))⟩
        rw [hst]; exact hp.tail
      | false =>
        have hS : unS out (k, s) = out ++ [k] := by unfold unS unC; rw [hc]; simp [h1]
        rw [hS] at hst
        (refine And.intro (fun _ => ?_) (fun h => absurd h (by decide)); conv => whnf)
        (refine VSeq.mk fun Kq hKq => ?_; conv => whnf)
        (refine ⟨_, _, Blk.ld (hp.get (i := 0) rfl) TTok rfl rfl, ?_⟩; conv => whnf)
        (refine hp.kmade _ _ (fun b => .slice (some ⟨b, 0, none⟩) 1 1) (mks48_1_0 _ _) fun q w hp hx => ?_; conv => whnf)
        refine hp.kapp sl48 2 rfl (Blk.src TTok (hp.get (i := 0) rfl) rfl rfl (oneC_of rfl)) (by show (_ + 1) * 8 ≤ _; omega) (by show _ + 1 ≤ _; unfold maxLen; omega) fun u' w hp => ?_
        simp only [List.set_cons_zero, List.set_cons_succ] at hp
        conv => whnf
        refine hKq _ _ _ (.refl _) ?_
        clear hKq Kq
        conv => whnf
        (refine ⟨_, _, Blk.ld (hp.get (i := 1) rfl) TTok rfl rfl, ?_⟩; conv => whnf)
        refine hp.kins t_kmap t_kint 3 rfl (by rw [kv_find, hc]; rfl) fun w hp => ?_
        have hp := hp.pick [2, 3, 4] (by decide)
        simp only [List.filterMap_cons, List.filterMap_nil, List.getElem?_cons_zero, List.getElem?_cons_succ, List.set_cons_zero, List.set_cons_succ] at hp
        have hp : HpM [] W w [row 3 1 u' (out.length + 1) (out.map (.int .i64) ++ [.int .i64 k]), mp b (kvS (knL ++ out) ++ [(k, .bool true)]), blk qs [.int .i64 c, .int .i64 m, .string id, .slice (some ⟨g, off, none⟩) al.length cp] 24] := hp
        rw [kvS_snoc, List.append_assoc] at hp
        conv => whnf
        refine hKq _ _ _ (.refl _) ?_
        clear hKq Kq
        conv => whnf
        refine Or.inl (And.intro (by omega) ?_)
        conv => whnf
        skip
        refine ⟨mm - 1, _, by omega, ⟨i + 1, _, by omega, rfl, ?_⟩, sub_cons rfl (sub_cons rfl (sub_cons rfl (sub_cons rfl (sub_cons rfl sub_nil))))⟩
        rw [hst, List.length_append, List.map_append]; exact hp
    · have hS : unS out (k, s) = out := by unfold unS unC; simp [h1]
      rw [hS] at hst
      (refine And.intro (fun h => absurd (of_decide_eq_true h) (by first | (intro h2; exact absurd rfl h2) | omega | decide)) (fun _ => ?_); conv => whnf)
      (refine hKq _ _ _ (.refl _) ?_; clear hKq Kq; conv => whnf)
      (refine hKq _ _ _ (.refl _) ?_; clear hKq Kq; conv => whnf)
      (refine Or.inl (And.intro (by first | omega | decide) ?_); conv => whnf)
      refine ⟨mm - 1, _, by omega, ⟨i + 1, _, by omega, rfl, ?_⟩, sub_cons rfl (sub_cons rfl (sub_cons rfl (sub_cons rfl (sub_cons rfl sub_nil))))⟩
      rw [hst]; exact hp.tail
  · have hlt := of_decide_eq_false hlt
    conv => whnf
    clear hKq Kq
    refine hKq _ _ _ (.refl _) ?_
    clear hKq Kq
    conv => whnf
    refine VSeq.mk fun Kq hKq => ?_
    conv => whnf
    refine hKq _ _ _ (.refl _) ?_
    clear hKq Kq
    conv => whnf
    obtain rfl : i = al.length := by omega
    rw [List.take_of_length_le (Nat.le_refl _)] at hp
    skip
    exact ⟨_, rfl, hp.sub (List.Sublist.cons_cons _ (List.nil_sublist _))⟩
set_option maxHeartbeats 6400000
theorem ints8_c {W : World} {v u : Value} (xs ys : List Int) (hv : SLv W v (xs.map (.int .i64))) (hu : SLv W u (ys.map (.int .i64))) (hx : xs.length ≤ 100000) (hy : ys.length ≤ 100000) :
    Calls Tryz.prog 23 #[v, u] W fun e w' => e = .returned (.bool (decide (xs = ys))) ∧ Ext W w' := by
  obtain ⟨p, c, rfl⟩ := hv.shape
  obtain ⟨p2, c2, rfl⟩ := hu.shape
  rw [List.length_map] at hv hu ⊢
  rw [List.length_map]
  refine v_reads (args := [.slice p xs.length c, .slice p2 ys.length c2]) TTok FFok Tryz.func23 rfl rfl ?_
  conv => whnf
  refine VSeq.mk fun Kq hKq => ?_
  conv => whnf
  refine hKq _ _ _ (.refl _) ?_
  clear hKq Kq
  conv => whnf
  refine VSeq.mk fun Kq hKq => ?_
  conv => whnf
  refine VSeq.mk fun Kq hKq => ?_
  conv => whnf
  refine hKq _ _ _ (.refl _) ?_
  clear hKq Kq
  conv => whnf
  by_cases hl : xs.length = ys.length
  · (refine And.intro (fun h => absurd (of_decide_eq_true h) (by first | (intro h2; exact absurd rfl h2) | omega | decide)) (fun _ => ?_); conv => whnf)
    (refine hKq _ _ _ (.refl _) ?_; clear hKq Kq; conv => whnf)
    (refine VSeq.mk fun Kq hKq => ?_; conv => whnf)
    (refine VSeq.mk fun Kq hKq => ?_; conv => whnf)
    (refine hKq _ _ _ (.refl _) ?_; clear hKq Kq; conv => whnf)
    refine ⟨fun mm e w' => ∃ (i : Nat), mm + i = xs.length ∧ e = [(0, .v (.slice p xs.length c)), (1, .v (.slice p2 ys.length c2)), (5, .v (.int .i64 i))] ∧ xs.take i = ys.take i ∧ Ext W w',
      ⟨xs.length, _, ⟨0, by omega, rfl, rfl, Ext.refl _⟩, sub_cons rfl (sub_cons rfl (sub_cons rfl sub_nil))⟩, ?_⟩
    rintro mm _ w ⟨i, hmm, rfl, hall, hxw⟩
    conv => whnf
    refine VSeq.mk fun Kq hKq => ?_
    conv => whnf
    refine VSeq.mk fun Kq hKq => ?_
    conv => whnf
    refine hKq _ _ _ (.refl _) ?_
    clear hKq Kq
    conv => whnf
    refine ⟨fun hlt => ?_, fun hlt => ?_⟩
    · have hlt := of_decide_eq_true hlt
      conv => whnf
      refine hKq _ _ _ (.refl _) ?_
      clear hKq Kq
      conv => whnf
      refine VSeq.mk fun Kq hKq => ?_
      conv => whnf
      refine VSeq.mk fun Kq hKq => ?_
      conv => whnf
      obtain ⟨a, ha⟩ : ∃ a, xs[i]? = some a := ⟨xs[i]'(by omega), List.getElem?_eq_getElem (by omega)⟩
      obtain ⟨b, hb⟩ : ∃ b, ys[i]? = some b := ⟨ys[i]'(by omega), List.getElem?_eq_getElem (by omega)⟩
      obtain ⟨g, off, rfl, hld⟩ := (hv.ext hxw).at (j := i) (x := .int .i64 a) (by rw [List.getElem?_map, ha]; rfl)
      obtain ⟨g2, off2, rfl, hld2⟩ := (hu.ext hxw).at (j := i) (x := .int .i64 b) (by rw [List.getElem?_map, hb]; rfl)
      rw [Nat.add_comm] at hld hld2
      refine v_mixA TTok FFok mixed [(0, false), (1, false), (2, false), (3, false), (4, false), (5, false), (6, false), (7, false), (8, false)] (by kernel_rfl) ?_
      conv => whnf
      refine ⟨i, ⟨by first | rfl | omega, by show i < xs.length; omega⟩, ?_⟩
      conv => whnf
      refine ⟨_, fun w' hx' => run_ld TTok rfl (hx'.cell hld), ?_⟩
      conv => whnf
      refine ⟨i, ⟨by first | rfl | omega, by show i < ys.length; omega⟩, ?_⟩
      conv => whnf
      refine ⟨_, fun w' hx' => run_ld TTok rfl (hx'.cell hld2), ?_⟩
      conv => whnf
      intro w hx
      try (have hp := hp.call hx)
      conv => whnf
      refine hKq _ _ _ (.refl _) ?_
      clear hKq Kq
      conv => whnf
      refine ⟨fun hq => ?_, fun hq => ?_⟩
      · have hq : ¬ a = b := by simpa using hq
        have hF : decide (xs = ys) = false := decide_eq_false fun h => hq (by subst h; rw [ha] at hb; exact Option.some.inj hb)
        conv => whnf
        refine VSeq.mk fun Kq hKq => ?_
        conv => whnf
        refine hKq _ _ _ (.refl _) ?_
        clear hKq Kq
        conv => whnf
        exact ⟨by rw [hF]; rfl, hxw.trans hx⟩
      · have hq : a = b := by simpa using hq
        subst hq
        conv => whnf
        refine hKq _ _ _ (.refl _) ?_
        clear hKq Kq
        conv => whnf
        refine Or.inl (And.intro (by omega) ?_)
        conv => whnf
        exact ⟨mm - 1, _, by omega, ⟨i + 1, by omega, rfl, by rw [List.take_add_one, List.take_add_one, ha, hb, hall], hxw.trans hx⟩, sub_cons rfl (sub_cons rfl (sub_cons rfl sub_nil))⟩
    · have hlt := of_decide_eq_false hlt
      conv => whnf
      clear hKq Kq
      refine hKq _ _ _ (.refl _) ?_
      clear hKq Kq
      conv => whnf
      refine VSeq.mk fun Kq hKq => ?_
      conv => whnf
      refine hKq _ _ _ (.refl _) ?_
      clear hKq Kq
      conv => whnf
      obtain rfl : i = xs.length := by omega
      have hF : decide (xs = ys) = true := decide_eq_true (by
        rw [List.take_of_length_le (Nat.le_refl _), List.take_of_length_le (by omega)] at hall
        exact hall)
      conv => whnf
      exact ⟨by rw [hF]; rfl, hxw⟩
  · have hF : decide (xs = ys) = false := decide_eq_false fun h => hl (by rw [h])
    (refine And.intro (fun _ => ?_) (fun h => absurd (by first | rfl | assumption | omega | decide) (of_decide_eq_false h)); conv => whnf)
    (refine VSeq.mk fun Kq hKq => ?_; conv => whnf)
    (refine hKq _ _ _ (.refl _) ?_; clear hKq Kq; conv => whnf)
    exact ⟨by rw [hF]; rfl, Ext.refl _⟩
set_option maxHeartbeats 6400000
set_option maxHeartbeats 6400000
def idC : ByteArray := ⟨#[0, 1, 2, 3, 4, 5, 6, 7, 8, 9, 10, 11]⟩
theorem chapter_p : PureF Tryz.prog 55 #[] (.agg #[.int .i64 0, .int .i64 1, .string idC, .slice none 0 0]) := by
  first | refine v_pure TTok FFok Tryz.func55 rfl rfl fun w0 => ?_ | refine v_pure (args := []) TTok FFok Tryz.func55 rfl rfl fun w0 => ?_
  conv => whnf
  refine VSeq.mk fun Kq hKq => ?_
  conv => whnf
  have hp := Hp.nil w0
  (refine hp.kalloc z24 fun al24 w hp hx => ?_; conv => whnf)
  (refine hKq _ _ _ (.refl _) ?_; clear hKq Kq; conv => whnf)
  (refine VSeq.mk fun Kq hKq => ?_; conv => whnf)
  (refine ⟨_, _, bld24_1_2 _ _ _, ?_⟩; conv => whnf)
  (refine hp.kstA TTok rfl 0 rfl rfl (oneC_of rfl) (by rfl) fun w hp => ?_; try simp only [List.set_cons_zero, List.set_cons_succ, EV.val] at hp; conv => whnf)
  (refine hKq _ _ _ (.refl _) ?_; clear hKq Kq; conv => whnf)
  (refine ⟨_, Blk.lvN (hp.get (i := 0) rfl) TTok rfl rfl, ?_⟩; conv => whnf)
  exact ⟨rfl, hp.ext⟩
theorem is_c {M : List Nat} {w0 w : World} {H : List It} (hp : HpM M w0 w H) (s : ByteArray) :
    Calls Tryz.prog 61 #[.string s] w fun e w' => ∃ v, e = .returned v ∧ ∃ b, v = .func (.func 111) #[] #[.pointer (some ⟨b, 0, none⟩)] ∧ HpM M w0 w' (blk b [.string s] 9 :: H) ∧ Ext w w' := by
  refine v_fn (args := [.string s]) TTok FFok (f := 61) rfl rfl (Nat.le_of_ble_eq_true rfl) ?_
  conv => whnf
  refine VSeq.mk fun Kq hKq => ?_
  conv => whnf
  refine hp.kbox [.string s] rfl fun b w1 hp hx1 => ?_
  conv => whnf
  refine hKq _ _ _ (.refl _) ?_
  clear hKq Kq
  conv => whnf
  refine VSeq.mk fun Kq hKq => ?_
  conv => whnf
  refine hKq _ _ _ (.refl _) ?_
  clear hKq Kq
  conv => whnf
  exact ⟨b, rfl, hp, hx1⟩
theorem fails_c {M : List Nat} {w0 w : World} {H : List It} (hp : HpM M w0 w H) (n : Int) :
    Calls Tryz.prog 58 #[.int .i64 n] w fun e w' => ∃ v, e = .returned v ∧ ∃ b, v = .func (.func 109) #[] #[.pointer (some ⟨b, 0, none⟩)] ∧ HpM M w0 w' (blk b [.int .i64 n] 36 :: H) ∧ Ext w w' := by
  refine v_fn (args := [.int .i64 n]) TTok FFok (f := 58) rfl rfl (Nat.le_of_ble_eq_true rfl) ?_
  conv => whnf
  refine VSeq.mk fun Kq hKq => ?_
  conv => whnf
  refine hp.kbox [.int .i64 n] rfl fun b w1 hp hx1 => ?_
  conv => whnf
  refine hKq _ _ _ (.refl _) ?_
  clear hKq Kq
  conv => whnf
  refine VSeq.mk fun Kq hKq => ?_
  conv => whnf
  refine hKq _ _ _ (.refl _) ?_
  clear hKq Kq
  conv => whnf
  exact ⟨b, rfl, hp, hx1⟩
theorem refuses_c {M : List Nat} {w0 w : World} {H : List It} (hp : HpM M w0 w H) (n : Int) :
    Calls Tryz.prog 46 #[.int .i64 n] w fun e w' => ∃ v, e = .returned v ∧ ∃ b, v = .func (.func 98) #[] #[.pointer (some ⟨b, 0, none⟩)] ∧ HpM M w0 w' (blk b [.int .i64 n] 36 :: H) ∧ Ext w w' := by
  refine v_fn (args := [.int .i64 n]) TTok FFok (f := 46) rfl rfl (Nat.le_of_ble_eq_true rfl) ?_
  conv => whnf
  refine VSeq.mk fun Kq hKq => ?_
  conv => whnf
  refine hp.kbox [.int .i64 n] rfl fun b w1 hp hx1 => ?_
  conv => whnf
  refine hKq _ _ _ (.refl _) ?_
  clear hKq Kq
  conv => whnf
  refine VSeq.mk fun Kq hKq => ?_
  conv => whnf
  refine hKq _ _ _ (.refl _) ?_
  clear hKq Kq
  conv => whnf
  exact ⟨b, rfl, hp, hx1⟩
theorem gives_c {M : List Nat} {w0 w : World} {H : List It} (hp : HpM M w0 w H) (c m : Int) (id : ByteArray) (sv : Value) :
    Calls Tryz.prog 28 #[.agg #[.int .i64 c, .int .i64 m, .string id, sv]] w fun e w' => ∃ v, e = .returned v ∧ ∃ b, v = .func (.func 80) #[] #[.pointer (some ⟨b, 0, none⟩)] ∧ HpM M w0 w' (blk b [.int .i64 c, .int .i64 m, .string id, sv] 24 :: H) ∧ Ext w w' := by
  refine v_fn (args := [.agg #[.int .i64 c, .int .i64 m, .string id, sv]]) TTok FFok (f := 28) rfl rfl (Nat.le_of_ble_eq_true rfl) ?_
  conv => whnf
  refine VSeq.mk fun Kq hKq => ?_
  conv => whnf
  refine hp.kbox [.int .i64 c, .int .i64 m, .string id, sv] rfl fun b w1 hp hx1 => ?_
  conv => whnf
  refine hKq _ _ _ (.refl _) ?_
  clear hKq Kq
  conv => whnf
  refine VSeq.mk fun Kq hKq => ?_
  conv => whnf
  refine hKq _ _ _ (.refl _) ?_
  clear hKq Kq
  conv => whnf
  exact ⟨b, rfl, hp, hx1⟩
theorem fails_in {w : World} {b : Nat} {n : Int} (hb : Blk w b [.int .i64 n] 36) :
    Calls Tryz.prog 109 #[.string ⟨#[]⟩, .int .i64 n, .pointer (some ⟨b, 0, none⟩)] w fun e w' => e = .returned (.bool true) ∧ Ext w w' := by
  refine v_reads TTok FFok Tryz.func109 rfl rfl ?_
  conv => whnf
  refine VSeq.mk fun Kq hKq => ?_
  conv => whnf
  refine hKq _ _ _ (.refl _) ?_
  clear hKq Kq
  conv => whnf
  refine VSeq.mk fun Kq hKq => ?_
  conv => whnf
  refine VSeq.mk fun Kq hKq => ?_
  conv => whnf
  refine hKq _ _ _ (.refl _) ?_
  clear hKq Kq
  conv => whnf
  refine And.intro (fun _ => ?_) (fun h => absurd (rfl) (of_decide_eq_false h))
  conv => whnf
  refine ⟨_, _, Blk.ld (hb) TTok rfl (rfl), ?_⟩
  conv => whnf
  refine hKq _ _ _ (.refl _) ?_
  clear hKq Kq
  conv => whnf
  refine ⟨?_, Ext.refl _⟩
  exact congrArg Value.bool (decide_eq_true rfl)
theorem is_in {w : World} {b : Nat} {s : ByteArray} (x : ByteArray) (hx : (⟨(hexL x.data.toList).toArray⟩ : ByteArray) = s) (hs : x.size ≤ 100) (hb : Blk w b [.string s] 9) :
    Calls Tryz.prog 111 #[.string x, .int .i64 0, .pointer (some ⟨b, 0, none⟩)] w fun e w' => e = .returned (.bool true) ∧ Ext w w' := by
  have hh := Hex_p x (by omega)
  rw [hx] at hh
  refine v_reads TTok FFok Tryz.func111 rfl rfl ?_
  conv => whnf
  refine VSeq.mk fun Kq hKq => ?_
  conv => whnf
  refine hKq _ _ _ (.refl _) ?_
  clear hKq Kq
  conv => whnf
  refine VSeq.mk fun Kq hKq => ?_
  conv => whnf
  have hp := Hp.nil w
  refine v_mixA TTok FFok mixed [(0, false), (1, false), (2, false), (3, false), (4, false), (5, false), (6, false), (7, false), (8, false)] (by kernel_rfl) ?_
  conv => whnf
  refine And.intro (fun _ => ?_) (fun h => absurd (rfl) (of_decide_eq_false h))
  conv => whnf
  first | refine PureF.quiet (hh) ?_ | refine PureF.quietE (hh) ?_
  conv => whnf
  refine ⟨_, fun w' hx' => Blk.ld (Blk.ext (hb) hx') TTok rfl (rfl), ?_⟩
  conv => whnf
  intro w hx
  try (have hp := hp.call hx)
  conv => whnf
  refine hKq _ _ _ (.refl _) ?_
  clear hKq Kq
  conv => whnf
  refine ⟨?_, hp.ext⟩
  exact congrArg Value.bool (decide_eq_true rfl)
theorem SA.nil8 {w : World} : SA w (.slice none 0 0) [] := .inl ⟨rfl, rfl⟩
theorem refuses_in {W : World} {b : Nat} {n : Int} (hb : Blk W b [.int .i64 n] 36) :
    Calls Tryz.prog 98 #[zStun, .int .i64 n, .pointer (some ⟨b, 0, none⟩)] W fun e w' => e = .returned (.bool true) ∧ Ext W w' := by
  have hs := fun (w : World) => Same8_c (W := w) 0 0 ⟨#[]⟩ 0 0 ⟨#[]⟩ SA.nil8 SA.nil8 (fun a ha => by cases ha) (fun a ha => by cases ha)
  rw [sameB_t ⟨rfl, rfl, rfl, rfl⟩] at hs
  refine v_reads TTok FFok Tryz.func98 rfl rfl ?_
  conv => whnf
  refine VSeq.mk fun Kq hKq => ?_
  conv => whnf
  have hp := Hp.nil W
  refine hp.kboxA fun q w hp hx => ?_
  conv => whnf
  refine hKq _ _ _ (.refl _) ?_
  clear hKq Kq
  conv => whnf
  refine VSeq.mk fun Kq hKq => ?_
  conv => whnf
  refine VSeq.mk fun Kq hKq => ?_
  conv => whnf
  refine ⟨_, _, Blk.ld (hb.ext hp.ext) TTok rfl (rfl), ?_⟩
  conv => whnf
  refine hKq _ _ _ (.refl _) ?_
  clear hKq Kq
  conv => whnf
  refine And.intro (fun _ => ?_) (fun h => absurd (rfl) (of_decide_eq_false h))
  conv => whnf
  (refine ⟨_, _, Blk.ldV (vs := [_, _, _, _]) (hp.get (i := 0) rfl) TTok rfl rfl rfl, ?_⟩; conv => whnf)
  (refine ⟨_, _, bld24_ _, ?_⟩; conv => whnf)
  refine V.CallsUse (hs _) fun w hx => ?_
  try (have hp := hp.call hx)
  conv => whnf
  refine hKq _ _ _ (.refl _) ?_
  clear hKq Kq
  conv => whnf
  exact ⟨rfl, hp.ext⟩
theorem gives_in {W : World} {b : Nat} {v u : Value} {al : List At2} (c m : Int) (id : ByteArray) (hv : SA W v al) (hu : SA W u al) (ha : ∀ a ∈ al, AtOk a) (hb : Blk W b [.int .i64 c, .int .i64 m, .string id, u] 24) :
    Calls Tryz.prog 80 #[.agg #[.int .i64 c, .int .i64 m, .string id, v], .int .i64 0, .pointer (some ⟨b, 0, none⟩)] W fun e w' => e = .returned (.bool true) ∧ Ext W w' := by
  have hs := fun (w : World) (hx : Ext W w) => Same8_c (W := w) c m id c m id (hv.ext hx) (hu.ext hx) ha ha
  rw [sameB_t ⟨rfl, rfl, rfl, rfl⟩] at hs
  obtain ⟨p, cp, rfl⟩ := hv.shape
  obtain ⟨p2, cp2, rfl⟩ := hu.shape
  refine v_reads TTok FFok Tryz.func80 rfl rfl ?_
  conv => whnf
  refine VSeq.mk fun Kq hKq => ?_
  conv => whnf
  have hp := Hp.nil W
  refine hp.kboxA fun q w hp hx => ?_
  conv => whnf
  refine hKq _ _ _ (.refl _) ?_
  clear hKq Kq
  conv => whnf
  refine VSeq.mk fun Kq hKq => ?_
  conv => whnf
  refine VSeq.mk fun Kq hKq => ?_
  conv => whnf
  refine hKq _ _ _ (.refl _) ?_
  clear hKq Kq
  conv => whnf
  refine And.intro (fun _ => ?_) (fun h => absurd (rfl) (of_decide_eq_false h))
  conv => whnf
  (refine ⟨_, _, Blk.ldV (vs := [_, _, _, _]) (hp.get (i := 0) rfl) TTok rfl rfl rfl, ?_⟩; conv => whnf)
  refine ⟨_, _, Blk.ldN (hb.ext hp.ext) TTok rfl rfl, ?_⟩
  conv => whnf
  refine V.CallsUse (hs _ hp.ext) fun w hx => ?_
  try (have hp := hp.call hx)
  conv => whnf
  refine hKq _ _ _ (.refl _) ?_
  clear hKq Kq
  conv => whnf
  exact ⟨rfl, hp.ext⟩
theorem with8_c {W : World} {v u : Value} {al bl : List At2} (c m : Int) (id : ByteArray) (hv : SA W v al) (hu : SA W u bl) (hl : al.length ≤ 100000) (hk : bl.length ≤ 100000) :
    Calls Tryz.prog 47 #[.agg #[.int .i64 c, .int .i64 m, .string id, v], u] W fun e w' => ∃ r, e = .returned r ∧ ∃ v', r = .agg #[.int .i64 c, .int .i64 m, .string id, v'] ∧ HpM [] W w' [row 54 2 v' (al ++ bl).length (flatC (al ++ bl))] := by
  obtain ⟨p, cp, rfl⟩ := hv.shape
  obtain ⟨p2, cp2, rfl⟩ := hu.shape
  refine v_fn (args := [.agg #[.int .i64 c, .int .i64 m, .string id, .slice p al.length cp], .slice p2 bl.length cp2]) TTok FFok Tryz.func47 rfl (Nat.le_of_ble_eq_true rfl) ?_
  conv => whnf
  refine VSeq.mk fun Kq hKq => ?_
  conv => whnf
  have hp := Hp.nil W
  refine hp.kboxA fun q w hp hx => ?_
  conv => whnf
  refine hp.kalloc z24 fun q4 w hp hx => ?_
  conv => whnf
  refine hKq _ _ _ (.refl _) ?_
  clear hKq Kq
  conv => whnf
  refine VSeq.mk fun Kq hKq => ?_
  conv => whnf
  refine hp.kmadeR [] 54 2 0 rfl (by decide) (by kernel_rfl) fun b w hp hx => ?_
  conv => whnf
  refine ⟨_, _, Blk.ld (hp.get (i := 2) rfl) TTok rfl (rfl), ?_⟩
  conv => whnf
  refine hp.kappE sl22 ((hv.ext hp.ext).src) (by omega) (by unfold maxLen; omega) fun v' w hp hx => ?_
  rw [Nat.zero_add, List.nil_append] at hp
  obtain ⟨p1, c1, rfl⟩ := row_shape (hp.get (i := 0) rfl)
  conv => whnf
  refine hp.kapp sl22 0 rfl ((hu.ext hp.ext).src) (by omega) (by unfold maxLen; omega) fun v2 w hp => ?_
  simp only [List.set_cons_zero, List.set_cons_succ] at hp
  rw [← flatC_app, ← List.length_append] at hp
  obtain ⟨p1, c1, rfl⟩ := row_shape (hp.get (i := 0) rfl)
  conv => whnf
  (refine hp.kst1 TTok (by rfl) 2 (by rfl) (by rfl) (by rfl) (Nat.le_of_ble_eq_true rfl) fun w hp => ?_; try simp only [List.set_cons_zero, List.set_cons_succ, EV.val] at hp; conv => whnf)
  (refine hKq _ _ _ (.refl _) ?_; clear hKq Kq; conv => whnf)
  (refine VSeq.mk fun Kq hKq => ?_; conv => whnf)
  (refine ⟨_, _, Blk.ldV (vs := [_, _, _, _]) (hp.get (i := 2) rfl) TTok rfl rfl rfl, ?_⟩; conv => whnf)
  (refine hp.kstA TTok rfl 1 rfl rfl (oneC_of rfl) (by rfl) fun w hp => ?_; try simp only [List.set_cons_zero, List.set_cons_succ, EV.val] at hp; conv => whnf)
  (refine hKq _ _ _ (.refl _) ?_; clear hKq Kq; conv => whnf)
  (refine ⟨_, Blk.lvN (hp.get (i := 1) rfl) TTok rfl rfl, ?_⟩; conv => whnf)
  exact ⟨_, rfl, hp.sub (List.Sublist.cons_cons _ (List.nil_sublist _))⟩
set_option maxHeartbeats 3200000
theorem Protect_full {W : World} {v : Value} {al : List At2} (c m : Nat) (id key : ByteArray) (hv : SA W v al) (hb : stunB c m id al = true) (hk : key.size ≤ 4096) (h8 : hasB 8 al = false) (h9 : hasB 32808 al = false) (hb2 : stunB c m id (al ++ [(8, macB key (wrB c m id al 36))]) = false) :
    Calls Tryz.prog 39 #[.agg #[.int .i64 c, .int .i64 m, .string id, v], .string key] W fun e w' => ∃ u, e = .returned u ∧ u = .tuple #[zStun, .int .i64 3] ∧ Ext W w' := by
  obtain ⟨b1, b2, b3, b4, b5, b6, b7, b8⟩ := stunB_t hb
  have hN : chkN c m id al = 0 := by unfold chkN; rw [hb]; rfl
  obtain ⟨p, cp, rfl⟩ := hv.shape
  refine v_fn (args := [.agg #[.int .i64 c, .int .i64 m, .string id, .slice p al.length cp], .string key]) TTok FFok Tryz.func39 rfl (Nat.le_of_ble_eq_true rfl) ?_
  have hp := Hp.nil W
  conv => whnf
  refine VSeq.mk fun Kq hKq => ?_
  conv => whnf
  (refine hp.kboxA fun q w hp hx => ?_; conv => whnf)
  (refine hp.kalloc z24 fun al24 w hp hx => ?_; conv => whnf)
  (refine hKq _ _ _ (.refl _) ?_; clear hKq Kq; conv => whnf)
  (refine VSeq.mk fun Kq hKq => ?_; conv => whnf)
  (refine VSeq.mk fun Kq hKq => ?_; conv => whnf)
  (refine ⟨_, _, Blk.ldV (vs := [_, _, _, _]) (hp.get (i := 1) rfl) TTok rfl rfl rfl, ?_⟩; conv => whnf)
  have hck := Check_c (W := w) c m id (hv.ext hp.ext)
  rw [hN] at hck
  (refine V.CallW.out ?_; (conv => arg 3; dsimp only [EV.val, List.toList_toArray, List.nil_append, List.append_nil, List.cons_append]); (with_reducible refine V.CallsUseW (hck) fun w hx => ?_); try (have hp := hp.call hx); conv => whnf)
  (refine hKq _ _ _ (.refl _) ?_; clear hKq Kq; conv => whnf)
  (refine VSeq.mk fun Kq hKq => ?_; conv => whnf)
  (refine hKq _ _ _ (.refl _) ?_; clear hKq Kq; conv => whnf)
  (refine And.intro (fun h => absurd (of_decide_eq_true h) (by first | (intro h2; exact absurd rfl h2) | omega | decide)) (fun _ => ?_); conv => whnf)
  (refine VSeq.mk fun Kq hKq => ?_; conv => whnf)
  (refine hKq _ _ _ (.refl _) ?_; clear hKq Kq; conv => whnf)
  (refine And.intro (fun h => absurd (of_decide_eq_true h) (by first | (intro h2; exact absurd rfl h2) | omega | decide)) (fun _ => ?_); conv => whnf)
  (refine VSeq.mk fun Kq hKq => ?_; conv => whnf)
  (refine VSeq.mk fun Kq hKq => ?_; conv => whnf)
  (refine ⟨_, _, Blk.ldV (vs := [_, _, _, _]) (hp.get (i := 1) rfl) TTok rfl rfl rfl, ?_⟩; conv => whnf)
  have hq := has_c (W := w) c m id 8 (hv.ext hp.ext)
  rw [h8] at hq
  (refine V.CallW.out ?_; (conv => arg 3; dsimp only [EV.val, List.toList_toArray, List.nil_append, List.append_nil, List.cons_append]); refine V.CallsUseW (hq) fun w hx => ?_; try (have hp := hp.call hx); conv => whnf)
  (refine hKq _ _ _ (.refl _) ?_; clear hKq Kq; conv => whnf)
  (refine And.intro (fun h => absurd h (by decide)) (fun _ => ?_); conv => whnf)
  (refine ⟨_, _, Blk.ldV (vs := [_, _, _, _]) (hp.get (i := 1) rfl) TTok rfl rfl rfl, ?_⟩; conv => whnf)
  have hq := has_c (W := w) c m id 32808 (hv.ext hp.ext)
  rw [h9] at hq
  (refine V.CallW.out ?_; (conv => arg 3; dsimp only [EV.val, List.toList_toArray, List.nil_append, List.append_nil, List.cons_append]); refine V.CallsUseW (hq) fun w hx => ?_; try (have hp := hp.call hx); conv => whnf)
  (refine hKq _ _ _ (.refl _) ?_; clear hKq Kq; conv => whnf)
  (refine And.intro (fun h => absurd h (by decide)) (fun _ => ?_); conv => whnf)
  (refine hKq _ _ _ (.refl _) ?_; clear hKq Kq; conv => whnf)
  (refine VSeq.mk fun Kq hKq => ?_; conv => whnf)
  refine v_mix TTok FFok mixed 10 [(0, false), (1, false), (2, false), (3, false), (4, false), (5, true), (6, false), (7, true), (8, false), (9, false)] (by kernel_rfl) ?_
  conv => whnf
  refine ⟨_, fun w' hx' => Blk.ldN (Blk.ext (hp.get (i := 1) rfl) hx') TTok rfl (rfl), ?_⟩
  conv => whnf
  refine ⟨_, fun w' hx' => Blk.ldN (Blk.ext (hp.get (i := 1) rfl) hx') TTok rfl (rfl), ?_⟩
  conv => whnf
  refine ⟨_, fun w' hx' => Blk.ld (Blk.ext (hp.get (i := 1) rfl) hx') TTok rfl (rfl), ?_⟩
  conv => whnf
  intro w hx
  try (have hp := hp.call hx)
  conv => whnf
  refine V.CallsUse (integrity_c (W := w) (hv.ext hp.ext) c m id key ⟨_, _, _, rfl⟩ (by omega) (by omega) b5 b7 (by omega) b8 hk) fun w hx => ?_
  have hp := hp.call hx
  conv => whnf
  refine And.intro hx ?_
  conv => whnf
  refine ⟨_, fun w' _ => bld54_0_1 w' _ _, ?_⟩
  conv => whnf
  intro w hx
  try (have hp := hp.call hx)
  conv => whnf
  refine Calls.mono (with_f (W := w) c m id 8 (macB key (wrB c m id al 36)) (hv.ext hp.ext) (by omega) hb2) ?_
  rintro _ w ⟨u, rfl, rfl, hx⟩
  refine ⟨_, rfl, ?_⟩
  have hp := hp.call hx
  conv => whnf
  refine And.intro hx ?_
  conv => whnf
  intro w hx
  try (have hp := hp.call hx)
  conv => whnf
  (refine hp.kstA TTok rfl 0 rfl rfl (oneC_of rfl) (by rfl) fun w hp => ?_; try simp only [List.set_cons_zero, List.set_cons_succ, EV.val] at hp; conv => whnf)
  (refine hKq _ _ _ (.refl _) ?_; clear hKq Kq; conv => whnf)
  (refine ⟨_, Blk.lvN (hp.get (i := 0) rfl) TTok rfl rfl, ?_⟩; conv => whnf)
  exact ⟨rfl, hp.ext⟩
theorem Protect_ok {W : World} {v : Value} {al : List At2} (c m : Nat) (id key : ByteArray) (hv : SA W v al) (hb : stunB c m id al = true) (hk : key.size ≤ 4096) (h8 : hasB 8 al = false) (h9 : hasB 32808 al = false) (hb2 : stunB c m id (al ++ [(8, macB key (wrB c m id al 36))]) = true) :
    Calls Tryz.prog 39 #[.agg #[.int .i64 c, .int .i64 m, .string id, v], .string key] W fun e w' => ∃ u, e = .returned u ∧ ∃ v', u = .tuple #[.agg #[.int .i64 c, .int .i64 m, .string id, v'], .int .i64 0] ∧ HpM [] W w' [row 54 2 v' (al ++ [((8 : Int), macB key (wrB c m id al 36))]).length (flatC (al ++ [((8 : Int), macB key (wrB c m id al 36))]))] := by
  obtain ⟨b1, b2, b3, b4, b5, b6, b7, b8⟩ := stunB_t hb
  have hN : chkN c m id al = 0 := by unfold chkN; rw [hb]; rfl
  obtain ⟨p, cp, rfl⟩ := hv.shape
  refine v_fn (args := [.agg #[.int .i64 c, .int .i64 m, .string id, .slice p al.length cp], .string key]) TTok FFok Tryz.func39 rfl (Nat.le_of_ble_eq_true rfl) ?_
  have hp := Hp.nil W
  conv => whnf
  refine VSeq.mk fun Kq hKq => ?_
  conv => whnf
  (refine hp.kboxA fun q w hp hx => ?_; conv => whnf)
  (refine hp.kalloc z24 fun al24 w hp hx => ?_; conv => whnf)
  (refine hKq _ _ _ (.refl _) ?_; clear hKq Kq; conv => whnf)
  (refine VSeq.mk fun Kq hKq => ?_; conv => whnf)
  (refine VSeq.mk fun Kq hKq => ?_; conv => whnf)
  (refine ⟨_, _, Blk.ldV (vs := [_, _, _, _]) (hp.get (i := 1) rfl) TTok rfl rfl rfl, ?_⟩; conv => whnf)
  have hck := Check_c (W := w) c m id (hv.ext hp.ext)
  rw [hN] at hck
  (refine V.CallW.out ?_; (conv => arg 3; dsimp only [EV.val, List.toList_toArray, List.nil_append, List.append_nil, List.cons_append]); (with_reducible refine V.CallsUseW (hck) fun w hx => ?_); try (have hp := hp.call hx); conv => whnf)
  (refine hKq _ _ _ (.refl _) ?_; clear hKq Kq; conv => whnf)
  (refine VSeq.mk fun Kq hKq => ?_; conv => whnf)
  (refine hKq _ _ _ (.refl _) ?_; clear hKq Kq; conv => whnf)
  (refine And.intro (fun h => absurd (of_decide_eq_true h) (by first | (intro h2; exact absurd rfl h2) | omega | decide)) (fun _ => ?_); conv => whnf)
  (refine VSeq.mk fun Kq hKq => ?_; conv => whnf)
  (refine hKq _ _ _ (.refl _) ?_; clear hKq Kq; conv => whnf)
  (refine And.intro (fun h => absurd (of_decide_eq_true h) (by first | (intro h2; exact absurd rfl h2) | omega | decide)) (fun _ => ?_); conv => whnf)
  (refine VSeq.mk fun Kq hKq => ?_; conv => whnf)
  (refine VSeq.mk fun Kq hKq => ?_; conv => whnf)
  (refine ⟨_, _, Blk.ldV (vs := [_, _, _, _]) (hp.get (i := 1) rfl) TTok rfl rfl rfl, ?_⟩; conv => whnf)
  have hq := has_c (W := w) c m id 8 (hv.ext hp.ext)
  rw [h8] at hq
  (refine V.CallW.out ?_; (conv => arg 3; dsimp only [EV.val, List.toList_toArray, List.nil_append, List.append_nil, List.cons_append]); refine V.CallsUseW (hq) fun w hx => ?_; try (have hp := hp.call hx); conv => whnf)
  (refine hKq _ _ _ (.refl _) ?_; clear hKq Kq; conv => whnf)
  (refine And.intro (fun h => absurd h (by decide)) (fun _ => ?_); conv => whnf)
  (refine ⟨_, _, Blk.ldV (vs := [_, _, _, _]) (hp.get (i := 1) rfl) TTok rfl rfl rfl, ?_⟩; conv => whnf)
  have hq := has_c (W := w) c m id 32808 (hv.ext hp.ext)
  rw [h9] at hq
  (refine V.CallW.out ?_; (conv => arg 3; dsimp only [EV.val, List.toList_toArray, List.nil_append, List.append_nil, List.cons_append]); refine V.CallsUseW (hq) fun w hx => ?_; try (have hp := hp.call hx); conv => whnf)
  (refine hKq _ _ _ (.refl _) ?_; clear hKq Kq; conv => whnf)
  (refine And.intro (fun h => absurd h (by decide)) (fun _ => ?_); conv => whnf)
  (refine hKq _ _ _ (.refl _) ?_; clear hKq Kq; conv => whnf)
  (refine VSeq.mk fun Kq hKq => ?_; conv => whnf)
  refine v_mix TTok FFok mixed 10 [(0, false), (1, false), (2, false), (3, false), (4, false), (5, true), (6, false), (7, true), (8, false), (9, false)] (by kernel_rfl) ?_
  conv => whnf
  refine ⟨_, fun w' hx' => Blk.ldN (Blk.ext (hp.get (i := 1) rfl) hx') TTok rfl (rfl), ?_⟩
  conv => whnf
  refine ⟨_, fun w' hx' => Blk.ldN (Blk.ext (hp.get (i := 1) rfl) hx') TTok rfl (rfl), ?_⟩
  conv => whnf
  refine ⟨_, fun w' hx' => Blk.ld (Blk.ext (hp.get (i := 1) rfl) hx') TTok rfl (rfl), ?_⟩
  conv => whnf
  intro w hx
  try (have hp := hp.call hx)
  conv => whnf
  refine V.CallsUse (integrity_c (W := w) (hv.ext hp.ext) c m id key ⟨_, _, _, rfl⟩ (by omega) (by omega) b5 b7 (by omega) b8 hk) fun w hx => ?_
  have hp := hp.call hx
  conv => whnf
  refine And.intro hx ?_
  conv => whnf
  refine ⟨_, fun w' _ => bld54_0_1 w' _ _, ?_⟩
  conv => whnf
  intro w hx
  try (have hp := hp.call hx)
  conv => whnf
  refine Calls.mono (with_t (W := w) c m id 8 (macB key (wrB c m id al 36)) (hv.ext hp.ext) (by omega) hb2) ?_
  rintro _ w ⟨u, rfl, v', rfl, k2⟩
  refine ⟨_, rfl, ?_⟩
  have hx := k2.ext
  have hp := hp.join k2
  simp only [List.cons_append, List.nil_append] at hp
  obtain ⟨pu, cu, rfl⟩ := row_shape (hp.get (i := 0) rfl)
  conv => whnf
  refine And.intro hx ?_
  conv => whnf
  intro w hx
  try (have hp := hp.call hx)
  conv => whnf
  (refine hp.kstA TTok rfl 1 rfl rfl (oneC_of rfl) (by rfl) fun w hp => ?_; try simp only [List.set_cons_zero, List.set_cons_succ, EV.val] at hp; conv => whnf)
  (refine hKq _ _ _ (.refl _) ?_; clear hKq Kq; conv => whnf)
  (refine ⟨_, Blk.lvN (hp.get (i := 1) rfl) TTok rfl rfl, ?_⟩; conv => whnf)
  exact ⟨_, rfl, hp.pick [0] (by decide)⟩
theorem Encode_ok {W : World} {v : Value} {al : List At2} (c m : Nat) (id : ByteArray) (hv : SA W v al) (hb : stunB c m id al = true) :
    Calls Tryz.prog 16 #[.agg #[.int .i64 c, .int .i64 m, .string id, v]] W fun e w' => e = .returned (.tuple #[.string (wrB c m id al 0), .int .i64 0]) ∧ Ext W w' := by
  obtain ⟨b1, b2, b3, b4, b5, b6, b7, b8⟩ := stunB_t hb
  have hN : chkN c m id al = 0 := by unfold chkN; rw [hb]; rfl
  obtain ⟨p, cp, rfl⟩ := hv.shape
  refine v_reads (args := [.agg #[.int .i64 c, .int .i64 m, .string id, .slice p al.length cp]]) TTok FFok Tryz.func16 rfl rfl ?_
  conv => whnf
  refine VSeq.mk fun Kq hKq => ?_
  conv => whnf
  have hp := Hp.nil W
  (refine hp.kboxA fun q w hp hx => ?_; conv => whnf)
  (refine hKq _ _ _ (.refl _) ?_; clear hKq Kq; conv => whnf)
  (refine VSeq.mk fun Kq hKq => ?_; conv => whnf)
  (refine VSeq.mk fun Kq hKq => ?_; conv => whnf)
  (refine ⟨_, _, Blk.ldV (vs := [_, _, _, _]) (hp.get (i := 0) rfl) TTok rfl rfl rfl, ?_⟩; conv => whnf)
  have hck := Check_c (W := w) c m id (hv.ext hp.ext)
  rw [hN] at hck
  (refine V.CallW.out ?_; (conv => arg 3; dsimp only [EV.val, List.toList_toArray, List.nil_append, List.append_nil, List.cons_append]); (with_reducible refine V.CallsUseW (hck) fun w hx => ?_); try (have hp := hp.call hx); conv => whnf)
  (refine hKq _ _ _ (.refl _) ?_; clear hKq Kq; conv => whnf)
  (refine VSeq.mk fun Kq hKq => ?_; conv => whnf)
  (refine hKq _ _ _ (.refl _) ?_; clear hKq Kq; conv => whnf)
  (refine And.intro (fun h => absurd (of_decide_eq_true h) (by first | (intro h2; exact absurd rfl h2) | omega | decide)) (fun _ => ?_); conv => whnf)
  (refine hKq _ _ _ (.refl _) ?_; clear hKq Kq; conv => whnf)
  (refine VSeq.mk fun Kq hKq => ?_; conv => whnf)
  (refine ⟨_, _, Blk.ldV (vs := [_, _, _, _]) (hp.get (i := 0) rfl) TTok rfl rfl rfl, ?_⟩; conv => whnf)
  (refine ⟨_, _, Blk.ld (hp.get (i := 0) rfl) TTok rfl rfl, ?_⟩; conv => whnf)
  refine V.CallsUse (written_c (W := w) (hv.ext hp.ext) c m id 0 ⟨_, _, _, rfl⟩ (by omega) (by omega) (by omega) b7 (by omega) (by omega)) fun w hx => ?_
  try (have hp := hp.call hx)
  conv => whnf
  refine hKq _ _ _ (.refl _) ?_
  clear hKq Kq
  conv => whnf
  (exact ⟨rfl, hp.ext⟩)
theorem Encode_bad {W : World} {v : Value} {al : List At2} (c m : Int) (id : ByteArray) (hv : SA W v al) (hb : stunB c m id al = false) :
    Calls Tryz.prog 16 #[.agg #[.int .i64 c, .int .i64 m, .string id, v]] W fun e w' => e = .returned (.tuple #[.string ⟨#[]⟩, .int .i64 80]) ∧ Ext W w' := by
  have hN : chkN c m id al = 80 := by unfold chkN; rw [hb]; rfl
  obtain ⟨p, cp, rfl⟩ := hv.shape
  refine v_reads (args := [.agg #[.int .i64 c, .int .i64 m, .string id, .slice p al.length cp]]) TTok FFok Tryz.func16 rfl rfl ?_
  conv => whnf
  refine VSeq.mk fun Kq hKq => ?_
  conv => whnf
  have hp := Hp.nil W
  (refine hp.kboxA fun q w hp hx => ?_; conv => whnf)
  (refine hKq _ _ _ (.refl _) ?_; clear hKq Kq; conv => whnf)
  (refine VSeq.mk fun Kq hKq => ?_; conv => whnf)
  (refine VSeq.mk fun Kq hKq => ?_; conv => whnf)
  (refine ⟨_, _, Blk.ldV (vs := [_, _, _, _]) (hp.get (i := 0) rfl) TTok rfl rfl rfl, ?_⟩; conv => whnf)
  have hck := Check_c (W := w) c m id (hv.ext hp.ext)
  rw [hN] at hck
  (refine V.CallW.out ?_; (conv => arg 3; dsimp only [EV.val, List.toList_toArray, List.nil_append, List.append_nil, List.cons_append]); (with_reducible refine V.CallsUseW (hck) fun w hx => ?_); try (have hp := hp.call hx); conv => whnf)
  (refine hKq _ _ _ (.refl _) ?_; clear hKq Kq; conv => whnf)
  (refine VSeq.mk fun Kq hKq => ?_; conv => whnf)
  (refine hKq _ _ _ (.refl _) ?_; clear hKq Kq; conv => whnf)
  (refine And.intro (fun _ => ?_) (fun h => absurd (by first | rfl | assumption | omega | decide) (of_decide_eq_false h)); conv => whnf)
  (refine VSeq.mk fun Kq hKq => ?_; conv => whnf)
  (refine hKq _ _ _ (.refl _) ?_; clear hKq Kq; conv => whnf)
  (exact ⟨rfl, hp.ext⟩)
set_option maxHeartbeats 12800000
theorem Decode_no {W : World} (s : ByteArray) (hs : s.size ≤ maxLen) (h : decC s ≠ 0) :
    Calls Tryz.prog 19 #[.string s] W fun e w' => e = .returned (.tuple #[zStun, .int .i64 (decC s)]) ∧ Ext W w' :=
  (Decode_c s hs).mono fun _ _ hh => by
    rcases hh with ⟨h0, _⟩ | ⟨_, h1, h2⟩
    · exact absurd h0 h
    · exact ⟨h1, h2⟩
theorem SA.of_blk {w : World} {q n e : Nat} {al : List At2} (h : Blk w q (flatC al) e) (hn : al.length = n) (hm : n ≤ maxLen) : SA w (.slice (some ⟨q, 0, none⟩) n n) al := by
  subst hn
  refine .inr (.inr ⟨q, 0, al.length, by rw [List.length_map], by rw [List.length_map]; exact Nat.le_refl _, hm, fun j x hj => ?_⟩)
  rw [List.getElem?_map, Option.map_eq_some_iff] at hj
  obtain ⟨a, ha, rfl⟩ := hj
  refine ⟨rfl, fun i y hy => ?_⟩
  have hi : i < 2 := (List.getElem?_eq_some_iff.1 hy).1
  have h2 := flatC_at al j a ha
  have h3 : (flatC al)[j * 2 + i]? = some y := by
    rw [← h2, List.getElem?_take, if_pos hi, List.getElem?_drop] at hy
    exact hy
  rw [Nat.zero_add]
  exact (h.cell (j * 2 + i)).trans h3
def doneL : List At2 := [(6, (⟨#[97, 98]⟩ : ByteArray))]
def oddL : List At2 := [(6, (⟨#[120]⟩ : ByteArray)), (5, ⟨#[]⟩), (32800, ⟨#[]⟩), (5, ⟨#[]⟩), (6, (⟨#[121]⟩ : ByteArray))]
def exM : ByteArray := macB (⟨#[107]⟩ : ByteArray) (wrB 0 1 idC [] 36)
theorem k_s0 : stunB 0 1 idC [] = true := by decide +kernel
theorem k_s1 : stunB 2 1 idC doneL = true := by decide +kernel
theorem k_s2 : stunB 0 1 idC oddL = true := by decide +kernel
theorem k_s3 : stunB 0 1 idC ([] ++ [(8, exM)]) = true := by decide +kernel
theorem k_x0 : (⟨(hexL (wrB 0 1 idC [] 0).data.toList).toArray⟩ : ByteArray) = (⟨#[48, 48, 48, 49, 48, 48, 48, 48, 50, 49, 49, 50, 97, 52, 52, 50, 48, 48, 48, 49, 48, 50, 48, 51, 48, 52, 48, 53, 48, 54, 48, 55, 48, 56, 48, 57, 48, 97, 48, 98]⟩ : ByteArray) := by decide +kernel
theorem k_x1 : (⟨(hexL (wrB 2 1 idC doneL 0).data.toList).toArray⟩ : ByteArray) = (⟨#[48, 49, 48, 49, 48, 48, 48, 56, 50, 49, 49, 50, 97, 52, 52, 50, 48, 48, 48, 49, 48, 50, 48, 51, 48, 52, 48, 53, 48, 54, 48, 55, 48, 56, 48, 57, 48, 97, 48, 98, 48, 48, 48, 54, 48, 48, 48, 50, 54, 49, 54, 50, 48, 48, 48, 48]⟩ : ByteArray) := by decide +kernel
theorem k_x2 : (⟨(hexL (mixB idC ⟨#[192, 0, 2, 1]⟩ 32853).data.toList).toArray⟩ : ByteArray) = (⟨#[48, 48, 48, 49, 97, 49, 52, 55, 101, 49, 49, 50, 97, 54, 52, 51]⟩ : ByteArray) := by decide +kernel
theorem k_x3 : (⟨(hexL (reasonB 487 (⟨#[120]⟩ : ByteArray)).data.toList).toArray⟩ : ByteArray) = (⟨#[48, 48, 48, 48, 48, 52, 53, 55, 55, 56]⟩ : ByteArray) := by decide +kernel
theorem k_z0 : (wrB 0 1 idC [] 0).size = 20 := by decide +kernel
theorem k_d0 : decC ((wrB 0 1 idC [] 0).extract 0 19) = 7 := by decide +kernel
theorem k_d1 : decC (wrB 0 1 idC [] 0 ++ (⟨#[120]⟩ : ByteArray)) = 5 := by decide +kernel
theorem k_d2 : decC ((wrB 0 1 idC [] 0).extract 0 3 ++ ⟨#[4]⟩ ++ (wrB 0 1 idC [] 0).extract 4 20) = 7 := by decide +kernel
theorem k_u : unL oddL = [5] := by decide +kernel
theorem k_f0 : findC 0 1 idC oddL 6 = ((⟨#[120]⟩ : ByteArray), 0) := by decide +kernel
theorem k_f1 : findC 0 1 idC oddL 7 = (⟨#[]⟩, 4) := by decide +kernel
theorem k_v0 : verC 0 1 idC (⟨#[107]⟩ : ByteArray) [] = 4 := by decide +kernel
theorem k_v1 : verC 0 1 idC (⟨#[107]⟩ : ByteArray) [(8, exM)] = 0 := by decide +kernel
theorem k_v2 : verC 0 1 idC (⟨#[108]⟩ : ByteArray) [(8, exM)] = 9 := by decide +kernel
end Go.Proofs.YtmlmfmdmomegpaaGreatDoor
