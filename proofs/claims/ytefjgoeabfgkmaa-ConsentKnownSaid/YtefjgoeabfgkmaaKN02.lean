/- Contracts, memory: what walks by V lean on. Own work. No program is named here. -/
/- Operations on memory, over Hp. Own work. No program is named here. -/
/- A region that draws its order: a quiet head in whatever order, then a tail that waits for all of it. Own work. -/
/- A region that draws its order, in an order that is given: quiet operations, and such as lay things of their own. Own work. -/
/- More rules on memory: rows that are made, slices as arguments. Own work. No program is named here. -/
/- Drawn regions where two operations that make things may come in either order. Own work. No program is named here. -/
import Derived.Test.YtefjgoeabfgkmaaKN01
import Derived.Laws.IdiomStrings
import Derived.Laws.MakeOwn
import Derived.Deep.AppendSrc
import Derived.Laws.Rows
namespace Go.Proofs.Ytefjgoeabfgkmaa
set_option linter.unusedSimpArgs false
set_option linter.unusedVariables false
open Go.RowKit
namespace V

theorem byt_lt (s : ByteArray) (i : Nat) : byt s i < 256 := UInt8.toNat_lt _
theorem size_extract (s : ByteArray) (a b : Nat) (h : b ≤ s.size) : (s.extract a b).size = b - a := by
 rw [ByteArray.size_extract]; omega
theorem byt_extract (s : ByteArray) (a b i : Nat) (h : a + i < b) (hb : b ≤ s.size) : byt (s.extract a b) i = byt s (a + i) := by
 unfold byt
 congr 1
 rw [ByteArray.data_extract, Array.toList_extract, List.extract_eq_take_drop, List.getD_eq_getElem?_getD, List.getD_eq_getElem?_getD, List.getElem?_take, if_pos (by omega), List.getElem?_drop]
/-- The world has grown: what was there stands as it stood. -/
def Ext (w w' : World) : Prop := Below w.heap.size w w'
theorem Ext.refl (w : World) : Ext w w := Below.refl _ _
theorem Ext.trans {a b c : World} (h : Ext a b) (k : Ext b c) : Ext a c := Below.trans h (Below.mono k h.size)
theorem Ext.drew {a b : World} (h : Ext a b) : Ext a { b with drawn := b.drawn + 1 } := Below.drew h
theorem Ext.alloc {a b : World} (h : Ext a b) (o : Obj) : Ext a (b.alloc o) := Below.alloc h h.size o
theorem Ext.size {a b : World} (h : Ext a b) : a.heap.size ≤ b.heap.size := Below.size h
theorem Ext.block {a b : World} (h : Ext a b) {k : Nat} {o : Obj} (hk : a.heap[k]? = some o) : b.heap[k]? = some o :=
 (Below.block h k (Array.getElem?_eq_some_iff.1 hk).1).trans hk
theorem cell_lt {w : World} {a : Addr} {v : Value} (h : w.cell? a = some v) : a.block < w.heap.size := by
 unfold World.cell? at h
 cases ho : w.heap[a.block]? with
 | none => simp [ho] at h
 | some o => exact (Array.getElem?_eq_some_iff.1 ho).1
theorem Ext.cell {a b : World} (h : Ext a b) {p : Addr} {v : Value} (hc : a.cell? p = some v) : b.cell? p = some v :=
 (Below.cell h (cell_lt hc)).trans hc
theorem Ext.grown {a w w' : World} {row : Option Nat} (h : Ext a w) (hg : w.grownBy w' row) (hr : ∀ k, row = some k → a.heap.size ≤ k) : Ext a w' := Below.grown h hg h.size hr

/-- A function that computes a value that names no memory: it may lay blocks of its own. -/
def PureF (P : Program) (f : Nat) (args : Array Value) (v : Value) : Prop := ∀ w, Calls P f args w fun e w' => e = .returned v ∧ Ext w w'
theorem PureF.use {P : Program} {f : Nat} {args : Array Value} {v : Value} (h : PureF P f args v) {w : World} {K : Value → World → Prop} (hk : ∀ w', Ext w w' → K v w') :
  Calls P f args w fun e w' => ∃ v, e = .returned v ∧ K v w' := (h w).mono fun _ w' ⟨he, hx⟩ => ⟨v, he, hk w' hx⟩
theorem PureF.quiet {P : Program} {f : Nat} {args : Array Value} {v : Value} (h : PureF P f args v) {w0 : World} {K : Value → Unit → Prop} (hk : K v ()) :
  ∃ v, (∀ w, Ext w0 w → Calls P f args w fun e w' => e = .returned v ∧ Ext w0 w') ∧ K v () :=
 ⟨v, fun w hw => (h w).mono fun _ w' ⟨he, hx⟩ => ⟨he, hw.trans hx⟩, hk⟩

theorem CallsUse {P : Program} {f : Nat} {args : Array Value} {v : Value} {w : World} {K : Value → World → Prop} (h : Calls P f args w fun e w' => e = .returned v ∧ Ext w w') (hk : ∀ w', Ext w w' → K v w') :
  Calls P f args w fun e w' => ∃ v, e = .returned v ∧ K v w' := h.mono fun _ w' ⟨he, hx⟩ => ⟨v, he, hk w' hx⟩

section
variable {P : Program} {T : Tab} {Fs : List Nat} (hT : tabOk P T = true) (hF : ∀ f, memB f Fs = true → Enters P f)
include hT hF
/-- A contract of a pure function, by its body's wp. -/
theorem v_pure {f : Nat} {fn : Func} {c : Code} {args : List Value} {v : Value} (hf : P.funcs[f]? = some fn) (hb : fn.body = some c) (hn : Nat.ble args.length fn.ntmps = true)
  (h : ∀ w, vgo P T Fs fn.ntmps c (entry 0 args) w (retK P fn.results.toList fun v' w' => v' = v ∧ Ext w w')) : PureF P f args.toArray v := fun w => by
 refine (v_fn hT hF hf hb (Nat.le_of_ble_eq_true hn) (h w)).mono ?_
 rintro e w' ⟨v', rfl, rfl, hx⟩
 exact ⟨rfl, hx⟩
end

/-! ### memory of the call's own -/
/-- A thing in memory: the block it lies in (if any), and what is said of it; it hangs on that block alone. -/
structure It where
 own : Option Nat
 holds : World → Prop
def It.Ok (x : It) : Prop := ∀ w w', w.heap.size ≤ w'.heap.size → (∀ b, x.own = some b → w'.heap[b]? = w.heap[b]?) → x.holds w → x.holds w'
/-- Block b holds just the cells cs, all of which may be written. -/
def Blk (w : World) (b : Nat) (cs : List Value) (e : Nat) : Prop := ∃ f : Nat × Nat, (f.1 = f.2 ∨ cs.length ≤ f.1) ∧ w.heap[b]? = some (.cells cs.toArray e f)
theorem Blk.lt {w : World} {b : Nat} {cs : List Value} {e : Nat} (h : Blk w b cs e) : b < w.heap.size := (Array.getElem?_eq_some_iff.1 h.choose_spec.2).1
theorem Blk.same {w w' : World} {b : Nat} {cs : List Value} {e : Nat} (h : Blk w b cs e) (hs : w'.heap[b]? = w.heap[b]?) : Blk w' b cs e :=
 let ⟨f, h1, h2⟩ := h
 ⟨f, h1, hs.trans h2⟩
def blk (b : Nat) (cs : List Value) (e : Nat) : It := ⟨some b, fun w => Blk w b cs e⟩
/-- a slice of the call's own: nil, or the first cells of a block -/
def row (e size : Nat) (v : Value) (n : Nat) (xs : List Value) : It := ⟨v.ownBlock, fun w => w.ownsRow 0 e size v n xs⟩
theorem blk_ok (b : Nat) (cs : List Value) (e : Nat) : (blk b cs e).Ok := fun w w' _ h hh => Blk.same hh (h b rfl)
theorem row_ok (e size : Nat) (v : Value) (n : Nat) (xs : List Value) : (row e size v n xs).Ok := fun w w' _ h hh => by
 obtain ⟨h1, h2⟩ := hh
 refine ⟨h1, ?_⟩
 rcases h2 with h2 | ⟨g, cap, cur, hv, hg, hb, r⟩
 ·exact .inl h2
 ·subst hv; exact .inr ⟨g, cap, cur, rfl, hg, (h g rfl).trans hb, r⟩

/-- The world has grown, and nothing that was there has turned but (at most) the blocks M. -/
structure ExtM (M : List Nat) (w w' : World) : Prop where
 os : w'.os = w.os
 tape : w'.tape = w.tape
 output : w'.output = w.output
 size : w.heap.size ≤ w'.heap.size
 block : ∀ k, k < w.heap.size → k ∉ M → w'.heap[k]? = w.heap[k]?
theorem ExtM.refl (M : List Nat) (w : World) : ExtM M w w := ⟨rfl, rfl, rfl, Nat.le_refl _, fun _ _ _ => rfl⟩
theorem ExtM.trans {M : List Nat} {a b c : World} (h : ExtM M a b) (k : Ext b c) : ExtM M a c :=
 ⟨(Below.os k).trans h.os, (Below.tape k).trans h.tape, (Below.output k).trans h.output, Nat.le_trans h.size k.size, fun i hi hm => (Below.block k i (Nat.lt_of_lt_of_le hi h.size)).trans (h.block i hi hm)⟩
theorem ExtM.grown {M : List Nat} {a w w' : World} {row : Option Nat} (h : ExtM M a w) (hg : w.grownBy w' row) (hr : ∀ k, row = some k → k ∈ M ∨ a.heap.size ≤ k) : ExtM M a w' :=
 ⟨hg.os.trans h.os, hg.tape.trans h.tape, hg.output.trans h.output, Nat.le_trans h.size hg.size, fun i hi hm => (hg.block i (Nat.lt_of_lt_of_le hi h.size) (fun e => by
  rcases hr i e.symm with h1 | h1
  ·exact hm h1
  ·omega)).trans (h.block i hi hm)⟩
theorem ExtM.grownBy {w w' : World} {b : Nat} (h : ExtM [b] w w') : w.grownBy w' (some b) :=
 ⟨h.os, h.tape, h.output, h.size, fun k hk hne => h.block k hk (fun e => hne (by simp at e; rw [e]))⟩

structure HpM (M : List Nat) (w0 w : World) (H : List It) : Prop where
 extM : ExtM M w0 w
 ok : ∀ x ∈ H, x.Ok
 holds : ∀ x ∈ H, x.holds w
 lo : ∀ x ∈ H, ∀ b, x.own = some b → (b ∈ M ∨ w0.heap.size ≤ b) ∧ b < w.heap.size
 apart : H.Pairwise fun x y => ∀ b, x.own = some b → y.own ≠ some b

theorem HpM.nil0 (M : List Nat) (w : World) : HpM M w w [] := ⟨ExtM.refl M w, by simp, by simp, by simp, .nil⟩
abbrev Hp (w0 w : World) (H : List It) : Prop := HpM [] w0 w H
theorem Hp.nil (w : World) : Hp w w [] := HpM.nil0 [] w
theorem HpM.ext {w0 w : World} {H : List It} (h : HpM [] w0 w H) : Ext w0 w := by
 obtain ⟨a, b, c, d, e⟩ := h.extM
 exact ⟨a, b, c, d, fun k hk => e k hk (by simp)⟩
theorem HpM.call {M : List Nat} {w0 w w' : World} {H : List It} (h : HpM M w0 w H) (hx : Ext w w') : HpM M w0 w' H :=
 ⟨h.extM.trans hx, h.ok, fun x hm => h.ok x hm w w' hx.size (fun b hb => Below.block hx b (h.lo x hm b hb).2) (h.holds x hm),
  fun x hm b hb => ⟨(h.lo x hm b hb).1, Nat.lt_of_lt_of_le (h.lo x hm b hb).2 hx.size⟩, h.apart⟩
theorem HpM.push {M : List Nat} {w0 w w' : World} {H : List It} (h : HpM M w0 w H) (hx : Ext w w') {x : It} (hok : x.Ok) (hh : x.holds w') (hl : ∀ b, x.own = some b → w.heap.size ≤ b ∧ b < w'.heap.size) : HpM M w0 w' (x :: H) := by
 have h' := h.call hx
 refine ⟨h'.extM, ?_, ?_, ?_, ?_⟩
 ·intro y hy; rcases List.mem_cons.1 hy with rfl | hy
  ·exact hok
  ·exact h'.ok y hy
 ·intro y hy; rcases List.mem_cons.1 hy with rfl | hy
  ·exact hh
  ·exact h'.holds y hy
 ·intro y hy; rcases List.mem_cons.1 hy with rfl | hy
  ·exact fun b hb => ⟨.inr (Nat.le_trans h.extM.size (hl b hb).1), (hl b hb).2⟩
  ·exact h'.lo y hy
 ·refine List.pairwise_cons.2 ⟨fun y hy b hb e => ?_, h.apart⟩
  have := (h.lo y hy b e).2
  have := (hl b hb).1
  omega
theorem HpM.upd {M : List Nat} {w0 w w' : World} {H : List It} (h : HpM M w0 w H) {i : Nat} {x x' : It} (hi : H[i]? = some x) (hg : w.grownBy w' x.own) (hok : x'.Ok) (hh : x'.holds w')
  (hl : ∀ b, x'.own = some b → x.own = some b ∨ (w.heap.size ≤ b ∧ b < w'.heap.size)) : HpM M w0 w' (H.set i x') := by
 have hil : i < H.length := (List.getElem?_eq_some_iff.1 hi).1
 have hxi : H[i] = x := (List.getElem?_eq_some_iff.1 hi).2
 have hmem : x ∈ H := hxi ▸ List.getElem_mem hil
 have hlo : ∀ b, x'.own = some b → (b ∈ M ∨ w0.heap.size ≤ b) ∧ b < w'.heap.size := fun b hb => by
  rcases hl b hb with h1 | h1
  ·have := h.lo x hmem b h1; exact ⟨this.1, Nat.lt_of_lt_of_le this.2 hg.size⟩
  ·exact ⟨.inr (Nat.le_trans h.extM.size h1.1), h1.2⟩
 have hne : ∀ j (hj : j < H.length), j ≠ i → ∀ b, H[j].own = some b → x.own ≠ some b := fun j hj hji b hb e => by
  rcases Nat.lt_or_ge j i with hlt | hge
  ·exact List.pairwise_iff_getElem.1 h.apart j i hj hil hlt b hb (by rw [hxi]; exact e)
  ·exact List.pairwise_iff_getElem.1 h.apart i j hil hj (by omega) b (by rw [hxi]; exact e) hb
 have kept : ∀ j (hj : j < H.length), j ≠ i → H[j].holds w' := fun j hj hji =>
  h.ok _ (List.getElem_mem hj) w w' hg.size (fun b hb => hg.block b (h.lo _ (List.getElem_mem hj) b hb).2 (fun e => hne j hj hji b hb e.symm)) (h.holds _ (List.getElem_mem hj))
 have mem : ∀ y ∈ H.set i x', y = x' ∨ ∃ j, ∃ hj : j < H.length, j ≠ i ∧ H[j] = y := fun y hy => by
  obtain ⟨j, hj, e⟩ := List.getElem_of_mem hy
  have hj' : j < H.length := by simpa using hj
  by_cases hji : j = i
  ·subst hji; left; rw [← e]; simp
  ·right; exact ⟨j, hj', hji, by rw [← e, List.getElem_set_ne (Ne.symm hji)]⟩
 refine ⟨h.extM.grown hg (fun k hk => (h.lo x hmem k hk).1), ?_, ?_, ?_, ?_⟩
 ·intro y hy; rcases mem y hy with rfl | ⟨j, hj, _, rfl⟩
  ·exact hok
  ·exact h.ok _ (List.getElem_mem hj)
 ·intro y hy; rcases mem y hy with rfl | ⟨j, hj, hji, rfl⟩
  ·exact hh
  ·exact kept j hj hji
 ·intro y hy; rcases mem y hy with rfl | ⟨j, hj, hji, rfl⟩
  ·exact hlo
  ·exact fun b hb => ⟨(h.lo _ (List.getElem_mem hj) b hb).1, Nat.lt_of_lt_of_le (h.lo _ (List.getElem_mem hj) b hb).2 hg.size⟩
 ·rw [List.pairwise_iff_getElem]
  intro p q hp hq hpq b hb e
  have hp' : p < H.length := by simpa using hp
  have hq' : q < H.length := by simpa using hq
  by_cases hpi : p = i
  ·subst hpi
   rw [List.getElem_set_self] at hb
   rw [List.getElem_set_ne (by omega)] at e
   rcases hl b hb with h1 | h1
   ·exact hne q hq' (by omega) b e h1
   ·have := (h.lo _ (List.getElem_mem hq') b e).2; omega
  ·rw [List.getElem_set_ne (Ne.symm hpi)] at hb
   by_cases hqi : q = i
   ·subst hqi
    rw [List.getElem_set_self] at e
    rcases hl b e with h1 | h1
    ·exact hne p hp' hpi b hb h1
    ·have := (h.lo _ (List.getElem_mem hp') b hb).2; omega
   ·rw [List.getElem_set_ne (Ne.symm hqi)] at e
    exact List.pairwise_iff_getElem.1 h.apart p q hp' hq' hpq b hb e
theorem HpM.sub {M : List Nat} {w0 w : World} {H H' : List It} (h : HpM M w0 w H) (hs : List.Sublist H' H) : HpM M w0 w H' :=
 ⟨h.extM, fun x hx => h.ok x (hs.subset hx), fun x hx => h.holds x (hs.subset hx), fun x hx => h.lo x (hs.subset hx), h.apart.sublist hs⟩
theorem HpM.rot {M : List Nat} {w0 w : World} {H : List It} (h : HpM M w0 w H) (n : Nat) : HpM M w0 w (H.drop n ++ H.take n) := by
 have hp : (H.drop n ++ H.take n).Perm H := by
  have := List.perm_append_comm (l₁ := H.drop n) (l₂ := H.take n)
  rwa [List.take_append_drop] at this
 exact ⟨h.extM, fun x hx => h.ok x (hp.mem_iff.1 hx), fun x hx => h.holds x (hp.mem_iff.1 hx), fun x hx => h.lo x (hp.mem_iff.1 hx),
  (hp.symm.pairwise_iff (fun {x y} hxy b hb e => hxy b e hb)).1 h.apart⟩
theorem HpM.get {M : List Nat} {w0 w : World} {H : List It} (h : HpM M w0 w H) {i : Nat} {x : It} (hi : H[i]? = some x) : x.holds w := h.holds x (List.mem_of_getElem? hi)
/-- A block of the caller's: it may be written. -/
theorem HpM.take {M : List Nat} {w0 w : World} {H : List It} (h : HpM M w0 w H) {b : Nat} {cs : List Value} {e : Nat} (hb : Blk w b cs e) (hM : b ∈ M) (hne : ∀ x ∈ H, x.own ≠ some b) : HpM M w0 w (blk b cs e :: H) := by
 have hlt : b < w.heap.size := hb.lt
 refine ⟨h.extM, ?_, ?_, ?_, ?_⟩
 ·intro y hy; rcases List.mem_cons.1 hy with rfl | hy
  ·exact blk_ok _ _ _
  ·exact h.ok y hy
 ·intro y hy; rcases List.mem_cons.1 hy with rfl | hy
  ·exact hb
  ·exact h.holds y hy
 ·intro y hy; rcases List.mem_cons.1 hy with rfl | hy
  ·intro b' hb'; simp only [blk, Option.some.injEq] at hb'; subst hb'; exact ⟨.inl hM, hlt⟩
  ·exact h.lo y hy
 ·refine List.pairwise_cons.2 ⟨fun y hy b' hb' e => ?_, h.apart⟩
  simp only [blk, Option.some.injEq] at hb'; subst hb'
  exact hne y hy e
/-- A block of the caller's that is not written reads as it did. -/
theorem HpM.old {M : List Nat} {w0 w : World} {H : List It} (h : HpM M w0 w H) {b : Nat} {cs : List Value} {e : Nat} (hb : Blk w0 b cs e) (hM : b ∉ M) : Blk w b cs e :=
 hb.same (h.extM.block b hb.lt hM)
/-- Behind a call that may have written one of the blocks. -/
theorem HpM.wrote {M : List Nat} {w0 w w' : World} {H : List It} (h : HpM M w0 w H) {i b : Nat} {cs cs' : List Value} {e : Nat} (hi : H[i]? = some (blk b cs e)) (hg : w.grownBy w' (some b)) (hb : Blk w' b cs' e) : HpM M w0 w' (H.set i (blk b cs' e)) :=
 h.upd hi hg (blk_ok _ _ _) hb (fun b' hb' => .inl hb')
theorem HpM.tail {M : List Nat} {w0 w : World} {x : It} {H : List It} (h : HpM M w0 w (x :: H)) : HpM M w0 w H := h.sub (List.sublist_cons_self _ _)
/-- What a call has made joins what there is. -/
theorem HpM.join {M : List Nat} {w0 w w' : World} {H : List It} (h : HpM M w0 w H) : ∀ {L : List It}, HpM [] w w' L → HpM M w0 w' (L ++ H) := fun {L} k => by
 have hx : Ext w w' := k.ext
 have h' := h.call hx
 refine ⟨h'.extM, ?_, ?_, ?_, ?_⟩
 ·intro y hy; rcases List.mem_append.1 hy with hy | hy
  ·exact k.ok y hy
  ·exact h'.ok y hy
 ·intro y hy; rcases List.mem_append.1 hy with hy | hy
  ·exact k.holds y hy
  ·exact h'.holds y hy
 ·intro y hy b hb; rcases List.mem_append.1 hy with hy | hy
  ·obtain ⟨h1, h2⟩ := k.lo y hy b hb
   rcases h1 with h1 | h1
   ·simp at h1
   ·exact ⟨.inr (Nat.le_trans h.extM.size h1), h2⟩
  ·exact h'.lo y hy b hb
 ·refine List.pairwise_append.2 ⟨k.apart, h'.apart, fun x hx y hy b hb e => ?_⟩
  have h1 := (k.lo x hx b hb).1
  have h2 := (h.lo y hy b e).2
  rcases h1 with h1 | h1
  ·simp at h1
  ·omega
/-- A function that hands back things that it has made. -/
def MakesF (P : Program) (f : Nat) (args : Array Value) (R : Value → List It) : Prop := ∀ w, Calls P f args w fun e w' => ∃ v, e = .returned v ∧ HpM [] w w' (R v)
theorem MakesF.use {P : Program} {f : Nat} {args : Array Value} {R : Value → List It} (h : MakesF P f args R) {M : List Nat} {w0 w : World} {H : List It} (hp : HpM M w0 w H) {K : Value → World → Prop} (hk : ∀ v w', HpM M w0 w' (R v ++ H) → Ext w w' → K v w') :
  Calls P f args w fun e w' => ∃ v, e = .returned v ∧ K v w' := (h w).mono fun _ w' ⟨v, he, k⟩ => ⟨v, he, hk v w' (hp.join k) k.ext⟩
/-- A call that reads things of the world it is met in, and computes. -/
theorem v_reads {P : Program} {T : Tab} {Fs : List Nat} (hT : tabOk P T = true) (hF : ∀ f, memB f Fs = true → Enters P f) {f : Nat} {fn : Func} {c : Code} {args : List Value} {v : Value} {w : World} (hf : P.funcs[f]? = some fn) (hb : fn.body = some c) (hn : Nat.ble args.length fn.ntmps = true)
  (h : vgo P T Fs fn.ntmps c (entry 0 args) w (retK P fn.results.toList fun v' w' => v' = v ∧ Ext w w')) : Calls P f args.toArray w fun e w' => e = .returned v ∧ Ext w w' := by
 refine (v_fn hT hF hf hb (Nat.le_of_ble_eq_true hn) h).mono ?_
 rintro e w' ⟨v', rfl, rfl, hx⟩
 exact ⟨rfl, hx⟩
end V
namespace V
section
variable {P : Program} {T : Tab}

theorem Blk.cell {w : World} {b : Nat} {cs : List Value} {e : Nat} (h : Blk w b cs e) (j : Nat) : w.cell? ⟨b, j, none⟩ = cs[j]? := by
 obtain ⟨f, _, h⟩ := h; simp [World.cell?, h]
theorem Blk.free {w : World} {b : Nat} {cs : List Value} {e : Nat} (h : Blk w b cs e) (j : Nat) (hj : j < cs.length) : w.frozen? ⟨b, j, none⟩ = false := by
 obtain ⟨f, hf, h⟩ := h; simp [World.frozen?, h]; intro h1; rcases hf with hf | hf <;> omega
/-- Stores into the cells of a row that are not frozen. -/
theorem storeF (g o : Nat) (t : TypeId) (fz : Nat × Nat) : ∀ (vs : List Value) (i : Nat) (cur : Array Value) (w : World), w.heap[g]? = some (.cells cur t fz) → (fz.1 = fz.2 ∨ cur.size ≤ fz.1) → o + i + vs.length ≤ cur.size → (∀ v ∈ vs, v.oneCell' = true) →
  (storeCells ⟨g, o, none⟩ vs i).run P w = .ok () (w.setRow g (cur.toList.take (o + i) ++ vs ++ cur.toList.drop (o + i + vs.length)).toArray)
 | [], i, cur, w, hg, _, _, _ => by
  simp only [storeCells, List.append_nil, List.length_nil, Nat.add_zero, List.take_append_drop, Array.toArray_toList]
  rw [setRow_self w g cur t fz hg]
  rfl
 | v :: rest, i, cur, w, hg, hf, hl, h1 => by
  have hi : o + i < cur.size := by simp at hl; omega
  have hadd : (⟨g, o, none⟩ : Addr).add i = ⟨g, o + i, none⟩ := by unfold Addr.add; split <;> simp_all
  have hcell : w.cell? ⟨g, o + i, none⟩ = some cur[o + i] := by simp [World.cell?, hg, hi]
  have hfro : w.frozen? ⟨g, o + i, none⟩ = false := by simp [World.frozen?, hg]; intro h2; rcases hf with hf | hf <;> omega
  have hst : (store ((⟨g, o, none⟩ : Addr).add i) v).run P w = .ok () (w.setRow g (cur.setIfInBounds (o + i) v)) := by
   rw [hadd, run_store P w _ v _ (h1 v (by simp)), hcell]
   simp [hfro, setCell_eq_setRow w g (o + i) cur t fz v hg]
  have ih := storeF g o t fz rest (i + 1) (cur.setIfInBounds (o + i) v) (w.setRow g (cur.setIfInBounds (o + i) v)) (setRow_heap w g cur _ t _ hg) (by simpa using hf) (by simp at hl ⊢; omega) (fun x hx => h1 x (by simp [hx]))
  simp only [storeCells, Sem.run_bind, hst, Result.andThen, ih]
  rw [setRow_setRow]
  have e := list_seg_step cur.toList (o + i) v rest (by simp at hl ⊢; omega)
  congr 3
  simpa [Nat.add_assoc] using e

theorem Blk.ext {w w' : World} {b : Nat} {cs : List Value} {e : Nat} (h : Blk w b cs e) (hx : Ext w w') : Blk w' b cs e := h.same (Below.block hx b h.lt)

def plainT (T : Tab) (t : Nat) : Bool :=
 match tfind T t with
 | some ⟨.int _, _⟩ | some ⟨.str, _⟩ | some ⟨.bool, _⟩ | some ⟨.slice _, _⟩ | some ⟨.ptr _, _⟩ => true
 | _ => false
theorem run_isAgg_of (hT : tabOk P T = true) {t : Nat} (h : plainT T t = true) (w : World) : (isAgg t).run P w = .ok false w := by
 unfold plainT at h
 have key : ∀ {kd : TK} {n : Nat}, tfind T t = some ⟨kd, n⟩ → kindOk P t kd = true := fun h => tab_under hT h
 split at h <;> try cases h
 all_goals
  rename_i hf
  have hk := key hf
  simp only [kindOk] at hk
  split at hk <;> try cases hk
  rename_i hu
  simp [isAgg, Go.Proofs.Ytefjgoeabfgkmaa.V.run_underlying hu, Result.andThen]
theorem run_isAgg_arr (hT : tabOk P T = true) {t len e n : Nat} (h : tfind T t = some ⟨.arr len e, n⟩) (w : World) : (isAgg t).run P w = .ok true w := by
 simp [isAgg, Go.Proofs.Ytefjgoeabfgkmaa.V.run_underlying (tab_arr hT h), Result.andThen]
theorem run_isAgg_struct (hT : tabOk P T = true) {t : Nat} {fs : List (Nat × Nat)} {n : Nat} (h : tfind T t = some ⟨.struct fs, n⟩) (w : World) : (isAgg t).run P w = .ok true w := by
 obtain ⟨fs', hu, _⟩ := tab_struct hT h
 simp [isAgg, Go.Proofs.Ytefjgoeabfgkmaa.V.run_underlying hu, Result.andThen]
def aggT (T : Tab) (t : Nat) : Option Nat :=
 match tfind T t with
 | some ⟨.arr _ _, n⟩ | some ⟨.struct _, n⟩ => some n
 | _ => none
theorem run_isAgg_agg (hT : tabOk P T = true) {t n : Nat} (h : aggT T t = some n) (w : World) : (isAgg t).run P w = .ok true w ∧ (sizeOf t).run P w = .ok n w := by
 unfold aggT at h
 split at h <;> try cases h
 ·rename_i hf; exact ⟨run_isAgg_arr hT hf w, tab_size hT hf w⟩
 ·rename_i hf; exact ⟨run_isAgg_struct hT hf w, tab_size hT hf w⟩

/-! loads -/
theorem run_ld (hT : tabOk P T = true) {t : Nat} (ht : plainT T t = true) {w : World} {a : Addr} {v : Value} (hc : w.cell? a = some v) : (Instr.loadAt t (.pointer (some a))).run P w = .ok v w := by
 simp only [Instr.loadAt, Instr.sureAddr, loadVar, Sem.run_bind, Sem.run_pure, Result.andThen, run_isAgg_of hT ht]
 simp [load, Sem.run, hc]
theorem run_loadVar1 (hT : tabOk P T = true) {t : Nat} (ht : plainT T t = true) {w : World} {a : Addr} {v : Value} (hc : w.cell? a = some v) : (loadVar t a).run P w = .ok v w := by
 simp only [loadVar, Sem.run_bind, Sem.run_pure, Result.andThen, run_isAgg_of hT ht]
 simp [load, Sem.run, hc]
theorem Blk.ld {w : World} {b : Nat} {cs : List Value} {e : Nat} (h : Blk w b cs e) (hT : tabOk P T = true) {t off : Nat} {v : Value} (ht : plainT T t = true) (hc : cs[off]? = some v) :
  (Instr.loadAt t (.pointer (some ⟨b, off, none⟩))).run P w = .ok v w := run_ld hT ht ((h.cell off).trans hc)
theorem run_loadVarN (hT : tabOk P T = true) {t n : Nat} (ht : aggT T t = some n) {w : World} {b off : Nat} {vs : List Value} (hn : vs.length = n) (hc : ∀ j v, vs[j]? = some v → w.cell? ⟨b, off + j, none⟩ = some v) :
  (loadVar t ⟨b, off, none⟩).run P w = .ok (.agg vs.toArray) w := by
 obtain ⟨h1, h2⟩ := run_isAgg_agg hT ht w
 simp only [loadVar, Sem.run_bind, Result.andThen, h1, h2]
 have := run_loadCells_list (P := P) w ⟨b, off, none⟩ vs (fun j v hj => by rw [add_none]; exact hc j v hj)
 rw [hn] at this
 simp [this, h2, Result.andThen]
theorem run_ldN (hT : tabOk P T = true) {t n : Nat} (ht : aggT T t = some n) {w : World} {b off : Nat} {vs : List Value} (hn : vs.length = n) (hc : ∀ j v, vs[j]? = some v → w.cell? ⟨b, off + j, none⟩ = some v) :
  (Instr.loadAt t (.pointer (some ⟨b, off, none⟩))).run P w = .ok (.agg vs.toArray) w := by
 simp only [Instr.loadAt, Instr.sureAddr, Sem.run_bind, Sem.run_pure, Result.andThen]
 exact run_loadVarN hT ht hn hc
theorem Blk.ldN {w : World} {b : Nat} {cs : List Value} {e : Nat} (h : Blk w b cs e) (hT : tabOk P T = true) {t n : Nat} (ht : aggT T t = some n) (hn : cs.length = n) :
  (Instr.loadAt t (.pointer (some ⟨b, 0, none⟩))).run P w = .ok (.agg cs.toArray) w :=
 run_ldN hT ht hn fun j v hj => by rw [Nat.zero_add, h.cell]; exact hj
theorem Blk.lvN {w : World} {b : Nat} {cs : List Value} {e : Nat} (h : Blk w b cs e) (hT : tabOk P T = true) {t n : Nat} (ht : aggT T t = some n) (hn : cs.length = n) :
  (loadVar t ⟨b, 0, none⟩).run P w = .ok (.agg cs.toArray) w :=
 run_loadVarN hT ht hn fun j v hj => by rw [Nat.zero_add, h.cell]; exact hj
/-! new blocks -/
/-- What has been made is the heap's last block. -/
theorem HpM.made {M : List Nat} {w0 w : World} {H : List It} (h : HpM M w0 w H) {s : Sem Value} {cs : List Value} {e : Nat} {g : Nat → Value} (hr : s.run P w = .ok (g w.heap.size) (w.alloc (.cells cs.toArray e))) :
  ∃ b w', s.run P w = .ok (g b) w' ∧ HpM M w0 w' (blk b cs e :: H) ∧ Ext w w' ∧ b = w.heap.size := by
 refine ⟨_, _, hr, h.push ((Ext.refl w).alloc _) (blk_ok _ _ _) ?_ ?_, (Ext.refl w).alloc _, rfl⟩
 ·exact ⟨(0, 0), .inl rfl, heap_alloc_new w _⟩
 ·intro b hb
  simp only [blk, Option.some.injEq] at hb
  subst hb
  exact ⟨Nat.le_refl _, by simp⟩
def zeroC (P : Program) (t : Nat) : Option (List Value) := ((P.info? t).bind (·.zero)).map (·.cells.toList)
theorem HpM.alloc {M : List Nat} {w0 w : World} {H : List It} (h : HpM M w0 w H) {t : Nat} {cs : List Value} (hz : zeroC P t = some cs) :
  ∃ b w', (Instr.alloc t true (.tuple #[])).run P w = .ok (.pointer (some ⟨b, 0, none⟩)) w' ∧ HpM M w0 w' (blk b cs t :: H) ∧ Ext w w' := by
 obtain ⟨b, w', h1, h2, h3, _⟩ := h.made (P := P) (s := Instr.alloc t true (.tuple #[])) (cs := cs) (e := t) (g := fun b => .pointer (some ⟨b, 0, none⟩)) (by
  unfold zeroC at hz
  cases hi : P.info? t with
  | none => simp [hi] at hz
  | some i =>
   cases hzz : i.zero with
   | none => simp [hi, hzz] at hz
   | some z =>
    simp only [hi, hzz, Option.bind_some, Option.map_some, Option.some.injEq] at hz
    subst hz
    simp [Instr.alloc, zeroValue, typeInfo, hi, hzz, newVar, newRow, Result.andThen])
 exact ⟨b, w', h1, h2, h3⟩
theorem HpM.box {M : List Nat} {w0 w : World} {H : List It} (h : HpM M w0 w H) (t : Nat) (v : Value) {cs : List Value} (hc : v.cells.toList = cs) :
  ∃ b w', (Instr.box t v).run P w = .ok (.pointer (some ⟨b, 0, none⟩)) w' ∧ HpM M w0 w' (blk b cs t :: H) ∧ Ext w w' := by
 obtain ⟨b, w', h1, h2, h3, _⟩ := h.made (P := P) (s := Instr.box t v) (cs := cs) (e := t) (g := fun b => .pointer (some ⟨b, 0, none⟩)) (by
  subst hc
  simp [Instr.box, newVar, newRow, Result.andThen])
 exact ⟨b, w', h1, h2, h3⟩

/-! stores -/
theorem grownBy_setRow (w : World) (g : Nat) (cs : Array Value) : w.grownBy (w.setRow g cs) (some g) :=
 ⟨rfl, rfl, rfl, by simp [World.setRow], fun k _ hk => setRow_other w g k cs (fun e => hk (by rw [e]))⟩
theorem HpM.st {M : List Nat} {w0 w : World} {H : List It} (h : HpM M w0 w H) (hT : tabOk P T = true) {t n : Nat} {kd : TK} (ht : tfind T t = some ⟨kd, n⟩) {i b off : Nat} {cs : List Value} {e : Nat} (hi : H[i]? = some (blk b cs e)) {v : Value} {vs : List Value}
  (hv : v.cells.toList = vs) (hn : vs.length = n) (h1 : ∀ u ∈ vs, u.oneCell' = true) (ho : off + n ≤ cs.length) :
  ∃ w', (do Instr.storeAt t (.pointer (some ⟨b, off, none⟩)) v; Pure.pure undef : Sem Value).run P w = .ok undef w' ∧ HpM M w0 w' (H.set i (blk b (cs.take off ++ vs ++ cs.drop (off + n)) e)) := by
 have hb : Blk w b cs e := h.get hi
 obtain ⟨f, hf, hb⟩ := hb
 have hst := storeF (P := P) b off e f vs 0 cs.toArray w hb (by simpa using hf) (by simp; omega) h1
 simp only [Nat.add_zero] at hst
 refine ⟨_, ?_, h.upd hi (grownBy_setRow w b _) (blk_ok _ _ _) ⟨f, hf.imp_right (fun h => by simp; omega), setRow_heap w b cs.toArray _ e f hb⟩ (fun b' hb' => .inl hb')⟩
 have hsz : v.cells.size = n := by rw [← hn, ← hv]; simp
 simp only [Instr.storeAt, Instr.sureAddr, storeVar, Sem.run_bind, Sem.run_pure, Result.andThen, tab_size hT ht, hsz, ne_eq, not_true_eq_false, if_false, hv, hst, hn]
theorem HpM.st1 {M : List Nat} {w0 w : World} {H : List It} (h : HpM M w0 w H) (hT : tabOk P T = true) {t : Nat} {kd : TK} (ht : tfind T t = some ⟨kd, 1⟩) {i b off : Nat} {cs : List Value} {e : Nat} (hi : H[i]? = some (blk b cs e)) {v : Value}
  (hv : v.cells = #[v]) (h1 : v.oneCell' = true) (ho : off < cs.length) :
  ∃ w', (do Instr.storeAt t (.pointer (some ⟨b, off, none⟩)) v; Pure.pure undef : Sem Value).run P w = .ok undef w' ∧ HpM M w0 w' (H.set i (blk b (cs.set off v) e)) := by
 obtain ⟨w', hr, hh⟩ := h.st hT ht hi (v := v) (vs := [v]) (by rw [hv]) rfl (fun u hu => by simp at hu; subst hu; exact h1) (off := off) (by omega)
 refine ⟨w', hr, ?_⟩
 have : cs.take off ++ [v] ++ cs.drop (off + 1) = cs.set off v := by rw [List.set_eq_take_append_cons_drop, if_pos ho]; simp
 rwa [this] at hh
/-- a whole block -/
theorem HpM.stA {M : List Nat} {w0 w : World} {H : List It} (h : HpM M w0 w H) (hT : tabOk P T = true) {t n : Nat} {kd : TK} (ht : tfind T t = some ⟨kd, n⟩) {i b : Nat} {cs : List Value} {e : Nat} (hi : H[i]? = some (blk b cs e)) {vs : List Value}
  (hn : vs.length = n) (h1 : ∀ u ∈ vs, u.oneCell' = true) (ho : cs.length = n) :
  ∃ w', (do Instr.storeAt t (.pointer (some ⟨b, 0, none⟩)) (.agg vs.toArray); Pure.pure undef : Sem Value).run P w = .ok undef w' ∧ HpM M w0 w' (H.set i (blk b vs e)) := by
 obtain ⟨w', hr, hh⟩ := h.st hT ht hi (v := .agg vs.toArray) (vs := vs) (by simp [Value.cells]) hn h1 (off := 0) (by omega)
 refine ⟨w', hr, ?_⟩
 have : cs.take 0 ++ vs ++ cs.drop (0 + n) = vs := by simp [← ho]
 rwa [this] at hh

/-- '[]byte(s)': a new row, the string's bytes and whatever is behind them. -/
theorem HpM.bytes {M : List Nat} {w0 w : World} {H : List It} (h : HpM M w0 w H) (hT : tabOk P T = true) {src dst e n1 n2 n3 : Nat} (hs : tfind T src = some ⟨.str, n1⟩) (hd : tfind T dst = some ⟨.slice e, n2⟩) (he : tfind T e = some ⟨.int .u8, n3⟩) (s : ByteArray) :
  ∃ b zs cap w', (convert src dst (.string s)).run P w = .ok (.slice (some ⟨b, 0, none⟩) s.size cap) w' ∧ HpM M w0 w' (blk b (s.data.toList.map (fun x => Value.int .u8 (x.toNat : Nat)) ++ zs) e :: H) ∧ Ext w w' := by
 have hr := run_bytes_of_string (P := P) w src dst e s (tab_str hT hs) (tab_slice hT hd) (tab_int hT he)
 have hx : Ext w (w.drew.alloc (.cells (bytesRow s (grownCap w s.size 0 e)) e ((bytesRow s (grownCap w s.size 0 e)).size, (bytesRow s (grownCap w s.size 0 e)).size + 1))) := ((Ext.refl w).drew).alloc _
 have hn : ∀ o : Obj, (w.drew.alloc o).heap[w.heap.size]? = some o := fun o => by
  show (w.heap.push o)[w.heap.size]? = some o
  simp
 refine ⟨w.heap.size, List.replicate (grownCap w s.size 0 e - s.size) (.int .u8 0), _, _, hr, h.push hx (blk_ok _ _ _) ⟨((bytesRow s (grownCap w s.size 0 e)).size, (bytesRow s (grownCap w s.size 0 e)).size + 1), .inr (by simp [bytesRow]), ?_⟩ ?_, hx⟩
 ·rw [hn]
  refine congrArg (fun c => some (Obj.cells c e _)) ?_
  apply Array.ext'
  simp [bytesRow]
 ·intro b hb
  simp only [blk, Option.some.injEq] at hb
  subst hb
  exact ⟨Nat.le_refl _, by rw [World.size_alloc]; exact Nat.lt_succ_self _⟩

/-! append -/
def slOk (P : Program) (t e size bytes : Nat) : Bool :=
 (match P.underlying t with | some (.slice e') => e == e' | _ => false) &&
 (match P.info? e with | some i => i.size == size && i.bytes == bytes && (match i.zero with | some z => z.cells.size == size | none => false) | none => false) && Nat.blt 0 size
theorem slOk_spec {t e size bytes : Nat} (h : slOk P t e size bytes = true) : P.underlying t = some (.slice e) ∧ (∃ i z, P.info? e = some i ∧ i.size = size ∧ i.bytes = bytes ∧ i.zero = some z ∧ z.cells.size = size) ∧ 0 < size := by
 simp only [slOk, Bool.and_eq_true] at h
 obtain ⟨⟨h1, h2⟩, h3⟩ := h
 refine ⟨?_, ?_, by simpa using h3⟩
 ·split at h1
  ·rename_i e' he; rw [he]; simp at h1; rw [h1]
  ·cases h1
 ·split at h2
  ·rename_i i hi
   simp only [Bool.and_eq_true] at h2
   obtain ⟨⟨ha, hb⟩, hc⟩ := h2
   split at hc
   ·rename_i z hz; exact ⟨i, z, hi, by simpa using ha, by simpa using hb, hz, by simpa using hc⟩
   ·cases hc
  ·cases h2
theorem HpM.app {M : List Nat} {w0 w : World} {H : List It} (h : HpM M w0 w H) {t e size bytes : Nat} (hs : slOk P t e size bytes = true) {i : Nat} {v : Value} {n : Nat} {xs : List Value} (hi : H[i]? = some (row e size v n xs))
  {tx ty : Nat} {x : Value} {m : Nat} {news : List Value} (src : Src P size tx x m news w) (hb : (n + m) * bytes ≤ 140737488355328) (hml : n + m ≤ maxLen) :
  ∃ v' w', (Builtin.append_ #[t, tx] ty #[v, x]).run P w = .ok v' w' ∧ HpM M w0 w' (H.set i (row e size v' (n + m) (xs ++ news))) ∧ (v' = .slice none 0 0 ∨ ∃ b c, v' = .slice (some ⟨b, 0, none⟩) (n + m) c) := by
 obtain ⟨hu, ⟨inf, z, hinf, rfl, rfl, hz, hzs⟩, hpos⟩ := slOk_spec hs
 have hown : w.ownsRow 0 e inf.size v n xs := h.get hi
 have hlen : (xs ++ news).length = (n + m) * inf.size := by rw [List.length_append, hown.1, src.newsLen, Nat.add_mul]
 have hml' : ((n + m : Nat) : Int) ≤ 9223372036854775807 := by unfold maxLen at hml; omega
 -- the arm that grows
 have grow : ∀ (old : Nat), old < n + m → ∀ (base : Option Addr), v = .slice base n old → (Builtin.firstCells inf.size n (.slice base n old)).run P w.drew = .ok xs.toArray w.drew →
   ∃ v' w', (Builtin.append_ #[t, tx] ty #[v, x]).run P w = .ok v' w' ∧ HpM M w0 w' (H.set i (row e inf.size v' (n + m) (xs ++ news))) ∧ (v' = .slice none 0 0 ∨ ∃ b c, v' = .slice (some ⟨b, 0, none⟩) (n + m) c) := by
  intro old ho base hv hf
  have hr := run_append_grow_src (P := P) w t tx ty e inf z hu hinf hz base n old xs hf x m news src ho hml' (growslice_fits ho hb)
  rw [hv]
  refine ⟨_, _, hr, h.upd hi ?_ (row_ok _ _ _ _ _) ?_ ?_, .inr ⟨_, _, rfl⟩⟩
  ·refine ⟨rfl, rfl, rfl, by simp, fun k hk _ => heap_alloc_old w.drew _ hk⟩
  ·refine ⟨hlen, .inr ⟨w.heap.size, _, _, rfl, Nat.zero_le _, heap_alloc_new w.drew _, grownCap_ge _ _ _ _, grownCap_le_maxLen _ _ _ _ hml, ?_, ?_⟩⟩
   ·have := grownCap_ge w (n + m) old e
    simp only [Array.size_append, List.size_toArray, size_zeroCells, hzs, hlen, ← Nat.add_mul]
    congr 1; omega
   ·simp only [Array.toList_append]
    rw [← hlen]; exact List.take_left
  ·intro b hb'
   simp only [row, Value.ownBlock, Option.some.injEq] at hb'
   subst hb'
   exact .inr ⟨Nat.le_refl _, by simp⟩
 rcases hown.2 with ⟨rfl, rfl⟩ | ⟨g, cap, cur, rfl, _, hg, hnc, hcm, hcs, htake⟩
 ·have hx : xs = [] := List.eq_nil_of_length_eq_zero (by simpa using hown.1)
  subst hx
  by_cases hm : m = 0
  ·subst hm
   have hn : news = [] := List.eq_nil_of_length_eq_zero (by simpa using src.newsLen)
   subst hn
   refine ⟨.slice none 0 0, w, ?_, h.upd hi ⟨rfl, rfl, rfl, Nat.le_refl _, fun _ _ _ => rfl⟩ (row_ok _ _ _ _ _) (World.ownsRow_nil _ _ _ _) (fun b hb => by simp [row, Value.ownBlock] at hb), .inl rfl⟩
   rcases src.kind with ⟨e', hk⟩ | hk <;> simp [Builtin.append_, Go.Proofs.Ytefjgoeabfgkmaa.V.run_underlying hu, Go.Proofs.Ytefjgoeabfgkmaa.V.run_underlying hk, sizeOf, typeInfo, hinf, src.len, src.cells, Result.andThen]
  ·exact grow 0 (by omega) none rfl (by simp [Builtin.firstCells])
 ·by_cases hroom : n + m ≤ cap
  ·have hfit : n * inf.size + news.length ≤ cur.size := by rw [src.newsLen, hcs, ← Nat.add_mul]; exact Nat.mul_le_mul_right _ hroom
   have hst := run_storeCells_at (P := P) g (n * inf.size) e news 0 cur w hg (by simpa using hfit) src.one
   simp only [Nat.add_zero] at hst
   refine ⟨.slice (some ⟨g, 0, none⟩) (n + m) cap, w.setRow g (cur.toList.take (n * inf.size) ++ news ++ cur.toList.drop (n * inf.size + news.length)).toArray, ?_, h.upd hi (grownBy_setRow w g _) (row_ok _ _ _ _ _) ?_ (fun b hb => .inl hb), .inr ⟨_, _, rfl⟩⟩
   ·rcases src.kind with ⟨e', hk⟩ | hk <;> simp [Builtin.append_, Go.Proofs.Ytefjgoeabfgkmaa.V.run_underlying hu, Go.Proofs.Ytefjgoeabfgkmaa.V.run_underlying hk, sizeOf, typeInfo, hinf, src.len, hroom, src.cells, Addr.add_lit, hst, Result.andThen]
   ·refine ⟨hlen, .inr ⟨g, cap, _, rfl, Nat.zero_le _, setRow_heap w g cur _ e _ hg, hroom, hcm, ?_, ?_⟩⟩
    ·simp only [List.size_toArray, List.length_append, List.length_take, List.length_drop, Array.length_toList]
     omega
    ·simp only
     rw [htake, ← hlen]; exact List.take_left
  ·have holds : ∀ j u, xs[j]? = some u → w.drew.cell? ((⟨g, 0, none⟩ : Addr).add j) = some u := fun j u hj => by
    have := hown.cells (g := g) rfl j u hj
    simpa using this
   exact grow cap (by omega) (some ⟨g, 0, none⟩) rfl (run_firstCells_some (P := P) w.drew inf.size n ⟨g, 0, none⟩ n cap xs hown.1 holds)

/-! bytes and strings -/
def bytesV (l : List UInt8) : List Value := l.map fun b => .int .u8 (b.toNat : Nat)
theorem conv_bytes {hT : tabOk P T = true} {src dst e n1 n2 n3 : Nat} (hs : tfind T src = some ⟨.slice e, n1⟩) (he : tfind T e = some ⟨.int .u8, n2⟩) (hd : tfind T dst = some ⟨.str, n3⟩) {w : World} {b off len cap : Nat} {l : List UInt8}
  (hl : l.length = len) (hc : ∀ j, j < len → w.cell? ⟨b, off + j, none⟩ = (bytesV l)[j]?) :
  (convert src dst (.slice (some ⟨b, off, none⟩) len cap)).run P w = .ok (.string ⟨l.toArray⟩) w := by
 rw [run_convert_bytes_string w src dst e _ len cap (tab_slice hT hs) (tab_int hT he) (tab_str hT hd)]
 have hld := run_loadCells_list (P := P) w ⟨b, off, none⟩ (bytesV l) (fun j v hj => by
  rw [add_none, hc j (by rw [← hl]; have := (List.getElem?_eq_some_iff.1 hj).1; simpa [bytesV] using this)]; exact hj)
 rw [show (bytesV l).length = len by simp [bytesV, hl]] at hld
 rw [run_bytesToString w _ len cap (l.map fun b => (b.toNat : Int)) (by rw [hld]; simp [bytesV, Function.comp_def])]
 rw [foldl_push_byteCells]; simp
theorem conv_nil {hT : tabOk P T = true} {src dst e n1 n2 n3 : Nat} (hs : tfind T src = some ⟨.slice e, n1⟩) (he : tfind T e = some ⟨.int .u8, n2⟩) (hd : tfind T dst = some ⟨.str, n3⟩) {w : World} {len cap : Nat} :
  (convert src dst (.slice none len cap)).run P w = .ok (.string ⟨#[]⟩) w := by
 rw [run_convert_bytes_string w src dst e _ len cap (tab_slice hT hs) (tab_int hT he) (tab_str hT hd)]
 rfl
theorem Blk.str {w : World} {b : Nat} {cs : List Value} {e' : Nat} (h : Blk w b cs e') (hT : tabOk P T = true) {src dst e n1 n2 n3 : Nat} (hs : tfind T src = some ⟨.slice e, n1⟩) (he : tfind T e = some ⟨.int .u8, n2⟩) (hd : tfind T dst = some ⟨.str, n3⟩)
  {len cap : Nat} {l : List UInt8} (hcs : cs = bytesV l) (hl : l.length = len) :
  (convert src dst (.slice (some ⟨b, 0, none⟩) len cap)).run P w = .ok (.string ⟨l.toArray⟩) w :=
 conv_bytes (hT := hT) hs he hd hl fun j _ => by rw [Nat.zero_add, h.cell, hcs]
theorem Blk.str' {w : World} {b : Nat} {cs : List Value} {e' : Nat} (h : Blk w b cs e') (hT : tabOk P T = true) {src dst e n1 n2 n3 : Nat} (hs : tfind T src = some ⟨.slice e, n1⟩) (he : tfind T e = some ⟨.int .u8, n2⟩) (hd : tfind T dst = some ⟨.str, n3⟩)
  {len cap : Nat} {l : List UInt8} {zs : List Value} (hcs : cs = bytesV l ++ zs) (hl : l.length = len) :
  (convert src dst (.slice (some ⟨b, 0, none⟩) len cap)).run P w = .ok (.string ⟨l.toArray⟩) w :=
 conv_bytes (hT := hT) hs he hd hl fun j hj => by rw [Nat.zero_add, h.cell, hcs, List.getElem?_append_left (by simpa [bytesV] using (by omega : j < l.length))]
/-- the bytes of a slice of the call's own, as a string -/
theorem row_str {w : World} {e : Nat} {v : Value} {n : Nat} {l : List UInt8} (h : (row e 1 v n (bytesV l)).holds w) (hT : tabOk P T = true) {src dst n1 n2 n3 : Nat} (hs : tfind T src = some ⟨.slice e, n1⟩) (he : tfind T e = some ⟨.int .u8, n2⟩) (hd : tfind T dst = some ⟨.str, n3⟩) :
  (convert src dst v).run P w = .ok (.string ⟨l.toArray⟩) w := by
 have ho : w.ownsRow 0 e 1 v n (bytesV l) := h
 have hl : l.length = n := by have := ho.1; simpa [bytesV] using this
 rcases ho.2 with ⟨rfl, rfl⟩ | ⟨g, cap, cur, rfl, _, hg, hnc, hcm, hcs, htake⟩
 ·have : l = [] := List.eq_nil_of_length_eq_zero hl
  subst this
  exact conv_nil (hT := hT) hs he hd
 ·refine conv_bytes (hT := hT) hs he hd hl fun j hj => ?_
  have := ho.cells (g := g) rfl j
  cases hb : (bytesV l)[j]? with
  | none => simp [bytesV, hl] at hb; omega
  | some u => have := this u hb; rw [add_none] at this; exact this

/-! the same, as rules of the walk: what is owed behind an operation that V hands over -/
section
variable {M : List Nat} {w0 w : World} {H : List It} {K : Value → World → Prop}
theorem HpM.kmade (h : HpM M w0 w H) {s : Sem Value} (cs : List Value) (e : Nat) (g : Nat → Value) (hr : s.run P w = .ok (g w.heap.size) (w.alloc (.cells cs.toArray e)))
  (hk : ∀ b w', HpM M w0 w' (blk b cs e :: H) → Ext w w' → K (g b) w') : ∃ v w', s.run P w = .ok v w' ∧ K v w' := by
 obtain ⟨b, w', h1, h2, h3, _⟩ := h.made (P := P) (g := g) hr
 exact ⟨_, _, h1, hk b w' h2 h3⟩
theorem HpM.kalloc (h : HpM M w0 w H) {t : Nat} {cs : List Value} (hz : zeroC P t = some cs) (hk : ∀ b w', HpM M w0 w' (blk b cs t :: H) → Ext w w' → K (.pointer (some ⟨b, 0, none⟩)) w') :
  ∃ v w', (Instr.alloc t true (.tuple #[])).run P w = .ok v w' ∧ K v w' := by
 obtain ⟨b, w', h1, h2, h3⟩ := h.alloc hz
 exact ⟨_, _, h1, hk b w' h2 h3⟩
theorem HpM.kbox (h : HpM M w0 w H) {t : Nat} {v : Value} (cs : List Value) (hc : v.cells.toList = cs) (hk : ∀ b w', HpM M w0 w' (blk b cs t :: H) → Ext w w' → K (.pointer (some ⟨b, 0, none⟩)) w') :
  ∃ u w', (Instr.box t v).run P w = .ok u w' ∧ K u w' := by
 obtain ⟨b, w', h1, h2, h3⟩ := h.box (P := P) t v hc
 exact ⟨_, _, h1, hk b w' h2 h3⟩
theorem HpM.kbytes (h : HpM M w0 w H) (hT : tabOk P T = true) {src dst e n1 n2 n3 : Nat} (hs : tfind T src = some ⟨.str, n1⟩) (hd : tfind T dst = some ⟨.slice e, n2⟩) (he : tfind T e = some ⟨.int .u8, n3⟩) {s : ByteArray}
  (hk : ∀ b zs cap w', HpM M w0 w' (blk b (s.data.toList.map (fun x => Value.int .u8 (x.toNat : Nat)) ++ zs) e :: H) → Ext w w' → K (.slice (some ⟨b, 0, none⟩) s.size cap) w') :
  ∃ v w', (convert src dst (.string s)).run P w = .ok v w' ∧ K v w' := by
 obtain ⟨b, zs, cap, w', hr, hh, hx⟩ := h.bytes hT hs hd he s
 exact ⟨_, w', hr, hk b zs cap w' hh hx⟩
theorem HpM.kst1 (h : HpM M w0 w H) (hT : tabOk P T = true) {t : Nat} {kd : TK} (ht : tfind T t = some ⟨kd, 1⟩) (i : Nat) {b off : Nat} {cs : List Value} {e : Nat} (hi : H[i]? = some (blk b cs e)) {v : Value}
  (hv : v.cells = #[v]) (h1 : v.oneCell' = true) (ho : off < cs.length) (hk : ∀ w', HpM M w0 w' (H.set i (blk b (cs.set off v) e)) → K undef w') :
  ∃ u w', (do Instr.storeAt t (.pointer (some ⟨b, off, none⟩)) v; Pure.pure undef : Sem Value).run P w = .ok u w' ∧ K u w' := by
 obtain ⟨w', h1, h2⟩ := h.st1 hT ht hi hv h1 ho
 exact ⟨_, _, h1, hk w' h2⟩
theorem HpM.kst (h : HpM M w0 w H) (hT : tabOk P T = true) {t n : Nat} {kd : TK} (ht : tfind T t = some ⟨kd, n⟩) (i : Nat) {b off : Nat} {cs : List Value} {e : Nat} (hi : H[i]? = some (blk b cs e)) {v : Value} (vs : List Value)
  (hv : v.cells.toList = vs) (hn : vs.length = n) (h1 : ∀ u ∈ vs, u.oneCell' = true) (ho : off + n ≤ cs.length) (hk : ∀ w', HpM M w0 w' (H.set i (blk b (cs.take off ++ vs ++ cs.drop (off + n)) e)) → K undef w') :
  ∃ u w', (do Instr.storeAt t (.pointer (some ⟨b, off, none⟩)) v; Pure.pure undef : Sem Value).run P w = .ok u w' ∧ K u w' := by
 obtain ⟨w', h1, h2⟩ := h.st hT ht hi hv hn h1 ho
 exact ⟨_, _, h1, hk w' h2⟩
theorem HpM.kstA (h : HpM M w0 w H) (hT : tabOk P T = true) {t n : Nat} {kd : TK} (ht : tfind T t = some ⟨kd, n⟩) (i : Nat) {b : Nat} {cs : List Value} {e : Nat} (hi : H[i]? = some (blk b cs e)) {vs : List Value}
  (hn : vs.length = n) (h1 : ∀ u ∈ vs, u.oneCell' = true) (ho : cs.length = n) (hk : ∀ w', HpM M w0 w' (H.set i (blk b vs e)) → K undef w') :
  ∃ u w', (do Instr.storeAt t (.pointer (some ⟨b, 0, none⟩)) (.agg vs.toArray); Pure.pure undef : Sem Value).run P w = .ok u w' ∧ K u w' := by
 obtain ⟨w', h1, h2⟩ := h.stA hT ht hi hn h1 ho
 exact ⟨_, _, h1, hk w' h2⟩
theorem HpM.kapp (h : HpM M w0 w H) {t e size bytes : Nat} (hs : slOk P t e size bytes = true) (i : Nat) {v : Value} {n : Nat} {xs : List Value} (hi : H[i]? = some (row e size v n xs))
  {tx ty : Nat} {x : Value} {m : Nat} {news : List Value} (src : Src P size tx x m news w) (hb : (n + m) * bytes ≤ 140737488355328) (hml : n + m ≤ maxLen)
  (hk : ∀ v' w', HpM M w0 w' (H.set i (row e size v' (n + m) (xs ++ news))) → K v' w') :
  ∃ u w', (Builtin.append_ #[t, tx] ty #[v, x]).run P w = .ok u w' ∧ K u w' := by
 obtain ⟨v', w', h1, h2, _⟩ := h.app (ty := ty) hs hi src hb hml
 exact ⟨_, _, h1, hk v' w' h2⟩
/-- a block that a slice of one element reads -/
theorem Blk.src (hT : tabOk P T = true) {tx el n1 size b c : Nat} {cs : List Value} {e m : Nat} (h : Blk w b cs e) (ht : tfind T tx = some ⟨.slice el, n1⟩) (hl : cs.length = m * size) (h1 : ∀ u ∈ cs, u.oneCell' = true) :
  Src P size tx (.slice (some ⟨b, 0, none⟩) m c) m cs w :=
 Src.ofSlice w (tab_slice hT ht) ⟨b, 0, none⟩ m c cs hl (fun j u hj => by rw [add_none, Nat.zero_add, h.cell]; exact hj) h1
/-- an element of a slice of the call's own -/
theorem row_cell {e size : Nat} {g n c : Nat} {xs : List Value} (h : (row e size (.slice (some ⟨g, 0, none⟩) n c) n xs).holds w) {j : Nat} {v : Value} (hj : xs[j]? = some v) : w.cell? ⟨g, j, none⟩ = some v := by
 have ho : w.ownsRow 0 e size (.slice (some ⟨g, 0, none⟩) n c) n xs := h
 have := ho.cells (g := g) rfl j v hj
 rwa [add_none, Nat.zero_add] at this
/-- make([]E, n), an element of one cell: n zeros. -/
theorem HpM.kmkS (h : HpM M w0 w H) {t e bytes : Nat} (hs : slOk P t e 1 bytes = true) {z : Value} (hz : zeroC P e = some [z]) (n : Nat) {kl kc : IntKind} (hb : bytes * n ≤ 281474976710656) (h63 : n ≤ maxLen)
  (hk : ∀ b w', HpM M w0 w' (blk b (List.replicate n z) e :: H) → Ext w w' → K (.slice (some ⟨b, 0, none⟩) n n) w') :
  ∃ v w', (Instr.makeSlice t (.int kl (n : Int)) (.int kc (n : Int))).run P w = .ok v w' ∧ K v w' := by
 obtain ⟨hu, ⟨inf, z', hinf, hsz, rfl, hz', hzs⟩, _⟩ := slOk_spec hs
 have hzc : z'.cells.toList = [z] := by
  have h2 := hz
  simp only [zeroC, hinf, hz', Option.bind_some, Option.map_some, Option.some.injEq] at h2
  exact h2
 refine h.kmade (List.replicate n z) e (fun b => .slice (some ⟨b, 0, none⟩) n n) ?_ hk
 have hr := run_make (P := P) w t e inf z' hu hinf hz' kl kc (n : Int) (n : Int) (by omega) (by omega) (by rw [← Int.natCast_mul]; exact Int.ofNat_le.2 hb) (by have : n ≤ 9223372036854775807 := h63; omega)
 rw [hr]
 have e1 : z'.cells = #[z] := Array.ext' hzc
 refine congrArg (fun c => Result.ok _ (w.alloc (.cells c e))) ?_
 rw [e1, hsz]
 apply Array.ext'
 apply List.ext_getElem
 ·simp [madeCells]
 ·intro i h1 h2; simp [madeCells, Nat.mod_one]
/-- A row of the call's own as a block. -/
theorem HpM.toBlk (h : HpM M w0 w H) (i : Nat) {e size g n c : Nat} {xs : List Value} (hi : H[i]? = some (row e size (.slice (some ⟨g, 0, none⟩) n c) n xs)) : ∃ zs, HpM M w0 w (H.set i (blk g (xs ++ zs) e)) := by
 have hr : (row e size (.slice (some ⟨g, 0, none⟩) n c) n xs).holds w := h.get hi
 obtain ⟨h1, h2⟩ : w.ownsRow 0 e size (.slice (some ⟨g, 0, none⟩) n c) n xs := hr
 rcases h2 with ⟨h3, _⟩ | ⟨g', cap, cur, hv, _, hh, _, _, _, ht⟩
 ·simp at h3
 ·simp only [Value.slice.injEq, Option.some.injEq, Addr.mk.injEq, and_true, true_and] at hv
  obtain ⟨rfl, rfl⟩ := hv
  refine ⟨cur.toList.drop (n * size), h.upd hi ⟨rfl, rfl, rfl, Nat.le_refl _, fun _ _ _ => rfl⟩ (blk_ok _ _ _) ⟨(0, 0), .inl rfl, ?_⟩ (fun b hb => .inl hb)⟩
  rw [hh, ← ht, List.take_append_drop]
theorem HpM.toBlk0 (h : HpM M w0 w H) (i : Nat) {e size n : Nat} {v : Value} {xs : List Value} (hi : H[i]? = some (row e size v n xs)) (hn : 0 < n) : ∃ g c zs, v = .slice (some ⟨g, 0, none⟩) n c ∧ HpM M w0 w (H.set i (blk g (xs ++ zs) e)) := by
 have hr : (row e size v n xs).holds w := h.get hi
 obtain ⟨h1, h2⟩ : w.ownsRow 0 e size v n xs := hr
 rcases h2 with ⟨_, h3⟩ | ⟨g, cap, cur, rfl, _⟩
 ·omega
 ·obtain ⟨zs, hz⟩ := h.toBlk i hi
  exact ⟨g, cap, zs, rfl, hz⟩
theorem HpM.knil (h : HpM M w0 w H) (e size : Nat) : HpM M w0 w (row e size (.slice none 0 0) 0 [] :: H) :=
 h.push (Ext.refl w) (row_ok _ _ _ _ _) (World.ownsRow_nil _ _ _ _) (fun b hb => by simp [row, Value.ownBlock] at hb)
end

/-! slices of slices -/
theorem run_slice_lo (hT : tabOk P T = true) {t el n1 sz : Nat} {kd : TK} (ht : tfind T t = some ⟨.slice el, n1⟩) (he : tfind T el = some ⟨kd, sz⟩) {w : World} {b off n cap : Nat} {k : IntKind} (m : Nat) (h : m ≤ n) :
  (Instr.sliceAt t (.slice (some ⟨b, off, none⟩) n cap) (some (.int k (m : Int))) none none).run P w = .ok (.slice (some ⟨b, if cap = m then off else off + m * sz, none⟩) (n - m) (cap - m)) w := by
 simp only [Instr.sliceAt, Instr.slice, Instr.sliceBounds, Sem.run_bind, Sem.run_pure, Go.Proofs.Ytefjgoeabfgkmaa.V.run_underlying (tab_slice hT ht), Result.andThen]
 rw [run_bound (P := P) h]
 simp only [Result.andThen, Sem.run_pure, tab_size hT he]
 by_cases e : cap = m
 ·simp [e]
 ·simp [e, add_none]
theorem run_slice_hi (hT : tabOk P T = true) {t el n1 sz : Nat} {kd : TK} (ht : tfind T t = some ⟨.slice el, n1⟩) (he : tfind T el = some ⟨kd, sz⟩) {w : World} {b off n cap : Nat} {k : IntKind} (m : Nat) (h : m ≤ cap) :
  (Instr.sliceAt t (.slice (some ⟨b, off, none⟩) n cap) none (some (.int k (m : Int))) none).run P w = .ok (.slice (some ⟨b, off, none⟩) m cap) w := by
 simp only [Instr.sliceAt, Instr.slice, Instr.sliceBounds, Sem.run_bind, Sem.run_pure, Go.Proofs.Ytefjgoeabfgkmaa.V.run_underlying (tab_slice hT ht), Result.andThen]
 rw [run_bound (P := P) h]
 simp only [Result.andThen, Sem.run_pure, tab_size hT he]
 simp [add_none]
end
end V
namespace V
section
variable {P : Program} {md : Region.Mode} {ops : Array Oper} {C : World → Prop}

end

section
variable {P : Program} {T : Tab} {Fs : List Nat} (hT : tabOk P T = true) (hF : ∀ f, memB f Fs = true → Enters P f)
include hT hF
end
/-! a tail that hands out (yield) -/
end V
namespace V
def QF : Exit → Act → World → Prop := fun _ _ _ => False
section
variable {P : Program} {md : Region.Mode} {ops : Array Oper}

def okOp (P : Program) (ops : Array Oper) (i : Nat) (K : Act → World → Prop) (a : Act) (w : World) : Prop :=
 match ops[i]? with
 | none => False
 | some o => if Region.wanted o (yielded ops a.tmps) then o.wp P a w K QF else K (a.put o.dst undef) w
theorem QF_out {p : Prop} (h : LetsOut QF) : p := by
 obtain ⟨_, _, h⟩ := h; exact h.elim
theorem wp_of_ok {o : Oper} {a : Act} {w : World} {K K' : Act → World → Prop} {Q : Exit → Act → World → Prop} (h : ∀ a w, K a w → K' a w) (hh : o.wp P a w K QF) : o.wp P a w K' Q := by
 unfold Oper.wp at *
 generalize (execOp a.eval o).run P w = r at *
 cases r with
 | ok n w' =>
  cases n <;> simp only [Oper.upon] at hh ⊢ <;>
   first
    | exact h _ _ hh
    | exact Calls.mono hh (fun e w'' he => by cases e <;> first | exact h _ _ he | exact he.elim | exact QF_out he)
    | exact Rows.mono hh (fun _ _ he => h _ _ he)
    | exact hh.elim
 | halt x w' => cases x <;> simp only [Oper.upon] at hh ⊢ <;> first | exact hh | exact hh.elim
theorem wpOp_of_ok {i : Nat} {a : Act} {w : World} {K K' : Act → World → Prop} {Q : Exit → Act → World → Prop} (h : ∀ a w, K a w → K' a w) (hh : okOp P ops i K a w) : wpOp P ops Q i K' a w := by
 unfold okOp at hh
 unfold wpOp
 cases ho : ops[i]? with
 | none => simp only [ho] at hh
 | some o =>
  simp only [ho] at hh ⊢
  split
  ·rename_i hw; simp only [hw, if_true] at hh; exact .inl (wp_of_ok h hh)
  ·rename_i hw; simp only [hw] at hh; exact h _ _ hh
theorem okOp_mono {i : Nat} {a : Act} {w : World} {K K' : Act → World → Prop} (h : ∀ a w, K a w → K' a w) (hh : okOp P ops i K a w) : okOp P ops i K' a w := by
 unfold okOp at *
 cases ho : ops[i]? with
 | none => simp only [ho] at hh
 | some o =>
  simp only [ho] at hh ⊢
  split
  ·rename_i hw; simp only [hw, if_true] at hh; exact wp_of_ok h hh
  ·rename_i hw; simp only [hw] at hh; exact h _ _ hh

/-- In every world that has grown out of this one the operation yields v, and grows the world at most. -/
def YG (P : Program) (ops : Array Oper) (o : Oper) (v : Value) (a : Act) (w : World) : Prop :=
 (Region.wanted o (yielded ops a.tmps) = true ∧ ∀ w1, Ext w w1 → o.quietAt P a (Ext w1) w1 v) ∨ (Region.wanted o (yielded ops a.tmps) = false ∧ v = undef)
theorem YG.of_same {o : Oper} {v : Value} {a a' : Act} {w : World} (hy : YG P ops o v a w) (he : execOp a'.eval o = execOp a.eval o) (hw : Region.wanted o (yielded ops a'.tmps) = Region.wanted o (yielded ops a.tmps)) : YG P ops o v a' w := by
 unfold YG Oper.quietAt at *
 rw [he, hw]
 exact hy
theorem YG.mono {o : Oper} {v : Value} {a : Act} {w w' : World} (hy : YG P ops o v a w) (hx : Ext w w') : YG P ops o v a w' :=
 hy.imp (fun h => ⟨h.1, fun w1 h1 => h.2 w1 (hx.trans h1)⟩) id
theorem YG.ok {i : Nat} {o : Oper} {v : Value} {a : Act} {w w1 : World} (hi : ops[i]? = some o) (hy : YG P ops o v a w) (hx : Ext w w1) {K : Act → World → Prop} (h : ∀ w2, Ext w1 w2 → K (a.put o.dst v) w2) : okOp P ops i K a w1 := by
 unfold okOp
 simp only [hi]
 rcases hy with ⟨hw, hv⟩ | ⟨hw, rfl⟩
 ·simp only [hw, if_true]
  have h3 := hv w1 hx
  unfold Oper.quietAt at h3
  unfold Oper.wp
  generalize (execOp a.eval o).run P w1 = r at *
  cases r with
  | ok n w' =>
   cases n <;> simp only [Oper.quietUpon] at h3 <;> simp only [Oper.upon]
   case value u =>
    obtain ⟨e1, e2⟩ := h3
    rw [e1, e2]
    exact h _ (Ext.refl _)
   case skip =>
    obtain ⟨e1, e2⟩ := h3
    rw [e1, ← e2]
    exact h _ (Ext.refl _)
   case enter f args =>
    obtain ⟨e1, hc⟩ := h3
    rw [e1]
    exact hc.mono fun e w'' ⟨he, hw''⟩ => by subst he; exact h _ hw''
  | halt x w' => simp only [Oper.quietUpon] at h3
 ·simp only [hw, Bool.false_eq_true, if_false]; exact h _ (Ext.refl _)
theorem okOp_put {j : Nat} {oi oj : Oper} {v : Value} {w w1 : World} (hj : ops[j]? = some oj) (hap : oi.apart ops oj = true)
  (hsi : ∀ cs b, oi.op ≠ .select cs b) (hsj : ∀ cs b, oj.op ≠ .select cs b) {K : Act → World → Prop} {a : Act}
  (hy : YG P ops oi v a w) (h : okOp P ops j K (a.put oi.dst v) w1) :
  okOp P ops j (fun a' w2 => YG P ops oi v a' w ∧ K (a'.put oi.dst v) w2) a w1 := by
 obtain ⟨h1, h2, h3⟩ := Oper.apart_spec hap
 have keep : ∀ (u : Value), YG P ops oi v (a.put oj.dst u) w := fun u =>
  hy.of_same (execOp_put oi hsi a oj.dst u h3) (wanted_put oi a oj.dst u h3)
 unfold okOp at *
 simp only [hj] at *
 rw [wanted_put oj a oi.dst v h1] at h
 split
 ·rename_i hw
  simp only [hw, if_true] at h
  unfold Oper.wp at *
  rw [execOp_put oj hsj a oi.dst v h1] at h
  generalize (execOp a.eval oj).run P w1 = r at *
  have put : ∀ (u : Value) (w2 : World), K ((a.put oi.dst v).put oj.dst u) w2 → YG P ops oi v (a.put oj.dst u) w ∧ K ((a.put oj.dst u).put oi.dst v) w2 := fun u w2 hk =>
   ⟨keep u, by rw [← Act.put_comm a v u h2]; exact hk⟩
  have putd : ∀ (x : Deferred) (w2 : World), K ({ tmps := (a.put oi.dst v).tmps, defers := x :: (a.put oi.dst v).defers : Act }.put oj.dst undef) w2 →
    YG P ops oi v ({ tmps := a.tmps, defers := x :: a.defers : Act }.put oj.dst undef) w ∧ K (({ tmps := a.tmps, defers := x :: a.defers : Act }.put oj.dst undef).put oi.dst v) w2 := fun x w2 hk => by
   have e : ({ tmps := (a.put oi.dst v).tmps, defers := x :: (a.put oi.dst v).defers } : Act) = ({ tmps := a.tmps, defers := x :: a.defers } : Act).put oi.dst v := by cases oi.dst <;> rfl
   have hy0 : YG P ops oi v { tmps := a.tmps, defers := x :: a.defers } w := hy.of_same rfl rfl
   refine ⟨hy0.of_same (execOp_put oi hsi _ oj.dst _ h3) (wanted_put oi _ oj.dst _ h3), ?_⟩
   rw [← Act.put_comm _ v undef h2, ← e]; exact hk
  cases r with
  | ok n w' =>
   cases n <;> simp only [Oper.upon] at h ⊢ <;>
    first
     | exact put _ _ h
     | exact Calls.mono h (fun e w'' he => by cases e <;> first | exact put _ _ he | exact he.elim | exact QF_out he)
     | exact Rows.mono h (fun _ _ he => put _ _ he)
     | exact putd _ _ h
     | exact h.elim
  | halt x w' => cases x <;> simp only [Oper.upon] at h ⊢ <;> first | exact h.elim | exact h
 ·rename_i hw
  simp only [hw] at h
  exact ⟨keep _, by rw [← Act.put_comm a v undef h2]; exact h⟩

/-- f operations of the head (numbers below n) are still to come, in any order; behind them L; the world may grow meanwhile. -/
def headG (P : Program) (md : Region.Mode) (ops : Array Oper) (n : Nat) (L : Array Bool → Act → World → Prop) : Nat → Array Bool → Act → World → Prop
 | 0, done, a, w => ∀ w1, Ext w w1 → L done a w1
 | f + 1, done, a, w => ∀ w1, Ext w w1 → Region.ready md ops done ≠ [] ∧ ∀ i ∈ Region.ready md ops done, i < n ∧ okOp P ops i (fun a' w2 => Ext w1 w2 ∧ headG P md ops n L f (done.setIfInBounds i true) a' w2) a w1
theorem headG_mono {n : Nat} {L : Array Bool → Act → World → Prop} {w w' : World} (hx : Ext w w') : ∀ {f : Nat} {done : Array Bool} {a : Act}, headG P md ops n L f done a w → headG P md ops n L f done a w'
 | 0, _, _, h => fun w1 h1 => h w1 (hx.trans h1)
 | _ + 1, _, _, h => fun w1 h1 => h w1 (hx.trans h1)
theorem any_of_headG {n g : Nat} {L : Array Bool → Act → World → Prop} {Q : Exit → Act → World → Prop} (hL : ∀ done a w, L done a w → wpAny P md ops Q g done a w) :
  ∀ (f : Nat) (done : Array Bool) (a : Act) (w : World), headG P md ops n L f done a w → wpAny P md ops Q (f + g) done a w := by
 intro f
 induction f with
 | zero => intro done a w h; rw [Nat.zero_add]; exact hL _ _ _ (h w (Ext.refl w))
 | succ f ih =>
  intro done a w h
  rw [show f + 1 + g = (f + g) + 1 by omega]
  have h := h w (Ext.refl w)
  exact ⟨fun h0 => absurd h0 h.1, fun i hi => wpOp_of_ok (fun a' w' h' => ih _ a' w' h'.2) (h.2 i hi).2⟩

theorem headG_take {n i : Nat} {oi : Oper} {v : Value} {L : Array Bool → Act → World → Prop} {Inv : Array Bool → Prop} (hi : ops[i]? = some oi) (hsel : ∀ (j : Nat) (o : Oper) cs b, ops[j]? = some o → o.op ≠ .select cs b)
  (hW : ∀ done i, Inv done → i < n → done.getD i true = false → ∀ j ∈ Region.ready md ops done, j < n) (hI : ∀ done i, Inv done → i ∈ Region.ready md ops done → i < n → Inv (done.setIfInBounds i true))
  (hin : i < n) (hdone : ∀ done a w, L done a w → ∀ j ∈ Region.ready md ops done, n ≤ j) :
  ∀ (f : Nat) (done : Array Bool) (a : Act) (w : World), Inv done →
   (∀ j oj, ops[j]? = some oj → j ≠ i → done.getD j true = false → (∀ e ∈ oj.after, Region.binds md e = true → e.on ≠ i) → oi.apart ops oj = true) →
   i ∈ Region.ready md ops done → YG P ops oi v a w →
   headG P md ops n L f (done.setIfInBounds i true) (a.put oi.dst v) w → headG P md ops n L (f + 1) done a w := by
 intro f
 induction f with
 | zero =>
  intro done a w inv _ hr hy H w1 hx
  refine ⟨List.ne_nil_of_mem hr, fun j hj => ?_⟩
  have hlt : j < n := hW done i inv hin (mem_ready.1 hr).1 j hj
  refine ⟨hlt, ?_⟩
  by_cases e : j = i
  ·subst e; exact hy.ok hi hx fun w2 h2 => ⟨h2, headG_mono (hx.trans h2) H⟩
  ·have := hdone _ _ _ (H w1 hx) j (ready_mono hj e); omega
 | succ f ih =>
  intro done a w inv hfree hr hy H w1 hx
  have hun := (mem_ready.1 hr).1
  refine ⟨List.ne_nil_of_mem hr, fun j hj => ?_⟩
  have hlt : j < n := hW done i inv hin hun j hj
  refine ⟨hlt, ?_⟩
  by_cases e : j = i
  ·subst e; exact hy.ok hi hx fun w2 h2 => ⟨h2, headG_mono (hx.trans h2) H⟩
  ·obtain ⟨hjun, oj, hoj, hall⟩ := mem_ready.1 hj
   have hnot : ∀ e ∈ oj.after, Region.binds md e = true → e.on ≠ i := fun e he hb heq => by
    have := hall e he hb; rw [heq, getD_both hun] at this; cases this
   have key := okOp_put hoj (hfree j oj hoj e hjun hnot) (fun cs b => hsel i oi cs b hi) (fun cs b => hsel j oj cs b hoj) hy ((H w1 hx).2 j (ready_mono hj e)).2
   refine okOp_mono (fun a' w2 h3 => ⟨h3.2.1, ih (done.setIfInBounds j true) a' w2 (hI _ _ inv hj hlt) ?_ (ready_mono hr (Ne.symm e)) (h3.1.mono (hx.trans h3.2.1)) ?_⟩) key
   ·intro k ok hk hki hu hno
    refine hfree k ok hk hki ?_ hno
    by_cases hjk : j = k
    ·subst hjk; exact hjun
    ·rwa [getD_set_ne true hjk] at hu
   ·rw [Array.setIfInBounds_comm _ _ e]; exact h3.2.2

/-- The head's operations in an order that is given; 'true': one that makes things. -/
def mixB (md : Region.Mode) (ops : Array Oper) (n : Nat) (base : Array Bool → Bool) : List (Nat × Bool) → Array Bool → Bool
 | [], done => base done
 | (i, false) :: r, done => decide (i < n) && (Region.ready md ops done).contains i && Region.free md ops done i && mixB md ops n base r (done.setIfInBounds i true)
 | (i, true) :: r, done => decide (i < n) && decide (Region.ready md ops done = [i]) && mixB md ops n base r (done.setIfInBounds i true)
def actMix (P : Program) (ops : Array Oper) (Lq : Act → World → Prop) : List (Nat × Bool) → Act → World → Prop
 | [], a, w => ∀ w1, Ext w w1 → Lq a w1
 | (i, false) :: r, a, w => ∃ o, ops[i]? = some o ∧ ∃ v, YG P ops o v a w ∧ actMix P ops Lq r (a.put o.dst v) w
 | (i, true) :: r, a, w => ∀ w1, Ext w w1 → okOp P ops i (fun a' w2 => Ext w1 w2 ∧ actMix P ops Lq r a' w2) a w1
theorem headG_mix {n : Nat} {base : Array Bool → Bool} {Lq : Act → World → Prop} {Inv : Array Bool → Prop} (hsel : Region.noSelect ops = true)
  (hW : ∀ done i, Inv done → i < n → done.getD i true = false → ∀ j ∈ Region.ready md ops done, j < n) (hI : ∀ done i, Inv done → i ∈ Region.ready md ops done → i < n → Inv (done.setIfInBounds i true))
  (hbase : ∀ done, base done = true → ∀ j ∈ Region.ready md ops done, n ≤ j) :
  ∀ (r : List (Nat × Bool)) (done : Array Bool) (a : Act) (w : World), Inv done → mixB md ops n base r done = true → actMix P ops Lq r a w →
   headG P md ops n (fun done a w => base done = true ∧ Lq a w) r.length done a w
 | [], done, a, w, _, hB, h => fun w1 hx => ⟨hB, h w1 hx⟩
 | (i, false) :: r, done, a, w, inv, hB, h => by
  simp only [mixB, Bool.and_eq_true, decide_eq_true_eq] at hB
  obtain ⟨⟨⟨hin, hr⟩, hf⟩, hB'⟩ := hB
  obtain ⟨o, ho, v, hy, hk⟩ := h
  have hr' : i ∈ Region.ready md ops done := by simpa using hr
  exact headG_take ho (Region.noSelect_spec hsel) hW hI hin (fun done a w hL => hbase done hL.1) r.length done a w inv (Region.free_spec ho hf) hr' hy
   (headG_mix hsel hW hI hbase r _ _ _ (hI _ _ inv hr' hin) hB' hk)
 | (i, true) :: r, done, a, w, inv, hB, h => by
  simp only [mixB, Bool.and_eq_true, decide_eq_true_eq] at hB
  obtain ⟨⟨hin, hr⟩, hB'⟩ := hB
  intro w1 hx
  have hri : i ∈ Region.ready md ops done := by rw [hr]; simp
  refine ⟨by rw [hr]; simp, fun j hj => ?_⟩
  rw [hr] at hj
  obtain rfl : j = i := by simpa using hj
  exact ⟨hin, okOp_mono (fun a' w2 h2 => ⟨h2.1, headG_mix hsel hW hI hbase r _ _ _ (hI _ _ inv hri hin) hB' h2.2⟩) (h w1 hx)⟩

/-- the check, with a tail behind the first n operations; without one -/
def mixT (ops : Array Oper) (n : Nat) (r : List (Nat × Bool)) : Bool :=
 Region.noSelect ops && decide (n < ops.size) && Region.sinkB .any ops n && Region.chainB .any ops n && mixB .any ops n (Region.seqB .any ops (ops.size - n) n) r (Array.replicate ops.size false) && Nat.beq r.length n
def mixA (ops : Array Oper) (r : List (Nat × Bool)) : Bool :=
 Region.noSelect ops && mixB .any ops ops.size (fun done => (Region.ready .any ops done).isEmpty) r (Array.replicate ops.size false)
theorem region_mixT {Q : Exit → Act → World → Prop} {a : Act} {w : World} {l : List Oper} (n : Nat) (r : List (Nat × Bool)) (hm : P.follows .mixedOrders = true) (hB : mixT l.toArray n r = true)
  (h : actMix P l.toArray (fun a' w' => wpList P l.toArray Q (l.drop n) a' w') r a w) (t : Nat) :
  wpOps P l.toArray Q (Region.schedule (P.follows .mixedOrders) l.toArray t) a { w with drawn := w.drawn + 1 } := by
 simp only [mixT, Bool.and_eq_true, decide_eq_true_eq] at hB
 obtain ⟨⟨⟨⟨⟨hsel, hn⟩, hs⟩, hc⟩, hmix⟩, hlen⟩ := hB
 have hlen : r.length = n := by simpa using hlen
 have hn' : n < l.length := by simpa using hn
 have inv0 : HeadInv .any l.toArray n (Array.replicate l.toArray.size false) :=
  ⟨by simp, fun j oj _ hl => (by rw [getD_replicate_false] at hl; cases hl), fun t _ ht => getD_in (by simpa using ht) (getD_replicate_false _ _)⟩
 have H := headG_mix (P := P) (md := .any) (Inv := HeadInv .any l.toArray n) hsel
  (fun done i inv hin hun j hj => Nat.lt_of_not_le fun h => absurd hj (tail_waits hs hc hn inv _ i rfl hin hun j h))
  (fun done i inv hi hin => inv.set hi hin) (fun done hb => seqB_ready hb) r _ a { w with drawn := w.drawn + 1 } inv0 hmix (by
   have : ∀ r a w w', Ext w w' → actMix P l.toArray (fun a' w' => wpList P l.toArray Q (l.drop n) a' w') r a w → actMix P l.toArray (fun a' w' => wpList P l.toArray Q (l.drop n) a' w') r a w' := by
    intro r
    induction r with
    | nil => intro a w w' hx h w1 h1; exact h w1 (hx.trans h1)
    | cons x r ih =>
     obtain ⟨i, b⟩ := x
     cases b with
     | false => rintro a w w' hx ⟨o, ho, v, hy, hk⟩; exact ⟨o, ho, v, hy.mono hx, ih _ _ _ hx hk⟩
     | true => intro a w w' hx h w1 h1; exact h w1 (hx.trans h1)
   exact this r a w _ (Ext.refl w).drew h)
 refine any_ops hm ?_ t
 have key := any_of_headG (Q := Q) (g := l.toArray.size - n) (fun done a' w' hL => by
  have e : (l.drop n).length = l.toArray.size - n := by simp
  have := wpAny_of_seq (P := P) (md := .any) (ops := l.toArray) (Q' := Q) (l.drop n) n done a' w' (fun j => by simp) (by rw [e]; exact hL.1) hL.2
  rwa [e] at this) r.length _ a _ H
 have e2 : r.length + (l.toArray.size - n) = l.toArray.size := by rw [hlen]; simp; omega
 rwa [e2] at key
theorem region_mixA {Q : Exit → Act → World → Prop} {a : Act} {w : World} {l : List Oper} (r : List (Nat × Bool)) (hm : P.follows .mixedOrders = true) (hB : (mixA l.toArray r && Nat.beq r.length l.length) = true)
  (h : actMix P l.toArray (fun a' w' => Q .normal a' w') r a w) (t : Nat) :
  wpOps P l.toArray Q (Region.schedule (P.follows .mixedOrders) l.toArray t) a { w with drawn := w.drawn + 1 } := by
 simp only [mixA, Bool.and_eq_true] at hB
 obtain ⟨⟨hsel, hmix⟩, hlen⟩ := hB
 have hlen : r.length = l.length := by simpa using hlen
 have H := headG_mix (P := P) (md := .any) (Inv := fun _ => True) hsel
  (fun done i _ _ _ j hj => (Array.getElem?_eq_some_iff.1 (mem_ready.1 hj).2.choose_spec.1).1)
  (fun _ _ _ _ _ => trivial) (fun done hb j hj => by rw [List.isEmpty_iff.1 hb] at hj; cases hj) r _ a { w with drawn := w.drawn + 1 } trivial hmix (by
   have : ∀ r a w w', Ext w w' → actMix P l.toArray (fun a' w' => Q .normal a' w') r a w → actMix P l.toArray (fun a' w' => Q .normal a' w') r a w' := by
    intro r
    induction r with
    | nil => intro a w w' hx h w1 h1; exact h w1 (hx.trans h1)
    | cons x r ih =>
     obtain ⟨i, b⟩ := x
     cases b with
     | false => rintro a w w' hx ⟨o, ho, v, hy, hk⟩; exact ⟨o, ho, v, hy.mono hx, ih _ _ _ hx hk⟩
     | true => intro a w w' hx h w1 h1; exact h w1 (hx.trans h1)
   exact this r a w _ (Ext.refl w).drew h)
 refine any_ops hm ?_ t
 have key := any_of_headG (Q := Q) (g := 0) (fun done a' w' hL => ⟨List.isEmpty_iff.1 hL.1, hL.2⟩) r.length _ a _ H
 have e2 : r.length + 0 = l.toArray.size := by rw [hlen]; simp
 rwa [e2] at key
end

/-! ### over environments -/
def quiE (P : Program) (w : World) : Hand Unit where
 run := fun s _ K => ∃ v, (∀ w1, Ext w w1 → s.run P w1 = .ok v w1) ∧ K v ()
 call := fun f args _ K => ∃ v, (∀ w1, Ext w w1 → Calls P f args w1 fun e w' => e = .returned v ∧ Ext w1 w') ∧ K v ()
 yield := fun _ _ _ _ => False
 ext := extP P
def ME (P : Program) (w : World) (x : Sem Next) (_ : Unit) (K : EV → Unit → Prop) : Prop :=
 ∃ e, (∀ w1, Ext w w1 → Oper.quietUpon P (Ext w1) w1 e.val (x.run P w1)) ∧ K e ()
theorem quiE_laws (P : Program) (w : World) : Laws P (quiE P w) (ME P w) where
 congr := fun h ⟨e, hw, hk⟩ => ⟨e, fun w hc => by rw [h]; exact hw w hc, hk⟩
 pure := fun {e s K} hk => ⟨e, fun w _ => ⟨rfl, rfl⟩, hk⟩
 run := fun {x s K} h => by
  obtain ⟨v, hr, hk⟩ := h
  refine ⟨.v v, fun w hc => ?_, hk⟩
  rw [Sem.run_bind, hr w hc]
  exact ⟨rfl, rfl⟩
 runU := fun {x s K} h => by
  obtain ⟨v, hr, hk⟩ := h
  refine ⟨.v v, fun w hc => ?_, hk⟩
  have hr := hr w hc
  rw [Sem.run_bind] at hr ⊢
  cases hx : x.run P w with
  | ok u w2 =>
   rw [hx] at hr
   simp only [Result.andThen, Sem.run_pure, Result.ok.injEq] at hr
   obtain ⟨rfl, rfl⟩ := hr
   exact ⟨rfl, rfl⟩
  | halt h w2 => rw [hx] at hr; simp [Result.andThen] at hr
 call := fun {f args s K} he h => by
  obtain ⟨v, hr, hk⟩ := h
  refine ⟨.v v, fun w hc => ?_, hk⟩
  rw [he]
  exact ⟨rfl, hr w hc⟩
 yield := fun h => h.elim
 ext := fun h => h

section
variable (P : Program) (T : Tab) (Fs : List Nat) (n : Nat) (all : List Oper)
abbrev vmix (K : Env → World → Prop) : List (Nat × Bool) → Env → World → Prop
 | [], l, w => ∀ w1, Ext w w1 → K l w1
 | (i, false) :: r, l, w => match all[i]? with
  | none => False
  | some o => vops T Fs (quiE P w) n all [o] l () fun l _ => vmix K r l w
 | (i, true) :: r, l, w => match all[i]? with
  | none => False
  | some o => ∀ w1, Ext w w1 → vops T Fs (nrmH0 P) n all [o] l w1 fun l w2 => Ext w1 w2 ∧ vmix K r l w2
end
section
variable {P : Program} {T : Tab} {Fs : List Nat} (hT : tabOk P T = true) (hF : ∀ f, memB f Fs = true → Enters P f)
include hT hF
/-- One operation: what its run and what its being passed over ask. -/
theorem vops_one {σ : Type} {H : Hand σ} {M : Sem Next → σ → (EV → σ → Prop) → Prop} (L : Laws P H M) {n : Nat} {all : List Oper} {o : Oper} {l : Env} {a : Act} {s : σ} {K : Env → σ → Prop} (ha : At n l a) (h : vops T Fs H n all [o] l s K) :
  (Region.wanted o (yielded all.toArray a.tmps) = true ∧ ∃ l', At n l' a ∧ M (execOp a.eval o) s (vdst n o l' K)) ∨
  (Region.wanted o (yielded all.toArray a.tmps) = false ∧ ∃ l', At n l' a ∧ vdst n o l' K (.v undef) s) := by
 have run : ∀ {l : Env}, At n l a → Region.wanted o (yielded all.toArray a.tmps) = true → vop T Fs H l o.op o.type s (vdst n o l (fun l s => vops T Fs H n all [] l s K)) →
   ∃ l', At n l' a ∧ M (execOp a.eval o) s (vdst n o l' K) := by
  intro l ha hw h
  exact ⟨l, ha, vop_sound hT hF L ha h⟩
 simp only [vops] at h
 split at h
 ·rename_i hg
  have hw : Region.wanted o (yielded all.toArray a.tmps) = true := by simp [Region.wanted, hg]
  exact .inl ⟨hw, run ha hw h⟩
 ·rename_i j want hg
  split at h <;> try exact h.elim
  rename_i d hj
  have lit : ∀ {b : Bool}, look l d = some (.v (.bool b)) → ∀ e : EV, e.isM = false → e.val = .bool b → At n ((d, e) :: l) a := fun {b} hl e hm he =>
   ⟨by rw [marks_cons hm]; exact ha.defers, ha.size, fun t x hx => by
    simp only [look] at hx
    by_cases hd : d = t
    ·subst hd; simp at hx; subst hx; rw [ha.holds d _ hl, he]
    ·rw [beqF hd] at hx; exact ha.holds t x hx⟩
  split at h
  ·rename_i hl
   have hy := yielded_of ha hj hl
   cases want with
   | true =>
    have hw : Region.wanted o (yielded all.toArray a.tmps) = true := by simp [Region.wanted, hg, hy]
    exact .inl ⟨hw, run ha hw h⟩
   | false => exact .inr ⟨by simp [Region.wanted, hg, hy], l, ha, h⟩
  ·rename_i hl
   have hy := yielded_of ha hj hl
   cases want with
   | true => exact .inr ⟨by simp [Region.wanted, hg, hy], l, ha, h⟩
   | false =>
    have hw : Region.wanted o (yielded all.toArray a.tmps) = true := by simp [Region.wanted, hg, hy]
    exact .inl ⟨hw, run ha hw h⟩
  ·rename_i b hl
   have hy := yielded_of ha hj hl
   cases want with
   | true =>
    cases b with
    | true =>
     have hw : Region.wanted o (yielded all.toArray a.tmps) = true := by simp [Region.wanted, hg, hy]
     exact .inl ⟨hw, run (lit hl .tt rfl rfl) hw (h.1 rfl)⟩
    | false => exact .inr ⟨by simp [Region.wanted, hg, hy], _, lit hl .ff rfl rfl, h.2 rfl⟩
   | false =>
    cases b with
    | true => exact .inr ⟨by simp [Region.wanted, hg, hy], _, lit hl .tt rfl rfl, h.1 rfl⟩
    | false =>
     have hw : Region.wanted o (yielded all.toArray a.tmps) = true := by simp [Region.wanted, hg, hy]
     exact .inl ⟨hw, run (lit hl .ff rfl rfl) hw (h.2 rfl)⟩
  ·rename_i vs hl
   have hy := yielded_of ha hj hl
   exact .inr ⟨by simp [Region.wanted, hg, hy], l, ha, h⟩
  ·exact h.elim
omit hT hF in
theorem vdst_put {σ : Type} {n : Nat} {o : Oper} {l : Env} {a : Act} {e : EV} {s : σ} {K : Env → σ → Prop} (ha : At n l a) (h : vdst n o l K e s) : ∃ l', At n l' (a.put o.dst e.val) ∧ K l' s := by
 unfold vdst at h
 split at h
 ·rename_i d hd
  split at h
  ·rename_i hb
   split at h
   ·rename_i hm
    rw [hd]
    exact ⟨_, ha.put hb e hm, h⟩
   ·exact h.elim
  ·exact h.elim
 ·rename_i hd
  rw [hd]
  exact ⟨l, ha, h⟩
theorem vmix_act {n : Nat} {all : List Oper} {K : Env → World → Prop} {Lq : Act → World → Prop} (hK : ∀ l a w, At n l a → K l w → Lq a w) :
  ∀ {r : List (Nat × Bool)} {l : Env} {a : Act} {w : World}, At n l a → vmix P T Fs n all K r l w → actMix P all.toArray Lq r a w
 | [], l, a, w, ha, h => fun w1 hx => hK _ _ _ ha (h w1 hx)
 | (i, false) :: r, l, a, w, ha, h => by
  simp only [vmix] at h
  cases hi : all[i]? with
  | none => simp only [hi] at h
  | some o =>
   simp only [hi] at h
   refine ⟨o, by simpa using hi, ?_⟩
   rcases vops_one hT hF (quiE_laws P w) ha h with ⟨hw, l', ha', e, hq, hk⟩ | ⟨hw, l', ha', hk⟩
   ·obtain ⟨l2, ha2, hk⟩ := vdst_put ha' hk
    exact ⟨e.val, .inl ⟨hw, hq⟩, vmix_act hK ha2 hk⟩
   ·obtain ⟨l2, ha2, hk⟩ := vdst_put ha' hk
    exact ⟨undef, .inr ⟨hw, rfl⟩, vmix_act hK ha2 hk⟩
 | (i, true) :: r, l, a, w, ha, h => by
  simp only [vmix] at h
  cases hi : all[i]? with
  | none => simp only [hi] at h
  | some o =>
   simp only [hi] at h
   intro w1 hx
   unfold okOp
   rw [show all.toArray[i]? = some o by simpa using hi]
   rcases vops_one hT hF (nrm_laws0 P) ha (h w1 hx) with ⟨hw, l', ha', hq⟩ | ⟨hw, l', ha', hk⟩
   ·simp only [hw, if_true]
    refine hq o a _ QF fun e w' hk => ?_
    obtain ⟨l2, ha2, hk⟩ := vdst_put ha' hk
    exact ⟨hk.1, vmix_act hK ha2 hk.2⟩
   ·simp only [hw, Bool.false_eq_true, if_false]
    obtain ⟨l2, ha2, hk⟩ := vdst_put ha' hk
    exact ⟨hk.1, vmix_act hK ha2 hk.2⟩
/-- The head in the order r, the tail in the text's. -/
theorem v_mix {n : Nat} {ops : List Oper} {l : Env} {w : World} {K : Env → World → Prop} (hm : P.follows .mixedOrders = true) (k : Nat) (r : List (Nat × Bool)) (hB : (mixT ops.toArray k r && noDefer ops) = true)
  (h : vmix P T Fs n ops (fun l w => vops T Fs (nrmH0 P) n ops (ops.drop k) l w K) r l w) : VDraw P n ops l w K := by
 simp only [Bool.and_eq_true] at hB
 refine VDraw.ofPlain (fun a Q ha hK => ?_) hB.2
 refine region_mixT k r hm hB.1 ?_
 exact vmix_act hT hF (K := fun l w => vops T Fs (nrmH0 P) n ops (ops.drop k) l w K) (fun l a w ha h => vops_sound0 hT hF (all := ops) (K := K) (fun l a w ha hk => hK l a w ha hk) ha h) ha h
/-- All of it in the order r. -/
theorem v_mixA {n : Nat} {ops : List Oper} {l : Env} {w : World} {K : Env → World → Prop} (hm : P.follows .mixedOrders = true) (r : List (Nat × Bool)) (hB : (mixA ops.toArray r && Nat.beq r.length ops.length && noDefer ops) = true)
  (h : vmix P T Fs n ops K r l w) : VDraw P n ops l w K := by
 have hB' := hB
 rw [Bool.and_eq_true] at hB'
 refine VDraw.ofPlain (fun a Q ha hK => ?_) hB'.2
 refine region_mixA r hm hB'.1 ?_
 exact vmix_act hT hF (fun l a w ha h => hK l a w ha h) ha h
omit hT hF in
theorem PureF.quietE {f : Nat} {args : Array Value} {v : Value} (h : PureF P f args v) {w0 : World} {K : Value → Unit → Prop} (hk : K v ()) :
  ∃ v, (∀ w1, Ext w0 w1 → Calls P f args w1 fun e w' => e = .returned v ∧ Ext w1 w') ∧ K v () := ⟨v, fun w _ => h w, hk⟩
end
/-- a part of a block that is known, as an aggregate -/
theorem Blk.ldV {P : Program} {T : Tab} {w : World} {b : Nat} {cs : List Value} {e : Nat} (h : Blk w b cs e) (hT : tabOk P T = true) {t n off : Nat} (ht : aggT T t = some n) {vs : List Value} (hv : (cs.drop off).take n = vs) (hn : vs.length = n) :
  (Instr.loadAt t (.pointer (some ⟨b, off, none⟩))).run P w = .ok (.agg vs.toArray) w :=
 run_ldN hT ht hn fun j v hj => by
  rw [h.cell]
  rw [← hv, List.getElem?_take] at hj
  split at hj
  ·rw [List.getElem?_drop] at hj; exact hj
  ·cases hj
/-- append onto a slice that is full: a new row; what was there stays. -/
theorem HpM.kappF {P : Program} {M : List Nat} {w0 w : World} {H : List It} (h : HpM M w0 w H) {t e size bytes : Nat} (hs : slOk P t e size bytes = true) {b n : Nat} {cs : List Value} {el : Nat} (hb : Blk w b cs el) (hc : cs.length = n * size)
  {tx ty : Nat} {x : Value} {m : Nat} {news : List Value} (src : Src P size tx x m news w) (hby : (n + m) * bytes ≤ 140737488355328) (hml : n + m ≤ maxLen) (hm : 0 < m) {K : Value → World → Prop}
  (hk : ∀ g c w', HpM M w0 w' (row e size (.slice (some ⟨g, 0, none⟩) (n + m) c) (n + m) (cs ++ news) :: H) → Ext w w' → K (.slice (some ⟨g, 0, none⟩) (n + m) c) w') :
  ∃ u w', (Builtin.append_ #[t, tx] ty #[.slice (some ⟨b, 0, none⟩) n n, x]).run P w = .ok u w' ∧ K u w' := by
 obtain ⟨hu, ⟨inf, z, hinf, rfl, rfl, hz, hzs⟩, hpos⟩ := slOk_spec hs
 have hlen : (cs ++ news).length = (n + m) * inf.size := by rw [List.length_append, hc, src.newsLen, Nat.add_mul]
 have hf : (Builtin.firstCells inf.size n (.slice (some ⟨b, 0, none⟩) n n)).run P w.drew = .ok cs.toArray w.drew := by
  refine run_firstCells_some (P := P) w.drew inf.size n ⟨b, 0, none⟩ n n cs hc fun j u hj => ?_
  rw [add_none, Nat.zero_add]
  exact (hb.cell j).trans hj
 have hr := run_append_grow_src (P := P) w t tx ty e inf z hu hinf hz (some ⟨b, 0, none⟩) n n cs hf x m news src (by omega) (by unfold maxLen at hml; omega) (growslice_fits (by omega) hby)
 refine ⟨_, _, hr, hk w.heap.size _ _ (h.push (((Ext.refl w).drew).alloc _) (row_ok _ _ _ _ _) ?_ ?_) (((Ext.refl w).drew).alloc _)⟩
 ·refine ⟨hlen, .inr ⟨w.heap.size, _, _, rfl, Nat.zero_le _, heap_alloc_new w.drew _, grownCap_ge _ _ _ _, grownCap_le_maxLen _ _ _ _ hml, ?_, ?_⟩⟩
  ·have := grownCap_ge w (n + m) n e
   simp only [Array.size_append, List.size_toArray, size_zeroCells, hzs, hlen, ← Nat.add_mul]
   congr 1; omega
  ·simp only [Array.toList_append]
   rw [← hlen]; exact List.take_left
 ·intro b' hb'
  simp only [row, Value.ownBlock, Option.some.injEq] at hb'
  subst hb'
  exact ⟨Nat.le_refl _, by simp⟩
theorem row_form {w : World} {e size n : Nat} {v : Value} {xs : List Value} (h : (row e size v n xs).holds w) (hn : 0 < n) : ∃ g c, v = .slice (some ⟨g, 0, none⟩) n c := by
 obtain ⟨_, h2⟩ : w.ownsRow 0 e size v n xs := h
 rcases h2 with ⟨_, h0⟩ | ⟨g, cap, _, hv, _⟩
 ·omega
 ·exact ⟨g, cap, hv⟩
theorem row_shape {w : World} {e size n : Nat} {v : Value} {xs : List Value} (h : (row e size v n xs).holds w) : ∃ p c, v = .slice p n c := by
 obtain ⟨_, h2⟩ : w.ownsRow 0 e size v n xs := h
 rcases h2 with ⟨hv, h0⟩ | ⟨g, cap, _, hv, _⟩
 ·exact ⟨none, 0, by rw [hv, h0]⟩
 ·exact ⟨_, cap, hv⟩
/-- an element of a row, of one cell, is stored -/
theorem HpM.kstR {P : Program} {T : Tab} {M : List Nat} {w0 w : World} {H : List It} (h : HpM M w0 w H) (hT : tabOk P T = true) {t : Nat} {kd : TK} (ht : tfind T t = some ⟨kd, 1⟩) (i : Nat) {e g c n : Nat} {xs : List Value} (hi : H[i]? = some (row e 1 (.slice (some ⟨g, 0, none⟩) n c) n xs)) {off : Nat} (ho : off < n) {v : Value}
  (hv : v.cells = #[v]) (h1 : v.oneCell' = true) {K : Value → World → Prop} (hk : ∀ w', HpM M w0 w' (H.set i (row e 1 (.slice (some ⟨g, 0, none⟩) n c) n (xs.set off v))) → K undef w') :
  ∃ u w', (do Instr.storeAt t (.pointer (some ⟨g, off, none⟩)) v; Pure.pure undef : Sem Value).run P w = .ok u w' ∧ K u w' := by
 have hown : w.ownsRow 0 e 1 (.slice (some ⟨g, 0, none⟩) n c) n xs := h.get hi
 obtain ⟨hxl, h2⟩ := hown
 rcases h2 with ⟨hv0, _⟩ | ⟨g', cap, cur, hv', _, hg, hnc, hcm, hcs, htake⟩
 ·simp at hv0
 ·simp only [Value.slice.injEq, Option.some.injEq, Addr.mk.injEq, true_and, and_true] at hv'
  obtain ⟨rfl, rfl⟩ := hv'
  have hos : off < cur.size := by rw [hcs]; omega
  have hst := run_storeCells_at (P := P) g off e [v] 0 cur w hg (by simp; omega) (fun u hu => by simp at hu; subst hu; exact h1)
  simp only [Nat.add_zero] at hst
  have hr : (do Instr.storeAt t (.pointer (some ⟨g, off, none⟩)) v; Pure.pure undef : Sem Value).run P w = .ok undef (w.setRow g (cur.toList.take off ++ [v] ++ cur.toList.drop (off + [v].length)).toArray) := by
   simp only [Instr.storeAt, Instr.sureAddr, storeVar, Sem.run_bind, Sem.run_pure, Result.andThen, tab_size hT ht, hv]
   simp [hst, Result.andThen]
  refine ⟨_, _, hr, hk _ (h.upd hi (grownBy_setRow w g _) (row_ok _ _ _ _ _) ?_ (fun b hb => .inl hb))⟩
  refine ⟨by rw [List.length_set]; exact hxl, .inr ⟨g, c, _, rfl, Nat.zero_le _, setRow_heap w g cur _ e _ hg, hnc, hcm, ?_, ?_⟩⟩
  ·simp only [List.size_toArray, List.length_append, List.length_take, List.length_drop, Array.length_toList, List.length_singleton]
   omega
  ·have e1 : cur.toList.take off ++ [v] ++ cur.toList.drop (off + [v].length) = cur.toList.set off v := by
    rw [List.set_eq_take_append_cons_drop, if_pos (by simpa using hos)]; simp
   rw [e1]
   show (cur.toList.set off v).take (n * 1) = xs.set off v
   rw [List.take_set, htake]
/-- a slice that reads as a list, elements of one cell -/
def SLv (w : World) (v : Value) (xs : List Value) : Prop := (xs = [] ∧ ∃ a c, v = .slice a 0 c) ∨ ∃ g off c, v = .slice (some ⟨g, off, none⟩) xs.length c ∧ xs.length ≤ c ∧ ∀ (j : Nat) (x : Value), xs[j]? = some x → w.cell? ⟨g, off + j, none⟩ = some x
theorem SLv.ext {w w' : World} {v : Value} {xs : List Value} (h : SLv w v xs) (hx : Ext w w') : SLv w' v xs :=
 h.imp id fun ⟨g, off, c, hv, hl, hc⟩ => ⟨g, off, c, hv, hl, fun j x hj => Ext.cell hx (hc j x hj)⟩
theorem SLv.of_blk0 {w : World} {g n c e : Nat} {xs : List Value} (h : Blk w g xs e) (hn : xs.length = n) (hc : n ≤ c := by first | decide | omega) : SLv w (.slice (some ⟨g, 0, none⟩) n c) xs :=
 .inr ⟨g, 0, c, by rw [hn], by omega, fun j x hj => by rw [Nat.zero_add, h.cell]; exact hj⟩
theorem SLv.nil {w : World} : SLv w (.slice none 0 0) [] := .inl ⟨rfl, _, _, rfl⟩
theorem SLv.of_row {w : World} {e n : Nat} {v : Value} {xs : List Value} (h : (row e 1 v n xs).holds w) : SLv w v xs := by
 have h0 : w.ownsRow 0 e 1 v n xs := h
 have hl : xs.length = n := by have := h0.1; omega
 by_cases hn : n = 0
 ·obtain ⟨_, h2⟩ := h0
  have hx : xs = [] := List.eq_nil_of_length_eq_zero (by omega)
  rcases h2 with ⟨hv, _⟩ | ⟨g, cap, cur, hv, _⟩
  ·exact .inl ⟨hx, _, _, hv⟩
  ·exact .inl ⟨hx, _, _, by rw [hv, hn]⟩
 ·have hcap : ∃ g cap, v = .slice (some ⟨g, 0, none⟩) n cap ∧ n ≤ cap := by
   rcases h0.2 with ⟨_, h⟩ | ⟨g, cap, cur, hv, _, _, hle, _⟩
   ·omega
   ·exact ⟨g, cap, hv, hle⟩
  obtain ⟨g, c, rfl, hle⟩ := hcap
  exact .inr ⟨g, 0, c, by rw [hl], by omega, fun j x hj => by rw [Nat.zero_add]; exact row_cell h hj⟩
theorem SLv.get {w : World} {g off c n : Nat} {xs : List Value} (h : SLv w (.slice (some ⟨g, off, none⟩) n c) xs) {j : Nat} {x : Value} (hj : xs[j]? = some x) : w.cell? ⟨g, off + j, none⟩ = some x := by
 rcases h with ⟨h0, _⟩ | ⟨g', off', c', hv, _, hc⟩
 ·rw [h0] at hj; simp at hj
 ·simp only [Value.slice.injEq, Option.some.injEq, Addr.mk.injEq, and_true] at hv
  obtain ⟨⟨rfl, rfl⟩, _, rfl⟩ := hv
  exact hc j x hj
theorem SLv.shape {w : World} {v : Value} {xs : List Value} (h : SLv w v xs) : ∃ p c, v = .slice p xs.length c := by
 rcases h with ⟨h0, a, c, hv⟩ | ⟨g, off, c, hv, _⟩
 ·exact ⟨a, c, by rw [hv, h0]; rfl⟩
 ·exact ⟨_, c, hv⟩
theorem SLv.at {w : World} {p : Option Addr} {n c : Nat} {xs : List Value} (h : SLv w (.slice p n c) xs) {j : Nat} {x : Value} (hj : xs[j]? = some x) : ∃ g off, p = some ⟨g, off, none⟩ ∧ w.cell? ⟨g, off + j, none⟩ = some x := by
 rcases h with ⟨h0, _⟩ | ⟨g', off', c', hv, _, hc⟩
 ·rw [h0] at hj; simp at hj
 ·simp only [Value.slice.injEq] at hv
  exact ⟨g', off', hv.1, hc j x hj⟩
/-- 'l[:b]' -/
theorem SLv.hi {P : Program} {T : Tab} (hT : tabOk P T = true) {t el n1 : Nat} {kd : TK} (ht : tfind T t = some ⟨.slice el, n1⟩) (he : tfind T el = some ⟨kd, 1⟩) {w : World} {v : Value} {xs : List Value} (h : SLv w v xs) (b : Nat) (hb : b ≤ xs.length) :
  ∃ v', (∀ (k : IntKind) (w' : World), (Instr.sliceAt t v none (some (.int k (b : Int))) none).run P w' = .ok v' w') ∧ SLv w v' (xs.take b) := by
 rcases h with ⟨rfl, a, c, rfl⟩ | ⟨g, off, c, rfl, hle, hc⟩
 ·have : b = 0 := by simpa using hb
  subst this
  refine ⟨.slice a 0 c, fun k w' => ?_, .inl ⟨rfl, _, _, rfl⟩⟩
  simp only [Instr.sliceAt, Instr.slice, Instr.sliceBounds, Sem.run_bind, Sem.run_pure, Go.Proofs.Ytefjgoeabfgkmaa.V.run_underlying (tab_slice hT ht), Result.andThen]
  rw [run_bound (P := P) (Nat.zero_le _)]
  simp only [Result.andThen, Sem.run_pure, tab_size hT he]
  cases a <;> simp [Addr.add]
 ·refine ⟨_, fun k w' => run_slice_hi hT ht he b (by omega), ?_⟩
  have hl : (xs.take b).length = b := by rw [List.length_take]; omega
  exact .inr ⟨g, off, c, by rw [hl], by omega, fun j x hj => hc j x (by
   have := (List.getElem?_eq_some_iff.1 hj).1
   rw [List.getElem?_take] at hj; split at hj
   ·exact hj
   ·cases hj)⟩
/-- 'l[a:]' -/
theorem SLv.lo {P : Program} {T : Tab} (hT : tabOk P T = true) {t el n1 : Nat} {kd : TK} (ht : tfind T t = some ⟨.slice el, n1⟩) (he : tfind T el = some ⟨kd, 1⟩) {w : World} {v : Value} {xs : List Value} (h : SLv w v xs) (b : Nat) (hb : b ≤ xs.length) :
  ∃ v', (∀ (k : IntKind) (w' : World), (Instr.sliceAt t v (some (.int k (b : Int))) none none).run P w' = .ok v' w') ∧ SLv w v' (xs.drop b) := by
 rcases h with ⟨rfl, a, c, rfl⟩ | ⟨g, off, c, rfl, hle, hc⟩
 ·have : b = 0 := by simpa using hb
  subst this
  refine ⟨.slice a 0 c, fun k w' => ?_, .inl ⟨rfl, _, _, rfl⟩⟩
  simp only [Instr.sliceAt, Instr.slice, Instr.sliceBounds, Sem.run_bind, Sem.run_pure, Go.Proofs.Ytefjgoeabfgkmaa.V.run_underlying (tab_slice hT ht), Result.andThen]
  rw [run_bound (P := P) (Nat.zero_le _)]
  simp only [Result.andThen, Sem.run_pure, tab_size hT he]
  cases a <;> simp [Addr.add]
 ·refine ⟨_, fun k w' => run_slice_lo hT ht he b hb, ?_⟩
  by_cases hz : xs.length = b
  ·exact .inl ⟨by rw [List.drop_eq_nil_iff]; omega, _, _, by rw [hz, Nat.sub_self]⟩
  ·rw [if_neg (by omega)]
   exact .inr ⟨g, off + b, c - b, by rw [List.length_drop, Nat.mul_one], by rw [List.length_drop]; omega, fun j x hj => by
    rw [Nat.add_assoc]; exact hc (b + j) x (by rw [List.getElem?_drop] at hj; exact hj)⟩
/-- what an append reads of a slice -/
theorem SLv.src {P : Program} {T : Tab} (hT : tabOk P T = true) {tx el n1 : Nat} (ht : tfind T tx = some ⟨.slice el, n1⟩) {w : World} {v : Value} {xs : List Value} (h : SLv w v xs) (h1 : ∀ u ∈ xs, u.oneCell' = true) : Src P 1 tx v xs.length xs w := by
 rcases h with ⟨rfl, a, c, rfl⟩ | ⟨g, off, c, rfl, hle, hc⟩
 ·cases a with
  | none => exact Src.ofNil w (tab_slice hT ht) c
  | some a => exact Src.ofSlice w (tab_slice hT ht) a 0 c [] rfl (by simp) (by simp)
 ·exact Src.ofSlice w (tab_slice hT ht) ⟨g, off, none⟩ _ c xs (by omega) (fun j u hj => by rw [add_none]; exact hc j u hj) h1
end V
namespace V
/-- '[]E{..}': a row of the call's own. -/
theorem HpM.kmadeR {P : Program} {M : List Nat} {w0 w : World} {H : List It} (h : HpM M w0 w H) {s : Sem Value} (cs : List Value) (e size n : Nat) (hn : cs.length = n * size) (hm : n ≤ maxLen) (hr : s.run P w = .ok (.slice (some ⟨w.heap.size, 0, none⟩) n n) (w.alloc (.cells cs.toArray e))) {K : Value → World → Prop}
  (hk : ∀ b w', HpM M w0 w' (row e size (.slice (some ⟨b, 0, none⟩) n n) n cs :: H) → Ext w w' → K (.slice (some ⟨b, 0, none⟩) n n) w') : ∃ v w', s.run P w = .ok v w' ∧ K v w' := by
 have hx : Ext w (w.alloc (.cells cs.toArray e)) := (Ext.refl w).alloc _
 refine ⟨_, _, hr, hk _ _ (h.push hx (row_ok _ _ _ _ _) ?_ ?_) hx⟩
 ·exact ⟨hn, .inr ⟨w.heap.size, n, cs.toArray, rfl, Nat.zero_le _, heap_alloc_new w _, Nat.le_refl _, hm, by simpa using hn, by simp [← hn]⟩⟩
 ·intro b hb
  simp only [row, Value.ownBlock, Option.some.injEq] at hb
  subst hb
  exact ⟨Nat.le_refl _, by simp⟩
/-- append onto a full row of the call's own (the list's head), whatever comes in. -/
theorem HpM.kappE {P : Program} {M : List Nat} {w0 w : World} {H : List It} {t e size bytes : Nat} (hs : slOk P t e size bytes = true) {b n : Nat} {cs : List Value} (h : HpM M w0 w (row e size (.slice (some ⟨b, 0, none⟩) n n) n cs :: H))
  {tx ty : Nat} {x : Value} {m : Nat} {news : List Value} (src : Src P size tx x m news w) (hby : (n + m) * bytes ≤ 140737488355328) (hml : n + m ≤ maxLen) {K : Value → World → Prop}
  (hk : ∀ v' w', HpM M w0 w' (row e size v' (n + m) (cs ++ news) :: H) → Ext w w' → K v' w') :
  ∃ u w', (Builtin.append_ #[t, tx] ty #[.slice (some ⟨b, 0, none⟩) n n, x]).run P w = .ok u w' ∧ K u w' := by
 have hown : w.ownsRow 0 e size (.slice (some ⟨b, 0, none⟩) n n) n cs := h.get (i := 0) rfl
 obtain ⟨hl, h2⟩ := hown
 rcases Nat.eq_zero_or_pos m with rfl | hm
 ·obtain ⟨hu, ⟨inf, z, hinf, hsz, rfl, hz, hzs⟩, hpos⟩ := slOk_spec hs
  have hnews : news = [] := List.eq_nil_of_length_eq_zero (by have := src.newsLen; omega)
  subst hnews
  subst hsz
  have hr := run_append_room_src (P := P) w t tx ty e inf hu hinf b 0 n n x 0 [] src (by omega) (by simp) (by simp)
  refine ⟨_, _, hr, ?_⟩
  rw [show w.setCells b (0 + n * inf.size) [] = w from by first | rfl | simp [World.setCells]]
  exact hk _ _ (by simpa using h) (Ext.refl w)
 ·rcases h2 with ⟨hv, _⟩ | ⟨g, cap, cur, hv, _, hg, hle, hcm, hcs, htake⟩
  ·simp at hv
  ·simp only [Value.slice.injEq, Option.some.injEq, Addr.mk.injEq, true_and, and_true] at hv
   obtain ⟨rfl, rfl⟩ := hv
   have hb : Blk w b cs e := ⟨(0, 0), .inl rfl, by
    rw [hg]; rw [← htake, List.take_of_length_le (by simp; omega)]⟩
   exact h.kappF hs hb hl src hby hml hm fun g c w' hp hx => hk _ _ (hp.sub (by simp)) hx
end V
namespace V
/-- q: a quiet operation; m: one that makes things; br: two such, in either order -/
inductive MT where
 | nil
 | q (i : Nat) (r : MT)
 | m (i : Nat) (r : MT)
 | br (i j : Nat) (r s : MT)
 | br3 (i j k : Nat) (r s t : MT)
 | br4 (i j k m : Nat) (r s t u : MT)
def MT.len : MT → Nat
 | .nil => 0
 | .q _ r => r.len + 1
 | .m _ r => r.len + 1
 | .br _ _ r _ => r.len + 1
 | .br3 _ _ _ r _ _ => r.len + 1
 | .br4 _ _ _ _ r _ _ _ => r.len + 1
section
variable {P : Program} {md : Region.Mode} {ops : Array Oper}
def mtB (md : Region.Mode) (ops : Array Oper) (n : Nat) (base : Array Bool → Bool) : MT → Array Bool → Bool
 | .nil, done => base done
 | .q i r, done => decide (i < n) && (Region.ready md ops done).contains i && Region.free md ops done i && mtB md ops n base r (done.setIfInBounds i true)
 | .m i r, done => decide (i < n) && decide (Region.ready md ops done = [i]) && mtB md ops n base r (done.setIfInBounds i true)
 | .br i j r s, done => decide (i < n) && decide (j < n) && decide (Region.ready md ops done = [i, j]) && Nat.beq r.len s.len && mtB md ops n base r (done.setIfInBounds i true) && mtB md ops n base s (done.setIfInBounds j true)
 | .br3 i j k r s t, done => decide (i < n) && decide (j < n) && decide (k < n) && decide (Region.ready md ops done = [i, j, k]) && Nat.beq r.len s.len && Nat.beq r.len t.len && mtB md ops n base r (done.setIfInBounds i true) && mtB md ops n base s (done.setIfInBounds j true) && mtB md ops n base t (done.setIfInBounds k true)
 | .br4 i j k m r s t u, done => decide (i < n) && decide (j < n) && decide (k < n) && decide (m < n) && decide (Region.ready md ops done = [i, j, k, m]) && Nat.beq r.len s.len && Nat.beq r.len t.len && Nat.beq r.len u.len && mtB md ops n base r (done.setIfInBounds i true) && mtB md ops n base s (done.setIfInBounds j true) && mtB md ops n base t (done.setIfInBounds k true) && mtB md ops n base u (done.setIfInBounds m true)
def actMt (P : Program) (ops : Array Oper) (Lq : Act → World → Prop) : MT → Act → World → Prop
 | .nil, a, w => ∀ w1, Ext w w1 → Lq a w1
 | .q i r, a, w => ∃ o, ops[i]? = some o ∧ ∃ v, YG P ops o v a w ∧ actMt P ops Lq r (a.put o.dst v) w
 | .m i r, a, w => ∀ w1, Ext w w1 → okOp P ops i (fun a' w2 => Ext w1 w2 ∧ actMt P ops Lq r a' w2) a w1
 | .br i j r s, a, w => (∀ w1, Ext w w1 → okOp P ops i (fun a' w2 => Ext w1 w2 ∧ actMt P ops Lq r a' w2) a w1) ∧ (∀ w1, Ext w w1 → okOp P ops j (fun a' w2 => Ext w1 w2 ∧ actMt P ops Lq s a' w2) a w1)
 | .br3 i j k r s t, a, w => (∀ w1, Ext w w1 → okOp P ops i (fun a' w2 => Ext w1 w2 ∧ actMt P ops Lq r a' w2) a w1) ∧ (∀ w1, Ext w w1 → okOp P ops j (fun a' w2 => Ext w1 w2 ∧ actMt P ops Lq s a' w2) a w1) ∧ (∀ w1, Ext w w1 → okOp P ops k (fun a' w2 => Ext w1 w2 ∧ actMt P ops Lq t a' w2) a w1)
 | .br4 i j k m r s t u, a, w => (∀ w1, Ext w w1 → okOp P ops i (fun a' w2 => Ext w1 w2 ∧ actMt P ops Lq r a' w2) a w1) ∧ (∀ w1, Ext w w1 → okOp P ops j (fun a' w2 => Ext w1 w2 ∧ actMt P ops Lq s a' w2) a w1) ∧ (∀ w1, Ext w w1 → okOp P ops k (fun a' w2 => Ext w1 w2 ∧ actMt P ops Lq t a' w2) a w1) ∧ (∀ w1, Ext w w1 → okOp P ops m (fun a' w2 => Ext w1 w2 ∧ actMt P ops Lq u a' w2) a w1)
theorem headG_mt {n : Nat} {base : Array Bool → Bool} {Lq : Act → World → Prop} {Inv : Array Bool → Prop} (hsel : Region.noSelect ops = true)
  (hW : ∀ done i, Inv done → i < n → done.getD i true = false → ∀ j ∈ Region.ready md ops done, j < n) (hI : ∀ done i, Inv done → i ∈ Region.ready md ops done → i < n → Inv (done.setIfInBounds i true))
  (hbase : ∀ done, base done = true → ∀ j ∈ Region.ready md ops done, n ≤ j) :
  ∀ (r : MT) (done : Array Bool) (a : Act) (w : World), Inv done → mtB md ops n base r done = true → actMt P ops Lq r a w →
   headG P md ops n (fun done a w => base done = true ∧ Lq a w) r.len done a w
 | .nil, done, a, w, _, hB, h => fun w1 hx => ⟨hB, h w1 hx⟩
 | .q i r, done, a, w, inv, hB, h => by
  simp only [mtB, Bool.and_eq_true, decide_eq_true_eq] at hB
  obtain ⟨⟨⟨hin, hr⟩, hf⟩, hB'⟩ := hB
  obtain ⟨o, ho, v, hy, hk⟩ := h
  have hr' : i ∈ Region.ready md ops done := by simpa using hr
  exact headG_take ho (Region.noSelect_spec hsel) hW hI hin (fun done a w hL => hbase done hL.1) r.len done a w inv (Region.free_spec ho hf) hr' hy
   (headG_mt hsel hW hI hbase r _ _ _ (hI _ _ inv hr' hin) hB' hk)
 | .m i r, done, a, w, inv, hB, h => by
  simp only [mtB, Bool.and_eq_true, decide_eq_true_eq] at hB
  obtain ⟨⟨hin, hr⟩, hB'⟩ := hB
  intro w1 hx
  have hri : i ∈ Region.ready md ops done := by rw [hr]; simp
  refine ⟨by rw [hr]; simp, fun j hj => ?_⟩
  rw [hr] at hj
  obtain rfl : j = i := by simpa using hj
  exact ⟨hin, okOp_mono (fun a' w2 h2 => ⟨h2.1, headG_mt hsel hW hI hbase r _ _ _ (hI _ _ inv hri hin) hB' h2.2⟩) (h w1 hx)⟩
 | .br i j r s, done, a, w, inv, hB, h => by
  simp only [mtB, Bool.and_eq_true, decide_eq_true_eq] at hB
  obtain ⟨⟨⟨⟨⟨hin, hjn⟩, hr⟩, hl⟩, hB1⟩, hB2⟩ := hB
  have hl : r.len = s.len := by simpa using hl
  intro w1 hx
  have hri : i ∈ Region.ready md ops done := by rw [hr]; simp
  have hrj : j ∈ Region.ready md ops done := by rw [hr]; simp
  refine ⟨by rw [hr]; simp, fun k hk => ?_⟩
  rw [hr] at hk
  have hk : k = i ∨ k = j := by simpa using hk
  rcases hk with rfl | rfl
  ·exact ⟨hin, okOp_mono (fun a' w2 h2 => ⟨h2.1, headG_mt hsel hW hI hbase r _ _ _ (hI _ _ inv hri hin) hB1 h2.2⟩) (h.1 w1 hx)⟩
  ·refine ⟨hjn, okOp_mono (fun a' w2 h2 => ⟨h2.1, ?_⟩) (h.2 w1 hx)⟩
   have := headG_mt hsel hW hI hbase s _ _ _ (hI _ _ inv hrj hjn) hB2 h2.2
   rw [hl]; exact this
 | .br3 i j k r s t, done, a, w, inv, hB, h => by
  simp only [mtB, Bool.and_eq_true, decide_eq_true_eq] at hB
  obtain ⟨⟨⟨⟨⟨⟨⟨⟨hin, hjn⟩, hkn⟩, hr⟩, hl⟩, hl2⟩, hB1⟩, hB2⟩, hB3⟩ := hB
  have hl : r.len = s.len := by simpa using hl
  have hl2 : r.len = t.len := by simpa using hl2
  intro w1 hx
  have hri : i ∈ Region.ready md ops done := by rw [hr]; simp
  have hrj : j ∈ Region.ready md ops done := by rw [hr]; simp
  have hrk : k ∈ Region.ready md ops done := by rw [hr]; simp
  refine ⟨by rw [hr]; simp, fun q hq => ?_⟩
  rw [hr] at hq
  have hq : q = i ∨ q = j ∨ q = k := by simpa using hq
  rcases hq with rfl | rfl | rfl
  ·exact ⟨hin, okOp_mono (fun a' w2 h2 => ⟨h2.1, headG_mt hsel hW hI hbase r _ _ _ (hI _ _ inv hri hin) hB1 h2.2⟩) (h.1 w1 hx)⟩
  ·refine ⟨hjn, okOp_mono (fun a' w2 h2 => ⟨h2.1, ?_⟩) (h.2.1 w1 hx)⟩
   have := headG_mt hsel hW hI hbase s _ _ _ (hI _ _ inv hrj hjn) hB2 h2.2
   rw [hl]; exact this
  ·refine ⟨hkn, okOp_mono (fun a' w2 h2 => ⟨h2.1, ?_⟩) (h.2.2 w1 hx)⟩
   have := headG_mt hsel hW hI hbase t _ _ _ (hI _ _ inv hrk hkn) hB3 h2.2
   rw [hl2]; exact this
 | .br4 i j k m r s t u, done, a, w, inv, hB, h => by
  simp only [mtB, Bool.and_eq_true, decide_eq_true_eq] at hB
  obtain ⟨⟨⟨⟨⟨⟨⟨⟨⟨⟨⟨hin, hjn⟩, hkn⟩, hmn⟩, hr⟩, hl⟩, hl2⟩, hl3⟩, hB1⟩, hB2⟩, hB3⟩, hB4⟩ := hB
  have hl : r.len = s.len := by simpa using hl
  have hl2 : r.len = t.len := by simpa using hl2
  have hl3 : r.len = u.len := by simpa using hl3
  intro w1 hx
  have hri : i ∈ Region.ready md ops done := by rw [hr]; simp
  have hrj : j ∈ Region.ready md ops done := by rw [hr]; simp
  have hrk : k ∈ Region.ready md ops done := by rw [hr]; simp
  have hrm : m ∈ Region.ready md ops done := by rw [hr]; simp
  refine ⟨by rw [hr]; simp, fun q hq => ?_⟩
  rw [hr] at hq
  have hq : q = i ∨ q = j ∨ q = k ∨ q = m := by simpa using hq
  rcases hq with rfl | rfl | rfl | rfl
  ·exact ⟨hin, okOp_mono (fun a' w2 h2 => ⟨h2.1, headG_mt hsel hW hI hbase r _ _ _ (hI _ _ inv hri hin) hB1 h2.2⟩) (h.1 w1 hx)⟩
  ·refine ⟨hjn, okOp_mono (fun a' w2 h2 => ⟨h2.1, ?_⟩) (h.2.1 w1 hx)⟩
   have := headG_mt hsel hW hI hbase s _ _ _ (hI _ _ inv hrj hjn) hB2 h2.2
   rw [hl]; exact this
  ·refine ⟨hkn, okOp_mono (fun a' w2 h2 => ⟨h2.1, ?_⟩) (h.2.2.1 w1 hx)⟩
   have := headG_mt hsel hW hI hbase t _ _ _ (hI _ _ inv hrk hkn) hB3 h2.2
   rw [hl2]; exact this
  ·refine ⟨hmn, okOp_mono (fun a' w2 h2 => ⟨h2.1, ?_⟩) (h.2.2.2 w1 hx)⟩
   have := headG_mt hsel hW hI hbase u _ _ _ (hI _ _ inv hrm hmn) hB4 h2.2
   rw [hl3]; exact this
theorem actMt_ext {Lq : Act → World → Prop} : ∀ (r : MT) (a : Act) (w w' : World), Ext w w' → actMt P ops Lq r a w → actMt P ops Lq r a w'
 | .nil, _, _, _, hx, h => fun w1 h1 => h w1 (hx.trans h1)
 | .q _ r, _, _, _, hx, ⟨o, ho, v, hy, hk⟩ => ⟨o, ho, v, hy.mono hx, actMt_ext r _ _ _ hx hk⟩
 | .m _ _, _, _, _, hx, h => fun w1 h1 => h w1 (hx.trans h1)
 | .br _ _ _ _, _, _, _, hx, h => ⟨fun w1 h1 => h.1 w1 (hx.trans h1), fun w1 h1 => h.2 w1 (hx.trans h1)⟩
 | .br3 _ _ _ _ _ _, _, _, _, hx, h => ⟨fun w1 h1 => h.1 w1 (hx.trans h1), fun w1 h1 => h.2.1 w1 (hx.trans h1), fun w1 h1 => h.2.2 w1 (hx.trans h1)⟩
 | .br4 _ _ _ _ _ _ _ _, _, _, _, hx, h => ⟨fun w1 h1 => h.1 w1 (hx.trans h1), fun w1 h1 => h.2.1 w1 (hx.trans h1), fun w1 h1 => h.2.2.1 w1 (hx.trans h1), fun w1 h1 => h.2.2.2 w1 (hx.trans h1)⟩
def mtT (ops : Array Oper) (n : Nat) (r : MT) : Bool :=
 Region.noSelect ops && decide (n < ops.size) && Region.sinkB .any ops n && Region.chainB .any ops n && mtB .any ops n (Region.seqB .any ops (ops.size - n) n) r (Array.replicate ops.size false) && Nat.beq r.len n
theorem region_mtT {Q : Exit → Act → World → Prop} {a : Act} {w : World} {l : List Oper} (n : Nat) (r : MT) (hm : P.follows .mixedOrders = true) (hB : mtT l.toArray n r = true)
  (h : actMt P l.toArray (fun a' w' => wpList P l.toArray Q (l.drop n) a' w') r a w) (t : Nat) :
  wpOps P l.toArray Q (Region.schedule (P.follows .mixedOrders) l.toArray t) a { w with drawn := w.drawn + 1 } := by
 simp only [mtT, Bool.and_eq_true, decide_eq_true_eq] at hB
 obtain ⟨⟨⟨⟨⟨hsel, hn⟩, hs⟩, hc⟩, hmix⟩, hlen⟩ := hB
 have hlen : r.len = n := by simpa using hlen
 have hn' : n < l.length := by simpa using hn
 have inv0 : HeadInv .any l.toArray n (Array.replicate l.toArray.size false) :=
  ⟨by simp, fun j oj _ hl => (by rw [getD_replicate_false] at hl; cases hl), fun t _ ht => getD_in (by simpa using ht) (getD_replicate_false _ _)⟩
 have H := headG_mt (P := P) (md := .any) (Inv := HeadInv .any l.toArray n) hsel
  (fun done i inv hin hun j hj => Nat.lt_of_not_le fun h => absurd hj (tail_waits hs hc hn inv _ i rfl hin hun j h))
  (fun done i inv hi hin => inv.set hi hin) (fun done hb => seqB_ready hb) r _ a { w with drawn := w.drawn + 1 } inv0 hmix (actMt_ext r a w _ (Ext.refl w).drew h)
 refine any_ops hm ?_ t
 have key := any_of_headG (Q := Q) (g := l.toArray.size - n) (fun done a' w' hL => by
  have e : (l.drop n).length = l.toArray.size - n := by simp
  have := wpAny_of_seq (P := P) (md := .any) (ops := l.toArray) (Q' := Q) (l.drop n) n done a' w' (fun j => by simp) (by rw [e]; exact hL.1) hL.2
  rwa [e] at this) r.len _ a _ H
 have e2 : r.len + (l.toArray.size - n) = l.toArray.size := by rw [hlen]; simp; omega
 rwa [e2] at key
end
section
variable (P : Program) (T : Tab) (Fs : List Nat) (n : Nat) (all : List Oper)
abbrev mStep (i : Nat) (k : Env → World → Prop) (l : Env) (w : World) : Prop := match all[i]? with
 | none => False
 | some o => ∀ w1, Ext w w1 → vops T Fs (nrmH0 P) n all [o] l w1 fun l w2 => Ext w1 w2 ∧ k l w2
abbrev vmt (K : Env → World → Prop) : MT → Env → World → Prop
 | .nil, l, w => ∀ w1, Ext w w1 → K l w1
 | .q i r, l, w => match all[i]? with
  | none => False
  | some o => vops T Fs (quiE P w) n all [o] l () fun l _ => vmt K r l w
 | .m i r, l, w => mStep P T Fs n all i (fun l w => vmt K r l w) l w
 | .br i j r s, l, w => mStep P T Fs n all i (fun l w => vmt K r l w) l w ∧ mStep P T Fs n all j (fun l w => vmt K s l w) l w
 | .br3 i j k r s t, l, w => mStep P T Fs n all i (fun l w => vmt K r l w) l w ∧ mStep P T Fs n all j (fun l w => vmt K s l w) l w ∧ mStep P T Fs n all k (fun l w => vmt K t l w) l w
 | .br4 i j k m r s t u, l, w => mStep P T Fs n all i (fun l w => vmt K r l w) l w ∧ mStep P T Fs n all j (fun l w => vmt K s l w) l w ∧ mStep P T Fs n all k (fun l w => vmt K t l w) l w ∧ mStep P T Fs n all m (fun l w => vmt K u l w) l w
end
section
variable {P : Program} {T : Tab} {Fs : List Nat} (hT : tabOk P T = true) (hF : ∀ f, memB f Fs = true → Enters P f)
include hT hF
theorem mStep_act {n : Nat} {all : List Oper} {i : Nat} {k : Env → World → Prop} {q : Act → World → Prop} (hk : ∀ l a w, At n l a → k l w → q a w) {l : Env} {a : Act} {w : World} (ha : At n l a) (h : mStep P T Fs n all i k l w) :
  ∀ w1, Ext w w1 → okOp P all.toArray i (fun a' w2 => Ext w1 w2 ∧ q a' w2) a w1 := by
 unfold mStep at h
 cases hi : all[i]? with
 | none => simp only [hi] at h
 | some o =>
  simp only [hi] at h
  intro w1 hx
  unfold okOp
  rw [show all.toArray[i]? = some o by simpa using hi]
  rcases vops_one hT hF (nrm_laws0 P) ha (h w1 hx) with ⟨hw, l', ha', hq⟩ | ⟨hw, l', ha', hk'⟩
  ·simp only [hw, if_true]
   refine hq o a _ QF fun e w' hk' => ?_
   obtain ⟨l2, ha2, hk'⟩ := vdst_put ha' hk'
   exact ⟨hk'.1, hk _ _ _ ha2 hk'.2⟩
  ·simp only [hw, Bool.false_eq_true, if_false]
   obtain ⟨l2, ha2, hk'⟩ := vdst_put ha' hk'
   exact ⟨hk'.1, hk _ _ _ ha2 hk'.2⟩
theorem vmt_act {n : Nat} {all : List Oper} {K : Env → World → Prop} {Lq : Act → World → Prop} (hK : ∀ l a w, At n l a → K l w → Lq a w) :
  ∀ {r : MT} {l : Env} {a : Act} {w : World}, At n l a → vmt P T Fs n all K r l w → actMt P all.toArray Lq r a w
 | .nil, l, a, w, ha, h => fun w1 hx => hK _ _ _ ha (h w1 hx)
 | .q i r, l, a, w, ha, h => by
  simp only [vmt] at h
  cases hi : all[i]? with
  | none => simp only [hi] at h
  | some o =>
   simp only [hi] at h
   refine ⟨o, by simpa using hi, ?_⟩
   rcases vops_one hT hF (quiE_laws P w) ha h with ⟨hw, l', ha', e, hq, hk⟩ | ⟨hw, l', ha', hk⟩
   ·obtain ⟨l2, ha2, hk⟩ := vdst_put ha' hk
    exact ⟨e.val, .inl ⟨hw, hq⟩, vmt_act hK ha2 hk⟩
   ·obtain ⟨l2, ha2, hk⟩ := vdst_put ha' hk
    exact ⟨undef, .inr ⟨hw, rfl⟩, vmt_act hK ha2 hk⟩
 | .m i r, l, a, w, ha, h => mStep_act hT hF (k := fun l w => vmt P T Fs n all K r l w) (q := fun a w => actMt P all.toArray Lq r a w) (fun _ _ _ ha2 hk => vmt_act hK ha2 hk) ha h
 | .br i j r s, l, a, w, ha, h => ⟨mStep_act hT hF (k := fun l w => vmt P T Fs n all K r l w) (q := fun a w => actMt P all.toArray Lq r a w) (fun _ _ _ ha2 hk => vmt_act hK ha2 hk) ha h.1, mStep_act hT hF (k := fun l w => vmt P T Fs n all K s l w) (q := fun a w => actMt P all.toArray Lq s a w) (fun _ _ _ ha2 hk => vmt_act hK ha2 hk) ha h.2⟩
 | .br3 i j k r s t, l, a, w, ha, h => ⟨mStep_act hT hF (k := fun l w => vmt P T Fs n all K r l w) (q := fun a w => actMt P all.toArray Lq r a w) (fun _ _ _ ha2 hk => vmt_act hK ha2 hk) ha h.1, mStep_act hT hF (k := fun l w => vmt P T Fs n all K s l w) (q := fun a w => actMt P all.toArray Lq s a w) (fun _ _ _ ha2 hk => vmt_act hK ha2 hk) ha h.2.1, mStep_act hT hF (k := fun l w => vmt P T Fs n all K t l w) (q := fun a w => actMt P all.toArray Lq t a w) (fun _ _ _ ha2 hk => vmt_act hK ha2 hk) ha h.2.2⟩
 | .br4 i j k m r s t u, l, a, w, ha, h => ⟨mStep_act hT hF (k := fun l w => vmt P T Fs n all K r l w) (q := fun a w => actMt P all.toArray Lq r a w) (fun _ _ _ ha2 hk => vmt_act hK ha2 hk) ha h.1, mStep_act hT hF (k := fun l w => vmt P T Fs n all K s l w) (q := fun a w => actMt P all.toArray Lq s a w) (fun _ _ _ ha2 hk => vmt_act hK ha2 hk) ha h.2.1, mStep_act hT hF (k := fun l w => vmt P T Fs n all K t l w) (q := fun a w => actMt P all.toArray Lq t a w) (fun _ _ _ ha2 hk => vmt_act hK ha2 hk) ha h.2.2.1, mStep_act hT hF (k := fun l w => vmt P T Fs n all K u l w) (q := fun a w => actMt P all.toArray Lq u a w) (fun _ _ _ ha2 hk => vmt_act hK ha2 hk) ha h.2.2.2⟩
theorem v_mt {n : Nat} {ops : List Oper} {l : Env} {w : World} {K : Env → World → Prop} (hm : P.follows .mixedOrders = true) (k : Nat) (r : MT) (hB : (mtT ops.toArray k r && noDefer ops) = true)
  (h : vmt P T Fs n ops (fun l w => vops T Fs (nrmH0 P) n ops (ops.drop k) l w K) r l w) : VDraw P n ops l w K := by
 simp only [Bool.and_eq_true] at hB
 refine VDraw.ofPlain (fun a Q ha hK => ?_) hB.2
 refine region_mtT k r hm hB.1 ?_
 exact vmt_act hT hF (K := fun l w => vops T Fs (nrmH0 P) n ops (ops.drop k) l w K) (fun l a w ha h => vops_sound0 hT hF (all := ops) (K := K) (fun l a w ha hk => hK l a w ha hk) ha h) ha h
end
end V
end Go.Proofs.Ytefjgoeabfgkmaa
