/- Contracts, memory: what walks by V lean on. Own work. No program is named here. -/
/- Operations on memory, over Hp. Own work. No program is named here. -/
/- A region that draws its order: a quiet head in whatever order, then a tail that waits for all of it. Own work. -/
import Derived.Test.YtmlmfmdmomegpaaGreatDoorKN02
import Derived.Laws.IdiomStrings
import Derived.Laws.MakeOwn
import Derived.Deep.AppendSrc
import Derived.Laws.Rows
namespace Go.Proofs.YtmlmfmdmomegpaaGreatDoor
set_option linter.unusedSimpArgs false
set_option linter.unusedVariables false
open Go.RowKit
namespace V

theorem look_int {l : Env} {d : Nat} {k : IntKind} {a b : Int} (h : look l d = some (.v (.int k a))) (e : a = b) : look l d = some (.v (.int k b)) := by rw [h, e]
theorem byt_lt (s : ByteArray) (i : Nat) : byt s i < 256 := UInt8.toNat_lt _
theorem size_extract (s : ByteArray) (a b : Nat) (h : b ≤ s.size) : (s.extract a b).size = b - a := by
  rw [ByteArray.size_extract]; omega
theorem byt_extract (s : ByteArray) (a b i : Nat) (h : a + i < b) (hb : b ≤ s.size) : byt (s.extract a b) i = byt s (a + i) := by
  unfold byt
  congr 1
  rw [ByteArray.data_extract, Array.toList_extract, List.extract_eq_take_drop, List.getD_eq_getElem?_getD, List.getD_eq_getElem?_getD, List.getElem?_take, if_pos (by omega), List.getElem?_drop]
/-- The world has grown: what was there stands as it stood. -/
def Ext (w w' : World) : Prop := Below w.heap.size w w'
theorem Ext.refl (w : World) : Ext w w := Below.refl _ _
theorem Ext.trans {a b c : World} (h : Ext a b) (k : Ext b c) : Ext a c := Below.trans h (Below.mono k h.size)
theorem Ext.drew {a b : World} (h : Ext a b) : Ext a { b with drawn := b.drawn + 1 } := Below.drew h
theorem Ext.alloc {a b : World} (h : Ext a b) (o : Obj) : Ext a (b.alloc o) := Below.alloc h h.size o
theorem Ext.size {a b : World} (h : Ext a b) : a.heap.size ≤ b.heap.size := Below.size h
theorem Ext.block {a b : World} (h : Ext a b) {k : Nat} {o : Obj} (hk : a.heap[k]? = some o) : b.heap[k]? = some o :=
  (Below.block h k (Array.getElem?_eq_some_iff.1 hk).1).trans hk
theorem cell_lt {w : World} {a : Addr} {v : Value} (h : w.cell? a = some v) : a.block < w.heap.size := by
  unfold World.cell? at h
  cases ho : w.heap[a.block]? with
  | none => simp [ho] at h
  | some o => exact (Array.getElem?_eq_some_iff.1 ho).1
theorem Ext.cell {a b : World} (h : Ext a b) {p : Addr} {v : Value} (hc : a.cell? p = some v) : b.cell? p = some v :=
  (Below.cell h (cell_lt hc)).trans hc
theorem Ext.grown {a w w' : World} {row : Option Nat} (h : Ext a w) (hg : w.grownBy w' row) (hr : ∀ k, row = some k → a.heap.size ≤ k) : Ext a w' := Below.grown h hg h.size hr

/-- A function that computes a value that names no memory: it may lay blocks of its own. -/
def PureF (P : Program) (f : Nat) (args : Array Value) (v : Value) : Prop := ∀ w, Calls P f args w fun e w' => e = .returned v ∧ Ext w w'
theorem PureF.use {P : Program} {f : Nat} {args : Array Value} {v : Value} (h : PureF P f args v) {w : World} {K : Value → World → Prop} (hk : ∀ w', Ext w w' → K v w') :
    Calls P f args w fun e w' => ∃ v, e = .returned v ∧ K v w' := (h w).mono fun _ w' ⟨he, hx⟩ => ⟨v, he, hk w' hx⟩
theorem PureF.quiet {P : Program} {f : Nat} {args : Array Value} {v : Value} (h : PureF P f args v) {w0 : World} {K : Value → Unit → Prop} (hk : K v ()) :
    ∃ v, (∀ w, Ext w0 w → Calls P f args w fun e w' => e = .returned v ∧ Ext w0 w') ∧ K v () :=
  ⟨v, fun w hw => (h w).mono fun _ w' ⟨he, hx⟩ => ⟨he, hw.trans hx⟩, hk⟩

theorem CallsUse {P : Program} {f : Nat} {args : Array Value} {v : Value} {w : World} {K : Value → World → Prop} (h : Calls P f args w fun e w' => e = .returned v ∧ Ext w w') (hk : ∀ w', Ext w w' → K v w') :
    Calls P f args w fun e w' => ∃ v, e = .returned v ∧ K v w' := h.mono fun _ w' ⟨he, hx⟩ => ⟨v, he, hk w' hx⟩

section
variable {P : Program} {T : Tab} {Fs : List Nat} (hT : tabOk P T = true) (hF : ∀ f, memB f Fs = true → Enters P f)
include hT hF
/-- A contract of a pure function, by its body's wp. -/
theorem v_pure {f : Nat} {fn : Func} {c : Code} {args : List Value} {v : Value} (hf : P.funcs[f]? = some fn) (hb : fn.body = some c) (hn : Nat.ble args.length fn.ntmps = true)
    (h : ∀ w, vgo P T Fs fn.ntmps c (entry 0 args) w (retK P fn.results.toList fun v' w' => v' = v ∧ Ext w w')) : PureF P f args.toArray v := fun w => by
  refine (v_fn hT hF hf hb (Nat.le_of_ble_eq_true hn) (h w)).mono ?_
  rintro e w' ⟨v', rfl, rfl, hx⟩
  exact ⟨rfl, hx⟩
end

/-! ### memory of the call's own -/
/-- A thing in memory: the block it lies in (if any), and what is said of it; it hangs on that block alone. -/
structure It where
  own : Option Nat
  holds : World → Prop
def It.Ok (x : It) : Prop := ∀ w w', w.heap.size ≤ w'.heap.size → (∀ b, x.own = some b → w'.heap[b]? = w.heap[b]?) → x.holds w → x.holds w'
/-- Block b holds just the cells cs, all of which may be written. -/
def Blk (w : World) (b : Nat) (cs : List Value) (e : Nat) : Prop := ∃ f : Nat × Nat, (f.1 = f.2 ∨ cs.length ≤ f.1) ∧ w.heap[b]? = some (.cells cs.toArray e f)
theorem Blk.lt {w : World} {b : Nat} {cs : List Value} {e : Nat} (h : Blk w b cs e) : b < w.heap.size := (Array.getElem?_eq_some_iff.1 h.choose_spec.2).1
theorem Blk.same {w w' : World} {b : Nat} {cs : List Value} {e : Nat} (h : Blk w b cs e) (hs : w'.heap[b]? = w.heap[b]?) : Blk w' b cs e :=
  let ⟨f, h1, h2⟩ := h
  ⟨f, h1, hs.trans h2⟩
def blk (b : Nat) (cs : List Value) (e : Nat) : It := ⟨some b, fun w => Blk w b cs e⟩
/-- a slice of the call's own: nil, or the first cells of a block -/
def row (e size : Nat) (v : Value) (n : Nat) (xs : List Value) : It := ⟨v.ownBlock, fun w => w.ownsRow 0 e size v n xs⟩
theorem blk_ok (b : Nat) (cs : List Value) (e : Nat) : (blk b cs e).Ok := fun w w' _ h hh => Blk.same hh (h b rfl)
theorem row_ok (e size : Nat) (v : Value) (n : Nat) (xs : List Value) : (row e size v n xs).Ok := fun w w' _ h hh => by
  obtain ⟨h1, h2⟩ := hh
  refine ⟨h1, ?_⟩
  rcases h2 with h2 | ⟨g, cap, cur, hv, hg, hb, r⟩
  · exact .inl h2
  · subst hv; exact .inr ⟨g, cap, cur, rfl, hg, (h g rfl).trans hb, r⟩

/-- The world has grown, and nothing that was there has turned but (at most) the blocks M. -/
structure ExtM (M : List Nat) (w w' : World) : Prop where
  os : w'.os = w.os
  tape : w'.tape = w.tape
  output : w'.output = w.output
  size : w.heap.size ≤ w'.heap.size
  block : ∀ k, k < w.heap.size → k ∉ M → w'.heap[k]? = w.heap[k]?
theorem ExtM.refl (M : List Nat) (w : World) : ExtM M w w := ⟨rfl, rfl, rfl, Nat.le_refl _, fun _ _ _ => rfl⟩
theorem ExtM.trans {M : List Nat} {a b c : World} (h : ExtM M a b) (k : Ext b c) : ExtM M a c :=
  ⟨(Below.os k).trans h.os, (Below.tape k).trans h.tape, (Below.output k).trans h.output, Nat.le_trans h.size k.size, fun i hi hm => (Below.block k i (Nat.lt_of_lt_of_le hi h.size)).trans (h.block i hi hm)⟩
theorem ExtM.grown {M : List Nat} {a w w' : World} {row : Option Nat} (h : ExtM M a w) (hg : w.grownBy w' row) (hr : ∀ k, row = some k → k ∈ M ∨ a.heap.size ≤ k) : ExtM M a w' :=
  ⟨hg.os.trans h.os, hg.tape.trans h.tape, hg.output.trans h.output, Nat.le_trans h.size hg.size, fun i hi hm => (hg.block i (Nat.lt_of_lt_of_le hi h.size) (fun e => by
    rcases hr i e.symm with h1 | h1
    · exact hm h1
    · omega)).trans (h.block i hi hm)⟩
theorem ExtM.grownBy {w w' : World} {b : Nat} (h : ExtM [b] w w') : w.grownBy w' (some b) :=
  ⟨h.os, h.tape, h.output, h.size, fun k hk hne => h.block k hk (fun e => hne (by simp at e; rw [e]))⟩

structure HpM (M : List Nat) (w0 w : World) (H : List It) : Prop where
  extM : ExtM M w0 w
  ok : ∀ x ∈ H, x.Ok
  holds : ∀ x ∈ H, x.holds w
  lo : ∀ x ∈ H, ∀ b, x.own = some b → (b ∈ M ∨ w0.heap.size ≤ b) ∧ b < w.heap.size
  apart : H.Pairwise fun x y => ∀ b, x.own = some b → y.own ≠ some b

theorem HpM.nil0 (M : List Nat) (w : World) : HpM M w w [] := ⟨ExtM.refl M w, by simp, by simp, by simp, .nil⟩
abbrev Hp (w0 w : World) (H : List It) : Prop := HpM [] w0 w H
theorem Hp.nil (w : World) : Hp w w [] := HpM.nil0 [] w
theorem HpM.ext {w0 w : World} {H : List It} (h : HpM [] w0 w H) : Ext w0 w := by
  obtain ⟨a, b, c, d, e⟩ := h.extM
  exact ⟨a, b, c, d, fun k hk => e k hk (by simp)⟩
theorem HpM.call {M : List Nat} {w0 w w' : World} {H : List It} (h : HpM M w0 w H) (hx : Ext w w') : HpM M w0 w' H :=
  ⟨h.extM.trans hx, h.ok, fun x hm => h.ok x hm w w' hx.size (fun b hb => Below.block hx b (h.lo x hm b hb).2) (h.holds x hm),
    fun x hm b hb => ⟨(h.lo x hm b hb).1, Nat.lt_of_lt_of_le (h.lo x hm b hb).2 hx.size⟩, h.apart⟩
theorem HpM.push {M : List Nat} {w0 w w' : World} {H : List It} (h : HpM M w0 w H) (hx : Ext w w') {x : It} (hok : x.Ok) (hh : x.holds w') (hl : ∀ b, x.own = some b → w.heap.size ≤ b ∧ b < w'.heap.size) : HpM M w0 w' (x :: H) := by
  have h' := h.call hx
  refine ⟨h'.extM, ?_, ?_, ?_, ?_⟩
  · intro y hy; rcases List.mem_cons.1 hy with rfl | hy
    · exact hok
    · exact h'.ok y hy
  · intro y hy; rcases List.mem_cons.1 hy with rfl | hy
    · exact hh
    · exact h'.holds y hy
  · intro y hy; rcases List.mem_cons.1 hy with rfl | hy
    · exact fun b hb => ⟨.inr (Nat.le_trans h.extM.size (hl b hb).1), (hl b hb).2⟩
    · exact h'.lo y hy
  · refine List.pairwise_cons.2 ⟨fun y hy b hb e => ?_, h.apart⟩
    have := (h.lo y hy b e).2
    have := (hl b hb).1
    omega
theorem HpM.upd {M : List Nat} {w0 w w' : World} {H : List It} (h : HpM M w0 w H) {i : Nat} {x x' : It} (hi : H[i]? = some x) (hg : w.grownBy w' x.own) (hok : x'.Ok) (hh : x'.holds w')
    (hl : ∀ b, x'.own = some b → x.own = some b ∨ (w.heap.size ≤ b ∧ b < w'.heap.size)) : HpM M w0 w' (H.set i x') := by
  have hil : i < H.length := (List.getElem?_eq_some_iff.1 hi).1
  have hxi : H[i] = x := (List.getElem?_eq_some_iff.1 hi).2
  have hmem : x ∈ H := hxi ▸ List.getElem_mem hil
  have hlo : ∀ b, x'.own = some b → (b ∈ M ∨ w0.heap.size ≤ b) ∧ b < w'.heap.size := fun b hb => by
    rcases hl b hb with h1 | h1
    · have := h.lo x hmem b h1; exact ⟨this.1, Nat.lt_of_lt_of_le this.2 hg.size⟩
    · exact ⟨.inr (Nat.le_trans h.extM.size h1.1), h1.2⟩
  have hne : ∀ j (hj : j < H.length), j ≠ i → ∀ b, H[j].own = some b → x.own ≠ some b := fun j hj hji b hb e => by
    rcases Nat.lt_or_ge j i with hlt | hge
    · exact List.pairwise_iff_getElem.1 h.apart j i hj hil hlt b hb (by rw [hxi]; exact e)
    · exact List.pairwise_iff_getElem.1 h.apart i j hil hj (by omega) b (by rw [hxi]; exact e) hb
  have kept : ∀ j (hj : j < H.length), j ≠ i → H[j].holds w' := fun j hj hji =>
    h.ok _ (List.getElem_mem hj) w w' hg.size (fun b hb => hg.block b (h.lo _ (List.getElem_mem hj) b hb).2 (fun e => hne j hj hji b hb e.symm)) (h.holds _ (List.getElem_mem hj))
  have mem : ∀ y ∈ H.set i x', y = x' ∨ ∃ j, ∃ hj : j < H.length, j ≠ i ∧ H[j] = y := fun y hy => by
    obtain ⟨j, hj, e⟩ := List.getElem_of_mem hy
    have hj' : j < H.length := by simpa using hj
    by_cases hji : j = i
    · subst hji; left; rw [← e]; simp
    · right; exact ⟨j, hj', hji, by rw [← e, List.getElem_set_ne (Ne.symm hji)]⟩
  refine ⟨h.extM.grown hg (fun k hk => (h.lo x hmem k hk).1), ?_, ?_, ?_, ?_⟩
  · intro y hy; rcases mem y hy with rfl | ⟨j, hj, _, rfl⟩
    · exact hok
    · exact h.ok _ (List.getElem_mem hj)
  · intro y hy; rcases mem y hy with rfl | ⟨j, hj, hji, rfl⟩
    · exact hh
    · exact kept j hj hji
  · intro y hy; rcases mem y hy with rfl | ⟨j, hj, hji, rfl⟩
    · exact hlo
    · exact fun b hb => ⟨(h.lo _ (List.getElem_mem hj) b hb).1, Nat.lt_of_lt_of_le (h.lo _ (List.getElem_mem hj) b hb).2 hg.size⟩
  · rw [List.pairwise_iff_getElem]
    intro p q hp hq hpq b hb e
    have hp' : p < H.length := by simpa using hp
    have hq' : q < H.length := by simpa using hq
    by_cases hpi : p = i
    · subst hpi
      rw [List.getElem_set_self] at hb
      rw [List.getElem_set_ne (by omega)] at e
      rcases hl b hb with h1 | h1
      · exact hne q hq' (by omega) b e h1
      · have := (h.lo _ (List.getElem_mem hq') b e).2; omega
    · rw [List.getElem_set_ne (Ne.symm hpi)] at hb
      by_cases hqi : q = i
      · subst hqi
        rw [List.getElem_set_self] at e
        rcases hl b e with h1 | h1
        · exact hne p hp' hpi b hb h1
        · have := (h.lo _ (List.getElem_mem hp') b hb).2; omega
      · rw [List.getElem_set_ne (Ne.symm hqi)] at e
        exact List.pairwise_iff_getElem.1 h.apart p q hp' hq' hpq b hb e
theorem HpM.sub {M : List Nat} {w0 w : World} {H H' : List It} (h : HpM M w0 w H) (hs : List.Sublist H' H) : HpM M w0 w H' :=
  ⟨h.extM, fun x hx => h.ok x (hs.subset hx), fun x hx => h.holds x (hs.subset hx), fun x hx => h.lo x (hs.subset hx), h.apart.sublist hs⟩
theorem HpM.rot {M : List Nat} {w0 w : World} {H : List It} (h : HpM M w0 w H) (n : Nat) : HpM M w0 w (H.drop n ++ H.take n) := by
  have hp : (H.drop n ++ H.take n).Perm H := by
    have := List.perm_append_comm (l₁ := H.drop n) (l₂ := H.take n)
    rwa [List.take_append_drop] at this
  exact ⟨h.extM, fun x hx => h.ok x (hp.mem_iff.1 hx), fun x hx => h.holds x (hp.mem_iff.1 hx), fun x hx => h.lo x (hp.mem_iff.1 hx),
    (hp.symm.pairwise_iff (fun {x y} hxy b hb e => hxy b e hb)).1 h.apart⟩
theorem HpM.get {M : List Nat} {w0 w : World} {H : List It} (h : HpM M w0 w H) {i : Nat} {x : It} (hi : H[i]? = some x) : x.holds w := h.holds x (List.mem_of_getElem? hi)
/-- A block of the caller's: it may be written. -/
theorem HpM.take {M : List Nat} {w0 w : World} {H : List It} (h : HpM M w0 w H) {b : Nat} {cs : List Value} {e : Nat} (hb : Blk w b cs e) (hM : b ∈ M) (hne : ∀ x ∈ H, x.own ≠ some b) : HpM M w0 w (blk b cs e :: H) := by
  have hlt : b < w.heap.size := hb.lt
  refine ⟨h.extM, ?_, ?_, ?_, ?_⟩
  · intro y hy; rcases List.mem_cons.1 hy with rfl | hy
    · exact blk_ok _ _ _
    · exact h.ok y hy
  · intro y hy; rcases List.mem_cons.1 hy with rfl | hy
    · exact hb
    · exact h.holds y hy
  · intro y hy; rcases List.mem_cons.1 hy with rfl | hy
    · intro b' hb'; simp only [blk, Option.some.injEq] at hb'; subst hb'; exact ⟨.inl hM, hlt⟩
    · exact h.lo y hy
  · refine List.pairwise_cons.2 ⟨fun y hy b' hb' e => ?_, h.apart⟩
    simp only [blk, Option.some.injEq] at hb'; subst hb'
    exact hne y hy e
/-- A block of the caller's that is not written reads as it did. -/
theorem HpM.old {M : List Nat} {w0 w : World} {H : List It} (h : HpM M w0 w H) {b : Nat} {cs : List Value} {e : Nat} (hb : Blk w0 b cs e) (hM : b ∉ M) : Blk w b cs e :=
  hb.same (h.extM.block b hb.lt hM)
/-- Behind a call that may have written one of the blocks. -/
theorem HpM.wrote {M : List Nat} {w0 w w' : World} {H : List It} (h : HpM M w0 w H) {i b : Nat} {cs cs' : List Value} {e : Nat} (hi : H[i]? = some (blk b cs e)) (hg : w.grownBy w' (some b)) (hb : Blk w' b cs' e) : HpM M w0 w' (H.set i (blk b cs' e)) :=
  h.upd hi hg (blk_ok _ _ _) hb (fun b' hb' => .inl hb')
theorem HpM.tail {M : List Nat} {w0 w : World} {x : It} {H : List It} (h : HpM M w0 w (x :: H)) : HpM M w0 w H := h.sub (List.sublist_cons_self _ _)
/-- What a call has made joins what there is. -/
theorem HpM.join {M : List Nat} {w0 w w' : World} {H : List It} (h : HpM M w0 w H) : ∀ {L : List It}, HpM [] w w' L → HpM M w0 w' (L ++ H) := fun {L} k => by
  have hx : Ext w w' := k.ext
  have h' := h.call hx
  refine ⟨h'.extM, ?_, ?_, ?_, ?_⟩
  · intro y hy; rcases List.mem_append.1 hy with hy | hy
    · exact k.ok y hy
    · exact h'.ok y hy
  · intro y hy; rcases List.mem_append.1 hy with hy | hy
    · exact k.holds y hy
    · exact h'.holds y hy
  · intro y hy b hb; rcases List.mem_append.1 hy with hy | hy
    · obtain ⟨h1, h2⟩ := k.lo y hy b hb
      rcases h1 with h1 | h1
      · simp at h1
      · exact ⟨.inr (Nat.le_trans h.extM.size h1), h2⟩
    · exact h'.lo y hy b hb
  · refine List.pairwise_append.2 ⟨k.apart, h'.apart, fun x hx y hy b hb e => ?_⟩
    have h1 := (k.lo x hx b hb).1
    have h2 := (h.lo y hy b e).2
    rcases h1 with h1 | h1
    · simp at h1
    · omega
/-- A function that hands back things that it has made. -/
def MakesF (P : Program) (f : Nat) (args : Array Value) (R : Value → List It) : Prop := ∀ w, Calls P f args w fun e w' => ∃ v, e = .returned v ∧ HpM [] w w' (R v)
theorem MakesF.use {P : Program} {f : Nat} {args : Array Value} {R : Value → List It} (h : MakesF P f args R) {M : List Nat} {w0 w : World} {H : List It} (hp : HpM M w0 w H) {K : Value → World → Prop} (hk : ∀ v w', HpM M w0 w' (R v ++ H) → Ext w w' → K v w') :
    Calls P f args w fun e w' => ∃ v, e = .returned v ∧ K v w' := (h w).mono fun _ w' ⟨v, he, k⟩ => ⟨v, he, hk v w' (hp.join k) k.ext⟩
/-- A call that reads things of the world it is met in, and computes. -/
theorem v_reads {P : Program} {T : Tab} {Fs : List Nat} (hT : tabOk P T = true) (hF : ∀ f, memB f Fs = true → Enters P f) {f : Nat} {fn : Func} {c : Code} {args : List Value} {v : Value} {w : World} (hf : P.funcs[f]? = some fn) (hb : fn.body = some c) (hn : Nat.ble args.length fn.ntmps = true)
    (h : vgo P T Fs fn.ntmps c (entry 0 args) w (retK P fn.results.toList fun v' w' => v' = v ∧ Ext w w')) : Calls P f args.toArray w fun e w' => e = .returned v ∧ Ext w w' := by
  refine (v_fn hT hF hf hb (Nat.le_of_ble_eq_true hn) h).mono ?_
  rintro e w' ⟨v', rfl, rfl, hx⟩
  exact ⟨rfl, hx⟩
end V
namespace V
section
variable {P : Program} {T : Tab}

theorem Blk.cell {w : World} {b : Nat} {cs : List Value} {e : Nat} (h : Blk w b cs e) (j : Nat) : w.cell? ⟨b, j, none⟩ = cs[j]? := by
  obtain ⟨f, _, h⟩ := h; simp [World.cell?, h]
theorem Blk.free {w : World} {b : Nat} {cs : List Value} {e : Nat} (h : Blk w b cs e) (j : Nat) (hj : j < cs.length) : w.frozen? ⟨b, j, none⟩ = false := by
  obtain ⟨f, hf, h⟩ := h; simp [World.frozen?, h]; intro h1; rcases hf with hf | hf <;> omega
/-- Stores into the cells of a row that are not frozen. -/
theorem storeF (g o : Nat) (t : TypeId) (fz : Nat × Nat) : ∀ (vs : List Value) (i : Nat) (cur : Array Value) (w : World), w.heap[g]? = some (.cells cur t fz) → (fz.1 = fz.2 ∨ cur.size ≤ fz.1) → o + i + vs.length ≤ cur.size → (∀ v ∈ vs, v.oneCell' = true) →
    (storeCells ⟨g, o, none⟩ vs i).run P w = .ok () (w.setRow g (cur.toList.take (o + i) ++ vs ++ cur.toList.drop (o + i + vs.length)).toArray)
  | [], i, cur, w, hg, _, _, _ => by
    simp only [storeCells, List.append_nil, List.length_nil, Nat.add_zero, List.take_append_drop, Array.toArray_toList]
    rw [setRow_self w g cur t fz hg]
    rfl
  | v :: rest, i, cur, w, hg, hf, hl, h1 => by
    have hi : o + i < cur.size := by simp at hl; omega
    have hadd : (⟨g, o, none⟩ : Addr).add i = ⟨g, o + i, none⟩ := by unfold Addr.add; split <;> simp_all
    have hcell : w.cell? ⟨g, o + i, none⟩ = some cur[o + i] := by simp [World.cell?, hg, hi]
    have hfro : w.frozen? ⟨g, o + i, none⟩ = false := by simp [World.frozen?, hg]; intro h2; rcases hf with hf | hf <;> omega
    have hst : (store ((⟨g, o, none⟩ : Addr).add i) v).run P w = .ok () (w.setRow g (cur.setIfInBounds (o + i) v)) := by
      rw [hadd, run_store P w _ v _ (h1 v (by simp)), hcell]
      simp [hfro, setCell_eq_setRow w g (o + i) cur t fz v hg]
    have ih := storeF g o t fz rest (i + 1) (cur.setIfInBounds (o + i) v) (w.setRow g (cur.setIfInBounds (o + i) v)) (setRow_heap w g cur _ t _ hg) (by simpa using hf) (by simp at hl ⊢; omega) (fun x hx => h1 x (by simp [hx]))
    simp only [storeCells, Sem.run_bind, hst, Result.andThen, ih]
    rw [setRow_setRow]
    have e := list_seg_step cur.toList (o + i) v rest (by simp at hl ⊢; omega)
    congr 3
    simpa [Nat.add_assoc] using e

theorem Blk.ext {w w' : World} {b : Nat} {cs : List Value} {e : Nat} (h : Blk w b cs e) (hx : Ext w w') : Blk w' b cs e := h.same (Below.block hx b h.lt)

def plainT (T : Tab) (t : Nat) : Bool :=
  match tfind T t with
  | some ⟨.int _, _⟩ | some ⟨.str, _⟩ | some ⟨.bool, _⟩ | some ⟨.slice _, _⟩ | some ⟨.ptr _, _⟩ => true
  | _ => false
theorem run_isAgg_of (hT : tabOk P T = true) {t : Nat} (h : plainT T t = true) (w : World) : (isAgg t).run P w = .ok false w := by
  unfold plainT at h
  have key : ∀ {kd : TK} {n : Nat}, tfind T t = some ⟨kd, n⟩ → kindOk P t kd = true := fun h => tab_under hT h
  split at h <;> try cases h
  all_goals
    rename_i hf
    have hk := key hf
    simp only [kindOk] at hk
    split at hk <;> try cases hk
    rename_i hu
    simp [isAgg, Go.Proofs.YtmlmfmdmomegpaaGreatDoor.V.run_underlying hu, Result.andThen]
theorem run_isAgg_arr (hT : tabOk P T = true) {t len e n : Nat} (h : tfind T t = some ⟨.arr len e, n⟩) (w : World) : (isAgg t).run P w = .ok true w := by
  simp [isAgg, Go.Proofs.YtmlmfmdmomegpaaGreatDoor.V.run_underlying (tab_arr hT h), Result.andThen]
theorem run_isAgg_struct (hT : tabOk P T = true) {t : Nat} {fs : List (Nat × Nat)} {n : Nat} (h : tfind T t = some ⟨.struct fs, n⟩) (w : World) : (isAgg t).run P w = .ok true w := by
  obtain ⟨fs', hu, _⟩ := tab_struct hT h
  simp [isAgg, Go.Proofs.YtmlmfmdmomegpaaGreatDoor.V.run_underlying hu, Result.andThen]
def aggT (T : Tab) (t : Nat) : Option Nat :=
  match tfind T t with
  | some ⟨.arr _ _, n⟩ | some ⟨.struct _, n⟩ => some n
  | _ => none
theorem run_isAgg_agg (hT : tabOk P T = true) {t n : Nat} (h : aggT T t = some n) (w : World) : (isAgg t).run P w = .ok true w ∧ (sizeOf t).run P w = .ok n w := by
  unfold aggT at h
  split at h <;> try cases h
  · rename_i hf; exact ⟨run_isAgg_arr hT hf w, tab_size hT hf w⟩
  · rename_i hf; exact ⟨run_isAgg_struct hT hf w, tab_size hT hf w⟩

/-! loads -/
theorem run_ld (hT : tabOk P T = true) {t : Nat} (ht : plainT T t = true) {w : World} {a : Addr} {v : Value} (hc : w.cell? a = some v) : (Instr.loadAt t (.pointer (some a))).run P w = .ok v w := by
  simp only [Instr.loadAt, Instr.sureAddr, loadVar, Sem.run_bind, Sem.run_pure, Result.andThen, run_isAgg_of hT ht]
  simp [load, Sem.run, hc]
theorem run_loadVar1 (hT : tabOk P T = true) {t : Nat} (ht : plainT T t = true) {w : World} {a : Addr} {v : Value} (hc : w.cell? a = some v) : (loadVar t a).run P w = .ok v w := by
  simp only [loadVar, Sem.run_bind, Sem.run_pure, Result.andThen, run_isAgg_of hT ht]
  simp [load, Sem.run, hc]
theorem Blk.ld {w : World} {b : Nat} {cs : List Value} {e : Nat} (h : Blk w b cs e) (hT : tabOk P T = true) {t off : Nat} {v : Value} (ht : plainT T t = true) (hc : cs[off]? = some v) :
    (Instr.loadAt t (.pointer (some ⟨b, off, none⟩))).run P w = .ok v w := run_ld hT ht ((h.cell off).trans hc)
theorem run_loadVarN (hT : tabOk P T = true) {t n : Nat} (ht : aggT T t = some n) {w : World} {b off : Nat} {vs : List Value} (hn : vs.length = n) (hc : ∀ j v, vs[j]? = some v → w.cell? ⟨b, off + j, none⟩ = some v) :
    (loadVar t ⟨b, off, none⟩).run P w = .ok (.agg vs.toArray) w := by
  obtain ⟨h1, h2⟩ := run_isAgg_agg hT ht w
  simp only [loadVar, Sem.run_bind, Result.andThen, h1, h2]
  have := run_loadCells_list (P := P) w ⟨b, off, none⟩ vs (fun j v hj => by rw [add_none]; exact hc j v hj)
  rw [hn] at this
  simp [this, h2, Result.andThen]
theorem run_ldN (hT : tabOk P T = true) {t n : Nat} (ht : aggT T t = some n) {w : World} {b off : Nat} {vs : List Value} (hn : vs.length = n) (hc : ∀ j v, vs[j]? = some v → w.cell? ⟨b, off + j, none⟩ = some v) :
    (Instr.loadAt t (.pointer (some ⟨b, off, none⟩))).run P w = .ok (.agg vs.toArray) w := by
  simp only [Instr.loadAt, Instr.sureAddr, Sem.run_bind, Sem.run_pure, Result.andThen]
  exact run_loadVarN hT ht hn hc
theorem Blk.ldN {w : World} {b : Nat} {cs : List Value} {e : Nat} (h : Blk w b cs e) (hT : tabOk P T = true) {t n : Nat} (ht : aggT T t = some n) (hn : cs.length = n) :
    (Instr.loadAt t (.pointer (some ⟨b, 0, none⟩))).run P w = .ok (.agg cs.toArray) w :=
  run_ldN hT ht hn fun j v hj => by rw [Nat.zero_add, h.cell]; exact hj
theorem Blk.lvN {w : World} {b : Nat} {cs : List Value} {e : Nat} (h : Blk w b cs e) (hT : tabOk P T = true) {t n : Nat} (ht : aggT T t = some n) (hn : cs.length = n) :
    (loadVar t ⟨b, 0, none⟩).run P w = .ok (.agg cs.toArray) w :=
  run_loadVarN hT ht hn fun j v hj => by rw [Nat.zero_add, h.cell]; exact hj
/-! new blocks -/
/-- What has been made is the heap's last block. -/
theorem HpM.made {M : List Nat} {w0 w : World} {H : List It} (h : HpM M w0 w H) {s : Sem Value} {cs : List Value} {e : Nat} {g : Nat → Value} (hr : s.run P w = .ok (g w.heap.size) (w.alloc (.cells cs.toArray e))) :
    ∃ b w', s.run P w = .ok (g b) w' ∧ HpM M w0 w' (blk b cs e :: H) ∧ Ext w w' ∧ b = w.heap.size := by
  refine ⟨_, _, hr, h.push ((Ext.refl w).alloc _) (blk_ok _ _ _) ?_ ?_, (Ext.refl w).alloc _, rfl⟩
  · exact ⟨(0, 0), .inl rfl, heap_alloc_new w _⟩
  · intro b hb
    simp only [blk, Option.some.injEq] at hb
    subst hb
    exact ⟨Nat.le_refl _, by simp⟩
def zeroC (P : Program) (t : Nat) : Option (List Value) := ((P.info? t).bind (·.zero)).map (·.cells.toList)
theorem HpM.alloc {M : List Nat} {w0 w : World} {H : List It} (h : HpM M w0 w H) {t : Nat} {cs : List Value} (hz : zeroC P t = some cs) :
    ∃ b w', (Instr.alloc t true (.tuple #[])).run P w = .ok (.pointer (some ⟨b, 0, none⟩)) w' ∧ HpM M w0 w' (blk b cs t :: H) ∧ Ext w w' := by
  obtain ⟨b, w', h1, h2, h3, _⟩ := h.made (P := P) (s := Instr.alloc t true (.tuple #[])) (cs := cs) (e := t) (g := fun b => .pointer (some ⟨b, 0, none⟩)) (by
    unfold zeroC at hz
    cases hi : P.info? t with
    | none => simp [hi] at hz
    | some i =>
      cases hzz : i.zero with
      | none => simp [hi, hzz] at hz
      | some z =>
        simp only [hi, hzz, Option.bind_some, Option.map_some, Option.some.injEq] at hz
        subst hz
        simp [Instr.alloc, zeroValue, typeInfo, hi, hzz, newVar, newRow, Result.andThen])
  exact ⟨b, w', h1, h2, h3⟩
theorem HpM.box {M : List Nat} {w0 w : World} {H : List It} (h : HpM M w0 w H) (t : Nat) (v : Value) {cs : List Value} (hc : v.cells.toList = cs) :
    ∃ b w', (Instr.box t v).run P w = .ok (.pointer (some ⟨b, 0, none⟩)) w' ∧ HpM M w0 w' (blk b cs t :: H) ∧ Ext w w' := by
  obtain ⟨b, w', h1, h2, h3, _⟩ := h.made (P := P) (s := Instr.box t v) (cs := cs) (e := t) (g := fun b => .pointer (some ⟨b, 0, none⟩)) (by
    subst hc
    simp [Instr.box, newVar, newRow, Result.andThen])
  exact ⟨b, w', h1, h2, h3⟩

/-! stores -/
theorem grownBy_setRow (w : World) (g : Nat) (cs : Array Value) : w.grownBy (w.setRow g cs) (some g) :=
  ⟨rfl, rfl, rfl, by simp [World.setRow], fun k _ hk => setRow_other w g k cs (fun e => hk (by rw [e]))⟩
theorem HpM.st {M : List Nat} {w0 w : World} {H : List It} (h : HpM M w0 w H) (hT : tabOk P T = true) {t n : Nat} {kd : TK} (ht : tfind T t = some ⟨kd, n⟩) {i b off : Nat} {cs : List Value} {e : Nat} (hi : H[i]? = some (blk b cs e)) {v : Value} {vs : List Value}
    (hv : v.cells.toList = vs) (hn : vs.length = n) (h1 : ∀ u ∈ vs, u.oneCell' = true) (ho : off + n ≤ cs.length) :
    ∃ w', (do Instr.storeAt t (.pointer (some ⟨b, off, none⟩)) v; Pure.pure undef : Sem Value).run P w = .ok undef w' ∧ HpM M w0 w' (H.set i (blk b (cs.take off ++ vs ++ cs.drop (off + n)) e)) := by
  have hb : Blk w b cs e := h.get hi
  obtain ⟨f, hf, hb⟩ := hb
  have hst := storeF (P := P) b off e f vs 0 cs.toArray w hb (by simpa using hf) (by simp; omega) h1
  simp only [Nat.add_zero] at hst
  refine ⟨_, ?_, h.upd hi (grownBy_setRow w b _) (blk_ok _ _ _) ⟨f, hf.imp_right (fun h => by simp; omega), setRow_heap w b cs.toArray _ e f hb⟩ (fun b' hb' => .inl hb')⟩
  have hsz : v.cells.size = n := by rw [← hn, ← hv]; simp
  simp only [Instr.storeAt, Instr.sureAddr, storeVar, Sem.run_bind, Sem.run_pure, Result.andThen, tab_size hT ht, hsz, ne_eq, not_true_eq_false, if_false, hv, hst, hn]
theorem HpM.st1 {M : List Nat} {w0 w : World} {H : List It} (h : HpM M w0 w H) (hT : tabOk P T = true) {t : Nat} {kd : TK} (ht : tfind T t = some ⟨kd, 1⟩) {i b off : Nat} {cs : List Value} {e : Nat} (hi : H[i]? = some (blk b cs e)) {v : Value}
    (hv : v.cells = #[v]) (h1 : v.oneCell' = true) (ho : off < cs.length) :
    ∃ w', (do Instr.storeAt t (.pointer (some ⟨b, off, none⟩)) v; Pure.pure undef : Sem Value).run P w = .ok undef w' ∧ HpM M w0 w' (H.set i (blk b (cs.set off v) e)) := by
  obtain ⟨w', hr, hh⟩ := h.st hT ht hi (v := v) (vs := [v]) (by rw [hv]) rfl (fun u hu => by simp at hu; subst hu; exact h1) (off := off) (by omega)
  refine ⟨w', hr, ?_⟩
  have : cs.take off ++ [v] ++ cs.drop (off + 1) = cs.set off v := by rw [List.set_eq_take_append_cons_drop, if_pos ho]; simp
  rwa [this] at hh
/-- a whole block -/
theorem HpM.stA {M : List Nat} {w0 w : World} {H : List It} (h : HpM M w0 w H) (hT : tabOk P T = true) {t n : Nat} {kd : TK} (ht : tfind T t = some ⟨kd, n⟩) {i b : Nat} {cs : List Value} {e : Nat} (hi : H[i]? = some (blk b cs e)) {vs : List Value}
    (hn : vs.length = n) (h1 : ∀ u ∈ vs, u.oneCell' = true) (ho : cs.length = n) :
    ∃ w', (do Instr.storeAt t (.pointer (some ⟨b, 0, none⟩)) (.agg vs.toArray); Pure.pure undef : Sem Value).run P w = .ok undef w' ∧ HpM M w0 w' (H.set i (blk b vs e)) := by
  obtain ⟨w', hr, hh⟩ := h.st hT ht hi (v := .agg vs.toArray) (vs := vs) (by simp [Value.cells]) hn h1 (off := 0) (by omega)
  refine ⟨w', hr, ?_⟩
  have : cs.take 0 ++ vs ++ cs.drop (0 + n) = vs := by simp [← ho]
  rwa [this] at hh

/-- '[]byte(s)': a new row, the string's bytes and whatever is behind them. -/
theorem HpM.bytes {M : List Nat} {w0 w : World} {H : List It} (h : HpM M w0 w H) (hT : tabOk P T = true) {src dst e n1 n2 n3 : Nat} (hs : tfind T src = some ⟨.str, n1⟩) (hd : tfind T dst = some ⟨.slice e, n2⟩) (he : tfind T e = some ⟨.int .u8, n3⟩) (s : ByteArray) :
    ∃ b zs cap w', (convert src dst (.string s)).run P w = .ok (.slice (some ⟨b, 0, none⟩) s.size cap) w' ∧ HpM M w0 w' (blk b (s.data.toList.map (fun x => Value.int .u8 (x.toNat : Nat)) ++ zs) e :: H) ∧ Ext w w' := by
  have hr := run_bytes_of_string (P := P) w src dst e s (tab_str hT hs) (tab_slice hT hd) (tab_int hT he)
  have hx : Ext w (w.drew.alloc (.cells (bytesRow s (grownCap w s.size 0 e)) e ((bytesRow s (grownCap w s.size 0 e)).size, (bytesRow s (grownCap w s.size 0 e)).size + 1))) := ((Ext.refl w).drew).alloc _
  have hn : ∀ o : Obj, (w.drew.alloc o).heap[w.heap.size]? = some o := fun o => by
    show (w.heap.push o)[w.heap.size]? = some o
    simp
  refine ⟨w.heap.size, List.replicate (grownCap w s.size 0 e - s.size) (.int .u8 0), _, _, hr, h.push hx (blk_ok _ _ _) ⟨((bytesRow s (grownCap w s.size 0 e)).size, (bytesRow s (grownCap w s.size 0 e)).size + 1), .inr (by simp [bytesRow]), ?_⟩ ?_, hx⟩
  · rw [hn]
    refine congrArg (fun c => some (Obj.cells c e _)) ?_
    apply Array.ext'
    simp [bytesRow]
  · intro b hb
    simp only [blk, Option.some.injEq] at hb
    subst hb
    exact ⟨Nat.le_refl _, by rw [World.size_alloc]; exact Nat.lt_succ_self _⟩

/-! append -/
def slOk (P : Program) (t e size bytes : Nat) : Bool :=
  (match P.underlying t with | some (.slice e') => e == e' | _ => false) &&
  (match P.info? e with | some i => i.size == size && i.bytes == bytes && (match i.zero with | some z => z.cells.size == size | none => false) | none => false) && Nat.blt 0 size
theorem slOk_spec {t e size bytes : Nat} (h : slOk P t e size bytes = true) : P.underlying t = some (.slice e) ∧ (∃ i z, P.info? e = some i ∧ i.size = size ∧ i.bytes = bytes ∧ i.zero = some z ∧ z.cells.size = size) ∧ 0 < size := by
  simp only [slOk, Bool.and_eq_true] at h
  obtain ⟨⟨h1, h2⟩, h3⟩ := h
  refine ⟨?_, ?_, by simpa using h3⟩
  · split at h1
    · rename_i e' he; rw [he]; simp at h1; rw [h1]
    · cases h1
  · split at h2
    · rename_i i hi
      simp only [Bool.and_eq_true] at h2
      obtain ⟨⟨ha, hb⟩, hc⟩ := h2
      split at hc
      · rename_i z hz; exact ⟨i, z, hi, by simpa using ha, by simpa using hb, hz, by simpa using hc⟩
      · cases hc
    · cases h2
theorem HpM.app {M : List Nat} {w0 w : World} {H : List It} (h : HpM M w0 w H) {t e size bytes : Nat} (hs : slOk P t e size bytes = true) {i : Nat} {v : Value} {n : Nat} {xs : List Value} (hi : H[i]? = some (row e size v n xs))
    {tx ty : Nat} {x : Value} {m : Nat} {news : List Value} (src : Src P size tx x m news w) (hb : (n + m) * bytes ≤ 140737488355328) (hml : n + m ≤ maxLen) :
    ∃ v' w', (Builtin.append_ #[t, tx] ty #[v, x]).run P w = .ok v' w' ∧ HpM M w0 w' (H.set i (row e size v' (n + m) (xs ++ news))) ∧ (v' = .slice none 0 0 ∨ ∃ b c, v' = .slice (some ⟨b, 0, none⟩) (n + m) c) := by
  obtain ⟨hu, ⟨inf, z, hinf, rfl, rfl, hz, hzs⟩, hpos⟩ := slOk_spec hs
  have hown : w.ownsRow 0 e inf.size v n xs := h.get hi
  have hlen : (xs ++ news).length = (n + m) * inf.size := by rw [List.length_append, hown.1, src.newsLen, Nat.add_mul]
  have hml' : ((n + m : Nat) : Int) ≤ 9223372036854775807 := by unfold maxLen at hml; omega
  -- the arm that grows
  have grow : ∀ (old : Nat), old < n + m → ∀ (base : Option Addr), v = .slice base n old → (Builtin.firstCells inf.size n (.slice base n old)).run P w.drew = .ok xs.toArray w.drew →
      ∃ v' w', (Builtin.append_ #[t, tx] ty #[v, x]).run P w = .ok v' w' ∧ HpM M w0 w' (H.set i (row e inf.size v' (n + m) (xs ++ news))) ∧ (v' = .slice none 0 0 ∨ ∃ b c, v' = .slice (some ⟨b, 0, none⟩) (n + m) c) := by
    intro old ho base hv hf
    have hr := run_append_grow_src (P := P) w t tx ty e inf z hu hinf hz base n old xs hf x m news src ho hml' (growslice_fits ho hb)
    rw [hv]
    refine ⟨_, _, hr, h.upd hi ?_ (row_ok _ _ _ _ _) ?_ ?_, .inr ⟨_, _, rfl⟩⟩
    · refine ⟨rfl, rfl, rfl, by simp, fun k hk _ => heap_alloc_old w.drew _ hk⟩
    · refine ⟨hlen, .inr ⟨w.heap.size, _, _, rfl, Nat.zero_le _, heap_alloc_new w.drew _, grownCap_ge _ _ _ _, grownCap_le_maxLen _ _ _ _ hml, ?_, ?_⟩⟩
      · have := grownCap_ge w (n + m) old e
        simp only [Array.size_append, List.size_toArray, size_zeroCells, hzs, hlen, ← Nat.add_mul]
        congr 1; omega
      · simp only [Array.toList_append]
        rw [← hlen]; exact List.take_left
    · intro b hb'
      simp only [row, Value.ownBlock, Option.some.injEq] at hb'
      subst hb'
      exact .inr ⟨Nat.le_refl _, by simp⟩
  rcases hown.2 with ⟨rfl, rfl⟩ | ⟨g, cap, cur, rfl, _, hg, hnc, hcm, hcs, htake⟩
  · have hx : xs = [] := List.eq_nil_of_length_eq_zero (by simpa using hown.1)
    subst hx
    by_cases hm : m = 0
    · subst hm
      have hn : news = [] := List.eq_nil_of_length_eq_zero (by simpa using src.newsLen)
      subst hn
      refine ⟨.slice none 0 0, w, ?_, h.upd hi ⟨rfl, rfl, rfl, Nat.le_refl _, fun _ _ _ => rfl⟩ (row_ok _ _ _ _ _) (World.ownsRow_nil _ _ _ _) (fun b hb => by simp [row, Value.ownBlock] at hb), .inl rfl⟩
      rcases src.kind with ⟨e', hk⟩ | hk <;> simp [Builtin.append_, Go.Proofs.YtmlmfmdmomegpaaGreatDoor.V.run_underlying hu, Go.Proofs.YtmlmfmdmomegpaaGreatDoor.V.run_underlying hk, sizeOf, typeInfo, hinf, src.len, src.cells, Result.andThen]
    · exact grow 0 (by omega) none rfl (by simp [Builtin.firstCells])
  · by_cases hroom : n + m ≤ cap
    · have hfit : n * inf.size + news.length ≤ cur.size := by rw [src.newsLen, hcs, ← Nat.add_mul]; exact Nat.mul_le_mul_right _ hroom
      have hst := run_storeCells_at (P := P) g (n * inf.size) e news 0 cur w hg (by simpa using hfit) src.one
      simp only [Nat.add_zero] at hst
      refine ⟨.slice (some ⟨g, 0, none⟩) (n + m) cap, w.setRow g (cur.toList.take (n * inf.size) ++ news ++ cur.toList.drop (n * inf.size + news.length)).toArray, ?_, h.upd hi (grownBy_setRow w g _) (row_ok _ _ _ _ _) ?_ (fun b hb => .inl hb), .inr ⟨_, _, rfl⟩⟩
      · rcases src.kind with ⟨e', hk⟩ | hk <;> simp [Builtin.append_, Go.Proofs.YtmlmfmdmomegpaaGreatDoor.V.run_underlying hu, Go.Proofs.YtmlmfmdmomegpaaGreatDoor.V.run_underlying hk, sizeOf, typeInfo, hinf, src.len, hroom, src.cells, Addr.add_lit, hst, Result.andThen]
      · refine ⟨hlen, .inr ⟨g, cap, _, rfl, Nat.zero_le _, setRow_heap w g cur _ e _ hg, hroom, hcm, ?_, ?_⟩⟩
        · simp only [List.size_toArray, List.length_append, List.length_take, List.length_drop, Array.length_toList]
          omega
        · simp only
          rw [htake, ← hlen]; exact List.take_left
    · have holds : ∀ j u, xs[j]? = some u → w.drew.cell? ((⟨g, 0, none⟩ : Addr).add j) = some u := fun j u hj => by
        have := hown.cells (g := g) rfl j u hj
        simpa using this
      exact grow cap (by omega) (some ⟨g, 0, none⟩) rfl (run_firstCells_some (P := P) w.drew inf.size n ⟨g, 0, none⟩ n cap xs hown.1 holds)

/-! bytes and strings -/
def bytesV (l : List UInt8) : List Value := l.map fun b => .int .u8 (b.toNat : Nat)
theorem conv_bytes {hT : tabOk P T = true} {src dst e n1 n2 n3 : Nat} (hs : tfind T src = some ⟨.slice e, n1⟩) (he : tfind T e = some ⟨.int .u8, n2⟩) (hd : tfind T dst = some ⟨.str, n3⟩) {w : World} {b off len cap : Nat} {l : List UInt8}
    (hl : l.length = len) (hc : ∀ j, j < len → w.cell? ⟨b, off + j, none⟩ = (bytesV l)[j]?) :
    (convert src dst (.slice (some ⟨b, off, none⟩) len cap)).run P w = .ok (.string ⟨l.toArray⟩) w := by
  rw [run_convert_bytes_string w src dst e _ len cap (tab_slice hT hs) (tab_int hT he) (tab_str hT hd)]
  have hld := run_loadCells_list (P := P) w ⟨b, off, none⟩ (bytesV l) (fun j v hj => by
    rw [add_none, hc j (by rw [← hl]; have := (List.getElem?_eq_some_iff.1 hj).1; simpa [bytesV] using this)]; exact hj)
  rw [show (bytesV l).length = len by simp [bytesV, hl]] at hld
  rw [run_bytesToString w _ len cap (l.map fun b => (b.toNat : Int)) (by rw [hld]; simp [bytesV, Function.comp_def])]
  rw [foldl_push_byteCells]; simp
theorem conv_nil {hT : tabOk P T = true} {src dst e n1 n2 n3 : Nat} (hs : tfind T src = some ⟨.slice e, n1⟩) (he : tfind T e = some ⟨.int .u8, n2⟩) (hd : tfind T dst = some ⟨.str, n3⟩) {w : World} {len cap : Nat} :
    (convert src dst (.slice none len cap)).run P w = .ok (.string ⟨#[]⟩) w := by
  rw [run_convert_bytes_string w src dst e _ len cap (tab_slice hT hs) (tab_int hT he) (tab_str hT hd)]
  rfl
theorem Blk.str {w : World} {b : Nat} {cs : List Value} {e' : Nat} (h : Blk w b cs e') (hT : tabOk P T = true) {src dst e n1 n2 n3 : Nat} (hs : tfind T src = some ⟨.slice e, n1⟩) (he : tfind T e = some ⟨.int .u8, n2⟩) (hd : tfind T dst = some ⟨.str, n3⟩)
    {len cap : Nat} {l : List UInt8} (hcs : cs = bytesV l) (hl : l.length = len) :
    (convert src dst (.slice (some ⟨b, 0, none⟩) len cap)).run P w = .ok (.string ⟨l.toArray⟩) w :=
  conv_bytes (hT := hT) hs he hd hl fun j _ => by rw [Nat.zero_add, h.cell, hcs]
theorem Blk.str' {w : World} {b : Nat} {cs : List Value} {e' : Nat} (h : Blk w b cs e') (hT : tabOk P T = true) {src dst e n1 n2 n3 : Nat} (hs : tfind T src = some ⟨.slice e, n1⟩) (he : tfind T e = some ⟨.int .u8, n2⟩) (hd : tfind T dst = some ⟨.str, n3⟩)
    {len cap : Nat} {l : List UInt8} {zs : List Value} (hcs : cs = bytesV l ++ zs) (hl : l.length = len) :
    (convert src dst (.slice (some ⟨b, 0, none⟩) len cap)).run P w = .ok (.string ⟨l.toArray⟩) w :=
  conv_bytes (hT := hT) hs he hd hl fun j hj => by rw [Nat.zero_add, h.cell, hcs, List.getElem?_append_left (by simpa [bytesV] using (by omega : j < l.length))]
/-- the bytes of a slice of the call's own, as a string -/
theorem row_str {w : World} {e : Nat} {v : Value} {n : Nat} {l : List UInt8} (h : (row e 1 v n (bytesV l)).holds w) (hT : tabOk P T = true) {src dst n1 n2 n3 : Nat} (hs : tfind T src = some ⟨.slice e, n1⟩) (he : tfind T e = some ⟨.int .u8, n2⟩) (hd : tfind T dst = some ⟨.str, n3⟩) :
    (convert src dst v).run P w = .ok (.string ⟨l.toArray⟩) w := by
  have ho : w.ownsRow 0 e 1 v n (bytesV l) := h
  have hl : l.length = n := by have := ho.1; simpa [bytesV] using this
  rcases ho.2 with ⟨rfl, rfl⟩ | ⟨g, cap, cur, rfl, _, hg, hnc, hcm, hcs, htake⟩
  · have : l = [] := List.eq_nil_of_length_eq_zero hl
    subst this
    exact conv_nil (hT := hT) hs he hd
  · refine conv_bytes (hT := hT) hs he hd hl fun j hj => ?_
    have := ho.cells (g := g) rfl j
    cases hb : (bytesV l)[j]? with
    | none => simp [bytesV, hl] at hb; omega
    | some u => have := this u hb; rw [add_none] at this; exact this

/-! the same, as rules of the walk: what is owed behind an operation that V hands over -/
section
variable {M : List Nat} {w0 w : World} {H : List It} {K : Value → World → Prop}
theorem HpM.kmade (h : HpM M w0 w H) {s : Sem Value} (cs : List Value) (e : Nat) (g : Nat → Value) (hr : s.run P w = .ok (g w.heap.size) (w.alloc (.cells cs.toArray e)))
    (hk : ∀ b w', HpM M w0 w' (blk b cs e :: H) → Ext w w' → K (g b) w') : ∃ v w', s.run P w = .ok v w' ∧ K v w' := by
  obtain ⟨b, w', h1, h2, h3, _⟩ := h.made (P := P) (g := g) hr
  exact ⟨_, _, h1, hk b w' h2 h3⟩
theorem HpM.kalloc (h : HpM M w0 w H) {t : Nat} {cs : List Value} (hz : zeroC P t = some cs) (hk : ∀ b w', HpM M w0 w' (blk b cs t :: H) → Ext w w' → K (.pointer (some ⟨b, 0, none⟩)) w') :
    ∃ v w', (Instr.alloc t true (.tuple #[])).run P w = .ok v w' ∧ K v w' := by
  obtain ⟨b, w', h1, h2, h3⟩ := h.alloc hz
  exact ⟨_, _, h1, hk b w' h2 h3⟩
theorem HpM.kbox (h : HpM M w0 w H) {t : Nat} {v : Value} (cs : List Value) (hc : v.cells.toList = cs) (hk : ∀ b w', HpM M w0 w' (blk b cs t :: H) → Ext w w' → K (.pointer (some ⟨b, 0, none⟩)) w') :
    ∃ u w', (Instr.box t v).run P w = .ok u w' ∧ K u w' := by
  obtain ⟨b, w', h1, h2, h3⟩ := h.box (P := P) t v hc
  exact ⟨_, _, h1, hk b w' h2 h3⟩
theorem HpM.kbytes (h : HpM M w0 w H) (hT : tabOk P T = true) {src dst e n1 n2 n3 : Nat} (hs : tfind T src = some ⟨.str, n1⟩) (hd : tfind T dst = some ⟨.slice e, n2⟩) (he : tfind T e = some ⟨.int .u8, n3⟩) {s : ByteArray}
    (hk : ∀ b zs cap w', HpM M w0 w' (blk b (s.data.toList.map (fun x => Value.int .u8 (x.toNat : Nat)) ++ zs) e :: H) → Ext w w' → K (.slice (some ⟨b, 0, none⟩) s.size cap) w') :
    ∃ v w', (convert src dst (.string s)).run P w = .ok v w' ∧ K v w' := by
  obtain ⟨b, zs, cap, w', hr, hh, hx⟩ := h.bytes hT hs hd he s
  exact ⟨_, w', hr, hk b zs cap w' hh hx⟩
theorem HpM.kst1 (h : HpM M w0 w H) (hT : tabOk P T = true) {t : Nat} {kd : TK} (ht : tfind T t = some ⟨kd, 1⟩) (i : Nat) {b off : Nat} {cs : List Value} {e : Nat} (hi : H[i]? = some (blk b cs e)) {v : Value}
    (hv : v.cells = #[v]) (h1 : v.oneCell' = true) (ho : off < cs.length) (hk : ∀ w', HpM M w0 w' (H.set i (blk b (cs.set off v) e)) → K undef w') :
    ∃ u w', (do Instr.storeAt t (.pointer (some ⟨b, off, none⟩)) v; Pure.pure undef : Sem Value).run P w = .ok u w' ∧ K u w' := by
  obtain ⟨w', h1, h2⟩ := h.st1 hT ht hi hv h1 ho
  exact ⟨_, _, h1, hk w' h2⟩
theorem HpM.kst (h : HpM M w0 w H) (hT : tabOk P T = true) {t n : Nat} {kd : TK} (ht : tfind T t = some ⟨kd, n⟩) (i : Nat) {b off : Nat} {cs : List Value} {e : Nat} (hi : H[i]? = some (blk b cs e)) {v : Value} (vs : List Value)
    (hv : v.cells.toList = vs) (hn : vs.length = n) (h1 : ∀ u ∈ vs, u.oneCell' = true) (ho : off + n ≤ cs.length) (hk : ∀ w', HpM M w0 w' (H.set i (blk b (cs.take off ++ vs ++ cs.drop (off + n)) e)) → K undef w') :
    ∃ u w', (do Instr.storeAt t (.pointer (some ⟨b, off, none⟩)) v; Pure.pure undef : Sem Value).run P w = .ok u w' ∧ K u w' := by
  obtain ⟨w', h1, h2⟩ := h.st hT ht hi hv hn h1 ho
  exact ⟨_, _, h1, hk w' h2⟩
theorem HpM.kstA (h : HpM M w0 w H) (hT : tabOk P T = true) {t n : Nat} {kd : TK} (ht : tfind T t = some ⟨kd, n⟩) (i : Nat) {b : Nat} {cs : List Value} {e : Nat} (hi : H[i]? = some (blk b cs e)) {vs : List Value}
    (hn : vs.length = n) (h1 : ∀ u ∈ vs, u.oneCell' = true) (ho : cs.length = n) (hk : ∀ w', HpM M w0 w' (H.set i (blk b vs e)) → K undef w') :
    ∃ u w', (do Instr.storeAt t (.pointer (some ⟨b, 0, none⟩)) (.agg vs.toArray); Pure.pure undef : Sem Value).run P w = .ok u w' ∧ K u w' := by
  obtain ⟨w', h1, h2⟩ := h.stA hT ht hi hn h1 ho
  exact ⟨_, _, h1, hk w' h2⟩
theorem HpM.kapp (h : HpM M w0 w H) {t e size bytes : Nat} (hs : slOk P t e size bytes = true) (i : Nat) {v : Value} {n : Nat} {xs : List Value} (hi : H[i]? = some (row e size v n xs))
    {tx ty : Nat} {x : Value} {m : Nat} {news : List Value} (src : Src P size tx x m news w) (hb : (n + m) * bytes ≤ 140737488355328) (hml : n + m ≤ maxLen)
    (hk : ∀ v' w', HpM M w0 w' (H.set i (row e size v' (n + m) (xs ++ news))) → K v' w') :
    ∃ u w', (Builtin.append_ #[t, tx] ty #[v, x]).run P w = .ok u w' ∧ K u w' := by
  obtain ⟨v', w', h1, h2, _⟩ := h.app (ty := ty) hs hi src hb hml
  exact ⟨_, _, h1, hk v' w' h2⟩
/-- a block that a slice of one element reads -/
theorem Blk.src (hT : tabOk P T = true) {tx el n1 size b c : Nat} {cs : List Value} {e m : Nat} (h : Blk w b cs e) (ht : tfind T tx = some ⟨.slice el, n1⟩) (hl : cs.length = m * size) (h1 : ∀ u ∈ cs, u.oneCell' = true) :
    Src P size tx (.slice (some ⟨b, 0, none⟩) m c) m cs w :=
  Src.ofSlice w (tab_slice hT ht) ⟨b, 0, none⟩ m c cs hl (fun j u hj => by rw [add_none, Nat.zero_add, h.cell]; exact hj) h1
/-- an element of a slice of the call's own -/
theorem row_cell {e size : Nat} {g n c : Nat} {xs : List Value} (h : (row e size (.slice (some ⟨g, 0, none⟩) n c) n xs).holds w) {j : Nat} {v : Value} (hj : xs[j]? = some v) : w.cell? ⟨g, j, none⟩ = some v := by
  have ho : w.ownsRow 0 e size (.slice (some ⟨g, 0, none⟩) n c) n xs := h
  have := ho.cells (g := g) rfl j v hj
  rwa [add_none, Nat.zero_add] at this
/-- make([]E, n), an element of one cell: n zeros. -/
theorem HpM.kmkS (h : HpM M w0 w H) {t e bytes : Nat} (hs : slOk P t e 1 bytes = true) {z : Value} (hz : zeroC P e = some [z]) (n : Nat) {kl kc : IntKind} (hb : bytes * n ≤ 281474976710656) (h63 : n ≤ maxLen)
    (hk : ∀ b w', HpM M w0 w' (blk b (List.replicate n z) e :: H) → Ext w w' → K (.slice (some ⟨b, 0, none⟩) n n) w') :
    ∃ v w', (Instr.makeSlice t (.int kl (n : Int)) (.int kc (n : Int))).run P w = .ok v w' ∧ K v w' := by
  obtain ⟨hu, ⟨inf, z', hinf, hsz, rfl, hz', hzs⟩, _⟩ := slOk_spec hs
  have hzc : z'.cells.toList = [z] := by
    have h2 := hz
    simp only [zeroC, hinf, hz', Option.bind_some, Option.map_some, Option.some.injEq] at h2
    exact h2
  refine h.kmade (List.replicate n z) e (fun b => .slice (some ⟨b, 0, none⟩) n n) ?_ hk
  have hr := run_make (P := P) w t e inf z' hu hinf hz' kl kc (n : Int) (n : Int) (by omega) (by omega) (by rw [← Int.natCast_mul]; exact Int.ofNat_le.2 hb) (by have : n ≤ 9223372036854775807 := h63; omega)
  rw [hr]
  have e1 : z'.cells = #[z] := Array.ext' hzc
  refine congrArg (fun c => Result.ok _ (w.alloc (.cells c e))) ?_
  rw [e1, hsz]
  apply Array.ext'
  apply List.ext_getElem
  · simp [madeCells]
  · intro i h1 h2; simp [madeCells, Nat.mod_one]
/-- A row of the call's own as a block. -/
theorem HpM.toBlk (h : HpM M w0 w H) (i : Nat) {e size g n c : Nat} {xs : List Value} (hi : H[i]? = some (row e size (.slice (some ⟨g, 0, none⟩) n c) n xs)) : ∃ zs, HpM M w0 w (H.set i (blk g (xs ++ zs) e)) := by
  have hr : (row e size (.slice (some ⟨g, 0, none⟩) n c) n xs).holds w := h.get hi
  obtain ⟨h1, h2⟩ : w.ownsRow 0 e size (.slice (some ⟨g, 0, none⟩) n c) n xs := hr
  rcases h2 with ⟨h3, _⟩ | ⟨g', cap, cur, hv, _, hh, _, _, _, ht⟩
  · simp at h3
  · simp only [Value.slice.injEq, Option.some.injEq, Addr.mk.injEq, and_true, true_and] at hv
    obtain ⟨rfl, rfl⟩ := hv
    refine ⟨cur.toList.drop (n * size), h.upd hi ⟨rfl, rfl, rfl, Nat.le_refl _, fun _ _ _ => rfl⟩ (blk_ok _ _ _) ⟨(0, 0), .inl rfl, ?_⟩ (fun b hb => .inl hb)⟩
    rw [hh, ← ht, List.take_append_drop]
theorem HpM.toBlk0 (h : HpM M w0 w H) (i : Nat) {e size n : Nat} {v : Value} {xs : List Value} (hi : H[i]? = some (row e size v n xs)) (hn : 0 < n) : ∃ g c zs, v = .slice (some ⟨g, 0, none⟩) n c ∧ HpM M w0 w (H.set i (blk g (xs ++ zs) e)) := by
  have hr : (row e size v n xs).holds w := h.get hi
  obtain ⟨h1, h2⟩ : w.ownsRow 0 e size v n xs := hr
  rcases h2 with ⟨_, h3⟩ | ⟨g, cap, cur, rfl, _⟩
  · omega
  · obtain ⟨zs, hz⟩ := h.toBlk i hi
    exact ⟨g, cap, zs, rfl, hz⟩
theorem HpM.knil (h : HpM M w0 w H) (e size : Nat) : HpM M w0 w (row e size (.slice none 0 0) 0 [] :: H) :=
  h.push (Ext.refl w) (row_ok _ _ _ _ _) (World.ownsRow_nil _ _ _ _) (fun b hb => by simp [row, Value.ownBlock] at hb)
end

/-- a row that is filled from the left: one more -/
theorem set_next {α : Type} (l : List α) (v z : α) (j n : Nat) (hj : j < n) (hl : l.length = n) (hv : l[j]? = some v) : (l.take j ++ List.replicate (n - j) z).set j v = l.take (j + 1) ++ List.replicate (n - (j + 1)) z := by
  have h1 : (l.take j).length = j := by simp; omega
  rw [List.set_append_right _ _ (by omega), h1, Nat.sub_self, show n - j = (n - (j + 1)) + 1 by omega, List.replicate_succ, List.set_cons_zero, List.take_add_one, hv]
  simp

/-! slices of slices -/
theorem run_slice_lo (hT : tabOk P T = true) {t el n1 sz : Nat} {kd : TK} (ht : tfind T t = some ⟨.slice el, n1⟩) (he : tfind T el = some ⟨kd, sz⟩) {w : World} {b off n cap : Nat} {k : IntKind} (m : Nat) (h : m ≤ n) :
    (Instr.sliceAt t (.slice (some ⟨b, off, none⟩) n cap) (some (.int k (m : Int))) none none).run P w = .ok (.slice (some ⟨b, if cap = m then off else off + m * sz, none⟩) (n - m) (cap - m)) w := by
  simp only [Instr.sliceAt, Instr.slice, Instr.sliceBounds, Sem.run_bind, Sem.run_pure, Go.Proofs.YtmlmfmdmomegpaaGreatDoor.V.run_underlying (tab_slice hT ht), Result.andThen]
  rw [run_bound (P := P) h]
  simp only [Result.andThen, Sem.run_pure, tab_size hT he]
  by_cases e : cap = m
  · simp [e]
  · simp [e, add_none]
theorem run_slice_hi (hT : tabOk P T = true) {t el n1 sz : Nat} {kd : TK} (ht : tfind T t = some ⟨.slice el, n1⟩) (he : tfind T el = some ⟨kd, sz⟩) {w : World} {b off n cap : Nat} {k : IntKind} (m : Nat) (h : m ≤ cap) :
    (Instr.sliceAt t (.slice (some ⟨b, off, none⟩) n cap) none (some (.int k (m : Int))) none).run P w = .ok (.slice (some ⟨b, off, none⟩) m cap) w := by
  simp only [Instr.sliceAt, Instr.slice, Instr.sliceBounds, Sem.run_bind, Sem.run_pure, Go.Proofs.YtmlmfmdmomegpaaGreatDoor.V.run_underlying (tab_slice hT ht), Result.andThen]
  rw [run_bound (P := P) h]
  simp only [Result.andThen, Sem.run_pure, tab_size hT he]
  simp [add_none]
end
end V
namespace V
section
variable {P : Program} {md : Region.Mode} {ops : Array Oper} {C : World → Prop}

end

section
variable {P : Program} {T : Tab} {Fs : List Nat} (hT : tabOk P T = true) (hF : ∀ f, memB f Fs = true → Enters P f)
include hT hF
end
/-! a tail that hands out (yield) -/
end V
end Go.Proofs.YtmlmfmdmomegpaaGreatDoor
