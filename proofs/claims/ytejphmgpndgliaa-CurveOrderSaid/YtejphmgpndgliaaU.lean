/- Contracts, memory: what walks by V lean on. Own work. No program is named here. -/
import Derived.Test.YtejphmgpndgliaaW
namespace Go.Proofs.Ytejphmgpndgliaa
set_option linter.unusedSimpArgs false
set_option linter.unusedVariables false
open Go.RowKit
namespace V

theorem ret_int {k : IntKind} {a b : Int} (h : a = b) : Value.int k a = .int k b := by rw [h]

theorem look_int {l : Env} {d : Nat} {k : IntKind} {a b : Int} (h : look l d = some (.v (.int k a))) (e : a = b) : look l d = some (.v (.int k b)) := by rw [h, e]
theorem look_eq {l : Env} {d : Nat} {e e' : EV} (h : look l d = some e) (he : e = e') : look l d = some e' := he ▸ h
theorem look_str {l : Env} {d : Nat} {a b : ByteArray} (h : look l d = some (.v (.string a))) (e : a = b) : look l d = some (.v (.string b)) := by rw [h, e]

theorem byt_lt (s : ByteArray) (i : Nat) : byt s i < 256 := UInt8.toNat_lt _
theorem size_extract (s : ByteArray) (a b : Nat) (h : b ≤ s.size) : (s.extract a b).size = b - a := by
  rw [ByteArray.size_extract]; omega
theorem byt_extract (s : ByteArray) (a b i : Nat) (h : a + i < b) (hb : b ≤ s.size) : byt (s.extract a b) i = byt s (a + i) := by
  unfold byt
  congr 1
  rw [ByteArray.data_extract, Array.toList_extract, List.extract_eq_take_drop, List.getD_eq_getElem?_getD, List.getD_eq_getElem?_getD, List.getElem?_take, if_pos (by omega), List.getElem?_drop]
theorem byt_append (s t : ByteArray) (i : Nat) : byt (s ++ t) i = if i < s.size then byt s i else byt t (i - s.size) := by
  unfold byt
  rw [ByteArray.data_append, Array.toList_append, List.getD_eq_getElem?_getD, List.getElem?_append]
  have : s.data.toList.length = s.size := by simp
  rw [this]
  split <;> rw [List.getD_eq_getElem?_getD]

/-- The world has grown: what was there stands as it stood. -/
def Ext (w w' : World) : Prop := Below w.heap.size w w'
theorem Ext.refl (w : World) : Ext w w := Below.refl _ _
theorem Ext.trans {a b c : World} (h : Ext a b) (k : Ext b c) : Ext a c := Below.trans h (Below.mono k h.size)
theorem Ext.drew {a b : World} (h : Ext a b) : Ext a { b with drawn := b.drawn + 1 } := Below.drew h
theorem Ext.drewN {a b : World} (h : Ext a b) (n : Nat) : Ext a (b.drewN n) := by
  obtain ⟨h1, h2, h3, h4, h5⟩ := h
  exact ⟨h1, h2, h3, h4, h5⟩
theorem Ext.alloc {a b : World} (h : Ext a b) (o : Obj) : Ext a (b.alloc o) := Below.alloc h h.size o
theorem Ext.size {a b : World} (h : Ext a b) : a.heap.size ≤ b.heap.size := Below.size h
theorem Ext.block {a b : World} (h : Ext a b) {k : Nat} {o : Obj} (hk : a.heap[k]? = some o) : b.heap[k]? = some o :=
  (Below.block h k (Array.getElem?_eq_some_iff.1 hk).1).trans hk
theorem cell_lt {w : World} {a : Addr} {v : Value} (h : w.cell? a = some v) : a.block < w.heap.size := by
  unfold World.cell? at h
  cases ho : w.heap[a.block]? with
  | none => simp [ho] at h
  | some o => exact (Array.getElem?_eq_some_iff.1 ho).1
theorem Ext.cell {a b : World} (h : Ext a b) {p : Addr} {v : Value} (hc : a.cell? p = some v) : b.cell? p = some v :=
  (Below.cell h (cell_lt hc)).trans hc
theorem Ext.owns {a b : World} (h : Ext a b) {base e size : Nat} {v : Value} {n : Nat} {xs : List Value} (ho : a.ownsRow base e size v n xs) : b.ownsRow base e size v n xs := by
  obtain ⟨h1, h2⟩ := ho
  refine ⟨h1, ?_⟩
  rcases h2 with h2 | ⟨g, cap, cur, hv, hg, hh, r⟩
  · exact .inl h2
  · exact .inr ⟨g, cap, cur, hv, hg, h.block hh, r⟩
theorem Ext.setCell {a b : World} (h : Ext a b) {p : Addr} (hp : a.heap.size ≤ p.block) (v : Value) : Ext a (b.setCell p v) := Below.setCell h hp v
theorem Ext.grown {a w w' : World} {row : Option Nat} (h : Ext a w) (hg : w.grownBy w' row) (hr : ∀ k, row = some k → a.heap.size ≤ k) : Ext a w' := Below.grown h hg h.size hr

/-- A function that computes a value that names no memory: it may lay blocks of its own. -/
def PureF (P : Program) (f : Nat) (args : Array Value) (v : Value) : Prop := ∀ w, Calls P f args w fun e w' => e = .returned v ∧ Ext w w'
theorem PureF.use {P : Program} {f : Nat} {args : Array Value} {v : Value} (h : PureF P f args v) {w : World} {K : Value → World → Prop} (hk : ∀ w', Ext w w' → K v w') :
    Calls P f args w fun e w' => ∃ v, e = .returned v ∧ K v w' := (h w).mono fun _ w' ⟨he, hx⟩ => ⟨v, he, hk w' hx⟩
theorem PureF.quiet {P : Program} {f : Nat} {args : Array Value} {v : Value} (h : PureF P f args v) {w0 : World} {K : Value → Unit → Prop} (hk : K v ()) :
    ∃ v, (∀ w, Ext w0 w → Calls P f args w fun e w' => e = .returned v ∧ Ext w0 w') ∧ K v () :=
  ⟨v, fun w hw => (h w).mono fun _ w' ⟨he, hx⟩ => ⟨he, hw.trans hx⟩, hk⟩

theorem CallsUse {P : Program} {f : Nat} {args : Array Value} {v : Value} {w : World} {K : Value → World → Prop} (h : Calls P f args w fun e w' => e = .returned v ∧ Ext w w') (hk : ∀ w', Ext w w' → K v w') :
    Calls P f args w fun e w' => ∃ v, e = .returned v ∧ K v w' := h.mono fun _ w' ⟨he, hx⟩ => ⟨v, he, hk w' hx⟩

section
variable {P : Program} {T : Tab} {FS : List Nat} (hT : tabOk P T = true) (hF : ∀ f, memB f FS = true → Enters P f)
include hT hF
/-- A contract of a pure function, by its body's wp. -/
theorem v_pure {f : Nat} {fn : Func} {c : Code} {args : List Value} {v : Value} (hf : P.funcs[f]? = some fn) (hb : fn.body = some c) (hn : Nat.ble args.length fn.ntmps = true)
    (h : ∀ w, vgo P T FS fn.ntmps c (entry 0 args) w (retK P fn.results.toList fun v' w' => v' = v ∧ Ext w w')) : PureF P f args.toArray v := fun w => by
  refine (v_fn hT hF hf hb (Nat.le_of_ble_eq_true hn) (h w)).mono ?_
  rintro e w' ⟨v', rfl, rfl, hx⟩
  exact ⟨rfl, hx⟩
/-- The quiet rule at the class of the worlds that have grown out of this one. -/
theorem v_q {n : Nat} {ops : List Oper} {l : Env} {w : World} {K : Env → World → Prop} (hm : P.follows .mixedOrders = true) (hB : (Region.lexB .any ops.toArray && noDefer ops) = true)
    (h : vops T FS (qui P (Ext w)) n ops ops l () (fun l _ => ∀ w', Ext w w' → K l w')) : VDraw P n ops l w K :=
  v_quiet hT hF hm hB (Ext w) (Ext.refl w).drew h
end

/-! ### memory of the call's own -/
/-- A thing in memory: the block it lies in (if any), and what is said of it; it hangs on that block alone. -/
structure It where
  own : Option Nat
  holds : World → Prop
def It.Ok (x : It) : Prop := ∀ w w', w.heap.size ≤ w'.heap.size → (∀ b, x.own = some b → w'.heap[b]? = w.heap[b]?) → x.holds w → x.holds w'
/-- Block b holds just the cells cs, all of which may be written. -/
def Blk (w : World) (b : Nat) (cs : List Value) (e : Nat) : Prop := ∃ f : Nat × Nat, (f.1 = f.2 ∨ cs.length ≤ f.1) ∧ w.heap[b]? = some (.cells cs.toArray e f)
theorem Blk.lt {w : World} {b : Nat} {cs : List Value} {e : Nat} (h : Blk w b cs e) : b < w.heap.size := (Array.getElem?_eq_some_iff.1 h.choose_spec.2).1
theorem Blk.same {w w' : World} {b : Nat} {cs : List Value} {e : Nat} (h : Blk w b cs e) (hs : w'.heap[b]? = w.heap[b]?) : Blk w' b cs e :=
  let ⟨f, h1, h2⟩ := h
  ⟨f, h1, hs.trans h2⟩
def blk (b : Nat) (cs : List Value) (e : Nat) : It := ⟨some b, fun w => Blk w b cs e⟩
/-- a slice of the call's own: nil, or the first cells of a block -/
def row (e size : Nat) (v : Value) (n : Nat) (xs : List Value) : It := ⟨v.ownBlock, fun w => w.ownsRow 0 e size v n xs⟩
theorem blk_ok (b : Nat) (cs : List Value) (e : Nat) : (blk b cs e).Ok := fun w w' _ h hh => Blk.same hh (h b rfl)
theorem row_ok (e size : Nat) (v : Value) (n : Nat) (xs : List Value) : (row e size v n xs).Ok := fun w w' _ h hh => by
  obtain ⟨h1, h2⟩ := hh
  refine ⟨h1, ?_⟩
  rcases h2 with h2 | ⟨g, cap, cur, hv, hg, hb, r⟩
  · exact .inl h2
  · subst hv; exact .inr ⟨g, cap, cur, rfl, hg, (h g rfl).trans hb, r⟩

/-- The world has grown, and nothing that was there has turned but (at most) the blocks M. -/
structure ExtM (M : List Nat) (w w' : World) : Prop where
  os : w'.os = w.os
  tape : w'.tape = w.tape
  output : w'.output = w.output
  size : w.heap.size ≤ w'.heap.size
  block : ∀ k, k < w.heap.size → k ∉ M → w'.heap[k]? = w.heap[k]?
theorem ExtM.refl (M : List Nat) (w : World) : ExtM M w w := ⟨rfl, rfl, rfl, Nat.le_refl _, fun _ _ _ => rfl⟩
theorem ExtM.trans {M : List Nat} {a b c : World} (h : ExtM M a b) (k : Ext b c) : ExtM M a c :=
  ⟨(Below.os k).trans h.os, (Below.tape k).trans h.tape, (Below.output k).trans h.output, Nat.le_trans h.size k.size, fun i hi hm => (Below.block k i (Nat.lt_of_lt_of_le hi h.size)).trans (h.block i hi hm)⟩
theorem ExtM.grown {M : List Nat} {a w w' : World} {row : Option Nat} (h : ExtM M a w) (hg : w.grownBy w' row) (hr : ∀ k, row = some k → k ∈ M ∨ a.heap.size ≤ k) : ExtM M a w' :=
  ⟨hg.os.trans h.os, hg.tape.trans h.tape, hg.output.trans h.output, Nat.le_trans h.size hg.size, fun i hi hm => (hg.block i (Nat.lt_of_lt_of_le hi h.size) (fun e => by
    rcases hr i e.symm with h1 | h1
    · exact hm h1
    · omega)).trans (h.block i hi hm)⟩
theorem ExtM.grownBy {w w' : World} {b : Nat} (h : ExtM [b] w w') : w.grownBy w' (some b) :=
  ⟨h.os, h.tape, h.output, h.size, fun k hk hne => h.block k hk (fun e => hne (by simp at e; rw [e]))⟩

structure HpM (M : List Nat) (w0 w : World) (H : List It) : Prop where
  extM : ExtM M w0 w
  ok : ∀ x ∈ H, x.Ok
  holds : ∀ x ∈ H, x.holds w
  lo : ∀ x ∈ H, ∀ b, x.own = some b → (b ∈ M ∨ w0.heap.size ≤ b) ∧ b < w.heap.size
  apart : H.Pairwise fun x y => ∀ b, x.own = some b → y.own ≠ some b

theorem HpM.nil0 (M : List Nat) (w : World) : HpM M w w [] := ⟨ExtM.refl M w, by simp, by simp, by simp, .nil⟩
abbrev Hp (w0 w : World) (H : List It) : Prop := HpM [] w0 w H
theorem Hp.nil (w : World) : Hp w w [] := HpM.nil0 [] w
theorem HpM.ext {w0 w : World} {H : List It} (h : HpM [] w0 w H) : Ext w0 w := by
  obtain ⟨a, b, c, d, e⟩ := h.extM
  exact ⟨a, b, c, d, fun k hk => e k hk (by simp)⟩
theorem HpM.call {M : List Nat} {w0 w w' : World} {H : List It} (h : HpM M w0 w H) (hx : Ext w w') : HpM M w0 w' H :=
  ⟨h.extM.trans hx, h.ok, fun x hm => h.ok x hm w w' hx.size (fun b hb => Below.block hx b (h.lo x hm b hb).2) (h.holds x hm),
    fun x hm b hb => ⟨(h.lo x hm b hb).1, Nat.lt_of_lt_of_le (h.lo x hm b hb).2 hx.size⟩, h.apart⟩
theorem HpM.push {M : List Nat} {w0 w w' : World} {H : List It} (h : HpM M w0 w H) (hx : Ext w w') {x : It} (hok : x.Ok) (hh : x.holds w') (hl : ∀ b, x.own = some b → w.heap.size ≤ b ∧ b < w'.heap.size) : HpM M w0 w' (x :: H) := by
  have h' := h.call hx
  refine ⟨h'.extM, ?_, ?_, ?_, ?_⟩
  · intro y hy; rcases List.mem_cons.1 hy with rfl | hy
    · exact hok
    · exact h'.ok y hy
  · intro y hy; rcases List.mem_cons.1 hy with rfl | hy
    · exact hh
    · exact h'.holds y hy
  · intro y hy; rcases List.mem_cons.1 hy with rfl | hy
    · exact fun b hb => ⟨.inr (Nat.le_trans h.extM.size (hl b hb).1), (hl b hb).2⟩
    · exact h'.lo y hy
  · refine List.pairwise_cons.2 ⟨fun y hy b hb e => ?_, h.apart⟩
    have := (h.lo y hy b e).2
    have := (hl b hb).1
    omega
theorem HpM.upd {M : List Nat} {w0 w w' : World} {H : List It} (h : HpM M w0 w H) {i : Nat} {x x' : It} (hi : H[i]? = some x) (hg : w.grownBy w' x.own) (hok : x'.Ok) (hh : x'.holds w')
    (hl : ∀ b, x'.own = some b → x.own = some b ∨ (w.heap.size ≤ b ∧ b < w'.heap.size)) : HpM M w0 w' (H.set i x') := by
  have hil : i < H.length := (List.getElem?_eq_some_iff.1 hi).1
  have hxi : H[i] = x := (List.getElem?_eq_some_iff.1 hi).2
  have hmem : x ∈ H := hxi ▸ List.getElem_mem hil
  have hlo : ∀ b, x'.own = some b → (b ∈ M ∨ w0.heap.size ≤ b) ∧ b < w'.heap.size := fun b hb => by
    rcases hl b hb with h1 | h1
    · have := h.lo x hmem b h1; exact ⟨this.1, Nat.lt_of_lt_of_le this.2 hg.size⟩
    · exact ⟨.inr (Nat.le_trans h.extM.size h1.1), h1.2⟩
  have hne : ∀ j (hj : j < H.length), j ≠ i → ∀ b, H[j].own = some b → x.own ≠ some b := fun j hj hji b hb e => by
    rcases Nat.lt_or_ge j i with hlt | hge
    · exact List.pairwise_iff_getElem.1 h.apart j i hj hil hlt b hb (by rw [hxi]; exact e)
    · exact List.pairwise_iff_getElem.1 h.apart i j hil hj (by omega) b (by rw [hxi]; exact e) hb
  have kept : ∀ j (hj : j < H.length), j ≠ i → H[j].holds w' := fun j hj hji =>
    h.ok _ (List.getElem_mem hj) w w' hg.size (fun b hb => hg.block b (h.lo _ (List.getElem_mem hj) b hb).2 (fun e => hne j hj hji b hb e.symm)) (h.holds _ (List.getElem_mem hj))
  have mem : ∀ y ∈ H.set i x', y = x' ∨ ∃ j, ∃ hj : j < H.length, j ≠ i ∧ H[j] = y := fun y hy => by
    obtain ⟨j, hj, e⟩ := List.getElem_of_mem hy
    have hj' : j < H.length := by simpa using hj
    by_cases hji : j = i
    · subst hji; left; rw [← e]; simp
    · right; exact ⟨j, hj', hji, by rw [← e, List.getElem_set_ne (Ne.symm hji)]⟩
  refine ⟨h.extM.grown hg (fun k hk => (h.lo x hmem k hk).1), ?_, ?_, ?_, ?_⟩
  · intro y hy; rcases mem y hy with rfl | ⟨j, hj, _, rfl⟩
    · exact hok
    · exact h.ok _ (List.getElem_mem hj)
  · intro y hy; rcases mem y hy with rfl | ⟨j, hj, hji, rfl⟩
    · exact hh
    · exact kept j hj hji
  · intro y hy; rcases mem y hy with rfl | ⟨j, hj, hji, rfl⟩
    · exact hlo
    · exact fun b hb => ⟨(h.lo _ (List.getElem_mem hj) b hb).1, Nat.lt_of_lt_of_le (h.lo _ (List.getElem_mem hj) b hb).2 hg.size⟩
  · rw [List.pairwise_iff_getElem]
    intro p q hp hq hpq b hb e
    have hp' : p < H.length := by simpa using hp
    have hq' : q < H.length := by simpa using hq
    by_cases hpi : p = i
    · subst hpi
      rw [List.getElem_set_self] at hb
      rw [List.getElem_set_ne (by omega)] at e
      rcases hl b hb with h1 | h1
      · exact hne q hq' (by omega) b e h1
      · have := (h.lo _ (List.getElem_mem hq') b e).2; omega
    · rw [List.getElem_set_ne (Ne.symm hpi)] at hb
      by_cases hqi : q = i
      · subst hqi
        rw [List.getElem_set_self] at e
        rcases hl b e with h1 | h1
        · exact hne p hp' hpi b hb h1
        · have := (h.lo _ (List.getElem_mem hp') b hb).2; omega
      · rw [List.getElem_set_ne (Ne.symm hqi)] at e
        exact List.pairwise_iff_getElem.1 h.apart p q hp' hq' hpq b hb e
theorem HpM.sub {M : List Nat} {w0 w : World} {H H' : List It} (h : HpM M w0 w H) (hs : List.Sublist H' H) : HpM M w0 w H' :=
  ⟨h.extM, fun x hx => h.ok x (hs.subset hx), fun x hx => h.holds x (hs.subset hx), fun x hx => h.lo x (hs.subset hx), h.apart.sublist hs⟩
theorem HpM.rot {M : List Nat} {w0 w : World} {H : List It} (h : HpM M w0 w H) (n : Nat) : HpM M w0 w (H.drop n ++ H.take n) := by
  have hp : (H.drop n ++ H.take n).Perm H := by
    have := List.perm_append_comm (l₁ := H.drop n) (l₂ := H.take n)
    rwa [List.take_append_drop] at this
  exact ⟨h.extM, fun x hx => h.ok x (hp.mem_iff.1 hx), fun x hx => h.holds x (hp.mem_iff.1 hx), fun x hx => h.lo x (hp.mem_iff.1 hx),
    (hp.symm.pairwise_iff (fun {x y} hxy b hb e => hxy b e hb)).1 h.apart⟩
theorem HpM.get {M : List Nat} {w0 w : World} {H : List It} (h : HpM M w0 w H) {i : Nat} {x : It} (hi : H[i]? = some x) : x.holds w := h.holds x (List.mem_of_getElem? hi)
/-- A block of the caller's: it may be written. -/
theorem HpM.take {M : List Nat} {w0 w : World} {H : List It} (h : HpM M w0 w H) {b : Nat} {cs : List Value} {e : Nat} (hb : Blk w b cs e) (hM : b ∈ M) (hne : ∀ x ∈ H, x.own ≠ some b) : HpM M w0 w (blk b cs e :: H) := by
  have hlt : b < w.heap.size := hb.lt
  refine ⟨h.extM, ?_, ?_, ?_, ?_⟩
  · intro y hy; rcases List.mem_cons.1 hy with rfl | hy
    · exact blk_ok _ _ _
    · exact h.ok y hy
  · intro y hy; rcases List.mem_cons.1 hy with rfl | hy
    · exact hb
    · exact h.holds y hy
  · intro y hy; rcases List.mem_cons.1 hy with rfl | hy
    · intro b' hb'; simp only [blk, Option.some.injEq] at hb'; subst hb'; exact ⟨.inl hM, hlt⟩
    · exact h.lo y hy
  · refine List.pairwise_cons.2 ⟨fun y hy b' hb' e => ?_, h.apart⟩
    simp only [blk, Option.some.injEq] at hb'; subst hb'
    exact hne y hy e
/-- A block of the caller's that is not written reads as it did. -/
theorem HpM.old {M : List Nat} {w0 w : World} {H : List It} (h : HpM M w0 w H) {b : Nat} {cs : List Value} {e : Nat} (hb : Blk w0 b cs e) (hM : b ∉ M) : Blk w b cs e :=
  hb.same (h.extM.block b hb.lt hM)
/-- Behind a call that may have written one of the blocks. -/
theorem HpM.wrote {M : List Nat} {w0 w w' : World} {H : List It} (h : HpM M w0 w H) {i b : Nat} {cs cs' : List Value} {e : Nat} (hi : H[i]? = some (blk b cs e)) (hg : w.grownBy w' (some b)) (hb : Blk w' b cs' e) : HpM M w0 w' (H.set i (blk b cs' e)) :=
  h.upd hi hg (blk_ok _ _ _) hb (fun b' hb' => .inl hb')
theorem HpM.ne {M : List Nat} {w0 w : World} {H : List It} (h : HpM M w0 w H) (i j : Nat) {b b' : Nat} {cs cs' : List Value} {e e' : Nat} (hi : H[i]? = some (blk b cs e)) (hj : H[j]? = some (blk b' cs' e')) (hij : Nat.beq i j = false) : b ≠ b' := by
  obtain ⟨hi1, hi2⟩ := List.getElem?_eq_some_iff.1 hi
  obtain ⟨hj1, hj2⟩ := List.getElem?_eq_some_iff.1 hj
  intro e
  subst e
  have hne : i ≠ j := fun e => by rw [e, Nat.beq_refl] at hij; cases hij
  rcases Nat.lt_or_gt_of_ne hne with hlt | hgt
  · exact List.pairwise_iff_getElem.1 h.apart i j hi1 hj1 hlt b (by rw [hi2]; rfl) (by rw [hj2]; rfl)
  · exact List.pairwise_iff_getElem.1 h.apart j i hj1 hi1 hgt b (by rw [hj2]; rfl) (by rw [hi2]; rfl)
theorem HpM.tail {M : List Nat} {w0 w : World} {x : It} {H : List It} (h : HpM M w0 w (x :: H)) : HpM M w0 w H := h.sub (List.sublist_cons_self _ _)
/-- What a call has made joins what there is. -/
theorem HpM.join {M : List Nat} {w0 w w' : World} {H : List It} (h : HpM M w0 w H) : ∀ {L : List It}, HpM [] w w' L → HpM M w0 w' (L ++ H) := fun {L} k => by
  have hx : Ext w w' := k.ext
  have h' := h.call hx
  refine ⟨h'.extM, ?_, ?_, ?_, ?_⟩
  · intro y hy; rcases List.mem_append.1 hy with hy | hy
    · exact k.ok y hy
    · exact h'.ok y hy
  · intro y hy; rcases List.mem_append.1 hy with hy | hy
    · exact k.holds y hy
    · exact h'.holds y hy
  · intro y hy b hb; rcases List.mem_append.1 hy with hy | hy
    · obtain ⟨h1, h2⟩ := k.lo y hy b hb
      rcases h1 with h1 | h1
      · simp at h1
      · exact ⟨.inr (Nat.le_trans h.extM.size h1), h2⟩
    · exact h'.lo y hy b hb
  · refine List.pairwise_append.2 ⟨k.apart, h'.apart, fun x hx y hy b hb e => ?_⟩
    have h1 := (k.lo x hx b hb).1
    have h2 := (h.lo y hy b e).2
    rcases h1 with h1 | h1
    · simp at h1
    · omega
/-- A function that hands back things that it has made. -/
def MakesF (P : Program) (f : Nat) (args : Array Value) (R : Value → List It) : Prop := ∀ w, Calls P f args w fun e w' => ∃ v, e = .returned v ∧ HpM [] w w' (R v)
theorem MakesF.use {P : Program} {f : Nat} {args : Array Value} {R : Value → List It} (h : MakesF P f args R) {M : List Nat} {w0 w : World} {H : List It} (hp : HpM M w0 w H) {K : Value → World → Prop} (hk : ∀ v w', HpM M w0 w' (R v ++ H) → Ext w w' → K v w') :
    Calls P f args w fun e w' => ∃ v, e = .returned v ∧ K v w' := (h w).mono fun _ w' ⟨v, he, k⟩ => ⟨v, he, hk v w' (hp.join k) k.ext⟩
theorem v_makes {P : Program} {T : Tab} {FS : List Nat} (hT : tabOk P T = true) (hF : ∀ f, memB f FS = true → Enters P f) {f : Nat} {fn : Func} {c : Code} {args : List Value} {R : Value → List It} (hf : P.funcs[f]? = some fn) (hb : fn.body = some c) (hn : Nat.ble args.length fn.ntmps = true)
    (h : ∀ w, vgo P T FS fn.ntmps c (entry 0 args) w (retK P fn.results.toList fun v' w' => HpM [] w w' (R v'))) : MakesF P f args.toArray R := fun w => by
  refine (v_fn hT hF hf hb (Nat.le_of_ble_eq_true hn) (h w)).mono ?_
  rintro e w' ⟨v', rfl, hx⟩
  exact ⟨v', rfl, hx⟩
/-- A call that reads things of the world it is met in, and computes. -/
theorem v_reads {P : Program} {T : Tab} {FS : List Nat} (hT : tabOk P T = true) (hF : ∀ f, memB f FS = true → Enters P f) {f : Nat} {fn : Func} {c : Code} {args : List Value} {v : Value} {w : World} (hf : P.funcs[f]? = some fn) (hb : fn.body = some c) (hn : Nat.ble args.length fn.ntmps = true)
    (h : vgo P T FS fn.ntmps c (entry 0 args) w (retK P fn.results.toList fun v' w' => v' = v ∧ Ext w w')) : Calls P f args.toArray w fun e w' => e = .returned v ∧ Ext w w' := by
  refine (v_fn hT hF hf hb (Nat.le_of_ble_eq_true hn) h).mono ?_
  rintro e w' ⟨v', rfl, rfl, hx⟩
  exact ⟨rfl, hx⟩
end V
end Go.Proofs.Ytejphmgpndgliaa
