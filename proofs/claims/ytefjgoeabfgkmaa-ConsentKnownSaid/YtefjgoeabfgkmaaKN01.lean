/- V: a wp by computation, over an environment of the slots that are known. Own work. No program is named here. -/
/- V, its soundness. Own work. -/
import Derived.WalkKit
import Derived.ScopeJumps
import Derived.WalkSpells
import Derived.Deep.Quiet
import Derived.StillTail
import Derived.Shelf.Abstract
import Derived.RangeFuncFrom
import Derived.RangeFuncLeaves
import Derived.RangeFuncIn
import Derived.RangeFuncRecord
import Derived.RecoverIn
import Derived.OrdersIn
import Derived.OwnWalkIn
namespace Go.Proofs.Ytefjgoeabfgkmaa
set_option linter.unusedSimpArgs false
set_option linter.unusedVariables false
open Go.RowKit
namespace V

/-- What a slot is known to hold: a value, or a Bool that is decided. -/
inductive EV where
 | v (x : Value)
 | tt
 | ff
 | m (D : Nat)
 | d (x : Deferred)
@[reducible] def EV.val : EV → Value
 | .v x => x
 | .tt => .bool true
 | .ff => .bool false
 | .m _ => undef
 | .d _ => undef
abbrev Env := List (Nat × EV)
def look : Env → Nat → Option EV
 | [], _ => none
 | (d, x) :: l, t => match Nat.beq d t with
  | true => some x
  | false => look l t
theorem beqF {d t : Nat} (e : ¬ d = t) : Nat.beq d t = false := by
 cases h : Nat.beq d t with
 | false => rfl
 | true => exact absurd (Nat.eq_of_beq_eq_true h) e
theorem beqT (d : Nat) : Nat.beq d d = true := Nat.beq_refl d
/-- The marks that ranges over functions have left: newest first. -/
def mk1 (D : Nat) : Deferred := { target := .collected D, args := #[] }
def marks : Env → List Deferred
 | [] => []
 | (_, .m D) :: l => mk1 D :: marks l
 | (_, .d x) :: l => x :: marks l
 | _ :: l => marks l
def EV.isM : EV → Bool
 | .m _ => true
 | .d _ => true
 | _ => false
theorem marks_cons {d : Nat} {e : EV} {l : Env} (h : e.isM = false) : marks ((d, e) :: l) = marks l := by
 cases e <;> first | rfl | (simp [EV.isM] at h)
structure At (n : Nat) (l : Env) (a : Act) : Prop where
 defers : a.defers = marks l
 size : a.tmps.size = n
 holds : ∀ t x, look l t = some x → a.tmps.getD t undef = x.val

theorem At.put {n : Nat} {l : Env} {a : Act} (h : At n l a) {d : Nat} (hd : Nat.blt d n = true) (x : EV) (hx : x.isM = false := by rfl) : At n ((d, x) :: l) (a.put (some d) x.val) := by
 have hdn : d < n := by simpa using hd
 refine ⟨by rw [marks_cons hx]; exact h.defers, by simpa [Act.put] using h.size, fun t y hy => ?_⟩
 simp only [look] at hy
 by_cases e : d = t
 ·subst e
  simp at hy
  subst hy
  simp [Act.put, Array.getD, h.size, hdn]
 ·have : Nat.beq d t = false := beqF e
  rw [this] at hy
  have := h.holds t y hy
  simpa [Act.put, Array.getD_eq_getD_getElem?, Array.getElem?_setIfInBounds_ne e] using this

def SubL (l0 l : Env) : Prop := ∀ t x, look l0 t = some x → look l t = some x
structure Sub (l0 l : Env) : Prop where
 look : SubL l0 l
 marks : marks l0 = marks l
theorem Sub.refl (l : Env) : Sub l l := ⟨fun _ _ h => h, rfl⟩
theorem sub_nil {l : Env} (h : marks l = [] := by rfl) : Sub [] l := ⟨fun _ _ h => by simp [V.look] at h, h.symm⟩
theorem subL_cons {l0 l : Env} {d : Nat} {x : EV} (h : look l d = some x) (hs : SubL l0 l) : SubL ((d, x) :: l0) l := fun t y hy => by
 simp only [look] at hy
 by_cases e : d = t
 ·subst e; simp at hy; subst hy; exact h
 ·have : Nat.beq d t = false := beqF e
  rw [this] at hy; exact hs t y hy
theorem sub_cons {l0 l : Env} {d : Nat} {x : EV} (h : look l d = some x) (hs : Sub l0 l) (hx : x.isM = false := by rfl) : Sub ((d, x) :: l0) l :=
 ⟨subL_cons h hs.look, (marks_cons hx).trans hs.marks⟩
theorem At.sub {n : Nat} {l l0 : Env} {a : Act} (h : At n l a) (hs : Sub l0 l) : At n l0 a := ⟨by rw [hs.marks]; exact h.defers, h.size, fun t x hx => h.holds t x (hs.look t x hx)⟩

def litE : Value → EV
 | .bool true => .tt
 | .bool false => .ff
 | x => .v x
theorem litE_val (x : Value) : (litE x).val = x := by
 unfold litE; split <;> rfl
def opd (l : Env) : Operand → Option EV
 | .tmp t => look l t
 | .const x => some (litE x)
 | .global g => some (.v (.pointer (some ⟨g, 0, none⟩)))
 | .func f => some (.v (.func (.func f) #[] #[]))
theorem opd_eval {n : Nat} {l : Env} {a : Act} (h : At n l a) {x : Operand} {e : EV} (he : opd l x = some e) : a.eval x = e.val := by
 cases x with
 | tmp t => exact h.holds t e he
 | const v => simp only [opd, Option.some.injEq] at he; subst he; exact (litE_val v).symm
 | global g => simp only [opd, Option.some.injEq] at he; subst he; rfl
 | func f => simp only [opd, Option.some.injEq] at he; subst he; rfl
def opds (l : Env) : List Operand → Option (List Value)
 | [] => some []
 | x :: r => match opd l x with
  | none => none
  | some e => match opds l r with
   | none => none
   | some vs => some (e.val :: vs)
theorem opds_eval {n : Nat} {l : Env} {a : Act} (h : At n l a) : ∀ {xs : List Operand} {vs : List Value}, opds l xs = some vs → xs.map a.eval = vs
 | [], vs, he => by simp only [opds, Option.some.injEq] at he; subst he; rfl
 | x :: r, vs, he => by
  simp only [opds] at he
  cases hx : opd l x with
  | none => simp [hx] at he
  | some e =>
   cases hr : opds l r with
   | none => simp [hx, hr] at he
   | some ws =>
    simp only [hx, hr, Option.some.injEq] at he
    subst he
    simp [opd_eval h hx, opds_eval h hr]

/-! ### the table of types -/
inductive TK where
 | bool | int (k : IntKind) | str | ptr (e : Nat) | slice (e : Nat) | arr (len e : Nat) | struct (fs : List (Nat × Nat)) | other
structure TE where
 kind : TK
 size : Nat
abbrev Tab := List (Nat × TE)
def tfind : Tab → Nat → Option TE
 | [], _ => none
 | (d, x) :: l, t => match Nat.beq d t with
  | true => some x
  | false => tfind l t
def kindOk (P : Program) (t : Nat) : TK → Bool
 | .bool => (P.underlying t matches some .bool)
 | .int k => (match P.underlying t with | some (.int k') => decide (k = k') | _ => false)
 | .str => (P.underlying t matches some .string)
 | .ptr e => (match P.underlying t with | some (.pointer e') => e == e' | _ => false)
 | .slice e => (match P.underlying t with | some (.slice e') => e == e' | _ => false)
 | .arr n e => (match P.underlying t with | some (.array n' e') => n == n' && e == e' | _ => false)
 | .struct fs => (match P.underlying t with | some (.struct fs') => fs == (fs'.toList.map fun f => (f.offset, f.type)) | _ => false)
 | .other => true
def entryOk (P : Program) (p : Nat × TE) : Bool := kindOk P p.1 p.2.kind && (match P.info? p.1 with | some i => i.size == p.2.size | none => false)
def tabOk (P : Program) (T : Tab) : Bool := T.all (entryOk P)
theorem tfind_mem : ∀ {T : Tab} {t : Nat} {e : TE}, tfind T t = some e → (t, e) ∈ T
 | (d, x) :: l, t, e, h => by
  simp only [tfind] at h
  by_cases he : d = t
  ·subst he; simp at h; subst h; exact List.mem_cons_self
  ·have : Nat.beq d t = false := beqF he
   rw [this] at h; exact List.mem_cons_of_mem _ (tfind_mem h)
theorem tab_entry {P : Program} {T : Tab} (hT : tabOk P T = true) {t : Nat} {e : TE} (h : tfind T t = some e) : kindOk P t e.kind = true ∧ ∃ i, P.info? t = some i ∧ i.size = e.size := by
 have := List.all_eq_true.1 hT _ (tfind_mem h)
 simp only [entryOk, Bool.and_eq_true] at this
 refine ⟨this.1, ?_⟩
 have h2 := this.2
 split at h2
 ·rename_i i hi; exact ⟨i, hi, by simpa using h2⟩
 ·simp at h2

/-! ### the operations -/
structure Hand (σ : Type) where
 run : Sem Value → σ → (Value → σ → Prop) → Prop
 call : FuncId → Array Value → σ → (Value → σ → Prop) → Prop
 yield : Nat → Array Value → σ → (Value → σ → Prop) → Prop
 ext : FuncId → Array Value → Sem Value → Prop
 pan : Value → σ → Prop := fun _ _ => False
/-- A function without a body: what stands in for it. -/
def extP (P : Program) (f : FuncId) (args : Array Value) (e : Sem Value) : Prop := ∀ w, (callFunc f args).run P w = (do Pure.pure (.value (← e)) : Sem Next).run P w

def byt (s : ByteArray) (i : Nat) : Nat := (s.data.toList.getD i 0).toNat

/-- An integer result, in the kind's range: 64 bits, signed: it fits, or it is told what it wraps to; unsigned ones wrap. -/
def vwrap (k : IntKind) (x : Int) (K : Value → Prop) : Prop :=
 match k with
 | .i64 => ((-9223372036854775808 ≤ x ∧ x ≤ 9223372036854775807) ∧ K (.int .i64 x)) ∨ ∃ y, y = IntKind.i64.wrap x ∧ K (.int .i64 y)
 | .i32 => (-2147483648 ≤ x ∧ x ≤ 2147483647) ∧ K (.int .i32 x)
 | .i16 => False
 | .i8 => False
 | .u8 => K (.int .u8 (x % 256))
 | .u16 => K (.int .u16 (x % 65536))
 | .u32 => K (.int .u32 (x % 4294967296))
 | .u64 => K (.int .u64 (x % 18446744073709551616))
theorem vwrap_sound {k : IntKind} {x : Int} {K : Value → Prop} (h : vwrap k x K) : K (.int k (k.wrap x)) := by
 cases k with
 | i64 =>
  rcases h with h | ⟨y, rfl, h⟩
  ·rw [IntWalk.i64_in x h.1]; exact h.2
  ·exact h
 | i32 => rw [IntWalk.i32_in x h.1]; exact h.2
 | i16 => exact h.elim
 | i8 => exact h.elim
 | u8 => rw [show IntKind.u8.wrap x = x % 256 by simp [IntKind.wrap, IntKind.bits, IntKind.signed]]; exact h
 | u16 => rw [show IntKind.u16.wrap x = x % 65536 by simp [IntKind.wrap, IntKind.bits, IntKind.signed]]; exact h
 | u32 => rw [show IntKind.u32.wrap x = x % 4294967296 by simp [IntKind.wrap, IntKind.bits, IntKind.signed]]; exact h
 | u64 => rw [show IntKind.u64.wrap x = x % 18446744073709551616 by simp [IntKind.wrap, IntKind.bits, IntKind.signed]]; exact h
def lim (k : IntKind) : Nat :=
 match k with
 | .i64 => 9223372036854775808 | .i32 => 2147483648 | .i16 => 32768 | .i8 => 128
 | .u8 => 256 | .u16 => 65536 | .u32 => 4294967296 | .u64 => 18446744073709551616
def kbits (k : IntKind) : Nat :=
 match k with
 | .i64 => 64 | .i32 => 32 | .i16 => 16 | .i8 => 8 | .u8 => 8 | .u16 => 16 | .u32 => 32 | .u64 => 64
def maskK (k : IntKind) : Nat :=
 match k with
 | .i64 => 18446744073709551615 | .u8 => 255 | .u16 => 65535 | .u32 => 4294967295 | .u64 => 18446744073709551615 | .i32 => 4294967295 | .i16 => 65535 | .i8 => 255
def bitN (op : BinOp) (k : IntKind) (m n : Nat) : Nat :=
 match op with
 | .and => m &&& n
 | .or => m ||| n
 | .xor => m ^^^ n
 | _ => m &&& (maskK k - n)
/-- bits, the limit, the mask of a kind, written out -/
def vk (k : IntKind) (f : Nat → Nat → Nat → Prop) : Prop :=
 match k with
 | .i64 => f 64 9223372036854775808 18446744073709551615
 | .i32 => f 32 2147483648 4294967295
 | .i16 => f 16 32768 65535
 | .i8 => f 8 128 255
 | .u8 => f 8 256 255
 | .u16 => f 16 65536 65535
 | .u32 => f 32 4294967296 4294967295
 | .u64 => f 64 18446744073709551616 18446744073709551615
theorem vk_eq (k : IntKind) (f : Nat → Nat → Nat → Prop) : vk k f = f (kbits k) (lim k) (maskK k) := by cases k <;> rfl
def vbit (k : IntKind) (x y : Int) (op : Nat → Nat → Nat → Nat) (K : Value → Prop) : Prop :=
 vk k fun _ L M => ∃ m n r : Nat, (x = (m : Int) ∧ y = (n : Int) ∧ m < L ∧ n < L) ∧ op M m n = r ∧ K (.int k (r : Nat))
/-- from kind to kind: does every number of the first fit the second? -/
def widens : IntKind → IntKind → Bool
 | .u8, .u16 | .u8, .u32 | .u8, .u64 | .u16, .u32 | .u16, .u64 | .u32, .u64 | .i64, .u64 | .u8, .u8 | .u16, .u16 | .u32, .u32 | .u64, .u64 => true
 | _, _ => false

def notE : EV → Option EV
 | .tt => some .ff
 | .ff => some .tt
 | .v (.bool b) => some (.v (.bool (!b)))
 | _ => none
def addM (off m sz : Nat) : Nat := match sz with
 | 1 => m + off
 | _ => m * sz + off

section
variable {σ : Type} (T : Tab) (Fs : List Nat) (H : Hand σ)

def vcmp (op : BinOp) (x y : Int) (K : EV → Prop) : Prop :=
 match op with
 | .eql => K (.v (.bool (decide (x = y))))
 | .neq => K (.v (.bool (decide (x ≠ y))))
 | .lss => K (.v (.bool (decide (x < y))))
 | .leq => K (.v (.bool (decide (x ≤ y))))
 | .gtr => K (.v (.bool (decide (y < x))))
 | .geq => K (.v (.bool (decide (y ≤ x))))
 | _ => False
def varith (op : BinOp) (k : IntKind) (x y : Int) (K : EV → Prop) : Prop :=
 match op with
 | .add => vwrap k (x + y) fun v => K (.v v)
 | .sub => vwrap k (x - y) fun v => K (.v v)
 | .mul => vwrap k (x * y) fun v => K (.v v)
 | .quo => vk k fun _ L _ => (0 ≤ x ∧ 0 < y ∧ x < L) ∧ K (.v (.int k (x / y)))
 | .rem => (0 ≤ x ∧ 0 < y) ∧ K (.v (.int k (x % y)))
 | .and => vbit k x y (fun _ m n => m &&& n) fun v => K (.v v)
 | .or => vbit k x y (fun _ m n => m ||| n) fun v => K (.v v)
 | .xor => vbit k x y (fun _ m n => m ^^^ n) fun v => K (.v v)
 | .andNot => vbit k x y (fun M m n => m &&& (M - n)) fun v => K (.v v)
 | op => vcmp op x y K
def vshift (op : BinOp) (k : IntKind) (x y : Int) (K : EV → Prop) : Prop :=
 match op with
 | .shl => vk k fun b _ _ => ∃ m : Nat, (y = (m : Int) ∧ m ≤ b) ∧ vwrap k (x * 2 ^ m) fun v => K (.v v)
 | .shr => vk k fun b _ _ => ∃ m : Nat, (y = (m : Int) ∧ m ≤ b) ∧ K (.v (.int k (x / 2 ^ m)))
 | _ => False
def vstr (op : BinOp) (s t : ByteArray) (K : EV → Prop) : Prop :=
 match op with
 | .add => s.size + t.size ≤ 9223372036854775807 ∧ K (.v (.string (s ++ t)))
 | .eql => K (.v (.bool (decide (s = t))))
 | .neq => K (.v (.bool (decide (s ≠ t))))
 | .lss => K (.v (.bool (Op.bytesLess s.data.toList t.data.toList)))
 | _ => False
def vbin (op : BinOp) (t : Nat) (xo yo : Operand) (x y : Value) (s : σ) (K : EV → σ → Prop) : Prop :=
 match tfind T t with
 | some ⟨.other, _⟩ => H.run (do eqGuard op t xo yo x y; binOp op t x y) s fun v s => K (.v v) s
 | _ => match op, x, y with
 | .shl, .int k a, .int _ b => vshift .shl k a b (K · s)
 | .shr, .int k a, .int _ b => vshift .shr k a b (K · s)
 | op, .int k a, .int k' b => (match decEq k k' with
  | .isTrue _ => varith op k a b (K · s)
  | .isFalse _ => False)
 | op, .string a, .string b => vstr op a b (K · s)
 | op, x, y => H.run (do eqGuard op t xo yo x y; binOp op t x y) s fun v s => K (.v v) s
def vun (op : UnOp) (e : EV) (s : σ) (K : EV → σ → Prop) : Prop :=
 match op with
 | .not => match notE e with
  | some e' => K e' s
  | none => False
 | .neg => match e with
  | .v (.int k n) => vwrap k (0 - n) fun v => K (.v v) s
  | _ => False
 | .xor => match e with
  | .v (.int k n) => (match k.signed with
   | false => vk k fun _ L M => (0 ≤ n ∧ n < (L : Int)) ∧ K (.v (.int k ((M : Int) - n))) s
   | true => H.run (Op.unary .xor (.int k n)) s fun v s => K (.v v) s)
  | e => H.run (Op.unary .xor e.val) s fun v s => K (.v v) s
 | op => H.run (Op.unary op e.val) s fun v s => K (.v v) s
def vconv (src dst : Nat) (e : EV) (s : σ) (K : EV → σ → Prop) : Prop :=
 match tfind T src, tfind T dst, e with
 | some ⟨.int _, _⟩, some ⟨.int k, _⟩, .v (.int k1 n) => (match widens k1 k with
  | true => vk k fun _ L _ => (0 ≤ n ∧ n < L) ∧ K (.v (.int k n)) s
  | false => vwrap k n fun v => K (.v v) s)
 | some ⟨.str, _⟩, some ⟨.str, _⟩, .v (.string x) => K (.v (.string x)) s
 | _, _, e => H.run (convert src dst e.val) s fun v s => K (.v v) s
def vfield (t : Nat) (e : EV) (f : Nat) (K : EV → Prop) : Prop :=
 match e with
 | .v (.pointer (some ⟨b, off, none⟩)) => (match tfind T t with
  | some ⟨.struct fs, _⟩ => (match fs[f]? with
   | some (o, ft) => (match tfind T ft with
    | some ⟨_, _ + 1⟩ => K (.v (.pointer (some ⟨b, off + o, none⟩)))
    | _ => False)
   | none => False)
  | _ => False)
 | _ => False
def vindexAddr (t : Nat) (e i : EV) (K : EV → Prop) : Prop :=
 match i with
 | .v (.int _ idx) => (match tfind T t with
  | some ⟨.arr len el, _⟩ => (match e with
   | .v (.pointer (some ⟨b, off, none⟩)) => (match tfind T el with
    | some ⟨_, sz⟩ => ∃ m : Nat, (idx = (m : Int) ∧ m < len) ∧ K (.v (.pointer (some ⟨b, addM off m sz, none⟩)))
    | none => False)
   | _ => False)
  | some ⟨.slice el, _⟩ => (match e with
   | .v (.slice (some ⟨b, off, none⟩) len _) => (match tfind T el with
    | some ⟨_, sz⟩ => ∃ m : Nat, (idx = (m : Int) ∧ m < len) ∧ K (.v (.pointer (some ⟨b, addM off m sz, none⟩)))
    | none => False)
   | _ => False)
  | _ => False)
 | _ => False
def vindex (t : Nat) (e i : EV) (s : σ) (K : EV → σ → Prop) : Prop :=
 match i with
 | .v (.int k idx) => (match e with
  | .v (.string x) => (match tfind T t with
   | some ⟨.str, _⟩ => ∃ m : Nat, (idx = (m : Int) ∧ m < x.size) ∧ K (.v (.int .u8 (byt x m : Nat))) s
   | _ => False)
  | e => H.run (Instr.index t e.val (.int k idx)) s fun v s => K (.v v) s)
 | _ => False
def oopd (l : Env) : Option Operand → Option (Option Value)
 | none => some none
 | some x => match opd l x with
  | some e => some (some e.val)
  | none => none
def vslice (t : Nat) (e : EV) (lo hi mx : Option Value) (s : σ) (K : EV → σ → Prop) : Prop :=
 match e, mx, lo, hi with
 | .v (.string x), none, none, none => (match tfind T t with
  | some ⟨.str, _⟩ => K (.v (.string (x.extract 0 x.size))) s
  | _ => False)
 | .v (.string x), none, some (.int _ a), none => (match tfind T t with
  | some ⟨.str, _⟩ => ∃ m : Nat, (a = (m : Int) ∧ m ≤ x.size) ∧ K (.v (.string (x.extract m x.size))) s
  | _ => False)
 | .v (.string x), none, none, some (.int _ b) => (match tfind T t with
  | some ⟨.str, _⟩ => ∃ n : Nat, (b = (n : Int) ∧ n ≤ x.size) ∧ K (.v (.string (x.extract 0 n))) s
  | _ => False)
 | .v (.string x), none, some (.int _ a), some (.int _ b) => (match tfind T t with
  | some ⟨.str, _⟩ => ∃ m n : Nat, (a = (m : Int) ∧ b = (n : Int) ∧ m ≤ n ∧ n ≤ x.size) ∧ K (.v (.string (x.extract m n))) s
  | _ => False)
 | e, mx, lo, hi => H.run (Instr.sliceAt t e.val lo hi mx) s fun v s => K (.v v) s
def vbuiltin (b : Builtin) (argTypes : Array TypeId) (ty : TypeId) (args : List Value) (s : σ) (K : EV → σ → Prop) : Prop :=
 match b, args with
 | .len, [.string x] => (match (argTypes[0]?).map (tfind T) with
  | some (some ⟨.str, _⟩) => K (.v (.int .i64 x.size)) s
  | _ => False)
 | .len, [.slice _ n _] => (match (argTypes[0]?).map (tfind T) with
  | some (some ⟨.slice _, _⟩) => K (.v (.int .i64 n)) s
  | _ => False)
 | .len, args => H.run (Builtin.len_ argTypes ty args.toArray) s fun v s => K (.v v) s
 | .min, [.int k x, .int _ y] => K (.v (.int k (min x y))) s
 | .min, [.int k x, .int _ y, .int _ z] => K (.v (.int k (min (min x y) z))) s
 | .min, args => H.run (Builtin.min_ argTypes ty args.toArray) s fun v s => K (.v v) s
 | .max, [.int k x, .int _ y] => K (.v (.int k (max x y))) s
 | .max, args => H.run (Builtin.max_ argTypes ty args.toArray) s fun v s => K (.v v) s
 | .append, args => H.run (Builtin.append_ argTypes ty args.toArray) s fun v s => K (.v v) s
 | .copy, args => H.run (Builtin.copy_ argTypes ty args.toArray) s fun v s => K (.v v) s
 | .cap, args => H.run (Builtin.cap_ argTypes ty args.toArray) s fun v s => K (.v v) s
 | .clear, args => H.run (Builtin.clear_ argTypes ty args.toArray) s fun v s => K (.v v) s
 | .unsafeString, args => H.run (Builtin.unsafeString_ argTypes ty args.toArray) s fun v s => K (.v v) s
 | .unsafeSliceData, args => H.run (Builtin.unsafeSliceData_ argTypes ty args.toArray) s fun v s => K (.v v) s
 | _, _ => False
def memB (f : Nat) : List Nat → Bool
 | [] => false
 | g :: l => match Nat.beq f g with
  | true => true
  | false => memB f l
def vcallf (f : Nat) (args : List Value) (s : σ) (K : EV → σ → Prop) : Prop :=
 match memB f Fs with
 | true => H.call f args.toArray s fun v s => K (.v v) s
 | false => ∃ e, H.ext f args.toArray e ∧ H.run e s fun v s => K (.v v) s
def vcall (l : Env) (c : Call) (ty : TypeId) (s : σ) (K : EV → σ → Prop) : Prop :=
 match opds l c.args.toList with
 | none => False
 | some args => match c.callee with
  | .builtin b => vbuiltin T H b c.argTypes ty args s K
  | .value f => (match opd l f with
   | some (.v (.func (.func g) first captured)) => vcallf Fs H g (first.toList ++ args ++ captured.toList) s K
   | some (.v (.func (.yield i) first _)) => H.yield i (first.toList ++ args).toArray s fun v s => K (.v v) s
   | _ => False)
  | .invoke _ _ => False
def partsOf (l : Env) : List (Nat × Operand) → Option (List (Nat × Value))
 | [] => some []
 | (i, x) :: r => match opd l x with
  | none => none
  | some e => match partsOf l r with
   | none => none
   | some vs => some ((i, e.val) :: vs)
def vop (l : Env) (o : Op) (ty : TypeId) (s : σ) (K : EV → σ → Prop) : Prop :=
 match o with
 | .move x | .assign x => (match opd l x with
  | some e => K e s
  | none => False)
 | .pick c a b => (match opd l c with
  | some .tt => (match opd l a with
   | some e => K e s
   | none => False)
  | some .ff => (match opd l b with
   | some e => K e s
   | none => False)
  | some (.v (.bool t)) => (match opd l a, opd l b with
   | some ea, some eb => (t = true → K ea s) ∧ (t = false → K eb s)
   | _, _ => False)
  | _ => False)
 | .extract x i => (match opd l x with
  | some (.v (.tuple vs)) => (match vs.toList[i]? with
   | some v => K (.v v) s
   | none => False)
  | _ => False)
 | .binOp op t x y _ => (match opd l x, opd l y with
  | some ex, some ey => vbin T H op t x y ex.val ey.val s K
  | _, _ => False)
 | .unOp op _ x => (match opd l x with
  | some e => vun H op e s K
  | none => False)
 | .convert a d x => (match opd l x with
  | some e => vconv T H a d e s K
  | none => False)
 | .nilCheck x => (match opd l x with
  | some (.v (.pointer (some a))) => K (.v (.pointer (some a))) s
  | some (.v (.func (.func f) a b)) => K (.v (.func (.func f) a b)) s
  | _ => False)
 | .makeFunc fn first cap => (match opds l first.toList, opds l cap.toList with
  | some a, some b => K (.v (.func fn a.toArray b.toArray)) s
  | _, _ => False)
 | .fieldAddr t x f => (match opd l x with
  | some e => vfield T t e f fun e => K e s
  | none => False)
 | .field t x f => (match opd l x with
  | some e => H.run (Instr.field t e.val f) s fun v s => K (.v v) s
  | none => False)
 | .indexAddr t x i => (match opd l x, opd l i with
  | some e, some ei => vindexAddr T t e ei fun e => K e s
  | _, _ => False)
 | .index t x i => (match opd l x, opd l i with
  | some e, some ei => vindex T H t e ei s K
  | _, _ => False)
 | .slice t x lo hi mx => (match opd l x, oopd l lo, oopd l hi, oopd l mx with
  | some e, some lo, some hi, some mx => vslice T H t e lo hi mx s K
  | _, _, _, _ => False)
 | .load t x => (match opd l x with
  | some e => H.run (Instr.loadAt t e.val) s fun v s => K (.v v) s
  | none => False)
 | .store t x y => (match opd l x, opd l y with
  | some e, some ey => H.run (do Instr.storeAt t e.val ey.val; pure undef) s fun v s => K (.v v) s
  | _, _ => False)
 | .alloc t => H.run (Instr.alloc t true (.tuple #[])) s fun v s => K (.v v) s
 | .box t x => (match opd l x with
  | some e => H.run (Instr.box t e.val) s fun v s => K (.v v) s
  | none => False)
 | .build t ps => (match partsOf l ps.toList with
  | some vs => H.run (Instr.build t vs.toArray) s fun v s => K (.v v) s
  | none => False)
 | .buildSlice t n ps => (match partsOf l ps.toList with
  | some vs => H.run (Instr.buildSlice t n vs.toArray) s fun v s => K (.v v) s
  | none => False)
 | .makeSlice t a b => (match opd l a, opd l b with
  | some ea, some eb => H.run (Instr.makeSlice t ea.val eb.val) s fun v s => K (.v v) s
  | _, _ => False)
 | .sliceToArrayPointer t x => (match opd l x with
  | some e => H.run (Instr.arrayAt t e.val) s fun v s => K (.v v) s
  | none => False)
 | .makeMap t r => (match oopd l r with
  | some r => H.run (Instr.makeMap t r) s fun v s => K (.v v) s
  | none => False)
 | .lookup t x i ok => (match opd l x, opd l i with
  | some e, some ei => H.run (Instr.lookup t e.val ei.val ok) s fun v s => K (.v v) s
  | _, _ => False)
 | .mapUpdate t m k x => (match opd l m, opd l k, opd l x with
  | some em, some ek, some ex => H.run (do Instr.mapUpdate t em.val ek.val ex.val; pure undef) s fun v s => K (.v v) s
  | _, _, _ => False)
 | .insert t m k x => (match opd l m, opd l k, opd l x with
  | some em, some ek, some ex => H.run (do Instr.mapUpdate t em.val ek.val ex.val; pure undef) s fun v s => K (.v v) s
  | _, _, _ => False)
 | .call c => vcall T Fs H l c ty s K
 | .makeInterface t x => (match opd l x with
  | some e => H.run (Instr.makeInterface t e.val) s fun v s => K (.v v) s
  | none => False)
 | .typeAssert x xt t ok => (match opd l x with
  | some e => H.run (Instr.typeAssert e.val xt t ok) s fun v s => K (.v v) s
  | none => False)
 | .panic x => (match opd l x with
  | some e => H.pan e.val s
  | none => False)
 | _ => False

def gslot (all : List Oper) (j : Nat) : Option Nat := (all[j]?).bind (·.dst)
abbrev vdst (n : Nat) (o : Oper) (l : Env) (K : Env → σ → Prop) (e : EV) (s : σ) : Prop :=
 match o.dst with
 | some d => (match Nat.blt d n with
  | true => (match e.isM with
   | false => K ((d, e) :: l) s
   | true => False)
  | false => False)
 | none => K l s
abbrev vops (n : Nat) (all : List Oper) : List Oper → Env → σ → (Env → σ → Prop) → Prop
 | [], l, s, K => K l s
 | o :: rest, l, s, K => match o.guard with
  | none => vop T Fs H l o.op o.type s (vdst n o l fun l s => vops n all rest l s K)
  | some (j, want) => match gslot all j with
   | none => False
   | some d => match look l d with
    | some .tt => (match want with
     | true => vop T Fs H l o.op o.type s (vdst n o l fun l s => vops n all rest l s K)
     | false => vdst n o l (fun l s => vops n all rest l s K) (.v undef) s)
    | some .ff => (match want with
     | true => vdst n o l (fun l s => vops n all rest l s K) (.v undef) s
     | false => vop T Fs H l o.op o.type s (vdst n o l fun l s => vops n all rest l s K))
    | some (.v (.bool b)) => (match want with
     | true => (b = true → vop T Fs H ((d, .tt) :: l) o.op o.type s (vdst n o ((d, .tt) :: l) fun l s => vops n all rest l s K)) ∧
       (b = false → vdst n o ((d, .ff) :: l) (fun l s => vops n all rest l s K) (.v undef) s)
     | false => (b = true → vdst n o ((d, .tt) :: l) (fun l s => vops n all rest l s K) (.v undef) s) ∧
       (b = false → vop T Fs H ((d, .ff) :: l) o.op o.type s (vdst n o ((d, .ff) :: l) fun l s => vops n all rest l s K)))
    | some (.v (.tuple _)) => vdst n o l (fun l s => vops n all rest l s K) (.v undef) s
    | _ => False
end

def nrmH (P : Program) : Hand World where
 run := fun s w K => ∃ v w', s.run P w = .ok v w' ∧ K v w'
 call := fun f args w K => Calls P f args w fun e w' => ∃ v, e = .returned v ∧ K v w'
 yield := fun i args w K => YieldAt Fence.wide 0 P i args w fun e w' => ∃ v, e = .returned v ∧ K v w'
 ext := extP P
/-- The same, of a region without a call of yield. -/
def nrmH0 (P : Program) : Hand World where
 run := fun s w K => ∃ v w', s.run P w = .ok v w' ∧ K v w'
 call := fun f args w K => Calls P f args w fun e w' => ∃ v, e = .returned v ∧ K v w'
 yield := fun _ _ _ _ => False
 ext := extP P
def qui (P : Program) (C : World → Prop) : Hand Unit where
 run := fun s _ K => ∃ v, (∀ w, C w → s.run P w = .ok v w) ∧ K v ()
 call := fun f args _ K => ∃ v, (∀ w, C w → Calls P f args w fun e w' => e = .returned v ∧ C w') ∧ K v ()
 yield := fun _ _ _ _ => False
 ext := extP P

/-- The same, where a call may also end in a panic. -/
def nrmHX (P : Program) (kp : List PanicEntry → World → Prop) : Hand World where
 run := fun s w K => ∃ v w', s.run P w = .ok v w' ∧ K v w'
 call := fun f args w K => Calls P f args w fun e w' => (∃ v, e = .returned v ∧ K v w') ∨ ∃ c, e = .panicked c ∧ kp c w'
 yield := fun i args w K => YieldAt Fence.wide 0 P i args w fun e w' => ∃ v, e = .returned v ∧ K v w'
 ext := extP P
 pan := fun v w => (∃ t x, v = .iface t x) ∧ kp [{ v, recovered := false }] w

/-- The widest fence, in a round or in none. -/
def wideR (r : Option Nat) : Fence := { fn := fun _ => True, depth := none, alive := false, round := r }
/-! ### code -/
structure KK where
 nrm : Env → World → Prop
 ret : Env → World → Prop
 ex : Nat → Env → World → Prop
 go : Nat → Env → World → Prop := fun _ _ _ => False
 pan : Option (List PanicEntry → Env → World → Prop) := none
def QK (n : Nat) (K : KK) : Exit → Act → World → Prop
 | .normal, a, w => ∃ l, At n l a ∧ K.nrm l w
 | .ret, a, w => ∃ l, At n l a ∧ K.ret l w
 | .exit i, a, w => ∃ l, At n l a ∧ K.ex i l w
 | .goto i, a, w => ∃ l, At n l a ∧ K.go i l w
 | .panic c, a, w => match K.pan with
  | none => False
  | some kp => ∃ l, At n l a ∧ kp c l w
 | .outgrown, _, _ => False

section
variable (P : Program) (T : Tab) (Fs : List Nat) (n : Nat)
def isDefer : Op → Bool
 | .defer _ => true
 | _ => false
def noDefer : List Oper → Bool
 | [] => true
 | o :: r => !isDefer o.op && noDefer r
/-- No range over a function, no scope of jumps: a body that is walked in a round. -/
def flat : Code → Bool
 | .skip | .label _ | .region _ _ _ | .exit _ | .goto _ | .ret => true
 | .seq a b => flat a && flat b
 | .cond _ a b => flat a && flat b
 | .block _ b => flat b
 | .loop b => flat b
 | _ => false
/-- A region that draws its order: what is owed is the region's own wp; rules below. -/
structure VDraw (ops : List Oper) (l : Env) (w : World) (K : Env → World → Prop) : Prop where
 out : ∀ (r : Option Nat) (m : Nat) (a : Act) (Q : Exit → Act → World → Prop), (∀ a w, ¬ Q .outgrown a w) → At n l a → (∀ l' a' w', At n l' a' → K l' w' → Q .normal a' w') →
  ∀ t, wpOpsIn (wideR r) m P ops.toArray Q (Region.schedule (P.follows .mixedOrders) ops.toArray t) a { w with drawn := w.drawn + 1 }
 plain : noDefer ops = true
/-- The same, where a call may end in a panic. -/
structure VDrawP (ops : List Oper) (l : Env) (w : World) (K : Env → World → Prop) (kp : List PanicEntry → Env → World → Prop) : Prop where
 out : ∀ (r : Option Nat) (m : Nat) (a : Act) (Q : Exit → Act → World → Prop), (∀ a w, ¬ Q .outgrown a w) → At n l a → (∀ l' a' w', At n l' a' → K l' w' → Q .normal a' w') →
  (∀ c l' a' w', At n l' a' → kp c l' w' → Q (.panic c) a' w') →
  ∀ t, wpOpsIn (wideR r) m P ops.toArray Q (Region.schedule (P.follows .mixedOrders) ops.toArray t) a { w with drawn := w.drawn + 1 }
 plain : noDefer ops = true
theorem VDrawP.of {ops : List Oper} {l : Env} {w : World} {K : Env → World → Prop} {kp : List PanicEntry → Env → World → Prop} (h : VDraw P n ops l w K) : VDrawP P n ops l w K kp :=
 ⟨fun r m a Q hq ha hk _ => h.out r m a Q hq ha hk, h.plain⟩
/-- A range over a function. -/
structure VRange (f : Operand) (ps : Array Tmp) (assign body : Code) (l : Env) (w : World) (K : KK) : Prop where
 out : ∀ (a : Act), At n l a → (Code.rangeFunc f ps assign body).wpIn Fence.wide 0 P (QK n K) a w
/-- A scope of jumps. -/
structure VScope (b : Code) (l : Env) (w : World) (K : KK) : Prop where
 out : ∀ (a : Act), At n l a → (Code.scope b).wpIn Fence.wide 0 P (QK n K) a w
/-- One thing behind another: what is behind stands under a name of its own while the first is walked. -/
structure VSeq (A : (Env → World → Prop) → Prop) (B : Env → World → Prop) : Prop where
 out : ∀ K0 : Env → World → Prop, (∀ l0 l w, Sub l0 l → B l0 w → K0 l w) → A K0
/-- A region's operations, cut ahead of each that is guarded and follows one that is not. -/
def chunk : List Oper → List (List Oper)
 | [] => []
 | o :: r => match chunk r with
  | [] => [[o]]
  | [] :: cs => [o] :: cs
  | (o2 :: c) :: cs => match o.guard, o2.guard with
   | none, some _ => [o] :: (o2 :: c) :: cs
   | _, _ => (o :: o2 :: c) :: cs
abbrev vchunks (all : List Oper) : List (List Oper) → Env → World → (Env → World → Prop) → Prop
 | [], l, w, K => K l w
 | [c], l, w, K => vops T Fs (nrmH P) n all c l w K
 | c :: cs, l, w, K => VSeq (fun K0 => vops T Fs (nrmH P) n all c l w K0) (fun l w => vchunks all cs l w K)
/-- What a defer statement lays. -/
def vdefer (l : Env) (c : Call) : Option Deferred :=
 match opds l c.args.toList with
 | none => none
 | some args => match c.callee with
  | .value f => (match opd l f with
   | some (.v (.func (.func g) first captured)) => some { target := .fn (.func g) captured, args := (first.toList ++ args).toArray }
   | _ => none)
  | _ => none
abbrev vopP (kp : List PanicEntry → Env → World → Prop) (o : Oper) (l : Env) (w : World) (K : Env → World → Prop) : Prop :=
 match o.op with
 | .defer c => (match vdefer l c with
  | some d => vdst n o ((n, .d d) :: l) K (.v undef) w
  | none => False)
 | op => vop T Fs (nrmHX P fun c w => kp c l w) l op o.type w (vdst n o l K)
/-- The operations, where a call may end in a panic. -/
abbrev vopsP (kp : List PanicEntry → Env → World → Prop) (all : List Oper) : List Oper → Env → World → (Env → World → Prop) → Prop
 | [], l, s, K => K l s
 | o :: rest, l, s, K => match o.guard with
  | none => vopP P T Fs n kp o l s fun l s => vopsP kp all rest l s K
  | some (j, want) => match gslot all j with
   | none => False
   | some d => match look l d with
    | some .tt => (match want with
     | true => vopP P T Fs n kp o l s fun l s => vopsP kp all rest l s K
     | false => vdst n o l (fun l s => vopsP kp all rest l s K) (.v undef) s)
    | some .ff => (match want with
     | true => vdst n o l (fun l s => vopsP kp all rest l s K) (.v undef) s
     | false => vopP P T Fs n kp o l s fun l s => vopsP kp all rest l s K)
    | some (.v (.bool b)) => (match want with
     | true => (b = true → vopP P T Fs n kp o ((d, .tt) :: l) s fun l s => vopsP kp all rest l s K) ∧
       (b = false → vdst n o ((d, .ff) :: l) (fun l s => vopsP kp all rest l s K) (.v undef) s)
     | false => (b = true → vdst n o ((d, .tt) :: l) (fun l s => vopsP kp all rest l s K) (.v undef) s) ∧
       (b = false → vopP P T Fs n kp o ((d, .ff) :: l) s fun l s => vopsP kp all rest l s K))
    | some (.v (.tuple _)) => vdst n o l (fun l s => vopsP kp all rest l s K) (.v undef) s
    | _ => False
abbrev vchunksP (kp : List PanicEntry → Env → World → Prop) (all : List Oper) : List (List Oper) → Env → World → (Env → World → Prop) → Prop
 | [], l, w, K => K l w
 | [c], l, w, K => vopsP P T Fs n kp all c l w K
 | c :: cs, l, w, K => VSeq (fun K0 => vopsP P T Fs n kp all c l w K0) (fun l w => vchunksP kp all cs l w K)
abbrev vgo : Code → Env → World → KK → Prop
 | .skip, l, w, K => K.nrm l w
 | .label _, l, w, K => K.nrm l w
 | .region _ ops false, l, w, K => (match K.pan with
  | none => vchunks P T Fs n ops.toList (chunk ops.toList) l w K.nrm
  | some kp => vchunksP P T Fs n kp ops.toList (chunk ops.toList) l w K.nrm)
 | .region _ ops true, l, w, K => (match K.pan with
  | none => VDraw P n ops.toList l w K.nrm
  | some kp => VDrawP P n ops.toList l w K.nrm kp)
 | .seq a b, l, w, K => VSeq (fun K0 => vgo a l w { K with nrm := K0 }) (fun l w => vgo b l w K)
 | .cond c a b, l, w, K => (match opd l c with
  | some .tt => vgo a l w K
  | some .ff => vgo b l w K
  | some (.v (.bool t)) => (t = true → vgo a l w K) ∧ (t = false → vgo b l w K)
  | _ => False)
 | .block id b, l, w, K => vgo b l w { K with ex := fun i l w => match Nat.beq i id with
  | true => K.nrm l w
  | false => K.ex i l w }
 | .loop b, l, w, K => ∃ I : Nat → Env → World → Prop, (∃ m l0, I m l0 w ∧ Sub l0 l) ∧
   ∀ m l w, I m l w → vgo b l w { K with nrm := fun l' w' => ∃ m' l'', m' < m ∧ I m' l'' w' ∧ Sub l'' l' }
 | .exit i, l, w, K => K.ex i l w
 | .ret, l, w, K => K.ret l w
 | .scope b, l, w, K => VScope P n b l w K
 | .rangeFunc f ps a b, l, w, K => VRange P n f ps a b l w K
 | .goto i, l, w, K => K.go i l w
 | .refuse _, _, _, _ => False
abbrev vres : List ResultVar → Env → World → (List Value → Prop) → Prop
 | [], _, _, k => k []
 | .tmp t :: r, l, w, k => (match look l t with
  | some e => vres r l w fun vs => k (e.val :: vs)
  | none => False)
 | .cell t ty :: r, l, w, k => (match look l t with
  | some (.v (.pointer (some A))) => ∃ v, (loadVar ty A).run P w = .ok v w ∧ vres r l w fun vs => k (v :: vs)
  | _ => False)
def one : List Value → Value
 | [v] => v
 | vs => .tuple vs.toArray
/-- The marks are come to at the function's end, the newest first. -/
abbrev vleave : List Deferred → World → (World → Prop) → Prop
 | [], w, k => k w
 | d :: r, w, k => match d.target with
  | .collected D => w.heap[D]? = some (.deferred (some [])) ∧ vleave r (w.putObj D (.deferred none)) k
  | _ => False
def retK (rs : List ResultVar) (R : Value → World → Prop) : KK where
 nrm := fun l w => vleave (marks l) w fun w => vres P rs l w fun vs => R (one vs) w
 ret := fun l w => vleave (marks l) w fun w => vres P rs l w fun vs => R (one vs) w
 ex := fun _ _ _ => False
def entry : Nat → List Value → Env
 | _, [] => []
 | i, v :: vs => (i, .v v) :: entry (i + 1) vs
end
end V
namespace V

/-- What a way of running operations must bear. -/
structure Laws (P : Program) {σ : Type} (H : Hand σ) (M : Sem Next → σ → (EV → σ → Prop) → Prop) : Prop where
 congr : ∀ {x y : Sem Next} {s : σ} {K : EV → σ → Prop}, (∀ w, x.run P w = y.run P w) → M y s K → M x s K
 pure : ∀ {e : EV} {s : σ} {K : EV → σ → Prop}, K e s → M (Pure.pure (.value e.val)) s K
 run : ∀ {x : Sem Value} {s : σ} {K : EV → σ → Prop}, H.run x s (fun v s => K (.v v) s) → M (do Pure.pure (.value (← x))) s K
 runU : ∀ {x : Sem Unit} {s : σ} {K : EV → σ → Prop}, H.run (do x; Pure.pure undef) s (fun v s => K (.v v) s) → M (do x; Pure.pure .skip) s K
 call : ∀ {f : FuncId} {args : Array Value} {s : σ} {K : EV → σ → Prop}, Enters P f → H.call f args s (fun v s => K (.v v) s) → M (callFunc f args) s K
 yield : ∀ {i : Nat} {args : Array Value} {s : σ} {K : EV → σ → Prop}, H.yield i args s (fun v s => K (.v v) s) → M (Instr.yield i args) s K
 ext : ∀ {f : FuncId} {args : Array Value} {e : Sem Value}, H.ext f args e → extP P f args e
 pan : ∀ {v : Value} {s : σ} {K : EV → σ → Prop}, H.pan v s → M (do Pure.pure (.value (← Instr.panic v))) s K := by intro _ _ _ h; exact h.elim

section
variable {P : Program} {σ : Type} {T : Tab} {Fs : List Nat} {H : Hand σ} {M : Sem Next → σ → (EV → σ → Prop) → Prop}

theorem Laws.pureV (L : Laws P H M) {x : Sem Next} {e : EV} {s : σ} {K : EV → σ → Prop} (h : ∀ w, x.run P w = .ok (.value e.val) w) (hk : K e s) : M x s K :=
 L.congr (y := Pure.pure (.value e.val)) h (L.pure hk)
theorem Laws.ofV (L : Laws P H M) {x : Sem Value} {v : Value} {s : σ} {K : EV → σ → Prop} (h : ∀ w, x.run P w = .ok v w) (hk : K (.v v) s) : M (do Pure.pure (.value (← x))) s K :=
 L.pureV (e := .v v) (fun w => by rw [Sem.run_bind, h]; rfl) hk

theorem run_underlying {t : Nat} {d : TypeDesc} (h : P.underlying t = some d) (w : World) : (underlying t).run P w = .ok d w := by
 simp [underlying, go_sem, h]
theorem run_sizeOf {t : Nat} {i : TypeInfo} (h : P.info? t = some i) (w : World) : (sizeOf t).run P w = .ok i.size w := by
 simp [sizeOf, typeInfo, go_sem, h]

theorem wrap_fit {k : IntKind} {x : Int} (h0 : 0 ≤ x) (h1 : x < lim k) : k.wrap x = x := by
 cases k <;> simp only [lim] at h1 <;> simp only [IntKind.wrap, IntKind.bits, IntKind.signed] <;> simp <;> omega
theorem toNat_ofInt {n : Nat} {m : Nat} (h : m < 2 ^ n) : (BitVec.ofInt n (m : Int)).toNat = m := by
 simp [BitVec.toNat_ofInt]
 exact Nat.mod_eq_of_lt h
theorem lim_bits {k : IntKind} {m : Nat} (h : m < lim k) : m < 2 ^ k.bits := by
 cases k <;> simp only [lim] at h <;> simp only [IntKind.bits] <;> omega
theorem bits_fit {op : BinOp} {k : IntKind} {m n : Nat} (hm : m < lim k) (hn : n < lim k) : bitN op k m n < lim k := by
 have hlim : ∃ b, lim k = 2 ^ b := by cases k <;> first | exact ⟨63, rfl⟩ | exact ⟨31, rfl⟩ | exact ⟨15, rfl⟩ | exact ⟨7, rfl⟩ | exact ⟨8, rfl⟩ | exact ⟨16, rfl⟩ | exact ⟨32, rfl⟩ | exact ⟨64, rfl⟩
 obtain ⟨b, hb⟩ := hlim
 rw [hb] at hm hn ⊢
 cases op <;> simp only [bitN] <;> first | exact Nat.and_lt_two_pow _ hn | exact Nat.or_lt_two_pow hm hn | exact Nat.xor_lt_two_pow hm hn | exact Nat.lt_of_le_of_lt Nat.and_le_left hm
def bvOp (op : BinOp) {n : Nat} (a b : BitVec n) : BitVec n :=
 match op with
 | .and => a &&& b
 | .or => a ||| b
 | .xor => a ^^^ b
 | _ => a &&& ~~~b
theorem varith_bits (L : Laws P H M) (op : BinOp) {k : IntKind} {x y : Int} {s : σ} {K : EV → σ → Prop} {opf : Nat → Nat → Nat → Nat} (hop : ∀ m n, opf (maskK k) m n = bitN op k m n)
  (hrun : ∀ {xt : Nat} {w : World} (m n : Nat), (binOp op xt (.int k (m : Int)) (.int k (n : Int))).run P w = .ok (.int k (k.wrap ((bvOp op (BitVec.ofInt k.bits m) (BitVec.ofInt k.bits n)).toNat : Nat))) w)
  (hbv : ∀ m n : Nat, m < 2 ^ k.bits → n < 2 ^ k.bits → (bvOp op (BitVec.ofInt k.bits m) (BitVec.ofInt k.bits n)).toNat = bitN op k m n)
  (h : vbit k x y opf fun v => K (.v v) s) (xt : Nat) :
  M (do Pure.pure (.value (← binOp op xt (.int k x) (.int k y)))) s K := by
 rw [vbit, vk_eq] at h
 obtain ⟨m, n, r, ⟨rfl, rfl, hm, hn⟩, hr, hk⟩ := h
 refine L.ofV (fun w => ?_) hk
 rw [hrun, hbv m n (lim_bits hm) (lim_bits hn), wrap_fit (by omega) (by exact_mod_cast bits_fit hm hn), ← hr, hop]

/-- integers -/
theorem varith_sound (L : Laws P H M) {op : BinOp} {k : IntKind} {x y : Int} {s : σ} {K : EV → σ → Prop} (hop : op ≠ .shl ∧ op ≠ .shr)
  (h : varith op k x y (K · s)) (xt : Nat) : M (do Pure.pure (.value (← binOp op xt (.int k x) (.int k y)))) s K := by
 obtain ⟨h1, h2⟩ := hop
 cases op
 case shl => exact absurd rfl h1
 case shr => exact absurd rfl h2
 case add => exact L.ofV (fun w => by simp [binOp, Op.intArith]) (vwrap_sound (K := fun v => K (.v v) s) h)
 case sub => exact L.ofV (fun w => by simp [binOp, Op.intArith]) (vwrap_sound (K := fun v => K (.v v) s) h)
 case mul => exact L.ofV (fun w => by simp [binOp, Op.intArith]) (vwrap_sound (K := fun v => K (.v v) s) h)
 case quo =>
  simp only [varith, vk_eq] at h
  exact L.ofV (fun w => by
   have h0 := h.1.1; have h1 := h.1.2.1; have h2 := h.1.2.2
   have : IntKind.wrap k (x.tdiv y) = x / y := by
    rw [Int.tdiv_eq_ediv_of_nonneg h0]
    exact wrap_fit (Int.ediv_nonneg h0 (by omega)) (Int.lt_of_le_of_lt (Int.ediv_le_self y h0) h2)
   simp [binOp, Op.intDiv, show y ≠ 0 by omega, this]) h.2
 case rem => exact L.ofV (fun w => by
   have h0 := h.1.1; have h1 := h.1.2
   simp [binOp, Op.intDiv, show y ≠ 0 by omega, Int.tmod_eq_emod_of_nonneg h0]) h.2
 case eql => exact L.ofV (fun w => by simp [binOp, Op.intCmp]; rfl) h
 case neq => exact L.ofV (fun w => by simp [binOp, Op.intCmp, bne]; rfl) h
 case lss => exact L.ofV (fun w => by simp [binOp, Op.intCmp]) h
 case leq => exact L.ofV (fun w => by simp [binOp, Op.intCmp]) h
 case gtr => exact L.ofV (fun w => by simp [binOp, Op.intCmp]) h
 case geq => exact L.ofV (fun w => by simp [binOp, Op.intCmp]) h
 case and => exact varith_bits L .and (fun _ _ => rfl) (fun m n => by simp only [binOp, Op.intBits, ne_eq, not_true_eq_false, if_false]; rfl) (fun m n hm hn => by unfold bvOp; dsimp only; rw [BitVec.toNat_and, toNat_ofInt hm, toNat_ofInt hn]; rfl) h xt
 case or => exact varith_bits L .or (fun _ _ => rfl) (fun m n => by simp only [binOp, Op.intBits, ne_eq, not_true_eq_false, if_false]; rfl) (fun m n hm hn => by unfold bvOp; dsimp only; rw [BitVec.toNat_or, toNat_ofInt hm, toNat_ofInt hn]; rfl) h xt
 case xor => exact varith_bits L .xor (fun _ _ => rfl) (fun m n => by simp only [binOp, Op.intBits, ne_eq, not_true_eq_false, if_false]; rfl) (fun m n hm hn => by unfold bvOp; dsimp only; rw [BitVec.toNat_xor, toNat_ofInt hm, toNat_ofInt hn]; rfl) h xt
 case andNot => exact varith_bits L .andNot (fun _ _ => rfl) (fun m n => by simp only [binOp, Op.intBits, ne_eq, not_true_eq_false, if_false]; rfl) (fun m n hm hn => by unfold bvOp; dsimp only; rw [BitVec.toNat_and, BitVec.toNat_not, toNat_ofInt hm, toNat_ofInt hn]; cases k <;> rfl) h xt

theorem vshift_sound (L : Laws P H M) {op : BinOp} {k k' : IntKind} {x y : Int} {s : σ} {K : EV → σ → Prop} (h : vshift op k x y (K · s)) (xt : Nat) :
  M (do Pure.pure (.value (← binOp op xt (.int k x) (.int k' y)))) s K := by
 have hkb : kbits k = k.bits := by cases k <;> rfl
 cases op <;> try exact h.elim
 case shl =>
  simp only [vshift, vk_eq] at h
  obtain ⟨m, ⟨rfl, hm⟩, h⟩ := h
  refine L.ofV (fun w => ?_) (vwrap_sound (K := fun v => K (.v v) s) h)
  have : min (m : Int).toNat k.bits = m := by simp; omega
  simp only [binOp, Op.shift, show ¬ ((m : Int) < 0) by omega, if_false, this]
  rfl
 case shr =>
  simp only [vshift, vk_eq] at h
  obtain ⟨m, ⟨rfl, hm⟩, h⟩ := h
  refine L.ofV (fun w => ?_) h
  have hmin : min (m : Int).toNat k.bits = m := by simp; omega
  have hfd : x.fdiv (2 ^ m) = x / 2 ^ m := Int.fdiv_eq_ediv_of_nonneg _ (Int.le_of_lt (Int.pow_pos (by omega)))
  simp only [binOp, Op.shift, show ¬ ((m : Int) < 0) by omega, if_false, hmin, hfd]
  rfl

theorem toList_beq (s t : ByteArray) : (s.toList == t.toList) = decide (s = t) := by
 rw [ByteArray.toList_eq, ByteArray.toList_eq]
 by_cases h : s = t
 ·subst h; simp
 ·have : s.data.toList ≠ t.data.toList := fun e => h (by cases s; cases t; simp at e; subst e; rfl)
  rw [decide_eq_false h]; simpa using fun e => this (by rw [e])

theorem vstr_sound (L : Laws P H M) {op : BinOp} {x y : ByteArray} {s : σ} {K : EV → σ → Prop} (h : vstr op x y (K · s)) (xt : Nat) :
  M (do Pure.pure (.value (← binOp op xt (.string x) (.string y)))) s K := by
 cases op <;> try exact h.elim
 case add => exact L.ofV (fun w => by simp only [binOp]; exact run_string_add_sum (P := P) w x y h.1) h.2
 case eql => exact L.ofV (fun w => by simp only [binOp, Op.stringOp, toList_beq]; rfl) h
 case neq => exact L.ofV (fun w => by simp only [binOp, Op.stringOp, toList_beq]; simp) h
 case lss => exact L.ofV (fun w => by simp only [binOp, Op.stringOp, ByteArray.toList_eq]; rfl) h

theorem run_eqGuard_int (op : BinOp) (t : Nat) (xo yo : Operand) (k k' : IntKind) (a b : Int) (w : World) : (eqGuard op t xo yo (.int k a) (.int k' b)).run P w = .ok () w := by
 unfold eqGuard; cases op <;> simp
theorem run_eqGuard_str (op : BinOp) (t : Nat) (xo yo : Operand) (a b : ByteArray) (w : World) : (eqGuard op t xo yo (.string a) (.string b)).run P w = .ok () w := by
 unfold eqGuard; cases op <;> simp

theorem vbin_sound (L : Laws P H M) {op : BinOp} {t : Nat} {xo yo : Operand} {x y : Value} {s : σ} {K : EV → σ → Prop} (h : vbin T H op t xo yo x y s K) :
  M (do Pure.pure (.value (← (do eqGuard op t xo yo x y; binOp op t x y)))) s K := by
 unfold vbin at h
 split at h
 ·exact L.run h
 split at h
 ·rename_i k a k' b
  refine L.congr (fun w => ?_) (vshift_sound L (k' := k') h t)
  simp [run_eqGuard_int]
 ·rename_i k a k' b
  refine L.congr (fun w => ?_) (vshift_sound L (k' := k') h t)
  simp [run_eqGuard_int]
 ·rename_i op' x' y' k a k' b hn1 hn2
  split at h <;> try exact h.elim
  rename_i e _
  subst e
  refine L.congr (fun w => ?_) (varith_sound L ⟨fun e => hn1 e, fun e => hn2 e⟩ h t)
  simp [run_eqGuard_int]
 ·rename_i a b
  refine L.congr (fun w => ?_) (vstr_sound L h t)
  simp [run_eqGuard_str]
 ·exact L.run h

theorem nat_not_xor (w m : Nat) (h : m < 2 ^ w) : (2 ^ w - 1) ^^^ m = 2 ^ w - 1 - m := by
 apply Nat.eq_of_testBit_eq
 intro j
 rw [Nat.testBit_xor, Nat.testBit_two_pow_sub_one, show 2 ^ w - 1 - m = 2 ^ w - (m + 1) by omega, Nat.testBit_two_pow_sub_succ h]
 by_cases hj : j < w
 ·simp [hj]
 ·have : m.testBit j = false := Nat.testBit_lt_two_pow (Nat.lt_of_lt_of_le h (Nat.pow_le_pow_right (by omega) (by omega)))
  simp [hj, this]
theorem not_bits {k : IntKind} (hs : k.signed = false) {m : Nat} (h : m < lim k) : (BitVec.ofInt k.bits k.max ^^^ BitVec.ofInt k.bits (m : Int)).toNat = maskK k - m := by
 have hb := lim_bits h
 have e : (BitVec.ofInt k.bits k.max).toNat = 2 ^ k.bits - 1 := by cases k <;> first | (simp [IntKind.signed] at hs; done) | rfl
 have e2 : maskK k = 2 ^ k.bits - 1 := by cases k <;> first | (simp [IntKind.signed] at hs; done) | rfl
 rw [BitVec.toNat_xor, e, toNat_ofInt hb, nat_not_xor _ _ hb, e2]
theorem vun_sound (L : Laws P H M) {op : UnOp} {e : EV} {s : σ} {K : EV → σ → Prop} (h : vun H op e s K) : M (do Pure.pure (.value (← Op.unary op e.val))) s K := by
 cases op with
 | not =>
  simp only [vun] at h
  cases e with
  | tt => exact L.pureV (e := .ff) (fun w => by simp [Op.unary]) h
  | ff => exact L.pureV (e := .tt) (fun w => by simp [Op.unary]) h
  | m D => exact h.elim
  | d D => exact h.elim
  | v x =>
   cases x <;> simp only [notE] at h
   case bool b => exact L.pureV (e := .v (.bool (!b))) (fun w => by simp [Op.unary]) h
 | neg =>
  simp only [vun] at h
  cases e with
  | tt => exact h.elim
  | ff => exact h.elim
  | m D => exact h.elim
  | d D => exact h.elim
  | v x =>
   cases x <;> try exact h.elim
   case int k n => exact L.ofV (fun w => by simp [Op.unary, Op.intArith]) (vwrap_sound (K := fun v => K (.v v) s) h)
 | xor =>
  simp only [vun] at h
  cases e with
  | tt => exact L.run h
  | ff => exact L.run h
  | m D => exact L.run h
  | d D => exact L.run h
  | v x =>
   cases x <;> try exact L.run h
   case int k n =>
    dsimp only at h
    cases hs : k.signed with
    | true => rw [hs] at h; exact L.run h
    | false =>
     rw [hs] at h
     dsimp only at h
     rw [vk_eq] at h
     obtain ⟨⟨h0, h1⟩, hk⟩ := h
     obtain ⟨m, rfl⟩ : ∃ m : Nat, n = (m : Int) := ⟨n.toNat, by omega⟩
     have hm : m < lim k := by omega
     have hle : m ≤ maskK k := by cases k <;> simp [lim, maskK, IntKind.signed] at * <;> omega
     have hfit : maskK k - m < lim k := by cases k <;> simp [lim, maskK, IntKind.signed] at * <;> omega
     refine L.ofV (fun w => ?_) hk
     simp only [Op.unary, hs, Bool.false_eq_true, if_false, Op.intBits, not_bits hs hm, Sem.run_pure, Int.ofNat_sub hle]
     rw [← Int.ofNat_sub hle, wrap_fit (by omega) (by exact_mod_cast hfit)]
 | plus => exact L.run h

section
variable (hT : tabOk P T = true)
include hT
theorem tab_under {t : Nat} {kd : TK} {n : Nat} (h : tfind T t = some ⟨kd, n⟩) : kindOk P t kd = true := (tab_entry hT h).1
theorem tab_int {t : Nat} {k : IntKind} {n : Nat} (h : tfind T t = some ⟨.int k, n⟩) : P.underlying t = some (.int k) := by
 have := tab_under hT h
 simp only [kindOk] at this
 split at this
 ·rename_i k' hk; rw [hk, of_decide_eq_true this]
 ·cases this
theorem tab_str {t : Nat} {n : Nat} (h : tfind T t = some ⟨.str, n⟩) : P.underlying t = some .string := by
 have := tab_under hT h
 simp only [kindOk] at this
 split at this
 ·rename_i hk; exact hk
 ·cases this
theorem tab_slice {t e : Nat} {n : Nat} (h : tfind T t = some ⟨.slice e, n⟩) : P.underlying t = some (.slice e) := by
 have := tab_under hT h
 simp only [kindOk] at this
 split at this
 ·rename_i e' hk; rw [hk]; simp at this; rw [this]
 ·cases this
theorem tab_arr {t e len : Nat} {n : Nat} (h : tfind T t = some ⟨.arr len e, n⟩) : P.underlying t = some (.array len e) := by
 have := tab_under hT h
 simp only [kindOk] at this
 split at this
 ·rename_i n' e' hk; rw [hk]; simp at this; rw [this.1, this.2]
 ·cases this
theorem tab_struct {t : Nat} {fs : List (Nat × Nat)} {n : Nat} (h : tfind T t = some ⟨.struct fs, n⟩) : ∃ fs', P.underlying t = some (.struct fs') ∧ fs = fs'.toList.map fun f => (f.offset, f.type) := by
 have := tab_under hT h
 simp only [kindOk] at this
 split at this
 ·rename_i fs' hk; exact ⟨fs', hk, by simpa using this⟩
 ·cases this
theorem tab_size {t : Nat} {kd : TK} {n : Nat} (h : tfind T t = some ⟨kd, n⟩) (w : World) : (sizeOf t).run P w = .ok n w := by
 obtain ⟨i, hi, hs⟩ := (tab_entry hT h).2
 rw [run_sizeOf hi, hs]

theorem vconv_sound (L : Laws P H M) {a d : Nat} {e : EV} {s : σ} {K : EV → σ → Prop} (h : vconv T H a d e s K) : M (do Pure.pure (.value (← convert a d e.val))) s K := by
 unfold vconv at h
 split at h
 ·rename_i k1 n1 k n2 k' m ha hd
  have hk : K (.v (.int k (k.wrap m))) s := by
   split at h
   ·rw [vk_eq] at h; rw [wrap_fit h.1.1 h.1.2]; exact h.2
   ·exact vwrap_sound (K := fun v => K (.v v) s) h
  refine L.ofV (fun w => ?_) hk
  simp only [convert, Sem.run_bind, run_underlying (tab_int hT ha), run_underlying (tab_int hT hd), Result.andThen]
  rfl
 ·rename_i n1 n2 x ha hd
  refine L.ofV (fun w => ?_) h
  simp only [convert, Sem.run_bind, run_underlying (tab_str hT ha), run_underlying (tab_str hT hd), Result.andThen]
  rfl
 ·exact L.run h

omit hT in
theorem add_none {b off n : Nat} : (⟨b, off, none⟩ : Addr).add n = ⟨b, off + n, none⟩ := by
 unfold Addr.add; split
 ·rename_i h; subst h; rfl
 ·rfl
omit hT in
theorem addM_eq (off m sz : Nat) : addM off m sz = off + m * sz := by
 unfold addM; split <;> simp [Nat.add_comm]

theorem vfield_sound (L : Laws P H M) {t : Nat} {e : EV} {f : Nat} {s : σ} {K : EV → σ → Prop} (h : vfield T t e f (fun e => K e s)) : M (do Pure.pure (.value (← Instr.fieldAt t e.val f))) s K := by
 unfold vfield at h
 split at h <;> try exact h.elim
 rename_i b off
 split at h <;> try exact h.elim
 rename_i fs n ht
 split at h <;> try exact h.elim
 rename_i o ft hf
 split at h <;> try exact h.elim
 rename_i kd sz hft
 refine L.ofV (fun w => ?_) h
 obtain ⟨fs', hu, hfs⟩ := tab_struct hT ht
 have hf' : ∃ g, fs'[f]? = some g ∧ g.offset = o ∧ g.type = ft := by
  rw [hfs, List.getElem?_map] at hf
  simp at hf
  obtain ⟨g, hg, h1, h2⟩ := hf
  exact ⟨g, hg, h1, h2⟩
 obtain ⟨g, hg, rfl, rfl⟩ := hf'
 simp only [Instr.fieldAt, Sem.run_bind, run_underlying hu, Result.andThen, hg, Instr.sureAddr, fieldPlace, tab_size hT hft, Sem.run_pure]
 simp [add_none]

theorem vindexAddr_sound (L : Laws P H M) {t : Nat} {e i : EV} {s : σ} {K : EV → σ → Prop} (h : vindexAddr T t e i (fun e => K e s)) : M (do Pure.pure (.value (← Instr.indexAt t e.val i.val))) s K := by
 unfold vindexAddr at h
 split at h <;> try exact h.elim
 rename_i k idx
 split at h
 ·rename_i len el n ht
  split at h <;> try exact h.elim
  rename_i b off
  split at h <;> try exact h.elim
  rename_i kd sz he
  obtain ⟨m, ⟨rfl, hm⟩, hk⟩ := h
  refine L.ofV (fun w => ?_) hk
  have hb : (0 : Int) ≤ (m : Int) ∧ (m : Int) < (len : Int) := by omega
  simp only [Instr.indexAt, Sem.run_bind, asIntOf, Sem.run_pure, run_underlying (tab_arr hT ht), Result.andThen, Instr.sureAddr, if_pos hb, tab_size hT he, add_none, addM_eq]
  simp
 ·rename_i el n ht
  split at h <;> try exact h.elim
  rename_i b off len cap
  split at h <;> try exact h.elim
  rename_i kd sz he
  obtain ⟨m, ⟨rfl, hm⟩, hk⟩ := h
  refine L.ofV (fun w => ?_) hk
  have hb : (0 : Int) ≤ (m : Int) ∧ (m : Int) < (len : Int) := by omega
  simp only [Instr.indexAt, Sem.run_bind, asIntOf, Sem.run_pure, run_underlying (tab_slice hT ht), Result.andThen, if_pos hb, tab_size hT he, add_none, addM_eq]
  simp
 ·exact h.elim

omit hT in
theorem byt_get (x : ByteArray) (m : Nat) (h : m < x.size) : (x[m]).toNat = byt x m := by
 unfold byt
 have : m < x.data.toList.length := by simpa using h
 rw [List.getD_eq_getElem?_getD, List.getElem?_eq_getElem this]; rfl

theorem vindex_sound (L : Laws P H M) {t : Nat} {e i : EV} {s : σ} {K : EV → σ → Prop} (h : vindex T H t e i s K) : M (do Pure.pure (.value (← Instr.index t e.val i.val))) s K := by
 unfold vindex at h
 split at h <;> try exact h.elim
 rename_i k idx
 split at h
 ·rename_i x
  split at h <;> try exact h.elim
  rename_i n ht
  obtain ⟨m, ⟨rfl, hm⟩, hk⟩ := h
  refine L.ofV (fun w => ?_) hk
  simp only [Instr.index, Sem.run_bind, asIntOf, Sem.run_pure, run_underlying (tab_str hT ht), Result.andThen]
  have : (if 0 ≤ (m : Int) then x[(m : Int).toNat]? else none) = some x[m] := by
   rw [if_pos (by omega)]; simp [ByteArray.getElem?_lt' x m hm]
  rw [this]
  simp [byt_get x m hm]
 ·exact L.run h

omit hT in
theorem run_bound {k : IntKind} {m n : Nat} {c : BoundsCode} (h : m ≤ n) (w : World) : (Instr.sliceBound (.int k (m : Int)) n c).run P w = .ok m w := by
 have hb : (0 : Int) ≤ (m : Int) ∧ (m : Int) ≤ (n : Int) := by omega
 simp only [Instr.sliceBound, asIntOf, Sem.run_bind, Sem.run_pure, Result.andThen, if_pos hb]
 simp

theorem vslice_sound (L : Laws P H M) {t : Nat} {e : EV} {lo hi mx : Option Value} {s : σ} {K : EV → σ → Prop} (h : vslice T H t e lo hi mx s K) : M (do Pure.pure (.value (← Instr.sliceAt t e.val lo hi mx))) s K := by
 unfold vslice at h
 split at h
 ·rename_i x
  split at h <;> try exact h.elim
  rename_i n ht
  refine L.ofV (fun w => ?_) h
  simp only [Instr.sliceAt, Instr.slice, Instr.sliceBounds, Sem.run_bind, Sem.run_pure, run_underlying (tab_str hT ht), Result.andThen]
  simp
 ·rename_i x k a
  split at h <;> try exact h.elim
  rename_i n ht
  obtain ⟨m, ⟨rfl, hm⟩, h⟩ := h
  refine L.ofV (fun w => ?_) h
  simp only [Instr.sliceAt, Instr.slice, Instr.sliceBounds, Sem.run_bind, Sem.run_pure, run_underlying (tab_str hT ht), Result.andThen]
  simp
  rw [run_bound (P := P) hm]
  rfl
 ·rename_i x k b
  split at h <;> try exact h.elim
  rename_i n ht
  obtain ⟨m, ⟨rfl, hm⟩, h⟩ := h
  refine L.ofV (fun w => ?_) h
  simp only [Instr.sliceAt, Instr.slice, Instr.sliceBounds, Sem.run_bind, Sem.run_pure, run_underlying (tab_str hT ht), Result.andThen]
  simp
  rw [run_bound (P := P) hm]
  rfl
 ·rename_i x k a k2 b
  split at h <;> try exact h.elim
  rename_i n ht
  obtain ⟨m, n, ⟨rfl, rfl, hm, hn⟩, h⟩ := h
  refine L.ofV (fun w => ?_) h
  simp only [Instr.sliceAt, Instr.slice, Instr.sliceBounds, Sem.run_bind, Sem.run_pure, run_underlying (tab_str hT ht), Result.andThen]
  simp
  rw [run_bound (P := P) hn]
  simp only [Result.andThen]
  rw [run_bound (P := P) hm]
 ·exact L.run h

omit hT in
theorem tab_at {argTypes : Array TypeId} {kd : TK} {n : Nat} (h : (argTypes[0]?).map (tfind T) = some (some ⟨kd, n⟩)) : ∃ t, argTypes[0]? = some t ∧ tfind T t = some ⟨kd, n⟩ := by
 cases ha : argTypes[0]? with
 | none => simp [ha] at h
 | some t => exact ⟨t, rfl, by simpa [ha] using h⟩

omit hT in
theorem min2_int (k k' : IntKind) (x y : Int) (w : World) : (Builtin.min2 (.int k x) (.int k' y)).run P w = .ok (.int k (min x y)) w := by
 simp only [Builtin.min2, Sem.run_pure]
 refine congrArg (fun z => Result.ok (Value.int k z) w) ?_
 split <;> omega
omit hT in
theorem max2_int (k k' : IntKind) (x y : Int) (w : World) : (Builtin.max2 (.int k x) (.int k' y)).run P w = .ok (.int k (max x y)) w := by
 simp only [Builtin.max2, Sem.run_pure]
 refine congrArg (fun z => Result.ok (Value.int k z) w) ?_
 split <;> omega

theorem vbuiltin_sound (L : Laws P H M) {b : Builtin} {argTypes : Array TypeId} {ty : TypeId} {cs : Array Bool} {args : List Value} {s : σ} {K : EV → σ → Prop} (h : vbuiltin T H b argTypes ty args s K) :
  M (builtin b argTypes ty cs args.toArray) s K := by
 unfold vbuiltin at h
 split at h
 ·rename_i x
  split at h <;> try exact h.elim
  rename_i n ht
  obtain ⟨t, h0, ht⟩ := tab_at ht
  refine L.ofV (x := Builtin.len_ argTypes ty #[.string x]) (fun w => ?_) h
  simp [Builtin.len_, h0, run_underlying (tab_str hT ht), Result.andThen, goInt]
 ·rename_i a m c
  split at h <;> try exact h.elim
  rename_i e n ht
  obtain ⟨t, h0, ht⟩ := tab_at ht
  refine L.ofV (x := Builtin.len_ argTypes ty #[.slice a m c]) (fun w => ?_) h
  simp [Builtin.len_, h0, run_underlying (tab_slice hT ht), Result.andThen, goInt]
 ·exact L.run h
 ·rename_i k x k' y
  exact L.ofV (x := Builtin.min_ argTypes ty #[.int k x, .int k' y]) (fun w => by simp [Builtin.min_, min2_int, Result.andThen]) h
 ·rename_i k x k' y k2 z
  exact L.ofV (x := Builtin.min_ argTypes ty #[.int k x, .int k' y, .int k2 z]) (fun w => by simp [Builtin.min_, min2_int, Result.andThen]) h
 ·exact L.run h
 ·rename_i k x k' y
  exact L.ofV (x := Builtin.max_ argTypes ty #[.int k x, .int k' y]) (fun w => by simp [Builtin.max_, max2_int, Result.andThen]) h
 ·exact L.run h
 ·exact L.run h
 ·exact L.run h
 ·exact L.run h
 ·exact L.run h
 ·exact L.run h
 ·exact L.run h
 ·exact h.elim

variable (hF : ∀ f, memB f Fs = true → Enters P f)
include hF

omit hT in
theorem vcallf_sound (L : Laws P H M) {f : Nat} {args : List Value} {s : σ} {K : EV → σ → Prop} (h : vcallf Fs H f args s K) : M (callFunc f args.toArray) s K := by
 unfold vcallf at h
 split at h
 ·rename_i hm; exact L.call (hF f hm) h
 ·obtain ⟨e, he, h⟩ := h; exact L.congr (L.ext he) (L.run h)

theorem vcall_sound (L : Laws P H M) {n : Nat} {l : Env} {a : Act} (ha : At n l a) {c : Call} {ty : TypeId} {s : σ} {K : EV → σ → Prop} (h : vcall T Fs H l c ty s K) :
  M (do let d ← resolve a.eval c ty; invoke d.target d.args) s K := by
 unfold vcall at h
 split at h
 ·exact h.elim
 ·rename_i args hargs
  have hmap : c.args.map a.eval = args.toArray := by
   rw [← opds_eval ha hargs]; exact Array.ext' (by rw [Array.toList_map])
  split at h
  ·rename_i b hc
   refine L.congr (fun w => ?_) (vbuiltin_sound hT L (cs := c.args.map fun | .const _ => true | _ => false) h)
   simp only [resolve, hc, Sem.run_bind, Sem.run_pure, Result.andThen, invoke, hmap]
   rfl
  ·rename_i f hc
   split at h
   ·rename_i g first captured hf
    have he := opd_eval ha hf
    refine L.congr (fun w => ?_) (vcallf_sound hF L h)
    simp only [resolve, hc, he, Deferred.ofValue, Sem.run_bind, Sem.run_pure, Result.andThen, invoke, hmap]
    refine congrArg (fun z => (callFunc g z).run P w) ?_
    apply Array.ext'
    simp
   ·rename_i i first captured hf
    have he := opd_eval ha hf
    refine L.congr (fun w => ?_) (L.yield h)
    simp only [resolve, hc, he, Deferred.ofValue, Sem.run_bind, Sem.run_pure, Result.andThen, invoke, hmap]
    refine congrArg (fun z => (Instr.yield i z).run P w) ?_
    apply Array.ext'
    simp
   ·exact h.elim
  ·exact h.elim

omit hT hF in
theorem partsOf_eval {n : Nat} {l : Env} {a : Act} (ha : At n l a) : ∀ {xs : List (Nat × Operand)} {vs : List (Nat × Value)}, partsOf l xs = some vs → xs.map (fun (i, x) => (i, a.eval x)) = vs
 | [], vs, he => by simp only [partsOf, Option.some.injEq] at he; subst he; rfl
 | (i, x) :: r, vs, he => by
  simp only [partsOf] at he
  cases hx : opd l x with
  | none => simp [hx] at he
  | some e =>
   cases hr : partsOf l r with
   | none => simp [hx, hr] at he
   | some ws =>
    simp only [hx, hr, Option.some.injEq] at he
    subst he
    simp [opd_eval ha hx, partsOf_eval ha hr]
omit hT hF in
theorem oopd_eval {n : Nat} {l : Env} {a : Act} (ha : At n l a) {x : Option Operand} {v : Option Value} (h : oopd l x = some v) : x.map a.eval = v := by
 cases x with
 | none => simp only [oopd, Option.some.injEq] at h; subst h; rfl
 | some x =>
  simp only [oopd] at h
  cases hx : opd l x with
  | none => simp [hx] at h
  | some e => simp only [hx, Option.some.injEq] at h; subst h; simp [opd_eval ha hx]

theorem vop_sound (L : Laws P H M) {n : Nat} {l : Env} {a : Act} (ha : At n l a) {o : Oper} {s : σ} {K : EV → σ → Prop} (h : vop T Fs H l o.op o.type s K) :
  M (execOp a.eval o) s K := by
 unfold vop at h
 split at h
 case h_1 | h_2 =>
  rename_i x hop
  split at h <;> try exact h.elim
  rename_i e he
  exact L.pureV (fun w => by simp [execOp, hop, opd_eval ha he]) h
 case h_3 =>
  rename_i c x y hop
  split at h
  ·rename_i hc
   split at h <;> try exact h.elim
   rename_i e he
   exact L.pureV (fun w => by simp [execOp, hop, opd_eval ha hc, opd_eval ha he, asBool]) h
  ·rename_i hc
   split at h <;> try exact h.elim
   rename_i e he
   exact L.pureV (fun w => by simp [execOp, hop, opd_eval ha hc, opd_eval ha he, asBool]) h
  ·rename_i t hc
   split at h <;> try exact h.elim
   rename_i ea eb hea heb
   cases t with
   | true => exact L.pureV (fun w => by simp [execOp, hop, opd_eval ha hc, opd_eval ha hea, asBool]) (h.1 rfl)
   | false => exact L.pureV (fun w => by simp [execOp, hop, opd_eval ha hc, opd_eval ha heb, asBool]) (h.2 rfl)
  ·exact h.elim
 case h_4 =>
  rename_i x i hop
  split at h <;> try exact h.elim
  rename_i vs hx
  split at h <;> try exact h.elim
  rename_i v hv
  have hv' : vs[i]? = some v := by simpa using hv
  exact L.pureV (e := .v v) (fun w => by simp [execOp, hop, opd_eval ha hx, Instr.extract, hv']) h
 case h_5 =>
  rename_i op t x y u hop
  split at h <;> try exact h.elim
  rename_i ex ey hx hy
  refine L.congr (fun w => ?_) (vbin_sound L h)
  simp only [execOp, hop, opd_eval ha hx, opd_eval ha hy]
 case h_6 =>
  rename_i op t x hop
  split at h <;> try exact h.elim
  rename_i e he
  refine L.congr (fun w => ?_) (vun_sound L h)
  simp only [execOp, hop, opd_eval ha he]
 case h_7 =>
  rename_i c d x hop
  split at h <;> try exact h.elim
  rename_i e he
  refine L.congr (fun w => ?_) (vconv_sound hT L h)
  simp only [execOp, hop, opd_eval ha he]
 case h_8 =>
  rename_i x hop
  split at h <;> try exact h.elim
  ·rename_i b he
   exact L.pureV (e := .v (.pointer (some b))) (fun w => by simp [execOp, hop, opd_eval ha he]) h
  ·rename_i f b c he
   exact L.pureV (e := .v (.func (.func f) b c)) (fun w => by simp [execOp, hop, opd_eval ha he]) h
 case h_9 =>
  rename_i fn first cap hop
  split at h <;> try exact h.elim
  rename_i b c hb hc
  have e1 : first.map a.eval = b.toArray := by rw [← opds_eval ha hb]; exact Array.ext' (by rw [Array.toList_map])
  have e2 : cap.map a.eval = c.toArray := by rw [← opds_eval ha hc]; exact Array.ext' (by rw [Array.toList_map])
  refine L.pureV (e := .v (.func fn b.toArray c.toArray)) (fun w => ?_) h
  simp only [execOp, hop, Instr.makeFunc, e1, e2]
  rfl
 case h_10 =>
  rename_i t x f hop
  split at h <;> try exact h.elim
  rename_i e he
  refine L.congr (fun w => ?_) (vfield_sound hT L h)
  simp only [execOp, hop, opd_eval ha he]
 case h_12 =>
  rename_i t x i hop
  split at h <;> try exact h.elim
  rename_i e ei he hi
  refine L.congr (fun w => ?_) (vindexAddr_sound hT L h)
  simp only [execOp, hop, opd_eval ha he, opd_eval ha hi]
 case h_13 =>
  rename_i t x i hop
  split at h <;> try exact h.elim
  rename_i e ei he hi
  refine L.congr (fun w => ?_) (vindex_sound hT L h)
  simp only [execOp, hop, opd_eval ha he, opd_eval ha hi]
 case h_14 =>
  rename_i t x lo hi mx hop
  split at h <;> try exact h.elim
  rename_i e lo' hi' mx' he h1 h2 h3
  refine L.congr (fun w => ?_) (vslice_sound hT L h)
  simp only [execOp, hop, opd_eval ha he, oopd_eval ha h1, oopd_eval ha h2, oopd_eval ha h3]
 case h_16 =>
  rename_i t x y hop
  split at h <;> try exact h.elim
  rename_i e ey he hy
  refine L.congr (fun w => ?_) (L.runU h)
  simp only [execOp, hop, opd_eval ha he, opd_eval ha hy]
 case h_17 =>
  rename_i t hop
  refine L.congr (fun w => ?_) (L.run h)
  simp only [execOp, hop]
 case h_19 | h_20 =>
  rename_i hop
  split at h <;> try exact h.elim
  rename_i vs hv
  refine L.congr (fun w => ?_) (L.run h)
  have hp := partsOf_eval ha hv
  simp only [execOp, hop, ← hp]
  refine congrArg (fun z => Sem.run P z w) ?_
  simp only [← hp, ← Array.toList_map, Array.toArray_toList]
 case h_24 =>
  rename_i t x i ok hop
  split at h <;> try exact h.elim
  rename_i e ei he hi
  refine L.congr (fun w => ?_) (L.run h)
  simp only [execOp, hop, opd_eval ha he, opd_eval ha hi]
 case h_25 | h_26 =>
  rename_i hop
  split at h <;> try exact h.elim
  rename_i em ek ex hm hk hx
  refine L.congr (fun w => ?_) (L.runU h)
  simp only [execOp, hop, opd_eval ha hm, opd_eval ha hk, opd_eval ha hx]
 case h_27 =>
  rename_i c hop
  refine L.congr (fun w => ?_) (vcall_sound hT hF L ha h)
  simp only [execOp, hop]
 case h_30 =>
  rename_i x hop
  split at h <;> try exact h.elim
  rename_i e he
  refine L.congr (fun w => ?_) (L.pan h)
  simp only [execOp, hop, opd_eval ha he]
 case h_31 => exact h.elim
 case h_21 =>
  rename_i t x y hop
  split at h <;> try exact h.elim
  rename_i e ey he hy
  refine L.congr (fun w => ?_) (L.run h)
  simp only [execOp, hop, opd_eval ha he, opd_eval ha hy]
 case h_23 =>
  rename_i t r hop
  split at h <;> try exact h.elim
  rename_i r' hr
  refine L.congr (fun w => ?_) (L.run h)
  simp only [execOp, hop, oopd_eval ha hr]
 all_goals
  rename_i hop
  split at h <;> try exact h.elim
  rename_i e he
  refine L.congr (fun w => ?_) (L.run h)
  simp only [execOp, hop, opd_eval ha he]

end
end

/-! ### lists of operations -/
theorem yielded_of {n : Nat} {l : Env} {a : Act} (ha : At n l a) {all : List Oper} {j d : Nat} {e : EV} (hj : gslot all j = some d) (he : look l d = some e) :
  yielded all.toArray a.tmps j = match e.val with | .bool b => some b | _ => none := by
 have h := ha.holds d e he
 have hd : ((all.toArray[j]?).bind (·.dst)) = some d := by simpa [gslot] using hj
 unfold yielded
 rw [hd, Option.bind_some]
 cases ht : a.tmps[d]? with
 | none =>
  have : e.val = undef := by rw [← h]; simp [Array.getD_eq_getD_getElem?, ht]
  rw [this]; rfl
 | some x =>
  have : e.val = x := by rw [← h]; simp [Array.getD_eq_getD_getElem?, ht]
  rw [this]
  cases x <;> rfl

theorem callsIn_R {r : Option Nat} {m : Nat} {P : Program} {f : FuncId} {args : Array Value} {w : World} {R : Ending → World → Prop} (h : Calls P f args w R) : CallsIn (wideR r) m P f args w R :=
 (callsIn_wide (n := m)).2 h
theorem roundIn_R {r : Option Nat} {k m : Nat} {P : Program} {l : Nat} {f : FuncId} {tmps : Array Value} {assign body : Code} {w : World} {R : Ending → World → Prop} (h : RoundIn Fence.wide k P l f tmps assign body w R) : RoundIn (wideR r) m P l f tmps assign body w R :=
 ⟨trivial, fun c cs _ => h.2 c cs (room_wide _)⟩
def Mn (P : Program) (r : Option Nat) (m : Nat) (x : Sem Next) (w : World) (K : EV → World → Prop) : Prop :=
 ∀ (o : Oper) (a : Act) (next : Act → World → Prop) (Q : Exit → Act → World → Prop), (∀ e w', K e w' → next (a.put o.dst e.val) w') → o.uponIn (wideR r) m P a next Q (x.run P w)
theorem nrm_laws (P : Program) (r : Option Nat) (m : Nat) : Laws P (nrmH P) (Mn P r m) where
 congr := fun h hm o a next Q hk => by rw [h]; exact hm o a next Q hk
 pure := fun hk o a next Q hn => by simp only [Sem.run_pure, Oper.uponIn_value]; exact hn _ _ hk
 run := fun {x s K} h o a next Q hn => by
  obtain ⟨v, w', hr, hk⟩ := h
  simp only [Sem.run_bind, hr, Result.andThen, Sem.run_pure, Oper.uponIn_value]
  exact hn _ _ hk
 runU := fun {x s K} h o a next Q hn => by
  obtain ⟨v, w', hr, hk⟩ := h
  rw [Sem.run_bind] at hr ⊢
  cases hx : x.run P s with
  | ok u w2 =>
   rw [hx] at hr
   simp only [Result.andThen, Sem.run_pure, Result.ok.injEq] at hr
   obtain ⟨rfl, rfl⟩ := hr
   simp only [Result.andThen, Sem.run_pure, Oper.uponIn_skip]
   exact hn _ _ hk
  | halt h w2 => rw [hx] at hr; simp [Result.andThen] at hr
 call := fun {f args s K} he h o a next Q hn => by
  rw [he, Oper.uponIn_enter]
  refine ⟨by simp [wideR], callsIn_R (Calls.mono h ?_)⟩
  rintro e w' ⟨v, rfl, hk⟩
  exact hn _ _ hk
 yield := fun {i args s K} h o a next Q hn => by
  obtain ⟨fn, tmps, assign, body, hr, hR⟩ := h
  rw [hr, Oper.uponIn_round]
  refine ⟨by simp [wideR], roundIn_R (hR.mono ?_)⟩
  rintro e w' ⟨v, rfl, hk⟩
  exact hn _ _ hk
 ext := fun h => h

def MnX (P : Program) (r : Option Nat) (m : Nat) (kp : List PanicEntry → World → Prop) (x : Sem Next) (w : World) (K : EV → World → Prop) : Prop :=
 ∀ (o : Oper) (a : Act) (next : Act → World → Prop) (Q : Exit → Act → World → Prop), (∀ e w', K e w' → next (a.put o.dst e.val) w') → (∀ c w', kp c w' → Q (.panic c) a w') → o.uponIn (wideR r) m P a next Q (x.run P w)
theorem nrm_lawsX (P : Program) (r : Option Nat) (m : Nat) (kp : List PanicEntry → World → Prop) : Laws P (nrmHX P kp) (MnX P r m kp) where
 congr := fun h hm o a next Q hk hp => by rw [h]; exact hm o a next Q hk hp
 pure := fun hk o a next Q hn _ => by simp only [Sem.run_pure, Oper.uponIn_value]; exact hn _ _ hk
 run := fun {x s K} h o a next Q hn _ => by
  obtain ⟨v, w', hr, hk⟩ := h
  simp only [Sem.run_bind, hr, Result.andThen, Sem.run_pure, Oper.uponIn_value]
  exact hn _ _ hk
 runU := fun {x s K} h o a next Q hn _ => by
  obtain ⟨v, w', hr, hk⟩ := h
  rw [Sem.run_bind] at hr ⊢
  cases hx : x.run P s with
  | ok u w2 =>
   rw [hx] at hr
   simp only [Result.andThen, Sem.run_pure, Result.ok.injEq] at hr
   obtain ⟨rfl, rfl⟩ := hr
   simp only [Result.andThen, Sem.run_pure, Oper.uponIn_skip]
   exact hn _ _ hk
  | halt h w2 => rw [hx] at hr; simp [Result.andThen] at hr
 call := fun {f args s K} he h o a next Q hn hp => by
  rw [he, Oper.uponIn_enter]
  refine ⟨by simp [wideR], callsIn_R (Calls.mono h ?_)⟩
  rintro e w' (⟨v, rfl, hk⟩ | ⟨c, rfl, hk⟩)
  ·exact hn _ _ hk
  ·exact hp _ _ hk
 yield := fun {i args s K} h o a next Q hn hp => by
  obtain ⟨fn, tmps, assign, body, hr, hR⟩ := h
  rw [hr, Oper.uponIn_round]
  refine ⟨by simp [wideR], roundIn_R (hR.mono ?_)⟩
  rintro e w' ⟨v, rfl, hk⟩
  exact hn _ _ hk
 ext := fun h => h
 pan := fun {v s K} h o a next Q hn hp => by
  obtain ⟨⟨t, x, rfl⟩, h⟩ := h
  exact hp _ _ h

def Mn0 (P : Program) (x : Sem Next) (w : World) (K : EV → World → Prop) : Prop :=
 ∀ (o : Oper) (a : Act) (next : Act → World → Prop) (Q : Exit → Act → World → Prop), (∀ e w', K e w' → next (a.put o.dst e.val) w') → o.upon P a next Q (x.run P w)
theorem nrm_laws0 (P : Program) : Laws P (nrmH0 P) (Mn0 P) where
 congr := fun h hm o a next Q hk => by rw [h]; exact hm o a next Q hk
 pure := fun hk o a next Q hn => by simp only [Sem.run_pure, Oper.upon_value]; exact hn _ _ hk
 run := fun {x s K} h o a next Q hn => by
  obtain ⟨v, w', hr, hk⟩ := h
  simp only [Sem.run_bind, hr, Result.andThen, Sem.run_pure, Oper.upon_value]
  exact hn _ _ hk
 runU := fun {x s K} h o a next Q hn => by
  obtain ⟨v, w', hr, hk⟩ := h
  rw [Sem.run_bind] at hr ⊢
  cases hx : x.run P s with
  | ok u w2 =>
   rw [hx] at hr
   simp only [Result.andThen, Sem.run_pure, Result.ok.injEq] at hr
   obtain ⟨rfl, rfl⟩ := hr
   simp only [Result.andThen, Sem.run_pure, Oper.upon_skip]
   exact hn _ _ hk
  | halt h w2 => rw [hx] at hr; simp [Result.andThen] at hr
 call := fun {f args s K} he h o a next Q hn => by
  rw [he, Oper.upon_enter]
  refine Calls.mono h ?_
  rintro e w' ⟨v, rfl, hk⟩
  exact hn _ _ hk
 yield := fun h => h.elim
 ext := fun h => h

def Mq (P : Program) (C : World → Prop) (x : Sem Next) (_ : Unit) (K : EV → Unit → Prop) : Prop :=
 ∃ e, (∀ w, C w → Oper.quietUpon P C w e.val (x.run P w)) ∧ K e ()
theorem qui_laws (P : Program) (C : World → Prop) : Laws P (qui P C) (Mq P C) where
 congr := fun h ⟨e, hw, hk⟩ => ⟨e, fun w hc => by rw [h]; exact hw w hc, hk⟩
 pure := fun {e s K} hk => ⟨e, fun w _ => ⟨rfl, rfl⟩, hk⟩
 run := fun {x s K} h => by
  obtain ⟨v, hr, hk⟩ := h
  refine ⟨.v v, fun w hc => ?_, hk⟩
  rw [Sem.run_bind, hr w hc]
  exact ⟨rfl, rfl⟩
 runU := fun {x s K} h => by
  obtain ⟨v, hr, hk⟩ := h
  refine ⟨.v v, fun w hc => ?_, hk⟩
  have hr := hr w hc
  rw [Sem.run_bind] at hr ⊢
  cases hx : x.run P w with
  | ok u w2 =>
   rw [hx] at hr
   simp only [Result.andThen, Sem.run_pure, Result.ok.injEq] at hr
   obtain ⟨rfl, rfl⟩ := hr
   exact ⟨rfl, rfl⟩
  | halt h w2 => rw [hx] at hr; simp [Result.andThen] at hr
 call := fun {f args s K} he h => by
  obtain ⟨v, hr, hk⟩ := h
  refine ⟨.v v, fun w hc => ?_, hk⟩
  rw [he]
  exact ⟨rfl, hr w hc⟩
 yield := fun h => h.elim
 ext := fun h => h

section
variable {P : Program} {T : Tab} {Fs : List Nat} (hT : tabOk P T = true) (hF : ∀ f, memB f Fs = true → Enters P f)
include hT hF

theorem vops_soundT {n : Nat} (r : Option Nat) (m : Nat) {all tl : List Oper} {Q : Exit → Act → World → Prop} {K : Env → World → Prop} (hK : ∀ l a w, At n l a → K l w → wpListIn (wideR r) m P all.toArray Q tl a w) :
  ∀ {ops : List Oper} {l : Env} {a : Act} {w : World}, At n l a → vops T Fs (nrmH P) n all ops l w K → wpListIn (wideR r) m P all.toArray Q (ops ++ tl) a w
 | [], l, a, w, ha, h => hK l a w ha h
 | o :: rest, l, a, w, ha, h => by
  have put : ∀ {l : Env} {e : EV} {w' : World}, At n l a → vdst n o l (fun l s => vops T Fs (nrmH P) n all rest l s K) e w' → wpListIn (wideR r) m P all.toArray Q (rest ++ tl) (a.put o.dst e.val) w' := by
   intro l e w' ha h
   unfold vdst at h
   split at h
   ·rename_i d hd
    split at h
    ·rename_i hb
     split at h
     ·rename_i hm
      rw [hd]
      exact vops_soundT r m hK (ha.put hb e hm) h
     ·exact h.elim
    ·exact h.elim
   ·rename_i hd
    rw [hd]
    exact vops_soundT r m hK ha h
  have run : ∀ {l : Env}, At n l a → Region.wanted o (yielded all.toArray a.tmps) = true → vop T Fs (nrmH P) l o.op o.type w (vdst n o l (fun l s => vops T Fs (nrmH P) n all rest l s K)) → wpListIn (wideR r) m P all.toArray Q (o :: (rest ++ tl)) a w := by
   intro l ha hw h
   unfold wpListIn
   rw [if_pos hw]
   refine ⟨fun _ _ => trivial, ?_⟩
   rw [Oper.semAt_plain (wideR r) _ o (fun c e => by rw [e] at h; exact h.elim)]
   exact vop_sound hT hF (nrm_laws P r m) ha h o a _ Q (fun e w' hk => put ha hk)
  have skip : ∀ {l : Env}, At n l a → Region.wanted o (yielded all.toArray a.tmps) = false → vdst n o l (fun l s => vops T Fs (nrmH P) n all rest l s K) (.v undef) w → wpListIn (wideR r) m P all.toArray Q (o :: (rest ++ tl)) a w := by
   intro l ha hw h
   unfold wpListIn
   rw [if_neg (by rw [hw]; exact Bool.false_ne_true)]
   exact ⟨fun _ _ => trivial, put ha h⟩
  simp only [vops] at h
  split at h
  ·rename_i hg
   exact run ha (by simp [Region.wanted, hg]) h
  ·rename_i j want hg
   split at h <;> try exact h.elim
   rename_i d hj
   have lit : ∀ {b : Bool}, look l d = some (.v (.bool b)) → ∀ e : EV, e.isM = false → e.val = .bool b → At n ((d, e) :: l) a := fun {b} hl e hm he =>
    ⟨by rw [marks_cons hm]; exact ha.defers, ha.size, fun t x hx => by
     simp only [look] at hx
     by_cases hd : d = t
     ·subst hd; simp at hx; subst hx; rw [ha.holds d _ hl, he]
     ·rw [beqF hd] at hx; exact ha.holds t x hx⟩
   split at h
   ·rename_i hl
    have hy := yielded_of ha hj hl
    cases want with
    | true => exact run ha (by simp [Region.wanted, hg, hy]) h
    | false => exact skip ha (by simp [Region.wanted, hg, hy]) h
   ·rename_i hl
    have hy := yielded_of ha hj hl
    cases want with
    | true => exact skip ha (by simp [Region.wanted, hg, hy]) h
    | false => exact run ha (by simp [Region.wanted, hg, hy]) h
   ·rename_i b hl
    have hy := yielded_of ha hj hl
    cases want with
    | true =>
     cases b with
     | true => exact run (lit hl .tt rfl rfl) (by simp [Region.wanted, hg, hy]) (h.1 rfl)
     | false => exact skip (lit hl .ff rfl rfl) (by simp [Region.wanted, hg, hy]) (h.2 rfl)
    | false =>
     cases b with
     | true => exact skip (lit hl .tt rfl rfl) (by simp [Region.wanted, hg, hy]) (h.1 rfl)
     | false => exact run (lit hl .ff rfl rfl) (by simp [Region.wanted, hg, hy]) (h.2 rfl)
   ·rename_i vs hl
    have hy := yielded_of ha hj hl
    exact skip ha (by simp [Region.wanted, hg, hy]) h
   ·exact h.elim

omit hT hF in
theorem chunk_flat : ∀ ops : List Oper, (chunk ops).flatten = ops
 | [] => rfl
 | o :: r => by
  have ih := chunk_flat r
  unfold chunk
  split
  ·rename_i h; rw [h] at ih; simp at ih; subst ih; rfl
  ·rename_i cs h; rw [h] at ih; simp at ih ⊢; exact ih
  ·rename_i o2 c cs h
   rw [h] at ih
   simp only [List.flatten_cons] at ih
   split
   ·simp only [List.flatten_cons, List.cons_append, List.nil_append]; rw [← ih]; rfl
   ·simp only [List.flatten_cons, List.cons_append]; rw [← ih]; rfl
theorem vchunks_sound {n : Nat} (r : Option Nat) (m : Nat) {all : List Oper} {Q : Exit → Act → World → Prop} {K : Env → World → Prop} (hK : ∀ l a w, At n l a → K l w → Q .normal a w) :
  ∀ {cs : List (List Oper)} {l : Env} {a : Act} {w : World}, At n l a → vchunks P T Fs n all cs l w K → wpListIn (wideR r) m P all.toArray Q cs.flatten a w
 | [], l, a, w, ha, h => hK l a w ha h
 | [c], l, a, w, ha, h => by
  have := vops_soundT hT hF r m (tl := []) (all := all) (Q := Q) (K := K) (fun l a w ha h => hK l a w ha h) ha h
  simpa using this
 | c :: d :: cs, l, a, w, ha, h => by
  have h := h.out (fun l w => ∃ l0, Sub l0 l ∧ vchunks P T Fs n all (d :: cs) l0 w K) (fun l0 _ _ hs h => ⟨l0, hs, h⟩)
  exact vops_soundT hT hF r m (tl := (d :: cs).flatten) (all := all) (Q := Q) (fun l a w ha ⟨l0, hs, h⟩ => vchunks_sound r m hK (ha.sub hs) h) ha h
omit hT hF in
theorem vdefer_spec {n : Nat} {l : Env} {a : Act} (ha : At n l a) {c : Call} {d : Deferred} (h : vdefer l c = some d) (ty : TypeId) (w : World) : (resolve a.eval c ty).run P w = .ok d w := by
 unfold vdefer at h
 split at h
 ·cases h
 ·rename_i args hargs
  have e1 : c.args.map a.eval = args.toArray := by rw [← opds_eval ha hargs]; exact Array.ext' (by rw [Array.toList_map])
  split at h
  ·rename_i f hc
   split at h
   ·rename_i g first captured hf
    simp only [Option.some.injEq] at h
    subst h
    simp only [resolve, hc, opd_eval ha hf, e1]
    simp [Deferred.ofValue]
   ·cases h
  ·cases h
omit hT hF in
theorem At.defer {n : Nat} {l : Env} {a : Act} (ha : At n l a) (d : Deferred) : At n ((n, .d d) :: l) { a with defers := d :: a.defers } :=
 ⟨by simp [marks, ha.defers], ha.size, fun t x hx => by
  simp only [look] at hx
  by_cases e : n = t
  ·subst e; simp at hx; subst hx; simp [Array.getD, ha.size]
  ·rw [beqF e] at hx; exact ha.holds t x hx⟩
theorem vopsP_soundT {n : Nat} (m : Nat) {all tl : List Oper} {Q : Exit → Act → World → Prop} {K : Env → World → Prop} {kp : List PanicEntry → Env → World → Prop} (hK : ∀ l a w, At n l a → K l w → wpListIn (wideR none) m P all.toArray Q tl a w)
  (hP : ∀ c l a w, At n l a → kp c l w → Q (.panic c) a w) :
  ∀ {ops : List Oper} {l : Env} {a : Act} {w : World}, At n l a → vopsP P T Fs n kp all ops l w K → wpListIn (wideR none) m P all.toArray Q (ops ++ tl) a w
 | [], l, a, w, ha, h => hK l a w ha h
 | o :: rest, l, a, w, ha, h => by
  have put : ∀ {l : Env} {a : Act} {e : EV} {w' : World}, At n l a → vdst n o l (fun l s => vopsP P T Fs n kp all rest l s K) e w' → wpListIn (wideR none) m P all.toArray Q (rest ++ tl) (a.put o.dst e.val) w' := by
   intro l a e w' ha h
   unfold vdst at h
   split at h
   ·rename_i d hd
    split at h
    ·rename_i hb
     split at h
     ·rename_i hm
      rw [hd]
      exact vopsP_soundT m hK hP (ha.put hb e hm) h
     ·exact h.elim
    ·exact h.elim
   ·rename_i hd
    rw [hd]
    exact vopsP_soundT m hK hP ha h
  have run : ∀ {l : Env}, At n l a → Region.wanted o (yielded all.toArray a.tmps) = true → vopP P T Fs n kp o l w (fun l s => vopsP P T Fs n kp all rest l s K) → wpListIn (wideR none) m P all.toArray Q (o :: (rest ++ tl)) a w := by
   intro l ha hw h
   unfold wpListIn
   rw [if_pos hw]
   refine ⟨fun _ _ => trivial, ?_⟩
   rw [show (wideR none).round = none from rfl, Oper.semAt_none]
   unfold vopP at h
   split at h
   ·rename_i c hop
    split at h <;> try exact h.elim
    rename_i d hd
    have hr := vdefer_spec (P := P) ha hd o.type w
    have he : (execOp a.eval o).run P w = .ok (.defer d) w := by
     simp only [execOp, hop, Sem.run_bind, hr, Result.andThen, Sem.run_pure]
    rw [he, Oper.uponIn_defer]
    exact put (ha.defer d) h
   ·exact vop_sound hT hF (nrm_lawsX P none m _) ha h o a _ Q (fun e w' hk => put ha hk) (fun c w' hc => hP c l a w' ha hc)
  have skip : ∀ {l : Env}, At n l a → Region.wanted o (yielded all.toArray a.tmps) = false → vdst n o l (fun l s => vopsP P T Fs n kp all rest l s K) (.v undef) w → wpListIn (wideR none) m P all.toArray Q (o :: (rest ++ tl)) a w := by
   intro l ha hw h
   unfold wpListIn
   rw [if_neg (by rw [hw]; exact Bool.false_ne_true)]
   exact ⟨fun _ _ => trivial, put ha h⟩
  simp only [vopsP] at h
  split at h
  ·rename_i hg
   exact run ha (by simp [Region.wanted, hg]) h
  ·rename_i j want hg
   split at h <;> try exact h.elim
   rename_i d hj
   have lit : ∀ {b : Bool}, look l d = some (.v (.bool b)) → ∀ e : EV, e.isM = false → e.val = .bool b → At n ((d, e) :: l) a := fun {b} hl e hm he =>
    ⟨by rw [marks_cons hm]; exact ha.defers, ha.size, fun t x hx => by
     simp only [look] at hx
     by_cases hd : d = t
     ·subst hd; simp at hx; subst hx; rw [ha.holds d _ hl, he]
     ·rw [beqF hd] at hx; exact ha.holds t x hx⟩
   split at h
   ·rename_i hl
    have hy := yielded_of ha hj hl
    cases want with
    | true => exact run ha (by simp [Region.wanted, hg, hy]) h
    | false => exact skip ha (by simp [Region.wanted, hg, hy]) h
   ·rename_i hl
    have hy := yielded_of ha hj hl
    cases want with
    | true => exact skip ha (by simp [Region.wanted, hg, hy]) h
    | false => exact run ha (by simp [Region.wanted, hg, hy]) h
   ·rename_i b hl
    have hy := yielded_of ha hj hl
    cases want with
    | true =>
     cases b with
     | true => exact run (lit hl .tt rfl rfl) (by simp [Region.wanted, hg, hy]) (h.1 rfl)
     | false => exact skip (lit hl .ff rfl rfl) (by simp [Region.wanted, hg, hy]) (h.2 rfl)
    | false =>
     cases b with
     | true => exact skip (lit hl .tt rfl rfl) (by simp [Region.wanted, hg, hy]) (h.1 rfl)
     | false => exact run (lit hl .ff rfl rfl) (by simp [Region.wanted, hg, hy]) (h.2 rfl)
   ·rename_i vs hl
    have hy := yielded_of ha hj hl
    exact skip ha (by simp [Region.wanted, hg, hy]) h
   ·exact h.elim
theorem vchunksP_sound {n : Nat} (m : Nat) {all : List Oper} {Q : Exit → Act → World → Prop} {K : Env → World → Prop} {kp : List PanicEntry → Env → World → Prop} (hK : ∀ l a w, At n l a → K l w → Q .normal a w)
  (hP : ∀ c l a w, At n l a → kp c l w → Q (.panic c) a w) :
  ∀ {cs : List (List Oper)} {l : Env} {a : Act} {w : World}, At n l a → vchunksP P T Fs n kp all cs l w K → wpListIn (wideR none) m P all.toArray Q cs.flatten a w
 | [], l, a, w, ha, h => hK l a w ha h
 | [c], l, a, w, ha, h => by
  have := vopsP_soundT hT hF m (tl := []) (all := all) (Q := Q) (K := K) (fun l a w ha h => hK l a w ha h) hP ha h
  simpa using this
 | c :: d :: cs, l, a, w, ha, h => by
  have h := h.out (fun l w => ∃ l0, Sub l0 l ∧ vchunksP P T Fs n kp all (d :: cs) l0 w K) (fun l0 _ _ hs h => ⟨l0, hs, h⟩)
  exact vopsP_soundT hT hF m (tl := (d :: cs).flatten) (all := all) (Q := Q) (fun l a w ha ⟨l0, hs, h⟩ => vchunksP_sound m hK hP (ha.sub hs) h) hP ha h
theorem vops_sound0 {n : Nat} {all : List Oper} {Q : Exit → Act → World → Prop} {K : Env → World → Prop} (hK : ∀ l a w, At n l a → K l w → Q .normal a w) :
  ∀ {ops : List Oper} {l : Env} {a : Act} {w : World}, At n l a → vops T Fs (nrmH0 P) n all ops l w K → wpList P all.toArray Q ops a w
 | [], l, a, w, ha, h => hK l a w ha h
 | o :: rest, l, a, w, ha, h => by
  have put : ∀ {l : Env} {e : EV} {w' : World}, At n l a → vdst n o l (fun l s => vops T Fs (nrmH0 P) n all rest l s K) e w' → wpList P all.toArray Q rest (a.put o.dst e.val) w' := by
   intro l e w' ha h
   unfold vdst at h
   split at h
   ·rename_i d hd
    split at h
    ·rename_i hb
     split at h
     ·rename_i hm
      rw [hd]
      exact vops_sound0 hK (ha.put hb e hm) h
     ·exact h.elim
    ·exact h.elim
   ·rename_i hd
    rw [hd]
    exact vops_sound0 hK ha h
  have run : ∀ {l : Env}, At n l a → Region.wanted o (yielded all.toArray a.tmps) = true → vop T Fs (nrmH0 P) l o.op o.type w (vdst n o l (fun l s => vops T Fs (nrmH0 P) n all rest l s K)) → wpList P all.toArray Q (o :: rest) a w := by
   intro l ha hw h
   unfold wpList
   rw [if_pos hw]
   refine .inl ?_
   exact vop_sound hT hF (nrm_laws0 P) ha h o a _ Q (fun e w' hk => put ha hk)
  have skip : ∀ {l : Env}, At n l a → Region.wanted o (yielded all.toArray a.tmps) = false → vdst n o l (fun l s => vops T Fs (nrmH0 P) n all rest l s K) (.v undef) w → wpList P all.toArray Q (o :: rest) a w := by
   intro l ha hw h
   unfold wpList
   rw [if_neg (by rw [hw]; exact Bool.false_ne_true)]
   exact put ha h
  simp only [vops] at h
  split at h
  ·rename_i hg
   exact run ha (by simp [Region.wanted, hg]) h
  ·rename_i j want hg
   split at h <;> try exact h.elim
   rename_i d hj
   have lit : ∀ {b : Bool}, look l d = some (.v (.bool b)) → ∀ e : EV, e.isM = false → e.val = .bool b → At n ((d, e) :: l) a := fun {b} hl e hm he =>
    ⟨by rw [marks_cons hm]; exact ha.defers, ha.size, fun t x hx => by
     simp only [look] at hx
     by_cases hd : d = t
     ·subst hd; simp at hx; subst hx; rw [ha.holds d _ hl, he]
     ·rw [beqF hd] at hx; exact ha.holds t x hx⟩
   split at h
   ·rename_i hl
    have hy := yielded_of ha hj hl
    cases want with
    | true => exact run ha (by simp [Region.wanted, hg, hy]) h
    | false => exact skip ha (by simp [Region.wanted, hg, hy]) h
   ·rename_i hl
    have hy := yielded_of ha hj hl
    cases want with
    | true => exact skip ha (by simp [Region.wanted, hg, hy]) h
    | false => exact run ha (by simp [Region.wanted, hg, hy]) h
   ·rename_i b hl
    have hy := yielded_of ha hj hl
    cases want with
    | true =>
     cases b with
     | true => exact run (lit hl .tt rfl rfl) (by simp [Region.wanted, hg, hy]) (h.1 rfl)
     | false => exact skip (lit hl .ff rfl rfl) (by simp [Region.wanted, hg, hy]) (h.2 rfl)
    | false =>
     cases b with
     | true => exact skip (lit hl .tt rfl rfl) (by simp [Region.wanted, hg, hy]) (h.1 rfl)
     | false => exact run (lit hl .ff rfl rfl) (by simp [Region.wanted, hg, hy]) (h.2 rfl)
   ·rename_i vs hl
    have hy := yielded_of ha hj hl
    exact skip ha (by simp [Region.wanted, hg, hy]) h
   ·exact h.elim

omit hT hF in
theorem loop_ghost {n : Nat} {F : Fence} {m0 : Nat} {c : Code} {Q : Exit → Act → World → Prop} (I : Nat → Env → World → Prop)
  (round : ∀ m l a w, At n l a → I m l w → c.wpIn F m0 P (Exit.then (fun a' w' => ∃ m' l', m' < m ∧ I m' l' w' ∧ At n l' a') Q) a w) :
  ∀ m l a w, At n l a → I m l w → (Code.loop c).wpIn F m0 P Q a w := by
 intro m l a w ha hI b k cs hro hb hr
 have key : ∀ m l a w, At n l a → I m l w →
   ∃ e a' w', Q e a' w' ∧ ArrivesIn (Machine.fenced P F) P (lone (b.atR a (.code c :: .inLoop c :: k)) cs w) b k cs e a' w' := by
  intro m
  induction m using Nat.strongRecOn with
  | _ m ih =>
   intro l a w ha hI
   obtain ⟨e, a₁, w₁, hq, harr⟩ := round m l a w ha hI b (.inLoop c :: k) cs hro hb hr
   cases e with
   | normal =>
    obtain ⟨m', l', hlt, hI₁, ha₁⟩ := hq
    obtain ⟨e₂, a₂, w₂, hq₂, harr₂⟩ := ih m' hlt l' a₁ w₁ ha₁ hI₁
    exact ⟨e₂, a₂, w₂, hq₂, .of_steps (StepsIn.trans harr (.one (fenced_calm hb hr rfl) stepR_inLoop)) harr₂⟩
   | exit id => exact ⟨_, a₁, w₁, hq, .pass (x := .inLoop c) rfl (fun _ _ => .inl (by simp)) harr⟩
   | goto l => exact ⟨_, a₁, w₁, hq, .pass (x := .inLoop c) rfl (fun _ _ => .inl (by simp)) harr⟩
   | ret => exact ⟨_, a₁, w₁, hq, .pass (x := .inLoop c) rfl (fun _ _ => .inl (by simp)) harr⟩
   | panic ch => exact ⟨_, a₁, w₁, hq, .pass (x := .inLoop c) rfl (fun _ _ => .inl (by simp)) harr⟩
   | outgrown => exact ⟨_, a₁, w₁, hq, .pass (x := .inLoop c) rfl (fun _ _ => .inl (by simp)) harr⟩
 obtain ⟨e, a', w', hq, harr⟩ := key m l a w ha hI
 exact ⟨e, a', w', hq, .of_steps (.one (fenced_calm hb hr rfl) stepR_loop) harr⟩

omit hT hF in
theorem noDefer_spec : ∀ {ops : List Oper}, noDefer ops = true → ∀ o ∈ ops, ∀ c, o.op ≠ .defer c
 | [], _, o, ho => by simp at ho
 | x :: r, h, o, ho => by
  simp only [noDefer, Bool.and_eq_true] at h
  rcases List.mem_cons.1 ho with rfl | ho
  ·intro c e; rw [e] at h; simp [isDefer] at h
  ·exact noDefer_spec h.2 o ho
omit hT hF in
theorem rowsIn_R {r : Option Nat} {m : Nat} {row : String} {args : Array Value} {w : World} {R : Value → World → Prop} (h : Rows P row args w R) : RowsIn (wideR r) m P row args w R :=
 fun c cs _ => let ⟨v, w', q, s⟩ := h c cs; ⟨v, w', q, stepsIn_wide.2 s⟩
omit hT hF in
theorem lift_op {r : Option Nat} {m : Nat} {ops : Array Oper} {Q : Exit → Act → World → Prop} (hQ : ∀ a w, ¬ Q .outgrown a w) (hd : ∀ (i : Nat) (o : Oper), ops[i]? = some o → ∀ c, o.op ≠ Op.defer c)
  {i : Nat} {K : Act → World → Prop} {a : Act} {w : World} (h : wpOp P ops Q i K a w) : wpOpIn (wideR r) m P ops Q i K a w := by
 unfold wpOp at h
 unfold wpOpIn
 cases ho : ops[i]? with
 | none => simp only [ho] at h; exact h
 | some o =>
  simp only [ho] at h ⊢
  by_cases hw : Region.wanted o (yielded ops a.tmps) = true
  ·simp only [hw, if_true] at h ⊢
   refine ⟨fun _ _ => trivial, ?_⟩
   rw [Oper.semAt_plain (wideR r) _ o (hd i o ho)]
   rcases h with h | ⟨_, a0, w0, h⟩
   ·unfold Oper.wp at h
    generalize (execOp a.eval o).run P w = x at h ⊢
    cases x with
    | ok x w' =>
     cases x <;> simp only [Oper.upon, Oper.uponIn] at h ⊢ <;>
      first
       | exact h
       | exact ⟨by simp [wideR], callsIn_R (Calls.mono h (fun e w'' he => by cases e <;> first | exact he))⟩
       | exact ⟨by simp [wideR], RowsIn.mono (rowsIn_R h) (fun _ _ he => he)⟩
    | halt x w' => cases x <;> simp only [Oper.upon, Oper.uponIn] at h ⊢ <;> exact h
   ·exact absurd h (hQ a0 w0)
  ·simp only [hw, if_false, Bool.false_eq_true] at h ⊢
   exact ⟨fun _ _ => trivial, h⟩
omit hT hF in
/-- What holds of a region's operations holds of them in a round. -/
theorem lift_ops {r : Option Nat} {m : Nat} {ops : Array Oper} {Q : Exit → Act → World → Prop} (hQ : ∀ a w, ¬ Q .outgrown a w) (hd : ∀ (i : Nat) (o : Oper), ops[i]? = some o → ∀ c, o.op ≠ Op.defer c) :
  ∀ (l : List Nat) (a : Act) (w : World), wpOps P ops Q l a w → wpOpsIn (wideR r) m P ops Q l a w
 | [], a, w, h => h
 | i :: rest, a, w, h => by
  rw [wpOps_cons] at h
  rw [wpOpsIn_cons]
  exact wpOpIn_mono (fun a w h => lift_ops hQ hd rest a w h) (lift_op hQ hd h)
omit hT hF in
theorem VDraw.ofPlain {n : Nat} {ops : List Oper} {l : Env} {w : World} {K : Env → World → Prop} (out : ∀ (a : Act) (Q : Exit → Act → World → Prop), At n l a → (∀ l' a' w', At n l' a' → K l' w' → Q .normal a' w') →
  ∀ t, wpOps P ops.toArray Q (Region.schedule (P.follows .mixedOrders) ops.toArray t) a { w with drawn := w.drawn + 1 }) (plain : noDefer ops = true) : VDraw P n ops l w K :=
 ⟨fun r m a Q hQ ha hK t => lift_ops hQ (fun i o ho c => noDefer_spec plain o (by have := Array.mem_of_getElem? ho; simpa using this) c) _ _ _ (out a Q ha hK t), plain⟩

omit hT hF in
theorem QK_out {n : Nat} {K : KK} (a : Act) (w : World) : ¬ QK n K .outgrown a w := fun h => h
theorem vgo_sound {n : Nat} (r : Option Nat) (m : Nat) : ∀ (c : Code) {l : Env} {a : Act} {w : World} {K : KK}, (r = none ∨ (flat c = true ∧ K.pan = none)) → At n l a → vgo P T Fs n c l w K → c.wpIn (wideR r) m P (QK n K) a w
 | .skip, l, a, w, K, _, ha, h => wpIn_skip ⟨l, ha, h⟩
 | .label _, l, a, w, K, _, ha, h => wpIn_label ⟨l, ha, h⟩
 | .region id ops false, l, a, w, K, hr, ha, h => by
  refine wpIn_region_list ?_
  simp only [vgo] at h
  split at h
  ·have := vchunks_sound hT hF r m (all := ops.toList) (Q := QK n K) (K := K.nrm) (fun l a w ha h => ⟨l, ha, h⟩) ha h
   rw [chunk_flat] at this
   simpa using this
  ·rename_i kp hp
   have hr0 : r = none := hr.resolve_right (fun h => by rw [h.2] at hp; cases hp)
   subst hr0
   have := vchunksP_sound hT hF m (all := ops.toList) (Q := QK n K) (K := K.nrm) (fun l a w ha h => ⟨l, ha, h⟩) (fun c l a w ha h => by simp only [QK, hp]; exact ⟨l, ha, h⟩) ha h
   rw [chunk_flat] at this
   simpa using this
 | .region id ops true, l, a, w, K, hr, ha, h => by
  refine wpIn_region_draw fun t => ?_
  simp only [vgo] at h
  split at h
  ·have := h.out r m a (QK n K) QK_out ha (fun l' a' w' ha' h' => ⟨l', ha', h'⟩) t
   simpa using this
  ·rename_i kp hp
   have := h.out r m a (QK n K) QK_out ha (fun l' a' w' ha' h' => ⟨l', ha', h'⟩) (fun c l' a' w' ha' h' => by simp only [QK, hp]; exact ⟨l', ha', h'⟩) t
   simpa using this
 | .seq x y, l, a, w, K, hr, ha, h => by
  have h := h.out (fun l w => ∃ l0, Sub l0 l ∧ vgo P T Fs n y l0 w K) (fun l0 _ _ hs h => ⟨l0, hs, h⟩)
  refine wpIn_seq (wpIn_mono (vgo_sound r m x (hr.imp_right fun h => by simp only [flat, Bool.and_eq_true] at h; exact ⟨h.1.1, h.2⟩) ha h) ?_)
  intro e a w hq
  cases e with
  | normal => obtain ⟨l, ha, l0, hs, hk⟩ := hq; exact vgo_sound r m y (hr.imp_right fun h => by simp only [flat, Bool.and_eq_true] at h; exact ⟨h.1.2, h.2⟩) (ha.sub hs) hk
  | _ => exact hq
 | .cond c x y, l, a, w, K, hr, ha, h => by
  have hx : r = none ∨ (flat x = true ∧ K.pan = none) := hr.imp_right fun h => by simp only [flat, Bool.and_eq_true] at h; exact ⟨h.1.1, h.2⟩
  have hy : r = none ∨ (flat y = true ∧ K.pan = none) := hr.imp_right fun h => by simp only [flat, Bool.and_eq_true] at h; exact ⟨h.1.2, h.2⟩
  simp only [vgo] at h
  split at h
  ·rename_i hc; exact wpIn_cond_true (opd_eval ha hc) (vgo_sound r m x hx ha h)
  ·rename_i hc; exact wpIn_cond_false (opd_eval ha hc) (vgo_sound r m y hy ha h)
  ·rename_i t hc; exact wpIn_cond_split (opd_eval ha hc) (fun ht => vgo_sound r m x hx ha (h.1 ht)) (fun ht => vgo_sound r m y hy ha (h.2 ht))
  ·exact h.elim
 | .block id b, l, a, w, K, hr, ha, h => by
  refine wpIn_block (wpIn_mono (vgo_sound r m b (K := { K with ex := fun i l w => match Nat.beq i id with | true => K.nrm l w | false => K.ex i l w }) hr ha h) ?_)
  intro e a w hq
  cases e with
  | exit i =>
   obtain ⟨l, ha, hk⟩ := hq
   simp only [Exit.inBlock]
   by_cases e : i = id
   ·subst e; simp only [beqT] at hk; rw [if_pos rfl]; exact ⟨l, ha, hk⟩
   ·simp only [beqF e] at hk; rw [if_neg e]; exact ⟨l, ha, hk⟩
  | _ => exact hq
 | .loop b, l, a, w, K, hr, ha, h => by
  obtain ⟨I, ⟨k, l0, hI, hs⟩, hrd⟩ := h
  refine loop_ghost I ?_ k l0 a w (ha.sub hs) hI
  intro k l a w ha hI
  refine wpIn_mono (vgo_sound r m b (K := { K with nrm := fun l' w' => ∃ m' l'', m' < k ∧ I m' l'' w' ∧ Sub l'' l' }) hr ha (hrd k l w hI)) ?_
  intro e a w hq
  cases e with
  | normal => obtain ⟨l', ha', m', l'', hm, hI', hs'⟩ := hq; exact ⟨m', l'', hm, hI', ha'.sub hs'⟩
  | _ => exact hq
 | .exit i, l, a, w, K, _, ha, h => wpIn_exit ⟨l, ha, h⟩
 | .ret, l, a, w, K, _, ha, h => wpIn_ret ⟨l, ha, h⟩
 | .scope b, l, a, w, K, hr, ha, h => by
  rcases hr with rfl | hr
  ·have := h.out a ha
   exact (wpIn_wide (n := m)).2 ((wpIn_wide (n := 0)).1 this)
  ·simp [flat] at hr
 | .rangeFunc f ps x y, l, a, w, K, hr, ha, h => by
  rcases hr with rfl | hr
  ·have := h.out a ha
   exact (wpIn_wide (n := m)).2 ((wpIn_wide (n := 0)).1 this)
  ·simp [flat] at hr
 | .goto i, l, a, w, K, _, ha, h => wpIn_goto ⟨l, ha, h⟩
 | .refuse _, _, _, _, _, _, _, h => h.elim

def resOf (a : Act) : ResultVar → Sem Value
 | .tmp t => Pure.pure (a.tmps.getD t undef)
 | .cell b t => do loadVar t (← asAddr (a.tmps.getD b undef))
omit hT hF in
theorem vres_sound {n : Nat} : ∀ {rs : List ResultVar} {l : Env} {a : Act} {w : World} {k : List Value → Prop}, At n l a → vres P rs l w k →
  ∃ vs, k vs ∧ (rs.mapM (resOf a)).run P w = .ok vs w
 | [], l, a, w, k, ha, h => ⟨[], h, rfl⟩
 | .tmp t :: r, l, a, w, k, ha, h => by
  simp only [vres] at h
  split at h
  ·rename_i e he
   obtain ⟨vs, hk, hr⟩ := vres_sound ha h
   exact ⟨_, hk, by rw [List.mapM_cons, Sem.run_bind]; simp [resOf, ha.holds t e he, hr, Result.andThen]⟩
  ·exact h.elim
 | .cell t ty :: r, l, a, w, k, ha, h => by
  simp only [vres] at h
  split at h
  ·rename_i A he
   obtain ⟨v, hv, h⟩ := h
   obtain ⟨vs, hk, hr⟩ := vres_sound ha h
   exact ⟨_, hk, by rw [List.mapM_cons, Sem.run_bind]; simp [resOf, ha.holds t _ he, hr, Result.andThen, asAddr, hv]⟩
  ·exact h.elim

omit hT hF in
theorem marks_entry : ∀ (vs : List Value) (i : Nat), marks (entry i vs) = []
 | [], _ => rfl
 | _ :: vs, i => marks_entry vs (i + 1)
/-- A function by its body's wp. -/
theorem v_fn {f : Nat} {fn : Func} {c : Code} {args : List Value} {w : World} {R : Value → World → Prop} (hf : P.funcs[f]? = some fn) (hb : fn.body = some c) (hn : args.length ≤ fn.ntmps)
  (h : vgo P T Fs fn.ntmps c (entry 0 args) w (retK P fn.results.toList R)) : Calls P f args.toArray w fun e w' => ∃ v, e = .returned v ∧ R v w' := by
 refine (callsIn_wide (n := 0)).1 (callsIn_of_wp_marks (F := wideR none) hf hb trivial ?_)
 have ha : At fn.ntmps (entry 0 args) { tmps := args.toArray ++ Array.replicate (fn.ntmps - args.toArray.size) undef, defers := [] } := by
  refine ⟨by rw [marks_entry], by simp; omega, ?_⟩
  have key : ∀ (vs pre : List Value) t x, look (entry pre.length vs) t = some x → ((pre ++ vs).toArray ++ Array.replicate (fn.ntmps - args.length) undef).getD t undef = x.val := by
   intro vs
   induction vs with
   | nil => intro pre t x h; simp [entry, look] at h
   | cons v vs ih =>
    intro pre t x h
    simp only [entry, look] at h
    by_cases e : pre.length = t
    ·subst e; simp at h; subst h
     simp [Array.getD_eq_getD_getElem?, Array.getElem?_append]
    ·rw [beqF e] at h
     have := ih (pre ++ [v]) t x (by simpa using h)
     simpa using this
  intro t x h
  have := key args [] t x h
  simpa using this
 refine wpIn_mono (vgo_sound hT hF none 0 c (.inl rfl) ha h) ?_
 have res : ∀ {l : Env} {a : Act} {w : World}, At fn.ntmps l a → vres P fn.results.toList l w (fun vs => R (one vs) w) → ∃ v, (results fn a.tmps).run P w = .ok v w ∧ ∃ v', Ending.returned v = .returned v' ∧ R v' w := by
  intro l a w ha h
  obtain ⟨vs, hk, hr⟩ := vres_sound ha h
  refine ⟨one vs, ?_, _, rfl, hk⟩
  have e : results fn a.tmps = (fn.results.mapM (resOf a) >>= fun vs => Pure.pure (if h : vs.size = 1 then vs[0] else .tuple vs)) := by
   have hg : ∀ (f g : ResultVar → Sem Value), (∀ x, f x = g x) → (fn.results.mapM f >>= fun vs => (Pure.pure (if h : vs.size = 1 then vs[0] else Value.tuple vs) : Sem Value)) = (fn.results.mapM g >>= fun vs => Pure.pure (if h : vs.size = 1 then vs[0] else Value.tuple vs)) := fun f g h => by rw [funext h]
   exact hg _ _ (fun x => by cases x <;> rfl)
  rw [e, Sem.run_bind, Array.mapM_eq_mapM_toList, Sem.run_map, hr]
  simp only [Result.andThen, Sem.run_pure]
  match vs with
  | [] => rfl
  | [v] => rfl
  | v :: u :: r => simp [one]
 have fin : ∀ {l : Env} {a : Act}, At fn.ntmps l a → ∀ (Ds : List Deferred) (w : World), vleave Ds w (fun w => vres P fn.results.toList l w (fun vs => R (one vs) w)) →
   LeavesInM (wideR none) 0 P fn a.tmps (fun e w' => ∃ v, e = .returned v ∧ R v w') Ds .returning w := by
  intro l a ha Ds
  induction Ds with
  | nil => intro w h; exact res ha h
  | cons d Ds ih =>
   intro w h
   simp only [vleave] at h
   split at h <;> try exact h.elim
   rename_i D htar
   exact ⟨by simp, .inl ⟨D, _, htar, run_takeDeferred h.1, ih _ h.2⟩⟩
 intro e a w hq
 cases e with
 | normal => obtain ⟨l, ha, hk⟩ := hq; have := fin ha _ _ hk; rw [← ha.defers] at this; exact this
 | ret => obtain ⟨l, ha, hk⟩ := hq; have := fin ha _ _ hk; rw [← ha.defers] at this; exact this
 | exit i => obtain ⟨l, ha, hk⟩ := hq; exact hk.elim
 | goto l => obtain ⟨l, ha, hk⟩ := hq; exact hk.elim
 | panic c => exact False.elim hq
 | outgrown => exact False.elim hq

omit hT hF in
/-- A drawn region by the calculus of all orders. -/
theorem any_ops {ops : Array Oper} {Q : Exit → Act → World → Prop} {a : Act} {w : World} (hm : P.follows .mixedOrders = true)
  (h : wpAny P .any ops Q ops.size (Array.replicate ops.size false) a { w with drawn := w.drawn + 1 }) (t : Nat) : wpOps P ops Q (Region.schedule (P.follows .mixedOrders) ops t) a { w with drawn := w.drawn + 1 } := by
 simp only [Region.schedule, hm, Bool.true_or, if_true]
 exact wpAny_sound ops.size t _ a _ h
end
theorem memB_nil {p : Nat → Prop} : ∀ f, memB f [] = true → p f := fun _ h => by simp [memB] at h
theorem memB_cons {p : Nat → Prop} {g : Nat} {l : List Nat} (hp : p g) (h : ∀ f, memB f l = true → p f) : ∀ f, memB f (g :: l) = true → p f := fun f hf => by
 simp only [memB] at hf
 by_cases e : f = g
 ·subst e; exact hp
 ·rw [beqF e] at hf; exact h f hf
end V
end Go.Proofs.Ytefjgoeabfgkmaa
