/- V: a wp by computation, over an environment of the slots that are known. Own work. No program is named here. -/
import Derived.WalkKit
import Derived.ScopeJumps
import Derived.WalkSpells
import Derived.Deep.Quiet
import Derived.StillTail
import Derived.Shelf.Abstract
import Derived.RangeFuncFrom
import Derived.RangeFuncLeaves
import Derived.RangeFuncIn
import Derived.RangeFuncRecord
import Derived.RecoverIn
import Derived.OrdersIn
import Derived.OwnWalkIn
namespace Go.Proofs.YtmlmfmdmomegpaaGreatDoor
set_option linter.unusedSimpArgs false
set_option linter.unusedVariables false
open Go.RowKit
namespace V

/-- What a slot is known to hold: a value, or a Bool that is decided. -/
inductive EV where
  | v (x : Value)
  | tt
  | ff
  | m (D : Nat)
  | d (x : Deferred)
@[reducible] def EV.val : EV → Value
  | .v x => x
  | .tt => .bool true
  | .ff => .bool false
  | .m _ => undef
  | .d _ => undef
abbrev Env := List (Nat × EV)
def look : Env → Nat → Option EV
  | [], _ => none
  | (d, x) :: l, t => match Nat.beq d t with
    | true => some x
    | false => look l t
theorem beqF {d t : Nat} (e : ¬ d = t) : Nat.beq d t = false := by
  cases h : Nat.beq d t with
  | false => rfl
  | true => exact absurd (Nat.eq_of_beq_eq_true h) e
theorem beqT (d : Nat) : Nat.beq d d = true := Nat.beq_refl d
/-- The marks that ranges over functions have left: newest first. -/
def mk1 (D : Nat) : Deferred := { target := .collected D, args := #[] }
def marks : Env → List Deferred
  | [] => []
  | (_, .m D) :: l => mk1 D :: marks l
  | (_, .d x) :: l => x :: marks l
  | _ :: l => marks l
def EV.isM : EV → Bool
  | .m _ => true
  | .d _ => true
  | _ => false
theorem marks_cons {d : Nat} {e : EV} {l : Env} (h : e.isM = false) : marks ((d, e) :: l) = marks l := by
  cases e <;> first | rfl | (simp [EV.isM] at h)
structure At (n : Nat) (l : Env) (a : Act) : Prop where
  defers : a.defers = marks l
  size : a.tmps.size = n
  holds : ∀ t x, look l t = some x → a.tmps.getD t undef = x.val

theorem At.put {n : Nat} {l : Env} {a : Act} (h : At n l a) {d : Nat} (hd : Nat.blt d n = true) (x : EV) (hx : x.isM = false := by rfl) : At n ((d, x) :: l) (a.put (some d) x.val) := by
  have hdn : d < n := by simpa using hd
  refine ⟨by rw [marks_cons hx]; exact h.defers, by simpa [Act.put] using h.size, fun t y hy => ?_⟩
  simp only [look] at hy
  by_cases e : d = t
  · subst e
    simp at hy
    subst hy
    simp [Act.put, Array.getD, h.size, hdn]
  · have : Nat.beq d t = false := beqF e
    rw [this] at hy
    have := h.holds t y hy
    simpa [Act.put, Array.getD_eq_getD_getElem?, Array.getElem?_setIfInBounds_ne e] using this

def SubL (l0 l : Env) : Prop := ∀ t x, look l0 t = some x → look l t = some x
structure Sub (l0 l : Env) : Prop where
  look : SubL l0 l
  marks : marks l0 = marks l
theorem Sub.refl (l : Env) : Sub l l := ⟨fun _ _ h => h, rfl⟩
theorem sub_nil {l : Env} (h : marks l = [] := by rfl) : Sub [] l := ⟨fun _ _ h => by simp [V.look] at h, h.symm⟩
theorem subL_cons {l0 l : Env} {d : Nat} {x : EV} (h : look l d = some x) (hs : SubL l0 l) : SubL ((d, x) :: l0) l := fun t y hy => by
  simp only [look] at hy
  by_cases e : d = t
  · subst e; simp at hy; subst hy; exact h
  · have : Nat.beq d t = false := beqF e
    rw [this] at hy; exact hs t y hy
theorem sub_cons {l0 l : Env} {d : Nat} {x : EV} (h : look l d = some x) (hs : Sub l0 l) (hx : x.isM = false := by rfl) : Sub ((d, x) :: l0) l :=
  ⟨subL_cons h hs.look, (marks_cons hx).trans hs.marks⟩
theorem At.sub {n : Nat} {l l0 : Env} {a : Act} (h : At n l a) (hs : Sub l0 l) : At n l0 a := ⟨by rw [hs.marks]; exact h.defers, h.size, fun t x hx => h.holds t x (hs.look t x hx)⟩

def litE : Value → EV
  | .bool true => .tt
  | .bool false => .ff
  | x => .v x
theorem litE_val (x : Value) : (litE x).val = x := by
  unfold litE; split <;> rfl
def opd (l : Env) : Operand → Option EV
  | .tmp t => look l t
  | .const x => some (litE x)
  | .global g => some (.v (.pointer (some ⟨g, 0, none⟩)))
  | .func f => some (.v (.func (.func f) #[] #[]))
theorem opd_eval {n : Nat} {l : Env} {a : Act} (h : At n l a) {x : Operand} {e : EV} (he : opd l x = some e) : a.eval x = e.val := by
  cases x with
  | tmp t => exact h.holds t e he
  | const v => simp only [opd, Option.some.injEq] at he; subst he; exact (litE_val v).symm
  | global g => simp only [opd, Option.some.injEq] at he; subst he; rfl
  | func f => simp only [opd, Option.some.injEq] at he; subst he; rfl
def opds (l : Env) : List Operand → Option (List Value)
  | [] => some []
  | x :: r => match opd l x with
    | none => none
    | some e => match opds l r with
      | none => none
      | some vs => some (e.val :: vs)
theorem opds_eval {n : Nat} {l : Env} {a : Act} (h : At n l a) : ∀ {xs : List Operand} {vs : List Value}, opds l xs = some vs → xs.map a.eval = vs
  | [], vs, he => by simp only [opds, Option.some.injEq] at he; subst he; rfl
  | x :: r, vs, he => by
    simp only [opds] at he
    cases hx : opd l x with
    | none => simp [hx] at he
    | some e =>
      cases hr : opds l r with
      | none => simp [hx, hr] at he
      | some ws =>
        simp only [hx, hr, Option.some.injEq] at he
        subst he
        simp [opd_eval h hx, opds_eval h hr]

/-! ### the table of types -/
inductive TK where
  | bool | int (k : IntKind) | str | ptr (e : Nat) | slice (e : Nat) | arr (len e : Nat) | struct (fs : List (Nat × Nat)) | other
structure TE where
  kind : TK
  size : Nat
abbrev Tab := List (Nat × TE)
def tfind : Tab → Nat → Option TE
  | [], _ => none
  | (d, x) :: l, t => match Nat.beq d t with
    | true => some x
    | false => tfind l t
def kindOk (P : Program) (t : Nat) : TK → Bool
  | .bool => (P.underlying t matches some .bool)
  | .int k => (match P.underlying t with | some (.int k') => decide (k = k') | _ => false)
  | .str => (P.underlying t matches some .string)
  | .ptr e => (match P.underlying t with | some (.pointer e') => e == e' | _ => false)
  | .slice e => (match P.underlying t with | some (.slice e') => e == e' | _ => false)
  | .arr n e => (match P.underlying t with | some (.array n' e') => n == n' && e == e' | _ => false)
  | .struct fs => (match P.underlying t with | some (.struct fs') => fs == (fs'.toList.map fun f => (f.offset, f.type)) | _ => false)
  | .other => true
def entryOk (P : Program) (p : Nat × TE) : Bool := kindOk P p.1 p.2.kind && (match P.info? p.1 with | some i => i.size == p.2.size | none => false)
def tabOk (P : Program) (T : Tab) : Bool := T.all (entryOk P)
theorem tfind_mem : ∀ {T : Tab} {t : Nat} {e : TE}, tfind T t = some e → (t, e) ∈ T
  | (d, x) :: l, t, e, h => by
    simp only [tfind] at h
    by_cases he : d = t
    · subst he; simp at h; subst h; exact List.mem_cons_self
    · have : Nat.beq d t = false := beqF he
      rw [this] at h; exact List.mem_cons_of_mem _ (tfind_mem h)
theorem tab_entry {P : Program} {T : Tab} (hT : tabOk P T = true) {t : Nat} {e : TE} (h : tfind T t = some e) : kindOk P t e.kind = true ∧ ∃ i, P.info? t = some i ∧ i.size = e.size := by
  have := List.all_eq_true.1 hT _ (tfind_mem h)
  simp only [entryOk, Bool.and_eq_true] at this
  refine ⟨this.1, ?_⟩
  have h2 := this.2
  split at h2
  · rename_i i hi; exact ⟨i, hi, by simpa using h2⟩
  · simp at h2

/-! ### the operations -/
structure Hand (σ : Type) where
  run : Sem Value → σ → (Value → σ → Prop) → Prop
  call : FuncId → Array Value → σ → (Value → σ → Prop) → Prop
  yield : Nat → Array Value → σ → (Value → σ → Prop) → Prop
  ext : FuncId → Array Value → Sem Value → Prop
  pan : Value → σ → Prop := fun _ _ => False
/-- A function without a body: what stands in for it. -/
def extP (P : Program) (f : FuncId) (args : Array Value) (e : Sem Value) : Prop := ∀ w, (callFunc f args).run P w = (do Pure.pure (.value (← e)) : Sem Next).run P w

def byt (s : ByteArray) (i : Nat) : Nat := (s.data.toList.getD i 0).toNat

/-- An integer result, in the kind's range: 64 bits, signed: it fits, or it is told what it wraps to; unsigned ones wrap. -/
def vwrap (k : IntKind) (x : Int) (K : Value → Prop) : Prop :=
  match k with
  | .i64 => ((-9223372036854775808 ≤ x ∧ x ≤ 9223372036854775807) ∧ K (.int .i64 x)) ∨ ∃ y, y = IntKind.i64.wrap x ∧ K (.int .i64 y)
  | .i32 => (-2147483648 ≤ x ∧ x ≤ 2147483647) ∧ K (.int .i32 x)
  | .i16 => False
  | .i8 => False
  | .u8 => K (.int .u8 (x % 256))
  | .u16 => K (.int .u16 (x % 65536))
  | .u32 => K (.int .u32 (x % 4294967296))
  | .u64 => K (.int .u64 (x % 18446744073709551616))
theorem vwrap_sound {k : IntKind} {x : Int} {K : Value → Prop} (h : vwrap k x K) : K (.int k (k.wrap x)) := by
  cases k with
  | i64 =>
    rcases h with h | ⟨y, rfl, h⟩
    · rw [IntWalk.i64_in x h.1]; exact h.2
    · exact h
  | i32 => rw [IntWalk.i32_in x h.1]; exact h.2
  | i16 => exact h.elim
  | i8 => exact h.elim
  | u8 => rw [show IntKind.u8.wrap x = x % 256 by simp [IntKind.wrap, IntKind.bits, IntKind.signed]]; exact h
  | u16 => rw [show IntKind.u16.wrap x = x % 65536 by simp [IntKind.wrap, IntKind.bits, IntKind.signed]]; exact h
  | u32 => rw [show IntKind.u32.wrap x = x % 4294967296 by simp [IntKind.wrap, IntKind.bits, IntKind.signed]]; exact h
  | u64 => rw [show IntKind.u64.wrap x = x % 18446744073709551616 by simp [IntKind.wrap, IntKind.bits, IntKind.signed]]; exact h
def lim (k : IntKind) : Nat :=
  match k with
  | .i64 => 9223372036854775808 | .i32 => 2147483648 | .i16 => 32768 | .i8 => 128
  | .u8 => 256 | .u16 => 65536 | .u32 => 4294967296 | .u64 => 18446744073709551616
def kbits (k : IntKind) : Nat :=
  match k with
  | .i64 => 64 | .i32 => 32 | .i16 => 16 | .i8 => 8 | .u8 => 8 | .u16 => 16 | .u32 => 32 | .u64 => 64
def maskK (k : IntKind) : Nat :=
  match k with
  | .i64 => 18446744073709551615 | .u8 => 255 | .u16 => 65535 | .u32 => 4294967295 | .u64 => 18446744073709551615 | .i32 => 4294967295 | .i16 => 65535 | .i8 => 255
def bitN (op : BinOp) (k : IntKind) (m n : Nat) : Nat :=
  match op with
  | .and => m &&& n
  | .or => m ||| n
  | .xor => m ^^^ n
  | _ => m &&& (maskK k - n)
/-- bits, the limit, the mask of a kind, written out -/
def vk (k : IntKind) (f : Nat → Nat → Nat → Prop) : Prop :=
  match k with
  | .i64 => f 64 9223372036854775808 18446744073709551615
  | .i32 => f 32 2147483648 4294967295
  | .i16 => f 16 32768 65535
  | .i8 => f 8 128 255
  | .u8 => f 8 256 255
  | .u16 => f 16 65536 65535
  | .u32 => f 32 4294967296 4294967295
  | .u64 => f 64 18446744073709551616 18446744073709551615
theorem vk_eq (k : IntKind) (f : Nat → Nat → Nat → Prop) : vk k f = f (kbits k) (lim k) (maskK k) := by cases k <;> rfl
def vbit (k : IntKind) (x y : Int) (op : Nat → Nat → Nat → Nat) (K : Value → Prop) : Prop :=
  vk k fun _ L M => ∃ m n r : Nat, (x = (m : Int) ∧ y = (n : Int) ∧ m < L ∧ n < L) ∧ op M m n = r ∧ K (.int k (r : Nat))
/-- from kind to kind: does every number of the first fit the second? -/
def widens : IntKind → IntKind → Bool
  | .u8, .u16 | .u8, .u32 | .u8, .u64 | .u16, .u32 | .u16, .u64 | .u32, .u64 | .i64, .u64 | .u8, .u8 | .u16, .u16 | .u32, .u32 | .u64, .u64 => true
  | _, _ => false

def notE : EV → Option EV
  | .tt => some .ff
  | .ff => some .tt
  | .v (.bool b) => some (.v (.bool (!b)))
  | _ => none
def addM (off m sz : Nat) : Nat := match sz with
  | 1 => m + off
  | _ => m * sz + off

section
variable {σ : Type} (T : Tab) (Fs : List Nat) (H : Hand σ)

def vcmp (op : BinOp) (x y : Int) (K : EV → Prop) : Prop :=
  match op with
  | .eql => K (.v (.bool (decide (x = y))))
  | .neq => K (.v (.bool (decide (x ≠ y))))
  | .lss => K (.v (.bool (decide (x < y))))
  | .leq => K (.v (.bool (decide (x ≤ y))))
  | .gtr => K (.v (.bool (decide (y < x))))
  | .geq => K (.v (.bool (decide (y ≤ x))))
  | _ => False
def varith (op : BinOp) (k : IntKind) (x y : Int) (K : EV → Prop) : Prop :=
  match op with
  | .add => vwrap k (x + y) fun v => K (.v v)
  | .sub => vwrap k (x - y) fun v => K (.v v)
  | .mul => vwrap k (x * y) fun v => K (.v v)
  | .quo => vk k fun _ L _ => (0 ≤ x ∧ 0 < y ∧ x < L) ∧ K (.v (.int k (x / y)))
  | .rem => (0 ≤ x ∧ 0 < y) ∧ K (.v (.int k (x % y)))
  | .and => vbit k x y (fun _ m n => m &&& n) fun v => K (.v v)
  | .or => vbit k x y (fun _ m n => m ||| n) fun v => K (.v v)
  | .xor => vbit k x y (fun _ m n => m ^^^ n) fun v => K (.v v)
  | .andNot => vbit k x y (fun M m n => m &&& (M - n)) fun v => K (.v v)
  | op => vcmp op x y K
def vshift (op : BinOp) (k : IntKind) (x y : Int) (K : EV → Prop) : Prop :=
  match op with
  | .shl => vk k fun b _ _ => ∃ m : Nat, (y = (m : Int) ∧ m ≤ b) ∧ vwrap k (x * 2 ^ m) fun v => K (.v v)
  | .shr => vk k fun b _ _ => ∃ m : Nat, (y = (m : Int) ∧ m ≤ b) ∧ K (.v (.int k (x / 2 ^ m)))
  | _ => False
def vstr (op : BinOp) (s t : ByteArray) (K : EV → Prop) : Prop :=
  match op with
  | .add => s.size + t.size ≤ 9223372036854775807 ∧ K (.v (.string (s ++ t)))
  | .eql => K (.v (.bool (decide (s = t))))
  | .neq => K (.v (.bool (decide (s ≠ t))))
  | .lss => K (.v (.bool (Op.bytesLess s.data.toList t.data.toList)))
  | _ => False
def vbin (op : BinOp) (t : Nat) (xo yo : Operand) (x y : Value) (s : σ) (K : EV → σ → Prop) : Prop :=
  match tfind T t with
  | some ⟨.other, _⟩ => H.run (do eqGuard op t xo yo x y; binOp op t x y) s fun v s => K (.v v) s
  | _ => match op, x, y with
  | .shl, .int k a, .int _ b => vshift .shl k a b (K · s)
  | .shr, .int k a, .int _ b => vshift .shr k a b (K · s)
  | op, .int k a, .int k' b => (match decEq k k' with
    | .isTrue _ => varith op k a b (K · s)
    | .isFalse _ => False)
  | op, .string a, .string b => vstr op a b (K · s)
  | op, x, y => H.run (do eqGuard op t xo yo x y; binOp op t x y) s fun v s => K (.v v) s
def vun (op : UnOp) (e : EV) (s : σ) (K : EV → σ → Prop) : Prop :=
  match op with
  | .not => match notE e with
    | some e' => K e' s
    | none => False
  | .neg => match e with
    | .v (.int k n) => vwrap k (0 - n) fun v => K (.v v) s
    | _ => False
  | .xor => match e with
    | .v (.int k n) => (match k.signed with
      | false => vk k fun _ L M => (0 ≤ n ∧ n < (L : Int)) ∧ K (.v (.int k ((M : Int) - n))) s
      | true => H.run (Op.unary .xor (.int k n)) s fun v s => K (.v v) s)
    | e => H.run (Op.unary .xor e.val) s fun v s => K (.v v) s
  | op => H.run (Op.unary op e.val) s fun v s => K (.v v) s
def vconv (src dst : Nat) (e : EV) (s : σ) (K : EV → σ → Prop) : Prop :=
  match tfind T src, tfind T dst, e with
  | some ⟨.int _, _⟩, some ⟨.int k, _⟩, .v (.int k1 n) => (match widens k1 k with
    | true => vk k fun _ L _ => (0 ≤ n ∧ n < L) ∧ K (.v (.int k n)) s
    | false => vwrap k n fun v => K (.v v) s)
  | some ⟨.str, _⟩, some ⟨.str, _⟩, .v (.string x) => K (.v (.string x)) s
  | _, _, e => H.run (convert src dst e.val) s fun v s => K (.v v) s
def vfield (t : Nat) (e : EV) (f : Nat) (K : EV → Prop) : Prop :=
  match e with
  | .v (.pointer (some ⟨b, off, none⟩)) => (match tfind T t with
    | some ⟨.struct fs, _⟩ => (match fs[f]? with
      | some (o, ft) => (match tfind T ft with
        | some ⟨_, _ + 1⟩ => K (.v (.pointer (some ⟨b, off + o, none⟩)))
        | _ => False)
      | none => False)
    | _ => False)
  | _ => False
def vindexAddr (t : Nat) (e i : EV) (K : EV → Prop) : Prop :=
  match i with
  | .v (.int _ idx) => (match tfind T t with
    | some ⟨.arr len el, _⟩ => (match e with
      | .v (.pointer (some ⟨b, off, none⟩)) => (match tfind T el with
        | some ⟨_, sz⟩ => ∃ m : Nat, (idx = (m : Int) ∧ m < len) ∧ K (.v (.pointer (some ⟨b, addM off m sz, none⟩)))
        | none => False)
      | _ => False)
    | some ⟨.slice el, _⟩ => (match e with
      | .v (.slice (some ⟨b, off, none⟩) len _) => (match tfind T el with
        | some ⟨_, sz⟩ => ∃ m : Nat, (idx = (m : Int) ∧ m < len) ∧ K (.v (.pointer (some ⟨b, addM off m sz, none⟩)))
        | none => False)
      | _ => False)
    | _ => False)
  | _ => False
def vindex (t : Nat) (e i : EV) (s : σ) (K : EV → σ → Prop) : Prop :=
  match i with
  | .v (.int k idx) => (match e with
    | .v (.string x) => (match tfind T t with
      | some ⟨.str, _⟩ => ∃ m : Nat, (idx = (m : Int) ∧ m < x.size) ∧ K (.v (.int .u8 (byt x m : Nat))) s
      | _ => False)
    | e => H.run (Instr.index t e.val (.int k idx)) s fun v s => K (.v v) s)
  | _ => False
def oopd (l : Env) : Option Operand → Option (Option Value)
  | none => some none
  | some x => match opd l x with
    | some e => some (some e.val)
    | none => none
def vslice (t : Nat) (e : EV) (lo hi mx : Option Value) (s : σ) (K : EV → σ → Prop) : Prop :=
  match e, mx, lo, hi with
  | .v (.string x), none, none, none => (match tfind T t with
    | some ⟨.str, _⟩ => K (.v (.string (x.extract 0 x.size))) s
    | _ => False)
  | .v (.string x), none, some (.int _ a), none => (match tfind T t with
    | some ⟨.str, _⟩ => ∃ m : Nat, (a = (m : Int) ∧ m ≤ x.size) ∧ K (.v (.string (x.extract m x.size))) s
    | _ => False)
  | .v (.string x), none, none, some (.int _ b) => (match tfind T t with
    | some ⟨.str, _⟩ => ∃ n : Nat, (b = (n : Int) ∧ n ≤ x.size) ∧ K (.v (.string (x.extract 0 n))) s
    | _ => False)
  | .v (.string x), none, some (.int _ a), some (.int _ b) => (match tfind T t with
    | some ⟨.str, _⟩ => ∃ m n : Nat, (a = (m : Int) ∧ b = (n : Int) ∧ m ≤ n ∧ n ≤ x.size) ∧ K (.v (.string (x.extract m n))) s
    | _ => False)
  | e, mx, lo, hi => H.run (Instr.sliceAt t e.val lo hi mx) s fun v s => K (.v v) s
def vbuiltin (b : Builtin) (argTypes : Array TypeId) (ty : TypeId) (args : List Value) (s : σ) (K : EV → σ → Prop) : Prop :=
  match b, args with
  | .len, [.string x] => (match (argTypes[0]?).map (tfind T) with
    | some (some ⟨.str, _⟩) => K (.v (.int .i64 x.size)) s
    | _ => False)
  | .len, [.slice _ n _] => (match (argTypes[0]?).map (tfind T) with
    | some (some ⟨.slice _, _⟩) => K (.v (.int .i64 n)) s
    | _ => False)
  | .len, args => H.run (Builtin.len_ argTypes ty args.toArray) s fun v s => K (.v v) s
  | .min, [.int k x, .int _ y] => K (.v (.int k (min x y))) s
  | .min, [.int k x, .int _ y, .int _ z] => K (.v (.int k (min (min x y) z))) s
  | .min, args => H.run (Builtin.min_ argTypes ty args.toArray) s fun v s => K (.v v) s
  | .max, [.int k x, .int _ y] => K (.v (.int k (max x y))) s
  | .max, args => H.run (Builtin.max_ argTypes ty args.toArray) s fun v s => K (.v v) s
  | .append, args => H.run (Builtin.append_ argTypes ty args.toArray) s fun v s => K (.v v) s
  | .copy, args => H.run (Builtin.copy_ argTypes ty args.toArray) s fun v s => K (.v v) s
  | .cap, args => H.run (Builtin.cap_ argTypes ty args.toArray) s fun v s => K (.v v) s
  | .clear, args => H.run (Builtin.clear_ argTypes ty args.toArray) s fun v s => K (.v v) s
  | .unsafeString, args => H.run (Builtin.unsafeString_ argTypes ty args.toArray) s fun v s => K (.v v) s
  | .unsafeSliceData, args => H.run (Builtin.unsafeSliceData_ argTypes ty args.toArray) s fun v s => K (.v v) s
  | _, _ => False
def memB (f : Nat) : List Nat → Bool
  | [] => false
  | g :: l => match Nat.beq f g with
    | true => true
    | false => memB f l
def vcallf (f : Nat) (args : List Value) (s : σ) (K : EV → σ → Prop) : Prop :=
  match memB f Fs with
  | true => H.call f args.toArray s fun v s => K (.v v) s
  | false => ∃ e, H.ext f args.toArray e ∧ H.run e s fun v s => K (.v v) s
def vcall (l : Env) (c : Call) (ty : TypeId) (s : σ) (K : EV → σ → Prop) : Prop :=
  match opds l c.args.toList with
  | none => False
  | some args => match c.callee with
    | .builtin b => vbuiltin T H b c.argTypes ty args s K
    | .value f => (match opd l f with
      | some (.v (.func (.func g) first captured)) => vcallf Fs H g (first.toList ++ args ++ captured.toList) s K
      | some (.v (.func (.yield i) first _)) => H.yield i (first.toList ++ args).toArray s fun v s => K (.v v) s
      | _ => False)
    | .invoke _ _ => False
def partsOf (l : Env) : List (Nat × Operand) → Option (List (Nat × Value))
  | [] => some []
  | (i, x) :: r => match opd l x with
    | none => none
    | some e => match partsOf l r with
      | none => none
      | some vs => some ((i, e.val) :: vs)
def vop (l : Env) (o : Op) (ty : TypeId) (s : σ) (K : EV → σ → Prop) : Prop :=
  match o with
  | .move x | .assign x => (match opd l x with
    | some e => K e s
    | none => False)
  | .pick c a b => (match opd l c with
    | some .tt => (match opd l a with
      | some e => K e s
      | none => False)
    | some .ff => (match opd l b with
      | some e => K e s
      | none => False)
    | some (.v (.bool t)) => (match opd l a, opd l b with
      | some ea, some eb => (t = true → K ea s) ∧ (t = false → K eb s)
      | _, _ => False)
    | _ => False)
  | .extract x i => (match opd l x with
    | some (.v (.tuple vs)) => (match vs.toList[i]? with
      | some v => K (.v v) s
      | none => False)
    | _ => False)
  | .binOp op t x y _ => (match opd l x, opd l y with
    | some ex, some ey => vbin T H op t x y ex.val ey.val s K
    | _, _ => False)
  | .unOp op _ x => (match opd l x with
    | some e => vun H op e s K
    | none => False)
  | .convert a d x => (match opd l x with
    | some e => vconv T H a d e s K
    | none => False)
  | .nilCheck x => (match opd l x with
    | some (.v (.pointer (some a))) => K (.v (.pointer (some a))) s
    | some (.v (.func (.func f) a b)) => K (.v (.func (.func f) a b)) s
    | _ => False)
  | .makeFunc fn first cap => (match opds l first.toList, opds l cap.toList with
    | some a, some b => K (.v (.func fn a.toArray b.toArray)) s
    | _, _ => False)
  | .fieldAddr t x f => (match opd l x with
    | some e => vfield T t e f fun e => K e s
    | none => False)
  | .field t x f => (match opd l x with
    | some e => H.run (Instr.field t e.val f) s fun v s => K (.v v) s
    | none => False)
  | .indexAddr t x i => (match opd l x, opd l i with
    | some e, some ei => vindexAddr T t e ei fun e => K e s
    | _, _ => False)
  | .index t x i => (match opd l x, opd l i with
    | some e, some ei => vindex T H t e ei s K
    | _, _ => False)
  | .slice t x lo hi mx => (match opd l x, oopd l lo, oopd l hi, oopd l mx with
    | some e, some lo, some hi, some mx => vslice T H t e lo hi mx s K
    | _, _, _, _ => False)
  | .load t x => (match opd l x with
    | some e => H.run (Instr.loadAt t e.val) s fun v s => K (.v v) s
    | none => False)
  | .store t x y => (match opd l x, opd l y with
    | some e, some ey => H.run (do Instr.storeAt t e.val ey.val; pure undef) s fun v s => K (.v v) s
    | _, _ => False)
  | .alloc t => H.run (Instr.alloc t true (.tuple #[])) s fun v s => K (.v v) s
  | .box t x => (match opd l x with
    | some e => H.run (Instr.box t e.val) s fun v s => K (.v v) s
    | none => False)
  | .build t ps => (match partsOf l ps.toList with
    | some vs => H.run (Instr.build t vs.toArray) s fun v s => K (.v v) s
    | none => False)
  | .buildSlice t n ps => (match partsOf l ps.toList with
    | some vs => H.run (Instr.buildSlice t n vs.toArray) s fun v s => K (.v v) s
    | none => False)
  | .makeSlice t a b => (match opd l a, opd l b with
    | some ea, some eb => H.run (Instr.makeSlice t ea.val eb.val) s fun v s => K (.v v) s
    | _, _ => False)
  | .sliceToArrayPointer t x => (match opd l x with
    | some e => H.run (Instr.arrayAt t e.val) s fun v s => K (.v v) s
    | none => False)
  | .makeMap t r => (match oopd l r with
    | some r => H.run (Instr.makeMap t r) s fun v s => K (.v v) s
    | none => False)
  | .lookup t x i ok => (match opd l x, opd l i with
    | some e, some ei => H.run (Instr.lookup t e.val ei.val ok) s fun v s => K (.v v) s
    | _, _ => False)
  | .mapUpdate t m k x => (match opd l m, opd l k, opd l x with
    | some em, some ek, some ex => H.run (do Instr.mapUpdate t em.val ek.val ex.val; pure undef) s fun v s => K (.v v) s
    | _, _, _ => False)
  | .insert t m k x => (match opd l m, opd l k, opd l x with
    | some em, some ek, some ex => H.run (do Instr.mapUpdate t em.val ek.val ex.val; pure undef) s fun v s => K (.v v) s
    | _, _, _ => False)
  | .call c => vcall T Fs H l c ty s K
  | .makeInterface t x => (match opd l x with
    | some e => H.run (Instr.makeInterface t e.val) s fun v s => K (.v v) s
    | none => False)
  | .typeAssert x xt t ok => (match opd l x with
    | some e => H.run (Instr.typeAssert e.val xt t ok) s fun v s => K (.v v) s
    | none => False)
  | .panic x => (match opd l x with
    | some e => H.pan e.val s
    | none => False)
  | _ => False

def gslot (all : List Oper) (j : Nat) : Option Nat := (all[j]?).bind (·.dst)
abbrev vdst (n : Nat) (o : Oper) (l : Env) (K : Env → σ → Prop) (e : EV) (s : σ) : Prop :=
  match o.dst with
  | some d => (match Nat.blt d n with
    | true => (match e.isM with
      | false => K ((d, e) :: l) s
      | true => False)
    | false => False)
  | none => K l s
abbrev vops (n : Nat) (all : List Oper) : List Oper → Env → σ → (Env → σ → Prop) → Prop
  | [], l, s, K => K l s
  | o :: rest, l, s, K => match o.guard with
    | none => vop T Fs H l o.op o.type s (vdst n o l fun l s => vops n all rest l s K)
    | some (j, want) => match gslot all j with
      | none => False
      | some d => match look l d with
        | some .tt => (match want with
          | true => vop T Fs H l o.op o.type s (vdst n o l fun l s => vops n all rest l s K)
          | false => vdst n o l (fun l s => vops n all rest l s K) (.v undef) s)
        | some .ff => (match want with
          | true => vdst n o l (fun l s => vops n all rest l s K) (.v undef) s
          | false => vop T Fs H l o.op o.type s (vdst n o l fun l s => vops n all rest l s K))
        | some (.v (.bool b)) => (match want with
          | true => (b = true → vop T Fs H ((d, .tt) :: l) o.op o.type s (vdst n o ((d, .tt) :: l) fun l s => vops n all rest l s K)) ∧
              (b = false → vdst n o ((d, .ff) :: l) (fun l s => vops n all rest l s K) (.v undef) s)
          | false => (b = true → vdst n o ((d, .tt) :: l) (fun l s => vops n all rest l s K) (.v undef) s) ∧
              (b = false → vop T Fs H ((d, .ff) :: l) o.op o.type s (vdst n o ((d, .ff) :: l) fun l s => vops n all rest l s K)))
        | some (.v (.tuple _)) => vdst n o l (fun l s => vops n all rest l s K) (.v undef) s
        | _ => False
end

def nrmH (P : Program) : Hand World where
  run := fun s w K => ∃ v w', s.run P w = .ok v w' ∧ K v w'
  call := fun f args w K => Calls P f args w fun e w' => ∃ v, e = .returned v ∧ K v w'
  yield := fun i args w K => YieldAt Fence.wide 0 P i args w fun e w' => ∃ v, e = .returned v ∧ K v w'
  ext := extP P
/-- The same, of a region without a call of yield. -/
def nrmH0 (P : Program) : Hand World where
  run := fun s w K => ∃ v w', s.run P w = .ok v w' ∧ K v w'
  call := fun f args w K => Calls P f args w fun e w' => ∃ v, e = .returned v ∧ K v w'
  yield := fun _ _ _ _ => False
  ext := extP P
/-- The same, where a call may also end in a panic. -/
def nrmHX (P : Program) (kp : List PanicEntry → World → Prop) : Hand World where
  run := fun s w K => ∃ v w', s.run P w = .ok v w' ∧ K v w'
  call := fun f args w K => Calls P f args w fun e w' => (∃ v, e = .returned v ∧ K v w') ∨ ∃ c, e = .panicked c ∧ kp c w'
  yield := fun i args w K => YieldAt Fence.wide 0 P i args w fun e w' => ∃ v, e = .returned v ∧ K v w'
  ext := extP P
  pan := fun v w => (∃ t x, v = .iface t x) ∧ kp [{ v, recovered := false }] w

/-- The widest fence, in a round or in none. -/
def wideR (r : Option Nat) : Fence := { fn := fun _ => True, depth := none, alive := false, round := r }
/-! ### code -/
structure KK where
  nrm : Env → World → Prop
  ret : Env → World → Prop
  ex : Nat → Env → World → Prop
  go : Nat → Env → World → Prop := fun _ _ _ => False
  pan : Option (List PanicEntry → Env → World → Prop) := none
def QK (n : Nat) (K : KK) : Exit → Act → World → Prop
  | .normal, a, w => ∃ l, At n l a ∧ K.nrm l w
  | .ret, a, w => ∃ l, At n l a ∧ K.ret l w
  | .exit i, a, w => ∃ l, At n l a ∧ K.ex i l w
  | .goto i, a, w => ∃ l, At n l a ∧ K.go i l w
  | .panic c, a, w => match K.pan with
    | none => False
    | some kp => ∃ l, At n l a ∧ kp c l w
  | .outgrown, _, _ => False

section
variable (P : Program) (T : Tab) (Fs : List Nat) (n : Nat)
def isDefer : Op → Bool
  | .defer _ => true
  | _ => false
def noDefer : List Oper → Bool
  | [] => true
  | o :: r => !isDefer o.op && noDefer r
/-- No range over a function, no scope of jumps: a body that is walked in a round. -/
def flat : Code → Bool
  | .skip | .label _ | .region _ _ _ | .exit _ | .goto _ | .ret => true
  | .seq a b => flat a && flat b
  | .cond _ a b => flat a && flat b
  | .block _ b => flat b
  | .loop b => flat b
  | _ => false
/-- A region that draws its order: what is owed is the region's own wp; rules below. -/
structure VDraw (ops : List Oper) (l : Env) (w : World) (K : Env → World → Prop) : Prop where
  out : ∀ (r : Option Nat) (m : Nat) (a : Act) (Q : Exit → Act → World → Prop), (∀ a w, ¬ Q .outgrown a w) → At n l a → (∀ l' a' w', At n l' a' → K l' w' → Q .normal a' w') →
    ∀ t, wpOpsIn (wideR r) m P ops.toArray Q (Region.schedule (P.follows .mixedOrders) ops.toArray t) a { w with drawn := w.drawn + 1 }
  plain : noDefer ops = true
/-- The same, where a call may end in a panic. -/
structure VDrawP (ops : List Oper) (l : Env) (w : World) (K : Env → World → Prop) (kp : List PanicEntry → Env → World → Prop) : Prop where
  out : ∀ (r : Option Nat) (m : Nat) (a : Act) (Q : Exit → Act → World → Prop), (∀ a w, ¬ Q .outgrown a w) → At n l a → (∀ l' a' w', At n l' a' → K l' w' → Q .normal a' w') →
    (∀ c l' a' w', At n l' a' → kp c l' w' → Q (.panic c) a' w') →
    ∀ t, wpOpsIn (wideR r) m P ops.toArray Q (Region.schedule (P.follows .mixedOrders) ops.toArray t) a { w with drawn := w.drawn + 1 }
  plain : noDefer ops = true
theorem VDrawP.of {ops : List Oper} {l : Env} {w : World} {K : Env → World → Prop} {kp : List PanicEntry → Env → World → Prop} (h : VDraw P n ops l w K) : VDrawP P n ops l w K kp :=
  ⟨fun r m a Q hq ha hk _ => h.out r m a Q hq ha hk, h.plain⟩
/-- A range over a function. -/
structure VRange (f : Operand) (ps : Array Tmp) (assign body : Code) (l : Env) (w : World) (K : KK) : Prop where
  out : ∀ (a : Act), At n l a → (Code.rangeFunc f ps assign body).wpIn Fence.wide 0 P (QK n K) a w
/-- A scope of jumps. -/
structure VScope (b : Code) (l : Env) (w : World) (K : KK) : Prop where
  out : ∀ (a : Act), At n l a → (Code.scope b).wpIn Fence.wide 0 P (QK n K) a w
/-- One thing behind another: what is behind stands under a name of its own while the first is walked. -/
structure VSeq (A : (Env → World → Prop) → Prop) (B : Env → World → Prop) : Prop where
  out : ∀ K0 : Env → World → Prop, (∀ l0 l w, Sub l0 l → B l0 w → K0 l w) → A K0
/-- A region's operations, cut ahead of each that is guarded and follows one that is not. -/
def chunk : List Oper → List (List Oper)
  | [] => []
  | o :: r => match chunk r with
    | [] => [[o]]
    | [] :: cs => [o] :: cs
    | (o2 :: c) :: cs => match o.guard, o2.guard with
      | none, some _ => [o] :: (o2 :: c) :: cs
      | _, _ => (o :: o2 :: c) :: cs
abbrev vchunks (all : List Oper) : List (List Oper) → Env → World → (Env → World → Prop) → Prop
  | [], l, w, K => K l w
  | [c], l, w, K => vops T Fs (nrmH P) n all c l w K
  | c :: cs, l, w, K => VSeq (fun K0 => vops T Fs (nrmH P) n all c l w K0) (fun l w => vchunks all cs l w K)
/-- What a defer statement lays. -/
def vdefer (l : Env) (c : Call) : Option Deferred :=
  match opds l c.args.toList with
  | none => none
  | some args => match c.callee with
    | .value f => (match opd l f with
      | some (.v (.func (.func g) first captured)) => some { target := .fn (.func g) captured, args := (first.toList ++ args).toArray }
      | _ => none)
    | _ => none
abbrev vopP (kp : List PanicEntry → Env → World → Prop) (o : Oper) (l : Env) (w : World) (K : Env → World → Prop) : Prop :=
  match o.op with
  | .defer c => (match vdefer l c with
    | some d => vdst n o ((n, .d d) :: l) K (.v undef) w
    | none => False)
  | op => vop T Fs (nrmHX P fun c w => kp c l w) l op o.type w (vdst n o l K)
/-- The operations, where a call may end in a panic. -/
abbrev vopsP (kp : List PanicEntry → Env → World → Prop) (all : List Oper) : List Oper → Env → World → (Env → World → Prop) → Prop
  | [], l, s, K => K l s
  | o :: rest, l, s, K => match o.guard with
    | none => vopP P T Fs n kp o l s fun l s => vopsP kp all rest l s K
    | some (j, want) => match gslot all j with
      | none => False
      | some d => match look l d with
        | some .tt => (match want with
          | true => vopP P T Fs n kp o l s fun l s => vopsP kp all rest l s K
          | false => vdst n o l (fun l s => vopsP kp all rest l s K) (.v undef) s)
        | some .ff => (match want with
          | true => vdst n o l (fun l s => vopsP kp all rest l s K) (.v undef) s
          | false => vopP P T Fs n kp o l s fun l s => vopsP kp all rest l s K)
        | some (.v (.bool b)) => (match want with
          | true => (b = true → vopP P T Fs n kp o ((d, .tt) :: l) s fun l s => vopsP kp all rest l s K) ∧
              (b = false → vdst n o ((d, .ff) :: l) (fun l s => vopsP kp all rest l s K) (.v undef) s)
          | false => (b = true → vdst n o ((d, .tt) :: l) (fun l s => vopsP kp all rest l s K) (.v undef) s) ∧
              (b = false → vopP P T Fs n kp o ((d, .ff) :: l) s fun l s => vopsP kp all rest l s K))
        | some (.v (.tuple _)) => vdst n o l (fun l s => vopsP kp all rest l s K) (.v undef) s
        | _ => False
abbrev vchunksP (kp : List PanicEntry → Env → World → Prop) (all : List Oper) : List (List Oper) → Env → World → (Env → World → Prop) → Prop
  | [], l, w, K => K l w
  | [c], l, w, K => vopsP P T Fs n kp all c l w K
  | c :: cs, l, w, K => VSeq (fun K0 => vopsP P T Fs n kp all c l w K0) (fun l w => vchunksP kp all cs l w K)
abbrev vgo : Code → Env → World → KK → Prop
  | .skip, l, w, K => K.nrm l w
  | .label _, l, w, K => K.nrm l w
  | .region _ ops false, l, w, K => (match K.pan with
    | none => vchunks P T Fs n ops.toList (chunk ops.toList) l w K.nrm
    | some kp => vchunksP P T Fs n kp ops.toList (chunk ops.toList) l w K.nrm)
  | .region _ ops true, l, w, K => (match K.pan with
    | none => VDraw P n ops.toList l w K.nrm
    | some kp => VDrawP P n ops.toList l w K.nrm kp)
  | .seq a b, l, w, K => VSeq (fun K0 => vgo a l w { K with nrm := K0 }) (fun l w => vgo b l w K)
  | .cond c a b, l, w, K => (match opd l c with
    | some .tt => vgo a l w K
    | some .ff => vgo b l w K
    | some (.v (.bool t)) => (t = true → vgo a l w K) ∧ (t = false → vgo b l w K)
    | _ => False)
  | .block id b, l, w, K => vgo b l w { K with ex := fun i l w => match Nat.beq i id with
    | true => K.nrm l w
    | false => K.ex i l w }
  | .loop b, l, w, K => ∃ I : Nat → Env → World → Prop, (∃ m l0, I m l0 w ∧ Sub l0 l) ∧
      ∀ m l w, I m l w → vgo b l w { K with nrm := fun l' w' => ∃ m' l'', m' < m ∧ I m' l'' w' ∧ Sub l'' l' }
  | .exit i, l, w, K => K.ex i l w
  | .ret, l, w, K => K.ret l w
  | .scope b, l, w, K => VScope P n b l w K
  | .rangeFunc f ps a b, l, w, K => VRange P n f ps a b l w K
  | .goto i, l, w, K => K.go i l w
  | .refuse _, _, _, _ => False
abbrev vres : List ResultVar → Env → World → (List Value → Prop) → Prop
  | [], _, _, k => k []
  | .tmp t :: r, l, w, k => (match look l t with
    | some e => vres r l w fun vs => k (e.val :: vs)
    | none => False)
  | .cell t ty :: r, l, w, k => (match look l t with
    | some (.v (.pointer (some A))) => ∃ v, (loadVar ty A).run P w = .ok v w ∧ vres r l w fun vs => k (v :: vs)
    | _ => False)
def one : List Value → Value
  | [v] => v
  | vs => .tuple vs.toArray
/-- The marks are come to at the function's end, the newest first. -/
abbrev vleave : List Deferred → World → (World → Prop) → Prop
  | [], w, k => k w
  | d :: r, w, k => match d.target with
    | .collected D => w.heap[D]? = some (.deferred (some [])) ∧ vleave r (w.putObj D (.deferred none)) k
    | _ => False
/-- A deferred call. -/
abbrev DefC (f : FuncId) (args : Array Value) (u : FrameMode) (w : World) (R : Ending → FrameMode → World → Prop) : Prop := CallsDIn (wideR none) 0 P f args u w R
/-- The marks and the deferred calls, where the function may end in a panic. -/
abbrev vleaveD (rs : List ResultVar) (l : Env) (R : Ending → World → Prop) : List Deferred → FrameMode → World → Prop
  | [], u, w => (match u with
    | .returning => vres P rs l w fun vs => R (.returned (one vs)) w
    | .panicking c => R (.panicked c) w
    | .run => False)
  | d :: ds, u, w => match d.target with
    | .collected D => (u ≠ .run ∧ w.heap[D]? = some (.deferred (some []))) ∧ vleaveD rs l R ds u (w.putObj D (.deferred none))
    | .fn (.func f) cap => (u ≠ .run ∧ memB f Fs = true) ∧ DefC P f (d.args ++ cap) u w fun e u' w' => match e with
      | .returned _ => vleaveD rs l R ds (settle u') w'
      | .panicked c => vleaveD rs l R ds (raised u' c) w'
      | .outgrown => False
    | _ => False
def retKD (rs : List ResultVar) (R : Ending → World → Prop) : KK where
  nrm := fun l w => vleaveD P Fs rs l R (marks l) .returning w
  ret := fun l w => vleaveD P Fs rs l R (marks l) .returning w
  ex := fun _ _ _ => False
  pan := some fun c l w => vleaveD P Fs rs l R (marks l) (.panicking c) w
def retK (rs : List ResultVar) (R : Value → World → Prop) : KK where
  nrm := fun l w => vleave (marks l) w fun w => vres P rs l w fun vs => R (one vs) w
  ret := fun l w => vleave (marks l) w fun w => vres P rs l w fun vs => R (one vs) w
  ex := fun _ _ _ => False
def entry : Nat → List Value → Env
  | _, [] => []
  | i, v :: vs => (i, .v v) :: entry (i + 1) vs
end
end V
end Go.Proofs.YtmlmfmdmomegpaaGreatDoor
