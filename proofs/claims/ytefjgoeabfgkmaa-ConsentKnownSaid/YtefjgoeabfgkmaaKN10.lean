/- Slices of rows and of octets that come in: what is read of them. Own work. -/
/- Chapter 12: drafts: events, ends, words, probes. -/
/- Chapter 12: drafts: probes of events. -/
/- Chapter 12: drafts: what a step does to a watch. -/
/- A slice that is only read, as a thing in memory. Own work. -/
/- Chapter 12: drafts: what a step does, walked. -/
/- Chapter 12: drafts: the watch of a draft. -/
/- Chapter 12: changed watches. -/
/- Drawn regions as trees, over a family of classes of worlds: each quiet operation has a class of its own (what it reads), and barriers of its own (what writes that). Own work. No program is named here. -/
/- Chapter 12: the watches to look at. -/
/- Chapter 12: the four watches of a law. -/
/- Chapter 12: the four watches of a law, walked. -/
/- Chapter 12: the layer does something. -/
/- Chapter 12: the layer does something, walked. -/
/- Chapter 12: what the closed statement computes. -/
/- Chapter 12: a list of nineteen changes is made. -/
import Derived.Test.YtefjgoeabfgkmaaKN08
import Derived.Test.YtefjgoeabfgkmaaKN03
import Derived.Test.YtefjgoeabfgkmaaKN09
import Derived.Test.YtefjgoeabfgkmaaKN05
namespace Go.Proofs.Ytefjgoeabfgkmaa
set_option linter.unusedSimpArgs false
set_option linter.unusedVariables false
set_option maxRecDepth 100000
open Go.RowKit V
namespace V
theorem SLn.shape {w : World} {sz : Nat} {v : Value} {xs : List (List Value)} (h : SLn w sz v xs) : ∃ p c, v = .slice p xs.length c := by
 rcases h with ⟨rfl, rfl⟩ | ⟨a, c, rfl, rfl⟩ | ⟨g, off, c, rfl, _⟩
 ·exact ⟨_, _, rfl⟩
 ·exact ⟨_, _, rfl⟩
 ·exact ⟨_, _, rfl⟩
theorem SLn.len {w : World} {sz : Nat} {v : Value} {xs : List (List Value)} (h : SLn w sz v xs) : xs.length ≤ maxLen := by
 rcases h with ⟨_, rfl⟩ | ⟨a, c, _, rfl⟩ | ⟨g, off, c, _, h1, h2, _⟩
 ·exact Nat.zero_le _
 ·exact Nat.zero_le _
 ·omega
theorem SLn.ext {w w' : World} {sz : Nat} {v : Value} {xs : List (List Value)} (h : SLn w sz v xs) (hx : Ext w w') : SLn w' sz v xs := by
 rcases h with h | h | ⟨g, off, c, hv, h1, h2, h3⟩
 ·exact .inl h
 ·exact .inr (.inl h)
 ·exact .inr (.inr ⟨g, off, c, hv, h1, h2, fun j x hj => ⟨(h3 j x hj).1, fun i y hy => Ext.cell hx ((h3 j x hj).2 i y hy)⟩⟩)
theorem SLn.cells {w : World} {sz : Nat} {p : Option Addr} {n c : Nat} {xs : List (List Value)} (h : SLn w sz (.slice p n c) xs) {j : Nat} {x : List Value} (hj : xs[j]? = some x) :
  ∃ g off, p = some ⟨g, off, none⟩ ∧ x.length = sz ∧ ∀ i y, x[i]? = some y → w.cell? ⟨g, addM off j sz + i, none⟩ = some y := by
 rcases h with ⟨_, h⟩ | ⟨_, _, _, h⟩ | ⟨g, off, c', hv, _, _, h3⟩
 ·rw [h] at hj; simp at hj
 ·rw [h] at hj; simp at hj
 ·simp only [Value.slice.injEq] at hv
  refine ⟨g, off, hv.1, (h3 j x hj).1, fun i y hy => ?_⟩
  rw [addM_eq, Nat.add_assoc]
  exact (h3 j x hj).2 i y hy
theorem SLn.one {α : Type} {f : α → Value} {w : World} {v : Value} {l : List α} (h : SLn w 1 v (l.map fun a => [f a])) : SLv w v (l.map f) := by
 rcases h with ⟨rfl, h⟩ | ⟨a, c, rfl, h⟩ | ⟨g, off, c, rfl, hle, _, h⟩
 ·have : l = [] := List.map_eq_nil_iff.1 h
  subst this; exact .inl ⟨rfl, _, _, rfl⟩
 ·have : l = [] := List.map_eq_nil_iff.1 h
  subst this; exact .inl ⟨rfl, _, _, rfl⟩
 ·refine .inr ⟨g, off, c, by simp, by simpa using hle, fun j y hy => ?_⟩
  rw [List.getElem?_map, Option.map_eq_some_iff] at hy
  obtain ⟨s, hs, rfl⟩ := hy
  have := (h j [f s] (by simp [hs])).2 0 (f s) rfl
  simpa using this
theorem Rd.all {α : Type} {w : World} {s : Sh} {Q : α → Prop} {f : α → List Value} (h1 : ∀ cs, Rd w s cs → ∃ a, Q a ∧ cs = f a) :
  ∀ {xs : List (List Value)}, (∀ x ∈ xs, Rd w s x) → ∃ l : List α, xs = l.map f ∧ ∀ a ∈ l, Q a
 | [], _ => ⟨[], rfl, by simp⟩
 | x :: xs, h => by
  obtain ⟨a, ha, hx⟩ := h1 x (h x List.mem_cons_self)
  obtain ⟨l, hl, hq⟩ := Rd.all h1 (xs := xs) fun y hy => h y (List.mem_cons_of_mem _ hy)
  refine ⟨a :: l, by rw [List.map_cons, ← hx, ← hl], fun b hb => ?_⟩
  rcases List.mem_cons.1 hb with rfl | hb
  ·exact ha
  ·exact hq b hb
theorem conv_zero {P : Program} {T : Tab} (hT : tabOk P T = true) {src dst e n1 n2 n3 : Nat} (hs : tfind T src = some ⟨.slice e, n1⟩) (he : tfind T e = some ⟨.int .u8, n2⟩) (hd : tfind T dst = some ⟨.str, n3⟩) {w : World} {a : Option Addr} {cap : Nat} :
  (convert src dst (.slice a 0 cap)).run P w = .ok (.string ⟨#[]⟩) w := by
 cases a with
 | none => exact conv_nil (hT := hT) hs he hd
 | some a =>
  rw [run_convert_bytes_string w src dst e _ 0 cap (tab_slice hT hs) (tab_int hT he) (tab_str hT hd)]
  have hld := run_loadCells_list (P := P) w a [] (fun j v hj => by simp at hj)
  rw [run_bytesToString w _ 0 cap [] (by rw [show (0 : Nat) = ([] : List Value).length from rfl, hld]; rfl)]
  rfl
/-- the octets of a slice, as a string -/
theorem SLv.str {P : Program} {T : Tab} (hT : tabOk P T = true) {src dst e n1 n2 n3 : Nat} (hs : tfind T src = some ⟨.slice e, n1⟩) (he : tfind T e = some ⟨.int .u8, n2⟩) (hd : tfind T dst = some ⟨.str, n3⟩) {w : World} {v : Value} {l : List UInt8} (h : SLv w v (bytesV l)) :
  (convert src dst v).run P w = .ok (.string ⟨l.toArray⟩) w := by
 rcases h with ⟨h, a, c, rfl⟩ | ⟨g, off, c, rfl, _, hc⟩
 ·have : l = [] := List.map_eq_nil_iff.1 h
  subst this
  exact conv_zero hT hs he hd
 ·have hl : (bytesV l).length = l.length := by simp [bytesV]
  rw [hl]
  refine conv_bytes (hT := hT) hs he hd rfl fun j hj => ?_
  have hj' : j < (bytesV l).length := by omega
  rw [List.getElem?_eq_getElem hj']
  exact hc j _ (List.getElem?_eq_getElem hj')
end V
set_option maxHeartbeats 4000000
structure Ev where
 what : Nat
 id : Nat
 path : Nat
 after : Nat
 word : Nat
abbrev Ev.c (x : Ev) : List Value := [.int .u8 x.what, .int .u8 x.id, .int .u8 x.path, .int .u16 x.after, .int .u8 x.word]
structure Ev.Ok (x : Ev) : Prop where
 what : x.what < 256
 id : x.id < 256
 path : x.path < 256
 after : x.after < 65536
 word : x.word < 256
theorem addr_p (b : UInt8) : PureF Try.prog 8 #[.int .u8 (b.toNat : Nat)] (.agg #[.string ⟨#[10, 0, 0, b]⟩, .int .i64 1]) := by
 first | refine v_pure TTok FFok Try.func8 rfl rfl fun w0 => ?_ | refine v_pure (args := []) TTok FFok Try.func8 rfl rfl fun w0 => ?_
 conv => whnf
 refine VSeq.mk fun Kq hKq => ?_
 conv => whnf
 have hp := Hp.nil w0
 (refine hp.kalloc z24 fun al24 w hp hx => ?_; conv => whnf)
 (refine hKq _ _ _ (.refl _) ?_; clear hKq Kq; conv => whnf)
 (refine VSeq.mk fun Kq hKq => ?_; conv => whnf)
 (refine hp.kmade _ _ (fun b => .slice (some ⟨b, 0, none⟩) 4 4) (mks67_4_0_1_2_3 _ _ _ _ _) fun q w hp hx => ?_; conv => whnf)
 refine ⟨_, _, Blk.str (l := [10, 0, 0, b]) (hp.get (i := 0) rfl) TTok rfl rfl rfl rfl rfl, ?_⟩
 conv => whnf
 (refine ⟨_, _, bld24_0_1 _ _ _, ?_⟩; conv => whnf)
 (refine hp.kstA TTok rfl 1 rfl rfl (oneC_of rfl) (by rfl) fun w hp => ?_; try simp only [List.set_cons_zero, List.set_cons_succ, EV.val] at hp; conv => whnf)
 (refine hKq _ _ _ (.refl _) ?_; clear hKq Kq; conv => whnf)
 (refine ⟨_, Blk.lvN (hp.get (i := 1) rfl) TTok rfl rfl, ?_⟩; conv => whnf)
 (exact ⟨rfl, hp.ext⟩)
set_option maxHeartbeats 1000000
set_option maxHeartbeats 1600000
abbrev Ev.now (x : Ev) (y : Wt) : Int := y.now + (x.after : Int) % 7000
theorem end_ok (h : ByteArray) (p : Int) (h1 : h.size ≤ 4) (h2 : 0 ≤ p ∧ p ≤ 2) : Ad.Ok ⟨h, p⟩ := ⟨by unfold SzS maxLen; show h.size ≤ _; omega, ⟨by show _ ≤ p; omega, by show p ≤ _; omega⟩⟩
/-- a drafted watch -/
structure Dr (B : Nat) (y : Wt) : Prop where
 v : Wv y
 s : Ws y
 now : y.now ≤ 7000 * (B : Int)
 ser : y.ser ≤ (B : Int)
 nxt : y.nxt < y.now + 6000
theorem Dr.ok {B : Nat} {y : Wt} (h : Dr B y) : y.Ok := h.s.ok h.v
namespace V
def vblk : Value → Option Nat
 | .slice (some a) _ _ => some a.block
 | _ => none
/-- the slice v, which reads as the list xs; it hangs on its block, if it holds anything -/
def ritem (v : Value) (xs : List Value) : It := ⟨if xs.isEmpty then none else vblk v, fun w => SLv w v xs⟩
theorem ritem_ok (v : Value) (xs : List Value) : (ritem v xs).Ok := fun w w' _ hb h => by
 rcases h with h | ⟨g, off, c, rfl, hl, hc⟩
 ·exact .inl h
 ·refine .inr ⟨g, off, c, rfl, hl, fun j x hj => ?_⟩
  have hne : xs.isEmpty = false := by
   cases xs with
   | nil => simp at hj
   | cons => rfl
  have h1 := hb g (by unfold ritem; rw [hne]; rfl)
  have h0 := hc j x hj
  unfold World.cell? at h0 ⊢
  rw [h1]; exact h0
theorem SLv.blk_lt {w : World} {v : Value} {xs : List Value} (h : SLv w v xs) (hne : xs.isEmpty = false) {b : Nat} (hb : vblk v = some b) : b < w.heap.size := by
 rcases h with ⟨rfl, _⟩ | ⟨g, off, c, rfl, hl, hc⟩
 ·cases hne
 ·cases xs with
  | nil => cases hne
  | cons x xs =>
   have := cell_lt (hc 0 x rfl)
   simp only [vblk, Option.some.injEq] at hb
   rw [← hb]; exact this
theorem HpM.pushR {M : List Nat} {w0 w w' : World} {H : List It} (hp : HpM M w0 w H) (hx : Ext w w') {v : Value} {xs : List Value} (hs : SLw w w' v xs) : HpM M w0 w' (ritem v xs :: H) := by
 refine hp.push hx (ritem_ok v xs) hs.s fun b hb => ?_
 unfold ritem at hb
 dsimp only at hb
 split at hb
 ·cases hb
 ·rename_i hne
  have hne : xs.isEmpty = false := by simpa using hne
  refine ⟨?_, hs.s.blk_lt hne hb⟩
  unfold vblk at hb
  split at hb
  ·rename_i a n c
   have := hs.f a n c rfl
   simp only [Option.some.injEq] at hb
   rw [← hb]; exact this
  ·cases hb
end V
set_option maxHeartbeats 8000000
set_option maxHeartbeats 8000000
set_option maxHeartbeats 8000000
structure Bn where
 what : Nat
 at_ : Nat
 n : Int
 s : ByteArray
 a : Ad
abbrev Bn.c (x : Bn) : List Value := [.int .u8 x.what, .int .u8 x.at_, .int .i64 x.n, .string x.s, .string x.a.h, .int .i64 x.a.p]
structure Bn.Ok (x : Bn) : Prop where
 what : x.what < 256
 at_ : x.at_ < 256
 n : In64 x.n
 s : SzS x.s
 a : x.a.Ok
def bendW (b : Bn) (y : Wt) : Wt :=
 if b.what % 11 = 0 then (if b.at_ % 2 = 0 then { y with a := b.a } else { y with b := b.a }) else
 if b.what % 11 = 1 then { y with now := b.n } else
 if b.what % 11 = 2 then { y with nxt := b.n } else
 if b.what % 11 = 3 then { y with til := b.n } else
 if b.what % 11 = 4 then { y with ser := b.n } else
 if b.what % 11 = 5 then { y with gone := !y.gone } else
 if b.what % 11 = 6 then { y with noise := b.s } else
 if b.what % 11 = 7 then { y with word := b.s } else
 if b.what % 11 = 8 then { y with fresh := b.s } else
 if b.what % 11 = 9 then { y with asked := y.asked ++ [b.n] } else
 if 0 < y.asked.length then { y with asked := y.asked.set (b.at_ % y.asked.length) b.n } else y
theorem bendW_0 {b : Bn} {y : Wt} (h : b.what % 11 = 0) : bendW b y = (if b.at_ % 2 = 0 then { y with a := b.a } else { y with b := b.a }) := by
 unfold bendW
 rw [if_pos h]
theorem bendW_1 {b : Bn} {y : Wt} (h : b.what % 11 = 1) : bendW b y = { y with now := b.n } := by
 unfold bendW
 rw [if_neg (by omega), if_pos h]
theorem bendW_2 {b : Bn} {y : Wt} (h : b.what % 11 = 2) : bendW b y = { y with nxt := b.n } := by
 unfold bendW
 rw [if_neg (by omega), if_neg (by omega), if_pos h]
theorem bendW_3 {b : Bn} {y : Wt} (h : b.what % 11 = 3) : bendW b y = { y with til := b.n } := by
 unfold bendW
 rw [if_neg (by omega), if_neg (by omega), if_neg (by omega), if_pos h]
theorem bendW_4 {b : Bn} {y : Wt} (h : b.what % 11 = 4) : bendW b y = { y with ser := b.n } := by
 unfold bendW
 rw [if_neg (by omega), if_neg (by omega), if_neg (by omega), if_neg (by omega), if_pos h]
theorem bendW_5 {b : Bn} {y : Wt} (h : b.what % 11 = 5) : bendW b y = { y with gone := !y.gone } := by
 unfold bendW
 rw [if_neg (by omega), if_neg (by omega), if_neg (by omega), if_neg (by omega), if_neg (by omega), if_pos h]
theorem bendW_6 {b : Bn} {y : Wt} (h : b.what % 11 = 6) : bendW b y = { y with noise := b.s } := by
 unfold bendW
 rw [if_neg (by omega), if_neg (by omega), if_neg (by omega), if_neg (by omega), if_neg (by omega), if_neg (by omega), if_pos h]
theorem bendW_7 {b : Bn} {y : Wt} (h : b.what % 11 = 7) : bendW b y = { y with word := b.s } := by
 unfold bendW
 rw [if_neg (by omega), if_neg (by omega), if_neg (by omega), if_neg (by omega), if_neg (by omega), if_neg (by omega), if_neg (by omega), if_pos h]
theorem bendW_8 {b : Bn} {y : Wt} (h : b.what % 11 = 8) : bendW b y = { y with fresh := b.s } := by
 unfold bendW
 rw [if_neg (by omega), if_neg (by omega), if_neg (by omega), if_neg (by omega), if_neg (by omega), if_neg (by omega), if_neg (by omega), if_neg (by omega), if_pos h]
theorem bendW_9 {b : Bn} {y : Wt} (h : b.what % 11 = 9) : bendW b y = { y with asked := y.asked ++ [b.n] } := by
 unfold bendW
 rw [if_neg (by omega), if_neg (by omega), if_neg (by omega), if_neg (by omega), if_neg (by omega), if_neg (by omega), if_neg (by omega), if_neg (by omega), if_neg (by omega), if_pos h]
theorem bendW_10 {b : Bn} {y : Wt} (h : b.what % 11 = 10) : bendW b y = (if 0 < y.asked.length then { y with asked := y.asked.set (b.at_ % y.asked.length) b.n } else y) := by
 unfold bendW
 rw [if_neg (by omega), if_neg (by omega), if_neg (by omega), if_neg (by omega), if_neg (by omega), if_neg (by omega), if_neg (by omega), if_neg (by omega), if_neg (by omega), if_neg (by omega)]
theorem Bend12_c {W : World} {v : Value} (b : Bn) (hb : b.Ok) (y : Wt) (hl : y.asked.length ≤ 1000) (hv : SLv W v (iv y.asked)) :
  Calls Try.prog 14 #[.agg b.c.toArray, .agg (y.c v).toArray] W fun e w' => ∃ u, e = .returned u ∧ ∃ v', u = .agg ((bendW b y).c v').toArray ∧ Ext W w' ∧ SLw W w' v' (iv (bendW b y).asked) := by
 have hsl : (iv y.asked).length = y.asked.length := List.length_map _
 have h1 : ∀ u ∈ iv y.asked, u.oneCell' = true := fun u hu => by
  obtain ⟨a, _, rfl⟩ := List.mem_map.1 hu
  rfl
 have hsrc := fun {w : World} (h : Ext W w) => (hv.ext h).src TTok (tx := 26) rfl h1
 obtain ⟨r, hr⟩ : ∃ r, bendW b y = r := ⟨_, rfl⟩
 rw [hr]
 have f0 := bendW_0 (b := b) (y := y)
 have f1 := bendW_1 (b := b) (y := y)
 have f2 := bendW_2 (b := b) (y := y)
 have f3 := bendW_3 (b := b) (y := y)
 have f4 := bendW_4 (b := b) (y := y)
 have f5 := bendW_5 (b := b) (y := y)
 have f6 := bendW_6 (b := b) (y := y)
 have f7 := bendW_7 (b := b) (y := y)
 have f8 := bendW_8 (b := b) (y := y)
 have f9 := bendW_9 (b := b) (y := y)
 have f10 := bendW_10 (b := b) (y := y)
 rw [hr] at f0 f1 f2 f3 f4 f5 f6 f7 f8 f9 f10
 clear hr
 obtain ⟨what, at_, n, s, ⟨bah, bap⟩⟩ := b
 obtain ⟨b1, b2, _, _, _⟩ := hb
 dsimp only at b1 b2
 obtain ⟨⟨ah, ap⟩, ⟨bh, bp⟩, now, nxt, til, ser, gone, noise, word, fresh, asked⟩ := y
 dsimp only [Wt.c, Bn.c] at hv hl hsl h1 hsrc f0 f1 f2 f3 f4 f5 f6 f7 f8 f9 f10 ⊢
 obtain ⟨p, c, rfl⟩ := hv.shape
 rw [hsl] at hv hsrc ⊢
 refine v_fn (args := [.agg #[.int .u8 what, .int .u8 at_, .int .i64 n, .string s, .string bah, .int .i64 bap], .agg #[.string ah, .int .i64 ap, .string bh, .int .i64 bp, .int .i64 now, .int .i64 nxt, .int .i64 til, .int .i64 ser, .bool gone, .string noise, .string word, .string fresh, .slice p asked.length c]]) TTok FFok Try.func14 rfl (Nat.le_of_ble_eq_true rfl) ?_
 conv => whnf
 refine VSeq.mk fun Kq hKq => ?_
 conv => whnf
 have hp := Hp.nil W
 refine hp.kboxA fun q2 w hp hx => ?_
 conv => whnf
 refine hp.kboxA fun q3 w hp hx => ?_
 conv => whnf
 (refine hp.kalloc z28 fun al28 w hp hx => ?_; conv => whnf)
 (refine hKq _ _ _ (.refl _) ?_; clear hKq Kq; conv => whnf)
 (refine VSeq.mk fun Kq hKq => ?_; conv => whnf)
 (refine hKq _ _ _ (.refl _) ?_; clear hKq Kq; conv => whnf)
 (refine VSeq.mk fun Kq hKq => ?_; conv => whnf)
 (refine ⟨_, _, Blk.ld (hp.get (i := 1) rfl) TTok rfl rfl, ?_⟩; conv => whnf)
 have hp := hp.knil 3 1
 refine hp.kapp sl26 0 rfl (hsrc hp.ext) (by omega) (by unfold maxLen; omega) fun v' w hp => ?_
 simp only [List.set_cons_zero, List.set_cons_succ] at hp
 rw [Nat.zero_add, List.nil_append] at hp
 obtain ⟨p1, c1, rfl⟩ := row_shape (hp.get (i := 0) rfl)
 clear hsrc
 conv => whnf
 have hk : what % 11 = 0 ∨ what % 11 = 1 ∨ what % 11 = 2 ∨ what % 11 = 3 ∨ what % 11 = 4 ∨ what % 11 = 5 ∨ what % 11 = 6 ∨ what % 11 = 7 ∨ what % 11 = 8 ∨ what % 11 = 9 ∨ what % 11 = 10 := by omega
 rcases hk with h | h | h | h | h | h | h | h | h | h | h
 ·have hr := f0 h
  clear f0 f1 f2 f3 f4 f5 f6 f7 f8 f9 f10
  (refine hp.kst1 TTok (by rfl) 2 (by rfl) (by rfl) (by rfl) (Nat.le_of_ble_eq_true rfl) fun w hp => ?_; try simp only [List.set_cons_zero, List.set_cons_succ, EV.val] at hp; conv => whnf)
  (refine hKq _ _ _ (.refl _) ?_; clear hKq Kq; conv => whnf)
  (refine VSeq.mk fun Kq hKq => ?_; conv => whnf)
  (refine VSeq.mk fun Kq hKq => ?_; conv => whnf)
  (refine ⟨_, _, Blk.ld (hp.get (i := 3) rfl) TTok rfl rfl, ?_⟩; conv => whnf)
  (refine And.intro (by first | omega | decide) ?_; conv => whnf)
  (refine hKq _ _ _ (.refl _) ?_; clear hKq Kq; conv => whnf)
  (refine VSeq.mk fun Kq hKq => ?_; conv => whnf)
  (refine hKq _ _ _ (.refl _) ?_; clear hKq Kq; conv => whnf)
  (refine And.intro (fun _ => ?_) (fun h => absurd (by first | rfl | assumption | omega | decide) (of_decide_eq_false h)); conv => whnf)
  (refine ⟨_, _, Blk.ld (hp.get (i := 3) rfl) TTok rfl rfl, ?_⟩; conv => whnf)
  (refine Or.inl (And.intro (by first | omega | decide) ?_); conv => whnf)
  (refine And.intro (by first | omega | decide) ?_; conv => whnf)
  (refine ⟨_, _, Blk.ldV (vs := [_, _]) (hp.get (i := 3) rfl) TTok rfl rfl rfl, ?_⟩; conv => whnf)
  by_cases e : at_ % 2 = 0
  ·refine ⟨0, ⟨by omega, by decide⟩, ?_⟩
   conv => whnf
   (refine hp.kstP TTok rfl 2 rfl (vs := [_, _]) rfl (oneC_of rfl) (Nat.le_of_ble_eq_true rfl) rfl fun w hp => ?_; try simp only [List.take_succ_cons, List.take_zero, List.drop_succ_cons, List.drop_zero, List.cons_append, List.nil_append, List.set_cons_zero, List.set_cons_succ, EV.val] at hp; conv => whnf)
   (refine hKq _ _ _ (.refl _) ?_; clear hKq Kq; conv => whnf)
   (refine VSeq.mk fun Kq hKq => ?_; conv => whnf)
   (refine ⟨_, _, Blk.ldV (vs := [_, _, _, _, _, _, _, _, _, _, _, _, _]) (hp.get (i := 2) rfl) TTok rfl rfl rfl, ?_⟩; conv => whnf)
   (refine hp.kstA TTok rfl 1 rfl rfl (oneC_of rfl) (by rfl) fun w hp => ?_; try simp only [List.set_cons_zero, List.set_cons_succ, EV.val] at hp; conv => whnf)
   (refine hKq _ _ _ (.refl _) ?_; clear hKq Kq; conv => whnf)
   (refine ⟨_, Blk.lvN (hp.get (i := 1) rfl) TTok rfl rfl, ?_⟩; conv => whnf)
   rw [hr, if_pos e]
   exact ⟨_, rfl, hp.ext, SLw.row hp (i := 0) rfl⟩
  ·refine ⟨1, ⟨by omega, by decide⟩, ?_⟩
   conv => whnf
   (refine hp.kstP TTok rfl 2 rfl (vs := [_, _]) rfl (oneC_of rfl) (Nat.le_of_ble_eq_true rfl) rfl fun w hp => ?_; try simp only [List.take_succ_cons, List.take_zero, List.drop_succ_cons, List.drop_zero, List.cons_append, List.nil_append, List.set_cons_zero, List.set_cons_succ, EV.val] at hp; conv => whnf)
   (refine hKq _ _ _ (.refl _) ?_; clear hKq Kq; conv => whnf)
   (refine VSeq.mk fun Kq hKq => ?_; conv => whnf)
   (refine ⟨_, _, Blk.ldV (vs := [_, _, _, _, _, _, _, _, _, _, _, _, _]) (hp.get (i := 2) rfl) TTok rfl rfl rfl, ?_⟩; conv => whnf)
   (refine hp.kstA TTok rfl 1 rfl rfl (oneC_of rfl) (by rfl) fun w hp => ?_; try simp only [List.set_cons_zero, List.set_cons_succ, EV.val] at hp; conv => whnf)
   (refine hKq _ _ _ (.refl _) ?_; clear hKq Kq; conv => whnf)
   (refine ⟨_, Blk.lvN (hp.get (i := 1) rfl) TTok rfl rfl, ?_⟩; conv => whnf)
   rw [hr, if_neg e]
   exact ⟨_, rfl, hp.ext, SLw.row hp (i := 0) rfl⟩
 ·have hr := f1 h
  clear f0 f1 f2 f3 f4 f5 f6 f7 f8 f9 f10
  (refine hp.kst1 TTok (by rfl) 2 (by rfl) (by rfl) (by rfl) (Nat.le_of_ble_eq_true rfl) fun w hp => ?_; try simp only [List.set_cons_zero, List.set_cons_succ, EV.val] at hp; conv => whnf)
  (refine hKq _ _ _ (.refl _) ?_; clear hKq Kq; conv => whnf)
  (refine VSeq.mk fun Kq hKq => ?_; conv => whnf)
  (refine VSeq.mk fun Kq hKq => ?_; conv => whnf)
  (refine ⟨_, _, Blk.ld (hp.get (i := 3) rfl) TTok rfl rfl, ?_⟩; conv => whnf)
  (refine And.intro (by first | omega | decide) ?_; conv => whnf)
  (refine hKq _ _ _ (.refl _) ?_; clear hKq Kq; conv => whnf)
  (refine VSeq.mk fun Kq hKq => ?_; conv => whnf)
  (refine hKq _ _ _ (.refl _) ?_; clear hKq Kq; conv => whnf)
  (refine And.intro (fun h => absurd (of_decide_eq_true h) (by first | (intro h2; exact absurd rfl h2) | omega | decide)) (fun _ => ?_); conv => whnf)
  (refine VSeq.mk fun Kq hKq => ?_; conv => whnf)
  (refine hKq _ _ _ (.refl _) ?_; clear hKq Kq; conv => whnf)
  (refine And.intro (fun _ => ?_) (fun h => absurd (by first | rfl | assumption | omega | decide) (of_decide_eq_false h)); conv => whnf)
  (refine ⟨_, _, Blk.ld (hp.get (i := 3) rfl) TTok rfl rfl, ?_⟩; conv => whnf)
  (refine hp.kst1 TTok (by rfl) 2 (by rfl) (by rfl) (by rfl) (Nat.le_of_ble_eq_true rfl) fun w hp => ?_; try simp only [List.set_cons_zero, List.set_cons_succ, EV.val] at hp; conv => whnf)
  (refine hKq _ _ _ (.refl _) ?_; clear hKq Kq; conv => whnf)
  (refine VSeq.mk fun Kq hKq => ?_; conv => whnf)
  (refine ⟨_, _, Blk.ldV (vs := [_, _, _, _, _, _, _, _, _, _, _, _, _]) (hp.get (i := 2) rfl) TTok rfl rfl rfl, ?_⟩; conv => whnf)
  (refine hp.kstA TTok rfl 1 rfl rfl (oneC_of rfl) (by rfl) fun w hp => ?_; try simp only [List.set_cons_zero, List.set_cons_succ, EV.val] at hp; conv => whnf)
  (refine hKq _ _ _ (.refl _) ?_; clear hKq Kq; conv => whnf)
  (refine ⟨_, Blk.lvN (hp.get (i := 1) rfl) TTok rfl rfl, ?_⟩; conv => whnf)
  rw [hr]
  exact ⟨_, rfl, hp.ext, SLw.row hp (i := 0) rfl⟩
 ·have hr := f2 h
  clear f0 f1 f2 f3 f4 f5 f6 f7 f8 f9 f10
  (refine hp.kst1 TTok (by rfl) 2 (by rfl) (by rfl) (by rfl) (Nat.le_of_ble_eq_true rfl) fun w hp => ?_; try simp only [List.set_cons_zero, List.set_cons_succ, EV.val] at hp; conv => whnf)
  (refine hKq _ _ _ (.refl _) ?_; clear hKq Kq; conv => whnf)
  (refine VSeq.mk fun Kq hKq => ?_; conv => whnf)
  (refine VSeq.mk fun Kq hKq => ?_; conv => whnf)
  (refine ⟨_, _, Blk.ld (hp.get (i := 3) rfl) TTok rfl rfl, ?_⟩; conv => whnf)
  (refine And.intro (by first | omega | decide) ?_; conv => whnf)
  (refine hKq _ _ _ (.refl _) ?_; clear hKq Kq; conv => whnf)
  (refine VSeq.mk fun Kq hKq => ?_; conv => whnf)
  (refine hKq _ _ _ (.refl _) ?_; clear hKq Kq; conv => whnf)
  (refine And.intro (fun h => absurd (of_decide_eq_true h) (by first | (intro h2; exact absurd rfl h2) | omega | decide)) (fun _ => ?_); conv => whnf)
  (refine VSeq.mk fun Kq hKq => ?_; conv => whnf)
  (refine hKq _ _ _ (.refl _) ?_; clear hKq Kq; conv => whnf)
  (refine And.intro (fun h => absurd (of_decide_eq_true h) (by first | (intro h2; exact absurd rfl h2) | omega | decide)) (fun _ => ?_); conv => whnf)
  (refine VSeq.mk fun Kq hKq => ?_; conv => whnf)
  (refine hKq _ _ _ (.refl _) ?_; clear hKq Kq; conv => whnf)
  (refine And.intro (fun _ => ?_) (fun h => absurd (by first | rfl | assumption | omega | decide) (of_decide_eq_false h)); conv => whnf)
  (refine ⟨_, _, Blk.ld (hp.get (i := 3) rfl) TTok rfl rfl, ?_⟩; conv => whnf)
  (refine hp.kst1 TTok (by rfl) 2 (by rfl) (by rfl) (by rfl) (Nat.le_of_ble_eq_true rfl) fun w hp => ?_; try simp only [List.set_cons_zero, List.set_cons_succ, EV.val] at hp; conv => whnf)
  (refine hKq _ _ _ (.refl _) ?_; clear hKq Kq; conv => whnf)
  (refine VSeq.mk fun Kq hKq => ?_; conv => whnf)
  (refine ⟨_, _, Blk.ldV (vs := [_, _, _, _, _, _, _, _, _, _, _, _, _]) (hp.get (i := 2) rfl) TTok rfl rfl rfl, ?_⟩; conv => whnf)
  (refine hp.kstA TTok rfl 1 rfl rfl (oneC_of rfl) (by rfl) fun w hp => ?_; try simp only [List.set_cons_zero, List.set_cons_succ, EV.val] at hp; conv => whnf)
  (refine hKq _ _ _ (.refl _) ?_; clear hKq Kq; conv => whnf)
  (refine ⟨_, Blk.lvN (hp.get (i := 1) rfl) TTok rfl rfl, ?_⟩; conv => whnf)
  rw [hr]
  exact ⟨_, rfl, hp.ext, SLw.row hp (i := 0) rfl⟩
 ·have hr := f3 h
  clear f0 f1 f2 f3 f4 f5 f6 f7 f8 f9 f10
  (refine hp.kst1 TTok (by rfl) 2 (by rfl) (by rfl) (by rfl) (Nat.le_of_ble_eq_true rfl) fun w hp => ?_; try simp only [List.set_cons_zero, List.set_cons_succ, EV.val] at hp; conv => whnf)
  (refine hKq _ _ _ (.refl _) ?_; clear hKq Kq; conv => whnf)
  (refine VSeq.mk fun Kq hKq => ?_; conv => whnf)
  (refine VSeq.mk fun Kq hKq => ?_; conv => whnf)
  (refine ⟨_, _, Blk.ld (hp.get (i := 3) rfl) TTok rfl rfl, ?_⟩; conv => whnf)
  (refine And.intro (by first | omega | decide) ?_; conv => whnf)
  (refine hKq _ _ _ (.refl _) ?_; clear hKq Kq; conv => whnf)
  (refine VSeq.mk fun Kq hKq => ?_; conv => whnf)
  (refine hKq _ _ _ (.refl _) ?_; clear hKq Kq; conv => whnf)
  (refine And.intro (fun h => absurd (of_decide_eq_true h) (by first | (intro h2; exact absurd rfl h2) | omega | decide)) (fun _ => ?_); conv => whnf)
  (refine VSeq.mk fun Kq hKq => ?_; conv => whnf)
  (refine hKq _ _ _ (.refl _) ?_; clear hKq Kq; conv => whnf)
  (refine And.intro (fun h => absurd (of_decide_eq_true h) (by first | (intro h2; exact absurd rfl h2) | omega | decide)) (fun _ => ?_); conv => whnf)
  (refine VSeq.mk fun Kq hKq => ?_; conv => whnf)
  (refine hKq _ _ _ (.refl _) ?_; clear hKq Kq; conv => whnf)
  (refine And.intro (fun h => absurd (of_decide_eq_true h) (by first | (intro h2; exact absurd rfl h2) | omega | decide)) (fun _ => ?_); conv => whnf)
  (refine VSeq.mk fun Kq hKq => ?_; conv => whnf)
  (refine hKq _ _ _ (.refl _) ?_; clear hKq Kq; conv => whnf)
  (refine And.intro (fun _ => ?_) (fun h => absurd (by first | rfl | assumption | omega | decide) (of_decide_eq_false h)); conv => whnf)
  (refine ⟨_, _, Blk.ld (hp.get (i := 3) rfl) TTok rfl rfl, ?_⟩; conv => whnf)
  (refine hp.kst1 TTok (by rfl) 2 (by rfl) (by rfl) (by rfl) (Nat.le_of_ble_eq_true rfl) fun w hp => ?_; try simp only [List.set_cons_zero, List.set_cons_succ, EV.val] at hp; conv => whnf)
  (refine hKq _ _ _ (.refl _) ?_; clear hKq Kq; conv => whnf)
  (refine VSeq.mk fun Kq hKq => ?_; conv => whnf)
  (refine ⟨_, _, Blk.ldV (vs := [_, _, _, _, _, _, _, _, _, _, _, _, _]) (hp.get (i := 2) rfl) TTok rfl rfl rfl, ?_⟩; conv => whnf)
  (refine hp.kstA TTok rfl 1 rfl rfl (oneC_of rfl) (by rfl) fun w hp => ?_; try simp only [List.set_cons_zero, List.set_cons_succ, EV.val] at hp; conv => whnf)
  (refine hKq _ _ _ (.refl _) ?_; clear hKq Kq; conv => whnf)
  (refine ⟨_, Blk.lvN (hp.get (i := 1) rfl) TTok rfl rfl, ?_⟩; conv => whnf)
  rw [hr]
  exact ⟨_, rfl, hp.ext, SLw.row hp (i := 0) rfl⟩
 ·have hr := f4 h
  clear f0 f1 f2 f3 f4 f5 f6 f7 f8 f9 f10
  (refine hp.kst1 TTok (by rfl) 2 (by rfl) (by rfl) (by rfl) (Nat.le_of_ble_eq_true rfl) fun w hp => ?_; try simp only [List.set_cons_zero, List.set_cons_succ, EV.val] at hp; conv => whnf)
  (refine hKq _ _ _ (.refl _) ?_; clear hKq Kq; conv => whnf)
  (refine VSeq.mk fun Kq hKq => ?_; conv => whnf)
  (refine VSeq.mk fun Kq hKq => ?_; conv => whnf)
  (refine ⟨_, _, Blk.ld (hp.get (i := 3) rfl) TTok rfl rfl, ?_⟩; conv => whnf)
  (refine And.intro (by first | omega | decide) ?_; conv => whnf)
  (refine hKq _ _ _ (.refl _) ?_; clear hKq Kq; conv => whnf)
  (refine VSeq.mk fun Kq hKq => ?_; conv => whnf)
  (refine hKq _ _ _ (.refl _) ?_; clear hKq Kq; conv => whnf)
  (refine And.intro (fun h => absurd (of_decide_eq_true h) (by first | (intro h2; exact absurd rfl h2) | omega | decide)) (fun _ => ?_); conv => whnf)
  (refine VSeq.mk fun Kq hKq => ?_; conv => whnf)
  (refine hKq _ _ _ (.refl _) ?_; clear hKq Kq; conv => whnf)
  (refine And.intro (fun h => absurd (of_decide_eq_true h) (by first | (intro h2; exact absurd rfl h2) | omega | decide)) (fun _ => ?_); conv => whnf)
  (refine VSeq.mk fun Kq hKq => ?_; conv => whnf)
  (refine hKq _ _ _ (.refl _) ?_; clear hKq Kq; conv => whnf)
  (refine And.intro (fun h => absurd (of_decide_eq_true h) (by first | (intro h2; exact absurd rfl h2) | omega | decide)) (fun _ => ?_); conv => whnf)
  (refine VSeq.mk fun Kq hKq => ?_; conv => whnf)
  (refine hKq _ _ _ (.refl _) ?_; clear hKq Kq; conv => whnf)
  (refine And.intro (fun h => absurd (of_decide_eq_true h) (by first | (intro h2; exact absurd rfl h2) | omega | decide)) (fun _ => ?_); conv => whnf)
  (refine VSeq.mk fun Kq hKq => ?_; conv => whnf)
  (refine hKq _ _ _ (.refl _) ?_; clear hKq Kq; conv => whnf)
  (refine And.intro (fun _ => ?_) (fun h => absurd (by first | rfl | assumption | omega | decide) (of_decide_eq_false h)); conv => whnf)
  (refine ⟨_, _, Blk.ld (hp.get (i := 3) rfl) TTok rfl rfl, ?_⟩; conv => whnf)
  (refine hp.kst1 TTok (by rfl) 2 (by rfl) (by rfl) (by rfl) (Nat.le_of_ble_eq_true rfl) fun w hp => ?_; try simp only [List.set_cons_zero, List.set_cons_succ, EV.val] at hp; conv => whnf)
  (refine hKq _ _ _ (.refl _) ?_; clear hKq Kq; conv => whnf)
  (refine VSeq.mk fun Kq hKq => ?_; conv => whnf)
  (refine ⟨_, _, Blk.ldV (vs := [_, _, _, _, _, _, _, _, _, _, _, _, _]) (hp.get (i := 2) rfl) TTok rfl rfl rfl, ?_⟩; conv => whnf)
  (refine hp.kstA TTok rfl 1 rfl rfl (oneC_of rfl) (by rfl) fun w hp => ?_; try simp only [List.set_cons_zero, List.set_cons_succ, EV.val] at hp; conv => whnf)
  (refine hKq _ _ _ (.refl _) ?_; clear hKq Kq; conv => whnf)
  (refine ⟨_, Blk.lvN (hp.get (i := 1) rfl) TTok rfl rfl, ?_⟩; conv => whnf)
  rw [hr]
  exact ⟨_, rfl, hp.ext, SLw.row hp (i := 0) rfl⟩
 ·have hr := f5 h
  clear f0 f1 f2 f3 f4 f5 f6 f7 f8 f9 f10
  (refine hp.kst1 TTok (by rfl) 2 (by rfl) (by rfl) (by rfl) (Nat.le_of_ble_eq_true rfl) fun w hp => ?_; try simp only [List.set_cons_zero, List.set_cons_succ, EV.val] at hp; conv => whnf)
  (refine hKq _ _ _ (.refl _) ?_; clear hKq Kq; conv => whnf)
  (refine VSeq.mk fun Kq hKq => ?_; conv => whnf)
  (refine VSeq.mk fun Kq hKq => ?_; conv => whnf)
  (refine ⟨_, _, Blk.ld (hp.get (i := 3) rfl) TTok rfl rfl, ?_⟩; conv => whnf)
  (refine And.intro (by first | omega | decide) ?_; conv => whnf)
  (refine hKq _ _ _ (.refl _) ?_; clear hKq Kq; conv => whnf)
  (refine VSeq.mk fun Kq hKq => ?_; conv => whnf)
  (refine hKq _ _ _ (.refl _) ?_; clear hKq Kq; conv => whnf)
  (refine And.intro (fun h => absurd (of_decide_eq_true h) (by first | (intro h2; exact absurd rfl h2) | omega | decide)) (fun _ => ?_); conv => whnf)
  (refine VSeq.mk fun Kq hKq => ?_; conv => whnf)
  (refine hKq _ _ _ (.refl _) ?_; clear hKq Kq; conv => whnf)
  (refine And.intro (fun h => absurd (of_decide_eq_true h) (by first | (intro h2; exact absurd rfl h2) | omega | decide)) (fun _ => ?_); conv => whnf)
  (refine VSeq.mk fun Kq hKq => ?_; conv => whnf)
  (refine hKq _ _ _ (.refl _) ?_; clear hKq Kq; conv => whnf)
  (refine And.intro (fun h => absurd (of_decide_eq_true h) (by first | (intro h2; exact absurd rfl h2) | omega | decide)) (fun _ => ?_); conv => whnf)
  (refine VSeq.mk fun Kq hKq => ?_; conv => whnf)
  (refine hKq _ _ _ (.refl _) ?_; clear hKq Kq; conv => whnf)
  (refine And.intro (fun h => absurd (of_decide_eq_true h) (by first | (intro h2; exact absurd rfl h2) | omega | decide)) (fun _ => ?_); conv => whnf)
  (refine VSeq.mk fun Kq hKq => ?_; conv => whnf)
  (refine hKq _ _ _ (.refl _) ?_; clear hKq Kq; conv => whnf)
  (refine And.intro (fun h => absurd (of_decide_eq_true h) (by first | (intro h2; exact absurd rfl h2) | omega | decide)) (fun _ => ?_); conv => whnf)
  (refine VSeq.mk fun Kq hKq => ?_; conv => whnf)
  (refine hKq _ _ _ (.refl _) ?_; clear hKq Kq; conv => whnf)
  (refine And.intro (fun _ => ?_) (fun h => absurd (by first | rfl | assumption | omega | decide) (of_decide_eq_false h)); conv => whnf)
  (refine ⟨_, _, Blk.ld (hp.get (i := 2) rfl) TTok rfl rfl, ?_⟩; conv => whnf)
  (refine hp.kst1 TTok (by rfl) 2 (by rfl) (by rfl) (by rfl) (Nat.le_of_ble_eq_true rfl) fun w hp => ?_; try simp only [List.set_cons_zero, List.set_cons_succ, EV.val] at hp; conv => whnf)
  (refine hKq _ _ _ (.refl _) ?_; clear hKq Kq; conv => whnf)
  (refine VSeq.mk fun Kq hKq => ?_; conv => whnf)
  (refine ⟨_, _, Blk.ldV (vs := [_, _, _, _, _, _, _, _, _, _, _, _, _]) (hp.get (i := 2) rfl) TTok rfl rfl rfl, ?_⟩; conv => whnf)
  (refine hp.kstA TTok rfl 1 rfl rfl (oneC_of rfl) (by rfl) fun w hp => ?_; try simp only [List.set_cons_zero, List.set_cons_succ, EV.val] at hp; conv => whnf)
  (refine hKq _ _ _ (.refl _) ?_; clear hKq Kq; conv => whnf)
  (refine ⟨_, Blk.lvN (hp.get (i := 1) rfl) TTok rfl rfl, ?_⟩; conv => whnf)
  rw [hr]
  exact ⟨_, rfl, hp.ext, SLw.row hp (i := 0) rfl⟩
 ·have hr := f6 h
  clear f0 f1 f2 f3 f4 f5 f6 f7 f8 f9 f10
  (refine hp.kst1 TTok (by rfl) 2 (by rfl) (by rfl) (by rfl) (Nat.le_of_ble_eq_true rfl) fun w hp => ?_; try simp only [List.set_cons_zero, List.set_cons_succ, EV.val] at hp; conv => whnf)
  (refine hKq _ _ _ (.refl _) ?_; clear hKq Kq; conv => whnf)
  (refine VSeq.mk fun Kq hKq => ?_; conv => whnf)
  (refine VSeq.mk fun Kq hKq => ?_; conv => whnf)
  (refine ⟨_, _, Blk.ld (hp.get (i := 3) rfl) TTok rfl rfl, ?_⟩; conv => whnf)
  (refine And.intro (by first | omega | decide) ?_; conv => whnf)
  (refine hKq _ _ _ (.refl _) ?_; clear hKq Kq; conv => whnf)
  (refine VSeq.mk fun Kq hKq => ?_; conv => whnf)
  (refine hKq _ _ _ (.refl _) ?_; clear hKq Kq; conv => whnf)
  (refine And.intro (fun h => absurd (of_decide_eq_true h) (by first | (intro h2; exact absurd rfl h2) | omega | decide)) (fun _ => ?_); conv => whnf)
  (refine VSeq.mk fun Kq hKq => ?_; conv => whnf)
  (refine hKq _ _ _ (.refl _) ?_; clear hKq Kq; conv => whnf)
  (refine And.intro (fun h => absurd (of_decide_eq_true h) (by first | (intro h2; exact absurd rfl h2) | omega | decide)) (fun _ => ?_); conv => whnf)
  (refine VSeq.mk fun Kq hKq => ?_; conv => whnf)
  (refine hKq _ _ _ (.refl _) ?_; clear hKq Kq; conv => whnf)
  (refine And.intro (fun h => absurd (of_decide_eq_true h) (by first | (intro h2; exact absurd rfl h2) | omega | decide)) (fun _ => ?_); conv => whnf)
  (refine VSeq.mk fun Kq hKq => ?_; conv => whnf)
  (refine hKq _ _ _ (.refl _) ?_; clear hKq Kq; conv => whnf)
  (refine And.intro (fun h => absurd (of_decide_eq_true h) (by first | (intro h2; exact absurd rfl h2) | omega | decide)) (fun _ => ?_); conv => whnf)
  (refine VSeq.mk fun Kq hKq => ?_; conv => whnf)
  (refine hKq _ _ _ (.refl _) ?_; clear hKq Kq; conv => whnf)
  (refine And.intro (fun h => absurd (of_decide_eq_true h) (by first | (intro h2; exact absurd rfl h2) | omega | decide)) (fun _ => ?_); conv => whnf)
  (refine VSeq.mk fun Kq hKq => ?_; conv => whnf)
  (refine hKq _ _ _ (.refl _) ?_; clear hKq Kq; conv => whnf)
  (refine And.intro (fun h => absurd (of_decide_eq_true h) (by first | (intro h2; exact absurd rfl h2) | omega | decide)) (fun _ => ?_); conv => whnf)
  (refine VSeq.mk fun Kq hKq => ?_; conv => whnf)
  (refine hKq _ _ _ (.refl _) ?_; clear hKq Kq; conv => whnf)
  (refine And.intro (fun _ => ?_) (fun h => absurd (by first | rfl | assumption | omega | decide) (of_decide_eq_false h)); conv => whnf)
  (refine ⟨_, _, Blk.ld (hp.get (i := 3) rfl) TTok rfl rfl, ?_⟩; conv => whnf)
  (refine hp.kst1 TTok (by rfl) 2 (by rfl) (by rfl) (by rfl) (Nat.le_of_ble_eq_true rfl) fun w hp => ?_; try simp only [List.set_cons_zero, List.set_cons_succ, EV.val] at hp; conv => whnf)
  (refine hKq _ _ _ (.refl _) ?_; clear hKq Kq; conv => whnf)
  (refine VSeq.mk fun Kq hKq => ?_; conv => whnf)
  (refine ⟨_, _, Blk.ldV (vs := [_, _, _, _, _, _, _, _, _, _, _, _, _]) (hp.get (i := 2) rfl) TTok rfl rfl rfl, ?_⟩; conv => whnf)
  (refine hp.kstA TTok rfl 1 rfl rfl (oneC_of rfl) (by rfl) fun w hp => ?_; try simp only [List.set_cons_zero, List.set_cons_succ, EV.val] at hp; conv => whnf)
  (refine hKq _ _ _ (.refl _) ?_; clear hKq Kq; conv => whnf)
  (refine ⟨_, Blk.lvN (hp.get (i := 1) rfl) TTok rfl rfl, ?_⟩; conv => whnf)
  rw [hr]
  exact ⟨_, rfl, hp.ext, SLw.row hp (i := 0) rfl⟩
 ·have hr := f7 h
  clear f0 f1 f2 f3 f4 f5 f6 f7 f8 f9 f10
  (refine hp.kst1 TTok (by rfl) 2 (by rfl) (by rfl) (by rfl) (Nat.le_of_ble_eq_true rfl) fun w hp => ?_; try simp only [List.set_cons_zero, List.set_cons_succ, EV.val] at hp; conv => whnf)
  (refine hKq _ _ _ (.refl _) ?_; clear hKq Kq; conv => whnf)
  (refine VSeq.mk fun Kq hKq => ?_; conv => whnf)
  (refine VSeq.mk fun Kq hKq => ?_; conv => whnf)
  (refine ⟨_, _, Blk.ld (hp.get (i := 3) rfl) TTok rfl rfl, ?_⟩; conv => whnf)
  (refine And.intro (by first | omega | decide) ?_; conv => whnf)
  (refine hKq _ _ _ (.refl _) ?_; clear hKq Kq; conv => whnf)
  (refine VSeq.mk fun Kq hKq => ?_; conv => whnf)
  (refine hKq _ _ _ (.refl _) ?_; clear hKq Kq; conv => whnf)
  (refine And.intro (fun h => absurd (of_decide_eq_true h) (by first | (intro h2; exact absurd rfl h2) | omega | decide)) (fun _ => ?_); conv => whnf)
  (refine VSeq.mk fun Kq hKq => ?_; conv => whnf)
  (refine hKq _ _ _ (.refl _) ?_; clear hKq Kq; conv => whnf)
  (refine And.intro (fun h => absurd (of_decide_eq_true h) (by first | (intro h2; exact absurd rfl h2) | omega | decide)) (fun _ => ?_); conv => whnf)
  (refine VSeq.mk fun Kq hKq => ?_; conv => whnf)
  (refine hKq _ _ _ (.refl _) ?_; clear hKq Kq; conv => whnf)
  (refine And.intro (fun h => absurd (of_decide_eq_true h) (by first | (intro h2; exact absurd rfl h2) | omega | decide)) (fun _ => ?_); conv => whnf)
  (refine VSeq.mk fun Kq hKq => ?_; conv => whnf)
  (refine hKq _ _ _ (.refl _) ?_; clear hKq Kq; conv => whnf)
  (refine And.intro (fun h => absurd (of_decide_eq_true h) (by first | (intro h2; exact absurd rfl h2) | omega | decide)) (fun _ => ?_); conv => whnf)
  (refine VSeq.mk fun Kq hKq => ?_; conv => whnf)
  (refine hKq _ _ _ (.refl _) ?_; clear hKq Kq; conv => whnf)
  (refine And.intro (fun h => absurd (of_decide_eq_true h) (by first | (intro h2; exact absurd rfl h2) | omega | decide)) (fun _ => ?_); conv => whnf)
  (refine VSeq.mk fun Kq hKq => ?_; conv => whnf)
  (refine hKq _ _ _ (.refl _) ?_; clear hKq Kq; conv => whnf)
  (refine And.intro (fun h => absurd (of_decide_eq_true h) (by first | (intro h2; exact absurd rfl h2) | omega | decide)) (fun _ => ?_); conv => whnf)
  (refine VSeq.mk fun Kq hKq => ?_; conv => whnf)
  (refine hKq _ _ _ (.refl _) ?_; clear hKq Kq; conv => whnf)
  (refine And.intro (fun h => absurd (of_decide_eq_true h) (by first | (intro h2; exact absurd rfl h2) | omega | decide)) (fun _ => ?_); conv => whnf)
  (refine VSeq.mk fun Kq hKq => ?_; conv => whnf)
  (refine hKq _ _ _ (.refl _) ?_; clear hKq Kq; conv => whnf)
  (refine And.intro (fun _ => ?_) (fun h => absurd (by first | rfl | assumption | omega | decide) (of_decide_eq_false h)); conv => whnf)
  (refine ⟨_, _, Blk.ld (hp.get (i := 3) rfl) TTok rfl rfl, ?_⟩; conv => whnf)
  (refine hp.kst1 TTok (by rfl) 2 (by rfl) (by rfl) (by rfl) (Nat.le_of_ble_eq_true rfl) fun w hp => ?_; try simp only [List.set_cons_zero, List.set_cons_succ, EV.val] at hp; conv => whnf)
  (refine hKq _ _ _ (.refl _) ?_; clear hKq Kq; conv => whnf)
  (refine VSeq.mk fun Kq hKq => ?_; conv => whnf)
  (refine ⟨_, _, Blk.ldV (vs := [_, _, _, _, _, _, _, _, _, _, _, _, _]) (hp.get (i := 2) rfl) TTok rfl rfl rfl, ?_⟩; conv => whnf)
  (refine hp.kstA TTok rfl 1 rfl rfl (oneC_of rfl) (by rfl) fun w hp => ?_; try simp only [List.set_cons_zero, List.set_cons_succ, EV.val] at hp; conv => whnf)
  (refine hKq _ _ _ (.refl _) ?_; clear hKq Kq; conv => whnf)
  (refine ⟨_, Blk.lvN (hp.get (i := 1) rfl) TTok rfl rfl, ?_⟩; conv => whnf)
  rw [hr]
  exact ⟨_, rfl, hp.ext, SLw.row hp (i := 0) rfl⟩
 ·have hr := f8 h
  clear f0 f1 f2 f3 f4 f5 f6 f7 f8 f9 f10
  (refine hp.kst1 TTok (by rfl) 2 (by rfl) (by rfl) (by rfl) (Nat.le_of_ble_eq_true rfl) fun w hp => ?_; try simp only [List.set_cons_zero, List.set_cons_succ, EV.val] at hp; conv => whnf)
  (refine hKq _ _ _ (.refl _) ?_; clear hKq Kq; conv => whnf)
  (refine VSeq.mk fun Kq hKq => ?_; conv => whnf)
  (refine VSeq.mk fun Kq hKq => ?_; conv => whnf)
  (refine ⟨_, _, Blk.ld (hp.get (i := 3) rfl) TTok rfl rfl, ?_⟩; conv => whnf)
  (refine And.intro (by first | omega | decide) ?_; conv => whnf)
  (refine hKq _ _ _ (.refl _) ?_; clear hKq Kq; conv => whnf)
  (refine VSeq.mk fun Kq hKq => ?_; conv => whnf)
  (refine hKq _ _ _ (.refl _) ?_; clear hKq Kq; conv => whnf)
  (refine And.intro (fun h => absurd (of_decide_eq_true h) (by first | (intro h2; exact absurd rfl h2) | omega | decide)) (fun _ => ?_); conv => whnf)
  (refine VSeq.mk fun Kq hKq => ?_; conv => whnf)
  (refine hKq _ _ _ (.refl _) ?_; clear hKq Kq; conv => whnf)
  (refine And.intro (fun h => absurd (of_decide_eq_true h) (by first | (intro h2; exact absurd rfl h2) | omega | decide)) (fun _ => ?_); conv => whnf)
  (refine VSeq.mk fun Kq hKq => ?_; conv => whnf)
  (refine hKq _ _ _ (.refl _) ?_; clear hKq Kq; conv => whnf)
  (refine And.intro (fun h => absurd (of_decide_eq_true h) (by first | (intro h2; exact absurd rfl h2) | omega | decide)) (fun _ => ?_); conv => whnf)
  (refine VSeq.mk fun Kq hKq => ?_; conv => whnf)
  (refine hKq _ _ _ (.refl _) ?_; clear hKq Kq; conv => whnf)
  (refine And.intro (fun h => absurd (of_decide_eq_true h) (by first | (intro h2; exact absurd rfl h2) | omega | decide)) (fun _ => ?_); conv => whnf)
  (refine VSeq.mk fun Kq hKq => ?_; conv => whnf)
  (refine hKq _ _ _ (.refl _) ?_; clear hKq Kq; conv => whnf)
  (refine And.intro (fun h => absurd (of_decide_eq_true h) (by first | (intro h2; exact absurd rfl h2) | omega | decide)) (fun _ => ?_); conv => whnf)
  (refine VSeq.mk fun Kq hKq => ?_; conv => whnf)
  (refine hKq _ _ _ (.refl _) ?_; clear hKq Kq; conv => whnf)
  (refine And.intro (fun h => absurd (of_decide_eq_true h) (by first | (intro h2; exact absurd rfl h2) | omega | decide)) (fun _ => ?_); conv => whnf)
  (refine VSeq.mk fun Kq hKq => ?_; conv => whnf)
  (refine hKq _ _ _ (.refl _) ?_; clear hKq Kq; conv => whnf)
  (refine And.intro (fun h => absurd (of_decide_eq_true h) (by first | (intro h2; exact absurd rfl h2) | omega | decide)) (fun _ => ?_); conv => whnf)
  (refine VSeq.mk fun Kq hKq => ?_; conv => whnf)
  (refine hKq _ _ _ (.refl _) ?_; clear hKq Kq; conv => whnf)
  (refine And.intro (fun h => absurd (of_decide_eq_true h) (by first | (intro h2; exact absurd rfl h2) | omega | decide)) (fun _ => ?_); conv => whnf)
  (refine VSeq.mk fun Kq hKq => ?_; conv => whnf)
  (refine hKq _ _ _ (.refl _) ?_; clear hKq Kq; conv => whnf)
  (refine And.intro (fun _ => ?_) (fun h => absurd (by first | rfl | assumption | omega | decide) (of_decide_eq_false h)); conv => whnf)
  (refine ⟨_, _, Blk.ld (hp.get (i := 3) rfl) TTok rfl rfl, ?_⟩; conv => whnf)
  (refine hp.kst1 TTok (by rfl) 2 (by rfl) (by rfl) (by rfl) (Nat.le_of_ble_eq_true rfl) fun w hp => ?_; try simp only [List.set_cons_zero, List.set_cons_succ, EV.val] at hp; conv => whnf)
  (refine hKq _ _ _ (.refl _) ?_; clear hKq Kq; conv => whnf)
  (refine VSeq.mk fun Kq hKq => ?_; conv => whnf)
  (refine ⟨_, _, Blk.ldV (vs := [_, _, _, _, _, _, _, _, _, _, _, _, _]) (hp.get (i := 2) rfl) TTok rfl rfl rfl, ?_⟩; conv => whnf)
  (refine hp.kstA TTok rfl 1 rfl rfl (oneC_of rfl) (by rfl) fun w hp => ?_; try simp only [List.set_cons_zero, List.set_cons_succ, EV.val] at hp; conv => whnf)
  (refine hKq _ _ _ (.refl _) ?_; clear hKq Kq; conv => whnf)
  (refine ⟨_, Blk.lvN (hp.get (i := 1) rfl) TTok rfl rfl, ?_⟩; conv => whnf)
  rw [hr]
  exact ⟨_, rfl, hp.ext, SLw.row hp (i := 0) rfl⟩
 ·have hr := f9 h
  clear f0 f1 f2 f3 f4 f5 f6 f7 f8 f9 f10
  (refine hp.kst1 TTok (by rfl) 2 (by rfl) (by rfl) (by rfl) (Nat.le_of_ble_eq_true rfl) fun w hp => ?_; try simp only [List.set_cons_zero, List.set_cons_succ, EV.val] at hp; conv => whnf)
  (refine hKq _ _ _ (.refl _) ?_; clear hKq Kq; conv => whnf)
  (refine VSeq.mk fun Kq hKq => ?_; conv => whnf)
  (refine VSeq.mk fun Kq hKq => ?_; conv => whnf)
  (refine ⟨_, _, Blk.ld (hp.get (i := 3) rfl) TTok rfl rfl, ?_⟩; conv => whnf)
  (refine And.intro (by first | omega | decide) ?_; conv => whnf)
  (refine hKq _ _ _ (.refl _) ?_; clear hKq Kq; conv => whnf)
  (refine VSeq.mk fun Kq hKq => ?_; conv => whnf)
  (refine hKq _ _ _ (.refl _) ?_; clear hKq Kq; conv => whnf)
  (refine And.intro (fun h => absurd (of_decide_eq_true h) (by first | (intro h2; exact absurd rfl h2) | omega | decide)) (fun _ => ?_); conv => whnf)
  (refine VSeq.mk fun Kq hKq => ?_; conv => whnf)
  (refine hKq _ _ _ (.refl _) ?_; clear hKq Kq; conv => whnf)
  (refine And.intro (fun h => absurd (of_decide_eq_true h) (by first | (intro h2; exact absurd rfl h2) | omega | decide)) (fun _ => ?_); conv => whnf)
  (refine VSeq.mk fun Kq hKq => ?_; conv => whnf)
  (refine hKq _ _ _ (.refl _) ?_; clear hKq Kq; conv => whnf)
  (refine And.intro (fun h => absurd (of_decide_eq_true h) (by first | (intro h2; exact absurd rfl h2) | omega | decide)) (fun _ => ?_); conv => whnf)
  (refine VSeq.mk fun Kq hKq => ?_; conv => whnf)
  (refine hKq _ _ _ (.refl _) ?_; clear hKq Kq; conv => whnf)
  (refine And.intro (fun h => absurd (of_decide_eq_true h) (by first | (intro h2; exact absurd rfl h2) | omega | decide)) (fun _ => ?_); conv => whnf)
  (refine VSeq.mk fun Kq hKq => ?_; conv => whnf)
  (refine hKq _ _ _ (.refl _) ?_; clear hKq Kq; conv => whnf)
  (refine And.intro (fun h => absurd (of_decide_eq_true h) (by first | (intro h2; exact absurd rfl h2) | omega | decide)) (fun _ => ?_); conv => whnf)
  (refine VSeq.mk fun Kq hKq => ?_; conv => whnf)
  (refine hKq _ _ _ (.refl _) ?_; clear hKq Kq; conv => whnf)
  (refine And.intro (fun h => absurd (of_decide_eq_true h) (by first | (intro h2; exact absurd rfl h2) | omega | decide)) (fun _ => ?_); conv => whnf)
  (refine VSeq.mk fun Kq hKq => ?_; conv => whnf)
  (refine hKq _ _ _ (.refl _) ?_; clear hKq Kq; conv => whnf)
  (refine And.intro (fun h => absurd (of_decide_eq_true h) (by first | (intro h2; exact absurd rfl h2) | omega | decide)) (fun _ => ?_); conv => whnf)
  (refine VSeq.mk fun Kq hKq => ?_; conv => whnf)
  (refine hKq _ _ _ (.refl _) ?_; clear hKq Kq; conv => whnf)
  (refine And.intro (fun h => absurd (of_decide_eq_true h) (by first | (intro h2; exact absurd rfl h2) | omega | decide)) (fun _ => ?_); conv => whnf)
  (refine VSeq.mk fun Kq hKq => ?_; conv => whnf)
  (refine hKq _ _ _ (.refl _) ?_; clear hKq Kq; conv => whnf)
  (refine And.intro (fun h => absurd (of_decide_eq_true h) (by first | (intro h2; exact absurd rfl h2) | omega | decide)) (fun _ => ?_); conv => whnf)
  (refine VSeq.mk fun Kq hKq => ?_; conv => whnf)
  (refine hKq _ _ _ (.refl _) ?_; clear hKq Kq; conv => whnf)
  (refine And.intro (fun _ => ?_) (fun h => absurd (by first | rfl | assumption | omega | decide) (of_decide_eq_false h)); conv => whnf)
  (refine ⟨_, _, Blk.ld (hp.get (i := 2) rfl) TTok rfl rfl, ?_⟩; conv => whnf)
  (refine ⟨_, _, Blk.ld (hp.get (i := 3) rfl) TTok rfl rfl, ?_⟩; conv => whnf)
  (refine hp.kmade _ _ (fun b => .slice (some ⟨b, 0, none⟩) 1 1) (mks26_1_0 _ _) fun q w hp hx => ?_; conv => whnf)
  refine hp.kapp sl26 1 rfl (Blk.src TTok (hp.get (i := 0) rfl) rfl rfl (oneC_of rfl)) (by omega) (by unfold maxLen; omega) fun v' w hp => ?_
  simp only [List.set_cons_zero, List.set_cons_succ] at hp
  obtain ⟨p2, c2, rfl⟩ := row_shape (hp.get (i := 1) rfl)
  conv => whnf
  (refine hp.kst1 TTok (by rfl) 3 (by rfl) (by rfl) (by rfl) (Nat.le_of_ble_eq_true rfl) fun w hp => ?_; try simp only [List.set_cons_zero, List.set_cons_succ, EV.val] at hp; conv => whnf)
  (refine hKq _ _ _ (.refl _) ?_; clear hKq Kq; conv => whnf)
  (refine VSeq.mk fun Kq hKq => ?_; conv => whnf)
  (refine ⟨_, _, Blk.ldV (vs := [_, _, _, _, _, _, _, _, _, _, _, _, _]) (hp.get (i := 3) rfl) TTok rfl rfl rfl, ?_⟩; conv => whnf)
  (refine hp.kstA TTok rfl 2 rfl rfl (oneC_of rfl) (by rfl) fun w hp => ?_; try simp only [List.set_cons_zero, List.set_cons_succ, EV.val] at hp; conv => whnf)
  (refine hKq _ _ _ (.refl _) ?_; clear hKq Kq; conv => whnf)
  (refine ⟨_, Blk.lvN (hp.get (i := 2) rfl) TTok rfl rfl, ?_⟩; conv => whnf)
  rw [hr]
  have hap : iv (asked ++ [n]) = iv asked ++ [.int .i64 n] := by unfold iv; rw [List.map_append]; rfl
  exact ⟨_, rfl, hp.ext, (by show SLw _ _ _ (iv (asked ++ [n])); rw [hap]; exact SLw.row hp (i := 1) rfl)⟩
 ·have hr := f10 h
  clear f0 f1 f2 f3 f4 f5 f6 f7 f8 f9 f10
  (refine hp.kst1 TTok (by rfl) 2 (by rfl) (by rfl) (by rfl) (Nat.le_of_ble_eq_true rfl) fun w hp => ?_; try simp only [List.set_cons_zero, List.set_cons_succ, EV.val] at hp; conv => whnf)
  (refine hKq _ _ _ (.refl _) ?_; clear hKq Kq; conv => whnf)
  (refine VSeq.mk fun Kq hKq => ?_; conv => whnf)
  (refine VSeq.mk fun Kq hKq => ?_; conv => whnf)
  (refine ⟨_, _, Blk.ld (hp.get (i := 3) rfl) TTok rfl rfl, ?_⟩; conv => whnf)
  (refine And.intro (by first | omega | decide) ?_; conv => whnf)
  (refine hKq _ _ _ (.refl _) ?_; clear hKq Kq; conv => whnf)
  (refine VSeq.mk fun Kq hKq => ?_; conv => whnf)
  (refine hKq _ _ _ (.refl _) ?_; clear hKq Kq; conv => whnf)
  (refine And.intro (fun h => absurd (of_decide_eq_true h) (by first | (intro h2; exact absurd rfl h2) | omega | decide)) (fun _ => ?_); conv => whnf)
  (refine VSeq.mk fun Kq hKq => ?_; conv => whnf)
  (refine hKq _ _ _ (.refl _) ?_; clear hKq Kq; conv => whnf)
  (refine And.intro (fun h => absurd (of_decide_eq_true h) (by first | (intro h2; exact absurd rfl h2) | omega | decide)) (fun _ => ?_); conv => whnf)
  (refine VSeq.mk fun Kq hKq => ?_; conv => whnf)
  (refine hKq _ _ _ (.refl _) ?_; clear hKq Kq; conv => whnf)
  (refine And.intro (fun h => absurd (of_decide_eq_true h) (by first | (intro h2; exact absurd rfl h2) | omega | decide)) (fun _ => ?_); conv => whnf)
  (refine VSeq.mk fun Kq hKq => ?_; conv => whnf)
  (refine hKq _ _ _ (.refl _) ?_; clear hKq Kq; conv => whnf)
  (refine And.intro (fun h => absurd (of_decide_eq_true h) (by first | (intro h2; exact absurd rfl h2) | omega | decide)) (fun _ => ?_); conv => whnf)
  (refine VSeq.mk fun Kq hKq => ?_; conv => whnf)
  (refine hKq _ _ _ (.refl _) ?_; clear hKq Kq; conv => whnf)
  (refine And.intro (fun h => absurd (of_decide_eq_true h) (by first | (intro h2; exact absurd rfl h2) | omega | decide)) (fun _ => ?_); conv => whnf)
  (refine VSeq.mk fun Kq hKq => ?_; conv => whnf)
  (refine hKq _ _ _ (.refl _) ?_; clear hKq Kq; conv => whnf)
  (refine And.intro (fun h => absurd (of_decide_eq_true h) (by first | (intro h2; exact absurd rfl h2) | omega | decide)) (fun _ => ?_); conv => whnf)
  (refine VSeq.mk fun Kq hKq => ?_; conv => whnf)
  (refine hKq _ _ _ (.refl _) ?_; clear hKq Kq; conv => whnf)
  (refine And.intro (fun h => absurd (of_decide_eq_true h) (by first | (intro h2; exact absurd rfl h2) | omega | decide)) (fun _ => ?_); conv => whnf)
  (refine VSeq.mk fun Kq hKq => ?_; conv => whnf)
  (refine hKq _ _ _ (.refl _) ?_; clear hKq Kq; conv => whnf)
  (refine And.intro (fun h => absurd (of_decide_eq_true h) (by first | (intro h2; exact absurd rfl h2) | omega | decide)) (fun _ => ?_); conv => whnf)
  (refine VSeq.mk fun Kq hKq => ?_; conv => whnf)
  (refine hKq _ _ _ (.refl _) ?_; clear hKq Kq; conv => whnf)
  (refine And.intro (fun h => absurd (of_decide_eq_true h) (by first | (intro h2; exact absurd rfl h2) | omega | decide)) (fun _ => ?_); conv => whnf)
  (refine VSeq.mk fun Kq hKq => ?_; conv => whnf)
  (refine hKq _ _ _ (.refl _) ?_; clear hKq Kq; conv => whnf)
  (refine And.intro (fun h => absurd (of_decide_eq_true h) (by first | (intro h2; exact absurd rfl h2) | omega | decide)) (fun _ => ?_); conv => whnf)
  (refine VSeq.mk fun Kq hKq => ?_; conv => whnf)
  (refine ⟨_, _, Blk.ld (hp.get (i := 2) rfl) TTok rfl rfl, ?_⟩; conv => whnf)
  (refine hKq _ _ _ (.refl _) ?_; clear hKq Kq; conv => whnf)
  refine ⟨fun h0 => ?_, fun h0 => ?_⟩
  ·have h0 := of_decide_eq_true h0
   conv => whnf
   have hpos : 0 < asked.length := by omega
   have hlt : at_ % asked.length < asked.length := Nat.mod_lt _ hpos
   obtain ⟨g, uc, hu⟩ := row_form (hp.get (i := 0) rfl) hpos
   simp only [Value.slice.injEq, true_and] at hu
   obtain ⟨rfl, rfl⟩ := hu
   refine v_mix TTok FFok mixed 12 [(0, false), (1, false), (2, false), (3, false), (4, false), (5, false), (6, false), (7, false), (8, false), (9, false), (10, false), (11, false)] (by kernel_rfl) ?_
   conv => whnf
   (refine ⟨_, fun w' hx' => Blk.ld (Blk.ext (hp.get (i := 2) rfl) hx') TTok rfl rfl, ?_⟩; conv => whnf)
   (refine ⟨_, fun w' hx' => Blk.ld (Blk.ext (hp.get (i := 3) rfl) hx') TTok rfl rfl, ?_⟩; conv => whnf)
   (refine Or.inl (And.intro (by first | omega | decide) ?_); conv => whnf)
   (refine ⟨_, fun w' hx' => Blk.ld (Blk.ext (hp.get (i := 2) rfl) hx') TTok rfl rfl, ?_⟩; conv => whnf)
   (refine And.intro (by first | omega | decide) ?_; conv => whnf)
   (refine ⟨_, fun w' hx' => Blk.ld (Blk.ext (hp.get (i := 3) rfl) hx') TTok rfl rfl, ?_⟩; conv => whnf)
   refine ⟨at_ % asked.length, ⟨by simp, hlt⟩, ?_⟩
   conv => whnf
   (intro w hx; try (have hp := hp.call hx); conv => whnf)
   refine hp.kstR (t := 3) (v := .int .i64 n) TTok rfl 0 rfl (off := addM 0 (at_ % asked.length) 1) (by rw [addM_eq]; omega) rfl rfl fun w1 hp => ?_
   simp only [List.set_cons_zero] at hp
   rw [addM_eq, Nat.mul_one, Nat.zero_add] at hp
   conv => whnf
   refine hKq _ _ _ (.refl _) ?_
   clear hKq Kq
   conv => whnf
   refine VSeq.mk fun Kq hKq => ?_
   conv => whnf
   (refine ⟨_, _, Blk.ldV (vs := [_, _, _, _, _, _, _, _, _, _, _, _, _]) (hp.get (i := 2) rfl) TTok rfl rfl rfl, ?_⟩; conv => whnf)
   (refine hp.kstA TTok rfl 1 rfl rfl (oneC_of rfl) (by rfl) fun w hp => ?_; try simp only [List.set_cons_zero, List.set_cons_succ, EV.val] at hp; conv => whnf)
   (refine hKq _ _ _ (.refl _) ?_; clear hKq Kq; conv => whnf)
   (refine ⟨_, Blk.lvN (hp.get (i := 1) rfl) TTok rfl rfl, ?_⟩; conv => whnf)
   rw [hr, if_pos hpos]
   have hst : iv (asked.set (at_ % asked.length) n) = (iv asked).set (at_ % asked.length) (.int .i64 n) := by unfold iv; rw [List.map_set]
   exact ⟨_, rfl, hp.ext, (by show SLw _ _ _ (iv (asked.set (at_ % asked.length) n)); rw [hst]; exact SLw.row hp (i := 0) rfl)⟩
  ·have h0 := of_decide_eq_false h0
   conv => whnf
   refine hKq _ _ _ (.refl _) ?_
   clear hKq Kq
   conv => whnf
   refine VSeq.mk fun Kq hKq => ?_
   conv => whnf
   (refine ⟨_, _, Blk.ldV (vs := [_, _, _, _, _, _, _, _, _, _, _, _, _]) (hp.get (i := 2) rfl) TTok rfl rfl rfl, ?_⟩; conv => whnf)
   (refine hp.kstA TTok rfl 1 rfl rfl (oneC_of rfl) (by rfl) fun w hp => ?_; try simp only [List.set_cons_zero, List.set_cons_succ, EV.val] at hp; conv => whnf)
   (refine hKq _ _ _ (.refl _) ?_; clear hKq Kq; conv => whnf)
   (refine ⟨_, Blk.lvN (hp.get (i := 1) rfl) TTok rfl rfl, ?_⟩; conv => whnf)
   rw [hr, if_neg (by omega)]
   exact ⟨_, rfl, hp.ext, SLw.row hp (i := 0) rfl⟩
open Go.RowKit
namespace V
section
variable {P : Program} {md : Region.Mode} {ops : Array Oper}
/-- the classes, the barriers of each, the class of each quiet operation -/
structure Fam where
 C : Nat → World → Prop
 bars : Nat → List Nat
 cls : Nat → Nat
def Fam.keeps (F : Fam) (i : Nat) (w1 w2 : World) : Prop := ∀ k, (F.bars k).contains i = false → F.C k w1 → F.C k w2
/-- the classes that no barrier has broken hold -/
def Fam.holds (F : Fam) (b : List Nat) (w : World) : Prop := ∀ k, (b.all fun j => !(F.bars k).contains j) = true → F.C k w
theorem Fam.step {F : Fam} (hC : ∀ k w w', F.C k w → Ext w w' → F.C k w') {b : List Nat} {i : Nat} {w w1 w2 : World} (h : F.holds b w) (hx : Ext w w1) (hk : F.keeps i w1 w2) : F.holds (i :: b) w2 := fun k hb => by
 rw [List.all_cons, Bool.and_eq_true] at hb
 exact hk k (by simpa using hb.1) (hC _ _ _ (h k hb.2) hx)
end
section
variable (P : Program) (T : Tab) (Fs : List Nat) (n : Nat) (all : List Oper) (F : Fam)
end
section
variable {P : Program} {T : Tab} {Fs : List Nat} (hT : tabOk P T = true) (hF : ∀ f, memB f Fs = true → Enters P f)
include hT hF
end
end V
set_option maxHeartbeats 8000000
set_option maxHeartbeats 8000000
theorem bendW_ok {b : Bn} {y : Wt} (hb : b.Ok) (hy : y.Ok) (hl : y.asked.length ≤ 1000) : (bendW b y).Ok := by
 have h : b.what % 11 = 0 ∨ b.what % 11 = 1 ∨ b.what % 11 = 2 ∨ b.what % 11 = 3 ∨ b.what % 11 = 4 ∨ b.what % 11 = 5 ∨ b.what % 11 = 6 ∨ b.what % 11 = 7 ∨ b.what % 11 = 8 ∨ b.what % 11 = 9 ∨ b.what % 11 = 10 := by omega
 rcases h with h | h | h | h | h | h | h | h | h | h | h
 ·rw [bendW_0 h]
  split
  ·exact ⟨hb.a, hy.b, hy.now, hy.nxt, hy.til, hy.ser, hy.noise, hy.word, hy.fresh, hy.asked, hy.len⟩
  ·exact ⟨hy.a, hb.a, hy.now, hy.nxt, hy.til, hy.ser, hy.noise, hy.word, hy.fresh, hy.asked, hy.len⟩
 ·rw [bendW_1 h]; exact ⟨hy.a, hy.b, hb.n, hy.nxt, hy.til, hy.ser, hy.noise, hy.word, hy.fresh, hy.asked, hy.len⟩
 ·rw [bendW_2 h]; exact ⟨hy.a, hy.b, hy.now, hb.n, hy.til, hy.ser, hy.noise, hy.word, hy.fresh, hy.asked, hy.len⟩
 ·rw [bendW_3 h]; exact ⟨hy.a, hy.b, hy.now, hy.nxt, hb.n, hy.ser, hy.noise, hy.word, hy.fresh, hy.asked, hy.len⟩
 ·rw [bendW_4 h]; exact ⟨hy.a, hy.b, hy.now, hy.nxt, hy.til, hb.n, hy.noise, hy.word, hy.fresh, hy.asked, hy.len⟩
 ·rw [bendW_5 h]; exact ⟨hy.a, hy.b, hy.now, hy.nxt, hy.til, hy.ser, hy.noise, hy.word, hy.fresh, hy.asked, hy.len⟩
 ·rw [bendW_6 h]; exact ⟨hy.a, hy.b, hy.now, hy.nxt, hy.til, hy.ser, hb.s, hy.word, hy.fresh, hy.asked, hy.len⟩
 ·rw [bendW_7 h]; exact ⟨hy.a, hy.b, hy.now, hy.nxt, hy.til, hy.ser, hy.noise, hb.s, hy.fresh, hy.asked, hy.len⟩
 ·rw [bendW_8 h]; exact ⟨hy.a, hy.b, hy.now, hy.nxt, hy.til, hy.ser, hy.noise, hy.word, hb.s, hy.asked, hy.len⟩
 ·rw [bendW_9 h]
  refine ⟨hy.a, hy.b, hy.now, hy.nxt, hy.til, hy.ser, hy.noise, hy.word, hy.fresh, fun i hi => ?_, ?_⟩
  ·rcases List.mem_append.1 hi with h1 | h1
   ·exact hy.asked i h1
   ·rw [List.mem_singleton] at h1; rw [h1]; exact hb.n
  ·show (y.asked ++ [b.n]).length ≤ maxLen
   rw [List.length_append]; unfold maxLen; simp only [List.length_singleton]; omega
 ·rw [bendW_10 h]
  split
  ·refine ⟨hy.a, hy.b, hy.now, hy.nxt, hy.til, hy.ser, hy.noise, hy.word, hy.fresh, fun i hi => ?_, ?_⟩
   ·rcases List.mem_or_eq_of_mem_set hi with h1 | h1
    ·exact hy.asked i h1
    ·rw [h1]; exact hb.n
   ·show (y.asked.set _ _).length ≤ maxLen
    rw [List.length_set]; exact hy.len
  ·exact hy
set_option maxHeartbeats 16000000
set_option maxHeartbeats 8000000
def adW (k : UInt8) : Ad := ⟨⟨#[10, 0, 0, k]⟩, 1⟩
def wk1 : Wt := ⟨adW 1, adW 2, 0, 4000, 30000, 0, false, ⟨#[0, 128]⟩, (⟨#[97, 98, 99, 100]⟩ : ByteArray), ⟨#[]⟩, []⟩
def wk3 : Wt := ⟨adW 1, adW 2, 4000, 9000, 30000, 1, false, ⟨#[0, 128]⟩, (⟨#[97, 98, 99, 100]⟩ : ByteArray), ⟨#[]⟩, [0]⟩
def wk4 : Wt := ⟨adW 1, adW 2, 4100, 9000, 34100, 1, false, ⟨#[0, 128]⟩, (⟨#[97, 98, 99, 100]⟩ : ByteArray), ⟨#[]⟩, []⟩
def wk5 : Wt := ⟨adW 1, adW 2, 10, 4000, 30000, 0, false, ⟨#[0, 128]⟩, (⟨#[97, 98, 99, 100]⟩ : ByteArray), (⟨#[101, 102, 103, 104]⟩ : ByteArray), []⟩
def wk6 : Wt := ⟨adW 3, adW 2, 20, 4000, 30020, 0, false, ⟨#[0, 128]⟩, (⟨#[101, 102, 103, 104]⟩ : ByteArray), ⟨#[]⟩, []⟩
theorem wk_new : newE (adW 1) (adW 2) (⟨#[97, 98, 99, 100]⟩ : ByteArray) ⟨#[0, 128]⟩ 0 = (wk1, 0) := by kernel_rfl
theorem wk_wake : wakeW wk1 = (4000, 0) := by kernel_rfl
theorem wk_time : timeE wk1 4000 = (wk3, [(adW 1, adW 2, askP 0)], 0) := by kernel_rfl
theorem wk_hear : hearE wk3 4100 (adW 2, adW 1, p2 0 (adW 1)) = (wk4, [], 0) := by kernel_rfl
theorem wk_rest : restE wk1 10 (⟨#[101, 102, 103, 104]⟩ : ByteArray) = (wk5, 0) := by kernel_rfl
theorem wk_sw : swE wk5 20 (adW 3) (adW 2) = (wk6, 0) := by kernel_rfl
theorem wk_chk : chkW wk1 = 0 := by kernel_rfl
theorem wk_chk0 : chkW zW = 120 := by kernel_rfl
theorem adW_ok (k : UInt8) : (adW k).Ok := end_ok _ _ (Nat.le_refl 4) (by decide)
theorem addr_1 : PureF Try.prog 8 #[.int .u8 1] (.agg #[.string ⟨#[10, 0, 0, 1]⟩, .int .i64 1]) := addr_p 1
theorem addr_2 : PureF Try.prog 8 #[.int .u8 2] (.agg #[.string ⟨#[10, 0, 0, 2]⟩, .int .i64 1]) := addr_p 2
theorem addr_3 : PureF Try.prog 8 #[.int .u8 3] (.agg #[.string ⟨#[10, 0, 0, 3]⟩, .int .i64 1]) := addr_p 3
theorem sample_p : PureF Try.prog 5 #[] (.tuple #[.agg (wk1.c (.slice none 0 0)).toArray, .int .i64 0]) := by
 have hN := fun {W : World} => New_c (W := W) (adW 1).h (adW 2).h (adW 1).p (adW 2).p (⟨#[97, 98, 99, 100]⟩ : ByteArray) ⟨#[0, 128]⟩ 0 (adW_ok 1) (adW_ok 2) (by unfold SzS maxLen; decide) (by unfold SzS maxLen; decide)
 have e : newE ⟨(adW 1).h, (adW 1).p⟩ ⟨(adW 2).h, (adW 2).p⟩ (⟨#[97, 98, 99, 100]⟩ : ByteArray) ⟨#[0, 128]⟩ 0 = (wk1, 0) := wk_new
 rw [e] at hN
 first | refine v_pure TTok FFok Try.func5 rfl rfl fun w0 => ?_ | refine v_pure (args := []) TTok FFok Try.func5 rfl rfl fun w0 => ?_
 conv => whnf
 refine VSeq.mk fun Kq hKq => ?_
 conv => whnf
 have hp := Hp.nil w0
 (refine hp.kalloc z28 fun al28 w hp hx => ?_; conv => whnf)
 (refine hKq _ _ _ (.refl _) ?_; clear hKq Kq; conv => whnf)
 (refine VSeq.mk fun Kq hKq => ?_; conv => whnf)
 (refine V.CallW.out ?_; (conv => arg 3; dsimp only [EV.val, List.toList_toArray, List.nil_append, List.append_nil, List.cons_append]); refine V.PureF.useW (addr_1) fun w hx => ?_; try (have hp := hp.call hx); conv => whnf)
 (refine V.CallW.out ?_; (conv => arg 3; dsimp only [EV.val, List.toList_toArray, List.nil_append, List.append_nil, List.cons_append]); refine V.PureF.useW (addr_2) fun w hx => ?_; try (have hp := hp.call hx); conv => whnf)
 (refine ⟨_, _, bld25_0_1 _ _ _ _ _, ?_⟩; conv => whnf)
 refine V.CallsUse hN fun w hx => ?_
 have hp := hp.call hx
 conv => whnf
 clear hN
 (refine hp.kstA TTok rfl 0 rfl rfl (oneC_of rfl) (by rfl) fun w hp => ?_; try simp only [List.set_cons_zero, List.set_cons_succ, EV.val] at hp; conv => whnf)
 (refine hKq _ _ _ (.refl _) ?_; clear hKq Kq; conv => whnf)
 (refine ⟨_, Blk.lvN (hp.get (i := 0) rfl) TTok rfl rfl, ?_⟩; conv => whnf)
 (exact ⟨rfl, hp.ext⟩)
theorem HEq_c {W : World} {v u : Value} (h : Hop3) (hh : h.1.Ok ∧ h.2.1.Ok ∧ h.2.2.Ok) (hv : HR W v [h]) (hu : HR W u [h]) :
  Calls Try.prog 15 #[v, u] W fun e w' => e = .returned (.bool true) ∧ Ext W w' := by
 rcases hv with ⟨hx, _⟩ | ⟨h1, g, c, e1, rfl, hc⟩
 ·simp at hx
 ·rcases hu with ⟨hx, _⟩ | ⟨h2, g2, c2, e2, rfl, hc2⟩
  ·simp at hx
  ·obtain rfl : h = h1 := by simpa using e1
   obtain rfl : h = h2 := by simpa using e2
   have pe := fun w xo yo => hop_eq w h hh xo yo
   refine v_reads (args := [.slice (some ⟨g, 0, none⟩) 1 c, .slice (some ⟨g2, 0, none⟩) 1 c2]) TTok FFok Try.func15 rfl rfl ?_
   conv => whnf
   refine VSeq.mk fun Kq hKq => ?_
   conv => whnf
   refine hKq _ _ _ (.refl _) ?_
   clear hKq Kq
   conv => whnf
   refine VSeq.mk fun Kq hKq => ?_
   conv => whnf
   refine VSeq.mk fun Kq hKq => ?_
   conv => whnf
   refine hKq _ _ _ (.refl _) ?_
   clear hKq Kq
   conv => whnf
   have hp := Hp.nil W
   (refine And.intro (fun h => absurd (of_decide_eq_true h) (by first | (intro h2; exact absurd rfl h2) | omega | decide)) (fun _ => ?_); conv => whnf)
   (refine hKq _ _ _ (.refl _) ?_; clear hKq Kq; conv => whnf)
   (refine VSeq.mk fun Kq hKq => ?_; conv => whnf)
   (refine VSeq.mk fun Kq hKq => ?_; conv => whnf)
   (refine hKq _ _ _ (.refl _) ?_; clear hKq Kq; conv => whnf)
   refine ⟨fun mm e w' => ∃ (i : Nat), mm + i = 1 ∧ e = [(0, .v (.slice (some ⟨g, 0, none⟩) 1 c)), (1, .v (.slice (some ⟨g2, 0, none⟩) 1 c2)), (12, .v (.int .i64 1)), (13, .v (.int .i64 i))] ∧ HpM [] W w' [], ⟨1, _, ⟨0, rfl, rfl, hp⟩, sub_cons rfl (sub_cons rfl (sub_cons rfl (sub_cons rfl sub_nil)))⟩, ?_⟩
   rintro mm _ w ⟨i, hmm, rfl, hp⟩
   conv => whnf
   refine VSeq.mk fun Kq hKq => ?_
   conv => whnf
   refine hKq _ _ _ (.refl _) ?_
   clear hKq Kq
   conv => whnf
   refine VSeq.mk fun Kq hKq => ?_
   conv => whnf
   refine ⟨fun hlt => ?_, fun hlt => ?_⟩
   ·have hlt := of_decide_eq_true hlt
    conv => whnf
    refine hKq _ _ _ (.refl _) ?_
    clear hKq Kq
    conv => whnf
    refine VSeq.mk fun Kq hKq => ?_
    conv => whnf
    refine VSeq.mk fun Kq hKq => ?_
    conv => whnf
    refine hKq _ _ _ (.refl _) ?_
    clear hKq Kq
    conv => whnf
    refine VSeq.mk fun Kq hKq => ?_
    conv => whnf
    obtain rfl : i = 0 := by omega
    skip
    refine v_mixA TTok FFok mixed [(0, false), (1, false), (2, false), (3, false), (4, false), (5, false), (6, false), (7, false), (8, false)] (by kernel_rfl) ?_
    conv => whnf
    (refine ⟨_, ⟨rfl, by omega⟩, ?_⟩; conv => whnf)
    refine ⟨_, fun w' hx' => run_ldN TTok rfl (n := 12) rfl fun j v hj => (by rw [show addM 0 0 12 + j = j by simp [addM]]; exact (hp.ext.trans hx').cell (hc j v hj)), ?_⟩
    conv => whnf
    (refine ⟨_, ⟨rfl, by omega⟩, ?_⟩; conv => whnf)
    refine ⟨_, fun w' hx' => run_ldN TTok rfl (n := 12) rfl fun j v hj => (by rw [show addM 0 0 12 + j = j by simp [addM]]; exact (hp.ext.trans hx').cell (hc2 j v hj)), ?_⟩
    conv => whnf
    skip
    refine ⟨_, fun w' _ => pe w' _ _, ?_⟩
    conv => whnf
    (intro w hx; try (have hp := hp.call hx); conv => whnf)
    (refine hKq _ _ _ (.refl _) ?_; clear hKq Kq; conv => whnf)
    (refine And.intro (fun h => absurd h (by decide)) (fun _ => ?_); conv => whnf)
    (refine hKq _ _ _ (.refl _) ?_; clear hKq Kq; conv => whnf)
    (refine Or.inl (And.intro (by first | omega | decide) ?_); conv => whnf)
    exact ⟨mm - 1, _, by omega, ⟨1, by omega, rfl, hp⟩, sub_cons rfl (sub_cons rfl (sub_cons rfl (sub_cons rfl sub_nil)))⟩
   ·have hlt := of_decide_eq_false hlt
    conv => whnf
    clear hKq Kq
    refine hKq _ _ _ (.refl _) ?_
    clear hKq Kq
    conv => whnf
    refine VSeq.mk fun Kq hKq => ?_
    conv => whnf
    refine hKq _ _ _ (.refl _) ?_
    clear hKq Kq
    conv => whnf
    (exact ⟨rfl, hp.ext⟩)
set_option maxHeartbeats 16000000
theorem wakes_p : PureF Try.prog 4 #[] (.bool true) := by
 have o1 : wk1.Ok := by have := newE_ok (adW_ok 1) (adW_ok 2) (word := (⟨#[97, 98, 99, 100]⟩ : ByteArray)) (noise := ⟨#[0, 128]⟩) (now := 0) (by unfold SzS maxLen; decide) (by unfold SzS maxLen; decide); rw [wk_new] at this; exact this
 have o3 : wk3.Ok := by have := timeE_ok o1 4000; rw [wk_time] at this; exact this
 have o5 : wk5.Ok := by have := restE_ok o1 10 (s := (⟨#[101, 102, 103, 104]⟩ : ByteArray)) (by unfold SzS maxLen; decide); rw [wk_rest] at this; exact this
 have hA : Prb.Ok (p2 0 (adW 1)) := p2_ok ⟨by decide, by decide⟩ (adW_ok 1)
 have s2 := fun {W : World} {v : Value} hv => Wake12_c (W := W) (v := v) wk1 o1 hv
 have s3 := fun {W : World} {v : Value} hv => TimeE_c (W := W) (v := v) wk1 o1 hv 4000
 have s4 := fun {W : World} {v : Value} hv => HearE_c (W := W) (v := v) wk3 o3 hv 4100 (adW 2, adW 1, p2 0 (adW 1)) ⟨adW_ok 2, adW_ok 1, hA⟩
 have s5 := fun {W : World} {v : Value} hv => RestE_c (W := W) (v := v) wk1 o1 hv 10 (⟨#[101, 102, 103, 104]⟩ : ByteArray) (by unfold SzS maxLen; decide)
 have s6 := fun {W : World} {v : Value} hv => SwE_c (W := W) (v := v) wk5 o5 hv 20 (adW 3).h (adW 2).h (adW 3).p (adW 2).p (adW_ok 3) (adW_ok 2)
 have s7 := fun {W : World} {v : Value} hv => Check12_c (W := W) (v := v) wk1 o1 hv
 have s8 := fun {W : World} {v : Value} hv => Check12_c (W := W) (v := v) zW zW_ok hv
 have s9 := fun {W : World} {v u : Value} hv hu => HEq_c (W := W) (v := v) (u := u) (adW 1, adW 2, askP 0) ⟨adW_ok 1, adW_ok 2, ⟨⟨by decide, by decide⟩, ⟨by decide, by decide⟩, ⟨by decide, by decide⟩, ⟨by decide, by decide⟩, Ad.z_ok⟩⟩ hv hu
 have e6 : swE wk5 20 ⟨(adW 3).h, (adW 3).p⟩ ⟨(adW 2).h, (adW 2).p⟩ = (wk6, 0) := wk_sw
 rw [wk_wake] at s2
 rw [wk_time] at s3
 rw [wk_hear] at s4
 rw [wk_rest] at s5
 rw [e6] at s6
 rw [wk_chk] at s7
 rw [wk_chk0] at s8
 clear e6 o1 o3 o5 hA
 dsimp only [ResE, ResW, Wt.c, hopF, hopC, wk1, wk3, wk4, wk5, wk6, adW, p2, Ad.z, zW, iv, List.map] at s2 s3 s4 s5 s6 s7 s8
 first | refine v_pure TTok FFok Try.func4 rfl rfl fun w0 => ?_ | refine v_pure (args := []) TTok FFok Try.func4 rfl rfl fun w0 => ?_
 conv => whnf
 refine VSeq.mk fun Kq hKq => ?_
 conv => whnf
 refine hKq _ _ _ (.refl _) ?_
 clear hKq Kq
 conv => whnf
 refine VSeq.mk fun Kq hKq => ?_
 conv => whnf
 have hp := Hp.nil w0
 (refine V.CallW.out ?_; (conv => arg 3; dsimp only [EV.val, List.toList_toArray, List.nil_append, List.append_nil, List.cons_append]); (with_reducible refine V.PureF.useW (sample_p) fun w hx => ?_); try (have hp := hp.call hx); conv => whnf)
 (refine hp.kalloc z28 fun al28 w hp hx => ?_; conv => whnf)
 (refine hp.kstA TTok rfl 0 rfl rfl (oneC_of rfl) (by rfl) fun w hp => ?_; try simp only [List.set_cons_zero, List.set_cons_succ, EV.val] at hp; conv => whnf)
 (refine hKq _ _ _ (.refl _) ?_; clear hKq Kq; conv => whnf)
 (refine VSeq.mk fun Kq hKq => ?_; conv => whnf)
 (refine ⟨_, _, Blk.ldV (vs := [_, _, _, _, _, _, _, _, _, _, _, _, _]) (hp.get (i := 0) rfl) TTok rfl rfl rfl, ?_⟩; conv => whnf)
 dsimp only [Wt.c, wk1, adW] at hp
 refine V.CallsUse (s2 SLv.nil) fun w hx => ?_
 have hp := hp.call hx
 conv => whnf
 clear s2
 (refine hKq _ _ _ (.refl _) ?_; clear hKq Kq; conv => whnf)
 (refine VSeq.mk fun Kq hKq => ?_; conv => whnf)
 (refine ⟨_, _, Blk.ldV (vs := [_, _, _, _, _, _, _, _, _, _, _, _, _]) (hp.get (i := 0) rfl) TTok rfl rfl rfl, ?_⟩; conv => whnf)
 refine Calls.mono (s3 SLv.nil) ?_
 rintro _ w ⟨_, rfl, v3, r3, rfl, hx, hs3, hr3⟩
 refine ⟨_, rfl, ?_⟩
 have hpO := hp.call hx
 have hB : Blk w _ _ _ := hpO.get (i := 0) rfl
 obtain ⟨p3, c3, rfl⟩ := hs3.shape
 obtain ⟨q3, d3, rfl⟩ := hr3.s.shape
 have hv3 := hs3.s
 have hr3 := hr3.s
 clear s3 hs3 hp
 repeat clear hp
 have hpN := Hp.nil w
 have hp := hpN
 conv => whnf
 (refine hp.kalloc z28 fun al28 w hp hx => ?_; conv => whnf)
 (refine hp.kstA TTok rfl 0 rfl rfl (oneC_of rfl) (by rfl) fun w hp => ?_; try simp only [List.set_cons_zero, List.set_cons_succ, EV.val] at hp; conv => whnf)
 (refine hKq _ _ _ (.refl _) ?_; clear hKq Kq; conv => whnf)
 (refine VSeq.mk fun Kq hKq => ?_; conv => whnf)
 have hcls := hp.pick [0] (by decide)
 simp only [List.filterMap_cons, List.filterMap_nil, List.getElem?_cons_zero, List.getElem?_cons_succ] at hcls
 refine v_mtC TTok FFok mixed _ hcls [] (.q 0 (.q 1 (.q 2 (.q 3 (.q 4 (.q 5 (.br 6 11 (.q 7 (.q 8 (.q 9 (.q 10 (.m 11 (.m 12 (.q 13 (.q 14 .nil)))))))) (.m 6 (.q 7 (.q 8 (.q 9 (.q 10 (.m 12 (.q 13 (.q 14 .nil))))))))))))))) (by kernel_rfl) ?_
 clear hcls
 conv => whnf
 (refine ⟨_, fun w' hc => Blk.ldV (vs := [_, _, _, _, _, _, _, _, _, _, _, _, _]) (hc.get (i := 0) rfl) TTok rfl rfl rfl, ?_⟩; conv => whnf)
 (refine V.QCallC.out ?_; (conv => arg 3; dsimp only [EV.val, List.toList_toArray, List.nil_append, List.append_nil, List.cons_append]); refine V.PureF.quietC (addr_2) ?_; conv => whnf)
 (refine V.QCallC.out ?_; (conv => arg 3; dsimp only [EV.val, List.toList_toArray, List.nil_append, List.append_nil, List.cons_append]); refine V.PureF.quietC (addr_1) ?_; conv => whnf)
 (refine V.QCallC.out ?_; (conv => arg 3; dsimp only [EV.val, List.toList_toArray, List.nil_append, List.append_nil, List.cons_append]); refine V.PureF.quietC (addr_1) ?_; conv => whnf)
 (refine ⟨_, fun w' hx' => bld38_0_6 w' _ _ _, ?_⟩; conv => whnf)
 (refine ⟨_, fun w' hx' => bld40_0_1_2 w' _ _ _ _ _ _ _ _ _ _ _ _, ?_⟩; conv => whnf)
 refine And.intro ?_ ?_
 all_goals
  conv => whnf
  first | ((intro w hx; try (have hp := hp.call hx); conv => whnf); (refine hp.kalloc z28 fun al28 w hp hx => ?_; conv => whnf); (refine And.intro (fun hc => hc.call hx) ?_; conv => whnf); (intro w hx; try (have hp := hp.call hx); conv => whnf)) | ((intro w hx; try (have hp := hp.call hx); conv => whnf))
  refine Calls.mono (s4 (hv3.ext hp.ext)) ?_
  rintro _ w ⟨_, rfl, v4, r4, rfl, hx, hs4, hr4⟩
  refine ⟨_, rfl, ?_⟩
  have hp := hp.call hx
  obtain ⟨p4, c4, rfl⟩ := hs4.shape
  obtain ⟨q4, d4, rfl⟩ := hr4.s.shape
  clear hs4 hr4
  conv => whnf
  first | ((refine And.intro (fun hc => hc.call hx) ?_; conv => whnf); (intro w hx; try (have hp := hp.call hx); conv => whnf); (refine hp.kalloc z28 fun al28 w hp hx => ?_; conv => whnf); (refine And.intro (fun hc => hc.call hx) ?_; conv => whnf); (intro w hx; try (have hp := hp.call hx); conv => whnf); (refine hp.kstA TTok rfl 0 rfl rfl (oneC_of rfl) (by rfl) fun w hp => ?_; try simp only [List.set_cons_zero, List.set_cons_succ, EV.val] at hp; conv => whnf); (refine And.intro (fun _ => hp.pick [1] (by decide)) ?_; conv => whnf); (intro w hx; try (have hp := hp.call hx); conv => whnf); (refine hKq _ _ _ (.refl _) ?_; clear hKq Kq; conv => whnf); (refine VSeq.mk fun Kq hKq => ?_; conv => whnf); (refine ⟨_, _, Blk.ldN (Blk.ext hB hp.ext) TTok rfl rfl, ?_⟩; conv => whnf)) | ((refine And.intro (fun hc => hc.call hx) ?_; conv => whnf); (intro w hx; try (have hp := hp.call hx); conv => whnf); (refine hp.kstA TTok rfl 0 rfl rfl (oneC_of rfl) (by rfl) fun w hp => ?_; try simp only [List.set_cons_zero, List.set_cons_succ, EV.val] at hp; conv => whnf); (refine And.intro (fun _ => hp.pick [1] (by decide)) ?_; conv => whnf); (intro w hx; try (have hp := hp.call hx); conv => whnf); (refine hKq _ _ _ (.refl _) ?_; clear hKq Kq; conv => whnf); (refine VSeq.mk fun Kq hKq => ?_; conv => whnf); (refine ⟨_, _, Blk.ldN (Blk.ext hB hp.ext) TTok rfl rfl, ?_⟩; conv => whnf))
  refine Calls.mono (s5 SLv.nil) ?_
  rintro _ w ⟨_, rfl, v5, rfl, hx, hs5⟩
  refine ⟨_, rfl, ?_⟩
  have hp := hp.call hx
  obtain ⟨p5, c5, rfl⟩ := hs5.shape
  clear hs5
  conv => whnf
  (refine hp.kalloc z28 fun al28 w hp hx => ?_; conv => whnf)
  (refine hp.kstA TTok rfl 0 rfl rfl (oneC_of rfl) (by rfl) fun w hp => ?_; try simp only [List.set_cons_zero, List.set_cons_succ, EV.val] at hp; conv => whnf)
  (refine hKq _ _ _ (.refl _) ?_; clear hKq Kq; conv => whnf)
  (refine VSeq.mk fun Kq hKq => ?_; conv => whnf)
  have hcls := hp.pick [0] (by decide)
  simp only [List.filterMap_cons, List.filterMap_nil, List.getElem?_cons_zero, List.getElem?_cons_succ] at hcls
  refine v_mtC TTok FFok mixed _ hcls [] (.q 0 (.q 1 (.q 2 (.q 3 (.br 4 8 (.q 5 (.q 6 (.q 7 (.m 8 (.m 9 (.q 10 .nil)))))) (.m 4 (.q 5 (.q 6 (.q 7 (.m 9 (.q 10 .nil))))))))))) (by kernel_rfl) ?_
  clear hcls
  conv => whnf
  (refine ⟨_, fun w' hc => Blk.ldV (vs := [_, _, _, _, _, _, _, _, _, _, _, _, _]) (hc.get (i := 0) rfl) TTok rfl rfl rfl, ?_⟩; conv => whnf)
  (refine V.QCallC.out ?_; (conv => arg 3; dsimp only [EV.val, List.toList_toArray, List.nil_append, List.append_nil, List.cons_append]); refine V.PureF.quietC (addr_3) ?_; conv => whnf)
  (refine V.QCallC.out ?_; (conv => arg 3; dsimp only [EV.val, List.toList_toArray, List.nil_append, List.append_nil, List.cons_append]); refine V.PureF.quietC (addr_2) ?_; conv => whnf)
  (refine ⟨_, fun w' hx' => bld25_0_1 w' _ _ _ _, ?_⟩; conv => whnf)
  refine And.intro ?_ ?_
  all_goals
   conv => whnf
   first | ((intro w hx; try (have hp := hp.call hx); conv => whnf); (refine hp.kalloc z28 fun al28 w hp hx => ?_; conv => whnf); (refine And.intro (fun hc => hc.call hx) ?_; conv => whnf); (intro w hx; try (have hp := hp.call hx); conv => whnf)) | ((intro w hx; try (have hp := hp.call hx); conv => whnf))
   refine Calls.mono (s6 (.inl ⟨rfl, _, _, rfl⟩)) ?_
   rintro _ w ⟨_, rfl, v6, rfl, hx, hs6⟩
   refine ⟨_, rfl, ?_⟩
   have hp := hp.call hx
   obtain ⟨p6, c6, rfl⟩ := hs6.shape
   clear hs6
   conv => whnf
   first | ((refine And.intro (fun hc => hc.call hx) ?_; conv => whnf); (intro w hx; try (have hp := hp.call hx); conv => whnf); (refine hp.kalloc z28 fun al28 w hp hx => ?_; conv => whnf); (refine And.intro (fun hc => hc.call hx) ?_; conv => whnf); (intro w hx; try (have hp := hp.call hx); conv => whnf); (refine hp.kstA TTok rfl 0 rfl rfl (oneC_of rfl) (by rfl) fun w hp => ?_; try simp only [List.set_cons_zero, List.set_cons_succ, EV.val] at hp; conv => whnf); (refine And.intro (fun _ => hp.pick [1] (by decide)) ?_; conv => whnf); (intro w hx; try (have hp := hp.call hx); conv => whnf); (refine hKq _ _ _ (.refl _) ?_; clear hKq Kq; conv => whnf); (refine VSeq.mk fun Kq hKq => ?_; conv => whnf); (refine VSeq.mk fun Kq hKq => ?_; conv => whnf); (refine hKq _ _ _ (.refl _) ?_; clear hKq Kq; conv => whnf); (refine VSeq.mk fun Kq hKq => ?_; conv => whnf); (refine And.intro (fun _ => ?_) (fun h => absurd (by first | rfl | assumption | omega | decide) (of_decide_eq_false h)); conv => whnf); (refine hKq _ _ _ (.refl _) ?_; clear hKq Kq; conv => whnf); (refine VSeq.mk fun Kq hKq => ?_; conv => whnf); (refine And.intro (fun _ => ?_) (fun h => absurd (by first | rfl | assumption | omega | decide) (of_decide_eq_false h)); conv => whnf); (refine hKq _ _ _ (.refl _) ?_; clear hKq Kq; conv => whnf); (refine VSeq.mk fun Kq hKq => ?_; conv => whnf); (refine And.intro (fun _ => ?_) (fun h => absurd (by first | rfl | assumption | omega | decide) (of_decide_eq_false h)); conv => whnf); (refine hKq _ _ _ (.refl _) ?_; clear hKq Kq; conv => whnf); (refine VSeq.mk fun Kq hKq => ?_; conv => whnf); (refine And.intro (fun _ => ?_) (fun h => absurd (by first | rfl | assumption | omega | decide) (of_decide_eq_false h)); conv => whnf); (refine ⟨_, _, Blk.ld (hp.get (i := 3) rfl) TTok rfl rfl, ?_⟩; conv => whnf); (refine hKq _ _ _ (.refl _) ?_; clear hKq Kq; conv => whnf); (refine VSeq.mk fun Kq hKq => ?_; conv => whnf); (refine And.intro (fun _ => ?_) (fun h => absurd (by first | rfl | assumption | omega | decide) (of_decide_eq_false h)); conv => whnf); (refine V.CallW.out ?_; (conv => arg 3; dsimp only [EV.val, List.toList_toArray, List.nil_append, List.append_nil, List.cons_append]); refine V.PureF.useW (addr_1) fun w hx => ?_; try (have hp := hp.call hx); conv => whnf); (refine V.CallW.out ?_; (conv => arg 3; dsimp only [EV.val, List.toList_toArray, List.nil_append, List.append_nil, List.cons_append]); refine V.PureF.useW (addr_2) fun w hx => ?_; try (have hp := hp.call hx); conv => whnf); (refine ⟨_, _, bld38_0_2 _ _ _, ?_⟩; conv => whnf); (refine ⟨_, _, bld40_0_1_2 _ _ _ _ _ _ _ _ _ _ _ _ _, ?_⟩; conv => whnf); (refine hp.kmade _ _ (fun b => .slice (some ⟨b, 0, none⟩) 1 1) (mks32_1_0 _ _ _ _ _ _ _ _ _ _ _ _ _) fun q w hp hx => ?_; conv => whnf)) | ((refine And.intro (fun hc => hc.call hx) ?_; conv => whnf); (intro w hx; try (have hp := hp.call hx); conv => whnf); (refine hp.kstA TTok rfl 0 rfl rfl (oneC_of rfl) (by rfl) fun w hp => ?_; try simp only [List.set_cons_zero, List.set_cons_succ, EV.val] at hp; conv => whnf); (refine And.intro (fun _ => hp.pick [1] (by decide)) ?_; conv => whnf); (intro w hx; try (have hp := hp.call hx); conv => whnf); (refine hKq _ _ _ (.refl _) ?_; clear hKq Kq; conv => whnf); (refine VSeq.mk fun Kq hKq => ?_; conv => whnf); (refine VSeq.mk fun Kq hKq => ?_; conv => whnf); (refine hKq _ _ _ (.refl _) ?_; clear hKq Kq; conv => whnf); (refine VSeq.mk fun Kq hKq => ?_; conv => whnf); (refine And.intro (fun _ => ?_) (fun h => absurd (by first | rfl | assumption | omega | decide) (of_decide_eq_false h)); conv => whnf); (refine hKq _ _ _ (.refl _) ?_; clear hKq Kq; conv => whnf); (refine VSeq.mk fun Kq hKq => ?_; conv => whnf); (refine And.intro (fun _ => ?_) (fun h => absurd (by first | rfl | assumption | omega | decide) (of_decide_eq_false h)); conv => whnf); (refine hKq _ _ _ (.refl _) ?_; clear hKq Kq; conv => whnf); (refine VSeq.mk fun Kq hKq => ?_; conv => whnf); (refine And.intro (fun _ => ?_) (fun h => absurd (by first | rfl | assumption | omega | decide) (of_decide_eq_false h)); conv => whnf); (refine hKq _ _ _ (.refl _) ?_; clear hKq Kq; conv => whnf); (refine VSeq.mk fun Kq hKq => ?_; conv => whnf); (refine And.intro (fun _ => ?_) (fun h => absurd (by first | rfl | assumption | omega | decide) (of_decide_eq_false h)); conv => whnf); (refine ⟨_, _, Blk.ld (hp.get (i := 3) rfl) TTok rfl rfl, ?_⟩; conv => whnf); (refine hKq _ _ _ (.refl _) ?_; clear hKq Kq; conv => whnf); (refine VSeq.mk fun Kq hKq => ?_; conv => whnf); (refine And.intro (fun _ => ?_) (fun h => absurd (by first | rfl | assumption | omega | decide) (of_decide_eq_false h)); conv => whnf); (refine V.CallW.out ?_; (conv => arg 3; dsimp only [EV.val, List.toList_toArray, List.nil_append, List.append_nil, List.cons_append]); refine V.PureF.useW (addr_1) fun w hx => ?_; try (have hp := hp.call hx); conv => whnf); (refine V.CallW.out ?_; (conv => arg 3; dsimp only [EV.val, List.toList_toArray, List.nil_append, List.append_nil, List.cons_append]); refine V.PureF.useW (addr_2) fun w hx => ?_; try (have hp := hp.call hx); conv => whnf); (refine ⟨_, _, bld38_0_2 _ _ _, ?_⟩; conv => whnf); (refine ⟨_, _, bld40_0_1_2 _ _ _ _ _ _ _ _ _ _ _ _ _, ?_⟩; conv => whnf); (refine hp.kmade _ _ (fun b => .slice (some ⟨b, 0, none⟩) 1 1) (mks32_1_0 _ _ _ _ _ _ _ _ _ _ _ _ _) fun q w hp hx => ?_; conv => whnf))
   refine V.CallsUse (s9 (hr3.ext hp.ext) (HR.blk (hp.get (i := 0) rfl))) fun w hx => ?_
   have hp := hp.call hx
   conv => whnf
   (refine hKq _ _ _ (.refl _) ?_; clear hKq Kq; conv => whnf)
   (refine VSeq.mk fun Kq hKq => ?_; conv => whnf)
   (refine And.intro (fun _ => ?_) (fun h => absurd h (by decide)); conv => whnf)
   (refine hKq _ _ _ (.refl _) ?_; clear hKq Kq; conv => whnf)
   (refine VSeq.mk fun Kq hKq => ?_; conv => whnf)
   (refine And.intro (fun _ => ?_) (fun h => absurd (by first | rfl | assumption | omega | decide) (of_decide_eq_false h)); conv => whnf)
   (refine hKq _ _ _ (.refl _) ?_; clear hKq Kq; conv => whnf)
   (refine VSeq.mk fun Kq hKq => ?_; conv => whnf)
   (refine And.intro (fun _ => ?_) (fun h => absurd (by first | rfl | assumption | omega | decide) (of_decide_eq_false h)); conv => whnf)
   (refine ⟨_, _, Blk.ld (hp.get (i := 3) rfl) TTok rfl rfl, ?_⟩; conv => whnf)
   (refine hKq _ _ _ (.refl _) ?_; clear hKq Kq; conv => whnf)
   (refine VSeq.mk fun Kq hKq => ?_; conv => whnf)
   (refine And.intro (fun _ => ?_) (fun h => absurd (by first | rfl | assumption | omega | decide) (of_decide_eq_false h)); conv => whnf)
   (refine ⟨_, _, Blk.ld (hp.get (i := 3) rfl) TTok rfl rfl, ?_⟩; conv => whnf)
   (refine hKq _ _ _ (.refl _) ?_; clear hKq Kq; conv => whnf)
   (refine VSeq.mk fun Kq hKq => ?_; conv => whnf)
   (refine And.intro (fun _ => ?_) (fun h => absurd (by first | rfl | assumption | omega | decide) (of_decide_eq_false h)); conv => whnf)
   (refine hKq _ _ _ (.refl _) ?_; clear hKq Kq; conv => whnf)
   (refine VSeq.mk fun Kq hKq => ?_; conv => whnf)
   (refine And.intro (fun _ => ?_) (fun h => absurd (by first | rfl | assumption | omega | decide) (of_decide_eq_false h)); conv => whnf)
   (refine ⟨_, _, Blk.ld (hp.get (i := 2) rfl) TTok rfl rfl, ?_⟩; conv => whnf)
   (refine hKq _ _ _ (.refl _) ?_; clear hKq Kq; conv => whnf)
   (refine VSeq.mk fun Kq hKq => ?_; conv => whnf)
   (refine And.intro (fun _ => ?_) (fun h => absurd (by first | rfl | assumption | omega | decide) (of_decide_eq_false h)); conv => whnf)
   (refine hKq _ _ _ (.refl _) ?_; clear hKq Kq; conv => whnf)
   (refine VSeq.mk fun Kq hKq => ?_; conv => whnf)
   (refine And.intro (fun _ => ?_) (fun h => absurd (by first | rfl | assumption | omega | decide) (of_decide_eq_false h)); conv => whnf)
   (refine ⟨_, _, Blk.ld (hp.get (i := 1) rfl) TTok rfl rfl, ?_⟩; conv => whnf)
   (refine hKq _ _ _ (.refl _) ?_; clear hKq Kq; conv => whnf)
   (refine VSeq.mk fun Kq hKq => ?_; conv => whnf)
   (refine And.intro (fun _ => ?_) (fun h => absurd (by first | rfl | assumption | omega | decide) (of_decide_eq_false h)); conv => whnf)
   (refine ⟨_, _, Blk.ld (hp.get (i := 1) rfl) TTok rfl rfl, ?_⟩; conv => whnf)
   (refine hKq _ _ _ (.refl _) ?_; clear hKq Kq; conv => whnf)
   (refine VSeq.mk fun Kq hKq => ?_; conv => whnf)
   (refine And.intro (fun _ => ?_) (fun h => absurd (by first | rfl | assumption | omega | decide) (of_decide_eq_false h)); conv => whnf)
   (refine ⟨_, _, Blk.ldN (Blk.ext hB hp.ext) TTok rfl rfl, ?_⟩; conv => whnf)
   refine V.CallsUse (s7 SLv.nil) fun w hx => ?_
   have hp := hp.call hx
   conv => whnf
   (refine hKq _ _ _ (.refl _) ?_; clear hKq Kq; conv => whnf)
   (refine And.intro (fun _ => ?_) (fun h => absurd (by first | rfl | assumption | omega | decide) (of_decide_eq_false h)); conv => whnf)
   (refine ⟨_, _, bld28_ _, ?_⟩; conv => whnf)
   refine V.CallsUse (s8 SLv.nil) fun w hx => ?_
   have hp := hp.call hx
   conv => whnf
   (refine hKq _ _ _ (.refl _) ?_; clear hKq Kq; conv => whnf)
   exact ⟨rfl, (hpO.join hp).ext⟩
set_option maxHeartbeats 16000000
def stepM (y : Wt) : Wt := if (timeE y y.nxt).1.asked.length = 4 then { (timeE y y.nxt).1 with til := (timeE y y.nxt).1.now + 30000 } else (timeE y y.nxt).1
def manyW : Nat → Wt
 | 0 => wk1
 | k + 1 => stepM (manyW k)
theorem many_ok0 : (List.range 9).all (fun k => decide ((timeE (manyW k) (manyW k).nxt).2.2 = 0)) = true := by kernel_rfl
theorem many_err (k : Nat) (h : k < 9) : (timeE (manyW k) (manyW k).nxt).2.2 = 0 := by
 have := List.all_eq_true.1 many_ok0 k (List.mem_range.2 h)
 exact of_decide_eq_true this
theorem many_end : (manyW 9).asked = [1, 2, 3, 4, 5, 6, 7, 8] := by kernel_rfl
theorem many_now1 : (List.range 9).all (fun k => decide ((timeE (manyW k) (manyW k).nxt).1.now ≤ 1000000000000) && decide (0 ≤ (timeE (manyW k) (manyW k).nxt).1.now)) = true := by kernel_rfl
theorem wk1_ok : wk1.Ok := by have := newE_ok (adW_ok 1) (adW_ok 2) (word := (⟨#[97, 98, 99, 100]⟩ : ByteArray)) (noise := ⟨#[0, 128]⟩) (now := 0) (by unfold SzS maxLen; decide) (by unfold SzS maxLen; decide); rw [wk_new] at this; exact this
theorem wk3_ok : wk3.Ok := by have := timeE_ok wk1_ok 4000; rw [wk_time] at this; exact this
theorem step_now (k : Nat) (h : k < 9) : 0 ≤ (timeE (manyW k) (manyW k).nxt).1.now ∧ (timeE (manyW k) (manyW k).nxt).1.now ≤ 1000000000000 := by
 have := List.all_eq_true.1 many_now1 k (List.mem_range.2 h)
 simp only [Bool.and_eq_true, decide_eq_true_eq] at this
 exact ⟨this.2, this.1⟩
theorem many_Ok : ∀ k, k ≤ 9 → (manyW k).Ok
 | 0, _ => wk1_ok
 | k + 1, h => by
  have o := timeE_ok (many_Ok k (by omega)) (manyW k).nxt
  have hn := step_now k (by omega)
  show (stepM (manyW k)).Ok
  unfold stepM
  split
  ·exact ⟨o.a, o.b, o.now, o.nxt, ⟨by simp only; omega, by simp only; omega⟩, o.ser, o.noise, o.word, o.fresh, o.asked, o.len⟩
  ·exact o
def rep (b : UInt8) (n : Nat) : ByteArray := repS ⟨#[b]⟩ n
def bnds : List Bn := [⟨0, 0, 0, ⟨#[]⟩, adW 2⟩, ⟨0, 0, 0, ⟨#[]⟩, Ad.z⟩, ⟨1, 0, -1, ⟨#[]⟩, Ad.z⟩, ⟨1, 0, 30000, ⟨#[]⟩, Ad.z⟩, ⟨2, 0, -1, ⟨#[]⟩, Ad.z⟩, ⟨2, 0, 1099511633777, ⟨#[]⟩, Ad.z⟩, ⟨3, 0, 4000, ⟨#[]⟩, Ad.z⟩, ⟨3, 0, 1099511657777, ⟨#[]⟩, Ad.z⟩, ⟨4, 0, 0, ⟨#[]⟩, Ad.z⟩, ⟨4, 0, 1099511627777, ⟨#[]⟩, Ad.z⟩, ⟨5, 0, 0, ⟨#[]⟩, Ad.z⟩, ⟨6, 0, 0, ⟨#[]⟩, Ad.z⟩, ⟨6, 0, 0, rep 120 65, Ad.z⟩, ⟨7, 0, 0, (⟨#[97, 32, 98, 32, 99]⟩ : ByteArray), Ad.z⟩, ⟨8, 0, 0, (⟨#[97, 98, 99, 100]⟩ : ByteArray), Ad.z⟩, ⟨8, 0, 0, (⟨#[97, 98, 99]⟩ : ByteArray), Ad.z⟩, ⟨9, 0, 0, ⟨#[]⟩, Ad.z⟩, ⟨9, 0, 1, ⟨#[]⟩, Ad.z⟩, ⟨10, 0, -1, ⟨#[]⟩, Ad.z⟩]
theorem bnds_bad : bnds.all (fun b => decide (chkW (bendW b wk3) = 120)) = true := by kernel_rfl
theorem bnds_ok : ∀ b ∈ bnds, b.Ok := by
 have hr : SzS (rep 120 65) := by show (repS _ _).size ≤ _; rw [repS_size]; decide
 intro b hb
 unfold bnds at hb
 simp only [List.mem_cons, List.not_mem_nil, or_false] at hb
 rcases hb with rfl | rfl | rfl | rfl | rfl | rfl | rfl | rfl | rfl | rfl | rfl | rfl | rfl | rfl | rfl | rfl | rfl | rfl | rfl
 all_goals exact ⟨by decide, by decide, ⟨by decide, by decide⟩, by first | exact hr | exact (by unfold SzS maxLen; decide), by first | exact Ad.z_ok | exact adW_ok 2⟩
theorem k_gone : (timeE wk1 30000).1.gone = true ∧ (timeE wk1 30000).2 = ([], 0) := ⟨by kernel_rfl, by kernel_rfl⟩
theorem k_still : (timeE wk1 29999).1.gone = false ∧ (timeE wk1 29999).2.1.length = 1 ∧ (timeE wk1 29999).2.2 = 0 := ⟨by kernel_rfl, by kernel_rfl, by kernel_rfl⟩
theorem k_neg : (timeE wk1 (-1)).2.2 = 2 := by kernel_rfl
theorem k_rest1 : (restE wk1 10 (⟨#[97, 98, 99, 100]⟩ : ByteArray)).2 = 2 := by kernel_rfl
theorem k_rest2 : (restE wk1 30000 (⟨#[101, 102, 103, 104]⟩ : ByteArray)).2 = 8 := by kernel_rfl
theorem k_new1 : (newE (adW 1) (adW 2) (⟨#[97, 98, 99, 100]⟩ : ByteArray) ⟨#[]⟩ 0).2 = 2 := by kernel_rfl
theorem k_new2 : (newE (adW 1) (adW 2) (⟨#[97, 98, 99]⟩ : ByteArray) (⟨#[120]⟩ : ByteArray) 0).2 = 2 := by kernel_rfl
theorem k_new3 : (newE (adW 1) (adW 1) (⟨#[97, 98, 99, 100]⟩ : ByteArray) (⟨#[120]⟩ : ByteArray) 0).2 = 2 := by kernel_rfl
theorem k_new4 : (newE (adW 1) (adW 2) (⟨#[97, 98, 99, 100]⟩ : ByteArray) (rep 120 65) 0).2 = 2 := by kernel_rfl
theorem k_new5 : (newE (adW 1) (adW 2) (⟨#[97, 98, 99, 100]⟩ : ByteArray) (⟨#[120]⟩ : ByteArray) 1099511627777).2 = 2 := by kernel_rfl
theorem k_new6 : (newE (adW 1) (adW 2) (rep 97 64) (rep 255 64) 1099511627776).2 = 0 ∧ (newE (adW 1) (adW 2) (rep 97 64) (rep 255 64) 1099511627776).1.nxt = 1099511633768 := ⟨by kernel_rfl, by kernel_rfl⟩
theorem k_hear1 : (hearE wk1 0 (adW 2, adW 1, ⟨0, 0, 0, false, 0, false, Ad.z⟩)).2.2 = 110 := by kernel_rfl
theorem k_hear2 : (hearE wk1 0 (adW 1, adW 2, p3 0)).2.2 = 2 := by kernel_rfl
theorem k_hear3 : hearE wk1 7 (adW 2, adW 1, ⟨1, 9, 1, false, 3, false, Ad.z⟩) = ((hearE wk1 7 (adW 2, adW 1, ⟨1, 9, 1, false, 3, false, Ad.z⟩)).1, [(adW 1, adW 2, p2 9 (adW 2))], 0) := by kernel_rfl
theorem k_hear3n : (hearE wk1 7 (adW 2, adW 1, ⟨1, 9, 1, false, 3, false, Ad.z⟩)).1.now = 7 := by kernel_rfl
theorem k_sw1 : (swE wk1 0 Ad.z Ad.z).2 = 2 := by kernel_rfl
theorem k_sw2 : (swE wk1 30000 Ad.z Ad.z).2 = 8 := by kernel_rfl
def wkY : Wt := { wk3 with now := 4100 }
theorem k_hear : hearE wk3 4100 (adW 2, adW 1, p2 1 (adW 1)) = (wkY, [], 0) := by kernel_rfl
theorem wkY_ok : wkY.Ok := ⟨wk3_ok.a, wk3_ok.b, ⟨by decide, by decide⟩, wk3_ok.nxt, wk3_ok.til, wk3_ok.ser, wk3_ok.noise, wk3_ok.word, wk3_ok.fresh, wk3_ok.asked, wk3_ok.len⟩
/-- two lists of integers are equal -/
theorem EqI_c {W : World} {v u : Value} (l : List Int) (hl : l.length ≤ 1000) (hv : SLv W v (iv l)) (hu : SLv W u (iv l)) :
  Calls Try.prog 16 #[v, u] W fun e w' => e = .returned (.bool true) ∧ Ext W w' := by
 have hil : (iv l).length = l.length := List.length_map _
 obtain ⟨p, c, rfl⟩ := hv.shape
 obtain ⟨p2, c2, rfl⟩ := hu.shape
 rw [hil] at hv hu ⊢
 refine v_reads (args := [.slice p l.length c, .slice p2 l.length c2]) TTok FFok Try.func16 rfl rfl ?_
 have hp := Hp.nil W
 conv => whnf
 refine VSeq.mk fun Kq hKq => ?_
 conv => whnf
 refine hKq _ _ _ (.refl _) ?_
 clear hKq Kq
 conv => whnf
 refine VSeq.mk fun Kq hKq => ?_
 conv => whnf
 refine VSeq.mk fun Kq hKq => ?_
 conv => whnf
 refine hKq _ _ _ (.refl _) ?_
 clear hKq Kq
 conv => whnf
 (refine And.intro (fun h => absurd (of_decide_eq_true h) (by first | (intro h2; exact absurd rfl h2) | omega | decide)) (fun _ => ?_); conv => whnf)
 (refine hKq _ _ _ (.refl _) ?_; clear hKq Kq; conv => whnf)
 (refine VSeq.mk fun Kq hKq => ?_; conv => whnf)
 (refine VSeq.mk fun Kq hKq => ?_; conv => whnf)
 (refine hKq _ _ _ (.refl _) ?_; clear hKq Kq; conv => whnf)
 refine ⟨fun mm e w' => ∃ (i : Nat), mm + i = l.length ∧ e = [(0, .v (.slice p l.length c)), (1, .v (.slice p2 l.length c2)), (12, .v (.int .i64 l.length)), (13, .v (.int .i64 i))] ∧ HpM [] W w' [],
  ⟨l.length, _, ⟨0, by omega, rfl, hp⟩, sub_cons rfl (sub_cons rfl (sub_cons rfl (sub_cons rfl sub_nil)))⟩, ?_⟩
 clear hp
 repeat clear hp
 rintro mm _ w ⟨i, hmm, rfl, hp⟩
 conv => whnf
 refine VSeq.mk fun Kq hKq => ?_
 conv => whnf
 refine hKq _ _ _ (.refl _) ?_
 clear hKq Kq
 conv => whnf
 refine VSeq.mk fun Kq hKq => ?_
 conv => whnf
 refine ⟨fun hlt => ?_, fun hlt => ?_⟩
 ·have hlt := of_decide_eq_true hlt
  conv => whnf
  refine hKq _ _ _ (.refl _) ?_
  clear hKq Kq
  conv => whnf
  refine VSeq.mk fun Kq hKq => ?_
  conv => whnf
  refine VSeq.mk fun Kq hKq => ?_
  conv => whnf
  refine hKq _ _ _ (.refl _) ?_
  clear hKq Kq
  conv => whnf
  refine VSeq.mk fun Kq hKq => ?_
  conv => whnf
  have hi : i < l.length := by omega
  obtain ⟨a, ha⟩ : ∃ a, l[i]? = some a := ⟨l[i], List.getElem?_eq_getElem hi⟩
  obtain ⟨g, off, rfl, hld⟩ := (hv.ext hp.ext).at (j := i) (x := .int .i64 a) (by unfold iv; rw [List.getElem?_map, ha]; rfl)
  obtain ⟨g2, off2, rfl, hld2⟩ := (hu.ext hp.ext).at (j := i) (x := .int .i64 a) (by unfold iv; rw [List.getElem?_map, ha]; rfl)
  rw [Nat.add_comm] at hld hld2
  skip
  refine v_mixA TTok FFok mixed [(0, false), (1, false), (2, false), (3, false), (4, false), (5, false), (6, false), (7, false), (8, false)] (by kernel_rfl) ?_
  conv => whnf
  (refine ⟨_, ⟨rfl, by omega⟩, ?_⟩; conv => whnf)
  refine ⟨_, fun w' hx' => run_ld TTok rfl (hx'.cell hld), ?_⟩
  conv => whnf
  (refine ⟨_, ⟨rfl, by omega⟩, ?_⟩; conv => whnf)
  refine ⟨_, fun w' hx' => run_ld TTok rfl (hx'.cell hld2), ?_⟩
  conv => whnf
  (intro w hx; try (have hp := hp.call hx); conv => whnf)
  (refine hKq _ _ _ (.refl _) ?_; clear hKq Kq; conv => whnf)
  (refine And.intro (fun h => absurd (of_decide_eq_true h) (by first | (intro h2; exact absurd rfl h2) | omega | decide)) (fun _ => ?_); conv => whnf)
  (refine hKq _ _ _ (.refl _) ?_; clear hKq Kq; conv => whnf)
  (refine Or.inl (And.intro (by first | omega | decide) ?_); conv => whnf)
  exact ⟨mm - 1, _, by omega, ⟨i + 1, by omega, rfl, hp⟩, sub_cons rfl (sub_cons rfl (sub_cons rfl (sub_cons rfl sub_nil)))⟩
 ·have hlt := of_decide_eq_false hlt
  conv => whnf
  clear hKq Kq
  refine hKq _ _ _ (.refl _) ?_
  clear hKq Kq
  conv => whnf
  refine VSeq.mk fun Kq hKq => ?_
  conv => whnf
  refine hKq _ _ _ (.refl _) ?_
  clear hKq Kq
  conv => whnf
  (exact ⟨rfl, hp.ext⟩)
theorem mks47_19_0_1_2_3_4_5_6_7_8_9_10_11_12_13_14_15_16_17_18 (w : World) (x0_0 x0_1 x0_2 x0_3 x0_4 x0_5 : Value) (x1_0 x1_1 x1_2 x1_3 x1_4 x1_5 : Value) (x2_0 x2_1 x2_2 x2_3 x2_4 x2_5 : Value) (x3_0 x3_1 x3_2 x3_3 x3_4 x3_5 : Value) (x4_0 x4_1 x4_2 x4_3 x4_4 x4_5 : Value) (x5_0 x5_1 x5_2 x5_3 x5_4 x5_5 : Value) (x6_0 x6_1 x6_2 x6_3 x6_4 x6_5 : Value) (x7_0 x7_1 x7_2 x7_3 x7_4 x7_5 : Value) (x8_0 x8_1 x8_2 x8_3 x8_4 x8_5 : Value) (x9_0 x9_1 x9_2 x9_3 x9_4 x9_5 : Value) (x10_0 x10_1 x10_2 x10_3 x10_4 x10_5 : Value) (x11_0 x11_1 x11_2 x11_3 x11_4 x11_5 : Value) (x12_0 x12_1 x12_2 x12_3 x12_4 x12_5 : Value) (x13_0 x13_1 x13_2 x13_3 x13_4 x13_5 : Value) (x14_0 x14_1 x14_2 x14_3 x14_4 x14_5 : Value) (x15_0 x15_1 x15_2 x15_3 x15_4 x15_5 : Value) (x16_0 x16_1 x16_2 x16_3 x16_4 x16_5 : Value) (x17_0 x17_1 x17_2 x17_3 x17_4 x17_5 : Value) (x18_0 x18_1 x18_2 x18_3 x18_4 x18_5 : Value) : (Instr.buildSlice 47 19 #[(0, .agg #[x0_0, x0_1, x0_2, x0_3, x0_4, x0_5]), (1, .agg #[x1_0, x1_1, x1_2, x1_3, x1_4, x1_5]), (2, .agg #[x2_0, x2_1, x2_2, x2_3, x2_4, x2_5]), (3, .agg #[x3_0, x3_1, x3_2, x3_3, x3_4, x3_5]), (4, .agg #[x4_0, x4_1, x4_2, x4_3, x4_4, x4_5]), (5, .agg #[x5_0, x5_1, x5_2, x5_3, x5_4, x5_5]), (6, .agg #[x6_0, x6_1, x6_2, x6_3, x6_4, x6_5]), (7, .agg #[x7_0, x7_1, x7_2, x7_3, x7_4, x7_5]), (8, .agg #[x8_0, x8_1, x8_2, x8_3, x8_4, x8_5]), (9, .agg #[x9_0, x9_1, x9_2, x9_3, x9_4, x9_5]), (10, .agg #[x10_0, x10_1, x10_2, x10_3, x10_4, x10_5]), (11, .agg #[x11_0, x11_1, x11_2, x11_3, x11_4, x11_5]), (12, .agg #[x12_0, x12_1, x12_2, x12_3, x12_4, x12_5]), (13, .agg #[x13_0, x13_1, x13_2, x13_3, x13_4, x13_5]), (14, .agg #[x14_0, x14_1, x14_2, x14_3, x14_4, x14_5]), (15, .agg #[x15_0, x15_1, x15_2, x15_3, x15_4, x15_5]), (16, .agg #[x16_0, x16_1, x16_2, x16_3, x16_4, x16_5]), (17, .agg #[x17_0, x17_1, x17_2, x17_3, x17_4, x17_5]), (18, .agg #[x18_0, x18_1, x18_2, x18_3, x18_4, x18_5])]).run Try.prog w = .ok (.slice (some ⟨w.heap.size, 0, none⟩) 19 19) (w.alloc (.cells #[x0_0, x0_1, x0_2, x0_3, x0_4, x0_5, x1_0, x1_1, x1_2, x1_3, x1_4, x1_5, x2_0, x2_1, x2_2, x2_3, x2_4, x2_5, x3_0, x3_1, x3_2, x3_3, x3_4, x3_5, x4_0, x4_1, x4_2, x4_3, x4_4, x4_5, x5_0, x5_1, x5_2, x5_3, x5_4, x5_5, x6_0, x6_1, x6_2, x6_3, x6_4, x6_5, x7_0, x7_1, x7_2, x7_3, x7_4, x7_5, x8_0, x8_1, x8_2, x8_3, x8_4, x8_5, x9_0, x9_1, x9_2, x9_3, x9_4, x9_5, x10_0, x10_1, x10_2, x10_3, x10_4, x10_5, x11_0, x11_1, x11_2, x11_3, x11_4, x11_5, x12_0, x12_1, x12_2, x12_3, x12_4, x12_5, x13_0, x13_1, x13_2, x13_3, x13_4, x13_5, x14_0, x14_1, x14_2, x14_3, x14_4, x14_5, x15_0, x15_1, x15_2, x15_3, x15_4, x15_5, x16_0, x16_1, x16_2, x16_3, x16_4, x16_5, x17_0, x17_1, x17_2, x17_3, x17_4, x17_5, x18_0, x18_1, x18_2, x18_3, x18_4, x18_5] 46)) := by kernel_rfl
end Go.Proofs.Ytefjgoeabfgkmaa
