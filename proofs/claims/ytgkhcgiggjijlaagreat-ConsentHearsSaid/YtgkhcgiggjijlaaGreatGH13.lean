/- Chapter 12: changed watches. -/
/- Drawn regions as trees, over a family of classes of worlds: each quiet operation has a class of its own (what it reads), and barriers of its own (what writes that). Own work. No program is named here. -/
/- Chapter 12: the watches to look at. -/
/- Chapter 12: the four watches of a law. -/
/- Chapter 12: the four watches of a law, walked. -/
/- Chapter 12: the data of the laws, read. -/
/- Chapter 12: plain laws of what stays. -/
/- Chapter 12: slices.Contains over numbers. -/
/- Chapter 12: tools for the laws over events: slices cut, results. -/
/- Chapter 12: the arrays that the laws range over: what each index gives. -/
/- Chapter 12: the layer does something. -/
import Derived.Test.YtgkhcgiggjijlaaGreatGH12
import Derived.Test.YtgkhcgiggjijlaaGreatGH10
import Derived.Test.YtgkhcgiggjijlaaGreatGH08
namespace Go.Proofs.YtgkhcgiggjijlaaGreat
set_option linter.unusedSimpArgs false
set_option linter.unusedVariables false
set_option maxRecDepth 100000
open Go.RowKit V
set_option maxHeartbeats 8000000
structure Bn where
 what : Nat
 at_ : Nat
 n : Int
 s : ByteArray
 a : Ad
abbrev Bn.c (x : Bn) : List Value := [.int .u8 x.what, .int .u8 x.at_, .int .i64 x.n, .string x.s, .string x.a.h, .int .i64 x.a.p]
structure Bn.Ok (x : Bn) : Prop where
 what : x.what < 256
 at_ : x.at_ < 256
 n : In64 x.n
 s : SzS x.s
 a : x.a.Ok
def shBn : Sh := .cons (.int .u8) (.cons (.int .u8) (.cons (.int .i64) (.cons .str (.cons (.ag shA) .nil))))
theorem wf_in64 {a : Int} (h : (Lit.int .i64 a).wf = true) : In64 a := by
 unfold In64
 simp [Lit.wf, IntKind.has, IntKind.min, IntKind.max, IntKind.signed, IntKind.bits] at h; omega
theorem ad_rd {w : World} {cs : List Value} (h : Rd w (.ag shA) cs) : ∃ a : Ad, a.Ok ∧ cs = a.c := by
 obtain ⟨_, _, rfl, ⟨s, rfl, h1⟩, _, _, rfl, ⟨n, rfl, h2⟩, h3⟩ := h
 obtain rfl : _ = [] := h3
 exact ⟨⟨s, n⟩, ⟨h1, wf_in64 h2⟩, rfl⟩
theorem bn_rd {w : World} {cs : List Value} (h : Rd w (.ag shBn) cs) : ∃ b : Bn, b.Ok ∧ cs = b.c := by
 obtain ⟨_, _, rfl, ⟨n1, rfl, h1⟩, _, _, rfl, ⟨n2, rfl, h2⟩, _, _, rfl, ⟨n3, rfl, h3⟩, _, _, rfl, ⟨s, rfl, h4⟩, _, _, rfl, h5, h6⟩ := h
 obtain rfl : _ = [] := h6
 obtain ⟨a, ha, rfl⟩ := ad_rd h5
 obtain ⟨m1, rfl, k1⟩ := nat_of_u h1 rfl
 obtain ⟨m2, rfl, k2⟩ := nat_of_u h2 rfl
 exact ⟨⟨m1, m2, n3, s, a⟩, ⟨k1, k2, wf_in64 h3, h4, ha⟩, rfl⟩
def bendW (b : Bn) (y : Wt) : Wt :=
 if b.what % 11 = 0 then (if b.at_ % 2 = 0 then { y with a := b.a } else { y with b := b.a }) else
 if b.what % 11 = 1 then { y with now := b.n } else
 if b.what % 11 = 2 then { y with nxt := b.n } else
 if b.what % 11 = 3 then { y with til := b.n } else
 if b.what % 11 = 4 then { y with ser := b.n } else
 if b.what % 11 = 5 then { y with gone := !y.gone } else
 if b.what % 11 = 6 then { y with noise := b.s } else
 if b.what % 11 = 7 then { y with word := b.s } else
 if b.what % 11 = 8 then { y with fresh := b.s } else
 if b.what % 11 = 9 then { y with asked := y.asked ++ [b.n] } else
 if 0 < y.asked.length then { y with asked := y.asked.set (b.at_ % y.asked.length) b.n } else y
theorem bendW_0 {b : Bn} {y : Wt} (h : b.what % 11 = 0) : bendW b y = (if b.at_ % 2 = 0 then { y with a := b.a } else { y with b := b.a }) := by
 unfold bendW
 rw [if_pos h]
theorem bendW_1 {b : Bn} {y : Wt} (h : b.what % 11 = 1) : bendW b y = { y with now := b.n } := by
 unfold bendW
 rw [if_neg (by omega), if_pos h]
theorem bendW_2 {b : Bn} {y : Wt} (h : b.what % 11 = 2) : bendW b y = { y with nxt := b.n } := by
 unfold bendW
 rw [if_neg (by omega), if_neg (by omega), if_pos h]
theorem bendW_3 {b : Bn} {y : Wt} (h : b.what % 11 = 3) : bendW b y = { y with til := b.n } := by
 unfold bendW
 rw [if_neg (by omega), if_neg (by omega), if_neg (by omega), if_pos h]
theorem bendW_4 {b : Bn} {y : Wt} (h : b.what % 11 = 4) : bendW b y = { y with ser := b.n } := by
 unfold bendW
 rw [if_neg (by omega), if_neg (by omega), if_neg (by omega), if_neg (by omega), if_pos h]
theorem bendW_5 {b : Bn} {y : Wt} (h : b.what % 11 = 5) : bendW b y = { y with gone := !y.gone } := by
 unfold bendW
 rw [if_neg (by omega), if_neg (by omega), if_neg (by omega), if_neg (by omega), if_neg (by omega), if_pos h]
theorem bendW_6 {b : Bn} {y : Wt} (h : b.what % 11 = 6) : bendW b y = { y with noise := b.s } := by
 unfold bendW
 rw [if_neg (by omega), if_neg (by omega), if_neg (by omega), if_neg (by omega), if_neg (by omega), if_neg (by omega), if_pos h]
theorem bendW_7 {b : Bn} {y : Wt} (h : b.what % 11 = 7) : bendW b y = { y with word := b.s } := by
 unfold bendW
 rw [if_neg (by omega), if_neg (by omega), if_neg (by omega), if_neg (by omega), if_neg (by omega), if_neg (by omega), if_neg (by omega), if_pos h]
theorem bendW_8 {b : Bn} {y : Wt} (h : b.what % 11 = 8) : bendW b y = { y with fresh := b.s } := by
 unfold bendW
 rw [if_neg (by omega), if_neg (by omega), if_neg (by omega), if_neg (by omega), if_neg (by omega), if_neg (by omega), if_neg (by omega), if_neg (by omega), if_pos h]
theorem bendW_9 {b : Bn} {y : Wt} (h : b.what % 11 = 9) : bendW b y = { y with asked := y.asked ++ [b.n] } := by
 unfold bendW
 rw [if_neg (by omega), if_neg (by omega), if_neg (by omega), if_neg (by omega), if_neg (by omega), if_neg (by omega), if_neg (by omega), if_neg (by omega), if_neg (by omega), if_pos h]
theorem bendW_10 {b : Bn} {y : Wt} (h : b.what % 11 = 10) : bendW b y = (if 0 < y.asked.length then { y with asked := y.asked.set (b.at_ % y.asked.length) b.n } else y) := by
 unfold bendW
 rw [if_neg (by omega), if_neg (by omega), if_neg (by omega), if_neg (by omega), if_neg (by omega), if_neg (by omega), if_neg (by omega), if_neg (by omega), if_neg (by omega), if_neg (by omega)]
theorem Bend12_c {W : World} {v : Value} (b : Bn) (hb : b.Ok) (y : Wt) (hl : y.asked.length ≤ 1000) (hv : SLv W v (iv y.asked)) :
  Calls Tryz.prog 36 #[.agg b.c.toArray, .agg (y.c v).toArray] W fun e w' => ∃ u, e = .returned u ∧ ∃ v', u = .agg ((bendW b y).c v').toArray ∧ Ext W w' ∧ SLw W w' v' (iv (bendW b y).asked) := by
 have hsl : (iv y.asked).length = y.asked.length := List.length_map _
 have h1 : ∀ u ∈ iv y.asked, u.oneCell' = true := fun u hu => by
  obtain ⟨a, _, rfl⟩ := List.mem_map.1 hu
  rfl
 have hsrc := fun {w : World} (h : Ext W w) => (hv.ext h).src TTok (tx := 32) rfl h1
 obtain ⟨r, hr⟩ : ∃ r, bendW b y = r := ⟨_, rfl⟩
 rw [hr]
 have f0 := bendW_0 (b := b) (y := y)
 have f1 := bendW_1 (b := b) (y := y)
 have f2 := bendW_2 (b := b) (y := y)
 have f3 := bendW_3 (b := b) (y := y)
 have f4 := bendW_4 (b := b) (y := y)
 have f5 := bendW_5 (b := b) (y := y)
 have f6 := bendW_6 (b := b) (y := y)
 have f7 := bendW_7 (b := b) (y := y)
 have f8 := bendW_8 (b := b) (y := y)
 have f9 := bendW_9 (b := b) (y := y)
 have f10 := bendW_10 (b := b) (y := y)
 rw [hr] at f0 f1 f2 f3 f4 f5 f6 f7 f8 f9 f10
 clear hr
 obtain ⟨what, at_, n, s, ⟨bah, bap⟩⟩ := b
 obtain ⟨b1, b2, _, _, _⟩ := hb
 dsimp only at b1 b2
 obtain ⟨⟨ah, ap⟩, ⟨bh, bp⟩, now, nxt, til, ser, gone, noise, word, fresh, asked⟩ := y
 dsimp only [Wt.c, Bn.c] at hv hl hsl h1 hsrc f0 f1 f2 f3 f4 f5 f6 f7 f8 f9 f10 ⊢
 obtain ⟨p, c, rfl⟩ := hv.shape
 rw [hsl] at hv hsrc ⊢
 refine v_fn (args := [.agg #[.int .u8 what, .int .u8 at_, .int .i64 n, .string s, .string bah, .int .i64 bap], .agg #[.string ah, .int .i64 ap, .string bh, .int .i64 bp, .int .i64 now, .int .i64 nxt, .int .i64 til, .int .i64 ser, .bool gone, .string noise, .string word, .string fresh, .slice p asked.length c]]) TTok FFok Tryz.func36 rfl (Nat.le_of_ble_eq_true rfl) ?_
 conv => whnf
 refine VSeq.mk fun Kq hKq => ?_
 conv => whnf
 have hp := Hp.nil W
 refine hp.kboxA fun q2 w hp hx => ?_
 conv => whnf
 refine hp.kboxA fun q3 w hp hx => ?_
 conv => whnf
 (refine hp.kalloc z34 fun al34 w hp hx => ?_; conv => whnf)
 (refine hKq _ _ _ (.refl _) ?_; clear hKq Kq; conv => whnf)
 (refine VSeq.mk fun Kq hKq => ?_; conv => whnf)
 (refine hKq _ _ _ (.refl _) ?_; clear hKq Kq; conv => whnf)
 (refine VSeq.mk fun Kq hKq => ?_; conv => whnf)
 (refine ⟨_, _, Blk.ld (hp.get (i := 1) rfl) TTok rfl rfl, ?_⟩; conv => whnf)
 have hp := hp.knil 3 1
 refine hp.kapp sl32 0 rfl (hsrc hp.ext) (by omega) (by unfold maxLen; omega) fun v' w hp => ?_
 simp only [List.set_cons_zero, List.set_cons_succ] at hp
 rw [Nat.zero_add, List.nil_append] at hp
 obtain ⟨p1, c1, rfl⟩ := row_shape (hp.get (i := 0) rfl)
 clear hsrc
 conv => whnf
 have hk : what % 11 = 0 ∨ what % 11 = 1 ∨ what % 11 = 2 ∨ what % 11 = 3 ∨ what % 11 = 4 ∨ what % 11 = 5 ∨ what % 11 = 6 ∨ what % 11 = 7 ∨ what % 11 = 8 ∨ what % 11 = 9 ∨ what % 11 = 10 := by omega
 rcases hk with h | h | h | h | h | h | h | h | h | h | h
 ·have hr := f0 h
  clear f0 f1 f2 f3 f4 f5 f6 f7 f8 f9 f10
  (refine hp.kst1 TTok (by rfl) 2 (by rfl) (by rfl) (by rfl) (Nat.le_of_ble_eq_true rfl) fun w hp => ?_; try simp only [List.set_cons_zero, List.set_cons_succ, EV.val] at hp; conv => whnf)
  (refine hKq _ _ _ (.refl _) ?_; clear hKq Kq; conv => whnf)
  (refine VSeq.mk fun Kq hKq => ?_; conv => whnf)
  (refine VSeq.mk fun Kq hKq => ?_; conv => whnf)
  (refine ⟨_, _, Blk.ld (hp.get (i := 3) rfl) TTok rfl rfl, ?_⟩; conv => whnf)
  (refine And.intro (by first | omega | decide) ?_; conv => whnf)
  (refine hKq _ _ _ (.refl _) ?_; clear hKq Kq; conv => whnf)
  (refine VSeq.mk fun Kq hKq => ?_; conv => whnf)
  (refine hKq _ _ _ (.refl _) ?_; clear hKq Kq; conv => whnf)
  (refine And.intro (fun _ => ?_) (fun h => absurd (by first | rfl | assumption | omega | decide) (of_decide_eq_false h)); conv => whnf)
  (refine ⟨_, _, Blk.ld (hp.get (i := 3) rfl) TTok rfl rfl, ?_⟩; conv => whnf)
  (refine Or.inl (And.intro (by first | omega | decide) ?_); conv => whnf)
  (refine And.intro (by first | omega | decide) ?_; conv => whnf)
  (refine ⟨_, _, Blk.ldV (vs := [_, _]) (hp.get (i := 3) rfl) TTok rfl rfl rfl, ?_⟩; conv => whnf)
  by_cases e : at_ % 2 = 0
  ·refine ⟨0, ⟨by omega, by decide⟩, ?_⟩
   conv => whnf
   (refine hp.kstP TTok rfl 2 rfl (vs := [_, _]) rfl (oneC_of rfl) (Nat.le_of_ble_eq_true rfl) rfl fun w hp => ?_; try simp only [List.take_succ_cons, List.take_zero, List.drop_succ_cons, List.drop_zero, List.cons_append, List.nil_append, List.set_cons_zero, List.set_cons_succ, EV.val] at hp; conv => whnf)
   (refine hKq _ _ _ (.refl _) ?_; clear hKq Kq; conv => whnf)
   (refine VSeq.mk fun Kq hKq => ?_; conv => whnf)
   (refine ⟨_, _, Blk.ldV (vs := [_, _, _, _, _, _, _, _, _, _, _, _, _]) (hp.get (i := 2) rfl) TTok rfl rfl rfl, ?_⟩; conv => whnf)
   (refine hp.kstA TTok rfl 1 rfl rfl (oneC_of rfl) (by rfl) fun w hp => ?_; try simp only [List.set_cons_zero, List.set_cons_succ, EV.val] at hp; conv => whnf)
   (refine hKq _ _ _ (.refl _) ?_; clear hKq Kq; conv => whnf)
   (refine ⟨_, Blk.lvN (hp.get (i := 1) rfl) TTok rfl rfl, ?_⟩; conv => whnf)
   rw [hr, if_pos e]
   exact ⟨_, rfl, hp.ext, SLw.row hp (i := 0) rfl⟩
  ·refine ⟨1, ⟨by omega, by decide⟩, ?_⟩
   conv => whnf
   (refine hp.kstP TTok rfl 2 rfl (vs := [_, _]) rfl (oneC_of rfl) (Nat.le_of_ble_eq_true rfl) rfl fun w hp => ?_; try simp only [List.take_succ_cons, List.take_zero, List.drop_succ_cons, List.drop_zero, List.cons_append, List.nil_append, List.set_cons_zero, List.set_cons_succ, EV.val] at hp; conv => whnf)
   (refine hKq _ _ _ (.refl _) ?_; clear hKq Kq; conv => whnf)
   (refine VSeq.mk fun Kq hKq => ?_; conv => whnf)
   (refine ⟨_, _, Blk.ldV (vs := [_, _, _, _, _, _, _, _, _, _, _, _, _]) (hp.get (i := 2) rfl) TTok rfl rfl rfl, ?_⟩; conv => whnf)
   (refine hp.kstA TTok rfl 1 rfl rfl (oneC_of rfl) (by rfl) fun w hp => ?_; try simp only [List.set_cons_zero, List.set_cons_succ, EV.val] at hp; conv => whnf)
   (refine hKq _ _ _ (.refl _) ?_; clear hKq Kq; conv => whnf)
   (refine ⟨_, Blk.lvN (hp.get (i := 1) rfl) TTok rfl rfl, ?_⟩; conv => whnf)
   rw [hr, if_neg e]
   exact ⟨_, rfl, hp.ext, SLw.row hp (i := 0) rfl⟩
 ·have hr := f1 h
  clear f0 f1 f2 f3 f4 f5 f6 f7 f8 f9 f10
  (refine hp.kst1 TTok (by rfl) 2 (by rfl) (by rfl) (by rfl) (Nat.le_of_ble_eq_true rfl) fun w hp => ?_; try simp only [List.set_cons_zero, List.set_cons_succ, EV.val] at hp; conv => whnf)
  (refine hKq _ _ _ (.refl _) ?_; clear hKq Kq; conv => whnf)
  (refine VSeq.mk fun Kq hKq => ?_; conv => whnf)
  (refine VSeq.mk fun Kq hKq => ?_; conv => whnf)
  (refine ⟨_, _, Blk.ld (hp.get (i := 3) rfl) TTok rfl rfl, ?_⟩; conv => whnf)
  (refine And.intro (by first | omega | decide) ?_; conv => whnf)
  (refine hKq _ _ _ (.refl _) ?_; clear hKq Kq; conv => whnf)
  (refine VSeq.mk fun Kq hKq => ?_; conv => whnf)
  (refine hKq _ _ _ (.refl _) ?_; clear hKq Kq; conv => whnf)
  (refine And.intro (fun h => absurd (of_decide_eq_true h) (by first | (intro h2; exact absurd rfl h2) | omega | decide)) (fun _ => ?_); conv => whnf)
  (refine VSeq.mk fun Kq hKq => ?_; conv => whnf)
  (refine hKq _ _ _ (.refl _) ?_; clear hKq Kq; conv => whnf)
  (refine And.intro (fun _ => ?_) (fun h => absurd (by first | rfl | assumption | omega | decide) (of_decide_eq_false h)); conv => whnf)
  (refine ⟨_, _, Blk.ld (hp.get (i := 3) rfl) TTok rfl rfl, ?_⟩; conv => whnf)
  (refine hp.kst1 TTok (by rfl) 2 (by rfl) (by rfl) (by rfl) (Nat.le_of_ble_eq_true rfl) fun w hp => ?_; try simp only [List.set_cons_zero, List.set_cons_succ, EV.val] at hp; conv => whnf)
  (refine hKq _ _ _ (.refl _) ?_; clear hKq Kq; conv => whnf)
  (refine VSeq.mk fun Kq hKq => ?_; conv => whnf)
  (refine ⟨_, _, Blk.ldV (vs := [_, _, _, _, _, _, _, _, _, _, _, _, _]) (hp.get (i := 2) rfl) TTok rfl rfl rfl, ?_⟩; conv => whnf)
  (refine hp.kstA TTok rfl 1 rfl rfl (oneC_of rfl) (by rfl) fun w hp => ?_; try simp only [List.set_cons_zero, List.set_cons_succ, EV.val] at hp; conv => whnf)
  (refine hKq _ _ _ (.refl _) ?_; clear hKq Kq; conv => whnf)
  (refine ⟨_, Blk.lvN (hp.get (i := 1) rfl) TTok rfl rfl, ?_⟩; conv => whnf)
  rw [hr]
  exact ⟨_, rfl, hp.ext, SLw.row hp (i := 0) rfl⟩
 ·have hr := f2 h
  clear f0 f1 f2 f3 f4 f5 f6 f7 f8 f9 f10
  (refine hp.kst1 TTok (by rfl) 2 (by rfl) (by rfl) (by rfl) (Nat.le_of_ble_eq_true rfl) fun w hp => ?_; try simp only [List.set_cons_zero, List.set_cons_succ, EV.val] at hp; conv => whnf)
  (refine hKq _ _ _ (.refl _) ?_; clear hKq Kq; conv => whnf)
  (refine VSeq.mk fun Kq hKq => ?_; conv => whnf)
  (refine VSeq.mk fun Kq hKq => ?_; conv => whnf)
  (refine ⟨_, _, Blk.ld (hp.get (i := 3) rfl) TTok rfl rfl, ?_⟩; conv => whnf)
  (refine And.intro (by first | omega | decide) ?_; conv => whnf)
  (refine hKq _ _ _ (.refl _) ?_; clear hKq Kq; conv => whnf)
  (refine VSeq.mk fun Kq hKq => ?_; conv => whnf)
  (refine hKq _ _ _ (.refl _) ?_; clear hKq Kq; conv => whnf)
  (refine And.intro (fun h => absurd (of_decide_eq_true h) (by first | (intro h2; exact absurd rfl h2) | omega | decide)) (fun _ => ?_); conv => whnf)
  (refine VSeq.mk fun Kq hKq => ?_; conv => whnf)
  (refine hKq _ _ _ (.refl _) ?_; clear hKq Kq; conv => whnf)
  (refine And.intro (fun h => absurd (of_decide_eq_true h) (by first | (intro h2; exact absurd rfl h2) | omega | decide)) (fun _ => ?_); conv => whnf)
  (refine VSeq.mk fun Kq hKq => ?_; conv => whnf)
  (refine hKq _ _ _ (.refl _) ?_; clear hKq Kq; conv => whnf)
  (refine And.intro (fun _ => ?_) (fun h => absurd (by first | rfl | assumption | omega | decide) (of_decide_eq_false h)); conv => whnf)
  (refine ⟨_, _, Blk.ld (hp.get (i := 3) rfl) TTok rfl rfl, ?_⟩; conv => whnf)
  (refine hp.kst1 TTok (by rfl) 2 (by rfl) (by rfl) (by rfl) (Nat.le_of_ble_eq_true rfl) fun w hp => ?_; try simp only [List.set_cons_zero, List.set_cons_succ, EV.val] at hp; conv => whnf)
  (refine hKq _ _ _ (.refl _) ?_; clear hKq Kq; conv => whnf)
  (refine VSeq.mk fun Kq hKq => ?_; conv => whnf)
  (refine ⟨_, _, Blk.ldV (vs := [_, _, _, _, _, _, _, _, _, _, _, _, _]) (hp.get (i := 2) rfl) TTok rfl rfl rfl, ?_⟩; conv => whnf)
  (refine hp.kstA TTok rfl 1 rfl rfl (oneC_of rfl) (by rfl) fun w hp => ?_; try simp only [List.set_cons_zero, List.set_cons_succ, EV.val] at hp; conv => whnf)
  (refine hKq _ _ _ (.refl _) ?_; clear hKq Kq; conv => whnf)
  (refine ⟨_, Blk.lvN (hp.get (i := 1) rfl) TTok rfl rfl, ?_⟩; conv => whnf)
  rw [hr]
  exact ⟨_, rfl, hp.ext, SLw.row hp (i := 0) rfl⟩
 ·have hr := f3 h
  clear f0 f1 f2 f3 f4 f5 f6 f7 f8 f9 f10
  (refine hp.kst1 TTok (by rfl) 2 (by rfl) (by rfl) (by rfl) (Nat.le_of_ble_eq_true rfl) fun w hp => ?_; try simp only [List.set_cons_zero, List.set_cons_succ, EV.val] at hp; conv => whnf)
  (refine hKq _ _ _ (.refl _) ?_; clear hKq Kq; conv => whnf)
  (refine VSeq.mk fun Kq hKq => ?_; conv => whnf)
  (refine VSeq.mk fun Kq hKq => ?_; conv => whnf)
  (refine ⟨_, _, Blk.ld (hp.get (i := 3) rfl) TTok rfl rfl, ?_⟩; conv => whnf)
  (refine And.intro (by first | omega | decide) ?_; conv => whnf)
  (refine hKq _ _ _ (.refl _) ?_; clear hKq Kq; conv => whnf)
  (refine VSeq.mk fun Kq hKq => ?_; conv => whnf)
  (refine hKq _ _ _ (.refl _) ?_; clear hKq Kq; conv => whnf)
  (refine And.intro (fun h => absurd (of_decide_eq_true h) (by first | (intro h2; exact absurd rfl h2) | omega | decide)) (fun _ => ?_); conv => whnf)
  (refine VSeq.mk fun Kq hKq => ?_; conv => whnf)
  (refine hKq _ _ _ (.refl _) ?_; clear hKq Kq; conv => whnf)
  (refine And.intro (fun h => absurd (of_decide_eq_true h) (by first | (intro h2; exact absurd rfl h2) | omega | decide)) (fun _ => ?_); conv => whnf)
  (refine VSeq.mk fun Kq hKq => ?_; conv => whnf)
  (refine hKq _ _ _ (.refl _) ?_; clear hKq Kq; conv => whnf)
  (refine And.intro (fun h => absurd (of_decide_eq_true h) (by first | (intro h2; exact absurd rfl h2) | omega | decide)) (fun _ => ?_); conv => whnf)
  (refine VSeq.mk fun Kq hKq => ?_; conv => whnf)
  (refine hKq _ _ _ (.refl _) ?_; clear hKq Kq; conv => whnf)
  (refine And.intro (fun _ => ?_) (fun h => absurd (by first | rfl | assumption | omega | decide) (of_decide_eq_false h)); conv => whnf)
  (refine ⟨_, _, Blk.ld (hp.get (i := 3) rfl) TTok rfl rfl, ?_⟩; conv => whnf)
  (refine hp.kst1 TTok (by rfl) 2 (by rfl) (by rfl) (by rfl) (Nat.le_of_ble_eq_true rfl) fun w hp => ?_; try simp only [List.set_cons_zero, List.set_cons_succ, EV.val] at hp; conv => whnf)
  (refine hKq _ _ _ (.refl _) ?_; clear hKq Kq; conv => whnf)
  (refine VSeq.mk fun Kq hKq => ?_; conv => whnf)
  (refine ⟨_, _, Blk.ldV (vs := [_, _, _, _, _, _, _, _, _, _, _, _, _]) (hp.get (i := 2) rfl) TTok rfl rfl rfl, ?_⟩; conv => whnf)
  (refine hp.kstA TTok rfl 1 rfl rfl (oneC_of rfl) (by rfl) fun w hp => ?_; try simp only [List.set_cons_zero, List.set_cons_succ, EV.val] at hp; conv => whnf)
  (refine hKq _ _ _ (.refl _) ?_; clear hKq Kq; conv => whnf)
  (refine ⟨_, Blk.lvN (hp.get (i := 1) rfl) TTok rfl rfl, ?_⟩; conv => whnf)
  rw [hr]
  exact ⟨_, rfl, hp.ext, SLw.row hp (i := 0) rfl⟩
 ·have hr := f4 h
  clear f0 f1 f2 f3 f4 f5 f6 f7 f8 f9 f10
  (refine hp.kst1 TTok (by rfl) 2 (by rfl) (by rfl) (by rfl) (Nat.le_of_ble_eq_true rfl) fun w hp => ?_; try simp only [List.set_cons_zero, List.set_cons_succ, EV.val] at hp; conv => whnf)
  (refine hKq _ _ _ (.refl _) ?_; clear hKq Kq; conv => whnf)
  (refine VSeq.mk fun Kq hKq => ?_; conv => whnf)
  (refine VSeq.mk fun Kq hKq => ?_; conv => whnf)
  (refine ⟨_, _, Blk.ld (hp.get (i := 3) rfl) TTok rfl rfl, ?_⟩; conv => whnf)
  (refine And.intro (by first | omega | decide) ?_; conv => whnf)
  (refine hKq _ _ _ (.refl _) ?_; clear hKq Kq; conv => whnf)
  (refine VSeq.mk fun Kq hKq => ?_; conv => whnf)
  (refine hKq _ _ _ (.refl _) ?_; clear hKq Kq; conv => whnf)
  (refine And.intro (fun h => absurd (of_decide_eq_true h) (by first | (intro h2; exact absurd rfl h2) | omega | decide)) (fun _ => ?_); conv => whnf)
  (refine VSeq.mk fun Kq hKq => ?_; conv => whnf)
  (refine hKq _ _ _ (.refl _) ?_; clear hKq Kq; conv => whnf)
  (refine And.intro (fun h => absurd (of_decide_eq_true h) (by first | (intro h2; exact absurd rfl h2) | omega | decide)) (fun _ => ?_); conv => whnf)
  (refine VSeq.mk fun Kq hKq => ?_; conv => whnf)
  (refine hKq _ _ _ (.refl _) ?_; clear hKq Kq; conv => whnf)
  (refine And.intro (fun h => absurd (of_decide_eq_true h) (by first | (intro h2; exact absurd rfl h2) | omega | decide)) (fun _ => ?_); conv => whnf)
  (refine VSeq.mk fun Kq hKq => ?_; conv => whnf)
  (refine hKq _ _ _ (.refl _) ?_; clear hKq Kq; conv => whnf)
  (refine And.intro (fun h => absurd (of_decide_eq_true h) (by first | (intro h2; exact absurd rfl h2) | omega | decide)) (fun _ => ?_); conv => whnf)
  (refine VSeq.mk fun Kq hKq => ?_; conv => whnf)
  (refine hKq _ _ _ (.refl _) ?_; clear hKq Kq; conv => whnf)
  (refine And.intro (fun _ => ?_) (fun h => absurd (by first | rfl | assumption | omega | decide) (of_decide_eq_false h)); conv => whnf)
  (refine ⟨_, _, Blk.ld (hp.get (i := 3) rfl) TTok rfl rfl, ?_⟩; conv => whnf)
  (refine hp.kst1 TTok (by rfl) 2 (by rfl) (by rfl) (by rfl) (Nat.le_of_ble_eq_true rfl) fun w hp => ?_; try simp only [List.set_cons_zero, List.set_cons_succ, EV.val] at hp; conv => whnf)
  (refine hKq _ _ _ (.refl _) ?_; clear hKq Kq; conv => whnf)
  (refine VSeq.mk fun Kq hKq => ?_; conv => whnf)
  (refine ⟨_, _, Blk.ldV (vs := [_, _, _, _, _, _, _, _, _, _, _, _, _]) (hp.get (i := 2) rfl) TTok rfl rfl rfl, ?_⟩; conv => whnf)
  (refine hp.kstA TTok rfl 1 rfl rfl (oneC_of rfl) (by rfl) fun w hp => ?_; try simp only [List.set_cons_zero, List.set_cons_succ, EV.val] at hp; conv => whnf)
  (refine hKq _ _ _ (.refl _) ?_; clear hKq Kq; conv => whnf)
  (refine ⟨_, Blk.lvN (hp.get (i := 1) rfl) TTok rfl rfl, ?_⟩; conv => whnf)
  rw [hr]
  exact ⟨_, rfl, hp.ext, SLw.row hp (i := 0) rfl⟩
 ·have hr := f5 h
  clear f0 f1 f2 f3 f4 f5 f6 f7 f8 f9 f10
  (refine hp.kst1 TTok (by rfl) 2 (by rfl) (by rfl) (by rfl) (Nat.le_of_ble_eq_true rfl) fun w hp => ?_; try simp only [List.set_cons_zero, List.set_cons_succ, EV.val] at hp; conv => whnf)
  (refine hKq _ _ _ (.refl _) ?_; clear hKq Kq; conv => whnf)
  (refine VSeq.mk fun Kq hKq => ?_; conv => whnf)
  (refine VSeq.mk fun Kq hKq => ?_; conv => whnf)
  (refine ⟨_, _, Blk.ld (hp.get (i := 3) rfl) TTok rfl rfl, ?_⟩; conv => whnf)
  (refine And.intro (by first | omega | decide) ?_; conv => whnf)
  (refine hKq _ _ _ (.refl _) ?_; clear hKq Kq; conv => whnf)
  (refine VSeq.mk fun Kq hKq => ?_; conv => whnf)
  (refine hKq _ _ _ (.refl _) ?_; clear hKq Kq; conv => whnf)
  (refine And.intro (fun h => absurd (of_decide_eq_true h) (by first | (intro h2; exact absurd rfl h2) | omega | decide)) (fun _ => ?_); conv => whnf)
  (refine VSeq.mk fun Kq hKq => ?_; conv => whnf)
  (refine hKq _ _ _ (.refl _) ?_; clear hKq Kq; conv => whnf)
  (refine And.intro (fun h => absurd (of_decide_eq_true h) (by first | (intro h2; exact absurd rfl h2) | omega | decide)) (fun _ => ?_); conv => whnf)
  (refine VSeq.mk fun Kq hKq => ?_; conv => whnf)
  (refine hKq _ _ _ (.refl _) ?_; clear hKq Kq; conv => whnf)
  (refine And.intro (fun h => absurd (of_decide_eq_true h) (by first | (intro h2; exact absurd rfl h2) | omega | decide)) (fun _ => ?_); conv => whnf)
  (refine VSeq.mk fun Kq hKq => ?_; conv => whnf)
  (refine hKq _ _ _ (.refl _) ?_; clear hKq Kq; conv => whnf)
  (refine And.intro (fun h => absurd (of_decide_eq_true h) (by first | (intro h2; exact absurd rfl h2) | omega | decide)) (fun _ => ?_); conv => whnf)
  (refine VSeq.mk fun Kq hKq => ?_; conv => whnf)
  (refine hKq _ _ _ (.refl _) ?_; clear hKq Kq; conv => whnf)
  (refine And.intro (fun h => absurd (of_decide_eq_true h) (by first | (intro h2; exact absurd rfl h2) | omega | decide)) (fun _ => ?_); conv => whnf)
  (refine VSeq.mk fun Kq hKq => ?_; conv => whnf)
  (refine hKq _ _ _ (.refl _) ?_; clear hKq Kq; conv => whnf)
  (refine And.intro (fun _ => ?_) (fun h => absurd (by first | rfl | assumption | omega | decide) (of_decide_eq_false h)); conv => whnf)
  (refine ⟨_, _, Blk.ld (hp.get (i := 2) rfl) TTok rfl rfl, ?_⟩; conv => whnf)
  (refine hp.kst1 TTok (by rfl) 2 (by rfl) (by rfl) (by rfl) (Nat.le_of_ble_eq_true rfl) fun w hp => ?_; try simp only [List.set_cons_zero, List.set_cons_succ, EV.val] at hp; conv => whnf)
  (refine hKq _ _ _ (.refl _) ?_; clear hKq Kq; conv => whnf)
  (refine VSeq.mk fun Kq hKq => ?_; conv => whnf)
  (refine ⟨_, _, Blk.ldV (vs := [_, _, _, _, _, _, _, _, _, _, _, _, _]) (hp.get (i := 2) rfl) TTok rfl rfl rfl, ?_⟩; conv => whnf)
  (refine hp.kstA TTok rfl 1 rfl rfl (oneC_of rfl) (by rfl) fun w hp => ?_; try simp only [List.set_cons_zero, List.set_cons_succ, EV.val] at hp; conv => whnf)
  (refine hKq _ _ _ (.refl _) ?_; clear hKq Kq; conv => whnf)
  (refine ⟨_, Blk.lvN (hp.get (i := 1) rfl) TTok rfl rfl, ?_⟩; conv => whnf)
  rw [hr]
  exact ⟨_, rfl, hp.ext, SLw.row hp (i := 0) rfl⟩
 ·have hr := f6 h
  clear f0 f1 f2 f3 f4 f5 f6 f7 f8 f9 f10
  (refine hp.kst1 TTok (by rfl) 2 (by rfl) (by rfl) (by rfl) (Nat.le_of_ble_eq_true rfl) fun w hp => ?_; try simp only [List.set_cons_zero, List.set_cons_succ, EV.val] at hp; conv => whnf)
  (refine hKq _ _ _ (.refl _) ?_; clear hKq Kq; conv => whnf)
  (refine VSeq.mk fun Kq hKq => ?_; conv => whnf)
  (refine VSeq.mk fun Kq hKq => ?_; conv => whnf)
  (refine ⟨_, _, Blk.ld (hp.get (i := 3) rfl) TTok rfl rfl, ?_⟩; conv => whnf)
  (refine And.intro (by first | omega | decide) ?_; conv => whnf)
  (refine hKq _ _ _ (.refl _) ?_; clear hKq Kq; conv => whnf)
  (refine VSeq.mk fun Kq hKq => ?_; conv => whnf)
  (refine hKq _ _ _ (.refl _) ?_; clear hKq Kq; conv => whnf)
  (refine And.intro (fun h => absurd (of_decide_eq_true h) (by first | (intro h2; exact absurd rfl h2) | omega | decide)) (fun _ => ?_); conv => whnf)
  (refine VSeq.mk fun Kq hKq => ?_; conv => whnf)
  (refine hKq _ _ _ (.refl _) ?_; clear hKq Kq; conv => whnf)
  (refine And.intro (fun h => absurd (of_decide_eq_true h) (by first | (intro h2; exact absurd rfl h2) | omega | decide)) (fun _ => ?_); conv => whnf)
  (refine VSeq.mk fun Kq hKq => ?_; conv => whnf)
  (refine hKq _ _ _ (.refl _) ?_; clear hKq Kq; conv => whnf)
  (refine And.intro (fun h => absurd (of_decide_eq_true h) (by first | (intro h2; exact absurd rfl h2) | omega | decide)) (fun _ => ?_); conv => whnf)
  (refine VSeq.mk fun Kq hKq => ?_; conv => whnf)
  (refine hKq _ _ _ (.refl _) ?_; clear hKq Kq; conv => whnf)
  (refine And.intro (fun h => absurd (of_decide_eq_true h) (by first | (intro h2; exact absurd rfl h2) | omega | decide)) (fun _ => ?_); conv => whnf)
  (refine VSeq.mk fun Kq hKq => ?_; conv => whnf)
  (refine hKq _ _ _ (.refl _) ?_; clear hKq Kq; conv => whnf)
  (refine And.intro (fun h => absurd (of_decide_eq_true h) (by first | (intro h2; exact absurd rfl h2) | omega | decide)) (fun _ => ?_); conv => whnf)
  (refine VSeq.mk fun Kq hKq => ?_; conv => whnf)
  (refine hKq _ _ _ (.refl _) ?_; clear hKq Kq; conv => whnf)
  (refine And.intro (fun h => absurd (of_decide_eq_true h) (by first | (intro h2; exact absurd rfl h2) | omega | decide)) (fun _ => ?_); conv => whnf)
  (refine VSeq.mk fun Kq hKq => ?_; conv => whnf)
  (refine hKq _ _ _ (.refl _) ?_; clear hKq Kq; conv => whnf)
  (refine And.intro (fun _ => ?_) (fun h => absurd (by first | rfl | assumption | omega | decide) (of_decide_eq_false h)); conv => whnf)
  (refine ⟨_, _, Blk.ld (hp.get (i := 3) rfl) TTok rfl rfl, ?_⟩; conv => whnf)
  (refine hp.kst1 TTok (by rfl) 2 (by rfl) (by rfl) (by rfl) (Nat.le_of_ble_eq_true rfl) fun w hp => ?_; try simp only [List.set_cons_zero, List.set_cons_succ, EV.val] at hp; conv => whnf)
  (refine hKq _ _ _ (.refl _) ?_; clear hKq Kq; conv => whnf)
  (refine VSeq.mk fun Kq hKq => ?_; conv => whnf)
  (refine ⟨_, _, Blk.ldV (vs := [_, _, _, _, _, _, _, _, _, _, _, _, _]) (hp.get (i := 2) rfl) TTok rfl rfl rfl, ?_⟩; conv => whnf)
  (refine hp.kstA TTok rfl 1 rfl rfl (oneC_of rfl) (by rfl) fun w hp => ?_; try simp only [List.set_cons_zero, List.set_cons_succ, EV.val] at hp; conv => whnf)
  (refine hKq _ _ _ (.refl _) ?_; clear hKq Kq; conv => whnf)
  (refine ⟨_, Blk.lvN (hp.get (i := 1) rfl) TTok rfl rfl, ?_⟩; conv => whnf)
  rw [hr]
  exact ⟨_, rfl, hp.ext, SLw.row hp (i := 0) rfl⟩
 ·have hr := f7 h
  clear f0 f1 f2 f3 f4 f5 f6 f7 f8 f9 f10
  (refine hp.kst1 TTok (by rfl) 2 (by rfl) (by rfl) (by rfl) (Nat.le_of_ble_eq_true rfl) fun w hp => ?_; try simp only [List.set_cons_zero, List.set_cons_succ, EV.val] at hp; conv => whnf)
  (refine hKq _ _ _ (.refl _) ?_; clear hKq Kq; conv => whnf)
  (refine VSeq.mk fun Kq hKq => ?_; conv => whnf)
  (refine VSeq.mk fun Kq hKq => ?_; conv => whnf)
  (refine ⟨_, _, Blk.ld (hp.get (i := 3) rfl) TTok rfl rfl, ?_⟩; conv => whnf)
  (refine And.intro (by first | omega | decide) ?_; conv => whnf)
  (refine hKq _ _ _ (.refl _) ?_; clear hKq Kq; conv => whnf)
  (refine VSeq.mk fun Kq hKq => ?_; conv => whnf)
  (refine hKq _ _ _ (.refl _) ?_; clear hKq Kq; conv => whnf)
  (refine And.intro (fun h => absurd (of_decide_eq_true h) (by first | (intro h2; exact absurd rfl h2) | omega | decide)) (fun _ => ?_); conv => whnf)
  (refine VSeq.mk fun Kq hKq => ?_; conv => whnf)
  (refine hKq _ _ _ (.refl _) ?_; clear hKq Kq; conv => whnf)
  (refine And.intro (fun h => absurd (of_decide_eq_true h) (by first | (intro h2; exact absurd rfl h2) | omega | decide)) (fun _ => ?_); conv => whnf)
  (refine VSeq.mk fun Kq hKq => ?_; conv => whnf)
  (refine hKq _ _ _ (.refl _) ?_; clear hKq Kq; conv => whnf)
  (refine And.intro (fun h => absurd (of_decide_eq_true h) (by first | (intro h2; exact absurd rfl h2) | omega | decide)) (fun _ => ?_); conv => whnf)
  (refine VSeq.mk fun Kq hKq => ?_; conv => whnf)
  (refine hKq _ _ _ (.refl _) ?_; clear hKq Kq; conv => whnf)
  (refine And.intro (fun h => absurd (of_decide_eq_true h) (by first | (intro h2; exact absurd rfl h2) | omega | decide)) (fun _ => ?_); conv => whnf)
  (refine VSeq.mk fun Kq hKq => ?_; conv => whnf)
  (refine hKq _ _ _ (.refl _) ?_; clear hKq Kq; conv => whnf)
  (refine And.intro (fun h => absurd (of_decide_eq_true h) (by first | (intro h2; exact absurd rfl h2) | omega | decide)) (fun _ => ?_); conv => whnf)
  (refine VSeq.mk fun Kq hKq => ?_; conv => whnf)
  (refine hKq _ _ _ (.refl _) ?_; clear hKq Kq; conv => whnf)
  (refine And.intro (fun h => absurd (of_decide_eq_true h) (by first | (intro h2; exact absurd rfl h2) | omega | decide)) (fun _ => ?_); conv => whnf)
  (refine VSeq.mk fun Kq hKq => ?_; conv => whnf)
  (refine hKq _ _ _ (.refl _) ?_; clear hKq Kq; conv => whnf)
  (refine And.intro (fun h => absurd (of_decide_eq_true h) (by first | (intro h2; exact absurd rfl h2) | omega | decide)) (fun _ => ?_); conv => whnf)
  (refine VSeq.mk fun Kq hKq => ?_; conv => whnf)
  (refine hKq _ _ _ (.refl _) ?_; clear hKq Kq; conv => whnf)
  (refine And.intro (fun _ => ?_) (fun h => absurd (by first | rfl | assumption | omega | decide) (of_decide_eq_false h)); conv => whnf)
  (refine ⟨_, _, Blk.ld (hp.get (i := 3) rfl) TTok rfl rfl, ?_⟩; conv => whnf)
  (refine hp.kst1 TTok (by rfl) 2 (by rfl) (by rfl) (by rfl) (Nat.le_of_ble_eq_true rfl) fun w hp => ?_; try simp only [List.set_cons_zero, List.set_cons_succ, EV.val] at hp; conv => whnf)
  (refine hKq _ _ _ (.refl _) ?_; clear hKq Kq; conv => whnf)
  (refine VSeq.mk fun Kq hKq => ?_; conv => whnf)
  (refine ⟨_, _, Blk.ldV (vs := [_, _, _, _, _, _, _, _, _, _, _, _, _]) (hp.get (i := 2) rfl) TTok rfl rfl rfl, ?_⟩; conv => whnf)
  (refine hp.kstA TTok rfl 1 rfl rfl (oneC_of rfl) (by rfl) fun w hp => ?_; try simp only [List.set_cons_zero, List.set_cons_succ, EV.val] at hp; conv => whnf)
  (refine hKq _ _ _ (.refl _) ?_; clear hKq Kq; conv => whnf)
  (refine ⟨_, Blk.lvN (hp.get (i := 1) rfl) TTok rfl rfl, ?_⟩; conv => whnf)
  rw [hr]
  exact ⟨_, rfl, hp.ext, SLw.row hp (i := 0) rfl⟩
 ·have hr := f8 h
  clear f0 f1 f2 f3 f4 f5 f6 f7 f8 f9 f10
  (refine hp.kst1 TTok (by rfl) 2 (by rfl) (by rfl) (by rfl) (Nat.le_of_ble_eq_true rfl) fun w hp => ?_; try simp only [List.set_cons_zero, List.set_cons_succ, EV.val] at hp; conv => whnf)
  (refine hKq _ _ _ (.refl _) ?_; clear hKq Kq; conv => whnf)
  (refine VSeq.mk fun Kq hKq => ?_; conv => whnf)
  (refine VSeq.mk fun Kq hKq => ?_; conv => whnf)
  (refine ⟨_, _, Blk.ld (hp.get (i := 3) rfl) TTok rfl rfl, ?_⟩; conv => whnf)
  (refine And.intro (by first | omega | decide) ?_; conv => whnf)
  (refine hKq _ _ _ (.refl _) ?_; clear hKq Kq; conv => whnf)
  (refine VSeq.mk fun Kq hKq => ?_; conv => whnf)
  (refine hKq _ _ _ (.refl _) ?_; clear hKq Kq; conv => whnf)
  (refine And.intro (fun h => absurd (of_decide_eq_true h) (by first | (intro h2; exact absurd rfl h2) | omega | decide)) (fun _ => ?_); conv => whnf)
  (refine VSeq.mk fun Kq hKq => ?_; conv => whnf)
  (refine hKq _ _ _ (.refl _) ?_; clear hKq Kq; conv => whnf)
  (refine And.intro (fun h => absurd (of_decide_eq_true h) (by first | (intro h2; exact absurd rfl h2) | omega | decide)) (fun _ => ?_); conv => whnf)
  (refine VSeq.mk fun Kq hKq => ?_; conv => whnf)
  (refine hKq _ _ _ (.refl _) ?_; clear hKq Kq; conv => whnf)
  (refine And.intro (fun h => absurd (of_decide_eq_true h) (by first | (intro h2; exact absurd rfl h2) | omega | decide)) (fun _ => ?_); conv => whnf)
  (refine VSeq.mk fun Kq hKq => ?_; conv => whnf)
  (refine hKq _ _ _ (.refl _) ?_; clear hKq Kq; conv => whnf)
  (refine And.intro (fun h => absurd (of_decide_eq_true h) (by first | (intro h2; exact absurd rfl h2) | omega | decide)) (fun _ => ?_); conv => whnf)
  (refine VSeq.mk fun Kq hKq => ?_; conv => whnf)
  (refine hKq _ _ _ (.refl _) ?_; clear hKq Kq; conv => whnf)
  (refine And.intro (fun h => absurd (of_decide_eq_true h) (by first | (intro h2; exact absurd rfl h2) | omega | decide)) (fun _ => ?_); conv => whnf)
  (refine VSeq.mk fun Kq hKq => ?_; conv => whnf)
  (refine hKq _ _ _ (.refl _) ?_; clear hKq Kq; conv => whnf)
  (refine And.intro (fun h => absurd (of_decide_eq_true h) (by first | (intro h2; exact absurd rfl h2) | omega | decide)) (fun _ => ?_); conv => whnf)
  (refine VSeq.mk fun Kq hKq => ?_; conv => whnf)
  (refine hKq _ _ _ (.refl _) ?_; clear hKq Kq; conv => whnf)
  (refine And.intro (fun h => absurd (of_decide_eq_true h) (by first | (intro h2; exact absurd rfl h2) | omega | decide)) (fun _ => ?_); conv => whnf)
  (refine VSeq.mk fun Kq hKq => ?_; conv => whnf)
  (refine hKq _ _ _ (.refl _) ?_; clear hKq Kq; conv => whnf)
  (refine And.intro (fun h => absurd (of_decide_eq_true h) (by first | (intro h2; exact absurd rfl h2) | omega | decide)) (fun _ => ?_); conv => whnf)
  (refine VSeq.mk fun Kq hKq => ?_; conv => whnf)
  (refine hKq _ _ _ (.refl _) ?_; clear hKq Kq; conv => whnf)
  (refine And.intro (fun _ => ?_) (fun h => absurd (by first | rfl | assumption | omega | decide) (of_decide_eq_false h)); conv => whnf)
  (refine ⟨_, _, Blk.ld (hp.get (i := 3) rfl) TTok rfl rfl, ?_⟩; conv => whnf)
  (refine hp.kst1 TTok (by rfl) 2 (by rfl) (by rfl) (by rfl) (Nat.le_of_ble_eq_true rfl) fun w hp => ?_; try simp only [List.set_cons_zero, List.set_cons_succ, EV.val] at hp; conv => whnf)
  (refine hKq _ _ _ (.refl _) ?_; clear hKq Kq; conv => whnf)
  (refine VSeq.mk fun Kq hKq => ?_; conv => whnf)
  (refine ⟨_, _, Blk.ldV (vs := [_, _, _, _, _, _, _, _, _, _, _, _, _]) (hp.get (i := 2) rfl) TTok rfl rfl rfl, ?_⟩; conv => whnf)
  (refine hp.kstA TTok rfl 1 rfl rfl (oneC_of rfl) (by rfl) fun w hp => ?_; try simp only [List.set_cons_zero, List.set_cons_succ, EV.val] at hp; conv => whnf)
  (refine hKq _ _ _ (.refl _) ?_; clear hKq Kq; conv => whnf)
  (refine ⟨_, Blk.lvN (hp.get (i := 1) rfl) TTok rfl rfl, ?_⟩; conv => whnf)
  rw [hr]
  exact ⟨_, rfl, hp.ext, SLw.row hp (i := 0) rfl⟩
 ·have hr := f9 h
  clear f0 f1 f2 f3 f4 f5 f6 f7 f8 f9 f10
  (refine hp.kst1 TTok (by rfl) 2 (by rfl) (by rfl) (by rfl) (Nat.le_of_ble_eq_true rfl) fun w hp => ?_; try simp only [List.set_cons_zero, List.set_cons_succ, EV.val] at hp; conv => whnf)
  (refine hKq _ _ _ (.refl _) ?_; clear hKq Kq; conv => whnf)
  (refine VSeq.mk fun Kq hKq => ?_; conv => whnf)
  (refine VSeq.mk fun Kq hKq => ?_; conv => whnf)
  (refine ⟨_, _, Blk.ld (hp.get (i := 3) rfl) TTok rfl rfl, ?_⟩; conv => whnf)
  (refine And.intro (by first | omega | decide) ?_; conv => whnf)
  (refine hKq _ _ _ (.refl _) ?_; clear hKq Kq; conv => whnf)
  (refine VSeq.mk fun Kq hKq => ?_; conv => whnf)
  (refine hKq _ _ _ (.refl _) ?_; clear hKq Kq; conv => whnf)
  (refine And.intro (fun h => absurd (of_decide_eq_true h) (by first | (intro h2; exact absurd rfl h2) | omega | decide)) (fun _ => ?_); conv => whnf)
  (refine VSeq.mk fun Kq hKq => ?_; conv => whnf)
  (refine hKq _ _ _ (.refl _) ?_; clear hKq Kq; conv => whnf)
  (refine And.intro (fun h => absurd (of_decide_eq_true h) (by first | (intro h2; exact absurd rfl h2) | omega | decide)) (fun _ => ?_); conv => whnf)
  (refine VSeq.mk fun Kq hKq => ?_; conv => whnf)
  (refine hKq _ _ _ (.refl _) ?_; clear hKq Kq; conv => whnf)
  (refine And.intro (fun h => absurd (of_decide_eq_true h) (by first | (intro h2; exact absurd rfl h2) | omega | decide)) (fun _ => ?_); conv => whnf)
  (refine VSeq.mk fun Kq hKq => ?_; conv => whnf)
  (refine hKq _ _ _ (.refl _) ?_; clear hKq Kq; conv => whnf)
  (refine And.intro (fun h => absurd (of_decide_eq_true h) (by first | (intro h2; exact absurd rfl h2) | omega | decide)) (fun _ => ?_); conv => whnf)
  (refine VSeq.mk fun Kq hKq => ?_; conv => whnf)
  (refine hKq _ _ _ (.refl _) ?_; clear hKq Kq; conv => whnf)
  (refine And.intro (fun h => absurd (of_decide_eq_true h) (by first | (intro h2; exact absurd rfl h2) | omega | decide)) (fun _ => ?_); conv => whnf)
  (refine VSeq.mk fun Kq hKq => ?_; conv => whnf)
  (refine hKq _ _ _ (.refl _) ?_; clear hKq Kq; conv => whnf)
  (refine And.intro (fun h => absurd (of_decide_eq_true h) (by first | (intro h2; exact absurd rfl h2) | omega | decide)) (fun _ => ?_); conv => whnf)
  (refine VSeq.mk fun Kq hKq => ?_; conv => whnf)
  (refine hKq _ _ _ (.refl _) ?_; clear hKq Kq; conv => whnf)
  (refine And.intro (fun h => absurd (of_decide_eq_true h) (by first | (intro h2; exact absurd rfl h2) | omega | decide)) (fun _ => ?_); conv => whnf)
  (refine VSeq.mk fun Kq hKq => ?_; conv => whnf)
  (refine hKq _ _ _ (.refl _) ?_; clear hKq Kq; conv => whnf)
  (refine And.intro (fun h => absurd (of_decide_eq_true h) (by first | (intro h2; exact absurd rfl h2) | omega | decide)) (fun _ => ?_); conv => whnf)
  (refine VSeq.mk fun Kq hKq => ?_; conv => whnf)
  (refine hKq _ _ _ (.refl _) ?_; clear hKq Kq; conv => whnf)
  (refine And.intro (fun h => absurd (of_decide_eq_true h) (by first | (intro h2; exact absurd rfl h2) | omega | decide)) (fun _ => ?_); conv => whnf)
  (refine VSeq.mk fun Kq hKq => ?_; conv => whnf)
  (refine hKq _ _ _ (.refl _) ?_; clear hKq Kq; conv => whnf)
  (refine And.intro (fun _ => ?_) (fun h => absurd (by first | rfl | assumption | omega | decide) (of_decide_eq_false h)); conv => whnf)
  (refine ⟨_, _, Blk.ld (hp.get (i := 2) rfl) TTok rfl rfl, ?_⟩; conv => whnf)
  (refine ⟨_, _, Blk.ld (hp.get (i := 3) rfl) TTok rfl rfl, ?_⟩; conv => whnf)
  (refine hp.kmade _ _ (fun b => .slice (some ⟨b, 0, none⟩) 1 1) (mks32_1_0 _ _) fun q w hp hx => ?_; conv => whnf)
  refine hp.kapp sl32 1 rfl (Blk.src TTok (hp.get (i := 0) rfl) rfl rfl (oneC_of rfl)) (by omega) (by unfold maxLen; omega) fun v' w hp => ?_
  simp only [List.set_cons_zero, List.set_cons_succ] at hp
  obtain ⟨p2, c2, rfl⟩ := row_shape (hp.get (i := 1) rfl)
  conv => whnf
  (refine hp.kst1 TTok (by rfl) 3 (by rfl) (by rfl) (by rfl) (Nat.le_of_ble_eq_true rfl) fun w hp => ?_; try simp only [List.set_cons_zero, List.set_cons_succ, EV.val] at hp; conv => whnf)
  (refine hKq _ _ _ (.refl _) ?_; clear hKq Kq; conv => whnf)
  (refine VSeq.mk fun Kq hKq => ?_; conv => whnf)
  (refine ⟨_, _, Blk.ldV (vs := [_, _, _, _, _, _, _, _, _, _, _, _, _]) (hp.get (i := 3) rfl) TTok rfl rfl rfl, ?_⟩; conv => whnf)
  (refine hp.kstA TTok rfl 2 rfl rfl (oneC_of rfl) (by rfl) fun w hp => ?_; try simp only [List.set_cons_zero, List.set_cons_succ, EV.val] at hp; conv => whnf)
  (refine hKq _ _ _ (.refl _) ?_; clear hKq Kq; conv => whnf)
  (refine ⟨_, Blk.lvN (hp.get (i := 2) rfl) TTok rfl rfl, ?_⟩; conv => whnf)
  rw [hr]
  have hap : iv (asked ++ [n]) = iv asked ++ [.int .i64 n] := by unfold iv; rw [List.map_append]; rfl
  exact ⟨_, rfl, hp.ext, (by show SLw _ _ _ (iv (asked ++ [n])); rw [hap]; exact SLw.row hp (i := 1) rfl)⟩
 ·have hr := f10 h
  clear f0 f1 f2 f3 f4 f5 f6 f7 f8 f9 f10
  (refine hp.kst1 TTok (by rfl) 2 (by rfl) (by rfl) (by rfl) (Nat.le_of_ble_eq_true rfl) fun w hp => ?_; try simp only [List.set_cons_zero, List.set_cons_succ, EV.val] at hp; conv => whnf)
  (refine hKq _ _ _ (.refl _) ?_; clear hKq Kq; conv => whnf)
  (refine VSeq.mk fun Kq hKq => ?_; conv => whnf)
  (refine VSeq.mk fun Kq hKq => ?_; conv => whnf)
  (refine ⟨_, _, Blk.ld (hp.get (i := 3) rfl) TTok rfl rfl, ?_⟩; conv => whnf)
  (refine And.intro (by first | omega | decide) ?_; conv => whnf)
  (refine hKq _ _ _ (.refl _) ?_; clear hKq Kq; conv => whnf)
  (refine VSeq.mk fun Kq hKq => ?_; conv => whnf)
  (refine hKq _ _ _ (.refl _) ?_; clear hKq Kq; conv => whnf)
  (refine And.intro (fun h => absurd (of_decide_eq_true h) (by first | (intro h2; exact absurd rfl h2) | omega | decide)) (fun _ => ?_); conv => whnf)
  (refine VSeq.mk fun Kq hKq => ?_; conv => whnf)
  (refine hKq _ _ _ (.refl _) ?_; clear hKq Kq; conv => whnf)
  (refine And.intro (fun h => absurd (of_decide_eq_true h) (by first | (intro h2; exact absurd rfl h2) | omega | decide)) (fun _ => ?_); conv => whnf)
  (refine VSeq.mk fun Kq hKq => ?_; conv => whnf)
  (refine hKq _ _ _ (.refl _) ?_; clear hKq Kq; conv => whnf)
  (refine And.intro (fun h => absurd (of_decide_eq_true h) (by first | (intro h2; exact absurd rfl h2) | omega | decide)) (fun _ => ?_); conv => whnf)
  (refine VSeq.mk fun Kq hKq => ?_; conv => whnf)
  (refine hKq _ _ _ (.refl _) ?_; clear hKq Kq; conv => whnf)
  (refine And.intro (fun h => absurd (of_decide_eq_true h) (by first | (intro h2; exact absurd rfl h2) | omega | decide)) (fun _ => ?_); conv => whnf)
  (refine VSeq.mk fun Kq hKq => ?_; conv => whnf)
  (refine hKq _ _ _ (.refl _) ?_; clear hKq Kq; conv => whnf)
  (refine And.intro (fun h => absurd (of_decide_eq_true h) (by first | (intro h2; exact absurd rfl h2) | omega | decide)) (fun _ => ?_); conv => whnf)
  (refine VSeq.mk fun Kq hKq => ?_; conv => whnf)
  (refine hKq _ _ _ (.refl _) ?_; clear hKq Kq; conv => whnf)
  (refine And.intro (fun h => absurd (of_decide_eq_true h) (by first | (intro h2; exact absurd rfl h2) | omega | decide)) (fun _ => ?_); conv => whnf)
  (refine VSeq.mk fun Kq hKq => ?_; conv => whnf)
  (refine hKq _ _ _ (.refl _) ?_; clear hKq Kq; conv => whnf)
  (refine And.intro (fun h => absurd (of_decide_eq_true h) (by first | (intro h2; exact absurd rfl h2) | omega | decide)) (fun _ => ?_); conv => whnf)
  (refine VSeq.mk fun Kq hKq => ?_; conv => whnf)
  (refine hKq _ _ _ (.refl _) ?_; clear hKq Kq; conv => whnf)
  (refine And.intro (fun h => absurd (of_decide_eq_true h) (by first | (intro h2; exact absurd rfl h2) | omega | decide)) (fun _ => ?_); conv => whnf)
  (refine VSeq.mk fun Kq hKq => ?_; conv => whnf)
  (refine hKq _ _ _ (.refl _) ?_; clear hKq Kq; conv => whnf)
  (refine And.intro (fun h => absurd (of_decide_eq_true h) (by first | (intro h2; exact absurd rfl h2) | omega | decide)) (fun _ => ?_); conv => whnf)
  (refine VSeq.mk fun Kq hKq => ?_; conv => whnf)
  (refine hKq _ _ _ (.refl _) ?_; clear hKq Kq; conv => whnf)
  (refine And.intro (fun h => absurd (of_decide_eq_true h) (by first | (intro h2; exact absurd rfl h2) | omega | decide)) (fun _ => ?_); conv => whnf)
  (refine VSeq.mk fun Kq hKq => ?_; conv => whnf)
  (refine ⟨_, _, Blk.ld (hp.get (i := 2) rfl) TTok rfl rfl, ?_⟩; conv => whnf)
  (refine hKq _ _ _ (.refl _) ?_; clear hKq Kq; conv => whnf)
  refine ⟨fun h0 => ?_, fun h0 => ?_⟩
  ·have h0 := of_decide_eq_true h0
   conv => whnf
   have hpos : 0 < asked.length := by omega
   have hlt : at_ % asked.length < asked.length := Nat.mod_lt _ hpos
   obtain ⟨g, uc, hu⟩ := row_form (hp.get (i := 0) rfl) hpos
   simp only [Value.slice.injEq, true_and] at hu
   obtain ⟨rfl, rfl⟩ := hu
   refine v_mix TTok FFok mixed 12 [(0, false), (1, false), (2, false), (3, false), (4, false), (5, false), (6, false), (7, false), (8, false), (9, false), (10, false), (11, false)] (by kernel_rfl) ?_
   conv => whnf
   (refine ⟨_, fun w' hx' => Blk.ld (Blk.ext (hp.get (i := 2) rfl) hx') TTok rfl rfl, ?_⟩; conv => whnf)
   (refine ⟨_, fun w' hx' => Blk.ld (Blk.ext (hp.get (i := 3) rfl) hx') TTok rfl rfl, ?_⟩; conv => whnf)
   (refine Or.inl (And.intro (by first | omega | decide) ?_); conv => whnf)
   (refine ⟨_, fun w' hx' => Blk.ld (Blk.ext (hp.get (i := 2) rfl) hx') TTok rfl rfl, ?_⟩; conv => whnf)
   (refine And.intro (by first | omega | decide) ?_; conv => whnf)
   (refine ⟨_, fun w' hx' => Blk.ld (Blk.ext (hp.get (i := 3) rfl) hx') TTok rfl rfl, ?_⟩; conv => whnf)
   refine ⟨at_ % asked.length, ⟨by simp, hlt⟩, ?_⟩
   conv => whnf
   (intro w hx; try (have hp := hp.call hx); conv => whnf)
   refine hp.kstR (t := 3) (v := .int .i64 n) TTok rfl 0 rfl (off := addM 0 (at_ % asked.length) 1) (by rw [addM_eq]; omega) rfl rfl fun w1 hp => ?_
   simp only [List.set_cons_zero] at hp
   rw [addM_eq, Nat.mul_one, Nat.zero_add] at hp
   conv => whnf
   refine hKq _ _ _ (.refl _) ?_
   clear hKq Kq
   conv => whnf
   refine VSeq.mk fun Kq hKq => ?_
   conv => whnf
   (refine ⟨_, _, Blk.ldV (vs := [_, _, _, _, _, _, _, _, _, _, _, _, _]) (hp.get (i := 2) rfl) TTok rfl rfl rfl, ?_⟩; conv => whnf)
   (refine hp.kstA TTok rfl 1 rfl rfl (oneC_of rfl) (by rfl) fun w hp => ?_; try simp only [List.set_cons_zero, List.set_cons_succ, EV.val] at hp; conv => whnf)
   (refine hKq _ _ _ (.refl _) ?_; clear hKq Kq; conv => whnf)
   (refine ⟨_, Blk.lvN (hp.get (i := 1) rfl) TTok rfl rfl, ?_⟩; conv => whnf)
   rw [hr, if_pos hpos]
   have hst : iv (asked.set (at_ % asked.length) n) = (iv asked).set (at_ % asked.length) (.int .i64 n) := by unfold iv; rw [List.map_set]
   exact ⟨_, rfl, hp.ext, (by show SLw _ _ _ (iv (asked.set (at_ % asked.length) n)); rw [hst]; exact SLw.row hp (i := 0) rfl)⟩
  ·have h0 := of_decide_eq_false h0
   conv => whnf
   refine hKq _ _ _ (.refl _) ?_
   clear hKq Kq
   conv => whnf
   refine VSeq.mk fun Kq hKq => ?_
   conv => whnf
   (refine ⟨_, _, Blk.ldV (vs := [_, _, _, _, _, _, _, _, _, _, _, _, _]) (hp.get (i := 2) rfl) TTok rfl rfl rfl, ?_⟩; conv => whnf)
   (refine hp.kstA TTok rfl 1 rfl rfl (oneC_of rfl) (by rfl) fun w hp => ?_; try simp only [List.set_cons_zero, List.set_cons_succ, EV.val] at hp; conv => whnf)
   (refine hKq _ _ _ (.refl _) ?_; clear hKq Kq; conv => whnf)
   (refine ⟨_, Blk.lvN (hp.get (i := 1) rfl) TTok rfl rfl, ?_⟩; conv => whnf)
   rw [hr, if_neg (by omega)]
   exact ⟨_, rfl, hp.ext, SLw.row hp (i := 0) rfl⟩
open Go.RowKit
namespace V
section
variable {P : Program} {md : Region.Mode} {ops : Array Oper}
/-- the classes, the barriers of each, the class of each quiet operation -/
structure Fam where
 C : Nat → World → Prop
 bars : Nat → List Nat
 cls : Nat → Nat
def Fam.keeps (F : Fam) (i : Nat) (w1 w2 : World) : Prop := ∀ k, (F.bars k).contains i = false → F.C k w1 → F.C k w2
def headF (P : Program) (md : Region.Mode) (ops : Array Oper) (F : Fam) (L : Array Bool → Act → World → Prop) : Nat → Array Bool → Act → World → Prop
 | 0, done, a, w => ∀ w1, Ext w w1 → L done a w1
 | f + 1, done, a, w => ∀ w1, Ext w w1 → Region.ready md ops done ≠ [] ∧ ∀ i ∈ Region.ready md ops done, okOp P ops i (fun a' w2 => F.keeps i w1 w2 ∧ headF P md ops F L f (done.setIfInBounds i true) a' w2) a w1
theorem headF_mono {F : Fam} {L : Array Bool → Act → World → Prop} {w w' : World} (hx : Ext w w') : ∀ {f : Nat} {done : Array Bool} {a : Act}, headF P md ops F L f done a w → headF P md ops F L f done a w'
 | 0, _, _, h => fun w1 h1 => h w1 (hx.trans h1)
 | _ + 1, _, _, h => fun w1 h1 => h w1 (hx.trans h1)
theorem any_of_headF {g : Nat} {F : Fam} {L : Array Bool → Act → World → Prop} {Q : Exit → Act → World → Prop} (hL : ∀ done a w, L done a w → wpAny P md ops Q g done a w) :
  ∀ (f : Nat) (done : Array Bool) (a : Act) (w : World), headF P md ops F L f done a w → wpAny P md ops Q (f + g) done a w := by
 intro f
 induction f with
 | zero => intro done a w h; rw [Nat.zero_add]; exact hL _ _ _ (h w (Ext.refl w))
 | succ f ih =>
  intro done a w h
  rw [show f + 1 + g = (f + g) + 1 by omega]
  have h := h w (Ext.refl w)
  exact ⟨fun h0 => absurd h0 h.1, fun i hi => wpOp_of_ok (fun a' w' h' => ih _ a' w' h'.2) (h.2 i hi)⟩
theorem headF_take {F : Fam} (hC : ∀ k w w', F.C k w → Ext w w' → F.C k w') {i c : Nat} {oi : Oper} {v : Value} {L : Array Bool → Act → World → Prop} (hi : ops[i]? = some oi) (hsel : ∀ (j : Nat) (o : Oper) cs b, ops[j]? = some o → o.op ≠ .select cs b)
  (hbar : ∀ j, (F.bars c).contains j = true → waits2 md ops j i = true) (hdone : ∀ done a w, L done a w → Region.ready md ops done = []) :
  ∀ (f : Nat) (done : Array Bool) (a : Act) (w : World), HeadInv md ops ops.size done → F.C c w →
   (∀ j oj, ops[j]? = some oj → j ≠ i → done.getD j true = false → (∀ e ∈ oj.after, Region.binds md e = true → e.on ≠ i) → oi.apart ops oj = true) →
   i ∈ Region.ready md ops done → YC P ops oi v a (F.C c) →
   headF P md ops F L f (done.setIfInBounds i true) (a.put oi.dst v) w → headF P md ops F L (f + 1) done a w := by
 have hsz : i < ops.size := (Array.getElem?_eq_some_iff.1 hi).1
 intro f
 induction f with
 | zero =>
  intro done a w inv hxB _ hr hy H w1 hx
  refine ⟨List.ne_nil_of_mem hr, fun j hj => ?_⟩
  by_cases e : j = i
  ·subst e; exact (hy.yg fun w2 h2 => hC _ _ _ (hC _ _ _ hxB hx) h2).ok hi (Ext.refl w1) fun w2 h2 => ⟨fun k _ h => hC _ _ _ h h2, headF_mono (hx.trans h2) H⟩
  ·have h1 := hdone _ _ _ (H w1 hx)
   have h2 := ready_mono (md := md) (ops := ops) hj e
   rw [h1] at h2; cases h2
 | succ f ih =>
  intro done a w inv hxB hfree hr hy H w1 hx
  have hun := (mem_ready.1 hr).1
  refine ⟨List.ne_nil_of_mem hr, fun j hj => ?_⟩
  by_cases e : j = i
  ·subst e; exact (hy.yg fun w2 h2 => hC _ _ _ (hC _ _ _ hxB hx) h2).ok hi (Ext.refl w1) fun w2 h2 => ⟨fun k _ h => hC _ _ _ h h2, headF_mono (hx.trans h2) H⟩
  ·obtain ⟨hjun, oj, hoj, hall⟩ := mem_ready.1 hj
   have hjsz : j < ops.size := (Array.getElem?_eq_some_iff.1 hoj).1
   have hnot : ∀ e ∈ oj.after, Region.binds md e = true → e.on ≠ i := fun e he hb heq => by
    have := hall e he hb; rw [heq, getD_both hun] at this; cases this
   have hjb : (F.bars c).contains j = false := by
    cases hb : (F.bars c).contains j with
    | false => rfl
    | true => have := hbar j hb; rw [not_waits2 inv hun hj] at this; cases this
   have key := okOp_putC hoj (hfree j oj hoj e hjun hnot) (fun cs b => hsel i oi cs b hi) (fun cs b => hsel j oj cs b hoj) hy ((H w1 hx).2 j (ready_mono hj e))
   refine okOp_mono (fun a' w2 h3 => ⟨h3.2.1, ih (done.setIfInBounds j true) a' w2 (inv.set hj hjsz) (h3.2.1 c hjb (hC _ _ _ hxB hx)) ?_ (ready_mono hr (Ne.symm e)) h3.1 ?_⟩) key
   ·intro k ok hk hki hu hno
    refine hfree k ok hk hki ?_ hno
    by_cases hjk : j = k
    ·subst hjk; exact hjun
    ·rwa [getD_set_ne true hjk] at hu
   ·rw [Array.setIfInBounds_comm _ _ e]; exact h3.2.2
def mbF (md : Region.Mode) (ops : Array Oper) (F : Fam) : List Nat → MT → Array Bool → Bool
 | _, .nil, done => (Region.ready md ops done).isEmpty
 | b, .q i r, done => (b.all fun j => !(F.bars (F.cls i)).contains j) && (barOk md ops (F.bars (F.cls i)) i && ((Region.ready md ops done).contains i && (Region.free md ops done i && mbF md ops F b r (done.setIfInBounds i true))))
 | b, .m i r, done => decide (Region.ready md ops done = [i]) && mbF md ops F (i :: b) r (done.setIfInBounds i true)
 | b, .br i j r s, done => decide (Region.ready md ops done = [i, j]) && Nat.beq r.len s.len && mbF md ops F (i :: b) r (done.setIfInBounds i true) && mbF md ops F (j :: b) s (done.setIfInBounds j true)
 | _, .br3 _ _ _ _ _ _, _ => false
 | _, .br4 _ _ _ _ _ _ _ _, _ => false
def mbFA (ops : Array Oper) (F : Fam) (r : MT) : Bool := Region.noSelect ops && mbF .any ops F [] r (Array.replicate ops.size false)
def stepF (P : Program) (ops : Array Oper) (F : Fam) (i : Nat) (k : Act → World → Prop) (a : Act) (w : World) : Prop :=
 ∀ w1, Ext w w1 → okOp P ops i (fun a' w2 => F.keeps i w1 w2 ∧ k a' w2) a w1
def actMF (P : Program) (ops : Array Oper) (F : Fam) (Lq : Act → World → Prop) : MT → Act → World → Prop
 | .nil, a, w => ∀ w1, Ext w w1 → Lq a w1
 | .q i r, a, w => ∃ o, ops[i]? = some o ∧ ∃ v, YC P ops o v a (F.C (F.cls i)) ∧ actMF P ops F Lq r (a.put o.dst v) w
 | .m i r, a, w => stepF P ops F i (actMF P ops F Lq r) a w
 | .br i j r s, a, w => stepF P ops F i (actMF P ops F Lq r) a w ∧ stepF P ops F j (actMF P ops F Lq s) a w
 | _, _, _ => False
/-- the classes that no barrier has broken hold -/
def Fam.holds (F : Fam) (b : List Nat) (w : World) : Prop := ∀ k, (b.all fun j => !(F.bars k).contains j) = true → F.C k w
theorem Fam.step {F : Fam} (hC : ∀ k w w', F.C k w → Ext w w' → F.C k w') {b : List Nat} {i : Nat} {w w1 w2 : World} (h : F.holds b w) (hx : Ext w w1) (hk : F.keeps i w1 w2) : F.holds (i :: b) w2 := fun k hb => by
 rw [List.all_cons, Bool.and_eq_true] at hb
 exact hk k (by simpa using hb.1) (hC _ _ _ (h k hb.2) hx)
theorem headF_mf {F : Fam} (hC : ∀ k w w', F.C k w → Ext w w' → F.C k w') {Lq : Act → World → Prop} (hsel : Region.noSelect ops = true) :
  ∀ (r : MT) (b : List Nat) (done : Array Bool) (a : Act) (w : World), HeadInv md ops ops.size done → F.holds b w → mbF md ops F b r done = true → actMF P ops F Lq r a w →
   headF P md ops F (fun done a w => Region.ready md ops done = [] ∧ Lq a w) r.len done a w
 | .nil, b, done, a, w, _, _, hB, h => fun w1 hx => ⟨List.isEmpty_iff.1 hB, h w1 hx⟩
 | .q i r, b, done, a, w, inv, hxB, hB, h => by
  simp only [mbF, Bool.and_eq_true] at hB
  obtain ⟨hf, hb, hr, hfr, hB'⟩ := hB
  obtain ⟨o, ho, v, hy, hk⟩ := h
  have hr' : i ∈ Region.ready md ops done := by simpa using hr
  exact headF_take hC ho (Region.noSelect_spec hsel) (barOk_spec hb) (fun done a w hL => hL.1) r.len done a w inv (hxB _ hf) (Region.free_spec ho hfr) hr' hy
   (headF_mf hC hsel r b _ _ _ (inv.set hr' (Array.getElem?_eq_some_iff.1 ho).1) hxB hB' hk)
 | .m i r, b, done, a, w, inv, hxB, hB, h => by
  simp only [mbF, Bool.and_eq_true, decide_eq_true_eq] at hB
  obtain ⟨hr, hB'⟩ := hB
  intro w1 hx
  have hri : i ∈ Region.ready md ops done := by rw [hr]; simp
  have hlt : ∀ q ∈ Region.ready md ops done, q < ops.size := fun q hq => (Array.getElem?_eq_some_iff.1 (mem_ready.1 hq).2.choose_spec.1).1
  refine ⟨by rw [hr]; simp, fun j hj => ?_⟩
  rw [hr] at hj
  obtain rfl : j = i := by simpa using hj
  exact okOp_mono (fun a' w2 h2 => ⟨h2.1, headF_mf hC hsel r _ _ _ _ (inv.set hri (hlt _ hri)) (Fam.step hC hxB hx h2.1) hB' h2.2⟩) (h w1 hx)
 | .br i j r s, b, done, a, w, inv, hxB, hB, h => by
  simp only [mbF, Bool.and_eq_true, decide_eq_true_eq] at hB
  obtain ⟨⟨⟨hr, hl⟩, hB1⟩, hB2⟩ := hB
  have hl : r.len = s.len := by simpa using hl
  intro w1 hx
  have hlt : ∀ q ∈ Region.ready md ops done, q < ops.size := fun q hq => (Array.getElem?_eq_some_iff.1 (mem_ready.1 hq).2.choose_spec.1).1
  have hri : i ∈ Region.ready md ops done := by rw [hr]; simp
  have hrj : j ∈ Region.ready md ops done := by rw [hr]; simp
  refine ⟨by rw [hr]; simp, fun k hk => ?_⟩
  rw [hr] at hk
  have hk : k = i ∨ k = j := by simpa using hk
  rcases hk with rfl | rfl
  ·exact okOp_mono (fun a' w2 h2 => ⟨h2.1, headF_mf hC hsel r _ _ _ _ (inv.set hri (hlt _ hri)) (Fam.step hC hxB hx h2.1) hB1 h2.2⟩) (h.1 w1 hx)
  ·exact okOp_mono (fun a' w2 h2 => ⟨h2.1, by
    have := headF_mf (Lq := Lq) hC hsel s _ _ _ _ (inv.set hrj (hlt _ hrj)) (Fam.step hC hxB hx h2.1) hB2 h2.2
    show headF P md ops F _ r.len _ a' w2
    rw [hl]; exact this⟩) (h.2 w1 hx)
 | .br3 _ _ _ _ _ _, _, _, _, _, _, _, _, h => h.elim
 | .br4 _ _ _ _ _ _ _ _, _, _, _, _, _, _, _, h => h.elim
theorem actMF_ext {F : Fam} {Lq : Act → World → Prop} : ∀ (r : MT) (a : Act) (w w' : World), Ext w w' → actMF P ops F Lq r a w → actMF P ops F Lq r a w'
 | .nil, _, _, _, hx, h => fun w1 h1 => h w1 (hx.trans h1)
 | .q _ r, _, _, _, hx, ⟨o, ho, v, hy, hk⟩ => ⟨o, ho, v, hy, actMF_ext r _ _ _ hx hk⟩
 | .m _ _, _, _, _, hx, h => fun w1 h1 => h w1 (hx.trans h1)
 | .br _ _ _ _, _, _, _, hx, h => ⟨fun w1 h1 => h.1 w1 (hx.trans h1), fun w1 h1 => h.2 w1 (hx.trans h1)⟩
 | .br3 _ _ _ _ _ _, _, _, _, _, h => h.elim
 | .br4 _ _ _ _ _ _ _ _, _, _, _, _, h => h.elim
theorem region_mfA {Q : Exit → Act → World → Prop} {a : Act} {w : World} {l : List Oper} {F : Fam} (hC : ∀ k w w', F.C k w → Ext w w' → F.C k w') (hw : ∀ k, F.C k w) (r : MT) (hm : P.follows .mixedOrders = true) (hB : (mbFA l.toArray F r && Nat.beq r.len l.length) = true)
  (h : actMF P l.toArray F (fun a' w' => Q .normal a' w') r a w) (t : Nat) :
  wpOps P l.toArray Q (Region.schedule (P.follows .mixedOrders) l.toArray t) a { w with drawn := w.drawn + 1 } := by
 simp only [mbFA, Bool.and_eq_true] at hB
 obtain ⟨⟨hsel, hmix⟩, hlen⟩ := hB
 have hlen : r.len = l.length := by simpa using hlen
 have inv0 : HeadInv .any l.toArray l.toArray.size (Array.replicate l.toArray.size false) :=
  ⟨by simp, fun j oj _ hl => (by rw [getD_replicate_false] at hl; cases hl), fun t h1 h2 => absurd h2 (by omega)⟩
 have H := headF_mf (P := P) (md := .any) hC hsel r [] _ a { w with drawn := w.drawn + 1 } inv0 (fun k _ => hC _ _ _ (hw k) (Ext.refl w).drew) hmix (actMF_ext r a w _ (Ext.refl w).drew h)
 refine any_ops hm ?_ t
 have key := any_of_headF (Q := Q) (g := 0) (fun done a' w' hL => ⟨hL.1, hL.2⟩) r.len _ a _ H
 have e2 : r.len + 0 = l.toArray.size := by rw [hlen]; simp
 rwa [e2] at key
end
section
variable (P : Program) (T : Tab) (FS : List Nat) (n : Nat) (all : List Oper) (F : Fam)
abbrev mStepF (i : Nat) (k : Env → World → Prop) (l : Env) (w : World) : Prop := match all[i]? with
 | none => False
 | some o => ∀ w1, Ext w w1 → vops T FS (nrmH0 P) n all [o] l w1 fun l w2 => F.keeps i w1 w2 ∧ k l w2
abbrev vmtF (K : Env → World → Prop) : MT → Env → World → Prop
 | .nil, l, w => ∀ w1, Ext w w1 → K l w1
 | .q i r, l, w => match all[i]? with
  | none => False
  | some o => vops T FS (quiC P (F.C (F.cls i))) n all [o] l () fun l _ => vmtF K r l w
 | .m i r, l, w => mStepF P T FS n all F i (fun l w => vmtF K r l w) l w
 | .br i j r s, l, w => mStepF P T FS n all F i (fun l w => vmtF K r l w) l w ∧ mStepF P T FS n all F j (fun l w => vmtF K s l w) l w
 | .br3 _ _ _ _ _ _, _, _ => False
 | .br4 _ _ _ _ _ _ _ _, _, _ => False
end
section
variable {P : Program} {T : Tab} {FS : List Nat} (hT : tabOk P T = true) (hF : ∀ f, memB f FS = true → Enters P f)
include hT hF
theorem mStepF_act {n : Nat} {all : List Oper} {F : Fam} {i : Nat} {k : Env → World → Prop} {q : Act → World → Prop} (hk : ∀ l a w, At n l a → k l w → q a w) {l : Env} {a : Act} {w : World} (ha : At n l a) (h : mStepF P T FS n all F i k l w) :
  stepF P all.toArray F i q a w := by
 unfold mStepF at h
 cases hi : all[i]? with
 | none => simp only [hi] at h
 | some o =>
  simp only [hi] at h
  intro w1 hx
  unfold okOp
  rw [show all.toArray[i]? = some o by simpa using hi]
  rcases vops_one hT hF (nrm_laws0 P) ha (h w1 hx) with ⟨hw, l', ha', hq⟩ | ⟨hw, l', ha', hk'⟩
  ·simp only [hw, if_true]
   refine hq o a _ QF fun e w' hk' => ?_
   obtain ⟨l2, ha2, hk'⟩ := vdst_put ha' hk'
   exact ⟨hk'.1, hk _ _ _ ha2 hk'.2⟩
  ·simp only [hw, Bool.false_eq_true, if_false]
   obtain ⟨l2, ha2, hk'⟩ := vdst_put ha' hk'
   exact ⟨hk'.1, hk _ _ _ ha2 hk'.2⟩
theorem vmtF_act {n : Nat} {all : List Oper} {F : Fam} {K : Env → World → Prop} {Lq : Act → World → Prop} (hK : ∀ l a w, At n l a → K l w → Lq a w) :
  ∀ {r : MT} {l : Env} {a : Act} {w : World}, At n l a → vmtF P T FS n all F K r l w → actMF P all.toArray F Lq r a w
 | .nil, l, a, w, ha, h => fun w1 hx => hK _ _ _ ha (h w1 hx)
 | .q i r, l, a, w, ha, h => by
  simp only [vmtF] at h
  cases hi : all[i]? with
  | none => simp only [hi] at h
  | some o =>
   simp only [hi] at h
   refine ⟨o, by simpa using hi, ?_⟩
   rcases vops_one hT hF (quiC_laws P (F.C (F.cls i))) ha h with ⟨hw, l', ha', e, hq, hk⟩ | ⟨hw, l', ha', hk⟩
   ·obtain ⟨l2, ha2, hk⟩ := vdst_put ha' hk
    exact ⟨e.val, .inl ⟨hw, hq⟩, vmtF_act hK ha2 hk⟩
   ·obtain ⟨l2, ha2, hk⟩ := vdst_put ha' hk
    exact ⟨undef, .inr ⟨hw, rfl⟩, vmtF_act hK ha2 hk⟩
 | .m i r, l, a, w, ha, h => mStepF_act hT hF (k := fun l w => vmtF P T FS n all F K r l w) (q := fun a w => actMF P all.toArray F Lq r a w) (fun _ _ _ ha2 hk => vmtF_act hK ha2 hk) ha h
 | .br i j r s, l, a, w, ha, h => ⟨mStepF_act hT hF (k := fun l w => vmtF P T FS n all F K r l w) (q := fun a w => actMF P all.toArray F Lq r a w) (fun _ _ _ ha2 hk => vmtF_act hK ha2 hk) ha h.1, mStepF_act hT hF (k := fun l w => vmtF P T FS n all F K s l w) (q := fun a w => actMF P all.toArray F Lq s a w) (fun _ _ _ ha2 hk => vmtF_act hK ha2 hk) ha h.2⟩
 | .br3 _ _ _ _ _ _, _, _, _, _, h => h.elim
 | .br4 _ _ _ _ _ _ _ _, _, _, _, _, h => h.elim
theorem v_mtF {n : Nat} {ops : List Oper} {l : Env} {w : World} {K : Env → World → Prop} (hm : P.follows .mixedOrders = true) (F : Fam) (hC : ∀ k w w', F.C k w → Ext w w' → F.C k w') (hw : ∀ k, F.C k w) (r : MT) (hB : (mbFA ops.toArray F r && Nat.beq r.len ops.length && noDefer ops) = true)
  (h : vmtF P T FS n ops F K r l w) : VDraw P n ops l w K := by
 have hB' := hB
 rw [Bool.and_eq_true] at hB'
 refine VDraw.ofPlain (fun a Q ha hK => ?_) hB'.2
 refine region_mfA hC hw r hm hB'.1 ?_
 exact vmtF_act hT hF (fun l a w ha h => hK l a w ha h) ha h
end
end V
set_option maxHeartbeats 8000000
/-- each cell of a block is a class of its own -/
def famB (q : Nat) (cs : List Value) (bars : Nat → List Nat) (cls : Nat → Nat) : Fam := ⟨fun k w => ∀ v, cs[k]? = some v → w.cell? ⟨q, k, none⟩ = some v, bars, cls⟩
theorem famB_ext {q : Nat} {cs : List Value} {bars : Nat → List Nat} {cls : Nat → Nat} (k : Nat) (w w' : World) (h : (famB q cs bars cls).C k w) (hx : Ext w w') : (famB q cs bars cls).C k w' := fun v hv => hx.cell (h v hv)
theorem famB_of {q e : Nat} {cs : List Value} {bars : Nat → List Nat} {cls : Nat → Nat} {w : World} (h : Blk w q cs e) (k : Nat) : (famB q cs bars cls).C k w := fun v hv => by rw [h.cell]; exact hv
theorem famB_set {q e : Nat} {cs cs1 : List Value} {bars : Nat → List Nat} {cls : Nat → Nat} {i m : Nat} {v : Value} {w1 w2 : World} (h1 : Blk w1 q cs1 e) (h2 : Blk w2 q (cs1.set m v) e) (hm : (bars m).contains i = true) : (famB q cs bars cls).keeps i w1 w2 := fun k hk hc u hu => by
 have h3 := hc u hu
 have hkm : m ≠ k := fun e => by subst e; exact absurd (hm.symm.trans hk) (by decide)
 rw [h1.cell] at h3
 rw [h2.cell, List.getElem?_set_ne hkm]
 exact h3
def fewW (y : Wt) : Wt := { y with noise := y.noise.extract 0 (min y.noise.size 70), word := y.word.extract 0 (min y.word.size 70), fresh := y.fresh.extract 0 (min y.fresh.size 70), asked := y.asked.take 10 }
theorem few_c {W : World} {v : Value} (y : Wt) (hok : y.Ok) (hv : SLv W v (iv y.asked)) :
  Calls Tryz.prog 35 #[.agg (y.c v).toArray] W fun e w' => ∃ u, e = .returned u ∧ ∃ v', u = .agg ((fewW y).c v').toArray ∧ Ext W w' ∧ ∀ w2, SLv w2 v (iv y.asked) → SLv w2 v' (iv (fewW y).asked) := by
 have hsl : (iv y.asked).length = y.asked.length := List.length_map _
 obtain ⟨vs, hrun, hvs⟩ := hi_val (P := Tryz.prog) TTok (t := 32) rfl rfl hv (min y.asked.length 10) (by rw [hsl]; omega)
 have hrun2 := hrun .i64
 rw [show ((min y.asked.length 10 : Nat) : Int) = min (y.asked.length : Int) 10 by omega] at hrun2
 have htk : (iv y.asked).take (min y.asked.length 10) = iv (y.asked.take 10) := by
  unfold iv
  rw [← List.map_take]
  congr 1
  rcases Nat.le_total y.asked.length 10 with h | h
  ·rw [Nat.min_eq_left h, List.take_length, List.take_of_length_le h]
  ·rw [Nat.min_eq_right h]
 rw [htk] at hvs
 have l1 := hok.noise
 have l2 := hok.word
 have l3 := hok.fresh
 have l4 := hok.len
 unfold SzS at l1 l2 l3
 unfold maxLen at l1 l2 l3 l4
 unfold fewW
 clear hok
 obtain ⟨⟨ah, ap⟩, ⟨bh, bp⟩, now, nxt, til, ser, gone, noise, word, fresh, asked⟩ := y
 dsimp only [Wt.c] at hv hsl hrun2 hvs l1 l2 l3 l4 ⊢
 obtain ⟨p, c, rfl⟩ := hv.shape
 rw [hsl] at hv hrun2 hvs ⊢
 obtain ⟨p2, c2, rfl⟩ := (hvs _ hv).shape
 refine v_fn (args := [.agg #[.string ah, .int .i64 ap, .string bh, .int .i64 bp, .int .i64 now, .int .i64 nxt, .int .i64 til, .int .i64 ser, .bool gone, .string noise, .string word, .string fresh, .slice p asked.length c]]) TTok FFok Tryz.func35 rfl (Nat.le_of_ble_eq_true rfl) ?_
 conv => whnf
 refine VSeq.mk fun Kq hKq => ?_
 conv => whnf
 have hp := Hp.nil W
 refine hp.kboxA fun q1 w hp hx => ?_
 conv => whnf
 (refine hp.kalloc z34 fun al34 w hp hx => ?_; conv => whnf)
 (refine hKq _ _ _ (.refl _) ?_; clear hKq Kq; conv => whnf)
 (refine VSeq.mk fun Kq hKq => ?_; conv => whnf)
 have m1 : (min (noise.size : Int) 70 = ((min noise.size 70 : Nat) : Int)) := by omega
 have m2 : (min (word.size : Int) 70 = ((min word.size 70 : Nat) : Int)) := by omega
 have m3 : (min (fresh.size : Int) 70 = ((min fresh.size 70 : Nat) : Int)) := by omega
 refine v_mtF TTok FFok mixed (famB q1 [.string ah, .int .i64 ap, .string bh, .int .i64 bp, .int .i64 now, .int .i64 nxt, .int .i64 til, .int .i64 ser, .bool gone, .string noise, .string word, .string fresh, .slice p asked.length c] (fun k => match k with | 9 => [29] | 10 => [31] | 11 => [33] | 12 => [35] | _ => []) (fun i => if i < 7 then 9 else if i < 14 then 10 else if i < 21 then 11 else if i < 28 then 12 else 99)) famB_ext (famB_of (hp.get (i := 1) rfl)) (.q 0 (.q 1 (.q 2 (.q 3 (.q 4 (.q 5 (.q 6 (.q 7 (.q 8 (.q 9 (.q 10 (.q 11 (.q 12 (.q 13 (.q 14 (.q 15 (.q 16 (.q 17 (.q 18 (.q 19 (.q 20 (.q 21 (.q 22 (.q 23 (.q 24 (.q 25 (.q 26 (.q 27 (.q 28 (.m 29 (.q 30 (.m 31 (.q 32 (.m 33 (.q 34 (.m 35 .nil)))))))))))))))))))))))))))))))))))) (by kernel_rfl) ?_
 conv => whnf
 refine ⟨_, fun w1 hc => run_ld TTok rfl (hc _ rfl), ?_⟩
 conv => whnf
 refine ⟨_, fun w1 hc => run_ld TTok rfl (hc _ rfl), ?_⟩
 conv => whnf
 refine ⟨min noise.size 70, ⟨m1, by omega⟩, ?_⟩
 conv => whnf
 refine ⟨_, fun w1 hc => run_ld TTok rfl (hc _ rfl), ?_⟩
 conv => whnf
 refine ⟨_, fun w1 hc => run_ld TTok rfl (hc _ rfl), ?_⟩
 conv => whnf
 refine ⟨min word.size 70, ⟨m2, by omega⟩, ?_⟩
 conv => whnf
 refine ⟨_, fun w1 hc => run_ld TTok rfl (hc _ rfl), ?_⟩
 conv => whnf
 refine ⟨_, fun w1 hc => run_ld TTok rfl (hc _ rfl), ?_⟩
 conv => whnf
 refine ⟨min fresh.size 70, ⟨m3, by omega⟩, ?_⟩
 conv => whnf
 refine ⟨_, fun w1 hc => run_ld TTok rfl (hc _ rfl), ?_⟩
 conv => whnf
 refine ⟨_, fun w1 hc => run_ld TTok rfl (hc _ rfl), ?_⟩
 conv => whnf
 refine ⟨_, fun w' _ => hrun2 w', ?_⟩
 conv => whnf
 intro w hx
 have hp := hp.call hx
 have h1 : Blk w q1 _ _ := hp.get (i := 1) rfl
 conv => whnf
 refine hp.kst1 TTok (by rfl) 1 (by rfl) (by rfl) (by rfl) (Nat.le_of_ble_eq_true rfl) fun w hp => ?_
 simp only [List.set_cons_zero, List.set_cons_succ, EV.val] at hp
 conv => whnf
 refine And.intro (famB_set (m := 9) (v := .string (noise.extract 0 (min noise.size 70))) h1 (hp.get (i := 1) rfl) rfl) ?_
 clear h1
 conv => whnf
 intro w hx
 have hp := hp.call hx
 have h1 : Blk w q1 _ _ := hp.get (i := 1) rfl
 conv => whnf
 refine hp.kst1 TTok (by rfl) 1 (by rfl) (by rfl) (by rfl) (Nat.le_of_ble_eq_true rfl) fun w hp => ?_
 simp only [List.set_cons_zero, List.set_cons_succ, EV.val] at hp
 conv => whnf
 refine And.intro (famB_set (m := 10) (v := .string (word.extract 0 (min word.size 70))) h1 (hp.get (i := 1) rfl) rfl) ?_
 clear h1
 conv => whnf
 intro w hx
 have hp := hp.call hx
 have h1 : Blk w q1 _ _ := hp.get (i := 1) rfl
 conv => whnf
 refine hp.kst1 TTok (by rfl) 1 (by rfl) (by rfl) (by rfl) (Nat.le_of_ble_eq_true rfl) fun w hp => ?_
 simp only [List.set_cons_zero, List.set_cons_succ, EV.val] at hp
 conv => whnf
 refine And.intro (famB_set (m := 11) (v := .string (fresh.extract 0 (min fresh.size 70))) h1 (hp.get (i := 1) rfl) rfl) ?_
 clear h1
 conv => whnf
 intro w hx
 have hp := hp.call hx
 have h1 : Blk w q1 _ _ := hp.get (i := 1) rfl
 conv => whnf
 refine hp.kst1 TTok (by rfl) 1 (by rfl) (by rfl) (by rfl) (Nat.le_of_ble_eq_true rfl) fun w hp => ?_
 simp only [List.set_cons_zero, List.set_cons_succ, EV.val] at hp
 conv => whnf
 refine And.intro (famB_set (m := 12) (v := .slice p2 (iv (asked.take 10)).length c2) h1 (hp.get (i := 1) rfl) rfl) ?_
 clear h1
 conv => whnf
 (intro w hx; try (have hp := hp.call hx); conv => whnf)
 (refine hKq _ _ _ (.refl _) ?_; clear hKq Kq; conv => whnf)
 (refine VSeq.mk fun Kq hKq => ?_; conv => whnf)
 (refine ⟨_, _, Blk.ldV (vs := [_, _, _, _, _, _, _, _, _, _, _, _, _]) (hp.get (i := 1) rfl) TTok rfl rfl rfl, ?_⟩; conv => whnf)
 (refine hp.kstA TTok rfl 0 rfl rfl (oneC_of rfl) (by rfl) fun w hp => ?_; try simp only [List.set_cons_zero, List.set_cons_succ, EV.val] at hp; conv => whnf)
 (refine hKq _ _ _ (.refl _) ?_; clear hKq Kq; conv => whnf)
 (refine ⟨_, Blk.lvN (hp.get (i := 0) rfl) TTok rfl rfl, ?_⟩; conv => whnf)
 exact ⟨_, rfl, hp.ext, hvs⟩
set_option maxHeartbeats 8000000
theorem bendW_ok {b : Bn} {y : Wt} (hb : b.Ok) (hy : y.Ok) (hl : y.asked.length ≤ 1000) : (bendW b y).Ok := by
 have h : b.what % 11 = 0 ∨ b.what % 11 = 1 ∨ b.what % 11 = 2 ∨ b.what % 11 = 3 ∨ b.what % 11 = 4 ∨ b.what % 11 = 5 ∨ b.what % 11 = 6 ∨ b.what % 11 = 7 ∨ b.what % 11 = 8 ∨ b.what % 11 = 9 ∨ b.what % 11 = 10 := by omega
 rcases h with h | h | h | h | h | h | h | h | h | h | h
 ·rw [bendW_0 h]
  split
  ·exact ⟨hb.a, hy.b, hy.now, hy.nxt, hy.til, hy.ser, hy.noise, hy.word, hy.fresh, hy.asked, hy.len⟩
  ·exact ⟨hy.a, hb.a, hy.now, hy.nxt, hy.til, hy.ser, hy.noise, hy.word, hy.fresh, hy.asked, hy.len⟩
 ·rw [bendW_1 h]; exact ⟨hy.a, hy.b, hb.n, hy.nxt, hy.til, hy.ser, hy.noise, hy.word, hy.fresh, hy.asked, hy.len⟩
 ·rw [bendW_2 h]; exact ⟨hy.a, hy.b, hy.now, hb.n, hy.til, hy.ser, hy.noise, hy.word, hy.fresh, hy.asked, hy.len⟩
 ·rw [bendW_3 h]; exact ⟨hy.a, hy.b, hy.now, hy.nxt, hb.n, hy.ser, hy.noise, hy.word, hy.fresh, hy.asked, hy.len⟩
 ·rw [bendW_4 h]; exact ⟨hy.a, hy.b, hy.now, hy.nxt, hy.til, hb.n, hy.noise, hy.word, hy.fresh, hy.asked, hy.len⟩
 ·rw [bendW_5 h]; exact ⟨hy.a, hy.b, hy.now, hy.nxt, hy.til, hy.ser, hy.noise, hy.word, hy.fresh, hy.asked, hy.len⟩
 ·rw [bendW_6 h]; exact ⟨hy.a, hy.b, hy.now, hy.nxt, hy.til, hy.ser, hb.s, hy.word, hy.fresh, hy.asked, hy.len⟩
 ·rw [bendW_7 h]; exact ⟨hy.a, hy.b, hy.now, hy.nxt, hy.til, hy.ser, hy.noise, hb.s, hy.fresh, hy.asked, hy.len⟩
 ·rw [bendW_8 h]; exact ⟨hy.a, hy.b, hy.now, hy.nxt, hy.til, hy.ser, hy.noise, hy.word, hb.s, hy.asked, hy.len⟩
 ·rw [bendW_9 h]
  refine ⟨hy.a, hy.b, hy.now, hy.nxt, hy.til, hy.ser, hy.noise, hy.word, hy.fresh, fun i hi => ?_, ?_⟩
  ·rcases List.mem_append.1 hi with h1 | h1
   ·exact hy.asked i h1
   ·rw [List.mem_singleton] at h1; rw [h1]; exact hb.n
  ·show (y.asked ++ [b.n]).length ≤ maxLen
   rw [List.length_append]; unfold maxLen; simp only [List.length_singleton]; omega
 ·rw [bendW_10 h]
  split
  ·refine ⟨hy.a, hy.b, hy.now, hy.nxt, hy.til, hy.ser, hy.noise, hy.word, hy.fresh, fun i hi => ?_, ?_⟩
   ·rcases List.mem_or_eq_of_mem_set hi with h1 | h1
    ·exact hy.asked i h1
    ·rw [h1]; exact hb.n
   ·show (y.asked.set _ _).length ≤ maxLen
    rw [List.length_set]; exact hy.len
  ·exact hy
theorem bendW_len (b : Bn) (y : Wt) : (bendW b y).asked.length ≤ y.asked.length + 1 := by
 have h : b.what % 11 = 0 ∨ b.what % 11 = 1 ∨ b.what % 11 = 2 ∨ b.what % 11 = 3 ∨ b.what % 11 = 4 ∨ b.what % 11 = 5 ∨ b.what % 11 = 6 ∨ b.what % 11 = 7 ∨ b.what % 11 = 8 ∨ b.what % 11 = 9 ∨ b.what % 11 = 10 := by omega
 rcases h with h | h | h | h | h | h | h | h | h | h | h
 ·rw [bendW_0 h]; split <;> exact Nat.le_succ _
 ·rw [bendW_1 h]; exact Nat.le_succ _
 ·rw [bendW_2 h]; exact Nat.le_succ _
 ·rw [bendW_3 h]; exact Nat.le_succ _
 ·rw [bendW_4 h]; exact Nat.le_succ _
 ·rw [bendW_5 h]; exact Nat.le_succ _
 ·rw [bendW_6 h]; exact Nat.le_succ _
 ·rw [bendW_7 h]; exact Nat.le_succ _
 ·rw [bendW_8 h]; exact Nat.le_succ _
 ·rw [bendW_9 h]; show (y.asked ++ [b.n]).length ≤ _; rw [List.length_append]; exact Nat.le_refl _
 ·rw [bendW_10 h]
  split
  ·show (y.asked.set _ _).length ≤ _; rw [List.length_set]; exact Nat.le_succ _
  ·exact Nat.le_succ _
theorem ext_size (s : ByteArray) (n : Nat) : (s.extract 0 n).size ≤ s.size := by rw [ByteArray.size_extract]; omega
theorem fewW_ok {y : Wt} (hy : y.Ok) : (fewW y).Ok :=
 ⟨hy.a, hy.b, hy.now, hy.nxt, hy.til, hy.ser, Nat.le_trans (ext_size _ _) hy.noise, Nat.le_trans (ext_size _ _) hy.word, Nat.le_trans (ext_size _ _) hy.fresh, fun i hi => hy.asked i (List.mem_of_mem_take hi),
  Nat.le_trans (by show (y.asked.take 10).length ≤ y.asked.length; rw [List.length_take]; omega) hy.len⟩
theorem ix37_0 (w : World) (y0 y1 y2 y3 : Wt) (v0 v1 v2 v3 : Value) : (Instr.index 37 (.agg (y0.c v0 ++ y1.c v1 ++ y2.c v2 ++ y3.c v3).toArray) (.int .i64 0)).run Tryz.prog w = .ok (.agg (y0.c v0).toArray) w := by kernel_rfl
theorem ix37_1 (w : World) (y0 y1 y2 y3 : Wt) (v0 v1 v2 v3 : Value) : (Instr.index 37 (.agg (y0.c v0 ++ y1.c v1 ++ y2.c v2 ++ y3.c v3).toArray) (.int .i64 1)).run Tryz.prog w = .ok (.agg (y1.c v1).toArray) w := by kernel_rfl
theorem ix37_2 (w : World) (y0 y1 y2 y3 : Wt) (v0 v1 v2 v3 : Value) : (Instr.index 37 (.agg (y0.c v0 ++ y1.c v1 ++ y2.c v2 ++ y3.c v3).toArray) (.int .i64 2)).run Tryz.prog w = .ok (.agg (y2.c v2).toArray) w := by kernel_rfl
theorem ix37_3 (w : World) (y0 y1 y2 y3 : Wt) (v0 v1 v2 v3 : Value) : (Instr.index 37 (.agg (y0.c v0 ++ y1.c v1 ++ y2.c v2 ++ y3.c v3).toArray) (.int .i64 3)).run Tryz.prog w = .ok (.agg (y3.c v3).toArray) w := by kernel_rfl
/-- an array of four watches: what each index gives -/
def Four (w : World) (A : Value) : Prop := (∃ cs, A = .agg cs) ∧ ∀ k : Nat, k < 4 → ∃ (y : Wt) (v : Value), y.Ok ∧ SLv w v (iv y.asked) ∧ ∀ w2, (Instr.index 37 A (.int .i64 k)).run Tryz.prog w2 = .ok (.agg (y.c v).toArray) w2
theorem Four.ext {w w' : World} {A : Value} (h : Four w A) (hx : Ext w w') : Four w' A := ⟨h.1, fun k hk =>
 let ⟨y, v, h1, h2, h3⟩ := h.2 k hk
 ⟨y, v, h1, h2.ext hx, h3⟩⟩
theorem four_of {w : World} {y0 y1 y2 y3 : Wt} {v0 v1 v2 v3 : Value} (o0 : y0.Ok) (o1 : y1.Ok) (o2 : y2.Ok) (o3 : y3.Ok) (s0 : SLv w v0 (iv y0.asked)) (s1 : SLv w v1 (iv y1.asked)) (s2 : SLv w v2 (iv y2.asked)) (s3 : SLv w v3 (iv y3.asked)) :
  Four w (.agg (y0.c v0 ++ y1.c v1 ++ y2.c v2 ++ y3.c v3).toArray) := ⟨⟨_, rfl⟩, fun k hk => by
 have : k = 0 ∨ k = 1 ∨ k = 2 ∨ k = 3 := by omega
 rcases this with rfl | rfl | rfl | rfl
 ·exact ⟨y0, v0, o0, s0, fun w2 => ix37_0 w2 y0 y1 y2 y3 v0 v1 v2 v3⟩
 ·exact ⟨y1, v1, o1, s1, fun w2 => ix37_1 w2 y0 y1 y2 y3 v0 v1 v2 v3⟩
 ·exact ⟨y2, v2, o2, s2, fun w2 => ix37_2 w2 y0 y1 y2 y3 v0 v1 v2 v3⟩
 ·exact ⟨y3, v3, o3, s3, fun w2 => ix37_3 w2 y0 y1 y2 y3 v0 v1 v2 v3⟩⟩
set_option maxHeartbeats 16000000
theorem watches_c {W : World} {vn ve v : Value} (p : Nat) (hp256 : p < 256) (nb : List UInt8) (evs : List Ev) (hev : ∀ x ∈ evs, x.Ok) (hn : SLv W vn (bytesV nb)) (he : SLn W 5 ve (evs.map Ev.c)) (b c : Bn) (hb : b.Ok) (hc : c.Ok) (z : Wt) (hz : z.Ok) (hv : SLv W v (iv z.asked)) :
  Calls Tryz.prog 10 #[.agg #[.int .u8 p, vn, ve], .agg (b.c ++ c.c).toArray, .agg (z.c v).toArray] W fun e w' => ∃ A, e = .returned A ∧ Ext W w' ∧ Four w' A := by
 have s1 := fun {W : World} hn he => Watch12_c (W := W) (vn := vn) (ve := ve) p hp256 nb evs hev hn he
 have hd := drafL_dr p (s := ⟨(nb.take 64).toArray⟩) (by show (nb.take 64).toArray.size ≤ 64; rw [List.size_toArray, List.length_take]; omega) (evs.take 30) (by rw [List.length_take]; omega)
 obtain ⟨y, hy⟩ : ∃ y, drafL p ⟨(nb.take 64).toArray⟩ (evs.take 30) = y := ⟨_, rfl⟩
 rw [hy] at hd s1
 have hyo := hd.ok
 have hyl := hd.v.len
 clear hd hy
 have hb1 := bendW_ok hb hyo (by omega)
 have hl1 := bendW_len b y
 have hb2 := bendW_ok hc hb1 (by omega)
 have s2 := fun {W : World} {v : Value} hv => Bend12_c (W := W) (v := v) b hb y (by omega) hv
 have s3 := fun {W : World} {v : Value} hv => Bend12_c (W := W) (v := v) c hc (bendW b y) (by omega) hv
 obtain ⟨y1, hy1⟩ : ∃ y1, bendW b y = y1 := ⟨_, rfl⟩
 rw [hy1] at hb1 hl1 hb2 s2 s3
 obtain ⟨y2, hy2⟩ : ∃ y2, bendW c y1 = y2 := ⟨_, rfl⟩
 rw [hy2] at hb2 s3
 have s4 := fun {W : World} {v : Value} hv => few_c (W := W) (v := v) y1 hb1 hv
 have s5 := fun {W : World} {v : Value} hv => few_c (W := W) (v := v) y2 hb2 hv
 have s6 := fun {W : World} {v : Value} hv => few_c (W := W) (v := v) z hz hv
 have o1 := fewW_ok hb1
 have o2 := fewW_ok hb2
 have o3 := fewW_ok hz
 obtain ⟨z1, e1⟩ : ∃ z1, fewW y1 = z1 := ⟨_, rfl⟩
 obtain ⟨z2, e2⟩ : ∃ z2, fewW y2 = z2 := ⟨_, rfl⟩
 obtain ⟨z3, e3⟩ : ∃ z3, fewW z = z3 := ⟨_, rfl⟩
 rw [e1] at o1 s4
 rw [e2] at o2 s5
 rw [e3] at o3 s6
 clear e1 e2 e3 hy1 hy2 hb1 hb2 hl1 hyl hb hc hz
 obtain ⟨pv, cv, rfl⟩ := hv.shape
 dsimp only [Wt.c, Bn.c, Ev.c] at s1 s2 s3 s4 s5 s6 ⊢
 obtain ⟨pn, cn, rfl⟩ := hn.shape
 obtain ⟨pe, ce, rfl⟩ := he.shape
 refine v_fn (args := [.agg #[.int .u8 p, .slice pn _ cn, .slice pe _ ce], .agg #[.int .u8 b.what, .int .u8 b.at_, .int .i64 b.n, .string b.s, .string b.a.h, .int .i64 b.a.p, .int .u8 c.what, .int .u8 c.at_, .int .i64 c.n, .string c.s, .string c.a.h, .int .i64 c.a.p], .agg #[.string z.a.h, .int .i64 z.a.p, .string z.b.h, .int .i64 z.b.p, .int .i64 z.now, .int .i64 z.nxt, .int .i64 z.til, .int .i64 z.ser, .bool z.gone, .string z.noise, .string z.word, .string z.fresh, .slice pv _ cv]]) TTok FFok Tryz.func10 rfl (Nat.le_of_ble_eq_true rfl) ?_
 conv => whnf
 refine VSeq.mk fun Kq hKq => ?_
 conv => whnf
 have hp := Hp.nil W
 refine hp.kboxA fun q3 w hp hx => ?_
 conv => whnf
 refine hp.kboxA fun q4 w hp hx => ?_
 conv => whnf
 refine hp.kboxA fun q5 w hp hx => ?_
 conv => whnf
 (refine hp.kalloc z37 fun al37 w hp hx => ?_; conv => whnf)
 (refine hKq _ _ _ (.refl _) ?_; clear hKq Kq; conv => whnf)
 (refine VSeq.mk fun Kq hKq => ?_; conv => whnf)
 (refine ⟨_, _, Blk.ldV (vs := [_, _, _]) (hp.get (i := 3) rfl) TTok rfl rfl rfl, ?_⟩; conv => whnf)
 refine Calls.mono (s1 (hn.ext hp.ext) (he.ext hp.ext)) ?_
 rintro _ w ⟨_, rfl, v0, rfl, hx, hs0⟩
 refine ⟨_, rfl, ?_⟩
 have hp := hp.pushR hx hs0
 obtain ⟨p0, c0, rfl⟩ := hs0.shape
 clear s1 hs0
 conv => whnf
 (refine hp.kalloc z34 fun al34 w hp hx => ?_; conv => whnf)
 (refine hp.kstA TTok rfl 0 rfl rfl (oneC_of rfl) (by rfl) fun w hp => ?_; try simp only [List.set_cons_zero, List.set_cons_succ, EV.val] at hp; conv => whnf)
 (refine hKq _ _ _ (.refl _) ?_; clear hKq Kq; conv => whnf)
 (refine VSeq.mk fun Kq hKq => ?_; conv => whnf)
 refine v_mix TTok FFok mixed 17 [(0, false), (1, false), (2, false), (3, false), (6, false), (7, false), (8, false), (9, false), (10, false), (14, false), (4, true), (5, true), (11, true), (12, true), (13, true), (15, true), (16, false)] (by kernel_rfl) ?_
 conv => whnf
 (refine ⟨_, fun w' hx' => Blk.ldV (vs := [_, _, _, _, _, _, _, _, _, _, _, _, _]) (Blk.ext (hp.get (i := 0) rfl) hx') TTok rfl rfl rfl, ?_⟩; conv => whnf)
 (refine ⟨0, ⟨rfl, by decide⟩, ?_⟩; conv => whnf)
 (refine ⟨_, fun w' hx' => Blk.ldV (vs := [_, _, _, _, _, _]) (Blk.ext (hp.get (i := 4) rfl) hx') TTok rfl rfl rfl, ?_⟩; conv => whnf)
 (refine ⟨_, fun w' hx' => Blk.ldV (vs := [_, _, _, _, _, _, _, _, _, _, _, _, _]) (Blk.ext (hp.get (i := 0) rfl) hx') TTok rfl rfl rfl, ?_⟩; conv => whnf)
 (refine ⟨1, ⟨rfl, by decide⟩, ?_⟩; conv => whnf)
 (refine ⟨_, fun w' hx' => Blk.ldV (vs := [_, _, _, _, _, _]) (Blk.ext (hp.get (i := 4) rfl) hx') TTok rfl rfl rfl, ?_⟩; conv => whnf)
 (refine ⟨0, ⟨rfl, by decide⟩, ?_⟩; conv => whnf)
 (refine ⟨_, fun w' hx' => Blk.ldV (vs := [_, _, _, _, _, _]) (Blk.ext (hp.get (i := 4) rfl) hx') TTok rfl rfl rfl, ?_⟩; conv => whnf)
 (refine ⟨_, fun w' hx' => Blk.ldV (vs := [_, _, _, _, _, _, _, _, _, _, _, _, _]) (Blk.ext (hp.get (i := 0) rfl) hx') TTok rfl rfl rfl, ?_⟩; conv => whnf)
 (refine ⟨_, fun w' hx' => Blk.ldV (vs := [_, _, _, _, _, _, _, _, _, _, _, _, _]) (Blk.ext (hp.get (i := 3) rfl) hx') TTok rfl rfl rfl, ?_⟩; conv => whnf)
 (intro w hx; try (have hp := hp.call hx); conv => whnf)
 refine Calls.mono (s2 (hp.get (i := 1) rfl)) ?_
 rintro _ w ⟨_, rfl, v1, rfl, hx, hs⟩
 refine ⟨_, rfl, ?_⟩
 have hp := hp.pushR hx hs
 obtain ⟨pv1, cv1, rfl⟩ := hs.shape
 clear hs
 conv => whnf
 refine And.intro hx ?_
 conv => whnf
 (intro w hx; try (have hp := hp.call hx); conv => whnf)
 refine Calls.mono (s4 (hp.get (i := 0) rfl)) ?_
 rintro _ w ⟨_, rfl, v2, rfl, hx, hv2⟩
 refine ⟨_, rfl, ?_⟩
 have hp := hp.call hx
 obtain ⟨pv2, cv2, rfl⟩ := (hv2 w ((hp.get (i := 0) rfl))).shape
 conv => whnf
 refine And.intro hx ?_
 conv => whnf
 (intro w hx; try (have hp := hp.call hx); conv => whnf)
 refine Calls.mono (s2 (hp.get (i := 2) rfl)) ?_
 rintro _ w ⟨_, rfl, v3, rfl, hx, hs⟩
 refine ⟨_, rfl, ?_⟩
 have hp := hp.pushR hx hs
 obtain ⟨pv3, cv3, rfl⟩ := hs.shape
 clear hs
 conv => whnf
 refine And.intro hx ?_
 conv => whnf
 (intro w hx; try (have hp := hp.call hx); conv => whnf)
 refine Calls.mono (s3 (hp.get (i := 0) rfl)) ?_
 rintro _ w ⟨_, rfl, v4, rfl, hx, hs⟩
 refine ⟨_, rfl, ?_⟩
 have hp := hp.pushR hx hs
 obtain ⟨pv4, cv4, rfl⟩ := hs.shape
 clear hs
 conv => whnf
 refine And.intro hx ?_
 conv => whnf
 (intro w hx; try (have hp := hp.call hx); conv => whnf)
 refine Calls.mono (s5 (hp.get (i := 0) rfl)) ?_
 rintro _ w ⟨_, rfl, v5, rfl, hx, hv5⟩
 refine ⟨_, rfl, ?_⟩
 have hp := hp.call hx
 obtain ⟨pv5, cv5, rfl⟩ := (hv5 w ((hp.get (i := 0) rfl))).shape
 conv => whnf
 refine And.intro hx ?_
 conv => whnf
 (intro w hx; try (have hp := hp.call hx); conv => whnf)
 refine Calls.mono (s6 (hv.ext hp.ext)) ?_
 rintro _ w ⟨_, rfl, v6, rfl, hx, hv6⟩
 refine ⟨_, rfl, ?_⟩
 have hp := hp.call hx
 obtain ⟨pv6, cv6, rfl⟩ := (hv6 w ((hv.ext hp.ext))).shape
 conv => whnf
 refine And.intro hx ?_
 conv => whnf
 (refine ⟨_, fun w' hx' => bld37_0_1_2_3 w' _ _ _ _ _ _ _ _ _ _ _ _ _ _ _ _ _ _ _ _ _ _ _ _ _ _ _ _ _ _ _ _ _ _ _ _ _ _ _ _ _ _ _ _ _ _ _ _ _ _ _ _, ?_⟩; conv => whnf)
 (intro w hx; try (have hp := hp.call hx); conv => whnf)
 (refine hp.kstA TTok rfl 5 rfl rfl (oneC_of rfl) (by rfl) fun w hp => ?_; try simp only [List.set_cons_zero, List.set_cons_succ, EV.val] at hp; conv => whnf)
 (refine hKq _ _ _ (.refl _) ?_; clear hKq Kq; conv => whnf)
 (refine ⟨_, Blk.lvN (hp.get (i := 5) rfl) TTok rfl rfl, ?_⟩; conv => whnf)
 exact ⟨hp.ext, four_of (y0 := y) hyo o1 o2 o3 (hp.get (i := 4) rfl) (hv2 _ (hp.get (i := 2) rfl)) (hv5 _ (hp.get (i := 0) rfl)) (hv6 _ (hv.ext hp.ext))⟩
set_option maxHeartbeats 1600000
theorem drf_rd {w : World} {cs : List Value} (h : Rd w (.cons (.int .u8) (.cons (.sl (.int .u8)) (.cons (.sl (.ag shE)) .nil))) cs) :
  ∃ (p : Nat) (nb : List UInt8) (evs : List Ev) (vn ve : Value), p < 256 ∧ (∀ x ∈ evs, x.Ok) ∧ SLv w vn (bytesV nb) ∧ SLn w 5 ve (evs.map Ev.c) ∧ cs = [.int .u8 p, vn, ve] := by
 obtain ⟨_, _, rfl, ⟨n1, rfl, h1⟩, _, _, rfl, h2, _, _, rfl, ⟨ve, xs, rfl, hs, hx⟩, h3⟩ := h
 obtain rfl : _ = [] := h3
 obtain ⟨p, rfl, hp⟩ := nat_of_u h1 rfl
 obtain ⟨vn, nb, rfl, hn, _⟩ := rd_bytes h2
 obtain ⟨evs, rfl, he⟩ := Rd.all (Q := Ev.Ok) (f := Ev.c) (fun cs h => ev_rd h) hx
 exact ⟨p, nb, evs, vn, ve, hp, he, hn, hs, rfl⟩
theorem bns_rd {w : World} {cs : List Value} (h : Rd w (.cons (.ag shBn) (.cons (.ag shBn) .nil)) cs) : ∃ b c : Bn, b.Ok ∧ c.Ok ∧ cs = b.c ++ c.c := by
 obtain ⟨_, _, rfl, h1, _, _, rfl, h2, h3⟩ := h
 obtain rfl : _ = [] := h3
 obtain ⟨b, hb, rfl⟩ := bn_rd h1
 obtain ⟨c, hc, rfl⟩ := bn_rd h2
 exact ⟨b, c, hb, hc, rfl⟩
def shW : Sh := .cons (.ag shPa) (.cons (.int .i64) (.cons (.int .i64) (.cons (.int .i64) (.cons (.int .i64) (.cons .bool (.cons .str (.cons .str (.cons .str (.cons (.sl (.int .i64)) .nil)))))))))
theorem pa_rd2 {w : World} {cs : List Value} (h : Rd w (.ag shPa) cs) : ∃ a b : Ad, a.Ok ∧ b.Ok ∧ cs = a.c ++ b.c := by
 obtain ⟨_, _, rfl, h1, _, _, rfl, h2, h3⟩ := h
 obtain rfl : _ = [] := h3
 obtain ⟨a, ha, rfl⟩ := ad_rd h1
 obtain ⟨b, hb, rfl⟩ := ad_rd h2
 exact ⟨a, b, ha, hb, rfl⟩
theorem wt_rd {w : World} {cs : List Value} (h : Rd w shW cs) : ∃ (y : Wt) (v : Value), y.Ok ∧ SLv w v (iv y.asked) ∧ cs = y.c v := by
 obtain ⟨_, _, rfl, h1, _, _, rfl, ⟨n1, rfl, k1⟩, _, _, rfl, ⟨n2, rfl, k2⟩, _, _, rfl, ⟨n3, rfl, k3⟩, _, _, rfl, ⟨n4, rfl, k4⟩, _, _, rfl, ⟨g, rfl⟩, _, _, rfl, ⟨s1, rfl, j1⟩, _, _, rfl, ⟨s2, rfl, j2⟩, _, _, rfl, ⟨s3, rfl, j3⟩, _, _, rfl, h2, h3⟩ := h
 obtain rfl : _ = [] := h3
 obtain ⟨a, b, ha, hb, rfl⟩ := pa_rd2 h1
 obtain ⟨v, l, rfl, hv, hl, hm⟩ := rd_ints h2
 exact ⟨⟨a, b, n1, n2, n3, n4, g, s1, s2, s3, l⟩, v, ⟨ha, hb, wf_in64 k1, wf_in64 k2, wf_in64 k3, wf_in64 k4, j1, j2, j3, fun i hi => wf_in64 (hl i hi), hm⟩, hv, rfl⟩
set_option maxHeartbeats 1600000
theorem timeW_same (x : Wt) (now : Int) : (timeW x now).1.now = now ∧ (timeW x now).1.til = x.til ∧ (timeW x now).1.noise = x.noise ∧ (timeW x now).1.gone = (x.gone || decide (x.til ≤ now)) ∧ ((timeW x now).1.ser = x.ser ∨ (timeW x now).1.ser = x.ser + 1) := by
 obtain ⟨_, _, h3, _, h5, h6, h7, _, h9⟩ := atW_same x now
 unfold timeW
 split
 ·exact ⟨h3, h5, h7, h9, .inr (congrArg (· + 1) h6)⟩
 ·exact ⟨h3, h5, h7, h9, .inl h6⟩
theorem timeW_out (x : Wt) (now : Int) : (timeW x now).2.length ≤ 1 ∧ ((timeW x now).1.gone = true → (timeW x now).2 = []) := by
 unfold timeW
 split
 ·rename_i h
  refine ⟨Nat.le_refl 1, fun hg => ?_⟩
  unfold asksB at h
  have hg : (atW x now).gone = true := hg
  rw [hg, Bool.not_true, Bool.false_and] at h
  cases h
 ·exact ⟨Nat.zero_le _, fun _ => rfl⟩
/-- a watch of the law ConsentStays behind i steps -/
structure Sy (i : Nat) (y : Wt) : Prop where
 v : Wv y
 s : Ws y
 now : y.now ≤ 300000 + 9000 * (i : Int)
theorem Sy.ok {i : Nat} {y : Wt} (h : Sy i y) : y.Ok := h.s.ok h.v
theorem Dr.sy {B : Nat} {y : Wt} (h : Dr B y) (hB : B ≤ 30) : Sy 0 y := ⟨h.v, h.s, by have := h.now; omega⟩
theorem Sy.more {i j : Nat} {y : Wt} (h : Sy i y) (hj : i ≤ j) : Sy j y := ⟨h.v, h.s, by have := h.now; omega⟩
/-- what a step that is no error does -/
structure StayR (i : Nat) (y v : Wt) (t : Int) (o : List Hop3) (lg : Prop) : Prop where
 sy : Sy (i + 1) v
 now : v.now = t
 ser : v.ser = y.ser ∨ v.ser = y.ser + 1
 gone : v.gone = (y.gone || decide (y.til ≤ t))
 noise : v.noise = y.noise
 len : o.length ≤ 1
 til : v.til = y.til ∨ (lg ∧ v.til = t + 30000)
 out : v.gone = true → o = []
section
variable {i : Nat} {y : Wt} {now : Int} (h : Sy i y) (hi : i ≤ 1000) (h1 : y.now ≤ now) (h2 : now ≤ y.now + 8999)
include h hi h1 h2
theorem Sy.le : now ≤ 1099511627776 := by have := h.now; omega
theorem Sy.st : startN y now = 0 := startN_of (wtB_iff.2 h.v) (inB_of h1 (h.le hi h1 h2))
theorem Sy.time : ∃ v o, timeE y now = (v, o, 0) ∧ StayR i y v now o False := by
 have hn := h.now
 obtain ⟨e1, e2, e3, e4, e5⟩ := timeW_same y now
 obtain ⟨k1, k2⟩ := timeW_out y now
 refine ⟨_, _, by unfold timeE; rw [if_pos (h.st hi h1 h2)], ⟨⟨timeW_v h.v h1 (h.le hi h1 h2), timeW_s h.s, by rw [e1]; omega⟩, e1, e5, e4, e3, k1, .inl e2, k2⟩⟩
theorem Sy.rest (s : ByteArray) (hs : SzS s) : ∃ v e, restE y now s = (v, e) ∧ ((e = 0 ∧ StayR i y v now [] False) ∨ (e ≠ 0 ∧ v.Ok ∧ (e = 8 → y.til ≤ now ∨ y.gone = true))) := by
 have hn := h.now
 have hok := restE_ok h.ok now hs
 refine ⟨(restE y now s).1, (restE y now s).2, rfl, ?_⟩
 unfold restE at hok ⊢
 rw [if_pos (h.st hi h1 h2)] at hok ⊢
 by_cases he : (restW y now s).2 = 0
 ·obtain ⟨e1, _, e3, e4, e5, e6⟩ := restW_same he
  exact .inl ⟨he, ⟨restW_v h.v h1 (h.le hi h1 h2) he, restW_s h.s hs, by rw [e1]; omega⟩, e1, .inl e3, e5, e4, Nat.zero_le _, .inl e6, fun _ => rfl⟩
 ·refine .inr ⟨he, hok, fun h8 => ?_⟩
  unfold restW at h8
  dsimp only at h8
  split at h8
  ·rename_i hg
   rw [(atW_same y now).2.2.2.2.2.2.2.2] at hg
   rcases Bool.or_eq_true_iff.1 hg with hg | hg
   ·exact .inr hg
   ·exact .inl (of_decide_eq_true hg)
  ·split at h8
   ·cases h8
   ·cases h8
theorem Sy.sw (a b : Ad) (ha : a.Ok) (hb : b.Ok) : ∃ v e, swE y now a b = (v, e) ∧ ((e = 0 ∧ StayR i y v now [] True ∧ v.til = now + 30000) ∨ (e ≠ 0 ∧ v.Ok ∧ (e = 8 → y.til ≤ now ∨ y.gone = true))) := by
 have hn := h.now
 have hok := swE_ok h.ok now ha hb
 refine ⟨(swE y now a b).1, (swE y now a b).2, rfl, ?_⟩
 unfold swE at hok ⊢
 rw [if_pos (h.st hi h1 h2)] at hok ⊢
 by_cases he : (swW y now a b).2 = 0
 ·obtain ⟨e1, _, e3, e4, e5, e6⟩ := swW_same he
  exact .inl ⟨he, ⟨⟨swW_v h.v h1 (h.le hi h1 h2) he, swW_s h.s ha hb, by rw [e1]; omega⟩, e1, .inl e3, e5, e4, Nat.zero_le _, .inr ⟨trivial, e6⟩, fun _ => rfl⟩, e6⟩
 ·refine .inr ⟨he, hok, fun h8 => ?_⟩
  unfold swW at h8
  dsimp only at h8
  split at h8
  ·rename_i hg
   rw [(atW_same y now).2.2.2.2.2.2.2.2] at hg
   rcases Bool.or_eq_true_iff.1 hg with hg | hg
   ·exact .inr hg
   ·exact .inl (of_decide_eq_true hg)
  ·split at h8
   ·cases h8
   ·cases h8
end
set_option maxHeartbeats 1600000
set_option maxHeartbeats 1600000
theorem SLn_hi {P : Program} {T : Tab} (hT : tabOk P T = true) {t el n1 sz : Nat} {kd : TK} (ht : tfind T t = some ⟨.slice el, n1⟩) (he : tfind T el = some ⟨kd, sz⟩) {w : World} {v : Value} {xs : List (List Value)} (h : SLn w sz v xs) (b : Nat) (hb : b ≤ xs.length) :
  ∃ v', (∀ (k : IntKind) (w' : World), (Instr.sliceAt t v none (some (.int k (b : Int))) none).run P w' = .ok v' w') ∧ SLn w sz v' (xs.take b) := by
 have key : ∀ a c, v = .slice a 0 c → xs = [] → ∃ v', (∀ (k : IntKind) (w' : World), (Instr.sliceAt t v none (some (.int k (b : Int))) none).run P w' = .ok v' w') ∧ SLn w sz v' (xs.take b) := by
  rintro a c rfl rfl
  have : b = 0 := by simpa using hb
  subst this
  refine ⟨.slice a 0 c, fun k w' => ?_, .inr (.inl ⟨_, _, rfl, rfl⟩)⟩
  simp only [Instr.sliceAt, Instr.slice, Instr.sliceBounds, Sem.run_bind, Sem.run_pure, V.run_underlying (tab_slice hT ht), Result.andThen]
  rw [run_bound (P := P) (Nat.zero_le _)]
  simp only [Result.andThen, Sem.run_pure, tab_size hT he]
  cases a <;> simp [Addr.add]
 rcases h with ⟨rfl, rfl⟩ | ⟨a, c, rfl, rfl⟩ | ⟨g, off, c, rfl, hl, hm, hc⟩
 ·exact key _ _ rfl rfl
 ·exact key _ _ rfl rfl
 ·refine ⟨_, fun k w' => run_slice_hi hT ht he b (by omega), ?_⟩
  have hl : (xs.take b).length = b := by rw [List.length_take]; omega
  exact .inr (.inr ⟨g, off, c, by rw [hl], by omega, hm, fun j x hj => hc j x (by
   rw [List.getElem?_take] at hj; split at hj
   ·exact hj
   ·cases hj)⟩)
theorem StayR.lg {i : Nat} {y v : Wt} {t : Int} {o : List Hop3} {P Q : Prop} (h : StayR i y v t o P) (hq : P → Q) : StayR i y v t o Q :=
 ⟨h.sy, h.now, h.ser, h.gone, h.noise, h.len, h.til.imp id (fun k => ⟨hq k.1, k.2⟩), h.out⟩
set_option maxHeartbeats 1600000
/-- what New is asked -/
structure Ask where
 a : Ad
 b : Ad
 wd : ByteArray
 no : ByteArray
 nw : Int
abbrev Ask.c (x : Ask) : List Value := [.string x.a.h, .int .i64 x.a.p, .string x.b.h, .int .i64 x.b.p, .string x.wd, .string x.no, .int .i64 x.nw]
structure Ask.Ok (x : Ask) : Prop where
 a : x.a.Ok
 b : x.b.Ok
 wd : SzS x.wd
 no : SzS x.no
/-! results, without a case split at the place of use (deep in nested loops a case split takes minutes) -/
theorem ResW.mono {f : Nat} {args : Array Value} {W : World} {x : Wt} {r : Int} {Q : Ending → World → Prop} (h : Calls Tryz.prog f args W (fun e w' => ∃ u, e = .returned u ∧ ResW W w' u x r))
  (k : ∀ (w' : World) (p : Option Addr) (c : Nat), Ext W w' → SLv w' (.slice p (iv x.asked).length c) (iv x.asked) → Q (.returned (.tuple #[.agg #[.string x.a.h, .int .i64 x.a.p, .string x.b.h, .int .i64 x.b.p, .int .i64 x.now, .int .i64 x.nxt, .int .i64 x.til, .int .i64 x.ser, .bool x.gone, .string x.noise, .string x.word, .string x.fresh, .slice p (iv x.asked).length c], .int .i64 r])) w') : Calls Tryz.prog f args W Q := by
 refine Calls.mono h ?_
 rintro _ w ⟨_, rfl, v1, rfl, hx, hs1⟩
 have hs1 := hs1.s
 obtain ⟨p1, c1, rfl⟩ := hs1.shape
 exact k w p1 c1 hx hs1
theorem ResE.mono {f : Nat} {args : Array Value} {W : World} {x : Wt} {o : List Hop3} {r : Int} {Q : Ending → World → Prop} (h : Calls Tryz.prog f args W (fun e w' => ∃ u, e = .returned u ∧ ResE W w' u (x, o, r)))
  (k : ∀ (w' : World) (p : Option Addr) (c : Nat) (v : Value), Ext W w' → SLv w' (.slice p (iv x.asked).length c) (iv x.asked) → HR w' v o → Q (.returned (.tuple #[.agg #[.string x.a.h, .int .i64 x.a.p, .string x.b.h, .int .i64 x.b.p, .int .i64 x.now, .int .i64 x.nxt, .int .i64 x.til, .int .i64 x.ser, .bool x.gone, .string x.noise, .string x.word, .string x.fresh, .slice p (iv x.asked).length c], v, .int .i64 r])) w') : Calls Tryz.prog f args W Q := by
 refine Calls.mono h ?_
 rintro _ w ⟨_, rfl, v1, r1, rfl, hx, hs1, hr1⟩
 have hs1 := hs1.s
 obtain ⟨p1, c1, rfl⟩ := hs1.shape
 exact k w p1 c1 r1 hx hs1 hr1.s
set_option maxHeartbeats 8000000
def adW (k : UInt8) : Ad := ⟨⟨#[10, 0, 0, k]⟩, 1⟩
def wk1 : Wt := ⟨adW 1, adW 2, 0, 4000, 30000, 0, false, ⟨#[0, 128]⟩, (⟨#[97, 98, 99, 100]⟩ : ByteArray), ⟨#[]⟩, []⟩
def wk3 : Wt := ⟨adW 1, adW 2, 4000, 9000, 30000, 1, false, ⟨#[0, 128]⟩, (⟨#[97, 98, 99, 100]⟩ : ByteArray), ⟨#[]⟩, [0]⟩
def wk4 : Wt := ⟨adW 1, adW 2, 4100, 9000, 34100, 1, false, ⟨#[0, 128]⟩, (⟨#[97, 98, 99, 100]⟩ : ByteArray), ⟨#[]⟩, []⟩
def wk5 : Wt := ⟨adW 1, adW 2, 10, 4000, 30000, 0, false, ⟨#[0, 128]⟩, (⟨#[97, 98, 99, 100]⟩ : ByteArray), (⟨#[101, 102, 103, 104]⟩ : ByteArray), []⟩
def wk6 : Wt := ⟨adW 3, adW 2, 20, 4000, 30020, 0, false, ⟨#[0, 128]⟩, (⟨#[101, 102, 103, 104]⟩ : ByteArray), ⟨#[]⟩, []⟩
theorem wk_new : newE (adW 1) (adW 2) (⟨#[97, 98, 99, 100]⟩ : ByteArray) ⟨#[0, 128]⟩ 0 = (wk1, 0) := by kernel_rfl
theorem wk_wake : wakeW wk1 = (4000, 0) := by kernel_rfl
theorem wk_time : timeE wk1 4000 = (wk3, [(adW 1, adW 2, askP 0)], 0) := by kernel_rfl
theorem wk_hear : hearE wk3 4100 (adW 2, adW 1, p2 0 (adW 1)) = (wk4, [], 0) := by kernel_rfl
theorem wk_rest : restE wk1 10 (⟨#[101, 102, 103, 104]⟩ : ByteArray) = (wk5, 0) := by kernel_rfl
theorem wk_sw : swE wk5 20 (adW 3) (adW 2) = (wk6, 0) := by kernel_rfl
theorem wk_chk : chkW wk1 = 0 := by kernel_rfl
theorem wk_chk0 : chkW zW = 120 := by kernel_rfl
theorem adW_ok (k : UInt8) : (adW k).Ok := end_ok _ _ (Nat.le_refl 4) (by decide)
theorem addr_1 : PureF Tryz.prog 33 #[.int .u8 1] (.agg #[.string ⟨#[10, 0, 0, 1]⟩, .int .i64 1]) := addr_p 1
theorem addr_2 : PureF Tryz.prog 33 #[.int .u8 2] (.agg #[.string ⟨#[10, 0, 0, 2]⟩, .int .i64 1]) := addr_p 2
theorem addr_3 : PureF Tryz.prog 33 #[.int .u8 3] (.agg #[.string ⟨#[10, 0, 0, 3]⟩, .int .i64 1]) := addr_p 3
theorem sample_p : PureF Tryz.prog 32 #[] (.tuple #[.agg (wk1.c (.slice none 0 0)).toArray, .int .i64 0]) := by
 have hN := fun {W : World} => New_c (W := W) (adW 1).h (adW 2).h (adW 1).p (adW 2).p (⟨#[97, 98, 99, 100]⟩ : ByteArray) ⟨#[0, 128]⟩ 0 (adW_ok 1) (adW_ok 2) (by unfold SzS maxLen; decide) (by unfold SzS maxLen; decide)
 have e : newE ⟨(adW 1).h, (adW 1).p⟩ ⟨(adW 2).h, (adW 2).p⟩ (⟨#[97, 98, 99, 100]⟩ : ByteArray) ⟨#[0, 128]⟩ 0 = (wk1, 0) := wk_new
 rw [e] at hN
 first | refine v_pure TTok FFok Tryz.func32 rfl rfl fun w0 => ?_ | refine v_pure (args := []) TTok FFok Tryz.func32 rfl rfl fun w0 => ?_
 conv => whnf
 refine VSeq.mk fun Kq hKq => ?_
 conv => whnf
 have hp := Hp.nil w0
 (refine hp.kalloc z34 fun al34 w hp hx => ?_; conv => whnf)
 (refine hKq _ _ _ (.refl _) ?_; clear hKq Kq; conv => whnf)
 (refine VSeq.mk fun Kq hKq => ?_; conv => whnf)
 (refine V.CallW.out ?_; (conv => arg 3; dsimp only [EV.val, List.toList_toArray, List.nil_append, List.append_nil, List.cons_append]); refine V.PureF.useW (addr_1) fun w hx => ?_; try (have hp := hp.call hx); conv => whnf)
 (refine V.CallW.out ?_; (conv => arg 3; dsimp only [EV.val, List.toList_toArray, List.nil_append, List.append_nil, List.cons_append]); refine V.PureF.useW (addr_2) fun w hx => ?_; try (have hp := hp.call hx); conv => whnf)
 (refine ⟨_, _, bld31_0_1 _ _ _ _ _, ?_⟩; conv => whnf)
 refine V.CallsUse hN fun w hx => ?_
 have hp := hp.call hx
 conv => whnf
 clear hN
 (refine hp.kstA TTok rfl 0 rfl rfl (oneC_of rfl) (by rfl) fun w hp => ?_; try simp only [List.set_cons_zero, List.set_cons_succ, EV.val] at hp; conv => whnf)
 (refine hKq _ _ _ (.refl _) ?_; clear hKq Kq; conv => whnf)
 (refine ⟨_, Blk.lvN (hp.get (i := 0) rfl) TTok rfl rfl, ?_⟩; conv => whnf)
 (exact ⟨rfl, hp.ext⟩)
theorem HEq_c {W : World} {v u : Value} (h : Hop3) (hh : h.1.Ok ∧ h.2.1.Ok ∧ h.2.2.Ok) (hv : HR W v [h]) (hu : HR W u [h]) :
  Calls Tryz.prog 34 #[v, u] W fun e w' => e = .returned (.bool true) ∧ Ext W w' := by
 rcases hv with ⟨hx, _⟩ | ⟨h1, g, c, e1, rfl, hc⟩
 ·simp at hx
 ·rcases hu with ⟨hx, _⟩ | ⟨h2, g2, c2, e2, rfl, hc2⟩
  ·simp at hx
  ·obtain rfl : h = h1 := by simpa using e1
   obtain rfl : h = h2 := by simpa using e2
   have pe := fun w xo yo => hop_eq w h hh xo yo
   refine v_reads (args := [.slice (some ⟨g, 0, none⟩) 1 c, .slice (some ⟨g2, 0, none⟩) 1 c2]) TTok FFok Tryz.func34 rfl rfl ?_
   conv => whnf
   refine VSeq.mk fun Kq hKq => ?_
   conv => whnf
   refine hKq _ _ _ (.refl _) ?_
   clear hKq Kq
   conv => whnf
   refine VSeq.mk fun Kq hKq => ?_
   conv => whnf
   refine VSeq.mk fun Kq hKq => ?_
   conv => whnf
   refine hKq _ _ _ (.refl _) ?_
   clear hKq Kq
   conv => whnf
   have hp := Hp.nil W
   (refine And.intro (fun h => absurd (of_decide_eq_true h) (by first | (intro h2; exact absurd rfl h2) | omega | decide)) (fun _ => ?_); conv => whnf)
   (refine hKq _ _ _ (.refl _) ?_; clear hKq Kq; conv => whnf)
   (refine VSeq.mk fun Kq hKq => ?_; conv => whnf)
   (refine VSeq.mk fun Kq hKq => ?_; conv => whnf)
   (refine hKq _ _ _ (.refl _) ?_; clear hKq Kq; conv => whnf)
   refine ⟨fun mm e w' => ∃ (i : Nat), mm + i = 1 ∧ e = [(0, .v (.slice (some ⟨g, 0, none⟩) 1 c)), (1, .v (.slice (some ⟨g2, 0, none⟩) 1 c2)), (12, .v (.int .i64 1)), (13, .v (.int .i64 i))] ∧ HpM [] W w' [], ⟨1, _, ⟨0, rfl, rfl, hp⟩, sub_cons rfl (sub_cons rfl (sub_cons rfl (sub_cons rfl sub_nil)))⟩, ?_⟩
   rintro mm _ w ⟨i, hmm, rfl, hp⟩
   conv => whnf
   refine VSeq.mk fun Kq hKq => ?_
   conv => whnf
   refine hKq _ _ _ (.refl _) ?_
   clear hKq Kq
   conv => whnf
   refine VSeq.mk fun Kq hKq => ?_
   conv => whnf
   refine ⟨fun hlt => ?_, fun hlt => ?_⟩
   ·have hlt := of_decide_eq_true hlt
    conv => whnf
    refine hKq _ _ _ (.refl _) ?_
    clear hKq Kq
    conv => whnf
    refine VSeq.mk fun Kq hKq => ?_
    conv => whnf
    refine VSeq.mk fun Kq hKq => ?_
    conv => whnf
    refine hKq _ _ _ (.refl _) ?_
    clear hKq Kq
    conv => whnf
    refine VSeq.mk fun Kq hKq => ?_
    conv => whnf
    obtain rfl : i = 0 := by omega
    skip
    refine v_mixA TTok FFok mixed [(0, false), (1, false), (2, false), (3, false), (4, false), (5, false), (6, false), (7, false), (8, false)] (by kernel_rfl) ?_
    conv => whnf
    (refine ⟨_, ⟨rfl, by omega⟩, ?_⟩; conv => whnf)
    refine ⟨_, fun w' hx' => run_ldN TTok rfl (n := 12) rfl fun j v hj => (by rw [show addM 0 0 12 + j = j by simp [addM]]; exact (hp.ext.trans hx').cell (hc j v hj)), ?_⟩
    conv => whnf
    (refine ⟨_, ⟨rfl, by omega⟩, ?_⟩; conv => whnf)
    refine ⟨_, fun w' hx' => run_ldN TTok rfl (n := 12) rfl fun j v hj => (by rw [show addM 0 0 12 + j = j by simp [addM]]; exact (hp.ext.trans hx').cell (hc2 j v hj)), ?_⟩
    conv => whnf
    skip
    refine ⟨_, fun w' _ => pe w' _ _, ?_⟩
    conv => whnf
    (intro w hx; try (have hp := hp.call hx); conv => whnf)
    (refine hKq _ _ _ (.refl _) ?_; clear hKq Kq; conv => whnf)
    (refine And.intro (fun h => absurd h (by decide)) (fun _ => ?_); conv => whnf)
    (refine hKq _ _ _ (.refl _) ?_; clear hKq Kq; conv => whnf)
    (refine Or.inl (And.intro (by first | omega | decide) ?_); conv => whnf)
    exact ⟨mm - 1, _, by omega, ⟨1, by omega, rfl, hp⟩, sub_cons rfl (sub_cons rfl (sub_cons rfl (sub_cons rfl sub_nil)))⟩
   ·have hlt := of_decide_eq_false hlt
    conv => whnf
    clear hKq Kq
    refine hKq _ _ _ (.refl _) ?_
    clear hKq Kq
    conv => whnf
    refine VSeq.mk fun Kq hKq => ?_
    conv => whnf
    refine hKq _ _ _ (.refl _) ?_
    clear hKq Kq
    conv => whnf
    (exact ⟨rfl, hp.ext⟩)
end Go.Proofs.YtgkhcgiggjijlaaGreat
