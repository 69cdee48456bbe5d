/- Chapter 12: plain laws of what stays. -/
/- Chapter 12: slices.Contains over numbers. -/
/- Chapter 12: tools for the laws over events: slices cut, results. -/
/- Chapter 12: the layer does something. -/
/- Chapter 12: the layer does something, walked. -/
import Derived.Test.YtgkhcgiggjijlaaGreatGS12
import Derived.Test.YtgkhcgiggjijlaaGreatGS08
namespace Go.Proofs.YtgkhcgiggjijlaaGreat
set_option linter.unusedSimpArgs false
set_option linter.unusedVariables false
set_option maxRecDepth 100000
open Go.RowKit V
set_option maxHeartbeats 1600000
theorem hearW_til (x : Wt) (now : Int) (h : Hop3) : (hearW x now h).1.til = x.til ∨ (h.2.2.k = 2 ∧ h.2.2.id ∈ x.asked ∧ (hearW x now h).1.til = now + 30000) := by
 obtain ⟨_, _, _, _, h5, _⟩ := atW_same x now
 unfold hearW
 dsimp only
 split
 ·exact .inl h5
 ·rename_i hg
  split
  ·exact .inl h5
  ·split
   ·rename_i hk
    split
    ·rename_i r hr
     refine .inr ⟨hk, ?_, rfl⟩
     have := (afterL_sub hr).2
     have hl := atW_live (x := x) (now := now) (by cases hq : (atW x now).gone with
      | false => rfl
      | true => exact absurd hq hg)
     rw [hl.1] at this
     exact this
    ·exact .inl h5
   ·exact .inl h5
theorem hearW_out (x : Wt) (now : Int) (h : Hop3) : (hearW x now h).2.length ≤ 1 ∧ ((hearW x now h).1.gone = true → (hearW x now h).2 = []) := by
 unfold hearW
 dsimp only
 split
 ·exact ⟨Nat.zero_le _, fun _ => rfl⟩
 ·rename_i hg
  split
  ·exact ⟨Nat.le_refl 1, fun h => absurd h hg⟩
  ·split
   ·split
    ·exact ⟨Nat.zero_le _, fun _ => rfl⟩
    ·exact ⟨Nat.zero_le _, fun _ => rfl⟩
   ·exact ⟨Nat.zero_le _, fun _ => rfl⟩
theorem timeW_same (x : Wt) (now : Int) : (timeW x now).1.now = now ∧ (timeW x now).1.til = x.til ∧ (timeW x now).1.noise = x.noise ∧ (timeW x now).1.gone = (x.gone || decide (x.til ≤ now)) ∧ ((timeW x now).1.ser = x.ser ∨ (timeW x now).1.ser = x.ser + 1) := by
 obtain ⟨_, _, h3, _, h5, h6, h7, _, h9⟩ := atW_same x now
 unfold timeW
 split
 ·exact ⟨h3, h5, h7, h9, .inr (congrArg (· + 1) h6)⟩
 ·exact ⟨h3, h5, h7, h9, .inl h6⟩
theorem timeW_out (x : Wt) (now : Int) : (timeW x now).2.length ≤ 1 ∧ ((timeW x now).1.gone = true → (timeW x now).2 = []) := by
 unfold timeW
 split
 ·rename_i h
  refine ⟨Nat.le_refl 1, fun hg => ?_⟩
  unfold asksB at h
  have hg : (atW x now).gone = true := hg
  rw [hg, Bool.not_true, Bool.false_and] at h
  cases h
 ·exact ⟨Nat.zero_le _, fun _ => rfl⟩
/-- a watch of the law ConsentStays behind i steps -/
structure Sy (i : Nat) (y : Wt) : Prop where
 v : Wv y
 s : Ws y
 now : y.now ≤ 300000 + 9000 * (i : Int)
theorem Sy.ok {i : Nat} {y : Wt} (h : Sy i y) : y.Ok := h.s.ok h.v
theorem Dr.sy {B : Nat} {y : Wt} (h : Dr B y) (hB : B ≤ 30) : Sy 0 y := ⟨h.v, h.s, by have := h.now; omega⟩
theorem Sy.more {i j : Nat} {y : Wt} (h : Sy i y) (hj : i ≤ j) : Sy j y := ⟨h.v, h.s, by have := h.now; omega⟩
/-- what a step that is no error does -/
structure StayR (i : Nat) (y v : Wt) (t : Int) (o : List Hop3) (lg : Prop) : Prop where
 sy : Sy (i + 1) v
 now : v.now = t
 ser : v.ser = y.ser ∨ v.ser = y.ser + 1
 gone : v.gone = (y.gone || decide (y.til ≤ t))
 noise : v.noise = y.noise
 len : o.length ≤ 1
 til : v.til = y.til ∨ (lg ∧ v.til = t + 30000)
 out : v.gone = true → o = []
section
variable {i : Nat} {y : Wt} {now : Int} (h : Sy i y) (hi : i ≤ 1000) (h1 : y.now ≤ now) (h2 : now ≤ y.now + 8999)
include h hi h1 h2
theorem Sy.le : now ≤ 1099511627776 := by have := h.now; omega
theorem Sy.st : startN y now = 0 := startN_of (wtB_iff.2 h.v) (inB_of h1 (h.le hi h1 h2))
theorem Sy.time : ∃ v o, timeE y now = (v, o, 0) ∧ StayR i y v now o False := by
 have hn := h.now
 obtain ⟨e1, e2, e3, e4, e5⟩ := timeW_same y now
 obtain ⟨k1, k2⟩ := timeW_out y now
 refine ⟨_, _, by unfold timeE; rw [if_pos (h.st hi h1 h2)], ⟨⟨timeW_v h.v h1 (h.le hi h1 h2), timeW_s h.s, by rw [e1]; omega⟩, e1, e5, e4, e3, k1, .inl e2, k2⟩⟩
theorem Sy.hear (x : Ev) (hx : x.Ok) : ∃ v o, hearE y now (y.b, y.a, prE x y) = (v, o, 0) ∧ StayR i y v now o ((prE x y).k = 2 ∧ (prE x y).id ∈ y.asked) := by
 have hn := h.now
 obtain ⟨e1, _, e3, e4, e5⟩ := hearW_same y now (y.b, y.a, prE x y)
 obtain ⟨k1, k2⟩ := hearW_out y now (y.b, y.a, prE x y)
 refine ⟨_, _, by unfold hearE; rw [if_neg (fun k => k (h.st hi h1 h2)), if_neg (by rw [prE_valid hx h.v]; decide), if_neg (fun k => k ⟨rfl, rfl⟩)], ⟨⟨hearW_v h.v h1 (h.le hi h1 h2), hearW_s h.s, by rw [e1]; omega⟩, e1, .inl e3, e5, e4, k1, ?_, k2⟩⟩
 rcases hearW_til y now (y.b, y.a, prE x y) with h3 | ⟨h3, h4, h5⟩
 ·exact .inl h3
 ·exact .inr ⟨⟨h3, h4⟩, h5⟩
theorem Sy.rest (s : ByteArray) (hs : SzS s) : ∃ v e, restE y now s = (v, e) ∧ ((e = 0 ∧ StayR i y v now [] False) ∨ (e ≠ 0 ∧ v.Ok ∧ (e = 8 → y.til ≤ now ∨ y.gone = true))) := by
 have hn := h.now
 have hok := restE_ok h.ok now hs
 refine ⟨(restE y now s).1, (restE y now s).2, rfl, ?_⟩
 unfold restE at hok ⊢
 rw [if_pos (h.st hi h1 h2)] at hok ⊢
 by_cases he : (restW y now s).2 = 0
 ·obtain ⟨e1, _, e3, e4, e5, e6⟩ := restW_same he
  exact .inl ⟨he, ⟨restW_v h.v h1 (h.le hi h1 h2) he, restW_s h.s hs, by rw [e1]; omega⟩, e1, .inl e3, e5, e4, Nat.zero_le _, .inl e6, fun _ => rfl⟩
 ·refine .inr ⟨he, hok, fun h8 => ?_⟩
  unfold restW at h8
  dsimp only at h8
  split at h8
  ·rename_i hg
   rw [(atW_same y now).2.2.2.2.2.2.2.2] at hg
   rcases Bool.or_eq_true_iff.1 hg with hg | hg
   ·exact .inr hg
   ·exact .inl (of_decide_eq_true hg)
  ·split at h8
   ·cases h8
   ·cases h8
theorem Sy.sw (a b : Ad) (ha : a.Ok) (hb : b.Ok) : ∃ v e, swE y now a b = (v, e) ∧ ((e = 0 ∧ StayR i y v now [] True ∧ v.til = now + 30000) ∨ (e ≠ 0 ∧ v.Ok ∧ (e = 8 → y.til ≤ now ∨ y.gone = true))) := by
 have hn := h.now
 have hok := swE_ok h.ok now ha hb
 refine ⟨(swE y now a b).1, (swE y now a b).2, rfl, ?_⟩
 unfold swE at hok ⊢
 rw [if_pos (h.st hi h1 h2)] at hok ⊢
 by_cases he : (swW y now a b).2 = 0
 ·obtain ⟨e1, _, e3, e4, e5, e6⟩ := swW_same he
  exact .inl ⟨he, ⟨⟨swW_v h.v h1 (h.le hi h1 h2) he, swW_s h.s ha hb, by rw [e1]; omega⟩, e1, .inl e3, e5, e4, Nat.zero_le _, .inr ⟨trivial, e6⟩, fun _ => rfl⟩, e6⟩
 ·refine .inr ⟨he, hok, fun h8 => ?_⟩
  unfold swW at h8
  dsimp only at h8
  split at h8
  ·rename_i hg
   rw [(atW_same y now).2.2.2.2.2.2.2.2] at hg
   rcases Bool.or_eq_true_iff.1 hg with hg | hg
   ·exact .inr hg
   ·exact .inl (of_decide_eq_true hg)
  ·split at h8
   ·cases h8
   ·cases h8
end
set_option maxHeartbeats 1600000
theorem idxJ_mem {k : Int} {al : List Int} : 0 ≤ idxJ k al ↔ k ∈ al := by
 unfold idxJ
 cases h : al.findIdx? (isB k) with
 | none =>
  constructor
  ·intro h1; exact absurd h1 (by decide)
  ·intro hm
   have := List.findIdx?_eq_none_iff.1 h k hm
   unfold isB at this
   rw [decide_eq_true rfl] at this
   cases this
 | some i =>
  constructor
  ·intro _
   obtain ⟨hlt, hb, _⟩ := List.findIdx?_eq_some_iff_getElem.1 h
   have := of_decide_eq_true hb
   rw [← this]; exact List.getElem_mem hlt
  ·intro _; exact Int.natCast_nonneg i
theorem Idx_c {W : World} {v : Value} {al : List Int} (k : Int) (hml : al.length ≤ maxLen) (hv : SLv W v (iv al)) :
  Calls Tryz.prog 55 #[v, .int .i64 k] W fun e w' => e = .returned (.int .i64 (idxJ k al)) ∧ Ext W w' := by
 have hsl : (iv al).length = al.length := List.length_map _
 unfold maxLen at hml
 obtain ⟨p, c, rfl⟩ := hv.shape
 rw [hsl] at hv ⊢
 refine v_reads (args := [.slice p al.length c, .int .i64 k]) TTok FFok Tryz.func55 rfl rfl ?_
 conv => whnf
 refine VSeq.mk fun Kq hKq => ?_
 conv => whnf
 refine hKq _ _ _ (.refl _) ?_
 clear hKq Kq
 conv => whnf
 refine VSeq.mk fun Kq hKq => ?_
 conv => whnf
 refine VSeq.mk fun Kq hKq => ?_
 conv => whnf
 refine hKq _ _ _ (.refl _) ?_
 clear hKq Kq
 conv => whnf
 have hp := Hp.nil W
 skip
 refine ⟨fun mm e w' => ∃ (i : Nat), mm + i = al.length ∧ e = [(0, .v (.slice p al.length c)), (1, .v (.int .i64 k)), (7, .v (.int .i64 al.length)), (8, .v (.int .i64 i))] ∧ (∀ b ∈ al.take i, isB k b = false) ∧ HpM [] W w' [],
  ⟨al.length, _, ⟨0, by omega, rfl, by simp, hp⟩, sub_cons rfl (sub_cons rfl (sub_cons rfl (sub_cons rfl sub_nil)))⟩, ?_⟩
 clear hp
 repeat clear hp
 rintro mm _ w ⟨i, hmm, rfl, hn, hp⟩
 conv => whnf
 refine VSeq.mk fun Kq hKq => ?_
 conv => whnf
 refine hKq _ _ _ (.refl _) ?_
 clear hKq Kq
 conv => whnf
 refine VSeq.mk fun Kq hKq => ?_
 conv => whnf
 skip
 refine ⟨fun hlt => ?_, fun hlt => ?_⟩
 ·have hlt := of_decide_eq_true hlt
  conv => whnf
  refine hKq _ _ _ (.refl _) ?_
  clear hKq Kq
  conv => whnf
  refine VSeq.mk fun Kq hKq => ?_
  conv => whnf
  refine VSeq.mk fun Kq hKq => ?_
  conv => whnf
  refine hKq _ _ _ (.refl _) ?_
  clear hKq Kq
  conv => whnf
  refine VSeq.mk fun Kq hKq => ?_
  conv => whnf
  obtain ⟨a, ha⟩ : ∃ a, al[i]? = some a := ⟨al[i]'(by omega), List.getElem?_eq_getElem (by omega)⟩
  obtain ⟨g, off, rfl, hld⟩ := (hv.ext hp.ext).at (j := i) (x := .int .i64 a) (by rw [List.getElem?_map, ha]; rfl)
  rw [Nat.add_comm] at hld
  skip
  refine ⟨i, ⟨by first | rfl | omega, by show i < al.length; omega⟩, ?_⟩
  conv => whnf
  refine ⟨_, _, run_ld TTok rfl hld, ?_⟩
  conv => whnf
  refine hKq _ _ _ (.refl _) ?_
  clear hKq Kq
  conv => whnf
  skip
  refine ⟨fun hq => ?_, fun hq => ?_⟩
  ·have hq := of_decide_eq_true hq
   conv => whnf
   refine VSeq.mk fun Kq hKq => ?_
   conv => whnf
   refine hKq _ _ _ (.refl _) ?_
   clear hKq Kq
   conv => whnf
   have hb : isB k a = true := decide_eq_true hq.symm
   have hI := idxJ_hit ha hb hn
   skip
   exact ⟨by rw [hI]; rfl, hp.ext⟩
  ·have hq := of_decide_eq_false hq
   conv => whnf
   refine hKq _ _ _ (.refl _) ?_
   clear hKq Kq
   conv => whnf
   refine Or.inl (And.intro (by omega) ?_)
   conv => whnf
   have hb : isB k a = false := decide_eq_false (fun e => hq e.symm)
   skip
   refine ⟨mm - 1, _, by omega, ⟨i + 1, by omega, rfl, fun b hbm => ?_, hp⟩, sub_cons rfl (sub_cons rfl (sub_cons rfl (sub_cons rfl sub_nil)))⟩
   rw [List.take_add_one, ha] at hbm
   rcases List.mem_append.1 hbm with h | h
   ·exact hn b h
   ·have : b = a := by simpa using h
    rw [this]; exact hb
 ·have hlt := of_decide_eq_false hlt
  conv => whnf
  clear hKq Kq
  refine hKq _ _ _ (.refl _) ?_
  clear hKq Kq
  conv => whnf
  refine VSeq.mk fun Kq hKq => ?_
  conv => whnf
  refine hKq _ _ _ (.refl _) ?_
  clear hKq Kq
  conv => whnf
  obtain rfl : i = al.length := by omega
  rw [List.take_of_length_le (Nat.le_refl _)] at hn
  have hI := idxJ_miss hn
  skip
  exact ⟨by rw [hI]; rfl, hp.ext⟩
theorem Contains_c {W : World} {v : Value} {al : List Int} (k : Int) (hml : al.length ≤ maxLen) (hv : SLv W v (iv al)) :
  Calls Tryz.prog 31 #[v, .int .i64 k] W fun e w' => e = .returned (.bool (decide (k ∈ al))) ∧ Ext W w' := by
 have s1 := fun {W : World} hv => Idx_c (W := W) (v := v) k hml hv
 have hm := @idxJ_mem k al
 obtain ⟨p, c, rfl⟩ := hv.shape
 obtain ⟨J, hJ⟩ : ∃ J, idxJ k al = J := ⟨_, rfl⟩
 rw [hJ] at s1 hm
 clear hJ
 have e : decide (k ∈ al) = decide (0 ≤ J) := by
  by_cases h : k ∈ al
  ·rw [decide_eq_true h, decide_eq_true (hm.2 h)]
  ·rw [decide_eq_false h, decide_eq_false (fun h2 => h (hm.1 h2))]
 rw [e]
 clear hm e
 refine v_reads (args := [.slice p (iv al).length c, .int .i64 k]) TTok FFok Tryz.func31 rfl rfl ?_
 conv => whnf
 refine VSeq.mk fun Kq hKq => ?_
 conv => whnf
 refine hKq _ _ _ (.refl _) ?_
 clear hKq Kq
 conv => whnf
 refine VSeq.mk fun Kq hKq => ?_
 conv => whnf
 have hp := Hp.nil W
 skip
 refine V.CallsUse (s1 (hv.ext hp.ext)) fun w hx => ?_
 have hp := hp.call hx
 conv => whnf
 (refine hKq _ _ _ (.refl _) ?_; clear hKq Kq; conv => whnf)
 exact ⟨rfl, hp.ext⟩
set_option maxHeartbeats 1600000
theorem SLn_hi {P : Program} {T : Tab} (hT : tabOk P T = true) {t el n1 sz : Nat} {kd : TK} (ht : tfind T t = some ⟨.slice el, n1⟩) (he : tfind T el = some ⟨kd, sz⟩) {w : World} {v : Value} {xs : List (List Value)} (h : SLn w sz v xs) (b : Nat) (hb : b ≤ xs.length) :
  ∃ v', (∀ (k : IntKind) (w' : World), (Instr.sliceAt t v none (some (.int k (b : Int))) none).run P w' = .ok v' w') ∧ SLn w sz v' (xs.take b) := by
 have key : ∀ a c, v = .slice a 0 c → xs = [] → ∃ v', (∀ (k : IntKind) (w' : World), (Instr.sliceAt t v none (some (.int k (b : Int))) none).run P w' = .ok v' w') ∧ SLn w sz v' (xs.take b) := by
  rintro a c rfl rfl
  have : b = 0 := by simpa using hb
  subst this
  refine ⟨.slice a 0 c, fun k w' => ?_, .inr (.inl ⟨_, _, rfl, rfl⟩)⟩
  simp only [Instr.sliceAt, Instr.slice, Instr.sliceBounds, Sem.run_bind, Sem.run_pure, V.run_underlying (tab_slice hT ht), Result.andThen]
  rw [run_bound (P := P) (Nat.zero_le _)]
  simp only [Result.andThen, Sem.run_pure, tab_size hT he]
  cases a <;> simp [Addr.add]
 rcases h with ⟨rfl, rfl⟩ | ⟨a, c, rfl, rfl⟩ | ⟨g, off, c, rfl, hl, hm, hc⟩
 ·exact key _ _ rfl rfl
 ·exact key _ _ rfl rfl
 ·refine ⟨_, fun k w' => run_slice_hi hT ht he b (by omega), ?_⟩
  have hl : (xs.take b).length = b := by rw [List.length_take]; omega
  exact .inr (.inr ⟨g, off, c, by rw [hl], by omega, hm, fun j x hj => hc j x (by
   rw [List.getElem?_take] at hj; split at hj
   ·exact hj
   ·cases hj)⟩)
theorem ResW.monoW {f : Nat} {args : Array Value} {W : World} {x : Wt} {r : Int} {Q : Ending → World → Prop} (h : Calls Tryz.prog f args W (fun e w' => ∃ u, e = .returned u ∧ ResW W w' u x r))
  (k : ∀ (w' : World) (p : Option Addr) (c : Nat), Ext W w' → SLw W w' (.slice p (iv x.asked).length c) (iv x.asked) → Q (.returned (.tuple #[.agg #[.string x.a.h, .int .i64 x.a.p, .string x.b.h, .int .i64 x.b.p, .int .i64 x.now, .int .i64 x.nxt, .int .i64 x.til, .int .i64 x.ser, .bool x.gone, .string x.noise, .string x.word, .string x.fresh, .slice p (iv x.asked).length c], .int .i64 r])) w') : Calls Tryz.prog f args W Q := by
 refine Calls.mono h ?_
 rintro _ w ⟨_, rfl, v1, rfl, hx, hs1⟩
 obtain ⟨p1, c1, rfl⟩ := hs1.shape
 exact k w p1 c1 hx hs1
theorem ResE.monoW {f : Nat} {args : Array Value} {W : World} {x : Wt} {o : List Hop3} {r : Int} {Q : Ending → World → Prop} (h : Calls Tryz.prog f args W (fun e w' => ∃ u, e = .returned u ∧ ResE W w' u (x, o, r)))
  (k : ∀ (w' : World) (p : Option Addr) (c : Nat) (p2 : Option Addr) (c2 : Nat), Ext W w' → SLw W w' (.slice p (iv x.asked).length c) (iv x.asked) → HRw W w' (.slice p2 o.length c2) o → Q (.returned (.tuple #[.agg #[.string x.a.h, .int .i64 x.a.p, .string x.b.h, .int .i64 x.b.p, .int .i64 x.now, .int .i64 x.nxt, .int .i64 x.til, .int .i64 x.ser, .bool x.gone, .string x.noise, .string x.word, .string x.fresh, .slice p (iv x.asked).length c], .slice p2 o.length c2, .int .i64 r])) w') : Calls Tryz.prog f args W Q := by
 refine Calls.mono h ?_
 rintro _ w ⟨_, rfl, v1, r1, rfl, hx, hs1, hr1⟩
 obtain ⟨p1, c1, rfl⟩ := hs1.shape
 obtain ⟨p2, c2, rfl⟩ := hr1.s.shape
 exact k w p1 c1 p2 c2 hx hs1 hr1
theorem StayR.lg {i : Nat} {y v : Wt} {t : Int} {o : List Hop3} {P Q : Prop} (h : StayR i y v t o P) (hq : P → Q) : StayR i y v t o Q :=
 ⟨h.sy, h.now, h.ser, h.gone, h.noise, h.len, h.til.imp id (fun k => ⟨hq k.1, k.2⟩), h.out⟩
theorem chkW_of {v : Wt} (h : Wv v) : chkW v = 0 := by unfold chkW; rw [wtB_iff.2 h]; rfl
set_option maxHeartbeats 8000000
def adW (k : UInt8) : Ad := ⟨⟨#[10, 0, 0, k]⟩, 1⟩
def wk1 : Wt := ⟨adW 1, adW 2, 0, 4000, 30000, 0, false, ⟨#[0, 128]⟩, (⟨#[97, 98, 99, 100]⟩ : ByteArray), ⟨#[]⟩, []⟩
def wk3 : Wt := ⟨adW 1, adW 2, 4000, 9000, 30000, 1, false, ⟨#[0, 128]⟩, (⟨#[97, 98, 99, 100]⟩ : ByteArray), ⟨#[]⟩, [0]⟩
def wk4 : Wt := ⟨adW 1, adW 2, 4100, 9000, 34100, 1, false, ⟨#[0, 128]⟩, (⟨#[97, 98, 99, 100]⟩ : ByteArray), ⟨#[]⟩, []⟩
def wk5 : Wt := ⟨adW 1, adW 2, 10, 4000, 30000, 0, false, ⟨#[0, 128]⟩, (⟨#[97, 98, 99, 100]⟩ : ByteArray), (⟨#[101, 102, 103, 104]⟩ : ByteArray), []⟩
def wk6 : Wt := ⟨adW 3, adW 2, 20, 4000, 30020, 0, false, ⟨#[0, 128]⟩, (⟨#[101, 102, 103, 104]⟩ : ByteArray), ⟨#[]⟩, []⟩
theorem wk_new : newE (adW 1) (adW 2) (⟨#[97, 98, 99, 100]⟩ : ByteArray) ⟨#[0, 128]⟩ 0 = (wk1, 0) := by kernel_rfl
theorem wk_wake : wakeW wk1 = (4000, 0) := by kernel_rfl
theorem wk_time : timeE wk1 4000 = (wk3, [(adW 1, adW 2, askP 0)], 0) := by kernel_rfl
theorem wk_hear : hearE wk3 4100 (adW 2, adW 1, p2 0 (adW 1)) = (wk4, [], 0) := by kernel_rfl
theorem wk_rest : restE wk1 10 (⟨#[101, 102, 103, 104]⟩ : ByteArray) = (wk5, 0) := by kernel_rfl
theorem wk_sw : swE wk5 20 (adW 3) (adW 2) = (wk6, 0) := by kernel_rfl
theorem wk_chk : chkW wk1 = 0 := by kernel_rfl
theorem wk_chk0 : chkW zW = 120 := by kernel_rfl
theorem adW_ok (k : UInt8) : (adW k).Ok := end_ok _ _ (Nat.le_refl 4) (by decide)
theorem addr_1 : PureF Tryz.prog 33 #[.int .u8 1] (.agg #[.string ⟨#[10, 0, 0, 1]⟩, .int .i64 1]) := addr_p 1
theorem addr_2 : PureF Tryz.prog 33 #[.int .u8 2] (.agg #[.string ⟨#[10, 0, 0, 2]⟩, .int .i64 1]) := addr_p 2
theorem addr_3 : PureF Tryz.prog 33 #[.int .u8 3] (.agg #[.string ⟨#[10, 0, 0, 3]⟩, .int .i64 1]) := addr_p 3
theorem sample_p : PureF Tryz.prog 32 #[] (.tuple #[.agg (wk1.c (.slice none 0 0)).toArray, .int .i64 0]) := by
 have hN := fun {W : World} => New_c (W := W) (adW 1).h (adW 2).h (adW 1).p (adW 2).p (⟨#[97, 98, 99, 100]⟩ : ByteArray) ⟨#[0, 128]⟩ 0 (adW_ok 1) (adW_ok 2) (by unfold SzS maxLen; decide) (by unfold SzS maxLen; decide)
 have e : newE ⟨(adW 1).h, (adW 1).p⟩ ⟨(adW 2).h, (adW 2).p⟩ (⟨#[97, 98, 99, 100]⟩ : ByteArray) ⟨#[0, 128]⟩ 0 = (wk1, 0) := wk_new
 rw [e] at hN
 first | refine v_pure TTok FFok Tryz.func32 rfl rfl fun w0 => ?_ | refine v_pure (args := []) TTok FFok Tryz.func32 rfl rfl fun w0 => ?_
 conv => whnf
 refine VSeq.mk fun Kq hKq => ?_
 conv => whnf
 have hp := Hp.nil w0
 (refine hp.kalloc z34 fun al34 w hp hx => ?_; conv => whnf)
 (refine hKq _ _ _ (.refl _) ?_; clear hKq Kq; conv => whnf)
 (refine VSeq.mk fun Kq hKq => ?_; conv => whnf)
 (refine V.CallW.out ?_; (conv => arg 3; dsimp only [EV.val, List.toList_toArray, List.nil_append, List.append_nil, List.cons_append]); refine V.PureF.useW (addr_1) fun w hx => ?_; try (have hp := hp.call hx); conv => whnf)
 (refine V.CallW.out ?_; (conv => arg 3; dsimp only [EV.val, List.toList_toArray, List.nil_append, List.append_nil, List.cons_append]); refine V.PureF.useW (addr_2) fun w hx => ?_; try (have hp := hp.call hx); conv => whnf)
 (refine ⟨_, _, bld31_0_1 _ _ _ _ _, ?_⟩; conv => whnf)
 refine V.CallsUse hN fun w hx => ?_
 have hp := hp.call hx
 conv => whnf
 clear hN
 (refine hp.kstA TTok rfl 0 rfl rfl (oneC_of rfl) (by rfl) fun w hp => ?_; try simp only [List.set_cons_zero, List.set_cons_succ, EV.val] at hp; conv => whnf)
 (refine hKq _ _ _ (.refl _) ?_; clear hKq Kq; conv => whnf)
 (refine ⟨_, Blk.lvN (hp.get (i := 0) rfl) TTok rfl rfl, ?_⟩; conv => whnf)
 (exact ⟨rfl, hp.ext⟩)
theorem HEq_c {W : World} {v u : Value} (h : Hop3) (hh : h.1.Ok ∧ h.2.1.Ok ∧ h.2.2.Ok) (hv : HR W v [h]) (hu : HR W u [h]) :
  Calls Tryz.prog 34 #[v, u] W fun e w' => e = .returned (.bool true) ∧ Ext W w' := by
 rcases hv with ⟨hx, _⟩ | ⟨h1, g, c, e1, rfl, hc⟩
 ·simp at hx
 ·rcases hu with ⟨hx, _⟩ | ⟨h2, g2, c2, e2, rfl, hc2⟩
  ·simp at hx
  ·obtain rfl : h = h1 := by simpa using e1
   obtain rfl : h = h2 := by simpa using e2
   have pe := fun w xo yo => hop_eq w h hh xo yo
   refine v_reads (args := [.slice (some ⟨g, 0, none⟩) 1 c, .slice (some ⟨g2, 0, none⟩) 1 c2]) TTok FFok Tryz.func34 rfl rfl ?_
   conv => whnf
   refine VSeq.mk fun Kq hKq => ?_
   conv => whnf
   refine hKq _ _ _ (.refl _) ?_
   clear hKq Kq
   conv => whnf
   refine VSeq.mk fun Kq hKq => ?_
   conv => whnf
   refine VSeq.mk fun Kq hKq => ?_
   conv => whnf
   refine hKq _ _ _ (.refl _) ?_
   clear hKq Kq
   conv => whnf
   have hp := Hp.nil W
   (refine And.intro (fun h => absurd (of_decide_eq_true h) (by first | (intro h2; exact absurd rfl h2) | omega | decide)) (fun _ => ?_); conv => whnf)
   (refine hKq _ _ _ (.refl _) ?_; clear hKq Kq; conv => whnf)
   (refine VSeq.mk fun Kq hKq => ?_; conv => whnf)
   (refine VSeq.mk fun Kq hKq => ?_; conv => whnf)
   (refine hKq _ _ _ (.refl _) ?_; clear hKq Kq; conv => whnf)
   refine ⟨fun mm e w' => ∃ (i : Nat), mm + i = 1 ∧ e = [(0, .v (.slice (some ⟨g, 0, none⟩) 1 c)), (1, .v (.slice (some ⟨g2, 0, none⟩) 1 c2)), (12, .v (.int .i64 1)), (13, .v (.int .i64 i))] ∧ HpM [] W w' [], ⟨1, _, ⟨0, rfl, rfl, hp⟩, sub_cons rfl (sub_cons rfl (sub_cons rfl (sub_cons rfl sub_nil)))⟩, ?_⟩
   rintro mm _ w ⟨i, hmm, rfl, hp⟩
   conv => whnf
   refine VSeq.mk fun Kq hKq => ?_
   conv => whnf
   refine hKq _ _ _ (.refl _) ?_
   clear hKq Kq
   conv => whnf
   refine VSeq.mk fun Kq hKq => ?_
   conv => whnf
   refine ⟨fun hlt => ?_, fun hlt => ?_⟩
   ·have hlt := of_decide_eq_true hlt
    conv => whnf
    refine hKq _ _ _ (.refl _) ?_
    clear hKq Kq
    conv => whnf
    refine VSeq.mk fun Kq hKq => ?_
    conv => whnf
    refine VSeq.mk fun Kq hKq => ?_
    conv => whnf
    refine hKq _ _ _ (.refl _) ?_
    clear hKq Kq
    conv => whnf
    refine VSeq.mk fun Kq hKq => ?_
    conv => whnf
    obtain rfl : i = 0 := by omega
    skip
    refine v_mixA TTok FFok mixed [(0, false), (1, false), (2, false), (3, false), (4, false), (5, false), (6, false), (7, false), (8, false)] (by kernel_rfl) ?_
    conv => whnf
    (refine ⟨_, ⟨rfl, by omega⟩, ?_⟩; conv => whnf)
    refine ⟨_, fun w' hx' => run_ldN TTok rfl (n := 12) rfl fun j v hj => (by rw [show addM 0 0 12 + j = j by simp [addM]]; exact (hp.ext.trans hx').cell (hc j v hj)), ?_⟩
    conv => whnf
    (refine ⟨_, ⟨rfl, by omega⟩, ?_⟩; conv => whnf)
    refine ⟨_, fun w' hx' => run_ldN TTok rfl (n := 12) rfl fun j v hj => (by rw [show addM 0 0 12 + j = j by simp [addM]]; exact (hp.ext.trans hx').cell (hc2 j v hj)), ?_⟩
    conv => whnf
    skip
    refine ⟨_, fun w' _ => pe w' _ _, ?_⟩
    conv => whnf
    (intro w hx; try (have hp := hp.call hx); conv => whnf)
    (refine hKq _ _ _ (.refl _) ?_; clear hKq Kq; conv => whnf)
    (refine And.intro (fun h => absurd h (by decide)) (fun _ => ?_); conv => whnf)
    (refine hKq _ _ _ (.refl _) ?_; clear hKq Kq; conv => whnf)
    (refine Or.inl (And.intro (by first | omega | decide) ?_); conv => whnf)
    exact ⟨mm - 1, _, by omega, ⟨1, by omega, rfl, hp⟩, sub_cons rfl (sub_cons rfl (sub_cons rfl (sub_cons rfl sub_nil)))⟩
   ·have hlt := of_decide_eq_false hlt
    conv => whnf
    clear hKq Kq
    refine hKq _ _ _ (.refl _) ?_
    clear hKq Kq
    conv => whnf
    refine VSeq.mk fun Kq hKq => ?_
    conv => whnf
    refine hKq _ _ _ (.refl _) ?_
    clear hKq Kq
    conv => whnf
    (exact ⟨rfl, hp.ext⟩)
set_option maxHeartbeats 16000000
theorem wakes_p : PureF Tryz.prog 9 #[] (.bool true) := by
 have o1 : wk1.Ok := by have := newE_ok (adW_ok 1) (adW_ok 2) (word := (⟨#[97, 98, 99, 100]⟩ : ByteArray)) (noise := ⟨#[0, 128]⟩) (now := 0) (by unfold SzS maxLen; decide) (by unfold SzS maxLen; decide); rw [wk_new] at this; exact this
 have o3 : wk3.Ok := by have := timeE_ok o1 4000; rw [wk_time] at this; exact this
 have o5 : wk5.Ok := by have := restE_ok o1 10 (s := (⟨#[101, 102, 103, 104]⟩ : ByteArray)) (by unfold SzS maxLen; decide); rw [wk_rest] at this; exact this
 have hA : Prb.Ok (p2 0 (adW 1)) := p2_ok ⟨by decide, by decide⟩ (adW_ok 1)
 have s2 := fun {W : World} {v : Value} hv => Wake12_c (W := W) (v := v) wk1 o1 hv
 have s3 := fun {W : World} {v : Value} hv => TimeE_c (W := W) (v := v) wk1 o1 hv 4000
 have s4 := fun {W : World} {v : Value} hv => HearE_c (W := W) (v := v) wk3 o3 hv 4100 (adW 2, adW 1, p2 0 (adW 1)) ⟨adW_ok 2, adW_ok 1, hA⟩
 have s5 := fun {W : World} {v : Value} hv => RestE_c (W := W) (v := v) wk1 o1 hv 10 (⟨#[101, 102, 103, 104]⟩ : ByteArray) (by unfold SzS maxLen; decide)
 have s6 := fun {W : World} {v : Value} hv => SwE_c (W := W) (v := v) wk5 o5 hv 20 (adW 3).h (adW 2).h (adW 3).p (adW 2).p (adW_ok 3) (adW_ok 2)
 have s7 := fun {W : World} {v : Value} hv => Check12_c (W := W) (v := v) wk1 o1 hv
 have s8 := fun {W : World} {v : Value} hv => Check12_c (W := W) (v := v) zW zW_ok hv
 have s9 := fun {W : World} {v u : Value} hv hu => HEq_c (W := W) (v := v) (u := u) (adW 1, adW 2, askP 0) ⟨adW_ok 1, adW_ok 2, ⟨⟨by decide, by decide⟩, ⟨by decide, by decide⟩, ⟨by decide, by decide⟩, ⟨by decide, by decide⟩, Ad.z_ok⟩⟩ hv hu
 have e6 : swE wk5 20 ⟨(adW 3).h, (adW 3).p⟩ ⟨(adW 2).h, (adW 2).p⟩ = (wk6, 0) := wk_sw
 rw [wk_wake] at s2
 rw [wk_time] at s3
 rw [wk_hear] at s4
 rw [wk_rest] at s5
 rw [e6] at s6
 rw [wk_chk] at s7
 rw [wk_chk0] at s8
 clear e6 o1 o3 o5 hA
 dsimp only [ResE, ResW, Wt.c, hopF, hopC, wk1, wk3, wk4, wk5, wk6, adW, p2, Ad.z, zW, iv, List.map] at s2 s3 s4 s5 s6 s7 s8
 first | refine v_pure TTok FFok Tryz.func9 rfl rfl fun w0 => ?_ | refine v_pure (args := []) TTok FFok Tryz.func9 rfl rfl fun w0 => ?_
 conv => whnf
 refine VSeq.mk fun Kq hKq => ?_
 conv => whnf
 refine hKq _ _ _ (.refl _) ?_
 clear hKq Kq
 conv => whnf
 refine VSeq.mk fun Kq hKq => ?_
 conv => whnf
 have hp := Hp.nil w0
 (refine V.CallW.out ?_; (conv => arg 3; dsimp only [EV.val, List.toList_toArray, List.nil_append, List.append_nil, List.cons_append]); (with_reducible refine V.PureF.useW (sample_p) fun w hx => ?_); try (have hp := hp.call hx); conv => whnf)
 (refine hp.kalloc z34 fun al34 w hp hx => ?_; conv => whnf)
 (refine hp.kstA TTok rfl 0 rfl rfl (oneC_of rfl) (by rfl) fun w hp => ?_; try simp only [List.set_cons_zero, List.set_cons_succ, EV.val] at hp; conv => whnf)
 (refine hKq _ _ _ (.refl _) ?_; clear hKq Kq; conv => whnf)
 (refine VSeq.mk fun Kq hKq => ?_; conv => whnf)
 (refine ⟨_, _, Blk.ldV (vs := [_, _, _, _, _, _, _, _, _, _, _, _, _]) (hp.get (i := 0) rfl) TTok rfl rfl rfl, ?_⟩; conv => whnf)
 dsimp only [Wt.c, wk1, adW] at hp
 refine V.CallsUse (s2 SLv.nil) fun w hx => ?_
 have hp := hp.call hx
 conv => whnf
 clear s2
 (refine hKq _ _ _ (.refl _) ?_; clear hKq Kq; conv => whnf)
 (refine VSeq.mk fun Kq hKq => ?_; conv => whnf)
 (refine ⟨_, _, Blk.ldV (vs := [_, _, _, _, _, _, _, _, _, _, _, _, _]) (hp.get (i := 0) rfl) TTok rfl rfl rfl, ?_⟩; conv => whnf)
 refine Calls.mono (s3 SLv.nil) ?_
 rintro _ w ⟨_, rfl, v3, r3, rfl, hx, hs3, hr3⟩
 refine ⟨_, rfl, ?_⟩
 have hpO := hp.call hx
 have hB : Blk w _ _ _ := hpO.get (i := 0) rfl
 obtain ⟨p3, c3, rfl⟩ := hs3.shape
 obtain ⟨q3, d3, rfl⟩ := hr3.s.shape
 have hv3 := hs3.s
 have hr3 := hr3.s
 clear s3 hs3 hp
 repeat clear hp
 have hpN := Hp.nil w
 have hp := hpN
 conv => whnf
 (refine hp.kalloc z34 fun al34 w hp hx => ?_; conv => whnf)
 (refine hp.kstA TTok rfl 0 rfl rfl (oneC_of rfl) (by rfl) fun w hp => ?_; try simp only [List.set_cons_zero, List.set_cons_succ, EV.val] at hp; conv => whnf)
 (refine hKq _ _ _ (.refl _) ?_; clear hKq Kq; conv => whnf)
 (refine VSeq.mk fun Kq hKq => ?_; conv => whnf)
 have hcls := hp.pick [0] (by decide)
 simp only [List.filterMap_cons, List.filterMap_nil, List.getElem?_cons_zero, List.getElem?_cons_succ] at hcls
 refine v_mtC TTok FFok mixed _ hcls [] (.q 0 (.q 1 (.q 2 (.q 3 (.q 4 (.q 5 (.br 6 11 (.q 7 (.q 8 (.q 9 (.q 10 (.m 11 (.m 12 (.q 13 (.q 14 .nil)))))))) (.m 6 (.q 7 (.q 8 (.q 9 (.q 10 (.m 12 (.q 13 (.q 14 .nil))))))))))))))) (by kernel_rfl) ?_
 clear hcls
 conv => whnf
 (refine ⟨_, fun w' hc => Blk.ldV (vs := [_, _, _, _, _, _, _, _, _, _, _, _, _]) (hc.get (i := 0) rfl) TTok rfl rfl rfl, ?_⟩; conv => whnf)
 (refine V.QCallC.out ?_; (conv => arg 3; dsimp only [EV.val, List.toList_toArray, List.nil_append, List.append_nil, List.cons_append]); refine V.PureF.quietC (addr_2) ?_; conv => whnf)
 (refine V.QCallC.out ?_; (conv => arg 3; dsimp only [EV.val, List.toList_toArray, List.nil_append, List.append_nil, List.cons_append]); refine V.PureF.quietC (addr_1) ?_; conv => whnf)
 (refine V.QCallC.out ?_; (conv => arg 3; dsimp only [EV.val, List.toList_toArray, List.nil_append, List.append_nil, List.cons_append]); refine V.PureF.quietC (addr_1) ?_; conv => whnf)
 (refine ⟨_, fun w' hx' => bld61_0_6 w' _ _ _, ?_⟩; conv => whnf)
 (refine ⟨_, fun w' hx' => bld63_0_1_2 w' _ _ _ _ _ _ _ _ _ _ _ _, ?_⟩; conv => whnf)
 refine And.intro ?_ ?_
 all_goals
  conv => whnf
  first | ((intro w hx; try (have hp := hp.call hx); conv => whnf); (refine hp.kalloc z34 fun al34 w hp hx => ?_; conv => whnf); (refine And.intro (fun hc => hc.call hx) ?_; conv => whnf); (intro w hx; try (have hp := hp.call hx); conv => whnf)) | ((intro w hx; try (have hp := hp.call hx); conv => whnf))
  refine Calls.mono (s4 (hv3.ext hp.ext)) ?_
  rintro _ w ⟨_, rfl, v4, r4, rfl, hx, hs4, hr4⟩
  refine ⟨_, rfl, ?_⟩
  have hp := hp.call hx
  obtain ⟨p4, c4, rfl⟩ := hs4.shape
  obtain ⟨q4, d4, rfl⟩ := hr4.s.shape
  clear hs4 hr4
  conv => whnf
  first | ((refine And.intro (fun hc => hc.call hx) ?_; conv => whnf); (intro w hx; try (have hp := hp.call hx); conv => whnf); (refine hp.kalloc z34 fun al34 w hp hx => ?_; conv => whnf); (refine And.intro (fun hc => hc.call hx) ?_; conv => whnf); (intro w hx; try (have hp := hp.call hx); conv => whnf); (refine hp.kstA TTok rfl 0 rfl rfl (oneC_of rfl) (by rfl) fun w hp => ?_; try simp only [List.set_cons_zero, List.set_cons_succ, EV.val] at hp; conv => whnf); (refine And.intro (fun _ => hp.pick [1] (by decide)) ?_; conv => whnf); (intro w hx; try (have hp := hp.call hx); conv => whnf); (refine hKq _ _ _ (.refl _) ?_; clear hKq Kq; conv => whnf); (refine VSeq.mk fun Kq hKq => ?_; conv => whnf); (refine ⟨_, _, Blk.ldN (Blk.ext hB hp.ext) TTok rfl rfl, ?_⟩; conv => whnf)) | ((refine And.intro (fun hc => hc.call hx) ?_; conv => whnf); (intro w hx; try (have hp := hp.call hx); conv => whnf); (refine hp.kstA TTok rfl 0 rfl rfl (oneC_of rfl) (by rfl) fun w hp => ?_; try simp only [List.set_cons_zero, List.set_cons_succ, EV.val] at hp; conv => whnf); (refine And.intro (fun _ => hp.pick [1] (by decide)) ?_; conv => whnf); (intro w hx; try (have hp := hp.call hx); conv => whnf); (refine hKq _ _ _ (.refl _) ?_; clear hKq Kq; conv => whnf); (refine VSeq.mk fun Kq hKq => ?_; conv => whnf); (refine ⟨_, _, Blk.ldN (Blk.ext hB hp.ext) TTok rfl rfl, ?_⟩; conv => whnf))
  refine Calls.mono (s5 SLv.nil) ?_
  rintro _ w ⟨_, rfl, v5, rfl, hx, hs5⟩
  refine ⟨_, rfl, ?_⟩
  have hp := hp.call hx
  obtain ⟨p5, c5, rfl⟩ := hs5.shape
  clear hs5
  conv => whnf
  (refine hp.kalloc z34 fun al34 w hp hx => ?_; conv => whnf)
  (refine hp.kstA TTok rfl 0 rfl rfl (oneC_of rfl) (by rfl) fun w hp => ?_; try simp only [List.set_cons_zero, List.set_cons_succ, EV.val] at hp; conv => whnf)
  (refine hKq _ _ _ (.refl _) ?_; clear hKq Kq; conv => whnf)
  (refine VSeq.mk fun Kq hKq => ?_; conv => whnf)
  have hcls := hp.pick [0] (by decide)
  simp only [List.filterMap_cons, List.filterMap_nil, List.getElem?_cons_zero, List.getElem?_cons_succ] at hcls
  refine v_mtC TTok FFok mixed _ hcls [] (.q 0 (.q 1 (.q 2 (.q 3 (.br 4 8 (.q 5 (.q 6 (.q 7 (.m 8 (.m 9 (.q 10 .nil)))))) (.m 4 (.q 5 (.q 6 (.q 7 (.m 9 (.q 10 .nil))))))))))) (by kernel_rfl) ?_
  clear hcls
  conv => whnf
  (refine ⟨_, fun w' hc => Blk.ldV (vs := [_, _, _, _, _, _, _, _, _, _, _, _, _]) (hc.get (i := 0) rfl) TTok rfl rfl rfl, ?_⟩; conv => whnf)
  (refine V.QCallC.out ?_; (conv => arg 3; dsimp only [EV.val, List.toList_toArray, List.nil_append, List.append_nil, List.cons_append]); refine V.PureF.quietC (addr_3) ?_; conv => whnf)
  (refine V.QCallC.out ?_; (conv => arg 3; dsimp only [EV.val, List.toList_toArray, List.nil_append, List.append_nil, List.cons_append]); refine V.PureF.quietC (addr_2) ?_; conv => whnf)
  (refine ⟨_, fun w' hx' => bld31_0_1 w' _ _ _ _, ?_⟩; conv => whnf)
  refine And.intro ?_ ?_
  all_goals
   conv => whnf
   first | ((intro w hx; try (have hp := hp.call hx); conv => whnf); (refine hp.kalloc z34 fun al34 w hp hx => ?_; conv => whnf); (refine And.intro (fun hc => hc.call hx) ?_; conv => whnf); (intro w hx; try (have hp := hp.call hx); conv => whnf)) | ((intro w hx; try (have hp := hp.call hx); conv => whnf))
   refine Calls.mono (s6 (.inl ⟨rfl, _, _, rfl⟩)) ?_
   rintro _ w ⟨_, rfl, v6, rfl, hx, hs6⟩
   refine ⟨_, rfl, ?_⟩
   have hp := hp.call hx
   obtain ⟨p6, c6, rfl⟩ := hs6.shape
   clear hs6
   conv => whnf
   first | ((refine And.intro (fun hc => hc.call hx) ?_; conv => whnf); (intro w hx; try (have hp := hp.call hx); conv => whnf); (refine hp.kalloc z34 fun al34 w hp hx => ?_; conv => whnf); (refine And.intro (fun hc => hc.call hx) ?_; conv => whnf); (intro w hx; try (have hp := hp.call hx); conv => whnf); (refine hp.kstA TTok rfl 0 rfl rfl (oneC_of rfl) (by rfl) fun w hp => ?_; try simp only [List.set_cons_zero, List.set_cons_succ, EV.val] at hp; conv => whnf); (refine And.intro (fun _ => hp.pick [1] (by decide)) ?_; conv => whnf); (intro w hx; try (have hp := hp.call hx); conv => whnf); (refine hKq _ _ _ (.refl _) ?_; clear hKq Kq; conv => whnf); (refine VSeq.mk fun Kq hKq => ?_; conv => whnf); (refine VSeq.mk fun Kq hKq => ?_; conv => whnf); (refine hKq _ _ _ (.refl _) ?_; clear hKq Kq; conv => whnf); (refine VSeq.mk fun Kq hKq => ?_; conv => whnf); (refine And.intro (fun _ => ?_) (fun h => absurd (by first | rfl | assumption | omega | decide) (of_decide_eq_false h)); conv => whnf); (refine hKq _ _ _ (.refl _) ?_; clear hKq Kq; conv => whnf); (refine VSeq.mk fun Kq hKq => ?_; conv => whnf); (refine And.intro (fun _ => ?_) (fun h => absurd (by first | rfl | assumption | omega | decide) (of_decide_eq_false h)); conv => whnf); (refine hKq _ _ _ (.refl _) ?_; clear hKq Kq; conv => whnf); (refine VSeq.mk fun Kq hKq => ?_; conv => whnf); (refine And.intro (fun _ => ?_) (fun h => absurd (by first | rfl | assumption | omega | decide) (of_decide_eq_false h)); conv => whnf); (refine hKq _ _ _ (.refl _) ?_; clear hKq Kq; conv => whnf); (refine VSeq.mk fun Kq hKq => ?_; conv => whnf); (refine And.intro (fun _ => ?_) (fun h => absurd (by first | rfl | assumption | omega | decide) (of_decide_eq_false h)); conv => whnf); (refine ⟨_, _, Blk.ld (hp.get (i := 3) rfl) TTok rfl rfl, ?_⟩; conv => whnf); (refine hKq _ _ _ (.refl _) ?_; clear hKq Kq; conv => whnf); (refine VSeq.mk fun Kq hKq => ?_; conv => whnf); (refine And.intro (fun _ => ?_) (fun h => absurd (by first | rfl | assumption | omega | decide) (of_decide_eq_false h)); conv => whnf); (refine V.CallW.out ?_; (conv => arg 3; dsimp only [EV.val, List.toList_toArray, List.nil_append, List.append_nil, List.cons_append]); refine V.PureF.useW (addr_1) fun w hx => ?_; try (have hp := hp.call hx); conv => whnf); (refine V.CallW.out ?_; (conv => arg 3; dsimp only [EV.val, List.toList_toArray, List.nil_append, List.append_nil, List.cons_append]); refine V.PureF.useW (addr_2) fun w hx => ?_; try (have hp := hp.call hx); conv => whnf); (refine ⟨_, _, bld61_0_2 _ _ _, ?_⟩; conv => whnf); (refine ⟨_, _, bld63_0_1_2 _ _ _ _ _ _ _ _ _ _ _ _ _, ?_⟩; conv => whnf); (refine hp.kmade _ _ (fun b => .slice (some ⟨b, 0, none⟩) 1 1) (mks55_1_0 _ _ _ _ _ _ _ _ _ _ _ _ _) fun q w hp hx => ?_; conv => whnf)) | ((refine And.intro (fun hc => hc.call hx) ?_; conv => whnf); (intro w hx; try (have hp := hp.call hx); conv => whnf); (refine hp.kstA TTok rfl 0 rfl rfl (oneC_of rfl) (by rfl) fun w hp => ?_; try simp only [List.set_cons_zero, List.set_cons_succ, EV.val] at hp; conv => whnf); (refine And.intro (fun _ => hp.pick [1] (by decide)) ?_; conv => whnf); (intro w hx; try (have hp := hp.call hx); conv => whnf); (refine hKq _ _ _ (.refl _) ?_; clear hKq Kq; conv => whnf); (refine VSeq.mk fun Kq hKq => ?_; conv => whnf); (refine VSeq.mk fun Kq hKq => ?_; conv => whnf); (refine hKq _ _ _ (.refl _) ?_; clear hKq Kq; conv => whnf); (refine VSeq.mk fun Kq hKq => ?_; conv => whnf); (refine And.intro (fun _ => ?_) (fun h => absurd (by first | rfl | assumption | omega | decide) (of_decide_eq_false h)); conv => whnf); (refine hKq _ _ _ (.refl _) ?_; clear hKq Kq; conv => whnf); (refine VSeq.mk fun Kq hKq => ?_; conv => whnf); (refine And.intro (fun _ => ?_) (fun h => absurd (by first | rfl | assumption | omega | decide) (of_decide_eq_false h)); conv => whnf); (refine hKq _ _ _ (.refl _) ?_; clear hKq Kq; conv => whnf); (refine VSeq.mk fun Kq hKq => ?_; conv => whnf); (refine And.intro (fun _ => ?_) (fun h => absurd (by first | rfl | assumption | omega | decide) (of_decide_eq_false h)); conv => whnf); (refine hKq _ _ _ (.refl _) ?_; clear hKq Kq; conv => whnf); (refine VSeq.mk fun Kq hKq => ?_; conv => whnf); (refine And.intro (fun _ => ?_) (fun h => absurd (by first | rfl | assumption | omega | decide) (of_decide_eq_false h)); conv => whnf); (refine ⟨_, _, Blk.ld (hp.get (i := 3) rfl) TTok rfl rfl, ?_⟩; conv => whnf); (refine hKq _ _ _ (.refl _) ?_; clear hKq Kq; conv => whnf); (refine VSeq.mk fun Kq hKq => ?_; conv => whnf); (refine And.intro (fun _ => ?_) (fun h => absurd (by first | rfl | assumption | omega | decide) (of_decide_eq_false h)); conv => whnf); (refine V.CallW.out ?_; (conv => arg 3; dsimp only [EV.val, List.toList_toArray, List.nil_append, List.append_nil, List.cons_append]); refine V.PureF.useW (addr_1) fun w hx => ?_; try (have hp := hp.call hx); conv => whnf); (refine V.CallW.out ?_; (conv => arg 3; dsimp only [EV.val, List.toList_toArray, List.nil_append, List.append_nil, List.cons_append]); refine V.PureF.useW (addr_2) fun w hx => ?_; try (have hp := hp.call hx); conv => whnf); (refine ⟨_, _, bld61_0_2 _ _ _, ?_⟩; conv => whnf); (refine ⟨_, _, bld63_0_1_2 _ _ _ _ _ _ _ _ _ _ _ _ _, ?_⟩; conv => whnf); (refine hp.kmade _ _ (fun b => .slice (some ⟨b, 0, none⟩) 1 1) (mks55_1_0 _ _ _ _ _ _ _ _ _ _ _ _ _) fun q w hp hx => ?_; conv => whnf))
   refine V.CallsUse (s9 (hr3.ext hp.ext) (HR.blk (hp.get (i := 0) rfl))) fun w hx => ?_
   have hp := hp.call hx
   conv => whnf
   (refine hKq _ _ _ (.refl _) ?_; clear hKq Kq; conv => whnf)
   (refine VSeq.mk fun Kq hKq => ?_; conv => whnf)
   (refine And.intro (fun _ => ?_) (fun h => absurd h (by decide)); conv => whnf)
   (refine hKq _ _ _ (.refl _) ?_; clear hKq Kq; conv => whnf)
   (refine VSeq.mk fun Kq hKq => ?_; conv => whnf)
   (refine And.intro (fun _ => ?_) (fun h => absurd (by first | rfl | assumption | omega | decide) (of_decide_eq_false h)); conv => whnf)
   (refine hKq _ _ _ (.refl _) ?_; clear hKq Kq; conv => whnf)
   (refine VSeq.mk fun Kq hKq => ?_; conv => whnf)
   (refine And.intro (fun _ => ?_) (fun h => absurd (by first | rfl | assumption | omega | decide) (of_decide_eq_false h)); conv => whnf)
   (refine ⟨_, _, Blk.ld (hp.get (i := 3) rfl) TTok rfl rfl, ?_⟩; conv => whnf)
   (refine hKq _ _ _ (.refl _) ?_; clear hKq Kq; conv => whnf)
   (refine VSeq.mk fun Kq hKq => ?_; conv => whnf)
   (refine And.intro (fun _ => ?_) (fun h => absurd (by first | rfl | assumption | omega | decide) (of_decide_eq_false h)); conv => whnf)
   (refine ⟨_, _, Blk.ld (hp.get (i := 3) rfl) TTok rfl rfl, ?_⟩; conv => whnf)
   (refine hKq _ _ _ (.refl _) ?_; clear hKq Kq; conv => whnf)
   (refine VSeq.mk fun Kq hKq => ?_; conv => whnf)
   (refine And.intro (fun _ => ?_) (fun h => absurd (by first | rfl | assumption | omega | decide) (of_decide_eq_false h)); conv => whnf)
   (refine hKq _ _ _ (.refl _) ?_; clear hKq Kq; conv => whnf)
   (refine VSeq.mk fun Kq hKq => ?_; conv => whnf)
   (refine And.intro (fun _ => ?_) (fun h => absurd (by first | rfl | assumption | omega | decide) (of_decide_eq_false h)); conv => whnf)
   (refine ⟨_, _, Blk.ld (hp.get (i := 2) rfl) TTok rfl rfl, ?_⟩; conv => whnf)
   (refine hKq _ _ _ (.refl _) ?_; clear hKq Kq; conv => whnf)
   (refine VSeq.mk fun Kq hKq => ?_; conv => whnf)
   (refine And.intro (fun _ => ?_) (fun h => absurd (by first | rfl | assumption | omega | decide) (of_decide_eq_false h)); conv => whnf)
   (refine hKq _ _ _ (.refl _) ?_; clear hKq Kq; conv => whnf)
   (refine VSeq.mk fun Kq hKq => ?_; conv => whnf)
   (refine And.intro (fun _ => ?_) (fun h => absurd (by first | rfl | assumption | omega | decide) (of_decide_eq_false h)); conv => whnf)
   (refine ⟨_, _, Blk.ld (hp.get (i := 1) rfl) TTok rfl rfl, ?_⟩; conv => whnf)
   (refine hKq _ _ _ (.refl _) ?_; clear hKq Kq; conv => whnf)
   (refine VSeq.mk fun Kq hKq => ?_; conv => whnf)
   (refine And.intro (fun _ => ?_) (fun h => absurd (by first | rfl | assumption | omega | decide) (of_decide_eq_false h)); conv => whnf)
   (refine ⟨_, _, Blk.ld (hp.get (i := 1) rfl) TTok rfl rfl, ?_⟩; conv => whnf)
   (refine hKq _ _ _ (.refl _) ?_; clear hKq Kq; conv => whnf)
   (refine VSeq.mk fun Kq hKq => ?_; conv => whnf)
   (refine And.intro (fun _ => ?_) (fun h => absurd (by first | rfl | assumption | omega | decide) (of_decide_eq_false h)); conv => whnf)
   (refine ⟨_, _, Blk.ldN (Blk.ext hB hp.ext) TTok rfl rfl, ?_⟩; conv => whnf)
   refine V.CallsUse (s7 SLv.nil) fun w hx => ?_
   have hp := hp.call hx
   conv => whnf
   (refine hKq _ _ _ (.refl _) ?_; clear hKq Kq; conv => whnf)
   (refine And.intro (fun _ => ?_) (fun h => absurd (by first | rfl | assumption | omega | decide) (of_decide_eq_false h)); conv => whnf)
   (refine ⟨_, _, bld34_ _, ?_⟩; conv => whnf)
   refine V.CallsUse (s8 SLv.nil) fun w hx => ?_
   have hp := hp.call hx
   conv => whnf
   (refine hKq _ _ _ (.refl _) ?_; clear hKq Kq; conv => whnf)
   exact ⟨rfl, (hpO.join hp).ext⟩
end Go.Proofs.YtgkhcgiggjijlaaGreat
