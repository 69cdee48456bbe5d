/- Chapter 12: ConsentEnds. -/
/- ConsentEnds: for every draft, number and silence, a watch whose questions are not answered is gone exactly at its end, and one whose questions are answered is never gone. -/
import Derived.Test.YtgkhcgiggjijlaaGreatGX13
import Derived.Test.YtgkhcgiggjijlaaGreatRows
import Derived.WalkKit
import Derived.ProofKit
import Derived.OpenShut
import Derived.ShutString
import Derived.ChangeOld
import Derived.Below
import Derived.Test.YtgkhcgiggjijlaaGreatGX03
namespace Go.Proofs.YtgkhcgiggjijlaaGreat
set_option linter.unusedSimpArgs false
set_option linter.unusedVariables false
set_option maxRecDepth 100000
open Go.RowKit V
set_option maxHeartbeats 16000000
theorem ends_gone {W : World} {vn ve : Value} (p : Nat) (nb : List UInt8) (evs : List Ev) (hn : SLv W vn (bytesV nb)) (he : SLn W 5 ve (evs.map Ev.c)) (n : Nat) (hn255 : n < 256) (y0 : Wt) (B : Nat) (hd : Dr B y0) (hB : B ≤ 30) (htil : y0.til ≤ y0.now + 30000) (s1 : ∀ {W : World}, SLv W vn (bytesV nb) → SLn W 5 ve (evs.map Ev.c) → Calls Tryz.prog 30 #[.agg #[.int .u8 p, vn, ve]] W fun e w' => ∃ u, e = .returned u ∧ ∃ v', u = .agg (y0.c v').toArray ∧ Ext W w' ∧ SLw W w' v' (iv y0.asked)) (hgn : y0.gone = true) (sl : Bool) :
    Calls Tryz.prog 7 #[.agg #[.int .u8 p, vn, ve], .int .u8 n, .bool sl] W fun e w' => e = .returned (.bool true) ∧ Ext W w' := by
  have hn2 := (hd.sy hB).now
  have hn3 := (hd.sy hB).v.now
  obtain ⟨v, o, hE, hR⟩ := (hd.sy hB).time (i := 0) (now := y0.now + (n : Int)) (by omega) (by omega) (by omega)
  have hvg : v.gone = true := by rw [hR.gone, hgn, Bool.true_or]
  obtain rfl : o = [] := hR.out hvg
  have sT := fun {W : World} {v : Value} hv => TimeE_c (W := W) (v := v) y0 (hd.sy hB).ok hv (y0.now + (n : Int))
  rw [hE] at sT
  clear hE hR
  obtain ⟨va, vb, vnow, vnxt, vtil, vser, vgone, vnoise, vword, vfresh, vasked⟩ := v
  obtain rfl : vgone = true := hvg
  dsimp only [Wt.c] at sT
  rw [hgn] at sT
  have hsy := hd.sy hB
  have yo := hsy.ok
  have hn1 := hsy.now
  have hn0 := hsy.v.now
  dsimp only [Wt.c] at s1
  rw [hgn] at s1
  refine v_reads (args := [.agg #[.int .u8 p, vn, ve], .int .u8 n, .bool sl]) TTok FFok Tryz.func7 rfl rfl ?_
  conv => whnf
  refine VSeq.mk fun Kq hKq => ?_
  conv => whnf
  have hp := Hp.nil W
  refine hp.kboxA fun q3 w hp hx => ?_
  conv => whnf
  refine hKq _ _ _ (.refl _) ?_
  clear hKq Kq
  conv => whnf
  refine VSeq.mk fun Kq hKq => ?_
  conv => whnf
  refine VSeq.mk fun Kq hKq => ?_
  conv => whnf
  (refine V.CallW.out ?_; (conv => arg 3; dsimp only [EV.val, List.toList_toArray, List.nil_append, List.append_nil, List.cons_append]); (with_reducible refine V.PureF.useW (wakes_p) fun w hx => ?_); try (have hp := hp.call hx); conv => whnf)
  (refine hKq _ _ _ (.refl _) ?_; clear hKq Kq; conv => whnf)
  (refine And.intro (fun h => absurd h (by decide)) (fun _ => ?_); conv => whnf)
  (refine hKq _ _ _ (.refl _) ?_; clear hKq Kq; conv => whnf)
  (refine VSeq.mk fun Kq hKq => ?_; conv => whnf)
  (refine ⟨_, _, Blk.ldV (vs := [_, _, _]) (hp.get (i := 0) rfl) TTok rfl rfl rfl, ?_⟩; conv => whnf)
  refine Calls.mono (s1 (hn.ext hp.ext) (he.ext hp.ext)) ?_
  rintro _ w ⟨_, rfl, v0, rfl, hx, hs0⟩
  refine ⟨_, rfl, ?_⟩
  have hp := hp.pushR hx hs0
  obtain ⟨p0, c0, rfl⟩ := hs0.shape
  clear s1 hs0
  conv => whnf
  (refine hp.kalloc z34 fun al34 w hp hx => ?_; conv => whnf)
  (refine hp.kstA TTok rfl 0 rfl rfl (oneC_of rfl) (by rfl) fun w hp => ?_; try simp only [List.set_cons_zero, List.set_cons_succ, EV.val] at hp; conv => whnf)
  (refine hKq _ _ _ (.refl _) ?_; clear hKq Kq; conv => whnf)
  (refine VSeq.mk fun Kq hKq => ?_; conv => whnf)
  (refine VSeq.mk fun Kq hKq => ?_; conv => whnf)
  (refine ⟨_, _, Blk.ld (hp.get (i := 0) rfl) TTok rfl rfl, ?_⟩; conv => whnf)
  (refine hKq _ _ _ (.refl _) ?_; clear hKq Kq; conv => whnf)
  (refine And.intro (fun _ => ?_) (fun h => absurd h (by decide)); conv => whnf)
  (refine VSeq.mk fun Kq hKq => ?_; conv => whnf)
  (refine ⟨_, _, Blk.ldV (vs := [_, _, _, _, _, _, _, _, _, _, _, _, _]) (hp.get (i := 0) rfl) TTok rfl rfl rfl, ?_⟩; conv => whnf)
  (refine ⟨_, _, Blk.ld (hp.get (i := 0) rfl) TTok rfl rfl, ?_⟩; conv => whnf)
  (refine Or.inl (And.intro (by first | omega | decide) ?_); conv => whnf)
  (refine Or.inl (And.intro (by first | omega | decide) ?_); conv => whnf)
  refine ResE.monoW (sT (hp.get (i := 1) rfl)) fun w p1 c1 p2 c2 hx hs1 _ => ?_
  refine ⟨_, rfl, ?_⟩
  have hp := hp.pushR hx hs1
  conv => whnf
  (refine hp.kalloc z34 fun al34 w hp hx => ?_; conv => whnf)
  (refine hp.kstA TTok rfl 0 rfl rfl (oneC_of rfl) (by rfl) fun w hp => ?_; try simp only [List.set_cons_zero, List.set_cons_succ, EV.val] at hp; conv => whnf)
  (refine hKq _ _ _ (.refl _) ?_; clear hKq Kq; conv => whnf)
  (refine VSeq.mk fun Kq hKq => ?_; conv => whnf)
  (refine VSeq.mk fun Kq hKq => ?_; conv => whnf)
  (refine hKq _ _ _ (.refl _) ?_; clear hKq Kq; conv => whnf)
  (refine VSeq.mk fun Kq hKq => ?_; conv => whnf)
  (refine And.intro (fun _ => ?_) (fun h => absurd (by first | rfl | assumption | omega | decide) (of_decide_eq_false h)); conv => whnf)
  (refine ⟨_, _, Blk.ld (hp.get (i := 0) rfl) TTok rfl rfl, ?_⟩; conv => whnf)
  (refine hKq _ _ _ (.refl _) ?_; clear hKq Kq; conv => whnf)
  (refine And.intro (fun _ => ?_) (fun h => absurd h (by decide)); conv => whnf)
  (refine hKq _ _ _ (.refl _) ?_; clear hKq Kq; conv => whnf)
  exact ⟨rfl, hp.ext⟩
theorem ends_silent {W : World} {vn ve : Value} (p : Nat) (nb : List UInt8) (evs : List Ev) (hn : SLv W vn (bytesV nb)) (he : SLn W 5 ve (evs.map Ev.c)) (n : Nat) (hn255 : n < 256) (y0 : Wt) (B : Nat) (hd : Dr B y0) (hB : B ≤ 30) (htil : y0.til ≤ y0.now + 30000) (s1 : ∀ {W : World}, SLv W vn (bytesV nb) → SLn W 5 ve (evs.map Ev.c) → Calls Tryz.prog 30 #[.agg #[.int .u8 p, vn, ve]] W fun e w' => ∃ u, e = .returned u ∧ ∃ v', u = .agg (y0.c v').toArray ∧ Ext W w' ∧ SLw W w' v' (iv y0.asked)) (hgn : y0.gone = false) :
    Calls Tryz.prog 7 #[.agg #[.int .u8 p, vn, ve], .int .u8 n, .bool true] W fun e w' => e = .returned (.bool true) ∧ Ext W w' := by
  have hE0 := En.begin hd hB hgn htil
  have hsy := hd.sy hB
  have yo := hsy.ok
  have hn1 := hsy.now
  have hn0 := hsy.v.now
  dsimp only [Wt.c] at s1
  rw [hgn] at s1
  refine v_reads (args := [.agg #[.int .u8 p, vn, ve], .int .u8 n, .bool true]) TTok FFok Tryz.func7 rfl rfl ?_
  conv => whnf
  refine VSeq.mk fun Kq hKq => ?_
  conv => whnf
  have hp := Hp.nil W
  refine hp.kboxA fun q3 w hp hx => ?_
  conv => whnf
  refine hKq _ _ _ (.refl _) ?_
  clear hKq Kq
  conv => whnf
  refine VSeq.mk fun Kq hKq => ?_
  conv => whnf
  refine VSeq.mk fun Kq hKq => ?_
  conv => whnf
  (refine V.CallW.out ?_; (conv => arg 3; dsimp only [EV.val, List.toList_toArray, List.nil_append, List.append_nil, List.cons_append]); (with_reducible refine V.PureF.useW (wakes_p) fun w hx => ?_); try (have hp := hp.call hx); conv => whnf)
  (refine hKq _ _ _ (.refl _) ?_; clear hKq Kq; conv => whnf)
  (refine And.intro (fun h => absurd h (by decide)) (fun _ => ?_); conv => whnf)
  (refine hKq _ _ _ (.refl _) ?_; clear hKq Kq; conv => whnf)
  (refine VSeq.mk fun Kq hKq => ?_; conv => whnf)
  (refine ⟨_, _, Blk.ldV (vs := [_, _, _]) (hp.get (i := 0) rfl) TTok rfl rfl rfl, ?_⟩; conv => whnf)
  refine Calls.mono (s1 (hn.ext hp.ext) (he.ext hp.ext)) ?_
  rintro _ w ⟨_, rfl, v0, rfl, hx, hs0⟩
  refine ⟨_, rfl, ?_⟩
  have hp := hp.pushR hx hs0
  obtain ⟨p0, c0, rfl⟩ := hs0.shape
  clear s1 hs0
  conv => whnf
  (refine hp.kalloc z34 fun al34 w hp hx => ?_; conv => whnf)
  (refine hp.kstA TTok rfl 0 rfl rfl (oneC_of rfl) (by rfl) fun w hp => ?_; try simp only [List.set_cons_zero, List.set_cons_succ, EV.val] at hp; conv => whnf)
  (refine hKq _ _ _ (.refl _) ?_; clear hKq Kq; conv => whnf)
  (refine VSeq.mk fun Kq hKq => ?_; conv => whnf)
  (refine VSeq.mk fun Kq hKq => ?_; conv => whnf)
  (refine ⟨_, _, Blk.ld (hp.get (i := 0) rfl) TTok rfl rfl, ?_⟩; conv => whnf)
  (refine hKq _ _ _ (.refl _) ?_; clear hKq Kq; conv => whnf)
  (refine And.intro (fun h => absurd h (by decide)) (fun _ => ?_); conv => whnf)
  (refine hKq _ _ _ (.refl _) ?_; clear hKq Kq; conv => whnf)
  (refine VSeq.mk fun Kq hKq => ?_; conv => whnf)
  (refine ⟨_, _, Blk.ld (hp.get (i := 0) rfl) TTok rfl rfl, ?_⟩; conv => whnf)
  (refine hKq _ _ _ (.refl _) ?_; clear hKq Kq; conv => whnf)
  (refine VSeq.mk fun Kq hKq => ?_; conv => whnf)
  (refine VSeq.mk fun Kq hKq => ?_; conv => whnf)
  (refine hKq _ _ _ (.refl _) ?_; clear hKq Kq; conv => whnf)
  (refine And.intro (fun h => absurd h (by decide)) (fun _ => ?_); conv => whnf)
  (refine hKq _ _ _ (.refl _) ?_; clear hKq Kq; conv => whnf)
  (refine VSeq.mk fun Kq hKq => ?_; conv => whnf)
  (refine hKq _ _ _ (.refl _) ?_; clear hKq Kq; conv => whnf)
  (refine VSeq.mk fun Kq hKq => ?_; conv => whnf)
  (refine VSeq.mk fun Kq hKq => ?_; conv => whnf)
  (refine hKq _ _ _ (.refl _) ?_; clear hKq Kq; conv => whnf)
  obtain ⟨q7, rfl⟩ : ∃ q, q = al34 := ⟨al34, rfl⟩
  refine ⟨fun mm e w' => ∃ (i : Nat) (y : Wt) (last lid : Int) (ps : Option Addr) (cs : Nat), mm + i = 20 ∧ e = [(1, .v (.int .u8 n)), (2, .v (.bool true)), (7, .v (.pointer (some ⟨q7, 0, none⟩))), (11, .v (.int .i64 y0.til)), (14, .v (.int .i64 last)), (15, .v (.int .i64 lid)), (71, .v (.int .i64 i))] ∧ En true y0.til y0.now i y last lid ∧ HpM [] W w' [blk q7 [.string y.a.h, .int .i64 y.a.p, .string y.b.h, .int .i64 y.b.p, .int .i64 y.now, .int .i64 y.nxt, .int .i64 y.til, .int .i64 y.ser, .bool false, .string y.noise, .string y.word, .string y.fresh, .slice ps (iv y.asked).length cs] 34, ritem (.slice ps (iv y.asked).length cs) (iv y.asked)],
    ⟨20, _, ⟨0, y0, -1, -1, _, _, by omega, rfl, hE0, hp.pick [0, 1] (by decide)⟩, sub_cons rfl (sub_cons rfl (sub_cons rfl (sub_cons rfl (sub_cons rfl (sub_cons rfl (sub_cons rfl sub_nil))))))⟩, ?_⟩
  clear hE0 hp hx
  repeat clear hp
  rintro mm _ w ⟨i, y, last, lid, ps, cs, hmm, rfl, hEn, hp⟩
  conv => whnf
  refine VSeq.mk fun Kq hKq => ?_
  conv => whnf
  refine hKq _ _ _ (.refl _) ?_
  clear hKq Kq
  conv => whnf
  refine VSeq.mk fun Kq hKq => ?_
  conv => whnf
  skip
  refine ⟨fun hlt => ?_, fun hlt => ?_⟩
  · have hlt := of_decide_eq_true hlt
    conv => whnf
    refine hKq _ _ _ (.refl _) ?_
    clear hKq Kq
    conv => whnf
    refine VSeq.mk fun Kq hKq => ?_
    conv => whnf
    refine VSeq.mk fun Kq hKq => ?_
    conv => whnf
    rename_i K0 hK0
    have hi20 : i < 20 := by omega
    have hyl := hEn.live
    have yo := hEn.ok
    have hb := hEn.bounds hi20
    have hw := hEn.wake hi20
    have hte := hEn.timeEq hi20
    have hva := hEn.val hi20
    have hgo := hEn.gone hi20
    have hro := hEn.round hi20
    have hto := timeW_out y (nextT y)
    have hlid := hEn.lid
    have hys := hEn.v.ser
    have hys2 := hEn.ser
    have hyn := hEn.v.now
    obtain ⟨T, hT⟩ : ∃ T, nextT y = T := ⟨_, rfl⟩
    rw [hT] at hb hw hte hva hgo hro hto
    obtain ⟨⟨V, O⟩, hV⟩ : ∃ r, timeW y T = r := ⟨_, rfl⟩
    rw [hV] at hte hva hgo hro hto
    clear hV hT
    dsimp only at hte hva hgo hro hto
    obtain ⟨va, vb, vnow, vnxt, vtil, vser, vgone, vnoise, vword, vfresh, vasked⟩ := V
    have Vo := hva.2.ok hva.1
    have sW := fun {W : World} hv => Wake12_c (W := W) (v := .slice ps (iv y.asked).length cs) y yo hv
    have sT := fun {W : World} hv => TimeE_c (W := W) (v := .slice ps (iv y.asked).length cs) y yo hv T
    have sC := fun {W : World} {v : Value} hv => Check12_c (W := W) (v := v) _ Vo hv
    have sW2 := fun {W : World} {v : Value} hv => Wake12_c (W := W) (v := v) _ Vo hv
    have sR := fun {W : World} {v : Value} hv => RestE_c (W := W) (v := v) _ Vo hv T (⟨#[48, 48, 48, 48]⟩ : ByteArray) (by unfold SzS maxLen; decide)
    rw [hw] at sW
    rw [hte] at sT
    rw [chkW_of hva.1] at sC
    dsimp only [Wt.c] at sW sT sC sW2 sR
    rw [hyl] at sW sT
    (refine ⟨_, _, Blk.ldV (vs := [_, _, _, _, _, _, _, _, _, _, _, _, _]) (hp.get (i := 0) rfl) TTok rfl rfl rfl, ?_⟩; conv => whnf)
    refine V.CallsUse (sW (hp.get (i := 1) rfl)) fun w hx => ?_
    have hp := hp.call hx
    conv => whnf
    (refine hKq _ _ _ (.refl _) ?_; clear hKq Kq; conv => whnf)
    (refine VSeq.mk fun Kq hKq => ?_; conv => whnf)
    (refine ⟨_, _, Blk.ldV (vs := [_, _, _, _, _, _, _, _, _, _, _, _, _]) (hp.get (i := 0) rfl) TTok rfl rfl rfl, ?_⟩; conv => whnf)
    refine ResE.monoW (sT (hp.get (i := 1) rfl)) fun w p1 c1 p2 c2 hx hs1 hr1 => ?_
    refine ⟨_, rfl, ?_⟩
    have hq7 : q7 < _ := Blk.lt (hp.get (i := 0) rfl)
    have hne : ∀ a k c, Value.slice p1 (iv vasked).length c1 = .slice (some a) k c → a.block ≠ q7 := fun a k c h => Nat.ne_of_gt (Nat.lt_of_lt_of_le hq7 (hs1.f a k c h))
    have hneO : ∀ a k c, Value.slice p2 O.length c2 = .slice (some a) k c → a.block ≠ q7 := fun a k c h => Nat.ne_of_gt (Nat.lt_of_lt_of_le hq7 (hr1.f a k c h))
    have hpA := (hp.pushR hx hs1).pick [1, 0] (by decide)
    simp only [List.filterMap_cons, List.filterMap_nil, List.getElem?_cons_zero, List.getElem?_cons_succ] at hpA
    have hs1 := hs1.s
    have hr1 := hr1.s
    clear hp sW sT
    repeat clear hp
    have hp := hpM_only hpA
    conv => whnf
    cases vgone with
    | true =>
      obtain ⟨_, hTm, rfl, hwk, hre⟩ := hgo rfl
      rw [hwk] at sW2
      rw [hre] at sR
      dsimp only at sW2 sR
      (refine hp.kalloc z34 fun al34 w hp hx => ?_; conv => whnf)
      (refine hp.kstA TTok rfl 0 rfl rfl (oneC_of rfl) (by rfl) fun w hp => ?_; try simp only [List.set_cons_zero, List.set_cons_succ, EV.val] at hp; conv => whnf)
      (refine hKq _ _ _ (.refl _) ?_; clear hKq Kq; conv => whnf)
      (refine VSeq.mk fun Kq hKq => ?_; conv => whnf)
      (refine VSeq.mk fun Kq hKq => ?_; conv => whnf)
      (refine VSeq.mk fun Kq hKq => ?_; conv => whnf)
      (refine hKq _ _ _ (.refl _) ?_; clear hKq Kq; conv => whnf)
      (refine VSeq.mk fun Kq hKq => ?_; conv => whnf)
      (refine And.intro (fun h => absurd (of_decide_eq_true h) (by first | (intro h2; exact absurd rfl h2) | omega | decide)) (fun _ => ?_); conv => whnf)
      (refine hKq _ _ _ (.refl _) ?_; clear hKq Kq; conv => whnf)
      (refine VSeq.mk fun Kq hKq => ?_; conv => whnf)
      (refine And.intro (fun h => absurd (of_decide_eq_true h) (by first | (intro h2; exact absurd rfl h2) | omega | decide)) (fun _ => ?_); conv => whnf)
      (refine ⟨_, _, Blk.ldV (vs := [_, _, _, _, _, _, _, _, _, _, _, _, _]) (hp.get (i := 0) rfl) TTok rfl rfl rfl, ?_⟩; conv => whnf)
      refine V.CallsUse (sC (slv_n hs1 hp.extM hne)) fun w hx => ?_
      have hp := hp.call hx
      conv => whnf
      clear sC
      (refine hKq _ _ _ (.refl _) ?_; clear hKq Kq; conv => whnf)
      (refine VSeq.mk fun Kq hKq => ?_; conv => whnf)
      (refine And.intro (fun h => absurd (of_decide_eq_true h) (by first | (intro h2; exact absurd rfl h2) | omega | decide)) (fun _ => ?_); conv => whnf)
      (refine hKq _ _ _ (.refl _) ?_; clear hKq Kq; conv => whnf)
      (refine And.intro (fun h => absurd (of_decide_eq_true h) (by first | (intro h2; exact absurd rfl h2) | omega | decide)) (fun _ => ?_); conv => whnf)
      (refine ⟨_, _, Blk.ld (hp.get (i := 1) rfl) TTok rfl rfl, ?_⟩; conv => whnf)
      (refine hKq _ _ _ (.refl _) ?_; clear hKq Kq; conv => whnf)
      (refine And.intro (fun h => absurd (of_decide_eq_true h) (by first | (intro h2; exact absurd rfl h2) | omega | decide)) (fun _ => ?_); conv => whnf)
      (refine hKq _ _ _ (.refl _) ?_; clear hKq Kq; conv => whnf)
      (refine VSeq.mk fun Kq hKq => ?_; conv => whnf)
      (refine VSeq.mk fun Kq hKq => ?_; conv => whnf)
      (refine ⟨_, _, Blk.ld (hp.get (i := 0) rfl) TTok rfl rfl, ?_⟩; conv => whnf)
      (refine hKq _ _ _ (.refl _) ?_; clear hKq Kq; conv => whnf)
      (refine And.intro (fun _ => ?_) (fun h => absurd h (by decide)); conv => whnf)
      (refine VSeq.mk fun Kq hKq => ?_; conv => whnf)
      (refine ⟨_, _, Blk.ldV (vs := [_, _, _, _, _, _, _, _, _, _, _, _, _]) (hp.get (i := 0) rfl) TTok rfl rfl rfl, ?_⟩; conv => whnf)
      refine V.CallsUse (sW2 (slv_n hs1 hp.extM hne)) fun w hx => ?_
      have hp := hp.call hx
      conv => whnf
      (refine hKq _ _ _ (.refl _) ?_; clear hKq Kq; conv => whnf)
      (refine VSeq.mk fun Kq hKq => ?_; conv => whnf)
      (refine ⟨_, _, Blk.ldV (vs := [_, _, _, _, _, _, _, _, _, _, _, _, _]) (hp.get (i := 0) rfl) TTok rfl rfl rfl, ?_⟩; conv => whnf)
      refine ResW.monoW (sR (slv_n hs1 hp.extM hne)) fun w p3 c3 hx hs3 => ?_
      refine ⟨_, rfl, ?_⟩
      have hp := hp.call hx
      conv => whnf
      (refine hp.kalloc z34 fun al34 w hp hx => ?_; conv => whnf)
      (refine hp.kstA TTok rfl 0 rfl rfl (oneC_of rfl) (by rfl) fun w hp => ?_; try simp only [List.set_cons_zero, List.set_cons_succ, EV.val] at hp; conv => whnf)
      (refine hKq _ _ _ (.refl _) ?_; clear hKq Kq; conv => whnf)
      (refine VSeq.mk fun Kq hKq => ?_; conv => whnf)
      (refine VSeq.mk fun Kq hKq => ?_; conv => whnf)
      (refine hKq _ _ _ (.refl _) ?_; clear hKq Kq; conv => whnf)
      (refine VSeq.mk fun Kq hKq => ?_; conv => whnf)
      (refine And.intro (fun _ => ?_) (fun h => absurd h (by decide)); conv => whnf)
      (refine ⟨_, _, Blk.ld (hp.get (i := 2) rfl) TTok rfl rfl, ?_⟩; conv => whnf)
      (refine hKq _ _ _ (.refl _) ?_; clear hKq Kq; conv => whnf)
      (refine VSeq.mk fun Kq hKq => ?_; conv => whnf)
      (refine And.intro (fun _ => ?_) (fun h => absurd (by first | rfl | assumption | omega | decide) (of_decide_eq_false h)); conv => whnf)
      (refine hKq _ _ _ (.refl _) ?_; clear hKq Kq; conv => whnf)
      (refine VSeq.mk fun Kq hKq => ?_; conv => whnf)
      (refine And.intro (fun _ => ?_) (fun h => absurd (by first | rfl | assumption | omega | decide) (of_decide_eq_false h)); conv => whnf)
      (refine hKq _ _ _ (.refl _) ?_; clear hKq Kq; conv => whnf)
      (refine And.intro (fun _ => ?_) (fun h => absurd (by first | rfl | assumption | omega | decide) (of_decide_eq_false h)); conv => whnf)
      (refine hKq _ _ _ (.refl _) ?_; clear hKq Kq; conv => whnf)
      exact ⟨rfl, (hpM_base hpA hp).ext⟩
    | false =>
      have hro2 := hro rfl
      dsimp only at hro2
      obtain ⟨hlt1, rfl, rfl, rfl, hser, hlast, hsil, hnon⟩ := hro2
      obtain ⟨g, rfl, hcell⟩ := HR_get hr1
      have hneg : g ≠ q7 := hneO _ _ _ rfl
      clear hro hgo hr1
      (refine hp.kalloc z34 fun al34 w hp hx => ?_; conv => whnf)
      (refine hp.kstA TTok rfl 0 rfl rfl (oneC_of rfl) (by rfl) fun w hp => ?_; try simp only [List.set_cons_zero, List.set_cons_succ, EV.val] at hp; conv => whnf)
      (refine hKq _ _ _ (.refl _) ?_; clear hKq Kq; conv => whnf)
      (refine VSeq.mk fun Kq hKq => ?_; conv => whnf)
      (refine VSeq.mk fun Kq hKq => ?_; conv => whnf)
      (refine VSeq.mk fun Kq hKq => ?_; conv => whnf)
      (refine hKq _ _ _ (.refl _) ?_; clear hKq Kq; conv => whnf)
      (refine VSeq.mk fun Kq hKq => ?_; conv => whnf)
      (refine And.intro (fun h => absurd (of_decide_eq_true h) (by first | (intro h2; exact absurd rfl h2) | omega | decide)) (fun _ => ?_); conv => whnf)
      (refine hKq _ _ _ (.refl _) ?_; clear hKq Kq; conv => whnf)
      (refine VSeq.mk fun Kq hKq => ?_; conv => whnf)
      (refine And.intro (fun h => absurd (of_decide_eq_true h) (by first | (intro h2; exact absurd rfl h2) | omega | decide)) (fun _ => ?_); conv => whnf)
      (refine ⟨_, _, Blk.ldV (vs := [_, _, _, _, _, _, _, _, _, _, _, _, _]) (hp.get (i := 0) rfl) TTok rfl rfl rfl, ?_⟩; conv => whnf)
      refine V.CallsUse (sC (slv_n hs1 hp.extM hne)) fun w hx => ?_
      have hp := hp.call hx
      conv => whnf
      clear sC sW2 sR
      (refine hKq _ _ _ (.refl _) ?_; clear hKq Kq; conv => whnf)
      (refine VSeq.mk fun Kq hKq => ?_; conv => whnf)
      (refine And.intro (fun h => absurd (of_decide_eq_true h) (by first | (intro h2; exact absurd rfl h2) | omega | decide)) (fun _ => ?_); conv => whnf)
      (refine hKq _ _ _ (.refl _) ?_; clear hKq Kq; conv => whnf)
      (refine And.intro (fun h => absurd (of_decide_eq_true h) (by first | (intro h2; exact absurd rfl h2) | omega | decide)) (fun _ => ?_); conv => whnf)
      (refine ⟨_, _, Blk.ld (hp.get (i := 1) rfl) TTok rfl rfl, ?_⟩; conv => whnf)
      (refine hKq _ _ _ (.refl _) ?_; clear hKq Kq; conv => whnf)
      (refine And.intro (fun h => absurd (of_decide_eq_true h) (by first | (intro h2; exact absurd rfl h2) | omega | decide)) (fun _ => ?_); conv => whnf)
      (refine hKq _ _ _ (.refl _) ?_; clear hKq Kq; conv => whnf)
      (refine VSeq.mk fun Kq hKq => ?_; conv => whnf)
      (refine VSeq.mk fun Kq hKq => ?_; conv => whnf)
      (refine ⟨_, _, Blk.ld (hp.get (i := 0) rfl) TTok rfl rfl, ?_⟩; conv => whnf)
      (refine hKq _ _ _ (.refl _) ?_; clear hKq Kq; conv => whnf)
      (refine And.intro (fun h => absurd h (by decide)) (fun _ => ?_); conv => whnf)
      (refine hKq _ _ _ (.refl _) ?_; clear hKq Kq; conv => whnf)
      (refine VSeq.mk fun Kq hKq => ?_; conv => whnf)
      (refine VSeq.mk fun Kq hKq => ?_; conv => whnf)
      (refine VSeq.mk fun Kq hKq => ?_; conv => whnf)
      (refine hKq _ _ _ (.refl _) ?_; clear hKq Kq; conv => whnf)
      (refine VSeq.mk fun Kq hKq => ?_; conv => whnf)
      (refine And.intro (fun _ => ?_) (fun h => absurd h (by decide)); conv => whnf)
      (refine hKq _ _ _ (.refl _) ?_; clear hKq Kq; conv => whnf)
      have hlt2 := hlt1 rfl
      have hpa := ad_nn y.a yo.a
      have hpb := ad_nn y.b yo.b
      (refine And.intro (fun h => absurd (of_decide_eq_true h) (by first | (intro h2; exact absurd rfl h2) | omega | decide)) (fun _ => ?_); conv => whnf)
      refine And.intro (fun h => absurd (of_decide_eq_true h) ((show ¬ ((1 : Nat) : Int) = 0 by decide))) (fun _ => ?_)
      conv => whnf
      refine hKq _ _ _ (.refl _) ?_
      clear hKq Kq
      conv => whnf
      refine hKq _ _ _ (.refl _) ?_
      clear hKq Kq
      conv => whnf
      refine VSeq.mk fun Kq hKq => ?_
      conv => whnf
      (refine ⟨_, _, Blk.ldV (vs := [_, _, _, _, _, _, _, _, _, _, _, _, _]) (hp.get (i := 0) rfl) TTok rfl rfl rfl, ?_⟩; conv => whnf)
      (refine hp.kstA TTok rfl 1 rfl rfl (oneC_of rfl) (by rfl) fun w hp => ?_; try simp only [List.set_cons_zero, List.set_cons_succ, EV.val] at hp; conv => whnf)
      (refine hKq _ _ _ (.refl _) ?_; clear hKq Kq; conv => whnf)
      (refine VSeq.mk fun Kq hKq => ?_; conv => whnf)
      (refine VSeq.mk fun Kq hKq => ?_; conv => whnf)
      (refine hKq _ _ _ (.refl _) ?_; clear hKq Kq; conv => whnf)
      refine And.intro (fun h => absurd (of_decide_eq_true h) ((show ¬ ((1 : Nat) : Int) = 0 by decide))) (fun _ => ?_)
      conv => whnf
      refine hKq _ _ _ (.refl _) ?_
      clear hKq Kq
      conv => whnf
      refine VSeq.mk fun Kq hKq => ?_
      conv => whnf
      skip
      refine ⟨0, ⟨by first | rfl | omega, by show 0 < 1; decide⟩, ?_⟩
      conv => whnf
      skip
      refine ⟨_, _, run_ldN TTok rfl (vs := hopF (y.a, y.b, askP y.ser)) rfl fun j v hj => by rw [addM_eq, Nat.zero_mul, Nat.zero_add]; exact cell_n (hcell j v hj) hp.extM hneg, ?_⟩
      conv => whnf
      dsimp only [hopF, hopC, askP, Ad.z]
      (refine hp.kalloc z63 fun al63 w hp hx => ?_; conv => whnf)
      (refine hp.kstA TTok rfl 0 rfl rfl (oneC_of rfl) (by rfl) fun w hp => ?_; try simp only [List.set_cons_zero, List.set_cons_succ, EV.val] at hp; conv => whnf)
      (refine hKq _ _ _ (.refl _) ?_; clear hKq Kq; conv => whnf)
      (refine VSeq.mk fun Kq hKq => ?_; conv => whnf)
      (refine VSeq.mk fun Kq hKq => ?_; conv => whnf)
      (refine VSeq.mk fun Kq hKq => ?_; conv => whnf)
      (refine ⟨_, _, Blk.ldV (vs := [_, _]) (hp.get (i := 0) rfl) TTok rfl rfl rfl, ?_⟩; conv => whnf)
      (refine ⟨0, ⟨rfl, by decide⟩, ?_⟩; conv => whnf)
      (refine ⟨_, _, Blk.ldV (vs := [_, _]) (hp.get (i := 2) rfl) TTok rfl rfl rfl, ?_⟩; conv => whnf)
      refine ⟨_, _, hpa w _ _, ?_⟩
      conv => whnf
      refine hKq _ _ _ (.refl _) ?_
      clear hKq Kq
      conv => whnf
      refine VSeq.mk fun Kq hKq => ?_
      conv => whnf
      (refine And.intro (fun h => absurd h (by decide)) (fun _ => ?_); conv => whnf)
      (refine ⟨_, _, Blk.ldV (vs := [_, _]) (hp.get (i := 0) rfl) TTok rfl rfl rfl, ?_⟩; conv => whnf)
      (refine ⟨1, ⟨rfl, by decide⟩, ?_⟩; conv => whnf)
      (refine ⟨_, _, Blk.ldV (vs := [_, _]) (hp.get (i := 2) rfl) TTok rfl rfl rfl, ?_⟩; conv => whnf)
      refine ⟨_, _, hpb w _ _, ?_⟩
      conv => whnf
      refine hKq _ _ _ (.refl _) ?_
      clear hKq Kq
      conv => whnf
      refine VSeq.mk fun Kq hKq => ?_
      conv => whnf
      by_cases hl0 : 0 ≤ last
      · have hl1 := hlast hl0
        (refine And.intro (fun h => absurd h (by decide)) (fun _ => ?_); conv => whnf)
        (refine ⟨_, _, Blk.ld (hp.get (i := 0) rfl) TTok rfl rfl, ?_⟩; conv => whnf)
        (refine hKq _ _ _ (.refl _) ?_; clear hKq Kq; conv => whnf)
        (refine VSeq.mk fun Kq hKq => ?_; conv => whnf)
        (refine And.intro (fun h => absurd (of_decide_eq_true h) (by first | (intro h2; exact absurd rfl h2) | omega | decide)) (fun _ => ?_); conv => whnf)
        (refine ⟨_, _, Blk.ld (hp.get (i := 0) rfl) TTok rfl rfl, ?_⟩; conv => whnf)
        (refine hKq _ _ _ (.refl _) ?_; clear hKq Kq; conv => whnf)
        (refine And.intro (fun h => absurd (of_decide_eq_true h) (by first | (intro h2; exact absurd rfl h2) | omega | decide)) (fun _ => ?_); conv => whnf)
        (refine And.intro (fun _ => ?_) (fun h => absurd (by first | rfl | assumption | omega | decide) (of_decide_eq_false h)); conv => whnf)
        (refine Or.inl (And.intro (by first | omega | decide) ?_); conv => whnf)
        (refine And.intro (fun h => absurd (of_decide_eq_true h) (by first | (intro h2; exact absurd rfl h2) | omega | decide)) (fun _ => ?_); conv => whnf)
        (refine Or.inl (And.intro (by first | omega | decide) ?_); conv => whnf)
        (refine hKq _ _ _ (.refl _) ?_; clear hKq Kq; conv => whnf)
        (refine And.intro (fun h => absurd (of_decide_eq_true h) (by first | (intro h2; exact absurd rfl h2) | omega | decide)) (fun _ => ?_); conv => whnf)
        (refine hKq _ _ _ (.refl _) ?_; clear hKq Kq; conv => whnf)
        (refine VSeq.mk fun Kq hKq => ?_; conv => whnf)
        refine v_mixA TTok FFok mixed [(0, false), (1, false), (2, false), (3, false), (4, false), (5, false)] (by kernel_rfl) ?_
        conv => whnf
        (refine ⟨_, fun w' hx' => Blk.ld (Blk.ext (hp.get (i := 0) rfl) hx') TTok rfl rfl, ?_⟩; conv => whnf)
        (intro w hx; try (have hp := hp.call hx); conv => whnf)
        (refine hKq _ _ _ (.refl _) ?_; clear hKq Kq; conv => whnf)
        (refine VSeq.mk fun Kq hKq => ?_; conv => whnf)
        (refine VSeq.mk fun Kq hKq => ?_; conv => whnf)
        (refine hKq _ _ _ (.refl _) ?_; clear hKq Kq; conv => whnf)
        (refine And.intro (fun _ => ?_) (fun h => absurd h (by decide)); conv => whnf)
        refine hK0 _ _ _ (V.Sub.refl _) ?_
        conv => whnf
        (refine Or.inl (And.intro (by first | omega | decide) ?_); conv => whnf)
        exact ⟨mm - 1, _, by omega, ⟨i + 1, ⟨y.a, y.b, vnow, vnxt, vtil, vser, false, vnoise, vword, vfresh, vasked⟩, T, y.ser, p1, c1, by omega, rfl, hsil rfl, hpM_step hpA (hp.pick [2] (by decide))⟩, sub_cons rfl (sub_cons rfl (sub_cons rfl (sub_cons rfl (sub_cons rfl (sub_cons rfl (sub_cons rfl sub_nil))))))⟩
      · (refine And.intro (fun h => absurd h (by decide)) (fun _ => ?_); conv => whnf)
        (refine ⟨_, _, Blk.ld (hp.get (i := 0) rfl) TTok rfl rfl, ?_⟩; conv => whnf)
        (refine hKq _ _ _ (.refl _) ?_; clear hKq Kq; conv => whnf)
        (refine VSeq.mk fun Kq hKq => ?_; conv => whnf)
        (refine And.intro (fun h => absurd (of_decide_eq_true h) (by first | (intro h2; exact absurd rfl h2) | omega | decide)) (fun _ => ?_); conv => whnf)
        (refine ⟨_, _, Blk.ld (hp.get (i := 0) rfl) TTok rfl rfl, ?_⟩; conv => whnf)
        (refine hKq _ _ _ (.refl _) ?_; clear hKq Kq; conv => whnf)
        (refine And.intro (fun h => absurd (of_decide_eq_true h) (by first | (intro h2; exact absurd rfl h2) | omega | decide)) (fun _ => ?_); conv => whnf)
        (refine And.intro (fun h => absurd (of_decide_eq_true h) (by first | (intro h2; exact absurd rfl h2) | omega | decide)) (fun _ => ?_); conv => whnf)
        (refine hKq _ _ _ (.refl _) ?_; clear hKq Kq; conv => whnf)
        (refine hKq _ _ _ (.refl _) ?_; clear hKq Kq; conv => whnf)
        (refine VSeq.mk fun Kq hKq => ?_; conv => whnf)
        refine v_mixA TTok FFok mixed [(0, false), (1, false), (2, false), (3, false), (4, false), (5, false)] (by kernel_rfl) ?_
        conv => whnf
        (refine ⟨_, fun w' hx' => Blk.ld (Blk.ext (hp.get (i := 0) rfl) hx') TTok rfl rfl, ?_⟩; conv => whnf)
        (intro w hx; try (have hp := hp.call hx); conv => whnf)
        (refine hKq _ _ _ (.refl _) ?_; clear hKq Kq; conv => whnf)
        (refine VSeq.mk fun Kq hKq => ?_; conv => whnf)
        (refine VSeq.mk fun Kq hKq => ?_; conv => whnf)
        (refine hKq _ _ _ (.refl _) ?_; clear hKq Kq; conv => whnf)
        (refine And.intro (fun _ => ?_) (fun h => absurd h (by decide)); conv => whnf)
        refine hK0 _ _ _ (V.Sub.refl _) ?_
        conv => whnf
        (refine Or.inl (And.intro (by first | omega | decide) ?_); conv => whnf)
        exact ⟨mm - 1, _, by omega, ⟨i + 1, ⟨y.a, y.b, vnow, vnxt, vtil, vser, false, vnoise, vword, vfresh, vasked⟩, T, y.ser, p1, c1, by omega, rfl, hsil rfl, hpM_step hpA (hp.pick [2] (by decide))⟩, sub_cons rfl (sub_cons rfl (sub_cons rfl (sub_cons rfl (sub_cons rfl (sub_cons rfl (sub_cons rfl sub_nil))))))⟩
  · have hlt := of_decide_eq_false hlt
    conv => whnf
    clear hKq Kq
    refine hKq _ _ _ (.refl _) ?_
    clear hKq Kq
    conv => whnf
    refine VSeq.mk fun Kq hKq => ?_
    conv => whnf
    refine hKq _ _ _ (.refl _) ?_
    clear hKq Kq
    conv => whnf
    exfalso
    have := (hEn.sil rfl).2.2.2.2
    omega
theorem ends_live {W : World} {vn ve : Value} (p : Nat) (nb : List UInt8) (evs : List Ev) (hn : SLv W vn (bytesV nb)) (he : SLn W 5 ve (evs.map Ev.c)) (n : Nat) (hn255 : n < 256) (y0 : Wt) (B : Nat) (hd : Dr B y0) (hB : B ≤ 30) (htil : y0.til ≤ y0.now + 30000) (s1 : ∀ {W : World}, SLv W vn (bytesV nb) → SLn W 5 ve (evs.map Ev.c) → Calls Tryz.prog 30 #[.agg #[.int .u8 p, vn, ve]] W fun e w' => ∃ u, e = .returned u ∧ ∃ v', u = .agg (y0.c v').toArray ∧ Ext W w' ∧ SLw W w' v' (iv y0.asked)) (hgn : y0.gone = false) :
    Calls Tryz.prog 7 #[.agg #[.int .u8 p, vn, ve], .int .u8 n, .bool false] W fun e w' => e = .returned (.bool true) ∧ Ext W w' := by
  obtain ⟨x, hsw, xo, hxt, hE0⟩ := En.beginN y0.til hd hB hgn
  have sS := fun {W : World} {v : Value} hv => SwE_c (W := W) (v := v) y0 (hd.sy hB).ok hv y0.now y0.a.h y0.b.h y0.a.p y0.b.p (hd.sy hB).ok.a (hd.sy hB).ok.b
  have hsw2 : swE y0 y0.now ⟨y0.a.h, y0.a.p⟩ ⟨y0.b.h, y0.b.p⟩ = (x, 0) := hsw
  rw [hsw2] at sS
  have hxl := hE0.live
  clear hsw hsw2 hxt
  obtain ⟨xa, xb, xnow, xnxt, xtil, xser, xgone, xnoise, xword, xfresh, xasked⟩ := x
  obtain rfl : xgone = false := hxl
  dsimp only [Wt.c] at sS
  rw [hgn] at sS
  have hsy := hd.sy hB
  have yo := hsy.ok
  have hn1 := hsy.now
  have hn0 := hsy.v.now
  dsimp only [Wt.c] at s1
  rw [hgn] at s1
  refine v_reads (args := [.agg #[.int .u8 p, vn, ve], .int .u8 n, .bool false]) TTok FFok Tryz.func7 rfl rfl ?_
  conv => whnf
  refine VSeq.mk fun Kq hKq => ?_
  conv => whnf
  have hp := Hp.nil W
  refine hp.kboxA fun q3 w hp hx => ?_
  conv => whnf
  refine hKq _ _ _ (.refl _) ?_
  clear hKq Kq
  conv => whnf
  refine VSeq.mk fun Kq hKq => ?_
  conv => whnf
  refine VSeq.mk fun Kq hKq => ?_
  conv => whnf
  (refine V.CallW.out ?_; (conv => arg 3; dsimp only [EV.val, List.toList_toArray, List.nil_append, List.append_nil, List.cons_append]); (with_reducible refine V.PureF.useW (wakes_p) fun w hx => ?_); try (have hp := hp.call hx); conv => whnf)
  (refine hKq _ _ _ (.refl _) ?_; clear hKq Kq; conv => whnf)
  (refine And.intro (fun h => absurd h (by decide)) (fun _ => ?_); conv => whnf)
  (refine hKq _ _ _ (.refl _) ?_; clear hKq Kq; conv => whnf)
  (refine VSeq.mk fun Kq hKq => ?_; conv => whnf)
  (refine ⟨_, _, Blk.ldV (vs := [_, _, _]) (hp.get (i := 0) rfl) TTok rfl rfl rfl, ?_⟩; conv => whnf)
  refine Calls.mono (s1 (hn.ext hp.ext) (he.ext hp.ext)) ?_
  rintro _ w ⟨_, rfl, v0, rfl, hx, hs0⟩
  refine ⟨_, rfl, ?_⟩
  have hp := hp.pushR hx hs0
  obtain ⟨p0, c0, rfl⟩ := hs0.shape
  clear s1 hs0
  conv => whnf
  (refine hp.kalloc z34 fun al34 w hp hx => ?_; conv => whnf)
  (refine hp.kstA TTok rfl 0 rfl rfl (oneC_of rfl) (by rfl) fun w hp => ?_; try simp only [List.set_cons_zero, List.set_cons_succ, EV.val] at hp; conv => whnf)
  (refine hKq _ _ _ (.refl _) ?_; clear hKq Kq; conv => whnf)
  (refine VSeq.mk fun Kq hKq => ?_; conv => whnf)
  (refine VSeq.mk fun Kq hKq => ?_; conv => whnf)
  (refine ⟨_, _, Blk.ld (hp.get (i := 0) rfl) TTok rfl rfl, ?_⟩; conv => whnf)
  (refine hKq _ _ _ (.refl _) ?_; clear hKq Kq; conv => whnf)
  (refine And.intro (fun h => absurd h (by decide)) (fun _ => ?_); conv => whnf)
  (refine hKq _ _ _ (.refl _) ?_; clear hKq Kq; conv => whnf)
  (refine VSeq.mk fun Kq hKq => ?_; conv => whnf)
  (refine ⟨_, _, Blk.ld (hp.get (i := 0) rfl) TTok rfl rfl, ?_⟩; conv => whnf)
  (refine hKq _ _ _ (.refl _) ?_; clear hKq Kq; conv => whnf)
  (refine VSeq.mk fun Kq hKq => ?_; conv => whnf)
  (refine VSeq.mk fun Kq hKq => ?_; conv => whnf)
  (refine hKq _ _ _ (.refl _) ?_; clear hKq Kq; conv => whnf)
  (refine And.intro (fun _ => ?_) (fun h => absurd h (by decide)); conv => whnf)
  (refine VSeq.mk fun Kq hKq => ?_; conv => whnf)
  (refine ⟨_, _, Blk.ldV (vs := [_, _, _, _, _, _, _, _, _, _, _, _, _]) (hp.get (i := 0) rfl) TTok rfl rfl rfl, ?_⟩; conv => whnf)
  (refine ⟨_, _, Blk.ld (hp.get (i := 0) rfl) TTok rfl rfl, ?_⟩; conv => whnf)
  (refine ⟨_, _, Blk.ldV (vs := [_, _, _, _]) (hp.get (i := 0) rfl) TTok rfl rfl rfl, ?_⟩; conv => whnf)
  obtain ⟨q7, rfl⟩ : ∃ q, q = al34 := ⟨al34, rfl⟩
  refine ResW.monoW (sS (hp.get (i := 1) rfl)) fun w p1 c1 hx hs1 => ?_
  refine ⟨_, rfl, ?_⟩
  have hp := hp.pushR hx hs1
  conv => whnf
  clear sS
  (refine hp.kalloc z34 fun al34 w hp hx => ?_; conv => whnf)
  (refine hp.kstA TTok rfl 0 rfl rfl (oneC_of rfl) (by rfl) fun w hp => ?_; try simp only [List.set_cons_zero, List.set_cons_succ, EV.val] at hp; conv => whnf)
  (refine hKq _ _ _ (.refl _) ?_; clear hKq Kq; conv => whnf)
  (refine VSeq.mk fun Kq hKq => ?_; conv => whnf)
  (refine hKq _ _ _ (.refl _) ?_; clear hKq Kq; conv => whnf)
  (refine And.intro (fun _ => ?_) (fun h => absurd (by first | rfl | assumption | omega | decide) (of_decide_eq_false h)); conv => whnf)
  (refine ⟨_, _, Blk.ldV (vs := [_, _, _, _, _, _, _, _, _, _, _, _, _]) (hp.get (i := 0) rfl) TTok rfl rfl rfl, ?_⟩; conv => whnf)
  (refine hp.kstA TTok rfl 2 rfl rfl (oneC_of rfl) (by rfl) fun w hp => ?_; try simp only [List.set_cons_zero, List.set_cons_succ, EV.val] at hp; conv => whnf)
  (refine hKq _ _ _ (.refl _) ?_; clear hKq Kq; conv => whnf)
  (refine VSeq.mk fun Kq hKq => ?_; conv => whnf)
  (refine hKq _ _ _ (.refl _) ?_; clear hKq Kq; conv => whnf)
  (refine VSeq.mk fun Kq hKq => ?_; conv => whnf)
  (refine VSeq.mk fun Kq hKq => ?_; conv => whnf)
  (refine hKq _ _ _ (.refl _) ?_; clear hKq Kq; conv => whnf)
  refine ⟨fun mm e w' => ∃ (i : Nat) (y : Wt) (last lid : Int) (ps : Option Addr) (cs : Nat), mm + i = 20 ∧ e = [(1, .v (.int .u8 n)), (2, .v (.bool false)), (7, .v (.pointer (some ⟨q7, 0, none⟩))), (11, .v (.int .i64 y0.til)), (14, .v (.int .i64 last)), (15, .v (.int .i64 lid)), (71, .v (.int .i64 i))] ∧ En false y0.til y0.now i y last lid ∧ HpM [] W w' [blk q7 [.string y.a.h, .int .i64 y.a.p, .string y.b.h, .int .i64 y.b.p, .int .i64 y.now, .int .i64 y.nxt, .int .i64 y.til, .int .i64 y.ser, .bool false, .string y.noise, .string y.word, .string y.fresh, .slice ps (iv y.asked).length cs] 34, ritem (.slice ps (iv y.asked).length cs) (iv y.asked)],
    ⟨20, _, ⟨0, ⟨xa, xb, xnow, xnxt, xtil, xser, false, xnoise, xword, xfresh, xasked⟩, -1, -1, _, _, by omega, rfl, hE0, hp.pick [2, 1] (by decide)⟩, sub_cons rfl (sub_cons rfl (sub_cons rfl (sub_cons rfl (sub_cons rfl (sub_cons rfl (sub_cons rfl sub_nil))))))⟩, ?_⟩
  clear hE0 hp hx
  repeat clear hp
  rintro mm _ w ⟨i, y, last, lid, ps, cs, hmm, rfl, hEn, hp⟩
  conv => whnf
  refine VSeq.mk fun Kq hKq => ?_
  conv => whnf
  refine hKq _ _ _ (.refl _) ?_
  clear hKq Kq
  conv => whnf
  refine VSeq.mk fun Kq hKq => ?_
  conv => whnf
  skip
  refine ⟨fun hlt => ?_, fun hlt => ?_⟩
  · have hlt := of_decide_eq_true hlt
    conv => whnf
    refine hKq _ _ _ (.refl _) ?_
    clear hKq Kq
    conv => whnf
    refine VSeq.mk fun Kq hKq => ?_
    conv => whnf
    refine VSeq.mk fun Kq hKq => ?_
    conv => whnf
    rename_i K0 hK0
    have hi20 : i < 20 := by omega
    have hyl := hEn.live
    have yo := hEn.ok
    have hb := hEn.bounds hi20
    have hw := hEn.wake hi20
    have hte := hEn.timeEq hi20
    have hva := hEn.val hi20
    have hgo := hEn.gone hi20
    have hro := hEn.round hi20
    have hto := timeW_out y (nextT y)
    have hlid := hEn.lid
    have hys := hEn.v.ser
    have hys2 := hEn.ser
    have hyn := hEn.v.now
    obtain ⟨T, hT⟩ : ∃ T, nextT y = T := ⟨_, rfl⟩
    rw [hT] at hb hw hte hva hgo hro hto
    obtain ⟨⟨V, O⟩, hV⟩ : ∃ r, timeW y T = r := ⟨_, rfl⟩
    rw [hV] at hte hva hgo hro hto
    clear hV hT
    dsimp only at hte hva hgo hro hto
    obtain ⟨va, vb, vnow, vnxt, vtil, vser, vgone, vnoise, vword, vfresh, vasked⟩ := V
    have Vo := hva.2.ok hva.1
    have sW := fun {W : World} hv => Wake12_c (W := W) (v := .slice ps (iv y.asked).length cs) y yo hv
    have sT := fun {W : World} hv => TimeE_c (W := W) (v := .slice ps (iv y.asked).length cs) y yo hv T
    have sC := fun {W : World} {v : Value} hv => Check12_c (W := W) (v := v) _ Vo hv
    have sW2 := fun {W : World} {v : Value} hv => Wake12_c (W := W) (v := v) _ Vo hv
    have sR := fun {W : World} {v : Value} hv => RestE_c (W := W) (v := v) _ Vo hv T (⟨#[48, 48, 48, 48]⟩ : ByteArray) (by unfold SzS maxLen; decide)
    rw [hw] at sW
    rw [hte] at sT
    rw [chkW_of hva.1] at sC
    dsimp only [Wt.c] at sW sT sC sW2 sR
    rw [hyl] at sW sT
    (refine ⟨_, _, Blk.ldV (vs := [_, _, _, _, _, _, _, _, _, _, _, _, _]) (hp.get (i := 0) rfl) TTok rfl rfl rfl, ?_⟩; conv => whnf)
    refine V.CallsUse (sW (hp.get (i := 1) rfl)) fun w hx => ?_
    have hp := hp.call hx
    conv => whnf
    (refine hKq _ _ _ (.refl _) ?_; clear hKq Kq; conv => whnf)
    (refine VSeq.mk fun Kq hKq => ?_; conv => whnf)
    (refine ⟨_, _, Blk.ldV (vs := [_, _, _, _, _, _, _, _, _, _, _, _, _]) (hp.get (i := 0) rfl) TTok rfl rfl rfl, ?_⟩; conv => whnf)
    refine ResE.monoW (sT (hp.get (i := 1) rfl)) fun w p1 c1 p2 c2 hx hs1 hr1 => ?_
    refine ⟨_, rfl, ?_⟩
    have hq7 : q7 < _ := Blk.lt (hp.get (i := 0) rfl)
    have hne : ∀ a k c, Value.slice p1 (iv vasked).length c1 = .slice (some a) k c → a.block ≠ q7 := fun a k c h => Nat.ne_of_gt (Nat.lt_of_lt_of_le hq7 (hs1.f a k c h))
    have hneO : ∀ a k c, Value.slice p2 O.length c2 = .slice (some a) k c → a.block ≠ q7 := fun a k c h => Nat.ne_of_gt (Nat.lt_of_lt_of_le hq7 (hr1.f a k c h))
    have hpA := (hp.pushR hx hs1).pick [1, 0] (by decide)
    simp only [List.filterMap_cons, List.filterMap_nil, List.getElem?_cons_zero, List.getElem?_cons_succ] at hpA
    have hs1 := hs1.s
    have hr1 := hr1.s
    clear hp sW sT
    repeat clear hp
    have hp := hpM_only hpA
    conv => whnf
    cases vgone with
    | true =>
      cases (hgo rfl).1
    | false =>
      have hro2 := hro rfl
      dsimp only at hro2
      obtain ⟨hlt1, rfl, rfl, rfl, hser, hlast, hsil, hnon⟩ := hro2
      obtain ⟨g, rfl, hcell⟩ := HR_get hr1
      have hneg : g ≠ q7 := hneO _ _ _ rfl
      clear hro hgo hr1
      (refine hp.kalloc z34 fun al34 w hp hx => ?_; conv => whnf)
      (refine hp.kstA TTok rfl 0 rfl rfl (oneC_of rfl) (by rfl) fun w hp => ?_; try simp only [List.set_cons_zero, List.set_cons_succ, EV.val] at hp; conv => whnf)
      (refine hKq _ _ _ (.refl _) ?_; clear hKq Kq; conv => whnf)
      (refine VSeq.mk fun Kq hKq => ?_; conv => whnf)
      (refine VSeq.mk fun Kq hKq => ?_; conv => whnf)
      (refine VSeq.mk fun Kq hKq => ?_; conv => whnf)
      (refine hKq _ _ _ (.refl _) ?_; clear hKq Kq; conv => whnf)
      (refine VSeq.mk fun Kq hKq => ?_; conv => whnf)
      (refine And.intro (fun h => absurd (of_decide_eq_true h) (by first | (intro h2; exact absurd rfl h2) | omega | decide)) (fun _ => ?_); conv => whnf)
      (refine hKq _ _ _ (.refl _) ?_; clear hKq Kq; conv => whnf)
      (refine VSeq.mk fun Kq hKq => ?_; conv => whnf)
      (refine And.intro (fun h => absurd (of_decide_eq_true h) (by first | (intro h2; exact absurd rfl h2) | omega | decide)) (fun _ => ?_); conv => whnf)
      (refine ⟨_, _, Blk.ldV (vs := [_, _, _, _, _, _, _, _, _, _, _, _, _]) (hp.get (i := 0) rfl) TTok rfl rfl rfl, ?_⟩; conv => whnf)
      refine V.CallsUse (sC (slv_n hs1 hp.extM hne)) fun w hx => ?_
      have hp := hp.call hx
      conv => whnf
      clear sC sW2 sR
      (refine hKq _ _ _ (.refl _) ?_; clear hKq Kq; conv => whnf)
      (refine VSeq.mk fun Kq hKq => ?_; conv => whnf)
      (refine And.intro (fun h => absurd (of_decide_eq_true h) (by first | (intro h2; exact absurd rfl h2) | omega | decide)) (fun _ => ?_); conv => whnf)
      (refine hKq _ _ _ (.refl _) ?_; clear hKq Kq; conv => whnf)
      (refine And.intro (fun h => absurd (of_decide_eq_true h) (by first | (intro h2; exact absurd rfl h2) | omega | decide)) (fun _ => ?_); conv => whnf)
      (refine ⟨_, _, Blk.ld (hp.get (i := 1) rfl) TTok rfl rfl, ?_⟩; conv => whnf)
      (refine hKq _ _ _ (.refl _) ?_; clear hKq Kq; conv => whnf)
      (refine And.intro (fun h => absurd (of_decide_eq_true h) (by first | (intro h2; exact absurd rfl h2) | omega | decide)) (fun _ => ?_); conv => whnf)
      (refine hKq _ _ _ (.refl _) ?_; clear hKq Kq; conv => whnf)
      (refine VSeq.mk fun Kq hKq => ?_; conv => whnf)
      (refine VSeq.mk fun Kq hKq => ?_; conv => whnf)
      (refine ⟨_, _, Blk.ld (hp.get (i := 0) rfl) TTok rfl rfl, ?_⟩; conv => whnf)
      (refine hKq _ _ _ (.refl _) ?_; clear hKq Kq; conv => whnf)
      (refine And.intro (fun h => absurd h (by decide)) (fun _ => ?_); conv => whnf)
      (refine hKq _ _ _ (.refl _) ?_; clear hKq Kq; conv => whnf)
      (refine VSeq.mk fun Kq hKq => ?_; conv => whnf)
      (refine VSeq.mk fun Kq hKq => ?_; conv => whnf)
      (refine VSeq.mk fun Kq hKq => ?_; conv => whnf)
      (refine hKq _ _ _ (.refl _) ?_; clear hKq Kq; conv => whnf)
      (refine VSeq.mk fun Kq hKq => ?_; conv => whnf)
      (refine And.intro (fun h => absurd h (by decide)) (fun _ => ?_); conv => whnf)
      (refine hKq _ _ _ (.refl _) ?_; clear hKq Kq; conv => whnf)
      obtain ⟨x, hE, xo, hxt, hxm, hEx⟩ := hnon rfl n (by omega)
      have hxl := hEx.live
      obtain ⟨xa, xb, xnow, xnxt, xtil, xser, xgone, xnoise, xword, xfresh, xasked⟩ := x
      obtain rfl : xgone = false := hxl
      have hcm : decide (y.ser ∈ xasked) = false := decide_eq_false hxm
      have hxt : xtil = T + n + 30000 := hxt
      have sH := fun {W : World} {v : Value} hv => HearE_c (W := W) (v := v) _ Vo hv (T + n) (y.b, y.a, p2 y.ser y.a) ⟨yo.b, yo.a, p2_ok yo.ser yo.a⟩
      rw [hE] at sH
      have sK := fun {W : World} {v : Value} hv => Contains_c (W := W) (v := v) (al := xasked) y.ser xo.len hv
      rw [hcm] at sK
      dsimp only [Wt.c, hopF, hopC, p2] at sH
      have hpa := ad_nn y.a yo.a
      have hpb := ad_nn y.b yo.b
      skip
      refine And.intro (fun h => absurd (of_decide_eq_true h) ((show ¬ ((1 : Nat) : Int) = 0 by decide))) (fun _ => ?_)
      conv => whnf
      refine hKq _ _ _ (.refl _) ?_
      clear hKq Kq
      conv => whnf
      refine hKq _ _ _ (.refl _) ?_
      clear hKq Kq
      conv => whnf
      refine VSeq.mk fun Kq hKq => ?_
      conv => whnf
      (refine ⟨_, _, Blk.ldV (vs := [_, _, _, _, _, _, _, _, _, _, _, _, _]) (hp.get (i := 0) rfl) TTok rfl rfl rfl, ?_⟩; conv => whnf)
      (refine hp.kstA TTok rfl 1 rfl rfl (oneC_of rfl) (by rfl) fun w hp => ?_; try simp only [List.set_cons_zero, List.set_cons_succ, EV.val] at hp; conv => whnf)
      (refine hKq _ _ _ (.refl _) ?_; clear hKq Kq; conv => whnf)
      (refine VSeq.mk fun Kq hKq => ?_; conv => whnf)
      (refine VSeq.mk fun Kq hKq => ?_; conv => whnf)
      (refine hKq _ _ _ (.refl _) ?_; clear hKq Kq; conv => whnf)
      refine And.intro (fun h => absurd (of_decide_eq_true h) ((show ¬ ((1 : Nat) : Int) = 0 by decide))) (fun _ => ?_)
      conv => whnf
      refine hKq _ _ _ (.refl _) ?_
      clear hKq Kq
      conv => whnf
      refine VSeq.mk fun Kq hKq => ?_
      conv => whnf
      skip
      refine ⟨0, ⟨by first | rfl | omega, by show 0 < 1; decide⟩, ?_⟩
      conv => whnf
      skip
      refine ⟨_, _, run_ldN TTok rfl (vs := hopF (y.a, y.b, askP y.ser)) rfl fun j v hj => by rw [addM_eq, Nat.zero_mul, Nat.zero_add]; exact cell_n (hcell j v hj) hp.extM hneg, ?_⟩
      conv => whnf
      dsimp only [hopF, hopC, askP, Ad.z]
      (refine hp.kalloc z63 fun al63 w hp hx => ?_; conv => whnf)
      (refine hp.kstA TTok rfl 0 rfl rfl (oneC_of rfl) (by rfl) fun w hp => ?_; try simp only [List.set_cons_zero, List.set_cons_succ, EV.val] at hp; conv => whnf)
      (refine hKq _ _ _ (.refl _) ?_; clear hKq Kq; conv => whnf)
      (refine VSeq.mk fun Kq hKq => ?_; conv => whnf)
      (refine VSeq.mk fun Kq hKq => ?_; conv => whnf)
      (refine VSeq.mk fun Kq hKq => ?_; conv => whnf)
      (refine ⟨_, _, Blk.ldV (vs := [_, _]) (hp.get (i := 0) rfl) TTok rfl rfl rfl, ?_⟩; conv => whnf)
      (refine ⟨0, ⟨rfl, by decide⟩, ?_⟩; conv => whnf)
      (refine ⟨_, _, Blk.ldV (vs := [_, _]) (hp.get (i := 2) rfl) TTok rfl rfl rfl, ?_⟩; conv => whnf)
      refine ⟨_, _, hpa w _ _, ?_⟩
      conv => whnf
      refine hKq _ _ _ (.refl _) ?_
      clear hKq Kq
      conv => whnf
      refine VSeq.mk fun Kq hKq => ?_
      conv => whnf
      (refine And.intro (fun h => absurd h (by decide)) (fun _ => ?_); conv => whnf)
      (refine ⟨_, _, Blk.ldV (vs := [_, _]) (hp.get (i := 0) rfl) TTok rfl rfl rfl, ?_⟩; conv => whnf)
      (refine ⟨1, ⟨rfl, by decide⟩, ?_⟩; conv => whnf)
      (refine ⟨_, _, Blk.ldV (vs := [_, _]) (hp.get (i := 2) rfl) TTok rfl rfl rfl, ?_⟩; conv => whnf)
      refine ⟨_, _, hpb w _ _, ?_⟩
      conv => whnf
      refine hKq _ _ _ (.refl _) ?_
      clear hKq Kq
      conv => whnf
      refine VSeq.mk fun Kq hKq => ?_
      conv => whnf
      by_cases hl0 : 0 ≤ last
      · have hl1 := hlast hl0
        (refine And.intro (fun h => absurd h (by decide)) (fun _ => ?_); conv => whnf)
        (refine ⟨_, _, Blk.ld (hp.get (i := 0) rfl) TTok rfl rfl, ?_⟩; conv => whnf)
        (refine hKq _ _ _ (.refl _) ?_; clear hKq Kq; conv => whnf)
        (refine VSeq.mk fun Kq hKq => ?_; conv => whnf)
        (refine And.intro (fun h => absurd (of_decide_eq_true h) (by first | (intro h2; exact absurd rfl h2) | omega | decide)) (fun _ => ?_); conv => whnf)
        (refine ⟨_, _, Blk.ld (hp.get (i := 0) rfl) TTok rfl rfl, ?_⟩; conv => whnf)
        (refine hKq _ _ _ (.refl _) ?_; clear hKq Kq; conv => whnf)
        (refine And.intro (fun h => absurd (of_decide_eq_true h) (by first | (intro h2; exact absurd rfl h2) | omega | decide)) (fun _ => ?_); conv => whnf)
        (refine And.intro (fun _ => ?_) (fun h => absurd (by first | rfl | assumption | omega | decide) (of_decide_eq_false h)); conv => whnf)
        (refine Or.inl (And.intro (by first | omega | decide) ?_); conv => whnf)
        (refine And.intro (fun h => absurd (of_decide_eq_true h) (by first | (intro h2; exact absurd rfl h2) | omega | decide)) (fun _ => ?_); conv => whnf)
        (refine Or.inl (And.intro (by first | omega | decide) ?_); conv => whnf)
        (refine hKq _ _ _ (.refl _) ?_; clear hKq Kq; conv => whnf)
        (refine And.intro (fun h => absurd (of_decide_eq_true h) (by first | (intro h2; exact absurd rfl h2) | omega | decide)) (fun _ => ?_); conv => whnf)
        (refine hKq _ _ _ (.refl _) ?_; clear hKq Kq; conv => whnf)
        (refine VSeq.mk fun Kq hKq => ?_; conv => whnf)
        refine v_mixA TTok FFok mixed [(0, false), (1, false), (2, false), (3, false), (4, false), (5, false)] (by kernel_rfl) ?_
        conv => whnf
        (refine ⟨_, fun w' hx' => Blk.ld (Blk.ext (hp.get (i := 0) rfl) hx') TTok rfl rfl, ?_⟩; conv => whnf)
        (intro w hx; try (have hp := hp.call hx); conv => whnf)
        (refine hKq _ _ _ (.refl _) ?_; clear hKq Kq; conv => whnf)
        (refine VSeq.mk fun Kq hKq => ?_; conv => whnf)
        (refine VSeq.mk fun Kq hKq => ?_; conv => whnf)
        (refine hKq _ _ _ (.refl _) ?_; clear hKq Kq; conv => whnf)
        (refine And.intro (fun h => absurd h (by decide)) (fun _ => ?_); conv => whnf)
        (refine hKq _ _ _ (.refl _) ?_; clear hKq Kq; conv => whnf)
        (refine VSeq.mk fun Kq hKq => ?_; conv => whnf)
        (refine ⟨_, _, Blk.ldV (vs := [_, _]) (hp.get (i := 0) rfl) TTok rfl rfl rfl, ?_⟩; conv => whnf)
        (refine ⟨_, _, Blk.ldV (vs := [_, _]) (hp.get (i := 0) rfl) TTok rfl rfl rfl, ?_⟩; conv => whnf)
        (refine ⟨_, _, Blk.ld (hp.get (i := 0) rfl) TTok rfl rfl, ?_⟩; conv => whnf)
        (refine ⟨_, _, Blk.ldV (vs := [_, _]) (hp.get (i := 0) rfl) TTok rfl rfl rfl, ?_⟩; conv => whnf)
        (refine ⟨_, _, bld61_0_1_6 _ _ _ _ _, ?_⟩; conv => whnf)
        (refine ⟨_, _, bld63_0_1_2 _ _ _ _ _ _ _ _ _ _ _ _ _, ?_⟩; conv => whnf)
        (refine hp.kalloc z63 fun al63 w hp hx => ?_; conv => whnf)
        (refine hp.kstA TTok rfl 0 rfl rfl (oneC_of rfl) (by rfl) fun w hp => ?_; try simp only [List.set_cons_zero, List.set_cons_succ, EV.val] at hp; conv => whnf)
        (refine hKq _ _ _ (.refl _) ?_; clear hKq Kq; conv => whnf)
        (refine VSeq.mk fun Kq hKq => ?_; conv => whnf)
        (refine ⟨_, _, Blk.ldV (vs := [_, _, _, _, _, _, _, _, _, _, _, _, _]) (hp.get (i := 3) rfl) TTok rfl rfl rfl, ?_⟩; conv => whnf)
        (refine Or.inl (And.intro (by first | omega | decide) ?_); conv => whnf)
        (refine Or.inl (And.intro (by first | omega | decide) ?_); conv => whnf)
        (refine ⟨_, _, Blk.ldV (vs := [_, _, _, _, _, _, _, _, _, _, _, _]) (hp.get (i := 0) rfl) TTok rfl rfl rfl, ?_⟩; conv => whnf)
        refine ResE.monoW (sH (slv_n hs1 hp.extM hne)) fun w p3 c3 p4 c4 hx hs3 _ => ?_
        refine ⟨_, rfl, ?_⟩
        have hp := hp.pushR hx hs3
        conv => whnf
        clear sH
        (refine hp.kstA TTok rfl 3 rfl rfl (oneC_of rfl) (by rfl) fun w hp => ?_; try simp only [List.set_cons_zero, List.set_cons_succ, EV.val] at hp; conv => whnf)
        (refine hKq _ _ _ (.refl _) ?_; clear hKq Kq; conv => whnf)
        (refine VSeq.mk fun Kq hKq => ?_; conv => whnf)
        (refine VSeq.mk fun Kq hKq => ?_; conv => whnf)
        (refine VSeq.mk fun Kq hKq => ?_; conv => whnf)
        (refine hKq _ _ _ (.refl _) ?_; clear hKq Kq; conv => whnf)
        (refine VSeq.mk fun Kq hKq => ?_; conv => whnf)
        (refine And.intro (fun h => absurd (of_decide_eq_true h) (by first | (intro h2; exact absurd rfl h2) | omega | decide)) (fun _ => ?_); conv => whnf)
        (refine hKq _ _ _ (.refl _) ?_; clear hKq Kq; conv => whnf)
        (refine VSeq.mk fun Kq hKq => ?_; conv => whnf)
        (refine And.intro (fun h => absurd (of_decide_eq_true h) (by first | (intro h2; exact absurd rfl h2) | omega | decide)) (fun _ => ?_); conv => whnf)
        (refine ⟨_, _, Blk.ld (hp.get (i := 3) rfl) TTok rfl rfl, ?_⟩; conv => whnf)
        (refine Or.inl (And.intro (by first | omega | decide) ?_); conv => whnf)
        (refine Or.inl (And.intro (by first | omega | decide) ?_); conv => whnf)
        (refine Or.inl (And.intro (by first | omega | decide) ?_); conv => whnf)
        (refine hKq _ _ _ (.refl _) ?_; clear hKq Kq; conv => whnf)
        (refine And.intro (fun h => absurd (of_decide_eq_true h) (by first | (intro h2; exact absurd rfl h2) | omega | decide)) (fun _ => ?_); conv => whnf)
        (refine ⟨_, _, Blk.ld (hp.get (i := 3) rfl) TTok rfl rfl, ?_⟩; conv => whnf)
        (refine ⟨_, _, Blk.ld (hp.get (i := 2) rfl) TTok rfl rfl, ?_⟩; conv => whnf)
        refine V.CallsUse (sK (hp.get (i := 0) rfl)) fun w hx => ?_
        have hp := hp.call hx
        conv => whnf
        clear sK
        (refine hKq _ _ _ (.refl _) ?_; clear hKq Kq; conv => whnf)
        (refine And.intro (fun h => absurd h (by decide)) (fun _ => ?_); conv => whnf)
        (refine hKq _ _ _ (.refl _) ?_; clear hKq Kq; conv => whnf)
        (refine ⟨_, _, Blk.ldV (vs := [_, _, _, _, _, _, _, _, _, _, _, _, _]) (hp.get (i := 3) rfl) TTok rfl rfl rfl, ?_⟩; conv => whnf)
        (refine hp.kstA TTok rfl 4 rfl rfl (oneC_of rfl) (by rfl) fun w hp => ?_; try simp only [List.set_cons_zero, List.set_cons_succ, EV.val] at hp; conv => whnf)
        refine hK0 _ _ _ (V.Sub.refl _) ?_
        conv => whnf
        (refine Or.inl (And.intro (by first | omega | decide) ?_); conv => whnf)
        exact ⟨mm - 1, _, by omega, ⟨i + 1, ⟨xa, xb, xnow, xnxt, xtil, xser, false, xnoise, xword, xfresh, xasked⟩, T, y.ser, p3, c3, by omega, rfl, hEx, (hpM_base hpA hp).pick [4, 0] (by decide)⟩, sub_cons rfl (sub_cons rfl (sub_cons rfl (sub_cons rfl (sub_cons rfl (sub_cons rfl (sub_cons rfl sub_nil))))))⟩
      · (refine And.intro (fun h => absurd h (by decide)) (fun _ => ?_); conv => whnf)
        (refine ⟨_, _, Blk.ld (hp.get (i := 0) rfl) TTok rfl rfl, ?_⟩; conv => whnf)
        (refine hKq _ _ _ (.refl _) ?_; clear hKq Kq; conv => whnf)
        (refine VSeq.mk fun Kq hKq => ?_; conv => whnf)
        (refine And.intro (fun h => absurd (of_decide_eq_true h) (by first | (intro h2; exact absurd rfl h2) | omega | decide)) (fun _ => ?_); conv => whnf)
        (refine ⟨_, _, Blk.ld (hp.get (i := 0) rfl) TTok rfl rfl, ?_⟩; conv => whnf)
        (refine hKq _ _ _ (.refl _) ?_; clear hKq Kq; conv => whnf)
        (refine And.intro (fun h => absurd (of_decide_eq_true h) (by first | (intro h2; exact absurd rfl h2) | omega | decide)) (fun _ => ?_); conv => whnf)
        (refine And.intro (fun h => absurd (of_decide_eq_true h) (by first | (intro h2; exact absurd rfl h2) | omega | decide)) (fun _ => ?_); conv => whnf)
        (refine hKq _ _ _ (.refl _) ?_; clear hKq Kq; conv => whnf)
        (refine hKq _ _ _ (.refl _) ?_; clear hKq Kq; conv => whnf)
        (refine VSeq.mk fun Kq hKq => ?_; conv => whnf)
        refine v_mixA TTok FFok mixed [(0, false), (1, false), (2, false), (3, false), (4, false), (5, false)] (by kernel_rfl) ?_
        conv => whnf
        (refine ⟨_, fun w' hx' => Blk.ld (Blk.ext (hp.get (i := 0) rfl) hx') TTok rfl rfl, ?_⟩; conv => whnf)
        (intro w hx; try (have hp := hp.call hx); conv => whnf)
        (refine hKq _ _ _ (.refl _) ?_; clear hKq Kq; conv => whnf)
        (refine VSeq.mk fun Kq hKq => ?_; conv => whnf)
        (refine VSeq.mk fun Kq hKq => ?_; conv => whnf)
        (refine hKq _ _ _ (.refl _) ?_; clear hKq Kq; conv => whnf)
        (refine And.intro (fun h => absurd h (by decide)) (fun _ => ?_); conv => whnf)
        (refine hKq _ _ _ (.refl _) ?_; clear hKq Kq; conv => whnf)
        (refine VSeq.mk fun Kq hKq => ?_; conv => whnf)
        (refine ⟨_, _, Blk.ldV (vs := [_, _]) (hp.get (i := 0) rfl) TTok rfl rfl rfl, ?_⟩; conv => whnf)
        (refine ⟨_, _, Blk.ldV (vs := [_, _]) (hp.get (i := 0) rfl) TTok rfl rfl rfl, ?_⟩; conv => whnf)
        (refine ⟨_, _, Blk.ld (hp.get (i := 0) rfl) TTok rfl rfl, ?_⟩; conv => whnf)
        (refine ⟨_, _, Blk.ldV (vs := [_, _]) (hp.get (i := 0) rfl) TTok rfl rfl rfl, ?_⟩; conv => whnf)
        (refine ⟨_, _, bld61_0_1_6 _ _ _ _ _, ?_⟩; conv => whnf)
        (refine ⟨_, _, bld63_0_1_2 _ _ _ _ _ _ _ _ _ _ _ _ _, ?_⟩; conv => whnf)
        (refine hp.kalloc z63 fun al63 w hp hx => ?_; conv => whnf)
        (refine hp.kstA TTok rfl 0 rfl rfl (oneC_of rfl) (by rfl) fun w hp => ?_; try simp only [List.set_cons_zero, List.set_cons_succ, EV.val] at hp; conv => whnf)
        (refine hKq _ _ _ (.refl _) ?_; clear hKq Kq; conv => whnf)
        (refine VSeq.mk fun Kq hKq => ?_; conv => whnf)
        (refine ⟨_, _, Blk.ldV (vs := [_, _, _, _, _, _, _, _, _, _, _, _, _]) (hp.get (i := 3) rfl) TTok rfl rfl rfl, ?_⟩; conv => whnf)
        (refine Or.inl (And.intro (by first | omega | decide) ?_); conv => whnf)
        (refine Or.inl (And.intro (by first | omega | decide) ?_); conv => whnf)
        (refine ⟨_, _, Blk.ldV (vs := [_, _, _, _, _, _, _, _, _, _, _, _]) (hp.get (i := 0) rfl) TTok rfl rfl rfl, ?_⟩; conv => whnf)
        refine ResE.monoW (sH (slv_n hs1 hp.extM hne)) fun w p3 c3 p4 c4 hx hs3 _ => ?_
        refine ⟨_, rfl, ?_⟩
        have hp := hp.pushR hx hs3
        conv => whnf
        clear sH
        (refine hp.kstA TTok rfl 3 rfl rfl (oneC_of rfl) (by rfl) fun w hp => ?_; try simp only [List.set_cons_zero, List.set_cons_succ, EV.val] at hp; conv => whnf)
        (refine hKq _ _ _ (.refl _) ?_; clear hKq Kq; conv => whnf)
        (refine VSeq.mk fun Kq hKq => ?_; conv => whnf)
        (refine VSeq.mk fun Kq hKq => ?_; conv => whnf)
        (refine VSeq.mk fun Kq hKq => ?_; conv => whnf)
        (refine hKq _ _ _ (.refl _) ?_; clear hKq Kq; conv => whnf)
        (refine VSeq.mk fun Kq hKq => ?_; conv => whnf)
        (refine And.intro (fun h => absurd (of_decide_eq_true h) (by first | (intro h2; exact absurd rfl h2) | omega | decide)) (fun _ => ?_); conv => whnf)
        (refine hKq _ _ _ (.refl _) ?_; clear hKq Kq; conv => whnf)
        (refine VSeq.mk fun Kq hKq => ?_; conv => whnf)
        (refine And.intro (fun h => absurd (of_decide_eq_true h) (by first | (intro h2; exact absurd rfl h2) | omega | decide)) (fun _ => ?_); conv => whnf)
        (refine ⟨_, _, Blk.ld (hp.get (i := 3) rfl) TTok rfl rfl, ?_⟩; conv => whnf)
        (refine Or.inl (And.intro (by first | omega | decide) ?_); conv => whnf)
        (refine Or.inl (And.intro (by first | omega | decide) ?_); conv => whnf)
        (refine Or.inl (And.intro (by first | omega | decide) ?_); conv => whnf)
        (refine hKq _ _ _ (.refl _) ?_; clear hKq Kq; conv => whnf)
        (refine And.intro (fun h => absurd (of_decide_eq_true h) (by first | (intro h2; exact absurd rfl h2) | omega | decide)) (fun _ => ?_); conv => whnf)
        (refine ⟨_, _, Blk.ld (hp.get (i := 3) rfl) TTok rfl rfl, ?_⟩; conv => whnf)
        (refine ⟨_, _, Blk.ld (hp.get (i := 2) rfl) TTok rfl rfl, ?_⟩; conv => whnf)
        refine V.CallsUse (sK (hp.get (i := 0) rfl)) fun w hx => ?_
        have hp := hp.call hx
        conv => whnf
        clear sK
        (refine hKq _ _ _ (.refl _) ?_; clear hKq Kq; conv => whnf)
        (refine And.intro (fun h => absurd h (by decide)) (fun _ => ?_); conv => whnf)
        (refine hKq _ _ _ (.refl _) ?_; clear hKq Kq; conv => whnf)
        (refine ⟨_, _, Blk.ldV (vs := [_, _, _, _, _, _, _, _, _, _, _, _, _]) (hp.get (i := 3) rfl) TTok rfl rfl rfl, ?_⟩; conv => whnf)
        (refine hp.kstA TTok rfl 4 rfl rfl (oneC_of rfl) (by rfl) fun w hp => ?_; try simp only [List.set_cons_zero, List.set_cons_succ, EV.val] at hp; conv => whnf)
        refine hK0 _ _ _ (V.Sub.refl _) ?_
        conv => whnf
        (refine Or.inl (And.intro (by first | omega | decide) ?_); conv => whnf)
        exact ⟨mm - 1, _, by omega, ⟨i + 1, ⟨xa, xb, xnow, xnxt, xtil, xser, false, xnoise, xword, xfresh, xasked⟩, T, y.ser, p3, c3, by omega, rfl, hEx, (hpM_base hpA hp).pick [4, 0] (by decide)⟩, sub_cons rfl (sub_cons rfl (sub_cons rfl (sub_cons rfl (sub_cons rfl (sub_cons rfl (sub_cons rfl sub_nil))))))⟩
  · have hlt := of_decide_eq_false hlt
    conv => whnf
    clear hKq Kq
    refine hKq _ _ _ (.refl _) ?_
    clear hKq Kq
    conv => whnf
    refine VSeq.mk fun Kq hKq => ?_
    conv => whnf
    refine hKq _ _ _ (.refl _) ?_
    clear hKq Kq
    conv => whnf
    exact ⟨rfl, hp.ext⟩
theorem ends_at {W : World} (c0 : Array Value) (e0 : Rd W (.cons (.int .u8) (.cons (.sl (.int .u8)) (.cons (.sl (.ag shE)) .nil))) c0.toList) (a1 : Int) (w1 : (Lit.int .u8 a1).wf = true) (a2 : Bool) :
    Calls Tryz.prog 7 #[.agg c0, .int .u8 a1, .bool a2] W fun e w' => e = .returned (.bool true) ∧ Ext W w' := by
  obtain ⟨p, nb, evs, vn, ve, hp, hev, hn, he, h0⟩ := drf_rd e0
  obtain ⟨n, rfl, hn255⟩ := nat_of_u w1 rfl
  have h0 : c0 = #[.int .u8 p, vn, ve] := Array.ext' h0
  subst h0
  have s1 := fun {W : World} hn he => Watch12_c (W := W) (vn := vn) (ve := ve) p hp nb evs hev hn he
  have hsz : ((⟨(nb.take 64).toArray⟩ : ByteArray)).size ≤ 64 := by
    show (nb.take 64).toArray.size ≤ 64
    rw [List.size_toArray, List.length_take]; omega
  have hdl : (evs.take 30).length ≤ 30 := by rw [List.length_take]; omega
  have hd := drafL_dr p hsz (evs.take 30) (by omega)
  have htil := drafL_til p hsz (evs.take 30) (by omega)
  cases hg : (drafL p ⟨(nb.take 64).toArray⟩ (evs.take 30)).gone with
  | true => exact ends_gone p nb evs hn he n hn255 _ _ hd hdl htil s1 hg a2
  | false =>
    cases a2 with
    | true => exact ends_silent p nb evs hn he n hn255 _ _ hd hdl htil s1 hg
    | false => exact ends_live p nb evs hn he n hn255 _ _ hd hdl htil s1 hg
end Go.Proofs.YtgkhcgiggjijlaaGreat
namespace Go.Proofs.YtgkhcgiggjijlaaGreat.consentEnds
open Go.ChangeShapes Go.WideShapes Go.ChangeAt Go.RowKit
open Go.ChangeMaps (open_string shut_string)
set_option linter.unusedVariables false
theorem own : ownKnob Tryz.prog.godebug = none := by kernel_rfl
theorem laidOut : laidOutB Tryz.prog = true := by kernel_rfl
set_option maxRecDepth 100000 in
theorem lifted (os : Os) (started : os.Started) (H : Type) (enc : TypeId × Value → H) :
    ReturnsInHanded {} Tryz.checked os 7 .any (Rows.consentEndsSpec.pre6 enc Tryz.prog Tryz.f7 Rows.consentEndsRow.domain false) (Rows.consentEndsSpec.post enc Tryz.prog Tryz.f7 false true false false) := by
  refine returnsInHanded_of_change (C := Tryz.checked) own started (by kernel_rfl) Tryz.func7
    (ChangeSpec.witness6 (enc := enc) (C := Tryz.checked) false ⟨#[], #[.agg #[.int .u8 0, .slice none 0 0, .slice none 0 0], .int .u8 0, .bool false], []⟩ 8 (by kernel_rfl) (by kernel_rfl) (by kernel_rfl) (by kernel_rfl)) ?_
  intro W base args ds gs before hval0 hW hcnd _
  have hval : ∀ (j : Nat) t v, Tryz.f7.params[j]? = some t → args[j]? = some v → Value.okWide Tryz.prog W .any base t v := hval0
  have hW' := hW
  obtain ⟨p, q, hA0, hV, rfl, hfz, hnd⟩ := hW
  have hA : DataW.TrodAll enc Tryz.prog W 0 (fun _ => true) true Tryz.f7.params.toList args.toList ds p := hA0
  rw [Tryz.params7] at hA hval
  obtain ⟨v0, vs0, d0, ds0, p0, q0, hargs, rfl, rfl, h0, r0⟩ := trodAll_cons hA
  obtain ⟨v1, vs1, d1, ds1, p1, q1, rfl, rfl, rfl, h1, r1⟩ := trodAll_cons r0
  obtain ⟨v2, vs2, d2, ds2, p2, q2, rfl, rfl, rfl, h2, r2⟩ := trodAll_cons r1
  obtain ⟨rfl, rfl, rfl⟩ := trodAll_nil r2
  obtain rfl : args = #[v0, v1, v2] := by cases args; simp_all
  obtain ⟨rfl, rfl⟩ := trodVars_none hV
  have k0 := h0
  have lt0 : ∀ x ∈ p0, x.block < W.heap.size := by obtain ⟨m, hm⟩ := k0; exact DataW.trod_lt m _ _ _ hm
  obtain ⟨c0, rfl, e0⟩ := V.rd_ag (s := (.cons (.int .u8) (.cons (.sl (.int .u8)) (.cons (.sl (.ag (.cons (.int .u8) (.cons (.int .u8) (.cons (.int .u8) (.cons (.int .u16) (.cons (.int .u8) .nil))))))) .nil)))) (by kernel_rfl) (hval 0 25 v0 rfl rfl) h0
  have k1 := h1
  have lt1 : ∀ x ∈ p1, x.block < W.heap.size := by obtain ⟨m, hm⟩ := k1; exact DataW.trod_lt m _ _ _ hm
  obtain ⟨a1, rfl, rfl, rfl, w1⟩ := open_int Tryz.underlying5 (hval 1 5 v1 rfl rfl) h1
  have k2 := h2
  have lt2 : ∀ x ∈ p2, x.block < W.heap.size := by obtain ⟨m, hm⟩ := k2; exact DataW.trod_lt m _ _ _ hm
  obtain ⟨a2, rfl, rfl, rfl⟩ := open_bool Tryz.underlying4 (hval 2 4 v2 rfl rfl) h2
  clear hA0 hval0
  refine (ends_at c0 e0 a1 w1 a2).mono fun e W' ⟨he, bel⟩ => ?_
  have bel : Below W.heap.size W W' := bel
  subst he
  exact ⟨_, rfl, _, _, _, [], _, [], hW', trodAll_mk1 (shut_bool Tryz.underlying4 _), (trodAll_cons_mk (Below.trod laidOut (by kernel_rfl) (of_decide_eq_true (by kernel_rfl)) k0 bel lt0) (trodAll_cons_mk (Below.trod laidOut (by kernel_rfl) (of_decide_eq_true (by kernel_rfl)) k1 bel lt1) (trodAll_cons_mk (Below.trod laidOut (by kernel_rfl) (of_decide_eq_true (by kernel_rfl)) k2 bel lt2) trodAll_mk0))), rfl, bel.frame _, fun h => by cases h⟩

theorem over : Rows.consentEndsRow.holds Tryz.pinned (OpenSpec.ofChange Rows.consentEndsSpec) :=
  OpenClaim.holds_of_wide 7 Tryz.f7 rfl rfl rfl rfl rfl rfl rfl ⟨rfl, rfl, rfl, rfl, rfl⟩ rfl rfl rfl rfl rfl (by kernel_rfl) Tryz.func7 (by kernel_rfl)
    (of_decide_eq_true (by kernel_rfl)) (by unfold Func.isWrapper; first | (rw [if_pos (by decide +kernel)]; kernel_rfl) | (rw [if_neg (by decide +kernel)]; exact ⟨rfl, rfl⟩))
    (fun os started H enc _ => lifted os started H enc)

theorem proved : Rows.ConsentEndsSaid := over
#print axioms proved
end Go.Proofs.YtgkhcgiggjijlaaGreat.consentEnds
