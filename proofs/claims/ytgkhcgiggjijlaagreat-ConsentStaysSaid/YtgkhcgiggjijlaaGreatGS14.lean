/- Chapter 12: ConsentStays. -/
import Derived.Test.YtgkhcgiggjijlaaGreatGS13
namespace Go.Proofs.YtgkhcgiggjijlaaGreat
set_option linter.unusedSimpArgs false
set_option linter.unusedVariables false
set_option maxRecDepth 100000
open Go.RowKit V
set_option maxHeartbeats 16000000
theorem stays_c {W : World} {vn ve vl : Value} (p : Nat) (hp256 : p < 256) (nb : List UInt8) (evs : List Ev) (hev : ∀ x ∈ evs, x.Ok) (hn : SLv W vn (bytesV nb)) (he : SLn W 5 ve (evs.map Ev.c)) (L : List Ev) (hL : ∀ x ∈ L, x.Ok) (hv : SLn W 5 vl (L.map Ev.c)) :
  Calls Tryz.prog 8 #[.agg #[.int .u8 p, vn, ve], vl] W fun e w' => e = .returned (.bool true) ∧ Ext W w' := by
 have hml := hv.len
 have hll : (L.map Ev.c).length = L.length := List.length_map _
 rw [hll] at hml
 unfold maxLen at hml
 obtain ⟨vs, hrun, hvs⟩ := SLn_hi (P := Tryz.prog) TTok (t := 23) rfl rfl hv (min L.length 12) (by rw [hll]; omega)
 have hrun2 := hrun .i64
 rw [show ((min L.length 12 : Nat) : Int) = min (L.length : Int) 12 by omega] at hrun2
 have s1 := fun {W : World} hn he => Watch12_c (W := W) (vn := vn) (ve := ve) p hp256 nb evs hev hn he
 have hd := drafL_dr p (s := ⟨(nb.take 64).toArray⟩) (by show (nb.take 64).toArray.size ≤ 64; rw [List.size_toArray, List.length_take]; omega) (evs.take 30) (by rw [List.length_take]; omega)
 obtain ⟨y0, hy⟩ : ∃ y, drafL p ⟨(nb.take 64).toArray⟩ (evs.take 30) = y := ⟨_, rfl⟩
 rw [hy] at hd s1
 have hsy := hd.sy (by rw [List.length_take]; omega)
 clear hd hy
 have htm : (L.map Ev.c).take (min L.length 12) = (L.take 12).map Ev.c := by
  rw [← List.map_take]
  congr 1
  rcases Nat.le_total L.length 12 with h | h
  ·rw [Nat.min_eq_left h, List.take_length, List.take_of_length_le h]
  ·rw [Nat.min_eq_right h]
 rw [htm] at hvs
 obtain ⟨M, hM⟩ : ∃ M, L.take 12 = M := ⟨_, rfl⟩
 have hMl : M.length ≤ 12 := by rw [← hM, List.length_take]; omega
 have hMo : ∀ x ∈ M, x.Ok := fun x hx => hL x (List.mem_of_mem_take (hM ▸ hx))
 rw [hM] at hvs
 clear hM htm hL
 have hlm : (M.map Ev.c).length = M.length := List.length_map _
 obtain ⟨pl, cl, rfl⟩ := hv.shape
 obtain ⟨pm, cm, rfl⟩ := hvs.shape
 rw [hll] at hrun2 hv ⊢
 rw [hlm] at hrun2 hvs
 dsimp only [Wt.c] at s1
 clear hrun
 refine v_reads (args := [.agg #[.int .u8 p, vn, ve], .slice pl L.length cl]) TTok FFok Tryz.func8 rfl rfl ?_
 conv => whnf
 refine VSeq.mk fun Kq hKq => ?_
 conv => whnf
 have hp := Hp.nil W
 refine hp.kboxA fun q2 w hp hx => ?_
 conv => whnf
 refine hKq _ _ _ (.refl _) ?_
 clear hKq Kq
 conv => whnf
 refine VSeq.mk fun Kq hKq => ?_
 conv => whnf
 refine VSeq.mk fun Kq hKq => ?_
 conv => whnf
 (refine V.CallW.out ?_; (conv => arg 3; dsimp only [EV.val, List.toList_toArray, List.nil_append, List.append_nil, List.cons_append]); (with_reducible refine V.PureF.useW (wakes_p) fun w hx => ?_); try (have hp := hp.call hx); conv => whnf)
 (refine hKq _ _ _ (.refl _) ?_; clear hKq Kq; conv => whnf)
 (refine And.intro (fun h => absurd h (by decide)) (fun _ => ?_); conv => whnf)
 (refine hKq _ _ _ (.refl _) ?_; clear hKq Kq; conv => whnf)
 (refine VSeq.mk fun Kq hKq => ?_; conv => whnf)
 (refine ⟨_, _, Blk.ldV (vs := [_, _, _]) (hp.get (i := 0) rfl) TTok rfl rfl rfl, ?_⟩; conv => whnf)
 refine Calls.mono (s1 (hn.ext hp.ext) (he.ext hp.ext)) ?_
 rintro _ w ⟨_, rfl, v0, rfl, hx, hs0⟩
 refine ⟨_, rfl, ?_⟩
 have hp := hp.pushR hx hs0
 obtain ⟨p0, c0, rfl⟩ := hs0.shape
 clear s1 hs0
 conv => whnf
 (refine hp.kalloc z34 fun al34 w hp hx => ?_; conv => whnf)
 (refine hp.kstA TTok rfl 0 rfl rfl (oneC_of rfl) (by rfl) fun w hp => ?_; try simp only [List.set_cons_zero, List.set_cons_succ, EV.val] at hp; conv => whnf)
 (refine hKq _ _ _ (.refl _) ?_; clear hKq Kq; conv => whnf)
 (refine VSeq.mk fun Kq hKq => ?_; conv => whnf)
 (refine VSeq.mk fun Kq hKq => ?_; conv => whnf)
 obtain ⟨q5, rfl⟩ : ∃ q, q = al34 := ⟨al34, rfl⟩
 refine ⟨_, _, hrun2 _, ?_⟩
 conv => whnf
 refine hKq _ _ _ (.refl _) ?_
 clear hKq Kq
 conv => whnf
 skip
 refine ⟨fun mm e w' => ∃ (i : Nat) (y : Wt) (ps : Option Addr) (cs : Nat), mm + i = M.length ∧ e = [(5, .v (.pointer (some ⟨q5, 0, none⟩))), (22, .v (.slice pm M.length cm)), (23, .v (.int .i64 M.length)), (24, .v (.int .i64 i))] ∧ Sy i y ∧ HpM [] W w' [blk q5 [.string y.a.h, .int .i64 y.a.p, .string y.b.h, .int .i64 y.b.p, .int .i64 y.now, .int .i64 y.nxt, .int .i64 y.til, .int .i64 y.ser, .bool y.gone, .string y.noise, .string y.word, .string y.fresh, .slice ps (iv y.asked).length cs] 34, ritem (.slice ps (iv y.asked).length cs) (iv y.asked)],
  ⟨M.length, _, ⟨0, y0, _, _, by omega, rfl, hsy, hp.pick [0, 1] (by decide)⟩, sub_cons rfl (sub_cons rfl (sub_cons rfl (sub_cons rfl sub_nil)))⟩, ?_⟩
 clear hsy hp hx
 repeat clear hp
 rintro mm _ w ⟨i, y, ps, cs, hmm, rfl, hsy, hp⟩
 conv => whnf
 refine VSeq.mk fun Kq hKq => ?_
 conv => whnf
 refine hKq _ _ _ (.refl _) ?_
 clear hKq Kq
 conv => whnf
 refine VSeq.mk fun Kq hKq => ?_
 conv => whnf
 skip
 refine ⟨fun hlt => ?_, fun hlt => ?_⟩
 ·have hlt := of_decide_eq_true hlt
  conv => whnf
  refine hKq _ _ _ (.refl _) ?_
  clear hKq Kq
  conv => whnf
  refine VSeq.mk fun Kq hKq => ?_
  conv => whnf
  refine VSeq.mk fun Kq hKq => ?_
  conv => whnf
  rename_i K0 hK0
  obtain ⟨x, hxi⟩ : ∃ x, M[i]? = some x := ⟨M[i]'(by omega), List.getElem?_eq_getElem (by omega)⟩
  obtain ⟨g, off, rfl, _, hcell⟩ := (hvs.ext hp.ext).cells (j := i) (x := x.c) (by rw [List.getElem?_map, hxi]; rfl)
  have xo := hMo x (List.mem_of_getElem? hxi)
  have hsv : SLv w (.slice ps (iv y.asked).length cs) (iv y.asked) := hp.get (i := 1) rfl
  have yo := hsy.ok
  have hn1 := hsy.now
  have hn0 := hsy.v.now
  have sP := fun {W : World} hv => Probe12_c (W := W) (v := .slice ps (iv y.asked).length cs) x xo y yo.len hv
  have hr1 := hsy.hear (i := i) (now := y.now + (x.after : Int) % 9000) (by omega) (by omega) (by omega) x xo
  have pok := prE_ok xo yo
  obtain ⟨pr, hpr⟩ : ∃ pr, prE x y = pr := ⟨_, rfl⟩
  rw [hpr] at sP hr1 pok
  clear hpr
  have xw := xo.what
  have xi := xo.id
  have xp := xo.path
  have xa := xo.after
  have xd := xo.word
  dsimp only [Wt.c, Ev.c, Prb.c] at sP
  skip
  refine ⟨i, ⟨by first | rfl | omega, by show i < M.length; omega⟩, ?_⟩
  conv => whnf
  skip
  refine ⟨_, _, run_ldN TTok rfl (vs := x.c) rfl fun j v hj => hcell j v hj, ?_⟩
  conv => whnf
  (refine hp.kalloc z65 fun al65 w hp hx => ?_; conv => whnf)
  (refine hp.kstA TTok rfl 0 rfl rfl (oneC_of rfl) (by rfl) fun w hp => ?_; try simp only [List.set_cons_zero, List.set_cons_succ, EV.val] at hp; conv => whnf)
  (refine hKq _ _ _ (.refl _) ?_; clear hKq Kq; conv => whnf)
  (refine VSeq.mk fun Kq hKq => ?_; conv => whnf)
  (refine ⟨_, _, Blk.ld (hp.get (i := 1) rfl) TTok rfl rfl, ?_⟩; conv => whnf)
  (refine ⟨_, _, Blk.ld (hp.get (i := 0) rfl) TTok rfl rfl, ?_⟩; conv => whnf)
  (refine Or.inl (And.intro (by first | omega | decide) ?_); conv => whnf)
  (refine And.intro (by first | omega | decide) ?_; conv => whnf)
  (refine Or.inl (And.intro (by first | omega | decide) ?_); conv => whnf)
  (refine hKq _ _ _ (.refl _) ?_; clear hKq Kq; conv => whnf)
  (refine VSeq.mk fun Kq hKq => ?_; conv => whnf)
  (refine hp.kalloc z34 fun al34 w hp hx => ?_; conv => whnf)
  (refine hKq _ _ _ (.refl _) ?_; clear hKq Kq; conv => whnf)
  (refine VSeq.mk fun Kq hKq => ?_; conv => whnf)
  (refine hKq _ _ _ (.refl _) ?_; clear hKq Kq; conv => whnf)
  (refine VSeq.mk fun Kq hKq => ?_; conv => whnf)
  (refine hKq _ _ _ (.refl _) ?_; clear hKq Kq; conv => whnf)
  (refine VSeq.mk fun Kq hKq => ?_; conv => whnf)
  (refine ⟨_, _, Blk.ldV (vs := [_, _, _, _, _]) (hp.get (i := 1) rfl) TTok rfl rfl rfl, ?_⟩; conv => whnf)
  (refine ⟨_, _, Blk.ldV (vs := [_, _, _, _, _, _, _, _, _, _, _, _, _]) (hp.get (i := 2) rfl) TTok rfl rfl rfl, ?_⟩; conv => whnf)
  refine V.CallsUse (sP (hp.get (i := 3) rfl)) fun w hx => ?_
  have hp := hp.call hx
  conv => whnf
  clear sP
  (refine hp.kalloc z61 fun al61 w hp hx => ?_; conv => whnf)
  (refine hp.kstA TTok rfl 0 rfl rfl (oneC_of rfl) (by rfl) fun w hp => ?_; try simp only [List.set_cons_zero, List.set_cons_succ, EV.val] at hp; conv => whnf)
  (refine hKq _ _ _ (.refl _) ?_; clear hKq Kq; conv => whnf)
  (refine VSeq.mk fun Kq hKq => ?_; conv => whnf)
  (refine hKq _ _ _ (.refl _) ?_; clear hKq Kq; conv => whnf)
  (refine VSeq.mk fun Kq hKq => ?_; conv => whnf)
  (refine VSeq.mk fun Kq hKq => ?_; conv => whnf)
  (refine ⟨_, _, Blk.ld (hp.get (i := 2) rfl) TTok rfl rfl, ?_⟩; conv => whnf)
  (refine And.intro (by first | omega | decide) ?_; conv => whnf)
  (refine hKq _ _ _ (.refl _) ?_; clear hKq Kq; conv => whnf)
  (refine VSeq.mk fun Kq hKq => ?_; conv => whnf)
  (refine VSeq.mk fun Kq hKq => ?_; conv => whnf)
  (refine hKq _ _ _ (.refl _) ?_; clear hKq Kq; conv => whnf)
  rename_i K1 hK1
  have keyF : ∀ (v : Wt) (pv : Option Addr) (cv : Nat) (op : Option Addr) (ol oc : Nat) (e : Int)  (l : Env) (w : World), V.Sub [(5, .v (.pointer (some ⟨q5, 0, none⟩))), (7, .v (.pointer (some ⟨al65, 0, none⟩))), (8, .v (.int .i64 (y.now + (x.after : Int) % 9000))), (9, .v (.pointer (some ⟨al34, 0, none⟩))), (10, .v (.slice op ol oc)), (11, .v (.int .i64 e)), (13, litE (.bool false)), (22, .v (.slice (some ⟨g, off, none⟩) M.length cm)), (23, .v (.int .i64 M.length)), (24, .v (.int .i64 i))] l → HpM [] W w [ritem (.slice pv (iv v.asked).length cv) (iv v.asked), blk al34 [.string v.a.h, .int .i64 v.a.p, .string v.b.h, .int .i64 v.b.p, .int .i64 v.now, .int .i64 v.nxt, .int .i64 v.til, .int .i64 v.ser, .bool v.gone, .string v.noise, .string v.word, .string v.fresh, .slice pv (iv v.asked).length cv] 34, blk al65 x.c 65, blk q5 [.string y.a.h, .int .i64 y.a.p, .string y.b.h, .int .i64 y.b.p, .int .i64 y.now, .int .i64 y.nxt, .int .i64 y.til, .int .i64 y.ser, .bool y.gone, .string y.noise, .string y.word, .string y.fresh, .slice ps (iv y.asked).length cs] 34, ritem (.slice ps (iv y.asked).length cs) (iv y.asked)] → ((e = 0 ∧ ∃ o : List Hop3, ol = o.length ∧ StayR i y v (y.now + (x.after : Int) % 9000) o (False)) ∨ (e ≠ 0 ∧ (x.what % 8 = 6 ∨ x.what % 8 = 7) ∧ (e = 8 → y.til ≤ (y.now + (x.after : Int) % 9000) ∨ y.gone = true))) → K1 l w := by
   intro v pv cv op ol oc e  l w hs hp hc
   rcases hc with ⟨rfl, o, rfl, hR⟩ | ⟨he0, hw8, h8⟩
   ·obtain ⟨⟨vah, vap⟩, ⟨vbh, vbp⟩, vnow, vnxt, vtil, vser, vgone, vnoise, vword, vfresh, vasked⟩ := v
    have vo := hR.sy.ok
    have vv := hR.sy.v
    have hsy2 := hR.sy
    have e1 : vnow = (y.now + (x.after : Int) % 9000) := hR.now
    subst e1
    have e2 : vnoise = y.noise := hR.noise
    subst e2
    have hse : vser = y.ser ∨ vser = y.ser + 1 := hR.ser
    have hti : vtil = y.til ∨ (False ∧ vtil = (y.now + (x.after : Int) % 9000) + 30000) := hR.til
    have hgo : vgone = (y.gone || decide (y.til ≤ (y.now + (x.after : Int) % 9000))) := hR.gone
    have hle := hR.len
    have hys := hsy.v.ser
    have hou : vgone = true → o.length = 0 := fun h => by rw [hR.out h]; rfl
    have sC := fun {W : World} hv => Check12_c (W := W) (v := .slice pv (iv vasked).length cv) _ vo hv
    rw [chkW_of vv] at sC
    dsimp only [Wt.c] at sC hp
    have hcase : (y.gone = true ∧ vgone = true) ∨ (y.gone = false ∧ y.til ≤ (y.now + (x.after : Int) % 9000) ∧ vgone = true) ∨ (y.gone = false ∧ ¬ y.til ≤ (y.now + (x.after : Int) % 9000) ∧ vgone = false) := by
     rw [hgo]
     cases y.gone with
     | true => exact .inl ⟨rfl, rfl⟩
     | false =>
      by_cases h : y.til ≤ (y.now + (x.after : Int) % 9000)
      ·exact .inr (.inl ⟨rfl, h, decide_eq_true h⟩)
      ·exact .inr (.inr ⟨rfl, h, decide_eq_false h⟩)
    clear hR hgo vv vo
    rcases hcase with ⟨hg, rfl⟩ | ⟨hg, ht, rfl⟩ | ⟨hg, ht, rfl⟩
    ·have ho := hou rfl
     by_cases htl : vtil = y.til
     ·rw [hg] at hp
      refine hK1 _ _ _ hs ?_
      clear hs
      conv => whnf
      (refine VSeq.mk fun Kq hKq => ?_; conv => whnf)
      (refine VSeq.mk fun Kq hKq => ?_; conv => whnf)
      (refine hKq _ _ _ (.refl _) ?_; clear hKq Kq; conv => whnf)
      (refine And.intro (fun h => absurd (of_decide_eq_true h) (by first | (intro h2; exact absurd rfl h2) | omega | decide)) (fun _ => ?_); conv => whnf)
      (refine hKq _ _ _ (.refl _) ?_; clear hKq Kq; conv => whnf)
      (refine VSeq.mk fun Kq hKq => ?_; conv => whnf)
      (refine VSeq.mk fun Kq hKq => ?_; conv => whnf)
      (refine VSeq.mk fun Kq hKq => ?_; conv => whnf)
      (refine ⟨_, _, Blk.ldV (vs := [_, _, _, _, _, _, _, _, _, _, _, _, _]) (hp.get (i := 1) rfl) TTok rfl rfl rfl, ?_⟩; conv => whnf)
      refine V.CallsUse (sC (hp.get (i := 0) rfl)) fun w hx => ?_
      have hp := hp.call hx
      conv => whnf
      (refine hKq _ _ _ (.refl _) ?_; clear hKq Kq; conv => whnf)
      (refine VSeq.mk fun Kq hKq => ?_; conv => whnf)
      (refine And.intro (fun h => absurd (of_decide_eq_true h) (by first | (intro h2; exact absurd rfl h2) | omega | decide)) (fun _ => ?_); conv => whnf)
      (refine ⟨_, _, Blk.ld (hp.get (i := 1) rfl) TTok rfl rfl, ?_⟩; conv => whnf)
      (refine hKq _ _ _ (.refl _) ?_; clear hKq Kq; conv => whnf)
      (refine VSeq.mk fun Kq hKq => ?_; conv => whnf)
      (refine And.intro (fun h => absurd (of_decide_eq_true h) (by first | (intro h2; exact absurd rfl h2) | omega | decide)) (fun _ => ?_); conv => whnf)
      (refine ⟨_, _, Blk.ld (hp.get (i := 1) rfl) TTok rfl rfl, ?_⟩; conv => whnf)
      (refine ⟨_, _, Blk.ld (hp.get (i := 3) rfl) TTok rfl rfl, ?_⟩; conv => whnf)
      (refine hKq _ _ _ (.refl _) ?_; clear hKq Kq; conv => whnf)
      (refine VSeq.mk fun Kq hKq => ?_; conv => whnf)
      (refine And.intro (fun h => absurd (of_decide_eq_true h) (by first | (intro h2; exact absurd rfl h2) | omega | decide)) (fun _ => ?_); conv => whnf)
      (refine ⟨_, _, Blk.ld (hp.get (i := 1) rfl) TTok rfl rfl, ?_⟩; conv => whnf)
      (refine ⟨_, _, Blk.ld (hp.get (i := 3) rfl) TTok rfl rfl, ?_⟩; conv => whnf)
      (refine Or.inl (And.intro (by first | omega | decide) ?_); conv => whnf)
      (refine hKq _ _ _ (.refl _) ?_; clear hKq Kq; conv => whnf)
      (refine VSeq.mk fun Kq hKq => ?_; conv => whnf)
      (refine And.intro (fun h => absurd (of_decide_eq_true h) (by first | (intro h2; exact absurd rfl h2) | omega | decide)) (fun _ => ?_); conv => whnf)
      (refine ⟨_, _, Blk.ld (hp.get (i := 3) rfl) TTok rfl rfl, ?_⟩; conv => whnf)
      (refine And.intro (fun _ => ?_) (fun h => absurd h (by decide)); conv => whnf)
      (refine ⟨_, _, Blk.ld (hp.get (i := 1) rfl) TTok rfl rfl, ?_⟩; conv => whnf)
      (refine hKq _ _ _ (.refl _) ?_; clear hKq Kq; conv => whnf)
      (refine VSeq.mk fun Kq hKq => ?_; conv => whnf)
      (refine And.intro (fun h => absurd h (by decide)) (fun _ => ?_); conv => whnf)
      (refine ⟨_, _, Blk.ld (hp.get (i := 1) rfl) TTok rfl rfl, ?_⟩; conv => whnf)
      (refine ⟨_, _, Blk.ld (hp.get (i := 3) rfl) TTok rfl rfl, ?_⟩; conv => whnf)
      (refine And.intro (fun _ => ?_) (fun h => absurd h (by decide)); conv => whnf)
      refine ⟨.bool false, w, by kernel_rfl, ?_⟩
      conv => whnf
      (refine hKq _ _ _ (.refl _) ?_; clear hKq Kq; conv => whnf)
      (refine VSeq.mk fun Kq hKq => ?_; conv => whnf)
      (refine And.intro (fun h => absurd h (by decide)) (fun _ => ?_); conv => whnf)
      (refine ⟨_, _, Blk.ld (hp.get (i := 1) rfl) TTok rfl rfl, ?_⟩; conv => whnf)
      (refine ⟨_, _, Blk.ld (hp.get (i := 3) rfl) TTok rfl rfl, ?_⟩; conv => whnf)
      (refine hKq _ _ _ (.refl _) ?_; clear hKq Kq; conv => whnf)
      (refine And.intro (fun h => absurd (of_decide_eq_true h) (by first | (intro h2; exact absurd rfl h2) | omega | decide)) (fun _ => ?_); conv => whnf)
      (refine hKq _ _ _ (.refl _) ?_; clear hKq Kq; conv => whnf)
      (refine And.intro (fun h => absurd (of_decide_eq_true h) (by first | (intro h2; exact absurd rfl h2) | omega | decide)) (fun _ => ?_); conv => whnf)
      (refine hKq _ _ _ (.refl _) ?_; clear hKq Kq; conv => whnf)
      (refine VSeq.mk fun Kq hKq => ?_; conv => whnf)
      (refine VSeq.mk fun Kq hKq => ?_; conv => whnf)
      (refine VSeq.mk fun Kq hKq => ?_; conv => whnf)
      (refine ⟨_, _, Blk.ld (hp.get (i := 1) rfl) TTok rfl rfl, ?_⟩; conv => whnf)
      (refine ⟨_, _, Blk.ld (hp.get (i := 3) rfl) TTok rfl rfl, ?_⟩; conv => whnf)
      (refine hKq _ _ _ (.refl _) ?_; clear hKq Kq; conv => whnf)
      (refine VSeq.mk fun Kq hKq => ?_; conv => whnf)
      (refine And.intro (fun h => absurd (of_decide_eq_true h) (by first | (intro h2; exact absurd rfl h2) | omega | decide)) (fun _ => ?_); conv => whnf)
      (refine hKq _ _ _ (.refl _) ?_; clear hKq Kq; conv => whnf)
      (refine ⟨_, _, Blk.ld (hp.get (i := 1) rfl) TTok rfl rfl, ?_⟩; conv => whnf)
      (refine And.intro (fun _ => ?_) (fun h => absurd h (by decide)); conv => whnf)
      (refine hKq _ _ _ (.refl _) ?_; clear hKq Kq; conv => whnf)
      (refine And.intro (fun h => absurd (of_decide_eq_true h) (by first | (intro h2; exact absurd rfl h2) | omega | decide)) (fun _ => ?_); conv => whnf)
      (refine hKq _ _ _ (.refl _) ?_; clear hKq Kq; conv => whnf)
      (refine ⟨_, _, Blk.ldV (vs := [_, _, _, _, _, _, _, _, _, _, _, _, _]) (hp.get (i := 1) rfl) TTok rfl rfl rfl, ?_⟩; conv => whnf)
      (refine hp.kstA TTok rfl 3 rfl rfl (oneC_of rfl) (by rfl) fun w hp => ?_; try simp only [List.set_cons_zero, List.set_cons_succ, EV.val] at hp; conv => whnf)
      refine hK0 _ _ _ (V.Sub.refl _) ?_
      conv => whnf
      (refine Or.inl (And.intro (by first | omega | decide) ?_); conv => whnf)
      exact ⟨mm - 1, _, by omega, ⟨i + 1, ⟨⟨vah, vap⟩, ⟨vbh, vbp⟩, (y.now + (x.after : Int) % 9000), vnxt, vtil, vser, true, y.noise, vword, vfresh, vasked⟩, pv, cv, by omega, rfl, hsy2, hp.pick [3, 0] (by decide)⟩, (sub_cons rfl (sub_cons rfl (sub_cons rfl (sub_cons rfl sub_nil))))⟩
     ·obtain ⟨hlg, htl2⟩ := hti.resolve_left htl
      exact hlg.elim
    ·have ho := hou rfl
     by_cases htl : vtil = y.til
     ·rw [hg] at hp
      refine hK1 _ _ _ hs ?_
      clear hs
      conv => whnf
      (refine VSeq.mk fun Kq hKq => ?_; conv => whnf)
      (refine VSeq.mk fun Kq hKq => ?_; conv => whnf)
      (refine hKq _ _ _ (.refl _) ?_; clear hKq Kq; conv => whnf)
      (refine And.intro (fun h => absurd (of_decide_eq_true h) (by first | (intro h2; exact absurd rfl h2) | omega | decide)) (fun _ => ?_); conv => whnf)
      (refine hKq _ _ _ (.refl _) ?_; clear hKq Kq; conv => whnf)
      (refine VSeq.mk fun Kq hKq => ?_; conv => whnf)
      (refine VSeq.mk fun Kq hKq => ?_; conv => whnf)
      (refine VSeq.mk fun Kq hKq => ?_; conv => whnf)
      (refine ⟨_, _, Blk.ldV (vs := [_, _, _, _, _, _, _, _, _, _, _, _, _]) (hp.get (i := 1) rfl) TTok rfl rfl rfl, ?_⟩; conv => whnf)
      refine V.CallsUse (sC (hp.get (i := 0) rfl)) fun w hx => ?_
      have hp := hp.call hx
      conv => whnf
      (refine hKq _ _ _ (.refl _) ?_; clear hKq Kq; conv => whnf)
      (refine VSeq.mk fun Kq hKq => ?_; conv => whnf)
      (refine And.intro (fun h => absurd (of_decide_eq_true h) (by first | (intro h2; exact absurd rfl h2) | omega | decide)) (fun _ => ?_); conv => whnf)
      (refine ⟨_, _, Blk.ld (hp.get (i := 1) rfl) TTok rfl rfl, ?_⟩; conv => whnf)
      (refine hKq _ _ _ (.refl _) ?_; clear hKq Kq; conv => whnf)
      (refine VSeq.mk fun Kq hKq => ?_; conv => whnf)
      (refine And.intro (fun h => absurd (of_decide_eq_true h) (by first | (intro h2; exact absurd rfl h2) | omega | decide)) (fun _ => ?_); conv => whnf)
      (refine ⟨_, _, Blk.ld (hp.get (i := 1) rfl) TTok rfl rfl, ?_⟩; conv => whnf)
      (refine ⟨_, _, Blk.ld (hp.get (i := 3) rfl) TTok rfl rfl, ?_⟩; conv => whnf)
      (refine hKq _ _ _ (.refl _) ?_; clear hKq Kq; conv => whnf)
      (refine VSeq.mk fun Kq hKq => ?_; conv => whnf)
      (refine And.intro (fun h => absurd (of_decide_eq_true h) (by first | (intro h2; exact absurd rfl h2) | omega | decide)) (fun _ => ?_); conv => whnf)
      (refine ⟨_, _, Blk.ld (hp.get (i := 1) rfl) TTok rfl rfl, ?_⟩; conv => whnf)
      (refine ⟨_, _, Blk.ld (hp.get (i := 3) rfl) TTok rfl rfl, ?_⟩; conv => whnf)
      (refine Or.inl (And.intro (by first | omega | decide) ?_); conv => whnf)
      (refine hKq _ _ _ (.refl _) ?_; clear hKq Kq; conv => whnf)
      (refine VSeq.mk fun Kq hKq => ?_; conv => whnf)
      (refine And.intro (fun h => absurd (of_decide_eq_true h) (by first | (intro h2; exact absurd rfl h2) | omega | decide)) (fun _ => ?_); conv => whnf)
      (refine ⟨_, _, Blk.ld (hp.get (i := 3) rfl) TTok rfl rfl, ?_⟩; conv => whnf)
      (refine And.intro (fun h => absurd h (by decide)) (fun _ => ?_); conv => whnf)
      (refine hKq _ _ _ (.refl _) ?_; clear hKq Kq; conv => whnf)
      (refine VSeq.mk fun Kq hKq => ?_; conv => whnf)
      (refine ⟨_, _, Blk.ld (hp.get (i := 1) rfl) TTok rfl rfl, ?_⟩; conv => whnf)
      (refine ⟨_, _, Blk.ld (hp.get (i := 3) rfl) TTok rfl rfl, ?_⟩; conv => whnf)
      (refine And.intro (fun h => absurd h (by decide)) (fun _ => ?_); conv => whnf)
      (refine ⟨_, _, Blk.ld (hp.get (i := 3) rfl) TTok rfl rfl, ?_⟩; conv => whnf)
      refine ⟨.bool false, w, (by rw [decide_eq_true ht]; kernel_rfl), ?_⟩
      conv => whnf
      (refine hKq _ _ _ (.refl _) ?_; clear hKq Kq; conv => whnf)
      (refine VSeq.mk fun Kq hKq => ?_; conv => whnf)
      (refine And.intro (fun h => absurd h (by decide)) (fun _ => ?_); conv => whnf)
      (refine ⟨_, _, Blk.ld (hp.get (i := 1) rfl) TTok rfl rfl, ?_⟩; conv => whnf)
      (refine ⟨_, _, Blk.ld (hp.get (i := 3) rfl) TTok rfl rfl, ?_⟩; conv => whnf)
      (refine hKq _ _ _ (.refl _) ?_; clear hKq Kq; conv => whnf)
      (refine And.intro (fun h => absurd (of_decide_eq_true h) (by first | (intro h2; exact absurd rfl h2) | omega | decide)) (fun _ => ?_); conv => whnf)
      (refine hKq _ _ _ (.refl _) ?_; clear hKq Kq; conv => whnf)
      (refine And.intro (fun h => absurd (of_decide_eq_true h) (by first | (intro h2; exact absurd rfl h2) | omega | decide)) (fun _ => ?_); conv => whnf)
      (refine hKq _ _ _ (.refl _) ?_; clear hKq Kq; conv => whnf)
      (refine VSeq.mk fun Kq hKq => ?_; conv => whnf)
      (refine VSeq.mk fun Kq hKq => ?_; conv => whnf)
      (refine VSeq.mk fun Kq hKq => ?_; conv => whnf)
      (refine ⟨_, _, Blk.ld (hp.get (i := 1) rfl) TTok rfl rfl, ?_⟩; conv => whnf)
      (refine ⟨_, _, Blk.ld (hp.get (i := 3) rfl) TTok rfl rfl, ?_⟩; conv => whnf)
      (refine hKq _ _ _ (.refl _) ?_; clear hKq Kq; conv => whnf)
      (refine VSeq.mk fun Kq hKq => ?_; conv => whnf)
      (refine And.intro (fun h => absurd (of_decide_eq_true h) (by first | (intro h2; exact absurd rfl h2) | omega | decide)) (fun _ => ?_); conv => whnf)
      (refine hKq _ _ _ (.refl _) ?_; clear hKq Kq; conv => whnf)
      (refine ⟨_, _, Blk.ld (hp.get (i := 1) rfl) TTok rfl rfl, ?_⟩; conv => whnf)
      (refine And.intro (fun _ => ?_) (fun h => absurd h (by decide)); conv => whnf)
      (refine hKq _ _ _ (.refl _) ?_; clear hKq Kq; conv => whnf)
      (refine And.intro (fun h => absurd (of_decide_eq_true h) (by first | (intro h2; exact absurd rfl h2) | omega | decide)) (fun _ => ?_); conv => whnf)
      (refine hKq _ _ _ (.refl _) ?_; clear hKq Kq; conv => whnf)
      (refine ⟨_, _, Blk.ldV (vs := [_, _, _, _, _, _, _, _, _, _, _, _, _]) (hp.get (i := 1) rfl) TTok rfl rfl rfl, ?_⟩; conv => whnf)
      (refine hp.kstA TTok rfl 3 rfl rfl (oneC_of rfl) (by rfl) fun w hp => ?_; try simp only [List.set_cons_zero, List.set_cons_succ, EV.val] at hp; conv => whnf)
      refine hK0 _ _ _ (V.Sub.refl _) ?_
      conv => whnf
      (refine Or.inl (And.intro (by first | omega | decide) ?_); conv => whnf)
      exact ⟨mm - 1, _, by omega, ⟨i + 1, ⟨⟨vah, vap⟩, ⟨vbh, vbp⟩, (y.now + (x.after : Int) % 9000), vnxt, vtil, vser, true, y.noise, vword, vfresh, vasked⟩, pv, cv, by omega, rfl, hsy2, hp.pick [3, 0] (by decide)⟩, (sub_cons rfl (sub_cons rfl (sub_cons rfl (sub_cons rfl sub_nil))))⟩
     ·obtain ⟨hlg, htl2⟩ := hti.resolve_left htl
      exact hlg.elim
    ·by_cases htl : vtil = y.til
     ·rw [hg] at hp
      refine hK1 _ _ _ hs ?_
      clear hs
      conv => whnf
      (refine VSeq.mk fun Kq hKq => ?_; conv => whnf)
      (refine VSeq.mk fun Kq hKq => ?_; conv => whnf)
      (refine hKq _ _ _ (.refl _) ?_; clear hKq Kq; conv => whnf)
      (refine And.intro (fun h => absurd (of_decide_eq_true h) (by first | (intro h2; exact absurd rfl h2) | omega | decide)) (fun _ => ?_); conv => whnf)
      (refine hKq _ _ _ (.refl _) ?_; clear hKq Kq; conv => whnf)
      (refine VSeq.mk fun Kq hKq => ?_; conv => whnf)
      (refine VSeq.mk fun Kq hKq => ?_; conv => whnf)
      (refine VSeq.mk fun Kq hKq => ?_; conv => whnf)
      (refine ⟨_, _, Blk.ldV (vs := [_, _, _, _, _, _, _, _, _, _, _, _, _]) (hp.get (i := 1) rfl) TTok rfl rfl rfl, ?_⟩; conv => whnf)
      refine V.CallsUse (sC (hp.get (i := 0) rfl)) fun w hx => ?_
      have hp := hp.call hx
      conv => whnf
      (refine hKq _ _ _ (.refl _) ?_; clear hKq Kq; conv => whnf)
      (refine VSeq.mk fun Kq hKq => ?_; conv => whnf)
      (refine And.intro (fun h => absurd (of_decide_eq_true h) (by first | (intro h2; exact absurd rfl h2) | omega | decide)) (fun _ => ?_); conv => whnf)
      (refine ⟨_, _, Blk.ld (hp.get (i := 1) rfl) TTok rfl rfl, ?_⟩; conv => whnf)
      (refine hKq _ _ _ (.refl _) ?_; clear hKq Kq; conv => whnf)
      (refine VSeq.mk fun Kq hKq => ?_; conv => whnf)
      (refine And.intro (fun h => absurd (of_decide_eq_true h) (by first | (intro h2; exact absurd rfl h2) | omega | decide)) (fun _ => ?_); conv => whnf)
      (refine ⟨_, _, Blk.ld (hp.get (i := 1) rfl) TTok rfl rfl, ?_⟩; conv => whnf)
      (refine ⟨_, _, Blk.ld (hp.get (i := 3) rfl) TTok rfl rfl, ?_⟩; conv => whnf)
      (refine hKq _ _ _ (.refl _) ?_; clear hKq Kq; conv => whnf)
      (refine VSeq.mk fun Kq hKq => ?_; conv => whnf)
      (refine And.intro (fun h => absurd (of_decide_eq_true h) (by first | (intro h2; exact absurd rfl h2) | omega | decide)) (fun _ => ?_); conv => whnf)
      (refine ⟨_, _, Blk.ld (hp.get (i := 1) rfl) TTok rfl rfl, ?_⟩; conv => whnf)
      (refine ⟨_, _, Blk.ld (hp.get (i := 3) rfl) TTok rfl rfl, ?_⟩; conv => whnf)
      (refine Or.inl (And.intro (by first | omega | decide) ?_); conv => whnf)
      (refine hKq _ _ _ (.refl _) ?_; clear hKq Kq; conv => whnf)
      (refine VSeq.mk fun Kq hKq => ?_; conv => whnf)
      (refine And.intro (fun h => absurd (of_decide_eq_true h) (by first | (intro h2; exact absurd rfl h2) | omega | decide)) (fun _ => ?_); conv => whnf)
      (refine ⟨_, _, Blk.ld (hp.get (i := 3) rfl) TTok rfl rfl, ?_⟩; conv => whnf)
      (refine And.intro (fun h => absurd h (by decide)) (fun _ => ?_); conv => whnf)
      (refine hKq _ _ _ (.refl _) ?_; clear hKq Kq; conv => whnf)
      (refine VSeq.mk fun Kq hKq => ?_; conv => whnf)
      (refine ⟨_, _, Blk.ld (hp.get (i := 1) rfl) TTok rfl rfl, ?_⟩; conv => whnf)
      (refine ⟨_, _, Blk.ld (hp.get (i := 3) rfl) TTok rfl rfl, ?_⟩; conv => whnf)
      (refine And.intro (fun h => absurd h (by decide)) (fun _ => ?_); conv => whnf)
      (refine ⟨_, _, Blk.ld (hp.get (i := 3) rfl) TTok rfl rfl, ?_⟩; conv => whnf)
      refine ⟨.bool false, w, (by rw [decide_eq_false ht]; kernel_rfl), ?_⟩
      conv => whnf
      (refine hKq _ _ _ (.refl _) ?_; clear hKq Kq; conv => whnf)
      (refine VSeq.mk fun Kq hKq => ?_; conv => whnf)
      (refine And.intro (fun h => absurd h (by decide)) (fun _ => ?_); conv => whnf)
      (refine ⟨_, _, Blk.ld (hp.get (i := 1) rfl) TTok rfl rfl, ?_⟩; conv => whnf)
      (refine ⟨_, _, Blk.ld (hp.get (i := 3) rfl) TTok rfl rfl, ?_⟩; conv => whnf)
      (refine hKq _ _ _ (.refl _) ?_; clear hKq Kq; conv => whnf)
      (refine And.intro (fun h => absurd (of_decide_eq_true h) (by first | (intro h2; exact absurd rfl h2) | omega | decide)) (fun _ => ?_); conv => whnf)
      (refine hKq _ _ _ (.refl _) ?_; clear hKq Kq; conv => whnf)
      (refine And.intro (fun h => absurd (of_decide_eq_true h) (by first | (intro h2; exact absurd rfl h2) | omega | decide)) (fun _ => ?_); conv => whnf)
      (refine hKq _ _ _ (.refl _) ?_; clear hKq Kq; conv => whnf)
      (refine VSeq.mk fun Kq hKq => ?_; conv => whnf)
      (refine VSeq.mk fun Kq hKq => ?_; conv => whnf)
      (refine VSeq.mk fun Kq hKq => ?_; conv => whnf)
      (refine ⟨_, _, Blk.ld (hp.get (i := 1) rfl) TTok rfl rfl, ?_⟩; conv => whnf)
      (refine ⟨_, _, Blk.ld (hp.get (i := 3) rfl) TTok rfl rfl, ?_⟩; conv => whnf)
      (refine hKq _ _ _ (.refl _) ?_; clear hKq Kq; conv => whnf)
      (refine VSeq.mk fun Kq hKq => ?_; conv => whnf)
      (refine And.intro (fun h => absurd (of_decide_eq_true h) (by first | (intro h2; exact absurd rfl h2) | omega | decide)) (fun _ => ?_); conv => whnf)
      (refine hKq _ _ _ (.refl _) ?_; clear hKq Kq; conv => whnf)
      (refine ⟨_, _, Blk.ld (hp.get (i := 1) rfl) TTok rfl rfl, ?_⟩; conv => whnf)
      (refine And.intro (fun h => absurd h (by decide)) (fun _ => ?_); conv => whnf)
      (refine hKq _ _ _ (.refl _) ?_; clear hKq Kq; conv => whnf)
      (refine hKq _ _ _ (.refl _) ?_; clear hKq Kq; conv => whnf)
      (refine ⟨_, _, Blk.ldV (vs := [_, _, _, _, _, _, _, _, _, _, _, _, _]) (hp.get (i := 1) rfl) TTok rfl rfl rfl, ?_⟩; conv => whnf)
      (refine hp.kstA TTok rfl 3 rfl rfl (oneC_of rfl) (by rfl) fun w hp => ?_; try simp only [List.set_cons_zero, List.set_cons_succ, EV.val] at hp; conv => whnf)
      refine hK0 _ _ _ (V.Sub.refl _) ?_
      conv => whnf
      (refine Or.inl (And.intro (by first | omega | decide) ?_); conv => whnf)
      exact ⟨mm - 1, _, by omega, ⟨i + 1, ⟨⟨vah, vap⟩, ⟨vbh, vbp⟩, (y.now + (x.after : Int) % 9000), vnxt, vtil, vser, false, y.noise, vword, vfresh, vasked⟩, pv, cv, by omega, rfl, hsy2, hp.pick [3, 0] (by decide)⟩, (sub_cons rfl (sub_cons rfl (sub_cons rfl (sub_cons rfl sub_nil))))⟩
     ·obtain ⟨hlg, htl2⟩ := hti.resolve_left htl
      exact hlg.elim
   ·have hpB := hp
    by_cases he8 : e = 8
    ·by_cases ht : y.til ≤ (y.now + (x.after : Int) % 9000)
     ·refine hK1 _ _ _ hs ?_
      clear hs
      conv => whnf
      (refine VSeq.mk fun Kq hKq => ?_; conv => whnf)
      (refine VSeq.mk fun Kq hKq => ?_; conv => whnf)
      (refine hKq _ _ _ (.refl _) ?_; clear hKq Kq; conv => whnf)
      (refine And.intro (fun _ => ?_) (fun h => absurd (by first | rfl | assumption | omega | decide) (of_decide_eq_false h)); conv => whnf)
      (refine VSeq.mk fun Kq hKq => ?_; conv => whnf)
      (refine VSeq.mk fun Kq hKq => ?_; conv => whnf)
      (refine VSeq.mk fun Kq hKq => ?_; conv => whnf)
      (refine ⟨_, _, Blk.ld (hp.get (i := 2) rfl) TTok rfl rfl, ?_⟩; conv => whnf)
      (refine And.intro (by first | omega | decide) ?_; conv => whnf)
      (refine hKq _ _ _ (.refl _) ?_; clear hKq Kq; conv => whnf)
      (refine And.intro (fun h => absurd (of_decide_eq_true h) (by first | (intro h2; exact absurd rfl h2) | omega | decide)) (fun _ => ?_); conv => whnf)
      (refine And.intro (fun _ => ?_) (fun h => absurd (by first | rfl | assumption | omega | decide) (of_decide_eq_false h)); conv => whnf)
      (refine ⟨_, _, Blk.ld (hp.get (i := 3) rfl) TTok rfl rfl, ?_⟩; conv => whnf)
      (refine And.intro (fun h => absurd (of_decide_eq_true h) (by first | (intro h2; exact absurd rfl h2) | omega | decide)) (fun _ => ?_); conv => whnf)
      (refine hKq _ _ _ (.refl _) ?_; clear hKq Kq; conv => whnf)
      (refine hKq _ _ _ (.refl _) ?_; clear hKq Kq; conv => whnf)
      refine hK0 _ _ _ (V.Sub.refl _) ?_
      conv => whnf
      (refine Or.inl (And.intro (by first | omega | decide) ?_); conv => whnf)
      exact ⟨mm - 1, _, by omega, ⟨i + 1, y, ps, cs, by omega, rfl, hsy.more (by omega), hpB.pick [3, 4] (by decide)⟩, (sub_cons rfl (sub_cons rfl (sub_cons rfl (sub_cons rfl sub_nil))))⟩
     ·have hg : y.gone = true := (h8 he8).resolve_left ht
      rw [hg] at hp
      refine hK1 _ _ _ hs ?_
      clear hs
      conv => whnf
      (refine VSeq.mk fun Kq hKq => ?_; conv => whnf)
      (refine VSeq.mk fun Kq hKq => ?_; conv => whnf)
      (refine hKq _ _ _ (.refl _) ?_; clear hKq Kq; conv => whnf)
      (refine And.intro (fun _ => ?_) (fun h => absurd (by first | rfl | assumption | omega | decide) (of_decide_eq_false h)); conv => whnf)
      (refine VSeq.mk fun Kq hKq => ?_; conv => whnf)
      (refine VSeq.mk fun Kq hKq => ?_; conv => whnf)
      (refine VSeq.mk fun Kq hKq => ?_; conv => whnf)
      (refine ⟨_, _, Blk.ld (hp.get (i := 2) rfl) TTok rfl rfl, ?_⟩; conv => whnf)
      (refine And.intro (by first | omega | decide) ?_; conv => whnf)
      (refine hKq _ _ _ (.refl _) ?_; clear hKq Kq; conv => whnf)
      (refine And.intro (fun h => absurd (of_decide_eq_true h) (by first | (intro h2; exact absurd rfl h2) | omega | decide)) (fun _ => ?_); conv => whnf)
      (refine And.intro (fun _ => ?_) (fun h => absurd (by first | rfl | assumption | omega | decide) (of_decide_eq_false h)); conv => whnf)
      (refine ⟨_, _, Blk.ld (hp.get (i := 3) rfl) TTok rfl rfl, ?_⟩; conv => whnf)
      (refine And.intro (fun _ => ?_) (fun h => absurd (by first | rfl | assumption | omega | decide) (of_decide_eq_false h)); conv => whnf)
      (refine ⟨_, _, Blk.ld (hp.get (i := 3) rfl) TTok rfl rfl, ?_⟩; conv => whnf)
      (refine hKq _ _ _ (.refl _) ?_; clear hKq Kq; conv => whnf)
      (refine And.intro (fun h => absurd h (by decide)) (fun _ => ?_); conv => whnf)
      (refine hKq _ _ _ (.refl _) ?_; clear hKq Kq; conv => whnf)
      refine hK0 _ _ _ (V.Sub.refl _) ?_
      conv => whnf
      (refine Or.inl (And.intro (by first | omega | decide) ?_); conv => whnf)
      exact ⟨mm - 1, _, by omega, ⟨i + 1, y, ps, cs, by omega, rfl, hsy.more (by omega), hpB.pick [3, 4] (by decide)⟩, (sub_cons rfl (sub_cons rfl (sub_cons rfl (sub_cons rfl sub_nil))))⟩
    ·refine hK1 _ _ _ hs ?_
     clear hs
     conv => whnf
     (refine VSeq.mk fun Kq hKq => ?_; conv => whnf)
     (refine VSeq.mk fun Kq hKq => ?_; conv => whnf)
     (refine hKq _ _ _ (.refl _) ?_; clear hKq Kq; conv => whnf)
     (refine And.intro (fun _ => ?_) (fun h => absurd (by first | rfl | assumption | omega | decide) (of_decide_eq_false h)); conv => whnf)
     (refine VSeq.mk fun Kq hKq => ?_; conv => whnf)
     (refine VSeq.mk fun Kq hKq => ?_; conv => whnf)
     (refine VSeq.mk fun Kq hKq => ?_; conv => whnf)
     (refine ⟨_, _, Blk.ld (hp.get (i := 2) rfl) TTok rfl rfl, ?_⟩; conv => whnf)
     (refine And.intro (by first | omega | decide) ?_; conv => whnf)
     (refine hKq _ _ _ (.refl _) ?_; clear hKq Kq; conv => whnf)
     (refine And.intro (fun h => absurd (of_decide_eq_true h) (by first | (intro h2; exact absurd rfl h2) | omega | decide)) (fun _ => ?_); conv => whnf)
     (refine And.intro (fun h => absurd (of_decide_eq_true h) (by first | (intro h2; exact absurd rfl h2) | omega | decide)) (fun _ => ?_); conv => whnf)
     (refine hKq _ _ _ (.refl _) ?_; clear hKq Kq; conv => whnf)
     (refine hKq _ _ _ (.refl _) ?_; clear hKq Kq; conv => whnf)
     refine hK0 _ _ _ (V.Sub.refl _) ?_
     conv => whnf
     (refine Or.inl (And.intro (by first | omega | decide) ?_); conv => whnf)
     exact ⟨mm - 1, _, by omega, ⟨i + 1, y, ps, cs, by omega, rfl, hsy.more (by omega), hpB.pick [3, 4] (by decide)⟩, (sub_cons rfl (sub_cons rfl (sub_cons rfl (sub_cons rfl sub_nil))))⟩
  have keyT : ∀ (v : Wt) (pv : Option Addr) (cv : Nat) (op : Option Addr) (ol oc : Nat) (e : Int)  (l : Env) (w : World), V.Sub [(5, .v (.pointer (some ⟨q5, 0, none⟩))), (7, .v (.pointer (some ⟨al65, 0, none⟩))), (8, .v (.int .i64 (y.now + (x.after : Int) % 9000))), (9, .v (.pointer (some ⟨al34, 0, none⟩))), (10, .v (.slice op ol oc)), (11, .v (.int .i64 e)), (13, litE (.bool true)), (22, .v (.slice (some ⟨g, off, none⟩) M.length cm)), (23, .v (.int .i64 M.length)), (24, .v (.int .i64 i))] l → HpM [] W w [ritem (.slice pv (iv v.asked).length cv) (iv v.asked), blk al34 [.string v.a.h, .int .i64 v.a.p, .string v.b.h, .int .i64 v.b.p, .int .i64 v.now, .int .i64 v.nxt, .int .i64 v.til, .int .i64 v.ser, .bool v.gone, .string v.noise, .string v.word, .string v.fresh, .slice pv (iv v.asked).length cv] 34, blk al65 x.c 65, blk q5 [.string y.a.h, .int .i64 y.a.p, .string y.b.h, .int .i64 y.b.p, .int .i64 y.now, .int .i64 y.nxt, .int .i64 y.til, .int .i64 y.ser, .bool y.gone, .string y.noise, .string y.word, .string y.fresh, .slice ps (iv y.asked).length cs] 34, ritem (.slice ps (iv y.asked).length cs) (iv y.asked)] → ((e = 0 ∧ ∃ o : List Hop3, ol = o.length ∧ StayR i y v (y.now + (x.after : Int) % 9000) o (True)) ∨ (e ≠ 0 ∧ (x.what % 8 = 6 ∨ x.what % 8 = 7) ∧ (e = 8 → y.til ≤ (y.now + (x.after : Int) % 9000) ∨ y.gone = true))) → K1 l w := by
   intro v pv cv op ol oc e  l w hs hp hc
   rcases hc with ⟨rfl, o, rfl, hR⟩ | ⟨he0, hw8, h8⟩
   ·obtain ⟨⟨vah, vap⟩, ⟨vbh, vbp⟩, vnow, vnxt, vtil, vser, vgone, vnoise, vword, vfresh, vasked⟩ := v
    have vo := hR.sy.ok
    have vv := hR.sy.v
    have hsy2 := hR.sy
    have e1 : vnow = (y.now + (x.after : Int) % 9000) := hR.now
    subst e1
    have e2 : vnoise = y.noise := hR.noise
    subst e2
    have hse : vser = y.ser ∨ vser = y.ser + 1 := hR.ser
    have hti : vtil = y.til ∨ (True ∧ vtil = (y.now + (x.after : Int) % 9000) + 30000) := hR.til
    have hgo : vgone = (y.gone || decide (y.til ≤ (y.now + (x.after : Int) % 9000))) := hR.gone
    have hle := hR.len
    have hys := hsy.v.ser
    have hou : vgone = true → o.length = 0 := fun h => by rw [hR.out h]; rfl
    have sC := fun {W : World} hv => Check12_c (W := W) (v := .slice pv (iv vasked).length cv) _ vo hv
    rw [chkW_of vv] at sC
    dsimp only [Wt.c] at sC hp
    have hcase : (y.gone = true ∧ vgone = true) ∨ (y.gone = false ∧ y.til ≤ (y.now + (x.after : Int) % 9000) ∧ vgone = true) ∨ (y.gone = false ∧ ¬ y.til ≤ (y.now + (x.after : Int) % 9000) ∧ vgone = false) := by
     rw [hgo]
     cases y.gone with
     | true => exact .inl ⟨rfl, rfl⟩
     | false =>
      by_cases h : y.til ≤ (y.now + (x.after : Int) % 9000)
      ·exact .inr (.inl ⟨rfl, h, decide_eq_true h⟩)
      ·exact .inr (.inr ⟨rfl, h, decide_eq_false h⟩)
    clear hR hgo vv vo
    rcases hcase with ⟨hg, rfl⟩ | ⟨hg, ht, rfl⟩ | ⟨hg, ht, rfl⟩
    ·have ho := hou rfl
     by_cases htl : vtil = y.til
     ·rw [hg] at hp
      refine hK1 _ _ _ hs ?_
      clear hs
      conv => whnf
      (refine VSeq.mk fun Kq hKq => ?_; conv => whnf)
      (refine VSeq.mk fun Kq hKq => ?_; conv => whnf)
      (refine hKq _ _ _ (.refl _) ?_; clear hKq Kq; conv => whnf)
      (refine And.intro (fun h => absurd (of_decide_eq_true h) (by first | (intro h2; exact absurd rfl h2) | omega | decide)) (fun _ => ?_); conv => whnf)
      (refine hKq _ _ _ (.refl _) ?_; clear hKq Kq; conv => whnf)
      (refine VSeq.mk fun Kq hKq => ?_; conv => whnf)
      (refine VSeq.mk fun Kq hKq => ?_; conv => whnf)
      (refine VSeq.mk fun Kq hKq => ?_; conv => whnf)
      (refine ⟨_, _, Blk.ldV (vs := [_, _, _, _, _, _, _, _, _, _, _, _, _]) (hp.get (i := 1) rfl) TTok rfl rfl rfl, ?_⟩; conv => whnf)
      refine V.CallsUse (sC (hp.get (i := 0) rfl)) fun w hx => ?_
      have hp := hp.call hx
      conv => whnf
      (refine hKq _ _ _ (.refl _) ?_; clear hKq Kq; conv => whnf)
      (refine VSeq.mk fun Kq hKq => ?_; conv => whnf)
      (refine And.intro (fun h => absurd (of_decide_eq_true h) (by first | (intro h2; exact absurd rfl h2) | omega | decide)) (fun _ => ?_); conv => whnf)
      (refine ⟨_, _, Blk.ld (hp.get (i := 1) rfl) TTok rfl rfl, ?_⟩; conv => whnf)
      (refine hKq _ _ _ (.refl _) ?_; clear hKq Kq; conv => whnf)
      (refine VSeq.mk fun Kq hKq => ?_; conv => whnf)
      (refine And.intro (fun h => absurd (of_decide_eq_true h) (by first | (intro h2; exact absurd rfl h2) | omega | decide)) (fun _ => ?_); conv => whnf)
      (refine ⟨_, _, Blk.ld (hp.get (i := 1) rfl) TTok rfl rfl, ?_⟩; conv => whnf)
      (refine ⟨_, _, Blk.ld (hp.get (i := 3) rfl) TTok rfl rfl, ?_⟩; conv => whnf)
      (refine hKq _ _ _ (.refl _) ?_; clear hKq Kq; conv => whnf)
      (refine VSeq.mk fun Kq hKq => ?_; conv => whnf)
      (refine And.intro (fun h => absurd (of_decide_eq_true h) (by first | (intro h2; exact absurd rfl h2) | omega | decide)) (fun _ => ?_); conv => whnf)
      (refine ⟨_, _, Blk.ld (hp.get (i := 1) rfl) TTok rfl rfl, ?_⟩; conv => whnf)
      (refine ⟨_, _, Blk.ld (hp.get (i := 3) rfl) TTok rfl rfl, ?_⟩; conv => whnf)
      (refine Or.inl (And.intro (by first | omega | decide) ?_); conv => whnf)
      (refine hKq _ _ _ (.refl _) ?_; clear hKq Kq; conv => whnf)
      (refine VSeq.mk fun Kq hKq => ?_; conv => whnf)
      (refine And.intro (fun h => absurd (of_decide_eq_true h) (by first | (intro h2; exact absurd rfl h2) | omega | decide)) (fun _ => ?_); conv => whnf)
      (refine ⟨_, _, Blk.ld (hp.get (i := 3) rfl) TTok rfl rfl, ?_⟩; conv => whnf)
      (refine And.intro (fun _ => ?_) (fun h => absurd h (by decide)); conv => whnf)
      (refine ⟨_, _, Blk.ld (hp.get (i := 1) rfl) TTok rfl rfl, ?_⟩; conv => whnf)
      (refine hKq _ _ _ (.refl _) ?_; clear hKq Kq; conv => whnf)
      (refine VSeq.mk fun Kq hKq => ?_; conv => whnf)
      (refine And.intro (fun h => absurd h (by decide)) (fun _ => ?_); conv => whnf)
      (refine ⟨_, _, Blk.ld (hp.get (i := 1) rfl) TTok rfl rfl, ?_⟩; conv => whnf)
      (refine ⟨_, _, Blk.ld (hp.get (i := 3) rfl) TTok rfl rfl, ?_⟩; conv => whnf)
      (refine And.intro (fun _ => ?_) (fun h => absurd h (by decide)); conv => whnf)
      refine ⟨.bool false, w, by kernel_rfl, ?_⟩
      conv => whnf
      (refine hKq _ _ _ (.refl _) ?_; clear hKq Kq; conv => whnf)
      (refine VSeq.mk fun Kq hKq => ?_; conv => whnf)
      (refine And.intro (fun h => absurd h (by decide)) (fun _ => ?_); conv => whnf)
      (refine ⟨_, _, Blk.ld (hp.get (i := 1) rfl) TTok rfl rfl, ?_⟩; conv => whnf)
      (refine ⟨_, _, Blk.ld (hp.get (i := 3) rfl) TTok rfl rfl, ?_⟩; conv => whnf)
      (refine hKq _ _ _ (.refl _) ?_; clear hKq Kq; conv => whnf)
      (refine And.intro (fun h => absurd (of_decide_eq_true h) (by first | (intro h2; exact absurd rfl h2) | omega | decide)) (fun _ => ?_); conv => whnf)
      (refine hKq _ _ _ (.refl _) ?_; clear hKq Kq; conv => whnf)
      (refine And.intro (fun h => absurd (of_decide_eq_true h) (by first | (intro h2; exact absurd rfl h2) | omega | decide)) (fun _ => ?_); conv => whnf)
      (refine hKq _ _ _ (.refl _) ?_; clear hKq Kq; conv => whnf)
      (refine VSeq.mk fun Kq hKq => ?_; conv => whnf)
      (refine VSeq.mk fun Kq hKq => ?_; conv => whnf)
      (refine VSeq.mk fun Kq hKq => ?_; conv => whnf)
      (refine ⟨_, _, Blk.ld (hp.get (i := 1) rfl) TTok rfl rfl, ?_⟩; conv => whnf)
      (refine ⟨_, _, Blk.ld (hp.get (i := 3) rfl) TTok rfl rfl, ?_⟩; conv => whnf)
      (refine hKq _ _ _ (.refl _) ?_; clear hKq Kq; conv => whnf)
      (refine VSeq.mk fun Kq hKq => ?_; conv => whnf)
      (refine And.intro (fun h => absurd (of_decide_eq_true h) (by first | (intro h2; exact absurd rfl h2) | omega | decide)) (fun _ => ?_); conv => whnf)
      (refine hKq _ _ _ (.refl _) ?_; clear hKq Kq; conv => whnf)
      (refine ⟨_, _, Blk.ld (hp.get (i := 1) rfl) TTok rfl rfl, ?_⟩; conv => whnf)
      (refine And.intro (fun _ => ?_) (fun h => absurd h (by decide)); conv => whnf)
      (refine hKq _ _ _ (.refl _) ?_; clear hKq Kq; conv => whnf)
      (refine And.intro (fun h => absurd (of_decide_eq_true h) (by first | (intro h2; exact absurd rfl h2) | omega | decide)) (fun _ => ?_); conv => whnf)
      (refine hKq _ _ _ (.refl _) ?_; clear hKq Kq; conv => whnf)
      (refine ⟨_, _, Blk.ldV (vs := [_, _, _, _, _, _, _, _, _, _, _, _, _]) (hp.get (i := 1) rfl) TTok rfl rfl rfl, ?_⟩; conv => whnf)
      (refine hp.kstA TTok rfl 3 rfl rfl (oneC_of rfl) (by rfl) fun w hp => ?_; try simp only [List.set_cons_zero, List.set_cons_succ, EV.val] at hp; conv => whnf)
      refine hK0 _ _ _ (V.Sub.refl _) ?_
      conv => whnf
      (refine Or.inl (And.intro (by first | omega | decide) ?_); conv => whnf)
      exact ⟨mm - 1, _, by omega, ⟨i + 1, ⟨⟨vah, vap⟩, ⟨vbh, vbp⟩, (y.now + (x.after : Int) % 9000), vnxt, vtil, vser, true, y.noise, vword, vfresh, vasked⟩, pv, cv, by omega, rfl, hsy2, hp.pick [3, 0] (by decide)⟩, (sub_cons rfl (sub_cons rfl (sub_cons rfl (sub_cons rfl sub_nil))))⟩
     ·obtain ⟨hlg, htl2⟩ := hti.resolve_left htl
      rw [hg] at hp
      refine hK1 _ _ _ hs ?_
      clear hs
      conv => whnf
      (refine VSeq.mk fun Kq hKq => ?_; conv => whnf)
      (refine VSeq.mk fun Kq hKq => ?_; conv => whnf)
      (refine hKq _ _ _ (.refl _) ?_; clear hKq Kq; conv => whnf)
      (refine And.intro (fun h => absurd (of_decide_eq_true h) (by first | (intro h2; exact absurd rfl h2) | omega | decide)) (fun _ => ?_); conv => whnf)
      (refine hKq _ _ _ (.refl _) ?_; clear hKq Kq; conv => whnf)
      (refine VSeq.mk fun Kq hKq => ?_; conv => whnf)
      (refine VSeq.mk fun Kq hKq => ?_; conv => whnf)
      (refine VSeq.mk fun Kq hKq => ?_; conv => whnf)
      (refine ⟨_, _, Blk.ldV (vs := [_, _, _, _, _, _, _, _, _, _, _, _, _]) (hp.get (i := 1) rfl) TTok rfl rfl rfl, ?_⟩; conv => whnf)
      refine V.CallsUse (sC (hp.get (i := 0) rfl)) fun w hx => ?_
      have hp := hp.call hx
      conv => whnf
      (refine hKq _ _ _ (.refl _) ?_; clear hKq Kq; conv => whnf)
      (refine VSeq.mk fun Kq hKq => ?_; conv => whnf)
      (refine And.intro (fun h => absurd (of_decide_eq_true h) (by first | (intro h2; exact absurd rfl h2) | omega | decide)) (fun _ => ?_); conv => whnf)
      (refine ⟨_, _, Blk.ld (hp.get (i := 1) rfl) TTok rfl rfl, ?_⟩; conv => whnf)
      (refine hKq _ _ _ (.refl _) ?_; clear hKq Kq; conv => whnf)
      (refine VSeq.mk fun Kq hKq => ?_; conv => whnf)
      (refine And.intro (fun h => absurd (of_decide_eq_true h) (by first | (intro h2; exact absurd rfl h2) | omega | decide)) (fun _ => ?_); conv => whnf)
      (refine ⟨_, _, Blk.ld (hp.get (i := 1) rfl) TTok rfl rfl, ?_⟩; conv => whnf)
      (refine ⟨_, _, Blk.ld (hp.get (i := 3) rfl) TTok rfl rfl, ?_⟩; conv => whnf)
      (refine hKq _ _ _ (.refl _) ?_; clear hKq Kq; conv => whnf)
      (refine VSeq.mk fun Kq hKq => ?_; conv => whnf)
      (refine And.intro (fun h => absurd (of_decide_eq_true h) (by first | (intro h2; exact absurd rfl h2) | omega | decide)) (fun _ => ?_); conv => whnf)
      (refine ⟨_, _, Blk.ld (hp.get (i := 1) rfl) TTok rfl rfl, ?_⟩; conv => whnf)
      (refine ⟨_, _, Blk.ld (hp.get (i := 3) rfl) TTok rfl rfl, ?_⟩; conv => whnf)
      (refine Or.inl (And.intro (by first | omega | decide) ?_); conv => whnf)
      (refine hKq _ _ _ (.refl _) ?_; clear hKq Kq; conv => whnf)
      (refine VSeq.mk fun Kq hKq => ?_; conv => whnf)
      (refine And.intro (fun h => absurd (of_decide_eq_true h) (by first | (intro h2; exact absurd rfl h2) | omega | decide)) (fun _ => ?_); conv => whnf)
      (refine ⟨_, _, Blk.ld (hp.get (i := 3) rfl) TTok rfl rfl, ?_⟩; conv => whnf)
      (refine And.intro (fun _ => ?_) (fun h => absurd h (by decide)); conv => whnf)
      (refine ⟨_, _, Blk.ld (hp.get (i := 1) rfl) TTok rfl rfl, ?_⟩; conv => whnf)
      (refine hKq _ _ _ (.refl _) ?_; clear hKq Kq; conv => whnf)
      (refine VSeq.mk fun Kq hKq => ?_; conv => whnf)
      (refine And.intro (fun h => absurd h (by decide)) (fun _ => ?_); conv => whnf)
      (refine ⟨_, _, Blk.ld (hp.get (i := 1) rfl) TTok rfl rfl, ?_⟩; conv => whnf)
      (refine ⟨_, _, Blk.ld (hp.get (i := 3) rfl) TTok rfl rfl, ?_⟩; conv => whnf)
      (refine And.intro (fun _ => ?_) (fun h => absurd h (by decide)); conv => whnf)
      refine ⟨.bool false, w, by kernel_rfl, ?_⟩
      conv => whnf
      (refine hKq _ _ _ (.refl _) ?_; clear hKq Kq; conv => whnf)
      (refine VSeq.mk fun Kq hKq => ?_; conv => whnf)
      (refine And.intro (fun h => absurd h (by decide)) (fun _ => ?_); conv => whnf)
      (refine ⟨_, _, Blk.ld (hp.get (i := 1) rfl) TTok rfl rfl, ?_⟩; conv => whnf)
      (refine ⟨_, _, Blk.ld (hp.get (i := 3) rfl) TTok rfl rfl, ?_⟩; conv => whnf)
      (refine hKq _ _ _ (.refl _) ?_; clear hKq Kq; conv => whnf)
      (refine And.intro (fun h => absurd (of_decide_eq_true h) (by first | (intro h2; exact absurd rfl h2) | omega | decide)) (fun _ => ?_); conv => whnf)
      (refine hKq _ _ _ (.refl _) ?_; clear hKq Kq; conv => whnf)
      (refine And.intro (fun h => absurd (of_decide_eq_true h) (by first | (intro h2; exact absurd rfl h2) | omega | decide)) (fun _ => ?_); conv => whnf)
      (refine hKq _ _ _ (.refl _) ?_; clear hKq Kq; conv => whnf)
      (refine VSeq.mk fun Kq hKq => ?_; conv => whnf)
      (refine VSeq.mk fun Kq hKq => ?_; conv => whnf)
      (refine VSeq.mk fun Kq hKq => ?_; conv => whnf)
      (refine ⟨_, _, Blk.ld (hp.get (i := 1) rfl) TTok rfl rfl, ?_⟩; conv => whnf)
      (refine ⟨_, _, Blk.ld (hp.get (i := 3) rfl) TTok rfl rfl, ?_⟩; conv => whnf)
      (refine hKq _ _ _ (.refl _) ?_; clear hKq Kq; conv => whnf)
      (refine VSeq.mk fun Kq hKq => ?_; conv => whnf)
      (refine And.intro (fun _ => ?_) (fun h => absurd (by first | rfl | assumption | omega | decide) (of_decide_eq_false h)); conv => whnf)
      (refine ⟨_, _, Blk.ld (hp.get (i := 1) rfl) TTok rfl rfl, ?_⟩; conv => whnf)
      (refine Or.inl (And.intro (by first | omega | decide) ?_); conv => whnf)
      (refine hKq _ _ _ (.refl _) ?_; clear hKq Kq; conv => whnf)
      (refine And.intro (fun h => absurd (of_decide_eq_true h) (by first | (intro h2; exact absurd rfl h2) | omega | decide)) (fun _ => ?_); conv => whnf)
      (refine ⟨_, _, Blk.ld (hp.get (i := 1) rfl) TTok rfl rfl, ?_⟩; conv => whnf)
      (refine And.intro (fun _ => ?_) (fun h => absurd h (by decide)); conv => whnf)
      (refine hKq _ _ _ (.refl _) ?_; clear hKq Kq; conv => whnf)
      (refine And.intro (fun h => absurd (of_decide_eq_true h) (by first | (intro h2; exact absurd rfl h2) | omega | decide)) (fun _ => ?_); conv => whnf)
      (refine hKq _ _ _ (.refl _) ?_; clear hKq Kq; conv => whnf)
      (refine ⟨_, _, Blk.ldV (vs := [_, _, _, _, _, _, _, _, _, _, _, _, _]) (hp.get (i := 1) rfl) TTok rfl rfl rfl, ?_⟩; conv => whnf)
      (refine hp.kstA TTok rfl 3 rfl rfl (oneC_of rfl) (by rfl) fun w hp => ?_; try simp only [List.set_cons_zero, List.set_cons_succ, EV.val] at hp; conv => whnf)
      refine hK0 _ _ _ (V.Sub.refl _) ?_
      conv => whnf
      (refine Or.inl (And.intro (by first | omega | decide) ?_); conv => whnf)
      exact ⟨mm - 1, _, by omega, ⟨i + 1, ⟨⟨vah, vap⟩, ⟨vbh, vbp⟩, (y.now + (x.after : Int) % 9000), vnxt, vtil, vser, true, y.noise, vword, vfresh, vasked⟩, pv, cv, by omega, rfl, hsy2, hp.pick [3, 0] (by decide)⟩, (sub_cons rfl (sub_cons rfl (sub_cons rfl (sub_cons rfl sub_nil))))⟩
    ·have ho := hou rfl
     by_cases htl : vtil = y.til
     ·rw [hg] at hp
      refine hK1 _ _ _ hs ?_
      clear hs
      conv => whnf
      (refine VSeq.mk fun Kq hKq => ?_; conv => whnf)
      (refine VSeq.mk fun Kq hKq => ?_; conv => whnf)
      (refine hKq _ _ _ (.refl _) ?_; clear hKq Kq; conv => whnf)
      (refine And.intro (fun h => absurd (of_decide_eq_true h) (by first | (intro h2; exact absurd rfl h2) | omega | decide)) (fun _ => ?_); conv => whnf)
      (refine hKq _ _ _ (.refl _) ?_; clear hKq Kq; conv => whnf)
      (refine VSeq.mk fun Kq hKq => ?_; conv => whnf)
      (refine VSeq.mk fun Kq hKq => ?_; conv => whnf)
      (refine VSeq.mk fun Kq hKq => ?_; conv => whnf)
      (refine ⟨_, _, Blk.ldV (vs := [_, _, _, _, _, _, _, _, _, _, _, _, _]) (hp.get (i := 1) rfl) TTok rfl rfl rfl, ?_⟩; conv => whnf)
      refine V.CallsUse (sC (hp.get (i := 0) rfl)) fun w hx => ?_
      have hp := hp.call hx
      conv => whnf
      (refine hKq _ _ _ (.refl _) ?_; clear hKq Kq; conv => whnf)
      (refine VSeq.mk fun Kq hKq => ?_; conv => whnf)
      (refine And.intro (fun h => absurd (of_decide_eq_true h) (by first | (intro h2; exact absurd rfl h2) | omega | decide)) (fun _ => ?_); conv => whnf)
      (refine ⟨_, _, Blk.ld (hp.get (i := 1) rfl) TTok rfl rfl, ?_⟩; conv => whnf)
      (refine hKq _ _ _ (.refl _) ?_; clear hKq Kq; conv => whnf)
      (refine VSeq.mk fun Kq hKq => ?_; conv => whnf)
      (refine And.intro (fun h => absurd (of_decide_eq_true h) (by first | (intro h2; exact absurd rfl h2) | omega | decide)) (fun _ => ?_); conv => whnf)
      (refine ⟨_, _, Blk.ld (hp.get (i := 1) rfl) TTok rfl rfl, ?_⟩; conv => whnf)
      (refine ⟨_, _, Blk.ld (hp.get (i := 3) rfl) TTok rfl rfl, ?_⟩; conv => whnf)
      (refine hKq _ _ _ (.refl _) ?_; clear hKq Kq; conv => whnf)
      (refine VSeq.mk fun Kq hKq => ?_; conv => whnf)
      (refine And.intro (fun h => absurd (of_decide_eq_true h) (by first | (intro h2; exact absurd rfl h2) | omega | decide)) (fun _ => ?_); conv => whnf)
      (refine ⟨_, _, Blk.ld (hp.get (i := 1) rfl) TTok rfl rfl, ?_⟩; conv => whnf)
      (refine ⟨_, _, Blk.ld (hp.get (i := 3) rfl) TTok rfl rfl, ?_⟩; conv => whnf)
      (refine Or.inl (And.intro (by first | omega | decide) ?_); conv => whnf)
      (refine hKq _ _ _ (.refl _) ?_; clear hKq Kq; conv => whnf)
      (refine VSeq.mk fun Kq hKq => ?_; conv => whnf)
      (refine And.intro (fun h => absurd (of_decide_eq_true h) (by first | (intro h2; exact absurd rfl h2) | omega | decide)) (fun _ => ?_); conv => whnf)
      (refine ⟨_, _, Blk.ld (hp.get (i := 3) rfl) TTok rfl rfl, ?_⟩; conv => whnf)
      (refine And.intro (fun h => absurd h (by decide)) (fun _ => ?_); conv => whnf)
      (refine hKq _ _ _ (.refl _) ?_; clear hKq Kq; conv => whnf)
      (refine VSeq.mk fun Kq hKq => ?_; conv => whnf)
      (refine ⟨_, _, Blk.ld (hp.get (i := 1) rfl) TTok rfl rfl, ?_⟩; conv => whnf)
      (refine ⟨_, _, Blk.ld (hp.get (i := 3) rfl) TTok rfl rfl, ?_⟩; conv => whnf)
      (refine And.intro (fun h => absurd h (by decide)) (fun _ => ?_); conv => whnf)
      (refine ⟨_, _, Blk.ld (hp.get (i := 3) rfl) TTok rfl rfl, ?_⟩; conv => whnf)
      refine ⟨.bool false, w, (by rw [decide_eq_true ht]; kernel_rfl), ?_⟩
      conv => whnf
      (refine hKq _ _ _ (.refl _) ?_; clear hKq Kq; conv => whnf)
      (refine VSeq.mk fun Kq hKq => ?_; conv => whnf)
      (refine And.intro (fun h => absurd h (by decide)) (fun _ => ?_); conv => whnf)
      (refine ⟨_, _, Blk.ld (hp.get (i := 1) rfl) TTok rfl rfl, ?_⟩; conv => whnf)
      (refine ⟨_, _, Blk.ld (hp.get (i := 3) rfl) TTok rfl rfl, ?_⟩; conv => whnf)
      (refine hKq _ _ _ (.refl _) ?_; clear hKq Kq; conv => whnf)
      (refine And.intro (fun h => absurd (of_decide_eq_true h) (by first | (intro h2; exact absurd rfl h2) | omega | decide)) (fun _ => ?_); conv => whnf)
      (refine hKq _ _ _ (.refl _) ?_; clear hKq Kq; conv => whnf)
      (refine And.intro (fun h => absurd (of_decide_eq_true h) (by first | (intro h2; exact absurd rfl h2) | omega | decide)) (fun _ => ?_); conv => whnf)
      (refine hKq _ _ _ (.refl _) ?_; clear hKq Kq; conv => whnf)
      (refine VSeq.mk fun Kq hKq => ?_; conv => whnf)
      (refine VSeq.mk fun Kq hKq => ?_; conv => whnf)
      (refine VSeq.mk fun Kq hKq => ?_; conv => whnf)
      (refine ⟨_, _, Blk.ld (hp.get (i := 1) rfl) TTok rfl rfl, ?_⟩; conv => whnf)
      (refine ⟨_, _, Blk.ld (hp.get (i := 3) rfl) TTok rfl rfl, ?_⟩; conv => whnf)
      (refine hKq _ _ _ (.refl _) ?_; clear hKq Kq; conv => whnf)
      (refine VSeq.mk fun Kq hKq => ?_; conv => whnf)
      (refine And.intro (fun h => absurd (of_decide_eq_true h) (by first | (intro h2; exact absurd rfl h2) | omega | decide)) (fun _ => ?_); conv => whnf)
      (refine hKq _ _ _ (.refl _) ?_; clear hKq Kq; conv => whnf)
      (refine ⟨_, _, Blk.ld (hp.get (i := 1) rfl) TTok rfl rfl, ?_⟩; conv => whnf)
      (refine And.intro (fun _ => ?_) (fun h => absurd h (by decide)); conv => whnf)
      (refine hKq _ _ _ (.refl _) ?_; clear hKq Kq; conv => whnf)
      (refine And.intro (fun h => absurd (of_decide_eq_true h) (by first | (intro h2; exact absurd rfl h2) | omega | decide)) (fun _ => ?_); conv => whnf)
      (refine hKq _ _ _ (.refl _) ?_; clear hKq Kq; conv => whnf)
      (refine ⟨_, _, Blk.ldV (vs := [_, _, _, _, _, _, _, _, _, _, _, _, _]) (hp.get (i := 1) rfl) TTok rfl rfl rfl, ?_⟩; conv => whnf)
      (refine hp.kstA TTok rfl 3 rfl rfl (oneC_of rfl) (by rfl) fun w hp => ?_; try simp only [List.set_cons_zero, List.set_cons_succ, EV.val] at hp; conv => whnf)
      refine hK0 _ _ _ (V.Sub.refl _) ?_
      conv => whnf
      (refine Or.inl (And.intro (by first | omega | decide) ?_); conv => whnf)
      exact ⟨mm - 1, _, by omega, ⟨i + 1, ⟨⟨vah, vap⟩, ⟨vbh, vbp⟩, (y.now + (x.after : Int) % 9000), vnxt, vtil, vser, true, y.noise, vword, vfresh, vasked⟩, pv, cv, by omega, rfl, hsy2, hp.pick [3, 0] (by decide)⟩, (sub_cons rfl (sub_cons rfl (sub_cons rfl (sub_cons rfl sub_nil))))⟩
     ·obtain ⟨hlg, htl2⟩ := hti.resolve_left htl
      rw [hg] at hp
      refine hK1 _ _ _ hs ?_
      clear hs
      conv => whnf
      (refine VSeq.mk fun Kq hKq => ?_; conv => whnf)
      (refine VSeq.mk fun Kq hKq => ?_; conv => whnf)
      (refine hKq _ _ _ (.refl _) ?_; clear hKq Kq; conv => whnf)
      (refine And.intro (fun h => absurd (of_decide_eq_true h) (by first | (intro h2; exact absurd rfl h2) | omega | decide)) (fun _ => ?_); conv => whnf)
      (refine hKq _ _ _ (.refl _) ?_; clear hKq Kq; conv => whnf)
      (refine VSeq.mk fun Kq hKq => ?_; conv => whnf)
      (refine VSeq.mk fun Kq hKq => ?_; conv => whnf)
      (refine VSeq.mk fun Kq hKq => ?_; conv => whnf)
      (refine ⟨_, _, Blk.ldV (vs := [_, _, _, _, _, _, _, _, _, _, _, _, _]) (hp.get (i := 1) rfl) TTok rfl rfl rfl, ?_⟩; conv => whnf)
      refine V.CallsUse (sC (hp.get (i := 0) rfl)) fun w hx => ?_
      have hp := hp.call hx
      conv => whnf
      (refine hKq _ _ _ (.refl _) ?_; clear hKq Kq; conv => whnf)
      (refine VSeq.mk fun Kq hKq => ?_; conv => whnf)
      (refine And.intro (fun h => absurd (of_decide_eq_true h) (by first | (intro h2; exact absurd rfl h2) | omega | decide)) (fun _ => ?_); conv => whnf)
      (refine ⟨_, _, Blk.ld (hp.get (i := 1) rfl) TTok rfl rfl, ?_⟩; conv => whnf)
      (refine hKq _ _ _ (.refl _) ?_; clear hKq Kq; conv => whnf)
      (refine VSeq.mk fun Kq hKq => ?_; conv => whnf)
      (refine And.intro (fun h => absurd (of_decide_eq_true h) (by first | (intro h2; exact absurd rfl h2) | omega | decide)) (fun _ => ?_); conv => whnf)
      (refine ⟨_, _, Blk.ld (hp.get (i := 1) rfl) TTok rfl rfl, ?_⟩; conv => whnf)
      (refine ⟨_, _, Blk.ld (hp.get (i := 3) rfl) TTok rfl rfl, ?_⟩; conv => whnf)
      (refine hKq _ _ _ (.refl _) ?_; clear hKq Kq; conv => whnf)
      (refine VSeq.mk fun Kq hKq => ?_; conv => whnf)
      (refine And.intro (fun h => absurd (of_decide_eq_true h) (by first | (intro h2; exact absurd rfl h2) | omega | decide)) (fun _ => ?_); conv => whnf)
      (refine ⟨_, _, Blk.ld (hp.get (i := 1) rfl) TTok rfl rfl, ?_⟩; conv => whnf)
      (refine ⟨_, _, Blk.ld (hp.get (i := 3) rfl) TTok rfl rfl, ?_⟩; conv => whnf)
      (refine Or.inl (And.intro (by first | omega | decide) ?_); conv => whnf)
      (refine hKq _ _ _ (.refl _) ?_; clear hKq Kq; conv => whnf)
      (refine VSeq.mk fun Kq hKq => ?_; conv => whnf)
      (refine And.intro (fun h => absurd (of_decide_eq_true h) (by first | (intro h2; exact absurd rfl h2) | omega | decide)) (fun _ => ?_); conv => whnf)
      (refine ⟨_, _, Blk.ld (hp.get (i := 3) rfl) TTok rfl rfl, ?_⟩; conv => whnf)
      (refine And.intro (fun h => absurd h (by decide)) (fun _ => ?_); conv => whnf)
      (refine hKq _ _ _ (.refl _) ?_; clear hKq Kq; conv => whnf)
      (refine VSeq.mk fun Kq hKq => ?_; conv => whnf)
      (refine ⟨_, _, Blk.ld (hp.get (i := 1) rfl) TTok rfl rfl, ?_⟩; conv => whnf)
      (refine ⟨_, _, Blk.ld (hp.get (i := 3) rfl) TTok rfl rfl, ?_⟩; conv => whnf)
      (refine And.intro (fun h => absurd h (by decide)) (fun _ => ?_); conv => whnf)
      (refine ⟨_, _, Blk.ld (hp.get (i := 3) rfl) TTok rfl rfl, ?_⟩; conv => whnf)
      refine ⟨.bool false, w, (by rw [decide_eq_true ht]; kernel_rfl), ?_⟩
      conv => whnf
      (refine hKq _ _ _ (.refl _) ?_; clear hKq Kq; conv => whnf)
      (refine VSeq.mk fun Kq hKq => ?_; conv => whnf)
      (refine And.intro (fun h => absurd h (by decide)) (fun _ => ?_); conv => whnf)
      (refine ⟨_, _, Blk.ld (hp.get (i := 1) rfl) TTok rfl rfl, ?_⟩; conv => whnf)
      (refine ⟨_, _, Blk.ld (hp.get (i := 3) rfl) TTok rfl rfl, ?_⟩; conv => whnf)
      (refine hKq _ _ _ (.refl _) ?_; clear hKq Kq; conv => whnf)
      (refine And.intro (fun h => absurd (of_decide_eq_true h) (by first | (intro h2; exact absurd rfl h2) | omega | decide)) (fun _ => ?_); conv => whnf)
      (refine hKq _ _ _ (.refl _) ?_; clear hKq Kq; conv => whnf)
      (refine And.intro (fun h => absurd (of_decide_eq_true h) (by first | (intro h2; exact absurd rfl h2) | omega | decide)) (fun _ => ?_); conv => whnf)
      (refine hKq _ _ _ (.refl _) ?_; clear hKq Kq; conv => whnf)
      (refine VSeq.mk fun Kq hKq => ?_; conv => whnf)
      (refine VSeq.mk fun Kq hKq => ?_; conv => whnf)
      (refine VSeq.mk fun Kq hKq => ?_; conv => whnf)
      (refine ⟨_, _, Blk.ld (hp.get (i := 1) rfl) TTok rfl rfl, ?_⟩; conv => whnf)
      (refine ⟨_, _, Blk.ld (hp.get (i := 3) rfl) TTok rfl rfl, ?_⟩; conv => whnf)
      (refine hKq _ _ _ (.refl _) ?_; clear hKq Kq; conv => whnf)
      (refine VSeq.mk fun Kq hKq => ?_; conv => whnf)
      (refine And.intro (fun _ => ?_) (fun h => absurd (by first | rfl | assumption | omega | decide) (of_decide_eq_false h)); conv => whnf)
      (refine ⟨_, _, Blk.ld (hp.get (i := 1) rfl) TTok rfl rfl, ?_⟩; conv => whnf)
      (refine Or.inl (And.intro (by first | omega | decide) ?_); conv => whnf)
      (refine hKq _ _ _ (.refl _) ?_; clear hKq Kq; conv => whnf)
      (refine And.intro (fun h => absurd (of_decide_eq_true h) (by first | (intro h2; exact absurd rfl h2) | omega | decide)) (fun _ => ?_); conv => whnf)
      (refine ⟨_, _, Blk.ld (hp.get (i := 1) rfl) TTok rfl rfl, ?_⟩; conv => whnf)
      (refine And.intro (fun _ => ?_) (fun h => absurd h (by decide)); conv => whnf)
      (refine hKq _ _ _ (.refl _) ?_; clear hKq Kq; conv => whnf)
      (refine And.intro (fun h => absurd (of_decide_eq_true h) (by first | (intro h2; exact absurd rfl h2) | omega | decide)) (fun _ => ?_); conv => whnf)
      (refine hKq _ _ _ (.refl _) ?_; clear hKq Kq; conv => whnf)
      (refine ⟨_, _, Blk.ldV (vs := [_, _, _, _, _, _, _, _, _, _, _, _, _]) (hp.get (i := 1) rfl) TTok rfl rfl rfl, ?_⟩; conv => whnf)
      (refine hp.kstA TTok rfl 3 rfl rfl (oneC_of rfl) (by rfl) fun w hp => ?_; try simp only [List.set_cons_zero, List.set_cons_succ, EV.val] at hp; conv => whnf)
      refine hK0 _ _ _ (V.Sub.refl _) ?_
      conv => whnf
      (refine Or.inl (And.intro (by first | omega | decide) ?_); conv => whnf)
      exact ⟨mm - 1, _, by omega, ⟨i + 1, ⟨⟨vah, vap⟩, ⟨vbh, vbp⟩, (y.now + (x.after : Int) % 9000), vnxt, vtil, vser, true, y.noise, vword, vfresh, vasked⟩, pv, cv, by omega, rfl, hsy2, hp.pick [3, 0] (by decide)⟩, (sub_cons rfl (sub_cons rfl (sub_cons rfl (sub_cons rfl sub_nil))))⟩
    ·by_cases htl : vtil = y.til
     ·rw [hg] at hp
      refine hK1 _ _ _ hs ?_
      clear hs
      conv => whnf
      (refine VSeq.mk fun Kq hKq => ?_; conv => whnf)
      (refine VSeq.mk fun Kq hKq => ?_; conv => whnf)
      (refine hKq _ _ _ (.refl _) ?_; clear hKq Kq; conv => whnf)
      (refine And.intro (fun h => absurd (of_decide_eq_true h) (by first | (intro h2; exact absurd rfl h2) | omega | decide)) (fun _ => ?_); conv => whnf)
      (refine hKq _ _ _ (.refl _) ?_; clear hKq Kq; conv => whnf)
      (refine VSeq.mk fun Kq hKq => ?_; conv => whnf)
      (refine VSeq.mk fun Kq hKq => ?_; conv => whnf)
      (refine VSeq.mk fun Kq hKq => ?_; conv => whnf)
      (refine ⟨_, _, Blk.ldV (vs := [_, _, _, _, _, _, _, _, _, _, _, _, _]) (hp.get (i := 1) rfl) TTok rfl rfl rfl, ?_⟩; conv => whnf)
      refine V.CallsUse (sC (hp.get (i := 0) rfl)) fun w hx => ?_
      have hp := hp.call hx
      conv => whnf
      (refine hKq _ _ _ (.refl _) ?_; clear hKq Kq; conv => whnf)
      (refine VSeq.mk fun Kq hKq => ?_; conv => whnf)
      (refine And.intro (fun h => absurd (of_decide_eq_true h) (by first | (intro h2; exact absurd rfl h2) | omega | decide)) (fun _ => ?_); conv => whnf)
      (refine ⟨_, _, Blk.ld (hp.get (i := 1) rfl) TTok rfl rfl, ?_⟩; conv => whnf)
      (refine hKq _ _ _ (.refl _) ?_; clear hKq Kq; conv => whnf)
      (refine VSeq.mk fun Kq hKq => ?_; conv => whnf)
      (refine And.intro (fun h => absurd (of_decide_eq_true h) (by first | (intro h2; exact absurd rfl h2) | omega | decide)) (fun _ => ?_); conv => whnf)
      (refine ⟨_, _, Blk.ld (hp.get (i := 1) rfl) TTok rfl rfl, ?_⟩; conv => whnf)
      (refine ⟨_, _, Blk.ld (hp.get (i := 3) rfl) TTok rfl rfl, ?_⟩; conv => whnf)
      (refine hKq _ _ _ (.refl _) ?_; clear hKq Kq; conv => whnf)
      (refine VSeq.mk fun Kq hKq => ?_; conv => whnf)
      (refine And.intro (fun h => absurd (of_decide_eq_true h) (by first | (intro h2; exact absurd rfl h2) | omega | decide)) (fun _ => ?_); conv => whnf)
      (refine ⟨_, _, Blk.ld (hp.get (i := 1) rfl) TTok rfl rfl, ?_⟩; conv => whnf)
      (refine ⟨_, _, Blk.ld (hp.get (i := 3) rfl) TTok rfl rfl, ?_⟩; conv => whnf)
      (refine Or.inl (And.intro (by first | omega | decide) ?_); conv => whnf)
      (refine hKq _ _ _ (.refl _) ?_; clear hKq Kq; conv => whnf)
      (refine VSeq.mk fun Kq hKq => ?_; conv => whnf)
      (refine And.intro (fun h => absurd (of_decide_eq_true h) (by first | (intro h2; exact absurd rfl h2) | omega | decide)) (fun _ => ?_); conv => whnf)
      (refine ⟨_, _, Blk.ld (hp.get (i := 3) rfl) TTok rfl rfl, ?_⟩; conv => whnf)
      (refine And.intro (fun h => absurd h (by decide)) (fun _ => ?_); conv => whnf)
      (refine hKq _ _ _ (.refl _) ?_; clear hKq Kq; conv => whnf)
      (refine VSeq.mk fun Kq hKq => ?_; conv => whnf)
      (refine ⟨_, _, Blk.ld (hp.get (i := 1) rfl) TTok rfl rfl, ?_⟩; conv => whnf)
      (refine ⟨_, _, Blk.ld (hp.get (i := 3) rfl) TTok rfl rfl, ?_⟩; conv => whnf)
      (refine And.intro (fun h => absurd h (by decide)) (fun _ => ?_); conv => whnf)
      (refine ⟨_, _, Blk.ld (hp.get (i := 3) rfl) TTok rfl rfl, ?_⟩; conv => whnf)
      refine ⟨.bool false, w, (by rw [decide_eq_false ht]; kernel_rfl), ?_⟩
      conv => whnf
      (refine hKq _ _ _ (.refl _) ?_; clear hKq Kq; conv => whnf)
      (refine VSeq.mk fun Kq hKq => ?_; conv => whnf)
      (refine And.intro (fun h => absurd h (by decide)) (fun _ => ?_); conv => whnf)
      (refine ⟨_, _, Blk.ld (hp.get (i := 1) rfl) TTok rfl rfl, ?_⟩; conv => whnf)
      (refine ⟨_, _, Blk.ld (hp.get (i := 3) rfl) TTok rfl rfl, ?_⟩; conv => whnf)
      (refine hKq _ _ _ (.refl _) ?_; clear hKq Kq; conv => whnf)
      (refine And.intro (fun h => absurd (of_decide_eq_true h) (by first | (intro h2; exact absurd rfl h2) | omega | decide)) (fun _ => ?_); conv => whnf)
      (refine hKq _ _ _ (.refl _) ?_; clear hKq Kq; conv => whnf)
      (refine And.intro (fun h => absurd (of_decide_eq_true h) (by first | (intro h2; exact absurd rfl h2) | omega | decide)) (fun _ => ?_); conv => whnf)
      (refine hKq _ _ _ (.refl _) ?_; clear hKq Kq; conv => whnf)
      (refine VSeq.mk fun Kq hKq => ?_; conv => whnf)
      (refine VSeq.mk fun Kq hKq => ?_; conv => whnf)
      (refine VSeq.mk fun Kq hKq => ?_; conv => whnf)
      (refine ⟨_, _, Blk.ld (hp.get (i := 1) rfl) TTok rfl rfl, ?_⟩; conv => whnf)
      (refine ⟨_, _, Blk.ld (hp.get (i := 3) rfl) TTok rfl rfl, ?_⟩; conv => whnf)
      (refine hKq _ _ _ (.refl _) ?_; clear hKq Kq; conv => whnf)
      (refine VSeq.mk fun Kq hKq => ?_; conv => whnf)
      (refine And.intro (fun h => absurd (of_decide_eq_true h) (by first | (intro h2; exact absurd rfl h2) | omega | decide)) (fun _ => ?_); conv => whnf)
      (refine hKq _ _ _ (.refl _) ?_; clear hKq Kq; conv => whnf)
      (refine ⟨_, _, Blk.ld (hp.get (i := 1) rfl) TTok rfl rfl, ?_⟩; conv => whnf)
      (refine And.intro (fun h => absurd h (by decide)) (fun _ => ?_); conv => whnf)
      (refine hKq _ _ _ (.refl _) ?_; clear hKq Kq; conv => whnf)
      (refine hKq _ _ _ (.refl _) ?_; clear hKq Kq; conv => whnf)
      (refine ⟨_, _, Blk.ldV (vs := [_, _, _, _, _, _, _, _, _, _, _, _, _]) (hp.get (i := 1) rfl) TTok rfl rfl rfl, ?_⟩; conv => whnf)
      (refine hp.kstA TTok rfl 3 rfl rfl (oneC_of rfl) (by rfl) fun w hp => ?_; try simp only [List.set_cons_zero, List.set_cons_succ, EV.val] at hp; conv => whnf)
      refine hK0 _ _ _ (V.Sub.refl _) ?_
      conv => whnf
      (refine Or.inl (And.intro (by first | omega | decide) ?_); conv => whnf)
      exact ⟨mm - 1, _, by omega, ⟨i + 1, ⟨⟨vah, vap⟩, ⟨vbh, vbp⟩, (y.now + (x.after : Int) % 9000), vnxt, vtil, vser, false, y.noise, vword, vfresh, vasked⟩, pv, cv, by omega, rfl, hsy2, hp.pick [3, 0] (by decide)⟩, (sub_cons rfl (sub_cons rfl (sub_cons rfl (sub_cons rfl sub_nil))))⟩
     ·obtain ⟨hlg, htl2⟩ := hti.resolve_left htl
      rw [hg] at hp
      refine hK1 _ _ _ hs ?_
      clear hs
      conv => whnf
      (refine VSeq.mk fun Kq hKq => ?_; conv => whnf)
      (refine VSeq.mk fun Kq hKq => ?_; conv => whnf)
      (refine hKq _ _ _ (.refl _) ?_; clear hKq Kq; conv => whnf)
      (refine And.intro (fun h => absurd (of_decide_eq_true h) (by first | (intro h2; exact absurd rfl h2) | omega | decide)) (fun _ => ?_); conv => whnf)
      (refine hKq _ _ _ (.refl _) ?_; clear hKq Kq; conv => whnf)
      (refine VSeq.mk fun Kq hKq => ?_; conv => whnf)
      (refine VSeq.mk fun Kq hKq => ?_; conv => whnf)
      (refine VSeq.mk fun Kq hKq => ?_; conv => whnf)
      (refine ⟨_, _, Blk.ldV (vs := [_, _, _, _, _, _, _, _, _, _, _, _, _]) (hp.get (i := 1) rfl) TTok rfl rfl rfl, ?_⟩; conv => whnf)
      refine V.CallsUse (sC (hp.get (i := 0) rfl)) fun w hx => ?_
      have hp := hp.call hx
      conv => whnf
      (refine hKq _ _ _ (.refl _) ?_; clear hKq Kq; conv => whnf)
      (refine VSeq.mk fun Kq hKq => ?_; conv => whnf)
      (refine And.intro (fun h => absurd (of_decide_eq_true h) (by first | (intro h2; exact absurd rfl h2) | omega | decide)) (fun _ => ?_); conv => whnf)
      (refine ⟨_, _, Blk.ld (hp.get (i := 1) rfl) TTok rfl rfl, ?_⟩; conv => whnf)
      (refine hKq _ _ _ (.refl _) ?_; clear hKq Kq; conv => whnf)
      (refine VSeq.mk fun Kq hKq => ?_; conv => whnf)
      (refine And.intro (fun h => absurd (of_decide_eq_true h) (by first | (intro h2; exact absurd rfl h2) | omega | decide)) (fun _ => ?_); conv => whnf)
      (refine ⟨_, _, Blk.ld (hp.get (i := 1) rfl) TTok rfl rfl, ?_⟩; conv => whnf)
      (refine ⟨_, _, Blk.ld (hp.get (i := 3) rfl) TTok rfl rfl, ?_⟩; conv => whnf)
      (refine hKq _ _ _ (.refl _) ?_; clear hKq Kq; conv => whnf)
      (refine VSeq.mk fun Kq hKq => ?_; conv => whnf)
      (refine And.intro (fun h => absurd (of_decide_eq_true h) (by first | (intro h2; exact absurd rfl h2) | omega | decide)) (fun _ => ?_); conv => whnf)
      (refine ⟨_, _, Blk.ld (hp.get (i := 1) rfl) TTok rfl rfl, ?_⟩; conv => whnf)
      (refine ⟨_, _, Blk.ld (hp.get (i := 3) rfl) TTok rfl rfl, ?_⟩; conv => whnf)
      (refine Or.inl (And.intro (by first | omega | decide) ?_); conv => whnf)
      (refine hKq _ _ _ (.refl _) ?_; clear hKq Kq; conv => whnf)
      (refine VSeq.mk fun Kq hKq => ?_; conv => whnf)
      (refine And.intro (fun h => absurd (of_decide_eq_true h) (by first | (intro h2; exact absurd rfl h2) | omega | decide)) (fun _ => ?_); conv => whnf)
      (refine ⟨_, _, Blk.ld (hp.get (i := 3) rfl) TTok rfl rfl, ?_⟩; conv => whnf)
      (refine And.intro (fun h => absurd h (by decide)) (fun _ => ?_); conv => whnf)
      (refine hKq _ _ _ (.refl _) ?_; clear hKq Kq; conv => whnf)
      (refine VSeq.mk fun Kq hKq => ?_; conv => whnf)
      (refine ⟨_, _, Blk.ld (hp.get (i := 1) rfl) TTok rfl rfl, ?_⟩; conv => whnf)
      (refine ⟨_, _, Blk.ld (hp.get (i := 3) rfl) TTok rfl rfl, ?_⟩; conv => whnf)
      (refine And.intro (fun h => absurd h (by decide)) (fun _ => ?_); conv => whnf)
      (refine ⟨_, _, Blk.ld (hp.get (i := 3) rfl) TTok rfl rfl, ?_⟩; conv => whnf)
      refine ⟨.bool false, w, (by rw [decide_eq_false ht]; kernel_rfl), ?_⟩
      conv => whnf
      (refine hKq _ _ _ (.refl _) ?_; clear hKq Kq; conv => whnf)
      (refine VSeq.mk fun Kq hKq => ?_; conv => whnf)
      (refine And.intro (fun h => absurd h (by decide)) (fun _ => ?_); conv => whnf)
      (refine ⟨_, _, Blk.ld (hp.get (i := 1) rfl) TTok rfl rfl, ?_⟩; conv => whnf)
      (refine ⟨_, _, Blk.ld (hp.get (i := 3) rfl) TTok rfl rfl, ?_⟩; conv => whnf)
      (refine hKq _ _ _ (.refl _) ?_; clear hKq Kq; conv => whnf)
      (refine And.intro (fun h => absurd (of_decide_eq_true h) (by first | (intro h2; exact absurd rfl h2) | omega | decide)) (fun _ => ?_); conv => whnf)
      (refine hKq _ _ _ (.refl _) ?_; clear hKq Kq; conv => whnf)
      (refine And.intro (fun h => absurd (of_decide_eq_true h) (by first | (intro h2; exact absurd rfl h2) | omega | decide)) (fun _ => ?_); conv => whnf)
      (refine hKq _ _ _ (.refl _) ?_; clear hKq Kq; conv => whnf)
      (refine VSeq.mk fun Kq hKq => ?_; conv => whnf)
      (refine VSeq.mk fun Kq hKq => ?_; conv => whnf)
      (refine VSeq.mk fun Kq hKq => ?_; conv => whnf)
      (refine ⟨_, _, Blk.ld (hp.get (i := 1) rfl) TTok rfl rfl, ?_⟩; conv => whnf)
      (refine ⟨_, _, Blk.ld (hp.get (i := 3) rfl) TTok rfl rfl, ?_⟩; conv => whnf)
      (refine hKq _ _ _ (.refl _) ?_; clear hKq Kq; conv => whnf)
      (refine VSeq.mk fun Kq hKq => ?_; conv => whnf)
      (refine And.intro (fun _ => ?_) (fun h => absurd (by first | rfl | assumption | omega | decide) (of_decide_eq_false h)); conv => whnf)
      (refine ⟨_, _, Blk.ld (hp.get (i := 1) rfl) TTok rfl rfl, ?_⟩; conv => whnf)
      (refine Or.inl (And.intro (by first | omega | decide) ?_); conv => whnf)
      (refine hKq _ _ _ (.refl _) ?_; clear hKq Kq; conv => whnf)
      (refine And.intro (fun h => absurd (of_decide_eq_true h) (by first | (intro h2; exact absurd rfl h2) | omega | decide)) (fun _ => ?_); conv => whnf)
      (refine ⟨_, _, Blk.ld (hp.get (i := 1) rfl) TTok rfl rfl, ?_⟩; conv => whnf)
      (refine And.intro (fun h => absurd h (by decide)) (fun _ => ?_); conv => whnf)
      (refine hKq _ _ _ (.refl _) ?_; clear hKq Kq; conv => whnf)
      (refine hKq _ _ _ (.refl _) ?_; clear hKq Kq; conv => whnf)
      (refine ⟨_, _, Blk.ldV (vs := [_, _, _, _, _, _, _, _, _, _, _, _, _]) (hp.get (i := 1) rfl) TTok rfl rfl rfl, ?_⟩; conv => whnf)
      (refine hp.kstA TTok rfl 3 rfl rfl (oneC_of rfl) (by rfl) fun w hp => ?_; try simp only [List.set_cons_zero, List.set_cons_succ, EV.val] at hp; conv => whnf)
      refine hK0 _ _ _ (V.Sub.refl _) ?_
      conv => whnf
      (refine Or.inl (And.intro (by first | omega | decide) ?_); conv => whnf)
      exact ⟨mm - 1, _, by omega, ⟨i + 1, ⟨⟨vah, vap⟩, ⟨vbh, vbp⟩, (y.now + (x.after : Int) % 9000), vnxt, vtil, vser, false, y.noise, vword, vfresh, vasked⟩, pv, cv, by omega, rfl, hsy2, hp.pick [3, 0] (by decide)⟩, (sub_cons rfl (sub_cons rfl (sub_cons rfl (sub_cons rfl sub_nil))))⟩
   ·have hpB := hp
    by_cases he8 : e = 8
    ·by_cases ht : y.til ≤ (y.now + (x.after : Int) % 9000)
     ·refine hK1 _ _ _ hs ?_
      clear hs
      conv => whnf
      (refine VSeq.mk fun Kq hKq => ?_; conv => whnf)
      (refine VSeq.mk fun Kq hKq => ?_; conv => whnf)
      (refine hKq _ _ _ (.refl _) ?_; clear hKq Kq; conv => whnf)
      (refine And.intro (fun _ => ?_) (fun h => absurd (by first | rfl | assumption | omega | decide) (of_decide_eq_false h)); conv => whnf)
      (refine VSeq.mk fun Kq hKq => ?_; conv => whnf)
      (refine VSeq.mk fun Kq hKq => ?_; conv => whnf)
      (refine VSeq.mk fun Kq hKq => ?_; conv => whnf)
      (refine ⟨_, _, Blk.ld (hp.get (i := 2) rfl) TTok rfl rfl, ?_⟩; conv => whnf)
      (refine And.intro (by first | omega | decide) ?_; conv => whnf)
      (refine hKq _ _ _ (.refl _) ?_; clear hKq Kq; conv => whnf)
      (refine And.intro (fun h => absurd (of_decide_eq_true h) (by first | (intro h2; exact absurd rfl h2) | omega | decide)) (fun _ => ?_); conv => whnf)
      (refine And.intro (fun _ => ?_) (fun h => absurd (by first | rfl | assumption | omega | decide) (of_decide_eq_false h)); conv => whnf)
      (refine ⟨_, _, Blk.ld (hp.get (i := 3) rfl) TTok rfl rfl, ?_⟩; conv => whnf)
      (refine And.intro (fun h => absurd (of_decide_eq_true h) (by first | (intro h2; exact absurd rfl h2) | omega | decide)) (fun _ => ?_); conv => whnf)
      (refine hKq _ _ _ (.refl _) ?_; clear hKq Kq; conv => whnf)
      (refine hKq _ _ _ (.refl _) ?_; clear hKq Kq; conv => whnf)
      refine hK0 _ _ _ (V.Sub.refl _) ?_
      conv => whnf
      (refine Or.inl (And.intro (by first | omega | decide) ?_); conv => whnf)
      exact ⟨mm - 1, _, by omega, ⟨i + 1, y, ps, cs, by omega, rfl, hsy.more (by omega), hpB.pick [3, 4] (by decide)⟩, (sub_cons rfl (sub_cons rfl (sub_cons rfl (sub_cons rfl sub_nil))))⟩
     ·have hg : y.gone = true := (h8 he8).resolve_left ht
      rw [hg] at hp
      refine hK1 _ _ _ hs ?_
      clear hs
      conv => whnf
      (refine VSeq.mk fun Kq hKq => ?_; conv => whnf)
      (refine VSeq.mk fun Kq hKq => ?_; conv => whnf)
      (refine hKq _ _ _ (.refl _) ?_; clear hKq Kq; conv => whnf)
      (refine And.intro (fun _ => ?_) (fun h => absurd (by first | rfl | assumption | omega | decide) (of_decide_eq_false h)); conv => whnf)
      (refine VSeq.mk fun Kq hKq => ?_; conv => whnf)
      (refine VSeq.mk fun Kq hKq => ?_; conv => whnf)
      (refine VSeq.mk fun Kq hKq => ?_; conv => whnf)
      (refine ⟨_, _, Blk.ld (hp.get (i := 2) rfl) TTok rfl rfl, ?_⟩; conv => whnf)
      (refine And.intro (by first | omega | decide) ?_; conv => whnf)
      (refine hKq _ _ _ (.refl _) ?_; clear hKq Kq; conv => whnf)
      (refine And.intro (fun h => absurd (of_decide_eq_true h) (by first | (intro h2; exact absurd rfl h2) | omega | decide)) (fun _ => ?_); conv => whnf)
      (refine And.intro (fun _ => ?_) (fun h => absurd (by first | rfl | assumption | omega | decide) (of_decide_eq_false h)); conv => whnf)
      (refine ⟨_, _, Blk.ld (hp.get (i := 3) rfl) TTok rfl rfl, ?_⟩; conv => whnf)
      (refine And.intro (fun _ => ?_) (fun h => absurd (by first | rfl | assumption | omega | decide) (of_decide_eq_false h)); conv => whnf)
      (refine ⟨_, _, Blk.ld (hp.get (i := 3) rfl) TTok rfl rfl, ?_⟩; conv => whnf)
      (refine hKq _ _ _ (.refl _) ?_; clear hKq Kq; conv => whnf)
      (refine And.intro (fun h => absurd h (by decide)) (fun _ => ?_); conv => whnf)
      (refine hKq _ _ _ (.refl _) ?_; clear hKq Kq; conv => whnf)
      refine hK0 _ _ _ (V.Sub.refl _) ?_
      conv => whnf
      (refine Or.inl (And.intro (by first | omega | decide) ?_); conv => whnf)
      exact ⟨mm - 1, _, by omega, ⟨i + 1, y, ps, cs, by omega, rfl, hsy.more (by omega), hpB.pick [3, 4] (by decide)⟩, (sub_cons rfl (sub_cons rfl (sub_cons rfl (sub_cons rfl sub_nil))))⟩
    ·refine hK1 _ _ _ hs ?_
     clear hs
     conv => whnf
     (refine VSeq.mk fun Kq hKq => ?_; conv => whnf)
     (refine VSeq.mk fun Kq hKq => ?_; conv => whnf)
     (refine hKq _ _ _ (.refl _) ?_; clear hKq Kq; conv => whnf)
     (refine And.intro (fun _ => ?_) (fun h => absurd (by first | rfl | assumption | omega | decide) (of_decide_eq_false h)); conv => whnf)
     (refine VSeq.mk fun Kq hKq => ?_; conv => whnf)
     (refine VSeq.mk fun Kq hKq => ?_; conv => whnf)
     (refine VSeq.mk fun Kq hKq => ?_; conv => whnf)
     (refine ⟨_, _, Blk.ld (hp.get (i := 2) rfl) TTok rfl rfl, ?_⟩; conv => whnf)
     (refine And.intro (by first | omega | decide) ?_; conv => whnf)
     (refine hKq _ _ _ (.refl _) ?_; clear hKq Kq; conv => whnf)
     (refine And.intro (fun h => absurd (of_decide_eq_true h) (by first | (intro h2; exact absurd rfl h2) | omega | decide)) (fun _ => ?_); conv => whnf)
     (refine And.intro (fun h => absurd (of_decide_eq_true h) (by first | (intro h2; exact absurd rfl h2) | omega | decide)) (fun _ => ?_); conv => whnf)
     (refine hKq _ _ _ (.refl _) ?_; clear hKq Kq; conv => whnf)
     (refine hKq _ _ _ (.refl _) ?_; clear hKq Kq; conv => whnf)
     refine hK0 _ _ _ (V.Sub.refl _) ?_
     conv => whnf
     (refine Or.inl (And.intro (by first | omega | decide) ?_); conv => whnf)
     exact ⟨mm - 1, _, by omega, ⟨i + 1, y, ps, cs, by omega, rfl, hsy.more (by omega), hpB.pick [3, 4] (by decide)⟩, (sub_cons rfl (sub_cons rfl (sub_cons rfl (sub_cons rfl sub_nil))))⟩
  have keyB : ∀ (v : Wt) (pv : Option Addr) (cv : Nat) (op : Option Addr) (ol oc : Nat) (e : Int) (lg : Bool) (l : Env) (w : World), V.Sub [(5, .v (.pointer (some ⟨q5, 0, none⟩))), (7, .v (.pointer (some ⟨al65, 0, none⟩))), (8, .v (.int .i64 (y.now + (x.after : Int) % 9000))), (9, .v (.pointer (some ⟨al34, 0, none⟩))), (10, .v (.slice op ol oc)), (11, .v (.int .i64 e)), (13, .v (.bool lg)), (22, .v (.slice (some ⟨g, off, none⟩) M.length cm)), (23, .v (.int .i64 M.length)), (24, .v (.int .i64 i))] l → HpM [] W w [ritem (.slice pv (iv v.asked).length cv) (iv v.asked), blk al34 [.string v.a.h, .int .i64 v.a.p, .string v.b.h, .int .i64 v.b.p, .int .i64 v.now, .int .i64 v.nxt, .int .i64 v.til, .int .i64 v.ser, .bool v.gone, .string v.noise, .string v.word, .string v.fresh, .slice pv (iv v.asked).length cv] 34, blk al65 x.c 65, blk q5 [.string y.a.h, .int .i64 y.a.p, .string y.b.h, .int .i64 y.b.p, .int .i64 y.now, .int .i64 y.nxt, .int .i64 y.til, .int .i64 y.ser, .bool y.gone, .string y.noise, .string y.word, .string y.fresh, .slice ps (iv y.asked).length cs] 34, ritem (.slice ps (iv y.asked).length cs) (iv y.asked)] → ((e = 0 ∧ ∃ o : List Hop3, ol = o.length ∧ StayR i y v (y.now + (x.after : Int) % 9000) o (lg = true)) ∨ (e ≠ 0 ∧ (x.what % 8 = 6 ∨ x.what % 8 = 7) ∧ (e = 8 → y.til ≤ (y.now + (x.after : Int) % 9000) ∨ y.gone = true))) → K1 l w := by
   intro v pv cv op ol oc e lg l w hs hp hc
   rcases hc with ⟨rfl, o, rfl, hR⟩ | ⟨he0, hw8, h8⟩
   ·obtain ⟨⟨vah, vap⟩, ⟨vbh, vbp⟩, vnow, vnxt, vtil, vser, vgone, vnoise, vword, vfresh, vasked⟩ := v
    have vo := hR.sy.ok
    have vv := hR.sy.v
    have hsy2 := hR.sy
    have e1 : vnow = (y.now + (x.after : Int) % 9000) := hR.now
    subst e1
    have e2 : vnoise = y.noise := hR.noise
    subst e2
    have hse : vser = y.ser ∨ vser = y.ser + 1 := hR.ser
    have hti : vtil = y.til ∨ (lg = true ∧ vtil = (y.now + (x.after : Int) % 9000) + 30000) := hR.til
    have hgo : vgone = (y.gone || decide (y.til ≤ (y.now + (x.after : Int) % 9000))) := hR.gone
    have hle := hR.len
    have hys := hsy.v.ser
    have hou : vgone = true → o.length = 0 := fun h => by rw [hR.out h]; rfl
    have sC := fun {W : World} hv => Check12_c (W := W) (v := .slice pv (iv vasked).length cv) _ vo hv
    rw [chkW_of vv] at sC
    dsimp only [Wt.c] at sC hp
    have hcase : (y.gone = true ∧ vgone = true) ∨ (y.gone = false ∧ y.til ≤ (y.now + (x.after : Int) % 9000) ∧ vgone = true) ∨ (y.gone = false ∧ ¬ y.til ≤ (y.now + (x.after : Int) % 9000) ∧ vgone = false) := by
     rw [hgo]
     cases y.gone with
     | true => exact .inl ⟨rfl, rfl⟩
     | false =>
      by_cases h : y.til ≤ (y.now + (x.after : Int) % 9000)
      ·exact .inr (.inl ⟨rfl, h, decide_eq_true h⟩)
      ·exact .inr (.inr ⟨rfl, h, decide_eq_false h⟩)
    clear hR hgo vv vo
    rcases hcase with ⟨hg, rfl⟩ | ⟨hg, ht, rfl⟩ | ⟨hg, ht, rfl⟩
    ·have ho := hou rfl
     by_cases htl : vtil = y.til
     ·rw [hg] at hp
      refine hK1 _ _ _ hs ?_
      clear hs
      conv => whnf
      (refine VSeq.mk fun Kq hKq => ?_; conv => whnf)
      (refine VSeq.mk fun Kq hKq => ?_; conv => whnf)
      (refine hKq _ _ _ (.refl _) ?_; clear hKq Kq; conv => whnf)
      (refine And.intro (fun h => absurd (of_decide_eq_true h) (by first | (intro h2; exact absurd rfl h2) | omega | decide)) (fun _ => ?_); conv => whnf)
      (refine hKq _ _ _ (.refl _) ?_; clear hKq Kq; conv => whnf)
      (refine VSeq.mk fun Kq hKq => ?_; conv => whnf)
      (refine VSeq.mk fun Kq hKq => ?_; conv => whnf)
      (refine VSeq.mk fun Kq hKq => ?_; conv => whnf)
      (refine ⟨_, _, Blk.ldV (vs := [_, _, _, _, _, _, _, _, _, _, _, _, _]) (hp.get (i := 1) rfl) TTok rfl rfl rfl, ?_⟩; conv => whnf)
      refine V.CallsUse (sC (hp.get (i := 0) rfl)) fun w hx => ?_
      have hp := hp.call hx
      conv => whnf
      (refine hKq _ _ _ (.refl _) ?_; clear hKq Kq; conv => whnf)
      (refine VSeq.mk fun Kq hKq => ?_; conv => whnf)
      (refine And.intro (fun h => absurd (of_decide_eq_true h) (by first | (intro h2; exact absurd rfl h2) | omega | decide)) (fun _ => ?_); conv => whnf)
      (refine ⟨_, _, Blk.ld (hp.get (i := 1) rfl) TTok rfl rfl, ?_⟩; conv => whnf)
      (refine hKq _ _ _ (.refl _) ?_; clear hKq Kq; conv => whnf)
      (refine VSeq.mk fun Kq hKq => ?_; conv => whnf)
      (refine And.intro (fun h => absurd (of_decide_eq_true h) (by first | (intro h2; exact absurd rfl h2) | omega | decide)) (fun _ => ?_); conv => whnf)
      (refine ⟨_, _, Blk.ld (hp.get (i := 1) rfl) TTok rfl rfl, ?_⟩; conv => whnf)
      (refine ⟨_, _, Blk.ld (hp.get (i := 3) rfl) TTok rfl rfl, ?_⟩; conv => whnf)
      (refine hKq _ _ _ (.refl _) ?_; clear hKq Kq; conv => whnf)
      (refine VSeq.mk fun Kq hKq => ?_; conv => whnf)
      (refine And.intro (fun h => absurd (of_decide_eq_true h) (by first | (intro h2; exact absurd rfl h2) | omega | decide)) (fun _ => ?_); conv => whnf)
      (refine ⟨_, _, Blk.ld (hp.get (i := 1) rfl) TTok rfl rfl, ?_⟩; conv => whnf)
      (refine ⟨_, _, Blk.ld (hp.get (i := 3) rfl) TTok rfl rfl, ?_⟩; conv => whnf)
      (refine Or.inl (And.intro (by first | omega | decide) ?_); conv => whnf)
      (refine hKq _ _ _ (.refl _) ?_; clear hKq Kq; conv => whnf)
      (refine VSeq.mk fun Kq hKq => ?_; conv => whnf)
      (refine And.intro (fun h => absurd (of_decide_eq_true h) (by first | (intro h2; exact absurd rfl h2) | omega | decide)) (fun _ => ?_); conv => whnf)
      (refine ⟨_, _, Blk.ld (hp.get (i := 3) rfl) TTok rfl rfl, ?_⟩; conv => whnf)
      (refine And.intro (fun _ => ?_) (fun h => absurd h (by decide)); conv => whnf)
      (refine ⟨_, _, Blk.ld (hp.get (i := 1) rfl) TTok rfl rfl, ?_⟩; conv => whnf)
      (refine hKq _ _ _ (.refl _) ?_; clear hKq Kq; conv => whnf)
      (refine VSeq.mk fun Kq hKq => ?_; conv => whnf)
      (refine And.intro (fun h => absurd h (by decide)) (fun _ => ?_); conv => whnf)
      (refine ⟨_, _, Blk.ld (hp.get (i := 1) rfl) TTok rfl rfl, ?_⟩; conv => whnf)
      (refine ⟨_, _, Blk.ld (hp.get (i := 3) rfl) TTok rfl rfl, ?_⟩; conv => whnf)
      (refine And.intro (fun _ => ?_) (fun h => absurd h (by decide)); conv => whnf)
      refine ⟨.bool false, w, by kernel_rfl, ?_⟩
      conv => whnf
      (refine hKq _ _ _ (.refl _) ?_; clear hKq Kq; conv => whnf)
      (refine VSeq.mk fun Kq hKq => ?_; conv => whnf)
      (refine And.intro (fun h => absurd h (by decide)) (fun _ => ?_); conv => whnf)
      (refine ⟨_, _, Blk.ld (hp.get (i := 1) rfl) TTok rfl rfl, ?_⟩; conv => whnf)
      (refine ⟨_, _, Blk.ld (hp.get (i := 3) rfl) TTok rfl rfl, ?_⟩; conv => whnf)
      (refine hKq _ _ _ (.refl _) ?_; clear hKq Kq; conv => whnf)
      (refine And.intro (fun h => absurd (of_decide_eq_true h) (by first | (intro h2; exact absurd rfl h2) | omega | decide)) (fun _ => ?_); conv => whnf)
      (refine hKq _ _ _ (.refl _) ?_; clear hKq Kq; conv => whnf)
      (refine And.intro (fun h => absurd (of_decide_eq_true h) (by first | (intro h2; exact absurd rfl h2) | omega | decide)) (fun _ => ?_); conv => whnf)
      (refine hKq _ _ _ (.refl _) ?_; clear hKq Kq; conv => whnf)
      (refine VSeq.mk fun Kq hKq => ?_; conv => whnf)
      (refine VSeq.mk fun Kq hKq => ?_; conv => whnf)
      (refine VSeq.mk fun Kq hKq => ?_; conv => whnf)
      (refine ⟨_, _, Blk.ld (hp.get (i := 1) rfl) TTok rfl rfl, ?_⟩; conv => whnf)
      (refine ⟨_, _, Blk.ld (hp.get (i := 3) rfl) TTok rfl rfl, ?_⟩; conv => whnf)
      (refine hKq _ _ _ (.refl _) ?_; clear hKq Kq; conv => whnf)
      (refine VSeq.mk fun Kq hKq => ?_; conv => whnf)
      (refine And.intro (fun h => absurd (of_decide_eq_true h) (by first | (intro h2; exact absurd rfl h2) | omega | decide)) (fun _ => ?_); conv => whnf)
      (refine hKq _ _ _ (.refl _) ?_; clear hKq Kq; conv => whnf)
      (refine ⟨_, _, Blk.ld (hp.get (i := 1) rfl) TTok rfl rfl, ?_⟩; conv => whnf)
      (refine And.intro (fun _ => ?_) (fun h => absurd h (by decide)); conv => whnf)
      (refine hKq _ _ _ (.refl _) ?_; clear hKq Kq; conv => whnf)
      (refine And.intro (fun h => absurd (of_decide_eq_true h) (by first | (intro h2; exact absurd rfl h2) | omega | decide)) (fun _ => ?_); conv => whnf)
      (refine hKq _ _ _ (.refl _) ?_; clear hKq Kq; conv => whnf)
      (refine ⟨_, _, Blk.ldV (vs := [_, _, _, _, _, _, _, _, _, _, _, _, _]) (hp.get (i := 1) rfl) TTok rfl rfl rfl, ?_⟩; conv => whnf)
      (refine hp.kstA TTok rfl 3 rfl rfl (oneC_of rfl) (by rfl) fun w hp => ?_; try simp only [List.set_cons_zero, List.set_cons_succ, EV.val] at hp; conv => whnf)
      refine hK0 _ _ _ (V.Sub.refl _) ?_
      conv => whnf
      (refine Or.inl (And.intro (by first | omega | decide) ?_); conv => whnf)
      exact ⟨mm - 1, _, by omega, ⟨i + 1, ⟨⟨vah, vap⟩, ⟨vbh, vbp⟩, (y.now + (x.after : Int) % 9000), vnxt, vtil, vser, true, y.noise, vword, vfresh, vasked⟩, pv, cv, by omega, rfl, hsy2, hp.pick [3, 0] (by decide)⟩, (sub_cons rfl (sub_cons rfl (sub_cons rfl (sub_cons rfl sub_nil))))⟩
     ·obtain ⟨hlg, htl2⟩ := hti.resolve_left htl
      subst hlg
      rw [hg] at hp
      refine hK1 _ _ _ hs ?_
      clear hs
      conv => whnf
      (refine VSeq.mk fun Kq hKq => ?_; conv => whnf)
      (refine VSeq.mk fun Kq hKq => ?_; conv => whnf)
      (refine hKq _ _ _ (.refl _) ?_; clear hKq Kq; conv => whnf)
      (refine And.intro (fun h => absurd (of_decide_eq_true h) (by first | (intro h2; exact absurd rfl h2) | omega | decide)) (fun _ => ?_); conv => whnf)
      (refine hKq _ _ _ (.refl _) ?_; clear hKq Kq; conv => whnf)
      (refine VSeq.mk fun Kq hKq => ?_; conv => whnf)
      (refine VSeq.mk fun Kq hKq => ?_; conv => whnf)
      (refine VSeq.mk fun Kq hKq => ?_; conv => whnf)
      (refine ⟨_, _, Blk.ldV (vs := [_, _, _, _, _, _, _, _, _, _, _, _, _]) (hp.get (i := 1) rfl) TTok rfl rfl rfl, ?_⟩; conv => whnf)
      refine V.CallsUse (sC (hp.get (i := 0) rfl)) fun w hx => ?_
      have hp := hp.call hx
      conv => whnf
      (refine hKq _ _ _ (.refl _) ?_; clear hKq Kq; conv => whnf)
      (refine VSeq.mk fun Kq hKq => ?_; conv => whnf)
      (refine And.intro (fun h => absurd (of_decide_eq_true h) (by first | (intro h2; exact absurd rfl h2) | omega | decide)) (fun _ => ?_); conv => whnf)
      (refine ⟨_, _, Blk.ld (hp.get (i := 1) rfl) TTok rfl rfl, ?_⟩; conv => whnf)
      (refine hKq _ _ _ (.refl _) ?_; clear hKq Kq; conv => whnf)
      (refine VSeq.mk fun Kq hKq => ?_; conv => whnf)
      (refine And.intro (fun h => absurd (of_decide_eq_true h) (by first | (intro h2; exact absurd rfl h2) | omega | decide)) (fun _ => ?_); conv => whnf)
      (refine ⟨_, _, Blk.ld (hp.get (i := 1) rfl) TTok rfl rfl, ?_⟩; conv => whnf)
      (refine ⟨_, _, Blk.ld (hp.get (i := 3) rfl) TTok rfl rfl, ?_⟩; conv => whnf)
      (refine hKq _ _ _ (.refl _) ?_; clear hKq Kq; conv => whnf)
      (refine VSeq.mk fun Kq hKq => ?_; conv => whnf)
      (refine And.intro (fun h => absurd (of_decide_eq_true h) (by first | (intro h2; exact absurd rfl h2) | omega | decide)) (fun _ => ?_); conv => whnf)
      (refine ⟨_, _, Blk.ld (hp.get (i := 1) rfl) TTok rfl rfl, ?_⟩; conv => whnf)
      (refine ⟨_, _, Blk.ld (hp.get (i := 3) rfl) TTok rfl rfl, ?_⟩; conv => whnf)
      (refine Or.inl (And.intro (by first | omega | decide) ?_); conv => whnf)
      (refine hKq _ _ _ (.refl _) ?_; clear hKq Kq; conv => whnf)
      (refine VSeq.mk fun Kq hKq => ?_; conv => whnf)
      (refine And.intro (fun h => absurd (of_decide_eq_true h) (by first | (intro h2; exact absurd rfl h2) | omega | decide)) (fun _ => ?_); conv => whnf)
      (refine ⟨_, _, Blk.ld (hp.get (i := 3) rfl) TTok rfl rfl, ?_⟩; conv => whnf)
      (refine And.intro (fun _ => ?_) (fun h => absurd h (by decide)); conv => whnf)
      (refine ⟨_, _, Blk.ld (hp.get (i := 1) rfl) TTok rfl rfl, ?_⟩; conv => whnf)
      (refine hKq _ _ _ (.refl _) ?_; clear hKq Kq; conv => whnf)
      (refine VSeq.mk fun Kq hKq => ?_; conv => whnf)
      (refine And.intro (fun h => absurd h (by decide)) (fun _ => ?_); conv => whnf)
      (refine ⟨_, _, Blk.ld (hp.get (i := 1) rfl) TTok rfl rfl, ?_⟩; conv => whnf)
      (refine ⟨_, _, Blk.ld (hp.get (i := 3) rfl) TTok rfl rfl, ?_⟩; conv => whnf)
      (refine And.intro (fun _ => ?_) (fun h => absurd h (by decide)); conv => whnf)
      refine ⟨.bool false, w, by kernel_rfl, ?_⟩
      conv => whnf
      (refine hKq _ _ _ (.refl _) ?_; clear hKq Kq; conv => whnf)
      (refine VSeq.mk fun Kq hKq => ?_; conv => whnf)
      (refine And.intro (fun h => absurd h (by decide)) (fun _ => ?_); conv => whnf)
      (refine ⟨_, _, Blk.ld (hp.get (i := 1) rfl) TTok rfl rfl, ?_⟩; conv => whnf)
      (refine ⟨_, _, Blk.ld (hp.get (i := 3) rfl) TTok rfl rfl, ?_⟩; conv => whnf)
      (refine hKq _ _ _ (.refl _) ?_; clear hKq Kq; conv => whnf)
      (refine And.intro (fun h => absurd (of_decide_eq_true h) (by first | (intro h2; exact absurd rfl h2) | omega | decide)) (fun _ => ?_); conv => whnf)
      (refine hKq _ _ _ (.refl _) ?_; clear hKq Kq; conv => whnf)
      (refine And.intro (fun h => absurd (of_decide_eq_true h) (by first | (intro h2; exact absurd rfl h2) | omega | decide)) (fun _ => ?_); conv => whnf)
      (refine hKq _ _ _ (.refl _) ?_; clear hKq Kq; conv => whnf)
      (refine VSeq.mk fun Kq hKq => ?_; conv => whnf)
      (refine VSeq.mk fun Kq hKq => ?_; conv => whnf)
      (refine VSeq.mk fun Kq hKq => ?_; conv => whnf)
      (refine ⟨_, _, Blk.ld (hp.get (i := 1) rfl) TTok rfl rfl, ?_⟩; conv => whnf)
      (refine ⟨_, _, Blk.ld (hp.get (i := 3) rfl) TTok rfl rfl, ?_⟩; conv => whnf)
      (refine hKq _ _ _ (.refl _) ?_; clear hKq Kq; conv => whnf)
      (refine VSeq.mk fun Kq hKq => ?_; conv => whnf)
      (refine And.intro (fun _ => ?_) (fun h => absurd (by first | rfl | assumption | omega | decide) (of_decide_eq_false h)); conv => whnf)
      (refine And.intro (fun h => absurd h (by decide)) (fun _ => ?_); conv => whnf)
      (refine ⟨_, _, Blk.ld (hp.get (i := 1) rfl) TTok rfl rfl, ?_⟩; conv => whnf)
      (refine Or.inl (And.intro (by first | omega | decide) ?_); conv => whnf)
      (refine hKq _ _ _ (.refl _) ?_; clear hKq Kq; conv => whnf)
      (refine And.intro (fun h => absurd (of_decide_eq_true h) (by first | (intro h2; exact absurd rfl h2) | omega | decide)) (fun _ => ?_); conv => whnf)
      (refine ⟨_, _, Blk.ld (hp.get (i := 1) rfl) TTok rfl rfl, ?_⟩; conv => whnf)
      (refine And.intro (fun _ => ?_) (fun h => absurd h (by decide)); conv => whnf)
      (refine hKq _ _ _ (.refl _) ?_; clear hKq Kq; conv => whnf)
      (refine And.intro (fun h => absurd (of_decide_eq_true h) (by first | (intro h2; exact absurd rfl h2) | omega | decide)) (fun _ => ?_); conv => whnf)
      (refine hKq _ _ _ (.refl _) ?_; clear hKq Kq; conv => whnf)
      (refine ⟨_, _, Blk.ldV (vs := [_, _, _, _, _, _, _, _, _, _, _, _, _]) (hp.get (i := 1) rfl) TTok rfl rfl rfl, ?_⟩; conv => whnf)
      (refine hp.kstA TTok rfl 3 rfl rfl (oneC_of rfl) (by rfl) fun w hp => ?_; try simp only [List.set_cons_zero, List.set_cons_succ, EV.val] at hp; conv => whnf)
      refine hK0 _ _ _ (V.Sub.refl _) ?_
      conv => whnf
      (refine Or.inl (And.intro (by first | omega | decide) ?_); conv => whnf)
      exact ⟨mm - 1, _, by omega, ⟨i + 1, ⟨⟨vah, vap⟩, ⟨vbh, vbp⟩, (y.now + (x.after : Int) % 9000), vnxt, vtil, vser, true, y.noise, vword, vfresh, vasked⟩, pv, cv, by omega, rfl, hsy2, hp.pick [3, 0] (by decide)⟩, (sub_cons rfl (sub_cons rfl (sub_cons rfl (sub_cons rfl sub_nil))))⟩
    ·have ho := hou rfl
     by_cases htl : vtil = y.til
     ·rw [hg] at hp
      refine hK1 _ _ _ hs ?_
      clear hs
      conv => whnf
      (refine VSeq.mk fun Kq hKq => ?_; conv => whnf)
      (refine VSeq.mk fun Kq hKq => ?_; conv => whnf)
      (refine hKq _ _ _ (.refl _) ?_; clear hKq Kq; conv => whnf)
      (refine And.intro (fun h => absurd (of_decide_eq_true h) (by first | (intro h2; exact absurd rfl h2) | omega | decide)) (fun _ => ?_); conv => whnf)
      (refine hKq _ _ _ (.refl _) ?_; clear hKq Kq; conv => whnf)
      (refine VSeq.mk fun Kq hKq => ?_; conv => whnf)
      (refine VSeq.mk fun Kq hKq => ?_; conv => whnf)
      (refine VSeq.mk fun Kq hKq => ?_; conv => whnf)
      (refine ⟨_, _, Blk.ldV (vs := [_, _, _, _, _, _, _, _, _, _, _, _, _]) (hp.get (i := 1) rfl) TTok rfl rfl rfl, ?_⟩; conv => whnf)
      refine V.CallsUse (sC (hp.get (i := 0) rfl)) fun w hx => ?_
      have hp := hp.call hx
      conv => whnf
      (refine hKq _ _ _ (.refl _) ?_; clear hKq Kq; conv => whnf)
      (refine VSeq.mk fun Kq hKq => ?_; conv => whnf)
      (refine And.intro (fun h => absurd (of_decide_eq_true h) (by first | (intro h2; exact absurd rfl h2) | omega | decide)) (fun _ => ?_); conv => whnf)
      (refine ⟨_, _, Blk.ld (hp.get (i := 1) rfl) TTok rfl rfl, ?_⟩; conv => whnf)
      (refine hKq _ _ _ (.refl _) ?_; clear hKq Kq; conv => whnf)
      (refine VSeq.mk fun Kq hKq => ?_; conv => whnf)
      (refine And.intro (fun h => absurd (of_decide_eq_true h) (by first | (intro h2; exact absurd rfl h2) | omega | decide)) (fun _ => ?_); conv => whnf)
      (refine ⟨_, _, Blk.ld (hp.get (i := 1) rfl) TTok rfl rfl, ?_⟩; conv => whnf)
      (refine ⟨_, _, Blk.ld (hp.get (i := 3) rfl) TTok rfl rfl, ?_⟩; conv => whnf)
      (refine hKq _ _ _ (.refl _) ?_; clear hKq Kq; conv => whnf)
      (refine VSeq.mk fun Kq hKq => ?_; conv => whnf)
      (refine And.intro (fun h => absurd (of_decide_eq_true h) (by first | (intro h2; exact absurd rfl h2) | omega | decide)) (fun _ => ?_); conv => whnf)
      (refine ⟨_, _, Blk.ld (hp.get (i := 1) rfl) TTok rfl rfl, ?_⟩; conv => whnf)
      (refine ⟨_, _, Blk.ld (hp.get (i := 3) rfl) TTok rfl rfl, ?_⟩; conv => whnf)
      (refine Or.inl (And.intro (by first | omega | decide) ?_); conv => whnf)
      (refine hKq _ _ _ (.refl _) ?_; clear hKq Kq; conv => whnf)
      (refine VSeq.mk fun Kq hKq => ?_; conv => whnf)
      (refine And.intro (fun h => absurd (of_decide_eq_true h) (by first | (intro h2; exact absurd rfl h2) | omega | decide)) (fun _ => ?_); conv => whnf)
      (refine ⟨_, _, Blk.ld (hp.get (i := 3) rfl) TTok rfl rfl, ?_⟩; conv => whnf)
      (refine And.intro (fun h => absurd h (by decide)) (fun _ => ?_); conv => whnf)
      (refine hKq _ _ _ (.refl _) ?_; clear hKq Kq; conv => whnf)
      (refine VSeq.mk fun Kq hKq => ?_; conv => whnf)
      (refine ⟨_, _, Blk.ld (hp.get (i := 1) rfl) TTok rfl rfl, ?_⟩; conv => whnf)
      (refine ⟨_, _, Blk.ld (hp.get (i := 3) rfl) TTok rfl rfl, ?_⟩; conv => whnf)
      (refine And.intro (fun h => absurd h (by decide)) (fun _ => ?_); conv => whnf)
      (refine ⟨_, _, Blk.ld (hp.get (i := 3) rfl) TTok rfl rfl, ?_⟩; conv => whnf)
      refine ⟨.bool false, w, (by rw [decide_eq_true ht]; kernel_rfl), ?_⟩
      conv => whnf
      (refine hKq _ _ _ (.refl _) ?_; clear hKq Kq; conv => whnf)
      (refine VSeq.mk fun Kq hKq => ?_; conv => whnf)
      (refine And.intro (fun h => absurd h (by decide)) (fun _ => ?_); conv => whnf)
      (refine ⟨_, _, Blk.ld (hp.get (i := 1) rfl) TTok rfl rfl, ?_⟩; conv => whnf)
      (refine ⟨_, _, Blk.ld (hp.get (i := 3) rfl) TTok rfl rfl, ?_⟩; conv => whnf)
      (refine hKq _ _ _ (.refl _) ?_; clear hKq Kq; conv => whnf)
      (refine And.intro (fun h => absurd (of_decide_eq_true h) (by first | (intro h2; exact absurd rfl h2) | omega | decide)) (fun _ => ?_); conv => whnf)
      (refine hKq _ _ _ (.refl _) ?_; clear hKq Kq; conv => whnf)
      (refine And.intro (fun h => absurd (of_decide_eq_true h) (by first | (intro h2; exact absurd rfl h2) | omega | decide)) (fun _ => ?_); conv => whnf)
      (refine hKq _ _ _ (.refl _) ?_; clear hKq Kq; conv => whnf)
      (refine VSeq.mk fun Kq hKq => ?_; conv => whnf)
      (refine VSeq.mk fun Kq hKq => ?_; conv => whnf)
      (refine VSeq.mk fun Kq hKq => ?_; conv => whnf)
      (refine ⟨_, _, Blk.ld (hp.get (i := 1) rfl) TTok rfl rfl, ?_⟩; conv => whnf)
      (refine ⟨_, _, Blk.ld (hp.get (i := 3) rfl) TTok rfl rfl, ?_⟩; conv => whnf)
      (refine hKq _ _ _ (.refl _) ?_; clear hKq Kq; conv => whnf)
      (refine VSeq.mk fun Kq hKq => ?_; conv => whnf)
      (refine And.intro (fun h => absurd (of_decide_eq_true h) (by first | (intro h2; exact absurd rfl h2) | omega | decide)) (fun _ => ?_); conv => whnf)
      (refine hKq _ _ _ (.refl _) ?_; clear hKq Kq; conv => whnf)
      (refine ⟨_, _, Blk.ld (hp.get (i := 1) rfl) TTok rfl rfl, ?_⟩; conv => whnf)
      (refine And.intro (fun _ => ?_) (fun h => absurd h (by decide)); conv => whnf)
      (refine hKq _ _ _ (.refl _) ?_; clear hKq Kq; conv => whnf)
      (refine And.intro (fun h => absurd (of_decide_eq_true h) (by first | (intro h2; exact absurd rfl h2) | omega | decide)) (fun _ => ?_); conv => whnf)
      (refine hKq _ _ _ (.refl _) ?_; clear hKq Kq; conv => whnf)
      (refine ⟨_, _, Blk.ldV (vs := [_, _, _, _, _, _, _, _, _, _, _, _, _]) (hp.get (i := 1) rfl) TTok rfl rfl rfl, ?_⟩; conv => whnf)
      (refine hp.kstA TTok rfl 3 rfl rfl (oneC_of rfl) (by rfl) fun w hp => ?_; try simp only [List.set_cons_zero, List.set_cons_succ, EV.val] at hp; conv => whnf)
      refine hK0 _ _ _ (V.Sub.refl _) ?_
      conv => whnf
      (refine Or.inl (And.intro (by first | omega | decide) ?_); conv => whnf)
      exact ⟨mm - 1, _, by omega, ⟨i + 1, ⟨⟨vah, vap⟩, ⟨vbh, vbp⟩, (y.now + (x.after : Int) % 9000), vnxt, vtil, vser, true, y.noise, vword, vfresh, vasked⟩, pv, cv, by omega, rfl, hsy2, hp.pick [3, 0] (by decide)⟩, (sub_cons rfl (sub_cons rfl (sub_cons rfl (sub_cons rfl sub_nil))))⟩
     ·obtain ⟨hlg, htl2⟩ := hti.resolve_left htl
      subst hlg
      rw [hg] at hp
      refine hK1 _ _ _ hs ?_
      clear hs
      conv => whnf
      (refine VSeq.mk fun Kq hKq => ?_; conv => whnf)
      (refine VSeq.mk fun Kq hKq => ?_; conv => whnf)
      (refine hKq _ _ _ (.refl _) ?_; clear hKq Kq; conv => whnf)
      (refine And.intro (fun h => absurd (of_decide_eq_true h) (by first | (intro h2; exact absurd rfl h2) | omega | decide)) (fun _ => ?_); conv => whnf)
      (refine hKq _ _ _ (.refl _) ?_; clear hKq Kq; conv => whnf)
      (refine VSeq.mk fun Kq hKq => ?_; conv => whnf)
      (refine VSeq.mk fun Kq hKq => ?_; conv => whnf)
      (refine VSeq.mk fun Kq hKq => ?_; conv => whnf)
      (refine ⟨_, _, Blk.ldV (vs := [_, _, _, _, _, _, _, _, _, _, _, _, _]) (hp.get (i := 1) rfl) TTok rfl rfl rfl, ?_⟩; conv => whnf)
      refine V.CallsUse (sC (hp.get (i := 0) rfl)) fun w hx => ?_
      have hp := hp.call hx
      conv => whnf
      (refine hKq _ _ _ (.refl _) ?_; clear hKq Kq; conv => whnf)
      (refine VSeq.mk fun Kq hKq => ?_; conv => whnf)
      (refine And.intro (fun h => absurd (of_decide_eq_true h) (by first | (intro h2; exact absurd rfl h2) | omega | decide)) (fun _ => ?_); conv => whnf)
      (refine ⟨_, _, Blk.ld (hp.get (i := 1) rfl) TTok rfl rfl, ?_⟩; conv => whnf)
      (refine hKq _ _ _ (.refl _) ?_; clear hKq Kq; conv => whnf)
      (refine VSeq.mk fun Kq hKq => ?_; conv => whnf)
      (refine And.intro (fun h => absurd (of_decide_eq_true h) (by first | (intro h2; exact absurd rfl h2) | omega | decide)) (fun _ => ?_); conv => whnf)
      (refine ⟨_, _, Blk.ld (hp.get (i := 1) rfl) TTok rfl rfl, ?_⟩; conv => whnf)
      (refine ⟨_, _, Blk.ld (hp.get (i := 3) rfl) TTok rfl rfl, ?_⟩; conv => whnf)
      (refine hKq _ _ _ (.refl _) ?_; clear hKq Kq; conv => whnf)
      (refine VSeq.mk fun Kq hKq => ?_; conv => whnf)
      (refine And.intro (fun h => absurd (of_decide_eq_true h) (by first | (intro h2; exact absurd rfl h2) | omega | decide)) (fun _ => ?_); conv => whnf)
      (refine ⟨_, _, Blk.ld (hp.get (i := 1) rfl) TTok rfl rfl, ?_⟩; conv => whnf)
      (refine ⟨_, _, Blk.ld (hp.get (i := 3) rfl) TTok rfl rfl, ?_⟩; conv => whnf)
      (refine Or.inl (And.intro (by first | omega | decide) ?_); conv => whnf)
      (refine hKq _ _ _ (.refl _) ?_; clear hKq Kq; conv => whnf)
      (refine VSeq.mk fun Kq hKq => ?_; conv => whnf)
      (refine And.intro (fun h => absurd (of_decide_eq_true h) (by first | (intro h2; exact absurd rfl h2) | omega | decide)) (fun _ => ?_); conv => whnf)
      (refine ⟨_, _, Blk.ld (hp.get (i := 3) rfl) TTok rfl rfl, ?_⟩; conv => whnf)
      (refine And.intro (fun h => absurd h (by decide)) (fun _ => ?_); conv => whnf)
      (refine hKq _ _ _ (.refl _) ?_; clear hKq Kq; conv => whnf)
      (refine VSeq.mk fun Kq hKq => ?_; conv => whnf)
      (refine ⟨_, _, Blk.ld (hp.get (i := 1) rfl) TTok rfl rfl, ?_⟩; conv => whnf)
      (refine ⟨_, _, Blk.ld (hp.get (i := 3) rfl) TTok rfl rfl, ?_⟩; conv => whnf)
      (refine And.intro (fun h => absurd h (by decide)) (fun _ => ?_); conv => whnf)
      (refine ⟨_, _, Blk.ld (hp.get (i := 3) rfl) TTok rfl rfl, ?_⟩; conv => whnf)
      refine ⟨.bool false, w, (by rw [decide_eq_true ht]; kernel_rfl), ?_⟩
      conv => whnf
      (refine hKq _ _ _ (.refl _) ?_; clear hKq Kq; conv => whnf)
      (refine VSeq.mk fun Kq hKq => ?_; conv => whnf)
      (refine And.intro (fun h => absurd h (by decide)) (fun _ => ?_); conv => whnf)
      (refine ⟨_, _, Blk.ld (hp.get (i := 1) rfl) TTok rfl rfl, ?_⟩; conv => whnf)
      (refine ⟨_, _, Blk.ld (hp.get (i := 3) rfl) TTok rfl rfl, ?_⟩; conv => whnf)
      (refine hKq _ _ _ (.refl _) ?_; clear hKq Kq; conv => whnf)
      (refine And.intro (fun h => absurd (of_decide_eq_true h) (by first | (intro h2; exact absurd rfl h2) | omega | decide)) (fun _ => ?_); conv => whnf)
      (refine hKq _ _ _ (.refl _) ?_; clear hKq Kq; conv => whnf)
      (refine And.intro (fun h => absurd (of_decide_eq_true h) (by first | (intro h2; exact absurd rfl h2) | omega | decide)) (fun _ => ?_); conv => whnf)
      (refine hKq _ _ _ (.refl _) ?_; clear hKq Kq; conv => whnf)
      (refine VSeq.mk fun Kq hKq => ?_; conv => whnf)
      (refine VSeq.mk fun Kq hKq => ?_; conv => whnf)
      (refine VSeq.mk fun Kq hKq => ?_; conv => whnf)
      (refine ⟨_, _, Blk.ld (hp.get (i := 1) rfl) TTok rfl rfl, ?_⟩; conv => whnf)
      (refine ⟨_, _, Blk.ld (hp.get (i := 3) rfl) TTok rfl rfl, ?_⟩; conv => whnf)
      (refine hKq _ _ _ (.refl _) ?_; clear hKq Kq; conv => whnf)
      (refine VSeq.mk fun Kq hKq => ?_; conv => whnf)
      (refine And.intro (fun _ => ?_) (fun h => absurd (by first | rfl | assumption | omega | decide) (of_decide_eq_false h)); conv => whnf)
      (refine And.intro (fun h => absurd h (by decide)) (fun _ => ?_); conv => whnf)
      (refine ⟨_, _, Blk.ld (hp.get (i := 1) rfl) TTok rfl rfl, ?_⟩; conv => whnf)
      (refine Or.inl (And.intro (by first | omega | decide) ?_); conv => whnf)
      (refine hKq _ _ _ (.refl _) ?_; clear hKq Kq; conv => whnf)
      (refine And.intro (fun h => absurd (of_decide_eq_true h) (by first | (intro h2; exact absurd rfl h2) | omega | decide)) (fun _ => ?_); conv => whnf)
      (refine ⟨_, _, Blk.ld (hp.get (i := 1) rfl) TTok rfl rfl, ?_⟩; conv => whnf)
      (refine And.intro (fun _ => ?_) (fun h => absurd h (by decide)); conv => whnf)
      (refine hKq _ _ _ (.refl _) ?_; clear hKq Kq; conv => whnf)
      (refine And.intro (fun h => absurd (of_decide_eq_true h) (by first | (intro h2; exact absurd rfl h2) | omega | decide)) (fun _ => ?_); conv => whnf)
      (refine hKq _ _ _ (.refl _) ?_; clear hKq Kq; conv => whnf)
      (refine ⟨_, _, Blk.ldV (vs := [_, _, _, _, _, _, _, _, _, _, _, _, _]) (hp.get (i := 1) rfl) TTok rfl rfl rfl, ?_⟩; conv => whnf)
      (refine hp.kstA TTok rfl 3 rfl rfl (oneC_of rfl) (by rfl) fun w hp => ?_; try simp only [List.set_cons_zero, List.set_cons_succ, EV.val] at hp; conv => whnf)
      refine hK0 _ _ _ (V.Sub.refl _) ?_
      conv => whnf
      (refine Or.inl (And.intro (by first | omega | decide) ?_); conv => whnf)
      exact ⟨mm - 1, _, by omega, ⟨i + 1, ⟨⟨vah, vap⟩, ⟨vbh, vbp⟩, (y.now + (x.after : Int) % 9000), vnxt, vtil, vser, true, y.noise, vword, vfresh, vasked⟩, pv, cv, by omega, rfl, hsy2, hp.pick [3, 0] (by decide)⟩, (sub_cons rfl (sub_cons rfl (sub_cons rfl (sub_cons rfl sub_nil))))⟩
    ·by_cases htl : vtil = y.til
     ·rw [hg] at hp
      refine hK1 _ _ _ hs ?_
      clear hs
      conv => whnf
      (refine VSeq.mk fun Kq hKq => ?_; conv => whnf)
      (refine VSeq.mk fun Kq hKq => ?_; conv => whnf)
      (refine hKq _ _ _ (.refl _) ?_; clear hKq Kq; conv => whnf)
      (refine And.intro (fun h => absurd (of_decide_eq_true h) (by first | (intro h2; exact absurd rfl h2) | omega | decide)) (fun _ => ?_); conv => whnf)
      (refine hKq _ _ _ (.refl _) ?_; clear hKq Kq; conv => whnf)
      (refine VSeq.mk fun Kq hKq => ?_; conv => whnf)
      (refine VSeq.mk fun Kq hKq => ?_; conv => whnf)
      (refine VSeq.mk fun Kq hKq => ?_; conv => whnf)
      (refine ⟨_, _, Blk.ldV (vs := [_, _, _, _, _, _, _, _, _, _, _, _, _]) (hp.get (i := 1) rfl) TTok rfl rfl rfl, ?_⟩; conv => whnf)
      refine V.CallsUse (sC (hp.get (i := 0) rfl)) fun w hx => ?_
      have hp := hp.call hx
      conv => whnf
      (refine hKq _ _ _ (.refl _) ?_; clear hKq Kq; conv => whnf)
      (refine VSeq.mk fun Kq hKq => ?_; conv => whnf)
      (refine And.intro (fun h => absurd (of_decide_eq_true h) (by first | (intro h2; exact absurd rfl h2) | omega | decide)) (fun _ => ?_); conv => whnf)
      (refine ⟨_, _, Blk.ld (hp.get (i := 1) rfl) TTok rfl rfl, ?_⟩; conv => whnf)
      (refine hKq _ _ _ (.refl _) ?_; clear hKq Kq; conv => whnf)
      (refine VSeq.mk fun Kq hKq => ?_; conv => whnf)
      (refine And.intro (fun h => absurd (of_decide_eq_true h) (by first | (intro h2; exact absurd rfl h2) | omega | decide)) (fun _ => ?_); conv => whnf)
      (refine ⟨_, _, Blk.ld (hp.get (i := 1) rfl) TTok rfl rfl, ?_⟩; conv => whnf)
      (refine ⟨_, _, Blk.ld (hp.get (i := 3) rfl) TTok rfl rfl, ?_⟩; conv => whnf)
      (refine hKq _ _ _ (.refl _) ?_; clear hKq Kq; conv => whnf)
      (refine VSeq.mk fun Kq hKq => ?_; conv => whnf)
      (refine And.intro (fun h => absurd (of_decide_eq_true h) (by first | (intro h2; exact absurd rfl h2) | omega | decide)) (fun _ => ?_); conv => whnf)
      (refine ⟨_, _, Blk.ld (hp.get (i := 1) rfl) TTok rfl rfl, ?_⟩; conv => whnf)
      (refine ⟨_, _, Blk.ld (hp.get (i := 3) rfl) TTok rfl rfl, ?_⟩; conv => whnf)
      (refine Or.inl (And.intro (by first | omega | decide) ?_); conv => whnf)
      (refine hKq _ _ _ (.refl _) ?_; clear hKq Kq; conv => whnf)
      (refine VSeq.mk fun Kq hKq => ?_; conv => whnf)
      (refine And.intro (fun h => absurd (of_decide_eq_true h) (by first | (intro h2; exact absurd rfl h2) | omega | decide)) (fun _ => ?_); conv => whnf)
      (refine ⟨_, _, Blk.ld (hp.get (i := 3) rfl) TTok rfl rfl, ?_⟩; conv => whnf)
      (refine And.intro (fun h => absurd h (by decide)) (fun _ => ?_); conv => whnf)
      (refine hKq _ _ _ (.refl _) ?_; clear hKq Kq; conv => whnf)
      (refine VSeq.mk fun Kq hKq => ?_; conv => whnf)
      (refine ⟨_, _, Blk.ld (hp.get (i := 1) rfl) TTok rfl rfl, ?_⟩; conv => whnf)
      (refine ⟨_, _, Blk.ld (hp.get (i := 3) rfl) TTok rfl rfl, ?_⟩; conv => whnf)
      (refine And.intro (fun h => absurd h (by decide)) (fun _ => ?_); conv => whnf)
      (refine ⟨_, _, Blk.ld (hp.get (i := 3) rfl) TTok rfl rfl, ?_⟩; conv => whnf)
      refine ⟨.bool false, w, (by rw [decide_eq_false ht]; kernel_rfl), ?_⟩
      conv => whnf
      (refine hKq _ _ _ (.refl _) ?_; clear hKq Kq; conv => whnf)
      (refine VSeq.mk fun Kq hKq => ?_; conv => whnf)
      (refine And.intro (fun h => absurd h (by decide)) (fun _ => ?_); conv => whnf)
      (refine ⟨_, _, Blk.ld (hp.get (i := 1) rfl) TTok rfl rfl, ?_⟩; conv => whnf)
      (refine ⟨_, _, Blk.ld (hp.get (i := 3) rfl) TTok rfl rfl, ?_⟩; conv => whnf)
      (refine hKq _ _ _ (.refl _) ?_; clear hKq Kq; conv => whnf)
      (refine And.intro (fun h => absurd (of_decide_eq_true h) (by first | (intro h2; exact absurd rfl h2) | omega | decide)) (fun _ => ?_); conv => whnf)
      (refine hKq _ _ _ (.refl _) ?_; clear hKq Kq; conv => whnf)
      (refine And.intro (fun h => absurd (of_decide_eq_true h) (by first | (intro h2; exact absurd rfl h2) | omega | decide)) (fun _ => ?_); conv => whnf)
      (refine hKq _ _ _ (.refl _) ?_; clear hKq Kq; conv => whnf)
      (refine VSeq.mk fun Kq hKq => ?_; conv => whnf)
      (refine VSeq.mk fun Kq hKq => ?_; conv => whnf)
      (refine VSeq.mk fun Kq hKq => ?_; conv => whnf)
      (refine ⟨_, _, Blk.ld (hp.get (i := 1) rfl) TTok rfl rfl, ?_⟩; conv => whnf)
      (refine ⟨_, _, Blk.ld (hp.get (i := 3) rfl) TTok rfl rfl, ?_⟩; conv => whnf)
      (refine hKq _ _ _ (.refl _) ?_; clear hKq Kq; conv => whnf)
      (refine VSeq.mk fun Kq hKq => ?_; conv => whnf)
      (refine And.intro (fun h => absurd (of_decide_eq_true h) (by first | (intro h2; exact absurd rfl h2) | omega | decide)) (fun _ => ?_); conv => whnf)
      (refine hKq _ _ _ (.refl _) ?_; clear hKq Kq; conv => whnf)
      (refine ⟨_, _, Blk.ld (hp.get (i := 1) rfl) TTok rfl rfl, ?_⟩; conv => whnf)
      (refine And.intro (fun h => absurd h (by decide)) (fun _ => ?_); conv => whnf)
      (refine hKq _ _ _ (.refl _) ?_; clear hKq Kq; conv => whnf)
      (refine hKq _ _ _ (.refl _) ?_; clear hKq Kq; conv => whnf)
      (refine ⟨_, _, Blk.ldV (vs := [_, _, _, _, _, _, _, _, _, _, _, _, _]) (hp.get (i := 1) rfl) TTok rfl rfl rfl, ?_⟩; conv => whnf)
      (refine hp.kstA TTok rfl 3 rfl rfl (oneC_of rfl) (by rfl) fun w hp => ?_; try simp only [List.set_cons_zero, List.set_cons_succ, EV.val] at hp; conv => whnf)
      refine hK0 _ _ _ (V.Sub.refl _) ?_
      conv => whnf
      (refine Or.inl (And.intro (by first | omega | decide) ?_); conv => whnf)
      exact ⟨mm - 1, _, by omega, ⟨i + 1, ⟨⟨vah, vap⟩, ⟨vbh, vbp⟩, (y.now + (x.after : Int) % 9000), vnxt, vtil, vser, false, y.noise, vword, vfresh, vasked⟩, pv, cv, by omega, rfl, hsy2, hp.pick [3, 0] (by decide)⟩, (sub_cons rfl (sub_cons rfl (sub_cons rfl (sub_cons rfl sub_nil))))⟩
     ·obtain ⟨hlg, htl2⟩ := hti.resolve_left htl
      subst hlg
      rw [hg] at hp
      refine hK1 _ _ _ hs ?_
      clear hs
      conv => whnf
      (refine VSeq.mk fun Kq hKq => ?_; conv => whnf)
      (refine VSeq.mk fun Kq hKq => ?_; conv => whnf)
      (refine hKq _ _ _ (.refl _) ?_; clear hKq Kq; conv => whnf)
      (refine And.intro (fun h => absurd (of_decide_eq_true h) (by first | (intro h2; exact absurd rfl h2) | omega | decide)) (fun _ => ?_); conv => whnf)
      (refine hKq _ _ _ (.refl _) ?_; clear hKq Kq; conv => whnf)
      (refine VSeq.mk fun Kq hKq => ?_; conv => whnf)
      (refine VSeq.mk fun Kq hKq => ?_; conv => whnf)
      (refine VSeq.mk fun Kq hKq => ?_; conv => whnf)
      (refine ⟨_, _, Blk.ldV (vs := [_, _, _, _, _, _, _, _, _, _, _, _, _]) (hp.get (i := 1) rfl) TTok rfl rfl rfl, ?_⟩; conv => whnf)
      refine V.CallsUse (sC (hp.get (i := 0) rfl)) fun w hx => ?_
      have hp := hp.call hx
      conv => whnf
      (refine hKq _ _ _ (.refl _) ?_; clear hKq Kq; conv => whnf)
      (refine VSeq.mk fun Kq hKq => ?_; conv => whnf)
      (refine And.intro (fun h => absurd (of_decide_eq_true h) (by first | (intro h2; exact absurd rfl h2) | omega | decide)) (fun _ => ?_); conv => whnf)
      (refine ⟨_, _, Blk.ld (hp.get (i := 1) rfl) TTok rfl rfl, ?_⟩; conv => whnf)
      (refine hKq _ _ _ (.refl _) ?_; clear hKq Kq; conv => whnf)
      (refine VSeq.mk fun Kq hKq => ?_; conv => whnf)
      (refine And.intro (fun h => absurd (of_decide_eq_true h) (by first | (intro h2; exact absurd rfl h2) | omega | decide)) (fun _ => ?_); conv => whnf)
      (refine ⟨_, _, Blk.ld (hp.get (i := 1) rfl) TTok rfl rfl, ?_⟩; conv => whnf)
      (refine ⟨_, _, Blk.ld (hp.get (i := 3) rfl) TTok rfl rfl, ?_⟩; conv => whnf)
      (refine hKq _ _ _ (.refl _) ?_; clear hKq Kq; conv => whnf)
      (refine VSeq.mk fun Kq hKq => ?_; conv => whnf)
      (refine And.intro (fun h => absurd (of_decide_eq_true h) (by first | (intro h2; exact absurd rfl h2) | omega | decide)) (fun _ => ?_); conv => whnf)
      (refine ⟨_, _, Blk.ld (hp.get (i := 1) rfl) TTok rfl rfl, ?_⟩; conv => whnf)
      (refine ⟨_, _, Blk.ld (hp.get (i := 3) rfl) TTok rfl rfl, ?_⟩; conv => whnf)
      (refine Or.inl (And.intro (by first | omega | decide) ?_); conv => whnf)
      (refine hKq _ _ _ (.refl _) ?_; clear hKq Kq; conv => whnf)
      (refine VSeq.mk fun Kq hKq => ?_; conv => whnf)
      (refine And.intro (fun h => absurd (of_decide_eq_true h) (by first | (intro h2; exact absurd rfl h2) | omega | decide)) (fun _ => ?_); conv => whnf)
      (refine ⟨_, _, Blk.ld (hp.get (i := 3) rfl) TTok rfl rfl, ?_⟩; conv => whnf)
      (refine And.intro (fun h => absurd h (by decide)) (fun _ => ?_); conv => whnf)
      (refine hKq _ _ _ (.refl _) ?_; clear hKq Kq; conv => whnf)
      (refine VSeq.mk fun Kq hKq => ?_; conv => whnf)
      (refine ⟨_, _, Blk.ld (hp.get (i := 1) rfl) TTok rfl rfl, ?_⟩; conv => whnf)
      (refine ⟨_, _, Blk.ld (hp.get (i := 3) rfl) TTok rfl rfl, ?_⟩; conv => whnf)
      (refine And.intro (fun h => absurd h (by decide)) (fun _ => ?_); conv => whnf)
      (refine ⟨_, _, Blk.ld (hp.get (i := 3) rfl) TTok rfl rfl, ?_⟩; conv => whnf)
      refine ⟨.bool false, w, (by rw [decide_eq_false ht]; kernel_rfl), ?_⟩
      conv => whnf
      (refine hKq _ _ _ (.refl _) ?_; clear hKq Kq; conv => whnf)
      (refine VSeq.mk fun Kq hKq => ?_; conv => whnf)
      (refine And.intro (fun h => absurd h (by decide)) (fun _ => ?_); conv => whnf)
      (refine ⟨_, _, Blk.ld (hp.get (i := 1) rfl) TTok rfl rfl, ?_⟩; conv => whnf)
      (refine ⟨_, _, Blk.ld (hp.get (i := 3) rfl) TTok rfl rfl, ?_⟩; conv => whnf)
      (refine hKq _ _ _ (.refl _) ?_; clear hKq Kq; conv => whnf)
      (refine And.intro (fun h => absurd (of_decide_eq_true h) (by first | (intro h2; exact absurd rfl h2) | omega | decide)) (fun _ => ?_); conv => whnf)
      (refine hKq _ _ _ (.refl _) ?_; clear hKq Kq; conv => whnf)
      (refine And.intro (fun h => absurd (of_decide_eq_true h) (by first | (intro h2; exact absurd rfl h2) | omega | decide)) (fun _ => ?_); conv => whnf)
      (refine hKq _ _ _ (.refl _) ?_; clear hKq Kq; conv => whnf)
      (refine VSeq.mk fun Kq hKq => ?_; conv => whnf)
      (refine VSeq.mk fun Kq hKq => ?_; conv => whnf)
      (refine VSeq.mk fun Kq hKq => ?_; conv => whnf)
      (refine ⟨_, _, Blk.ld (hp.get (i := 1) rfl) TTok rfl rfl, ?_⟩; conv => whnf)
      (refine ⟨_, _, Blk.ld (hp.get (i := 3) rfl) TTok rfl rfl, ?_⟩; conv => whnf)
      (refine hKq _ _ _ (.refl _) ?_; clear hKq Kq; conv => whnf)
      (refine VSeq.mk fun Kq hKq => ?_; conv => whnf)
      (refine And.intro (fun _ => ?_) (fun h => absurd (by first | rfl | assumption | omega | decide) (of_decide_eq_false h)); conv => whnf)
      (refine And.intro (fun h => absurd h (by decide)) (fun _ => ?_); conv => whnf)
      (refine ⟨_, _, Blk.ld (hp.get (i := 1) rfl) TTok rfl rfl, ?_⟩; conv => whnf)
      (refine Or.inl (And.intro (by first | omega | decide) ?_); conv => whnf)
      (refine hKq _ _ _ (.refl _) ?_; clear hKq Kq; conv => whnf)
      (refine And.intro (fun h => absurd (of_decide_eq_true h) (by first | (intro h2; exact absurd rfl h2) | omega | decide)) (fun _ => ?_); conv => whnf)
      (refine ⟨_, _, Blk.ld (hp.get (i := 1) rfl) TTok rfl rfl, ?_⟩; conv => whnf)
      (refine And.intro (fun h => absurd h (by decide)) (fun _ => ?_); conv => whnf)
      (refine hKq _ _ _ (.refl _) ?_; clear hKq Kq; conv => whnf)
      (refine hKq _ _ _ (.refl _) ?_; clear hKq Kq; conv => whnf)
      (refine ⟨_, _, Blk.ldV (vs := [_, _, _, _, _, _, _, _, _, _, _, _, _]) (hp.get (i := 1) rfl) TTok rfl rfl rfl, ?_⟩; conv => whnf)
      (refine hp.kstA TTok rfl 3 rfl rfl (oneC_of rfl) (by rfl) fun w hp => ?_; try simp only [List.set_cons_zero, List.set_cons_succ, EV.val] at hp; conv => whnf)
      refine hK0 _ _ _ (V.Sub.refl _) ?_
      conv => whnf
      (refine Or.inl (And.intro (by first | omega | decide) ?_); conv => whnf)
      exact ⟨mm - 1, _, by omega, ⟨i + 1, ⟨⟨vah, vap⟩, ⟨vbh, vbp⟩, (y.now + (x.after : Int) % 9000), vnxt, vtil, vser, false, y.noise, vword, vfresh, vasked⟩, pv, cv, by omega, rfl, hsy2, hp.pick [3, 0] (by decide)⟩, (sub_cons rfl (sub_cons rfl (sub_cons rfl (sub_cons rfl sub_nil))))⟩
   ·have hpB := hp
    by_cases he8 : e = 8
    ·by_cases ht : y.til ≤ (y.now + (x.after : Int) % 9000)
     ·refine hK1 _ _ _ hs ?_
      clear hs
      conv => whnf
      (refine VSeq.mk fun Kq hKq => ?_; conv => whnf)
      (refine VSeq.mk fun Kq hKq => ?_; conv => whnf)
      (refine hKq _ _ _ (.refl _) ?_; clear hKq Kq; conv => whnf)
      (refine And.intro (fun _ => ?_) (fun h => absurd (by first | rfl | assumption | omega | decide) (of_decide_eq_false h)); conv => whnf)
      (refine VSeq.mk fun Kq hKq => ?_; conv => whnf)
      (refine VSeq.mk fun Kq hKq => ?_; conv => whnf)
      (refine VSeq.mk fun Kq hKq => ?_; conv => whnf)
      (refine ⟨_, _, Blk.ld (hp.get (i := 2) rfl) TTok rfl rfl, ?_⟩; conv => whnf)
      (refine And.intro (by first | omega | decide) ?_; conv => whnf)
      (refine hKq _ _ _ (.refl _) ?_; clear hKq Kq; conv => whnf)
      (refine And.intro (fun h => absurd (of_decide_eq_true h) (by first | (intro h2; exact absurd rfl h2) | omega | decide)) (fun _ => ?_); conv => whnf)
      (refine And.intro (fun _ => ?_) (fun h => absurd (by first | rfl | assumption | omega | decide) (of_decide_eq_false h)); conv => whnf)
      (refine ⟨_, _, Blk.ld (hp.get (i := 3) rfl) TTok rfl rfl, ?_⟩; conv => whnf)
      (refine And.intro (fun h => absurd (of_decide_eq_true h) (by first | (intro h2; exact absurd rfl h2) | omega | decide)) (fun _ => ?_); conv => whnf)
      (refine hKq _ _ _ (.refl _) ?_; clear hKq Kq; conv => whnf)
      (refine hKq _ _ _ (.refl _) ?_; clear hKq Kq; conv => whnf)
      refine hK0 _ _ _ (V.Sub.refl _) ?_
      conv => whnf
      (refine Or.inl (And.intro (by first | omega | decide) ?_); conv => whnf)
      exact ⟨mm - 1, _, by omega, ⟨i + 1, y, ps, cs, by omega, rfl, hsy.more (by omega), hpB.pick [3, 4] (by decide)⟩, (sub_cons rfl (sub_cons rfl (sub_cons rfl (sub_cons rfl sub_nil))))⟩
     ·have hg : y.gone = true := (h8 he8).resolve_left ht
      rw [hg] at hp
      refine hK1 _ _ _ hs ?_
      clear hs
      conv => whnf
      (refine VSeq.mk fun Kq hKq => ?_; conv => whnf)
      (refine VSeq.mk fun Kq hKq => ?_; conv => whnf)
      (refine hKq _ _ _ (.refl _) ?_; clear hKq Kq; conv => whnf)
      (refine And.intro (fun _ => ?_) (fun h => absurd (by first | rfl | assumption | omega | decide) (of_decide_eq_false h)); conv => whnf)
      (refine VSeq.mk fun Kq hKq => ?_; conv => whnf)
      (refine VSeq.mk fun Kq hKq => ?_; conv => whnf)
      (refine VSeq.mk fun Kq hKq => ?_; conv => whnf)
      (refine ⟨_, _, Blk.ld (hp.get (i := 2) rfl) TTok rfl rfl, ?_⟩; conv => whnf)
      (refine And.intro (by first | omega | decide) ?_; conv => whnf)
      (refine hKq _ _ _ (.refl _) ?_; clear hKq Kq; conv => whnf)
      (refine And.intro (fun h => absurd (of_decide_eq_true h) (by first | (intro h2; exact absurd rfl h2) | omega | decide)) (fun _ => ?_); conv => whnf)
      (refine And.intro (fun _ => ?_) (fun h => absurd (by first | rfl | assumption | omega | decide) (of_decide_eq_false h)); conv => whnf)
      (refine ⟨_, _, Blk.ld (hp.get (i := 3) rfl) TTok rfl rfl, ?_⟩; conv => whnf)
      (refine And.intro (fun _ => ?_) (fun h => absurd (by first | rfl | assumption | omega | decide) (of_decide_eq_false h)); conv => whnf)
      (refine ⟨_, _, Blk.ld (hp.get (i := 3) rfl) TTok rfl rfl, ?_⟩; conv => whnf)
      (refine hKq _ _ _ (.refl _) ?_; clear hKq Kq; conv => whnf)
      (refine And.intro (fun h => absurd h (by decide)) (fun _ => ?_); conv => whnf)
      (refine hKq _ _ _ (.refl _) ?_; clear hKq Kq; conv => whnf)
      refine hK0 _ _ _ (V.Sub.refl _) ?_
      conv => whnf
      (refine Or.inl (And.intro (by first | omega | decide) ?_); conv => whnf)
      exact ⟨mm - 1, _, by omega, ⟨i + 1, y, ps, cs, by omega, rfl, hsy.more (by omega), hpB.pick [3, 4] (by decide)⟩, (sub_cons rfl (sub_cons rfl (sub_cons rfl (sub_cons rfl sub_nil))))⟩
    ·refine hK1 _ _ _ hs ?_
     clear hs
     conv => whnf
     (refine VSeq.mk fun Kq hKq => ?_; conv => whnf)
     (refine VSeq.mk fun Kq hKq => ?_; conv => whnf)
     (refine hKq _ _ _ (.refl _) ?_; clear hKq Kq; conv => whnf)
     (refine And.intro (fun _ => ?_) (fun h => absurd (by first | rfl | assumption | omega | decide) (of_decide_eq_false h)); conv => whnf)
     (refine VSeq.mk fun Kq hKq => ?_; conv => whnf)
     (refine VSeq.mk fun Kq hKq => ?_; conv => whnf)
     (refine VSeq.mk fun Kq hKq => ?_; conv => whnf)
     (refine ⟨_, _, Blk.ld (hp.get (i := 2) rfl) TTok rfl rfl, ?_⟩; conv => whnf)
     (refine And.intro (by first | omega | decide) ?_; conv => whnf)
     (refine hKq _ _ _ (.refl _) ?_; clear hKq Kq; conv => whnf)
     (refine And.intro (fun h => absurd (of_decide_eq_true h) (by first | (intro h2; exact absurd rfl h2) | omega | decide)) (fun _ => ?_); conv => whnf)
     (refine And.intro (fun h => absurd (of_decide_eq_true h) (by first | (intro h2; exact absurd rfl h2) | omega | decide)) (fun _ => ?_); conv => whnf)
     (refine hKq _ _ _ (.refl _) ?_; clear hKq Kq; conv => whnf)
     (refine hKq _ _ _ (.refl _) ?_; clear hKq Kq; conv => whnf)
     refine hK0 _ _ _ (V.Sub.refl _) ?_
     conv => whnf
     (refine Or.inl (And.intro (by first | omega | decide) ?_); conv => whnf)
     exact ⟨mm - 1, _, by omega, ⟨i + 1, y, ps, cs, by omega, rfl, hsy.more (by omega), hpB.pick [3, 4] (by decide)⟩, (sub_cons rfl (sub_cons rfl (sub_cons rfl (sub_cons rfl sub_nil))))⟩
  clear hK1 hK0
  have sW := fun {W : World} hv => TimeE_c (W := W) (v := .slice ps (iv y.asked).length cs) y yo hv (y.now + (x.after : Int) % 9000)
  have sR := fun {W : World} hv => RestE_c (W := W) (v := .slice ps (iv y.asked).length cs) y yo hv (y.now + (x.after : Int) % 9000) (wordsF x.word) (wordsF_s _)
  have sS := fun {W : World} hv => SwE_c (W := W) (v := .slice ps (iv y.asked).length cs) y yo hv (y.now + (x.after : Int) % 9000) (endA x.path).h (endB x.path).h (endA x.path).p (endB x.path).p (endA_ok _) (endB_ok _)
  have sH := fun {W : World} hv => HearE_c (W := W) (v := .slice ps (iv y.asked).length cs) y yo hv (y.now + (x.after : Int) % 9000) (y.b, y.a, pr) ⟨yo.b, yo.a, pok⟩
  have sC := fun {W : World} hv => Contains_c (W := W) (v := .slice ps (iv y.asked).length cs) pr.id yo.len hv
  have hT : x.what % 8 = 0 ∨ x.what % 8 = 1 ∨ x.what % 8 = 2 ∨ (3 ≤ x.what % 8 ∧ x.what % 8 ≤ 5) ∨ x.what % 8 = 6 ∨ x.what % 8 = 7 := by omega
  rcases hT with h | h | h | h | h | h
  ·refine Exists.elim (hsy.time (i := i) (now := (y.now + (x.after : Int) % 9000)) (by omega) (by omega) (by omega)) fun v hv1 => ?_
   refine Exists.elim hv1 fun o hv2 => ?_
   have hE := hv2.1
   have hR := hv2.2
   clear hv1 hv2 sR sS sH sC
   rw [hE] at sW
   dsimp only [Wt.c] at sW
   (refine And.intro (fun _ => ?_) (fun h => absurd (by first | rfl | assumption | omega | decide) (of_decide_eq_false h)); conv => whnf)
   (refine hKq _ _ _ (.refl _) ?_; clear hKq Kq; conv => whnf)
   (refine And.intro (fun _ => ?_) (fun h => absurd (by first | rfl | assumption | omega | decide) (of_decide_eq_false h)); conv => whnf)
   (refine ⟨_, _, Blk.ldV (vs := [_, _, _, _, _, _, _, _, _, _, _, _, _]) (hp.get (i := 3) rfl) TTok rfl rfl rfl, ?_⟩; conv => whnf)
   refine ResE.monoW (sW (hp.get (i := 4) rfl)) fun w p1 c1 p2 c2 hx hs1 _ => ?_
   refine ⟨_, rfl, ?_⟩
   have hp := hp.pushR hx hs1
   conv => whnf
   (refine hp.kstA TTok rfl 2 rfl rfl (oneC_of rfl) (by rfl) fun w hp => ?_; try simp only [List.set_cons_zero, List.set_cons_succ, EV.val] at hp; conv => whnf)
   exact keyF v p1 c1 _ _ _ 0 _ _ (sub_cons rfl (sub_cons rfl (sub_cons rfl (sub_cons rfl (sub_cons rfl (sub_cons rfl (sub_cons rfl (sub_cons rfl (sub_cons rfl (sub_cons rfl (sub_nil))))))))))) (hp.pick [0, 2, 3, 4, 5] (by decide)) (.inl ⟨rfl, o, rfl, hR⟩)
  ·refine Exists.elim (hsy.time (i := i) (now := (y.now + (x.after : Int) % 9000)) (by omega) (by omega) (by omega)) fun v hv1 => ?_
   refine Exists.elim hv1 fun o hv2 => ?_
   have hE := hv2.1
   have hR := hv2.2
   clear hv1 hv2 sR sS sH sC
   rw [hE] at sW
   dsimp only [Wt.c] at sW
   (refine And.intro (fun h => absurd (of_decide_eq_true h) (by first | (intro h2; exact absurd rfl h2) | omega | decide)) (fun _ => ?_); conv => whnf)
   (refine VSeq.mk fun Kq hKq => ?_; conv => whnf)
   (refine hKq _ _ _ (.refl _) ?_; clear hKq Kq; conv => whnf)
   (refine And.intro (fun _ => ?_) (fun h => absurd (by first | rfl | assumption | omega | decide) (of_decide_eq_false h)); conv => whnf)
   (refine hKq _ _ _ (.refl _) ?_; clear hKq Kq; conv => whnf)
   (refine And.intro (fun _ => ?_) (fun h => absurd (by first | rfl | assumption | omega | decide) (of_decide_eq_false h)); conv => whnf)
   (refine ⟨_, _, Blk.ldV (vs := [_, _, _, _, _, _, _, _, _, _, _, _, _]) (hp.get (i := 3) rfl) TTok rfl rfl rfl, ?_⟩; conv => whnf)
   refine ResE.monoW (sW (hp.get (i := 4) rfl)) fun w p1 c1 p2 c2 hx hs1 _ => ?_
   refine ⟨_, rfl, ?_⟩
   have hp := hp.pushR hx hs1
   conv => whnf
   (refine hp.kstA TTok rfl 2 rfl rfl (oneC_of rfl) (by rfl) fun w hp => ?_; try simp only [List.set_cons_zero, List.set_cons_succ, EV.val] at hp; conv => whnf)
   exact keyF v p1 c1 _ _ _ 0 _ _ (sub_cons rfl (sub_cons rfl (sub_cons rfl (sub_cons rfl (sub_cons rfl (sub_cons rfl (sub_cons rfl (sub_cons rfl (sub_cons rfl (sub_cons rfl (sub_nil))))))))))) (hp.pick [0, 2, 3, 4, 5] (by decide)) (.inl ⟨rfl, o, rfl, hR⟩)
  ·refine Exists.elim (hsy.time (i := i) (now := (y.now + (x.after : Int) % 9000)) (by omega) (by omega) (by omega)) fun v hv1 => ?_
   refine Exists.elim hv1 fun o hv2 => ?_
   have hE := hv2.1
   have hR := hv2.2
   clear hv1 hv2 sR sS sH sC
   rw [hE] at sW
   dsimp only [Wt.c] at sW
   (refine And.intro (fun h => absurd (of_decide_eq_true h) (by first | (intro h2; exact absurd rfl h2) | omega | decide)) (fun _ => ?_); conv => whnf)
   (refine VSeq.mk fun Kq hKq => ?_; conv => whnf)
   (refine hKq _ _ _ (.refl _) ?_; clear hKq Kq; conv => whnf)
   (refine And.intro (fun h => absurd (of_decide_eq_true h) (by first | (intro h2; exact absurd rfl h2) | omega | decide)) (fun _ => ?_); conv => whnf)
   (refine hKq _ _ _ (.refl _) ?_; clear hKq Kq; conv => whnf)
   (refine And.intro (fun _ => ?_) (fun h => absurd (by first | rfl | assumption | omega | decide) (of_decide_eq_false h)); conv => whnf)
   (refine ⟨_, _, Blk.ldV (vs := [_, _, _, _, _, _, _, _, _, _, _, _, _]) (hp.get (i := 3) rfl) TTok rfl rfl rfl, ?_⟩; conv => whnf)
   refine ResE.monoW (sW (hp.get (i := 4) rfl)) fun w p1 c1 p2 c2 hx hs1 _ => ?_
   refine ⟨_, rfl, ?_⟩
   have hp := hp.pushR hx hs1
   conv => whnf
   (refine hp.kstA TTok rfl 2 rfl rfl (oneC_of rfl) (by rfl) fun w hp => ?_; try simp only [List.set_cons_zero, List.set_cons_succ, EV.val] at hp; conv => whnf)
   exact keyF v p1 c1 _ _ _ 0 _ _ (sub_cons rfl (sub_cons rfl (sub_cons rfl (sub_cons rfl (sub_cons rfl (sub_cons rfl (sub_cons rfl (sub_cons rfl (sub_cons rfl (sub_cons rfl (sub_nil))))))))))) (hp.pick [0, 2, 3, 4, 5] (by decide)) (.inl ⟨rfl, o, rfl, hR⟩)
  ·refine Exists.elim hr1 fun v hv1 => ?_
   refine Exists.elim hv1 fun o hv2 => ?_
   have hE := hv2.1
   have hR := hv2.2
   clear hv1 hv2 hr1 sR sS sW
   rw [hE] at sH
   dsimp only [Wt.c, hopF, hopC] at sH
   by_cases hk : pr.k = 2
   ·(refine And.intro (fun h => absurd (of_decide_eq_true h) (by first | (intro h2; exact absurd rfl h2) | omega | decide)) (fun _ => ?_); conv => whnf)
    (refine VSeq.mk fun Kq hKq => ?_; conv => whnf)
    (refine hKq _ _ _ (.refl _) ?_; clear hKq Kq; conv => whnf)
    (refine And.intro (fun h => absurd (of_decide_eq_true h) (by first | (intro h2; exact absurd rfl h2) | omega | decide)) (fun _ => ?_); conv => whnf)
    (refine hKq _ _ _ (.refl _) ?_; clear hKq Kq; conv => whnf)
    (refine And.intro (fun h => absurd (of_decide_eq_true h) (by first | (intro h2; exact absurd rfl h2) | omega | decide)) (fun _ => ?_); conv => whnf)
    (refine VSeq.mk fun Kq hKq => ?_; conv => whnf)
    (refine hKq _ _ _ (.refl _) ?_; clear hKq Kq; conv => whnf)
    (refine And.intro (fun h => absurd (of_decide_eq_true h) (by first | (intro h2; exact absurd rfl h2) | omega | decide)) (fun _ => ?_); conv => whnf)
    (refine VSeq.mk fun Kq hKq => ?_; conv => whnf)
    (refine hKq _ _ _ (.refl _) ?_; clear hKq Kq; conv => whnf)
    (refine And.intro (fun h => absurd (of_decide_eq_true h) (by first | (intro h2; exact absurd rfl h2) | omega | decide)) (fun _ => ?_); conv => whnf)
    (refine VSeq.mk fun Kq hKq => ?_; conv => whnf)
    (refine ⟨_, _, Blk.ldV (vs := [_, _, _, _, _, _, _, _, _, _, _, _, _]) (hp.get (i := 3) rfl) TTok rfl rfl rfl, ?_⟩; conv => whnf)
    (refine ⟨1, ⟨rfl, by decide⟩, ?_⟩; conv => whnf)
    (refine ⟨_, _, Blk.ldV (vs := [_, _]) (hp.get (i := 3) rfl) TTok rfl rfl rfl, ?_⟩; conv => whnf)
    (refine ⟨0, ⟨rfl, by decide⟩, ?_⟩; conv => whnf)
    (refine ⟨_, _, Blk.ldV (vs := [_, _]) (hp.get (i := 3) rfl) TTok rfl rfl rfl, ?_⟩; conv => whnf)
    (refine ⟨_, _, Blk.ldV (vs := [_, _, _, _, _, _, _, _]) (hp.get (i := 0) rfl) TTok rfl rfl rfl, ?_⟩; conv => whnf)
    (refine ⟨_, _, bld63_0_1_2 _ _ _ _ _ _ _ _ _ _ _ _ _, ?_⟩; conv => whnf)
    refine ResE.monoW (sH (hp.get (i := 4) rfl)) fun w p1 c1 p2 c2 hx hs1 _ => ?_
    refine ⟨_, rfl, ?_⟩
    have hp := hp.pushR hx hs1
    conv => whnf
    (refine hp.kstA TTok rfl 2 rfl rfl (oneC_of rfl) (by rfl) fun w hp => ?_; try simp only [List.set_cons_zero, List.set_cons_succ, EV.val] at hp; conv => whnf)
    (refine hKq _ _ _ (.refl _) ?_; clear hKq Kq; conv => whnf)
    (refine VSeq.mk fun Kq hKq => ?_; conv => whnf)
    (refine ⟨_, _, Blk.ld (hp.get (i := 1) rfl) TTok rfl rfl, ?_⟩; conv => whnf)
    (refine hKq _ _ _ (.refl _) ?_; clear hKq Kq; conv => whnf)
    (refine And.intro (fun _ => ?_) (fun h => absurd (by first | rfl | assumption | omega | decide) (of_decide_eq_false h)); conv => whnf)
    (refine ⟨_, _, Blk.ld (hp.get (i := 4) rfl) TTok rfl rfl, ?_⟩; conv => whnf)
    (refine ⟨_, _, Blk.ld (hp.get (i := 1) rfl) TTok rfl rfl, ?_⟩; conv => whnf)
    refine V.CallsUse (sC (hp.get (i := 5) rfl)) fun w hx => ?_
    have hp := hp.call hx
    conv => whnf
    skip
    exact keyB v p1 c1 _ _ _ 0 (decide (pr.id ∈ y.asked)) _ _ (sub_cons rfl (sub_cons rfl (sub_cons rfl (sub_cons rfl (sub_cons rfl (sub_cons rfl (sub_cons rfl (sub_cons rfl (sub_cons rfl (sub_cons rfl (sub_nil))))))))))) (hp.pick [0, 2, 3, 4, 5] (by decide)) (.inl ⟨rfl, o, rfl, hR.lg fun k => decide_eq_true k.2⟩)
   ·(refine And.intro (fun h => absurd (of_decide_eq_true h) (by first | (intro h2; exact absurd rfl h2) | omega | decide)) (fun _ => ?_); conv => whnf)
    (refine VSeq.mk fun Kq hKq => ?_; conv => whnf)
    (refine hKq _ _ _ (.refl _) ?_; clear hKq Kq; conv => whnf)
    (refine And.intro (fun h => absurd (of_decide_eq_true h) (by first | (intro h2; exact absurd rfl h2) | omega | decide)) (fun _ => ?_); conv => whnf)
    (refine hKq _ _ _ (.refl _) ?_; clear hKq Kq; conv => whnf)
    (refine And.intro (fun h => absurd (of_decide_eq_true h) (by first | (intro h2; exact absurd rfl h2) | omega | decide)) (fun _ => ?_); conv => whnf)
    (refine VSeq.mk fun Kq hKq => ?_; conv => whnf)
    (refine hKq _ _ _ (.refl _) ?_; clear hKq Kq; conv => whnf)
    (refine And.intro (fun h => absurd (of_decide_eq_true h) (by first | (intro h2; exact absurd rfl h2) | omega | decide)) (fun _ => ?_); conv => whnf)
    (refine VSeq.mk fun Kq hKq => ?_; conv => whnf)
    (refine hKq _ _ _ (.refl _) ?_; clear hKq Kq; conv => whnf)
    (refine And.intro (fun h => absurd (of_decide_eq_true h) (by first | (intro h2; exact absurd rfl h2) | omega | decide)) (fun _ => ?_); conv => whnf)
    (refine VSeq.mk fun Kq hKq => ?_; conv => whnf)
    (refine ⟨_, _, Blk.ldV (vs := [_, _, _, _, _, _, _, _, _, _, _, _, _]) (hp.get (i := 3) rfl) TTok rfl rfl rfl, ?_⟩; conv => whnf)
    (refine ⟨1, ⟨rfl, by decide⟩, ?_⟩; conv => whnf)
    (refine ⟨_, _, Blk.ldV (vs := [_, _]) (hp.get (i := 3) rfl) TTok rfl rfl rfl, ?_⟩; conv => whnf)
    (refine ⟨0, ⟨rfl, by decide⟩, ?_⟩; conv => whnf)
    (refine ⟨_, _, Blk.ldV (vs := [_, _]) (hp.get (i := 3) rfl) TTok rfl rfl rfl, ?_⟩; conv => whnf)
    (refine ⟨_, _, Blk.ldV (vs := [_, _, _, _, _, _, _, _]) (hp.get (i := 0) rfl) TTok rfl rfl rfl, ?_⟩; conv => whnf)
    (refine ⟨_, _, bld63_0_1_2 _ _ _ _ _ _ _ _ _ _ _ _ _, ?_⟩; conv => whnf)
    refine ResE.monoW (sH (hp.get (i := 4) rfl)) fun w p1 c1 p2 c2 hx hs1 _ => ?_
    refine ⟨_, rfl, ?_⟩
    have hp := hp.pushR hx hs1
    conv => whnf
    (refine hp.kstA TTok rfl 2 rfl rfl (oneC_of rfl) (by rfl) fun w hp => ?_; try simp only [List.set_cons_zero, List.set_cons_succ, EV.val] at hp; conv => whnf)
    (refine hKq _ _ _ (.refl _) ?_; clear hKq Kq; conv => whnf)
    (refine VSeq.mk fun Kq hKq => ?_; conv => whnf)
    (refine ⟨_, _, Blk.ld (hp.get (i := 1) rfl) TTok rfl rfl, ?_⟩; conv => whnf)
    (refine hKq _ _ _ (.refl _) ?_; clear hKq Kq; conv => whnf)
    (refine And.intro (fun h => absurd (of_decide_eq_true h) (by first | (intro h2; exact absurd rfl h2) | omega | decide)) (fun _ => ?_); conv => whnf)
    exact keyF v p1 c1 _ _ _ 0 _ _ (sub_cons rfl (sub_cons rfl (sub_cons rfl (sub_cons rfl (sub_cons rfl (sub_cons rfl (sub_cons rfl (sub_cons rfl (sub_cons rfl (sub_cons rfl (sub_nil))))))))))) (hp.pick [0, 2, 3, 4, 5] (by decide)) (.inl ⟨rfl, o, rfl, hR.lg fun k => hk k.1⟩)
  ·refine Exists.elim (hsy.rest (i := i) (now := (y.now + (x.after : Int) % 9000)) (by omega) (by omega) (by omega) (wordsF x.word) (wordsF_s _)) fun v hv1 => ?_
   refine Exists.elim hv1 fun e hv2 => ?_
   have hE := hv2.1
   have hR := hv2.2
   clear hv1 hv2 hr1 sS sW sH sC
   have hE2 : restE y (y.now + (x.after : Int) % 9000) (wordsF x.word) = (v, e) := hE
   rw [hE2] at sR
   dsimp only [Wt.c] at sR
   (refine And.intro (fun h => absurd (of_decide_eq_true h) (by first | (intro h2; exact absurd rfl h2) | omega | decide)) (fun _ => ?_); conv => whnf)
   (refine VSeq.mk fun Kq hKq => ?_; conv => whnf)
   (refine hKq _ _ _ (.refl _) ?_; clear hKq Kq; conv => whnf)
   (refine And.intro (fun h => absurd (of_decide_eq_true h) (by first | (intro h2; exact absurd rfl h2) | omega | decide)) (fun _ => ?_); conv => whnf)
   (refine hKq _ _ _ (.refl _) ?_; clear hKq Kq; conv => whnf)
   (refine And.intro (fun h => absurd (of_decide_eq_true h) (by first | (intro h2; exact absurd rfl h2) | omega | decide)) (fun _ => ?_); conv => whnf)
   (refine VSeq.mk fun Kq hKq => ?_; conv => whnf)
   (refine hKq _ _ _ (.refl _) ?_; clear hKq Kq; conv => whnf)
   (refine And.intro (fun _ => ?_) (fun h => absurd (by first | rfl | assumption | omega | decide) (of_decide_eq_false h)); conv => whnf)
   have hcls := hp.pick [2, 3] (by decide)
   simp only [List.filterMap_cons, List.filterMap_nil, List.getElem?_cons_zero, List.getElem?_cons_succ] at hcls
   refine v_mtC TTok FFok mixed _ hcls [] (.q 0 (.q 1 (.q 2 (.q 3 (.q 4 (.m 5 (.q 6 (.q 7 (.q 8 (.m 9 (.q 10 .nil))))))))))) (by kernel_rfl) ?_
   clear hcls
   conv => whnf
   (refine ⟨_, fun w' hc => Blk.ldV (vs := [_, _, _, _, _, _, _, _, _, _, _, _, _]) (hc.get (i := 1) rfl) TTok rfl rfl rfl, ?_⟩; conv => whnf)
   (refine ⟨_, fun w' hc => Blk.ld (hc.get (i := 0) rfl) TTok rfl rfl, ?_⟩; conv => whnf)
   (refine V.QCallC.out ?_; (conv => arg 3; dsimp only [EV.val, List.toList_toArray, List.nil_append, List.append_nil, List.cons_append]); (with_reducible refine V.PureF.quietC (Words_p _ (by assumption)) ?_); conv => whnf)
   (intro w hx; try (have hp := hp.call hx); conv => whnf)
   refine ResW.monoW (sR (hp.get (i := 4) rfl)) fun w p1 c1 hx hs1 => ?_
   refine ⟨_, rfl, ?_⟩
   have hp := hp.pushR hx hs1
   conv => whnf
   (refine And.intro (fun hc => hc.call hx) ?_; conv => whnf)
   (intro w hx; try (have hp := hp.call hx); conv => whnf)
   (refine hp.kstA TTok rfl 2 rfl rfl (oneC_of rfl) (by rfl) fun w hp => ?_; try simp only [List.set_cons_zero, List.set_cons_succ, EV.val] at hp; conv => whnf)
   (refine And.intro (fun _ => hp.pick [3, 4] (by decide)) ?_; conv => whnf)
   (intro w hx; try (have hp := hp.call hx); conv => whnf)
   exact keyF v p1 c1 none 0 0 e _ _ (sub_cons rfl (sub_cons rfl (sub_cons rfl (sub_cons rfl (sub_cons rfl (sub_cons rfl (sub_cons rfl (sub_cons rfl (sub_cons rfl (sub_cons rfl (sub_nil))))))))))) (hp.pick [0, 2, 3, 4, 5] (by decide)) (hR.imp (fun k => ⟨k.1, [], rfl, k.2⟩) (fun k => ⟨k.1, .inl h, k.2.2⟩))
  ·refine Exists.elim (hsy.sw (i := i) (now := (y.now + (x.after : Int) % 9000)) (by omega) (by omega) (by omega) (endA x.path) (endB x.path) (endA_ok _) (endB_ok _)) fun v hv1 => ?_
   refine Exists.elim hv1 fun e hv2 => ?_
   have hE := hv2.1
   have hR := hv2.2
   clear hv1 hv2 hr1 sR sW sH sC
   have hE2 : swE y (y.now + (x.after : Int) % 9000) ⟨(endA x.path).h, (endA x.path).p⟩ ⟨(endB x.path).h, (endB x.path).p⟩ = (v, e) := hE
   rw [hE2] at sS
   dsimp only [Wt.c] at sS
   (refine And.intro (fun h => absurd (of_decide_eq_true h) (by first | (intro h2; exact absurd rfl h2) | omega | decide)) (fun _ => ?_); conv => whnf)
   (refine VSeq.mk fun Kq hKq => ?_; conv => whnf)
   (refine hKq _ _ _ (.refl _) ?_; clear hKq Kq; conv => whnf)
   (refine And.intro (fun h => absurd (of_decide_eq_true h) (by first | (intro h2; exact absurd rfl h2) | omega | decide)) (fun _ => ?_); conv => whnf)
   (refine hKq _ _ _ (.refl _) ?_; clear hKq Kq; conv => whnf)
   (refine And.intro (fun h => absurd (of_decide_eq_true h) (by first | (intro h2; exact absurd rfl h2) | omega | decide)) (fun _ => ?_); conv => whnf)
   (refine VSeq.mk fun Kq hKq => ?_; conv => whnf)
   (refine hKq _ _ _ (.refl _) ?_; clear hKq Kq; conv => whnf)
   (refine And.intro (fun h => absurd (of_decide_eq_true h) (by first | (intro h2; exact absurd rfl h2) | omega | decide)) (fun _ => ?_); conv => whnf)
   (refine VSeq.mk fun Kq hKq => ?_; conv => whnf)
   (refine hKq _ _ _ (.refl _) ?_; clear hKq Kq; conv => whnf)
   (refine And.intro (fun _ => ?_) (fun h => absurd (by first | rfl | assumption | omega | decide) (of_decide_eq_false h)); conv => whnf)
   (refine VSeq.mk fun Kq hKq => ?_; conv => whnf)
   have hcls := hp.pick [2, 3] (by decide)
   simp only [List.filterMap_cons, List.filterMap_nil, List.getElem?_cons_zero, List.getElem?_cons_succ] at hcls
   refine v_mtC TTok FFok mixed _ hcls [] (.q 0 (.q 1 (.q 2 (.q 3 (.q 4 (.m 5 (.q 6 (.q 7 (.q 8 (.m 9 (.q 10 .nil))))))))))) (by kernel_rfl) ?_
   clear hcls
   conv => whnf
   (refine ⟨_, fun w' hc => Blk.ldV (vs := [_, _, _, _, _, _, _, _, _, _, _, _, _]) (hc.get (i := 1) rfl) TTok rfl rfl rfl, ?_⟩; conv => whnf)
   (refine ⟨_, fun w' hc => Blk.ld (hc.get (i := 0) rfl) TTok rfl rfl, ?_⟩; conv => whnf)
   (refine V.QCallC.out ?_; (conv => arg 3; dsimp only [EV.val, List.toList_toArray, List.nil_append, List.append_nil, List.cons_append]); (with_reducible refine V.PureF.quietC (Ends_p _ (by assumption)) ?_); conv => whnf)
   (intro w hx; try (have hp := hp.call hx); conv => whnf)
   refine ResW.monoW (sS (hp.get (i := 4) rfl)) fun w p1 c1 hx hs1 => ?_
   refine ⟨_, rfl, ?_⟩
   have hp := hp.pushR hx hs1
   conv => whnf
   (refine And.intro (fun hc => hc.call hx) ?_; conv => whnf)
   (intro w hx; try (have hp := hp.call hx); conv => whnf)
   (refine hp.kstA TTok rfl 2 rfl rfl (oneC_of rfl) (by rfl) fun w hp => ?_; try simp only [List.set_cons_zero, List.set_cons_succ, EV.val] at hp; conv => whnf)
   (refine And.intro (fun _ => hp.pick [3, 4] (by decide)) ?_; conv => whnf)
   (intro w hx; try (have hp := hp.call hx); conv => whnf)
   (refine hKq _ _ _ (.refl _) ?_; clear hKq Kq; conv => whnf)
   exact keyT v p1 c1 none 0 0 e _ _ (sub_cons rfl (sub_cons rfl (sub_cons rfl (sub_cons rfl (sub_cons rfl (sub_cons rfl (sub_cons rfl (sub_cons rfl (sub_cons rfl (sub_cons rfl (sub_nil))))))))))) (hp.pick [0, 2, 3, 4, 5] (by decide)) (hR.imp (fun k => ⟨k.1, [], rfl, k.2.1⟩) (fun k => ⟨k.1, .inr h, k.2.2⟩))
 ·have hlt := of_decide_eq_false hlt
  conv => whnf
  clear hKq Kq
  refine hKq _ _ _ (.refl _) ?_
  clear hKq Kq
  conv => whnf
  refine VSeq.mk fun Kq hKq => ?_
  conv => whnf
  refine hKq _ _ _ (.refl _) ?_
  clear hKq Kq
  conv => whnf
  (exact ⟨rfl, hp.ext⟩)
theorem stays_at {W : World} (c0 : Array Value) (e0 : Rd W (.cons (.int .u8) (.cons (.sl (.int .u8)) (.cons (.sl (.ag shE)) .nil))) c0.toList) (v1 : Value) (x1 : List (List Value)) (s1 : SLn W 5 v1 x1) (e1 : ∀ x ∈ x1, Rd W (.ag shE) x) :
  Calls Tryz.prog 8 #[.agg c0, v1] W fun e w' => e = .returned (.bool true) ∧ Ext W w' := by
 obtain ⟨p, nb, evs, vn, ve, hp, hev, hn, he, h0⟩ := drf_rd e0
 obtain ⟨L, rfl, hL⟩ := Rd.all (Q := Ev.Ok) (f := Ev.c) (fun cs h => ev_rd h) e1
 have h0 : c0 = #[.int .u8 p, vn, ve] := Array.ext' h0
 subst h0
 exact stays_c p hp nb evs hev hn he L hL s1
end Go.Proofs.YtgkhcgiggjijlaaGreat
