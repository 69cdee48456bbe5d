/- Chapter 12: New of the reference; Time of the program. -/
/- Drawn regions as trees, over a class of worlds: a quiet operation is quiet in every world of the class; an operation that is not quiet leaves the class' worlds in the class. Own work. No program is named here. -/
/- Chapter 12: Time of the program. -/
/- Chapter 12: Time of the program, a question is asked. -/
/- Chapter 12: Time of the reference. -/
/- Chapter 12: Restart and Switch, program and reference. -/
import Derived.Test.YtgkhcgiggjijlaaGreatGH09
import Derived.Test.YtgkhcgiggjijlaaGreatGH05
namespace Go.Proofs.YtgkhcgiggjijlaaGreat
set_option linter.unusedSimpArgs false
set_option linter.unusedVariables false
set_option maxRecDepth 100000
open Go.RowKit V
set_option maxHeartbeats 1600000
theorem New12_bad {W : World} (ah bh : ByteArray) (ap bp : Int) (word noise : ByteArray) (now : Int) (ha : Ad.Ok ⟨ah, ap⟩) (hb : Ad.Ok ⟨bh, bp⟩) (hwd : SzS word) (h : newB ⟨ah, ap⟩ ⟨bh, bp⟩ word noise now = false) :
  Calls Tryz.prog 18 #[.agg #[.string ah, .int .i64 ap, .string bh, .int .i64 bp], .string word, .string noise, .int .i64 now] W fun e w' => e = .returned (.tuple #[.agg (zW.c (.slice none 0 0)).toArray, .int .i64 2]) ∧ Ext W w' := by
 have hN : 0 ≤ now → now ≤ 1099511627776 → 1 ≤ (noise.size : Int) → (noise.size : Int) ≤ 64 → wordB word = true → pathB ⟨ah, ap⟩ ⟨bh, bp⟩ = true → False := fun h1 h2 h3 h4 h5 h6 => by
  rw [newB_eq] at h
  unfold inB at h
  rw [decide_eq_true h1, decide_eq_true h2, decide_eq_true h3, decide_eq_true h4, h5, h6] at h
  cases h
 refine v_reads (args := [.agg #[.string ah, .int .i64 ap, .string bh, .int .i64 bp], .string word, .string noise, .int .i64 now]) TTok FFok Tryz.func18 rfl rfl ?_
 conv => whnf
 refine VSeq.mk fun Kq hKq => ?_
 conv => whnf
 have hp := Hp.nil W
 refine hp.kboxA fun q2 w hp hx => ?_
 conv => whnf
 (refine hp.kalloc z34 fun al34 w hp hx => ?_; conv => whnf)
 (refine hKq _ _ _ (.refl _) ?_; clear hKq Kq; conv => whnf)
 (refine VSeq.mk fun Kq hKq => ?_; conv => whnf)
 (refine VSeq.mk fun Kq hKq => ?_; conv => whnf)
 (refine VSeq.mk fun Kq hKq => ?_; conv => whnf)
 (refine hKq _ _ _ (.refl _) ?_; clear hKq Kq; conv => whnf)
 (refine VSeq.mk fun Kq hKq => ?_; conv => whnf)
 (refine ⟨fun hd => ?_, fun hd => ?_⟩ <;> (try simp only [Bool.not_eq_true', Bool.not_eq_false', decide_eq_true_eq, decide_eq_false_iff_not, ne_eq, Classical.not_not] at hd) <;> (conv => whnf))
 (refine hKq _ _ _ (.refl _) ?_; clear hKq Kq; conv => whnf)
 (refine VSeq.mk fun Kq hKq => ?_; conv => whnf)
 (refine hKq _ _ _ (.refl _) ?_; clear hKq Kq; conv => whnf)
 (refine VSeq.mk fun Kq hKq => ?_; conv => whnf)
 (refine hKq _ _ _ (.refl _) ?_; clear hKq Kq; conv => whnf)
 (refine VSeq.mk fun Kq hKq => ?_; conv => whnf)
 (refine hKq _ _ _ (.refl _) ?_; clear hKq Kq; conv => whnf)
 (refine hKq _ _ _ (.refl _) ?_; clear hKq Kq; conv => whnf)
 (refine VSeq.mk fun Kq hKq => ?_; conv => whnf)
 (refine ⟨_, _, bld34_ _, ?_⟩; conv => whnf)
 (refine hp.kstA TTok rfl 0 rfl rfl (oneC_of rfl) (by rfl) fun w hp => ?_; try simp only [List.set_cons_zero, List.set_cons_succ, EV.val] at hp; conv => whnf)
 (refine hKq _ _ _ (.refl _) ?_; clear hKq Kq; conv => whnf)
 (refine ⟨_, Blk.lvN (hp.get (i := 0) rfl) TTok rfl rfl, ?_⟩; conv => whnf)
 (exact ⟨rfl, hp.ext⟩)
 (refine hKq _ _ _ (.refl _) ?_; clear hKq Kq; conv => whnf)
 (refine VSeq.mk fun Kq hKq => ?_; conv => whnf)
 (refine ⟨fun hd => ?_, fun hd => ?_⟩ <;> (try simp only [Bool.not_eq_true', Bool.not_eq_false', decide_eq_true_eq, decide_eq_false_iff_not, ne_eq, Classical.not_not] at hd) <;> (conv => whnf))
 (refine hKq _ _ _ (.refl _) ?_; clear hKq Kq; conv => whnf)
 (refine VSeq.mk fun Kq hKq => ?_; conv => whnf)
 (refine hKq _ _ _ (.refl _) ?_; clear hKq Kq; conv => whnf)
 (refine VSeq.mk fun Kq hKq => ?_; conv => whnf)
 (refine hKq _ _ _ (.refl _) ?_; clear hKq Kq; conv => whnf)
 (refine hKq _ _ _ (.refl _) ?_; clear hKq Kq; conv => whnf)
 (refine VSeq.mk fun Kq hKq => ?_; conv => whnf)
 (refine ⟨_, _, bld34_ _, ?_⟩; conv => whnf)
 (refine hp.kstA TTok rfl 0 rfl rfl (oneC_of rfl) (by rfl) fun w hp => ?_; try simp only [List.set_cons_zero, List.set_cons_succ, EV.val] at hp; conv => whnf)
 (refine hKq _ _ _ (.refl _) ?_; clear hKq Kq; conv => whnf)
 (refine ⟨_, Blk.lvN (hp.get (i := 0) rfl) TTok rfl rfl, ?_⟩; conv => whnf)
 (exact ⟨rfl, hp.ext⟩)
 (refine hKq _ _ _ (.refl _) ?_; clear hKq Kq; conv => whnf)
 (refine VSeq.mk fun Kq hKq => ?_; conv => whnf)
 (refine ⟨fun hd => ?_, fun hd => ?_⟩ <;> (try simp only [Bool.not_eq_true', Bool.not_eq_false', decide_eq_true_eq, decide_eq_false_iff_not, ne_eq, Classical.not_not] at hd) <;> (conv => whnf))
 (refine hKq _ _ _ (.refl _) ?_; clear hKq Kq; conv => whnf)
 (refine VSeq.mk fun Kq hKq => ?_; conv => whnf)
 (refine hKq _ _ _ (.refl _) ?_; clear hKq Kq; conv => whnf)
 (refine hKq _ _ _ (.refl _) ?_; clear hKq Kq; conv => whnf)
 (refine VSeq.mk fun Kq hKq => ?_; conv => whnf)
 (refine ⟨_, _, bld34_ _, ?_⟩; conv => whnf)
 (refine hp.kstA TTok rfl 0 rfl rfl (oneC_of rfl) (by rfl) fun w hp => ?_; try simp only [List.set_cons_zero, List.set_cons_succ, EV.val] at hp; conv => whnf)
 (refine hKq _ _ _ (.refl _) ?_; clear hKq Kq; conv => whnf)
 (refine ⟨_, Blk.lvN (hp.get (i := 0) rfl) TTok rfl rfl, ?_⟩; conv => whnf)
 (exact ⟨rfl, hp.ext⟩)
 (refine hKq _ _ _ (.refl _) ?_; clear hKq Kq; conv => whnf)
 (refine VSeq.mk fun Kq hKq => ?_; conv => whnf)
 (refine ⟨fun hd => ?_, fun hd => ?_⟩ <;> (try simp only [Bool.not_eq_true', Bool.not_eq_false', decide_eq_true_eq, decide_eq_false_iff_not, ne_eq, Classical.not_not] at hd) <;> (conv => whnf))
 (refine hKq _ _ _ (.refl _) ?_; clear hKq Kq; conv => whnf)
 (refine hKq _ _ _ (.refl _) ?_; clear hKq Kq; conv => whnf)
 (refine VSeq.mk fun Kq hKq => ?_; conv => whnf)
 (refine ⟨_, _, bld34_ _, ?_⟩; conv => whnf)
 (refine hp.kstA TTok rfl 0 rfl rfl (oneC_of rfl) (by rfl) fun w hp => ?_; try simp only [List.set_cons_zero, List.set_cons_succ, EV.val] at hp; conv => whnf)
 (refine hKq _ _ _ (.refl _) ?_; clear hKq Kq; conv => whnf)
 (refine ⟨_, Blk.lvN (hp.get (i := 0) rfl) TTok rfl rfl, ?_⟩; conv => whnf)
 (exact ⟨rfl, hp.ext⟩)
 (refine V.CallW.out ?_; (conv => arg 3; dsimp only [EV.val, List.toList_toArray, List.nil_append, List.append_nil, List.cons_append]); (with_reducible refine V.PureF.useW (word12_p _ (by assumption)) fun w hx => ?_); try (have hp := hp.call hx); conv => whnf)
 (refine hKq _ _ _ (.refl _) ?_; clear hKq Kq; conv => whnf)
 (refine ⟨fun hd => ?_, fun hd => ?_⟩ <;> (try simp only [Bool.not_eq_true', Bool.not_eq_false', decide_eq_true_eq, decide_eq_false_iff_not, ne_eq, Classical.not_not] at hd) <;> (conv => whnf))
 (refine hKq _ _ _ (.refl _) ?_; clear hKq Kq; conv => whnf)
 (refine VSeq.mk fun Kq hKq => ?_; conv => whnf)
 (refine ⟨_, _, bld34_ _, ?_⟩; conv => whnf)
 (refine hp.kstA TTok rfl 0 rfl rfl (oneC_of rfl) (by rfl) fun w hp => ?_; try simp only [List.set_cons_zero, List.set_cons_succ, EV.val] at hp; conv => whnf)
 (refine hKq _ _ _ (.refl _) ?_; clear hKq Kq; conv => whnf)
 (refine ⟨_, Blk.lvN (hp.get (i := 0) rfl) TTok rfl rfl, ?_⟩; conv => whnf)
 (exact ⟨rfl, hp.ext⟩)
 (refine ⟨_, _, Blk.ldV (vs := [_, _, _, _]) (hp.get (i := 1) rfl) TTok rfl rfl rfl, ?_⟩; conv => whnf)
 (refine V.CallW.out ?_; (conv => arg 3; dsimp only [EV.val, List.toList_toArray, List.nil_append, List.append_nil, List.cons_append]); (with_reducible refine V.PureF.useW (path12_p _ _ _ _ (by assumption) (by assumption)) fun w hx => ?_); try (have hp := hp.call hx); conv => whnf)
 (refine hKq _ _ _ (.refl _) ?_; clear hKq Kq; conv => whnf)
 (refine ⟨fun hd => ?_, fun hd => ?_⟩ <;> (try simp only [Bool.not_eq_true', Bool.not_eq_false', decide_eq_true_eq, decide_eq_false_iff_not, ne_eq, Classical.not_not] at hd) <;> (conv => whnf))
 (refine VSeq.mk fun Kq hKq => ?_; conv => whnf)
 (refine ⟨_, _, bld34_ _, ?_⟩; conv => whnf)
 (refine hp.kstA TTok rfl 0 rfl rfl (oneC_of rfl) (by rfl) fun w hp => ?_; try simp only [List.set_cons_zero, List.set_cons_succ, EV.val] at hp; conv => whnf)
 (refine hKq _ _ _ (.refl _) ?_; clear hKq Kq; conv => whnf)
 (refine ⟨_, Blk.lvN (hp.get (i := 0) rfl) TTok rfl rfl, ?_⟩; conv => whnf)
 (exact ⟨rfl, hp.ext⟩)
 (refine hKq _ _ _ (.refl _) ?_; clear hKq Kq; conv => whnf)
 (refine VSeq.mk fun Kq hKq => ?_; conv => whnf)
 (refine ⟨_, _, Blk.ldV (vs := [_, _, _, _]) (hp.get (i := 1) rfl) TTok rfl rfl rfl, ?_⟩; conv => whnf)
 (refine Or.inl (And.intro (by first | omega | decide) ?_); conv => whnf)
 (refine ⟨_, _, bld34_0_7_6_1_3 _ _ _ _ _ _ _ _ _, ?_⟩; conv => whnf)
 (refine hp.kalloc z34 fun al34 w hp hx => ?_; conv => whnf)
 (refine hp.kstA TTok rfl 0 rfl rfl (oneC_of rfl) (by rfl) fun w hp => ?_; try simp only [List.set_cons_zero, List.set_cons_succ, EV.val] at hp; conv => whnf)
 (refine hKq _ _ _ (.refl _) ?_; clear hKq Kq; conv => whnf)
 (refine VSeq.mk fun Kq hKq => ?_; conv => whnf)
 (refine ⟨_, _, Blk.ldV (vs := [_, _, _, _, _, _, _, _, _, _, _, _, _]) (hp.get (i := 0) rfl) TTok rfl rfl rfl, ?_⟩; conv => whnf)
 all_goals exact (hN (by omega) (by omega) (by omega) (by omega) (by assumption) (by assumption)).elim
theorem New12_ok {W : World} (ah bh : ByteArray) (ap bp : Int) (word noise : ByteArray) (now : Int) (ha : Ad.Ok ⟨ah, ap⟩) (hb : Ad.Ok ⟨bh, bp⟩) (hwd : SzS word) (hno : SzS noise) (h : newB ⟨ah, ap⟩ ⟨bh, bp⟩ word noise now = true) :
  Calls Tryz.prog 18 #[.agg #[.string ah, .int .i64 ap, .string bh, .int .i64 bp], .string word, .string noise, .int .i64 now] W fun e w' => e = .returned (.tuple #[.agg ((newW ⟨ah, ap⟩ ⟨bh, bp⟩ word noise now).c (.slice none 0 0)).toArray, .int .i64 0]) ∧ Ext W w' := by
 rw [newB_eq] at h
 simp only [Bool.and_eq_true] at h
 obtain ⟨h1, h2, h3, h4⟩ := h
 have h1 := inB_t h1
 have h2 := inB_t h2
 have hg := gapN_le noise 0
 have g := gap12_p (nW ⟨ah, ap⟩ ⟨bh, bp⟩ word noise now) (.slice none 0 0) hno (by show 0 < noise.size; omega) 0 (by decide)
 dsimp only [Wt.c, nW] at g
 have hP := path12_p ah bh ap bp ha hb
 have hW := word12_p word hwd
 rw [h4] at hP
 rw [h3] at hW
 refine v_reads (args := [.agg #[.string ah, .int .i64 ap, .string bh, .int .i64 bp], .string word, .string noise, .int .i64 now]) TTok FFok Tryz.func18 rfl rfl ?_
 conv => whnf
 refine VSeq.mk fun Kq hKq => ?_
 conv => whnf
 have hp := Hp.nil W
 refine hp.kboxA fun q2 w hp hx => ?_
 conv => whnf
 (refine hp.kalloc z34 fun al34 w hp hx => ?_; conv => whnf)
 (refine hKq _ _ _ (.refl _) ?_; clear hKq Kq; conv => whnf)
 (refine VSeq.mk fun Kq hKq => ?_; conv => whnf)
 (refine VSeq.mk fun Kq hKq => ?_; conv => whnf)
 (refine VSeq.mk fun Kq hKq => ?_; conv => whnf)
 (refine hKq _ _ _ (.refl _) ?_; clear hKq Kq; conv => whnf)
 (refine VSeq.mk fun Kq hKq => ?_; conv => whnf)
 (refine And.intro (fun h => absurd (of_decide_eq_true h) (by first | (intro h2; exact absurd rfl h2) | omega | decide)) (fun _ => ?_); conv => whnf)
 (refine hKq _ _ _ (.refl _) ?_; clear hKq Kq; conv => whnf)
 (refine VSeq.mk fun Kq hKq => ?_; conv => whnf)
 (refine And.intro (fun h => absurd (of_decide_eq_true h) (by first | (intro h2; exact absurd rfl h2) | omega | decide)) (fun _ => ?_); conv => whnf)
 (refine hKq _ _ _ (.refl _) ?_; clear hKq Kq; conv => whnf)
 (refine VSeq.mk fun Kq hKq => ?_; conv => whnf)
 (refine And.intro (fun h => absurd (of_decide_eq_true h) (by first | (intro h2; exact absurd rfl h2) | omega | decide)) (fun _ => ?_); conv => whnf)
 (refine hKq _ _ _ (.refl _) ?_; clear hKq Kq; conv => whnf)
 (refine VSeq.mk fun Kq hKq => ?_; conv => whnf)
 (refine And.intro (fun h => absurd (of_decide_eq_true h) (by first | (intro h2; exact absurd rfl h2) | omega | decide)) (fun _ => ?_); conv => whnf)
 (refine V.CallW.out ?_; (conv => arg 3; dsimp only [EV.val, List.toList_toArray, List.nil_append, List.append_nil, List.cons_append]); (with_reducible refine V.PureF.useW (hW) fun w hx => ?_); try (have hp := hp.call hx); conv => whnf)
 (refine hKq _ _ _ (.refl _) ?_; clear hKq Kq; conv => whnf)
 (refine And.intro (fun h => absurd h (by decide)) (fun _ => ?_); conv => whnf)
 (refine ⟨_, _, Blk.ldV (vs := [_, _, _, _]) (hp.get (i := 1) rfl) TTok rfl rfl rfl, ?_⟩; conv => whnf)
 (refine V.CallW.out ?_; (conv => arg 3; dsimp only [EV.val, List.toList_toArray, List.nil_append, List.append_nil, List.cons_append]); (with_reducible refine V.PureF.useW (hP) fun w hx => ?_); try (have hp := hp.call hx); conv => whnf)
 (refine hKq _ _ _ (.refl _) ?_; clear hKq Kq; conv => whnf)
 (refine And.intro (fun h => absurd h (by decide)) (fun _ => ?_); conv => whnf)
 (refine hKq _ _ _ (.refl _) ?_; clear hKq Kq; conv => whnf)
 (refine VSeq.mk fun Kq hKq => ?_; conv => whnf)
 (refine ⟨_, _, Blk.ldV (vs := [_, _, _, _]) (hp.get (i := 1) rfl) TTok rfl rfl rfl, ?_⟩; conv => whnf)
 (refine Or.inl (And.intro (by first | omega | decide) ?_); conv => whnf)
 (refine ⟨_, _, bld34_0_7_6_1_3 _ _ _ _ _ _ _ _ _, ?_⟩; conv => whnf)
 (refine hp.kalloc z34 fun al34 w hp hx => ?_; conv => whnf)
 (refine hp.kstA TTok rfl 0 rfl rfl (oneC_of rfl) (by rfl) fun w hp => ?_; try simp only [List.set_cons_zero, List.set_cons_succ, EV.val] at hp; conv => whnf)
 (refine hKq _ _ _ (.refl _) ?_; clear hKq Kq; conv => whnf)
 (refine VSeq.mk fun Kq hKq => ?_; conv => whnf)
 (refine ⟨_, _, Blk.ldV (vs := [_, _, _, _, _, _, _, _, _, _, _, _, _]) (hp.get (i := 0) rfl) TTok rfl rfl rfl, ?_⟩; conv => whnf)
 (refine V.CallW.out ?_; (conv => arg 3; dsimp only [EV.val, List.toList_toArray, List.nil_append, List.append_nil, List.cons_append]); refine V.PureF.useW (g) fun w hx => ?_; try (have hp := hp.call hx); conv => whnf)
 (refine Or.inl (And.intro (by first | omega | decide) ?_); conv => whnf)
 (refine hp.kst1 TTok (by rfl) 0 (by rfl) (by rfl) (by rfl) (Nat.le_of_ble_eq_true rfl) fun w hp => ?_; try simp only [List.set_cons_zero, List.set_cons_succ, EV.val] at hp; conv => whnf)
 (refine hKq _ _ _ (.refl _) ?_; clear hKq Kq; conv => whnf)
 (refine VSeq.mk fun Kq hKq => ?_; conv => whnf)
 (refine ⟨_, _, Blk.ldV (vs := [_, _, _, _, _, _, _, _, _, _, _, _, _]) (hp.get (i := 0) rfl) TTok rfl rfl rfl, ?_⟩; conv => whnf)
 (refine hp.kstA TTok rfl 1 rfl rfl (oneC_of rfl) (by rfl) fun w hp => ?_; try simp only [List.set_cons_zero, List.set_cons_succ, EV.val] at hp; conv => whnf)
 (refine hKq _ _ _ (.refl _) ?_; clear hKq Kq; conv => whnf)
 (refine ⟨_, Blk.lvN (hp.get (i := 1) rfl) TTok rfl rfl, ?_⟩; conv => whnf)
 (exact ⟨rfl, hp.ext⟩)
abbrev Hop3 := Ad × Ad × Prb
abbrev hopF (h : Hop3) : List Value := hopC h.1 h.2.1 h.2.2
def HR (w : World) (o : Value) (hs : List Hop3) : Prop := (hs = [] ∧ o = .slice none 0 0) ∨ ∃ h g c, hs = [h] ∧ o = .slice (some ⟨g, 0, none⟩) 1 c ∧ ∀ j v, (hopF h)[j]? = some v → w.cell? ⟨g, j, none⟩ = some v
theorem HR.nil {w : World} : HR w (.slice none 0 0) [] := .inl ⟨rfl, rfl⟩
theorem HR.one {w : World} {o : Value} {h : Hop3} (hr : (row 63 12 o 1 (hopF h)).holds w) : HR w o [h] := by
 obtain ⟨g, c, rfl⟩ := row_form hr (by decide)
 exact .inr ⟨h, g, c, rfl, rfl, fun j v hj => row_cell hr hj⟩
theorem HR.blk {w : World} {g c e : Nat} {h : Hop3} (hb : Blk w g (hopF h) e) : HR w (.slice (some ⟨g, 0, none⟩) 1 c) [h] :=
 .inr ⟨h, g, c, rfl, rfl, fun j v hj => (hb.cell j).trans hj⟩
theorem HR.ext {w w' : World} {o : Value} {hs : List Hop3} (h : HR w o hs) (hx : Ext w w') : HR w' o hs := by
 rcases h with h | ⟨h, g, c, h1, h2, h3⟩
 ·exact .inl h
 ·exact .inr ⟨h, g, c, h1, h2, fun j v hj => hx.cell (h3 j v hj)⟩
/-- what is sent, in a block that is not of the world W -/
structure HRw (W w : World) (o : Value) (hs : List Hop3) : Prop where
 s : HR w o hs
 f : FreshV W o
theorem HRw.nil {W w : World} : HRw W w (.slice none 0 0) [] := ⟨.nil, fun a n c h => by simp at h⟩
theorem HRw.one {W w : World} {H : List It} {o : Value} {h : Hop3} (hp : HpM [] W w H) {i : Nat} (hi : H[i]? = some (row 63 12 o 1 (hopF h))) : HRw W w o [h] :=
 ⟨HR.one (hp.get hi), fun a n' c h => by
  subst h
  have := (hp.lo _ (List.mem_of_getElem? hi) a.block rfl).1
  simpa using this⟩
theorem HRw.blk {W w : World} {H : List It} {g c e : Nat} {h : Hop3} (hp : HpM [] W w H) {i : Nat} (hi : H[i]? = some (blk g (hopF h) e)) : HRw W w (.slice (some ⟨g, 0, none⟩) 1 c) [h] :=
 ⟨HR.blk (hp.get hi), fun a n' c h => by
  have := (hp.lo _ (List.mem_of_getElem? hi) g rfl).1
  simp only [Value.slice.injEq, Option.some.injEq] at h
  rw [← h.1]
  simpa using this⟩
def askP (ser : Int) : Prb := ⟨1, ser, 1, false, 0, false, Ad.z⟩
def trim8 (l : List Int) : List Int := l.drop (l.length - 8)
def asksB (y : Wt) (now : Int) : Bool := !y.gone && (decide (y.nxt ≤ now) && decide (y.ser < 1099511627776))
def askW (y : Wt) (now : Int) : Wt := { y with asked := trim8 (y.asked ++ [y.ser]), ser := y.ser + 1, nxt := now + gapN y.noise (y.ser + 1).toNat }
def timeW (x : Wt) (now : Int) : Wt × List Hop3 := if asksB (atW x now) now then (askW (atW x now) now, [(x.a, x.b, askP x.ser)]) else (atW x now, [])
open Go.RowKit
namespace V
section
variable {P : Program} {md : Region.Mode} {ops : Array Oper}
def YC (P : Program) (ops : Array Oper) (o : Oper) (v : Value) (a : Act) (C : World → Prop) : Prop :=
 (Region.wanted o (yielded ops a.tmps) = true ∧ ∀ w1, C w1 → o.quietAt P a (Ext w1) w1 v) ∨ (Region.wanted o (yielded ops a.tmps) = false ∧ v = undef)
theorem YC.yg {o : Oper} {v : Value} {a : Act} {C : World → Prop} {w : World} (h : YC P ops o v a C) (hc : ∀ w1, Ext w w1 → C w1) : YG P ops o v a w :=
 h.imp (fun h => ⟨h.1, fun w1 h1 => h.2 w1 (hc w1 h1)⟩) id
theorem YC.of_same {o : Oper} {v : Value} {a a' : Act} {C : World → Prop} (hy : YC P ops o v a C) (he : execOp a'.eval o = execOp a.eval o) (hw : Region.wanted o (yielded ops a'.tmps) = Region.wanted o (yielded ops a.tmps)) : YC P ops o v a' C := by
 unfold YC Oper.quietAt at *
 rw [he, hw]
 exact hy
theorem okOp_putC {j : Nat} {oi oj : Oper} {v : Value} {C : World → Prop} {w1 : World} (hj : ops[j]? = some oj) (hap : oi.apart ops oj = true)
  (hsi : ∀ cs b, oi.op ≠ .select cs b) (hsj : ∀ cs b, oj.op ≠ .select cs b) {K : Act → World → Prop} {a : Act}
  (hy : YC P ops oi v a C) (h : okOp P ops j K (a.put oi.dst v) w1) :
  okOp P ops j (fun a' w2 => YC P ops oi v a' C ∧ K (a'.put oi.dst v) w2) a w1 := by
 obtain ⟨h1, h2, h3⟩ := Oper.apart_spec hap
 have keep : ∀ (u : Value), YC P ops oi v (a.put oj.dst u) C := fun u =>
  hy.of_same (execOp_put oi hsi a oj.dst u h3) (wanted_put oi a oj.dst u h3)
 unfold okOp at *
 simp only [hj] at *
 rw [wanted_put oj a oi.dst v h1] at h
 split
 ·rename_i hw
  simp only [hw, if_true] at h
  unfold Oper.wp at *
  rw [execOp_put oj hsj a oi.dst v h1] at h
  generalize (execOp a.eval oj).run P w1 = r at *
  have put : ∀ (u : Value) (w2 : World), K ((a.put oi.dst v).put oj.dst u) w2 → YC P ops oi v (a.put oj.dst u) C ∧ K ((a.put oj.dst u).put oi.dst v) w2 := fun u w2 hk =>
   ⟨keep u, by rw [← Act.put_comm a v u h2]; exact hk⟩
  have putd : ∀ (x : Deferred) (w2 : World), K ({ tmps := (a.put oi.dst v).tmps, defers := x :: (a.put oi.dst v).defers : Act }.put oj.dst undef) w2 →
    YC P ops oi v ({ tmps := a.tmps, defers := x :: a.defers : Act }.put oj.dst undef) C ∧ K (({ tmps := a.tmps, defers := x :: a.defers : Act }.put oj.dst undef).put oi.dst v) w2 := fun x w2 hk => by
   have e : ({ tmps := (a.put oi.dst v).tmps, defers := x :: (a.put oi.dst v).defers } : Act) = ({ tmps := a.tmps, defers := x :: a.defers } : Act).put oi.dst v := by cases oi.dst <;> rfl
   have hy0 : YC P ops oi v { tmps := a.tmps, defers := x :: a.defers } C := hy.of_same rfl rfl
   refine ⟨hy0.of_same (execOp_put oi hsi _ oj.dst _ h3) (wanted_put oi _ oj.dst _ h3), ?_⟩
   rw [← Act.put_comm _ v undef h2, ← e]; exact hk
  cases r with
  | ok n w' =>
   cases n <;> simp only [Oper.upon] at h ⊢ <;>
    first
     | exact put _ _ h
     | exact Calls.mono h (fun e w'' he => by cases e <;> first | exact put _ _ he | exact he.elim | exact QF_out he)
     | exact Rows.mono h (fun _ _ he => put _ _ he)
     | exact putd _ _ h
     | exact h.elim
  | halt x w' => cases x <;> simp only [Oper.upon] at h ⊢ <;> first | exact h.elim | exact h
 ·rename_i hw
  simp only [hw] at h
  exact ⟨keep _, by rw [← Act.put_comm a v undef h2]; exact h⟩
def headC (P : Program) (md : Region.Mode) (ops : Array Oper) (bars : List Nat) (C : World → Prop) (L : Array Bool → Act → World → Prop) : Nat → Array Bool → Act → World → Prop
 | 0, done, a, w => ∀ w1, Ext w w1 → L done a w1
 | f + 1, done, a, w => ∀ w1, Ext w w1 → Region.ready md ops done ≠ [] ∧ ∀ i ∈ Region.ready md ops done, okOp P ops i (fun a' w2 => (bars.contains i = false → C w1 → C w2) ∧ headC P md ops bars C L f (done.setIfInBounds i true) a' w2) a w1
theorem headC_mono {bars : List Nat} {C : World → Prop} {L : Array Bool → Act → World → Prop} {w w' : World} (hx : Ext w w') : ∀ {f : Nat} {done : Array Bool} {a : Act}, headC P md ops bars C L f done a w → headC P md ops bars C L f done a w'
 | 0, _, _, h => fun w1 h1 => h w1 (hx.trans h1)
 | _ + 1, _, _, h => fun w1 h1 => h w1 (hx.trans h1)
theorem any_of_headC {g : Nat} {bars : List Nat} {C : World → Prop} {L : Array Bool → Act → World → Prop} {Q : Exit → Act → World → Prop} (hL : ∀ done a w, L done a w → wpAny P md ops Q g done a w) :
  ∀ (f : Nat) (done : Array Bool) (a : Act) (w : World), headC P md ops bars C L f done a w → wpAny P md ops Q (f + g) done a w := by
 intro f
 induction f with
 | zero => intro done a w h; rw [Nat.zero_add]; exact hL _ _ _ (h w (Ext.refl w))
 | succ f ih =>
  intro done a w h
  rw [show f + 1 + g = (f + g) + 1 by omega]
  have h := h w (Ext.refl w)
  exact ⟨fun h0 => absurd h0 h.1, fun i hi => wpOp_of_ok (fun a' w' h' => ih _ a' w' h'.2) (h.2 i hi)⟩
theorem headC_take {bars : List Nat} {C : World → Prop} (hC : ∀ w w', C w → Ext w w' → C w') {i : Nat} {oi : Oper} {v : Value} {L : Array Bool → Act → World → Prop} (hi : ops[i]? = some oi) (hsel : ∀ (j : Nat) (o : Oper) cs b, ops[j]? = some o → o.op ≠ .select cs b)
  (hbar : ∀ j, bars.contains j = true → waits2 md ops j i = true) (hdone : ∀ done a w, L done a w → Region.ready md ops done = []) :
  ∀ (f : Nat) (done : Array Bool) (a : Act) (w : World), HeadInv md ops ops.size done → C w →
   (∀ j oj, ops[j]? = some oj → j ≠ i → done.getD j true = false → (∀ e ∈ oj.after, Region.binds md e = true → e.on ≠ i) → oi.apart ops oj = true) →
   i ∈ Region.ready md ops done → YC P ops oi v a C →
   headC P md ops bars C L f (done.setIfInBounds i true) (a.put oi.dst v) w → headC P md ops bars C L (f + 1) done a w := by
 have hsz : i < ops.size := (Array.getElem?_eq_some_iff.1 hi).1
 intro f
 induction f with
 | zero =>
  intro done a w inv hxB _ hr hy H w1 hx
  refine ⟨List.ne_nil_of_mem hr, fun j hj => ?_⟩
  by_cases e : j = i
  ·subst e; exact (hy.yg fun w2 h2 => hC _ _ (hC _ _ hxB hx) h2).ok hi (Ext.refl w1) fun w2 h2 => ⟨fun _ h => hC _ _ h h2, headC_mono (hx.trans h2) H⟩
  ·have h1 := hdone _ _ _ (H w1 hx)
   have h2 := ready_mono (md := md) (ops := ops) hj e
   rw [h1] at h2; cases h2
 | succ f ih =>
  intro done a w inv hxB hfree hr hy H w1 hx
  have hun := (mem_ready.1 hr).1
  refine ⟨List.ne_nil_of_mem hr, fun j hj => ?_⟩
  by_cases e : j = i
  ·subst e; exact (hy.yg fun w2 h2 => hC _ _ (hC _ _ hxB hx) h2).ok hi (Ext.refl w1) fun w2 h2 => ⟨fun _ h => hC _ _ h h2, headC_mono (hx.trans h2) H⟩
  ·obtain ⟨hjun, oj, hoj, hall⟩ := mem_ready.1 hj
   have hjsz : j < ops.size := (Array.getElem?_eq_some_iff.1 hoj).1
   have hnot : ∀ e ∈ oj.after, Region.binds md e = true → e.on ≠ i := fun e he hb heq => by
    have := hall e he hb; rw [heq, getD_both hun] at this; cases this
   have hjb : bars.contains j = false := by
    cases hb : bars.contains j with
    | false => rfl
    | true => have := hbar j hb; rw [not_waits2 inv hun hj] at this; cases this
   have key := okOp_putC hoj (hfree j oj hoj e hjun hnot) (fun cs b => hsel i oi cs b hi) (fun cs b => hsel j oj cs b hoj) hy ((H w1 hx).2 j (ready_mono hj e))
   refine okOp_mono (fun a' w2 h3 => ⟨fun hb => h3.2.1 hb, ih (done.setIfInBounds j true) a' w2 (inv.set hj hjsz) (h3.2.1 hjb (hC _ _ hxB hx)) ?_ (ready_mono hr (Ne.symm e)) h3.1 ?_⟩) key
   ·intro k ok hk hki hu hno
    refine hfree k ok hk hki ?_ hno
    by_cases hjk : j = k
    ·subst hjk; exact hjun
    ·rwa [getD_set_ne true hjk] at hu
   ·rw [Array.setIfInBounds_comm _ _ e]; exact h3.2.2
def oblC (b : Bool) (C : World → Prop) (w1 w : World) (p : Prop) : Prop := match b with
 | true => p
 | false => (C w1 → C w) ∧ p
theorem oblC_spec {b : Bool} {C : World → Prop} {w1 w : World} {p : Prop} (h : oblC b C w1 w p) : (b = false → C w1 → C w) ∧ p := by
 cases b with
 | true => exact ⟨fun hc => (by cases hc), h⟩
 | false => exact ⟨fun _ => h.1, h.2⟩
def stepC (P : Program) (ops : Array Oper) (bars : List Nat) (C : World → Prop) (i : Nat) (k : Act → World → Prop) (a : Act) (w : World) : Prop :=
 ∀ w1, Ext w w1 → okOp P ops i (fun a' w2 => oblC (bars.contains i) C w1 w2 (k a' w2)) a w1
def actMC (P : Program) (ops : Array Oper) (bars : List Nat) (C : World → Prop) (Lq : Act → World → Prop) : MT → Act → World → Prop
 | .nil, a, w => ∀ w1, Ext w w1 → Lq a w1
 | .q i r, a, w => ∃ o, ops[i]? = some o ∧ ∃ v, YC P ops o v a C ∧ actMC P ops bars C Lq r (a.put o.dst v) w
 | .m i r, a, w => stepC P ops bars C i (actMC P ops bars C Lq r) a w
 | .br i j r s, a, w => stepC P ops bars C i (actMC P ops bars C Lq r) a w ∧ stepC P ops bars C j (actMC P ops bars C Lq s) a w
 | .br3 i j k r s t, a, w => stepC P ops bars C i (actMC P ops bars C Lq r) a w ∧ stepC P ops bars C j (actMC P ops bars C Lq s) a w ∧ stepC P ops bars C k (actMC P ops bars C Lq t) a w
 | .br4 i j k m r s t u, a, w => stepC P ops bars C i (actMC P ops bars C Lq r) a w ∧ stepC P ops bars C j (actMC P ops bars C Lq s) a w ∧ stepC P ops bars C k (actMC P ops bars C Lq t) a w ∧ stepC P ops bars C m (actMC P ops bars C Lq u) a w
theorem headC_step {bars : List Nat} {C : World → Prop} (hC : ∀ w w', C w → Ext w w' → C w') {f : Bool} {i : Nat} {L : Array Bool → Act → World → Prop} {k : Act → World → Prop} {g : Nat} {done : Array Bool} {a : Act} {w w1 : World} (hx : Ext w w1) (hB : f = true → C w)
  (h : stepC P ops bars C i k a w) (hk : ∀ a' w2, ((f && !bars.contains i) = true → C w2) → k a' w2 → headC P md ops bars C L g (done.setIfInBounds i true) a' w2) :
  okOp P ops i (fun a' w2 => (bars.contains i = false → C w1 → C w2) ∧ headC P md ops bars C L g (done.setIfInBounds i true) a' w2) a w1 := by
 refine okOp_mono (fun a' w2 h2 => ?_) (h w1 hx)
 obtain ⟨h3, h4⟩ := oblC_spec h2
 exact ⟨h3, hk a' w2 (fun hf => by
  rw [Bool.and_eq_true] at hf
  exact h3 (by simpa using hf.2) (hC _ _ (hB hf.1) hx)) h4⟩
theorem headC_mt {bars : List Nat} {C : World → Prop} (hC : ∀ w w', C w → Ext w w' → C w') {Lq : Act → World → Prop} (hsel : Region.noSelect ops = true) :
  ∀ (r : MT) (f : Bool) (done : Array Bool) (a : Act) (w : World), HeadInv md ops ops.size done → (f = true → C w) → mbB md ops bars f r done = true → actMC P ops bars C Lq r a w →
   headC P md ops bars C (fun done a w => Region.ready md ops done = [] ∧ Lq a w) r.len done a w
 | .nil, f, done, a, w, _, _, hB, h => fun w1 hx => ⟨List.isEmpty_iff.1 hB, h w1 hx⟩
 | .q i r, f, done, a, w, inv, hxB, hB, h => by
  simp only [mbB, Bool.and_eq_true] at hB
  obtain ⟨⟨⟨⟨hf, hr⟩, hfr⟩, hb⟩, hB'⟩ := hB
  obtain ⟨o, ho, v, hy, hk⟩ := h
  have hr' : i ∈ Region.ready md ops done := by simpa using hr
  exact headC_take hC ho (Region.noSelect_spec hsel) (barOk_spec hb) (fun done a w hL => hL.1) r.len done a w inv (hxB hf) (Region.free_spec ho hfr) hr' hy
   (headC_mt hC hsel r f _ _ _ (inv.set hr' (Array.getElem?_eq_some_iff.1 ho).1) hxB hB' hk)
 | .m i r, f, done, a, w, inv, hxB, hB, h => by
  simp only [mbB, Bool.and_eq_true, decide_eq_true_eq] at hB
  obtain ⟨hr, hB'⟩ := hB
  intro w1 hx
  have hri : i ∈ Region.ready md ops done := by rw [hr]; simp
  have hlt : ∀ q ∈ Region.ready md ops done, q < ops.size := fun q hq => (Array.getElem?_eq_some_iff.1 (mem_ready.1 hq).2.choose_spec.1).1
  refine ⟨by rw [hr]; simp, fun j hj => ?_⟩
  rw [hr] at hj
  obtain rfl : j = i := by simpa using hj
  exact headC_step hC hx hxB h fun a' w2 hb hk => headC_mt hC hsel r _ _ _ _ (inv.set hri (hlt _ hri)) hb hB' hk
 | .br i j r s, f, done, a, w, inv, hxB, hB, h => by
  simp only [mbB, Bool.and_eq_true, decide_eq_true_eq] at hB
  obtain ⟨⟨⟨hr, hl⟩, hB1⟩, hB2⟩ := hB
  have hl : r.len = s.len := by simpa using hl
  intro w1 hx
  have hlt : ∀ q ∈ Region.ready md ops done, q < ops.size := fun q hq => (Array.getElem?_eq_some_iff.1 (mem_ready.1 hq).2.choose_spec.1).1
  have hri : i ∈ Region.ready md ops done := by rw [hr]; simp
  have hrj : j ∈ Region.ready md ops done := by rw [hr]; simp
  refine ⟨by rw [hr]; simp, fun k hk => ?_⟩
  rw [hr] at hk
  have hk : k = i ∨ k = j := by simpa using hk
  rcases hk with rfl | rfl
  ·exact headC_step hC hx hxB h.1 fun a' w2 hb hk => headC_mt hC hsel r _ _ _ _ (inv.set hri (hlt _ hri)) hb hB1 hk
  ·exact headC_step hC hx hxB h.2 fun a' w2 hb hk => by
    have := headC_mt (Lq := Lq) hC hsel s _ _ _ _ (inv.set hrj (hlt _ hrj)) hb hB2 hk
    show headC P md ops bars C _ r.len _ a' w2
    rw [hl]; exact this
 | .br3 i j k r s t, f, done, a, w, inv, hxB, hB, h => by
  simp only [mbB, Bool.and_eq_true, decide_eq_true_eq] at hB
  obtain ⟨⟨⟨⟨⟨hr, hl⟩, hl2⟩, hB1⟩, hB2⟩, hB3⟩ := hB
  have hl : r.len = s.len := by simpa using hl
  have hl2 : r.len = t.len := by simpa using hl2
  intro w1 hx
  have hlt : ∀ q ∈ Region.ready md ops done, q < ops.size := fun q hq => (Array.getElem?_eq_some_iff.1 (mem_ready.1 hq).2.choose_spec.1).1
  have hri : i ∈ Region.ready md ops done := by rw [hr]; simp
  have hrj : j ∈ Region.ready md ops done := by rw [hr]; simp
  have hrk : k ∈ Region.ready md ops done := by rw [hr]; simp
  refine ⟨by rw [hr]; simp, fun q hq => ?_⟩
  rw [hr] at hq
  have hq : q = i ∨ q = j ∨ q = k := by simpa using hq
  rcases hq with rfl | rfl | rfl
  ·exact headC_step hC hx hxB h.1 fun a' w2 hb hk => headC_mt hC hsel r _ _ _ _ (inv.set hri (hlt _ hri)) hb hB1 hk
  ·exact headC_step hC hx hxB h.2.1 fun a' w2 hb hk => by
    have := headC_mt (Lq := Lq) hC hsel s _ _ _ _ (inv.set hrj (hlt _ hrj)) hb hB2 hk
    show headC P md ops bars C _ r.len _ a' w2
    rw [hl]; exact this
  ·exact headC_step hC hx hxB h.2.2 fun a' w2 hb hk => by
    have := headC_mt (Lq := Lq) hC hsel t _ _ _ _ (inv.set hrk (hlt _ hrk)) hb hB3 hk
    show headC P md ops bars C _ r.len _ a' w2
    rw [hl2]; exact this
 | .br4 i j k m r s t u, f, done, a, w, inv, hxB, hB, h => by
  simp only [mbB, Bool.and_eq_true, decide_eq_true_eq] at hB
  obtain ⟨⟨⟨⟨⟨⟨⟨hr, hl⟩, hl2⟩, hl3⟩, hB1⟩, hB2⟩, hB3⟩, hB4⟩ := hB
  have hl : r.len = s.len := by simpa using hl
  have hl2 : r.len = t.len := by simpa using hl2
  have hl3 : r.len = u.len := by simpa using hl3
  intro w1 hx
  have hlt : ∀ q ∈ Region.ready md ops done, q < ops.size := fun q hq => (Array.getElem?_eq_some_iff.1 (mem_ready.1 hq).2.choose_spec.1).1
  have hri : i ∈ Region.ready md ops done := by rw [hr]; simp
  have hrj : j ∈ Region.ready md ops done := by rw [hr]; simp
  have hrk : k ∈ Region.ready md ops done := by rw [hr]; simp
  have hrm : m ∈ Region.ready md ops done := by rw [hr]; simp
  refine ⟨by rw [hr]; simp, fun q hq => ?_⟩
  rw [hr] at hq
  have hq : q = i ∨ q = j ∨ q = k ∨ q = m := by simpa using hq
  rcases hq with rfl | rfl | rfl | rfl
  ·exact headC_step hC hx hxB h.1 fun a' w2 hb hk => headC_mt hC hsel r _ _ _ _ (inv.set hri (hlt _ hri)) hb hB1 hk
  ·exact headC_step hC hx hxB h.2.1 fun a' w2 hb hk => by
    have := headC_mt (Lq := Lq) hC hsel s _ _ _ _ (inv.set hrj (hlt _ hrj)) hb hB2 hk
    show headC P md ops bars C _ r.len _ a' w2
    rw [hl]; exact this
  ·exact headC_step hC hx hxB h.2.2.1 fun a' w2 hb hk => by
    have := headC_mt (Lq := Lq) hC hsel t _ _ _ _ (inv.set hrk (hlt _ hrk)) hb hB3 hk
    show headC P md ops bars C _ r.len _ a' w2
    rw [hl2]; exact this
  ·exact headC_step hC hx hxB h.2.2.2 fun a' w2 hb hk => by
    have := headC_mt (Lq := Lq) hC hsel u _ _ _ _ (inv.set hrm (hlt _ hrm)) hb hB4 hk
    show headC P md ops bars C _ r.len _ a' w2
    rw [hl3]; exact this
theorem actMC_ext {bars : List Nat} {C : World → Prop} {Lq : Act → World → Prop} : ∀ (r : MT) (a : Act) (w w' : World), Ext w w' → actMC P ops bars C Lq r a w → actMC P ops bars C Lq r a w'
 | .nil, _, _, _, hx, h => fun w1 h1 => h w1 (hx.trans h1)
 | .q _ r, _, _, _, hx, ⟨o, ho, v, hy, hk⟩ => ⟨o, ho, v, hy, actMC_ext r _ _ _ hx hk⟩
 | .m _ _, _, _, _, hx, h => fun w1 h1 => h w1 (hx.trans h1)
 | .br _ _ _ _, _, _, _, hx, h => ⟨fun w1 h1 => h.1 w1 (hx.trans h1), fun w1 h1 => h.2 w1 (hx.trans h1)⟩
 | .br3 _ _ _ _ _ _, _, _, _, hx, h => ⟨fun w1 h1 => h.1 w1 (hx.trans h1), fun w1 h1 => h.2.1 w1 (hx.trans h1), fun w1 h1 => h.2.2 w1 (hx.trans h1)⟩
 | .br4 _ _ _ _ _ _ _ _, _, _, _, hx, h => ⟨fun w1 h1 => h.1 w1 (hx.trans h1), fun w1 h1 => h.2.1 w1 (hx.trans h1), fun w1 h1 => h.2.2.1 w1 (hx.trans h1), fun w1 h1 => h.2.2.2 w1 (hx.trans h1)⟩
theorem region_mcA {Q : Exit → Act → World → Prop} {a : Act} {w : World} {l : List Oper} {C : World → Prop} (hC : ∀ w w', C w → Ext w w' → C w') (hw : C w) (bars : List Nat) (r : MT) (hm : P.follows .mixedOrders = true) (hB : (mbA l.toArray bars r && Nat.beq r.len l.length) = true)
  (h : actMC P l.toArray bars C (fun a' w' => Q .normal a' w') r a w) (t : Nat) :
  wpOps P l.toArray Q (Region.schedule (P.follows .mixedOrders) l.toArray t) a { w with drawn := w.drawn + 1 } := by
 simp only [mbA, Bool.and_eq_true] at hB
 obtain ⟨⟨hsel, hmix⟩, hlen⟩ := hB
 have hlen : r.len = l.length := by simpa using hlen
 have inv0 : HeadInv .any l.toArray l.toArray.size (Array.replicate l.toArray.size false) :=
  ⟨by simp, fun j oj _ hl => (by rw [getD_replicate_false] at hl; cases hl), fun t h1 h2 => absurd h2 (by omega)⟩
 have H := headC_mt (P := P) (md := .any) hC hsel r true _ a { w with drawn := w.drawn + 1 } inv0 (fun _ => hC _ _ hw (Ext.refl w).drew) hmix (actMC_ext r a w _ (Ext.refl w).drew h)
 refine any_ops hm ?_ t
 have key := any_of_headC (Q := Q) (g := 0) (fun done a' w' hL => ⟨hL.1, hL.2⟩) r.len _ a _ H
 have e2 : r.len + 0 = l.toArray.size := by rw [hlen]; simp
 rwa [e2] at key
end
/-! ### over environments -/
def quiC (P : Program) (C : World → Prop) : Hand Unit where
 run := fun s _ K => ∃ v, (∀ w1, C w1 → s.run P w1 = .ok v w1) ∧ K v ()
 call := fun f args _ K => ∃ v, (∀ w1, C w1 → Calls P f args w1 fun e w' => e = .returned v ∧ Ext w1 w') ∧ K v ()
 yield := fun _ _ _ _ => False
 ext := extP P
def MC (P : Program) (C : World → Prop) (x : Sem Next) (_ : Unit) (K : EV → Unit → Prop) : Prop :=
 ∃ e, (∀ w1, C w1 → Oper.quietUpon P (Ext w1) w1 e.val (x.run P w1)) ∧ K e ()
theorem quiC_laws (P : Program) (C : World → Prop) : Laws P (quiC P C) (MC P C) where
 congr := fun h ⟨e, hw, hk⟩ => ⟨e, fun w hc => by rw [h]; exact hw w hc, hk⟩
 pure := fun {e s K} hk => ⟨e, fun w _ => ⟨rfl, rfl⟩, hk⟩
 run := fun {x s K} h => by
  obtain ⟨v, hr, hk⟩ := h
  refine ⟨.v v, fun w hc => ?_, hk⟩
  rw [Sem.run_bind, hr w hc]
  exact ⟨rfl, rfl⟩
 runU := fun {x s K} h => by
  obtain ⟨v, hr, hk⟩ := h
  refine ⟨.v v, fun w hc => ?_, hk⟩
  have hr := hr w hc
  rw [Sem.run_bind] at hr ⊢
  cases hx : x.run P w with
  | ok u w2 =>
   rw [hx] at hr
   simp only [Result.andThen, Sem.run_pure, Result.ok.injEq] at hr
   obtain ⟨rfl, rfl⟩ := hr
   exact ⟨rfl, rfl⟩
  | halt h w2 => rw [hx] at hr; simp [Result.andThen] at hr
 call := fun {f args s K} he h => by
  obtain ⟨v, hr, hk⟩ := h
  refine ⟨.v v, fun w hc => ?_, hk⟩
  rw [he]
  exact ⟨rfl, hr w hc⟩
 yield := fun h => h.elim
 ext := fun h => h
section
variable (P : Program) (T : Tab) (FS : List Nat) (n : Nat) (all : List Oper) (bars : List Nat) (C : World → Prop)
abbrev mStepC (i : Nat) (k : Env → World → Prop) (l : Env) (w : World) : Prop := match all[i]? with
 | none => False
 | some o => ∀ w1, Ext w w1 → vops T FS (nrmH0 P) n all [o] l w1 fun l w2 => oblC (bars.contains i) C w1 w2 (k l w2)
abbrev vmtC (K : Env → World → Prop) : MT → Env → World → Prop
 | .nil, l, w => ∀ w1, Ext w w1 → K l w1
 | .q i r, l, w => match all[i]? with
  | none => False
  | some o => vops T FS (quiC P C) n all [o] l () fun l _ => vmtC K r l w
 | .m i r, l, w => mStepC P T FS n all bars C i (fun l w => vmtC K r l w) l w
 | .br i j r s, l, w => mStepC P T FS n all bars C i (fun l w => vmtC K r l w) l w ∧ mStepC P T FS n all bars C j (fun l w => vmtC K s l w) l w
 | .br3 i j k r s t, l, w => mStepC P T FS n all bars C i (fun l w => vmtC K r l w) l w ∧ mStepC P T FS n all bars C j (fun l w => vmtC K s l w) l w ∧ mStepC P T FS n all bars C k (fun l w => vmtC K t l w) l w
 | .br4 i j k m r s t u, l, w => mStepC P T FS n all bars C i (fun l w => vmtC K r l w) l w ∧ mStepC P T FS n all bars C j (fun l w => vmtC K s l w) l w ∧ mStepC P T FS n all bars C k (fun l w => vmtC K t l w) l w ∧ mStepC P T FS n all bars C m (fun l w => vmtC K u l w) l w
end
section
variable {P : Program} {T : Tab} {FS : List Nat} (hT : tabOk P T = true) (hF : ∀ f, memB f FS = true → Enters P f)
include hT hF
theorem mStepC_act {n : Nat} {all : List Oper} {bars : List Nat} {C : World → Prop} {i : Nat} {k : Env → World → Prop} {q : Act → World → Prop} (hk : ∀ l a w, At n l a → k l w → q a w) {l : Env} {a : Act} {w : World} (ha : At n l a) (h : mStepC P T FS n all bars C i k l w) :
  stepC P all.toArray bars C i q a w := by
 have ho : ∀ (b : Bool) (w1 w : World) (p p' : Prop), (p → p') → oblC b C w1 w p → oblC b C w1 w p' := fun b w1 w p p' hp h => by
  cases b with
  | true => exact hp h
  | false => exact ⟨h.1, hp h.2⟩
 unfold mStepC at h
 cases hi : all[i]? with
 | none => simp only [hi] at h
 | some o =>
  simp only [hi] at h
  intro w1 hx
  unfold okOp
  rw [show all.toArray[i]? = some o by simpa using hi]
  rcases vops_one hT hF (nrm_laws0 P) ha (h w1 hx) with ⟨hw, l', ha', hq⟩ | ⟨hw, l', ha', hk'⟩
  ·simp only [hw, if_true]
   refine hq o a _ QF fun e w' hk' => ?_
   obtain ⟨l2, ha2, hk'⟩ := vdst_put ha' hk'
   exact ho _ _ _ _ _ (hk _ _ _ ha2) hk'
  ·simp only [hw, Bool.false_eq_true, if_false]
   obtain ⟨l2, ha2, hk'⟩ := vdst_put ha' hk'
   exact ho _ _ _ _ _ (hk _ _ _ ha2) hk'
theorem vmtC_act {n : Nat} {all : List Oper} {bars : List Nat} {C : World → Prop} {K : Env → World → Prop} {Lq : Act → World → Prop} (hK : ∀ l a w, At n l a → K l w → Lq a w) :
  ∀ {r : MT} {l : Env} {a : Act} {w : World}, At n l a → vmtC P T FS n all bars C K r l w → actMC P all.toArray bars C Lq r a w
 | .nil, l, a, w, ha, h => fun w1 hx => hK _ _ _ ha (h w1 hx)
 | .q i r, l, a, w, ha, h => by
  simp only [vmtC] at h
  cases hi : all[i]? with
  | none => simp only [hi] at h
  | some o =>
   simp only [hi] at h
   refine ⟨o, by simpa using hi, ?_⟩
   rcases vops_one hT hF (quiC_laws P C) ha h with ⟨hw, l', ha', e, hq, hk⟩ | ⟨hw, l', ha', hk⟩
   ·obtain ⟨l2, ha2, hk⟩ := vdst_put ha' hk
    exact ⟨e.val, .inl ⟨hw, hq⟩, vmtC_act hK ha2 hk⟩
   ·obtain ⟨l2, ha2, hk⟩ := vdst_put ha' hk
    exact ⟨undef, .inr ⟨hw, rfl⟩, vmtC_act hK ha2 hk⟩
 | .m i r, l, a, w, ha, h => mStepC_act hT hF (k := fun l w => vmtC P T FS n all bars C K r l w) (q := fun a w => actMC P all.toArray bars C Lq r a w) (fun _ _ _ ha2 hk => vmtC_act hK ha2 hk) ha h
 | .br i j r s, l, a, w, ha, h => ⟨mStepC_act hT hF (k := fun l w => vmtC P T FS n all bars C K r l w) (q := fun a w => actMC P all.toArray bars C Lq r a w) (fun _ _ _ ha2 hk => vmtC_act hK ha2 hk) ha h.1, mStepC_act hT hF (k := fun l w => vmtC P T FS n all bars C K s l w) (q := fun a w => actMC P all.toArray bars C Lq s a w) (fun _ _ _ ha2 hk => vmtC_act hK ha2 hk) ha h.2⟩
 | .br3 i j k r s t, l, a, w, ha, h => ⟨mStepC_act hT hF (k := fun l w => vmtC P T FS n all bars C K r l w) (q := fun a w => actMC P all.toArray bars C Lq r a w) (fun _ _ _ ha2 hk => vmtC_act hK ha2 hk) ha h.1, mStepC_act hT hF (k := fun l w => vmtC P T FS n all bars C K s l w) (q := fun a w => actMC P all.toArray bars C Lq s a w) (fun _ _ _ ha2 hk => vmtC_act hK ha2 hk) ha h.2.1, mStepC_act hT hF (k := fun l w => vmtC P T FS n all bars C K t l w) (q := fun a w => actMC P all.toArray bars C Lq t a w) (fun _ _ _ ha2 hk => vmtC_act hK ha2 hk) ha h.2.2⟩
 | .br4 i j k m r s t u, l, a, w, ha, h => ⟨mStepC_act hT hF (k := fun l w => vmtC P T FS n all bars C K r l w) (q := fun a w => actMC P all.toArray bars C Lq r a w) (fun _ _ _ ha2 hk => vmtC_act hK ha2 hk) ha h.1, mStepC_act hT hF (k := fun l w => vmtC P T FS n all bars C K s l w) (q := fun a w => actMC P all.toArray bars C Lq s a w) (fun _ _ _ ha2 hk => vmtC_act hK ha2 hk) ha h.2.1, mStepC_act hT hF (k := fun l w => vmtC P T FS n all bars C K t l w) (q := fun a w => actMC P all.toArray bars C Lq t a w) (fun _ _ _ ha2 hk => vmtC_act hK ha2 hk) ha h.2.2.1, mStepC_act hT hF (k := fun l w => vmtC P T FS n all bars C K u l w) (q := fun a w => actMC P all.toArray bars C Lq u a w) (fun _ _ _ ha2 hk => vmtC_act hK ha2 hk) ha h.2.2.2⟩
/-- the class: what the list H says of the call's own things -/
theorem v_mtC {n : Nat} {ops : List Oper} {l : Env} {w : World} {K : Env → World → Prop} (hm : P.follows .mixedOrders = true) {M : List Nat} {w0 : World} (H : List It) (hp : HpM M w0 w H) (bars : List Nat) (r : MT) (hB : (mbA ops.toArray bars r && Nat.beq r.len ops.length && noDefer ops) = true)
  (h : vmtC P T FS n ops bars (fun w1 => HpM M w0 w1 H) K r l w) : VDraw P n ops l w K := by
 have hB' := hB
 rw [Bool.and_eq_true] at hB'
 refine VDraw.ofPlain (fun a Q ha hK => ?_) hB'.2
 refine region_mcA (C := fun w1 => HpM M w0 w1 H) (fun w w' h hx => h.call hx) hp bars r hm hB'.1 ?_
 exact vmtC_act hT hF (fun l a w ha h => hK l a w ha h) ha h
end
structure QCallC (P : Program) (f : Nat) (args : Array Value) (C : World → Prop) (K : Value → Unit → Prop) : Prop where
 out : ∃ v, (∀ w1, C w1 → Calls P f args w1 fun e w' => e = .returned v ∧ Ext w1 w') ∧ K v ()
theorem PureF.quietC {P : Program} {f : Nat} {args : Array Value} {v : Value} {C : World → Prop} {K : Value → Unit → Prop} (h : PureF P f args v) (hk : K v ()) : QCallC P f args C K := ⟨v, fun w1 _ => h w1, hk⟩
end V
set_option maxHeartbeats 1600000
/-- a watch in memory, as a result -/
def ResT (W w' : World) (u : Value) (y : Wt) (hs : List Hop3) : Prop := ∃ v' o, u = .tuple #[.agg (y.c v').toArray, o, .int .i64 0] ∧ Ext W w' ∧ SLw W w' v' (iv y.asked) ∧ HRw W w' o hs
theorem Time_bad {W : World} {v : Value} (x : Wt) (hok : x.Ok) (hv : SLv W v (iv x.asked)) (now : Int) (hs : startN x now ≠ 0) :
  Calls Tryz.prog 20 #[.agg (x.c v).toArray, .int .i64 now] W fun e w' => e = .returned (.tuple #[.agg (zW.c (.slice none 0 0)).toArray, .slice none 0 0, .int .i64 (startN x now)]) ∧ Ext W w' := by
 have s1 : ∀ {W : World}, SLv W v (iv x.asked) → Calls Tryz.prog 40 #[.agg (x.c v).toArray, .int .i64 now] W fun e w' => e = .returned (.tuple #[.pointer none, .int .i64 (startN x now)]) ∧ Ext W w' := fun {W} hv => by
  unfold startN at hs ⊢
  cases hw : wtB x with
  | false => exact start_v x hok hv now hw
  | true =>
   rw [hw] at hs
   cases hi : inB now x.now 1099511627776 with
   | false => exact start_n x hok hv now hw hi
   | true => rw [hi] at hs; exact absurd rfl hs
 obtain ⟨N, hN⟩ : ∃ N, startN x now = N := ⟨_, rfl⟩
 rw [hN] at s1 hs ⊢
 clear hN hok
 obtain ⟨⟨ah, ap⟩, ⟨bh, bp⟩, now0, nxt, til, ser, gone, noise, word, fresh, asked⟩ := x
 dsimp only [Wt.c] at hv s1 ⊢
 have hsl : (iv asked).length = asked.length := List.length_map _
 obtain ⟨p, c, rfl⟩ := hv.shape
 rw [hsl] at hv s1 ⊢
 refine v_reads (args := [.agg #[.string ah, .int .i64 ap, .string bh, .int .i64 bp, .int .i64 now0, .int .i64 nxt, .int .i64 til, .int .i64 ser, .bool gone, .string noise, .string word, .string fresh, .slice p asked.length c], .int .i64 now]) TTok FFok Tryz.func20 rfl rfl ?_
 conv => whnf
 refine VSeq.mk fun Kq hKq => ?_
 conv => whnf
 have hp := Hp.nil W
 refine hp.kboxA fun q2 w hp hx => ?_
 conv => whnf
 (refine hp.kalloc z34 fun al34 w hp hx => ?_; conv => whnf)
 (refine hKq _ _ _ (.refl _) ?_; clear hKq Kq; conv => whnf)
 (refine VSeq.mk fun Kq hKq => ?_; conv => whnf)
 (refine ⟨_, _, Blk.ldV (vs := [_, _, _, _, _, _, _, _, _, _, _, _, _]) (hp.get (i := 1) rfl) TTok rfl rfl rfl, ?_⟩; conv => whnf)
 refine V.CallsUse (s1 (hv.ext hp.ext)) fun w hx => ?_
 have hp := hp.call hx
 conv => whnf
 (refine hKq _ _ _ (.refl _) ?_; clear hKq Kq; conv => whnf)
 (refine VSeq.mk fun Kq hKq => ?_; conv => whnf)
 (refine VSeq.mk fun Kq hKq => ?_; conv => whnf)
 (refine hKq _ _ _ (.refl _) ?_; clear hKq Kq; conv => whnf)
 (refine And.intro (fun _ => ?_) (fun h => absurd (by first | rfl | assumption | omega | decide) (of_decide_eq_false h)); conv => whnf)
 (refine VSeq.mk fun Kq hKq => ?_; conv => whnf)
 (refine ⟨_, _, bld34_ _, ?_⟩; conv => whnf)
 (refine hp.kstA TTok rfl 0 rfl rfl (oneC_of rfl) (by rfl) fun w hp => ?_; try simp only [List.set_cons_zero, List.set_cons_succ, EV.val] at hp; conv => whnf)
 (refine hKq _ _ _ (.refl _) ?_; clear hKq Kq; conv => whnf)
 (refine ⟨_, Blk.lvN (hp.get (i := 0) rfl) TTok rfl rfl, ?_⟩; conv => whnf)
 (exact ⟨rfl, hp.ext⟩)
theorem Time_g {W : World} {v : Value} (x : Wt) (hok : x.Ok) (hv : SLv W v (iv x.asked)) (now : Int) (hw : wtB x = true) (hn : inB now x.now 1099511627776 = true) (hg : goesB x now = true) :
  Calls Tryz.prog 20 #[.agg (x.c v).toArray, .int .i64 now] W fun e w' => ∃ u, e = .returned u ∧ ResT W w' u (atW x now) [] := by
 have hlen := wtB_len hw
 have s1 := fun {W : World} (hv : SLv W v (iv x.asked)) => start_t (W := W) x hok hv now hw hn (by omega)
 obtain ⟨_, ⟨_, h2, _, _, _, _, h7, h8, h9, h10, _⟩, _⟩ := wtB_spec hw
 have hi := inB_t hn
 clear hw hn
 have a1 := fun (M : List Nat) (w0 w : World) (H : List It) (q : Nat) (u : Value) hp => at_t (M := M) (w0 := w0) (w := w) (H := H) (q := q) (v := u) (out := .slice none 0 0) x now hg hp
 rw [atW_t hg] at a1
 rw [atW_t hg]
 clear hok
 obtain ⟨⟨ah, ap⟩, ⟨bh, bp⟩, now0, nxt, til, ser, gone, noise, word, fresh, asked⟩ := x
 dsimp only [Wt.c] at hv s1 a1 h2 h7 h8 h9 h10 hi hlen hg ⊢
 have hsl : (iv asked).length = asked.length := List.length_map _
 obtain ⟨p, c, rfl⟩ := hv.shape
 rw [hsl] at hv s1 ⊢
 refine v_fn (args := [.agg #[.string ah, .int .i64 ap, .string bh, .int .i64 bp, .int .i64 now0, .int .i64 nxt, .int .i64 til, .int .i64 ser, _, .string noise, .string word, .string fresh, .slice p asked.length c], .int .i64 now]) TTok FFok Tryz.func20 rfl (Nat.le_of_ble_eq_true rfl) ?_
 conv => whnf
 refine VSeq.mk fun Kq hKq => ?_
 conv => whnf
 have hp := Hp.nil W
 refine hp.kboxA fun q2 w hp hx => ?_
 conv => whnf
 (refine hp.kalloc z34 fun al34 w hp hx => ?_; conv => whnf)
 (refine hKq _ _ _ (.refl _) ?_; clear hKq Kq; conv => whnf)
 (refine VSeq.mk fun Kq hKq => ?_; conv => whnf)
 (refine ⟨_, _, Blk.ldV (vs := [_, _, _, _, _, _, _, _, _, _, _, _, _]) (hp.get (i := 1) rfl) TTok rfl rfl rfl, ?_⟩; conv => whnf)
 refine Calls.mono (s1 (hv.ext hp.ext)) ?_
 rintro _ w ⟨_, rfl, q, u, rfl, k2⟩
 refine ⟨_, rfl, ?_⟩
 have hp := hp.join k2
 simp only [List.cons_append, List.nil_append] at hp
 obtain ⟨pu, cu, rfl⟩ := row_shape (hp.get (i := 1) rfl)
 conv => whnf
 (refine hKq _ _ _ (.refl _) ?_; clear hKq Kq; conv => whnf)
 (refine VSeq.mk fun Kq hKq => ?_; conv => whnf)
 (refine VSeq.mk fun Kq hKq => ?_; conv => whnf)
 (refine hKq _ _ _ (.refl _) ?_; clear hKq Kq; conv => whnf)
 (refine And.intro (fun h => absurd (of_decide_eq_true h) (by first | (intro h2; exact absurd rfl h2) | omega | decide)) (fun _ => ?_); conv => whnf)
 (refine hKq _ _ _ (.refl _) ?_; clear hKq Kq; conv => whnf)
 (refine VSeq.mk fun Kq hKq => ?_; conv => whnf)
 refine Calls.mono (a1 _ _ _ _ _ _ hp) ?_
 rintro _ w ⟨_, rfl, hp⟩
 refine ⟨_, rfl, ?_⟩
 try dsimp only [gC] at hp
 conv => whnf
 clear s1 a1
 (refine hKq _ _ _ (.refl _) ?_; clear hKq Kq; conv => whnf)
 (refine VSeq.mk fun Kq hKq => ?_; conv => whnf)
 (refine VSeq.mk fun Kq hKq => ?_; conv => whnf)
 (refine VSeq.mk fun Kq hKq => ?_; conv => whnf)
 (refine ⟨_, _, Blk.ld (hp.get (i := 0) rfl) TTok rfl rfl, ?_⟩; conv => whnf)
 (refine hKq _ _ _ (.refl _) ?_; clear hKq Kq; conv => whnf)
 (refine VSeq.mk fun Kq hKq => ?_; conv => whnf)
 (refine And.intro (fun h => absurd h (by decide)) (fun _ => ?_); conv => whnf)
 (refine hKq _ _ _ (.refl _) ?_; clear hKq Kq; conv => whnf)
 (refine hKq _ _ _ (.refl _) ?_; clear hKq Kq; conv => whnf)
 (refine hKq _ _ _ (.refl _) ?_; clear hKq Kq; conv => whnf)
 (refine VSeq.mk fun Kq hKq => ?_; conv => whnf)
 have hcls := hp.pick [0, 1] (by decide)
 simp only [List.filterMap_cons, List.filterMap_nil, List.getElem?_cons_zero, List.getElem?_cons_succ] at hcls
 refine v_mtC TTok FFok mixed _ hcls [] (.q 0 (.q 1 (.q 2 (.q 3 (.q 4 (.q 5 (.q 6 (.q 7 (.m 8 (.q 9 (.q 10 .nil))))))))))) (by kernel_rfl) ?_
 clear hcls
 conv => whnf
 (refine ⟨_, fun w' hc => Blk.ldV (vs := [_, _, _, _, _, _, _, _, _, _, _, _, _]) (hc.get (i := 0) rfl) TTok rfl rfl rfl, ?_⟩; conv => whnf)
 (refine ⟨_, fun w' hc => Blk.ld (hc.get (i := 0) rfl) TTok rfl rfl, ?_⟩; conv => whnf)
 (intro w hx; try (have hp := hp.call hx); conv => whnf)
 (refine hp.kstA TTok rfl 2 rfl rfl (oneC_of rfl) (by rfl) fun w hp => ?_; try simp only [List.set_cons_zero, List.set_cons_succ, EV.val] at hp; conv => whnf)
 (refine And.intro (fun _ => hp.pick [0, 1] (by decide)) ?_; conv => whnf)
 (intro w hx; try (have hp := hp.call hx); conv => whnf)
 (refine hKq _ _ _ (.refl _) ?_; clear hKq Kq; conv => whnf)
 (refine ⟨_, Blk.lvN (hp.get (i := 2) rfl) TTok rfl rfl, ?_⟩; conv => whnf)
 exact ⟨_, _, rfl, hp.ext, .nil, .nil⟩
theorem Time_n1 {W : World} {v : Value} (x : Wt) (hok : x.Ok) (hv : SLv W v (iv x.asked)) (now : Int) (hw : wtB x = true) (hn : inB now x.now 1099511627776 = true) (hg : goesB x now = false) (h1 : x.gone = true) :
  Calls Tryz.prog 20 #[.agg (x.c v).toArray, .int .i64 now] W fun e w' => ∃ u, e = .returned u ∧ ResT W w' u (atW x now) [] := by
 have hlen := wtB_len hw
 have s1 := fun {W : World} (hv : SLv W v (iv x.asked)) => start_t (W := W) x hok hv now hw hn (by omega)
 obtain ⟨_, ⟨_, h2, _, _, _, _, h7, h8, h9, h10, _⟩, _⟩ := wtB_spec hw
 have hi := inB_t hn
 clear hw hn
 have a1 := fun (M : List Nat) (w0 w : World) (H : List It) (q : Nat) (u : Value) hp => at_f (M := M) (w0 := w0) (w := w) (H := H) (q := q) (v := u) (out := .slice none 0 0) x now hg hp
 rw [atW_f hg] at a1
 rw [atW_f hg]
 clear hok
 obtain ⟨⟨ah, ap⟩, ⟨bh, bp⟩, now0, nxt, til, ser, gone, noise, word, fresh, asked⟩ := x
 dsimp only [Wt.c] at hv s1 a1 h2 h7 h8 h9 h10 hi hlen hg h1 ⊢
 have hsl : (iv asked).length = asked.length := List.length_map _
 obtain ⟨p, c, rfl⟩ := hv.shape
 rw [hsl] at hv s1 ⊢
 clear hg
 subst h1
 refine v_fn (args := [.agg #[.string ah, .int .i64 ap, .string bh, .int .i64 bp, .int .i64 now0, .int .i64 nxt, .int .i64 til, .int .i64 ser, _, .string noise, .string word, .string fresh, .slice p asked.length c], .int .i64 now]) TTok FFok Tryz.func20 rfl (Nat.le_of_ble_eq_true rfl) ?_
 conv => whnf
 refine VSeq.mk fun Kq hKq => ?_
 conv => whnf
 have hp := Hp.nil W
 refine hp.kboxA fun q2 w hp hx => ?_
 conv => whnf
 (refine hp.kalloc z34 fun al34 w hp hx => ?_; conv => whnf)
 (refine hKq _ _ _ (.refl _) ?_; clear hKq Kq; conv => whnf)
 (refine VSeq.mk fun Kq hKq => ?_; conv => whnf)
 (refine ⟨_, _, Blk.ldV (vs := [_, _, _, _, _, _, _, _, _, _, _, _, _]) (hp.get (i := 1) rfl) TTok rfl rfl rfl, ?_⟩; conv => whnf)
 refine Calls.mono (s1 (hv.ext hp.ext)) ?_
 rintro _ w ⟨_, rfl, q, u, rfl, k2⟩
 refine ⟨_, rfl, ?_⟩
 have hp := hp.join k2
 simp only [List.cons_append, List.nil_append] at hp
 obtain ⟨pu, cu, rfl⟩ := row_shape (hp.get (i := 1) rfl)
 conv => whnf
 (refine hKq _ _ _ (.refl _) ?_; clear hKq Kq; conv => whnf)
 (refine VSeq.mk fun Kq hKq => ?_; conv => whnf)
 (refine VSeq.mk fun Kq hKq => ?_; conv => whnf)
 (refine hKq _ _ _ (.refl _) ?_; clear hKq Kq; conv => whnf)
 (refine And.intro (fun h => absurd (of_decide_eq_true h) (by first | (intro h2; exact absurd rfl h2) | omega | decide)) (fun _ => ?_); conv => whnf)
 (refine hKq _ _ _ (.refl _) ?_; clear hKq Kq; conv => whnf)
 (refine VSeq.mk fun Kq hKq => ?_; conv => whnf)
 refine Calls.mono (a1 _ _ _ _ _ _ hp) ?_
 rintro _ w ⟨_, rfl, hp⟩
 refine ⟨_, rfl, ?_⟩
 try dsimp only [gC] at hp
 conv => whnf
 clear s1 a1
 (refine hKq _ _ _ (.refl _) ?_; clear hKq Kq; conv => whnf)
 (refine VSeq.mk fun Kq hKq => ?_; conv => whnf)
 (refine VSeq.mk fun Kq hKq => ?_; conv => whnf)
 (refine VSeq.mk fun Kq hKq => ?_; conv => whnf)
 (refine ⟨_, _, Blk.ld (hp.get (i := 0) rfl) TTok rfl rfl, ?_⟩; conv => whnf)
 (refine hKq _ _ _ (.refl _) ?_; clear hKq Kq; conv => whnf)
 (refine VSeq.mk fun Kq hKq => ?_; conv => whnf)
 (refine And.intro (fun h => absurd h (by decide)) (fun _ => ?_); conv => whnf)
 (refine hKq _ _ _ (.refl _) ?_; clear hKq Kq; conv => whnf)
 (refine hKq _ _ _ (.refl _) ?_; clear hKq Kq; conv => whnf)
 (refine hKq _ _ _ (.refl _) ?_; clear hKq Kq; conv => whnf)
 (refine VSeq.mk fun Kq hKq => ?_; conv => whnf)
 have hcls := hp.pick [0, 1] (by decide)
 simp only [List.filterMap_cons, List.filterMap_nil, List.getElem?_cons_zero, List.getElem?_cons_succ] at hcls
 refine v_mtC TTok FFok mixed _ hcls [] (.q 0 (.q 1 (.q 2 (.q 3 (.q 4 (.q 5 (.q 6 (.q 7 (.m 8 (.q 9 (.q 10 .nil))))))))))) (by kernel_rfl) ?_
 clear hcls
 conv => whnf
 (refine ⟨_, fun w' hc => Blk.ldV (vs := [_, _, _, _, _, _, _, _, _, _, _, _, _]) (hc.get (i := 0) rfl) TTok rfl rfl rfl, ?_⟩; conv => whnf)
 (refine ⟨_, fun w' hc => Blk.ld (hc.get (i := 0) rfl) TTok rfl rfl, ?_⟩; conv => whnf)
 (intro w hx; try (have hp := hp.call hx); conv => whnf)
 (refine hp.kstA TTok rfl 2 rfl rfl (oneC_of rfl) (by rfl) fun w hp => ?_; try simp only [List.set_cons_zero, List.set_cons_succ, EV.val] at hp; conv => whnf)
 (refine And.intro (fun _ => hp.pick [0, 1] (by decide)) ?_; conv => whnf)
 (intro w hx; try (have hp := hp.call hx); conv => whnf)
 (refine hKq _ _ _ (.refl _) ?_; clear hKq Kq; conv => whnf)
 (refine ⟨_, Blk.lvN (hp.get (i := 2) rfl) TTok rfl rfl, ?_⟩; conv => whnf)
 exact ⟨_, _, rfl, hp.ext, SLw.row hp (i := 1) rfl, .nil⟩
theorem Time_n2 {W : World} {v : Value} (x : Wt) (hok : x.Ok) (hv : SLv W v (iv x.asked)) (now : Int) (hw : wtB x = true) (hn : inB now x.now 1099511627776 = true) (hg : goesB x now = false) (h1 : x.gone = false) (h3 : now < x.nxt) :
  Calls Tryz.prog 20 #[.agg (x.c v).toArray, .int .i64 now] W fun e w' => ∃ u, e = .returned u ∧ ResT W w' u (atW x now) [] := by
 have hlen := wtB_len hw
 have s1 := fun {W : World} (hv : SLv W v (iv x.asked)) => start_t (W := W) x hok hv now hw hn (by omega)
 obtain ⟨_, ⟨_, h2, _, _, _, _, h7, h8, h9, h10, _⟩, _⟩ := wtB_spec hw
 have hi := inB_t hn
 clear hw hn
 have a1 := fun (M : List Nat) (w0 w : World) (H : List It) (q : Nat) (u : Value) hp => at_f (M := M) (w0 := w0) (w := w) (H := H) (q := q) (v := u) (out := .slice none 0 0) x now hg hp
 rw [atW_f hg] at a1
 rw [atW_f hg]
 clear hok
 obtain ⟨⟨ah, ap⟩, ⟨bh, bp⟩, now0, nxt, til, ser, gone, noise, word, fresh, asked⟩ := x
 dsimp only [Wt.c] at hv s1 a1 h2 h7 h8 h9 h10 hi hlen hg h1 h3 ⊢
 have hsl : (iv asked).length = asked.length := List.length_map _
 obtain ⟨p, c, rfl⟩ := hv.shape
 rw [hsl] at hv s1 ⊢
 clear hg
 subst h1
 refine v_fn (args := [.agg #[.string ah, .int .i64 ap, .string bh, .int .i64 bp, .int .i64 now0, .int .i64 nxt, .int .i64 til, .int .i64 ser, _, .string noise, .string word, .string fresh, .slice p asked.length c], .int .i64 now]) TTok FFok Tryz.func20 rfl (Nat.le_of_ble_eq_true rfl) ?_
 conv => whnf
 refine VSeq.mk fun Kq hKq => ?_
 conv => whnf
 have hp := Hp.nil W
 refine hp.kboxA fun q2 w hp hx => ?_
 conv => whnf
 (refine hp.kalloc z34 fun al34 w hp hx => ?_; conv => whnf)
 (refine hKq _ _ _ (.refl _) ?_; clear hKq Kq; conv => whnf)
 (refine VSeq.mk fun Kq hKq => ?_; conv => whnf)
 (refine ⟨_, _, Blk.ldV (vs := [_, _, _, _, _, _, _, _, _, _, _, _, _]) (hp.get (i := 1) rfl) TTok rfl rfl rfl, ?_⟩; conv => whnf)
 refine Calls.mono (s1 (hv.ext hp.ext)) ?_
 rintro _ w ⟨_, rfl, q, u, rfl, k2⟩
 refine ⟨_, rfl, ?_⟩
 have hp := hp.join k2
 simp only [List.cons_append, List.nil_append] at hp
 obtain ⟨pu, cu, rfl⟩ := row_shape (hp.get (i := 1) rfl)
 conv => whnf
 (refine hKq _ _ _ (.refl _) ?_; clear hKq Kq; conv => whnf)
 (refine VSeq.mk fun Kq hKq => ?_; conv => whnf)
 (refine VSeq.mk fun Kq hKq => ?_; conv => whnf)
 (refine hKq _ _ _ (.refl _) ?_; clear hKq Kq; conv => whnf)
 (refine And.intro (fun h => absurd (of_decide_eq_true h) (by first | (intro h2; exact absurd rfl h2) | omega | decide)) (fun _ => ?_); conv => whnf)
 (refine hKq _ _ _ (.refl _) ?_; clear hKq Kq; conv => whnf)
 (refine VSeq.mk fun Kq hKq => ?_; conv => whnf)
 refine Calls.mono (a1 _ _ _ _ _ _ hp) ?_
 rintro _ w ⟨_, rfl, hp⟩
 refine ⟨_, rfl, ?_⟩
 try dsimp only [gC] at hp
 conv => whnf
 clear s1 a1
 (refine hKq _ _ _ (.refl _) ?_; clear hKq Kq; conv => whnf)
 (refine VSeq.mk fun Kq hKq => ?_; conv => whnf)
 (refine VSeq.mk fun Kq hKq => ?_; conv => whnf)
 (refine VSeq.mk fun Kq hKq => ?_; conv => whnf)
 (refine ⟨_, _, Blk.ld (hp.get (i := 0) rfl) TTok rfl rfl, ?_⟩; conv => whnf)
 (refine hKq _ _ _ (.refl _) ?_; clear hKq Kq; conv => whnf)
 (refine VSeq.mk fun Kq hKq => ?_; conv => whnf)
 (refine And.intro (fun _ => ?_) (fun h => absurd h (by decide)); conv => whnf)
 (refine ⟨_, _, Blk.ld (hp.get (i := 0) rfl) TTok rfl rfl, ?_⟩; conv => whnf)
 (refine hKq _ _ _ (.refl _) ?_; clear hKq Kq; conv => whnf)
 (refine And.intro (fun h => absurd (of_decide_eq_true h) (by first | (intro h2; exact absurd rfl h2) | omega | decide)) (fun _ => ?_); conv => whnf)
 (refine hKq _ _ _ (.refl _) ?_; clear hKq Kq; conv => whnf)
 (refine hKq _ _ _ (.refl _) ?_; clear hKq Kq; conv => whnf)
 (refine VSeq.mk fun Kq hKq => ?_; conv => whnf)
 have hcls := hp.pick [0, 1] (by decide)
 simp only [List.filterMap_cons, List.filterMap_nil, List.getElem?_cons_zero, List.getElem?_cons_succ] at hcls
 refine v_mtC TTok FFok mixed _ hcls [] (.q 0 (.q 1 (.q 2 (.q 3 (.q 4 (.q 5 (.q 6 (.q 7 (.m 8 (.q 9 (.q 10 .nil))))))))))) (by kernel_rfl) ?_
 clear hcls
 conv => whnf
 (refine ⟨_, fun w' hc => Blk.ldV (vs := [_, _, _, _, _, _, _, _, _, _, _, _, _]) (hc.get (i := 0) rfl) TTok rfl rfl rfl, ?_⟩; conv => whnf)
 (refine ⟨_, fun w' hc => Blk.ld (hc.get (i := 0) rfl) TTok rfl rfl, ?_⟩; conv => whnf)
 (intro w hx; try (have hp := hp.call hx); conv => whnf)
 (refine hp.kstA TTok rfl 2 rfl rfl (oneC_of rfl) (by rfl) fun w hp => ?_; try simp only [List.set_cons_zero, List.set_cons_succ, EV.val] at hp; conv => whnf)
 (refine And.intro (fun _ => hp.pick [0, 1] (by decide)) ?_; conv => whnf)
 (intro w hx; try (have hp := hp.call hx); conv => whnf)
 (refine hKq _ _ _ (.refl _) ?_; clear hKq Kq; conv => whnf)
 (refine ⟨_, Blk.lvN (hp.get (i := 2) rfl) TTok rfl rfl, ?_⟩; conv => whnf)
 exact ⟨_, _, rfl, hp.ext, SLw.row hp (i := 1) rfl, .nil⟩
theorem Time_n3 {W : World} {v : Value} (x : Wt) (hok : x.Ok) (hv : SLv W v (iv x.asked)) (now : Int) (hw : wtB x = true) (hn : inB now x.now 1099511627776 = true) (hg : goesB x now = false) (h1 : x.gone = false) (h3 : x.nxt ≤ now) (h4 : 1099511627776 ≤ x.ser) :
  Calls Tryz.prog 20 #[.agg (x.c v).toArray, .int .i64 now] W fun e w' => ∃ u, e = .returned u ∧ ResT W w' u (atW x now) [] := by
 have hlen := wtB_len hw
 have s1 := fun {W : World} (hv : SLv W v (iv x.asked)) => start_t (W := W) x hok hv now hw hn (by omega)
 obtain ⟨_, ⟨_, h2, _, _, _, _, h7, h8, h9, h10, _⟩, _⟩ := wtB_spec hw
 have hi := inB_t hn
 clear hw hn
 have a1 := fun (M : List Nat) (w0 w : World) (H : List It) (q : Nat) (u : Value) hp => at_f (M := M) (w0 := w0) (w := w) (H := H) (q := q) (v := u) (out := .slice none 0 0) x now hg hp
 rw [atW_f hg] at a1
 rw [atW_f hg]
 clear hok
 obtain ⟨⟨ah, ap⟩, ⟨bh, bp⟩, now0, nxt, til, ser, gone, noise, word, fresh, asked⟩ := x
 dsimp only [Wt.c] at hv s1 a1 h2 h7 h8 h9 h10 hi hlen hg h1 h3 h4 ⊢
 have hsl : (iv asked).length = asked.length := List.length_map _
 obtain ⟨p, c, rfl⟩ := hv.shape
 rw [hsl] at hv s1 ⊢
 clear hg
 subst h1
 refine v_fn (args := [.agg #[.string ah, .int .i64 ap, .string bh, .int .i64 bp, .int .i64 now0, .int .i64 nxt, .int .i64 til, .int .i64 ser, _, .string noise, .string word, .string fresh, .slice p asked.length c], .int .i64 now]) TTok FFok Tryz.func20 rfl (Nat.le_of_ble_eq_true rfl) ?_
 conv => whnf
 refine VSeq.mk fun Kq hKq => ?_
 conv => whnf
 have hp := Hp.nil W
 refine hp.kboxA fun q2 w hp hx => ?_
 conv => whnf
 (refine hp.kalloc z34 fun al34 w hp hx => ?_; conv => whnf)
 (refine hKq _ _ _ (.refl _) ?_; clear hKq Kq; conv => whnf)
 (refine VSeq.mk fun Kq hKq => ?_; conv => whnf)
 (refine ⟨_, _, Blk.ldV (vs := [_, _, _, _, _, _, _, _, _, _, _, _, _]) (hp.get (i := 1) rfl) TTok rfl rfl rfl, ?_⟩; conv => whnf)
 refine Calls.mono (s1 (hv.ext hp.ext)) ?_
 rintro _ w ⟨_, rfl, q, u, rfl, k2⟩
 refine ⟨_, rfl, ?_⟩
 have hp := hp.join k2
 simp only [List.cons_append, List.nil_append] at hp
 obtain ⟨pu, cu, rfl⟩ := row_shape (hp.get (i := 1) rfl)
 conv => whnf
 (refine hKq _ _ _ (.refl _) ?_; clear hKq Kq; conv => whnf)
 (refine VSeq.mk fun Kq hKq => ?_; conv => whnf)
 (refine VSeq.mk fun Kq hKq => ?_; conv => whnf)
 (refine hKq _ _ _ (.refl _) ?_; clear hKq Kq; conv => whnf)
 (refine And.intro (fun h => absurd (of_decide_eq_true h) (by first | (intro h2; exact absurd rfl h2) | omega | decide)) (fun _ => ?_); conv => whnf)
 (refine hKq _ _ _ (.refl _) ?_; clear hKq Kq; conv => whnf)
 (refine VSeq.mk fun Kq hKq => ?_; conv => whnf)
 refine Calls.mono (a1 _ _ _ _ _ _ hp) ?_
 rintro _ w ⟨_, rfl, hp⟩
 refine ⟨_, rfl, ?_⟩
 try dsimp only [gC] at hp
 conv => whnf
 clear s1 a1
 (refine hKq _ _ _ (.refl _) ?_; clear hKq Kq; conv => whnf)
 (refine VSeq.mk fun Kq hKq => ?_; conv => whnf)
 (refine VSeq.mk fun Kq hKq => ?_; conv => whnf)
 (refine VSeq.mk fun Kq hKq => ?_; conv => whnf)
 (refine ⟨_, _, Blk.ld (hp.get (i := 0) rfl) TTok rfl rfl, ?_⟩; conv => whnf)
 (refine hKq _ _ _ (.refl _) ?_; clear hKq Kq; conv => whnf)
 (refine VSeq.mk fun Kq hKq => ?_; conv => whnf)
 (refine And.intro (fun _ => ?_) (fun h => absurd h (by decide)); conv => whnf)
 (refine ⟨_, _, Blk.ld (hp.get (i := 0) rfl) TTok rfl rfl, ?_⟩; conv => whnf)
 (refine hKq _ _ _ (.refl _) ?_; clear hKq Kq; conv => whnf)
 (refine And.intro (fun _ => ?_) (fun h => absurd (by first | rfl | assumption | omega | decide) (of_decide_eq_false h)); conv => whnf)
 (refine ⟨_, _, Blk.ld (hp.get (i := 0) rfl) TTok rfl rfl, ?_⟩; conv => whnf)
 (refine hKq _ _ _ (.refl _) ?_; clear hKq Kq; conv => whnf)
 (refine And.intro (fun h => absurd (of_decide_eq_true h) (by first | (intro h2; exact absurd rfl h2) | omega | decide)) (fun _ => ?_); conv => whnf)
 (refine hKq _ _ _ (.refl _) ?_; clear hKq Kq; conv => whnf)
 (refine VSeq.mk fun Kq hKq => ?_; conv => whnf)
 have hcls := hp.pick [0, 1] (by decide)
 simp only [List.filterMap_cons, List.filterMap_nil, List.getElem?_cons_zero, List.getElem?_cons_succ] at hcls
 refine v_mtC TTok FFok mixed _ hcls [] (.q 0 (.q 1 (.q 2 (.q 3 (.q 4 (.q 5 (.q 6 (.q 7 (.m 8 (.q 9 (.q 10 .nil))))))))))) (by kernel_rfl) ?_
 clear hcls
 conv => whnf
 (refine ⟨_, fun w' hc => Blk.ldV (vs := [_, _, _, _, _, _, _, _, _, _, _, _, _]) (hc.get (i := 0) rfl) TTok rfl rfl rfl, ?_⟩; conv => whnf)
 (refine ⟨_, fun w' hc => Blk.ld (hc.get (i := 0) rfl) TTok rfl rfl, ?_⟩; conv => whnf)
 (intro w hx; try (have hp := hp.call hx); conv => whnf)
 (refine hp.kstA TTok rfl 2 rfl rfl (oneC_of rfl) (by rfl) fun w hp => ?_; try simp only [List.set_cons_zero, List.set_cons_succ, EV.val] at hp; conv => whnf)
 (refine And.intro (fun _ => hp.pick [0, 1] (by decide)) ?_; conv => whnf)
 (intro w hx; try (have hp := hp.call hx); conv => whnf)
 (refine hKq _ _ _ (.refl _) ?_; clear hKq Kq; conv => whnf)
 (refine ⟨_, Blk.lvN (hp.get (i := 2) rfl) TTok rfl rfl, ?_⟩; conv => whnf)
 exact ⟨_, _, rfl, hp.ext, SLw.row hp (i := 1) rfl, .nil⟩
set_option maxHeartbeats 1600000
theorem Time_a {W : World} {v : Value} (x : Wt) (hok : x.Ok) (hv : SLv W v (iv x.asked)) (now : Int) (hw : wtB x = true) (hn : inB now x.now 1099511627776 = true) (hg : goesB x now = false) (h1 : x.gone = false) (h3 : x.nxt ≤ now) (h4 : x.ser < 1099511627776) :
  Calls Tryz.prog 20 #[.agg (x.c v).toArray, .int .i64 now] W fun e w' => ∃ u, e = .returned u ∧ ResT W w' u (askW (atW x now) now) [(x.a, x.b, askP x.ser)] := by
 have hlen := wtB_len hw
 have s1 := fun {W : World} (hv : SLv W v (iv x.asked)) => start_t (W := W) x hok hv now hw hn (by omega)
 obtain ⟨_, ⟨h0, h2, _, _, _, _, h7, h8, h9, h10, _⟩, _⟩ := wtB_spec hw
 have hi := inB_t hn
 clear hw hn
 have a1 := fun (M : List Nat) (w0 w : World) (H : List It) (q : Nat) (u : Value) hp => at_f (M := M) (w0 := w0) (w := w) (H := H) (q := q) (v := u) (out := .slice none 0 0) x now hg hp
 rw [atW_f hg] at a1
 rw [atW_f hg]
 have sd := fun (M : List Nat) (w0 w : World) (H : List It) (q : Nat) (u : Value) hp => send_c (M := M) (w0 := w0) (w := w) (H := H) (q := q) (v := u) { x with now := now } (askP x.ser) hp
 have g1 := fun {W : World} {q : Nat} {u o : Value} hb => gap_c (W := W) (q := q) (v := u) (out := o) { askW { x with now := now } now with nxt := x.nxt } hb hok.noise (by show 0 < x.noise.size; omega) (x.ser + 1).toNat (by omega)
 have g2 := gapN_le x.noise (x.ser + 1).toNat
 have g3 : (((x.ser + 1).toNat : Nat) : Int) = x.ser + 1 := by omega
 rw [g3] at g1
 clear hok
 unfold askW
 dsimp only [askW, gC, askP] at g1 sd
 obtain ⟨⟨ah, ap⟩, ⟨bh, bp⟩, now0, nxt, til, ser, gone, noise, word, fresh, asked⟩ := x
 dsimp only [Wt.c] at hv s1 a1 sd h0 h2 h7 h8 h9 h10 hi hlen hg h1 h3 h4 g1 g2 g3 ⊢
 have hsl : (iv asked).length = asked.length := List.length_map _
 obtain ⟨p, c, rfl⟩ := hv.shape
 rw [hsl] at hv s1 ⊢
 clear hg
 subst h1
 refine v_fn (args := [.agg #[.string ah, .int .i64 ap, .string bh, .int .i64 bp, .int .i64 now0, .int .i64 nxt, .int .i64 til, .int .i64 ser, _, .string noise, .string word, .string fresh, .slice p asked.length c], .int .i64 now]) TTok FFok Tryz.func20 rfl (Nat.le_of_ble_eq_true rfl) ?_
 conv => whnf
 refine VSeq.mk fun Kq hKq => ?_
 conv => whnf
 have hp := Hp.nil W
 refine hp.kboxA fun q2 w hp hx => ?_
 conv => whnf
 (refine hp.kalloc z34 fun al34 w hp hx => ?_; conv => whnf)
 (refine hKq _ _ _ (.refl _) ?_; clear hKq Kq; conv => whnf)
 (refine VSeq.mk fun Kq hKq => ?_; conv => whnf)
 (refine ⟨_, _, Blk.ldV (vs := [_, _, _, _, _, _, _, _, _, _, _, _, _]) (hp.get (i := 1) rfl) TTok rfl rfl rfl, ?_⟩; conv => whnf)
 refine Calls.mono (s1 (hv.ext hp.ext)) ?_
 rintro _ w ⟨_, rfl, q, u, rfl, k2⟩
 refine ⟨_, rfl, ?_⟩
 have hp := hp.join k2
 simp only [List.cons_append, List.nil_append] at hp
 obtain ⟨pu, cu, rfl⟩ := row_shape (hp.get (i := 1) rfl)
 conv => whnf
 (refine hKq _ _ _ (.refl _) ?_; clear hKq Kq; conv => whnf)
 (refine VSeq.mk fun Kq hKq => ?_; conv => whnf)
 (refine VSeq.mk fun Kq hKq => ?_; conv => whnf)
 (refine hKq _ _ _ (.refl _) ?_; clear hKq Kq; conv => whnf)
 (refine And.intro (fun h => absurd (of_decide_eq_true h) (by first | (intro h2; exact absurd rfl h2) | omega | decide)) (fun _ => ?_); conv => whnf)
 (refine hKq _ _ _ (.refl _) ?_; clear hKq Kq; conv => whnf)
 (refine VSeq.mk fun Kq hKq => ?_; conv => whnf)
 refine Calls.mono (a1 _ _ _ _ _ _ hp) ?_
 rintro _ w ⟨_, rfl, hp⟩
 refine ⟨_, rfl, ?_⟩
 try dsimp only [gC] at hp
 conv => whnf
 clear s1 a1
 (refine hKq _ _ _ (.refl _) ?_; clear hKq Kq; conv => whnf)
 (refine VSeq.mk fun Kq hKq => ?_; conv => whnf)
 (refine VSeq.mk fun Kq hKq => ?_; conv => whnf)
 (refine VSeq.mk fun Kq hKq => ?_; conv => whnf)
 (refine ⟨_, _, Blk.ld (hp.get (i := 0) rfl) TTok rfl rfl, ?_⟩; conv => whnf)
 (refine hKq _ _ _ (.refl _) ?_; clear hKq Kq; conv => whnf)
 (refine VSeq.mk fun Kq hKq => ?_; conv => whnf)
 (refine And.intro (fun _ => ?_) (fun h => absurd h (by decide)); conv => whnf)
 (refine ⟨_, _, Blk.ld (hp.get (i := 0) rfl) TTok rfl rfl, ?_⟩; conv => whnf)
 (refine hKq _ _ _ (.refl _) ?_; clear hKq Kq; conv => whnf)
 (refine And.intro (fun _ => ?_) (fun h => absurd (by first | rfl | assumption | omega | decide) (of_decide_eq_false h)); conv => whnf)
 (refine ⟨_, _, Blk.ld (hp.get (i := 0) rfl) TTok rfl rfl, ?_⟩; conv => whnf)
 (refine hKq _ _ _ (.refl _) ?_; clear hKq Kq; conv => whnf)
 (refine And.intro (fun _ => ?_) (fun h => absurd (by first | rfl | assumption | omega | decide) (of_decide_eq_false h)); conv => whnf)
 (refine VSeq.mk fun Kq hKq => ?_; conv => whnf)
 (refine ⟨_, _, Blk.ld (hp.get (i := 0) rfl) TTok rfl rfl, ?_⟩; conv => whnf)
 (refine ⟨_, _, bld61_0_1_2 _ _ _ _, ?_⟩; conv => whnf)
 refine Calls.mono (sd _ _ _ _ _ _ hp) ?_
 rintro _ w ⟨_, rfl, o, hp⟩
 refine ⟨_, rfl, ?_⟩
 try dsimp only [gC] at hp
 obtain ⟨po, co, rfl⟩ := row_shape (hp.get (i := 1) rfl)
 conv => whnf
 (refine hKq _ _ _ (.refl _) ?_; clear hKq Kq; conv => whnf)
 (refine VSeq.mk fun Kq hKq => ?_; conv => whnf)
 have hcls := hp.pick [0] (by decide)
 simp only [List.filterMap_cons, List.filterMap_nil, List.getElem?_cons_zero, List.getElem?_cons_succ] at hcls
 refine v_mtC TTok FFok mixed _ hcls [16] (.q 0 (.q 1 (.q 2 (.q 3 (.q 4 (.q 5 (.q 6 (.q 7 (.q 8 (.q 9 (.q 10 (.m 11 (.m 12 (.m 13 (.q 14 (.q 15 (.m 16 .nil))))))))))))))))) (by kernel_rfl) ?_
 clear hcls
 conv => whnf
 (refine ⟨_, fun w' hc => Blk.ld (hc.get (i := 0) rfl) TTok rfl rfl, ?_⟩; conv => whnf)
 (refine ⟨_, fun w' hc => Blk.ld (hc.get (i := 0) rfl) TTok rfl rfl, ?_⟩; conv => whnf)
 (intro w hx; try (have hp := hp.call hx); conv => whnf)
 (refine hp.kmade _ _ (fun b => .slice (some ⟨b, 0, none⟩) 1 1) (mks32_1_0 _ _) fun q w hp hx => ?_; conv => whnf)
 (refine And.intro (fun hc => hc.call hx) ?_; conv => whnf)
 (intro w hx; try (have hp := hp.call hx); conv => whnf)
 refine hp.kapp sl32 3 rfl (Blk.src TTok (hp.get (i := 0) rfl) rfl (m := 1) rfl (oneC_of rfl)) (by omega) (by unfold maxLen; omega) fun v2 w hp => ?_
 simp only [List.set_cons_zero, List.set_cons_succ] at hp
 obtain ⟨p2, c2, rfl⟩ := row_shape (hp.get (i := 3) rfl)
 have hiv : iv asked ++ [.int .i64 ser] = iv (asked ++ [ser]) := by unfold iv; rw [List.map_append]; rfl
 have hlv : (iv (asked ++ [ser])).length = asked.length + 1 := by unfold iv; rw [List.length_map, List.length_append]; rfl
 rw [hiv] at hp
 obtain ⟨v3, hr, hs⟩ := lo_val (SLv.of_row (hp.get (i := 3) rfl)) (asked.length + 1 - 8) (by omega)
 have hmax : max (0 : Int) (((asked.length + 1 : Nat) : Int) - 8) = ((asked.length + 1 - 8 : Nat) : Int) := by omega
 have hr' : ∀ w', (Instr.sliceAt 32 (.slice p2 (asked.length + 1) c2) (some (.int .i64 (max (0 : Int) (((asked.length + 1 : Nat) : Int) - 8)))) none none).run Tryz.prog w' = .ok v3 w' := fun w' => by rw [hmax]; exact hr .i64 w'
 obtain ⟨p3, c3, rfl⟩ := (hs w (SLw.row hp (i := 3) rfl)).shape
 clear hr hiv
 conv => whnf
 (refine And.intro (fun _ => hp.pick [1] (by decide)) ?_; conv => whnf)
 (intro w hx; try (have hp := hp.call hx); conv => whnf)
 (refine And.intro (fun hc => hc) ?_; conv => whnf)
 (intro w hx; try (have hp := hp.call hx); conv => whnf)
 (refine hp.kst1 TTok (by rfl) 1 (by rfl) (by rfl) (by rfl) (Nat.le_of_ble_eq_true rfl) fun w hp => ?_; try simp only [List.set_cons_zero, List.set_cons_succ, EV.val] at hp; conv => whnf)
 (intro w hx; try (have hp := hp.call hx); conv => whnf)
 (refine hKq _ _ _ (.refl _) ?_; clear hKq Kq; conv => whnf)
 (refine VSeq.mk fun Kq hKq => ?_; conv => whnf)
 have hcls := hp.pick [1] (by decide)
 simp only [List.filterMap_cons, List.filterMap_nil, List.getElem?_cons_zero, List.getElem?_cons_succ] at hcls
 refine v_mtC TTok FFok mixed _ hcls [18] (.q 0 (.q 1 (.q 2 (.q 3 (.q 4 (.q 5 (.q 6 (.q 7 (.q 8 (.q 9 (.q 10 (.q 11 (.q 12 (.q 13 (.q 14 (.m 15 (.q 16 (.q 17 (.m 18 .nil))))))))))))))))))) (by kernel_rfl) ?_
 clear hcls
 conv => whnf
 (refine ⟨_, fun w' hc => Blk.ld (hc.get (i := 0) rfl) TTok rfl rfl, ?_⟩; conv => whnf)
 (refine ⟨_, fun w' hc => Blk.ld (hc.get (i := 0) rfl) TTok rfl rfl, ?_⟩; conv => whnf)
 (refine Or.inl (And.intro (by first | omega | decide) ?_); conv => whnf)
 refine ⟨_, fun w' _ => hr' w', ?_⟩
 conv => whnf
 (intro w hx; try (have hp := hp.call hx); conv => whnf)
 (refine And.intro (fun hc => hc) ?_; conv => whnf)
 (intro w hx; try (have hp := hp.call hx); conv => whnf)
 (refine hp.kst1 TTok (by rfl) 1 (by rfl) (by rfl) (by rfl) (Nat.le_of_ble_eq_true rfl) fun w hp => ?_; try simp only [List.set_cons_zero, List.set_cons_succ, EV.val] at hp; conv => whnf)
 (intro w hx; try (have hp := hp.call hx); conv => whnf)
 (refine hKq _ _ _ (.refl _) ?_; clear hKq Kq; conv => whnf)
 (refine VSeq.mk fun Kq hKq => ?_; conv => whnf)
 (refine ⟨_, _, Blk.ld (hp.get (i := 1) rfl) TTok rfl rfl, ?_⟩; conv => whnf)
 (refine Or.inl (And.intro (by first | omega | decide) ?_); conv => whnf)
 (refine hp.kst1 TTok (by rfl) 1 (by rfl) (by rfl) (by rfl) (Nat.le_of_ble_eq_true rfl) fun w hp => ?_; try simp only [List.set_cons_zero, List.set_cons_succ, EV.val] at hp; conv => whnf)
 (refine hKq _ _ _ (.refl _) ?_; clear hKq Kq; conv => whnf)
 (refine ⟨_, _, Blk.ld (hp.get (i := 1) rfl) TTok rfl rfl, ?_⟩; conv => whnf)
 refine V.CallsUse (g1 (hp.get (i := 1) rfl)) fun w hx => ?_
 have hp := hp.call hx
 conv => whnf
 (refine Or.inl (And.intro (by first | omega | decide) ?_); conv => whnf)
 (refine hp.kst1 TTok (by rfl) 1 (by rfl) (by rfl) (by rfl) (Nat.le_of_ble_eq_true rfl) fun w hp => ?_; try simp only [List.set_cons_zero, List.set_cons_succ, EV.val] at hp; conv => whnf)
 (refine hKq _ _ _ (.refl _) ?_; clear hKq Kq; conv => whnf)
 (refine VSeq.mk fun Kq hKq => ?_; conv => whnf)
 have hcls := hp.pick [1] (by decide)
 simp only [List.filterMap_cons, List.filterMap_nil, List.getElem?_cons_zero, List.getElem?_cons_succ] at hcls
 refine v_mtC TTok FFok mixed _ hcls [] (.q 0 (.q 1 (.q 2 (.q 3 (.q 4 (.q 5 (.q 6 (.q 7 (.m 8 (.q 9 (.q 10 .nil))))))))))) (by kernel_rfl) ?_
 clear hcls
 conv => whnf
 (refine ⟨_, fun w' hc => Blk.ldV (vs := [_, _, _, _, _, _, _, _, _, _, _, _, _]) (hc.get (i := 0) rfl) TTok rfl rfl rfl, ?_⟩; conv => whnf)
 (refine ⟨_, fun w' hc => Blk.ld (hc.get (i := 0) rfl) TTok rfl rfl, ?_⟩; conv => whnf)
 (intro w hx; try (have hp := hp.call hx); conv => whnf)
 (refine hp.kstA TTok rfl 4 rfl rfl (oneC_of rfl) (by rfl) fun w hp => ?_; try simp only [List.set_cons_zero, List.set_cons_succ, EV.val] at hp; conv => whnf)
 (refine And.intro (fun _ => hp.pick [1] (by decide)) ?_; conv => whnf)
 (intro w hx; try (have hp := hp.call hx); conv => whnf)
 (refine hKq _ _ _ (.refl _) ?_; clear hKq Kq; conv => whnf)
 (refine ⟨_, Blk.lvN (hp.get (i := 4) rfl) TTok rfl rfl, ?_⟩; conv => whnf)
 have hdr : (iv (asked ++ [ser])).drop (asked.length + 1 - 8) = iv (trim8 (asked ++ [ser])) := by unfold iv trim8; rw [List.map_drop, List.length_append]; rfl
 exact ⟨_, _, rfl, hp.ext, (by show SLw _ _ _ (iv (trim8 (asked ++ [ser]))); rw [← hdr]; exact hs _ (SLw.row hp (i := 3) rfl)), HRw.one hp (i := 2) rfl⟩
theorem Time_ok {W : World} {v : Value} (x : Wt) (hok : x.Ok) (hv : SLv W v (iv x.asked)) (now : Int) (hw : wtB x = true) (hn : inB now x.now 1099511627776 = true) :
  Calls Tryz.prog 20 #[.agg (x.c v).toArray, .int .i64 now] W fun e w' => ∃ u, e = .returned u ∧ ResT W w' u (timeW x now).1 (timeW x now).2 := by
 have kf : asksB (atW x now) now = false → timeW x now = (atW x now, []) := fun h => by unfold timeW; rw [if_neg (by rw [h]; decide)]
 have kt : asksB (atW x now) now = true → timeW x now = (askW (atW x now) now, [(x.a, x.b, askP x.ser)]) := fun h => by unfold timeW; rw [if_pos h]
 cases hg : goesB x now with
 | true =>
  rw [kf (by rw [atW_t hg]; unfold asksB; rfl)]
  exact Time_g x hok hv now hw hn hg
 | false =>
  cases h1 : x.gone with
  | true =>
   rw [kf (by rw [atW_f hg]; unfold asksB; rw [show ({ x with now := now } : Wt).gone = true from h1]; rfl)]
   exact Time_n1 x hok hv now hw hn hg h1
  | false =>
   by_cases h3 : now < x.nxt
   ·rw [kf (by rw [atW_f hg]; unfold asksB; rw [show decide (({ x with now := now } : Wt).nxt ≤ now) = false from decide_eq_false (by show ¬ x.nxt ≤ now; omega), Bool.false_and, Bool.and_false])]
    exact Time_n2 x hok hv now hw hn hg h1 h3
   ·by_cases h4 : 1099511627776 ≤ x.ser
    ·rw [kf (by rw [atW_f hg]; unfold asksB; rw [show decide (({ x with now := now } : Wt).ser < 1099511627776) = false from decide_eq_false (by show ¬ x.ser < 1099511627776; omega), Bool.and_false, Bool.and_false])]
     exact Time_n3 x hok hv now hw hn hg h1 (by omega) h4
    ·rw [kt (by rw [atW_f hg]; unfold asksB; rw [show ({ x with now := now } : Wt).gone = false from h1, show decide (({ x with now := now } : Wt).nxt ≤ now) = true from decide_eq_true (by show x.nxt ≤ now; omega), show decide (({ x with now := now } : Wt).ser < 1099511627776) = true from decide_eq_true (by show x.ser < 1099511627776; omega)]; rfl)]
     exact Time_a x hok hv now hw hn hg h1 (by omega) (by omega)
set_option maxHeartbeats 1600000
theorem Time12_bad {W : World} {v : Value} (x : Wt) (hok : x.Ok) (hv : SLv W v (iv x.asked)) (now : Int) (hs : startN x now ≠ 0) :
  Calls Tryz.prog 21 #[.agg (x.c v).toArray, .int .i64 now] W fun e w' => e = .returned (.tuple #[.agg (zW.c (.slice none 0 0)).toArray, .slice none 0 0, .int .i64 (startN x now)]) ∧ Ext W w' := by
 have s1 := fun {W : World} (hv : SLv W v (iv x.asked)) => Errors_c (W := W) x hok hv now
 obtain ⟨N, hN⟩ : ∃ N, startN x now = N := ⟨_, rfl⟩
 rw [hN] at s1 hs ⊢
 clear hN hok
 obtain ⟨⟨ah, ap⟩, ⟨bh, bp⟩, now0, nxt, til, ser, gone, noise, word, fresh, asked⟩ := x
 dsimp only [Wt.c] at hv s1 ⊢
 have hsl : (iv asked).length = asked.length := List.length_map _
 obtain ⟨p, c, rfl⟩ := hv.shape
 rw [hsl] at hv s1 ⊢
 refine v_reads (args := [.agg #[.string ah, .int .i64 ap, .string bh, .int .i64 bp, .int .i64 now0, .int .i64 nxt, .int .i64 til, .int .i64 ser, .bool gone, .string noise, .string word, .string fresh, .slice p asked.length c], .int .i64 now]) TTok FFok Tryz.func21 rfl rfl ?_
 conv => whnf
 refine VSeq.mk fun Kq hKq => ?_
 conv => whnf
 have hp := Hp.nil W
 refine hp.kboxA fun q2 w hp hx => ?_
 conv => whnf
 (refine hp.kalloc z34 fun al34 w hp hx => ?_; conv => whnf)
 (refine hKq _ _ _ (.refl _) ?_; clear hKq Kq; conv => whnf)
 (refine VSeq.mk fun Kq hKq => ?_; conv => whnf)
 (refine VSeq.mk fun Kq hKq => ?_; conv => whnf)
 (refine ⟨_, _, Blk.ldV (vs := [_, _, _, _, _, _, _, _, _, _, _, _, _]) (hp.get (i := 1) rfl) TTok rfl rfl rfl, ?_⟩; conv => whnf)
 refine V.CallsUse (s1 (hv.ext hp.ext)) fun w hx => ?_
 have hp := hp.call hx
 conv => whnf
 (refine hKq _ _ _ (.refl _) ?_; clear hKq Kq; conv => whnf)
 (refine VSeq.mk fun Kq hKq => ?_; conv => whnf)
 (refine hKq _ _ _ (.refl _) ?_; clear hKq Kq; conv => whnf)
 (refine And.intro (fun _ => ?_) (fun h => absurd (by first | rfl | assumption | omega | decide) (of_decide_eq_false h)); conv => whnf)
 (refine VSeq.mk fun Kq hKq => ?_; conv => whnf)
 (refine ⟨_, _, bld34_ _, ?_⟩; conv => whnf)
 (refine hp.kstA TTok rfl 0 rfl rfl (oneC_of rfl) (by rfl) fun w hp => ?_; try simp only [List.set_cons_zero, List.set_cons_succ, EV.val] at hp; conv => whnf)
 (refine hKq _ _ _ (.refl _) ?_; clear hKq Kq; conv => whnf)
 (refine ⟨_, Blk.lvN (hp.get (i := 0) rfl) TTok rfl rfl, ?_⟩; conv => whnf)
 (exact ⟨rfl, hp.ext⟩)
/-- what stands in a watch at a time -/
structure Fits (y : Wt) (now : Int) : Prop where
 len : y.asked.length ≤ 8
 s0 : 0 ≤ y.ser
 s1 : y.ser ≤ 1099511627776
 n0 : 0 ≤ now
 n1 : now ≤ 1099511627776
 z : SzS y.noise
 z0 : 0 < y.noise.size
theorem fits_at {x : Wt} {now : Int} (hok : x.Ok) (hw : wtB x = true) (hn : inB now x.now 1099511627776 = true) : Fits (atW x now) now := by
 have hlen := wtB_len hw
 obtain ⟨_, ⟨h0, h2, _, _, _, _, h7, h8, h9, h10, _⟩, _⟩ := wtB_spec hw
 have hi := inB_t hn
 cases hg : goesB x now with
 | true =>
  rw [atW_t hg]
  exact ⟨Nat.zero_le _, h7, h8, by omega, hi.2, hok.noise, by show 0 < x.noise.size; omega⟩
 | false =>
  rw [atW_f hg]
  exact ⟨hlen, h7, h8, by omega, hi.2, hok.noise, by show 0 < x.noise.size; omega⟩
theorem Time12_n {W : World} {v : Value} (x : Wt) (hok : x.Ok) (hv : SLv W v (iv x.asked)) (now : Int) (hw : wtB x = true) (hn : inB now x.now 1099511627776 = true) (hA : asksB (atW x now) now = false) :
  Calls Tryz.prog 21 #[.agg (x.c v).toArray, .int .i64 now] W fun e w' => ∃ u, e = .returned u ∧ ResT W w' u (atW x now) [] := by
 have hA : (atW x now).gone = false → (atW x now).nxt ≤ now → (atW x now).ser < 1099511627776 → False := fun h1 h2 h3 => by
  unfold asksB at hA
  rw [h1, decide_eq_true h2, decide_eq_true h3] at hA
  cases hA
 have hlen := wtB_len hw
 have hst : startN x now = 0 := by unfold startN; rw [hw, hn]; rfl
 have s1 := fun {W : World} (hv : SLv W v (iv x.asked)) => Errors_c (W := W) x hok hv now
 rw [hst] at s1
 have s2 := fun {W : World} (hv : SLv W v (iv x.asked)) => At12_c (W := W) x now hv (by omega)
 have hf := fits_at hok hw hn
 clear hst hok hw hn hlen
 obtain ⟨y, hy⟩ : ∃ y, atW x now = y := ⟨_, rfl⟩
 rw [hy] at s2 hf hA ⊢
 clear hy
 obtain ⟨⟨ah, ap⟩, ⟨bh, bp⟩, now0, nxt, til, ser, gone, noise, word, fresh, asked⟩ := x
 dsimp only [Wt.c] at hv s1 s2 ⊢
 have hsl : (iv asked).length = asked.length := List.length_map _
 obtain ⟨p, c, rfl⟩ := hv.shape
 rw [hsl] at hv s1 s2 ⊢
 obtain ⟨⟨yah, yap⟩, ⟨ybh, ybp⟩, ynow, ynxt, ytil, yser, ygone, ynoise, yword, yfresh, yasked⟩ := y
 obtain ⟨f1, f2, f3, f4, f5, f6, f7⟩ := hf
 dsimp only at f1 f2 f3 f4 f5 f6 f7 s2 hA
 refine v_fn (args := [.agg #[.string ah, .int .i64 ap, .string bh, .int .i64 bp, .int .i64 now0, .int .i64 nxt, .int .i64 til, .int .i64 ser, .bool gone, .string noise, .string word, .string fresh, .slice p asked.length c], .int .i64 now]) TTok FFok Tryz.func21 rfl (Nat.le_of_ble_eq_true rfl) ?_
 conv => whnf
 refine VSeq.mk fun Kq hKq => ?_
 conv => whnf
 have hp := Hp.nil W
 refine hp.kboxA fun q2 w hp hx => ?_
 conv => whnf
 (refine hp.kalloc z34 fun al34 w hp hx => ?_; conv => whnf)
 (refine hKq _ _ _ (.refl _) ?_; clear hKq Kq; conv => whnf)
 (refine VSeq.mk fun Kq hKq => ?_; conv => whnf)
 (refine VSeq.mk fun Kq hKq => ?_; conv => whnf)
 (refine ⟨_, _, Blk.ldV (vs := [_, _, _, _, _, _, _, _, _, _, _, _, _]) (hp.get (i := 1) rfl) TTok rfl rfl rfl, ?_⟩; conv => whnf)
 refine V.CallsUse (s1 (hv.ext hp.ext)) fun w hx => ?_
 have hp := hp.call hx
 conv => whnf
 (refine hKq _ _ _ (.refl _) ?_; clear hKq Kq; conv => whnf)
 (refine VSeq.mk fun Kq hKq => ?_; conv => whnf)
 (refine hKq _ _ _ (.refl _) ?_; clear hKq Kq; conv => whnf)
 (refine And.intro (fun h => absurd (of_decide_eq_true h) (by first | (intro h2; exact absurd rfl h2) | omega | decide)) (fun _ => ?_); conv => whnf)
 (refine hKq _ _ _ (.refl _) ?_; clear hKq Kq; conv => whnf)
 (refine VSeq.mk fun Kq hKq => ?_; conv => whnf)
 (refine ⟨_, _, Blk.ldV (vs := [_, _, _, _, _, _, _, _, _, _, _, _, _]) (hp.get (i := 1) rfl) TTok rfl rfl rfl, ?_⟩; conv => whnf)
 refine Calls.mono (s2 (hv.ext hp.ext)) ?_
 rintro _ w ⟨_, rfl, v', rfl, k2⟩
 refine ⟨_, rfl, ?_⟩
 have hp := hp.join k2
 simp only [List.cons_append, List.nil_append] at hp
 obtain ⟨pu, cu, rfl⟩ := row_shape (hp.get (i := 0) rfl)
 clear s1 s2 hv k2
 conv => whnf
 (refine hp.kstA TTok rfl 2 rfl rfl (oneC_of rfl) (by rfl) fun w hp => ?_; try simp only [List.set_cons_zero, List.set_cons_succ, EV.val] at hp; conv => whnf)
 (refine hKq _ _ _ (.refl _) ?_; clear hKq Kq; conv => whnf)
 (refine VSeq.mk fun Kq hKq => ?_; conv => whnf)
 (refine VSeq.mk fun Kq hKq => ?_; conv => whnf)
 (refine VSeq.mk fun Kq hKq => ?_; conv => whnf)
 (refine ⟨_, _, Blk.ld (hp.get (i := 2) rfl) TTok rfl rfl, ?_⟩; conv => whnf)
 (refine hKq _ _ _ (.refl _) ?_; clear hKq Kq; conv => whnf)
 (refine VSeq.mk fun Kq hKq => ?_; conv => whnf)
 (refine ⟨fun hd => ?_, fun hd => ?_⟩ <;> (try simp only [Bool.not_eq_true', Bool.not_eq_false', decide_eq_true_eq, decide_eq_false_iff_not, ne_eq, Classical.not_not] at hd) <;> (conv => whnf))
 (refine hKq _ _ _ (.refl _) ?_; clear hKq Kq; conv => whnf)
 (refine hKq _ _ _ (.refl _) ?_; clear hKq Kq; conv => whnf)
 (refine VSeq.mk fun Kq hKq => ?_; conv => whnf)
 (refine ⟨_, _, Blk.ldV (vs := [_, _, _, _, _, _, _, _, _, _, _, _, _]) (hp.get (i := 2) rfl) TTok rfl rfl rfl, ?_⟩; conv => whnf)
 (refine hp.kstA TTok rfl 1 rfl rfl (oneC_of rfl) (by rfl) fun w hp => ?_; try simp only [List.set_cons_zero, List.set_cons_succ, EV.val] at hp; conv => whnf)
 (refine hKq _ _ _ (.refl _) ?_; clear hKq Kq; conv => whnf)
 (refine ⟨_, Blk.lvN (hp.get (i := 1) rfl) TTok rfl rfl, ?_⟩; conv => whnf)
 rotate_left
 (refine ⟨_, _, Blk.ld (hp.get (i := 2) rfl) TTok rfl rfl, ?_⟩; conv => whnf)
 (refine hKq _ _ _ (.refl _) ?_; clear hKq Kq; conv => whnf)
 (refine ⟨fun hd => ?_, fun hd => ?_⟩ <;> (try simp only [Bool.not_eq_true', Bool.not_eq_false', decide_eq_true_eq, decide_eq_false_iff_not, ne_eq, Classical.not_not] at hd) <;> (conv => whnf))
 (refine hKq _ _ _ (.refl _) ?_; clear hKq Kq; conv => whnf)
 (refine VSeq.mk fun Kq hKq => ?_; conv => whnf)
 (refine ⟨_, _, Blk.ldV (vs := [_, _, _, _, _, _, _, _, _, _, _, _, _]) (hp.get (i := 2) rfl) TTok rfl rfl rfl, ?_⟩; conv => whnf)
 (refine hp.kstA TTok rfl 1 rfl rfl (oneC_of rfl) (by rfl) fun w hp => ?_; try simp only [List.set_cons_zero, List.set_cons_succ, EV.val] at hp; conv => whnf)
 (refine hKq _ _ _ (.refl _) ?_; clear hKq Kq; conv => whnf)
 (refine ⟨_, Blk.lvN (hp.get (i := 1) rfl) TTok rfl rfl, ?_⟩; conv => whnf)
 rotate_left
 (refine ⟨_, _, Blk.ld (hp.get (i := 2) rfl) TTok rfl rfl, ?_⟩; conv => whnf)
 (refine hKq _ _ _ (.refl _) ?_; clear hKq Kq; conv => whnf)
 (refine ⟨fun hd => ?_, fun hd => ?_⟩ <;> (try simp only [Bool.not_eq_true', Bool.not_eq_false', decide_eq_true_eq, decide_eq_false_iff_not, ne_eq, Classical.not_not] at hd) <;> (conv => whnf))
 (refine VSeq.mk fun Kq hKq => ?_; conv => whnf)
 (refine ⟨_, _, Blk.ldV (vs := [_, _, _, _, _, _, _, _, _, _, _, _, _]) (hp.get (i := 2) rfl) TTok rfl rfl rfl, ?_⟩; conv => whnf)
 (refine hp.kstA TTok rfl 1 rfl rfl (oneC_of rfl) (by rfl) fun w hp => ?_; try simp only [List.set_cons_zero, List.set_cons_succ, EV.val] at hp; conv => whnf)
 (refine hKq _ _ _ (.refl _) ?_; clear hKq Kq; conv => whnf)
 (refine ⟨_, Blk.lvN (hp.get (i := 1) rfl) TTok rfl rfl, ?_⟩; conv => whnf)
 rotate_left
 (refine hKq _ _ _ (.refl _) ?_; clear hKq Kq; conv => whnf)
 (refine VSeq.mk fun Kq hKq => ?_; conv => whnf)
 (refine ⟨0, ⟨rfl, by decide⟩, ?_⟩; conv => whnf)
 (refine ⟨_, _, Blk.ldV (vs := [_, _]) (hp.get (i := 2) rfl) TTok rfl rfl rfl, ?_⟩; conv => whnf)
 (refine ⟨1, ⟨rfl, by decide⟩, ?_⟩; conv => whnf)
 (refine ⟨_, _, Blk.ldV (vs := [_, _]) (hp.get (i := 2) rfl) TTok rfl rfl rfl, ?_⟩; conv => whnf)
 (refine ⟨_, _, Blk.ld (hp.get (i := 2) rfl) TTok rfl rfl, ?_⟩; conv => whnf)
 (refine ⟨_, _, bld61_0_1_2 _ _ _ _, ?_⟩; conv => whnf)
 (refine ⟨_, _, bld63_0_1_2 _ _ _ _ _ _ _ _ _ _ _ _ _, ?_⟩; conv => whnf)
 (refine hp.kmade _ _ (fun b => .slice (some ⟨b, 0, none⟩) 1 1) (mks55_1_0 _ _ _ _ _ _ _ _ _ _ _ _ _) fun q w hp hx => ?_; conv => whnf)
 (refine hKq _ _ _ (.refl _) ?_; clear hKq Kq; conv => whnf)
 (refine VSeq.mk fun Kq hKq => ?_; conv => whnf)
 (refine ⟨_, _, Blk.ld (hp.get (i := 3) rfl) TTok rfl rfl, ?_⟩; conv => whnf)
 (refine ⟨_, _, Blk.ld (hp.get (i := 3) rfl) TTok rfl rfl, ?_⟩; conv => whnf)
 (refine hp.kmade _ _ (fun b => .slice (some ⟨b, 0, none⟩) 1 1) (mks32_1_0 _ _) fun q w hp hx => ?_; conv => whnf)
 rotate_left
 all_goals first | exact ⟨_, _, rfl, hp.ext, SLw.row hp (i := 0) rfl, .nil⟩ | exact (hA (by assumption) (by omega) (by omega)).elim
theorem Time12_a {W : World} {v : Value} (x : Wt) (hok : x.Ok) (hv : SLv W v (iv x.asked)) (now : Int) (hw : wtB x = true) (hn : inB now x.now 1099511627776 = true) (hA : asksB (atW x now) now = true) :
  Calls Tryz.prog 21 #[.agg (x.c v).toArray, .int .i64 now] W fun e w' => ∃ u, e = .returned u ∧ ResT W w' u (askW (atW x now) now) [((atW x now).a, (atW x now).b, askP (atW x now).ser)] := by
 have hA : (atW x now).gone = false ∧ (atW x now).nxt ≤ now ∧ (atW x now).ser < 1099511627776 := by
  unfold asksB at hA
  simpa using hA
 unfold askW
 have hlen := wtB_len hw
 have hst : startN x now = 0 := by unfold startN; rw [hw, hn]; rfl
 have s1 := fun {W : World} (hv : SLv W v (iv x.asked)) => Errors_c (W := W) x hok hv now
 rw [hst] at s1
 have s2 := fun {W : World} (hv : SLv W v (iv x.asked)) => At12_c (W := W) x now hv (by omega)
 have hf := fits_at hok hw hn
 clear hst hok hw hn hlen
 obtain ⟨y, hy⟩ : ∃ y, atW x now = y := ⟨_, rfl⟩
 rw [hy] at s2 hf hA ⊢
 clear hy
 obtain ⟨⟨ah, ap⟩, ⟨bh, bp⟩, now0, nxt, til, ser, gone, noise, word, fresh, asked⟩ := x
 dsimp only [Wt.c] at hv s1 s2 ⊢
 have hsl : (iv asked).length = asked.length := List.length_map _
 obtain ⟨p, c, rfl⟩ := hv.shape
 rw [hsl] at hv s1 s2 ⊢
 obtain ⟨⟨yah, yap⟩, ⟨ybh, ybp⟩, ynow, ynxt, ytil, yser, ygone, ynoise, yword, yfresh, yasked⟩ := y
 obtain ⟨f1, f2, f3, f4, f5, f6, f7⟩ := hf
 dsimp only at f1 f2 f3 f4 f5 f6 f7 s2 hA
 obtain ⟨rfl, hA1, hA2⟩ := hA
 have hg := gapN_le ynoise (yser + 1).toNat
 have g1 := fun v => gap12_p ⟨⟨yah, yap⟩, ⟨ybh, ybp⟩, ynow, ynxt, ytil, yser + 1, false, ynoise, yword, yfresh, []⟩ v f6 f7 (yser + 1).toNat (by omega)
 rw [show (((yser + 1).toNat : Nat) : Int) = yser + 1 by omega] at g1
 dsimp only [Wt.c] at g1
 refine v_fn (args := [.agg #[.string ah, .int .i64 ap, .string bh, .int .i64 bp, .int .i64 now0, .int .i64 nxt, .int .i64 til, .int .i64 ser, .bool gone, .string noise, .string word, .string fresh, .slice p asked.length c], .int .i64 now]) TTok FFok Tryz.func21 rfl (Nat.le_of_ble_eq_true rfl) ?_
 conv => whnf
 refine VSeq.mk fun Kq hKq => ?_
 conv => whnf
 have hp := Hp.nil W
 refine hp.kboxA fun q2 w hp hx => ?_
 conv => whnf
 (refine hp.kalloc z34 fun al34 w hp hx => ?_; conv => whnf)
 (refine hKq _ _ _ (.refl _) ?_; clear hKq Kq; conv => whnf)
 (refine VSeq.mk fun Kq hKq => ?_; conv => whnf)
 (refine VSeq.mk fun Kq hKq => ?_; conv => whnf)
 (refine ⟨_, _, Blk.ldV (vs := [_, _, _, _, _, _, _, _, _, _, _, _, _]) (hp.get (i := 1) rfl) TTok rfl rfl rfl, ?_⟩; conv => whnf)
 refine V.CallsUse (s1 (hv.ext hp.ext)) fun w hx => ?_
 have hp := hp.call hx
 conv => whnf
 (refine hKq _ _ _ (.refl _) ?_; clear hKq Kq; conv => whnf)
 (refine VSeq.mk fun Kq hKq => ?_; conv => whnf)
 (refine hKq _ _ _ (.refl _) ?_; clear hKq Kq; conv => whnf)
 (refine And.intro (fun h => absurd (of_decide_eq_true h) (by first | (intro h2; exact absurd rfl h2) | omega | decide)) (fun _ => ?_); conv => whnf)
 (refine hKq _ _ _ (.refl _) ?_; clear hKq Kq; conv => whnf)
 (refine VSeq.mk fun Kq hKq => ?_; conv => whnf)
 (refine ⟨_, _, Blk.ldV (vs := [_, _, _, _, _, _, _, _, _, _, _, _, _]) (hp.get (i := 1) rfl) TTok rfl rfl rfl, ?_⟩; conv => whnf)
 refine Calls.mono (s2 (hv.ext hp.ext)) ?_
 rintro _ w ⟨_, rfl, v', rfl, k2⟩
 refine ⟨_, rfl, ?_⟩
 have hp := hp.join k2
 simp only [List.cons_append, List.nil_append] at hp
 obtain ⟨pu, cu, rfl⟩ := row_shape (hp.get (i := 0) rfl)
 clear s1 s2 hv k2
 conv => whnf
 (refine hp.kstA TTok rfl 2 rfl rfl (oneC_of rfl) (by rfl) fun w hp => ?_; try simp only [List.set_cons_zero, List.set_cons_succ, EV.val] at hp; conv => whnf)
 (refine hKq _ _ _ (.refl _) ?_; clear hKq Kq; conv => whnf)
 (refine VSeq.mk fun Kq hKq => ?_; conv => whnf)
 (refine VSeq.mk fun Kq hKq => ?_; conv => whnf)
 (refine VSeq.mk fun Kq hKq => ?_; conv => whnf)
 (refine ⟨_, _, Blk.ld (hp.get (i := 2) rfl) TTok rfl rfl, ?_⟩; conv => whnf)
 (refine hKq _ _ _ (.refl _) ?_; clear hKq Kq; conv => whnf)
 (refine VSeq.mk fun Kq hKq => ?_; conv => whnf)
 (refine And.intro (fun h => absurd h (by decide)) (fun _ => ?_); conv => whnf)
 (refine ⟨_, _, Blk.ld (hp.get (i := 2) rfl) TTok rfl rfl, ?_⟩; conv => whnf)
 (refine hKq _ _ _ (.refl _) ?_; clear hKq Kq; conv => whnf)
 (refine And.intro (fun h => absurd (of_decide_eq_true h) (by first | (intro h2; exact absurd rfl h2) | omega | decide)) (fun _ => ?_); conv => whnf)
 (refine ⟨_, _, Blk.ld (hp.get (i := 2) rfl) TTok rfl rfl, ?_⟩; conv => whnf)
 (refine hKq _ _ _ (.refl _) ?_; clear hKq Kq; conv => whnf)
 (refine And.intro (fun h => absurd (of_decide_eq_true h) (by first | (intro h2; exact absurd rfl h2) | omega | decide)) (fun _ => ?_); conv => whnf)
 (refine hKq _ _ _ (.refl _) ?_; clear hKq Kq; conv => whnf)
 (refine VSeq.mk fun Kq hKq => ?_; conv => whnf)
 (refine ⟨0, ⟨rfl, by decide⟩, ?_⟩; conv => whnf)
 (refine ⟨_, _, Blk.ldV (vs := [_, _]) (hp.get (i := 2) rfl) TTok rfl rfl rfl, ?_⟩; conv => whnf)
 (refine ⟨1, ⟨rfl, by decide⟩, ?_⟩; conv => whnf)
 (refine ⟨_, _, Blk.ldV (vs := [_, _]) (hp.get (i := 2) rfl) TTok rfl rfl rfl, ?_⟩; conv => whnf)
 (refine ⟨_, _, Blk.ld (hp.get (i := 2) rfl) TTok rfl rfl, ?_⟩; conv => whnf)
 (refine ⟨_, _, bld61_0_1_2 _ _ _ _, ?_⟩; conv => whnf)
 (refine ⟨_, _, bld63_0_1_2 _ _ _ _ _ _ _ _ _ _ _ _ _, ?_⟩; conv => whnf)
 (refine hp.kmade _ _ (fun b => .slice (some ⟨b, 0, none⟩) 1 1) (mks55_1_0 _ _ _ _ _ _ _ _ _ _ _ _ _) fun q w hp hx => ?_; conv => whnf)
 (refine hKq _ _ _ (.refl _) ?_; clear hKq Kq; conv => whnf)
 (refine VSeq.mk fun Kq hKq => ?_; conv => whnf)
 (refine ⟨_, _, Blk.ld (hp.get (i := 3) rfl) TTok rfl rfl, ?_⟩; conv => whnf)
 (refine ⟨_, _, Blk.ld (hp.get (i := 3) rfl) TTok rfl rfl, ?_⟩; conv => whnf)
 (refine hp.kmade _ _ (fun b => .slice (some ⟨b, 0, none⟩) 1 1) (mks32_1_0 _ _) fun q w hp hx => ?_; conv => whnf)
 refine hp.kapp sl32 2 rfl (Blk.src TTok (hp.get (i := 0) rfl) rfl (m := 1) rfl (oneC_of rfl)) (by omega) (by unfold maxLen; omega) fun v2 w hp => ?_
 simp only [List.set_cons_zero, List.set_cons_succ] at hp
 obtain ⟨p2, c2, rfl⟩ := row_shape (hp.get (i := 2) rfl)
 have hiv : iv yasked ++ [.int .i64 yser] = iv (yasked ++ [yser]) := by unfold iv; rw [List.map_append]; rfl
 have hlv : (iv (yasked ++ [yser])).length = yasked.length + 1 := by unfold iv; rw [List.length_map, List.length_append]; rfl
 rw [hiv] at hp
 obtain ⟨v3, hr, hs⟩ := lo_val (SLv.of_row (hp.get (i := 2) rfl)) 1 (by omega)
 obtain ⟨p3, c3, rfl⟩ := (hs w (SLw.row hp (i := 2) rfl)).shape
 clear hiv
 conv => whnf
 (refine hp.kst1 TTok (by rfl) 4 (by rfl) (by rfl) (by rfl) (Nat.le_of_ble_eq_true rfl) fun w hp => ?_; try simp only [List.set_cons_zero, List.set_cons_succ, EV.val] at hp; conv => whnf)
 (refine hKq _ _ _ (.refl _) ?_; clear hKq Kq; conv => whnf)
 (refine VSeq.mk fun Kq hKq => ?_; conv => whnf)
 (refine VSeq.mk fun Kq hKq => ?_; conv => whnf)
 (refine ⟨_, _, Blk.ld (hp.get (i := 4) rfl) TTok rfl rfl, ?_⟩; conv => whnf)
 (refine hKq _ _ _ (.refl _) ?_; clear hKq Kq; conv => whnf)
 refine ⟨fun h8 => ?_, fun h8 => ?_⟩
 ·have h8 := of_decide_eq_true h8
  conv => whnf
  have htr : iv (trim8 (yasked ++ [yser])) = (iv (yasked ++ [yser])).drop 1 := by
   unfold iv trim8
   rw [List.map_drop, List.length_append, show yasked.length + [yser].length - 8 = 1 by simp only [List.length_singleton]; omega]
  (refine ⟨_, _, Blk.ld (hp.get (i := 4) rfl) TTok rfl rfl, ?_⟩; conv => whnf)
  refine ⟨_, _, hr .i64 w, ?_⟩
  conv => whnf
  (refine hp.kst1 TTok (by rfl) 4 (by rfl) (by rfl) (by rfl) (Nat.le_of_ble_eq_true rfl) fun w hp => ?_; try simp only [List.set_cons_zero, List.set_cons_succ, EV.val] at hp; conv => whnf)
  (refine hKq _ _ _ (.refl _) ?_; clear hKq Kq; conv => whnf)
  (refine VSeq.mk fun Kq hKq => ?_; conv => whnf)
  (refine ⟨_, _, Blk.ld (hp.get (i := 4) rfl) TTok rfl rfl, ?_⟩; conv => whnf)
  (refine Or.inl (And.intro (by first | omega | decide) ?_); conv => whnf)
  (refine hp.kst1 TTok (by rfl) 4 (by rfl) (by rfl) (by rfl) (Nat.le_of_ble_eq_true rfl) fun w hp => ?_; try simp only [List.set_cons_zero, List.set_cons_succ, EV.val] at hp; conv => whnf)
  (refine hKq _ _ _ (.refl _) ?_; clear hKq Kq; conv => whnf)
  (refine VSeq.mk fun Kq hKq => ?_; conv => whnf)
  (refine ⟨_, _, Blk.ldV (vs := [_, _, _, _, _, _, _, _, _, _, _, _, _]) (hp.get (i := 4) rfl) TTok rfl rfl rfl, ?_⟩; conv => whnf)
  (refine ⟨_, _, Blk.ld (hp.get (i := 4) rfl) TTok rfl rfl, ?_⟩; conv => whnf)
  refine PureF.use (g1 _) fun w hx => ?_
  try (have hp := hp.call hx)
  conv => whnf
  refine Or.inl (And.intro (by omega) ?_)
  conv => whnf
  (refine hp.kst1 TTok (by rfl) 4 (by rfl) (by rfl) (by rfl) (Nat.le_of_ble_eq_true rfl) fun w hp => ?_; try simp only [List.set_cons_zero, List.set_cons_succ, EV.val] at hp; conv => whnf)
  (refine hKq _ _ _ (.refl _) ?_; clear hKq Kq; conv => whnf)
  (refine VSeq.mk fun Kq hKq => ?_; conv => whnf)
  (refine ⟨_, _, Blk.ldV (vs := [_, _, _, _, _, _, _, _, _, _, _, _, _]) (hp.get (i := 4) rfl) TTok rfl rfl rfl, ?_⟩; conv => whnf)
  (refine hp.kstA TTok rfl 3 rfl rfl (oneC_of rfl) (by rfl) fun w hp => ?_; try simp only [List.set_cons_zero, List.set_cons_succ, EV.val] at hp; conv => whnf)
  (refine hKq _ _ _ (.refl _) ?_; clear hKq Kq; conv => whnf)
  (refine ⟨_, Blk.lvN (hp.get (i := 3) rfl) TTok rfl rfl, ?_⟩; conv => whnf)
  exact ⟨_, _, rfl, hp.ext, (by show SLw _ _ _ (iv (trim8 (yasked ++ [yser]))); rw [htr]; exact hs _ (SLw.row hp (i := 2) rfl)), HRw.blk hp (i := 1) rfl⟩
 ·have h8 := of_decide_eq_false h8
  conv => whnf
  refine hKq _ _ _ (.refl _) ?_
  clear hKq Kq
  conv => whnf
  refine VSeq.mk fun Kq hKq => ?_
  conv => whnf
  have htr : trim8 (yasked ++ [yser]) = yasked ++ [yser] := by
   unfold trim8
   rw [List.length_append, show yasked.length + [yser].length - 8 = 0 by simp only [List.length_singleton]; omega]
   rfl
  clear hr hs
  (refine ⟨_, _, Blk.ld (hp.get (i := 4) rfl) TTok rfl rfl, ?_⟩; conv => whnf)
  (refine Or.inl (And.intro (by first | omega | decide) ?_); conv => whnf)
  (refine hp.kst1 TTok (by rfl) 4 (by rfl) (by rfl) (by rfl) (Nat.le_of_ble_eq_true rfl) fun w hp => ?_; try simp only [List.set_cons_zero, List.set_cons_succ, EV.val] at hp; conv => whnf)
  (refine hKq _ _ _ (.refl _) ?_; clear hKq Kq; conv => whnf)
  (refine VSeq.mk fun Kq hKq => ?_; conv => whnf)
  (refine ⟨_, _, Blk.ldV (vs := [_, _, _, _, _, _, _, _, _, _, _, _, _]) (hp.get (i := 4) rfl) TTok rfl rfl rfl, ?_⟩; conv => whnf)
  (refine ⟨_, _, Blk.ld (hp.get (i := 4) rfl) TTok rfl rfl, ?_⟩; conv => whnf)
  refine PureF.use (g1 _) fun w hx => ?_
  try (have hp := hp.call hx)
  conv => whnf
  refine Or.inl (And.intro (by omega) ?_)
  conv => whnf
  (refine hp.kst1 TTok (by rfl) 4 (by rfl) (by rfl) (by rfl) (Nat.le_of_ble_eq_true rfl) fun w hp => ?_; try simp only [List.set_cons_zero, List.set_cons_succ, EV.val] at hp; conv => whnf)
  (refine hKq _ _ _ (.refl _) ?_; clear hKq Kq; conv => whnf)
  (refine VSeq.mk fun Kq hKq => ?_; conv => whnf)
  (refine ⟨_, _, Blk.ldV (vs := [_, _, _, _, _, _, _, _, _, _, _, _, _]) (hp.get (i := 4) rfl) TTok rfl rfl rfl, ?_⟩; conv => whnf)
  (refine hp.kstA TTok rfl 3 rfl rfl (oneC_of rfl) (by rfl) fun w hp => ?_; try simp only [List.set_cons_zero, List.set_cons_succ, EV.val] at hp; conv => whnf)
  (refine hKq _ _ _ (.refl _) ?_; clear hKq Kq; conv => whnf)
  (refine ⟨_, Blk.lvN (hp.get (i := 3) rfl) TTok rfl rfl, ?_⟩; conv => whnf)
  exact ⟨_, _, rfl, hp.ext, (by show SLw _ _ _ (iv (trim8 (yasked ++ [yser]))); rw [htr]; exact SLw.row hp (i := 2) rfl), HRw.blk hp (i := 1) rfl⟩
theorem Time12_ok {W : World} {v : Value} (x : Wt) (hok : x.Ok) (hv : SLv W v (iv x.asked)) (now : Int) (hw : wtB x = true) (hn : inB now x.now 1099511627776 = true) :
  Calls Tryz.prog 21 #[.agg (x.c v).toArray, .int .i64 now] W fun e w' => ∃ u, e = .returned u ∧ ResT W w' u (timeW x now).1 (timeW x now).2 := by
 cases h : asksB (atW x now) now with
 | false =>
  have : timeW x now = (atW x now, []) := by unfold timeW; rw [if_neg (by rw [h]; decide)]
  rw [this]
  exact Time12_n x hok hv now hw hn h
 | true =>
  have : timeW x now = (askW (atW x now) now, [((atW x now).a, (atW x now).b, askP (atW x now).ser)]) := by
   unfold timeW
   rw [if_pos h]
   cases hg : goesB x now with
   | true => rw [atW_t hg]
   | false => rw [atW_f hg]
  rw [this]
  exact Time12_a x hok hv now hw hn h
set_option maxHeartbeats 4000000
theorem atc_c {M : List Nat} {w0 w : World} {H : List It} {q n : Nat} {v out : Value} (x : Wt) (now : Int) (hp : HpM M w0 w (blk q (gC x v out) 87 :: row 3 1 v n (iv x.asked) :: H)) :
  Calls Tryz.prog 44 #[.pointer (some ⟨q, 0, none⟩), .int .i64 now] w fun e w' => ∃ u, e = .returned u ∧ ∃ v', (∀ {W2} w2, SLw W2 w2 v (iv x.asked) → SLw W2 w2 v' (iv (atW x now).asked)) ∧ HpM M w0 w' (blk q (gC (atW x now) v' out) 87 :: row 3 1 v n (iv x.asked) :: H) := by
 cases hg : goesB x now with
 | true =>
  refine Calls.mono (at_t x now hg hp) ?_
  rintro _ w ⟨u, rfl, hp⟩
  exact ⟨_, rfl, _, fun w2 _ => by rw [atW_t hg]; exact .nil, hp⟩
 | false =>
  refine Calls.mono (at_f x now hg hp) ?_
  rintro _ w ⟨u, rfl, hp⟩
  exact ⟨_, rfl, _, fun w2 h => by rw [atW_f hg]; exact h, hp⟩
def ResW (W w' : World) (u : Value) (y : Wt) (e : Int) : Prop := ∃ v', u = .tuple #[.agg (y.c v').toArray, .int .i64 e] ∧ Ext W w' ∧ SLw W w' v' (iv y.asked)
def restW (x : Wt) (now : Int) (s : ByteArray) : Wt × Int :=
 let y := atW x now
 if y.gone then (zW, 8) else
 if wordB s = true ∧ ¬ s = y.word then ({ y with fresh := s }, 0) else (zW, 2)
def swW (x : Wt) (now : Int) (a b : Ad) : Wt × Int :=
 let y := atW x now
 if y.gone then (zW, 8) else
 if pathB a b then ({ y with a := a, b := b, asked := [], til := now + 30000, word := (if y.fresh = ⟨#[]⟩ then y.word else y.fresh), fresh := ⟨#[]⟩ }, 0) else (zW, 2)
theorem start_bad {W : World} {v : Value} (x : Wt) (hok : x.Ok) (hv : SLv W v (iv x.asked)) (now : Int) (hs : startN x now ≠ 0) :
  Calls Tryz.prog 40 #[.agg (x.c v).toArray, .int .i64 now] W fun e w' => e = .returned (.tuple #[.pointer none, .int .i64 (startN x now)]) ∧ Ext W w' := by
 unfold startN at hs ⊢
 cases hw : wtB x with
 | false => exact start_v x hok hv now hw
 | true =>
  rw [hw] at hs
  cases hi : inB now x.now 1099511627776 with
  | false => exact start_n x hok hv now hw hi
  | true => rw [hi] at hs; exact absurd rfl hs
theorem Restart_bad {W : World} {v : Value} (x : Wt) (hok : x.Ok) (hv : SLv W v (iv x.asked)) (now : Int) (s : ByteArray) (hs : startN x now ≠ 0) :
  Calls Tryz.prog 26 #[.agg (x.c v).toArray, .int .i64 now, .string s] W fun e w' => e = .returned (.tuple #[.agg (zW.c (.slice none 0 0)).toArray, .int .i64 (startN x now)]) ∧ Ext W w' := by
 have s1 := fun {W : World} (hv : SLv W v (iv x.asked)) => start_bad (W := W) x hok hv now hs
 obtain ⟨N, hN⟩ : ∃ N, startN x now = N := ⟨_, rfl⟩
 rw [hN] at s1 hs ⊢
 clear hN hok
 obtain ⟨⟨ah, ap⟩, ⟨bh, bp⟩, now0, nxt, til, ser, gone, noise, word, fresh, asked⟩ := x
 dsimp only [Wt.c] at hv s1 ⊢
 have hsl : (iv asked).length = asked.length := List.length_map _
 obtain ⟨p, c, rfl⟩ := hv.shape
 rw [hsl] at hv s1 ⊢
 refine v_reads (args := [.agg #[.string ah, .int .i64 ap, .string bh, .int .i64 bp, .int .i64 now0, .int .i64 nxt, .int .i64 til, .int .i64 ser, .bool gone, .string noise, .string word, .string fresh, .slice p asked.length c], .int .i64 now, .string s]) TTok FFok Tryz.func26 rfl rfl ?_
 conv => whnf
 refine VSeq.mk fun Kq hKq => ?_
 conv => whnf
 have hp := Hp.nil W
 (refine hp.kboxA fun q w hp hx => ?_; conv => whnf)
 (refine hp.kalloc z34 fun al34 w hp hx => ?_; conv => whnf)
 (refine hKq _ _ _ (.refl _) ?_; clear hKq Kq; conv => whnf)
 (refine VSeq.mk fun Kq hKq => ?_; conv => whnf)
 (refine ⟨_, _, Blk.ldV (vs := [_, _, _, _, _, _, _, _, _, _, _, _, _]) (hp.get (i := 1) rfl) TTok rfl rfl rfl, ?_⟩; conv => whnf)
 refine V.CallsUse (s1 (hv.ext hp.ext)) fun w hx => ?_
 have hp := hp.call hx
 conv => whnf
 (refine hKq _ _ _ (.refl _) ?_; clear hKq Kq; conv => whnf)
 (refine VSeq.mk fun Kq hKq => ?_; conv => whnf)
 (refine VSeq.mk fun Kq hKq => ?_; conv => whnf)
 (refine hKq _ _ _ (.refl _) ?_; clear hKq Kq; conv => whnf)
 (refine And.intro (fun _ => ?_) (fun h => absurd (by first | rfl | assumption | omega | decide) (of_decide_eq_false h)); conv => whnf)
 (refine VSeq.mk fun Kq hKq => ?_; conv => whnf)
 (refine ⟨_, _, bld34_ _, ?_⟩; conv => whnf)
 (refine hp.kstA TTok rfl 0 rfl rfl (oneC_of rfl) (by rfl) fun w hp => ?_; try simp only [List.set_cons_zero, List.set_cons_succ, EV.val] at hp; conv => whnf)
 (refine hKq _ _ _ (.refl _) ?_; clear hKq Kq; conv => whnf)
 (refine ⟨_, Blk.lvN (hp.get (i := 0) rfl) TTok rfl rfl, ?_⟩; conv => whnf)
 (exact ⟨rfl, hp.ext⟩)
theorem Restart12_bad {W : World} {v : Value} (x : Wt) (hok : x.Ok) (hv : SLv W v (iv x.asked)) (now : Int) (s : ByteArray) (hs : startN x now ≠ 0) :
  Calls Tryz.prog 27 #[.agg (x.c v).toArray, .int .i64 now, .string s] W fun e w' => e = .returned (.tuple #[.agg (zW.c (.slice none 0 0)).toArray, .int .i64 (startN x now)]) ∧ Ext W w' := by
 have s1 := fun {W : World} (hv : SLv W v (iv x.asked)) => Errors_c (W := W) x hok hv now 
 obtain ⟨N, hN⟩ : ∃ N, startN x now = N := ⟨_, rfl⟩
 rw [hN] at s1 hs ⊢
 clear hN hok
 obtain ⟨⟨ah, ap⟩, ⟨bh, bp⟩, now0, nxt, til, ser, gone, noise, word, fresh, asked⟩ := x
 dsimp only [Wt.c] at hv s1 ⊢
 have hsl : (iv asked).length = asked.length := List.length_map _
 obtain ⟨p, c, rfl⟩ := hv.shape
 rw [hsl] at hv s1 ⊢
 refine v_reads (args := [.agg #[.string ah, .int .i64 ap, .string bh, .int .i64 bp, .int .i64 now0, .int .i64 nxt, .int .i64 til, .int .i64 ser, .bool gone, .string noise, .string word, .string fresh, .slice p asked.length c], .int .i64 now, .string s]) TTok FFok Tryz.func27 rfl rfl ?_
 conv => whnf
 refine VSeq.mk fun Kq hKq => ?_
 conv => whnf
 have hp := Hp.nil W
 (refine hp.kboxA fun q w hp hx => ?_; conv => whnf)
 (refine hp.kalloc z34 fun al34 w hp hx => ?_; conv => whnf)
 (refine hKq _ _ _ (.refl _) ?_; clear hKq Kq; conv => whnf)
 (refine VSeq.mk fun Kq hKq => ?_; conv => whnf)
 (refine VSeq.mk fun Kq hKq => ?_; conv => whnf)
 (refine ⟨_, _, Blk.ldV (vs := [_, _, _, _, _, _, _, _, _, _, _, _, _]) (hp.get (i := 1) rfl) TTok rfl rfl rfl, ?_⟩; conv => whnf)
 refine V.CallsUse (s1 (hv.ext hp.ext)) fun w hx => ?_
 have hp := hp.call hx
 conv => whnf
 (refine hKq _ _ _ (.refl _) ?_; clear hKq Kq; conv => whnf)
 (refine VSeq.mk fun Kq hKq => ?_; conv => whnf)
 (refine hKq _ _ _ (.refl _) ?_; clear hKq Kq; conv => whnf)
 (refine And.intro (fun _ => ?_) (fun h => absurd (by first | rfl | assumption | omega | decide) (of_decide_eq_false h)); conv => whnf)
 (refine VSeq.mk fun Kq hKq => ?_; conv => whnf)
 (refine ⟨_, _, bld34_ _, ?_⟩; conv => whnf)
 (refine hp.kstA TTok rfl 0 rfl rfl (oneC_of rfl) (by rfl) fun w hp => ?_; try simp only [List.set_cons_zero, List.set_cons_succ, EV.val] at hp; conv => whnf)
 (refine hKq _ _ _ (.refl _) ?_; clear hKq Kq; conv => whnf)
 (refine ⟨_, Blk.lvN (hp.get (i := 0) rfl) TTok rfl rfl, ?_⟩; conv => whnf)
 (exact ⟨rfl, hp.ext⟩)
theorem Switch_bad {W : World} {v : Value} (x : Wt) (hok : x.Ok) (hv : SLv W v (iv x.asked)) (now : Int) (sh th : ByteArray) (sp tp : Int) (hs : startN x now ≠ 0) :
  Calls Tryz.prog 28 #[.agg (x.c v).toArray, .int .i64 now, .agg #[.string sh, .int .i64 sp, .string th, .int .i64 tp]] W fun e w' => e = .returned (.tuple #[.agg (zW.c (.slice none 0 0)).toArray, .int .i64 (startN x now)]) ∧ Ext W w' := by
 have s1 := fun {W : World} (hv : SLv W v (iv x.asked)) => start_bad (W := W) x hok hv now hs
 obtain ⟨N, hN⟩ : ∃ N, startN x now = N := ⟨_, rfl⟩
 rw [hN] at s1 hs ⊢
 clear hN hok
 obtain ⟨⟨ah, ap⟩, ⟨bh, bp⟩, now0, nxt, til, ser, gone, noise, word, fresh, asked⟩ := x
 dsimp only [Wt.c] at hv s1 ⊢
 have hsl : (iv asked).length = asked.length := List.length_map _
 obtain ⟨p, c, rfl⟩ := hv.shape
 rw [hsl] at hv s1 ⊢
 refine v_reads (args := [.agg #[.string ah, .int .i64 ap, .string bh, .int .i64 bp, .int .i64 now0, .int .i64 nxt, .int .i64 til, .int .i64 ser, .bool gone, .string noise, .string word, .string fresh, .slice p asked.length c], .int .i64 now, .agg #[.string sh, .int .i64 sp, .string th, .int .i64 tp]]) TTok FFok Tryz.func28 rfl rfl ?_
 conv => whnf
 refine VSeq.mk fun Kq hKq => ?_
 conv => whnf
 have hp := Hp.nil W
 (refine hp.kboxA fun q w hp hx => ?_; conv => whnf)
 (refine hp.kboxA fun q w hp hx => ?_; conv => whnf)
 (refine hp.kalloc z34 fun al34 w hp hx => ?_; conv => whnf)
 (refine hKq _ _ _ (.refl _) ?_; clear hKq Kq; conv => whnf)
 (refine VSeq.mk fun Kq hKq => ?_; conv => whnf)
 (refine ⟨_, _, Blk.ldV (vs := [_, _, _, _, _, _, _, _, _, _, _, _, _]) (hp.get (i := 2) rfl) TTok rfl rfl rfl, ?_⟩; conv => whnf)
 refine V.CallsUse (s1 (hv.ext hp.ext)) fun w hx => ?_
 have hp := hp.call hx
 conv => whnf
 (refine hKq _ _ _ (.refl _) ?_; clear hKq Kq; conv => whnf)
 (refine VSeq.mk fun Kq hKq => ?_; conv => whnf)
 (refine VSeq.mk fun Kq hKq => ?_; conv => whnf)
 (refine hKq _ _ _ (.refl _) ?_; clear hKq Kq; conv => whnf)
 (refine And.intro (fun _ => ?_) (fun h => absurd (by first | rfl | assumption | omega | decide) (of_decide_eq_false h)); conv => whnf)
 (refine VSeq.mk fun Kq hKq => ?_; conv => whnf)
 (refine ⟨_, _, bld34_ _, ?_⟩; conv => whnf)
 (refine hp.kstA TTok rfl 0 rfl rfl (oneC_of rfl) (by rfl) fun w hp => ?_; try simp only [List.set_cons_zero, List.set_cons_succ, EV.val] at hp; conv => whnf)
 (refine hKq _ _ _ (.refl _) ?_; clear hKq Kq; conv => whnf)
 (refine ⟨_, Blk.lvN (hp.get (i := 0) rfl) TTok rfl rfl, ?_⟩; conv => whnf)
 (exact ⟨rfl, hp.ext⟩)
theorem Switch12_bad {W : World} {v : Value} (x : Wt) (hok : x.Ok) (hv : SLv W v (iv x.asked)) (now : Int) (sh th : ByteArray) (sp tp : Int) (hs : startN x now ≠ 0) :
  Calls Tryz.prog 29 #[.agg (x.c v).toArray, .int .i64 now, .agg #[.string sh, .int .i64 sp, .string th, .int .i64 tp]] W fun e w' => e = .returned (.tuple #[.agg (zW.c (.slice none 0 0)).toArray, .int .i64 (startN x now)]) ∧ Ext W w' := by
 have s1 := fun {W : World} (hv : SLv W v (iv x.asked)) => Errors_c (W := W) x hok hv now 
 obtain ⟨N, hN⟩ : ∃ N, startN x now = N := ⟨_, rfl⟩
 rw [hN] at s1 hs ⊢
 clear hN hok
 obtain ⟨⟨ah, ap⟩, ⟨bh, bp⟩, now0, nxt, til, ser, gone, noise, word, fresh, asked⟩ := x
 dsimp only [Wt.c] at hv s1 ⊢
 have hsl : (iv asked).length = asked.length := List.length_map _
 obtain ⟨p, c, rfl⟩ := hv.shape
 rw [hsl] at hv s1 ⊢
 refine v_reads (args := [.agg #[.string ah, .int .i64 ap, .string bh, .int .i64 bp, .int .i64 now0, .int .i64 nxt, .int .i64 til, .int .i64 ser, .bool gone, .string noise, .string word, .string fresh, .slice p asked.length c], .int .i64 now, .agg #[.string sh, .int .i64 sp, .string th, .int .i64 tp]]) TTok FFok Tryz.func29 rfl rfl ?_
 conv => whnf
 refine VSeq.mk fun Kq hKq => ?_
 conv => whnf
 have hp := Hp.nil W
 (refine hp.kboxA fun q w hp hx => ?_; conv => whnf)
 (refine hp.kboxA fun q w hp hx => ?_; conv => whnf)
 (refine hp.kalloc z34 fun al34 w hp hx => ?_; conv => whnf)
 (refine hKq _ _ _ (.refl _) ?_; clear hKq Kq; conv => whnf)
 (refine VSeq.mk fun Kq hKq => ?_; conv => whnf)
 (refine VSeq.mk fun Kq hKq => ?_; conv => whnf)
 (refine ⟨_, _, Blk.ldV (vs := [_, _, _, _, _, _, _, _, _, _, _, _, _]) (hp.get (i := 2) rfl) TTok rfl rfl rfl, ?_⟩; conv => whnf)
 refine V.CallsUse (s1 (hv.ext hp.ext)) fun w hx => ?_
 have hp := hp.call hx
 conv => whnf
 (refine hKq _ _ _ (.refl _) ?_; clear hKq Kq; conv => whnf)
 (refine VSeq.mk fun Kq hKq => ?_; conv => whnf)
 (refine hKq _ _ _ (.refl _) ?_; clear hKq Kq; conv => whnf)
 (refine And.intro (fun _ => ?_) (fun h => absurd (by first | rfl | assumption | omega | decide) (of_decide_eq_false h)); conv => whnf)
 (refine VSeq.mk fun Kq hKq => ?_; conv => whnf)
 (refine ⟨_, _, bld34_ _, ?_⟩; conv => whnf)
 (refine hp.kstA TTok rfl 0 rfl rfl (oneC_of rfl) (by rfl) fun w hp => ?_; try simp only [List.set_cons_zero, List.set_cons_succ, EV.val] at hp; conv => whnf)
 (refine hKq _ _ _ (.refl _) ?_; clear hKq Kq; conv => whnf)
 (refine ⟨_, Blk.lvN (hp.get (i := 0) rfl) TTok rfl rfl, ?_⟩; conv => whnf)
 (exact ⟨rfl, hp.ext⟩)
end Go.Proofs.YtgkhcgiggjijlaaGreat
