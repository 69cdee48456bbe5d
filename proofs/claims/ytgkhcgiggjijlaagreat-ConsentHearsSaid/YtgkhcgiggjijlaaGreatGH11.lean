/- Chapter 12: Restart and Switch, program and reference: what they return. -/
/- Chapter 12: Switch, program and reference. -/
/- Chapter 12: Hear of the program. -/
/- Chapter 12: equal watches, equal hops. -/
/- Chapter 12: Hear of the reference. -/
/- Chapter 12: Hear of the reference, what it returns. -/
import Derived.Test.YtgkhcgiggjijlaaGreatGH10
namespace Go.Proofs.YtgkhcgiggjijlaaGreat
set_option linter.unusedSimpArgs false
set_option linter.unusedVariables false
set_option maxRecDepth 100000
open Go.RowKit V
set_option maxHeartbeats 8000000
theorem Restart_ok {W : World} {v : Value} (x : Wt) (hok : x.Ok) (hv : SLv W v (iv x.asked)) (now : Int) (s : ByteArray) (hs : SzS s) (hw : wtB x = true) (hn : inB now x.now 1099511627776 = true) :
  Calls Tryz.prog 26 #[.agg (x.c v).toArray, .int .i64 now, .string s] W fun e w' => ∃ u, e = .returned u ∧ ResW W w' u (restW x now s).1 (restW x now s).2 := by
 have hlen := wtB_len hw
 have s1 := fun {W : World} (hv : SLv W v (iv x.asked)) => start_t (W := W) x hok hv now hw hn (by omega)
 have a1 := fun (M : List Nat) (w0 w : World) (H : List It) (q n : Nat) (u : Value) hp => atc_c (M := M) (w0 := w0) (w := w) (H := H) (q := q) (n := n) (v := u) (out := .slice none 0 0) x now hp
 have hf := fits_at hok hw hn
 unfold restW
 dsimp only
 obtain ⟨y, hy⟩ : ∃ y, atW x now = y := ⟨_, rfl⟩
 rw [hy] at a1 hf ⊢
 clear hw hn hok hy
 obtain ⟨⟨ah, ap⟩, ⟨bh, bp⟩, now0, nxt, til, ser, gone, noise, word, fresh, asked⟩ := x
 dsimp only [Wt.c] at hv s1 a1 ⊢
 have hsl : (iv asked).length = asked.length := List.length_map _
 obtain ⟨p, c, rfl⟩ := hv.shape
 rw [hsl] at hv s1 ⊢
 obtain ⟨⟨yah, yap⟩, ⟨ybh, ybp⟩, ynow, ynxt, ytil, yser, ygone, ynoise, yword, yfresh, yasked⟩ := y
 obtain ⟨f1, f2, f3, f4, f5, f6, f7⟩ := hf
 dsimp only at f1 f2 f3 f4 f5 f6 f7 a1 ⊢
 refine v_fn (args := [.agg #[.string ah, .int .i64 ap, .string bh, .int .i64 bp, .int .i64 now0, .int .i64 nxt, .int .i64 til, .int .i64 ser, _, .string noise, .string word, .string fresh, .slice p asked.length c], .int .i64 now, .string s]) TTok FFok Tryz.func26 rfl (Nat.le_of_ble_eq_true rfl) ?_
 conv => whnf
 refine VSeq.mk fun Kq hKq => ?_
 conv => whnf
 have hp := Hp.nil W
 (refine hp.kboxA fun q w hp hx => ?_; conv => whnf)
 (refine hp.kalloc z34 fun al34 w hp hx => ?_; conv => whnf)
 (refine hKq _ _ _ (.refl _) ?_; clear hKq Kq; conv => whnf)
 (refine VSeq.mk fun Kq hKq => ?_; conv => whnf)
 (refine ⟨_, _, Blk.ldV (vs := [_, _, _, _, _, _, _, _, _, _, _, _, _]) (hp.get (i := 1) rfl) TTok rfl rfl rfl, ?_⟩; conv => whnf)
 refine Calls.mono (s1 (hv.ext hp.ext)) ?_
 rintro _ w ⟨_, rfl, q, u, rfl, k2⟩
 refine ⟨_, rfl, ?_⟩
 have hp := hp.join k2
 simp only [List.cons_append, List.nil_append] at hp
 obtain ⟨pu, cu, rfl⟩ := row_shape (hp.get (i := 1) rfl)
 try dsimp only [gC] at hp
 conv => whnf
 clear s1 k2
 (refine hKq _ _ _ (.refl _) ?_; clear hKq Kq; conv => whnf)
 (refine VSeq.mk fun Kq hKq => ?_; conv => whnf)
 (refine VSeq.mk fun Kq hKq => ?_; conv => whnf)
 (refine hKq _ _ _ (.refl _) ?_; clear hKq Kq; conv => whnf)
 (refine And.intro (fun h => absurd (of_decide_eq_true h) (by first | (intro h2; exact absurd rfl h2) | omega | decide)) (fun _ => ?_); conv => whnf)
 (refine hKq _ _ _ (.refl _) ?_; clear hKq Kq; conv => whnf)
 (refine VSeq.mk fun Kq hKq => ?_; conv => whnf)
 refine Calls.mono (a1 _ _ _ _ _ _ _ hp) ?_
 rintro _ w ⟨_, rfl, v1, hv1, hp⟩
 refine ⟨_, rfl, ?_⟩
 try dsimp only [gC] at hp
 obtain ⟨p1, c1, rfl⟩ := (hv1 w (SLw.row hp (i := 1) rfl)).shape
 conv => whnf
 clear a1
 (refine hKq _ _ _ (.refl _) ?_; clear hKq Kq; conv => whnf)
 (refine VSeq.mk fun Kq hKq => ?_; conv => whnf)
 (refine VSeq.mk fun Kq hKq => ?_; conv => whnf)
 (refine ⟨_, _, Blk.ld (hp.get (i := 0) rfl) TTok rfl rfl, ?_⟩; conv => whnf)
 (refine hKq _ _ _ (.refl _) ?_; clear hKq Kq; conv => whnf)
 refine ⟨fun hgo => ?_, fun hgo => ?_⟩
 ·conv => whnf
  (refine VSeq.mk fun Kq hKq => ?_; conv => whnf)
  (refine ⟨_, _, bld34_ _, ?_⟩; conv => whnf)
  (refine hp.kstA TTok rfl 2 rfl rfl (oneC_of rfl) (by rfl) fun w hp => ?_; try simp only [List.set_cons_zero, List.set_cons_succ, EV.val] at hp; conv => whnf)
  (refine hKq _ _ _ (.refl _) ?_; clear hKq Kq; conv => whnf)
  (refine ⟨_, Blk.lvN (hp.get (i := 2) rfl) TTok rfl rfl, ?_⟩; conv => whnf)
  rw [if_pos hgo]
  exact ⟨_, rfl, hp.ext, .nil⟩
 ·conv => whnf
  (refine VSeq.mk fun Kq hKq => ?_; conv => whnf)
  (refine VSeq.mk fun Kq hKq => ?_; conv => whnf)
  (refine V.CallW.out ?_; (conv => arg 3; dsimp only [EV.val, List.toList_toArray, List.nil_append, List.append_nil, List.cons_append]); (with_reducible refine V.PureF.useW (word_p _ (by assumption)) fun w hx => ?_); try (have hp := hp.call hx); conv => whnf)
  (refine hKq _ _ _ (.refl _) ?_; clear hKq Kq; conv => whnf)
  (refine ⟨fun hd => ?_, fun hd => ?_⟩ <;> (try simp only [Bool.not_eq_true', Bool.not_eq_false', decide_eq_true_eq, decide_eq_false_iff_not, ne_eq, Classical.not_not] at hd) <;> (conv => whnf))
  (refine hKq _ _ _ (.refl _) ?_; clear hKq Kq; conv => whnf)
  (refine VSeq.mk fun Kq hKq => ?_; conv => whnf)
  (refine ⟨_, _, bld34_ _, ?_⟩; conv => whnf)
  (refine hp.kstA TTok rfl 2 rfl rfl (oneC_of rfl) (by rfl) fun w hp => ?_; try simp only [List.set_cons_zero, List.set_cons_succ, EV.val] at hp; conv => whnf)
  (refine hKq _ _ _ (.refl _) ?_; clear hKq Kq; conv => whnf)
  (refine ⟨_, Blk.lvN (hp.get (i := 2) rfl) TTok rfl rfl, ?_⟩; conv => whnf)
  rotate_left
  (refine ⟨_, _, Blk.ld (hp.get (i := 0) rfl) TTok rfl rfl, ?_⟩; conv => whnf)
  (refine hKq _ _ _ (.refl _) ?_; clear hKq Kq; conv => whnf)
  (refine ⟨fun hd => ?_, fun hd => ?_⟩ <;> (try simp only [Bool.not_eq_true', Bool.not_eq_false', decide_eq_true_eq, decide_eq_false_iff_not, ne_eq, Classical.not_not] at hd) <;> (conv => whnf))
  (refine VSeq.mk fun Kq hKq => ?_; conv => whnf)
  (refine ⟨_, _, bld34_ _, ?_⟩; conv => whnf)
  (refine hp.kstA TTok rfl 2 rfl rfl (oneC_of rfl) (by rfl) fun w hp => ?_; try simp only [List.set_cons_zero, List.set_cons_succ, EV.val] at hp; conv => whnf)
  (refine hKq _ _ _ (.refl _) ?_; clear hKq Kq; conv => whnf)
  (refine ⟨_, Blk.lvN (hp.get (i := 2) rfl) TTok rfl rfl, ?_⟩; conv => whnf)
  rotate_left
  (refine hKq _ _ _ (.refl _) ?_; clear hKq Kq; conv => whnf)
  (refine VSeq.mk fun Kq hKq => ?_; conv => whnf)
  (refine hp.kst1 TTok (by rfl) 0 (by rfl) (by rfl) (by rfl) (Nat.le_of_ble_eq_true rfl) fun w hp => ?_; try simp only [List.set_cons_zero, List.set_cons_succ, EV.val] at hp; conv => whnf)
  (refine hKq _ _ _ (.refl _) ?_; clear hKq Kq; conv => whnf)
  (refine VSeq.mk fun Kq hKq => ?_; conv => whnf)
  (refine ⟨_, _, Blk.ldV (vs := [_, _, _, _, _, _, _, _, _, _, _, _, _]) (hp.get (i := 0) rfl) TTok rfl rfl rfl, ?_⟩; conv => whnf)
  (refine hp.kstA TTok rfl 2 rfl rfl (oneC_of rfl) (by rfl) fun w hp => ?_; try simp only [List.set_cons_zero, List.set_cons_succ, EV.val] at hp; conv => whnf)
  (refine hKq _ _ _ (.refl _) ?_; clear hKq Kq; conv => whnf)
  (refine ⟨_, Blk.lvN (hp.get (i := 2) rfl) TTok rfl rfl, ?_⟩; conv => whnf)
  rotate_left
  all_goals rw [if_neg (by rw [hgo]; decide)]
  all_goals first | (rw [if_neg (by simp [*])]; exact ⟨_, rfl, hp.ext, .nil⟩) | (rw [if_pos ⟨by assumption, by assumption⟩]; exact ⟨_, rfl, hp.ext, hv1 _ (SLw.row hp (i := 1) rfl)⟩)
theorem Restart12_ok {W : World} {v : Value} (x : Wt) (hok : x.Ok) (hv : SLv W v (iv x.asked)) (now : Int) (s : ByteArray) (hs : SzS s) (hw : wtB x = true) (hn : inB now x.now 1099511627776 = true) :
  Calls Tryz.prog 27 #[.agg (x.c v).toArray, .int .i64 now, .string s] W fun e w' => ∃ u, e = .returned u ∧ ResW W w' u (restW x now s).1 (restW x now s).2 := by
 have hlen := wtB_len hw
 have hst : startN x now = 0 := by unfold startN; rw [hw, hn]; rfl
 have s1 := fun {W : World} (hv : SLv W v (iv x.asked)) => Errors_c (W := W) x hok hv now
 rw [hst] at s1
 have s2 := fun {W : World} (hv : SLv W v (iv x.asked)) => At12_c (W := W) x now hv (by omega)
 have hf := fits_at hok hw hn
 unfold restW
 dsimp only
 obtain ⟨y, hy⟩ : ∃ y, atW x now = y := ⟨_, rfl⟩
 rw [hy] at s2 hf ⊢
 clear hw hn hok hy hst
 obtain ⟨⟨ah, ap⟩, ⟨bh, bp⟩, now0, nxt, til, ser, gone, noise, word, fresh, asked⟩ := x
 dsimp only [Wt.c] at hv s1 s2 ⊢
 have hsl : (iv asked).length = asked.length := List.length_map _
 obtain ⟨p, c, rfl⟩ := hv.shape
 rw [hsl] at hv s1 s2 ⊢
 obtain ⟨⟨yah, yap⟩, ⟨ybh, ybp⟩, ynow, ynxt, ytil, yser, ygone, ynoise, yword, yfresh, yasked⟩ := y
 obtain ⟨f1, f2, f3, f4, f5, f6, f7⟩ := hf
 dsimp only at f1 f2 f3 f4 f5 f6 f7 s2 ⊢
 refine v_fn (args := [.agg #[.string ah, .int .i64 ap, .string bh, .int .i64 bp, .int .i64 now0, .int .i64 nxt, .int .i64 til, .int .i64 ser, _, .string noise, .string word, .string fresh, .slice p asked.length c], .int .i64 now, .string s]) TTok FFok Tryz.func27 rfl (Nat.le_of_ble_eq_true rfl) ?_
 conv => whnf
 refine VSeq.mk fun Kq hKq => ?_
 conv => whnf
 have hp := Hp.nil W
 (refine hp.kboxA fun q w hp hx => ?_; conv => whnf)
 (refine hp.kalloc z34 fun al34 w hp hx => ?_; conv => whnf)
 (refine hKq _ _ _ (.refl _) ?_; clear hKq Kq; conv => whnf)
 (refine VSeq.mk fun Kq hKq => ?_; conv => whnf)
 (refine VSeq.mk fun Kq hKq => ?_; conv => whnf)
 (refine ⟨_, _, Blk.ldV (vs := [_, _, _, _, _, _, _, _, _, _, _, _, _]) (hp.get (i := 1) rfl) TTok rfl rfl rfl, ?_⟩; conv => whnf)
 refine V.CallsUse (s1 (hv.ext hp.ext)) fun w hx => ?_
 have hp := hp.call hx
 conv => whnf
 (refine hKq _ _ _ (.refl _) ?_; clear hKq Kq; conv => whnf)
 (refine VSeq.mk fun Kq hKq => ?_; conv => whnf)
 (refine hKq _ _ _ (.refl _) ?_; clear hKq Kq; conv => whnf)
 (refine And.intro (fun h => absurd (of_decide_eq_true h) (by first | (intro h2; exact absurd rfl h2) | omega | decide)) (fun _ => ?_); conv => whnf)
 (refine hKq _ _ _ (.refl _) ?_; clear hKq Kq; conv => whnf)
 (refine VSeq.mk fun Kq hKq => ?_; conv => whnf)
 (refine ⟨_, _, Blk.ldV (vs := [_, _, _, _, _, _, _, _, _, _, _, _, _]) (hp.get (i := 1) rfl) TTok rfl rfl rfl, ?_⟩; conv => whnf)
 refine Calls.mono (s2 (hv.ext hp.ext)) ?_
 rintro _ w ⟨_, rfl, v', rfl, k2⟩
 refine ⟨_, rfl, ?_⟩
 have hp := hp.join k2
 simp only [List.cons_append, List.nil_append] at hp
 obtain ⟨pu, cu, rfl⟩ := row_shape (hp.get (i := 0) rfl)
 clear s1 s2 hv k2
 conv => whnf
 (refine hp.kstA TTok rfl 2 rfl rfl (oneC_of rfl) (by rfl) fun w hp => ?_; try simp only [List.set_cons_zero, List.set_cons_succ, EV.val] at hp; conv => whnf)
 (refine hKq _ _ _ (.refl _) ?_; clear hKq Kq; conv => whnf)
 (refine VSeq.mk fun Kq hKq => ?_; conv => whnf)
 (refine VSeq.mk fun Kq hKq => ?_; conv => whnf)
 (refine ⟨_, _, Blk.ld (hp.get (i := 2) rfl) TTok rfl rfl, ?_⟩; conv => whnf)
 (refine hKq _ _ _ (.refl _) ?_; clear hKq Kq; conv => whnf)
 refine ⟨fun hgo => ?_, fun hgo => ?_⟩
 ·conv => whnf
  (refine VSeq.mk fun Kq hKq => ?_; conv => whnf)
  (refine ⟨_, _, bld34_ _, ?_⟩; conv => whnf)
  (refine hp.kstA TTok rfl 1 rfl rfl (oneC_of rfl) (by rfl) fun w hp => ?_; try simp only [List.set_cons_zero, List.set_cons_succ, EV.val] at hp; conv => whnf)
  (refine hKq _ _ _ (.refl _) ?_; clear hKq Kq; conv => whnf)
  (refine ⟨_, Blk.lvN (hp.get (i := 1) rfl) TTok rfl rfl, ?_⟩; conv => whnf)
  rw [if_pos hgo]
  exact ⟨_, rfl, hp.ext, .nil⟩
 ·conv => whnf
  (refine hKq _ _ _ (.refl _) ?_; clear hKq Kq; conv => whnf)
  (refine VSeq.mk fun Kq hKq => ?_; conv => whnf)
  (refine VSeq.mk fun Kq hKq => ?_; conv => whnf)
  (refine VSeq.mk fun Kq hKq => ?_; conv => whnf)
  (refine V.CallW.out ?_; (conv => arg 3; dsimp only [EV.val, List.toList_toArray, List.nil_append, List.append_nil, List.cons_append]); (with_reducible refine V.PureF.useW (word12_p _ (by assumption)) fun w hx => ?_); try (have hp := hp.call hx); conv => whnf)
  (refine hKq _ _ _ (.refl _) ?_; clear hKq Kq; conv => whnf)
  (refine ⟨fun hd => ?_, fun hd => ?_⟩ <;> (try simp only [Bool.not_eq_true', Bool.not_eq_false', decide_eq_true_eq, decide_eq_false_iff_not, ne_eq, Classical.not_not] at hd) <;> (conv => whnf))
  (refine hKq _ _ _ (.refl _) ?_; clear hKq Kq; conv => whnf)
  (refine VSeq.mk fun Kq hKq => ?_; conv => whnf)
  (refine ⟨_, _, bld34_ _, ?_⟩; conv => whnf)
  (refine hp.kstA TTok rfl 1 rfl rfl (oneC_of rfl) (by rfl) fun w hp => ?_; try simp only [List.set_cons_zero, List.set_cons_succ, EV.val] at hp; conv => whnf)
  (refine hKq _ _ _ (.refl _) ?_; clear hKq Kq; conv => whnf)
  (refine ⟨_, Blk.lvN (hp.get (i := 1) rfl) TTok rfl rfl, ?_⟩; conv => whnf)
  rotate_left
  (refine ⟨_, _, Blk.ld (hp.get (i := 2) rfl) TTok rfl rfl, ?_⟩; conv => whnf)
  (refine hKq _ _ _ (.refl _) ?_; clear hKq Kq; conv => whnf)
  (refine ⟨fun hd => ?_, fun hd => ?_⟩ <;> (try simp only [Bool.not_eq_true', Bool.not_eq_false', decide_eq_true_eq, decide_eq_false_iff_not, ne_eq, Classical.not_not] at hd) <;> (conv => whnf))
  (refine VSeq.mk fun Kq hKq => ?_; conv => whnf)
  (refine ⟨_, _, bld34_ _, ?_⟩; conv => whnf)
  (refine hp.kstA TTok rfl 1 rfl rfl (oneC_of rfl) (by rfl) fun w hp => ?_; try simp only [List.set_cons_zero, List.set_cons_succ, EV.val] at hp; conv => whnf)
  (refine hKq _ _ _ (.refl _) ?_; clear hKq Kq; conv => whnf)
  (refine ⟨_, Blk.lvN (hp.get (i := 1) rfl) TTok rfl rfl, ?_⟩; conv => whnf)
  rotate_left
  (refine hKq _ _ _ (.refl _) ?_; clear hKq Kq; conv => whnf)
  (refine VSeq.mk fun Kq hKq => ?_; conv => whnf)
  (refine hp.kst1 TTok (by rfl) 2 (by rfl) (by rfl) (by rfl) (Nat.le_of_ble_eq_true rfl) fun w hp => ?_; try simp only [List.set_cons_zero, List.set_cons_succ, EV.val] at hp; conv => whnf)
  (refine hKq _ _ _ (.refl _) ?_; clear hKq Kq; conv => whnf)
  (refine VSeq.mk fun Kq hKq => ?_; conv => whnf)
  (refine ⟨_, _, Blk.ldV (vs := [_, _, _, _, _, _, _, _, _, _, _, _, _]) (hp.get (i := 2) rfl) TTok rfl rfl rfl, ?_⟩; conv => whnf)
  (refine hp.kstA TTok rfl 1 rfl rfl (oneC_of rfl) (by rfl) fun w hp => ?_; try simp only [List.set_cons_zero, List.set_cons_succ, EV.val] at hp; conv => whnf)
  (refine hKq _ _ _ (.refl _) ?_; clear hKq Kq; conv => whnf)
  (refine ⟨_, Blk.lvN (hp.get (i := 1) rfl) TTok rfl rfl, ?_⟩; conv => whnf)
  rotate_left
  all_goals rw [if_neg (by rw [hgo]; decide)]
  all_goals first | (rw [if_neg (by simp [*])]; exact ⟨_, rfl, hp.ext, .nil⟩) | (rw [if_pos ⟨by assumption, by assumption⟩]; exact ⟨_, rfl, hp.ext, SLw.row hp (i := 0) rfl⟩)
set_option maxHeartbeats 8000000
theorem Switch_ok {W : World} {v : Value} (x : Wt) (hok : x.Ok) (hv : SLv W v (iv x.asked)) (now : Int) (sh th : ByteArray) (sp tp : Int) (hs : Ad.Ok ⟨sh, sp⟩) (ht : Ad.Ok ⟨th, tp⟩) (hw : wtB x = true) (hn : inB now x.now 1099511627776 = true) :
  Calls Tryz.prog 28 #[.agg (x.c v).toArray, .int .i64 now, .agg #[.string sh, .int .i64 sp, .string th, .int .i64 tp]] W fun e w' => ∃ u, e = .returned u ∧ ResW W w' u (swW x now ⟨sh, sp⟩ ⟨th, tp⟩).1 (swW x now ⟨sh, sp⟩ ⟨th, tp⟩).2 := by
 have hlen := wtB_len hw
 have s1 := fun {W : World} (hv : SLv W v (iv x.asked)) => start_t (W := W) x hok hv now hw hn (by omega)
 have a1 := fun (M : List Nat) (w0 w : World) (H : List It) (q n : Nat) (u : Value) hp => atc_c (M := M) (w0 := w0) (w := w) (H := H) (q := q) (n := n) (v := u) (out := .slice none 0 0) x now hp
 have hf := fits_at hok hw hn
 unfold swW
 dsimp only
 obtain ⟨y, hy⟩ : ∃ y, atW x now = y := ⟨_, rfl⟩
 rw [hy] at a1 hf ⊢
 clear hw hn hok hy
 obtain ⟨⟨ah, ap⟩, ⟨bh, bp⟩, now0, nxt, til, ser, gone, noise, word, fresh, asked⟩ := x
 dsimp only [Wt.c] at hv s1 a1 ⊢
 have hsl : (iv asked).length = asked.length := List.length_map _
 obtain ⟨p, c, rfl⟩ := hv.shape
 rw [hsl] at hv s1 ⊢
 obtain ⟨⟨yah, yap⟩, ⟨ybh, ybp⟩, ynow, ynxt, ytil, yser, ygone, ynoise, yword, yfresh, yasked⟩ := y
 obtain ⟨f1, f2, f3, f4, f5, f6, f7⟩ := hf
 dsimp only at f1 f2 f3 f4 f5 f6 f7 a1 ⊢
 refine v_fn (args := [.agg #[.string ah, .int .i64 ap, .string bh, .int .i64 bp, .int .i64 now0, .int .i64 nxt, .int .i64 til, .int .i64 ser, _, .string noise, .string word, .string fresh, .slice p asked.length c], .int .i64 now, .agg #[.string sh, .int .i64 sp, .string th, .int .i64 tp]]) TTok FFok Tryz.func28 rfl (Nat.le_of_ble_eq_true rfl) ?_
 conv => whnf
 refine VSeq.mk fun Kq hKq => ?_
 conv => whnf
 have hp := Hp.nil W
 (refine hp.kboxA fun q w hp hx => ?_; conv => whnf)
 (refine hp.kboxA fun q w hp hx => ?_; conv => whnf)
 (refine hp.kalloc z34 fun al34 w hp hx => ?_; conv => whnf)
 (refine hKq _ _ _ (.refl _) ?_; clear hKq Kq; conv => whnf)
 (refine VSeq.mk fun Kq hKq => ?_; conv => whnf)
 (refine ⟨_, _, Blk.ldV (vs := [_, _, _, _, _, _, _, _, _, _, _, _, _]) (hp.get (i := 2) rfl) TTok rfl rfl rfl, ?_⟩; conv => whnf)
 refine Calls.mono (s1 (hv.ext hp.ext)) ?_
 rintro _ w ⟨_, rfl, q, u, rfl, k2⟩
 refine ⟨_, rfl, ?_⟩
 have hp := hp.join k2
 simp only [List.cons_append, List.nil_append] at hp
 obtain ⟨pu, cu, rfl⟩ := row_shape (hp.get (i := 1) rfl)
 try dsimp only [gC] at hp
 conv => whnf
 clear s1 k2
 (refine hKq _ _ _ (.refl _) ?_; clear hKq Kq; conv => whnf)
 (refine VSeq.mk fun Kq hKq => ?_; conv => whnf)
 (refine VSeq.mk fun Kq hKq => ?_; conv => whnf)
 (refine hKq _ _ _ (.refl _) ?_; clear hKq Kq; conv => whnf)
 (refine And.intro (fun h => absurd (of_decide_eq_true h) (by first | (intro h2; exact absurd rfl h2) | omega | decide)) (fun _ => ?_); conv => whnf)
 (refine hKq _ _ _ (.refl _) ?_; clear hKq Kq; conv => whnf)
 (refine VSeq.mk fun Kq hKq => ?_; conv => whnf)
 refine Calls.mono (a1 _ _ _ _ _ _ _ hp) ?_
 rintro _ w ⟨_, rfl, v1, hv1, hp⟩
 refine ⟨_, rfl, ?_⟩
 try dsimp only [gC] at hp
 obtain ⟨p1, c1, rfl⟩ := (hv1 w (SLw.row hp (i := 1) rfl)).shape
 conv => whnf
 clear a1
 (refine hKq _ _ _ (.refl _) ?_; clear hKq Kq; conv => whnf)
 (refine VSeq.mk fun Kq hKq => ?_; conv => whnf)
 (refine VSeq.mk fun Kq hKq => ?_; conv => whnf)
 (refine ⟨_, _, Blk.ld (hp.get (i := 0) rfl) TTok rfl rfl, ?_⟩; conv => whnf)
 (refine hKq _ _ _ (.refl _) ?_; clear hKq Kq; conv => whnf)
 refine ⟨fun hgo => ?_, fun hgo => ?_⟩
 ·conv => whnf
  (refine VSeq.mk fun Kq hKq => ?_; conv => whnf)
  (refine ⟨_, _, bld34_ _, ?_⟩; conv => whnf)
  (refine hp.kstA TTok rfl 2 rfl rfl (oneC_of rfl) (by rfl) fun w hp => ?_; try simp only [List.set_cons_zero, List.set_cons_succ, EV.val] at hp; conv => whnf)
  (refine hKq _ _ _ (.refl _) ?_; clear hKq Kq; conv => whnf)
  (refine ⟨_, Blk.lvN (hp.get (i := 2) rfl) TTok rfl rfl, ?_⟩; conv => whnf)
  rw [if_pos hgo]
  exact ⟨_, rfl, hp.ext, .nil⟩
 ·conv => whnf
  (refine VSeq.mk fun Kq hKq => ?_; conv => whnf)
  (refine ⟨_, _, Blk.ldV (vs := [_, _, _, _]) (hp.get (i := 3) rfl) TTok rfl rfl rfl, ?_⟩; conv => whnf)
  (refine V.CallW.out ?_; (conv => arg 3; dsimp only [EV.val, List.toList_toArray, List.nil_append, List.append_nil, List.cons_append]); (with_reducible refine V.PureF.useW (path_p _ _ _ _ (by assumption) (by assumption)) fun w hx => ?_); try (have hp := hp.call hx); conv => whnf)
  (refine hKq _ _ _ (.refl _) ?_; clear hKq Kq; conv => whnf)
  (refine ⟨fun hd => ?_, fun hd => ?_⟩ <;> (try simp only [Bool.not_eq_true', Bool.not_eq_false', decide_eq_true_eq, decide_eq_false_iff_not, ne_eq, Classical.not_not] at hd) <;> (conv => whnf))
  (refine VSeq.mk fun Kq hKq => ?_; conv => whnf)
  (refine ⟨_, _, bld34_ _, ?_⟩; conv => whnf)
  (refine hp.kstA TTok rfl 2 rfl rfl (oneC_of rfl) (by rfl) fun w hp => ?_; try simp only [List.set_cons_zero, List.set_cons_succ, EV.val] at hp; conv => whnf)
  (refine hKq _ _ _ (.refl _) ?_; clear hKq Kq; conv => whnf)
  (refine ⟨_, Blk.lvN (hp.get (i := 2) rfl) TTok rfl rfl, ?_⟩; conv => whnf)
  rotate_left
  (refine hKq _ _ _ (.refl _) ?_; clear hKq Kq; conv => whnf)
  (refine VSeq.mk fun Kq hKq => ?_; conv => whnf)
  (refine ⟨_, _, Blk.ldV (vs := [_, _, _, _]) (hp.get (i := 3) rfl) TTok rfl rfl rfl, ?_⟩; conv => whnf)
  (refine Or.inl (And.intro (by first | omega | decide) ?_); conv => whnf)
  (refine hp.kstP TTok rfl 0 rfl (vs := [_, _, _, _]) rfl (oneC_of rfl) (Nat.le_of_ble_eq_true rfl) rfl fun w hp => ?_; try simp only [List.take_succ_cons, List.take_zero, List.drop_succ_cons, List.drop_zero, List.cons_append, List.nil_append, List.set_cons_zero, List.set_cons_succ, EV.val] at hp; conv => whnf)
  (refine hp.kst1 TTok (by rfl) 0 (by rfl) (by rfl) (by rfl) (Nat.le_of_ble_eq_true rfl) fun w hp => ?_; try simp only [List.set_cons_zero, List.set_cons_succ, EV.val] at hp; conv => whnf)
  (refine hp.kst1 TTok (by rfl) 0 (by rfl) (by rfl) (by rfl) (Nat.le_of_ble_eq_true rfl) fun w hp => ?_; try simp only [List.set_cons_zero, List.set_cons_succ, EV.val] at hp; conv => whnf)
  (refine hKq _ _ _ (.refl _) ?_; clear hKq Kq; conv => whnf)
  (refine VSeq.mk fun Kq hKq => ?_; conv => whnf)
  (refine VSeq.mk fun Kq hKq => ?_; conv => whnf)
  (refine ⟨_, _, Blk.ld (hp.get (i := 0) rfl) TTok rfl rfl, ?_⟩; conv => whnf)
  (refine hKq _ _ _ (.refl _) ?_; clear hKq Kq; conv => whnf)
  (refine ⟨fun hd => ?_, fun hd => ?_⟩ <;> (try simp only [Bool.not_eq_true', Bool.not_eq_false', decide_eq_true_eq, decide_eq_false_iff_not, ne_eq, Classical.not_not] at hd) <;> (conv => whnf))
  (refine ⟨_, _, Blk.ld (hp.get (i := 0) rfl) TTok rfl rfl, ?_⟩; conv => whnf)
  (refine hp.kst1 TTok (by rfl) 0 (by rfl) (by rfl) (by rfl) (Nat.le_of_ble_eq_true rfl) fun w hp => ?_; try simp only [List.set_cons_zero, List.set_cons_succ, EV.val] at hp; conv => whnf)
  (refine hp.kst1 TTok (by rfl) 0 (by rfl) (by rfl) (by rfl) (Nat.le_of_ble_eq_true rfl) fun w hp => ?_; try simp only [List.set_cons_zero, List.set_cons_succ, EV.val] at hp; conv => whnf)
  (refine hKq _ _ _ (.refl _) ?_; clear hKq Kq; conv => whnf)
  (refine VSeq.mk fun Kq hKq => ?_; conv => whnf)
  (refine ⟨_, _, Blk.ldV (vs := [_, _, _, _, _, _, _, _, _, _, _, _, _]) (hp.get (i := 0) rfl) TTok rfl rfl rfl, ?_⟩; conv => whnf)
  (refine hp.kstA TTok rfl 2 rfl rfl (oneC_of rfl) (by rfl) fun w hp => ?_; try simp only [List.set_cons_zero, List.set_cons_succ, EV.val] at hp; conv => whnf)
  (refine hKq _ _ _ (.refl _) ?_; clear hKq Kq; conv => whnf)
  (refine ⟨_, Blk.lvN (hp.get (i := 2) rfl) TTok rfl rfl, ?_⟩; conv => whnf)
  rotate_left
  (refine hKq _ _ _ (.refl _) ?_; clear hKq Kq; conv => whnf)
  (refine VSeq.mk fun Kq hKq => ?_; conv => whnf)
  (refine ⟨_, _, Blk.ldV (vs := [_, _, _, _, _, _, _, _, _, _, _, _, _]) (hp.get (i := 0) rfl) TTok rfl rfl rfl, ?_⟩; conv => whnf)
  (refine hp.kstA TTok rfl 2 rfl rfl (oneC_of rfl) (by rfl) fun w hp => ?_; try simp only [List.set_cons_zero, List.set_cons_succ, EV.val] at hp; conv => whnf)
  (refine hKq _ _ _ (.refl _) ?_; clear hKq Kq; conv => whnf)
  (refine ⟨_, Blk.lvN (hp.get (i := 2) rfl) TTok rfl rfl, ?_⟩; conv => whnf)
  rotate_left
  all_goals rw [if_neg (by rw [hgo]; decide)]
  all_goals first | (rw [if_neg (by simp [*])]; exact ⟨_, rfl, hp.ext, .nil⟩) | (rw [if_pos (by assumption), if_neg (by assumption)]; exact ⟨_, rfl, hp.ext, .nil⟩) | (rw [if_pos (by assumption), if_pos (by assumption)]; exact ⟨_, rfl, hp.ext, .nil⟩) | (rw [if_pos (by assumption), show yfresh = (⟨#[]⟩ : ByteArray) by assumption, if_pos rfl]; exact ⟨_, rfl, hp.ext, .nil⟩)
theorem Switch12_ok {W : World} {v : Value} (x : Wt) (hok : x.Ok) (hv : SLv W v (iv x.asked)) (now : Int) (sh th : ByteArray) (sp tp : Int) (hs : Ad.Ok ⟨sh, sp⟩) (ht : Ad.Ok ⟨th, tp⟩) (hw : wtB x = true) (hn : inB now x.now 1099511627776 = true) :
  Calls Tryz.prog 29 #[.agg (x.c v).toArray, .int .i64 now, .agg #[.string sh, .int .i64 sp, .string th, .int .i64 tp]] W fun e w' => ∃ u, e = .returned u ∧ ResW W w' u (swW x now ⟨sh, sp⟩ ⟨th, tp⟩).1 (swW x now ⟨sh, sp⟩ ⟨th, tp⟩).2 := by
 have hlen := wtB_len hw
 have hst : startN x now = 0 := by unfold startN; rw [hw, hn]; rfl
 have s1 := fun {W : World} (hv : SLv W v (iv x.asked)) => Errors_c (W := W) x hok hv now
 rw [hst] at s1
 have s2 := fun {W : World} (hv : SLv W v (iv x.asked)) => At12_c (W := W) x now hv (by omega)
 have hf := fits_at hok hw hn
 unfold swW
 dsimp only
 obtain ⟨y, hy⟩ : ∃ y, atW x now = y := ⟨_, rfl⟩
 rw [hy] at s2 hf ⊢
 clear hw hn hok hy hst
 obtain ⟨⟨ah, ap⟩, ⟨bh, bp⟩, now0, nxt, til, ser, gone, noise, word, fresh, asked⟩ := x
 dsimp only [Wt.c] at hv s1 s2 ⊢
 have hsl : (iv asked).length = asked.length := List.length_map _
 obtain ⟨p, c, rfl⟩ := hv.shape
 rw [hsl] at hv s1 s2 ⊢
 obtain ⟨⟨yah, yap⟩, ⟨ybh, ybp⟩, ynow, ynxt, ytil, yser, ygone, ynoise, yword, yfresh, yasked⟩ := y
 obtain ⟨f1, f2, f3, f4, f5, f6, f7⟩ := hf
 dsimp only at f1 f2 f3 f4 f5 f6 f7 s2 ⊢
 refine v_fn (args := [.agg #[.string ah, .int .i64 ap, .string bh, .int .i64 bp, .int .i64 now0, .int .i64 nxt, .int .i64 til, .int .i64 ser, _, .string noise, .string word, .string fresh, .slice p asked.length c], .int .i64 now, .agg #[.string sh, .int .i64 sp, .string th, .int .i64 tp]]) TTok FFok Tryz.func29 rfl (Nat.le_of_ble_eq_true rfl) ?_
 conv => whnf
 refine VSeq.mk fun Kq hKq => ?_
 conv => whnf
 have hp := Hp.nil W
 (refine hp.kboxA fun q w hp hx => ?_; conv => whnf)
 (refine hp.kboxA fun q w hp hx => ?_; conv => whnf)
 (refine hp.kalloc z34 fun al34 w hp hx => ?_; conv => whnf)
 (refine hKq _ _ _ (.refl _) ?_; clear hKq Kq; conv => whnf)
 (refine VSeq.mk fun Kq hKq => ?_; conv => whnf)
 (refine VSeq.mk fun Kq hKq => ?_; conv => whnf)
 (refine ⟨_, _, Blk.ldV (vs := [_, _, _, _, _, _, _, _, _, _, _, _, _]) (hp.get (i := 2) rfl) TTok rfl rfl rfl, ?_⟩; conv => whnf)
 refine V.CallsUse (s1 (hv.ext hp.ext)) fun w hx => ?_
 have hp := hp.call hx
 conv => whnf
 (refine hKq _ _ _ (.refl _) ?_; clear hKq Kq; conv => whnf)
 (refine VSeq.mk fun Kq hKq => ?_; conv => whnf)
 (refine hKq _ _ _ (.refl _) ?_; clear hKq Kq; conv => whnf)
 (refine And.intro (fun h => absurd (of_decide_eq_true h) (by first | (intro h2; exact absurd rfl h2) | omega | decide)) (fun _ => ?_); conv => whnf)
 (refine hKq _ _ _ (.refl _) ?_; clear hKq Kq; conv => whnf)
 (refine VSeq.mk fun Kq hKq => ?_; conv => whnf)
 (refine ⟨_, _, Blk.ldV (vs := [_, _, _, _, _, _, _, _, _, _, _, _, _]) (hp.get (i := 2) rfl) TTok rfl rfl rfl, ?_⟩; conv => whnf)
 refine Calls.mono (s2 (hv.ext hp.ext)) ?_
 rintro _ w ⟨_, rfl, v', rfl, k2⟩
 refine ⟨_, rfl, ?_⟩
 have hp := hp.join k2
 simp only [List.cons_append, List.nil_append] at hp
 obtain ⟨pu, cu, rfl⟩ := row_shape (hp.get (i := 0) rfl)
 clear s1 s2 hv k2
 conv => whnf
 (refine hp.kstA TTok rfl 3 rfl rfl (oneC_of rfl) (by rfl) fun w hp => ?_; try simp only [List.set_cons_zero, List.set_cons_succ, EV.val] at hp; conv => whnf)
 (refine hKq _ _ _ (.refl _) ?_; clear hKq Kq; conv => whnf)
 (refine VSeq.mk fun Kq hKq => ?_; conv => whnf)
 (refine VSeq.mk fun Kq hKq => ?_; conv => whnf)
 (refine ⟨_, _, Blk.ld (hp.get (i := 3) rfl) TTok rfl rfl, ?_⟩; conv => whnf)
 (refine hKq _ _ _ (.refl _) ?_; clear hKq Kq; conv => whnf)
 refine ⟨fun hgo => ?_, fun hgo => ?_⟩
 ·conv => whnf
  (refine VSeq.mk fun Kq hKq => ?_; conv => whnf)
  (refine ⟨_, _, bld34_ _, ?_⟩; conv => whnf)
  (refine hp.kstA TTok rfl 1 rfl rfl (oneC_of rfl) (by rfl) fun w hp => ?_; try simp only [List.set_cons_zero, List.set_cons_succ, EV.val] at hp; conv => whnf)
  (refine hKq _ _ _ (.refl _) ?_; clear hKq Kq; conv => whnf)
  (refine ⟨_, Blk.lvN (hp.get (i := 1) rfl) TTok rfl rfl, ?_⟩; conv => whnf)
  rw [if_pos hgo]
  exact ⟨_, rfl, hp.ext, .nil⟩
 ·conv => whnf
  (refine hKq _ _ _ (.refl _) ?_; clear hKq Kq; conv => whnf)
  (refine VSeq.mk fun Kq hKq => ?_; conv => whnf)
  (refine VSeq.mk fun Kq hKq => ?_; conv => whnf)
  (refine ⟨_, _, Blk.ldV (vs := [_, _, _, _]) (hp.get (i := 2) rfl) TTok rfl rfl rfl, ?_⟩; conv => whnf)
  (refine V.CallW.out ?_; (conv => arg 3; dsimp only [EV.val, List.toList_toArray, List.nil_append, List.append_nil, List.cons_append]); (with_reducible refine V.PureF.useW (path12_p _ _ _ _ (by assumption) (by assumption)) fun w hx => ?_); try (have hp := hp.call hx); conv => whnf)
  (refine hKq _ _ _ (.refl _) ?_; clear hKq Kq; conv => whnf)
  (refine ⟨fun hd => ?_, fun hd => ?_⟩ <;> (try simp only [Bool.not_eq_true', Bool.not_eq_false', decide_eq_true_eq, decide_eq_false_iff_not, ne_eq, Classical.not_not] at hd) <;> (conv => whnf))
  (refine VSeq.mk fun Kq hKq => ?_; conv => whnf)
  (refine ⟨_, _, bld34_ _, ?_⟩; conv => whnf)
  (refine hp.kstA TTok rfl 1 rfl rfl (oneC_of rfl) (by rfl) fun w hp => ?_; try simp only [List.set_cons_zero, List.set_cons_succ, EV.val] at hp; conv => whnf)
  (refine hKq _ _ _ (.refl _) ?_; clear hKq Kq; conv => whnf)
  (refine ⟨_, Blk.lvN (hp.get (i := 1) rfl) TTok rfl rfl, ?_⟩; conv => whnf)
  rotate_left
  (refine hKq _ _ _ (.refl _) ?_; clear hKq Kq; conv => whnf)
  (refine VSeq.mk fun Kq hKq => ?_; conv => whnf)
  (refine ⟨_, _, Blk.ldV (vs := [_, _, _, _]) (hp.get (i := 2) rfl) TTok rfl rfl rfl, ?_⟩; conv => whnf)
  (refine hp.kstP TTok rfl 3 rfl (vs := [_, _, _, _]) rfl (oneC_of rfl) (Nat.le_of_ble_eq_true rfl) rfl fun w hp => ?_; try simp only [List.take_succ_cons, List.take_zero, List.drop_succ_cons, List.drop_zero, List.cons_append, List.nil_append, List.set_cons_zero, List.set_cons_succ, EV.val] at hp; conv => whnf)
  (refine hKq _ _ _ (.refl _) ?_; clear hKq Kq; conv => whnf)
  (refine VSeq.mk fun Kq hKq => ?_; conv => whnf)
  (refine hp.kst1 TTok (by rfl) 3 (by rfl) (by rfl) (by rfl) (Nat.le_of_ble_eq_true rfl) fun w hp => ?_; try simp only [List.set_cons_zero, List.set_cons_succ, EV.val] at hp; conv => whnf)
  (refine hKq _ _ _ (.refl _) ?_; clear hKq Kq; conv => whnf)
  (refine VSeq.mk fun Kq hKq => ?_; conv => whnf)
  (refine Or.inl (And.intro (by first | omega | decide) ?_); conv => whnf)
  (refine hp.kst1 TTok (by rfl) 3 (by rfl) (by rfl) (by rfl) (Nat.le_of_ble_eq_true rfl) fun w hp => ?_; try simp only [List.set_cons_zero, List.set_cons_succ, EV.val] at hp; conv => whnf)
  (refine hKq _ _ _ (.refl _) ?_; clear hKq Kq; conv => whnf)
  (refine VSeq.mk fun Kq hKq => ?_; conv => whnf)
  (refine VSeq.mk fun Kq hKq => ?_; conv => whnf)
  (refine ⟨_, _, Blk.ld (hp.get (i := 3) rfl) TTok rfl rfl, ?_⟩; conv => whnf)
  (refine hKq _ _ _ (.refl _) ?_; clear hKq Kq; conv => whnf)
  (refine ⟨fun hd => ?_, fun hd => ?_⟩ <;> (try simp only [Bool.not_eq_true', Bool.not_eq_false', decide_eq_true_eq, decide_eq_false_iff_not, ne_eq, Classical.not_not] at hd) <;> (conv => whnf))
  (refine VSeq.mk fun Kq hKq => ?_; conv => whnf)
  (refine ⟨_, _, Blk.ld (hp.get (i := 3) rfl) TTok rfl rfl, ?_⟩; conv => whnf)
  (refine hp.kst1 TTok (by rfl) 3 (by rfl) (by rfl) (by rfl) (Nat.le_of_ble_eq_true rfl) fun w hp => ?_; try simp only [List.set_cons_zero, List.set_cons_succ, EV.val] at hp; conv => whnf)
  (refine hKq _ _ _ (.refl _) ?_; clear hKq Kq; conv => whnf)
  (refine hp.kst1 TTok (by rfl) 3 (by rfl) (by rfl) (by rfl) (Nat.le_of_ble_eq_true rfl) fun w hp => ?_; try simp only [List.set_cons_zero, List.set_cons_succ, EV.val] at hp; conv => whnf)
  (refine hKq _ _ _ (.refl _) ?_; clear hKq Kq; conv => whnf)
  (refine VSeq.mk fun Kq hKq => ?_; conv => whnf)
  (refine ⟨_, _, Blk.ldV (vs := [_, _, _, _, _, _, _, _, _, _, _, _, _]) (hp.get (i := 3) rfl) TTok rfl rfl rfl, ?_⟩; conv => whnf)
  (refine hp.kstA TTok rfl 1 rfl rfl (oneC_of rfl) (by rfl) fun w hp => ?_; try simp only [List.set_cons_zero, List.set_cons_succ, EV.val] at hp; conv => whnf)
  (refine hKq _ _ _ (.refl _) ?_; clear hKq Kq; conv => whnf)
  (refine ⟨_, Blk.lvN (hp.get (i := 1) rfl) TTok rfl rfl, ?_⟩; conv => whnf)
  rotate_left
  (refine hKq _ _ _ (.refl _) ?_; clear hKq Kq; conv => whnf)
  (refine VSeq.mk fun Kq hKq => ?_; conv => whnf)
  (refine ⟨_, _, Blk.ldV (vs := [_, _, _, _, _, _, _, _, _, _, _, _, _]) (hp.get (i := 3) rfl) TTok rfl rfl rfl, ?_⟩; conv => whnf)
  (refine hp.kstA TTok rfl 1 rfl rfl (oneC_of rfl) (by rfl) fun w hp => ?_; try simp only [List.set_cons_zero, List.set_cons_succ, EV.val] at hp; conv => whnf)
  (refine hKq _ _ _ (.refl _) ?_; clear hKq Kq; conv => whnf)
  (refine ⟨_, Blk.lvN (hp.get (i := 1) rfl) TTok rfl rfl, ?_⟩; conv => whnf)
  rotate_left
  all_goals rw [if_neg (by rw [hgo]; decide)]
  all_goals first | (rw [if_neg (by simp [*])]; exact ⟨_, rfl, hp.ext, .nil⟩) | (rw [if_pos (by assumption), if_neg (by assumption)]; exact ⟨_, rfl, hp.ext, .nil⟩) | (rw [if_pos (by assumption), if_pos (by assumption)]; exact ⟨_, rfl, hp.ext, .nil⟩) | (rw [if_pos (by assumption), show yfresh = (⟨#[]⟩ : ByteArray) by assumption, if_pos rfl]; exact ⟨_, rfl, hp.ext, .nil⟩)
set_option maxHeartbeats 1600000
structure Hop3.Ok (h : Hop3) : Prop where
 f : h.1.Ok
 t : h.2.1.Ok
 p : h.2.2.Ok
theorem Hear_bad0 {W : World} {v : Value} (x : Wt) (hok : x.Ok) (hv : SLv W v (iv x.asked)) (now : Int) (h : Hop3) (hs : startN x now ≠ 0) :
  Calls Tryz.prog 24 #[.agg (x.c v).toArray, .int .i64 now, .agg (hopF h).toArray] W fun e w' => e = .returned (.tuple #[.agg (zW.c (.slice none 0 0)).toArray, .slice none 0 0, .int .i64 (startN x now)]) ∧ Ext W w' := by
 have s1 : ∀ {W : World}, SLv W v (iv x.asked) → Calls Tryz.prog 40 #[.agg (x.c v).toArray, .int .i64 now] W fun e w' => e = .returned (.tuple #[.pointer none, .int .i64 (startN x now)]) ∧ Ext W w' := fun {W} hv => by
  unfold startN at hs ⊢
  cases hw : wtB x with
  | false => exact start_v x hok hv now hw
  | true =>
   rw [hw] at hs
   cases hi : inB now x.now 1099511627776 with
   | false => exact start_n x hok hv now hw hi
   | true => rw [hi] at hs; exact absurd rfl hs
 obtain ⟨N, hN⟩ : ∃ N, startN x now = N := ⟨_, rfl⟩
 rw [hN] at s1 hs ⊢
 clear hN hok
 obtain ⟨⟨ah, ap⟩, ⟨bh, bp⟩, now0, nxt, til, ser, gone, noise, word, fresh, asked⟩ := x
 obtain ⟨⟨fh, fp⟩, ⟨th, tp⟩, k, id, pr, ct, ti, no, ⟨mh, mp⟩⟩ := h
 dsimp only [Wt.c, hopF, hopC] at hv s1 ⊢
 have hsl : (iv asked).length = asked.length := List.length_map _
 obtain ⟨p, c, rfl⟩ := hv.shape
 rw [hsl] at hv s1 ⊢
 refine v_reads (args := [.agg #[.string ah, .int .i64 ap, .string bh, .int .i64 bp, .int .i64 now0, .int .i64 nxt, .int .i64 til, .int .i64 ser, _, .string noise, .string word, .string fresh, .slice p asked.length c], .int .i64 now, .agg #[.string fh, .int .i64 fp, .string th, .int .i64 tp, .int .i64 k, .int .i64 id, .int .i64 pr, .bool ct, .int .i64 ti, .bool no, .string mh, .int .i64 mp]]) TTok FFok Tryz.func24 rfl rfl ?_
 conv => whnf
 refine VSeq.mk fun Kq hKq => ?_
 conv => whnf
 have hp := Hp.nil W
 refine hp.kboxA fun q3 w hp hx => ?_
 conv => whnf
 refine hp.kboxA fun q5 w hp hx => ?_
 conv => whnf
 (refine hp.kalloc z34 fun al34 w hp hx => ?_; conv => whnf)
 (refine hKq _ _ _ (.refl _) ?_; clear hKq Kq; conv => whnf)
 (refine VSeq.mk fun Kq hKq => ?_; conv => whnf)
 (refine ⟨_, _, Blk.ldV (vs := [_, _, _, _, _, _, _, _, _, _, _, _, _]) (hp.get (i := 2) rfl) TTok rfl rfl rfl, ?_⟩; conv => whnf)
 refine V.CallsUse (s1 (hv.ext hp.ext)) fun w hx => ?_
 have hp := hp.call hx
 conv => whnf
 (refine hKq _ _ _ (.refl _) ?_; clear hKq Kq; conv => whnf)
 (refine VSeq.mk fun Kq hKq => ?_; conv => whnf)
 (refine VSeq.mk fun Kq hKq => ?_; conv => whnf)
 (refine hKq _ _ _ (.refl _) ?_; clear hKq Kq; conv => whnf)
 (refine And.intro (fun _ => ?_) (fun h => absurd (by first | rfl | assumption | omega | decide) (of_decide_eq_false h)); conv => whnf)
 (refine VSeq.mk fun Kq hKq => ?_; conv => whnf)
 (refine ⟨_, _, bld34_ _, ?_⟩; conv => whnf)
 (refine hp.kstA TTok rfl 0 rfl rfl (oneC_of rfl) (by rfl) fun w hp => ?_; try simp only [List.set_cons_zero, List.set_cons_succ, EV.val] at hp; conv => whnf)
 (refine hKq _ _ _ (.refl _) ?_; clear hKq Kq; conv => whnf)
 (refine ⟨_, Blk.lvN (hp.get (i := 0) rfl) TTok rfl rfl, ?_⟩; conv => whnf)
 (exact ⟨rfl, hp.ext⟩)
theorem Hear_bad1 {W : World} {v : Value} (x : Wt) (hok : x.Ok) (hv : SLv W v (iv x.asked)) (now : Int) (h : Hop3) (hho : h.Ok) (hw : wtB x = true) (hn : inB now x.now 1099511627776 = true) (hpb : probeB h.2.2 = false) :
  Calls Tryz.prog 24 #[.agg (x.c v).toArray, .int .i64 now, .agg (hopF h).toArray] W fun e w' => e = .returned (.tuple #[.agg (zW.c (.slice none 0 0)).toArray, .slice none 0 0, .int .i64 110]) ∧ Ext W w' := by
 have hlen := wtB_len hw
 have s1 := fun {W : World} (hv : SLv W v (iv x.asked)) => start_t (W := W) x hok hv now hw hn (by omega)
 have pc := fun {W : World} => probe_c (W := W) h.2.2 hho.p
 rw [hpb] at pc
 clear hw hn hpb hho hok
 obtain ⟨⟨ah, ap⟩, ⟨bh, bp⟩, now0, nxt, til, ser, gone, noise, word, fresh, asked⟩ := x
 obtain ⟨⟨fh, fp⟩, ⟨th, tp⟩, k, id, pr, ct, ti, no, ⟨mh, mp⟩⟩ := h
 dsimp only [Wt.c, hopF, hopC] at hv s1 pc ⊢
 have hsl : (iv asked).length = asked.length := List.length_map _
 obtain ⟨p, c, rfl⟩ := hv.shape
 rw [hsl] at hv s1 ⊢
 refine v_reads (args := [.agg #[.string ah, .int .i64 ap, .string bh, .int .i64 bp, .int .i64 now0, .int .i64 nxt, .int .i64 til, .int .i64 ser, _, .string noise, .string word, .string fresh, .slice p asked.length c], .int .i64 now, .agg #[.string fh, .int .i64 fp, .string th, .int .i64 tp, .int .i64 k, .int .i64 id, .int .i64 pr, .bool ct, .int .i64 ti, .bool no, .string mh, .int .i64 mp]]) TTok FFok Tryz.func24 rfl rfl ?_
 conv => whnf
 refine VSeq.mk fun Kq hKq => ?_
 conv => whnf
 have hp := Hp.nil W
 refine hp.kboxA fun q3 w hp hx => ?_
 conv => whnf
 refine hp.kboxA fun q5 w hp hx => ?_
 conv => whnf
 (refine hp.kalloc z34 fun al34 w hp hx => ?_; conv => whnf)
 (refine hKq _ _ _ (.refl _) ?_; clear hKq Kq; conv => whnf)
 (refine VSeq.mk fun Kq hKq => ?_; conv => whnf)
 (refine ⟨_, _, Blk.ldV (vs := [_, _, _, _, _, _, _, _, _, _, _, _, _]) (hp.get (i := 2) rfl) TTok rfl rfl rfl, ?_⟩; conv => whnf)
 refine Calls.mono (s1 (hv.ext hp.ext)) ?_
 rintro _ w ⟨_, rfl, q, u, rfl, k2⟩
 refine ⟨_, rfl, ?_⟩
 have hp := hp.join k2
 simp only [List.cons_append, List.nil_append] at hp
 obtain ⟨pu, cu, rfl⟩ := row_shape (hp.get (i := 1) rfl)
 try dsimp only [gC] at hp
 conv => whnf
 clear s1
 (refine hKq _ _ _ (.refl _) ?_; clear hKq Kq; conv => whnf)
 (refine VSeq.mk fun Kq hKq => ?_; conv => whnf)
 (refine VSeq.mk fun Kq hKq => ?_; conv => whnf)
 (refine hKq _ _ _ (.refl _) ?_; clear hKq Kq; conv => whnf)
 (refine And.intro (fun h => absurd (of_decide_eq_true h) (by first | (intro h2; exact absurd rfl h2) | omega | decide)) (fun _ => ?_); conv => whnf)
 (refine VSeq.mk fun Kq hKq => ?_; conv => whnf)
 (refine ⟨_, _, Blk.ldV (vs := [_, _, _, _, _, _, _, _]) (hp.get (i := 3) rfl) TTok rfl rfl rfl, ?_⟩; conv => whnf)
 refine V.CallsUse pc fun w hx => ?_
 have hp := hp.call hx
 conv => whnf
 clear pc
 (refine hKq _ _ _ (.refl _) ?_; clear hKq Kq; conv => whnf)
 (refine And.intro (fun _ => ?_) (fun h => absurd h (by decide)); conv => whnf)
 (refine VSeq.mk fun Kq hKq => ?_; conv => whnf)
 (refine ⟨_, _, bld34_ _, ?_⟩; conv => whnf)
 (refine hp.kstA TTok rfl 2 rfl rfl (oneC_of rfl) (by rfl) fun w hp => ?_; try simp only [List.set_cons_zero, List.set_cons_succ, EV.val] at hp; conv => whnf)
 (refine hKq _ _ _ (.refl _) ?_; clear hKq Kq; conv => whnf)
 (refine ⟨_, Blk.lvN (hp.get (i := 2) rfl) TTok rfl rfl, ?_⟩; conv => whnf)
 (exact ⟨rfl, hp.ext⟩)
theorem Hear_bad2 {W : World} {v : Value} (x : Wt) (hok : x.Ok) (hv : SLv W v (iv x.asked)) (now : Int) (h : Hop3) (hho : h.Ok) (hw : wtB x = true) (hn : inB now x.now 1099511627776 = true) (hpb : probeB h.2.2 = true) (hne : ¬ (h.2.1 = x.a ∧ h.1 = x.b)) :
  Calls Tryz.prog 24 #[.agg (x.c v).toArray, .int .i64 now, .agg (hopF h).toArray] W fun e w' => e = .returned (.tuple #[.agg (zW.c (.slice none 0 0)).toArray, .slice none 0 0, .int .i64 2]) ∧ Ext W w' := by
 have hlen := wtB_len hw
 have s1 := fun {W : World} (hv : SLv W v (iv x.asked)) => start_t (W := W) x hok hv now hw hn (by omega)
 have pc := fun {W : World} => probe_c (W := W) h.2.2 hho.p
 rw [hpb] at pc
 have pe := fun w xo yo => (pa_eq w h.2.1 h.1 x.a x.b hho.t hho.f hok.a hok.b xo yo).2
 rw [decide_eq_false hne] at pe
 clear hw hn hpb hho hok
 obtain ⟨⟨ah, ap⟩, ⟨bh, bp⟩, now0, nxt, til, ser, gone, noise, word, fresh, asked⟩ := x
 obtain ⟨⟨fh, fp⟩, ⟨th, tp⟩, k, id, pr, ct, ti, no, ⟨mh, mp⟩⟩ := h
 dsimp only [Wt.c, hopF, hopC] at hv s1 pc pe ⊢
 have hsl : (iv asked).length = asked.length := List.length_map _
 obtain ⟨p, c, rfl⟩ := hv.shape
 rw [hsl] at hv s1 ⊢
 refine v_reads (args := [.agg #[.string ah, .int .i64 ap, .string bh, .int .i64 bp, .int .i64 now0, .int .i64 nxt, .int .i64 til, .int .i64 ser, _, .string noise, .string word, .string fresh, .slice p asked.length c], .int .i64 now, .agg #[.string fh, .int .i64 fp, .string th, .int .i64 tp, .int .i64 k, .int .i64 id, .int .i64 pr, .bool ct, .int .i64 ti, .bool no, .string mh, .int .i64 mp]]) TTok FFok Tryz.func24 rfl rfl ?_
 conv => whnf
 refine VSeq.mk fun Kq hKq => ?_
 conv => whnf
 have hp := Hp.nil W
 refine hp.kboxA fun q3 w hp hx => ?_
 conv => whnf
 refine hp.kboxA fun q5 w hp hx => ?_
 conv => whnf
 (refine hp.kalloc z34 fun al34 w hp hx => ?_; conv => whnf)
 (refine hKq _ _ _ (.refl _) ?_; clear hKq Kq; conv => whnf)
 (refine VSeq.mk fun Kq hKq => ?_; conv => whnf)
 (refine ⟨_, _, Blk.ldV (vs := [_, _, _, _, _, _, _, _, _, _, _, _, _]) (hp.get (i := 2) rfl) TTok rfl rfl rfl, ?_⟩; conv => whnf)
 refine Calls.mono (s1 (hv.ext hp.ext)) ?_
 rintro _ w ⟨_, rfl, q, u, rfl, k2⟩
 refine ⟨_, rfl, ?_⟩
 have hp := hp.join k2
 simp only [List.cons_append, List.nil_append] at hp
 obtain ⟨pu, cu, rfl⟩ := row_shape (hp.get (i := 1) rfl)
 try dsimp only [gC] at hp
 conv => whnf
 clear s1
 (refine hKq _ _ _ (.refl _) ?_; clear hKq Kq; conv => whnf)
 (refine VSeq.mk fun Kq hKq => ?_; conv => whnf)
 (refine VSeq.mk fun Kq hKq => ?_; conv => whnf)
 (refine hKq _ _ _ (.refl _) ?_; clear hKq Kq; conv => whnf)
 (refine And.intro (fun h => absurd (of_decide_eq_true h) (by first | (intro h2; exact absurd rfl h2) | omega | decide)) (fun _ => ?_); conv => whnf)
 (refine VSeq.mk fun Kq hKq => ?_; conv => whnf)
 (refine ⟨_, _, Blk.ldV (vs := [_, _, _, _, _, _, _, _]) (hp.get (i := 3) rfl) TTok rfl rfl rfl, ?_⟩; conv => whnf)
 refine V.CallsUse pc fun w hx => ?_
 have hp := hp.call hx
 conv => whnf
 clear pc
 (refine hKq _ _ _ (.refl _) ?_; clear hKq Kq; conv => whnf)
 (refine And.intro (fun h => absurd h (by decide)) (fun _ => ?_); conv => whnf)
 (refine VSeq.mk fun Kq hKq => ?_; conv => whnf)
 (refine ⟨_, _, Blk.ldV (vs := [_, _]) (hp.get (i := 3) rfl) TTok rfl rfl rfl, ?_⟩; conv => whnf)
 (refine ⟨_, _, Blk.ldV (vs := [_, _]) (hp.get (i := 3) rfl) TTok rfl rfl rfl, ?_⟩; conv => whnf)
 (refine ⟨_, _, bld31_0_1 _ _ _ _ _, ?_⟩; conv => whnf)
 (refine ⟨_, _, Blk.ldV (vs := [_, _, _, _]) (hp.get (i := 4) rfl) TTok rfl rfl rfl, ?_⟩; conv => whnf)
 refine ⟨_, _, pe w _ _, ?_⟩
 conv => whnf
 refine hKq _ _ _ (.refl _) ?_
 clear hKq Kq
 conv => whnf
 (refine And.intro (fun _ => ?_) (fun h => absurd h (by decide)); conv => whnf)
 (refine VSeq.mk fun Kq hKq => ?_; conv => whnf)
 (refine ⟨_, _, bld34_ _, ?_⟩; conv => whnf)
 (refine hp.kstA TTok rfl 2 rfl rfl (oneC_of rfl) (by rfl) fun w hp => ?_; try simp only [List.set_cons_zero, List.set_cons_succ, EV.val] at hp; conv => whnf)
 (refine hKq _ _ _ (.refl _) ?_; clear hKq Kq; conv => whnf)
 (refine ⟨_, Blk.lvN (hp.get (i := 2) rfl) TTok rfl rfl, ?_⟩; conv => whnf)
 (exact ⟨rfl, hp.ext⟩)
/-- the program's answer to a probe -/
def hearW (x : Wt) (now : Int) (h : Hop3) : Wt × List Hop3 :=
 let y := atW x now
 if y.gone then (y, []) else
 if h.2.2.k = 1 then (y, [(y.a, y.b, p2 h.2.2.id h.1)]) else
 if h.2.2.k = 2 then (match afterL h.2.2.id y.asked with
  | some r => ({ y with asked := r, til := now + 30000 }, [])
  | none => (y, [])) else (y, [])
theorem t_map : Tryz.prog.underlying 100 = some (.map 3 99) := by kernel_rfl
theorem t_int : Tryz.prog.underlying 3 = some (.int .i64) := by kernel_rfl
theorem z_fun (w : World) : (zeroValue 99).run Tryz.prog w = .ok .nilFunc w := by kernel_rfl
theorem look_1 {w : World} {b : Nat} {f g : Value} {k : Int} (h : MPs w b [(1, f), (2, g)]) (hk : k = 1) : (Instr.lookup 100 (.map (some b)) (.int .i64 k) true).run Tryz.prog w = .ok (.tuple #[f, .bool true]) w := by
 subst hk
 exact h.look t_map t_int (z_fun w) 1 true
theorem look_2 {w : World} {b : Nat} {f g : Value} {k : Int} (h : MPs w b [(1, f), (2, g)]) (hk : k = 2) : (Instr.lookup 100 (.map (some b)) (.int .i64 k) true).run Tryz.prog w = .ok (.tuple #[g, .bool true]) w := by
 subst hk
 exact h.look t_map t_int (z_fun w) 2 true
theorem look_x {w : World} {b : Nat} {f g : Value} {k : Int} (h : MPs w b [(1, f), (2, g)]) (h1 : k ≠ 1) (h2 : k ≠ 2) : (Instr.lookup 100 (.map (some b)) (.int .i64 k) true).run Tryz.prog w = .ok (.tuple #[.nilFunc, .bool false]) w := by
 rw [h.look t_map t_int (z_fun w) k true]
 simp [List.find?_cons, decide_eq_false (Ne.symm h1), decide_eq_false (Ne.symm h2)]
/-- at, whatever comes of it -/
theorem at_c {M : List Nat} {w0 w : World} {H : List It} {q n : Nat} {v out : Value} (x : Wt) (now : Int) (hp : HpM M w0 w (blk q (gC x v out) 87 :: row 3 1 v n (iv x.asked) :: H)) :
  Calls Tryz.prog 44 #[.pointer (some ⟨q, 0, none⟩), .int .i64 now] w fun e w' => ∃ u, e = .returned u ∧ ∃ v', (∀ {W2} w2, SLw W2 w2 v (iv x.asked) → SLw W2 w2 v' (iv (atW x now).asked)) ∧ HpM M w0 w' (blk q (gC (atW x now) v' out) 87 :: row 3 1 v n (iv x.asked) :: H) := by
 cases hg : goesB x now with
 | true =>
  refine Calls.mono (at_t x now hg hp) ?_
  rintro _ w ⟨u, rfl, hp⟩
  exact ⟨_, rfl, _, fun w2 _ => by rw [atW_t hg]; exact .nil, hp⟩
 | false =>
  refine Calls.mono (at_f x now hg hp) ?_
  rintro _ w ⟨u, rfl, hp⟩
  exact ⟨_, rfl, _, fun w2 h => by rw [atW_f hg]; exact h, hp⟩
set_option maxHeartbeats 16000000 in
theorem Hear_ok {W : World} {v : Value} (x : Wt) (hok : x.Ok) (hv : SLv W v (iv x.asked)) (now : Int) (h : Hop3) (hho : h.Ok) (hw : wtB x = true) (hn : inB now x.now 1099511627776 = true) (hpb : probeB h.2.2 = true) (heq : h.2.1 = x.a ∧ h.1 = x.b) :
  Calls Tryz.prog 24 #[.agg (x.c v).toArray, .int .i64 now, .agg (hopF h).toArray] W fun e w' => ∃ u, e = .returned u ∧ ResT W w' u (hearW x now h).1 (hearW x now h).2 := by
 have hlen := wtB_len hw
 have s1 := fun {W : World} (hv : SLv W v (iv x.asked)) => start_t (W := W) x hok hv now hw hn (by omega)
 have pc := fun {W : World} => probe_c (W := W) h.2.2 hho.p
 rw [hpb] at pc
 have pe := fun w xo yo => (pa_eq w h.2.1 h.1 x.a x.b hho.t hho.f hok.a hok.b xo yo).2
 rw [decide_eq_true heq] at pe
 have a1 := fun (M : List Nat) (w0 w : World) (H : List It) (q n : Nat) (u : Value) hp => at_c (M := M) (w0 := w0) (w := w) (H := H) (q := q) (n := n) (v := u) (out := .slice none 0 0) x now hp
 have hf := fits_at hok hw hn
 have hyn : (atW x now).now = now := by
  cases hg : goesB x now with
  | true => rw [atW_t hg]
  | false => rw [atW_f hg]
 unfold hearW
 dsimp only
 obtain ⟨y, hy⟩ : ∃ y, atW x now = y := ⟨_, rfl⟩
 rw [hy] at a1 hf hyn ⊢
 clear hw hn hpb hho hok heq hy
 obtain ⟨⟨ah, ap⟩, ⟨bh, bp⟩, now0, nxt, til, ser, gone, noise, word, fresh, asked⟩ := x
 obtain ⟨⟨fh, fp⟩, ⟨th, tp⟩, k, id, pr, ct, ti, no, ⟨mh, mp⟩⟩ := h
 dsimp only [Wt.c, hopF, hopC] at hv s1 pc pe a1 ⊢
 have hsl : (iv asked).length = asked.length := List.length_map _
 obtain ⟨p, c, rfl⟩ := hv.shape
 rw [hsl] at hv s1 ⊢
 obtain ⟨⟨yah, yap⟩, ⟨ybh, ybp⟩, ynow, ynxt, ytil, yser, ygone, ynoise, yword, yfresh, yasked⟩ := y
 obtain ⟨f1, f2, f3, f4, f5, f6, f7⟩ := hf
 dsimp only at f1 f2 f3 f4 f5 f6 f7 a1 hyn ⊢
 obtain rfl := hyn.symm
 refine v_fn (args := [.agg #[.string ah, .int .i64 ap, .string bh, .int .i64 bp, .int .i64 now0, .int .i64 nxt, .int .i64 til, .int .i64 ser, _, .string noise, .string word, .string fresh, .slice p asked.length c], .int .i64 now, .agg #[.string fh, .int .i64 fp, .string th, .int .i64 tp, .int .i64 k, .int .i64 id, .int .i64 pr, .bool ct, .int .i64 ti, .bool no, .string mh, .int .i64 mp]]) TTok FFok Tryz.func24 rfl (Nat.le_of_ble_eq_true rfl) ?_
 conv => whnf
 refine VSeq.mk fun Kq hKq => ?_
 conv => whnf
 have hp := Hp.nil W
 refine hp.kboxA fun q3 w hp hx => ?_
 conv => whnf
 refine hp.kboxA fun q5 w hp hx => ?_
 conv => whnf
 (refine hp.kalloc z34 fun al34 w hp hx => ?_; conv => whnf)
 (refine hKq _ _ _ (.refl _) ?_; clear hKq Kq; conv => whnf)
 (refine VSeq.mk fun Kq hKq => ?_; conv => whnf)
 (refine ⟨_, _, Blk.ldV (vs := [_, _, _, _, _, _, _, _, _, _, _, _, _]) (hp.get (i := 2) rfl) TTok rfl rfl rfl, ?_⟩; conv => whnf)
 refine Calls.mono (s1 (hv.ext hp.ext)) ?_
 rintro _ w ⟨_, rfl, q, u, rfl, k2⟩
 refine ⟨_, rfl, ?_⟩
 have hp := hp.join k2
 simp only [List.cons_append, List.nil_append] at hp
 obtain ⟨pu, cu, rfl⟩ := row_shape (hp.get (i := 1) rfl)
 try dsimp only [gC] at hp
 conv => whnf
 clear s1
 (refine hKq _ _ _ (.refl _) ?_; clear hKq Kq; conv => whnf)
 (refine VSeq.mk fun Kq hKq => ?_; conv => whnf)
 (refine VSeq.mk fun Kq hKq => ?_; conv => whnf)
 (refine hKq _ _ _ (.refl _) ?_; clear hKq Kq; conv => whnf)
 (refine And.intro (fun h => absurd (of_decide_eq_true h) (by first | (intro h2; exact absurd rfl h2) | omega | decide)) (fun _ => ?_); conv => whnf)
 (refine VSeq.mk fun Kq hKq => ?_; conv => whnf)
 (refine ⟨_, _, Blk.ldV (vs := [_, _, _, _, _, _, _, _]) (hp.get (i := 3) rfl) TTok rfl rfl rfl, ?_⟩; conv => whnf)
 refine V.CallsUse pc fun w hx => ?_
 have hp := hp.call hx
 conv => whnf
 clear pc
 (refine hKq _ _ _ (.refl _) ?_; clear hKq Kq; conv => whnf)
 (refine And.intro (fun h => absurd h (by decide)) (fun _ => ?_); conv => whnf)
 (refine VSeq.mk fun Kq hKq => ?_; conv => whnf)
 (refine ⟨_, _, Blk.ldV (vs := [_, _]) (hp.get (i := 3) rfl) TTok rfl rfl rfl, ?_⟩; conv => whnf)
 (refine ⟨_, _, Blk.ldV (vs := [_, _]) (hp.get (i := 3) rfl) TTok rfl rfl rfl, ?_⟩; conv => whnf)
 (refine ⟨_, _, bld31_0_1 _ _ _ _ _, ?_⟩; conv => whnf)
 (refine ⟨_, _, Blk.ldV (vs := [_, _, _, _]) (hp.get (i := 4) rfl) TTok rfl rfl rfl, ?_⟩; conv => whnf)
 refine ⟨_, _, pe w _ _, ?_⟩
 conv => whnf
 refine hKq _ _ _ (.refl _) ?_
 clear hKq Kq
 conv => whnf
 (refine And.intro (fun h => absurd h (by decide)) (fun _ => ?_); conv => whnf)
 (refine hKq _ _ _ (.refl _) ?_; clear hKq Kq; conv => whnf)
 (refine VSeq.mk fun Kq hKq => ?_; conv => whnf)
 refine Calls.mono (a1 _ _ _ _ _ _ _ hp) ?_
 rintro _ w ⟨_, rfl, v1, hv1, hp⟩
 refine ⟨_, rfl, ?_⟩
 try dsimp only [gC] at hp
 obtain ⟨p1, c1, rfl⟩ := (hv1 w (SLw.row hp (i := 1) rfl)).shape
 conv => whnf
 clear a1
 (refine hKq _ _ _ (.refl _) ?_; clear hKq Kq; conv => whnf)
 (refine VSeq.mk fun Kq hKq => ?_; conv => whnf)
 refine hp.kmap fun bm w hp hx => ?_
 conv => whnf
 skip
 refine hp.kins t_map t_int 0 rfl rfl fun w hp => ?_
 simp only [List.set_cons_zero, List.nil_append] at hp
 conv => whnf
 skip
 refine hp.kins t_map t_int 0 rfl rfl fun w hp => ?_
 simp only [List.set_cons_zero, List.cons_append, List.nil_append] at hp
 conv => whnf
 (refine hKq _ _ _ (.refl _) ?_; clear hKq Kq; conv => whnf)
 (refine VSeq.mk fun Kq hKq => ?_; conv => whnf)
 (refine VSeq.mk fun Kq hKq => ?_; conv => whnf)
 (refine ⟨_, _, Blk.ld (hp.get (i := 4) rfl) TTok rfl rfl, ?_⟩; conv => whnf)
 have hml : yasked.length ≤ maxLen := by unfold maxLen; omega
 by_cases hk1 : k = 1
 ·refine ⟨_, _, look_1 (hp.get (i := 0) rfl) hk1, ?_⟩
  conv => whnf
  refine hKq _ _ _ (.refl _) ?_
  clear hKq Kq
  conv => whnf
  refine VSeq.mk fun Kq hKq => ?_
  conv => whnf
  refine VSeq.mk fun Kq hKq => ?_
  conv => whnf
  refine hKq _ _ _ (.refl _) ?_
  clear hKq Kq
  conv => whnf
  (refine And.intro (fun _ => ?_) (fun h => absurd h (by decide)); conv => whnf)
  (refine ⟨_, _, Blk.ld (hp.get (i := 1) rfl) TTok rfl rfl, ?_⟩; conv => whnf)
  (refine hKq _ _ _ (.refl _) ?_; clear hKq Kq; conv => whnf)
  refine ⟨fun hgo => ?_, fun hgo => ?_⟩
  ·have hgo : ygone = false := by simpa using hgo
   conv => whnf
   (refine ⟨_, _, Blk.ldV (vs := [_, _, _, _, _, _, _, _, _, _, _, _]) (hp.get (i := 4) rfl) TTok rfl rfl rfl, ?_⟩; conv => whnf)
   refine Calls.mono (asked_c ⟨⟨yah, yap⟩, ⟨ybh, ybp⟩, now, ynxt, ytil, yser, ygone, ynoise, yword, yfresh, yasked⟩ ⟨fh, fp⟩ ⟨th, tp⟩ ⟨k, id, pr, ct, ti, no, ⟨mh, mp⟩⟩ (hp.pick [1, 2, 3, 4, 5] (by decide))) ?_
   rintro _ w ⟨_, rfl, o, hp⟩
   refine ⟨_, rfl, ?_⟩
   dsimp only [gC] at hp
   obtain ⟨po, co, rfl⟩ := row_shape (hp.get (i := 1) rfl)
   conv => whnf
   (refine hKq _ _ _ (.refl _) ?_; clear hKq Kq; conv => whnf)
   (refine VSeq.mk fun Kq hKq => ?_; conv => whnf)
   have hcls := hp.pick [0] (by decide)
   simp only [List.filterMap_cons, List.filterMap_nil, List.getElem?_cons_zero, List.getElem?_cons_succ] at hcls
   refine v_mtC TTok FFok mixed _ hcls [] (.q 0 (.q 1 (.q 2 (.q 3 (.q 4 (.q 5 (.q 6 (.q 7 (.m 8 (.q 9 (.q 10 .nil))))))))))) (by kernel_rfl) ?_
   clear hcls
   conv => whnf
   (refine ⟨_, fun w' hc => Blk.ldV (vs := [_, _, _, _, _, _, _, _, _, _, _, _, _]) (hc.get (i := 0) rfl) TTok rfl rfl rfl, ?_⟩; conv => whnf)
   (refine ⟨_, fun w' hc => Blk.ld (hc.get (i := 0) rfl) TTok rfl rfl, ?_⟩; conv => whnf)
   (intro w hx; try (have hp := hp.call hx); conv => whnf)
   (refine hp.kstA TTok rfl 3 rfl rfl (oneC_of rfl) (by rfl) fun w hp => ?_; try simp only [List.set_cons_zero, List.set_cons_succ, EV.val] at hp; conv => whnf)
   (refine And.intro (fun _ => hp.pick [0] (by decide)) ?_; conv => whnf)
   (intro w hx; try (have hp := hp.call hx); conv => whnf)
   (refine hKq _ _ _ (.refl _) ?_; clear hKq Kq; conv => whnf)
   (refine ⟨_, Blk.lvN (hp.get (i := 3) rfl) TTok rfl rfl, ?_⟩; conv => whnf)
   rw [if_neg (by rw [hgo]; decide), if_pos hk1]
   exact ⟨_, _, rfl, hp.ext, hv1 _ (SLw.row hp (i := 2) rfl), HRw.one hp (i := 1) rfl⟩
  ·have hgo : ygone = true := by simpa using hgo
   conv => whnf
   (refine hKq _ _ _ (.refl _) ?_; clear hKq Kq; conv => whnf)
   (refine VSeq.mk fun Kq hKq => ?_; conv => whnf)
   have hcls := hp.pick [1] (by decide)
   simp only [List.filterMap_cons, List.filterMap_nil, List.getElem?_cons_zero, List.getElem?_cons_succ] at hcls
   refine v_mtC TTok FFok mixed _ hcls [] (.q 0 (.q 1 (.q 2 (.q 3 (.q 4 (.q 5 (.q 6 (.q 7 (.m 8 (.q 9 (.q 10 .nil))))))))))) (by kernel_rfl) ?_
   clear hcls
   conv => whnf
   (refine ⟨_, fun w' hc => Blk.ldV (vs := [_, _, _, _, _, _, _, _, _, _, _, _, _]) (hc.get (i := 0) rfl) TTok rfl rfl rfl, ?_⟩; conv => whnf)
   (refine ⟨_, fun w' hc => Blk.ld (hc.get (i := 0) rfl) TTok rfl rfl, ?_⟩; conv => whnf)
   (intro w hx; try (have hp := hp.call hx); conv => whnf)
   (refine hp.kstA TTok rfl 3 rfl rfl (oneC_of rfl) (by rfl) fun w hp => ?_; try simp only [List.set_cons_zero, List.set_cons_succ, EV.val] at hp; conv => whnf)
   (refine And.intro (fun _ => hp.pick [1] (by decide)) ?_; conv => whnf)
   (intro w hx; try (have hp := hp.call hx); conv => whnf)
   (refine hKq _ _ _ (.refl _) ?_; clear hKq Kq; conv => whnf)
   (refine ⟨_, Blk.lvN (hp.get (i := 3) rfl) TTok rfl rfl, ?_⟩; conv => whnf)
   rw [if_pos hgo]
   exact ⟨_, _, rfl, hp.ext, hv1 _ (SLw.row hp (i := 2) rfl), .nil⟩
 ·by_cases hk2 : k = 2
  ·refine ⟨_, _, look_2 (hp.get (i := 0) rfl) hk2, ?_⟩
   conv => whnf
   refine hKq _ _ _ (.refl _) ?_
   clear hKq Kq
   conv => whnf
   refine VSeq.mk fun Kq hKq => ?_
   conv => whnf
   refine VSeq.mk fun Kq hKq => ?_
   conv => whnf
   refine hKq _ _ _ (.refl _) ?_
   clear hKq Kq
   conv => whnf
   (refine And.intro (fun _ => ?_) (fun h => absurd h (by decide)); conv => whnf)
   (refine ⟨_, _, Blk.ld (hp.get (i := 1) rfl) TTok rfl rfl, ?_⟩; conv => whnf)
   (refine hKq _ _ _ (.refl _) ?_; clear hKq Kq; conv => whnf)
   refine ⟨fun hgo => ?_, fun hgo => ?_⟩
   ·have hgo : ygone = false := by simpa using hgo
    conv => whnf
    (refine ⟨_, _, Blk.ldV (vs := [_, _, _, _, _, _, _, _, _, _, _, _]) (hp.get (i := 4) rfl) TTok rfl rfl rfl, ?_⟩; conv => whnf)
    have hsv := hv1 w (SLw.row hp (i := 2) rfl)
    cases hr : afterL id yasked with
    | none =>
     refine Calls.mono (answered_n ⟨⟨yah, yap⟩, ⟨ybh, ybp⟩, now, ynxt, ytil, yser, ygone, ynoise, yword, yfresh, yasked⟩ ⟨fh, fp⟩ ⟨th, tp⟩ ⟨k, id, pr, ct, ti, no, ⟨mh, mp⟩⟩ hml hsv.s hr (hp.pick [1, 2, 3, 4, 5] (by decide))) ?_
     rintro _ w ⟨_, rfl, hp⟩
     refine ⟨_, rfl, ?_⟩
     dsimp only [gC] at hp
     conv => whnf
     (refine hKq _ _ _ (.refl _) ?_; clear hKq Kq; conv => whnf)
     (refine VSeq.mk fun Kq hKq => ?_; conv => whnf)
     have hcls := hp.pick [0] (by decide)
     simp only [List.filterMap_cons, List.filterMap_nil, List.getElem?_cons_zero, List.getElem?_cons_succ] at hcls
     refine v_mtC TTok FFok mixed _ hcls [] (.q 0 (.q 1 (.q 2 (.q 3 (.q 4 (.q 5 (.q 6 (.q 7 (.m 8 (.q 9 (.q 10 .nil))))))))))) (by kernel_rfl) ?_
     clear hcls
     conv => whnf
     (refine ⟨_, fun w' hc => Blk.ldV (vs := [_, _, _, _, _, _, _, _, _, _, _, _, _]) (hc.get (i := 0) rfl) TTok rfl rfl rfl, ?_⟩; conv => whnf)
     (refine ⟨_, fun w' hc => Blk.ld (hc.get (i := 0) rfl) TTok rfl rfl, ?_⟩; conv => whnf)
     (intro w hx; try (have hp := hp.call hx); conv => whnf)
     (refine hp.kstA TTok rfl 2 rfl rfl (oneC_of rfl) (by rfl) fun w hp => ?_; try simp only [List.set_cons_zero, List.set_cons_succ, EV.val] at hp; conv => whnf)
     (refine And.intro (fun _ => hp.pick [0] (by decide)) ?_; conv => whnf)
     (intro w hx; try (have hp := hp.call hx); conv => whnf)
     (refine hKq _ _ _ (.refl _) ?_; clear hKq Kq; conv => whnf)
     (refine ⟨_, Blk.lvN (hp.get (i := 2) rfl) TTok rfl rfl, ?_⟩; conv => whnf)
     rw [if_neg (by rw [hgo]; decide), if_neg hk1, if_pos hk2, hr]
     exact ⟨_, _, rfl, hp.ext, hv1 _ (SLw.row hp (i := 1) rfl), .nil⟩
    | some r =>
     refine Calls.mono (answered_s ⟨⟨yah, yap⟩, ⟨ybh, ybp⟩, now, ynxt, ytil, yser, ygone, ynoise, yword, yfresh, yasked⟩ ⟨fh, fp⟩ ⟨th, tp⟩ ⟨k, id, pr, ct, ti, no, ⟨mh, mp⟩⟩ hml ⟨by show _ ≤ now + 30000; omega, by show now + 30000 ≤ _; omega⟩ hsv.s hr (hp.pick [1, 2, 3, 4, 5] (by decide))) ?_
     rintro _ w ⟨_, rfl, v2, hv2, hp⟩
     refine ⟨_, rfl, ?_⟩
     dsimp only [gC] at hp
     obtain ⟨p2, c2, rfl⟩ := (hv2 w (hv1 w (SLw.row hp (i := 1) rfl))).shape
     conv => whnf
     (refine hKq _ _ _ (.refl _) ?_; clear hKq Kq; conv => whnf)
     (refine VSeq.mk fun Kq hKq => ?_; conv => whnf)
     have hcls := hp.pick [0] (by decide)
     simp only [List.filterMap_cons, List.filterMap_nil, List.getElem?_cons_zero, List.getElem?_cons_succ] at hcls
     refine v_mtC TTok FFok mixed _ hcls [] (.q 0 (.q 1 (.q 2 (.q 3 (.q 4 (.q 5 (.q 6 (.q 7 (.m 8 (.q 9 (.q 10 .nil))))))))))) (by kernel_rfl) ?_
     clear hcls
     conv => whnf
     (refine ⟨_, fun w' hc => Blk.ldV (vs := [_, _, _, _, _, _, _, _, _, _, _, _, _]) (hc.get (i := 0) rfl) TTok rfl rfl rfl, ?_⟩; conv => whnf)
     (refine ⟨_, fun w' hc => Blk.ld (hc.get (i := 0) rfl) TTok rfl rfl, ?_⟩; conv => whnf)
     (intro w hx; try (have hp := hp.call hx); conv => whnf)
     (refine hp.kstA TTok rfl 2 rfl rfl (oneC_of rfl) (by rfl) fun w hp => ?_; try simp only [List.set_cons_zero, List.set_cons_succ, EV.val] at hp; conv => whnf)
     (refine And.intro (fun _ => hp.pick [0] (by decide)) ?_; conv => whnf)
     (intro w hx; try (have hp := hp.call hx); conv => whnf)
     (refine hKq _ _ _ (.refl _) ?_; clear hKq Kq; conv => whnf)
     (refine ⟨_, Blk.lvN (hp.get (i := 2) rfl) TTok rfl rfl, ?_⟩; conv => whnf)
     rw [if_neg (by rw [hgo]; decide), if_neg hk1, if_pos hk2, hr]
     exact ⟨_, _, rfl, hp.ext, hv2 _ (hv1 _ (SLw.row hp (i := 1) rfl)), .nil⟩
   ·have hgo : ygone = true := by simpa using hgo
    conv => whnf
    (refine hKq _ _ _ (.refl _) ?_; clear hKq Kq; conv => whnf)
    (refine VSeq.mk fun Kq hKq => ?_; conv => whnf)
    have hcls := hp.pick [1] (by decide)
    simp only [List.filterMap_cons, List.filterMap_nil, List.getElem?_cons_zero, List.getElem?_cons_succ] at hcls
    refine v_mtC TTok FFok mixed _ hcls [] (.q 0 (.q 1 (.q 2 (.q 3 (.q 4 (.q 5 (.q 6 (.q 7 (.m 8 (.q 9 (.q 10 .nil))))))))))) (by kernel_rfl) ?_
    clear hcls
    conv => whnf
    (refine ⟨_, fun w' hc => Blk.ldV (vs := [_, _, _, _, _, _, _, _, _, _, _, _, _]) (hc.get (i := 0) rfl) TTok rfl rfl rfl, ?_⟩; conv => whnf)
    (refine ⟨_, fun w' hc => Blk.ld (hc.get (i := 0) rfl) TTok rfl rfl, ?_⟩; conv => whnf)
    (intro w hx; try (have hp := hp.call hx); conv => whnf)
    (refine hp.kstA TTok rfl 3 rfl rfl (oneC_of rfl) (by rfl) fun w hp => ?_; try simp only [List.set_cons_zero, List.set_cons_succ, EV.val] at hp; conv => whnf)
    (refine And.intro (fun _ => hp.pick [1] (by decide)) ?_; conv => whnf)
    (intro w hx; try (have hp := hp.call hx); conv => whnf)
    (refine hKq _ _ _ (.refl _) ?_; clear hKq Kq; conv => whnf)
    (refine ⟨_, Blk.lvN (hp.get (i := 3) rfl) TTok rfl rfl, ?_⟩; conv => whnf)
    rw [if_pos hgo]
    exact ⟨_, _, rfl, hp.ext, hv1 _ (SLw.row hp (i := 2) rfl), .nil⟩
  ·refine ⟨_, _, look_x (hp.get (i := 0) rfl) hk1 hk2, ?_⟩
   conv => whnf
   refine hKq _ _ _ (.refl _) ?_
   clear hKq Kq
   conv => whnf
   refine VSeq.mk fun Kq hKq => ?_
   conv => whnf
   refine VSeq.mk fun Kq hKq => ?_
   conv => whnf
   refine hKq _ _ _ (.refl _) ?_
   clear hKq Kq
   conv => whnf
   (refine And.intro (fun h => absurd h (by decide)) (fun _ => ?_); conv => whnf)
   (refine hKq _ _ _ (.refl _) ?_; clear hKq Kq; conv => whnf)
   (refine hKq _ _ _ (.refl _) ?_; clear hKq Kq; conv => whnf)
   (refine VSeq.mk fun Kq hKq => ?_; conv => whnf)
   skip
   have hcls := hp.pick [1] (by decide)
   simp only [List.filterMap_cons, List.filterMap_nil, List.getElem?_cons_zero, List.getElem?_cons_succ] at hcls
   refine v_mtC TTok FFok mixed _ hcls [] (.q 0 (.q 1 (.q 2 (.q 3 (.q 4 (.q 5 (.q 6 (.q 7 (.m 8 (.q 9 (.q 10 .nil))))))))))) (by kernel_rfl) ?_
   clear hcls
   conv => whnf
   (refine ⟨_, fun w' hc => Blk.ldV (vs := [_, _, _, _, _, _, _, _, _, _, _, _, _]) (hc.get (i := 0) rfl) TTok rfl rfl rfl, ?_⟩; conv => whnf)
   (refine ⟨_, fun w' hc => Blk.ld (hc.get (i := 0) rfl) TTok rfl rfl, ?_⟩; conv => whnf)
   (intro w hx; try (have hp := hp.call hx); conv => whnf)
   (refine hp.kstA TTok rfl 3 rfl rfl (oneC_of rfl) (by rfl) fun w hp => ?_; try simp only [List.set_cons_zero, List.set_cons_succ, EV.val] at hp; conv => whnf)
   (refine And.intro (fun _ => hp.pick [1] (by decide)) ?_; conv => whnf)
   (intro w hx; try (have hp := hp.call hx); conv => whnf)
   (refine hKq _ _ _ (.refl _) ?_; clear hKq Kq; conv => whnf)
   (refine ⟨_, Blk.lvN (hp.get (i := 3) rfl) TTok rfl rfl, ?_⟩; conv => whnf)
   have e : ∀ (y : Wt), (if ygone = true then (y, ([] : List Hop3)) else (y, [])) = (y, []) := fun y => by split <;> rfl
   rw [if_neg hk1, if_neg hk2, e]
   exact ⟨_, _, rfl, hp.ext, hv1 _ (SLw.row hp (i := 2) rfl), .nil⟩
set_option maxHeartbeats 4000000
theorem Wt.Ok.ad {x : Wt} (h : x.Ok) : ∀ (w : World) xo yo, ((do eqGuard .neq 31 xo yo (.agg (x.a.c ++ x.b.c).toArray) (.agg (x.a.c ++ x.b.c).toArray); binOp .neq 31 (.agg (x.a.c ++ x.b.c).toArray) (.agg (x.a.c ++ x.b.c).toArray) : Sem Value).run Tryz.prog w = .ok (.bool false) w) := fun w xo yo => by
 have := (pa_eq w x.a x.b x.a x.b h.a h.b h.a h.b xo yo).2
 rw [decide_eq_true ⟨rfl, rfl⟩] at this
 exact this
theorem neq_bool (b : Bool) (w : World) (xo yo : Operand) : (do eqGuard .neq 4 xo yo (.bool b) (.bool b); binOp .neq 4 (.bool b) (.bool b) : Sem Value).run Tryz.prog w = .ok (.bool false) w := by
 cases b <;> kernel_rfl
theorem Same12_c {W : World} {v u : Value} (x : Wt) (hok : x.Ok) (hv : SLv W v (iv x.asked)) (hu : SLv W u (iv x.asked)) :
  Calls Tryz.prog 19 #[.agg (x.c v).toArray, .agg (x.c u).toArray] W fun e w' => e = .returned (.bool true) ∧ Ext W w' := by
 have pe := hok.ad
 have hln := hok.len
 unfold maxLen at hln
 clear hok
 obtain ⟨⟨ah, ap⟩, ⟨bh, bp⟩, now, nxt, til, ser, gone, noise, word, fresh, asked⟩ := x
 dsimp only [Wt.c] at hv hu pe hln ⊢
 have hsl : (iv asked).length = asked.length := List.length_map _
 obtain ⟨p, c, rfl⟩ := hv.shape
 obtain ⟨p2, c2, rfl⟩ := hu.shape
 rw [hsl] at hv hu ⊢
 refine v_reads (args := [.agg #[.string ah, .int .i64 ap, .string bh, .int .i64 bp, .int .i64 now, .int .i64 nxt, .int .i64 til, .int .i64 ser, .bool gone, .string noise, .string word, .string fresh, .slice p asked.length c], .agg #[.string ah, .int .i64 ap, .string bh, .int .i64 bp, .int .i64 now, .int .i64 nxt, .int .i64 til, .int .i64 ser, .bool gone, .string noise, .string word, .string fresh, .slice p2 asked.length c2]]) TTok FFok Tryz.func19 rfl rfl ?_
 conv => whnf
 refine VSeq.mk fun Kq hKq => ?_
 conv => whnf
 have hp := Hp.nil W
 refine hp.kboxA fun q2 w hp hx => ?_
 conv => whnf
 refine hp.kboxA fun q3 w hp hx => ?_
 conv => whnf
 refine hKq _ _ _ (.refl _) ?_
 clear hKq Kq
 conv => whnf
 refine VSeq.mk fun Kq hKq => ?_
 conv => whnf
 refine VSeq.mk fun Kq hKq => ?_
 conv => whnf
 refine VSeq.mk fun Kq hKq => ?_
 conv => whnf
 (refine ⟨_, _, Blk.ldV (vs := [_, _, _, _]) (hp.get (i := 1) rfl) TTok rfl rfl rfl, ?_⟩; conv => whnf)
 (refine ⟨_, _, Blk.ldV (vs := [_, _, _, _]) (hp.get (i := 0) rfl) TTok rfl rfl rfl, ?_⟩; conv => whnf)
 refine ⟨_, _, pe _ _ _, ?_⟩
 conv => whnf
 refine hKq _ _ _ (.refl _) ?_
 clear hKq Kq
 conv => whnf
 refine VSeq.mk fun Kq hKq => ?_
 conv => whnf
 (refine And.intro (fun h => absurd h (by decide)) (fun _ => ?_); conv => whnf)
 (refine ⟨_, _, Blk.ld (hp.get (i := 1) rfl) TTok rfl rfl, ?_⟩; conv => whnf)
 (refine ⟨_, _, Blk.ld (hp.get (i := 0) rfl) TTok rfl rfl, ?_⟩; conv => whnf)
 (refine hKq _ _ _ (.refl _) ?_; clear hKq Kq; conv => whnf)
 (refine VSeq.mk fun Kq hKq => ?_; conv => whnf)
 (refine And.intro (fun h => absurd (of_decide_eq_true h) (by first | (intro h2; exact absurd rfl h2) | omega | decide)) (fun _ => ?_); conv => whnf)
 (refine ⟨_, _, Blk.ld (hp.get (i := 1) rfl) TTok rfl rfl, ?_⟩; conv => whnf)
 (refine ⟨_, _, Blk.ld (hp.get (i := 0) rfl) TTok rfl rfl, ?_⟩; conv => whnf)
 (refine hKq _ _ _ (.refl _) ?_; clear hKq Kq; conv => whnf)
 (refine VSeq.mk fun Kq hKq => ?_; conv => whnf)
 (refine And.intro (fun h => absurd (of_decide_eq_true h) (by first | (intro h2; exact absurd rfl h2) | omega | decide)) (fun _ => ?_); conv => whnf)
 (refine ⟨_, _, Blk.ld (hp.get (i := 1) rfl) TTok rfl rfl, ?_⟩; conv => whnf)
 (refine ⟨_, _, Blk.ld (hp.get (i := 0) rfl) TTok rfl rfl, ?_⟩; conv => whnf)
 (refine hKq _ _ _ (.refl _) ?_; clear hKq Kq; conv => whnf)
 (refine VSeq.mk fun Kq hKq => ?_; conv => whnf)
 (refine And.intro (fun h => absurd (of_decide_eq_true h) (by first | (intro h2; exact absurd rfl h2) | omega | decide)) (fun _ => ?_); conv => whnf)
 (refine ⟨_, _, Blk.ld (hp.get (i := 1) rfl) TTok rfl rfl, ?_⟩; conv => whnf)
 (refine ⟨_, _, Blk.ld (hp.get (i := 0) rfl) TTok rfl rfl, ?_⟩; conv => whnf)
 (refine hKq _ _ _ (.refl _) ?_; clear hKq Kq; conv => whnf)
 (refine VSeq.mk fun Kq hKq => ?_; conv => whnf)
 (refine And.intro (fun h => absurd (of_decide_eq_true h) (by first | (intro h2; exact absurd rfl h2) | omega | decide)) (fun _ => ?_); conv => whnf)
 (refine ⟨_, _, Blk.ld (hp.get (i := 1) rfl) TTok rfl rfl, ?_⟩; conv => whnf)
 (refine ⟨_, _, Blk.ld (hp.get (i := 0) rfl) TTok rfl rfl, ?_⟩; conv => whnf)
 refine ⟨_, _, neq_bool _ _ _ _, ?_⟩
 conv => whnf
 refine hKq _ _ _ (.refl _) ?_
 clear hKq Kq
 conv => whnf
 refine VSeq.mk fun Kq hKq => ?_
 conv => whnf
 (refine And.intro (fun h => absurd h (by decide)) (fun _ => ?_); conv => whnf)
 (refine ⟨_, _, Blk.ld (hp.get (i := 1) rfl) TTok rfl rfl, ?_⟩; conv => whnf)
 (refine ⟨_, _, Blk.ld (hp.get (i := 0) rfl) TTok rfl rfl, ?_⟩; conv => whnf)
 (refine hKq _ _ _ (.refl _) ?_; clear hKq Kq; conv => whnf)
 (refine VSeq.mk fun Kq hKq => ?_; conv => whnf)
 (refine And.intro (fun h => absurd (of_decide_eq_true h) (by first | (intro h2; exact absurd rfl h2) | omega | decide)) (fun _ => ?_); conv => whnf)
 (refine ⟨_, _, Blk.ld (hp.get (i := 1) rfl) TTok rfl rfl, ?_⟩; conv => whnf)
 (refine ⟨_, _, Blk.ld (hp.get (i := 0) rfl) TTok rfl rfl, ?_⟩; conv => whnf)
 (refine hKq _ _ _ (.refl _) ?_; clear hKq Kq; conv => whnf)
 (refine VSeq.mk fun Kq hKq => ?_; conv => whnf)
 (refine And.intro (fun h => absurd (of_decide_eq_true h) (by first | (intro h2; exact absurd rfl h2) | omega | decide)) (fun _ => ?_); conv => whnf)
 (refine ⟨_, _, Blk.ld (hp.get (i := 1) rfl) TTok rfl rfl, ?_⟩; conv => whnf)
 (refine ⟨_, _, Blk.ld (hp.get (i := 0) rfl) TTok rfl rfl, ?_⟩; conv => whnf)
 (refine hKq _ _ _ (.refl _) ?_; clear hKq Kq; conv => whnf)
 (refine And.intro (fun h => absurd (of_decide_eq_true h) (by first | (intro h2; exact absurd rfl h2) | omega | decide)) (fun _ => ?_); conv => whnf)
 (refine ⟨_, _, Blk.ld (hp.get (i := 1) rfl) TTok rfl rfl, ?_⟩; conv => whnf)
 (refine ⟨_, _, Blk.ld (hp.get (i := 0) rfl) TTok rfl rfl, ?_⟩; conv => whnf)
 (refine hKq _ _ _ (.refl _) ?_; clear hKq Kq; conv => whnf)
 (refine And.intro (fun h => absurd (of_decide_eq_true h) (by first | (intro h2; exact absurd rfl h2) | omega | decide)) (fun _ => ?_); conv => whnf)
 (refine hKq _ _ _ (.refl _) ?_; clear hKq Kq; conv => whnf)
 (refine VSeq.mk fun Kq hKq => ?_; conv => whnf)
 (refine VSeq.mk fun Kq hKq => ?_; conv => whnf)
 (refine hKq _ _ _ (.refl _) ?_; clear hKq Kq; conv => whnf)
 clear pe
 refine ⟨fun mm e w' => ∃ (i : Nat), mm + i = asked.length ∧ e = [(2, .v (.pointer (some ⟨q2, 0, none⟩))), (3, .v (.pointer (some ⟨q3, 0, none⟩))), (5, .v (.int .i64 i))] ∧ HpM [] W w' [blk q3 [.string ah, .int .i64 ap, .string bh, .int .i64 bp, .int .i64 now, .int .i64 nxt, .int .i64 til, .int .i64 ser, .bool gone, .string noise, .string word, .string fresh, .slice p2 asked.length c2] 34, blk q2 [.string ah, .int .i64 ap, .string bh, .int .i64 bp, .int .i64 now, .int .i64 nxt, .int .i64 til, .int .i64 ser, .bool gone, .string noise, .string word, .string fresh, .slice p asked.length c] 34],
  ⟨asked.length, _, ⟨0, by omega, rfl, hp⟩, sub_cons rfl (sub_cons rfl (sub_cons rfl sub_nil))⟩, ?_⟩
 rintro mm _ w ⟨i, hmm, rfl, hp⟩
 conv => whnf
 refine VSeq.mk fun Kq hKq => ?_
 conv => whnf
 refine VSeq.mk fun Kq hKq => ?_
 conv => whnf
 (refine ⟨_, _, Blk.ld (hp.get (i := 1) rfl) TTok rfl rfl, ?_⟩; conv => whnf)
 (refine hKq _ _ _ (.refl _) ?_; clear hKq Kq; conv => whnf)
 refine ⟨fun hlt => ?_, fun hlt => ?_⟩
 ·have hlt := of_decide_eq_true hlt
  conv => whnf
  refine hKq _ _ _ (.refl _) ?_
  clear hKq Kq
  conv => whnf
  refine VSeq.mk fun Kq hKq => ?_
  conv => whnf
  refine VSeq.mk fun Kq hKq => ?_
  conv => whnf
  obtain ⟨a, ha⟩ : ∃ a, asked[i]? = some a := ⟨asked[i]'(by omega), List.getElem?_eq_getElem (by omega)⟩
  obtain ⟨g, off, rfl, hld⟩ := (hv.ext hp.ext).at (j := i) (x := .int .i64 a) (by rw [List.getElem?_map, ha]; rfl)
  obtain ⟨g2, off2, rfl, hld2⟩ := (hu.ext hp.ext).at (j := i) (x := .int .i64 a) (by rw [List.getElem?_map, ha]; rfl)
  rw [Nat.add_comm] at hld hld2
  refine v_mixA TTok FFok mixed [(0, false), (1, false), (2, false), (3, false), (4, false), (5, false), (6, false), (7, false), (8, false), (9, false), (10, false)] (by kernel_rfl) ?_
  conv => whnf
  (refine ⟨_, fun w' hx' => Blk.ld (Blk.ext (hp.get (i := 1) rfl) hx') TTok rfl rfl, ?_⟩; conv => whnf)
  (refine ⟨_, ⟨rfl, by omega⟩, ?_⟩; conv => whnf)
  refine ⟨_, fun w' hx' => run_ld TTok rfl (hx'.cell hld), ?_⟩
  conv => whnf
  (refine ⟨_, fun w' hx' => Blk.ld (Blk.ext (hp.get (i := 0) rfl) hx') TTok rfl rfl, ?_⟩; conv => whnf)
  (refine ⟨_, ⟨rfl, by omega⟩, ?_⟩; conv => whnf)
  refine ⟨_, fun w' hx' => run_ld TTok rfl (hx'.cell hld2), ?_⟩
  conv => whnf
  (intro w hx; try (have hp := hp.call hx); conv => whnf)
  (refine hKq _ _ _ (.refl _) ?_; clear hKq Kq; conv => whnf)
  (refine And.intro (fun h => absurd (of_decide_eq_true h) (by first | (intro h2; exact absurd rfl h2) | omega | decide)) (fun _ => ?_); conv => whnf)
  (refine hKq _ _ _ (.refl _) ?_; clear hKq Kq; conv => whnf)
  (refine Or.inl (And.intro (by first | omega | decide) ?_); conv => whnf)
  exact ⟨mm - 1, _, by omega, ⟨i + 1, by omega, rfl, hp⟩, sub_cons rfl (sub_cons rfl (sub_cons rfl sub_nil))⟩
 ·have hlt := of_decide_eq_false hlt
  conv => whnf
  clear hKq Kq
  refine hKq _ _ _ (.refl _) ?_
  clear hKq Kq
  conv => whnf
  refine VSeq.mk fun Kq hKq => ?_
  conv => whnf
  refine hKq _ _ _ (.refl _) ?_
  clear hKq Kq
  conv => whnf
  (exact ⟨rfl, hp.ext⟩)
theorem hop_eq (w : World) (h : Hop3) (hh : h.1.Ok ∧ h.2.1.Ok ∧ h.2.2.Ok) (xo yo : Operand) :
  ((do eqGuard .neq 63 xo yo (.agg (hopF h).toArray) (.agg (hopF h).toArray); binOp .neq 63 (.agg (hopF h).toArray) (.agg (hopF h).toArray) : Sem Value).run Tryz.prog w = .ok (.bool false) w) := by
 have hr : Rd w (.cons (.ag shA) (.cons (.ag shA) (.cons (.ag shP) .nil))) (hopF h) :=
  ⟨h.1.c, _, rfl, h.1.rd hh.1, h.2.1.c, _, rfl, h.2.1.rd hh.2.1, h.2.2.c, [], rfl, h.2.2.rd hh.2.2, rfl⟩
 have hk : cmpOk Tryz.prog 63 12 (.cons (.ag shA) (.cons (.ag shA) (.cons (.ag shP) .nil))) = true := by kernel_rfl
 obtain ⟨r, hr2, _, h2⟩ := run_eq_agg hk (w0 := w) (w1 := w) hr hr xo yo
 have : r = true := hr2.2 rfl
 rw [this] at h2
 exact h2 w
theorem HR.shape {w : World} {o : Value} {hs : List Hop3} (h : HR w o hs) : ∃ p c, o = .slice p hs.length c := by
 rcases h with ⟨rfl, rfl⟩ | ⟨h, g, c, rfl, rfl, _⟩
 ·exact ⟨_, _, rfl⟩
 ·exact ⟨_, _, rfl⟩
theorem SameHops_c {W : World} {v u : Value} (hs : List Hop3) (hh : ∀ h ∈ hs, h.1.Ok ∧ h.2.1.Ok ∧ h.2.2.Ok) (hv : HR W v hs) (hu : HR W u hs) :
  Calls Tryz.prog 22 #[v, u] W fun e w' => e = .returned (.bool true) ∧ Ext W w' := by
 rcases hv with ⟨rfl, rfl⟩ | ⟨h, g, c, rfl, rfl, hc⟩
 ·rcases hu with ⟨_, rfl⟩ | ⟨h, g, c, hx, _⟩
  ·refine v_reads (args := [.slice none 0 0, .slice none 0 0]) TTok FFok Tryz.func22 rfl rfl ?_
   conv => whnf
   refine VSeq.mk fun Kq hKq => ?_
   conv => whnf
   refine hKq _ _ _ (.refl _) ?_
   clear hKq Kq
   conv => whnf
   refine VSeq.mk fun Kq hKq => ?_
   conv => whnf
   refine VSeq.mk fun Kq hKq => ?_
   conv => whnf
   refine hKq _ _ _ (.refl _) ?_
   clear hKq Kq
   conv => whnf
   have hp := Hp.nil W
   (refine And.intro (fun h => absurd (of_decide_eq_true h) (by first | (intro h2; exact absurd rfl h2) | omega | decide)) (fun _ => ?_); conv => whnf)
   (refine hKq _ _ _ (.refl _) ?_; clear hKq Kq; conv => whnf)
   (refine VSeq.mk fun Kq hKq => ?_; conv => whnf)
   (refine VSeq.mk fun Kq hKq => ?_; conv => whnf)
   (refine hKq _ _ _ (.refl _) ?_; clear hKq Kq; conv => whnf)
   refine ⟨fun mm e w' => e = [(0, .v (.slice none 0 0)), (5, .v (.int .i64 0))] ∧ HpM [] W w' [], ⟨0, _, ⟨rfl, hp⟩, sub_cons rfl (sub_cons rfl sub_nil)⟩, ?_⟩
   rintro mm _ w ⟨rfl, hp⟩
   (refine VSeq.mk fun Kq hKq => ?_; conv => whnf)
   (refine VSeq.mk fun Kq hKq => ?_; conv => whnf)
   (refine hKq _ _ _ (.refl _) ?_; clear hKq Kq; conv => whnf)
   (refine And.intro (fun h => absurd (of_decide_eq_true h) (by first | (intro h2; exact absurd rfl h2) | omega | decide)) (fun _ => ?_); conv => whnf)
   (clear hKq Kq; refine hKq _ _ _ (.refl _) ?_; clear hKq Kq; conv => whnf)
   (refine VSeq.mk fun Kq hKq => ?_; conv => whnf)
   (refine hKq _ _ _ (.refl _) ?_; clear hKq Kq; conv => whnf)
   (exact ⟨rfl, hp.ext⟩)
  ·simp at hx
 ·rcases hu with ⟨hx, _⟩ | ⟨h2, g2, c2, hx, rfl, hc2⟩
  ·simp at hx
  ·obtain rfl : h = h2 := by simpa using hx
   have pe := fun w xo yo => hop_eq w h (hh h (by simp)) xo yo
   refine v_reads (args := [.slice (some ⟨g, 0, none⟩) 1 c, .slice (some ⟨g2, 0, none⟩) 1 c2]) TTok FFok Tryz.func22 rfl rfl ?_
   conv => whnf
   refine VSeq.mk fun Kq hKq => ?_
   conv => whnf
   refine hKq _ _ _ (.refl _) ?_
   clear hKq Kq
   conv => whnf
   refine VSeq.mk fun Kq hKq => ?_
   conv => whnf
   refine VSeq.mk fun Kq hKq => ?_
   conv => whnf
   refine hKq _ _ _ (.refl _) ?_
   clear hKq Kq
   conv => whnf
   have hp := Hp.nil W
   (refine And.intro (fun h => absurd (of_decide_eq_true h) (by first | (intro h2; exact absurd rfl h2) | omega | decide)) (fun _ => ?_); conv => whnf)
   (refine hKq _ _ _ (.refl _) ?_; clear hKq Kq; conv => whnf)
   (refine VSeq.mk fun Kq hKq => ?_; conv => whnf)
   (refine VSeq.mk fun Kq hKq => ?_; conv => whnf)
   (refine hKq _ _ _ (.refl _) ?_; clear hKq Kq; conv => whnf)
   refine ⟨fun mm e w' => ∃ (i : Nat), mm + i = 1 ∧ e = [(0, .v (.slice (some ⟨g, 0, none⟩) 1 c)), (1, .v (.slice (some ⟨g2, 0, none⟩) 1 c2)), (5, .v (.int .i64 i))] ∧ HpM [] W w' [], ⟨1, _, ⟨0, rfl, rfl, hp⟩, sub_cons rfl (sub_cons rfl (sub_cons rfl sub_nil))⟩, ?_⟩
   rintro mm _ w ⟨i, hmm, rfl, hp⟩
   conv => whnf
   refine VSeq.mk fun Kq hKq => ?_
   conv => whnf
   refine VSeq.mk fun Kq hKq => ?_
   conv => whnf
   refine hKq _ _ _ (.refl _) ?_
   clear hKq Kq
   conv => whnf
   refine ⟨fun hlt => ?_, fun hlt => ?_⟩
   ·have hlt := of_decide_eq_true hlt
    conv => whnf
    refine hKq _ _ _ (.refl _) ?_
    clear hKq Kq
    conv => whnf
    refine VSeq.mk fun Kq hKq => ?_
    conv => whnf
    refine VSeq.mk fun Kq hKq => ?_
    conv => whnf
    obtain rfl : i = 0 := by omega
    refine v_mixA TTok FFok mixed [(0, false), (1, false), (2, false), (3, false), (4, false), (5, false), (6, false), (7, false), (8, false)] (by kernel_rfl) ?_
    conv => whnf
    (refine ⟨_, ⟨rfl, by omega⟩, ?_⟩; conv => whnf)
    refine ⟨_, fun w' hx' => run_ldN TTok rfl (n := 12) rfl fun j v hj => (by rw [show addM 0 0 12 + j = j by simp [addM]]; exact (hp.ext.trans hx').cell (hc j v hj)), ?_⟩
    conv => whnf
    (refine ⟨_, ⟨rfl, by omega⟩, ?_⟩; conv => whnf)
    refine ⟨_, fun w' hx' => run_ldN TTok rfl (n := 12) rfl fun j v hj => (by rw [show addM 0 0 12 + j = j by simp [addM]]; exact (hp.ext.trans hx').cell (hc2 j v hj)), ?_⟩
    conv => whnf
    skip
    refine ⟨_, fun w' _ => pe w' _ _, ?_⟩
    conv => whnf
    (intro w hx; try (have hp := hp.call hx); conv => whnf)
    (refine hKq _ _ _ (.refl _) ?_; clear hKq Kq; conv => whnf)
    (refine And.intro (fun h => absurd h (by decide)) (fun _ => ?_); conv => whnf)
    (refine hKq _ _ _ (.refl _) ?_; clear hKq Kq; conv => whnf)
    (refine Or.inl (And.intro (by first | omega | decide) ?_); conv => whnf)
    exact ⟨mm - 1, _, by omega, ⟨1, by omega, rfl, hp⟩, sub_cons rfl (sub_cons rfl (sub_cons rfl sub_nil))⟩
   ·have hlt := of_decide_eq_false hlt
    conv => whnf
    clear hKq Kq
    refine hKq _ _ _ (.refl _) ?_
    clear hKq Kq
    conv => whnf
    refine VSeq.mk fun Kq hKq => ?_
    conv => whnf
    refine hKq _ _ _ (.refl _) ?_
    clear hKq Kq
    conv => whnf
    (exact ⟨rfl, hp.ext⟩)
set_option maxHeartbeats 16000000
theorem Hear12_bad0 {W : World} {v : Value} (x : Wt) (hok : x.Ok) (hv : SLv W v (iv x.asked)) (now : Int) (h : Hop3) (hs : startN x now ≠ 0) :
  Calls Tryz.prog 25 #[.agg (x.c v).toArray, .int .i64 now, .agg (hopF h).toArray] W fun e w' => e = .returned (.tuple #[.agg (zW.c (.slice none 0 0)).toArray, .slice none 0 0, .int .i64 (startN x now)]) ∧ Ext W w' := by
 have s1 := fun {W : World} (hv : SLv W v (iv x.asked)) => Errors_c (W := W) x hok hv now
 obtain ⟨N, hN⟩ : ∃ N, startN x now = N := ⟨_, rfl⟩
 rw [hN] at s1 hs ⊢
 clear hN hok
 obtain ⟨⟨ah, ap⟩, ⟨bh, bp⟩, now0, nxt, til, ser, gone, noise, word, fresh, asked⟩ := x
 obtain ⟨⟨fh, fp⟩, ⟨th, tp⟩, k, id, pr, ct, ti, no, ⟨mh, mp⟩⟩ := h
 dsimp only [Wt.c, hopF, hopC] at hv s1 ⊢
 have hsl : (iv asked).length = asked.length := List.length_map _
 obtain ⟨p, c, rfl⟩ := hv.shape
 rw [hsl] at hv s1 ⊢
 refine v_reads (args := [.agg #[.string ah, .int .i64 ap, .string bh, .int .i64 bp, .int .i64 now0, .int .i64 nxt, .int .i64 til, .int .i64 ser, _, .string noise, .string word, .string fresh, .slice p asked.length c], .int .i64 now, .agg #[.string fh, .int .i64 fp, .string th, .int .i64 tp, .int .i64 k, .int .i64 id, .int .i64 pr, .bool ct, .int .i64 ti, .bool no, .string mh, .int .i64 mp]]) TTok FFok Tryz.func25 rfl rfl ?_
 conv => whnf
 refine VSeq.mk fun Kq hKq => ?_
 conv => whnf
 have hp := Hp.nil W
 refine hp.kboxA fun q3 w hp hx => ?_
 conv => whnf
 refine hp.kboxA fun q5 w hp hx => ?_
 conv => whnf
 (refine hp.kalloc z34 fun al34 w hp hx => ?_; conv => whnf)
 (refine hKq _ _ _ (.refl _) ?_; clear hKq Kq; conv => whnf)
 (refine VSeq.mk fun Kq hKq => ?_; conv => whnf)
 (refine VSeq.mk fun Kq hKq => ?_; conv => whnf)
 (refine ⟨_, _, Blk.ldV (vs := [_, _, _, _, _, _, _, _, _, _, _, _, _]) (hp.get (i := 2) rfl) TTok rfl rfl rfl, ?_⟩; conv => whnf)
 refine V.CallsUse (s1 (hv.ext hp.ext)) fun w hx => ?_
 have hp := hp.call hx
 conv => whnf
 (refine hKq _ _ _ (.refl _) ?_; clear hKq Kq; conv => whnf)
 (refine VSeq.mk fun Kq hKq => ?_; conv => whnf)
 (refine hKq _ _ _ (.refl _) ?_; clear hKq Kq; conv => whnf)
 (refine And.intro (fun _ => ?_) (fun h => absurd (by first | rfl | assumption | omega | decide) (of_decide_eq_false h)); conv => whnf)
 (refine VSeq.mk fun Kq hKq => ?_; conv => whnf)
 (refine ⟨_, _, bld34_ _, ?_⟩; conv => whnf)
 (refine hp.kstA TTok rfl 0 rfl rfl (oneC_of rfl) (by rfl) fun w hp => ?_; try simp only [List.set_cons_zero, List.set_cons_succ, EV.val] at hp; conv => whnf)
 (refine hKq _ _ _ (.refl _) ?_; clear hKq Kq; conv => whnf)
 (refine ⟨_, Blk.lvN (hp.get (i := 0) rfl) TTok rfl rfl, ?_⟩; conv => whnf)
 (exact ⟨rfl, hp.ext⟩)
theorem Hear12_bad1 {W : World} {v : Value} (x : Wt) (hok : x.Ok) (hv : SLv W v (iv x.asked)) (now : Int) (h : Hop3) (hho : h.Ok) (hw : wtB x = true) (hn : inB now x.now 1099511627776 = true) (hpb : probeB h.2.2 = false) :
  Calls Tryz.prog 25 #[.agg (x.c v).toArray, .int .i64 now, .agg (hopF h).toArray] W fun e w' => e = .returned (.tuple #[.agg (zW.c (.slice none 0 0)).toArray, .slice none 0 0, .int .i64 110]) ∧ Ext W w' := by
 have hlen := wtB_len hw
 have hst : startN x now = 0 := by unfold startN; rw [hw, hn]; rfl
 have s1 := fun {W : World} (hv : SLv W v (iv x.asked)) => Errors_c (W := W) x hok hv now
 rw [hst] at s1
 have pc := probe11_p h.2.2 hho.p
 rw [hpb] at pc
 clear hw hn hpb hho hok hst
 obtain ⟨⟨ah, ap⟩, ⟨bh, bp⟩, now0, nxt, til, ser, gone, noise, word, fresh, asked⟩ := x
 obtain ⟨⟨fh, fp⟩, ⟨th, tp⟩, k, id, pr, ct, ti, no, ⟨mh, mp⟩⟩ := h
 dsimp only [Wt.c, hopF, hopC] at hv s1 pc ⊢
 have hsl : (iv asked).length = asked.length := List.length_map _
 obtain ⟨p, c, rfl⟩ := hv.shape
 rw [hsl] at hv s1 ⊢
 refine v_reads (args := [.agg #[.string ah, .int .i64 ap, .string bh, .int .i64 bp, .int .i64 now0, .int .i64 nxt, .int .i64 til, .int .i64 ser, _, .string noise, .string word, .string fresh, .slice p asked.length c], .int .i64 now, .agg #[.string fh, .int .i64 fp, .string th, .int .i64 tp, .int .i64 k, .int .i64 id, .int .i64 pr, .bool ct, .int .i64 ti, .bool no, .string mh, .int .i64 mp]]) TTok FFok Tryz.func25 rfl rfl ?_
 conv => whnf
 refine VSeq.mk fun Kq hKq => ?_
 conv => whnf
 have hp := Hp.nil W
 refine hp.kboxA fun q3 w hp hx => ?_
 conv => whnf
 refine hp.kboxA fun q5 w hp hx => ?_
 conv => whnf
 (refine hp.kalloc z34 fun al34 w hp hx => ?_; conv => whnf)
 (refine hKq _ _ _ (.refl _) ?_; clear hKq Kq; conv => whnf)
 (refine VSeq.mk fun Kq hKq => ?_; conv => whnf)
 (refine VSeq.mk fun Kq hKq => ?_; conv => whnf)
 (refine ⟨_, _, Blk.ldV (vs := [_, _, _, _, _, _, _, _, _, _, _, _, _]) (hp.get (i := 2) rfl) TTok rfl rfl rfl, ?_⟩; conv => whnf)
 refine V.CallsUse (s1 (hv.ext hp.ext)) fun w hx => ?_
 have hp := hp.call hx
 conv => whnf
 (refine hKq _ _ _ (.refl _) ?_; clear hKq Kq; conv => whnf)
 (refine VSeq.mk fun Kq hKq => ?_; conv => whnf)
 (refine hKq _ _ _ (.refl _) ?_; clear hKq Kq; conv => whnf)
 (refine And.intro (fun h => absurd (of_decide_eq_true h) (by first | (intro h2; exact absurd rfl h2) | omega | decide)) (fun _ => ?_); conv => whnf)
 (refine hKq _ _ _ (.refl _) ?_; clear hKq Kq; conv => whnf)
 (refine VSeq.mk fun Kq hKq => ?_; conv => whnf)
 (refine VSeq.mk fun Kq hKq => ?_; conv => whnf)
 (refine ⟨_, _, Blk.ldV (vs := [_, _, _, _, _, _, _, _]) (hp.get (i := 1) rfl) TTok rfl rfl rfl, ?_⟩; conv => whnf)
 refine PureF.use pc fun w hx => ?_
 have hp := hp.call hx
 conv => whnf
 (refine hKq _ _ _ (.refl _) ?_; clear hKq Kq; conv => whnf)
 (refine And.intro (fun _ => ?_) (fun h => absurd h (by decide)); conv => whnf)
 (refine VSeq.mk fun Kq hKq => ?_; conv => whnf)
 (refine ⟨_, _, bld34_ _, ?_⟩; conv => whnf)
 (refine hp.kstA TTok rfl 0 rfl rfl (oneC_of rfl) (by rfl) fun w hp => ?_; try simp only [List.set_cons_zero, List.set_cons_succ, EV.val] at hp; conv => whnf)
 (refine hKq _ _ _ (.refl _) ?_; clear hKq Kq; conv => whnf)
 (refine ⟨_, Blk.lvN (hp.get (i := 0) rfl) TTok rfl rfl, ?_⟩; conv => whnf)
 (exact ⟨rfl, hp.ext⟩)
theorem Hear12_bad2 {W : World} {v : Value} (x : Wt) (hok : x.Ok) (hv : SLv W v (iv x.asked)) (now : Int) (h : Hop3) (hho : h.Ok) (hw : wtB x = true) (hn : inB now x.now 1099511627776 = true) (hpb : probeB h.2.2 = true) (hne : ¬ (h.2.1 = x.a ∧ h.1 = x.b)) :
  Calls Tryz.prog 25 #[.agg (x.c v).toArray, .int .i64 now, .agg (hopF h).toArray] W fun e w' => e = .returned (.tuple #[.agg (zW.c (.slice none 0 0)).toArray, .slice none 0 0, .int .i64 2]) ∧ Ext W w' := by
 have hlen := wtB_len hw
 have hst : startN x now = 0 := by unfold startN; rw [hw, hn]; rfl
 have s1 := fun {W : World} (hv : SLv W v (iv x.asked)) => Errors_c (W := W) x hok hv now
 rw [hst] at s1
 have pc := probe11_p h.2.2 hho.p
 rw [hpb] at pc
 have pe1 := fun w xo yo => (ad_eq w h.1 x.b hho.f hok.b xo yo).2
 have pe2 := fun w xo yo => (ad_eq w h.2.1 x.a hho.t hok.a xo yo).2
 clear hw hn hpb hho hok hst
 by_cases h1 : h.1 = x.b
 ·have h2 : ¬ h.2.1 = x.a := fun h2 => hne ⟨h2, h1⟩
  rw [decide_eq_true h1] at pe1
  rw [decide_eq_false h2] at pe2
  clear hne h1 h2
  obtain ⟨⟨ah, ap⟩, ⟨bh, bp⟩, now0, nxt, til, ser, gone, noise, word, fresh, asked⟩ := x
  obtain ⟨⟨fh, fp⟩, ⟨th, tp⟩, k, id, pr, ct, ti, no, ⟨mh, mp⟩⟩ := h
  dsimp only [Wt.c, hopF, hopC] at hv s1 pc pe1 pe2 ⊢
  have hsl : (iv asked).length = asked.length := List.length_map _
  obtain ⟨p, c, rfl⟩ := hv.shape
  rw [hsl] at hv s1 ⊢
  refine v_reads (args := [.agg #[.string ah, .int .i64 ap, .string bh, .int .i64 bp, .int .i64 now0, .int .i64 nxt, .int .i64 til, .int .i64 ser, _, .string noise, .string word, .string fresh, .slice p asked.length c], .int .i64 now, .agg #[.string fh, .int .i64 fp, .string th, .int .i64 tp, .int .i64 k, .int .i64 id, .int .i64 pr, .bool ct, .int .i64 ti, .bool no, .string mh, .int .i64 mp]]) TTok FFok Tryz.func25 rfl rfl ?_
  conv => whnf
  refine VSeq.mk fun Kq hKq => ?_
  conv => whnf
  have hp := Hp.nil W
  refine hp.kboxA fun q3 w hp hx => ?_
  conv => whnf
  refine hp.kboxA fun q5 w hp hx => ?_
  conv => whnf
  (refine hp.kalloc z34 fun al34 w hp hx => ?_; conv => whnf)
  (refine hKq _ _ _ (.refl _) ?_; clear hKq Kq; conv => whnf)
  (refine VSeq.mk fun Kq hKq => ?_; conv => whnf)
  (refine VSeq.mk fun Kq hKq => ?_; conv => whnf)
  (refine ⟨_, _, Blk.ldV (vs := [_, _, _, _, _, _, _, _, _, _, _, _, _]) (hp.get (i := 2) rfl) TTok rfl rfl rfl, ?_⟩; conv => whnf)
  refine V.CallsUse (s1 (hv.ext hp.ext)) fun w hx => ?_
  have hp := hp.call hx
  conv => whnf
  (refine hKq _ _ _ (.refl _) ?_; clear hKq Kq; conv => whnf)
  (refine VSeq.mk fun Kq hKq => ?_; conv => whnf)
  (refine hKq _ _ _ (.refl _) ?_; clear hKq Kq; conv => whnf)
  (refine And.intro (fun h => absurd (of_decide_eq_true h) (by first | (intro h2; exact absurd rfl h2) | omega | decide)) (fun _ => ?_); conv => whnf)
  (refine hKq _ _ _ (.refl _) ?_; clear hKq Kq; conv => whnf)
  (refine VSeq.mk fun Kq hKq => ?_; conv => whnf)
  (refine VSeq.mk fun Kq hKq => ?_; conv => whnf)
  (refine ⟨_, _, Blk.ldV (vs := [_, _, _, _, _, _, _, _]) (hp.get (i := 1) rfl) TTok rfl rfl rfl, ?_⟩; conv => whnf)
  refine PureF.use pc fun w hx => ?_
  have hp := hp.call hx
  conv => whnf
  (refine hKq _ _ _ (.refl _) ?_; clear hKq Kq; conv => whnf)
  (refine And.intro (fun h => absurd h (by decide)) (fun _ => ?_); conv => whnf)
  (refine hKq _ _ _ (.refl _) ?_; clear hKq Kq; conv => whnf)
  (refine VSeq.mk fun Kq hKq => ?_; conv => whnf)
  (refine VSeq.mk fun Kq hKq => ?_; conv => whnf)
  (refine VSeq.mk fun Kq hKq => ?_; conv => whnf)
  (refine ⟨_, _, Blk.ldV (vs := [_, _]) (hp.get (i := 1) rfl) TTok rfl rfl rfl, ?_⟩; conv => whnf)
  (refine ⟨1, ⟨rfl, by decide⟩, ?_⟩; conv => whnf)
  (refine ⟨_, _, Blk.ldV (vs := [_, _]) (hp.get (i := 2) rfl) TTok rfl rfl rfl, ?_⟩; conv => whnf)
  refine ⟨_, _, pe1 w _ _, ?_⟩
  conv => whnf
  refine hKq _ _ _ (.refl _) ?_
  clear hKq Kq
  conv => whnf
  (refine And.intro (fun h => absurd h (by decide)) (fun _ => ?_); conv => whnf)
  (refine ⟨_, _, Blk.ldV (vs := [_, _]) (hp.get (i := 1) rfl) TTok rfl rfl rfl, ?_⟩; conv => whnf)
  (refine ⟨0, ⟨rfl, by decide⟩, ?_⟩; conv => whnf)
  (refine ⟨_, _, Blk.ldV (vs := [_, _]) (hp.get (i := 2) rfl) TTok rfl rfl rfl, ?_⟩; conv => whnf)
  refine ⟨_, _, pe2 w _ _, ?_⟩
  conv => whnf
  refine hKq _ _ _ (.refl _) ?_
  clear hKq Kq
  conv => whnf
  (refine And.intro (fun _ => ?_) (fun h => absurd h (by decide)); conv => whnf)
  (refine VSeq.mk fun Kq hKq => ?_; conv => whnf)
  (refine ⟨_, _, bld34_ _, ?_⟩; conv => whnf)
  (refine hp.kstA TTok rfl 0 rfl rfl (oneC_of rfl) (by rfl) fun w hp => ?_; try simp only [List.set_cons_zero, List.set_cons_succ, EV.val] at hp; conv => whnf)
  (refine hKq _ _ _ (.refl _) ?_; clear hKq Kq; conv => whnf)
  (refine ⟨_, Blk.lvN (hp.get (i := 0) rfl) TTok rfl rfl, ?_⟩; conv => whnf)
  (exact ⟨rfl, hp.ext⟩)
 ·rw [decide_eq_false h1] at pe1
  clear hne h1 pe2
  obtain ⟨⟨ah, ap⟩, ⟨bh, bp⟩, now0, nxt, til, ser, gone, noise, word, fresh, asked⟩ := x
  obtain ⟨⟨fh, fp⟩, ⟨th, tp⟩, k, id, pr, ct, ti, no, ⟨mh, mp⟩⟩ := h
  dsimp only [Wt.c, hopF, hopC] at hv s1 pc pe1 ⊢
  have hsl : (iv asked).length = asked.length := List.length_map _
  obtain ⟨p, c, rfl⟩ := hv.shape
  rw [hsl] at hv s1 ⊢
  refine v_reads (args := [.agg #[.string ah, .int .i64 ap, .string bh, .int .i64 bp, .int .i64 now0, .int .i64 nxt, .int .i64 til, .int .i64 ser, _, .string noise, .string word, .string fresh, .slice p asked.length c], .int .i64 now, .agg #[.string fh, .int .i64 fp, .string th, .int .i64 tp, .int .i64 k, .int .i64 id, .int .i64 pr, .bool ct, .int .i64 ti, .bool no, .string mh, .int .i64 mp]]) TTok FFok Tryz.func25 rfl rfl ?_
  conv => whnf
  refine VSeq.mk fun Kq hKq => ?_
  conv => whnf
  have hp := Hp.nil W
  refine hp.kboxA fun q3 w hp hx => ?_
  conv => whnf
  refine hp.kboxA fun q5 w hp hx => ?_
  conv => whnf
  (refine hp.kalloc z34 fun al34 w hp hx => ?_; conv => whnf)
  (refine hKq _ _ _ (.refl _) ?_; clear hKq Kq; conv => whnf)
  (refine VSeq.mk fun Kq hKq => ?_; conv => whnf)
  (refine VSeq.mk fun Kq hKq => ?_; conv => whnf)
  (refine ⟨_, _, Blk.ldV (vs := [_, _, _, _, _, _, _, _, _, _, _, _, _]) (hp.get (i := 2) rfl) TTok rfl rfl rfl, ?_⟩; conv => whnf)
  refine V.CallsUse (s1 (hv.ext hp.ext)) fun w hx => ?_
  have hp := hp.call hx
  conv => whnf
  (refine hKq _ _ _ (.refl _) ?_; clear hKq Kq; conv => whnf)
  (refine VSeq.mk fun Kq hKq => ?_; conv => whnf)
  (refine hKq _ _ _ (.refl _) ?_; clear hKq Kq; conv => whnf)
  (refine And.intro (fun h => absurd (of_decide_eq_true h) (by first | (intro h2; exact absurd rfl h2) | omega | decide)) (fun _ => ?_); conv => whnf)
  (refine hKq _ _ _ (.refl _) ?_; clear hKq Kq; conv => whnf)
  (refine VSeq.mk fun Kq hKq => ?_; conv => whnf)
  (refine VSeq.mk fun Kq hKq => ?_; conv => whnf)
  (refine ⟨_, _, Blk.ldV (vs := [_, _, _, _, _, _, _, _]) (hp.get (i := 1) rfl) TTok rfl rfl rfl, ?_⟩; conv => whnf)
  refine PureF.use pc fun w hx => ?_
  have hp := hp.call hx
  conv => whnf
  (refine hKq _ _ _ (.refl _) ?_; clear hKq Kq; conv => whnf)
  (refine And.intro (fun h => absurd h (by decide)) (fun _ => ?_); conv => whnf)
  (refine hKq _ _ _ (.refl _) ?_; clear hKq Kq; conv => whnf)
  (refine VSeq.mk fun Kq hKq => ?_; conv => whnf)
  (refine VSeq.mk fun Kq hKq => ?_; conv => whnf)
  (refine VSeq.mk fun Kq hKq => ?_; conv => whnf)
  (refine ⟨_, _, Blk.ldV (vs := [_, _]) (hp.get (i := 1) rfl) TTok rfl rfl rfl, ?_⟩; conv => whnf)
  (refine ⟨1, ⟨rfl, by decide⟩, ?_⟩; conv => whnf)
  (refine ⟨_, _, Blk.ldV (vs := [_, _]) (hp.get (i := 2) rfl) TTok rfl rfl rfl, ?_⟩; conv => whnf)
  refine ⟨_, _, pe1 w _ _, ?_⟩
  conv => whnf
  refine hKq _ _ _ (.refl _) ?_
  clear hKq Kq
  conv => whnf
  (refine And.intro (fun _ => ?_) (fun h => absurd h (by decide)); conv => whnf)
  (refine hKq _ _ _ (.refl _) ?_; clear hKq Kq; conv => whnf)
  (refine VSeq.mk fun Kq hKq => ?_; conv => whnf)
  (refine ⟨_, _, bld34_ _, ?_⟩; conv => whnf)
  (refine hp.kstA TTok rfl 0 rfl rfl (oneC_of rfl) (by rfl) fun w hp => ?_; try simp only [List.set_cons_zero, List.set_cons_succ, EV.val] at hp; conv => whnf)
  (refine hKq _ _ _ (.refl _) ?_; clear hKq Kq; conv => whnf)
  (refine ⟨_, Blk.lvN (hp.get (i := 0) rfl) TTok rfl rfl, ?_⟩; conv => whnf)
  (exact ⟨rfl, hp.ext⟩)
set_option maxHeartbeats 16000000
theorem afterL_hit {k : Int} {al : List Int} {i : Nat} {a : Int} (ha : al[i]? = some a) (hb : isB k a = true) (hn : ∀ b ∈ al.take i, isB k b = false) : afterL k al = some (al.drop (i + 1)) := by
 unfold afterL
 obtain ⟨hi, rfl⟩ := List.getElem?_eq_some_iff.1 ha
 have : al.findIdx? (isB k) = some i := List.findIdx?_eq_some_iff_getElem.2 ⟨hi, hb, fun j hj => by
  have := hn al[j] (List.mem_take_iff_getElem.2 ⟨j, by omega, rfl⟩)
  rw [this]; decide⟩
 rw [this]; rfl
theorem afterL_miss {k : Int} {al : List Int} (hn : ∀ b ∈ al, isB k b = false) : afterL k al = none := by
 unfold afterL
 have : al.findIdx? (isB k) = none := List.findIdx?_eq_none_iff.2 hn
 rw [this]; rfl
theorem Hear12_ok {W : World} {v : Value} (x : Wt) (hok : x.Ok) (hv : SLv W v (iv x.asked)) (now : Int) (h : Hop3) (hho : h.Ok) (hw : wtB x = true) (hn : inB now x.now 1099511627776 = true) (hpb : probeB h.2.2 = true) (heq : h.2.1 = x.a ∧ h.1 = x.b) :
  Calls Tryz.prog 25 #[.agg (x.c v).toArray, .int .i64 now, .agg (hopF h).toArray] W fun e w' => ∃ u, e = .returned u ∧ ResT W w' u (hearW x now h).1 (hearW x now h).2 := by
 have hlen := wtB_len hw
 have hst : startN x now = 0 := by unfold startN; rw [hw, hn]; rfl
 have s1 := fun {W : World} (hv : SLv W v (iv x.asked)) => Errors_c (W := W) x hok hv now
 rw [hst] at s1
 have pc := probe11_p h.2.2 hho.p
 rw [hpb] at pc
 have s2 := fun {W : World} (hv : SLv W v (iv x.asked)) => At12_c (W := W) x now hv (by omega)
 have pe1 := fun w xo yo => (ad_eq w h.1 x.b hho.f hok.b xo yo).2
 have pe2 := fun w xo yo => (ad_eq w h.2.1 x.a hho.t hok.a xo yo).2
 rw [decide_eq_true heq.2] at pe1
 rw [decide_eq_true heq.1] at pe2
 have hf := fits_at hok hw hn
 have hyn : (atW x now).now = now := by
  cases hg : goesB x now with
  | true => rw [atW_t hg]
  | false => rw [atW_f hg]
 unfold hearW
 dsimp only
 obtain ⟨y, hy⟩ : ∃ y, atW x now = y := ⟨_, rfl⟩
 rw [hy] at s2 hf hyn ⊢
 clear hw hn hpb hho hok heq hy hst
 obtain ⟨⟨ah, ap⟩, ⟨bh, bp⟩, now0, nxt, til, ser, gone, noise, word, fresh, asked⟩ := x
 obtain ⟨⟨fh, fp⟩, ⟨th, tp⟩, k, id, pr, ct, ti, no, ⟨mh, mp⟩⟩ := h
 dsimp only [Wt.c, hopF, hopC] at hv s1 s2 pc pe1 pe2 ⊢
 have hsl : (iv asked).length = asked.length := List.length_map _
 obtain ⟨p, c, rfl⟩ := hv.shape
 rw [hsl] at hv s1 s2 ⊢
 obtain ⟨⟨yah, yap⟩, ⟨ybh, ybp⟩, ynow, ynxt, ytil, yser, ygone, ynoise, yword, yfresh, yasked⟩ := y
 obtain ⟨f1, f2, f3, f4, f5, f6, f7⟩ := hf
 dsimp only at f1 f2 f3 f4 f5 f6 f7 s2 hyn ⊢
 obtain rfl := hyn.symm
 refine v_fn (args := [.agg #[.string ah, .int .i64 ap, .string bh, .int .i64 bp, .int .i64 now0, .int .i64 nxt, .int .i64 til, .int .i64 ser, _, .string noise, .string word, .string fresh, .slice p asked.length c], .int .i64 now, .agg #[.string fh, .int .i64 fp, .string th, .int .i64 tp, .int .i64 k, .int .i64 id, .int .i64 pr, .bool ct, .int .i64 ti, .bool no, .string mh, .int .i64 mp]]) TTok FFok Tryz.func25 rfl (Nat.le_of_ble_eq_true rfl) ?_
 conv => whnf
 refine VSeq.mk fun Kq hKq => ?_
 conv => whnf
 have hp := Hp.nil W
 refine hp.kboxA fun q3 w hp hx => ?_
 conv => whnf
 refine hp.kboxA fun q5 w hp hx => ?_
 conv => whnf
 (refine hp.kalloc z34 fun al34 w hp hx => ?_; conv => whnf)
 (refine hKq _ _ _ (.refl _) ?_; clear hKq Kq; conv => whnf)
 (refine VSeq.mk fun Kq hKq => ?_; conv => whnf)
 (refine VSeq.mk fun Kq hKq => ?_; conv => whnf)
 (refine ⟨_, _, Blk.ldV (vs := [_, _, _, _, _, _, _, _, _, _, _, _, _]) (hp.get (i := 2) rfl) TTok rfl rfl rfl, ?_⟩; conv => whnf)
 refine V.CallsUse (s1 (hv.ext hp.ext)) fun w hx => ?_
 have hp := hp.call hx
 conv => whnf
 (refine hKq _ _ _ (.refl _) ?_; clear hKq Kq; conv => whnf)
 (refine VSeq.mk fun Kq hKq => ?_; conv => whnf)
 (refine hKq _ _ _ (.refl _) ?_; clear hKq Kq; conv => whnf)
 (refine And.intro (fun h => absurd (of_decide_eq_true h) (by first | (intro h2; exact absurd rfl h2) | omega | decide)) (fun _ => ?_); conv => whnf)
 (refine hKq _ _ _ (.refl _) ?_; clear hKq Kq; conv => whnf)
 (refine VSeq.mk fun Kq hKq => ?_; conv => whnf)
 (refine VSeq.mk fun Kq hKq => ?_; conv => whnf)
 (refine ⟨_, _, Blk.ldV (vs := [_, _, _, _, _, _, _, _]) (hp.get (i := 1) rfl) TTok rfl rfl rfl, ?_⟩; conv => whnf)
 refine PureF.use pc fun w hx => ?_
 have hp := hp.call hx
 conv => whnf
 (refine hKq _ _ _ (.refl _) ?_; clear hKq Kq; conv => whnf)
 (refine And.intro (fun h => absurd h (by decide)) (fun _ => ?_); conv => whnf)
 (refine hKq _ _ _ (.refl _) ?_; clear hKq Kq; conv => whnf)
 (refine VSeq.mk fun Kq hKq => ?_; conv => whnf)
 (refine VSeq.mk fun Kq hKq => ?_; conv => whnf)
 (refine VSeq.mk fun Kq hKq => ?_; conv => whnf)
 (refine ⟨_, _, Blk.ldV (vs := [_, _]) (hp.get (i := 1) rfl) TTok rfl rfl rfl, ?_⟩; conv => whnf)
 (refine ⟨1, ⟨rfl, by decide⟩, ?_⟩; conv => whnf)
 (refine ⟨_, _, Blk.ldV (vs := [_, _]) (hp.get (i := 2) rfl) TTok rfl rfl rfl, ?_⟩; conv => whnf)
 refine ⟨_, _, pe1 w _ _, ?_⟩
 conv => whnf
 refine hKq _ _ _ (.refl _) ?_
 clear hKq Kq
 conv => whnf
 (refine And.intro (fun h => absurd h (by decide)) (fun _ => ?_); conv => whnf)
 (refine ⟨_, _, Blk.ldV (vs := [_, _]) (hp.get (i := 1) rfl) TTok rfl rfl rfl, ?_⟩; conv => whnf)
 (refine ⟨0, ⟨rfl, by decide⟩, ?_⟩; conv => whnf)
 (refine ⟨_, _, Blk.ldV (vs := [_, _]) (hp.get (i := 2) rfl) TTok rfl rfl rfl, ?_⟩; conv => whnf)
 refine ⟨_, _, pe2 w _ _, ?_⟩
 conv => whnf
 refine hKq _ _ _ (.refl _) ?_
 clear hKq Kq
 conv => whnf
 (refine And.intro (fun h => absurd h (by decide)) (fun _ => ?_); conv => whnf)
 (refine hKq _ _ _ (.refl _) ?_; clear hKq Kq; conv => whnf)
 (refine VSeq.mk fun Kq hKq => ?_; conv => whnf)
 (refine ⟨_, _, Blk.ldV (vs := [_, _, _, _, _, _, _, _, _, _, _, _, _]) (hp.get (i := 2) rfl) TTok rfl rfl rfl, ?_⟩; conv => whnf)
 refine Calls.mono (s2 (hv.ext hp.ext)) ?_
 rintro _ w ⟨_, rfl, v', rfl, k2⟩
 refine ⟨_, rfl, ?_⟩
 have hp := hp.join k2
 simp only [List.cons_append, List.nil_append] at hp
 obtain ⟨pu, cu, rfl⟩ := row_shape (hp.get (i := 0) rfl)
 clear s1 s2 hv k2 pc pe1 pe2
 conv => whnf
 (refine hp.kstA TTok rfl 3 rfl rfl (oneC_of rfl) (by rfl) fun w hp => ?_; try simp only [List.set_cons_zero, List.set_cons_succ, EV.val] at hp; conv => whnf)
 (refine hKq _ _ _ (.refl _) ?_; clear hKq Kq; conv => whnf)
 (refine VSeq.mk fun Kq hKq => ?_; conv => whnf)
 (refine VSeq.mk fun Kq hKq => ?_; conv => whnf)
 (refine ⟨_, _, Blk.ld (hp.get (i := 3) rfl) TTok rfl rfl, ?_⟩; conv => whnf)
 (refine hKq _ _ _ (.refl _) ?_; clear hKq Kq; conv => whnf)
 refine ⟨fun hgo => ?_, fun hgo => ?_⟩
 ·conv => whnf
  (refine VSeq.mk fun Kq hKq => ?_; conv => whnf)
  (refine ⟨_, _, Blk.ldV (vs := [_, _, _, _, _, _, _, _, _, _, _, _, _]) (hp.get (i := 3) rfl) TTok rfl rfl rfl, ?_⟩; conv => whnf)
  (refine hp.kstA TTok rfl 1 rfl rfl (oneC_of rfl) (by rfl) fun w hp => ?_; try simp only [List.set_cons_zero, List.set_cons_succ, EV.val] at hp; conv => whnf)
  (refine hKq _ _ _ (.refl _) ?_; clear hKq Kq; conv => whnf)
  (refine ⟨_, Blk.lvN (hp.get (i := 1) rfl) TTok rfl rfl, ?_⟩; conv => whnf)
  rw [if_pos hgo]
  exact ⟨_, _, rfl, hp.ext, SLw.row hp (i := 0) rfl, .nil⟩
 ·conv => whnf
  (refine hKq _ _ _ (.refl _) ?_; clear hKq Kq; conv => whnf)
  (refine VSeq.mk fun Kq hKq => ?_; conv => whnf)
  (refine VSeq.mk fun Kq hKq => ?_; conv => whnf)
  (refine ⟨_, _, Blk.ld (hp.get (i := 2) rfl) TTok rfl rfl, ?_⟩; conv => whnf)
  (refine hKq _ _ _ (.refl _) ?_; clear hKq Kq; conv => whnf)
  refine ⟨fun hk1 => ?_, fun hk1 => ?_⟩
  ·have hk1 := of_decide_eq_true hk1
   conv => whnf
   (refine VSeq.mk fun Kq hKq => ?_; conv => whnf)
   have hcls := hp.pick [2, 3] (by decide)
   simp only [List.filterMap_cons, List.filterMap_nil, List.getElem?_cons_zero, List.getElem?_cons_succ] at hcls
   refine v_mtC TTok FFok mixed _ hcls [] (.q 0 (.q 1 (.q 2 (.q 3 (.q 4 (.q 5 (.q 6 (.q 7 (.q 8 (.q 9 (.q 10 (.q 11 (.q 12 (.q 13 (.br 14 15 (.m 15 (.q 16 (.q 17 .nil))) (.m 14 (.q 16 (.q 17 .nil)))))))))))))))))) (by kernel_rfl) ?_
   clear hcls
   conv => whnf
   (refine ⟨_, fun w' hc => Blk.ldV (vs := [_, _, _, _, _, _, _, _, _, _, _, _, _]) (hc.get (i := 1) rfl) TTok rfl rfl rfl, ?_⟩; conv => whnf)
   (refine ⟨0, ⟨rfl, by decide⟩, ?_⟩; conv => whnf)
   (refine ⟨_, fun w' hc => Blk.ldV (vs := [_, _]) (hc.get (i := 1) rfl) TTok rfl rfl rfl, ?_⟩; conv => whnf)
   (refine ⟨1, ⟨rfl, by decide⟩, ?_⟩; conv => whnf)
   (refine ⟨_, fun w' hc => Blk.ldV (vs := [_, _]) (hc.get (i := 1) rfl) TTok rfl rfl rfl, ?_⟩; conv => whnf)
   (refine ⟨_, fun w' hc => Blk.ld (hc.get (i := 0) rfl) TTok rfl rfl, ?_⟩; conv => whnf)
   (refine ⟨_, fun w' hc => Blk.ldV (vs := [_, _]) (hc.get (i := 0) rfl) TTok rfl rfl rfl, ?_⟩; conv => whnf)
   (refine ⟨_, fun w' hx' => bld61_0_1_6 w' _ _ _ _, ?_⟩; conv => whnf)
   (refine ⟨_, fun w' hx' => bld63_0_1_2 w' _ _ _ _ _ _ _ _ _ _ _ _, ?_⟩; conv => whnf)
   refine And.intro ?_ ?_
   all_goals
    conv => whnf
    first | ((intro w hx; try (have hp := hp.call hx); conv => whnf); (refine hp.kstA TTok rfl 1 rfl rfl (oneC_of rfl) (by rfl) fun w hp => ?_; try simp only [List.set_cons_zero, List.set_cons_succ, EV.val] at hp; conv => whnf); (refine And.intro (fun _ => hp.pick [2, 3] (by decide)) ?_; conv => whnf); (intro w hx; try (have hp := hp.call hx); conv => whnf); (refine hp.kmade _ _ (fun b => .slice (some ⟨b, 0, none⟩) 1 1) (mks55_1_0 _ _ _ _ _ _ _ _ _ _ _ _ _) fun q w hp hx => ?_; conv => whnf); (refine And.intro (fun hc => hc.call hx) ?_; conv => whnf); (intro w hx; try (have hp := hp.call hx); conv => whnf); (refine hKq _ _ _ (.refl _) ?_; clear hKq Kq; conv => whnf); (refine ⟨_, Blk.lvN (hp.get (i := 2) rfl) TTok rfl rfl, ?_⟩; conv => whnf)) | ((intro w hx; try (have hp := hp.call hx); conv => whnf); (refine hp.kmade _ _ (fun b => .slice (some ⟨b, 0, none⟩) 1 1) (mks55_1_0 _ _ _ _ _ _ _ _ _ _ _ _ _) fun q w hp hx => ?_; conv => whnf); (refine And.intro (fun hc => hc.call hx) ?_; conv => whnf); (intro w hx; try (have hp := hp.call hx); conv => whnf); (refine hp.kstA TTok rfl 2 rfl rfl (oneC_of rfl) (by rfl) fun w hp => ?_; try simp only [List.set_cons_zero, List.set_cons_succ, EV.val] at hp; conv => whnf); (refine And.intro (fun _ => hp.pick [3, 4] (by decide)) ?_; conv => whnf); (intro w hx; try (have hp := hp.call hx); conv => whnf); (refine hKq _ _ _ (.refl _) ?_; clear hKq Kq; conv => whnf); (refine ⟨_, Blk.lvN (hp.get (i := 2) rfl) TTok rfl rfl, ?_⟩; conv => whnf))
    rw [if_neg (by rw [hgo]; decide), if_pos hk1]
    exact ⟨_, _, rfl, hp.ext, SLw.row hp (i := 1) rfl, HRw.blk hp (i := 0) rfl⟩
  ·have hk1 := of_decide_eq_false hk1
   conv => whnf
   (refine hKq _ _ _ (.refl _) ?_; clear hKq Kq; conv => whnf)
   (refine VSeq.mk fun Kq hKq => ?_; conv => whnf)
   (refine VSeq.mk fun Kq hKq => ?_; conv => whnf)
   (refine hKq _ _ _ (.refl _) ?_; clear hKq Kq; conv => whnf)
   have hrow := SLv.of_row (hp.get (i := 0) rfl)
   have hivl : (iv yasked).length = yasked.length := List.length_map _
   refine ⟨fun mm e w' => ∃ (i : Nat), mm + i = yasked.length ∧ e = [(1, .v (.int .i64 now)), (3, .v (.pointer (some ⟨q3, 0, none⟩))), (5, .v (.pointer (some ⟨q5, 0, none⟩))), (6, .v (.pointer (some ⟨al34, 0, none⟩))), (10, .v (.int .i64 i))] ∧ (∀ b ∈ yasked.take i, isB id b = false) ∧ HpM [] W w' [row 3 1 (.slice pu yasked.length cu) yasked.length (iv yasked), blk al34 [.string ⟨#[]⟩, .int .i64 0, .string ⟨#[]⟩, .int .i64 0, .int .i64 0, .int .i64 0, .int .i64 0, .int .i64 0, .bool false, .string ⟨#[]⟩, .string ⟨#[]⟩, .string ⟨#[]⟩, .slice none 0 0] 34, blk q5 [.string fh, .int .i64 fp, .string th, .int .i64 tp, .int .i64 k, .int .i64 id, .int .i64 pr, .bool ct, .int .i64 ti, .bool no, .string mh, .int .i64 mp] 63, blk q3 [.string yah, .int .i64 yap, .string ybh, .int .i64 ybp, .int .i64 now, .int .i64 ynxt, .int .i64 ytil, .int .i64 yser, .bool ygone, .string ynoise, .string yword, .string yfresh, .slice pu yasked.length cu] 34],
    ⟨yasked.length, _, ⟨0, by omega, rfl, by simp, hp⟩, sub_cons rfl (sub_cons rfl (sub_cons rfl (sub_cons rfl (sub_cons rfl sub_nil))))⟩, ?_⟩
   clear hrow hp
   repeat clear hp
   rintro mm _ w ⟨i, hmm, rfl, hnb, hp⟩
   conv => whnf
   refine VSeq.mk fun Kq hKq => ?_
   conv => whnf
   refine VSeq.mk fun Kq hKq => ?_
   conv => whnf
   refine VSeq.mk fun Kq hKq => ?_
   conv => whnf
   (refine ⟨_, _, Blk.ld (hp.get (i := 3) rfl) TTok rfl rfl, ?_⟩; conv => whnf)
   (refine hKq _ _ _ (.refl _) ?_; clear hKq Kq; conv => whnf)
   by_cases hk2 : k = 2
   ·refine ⟨fun hlt => ?_, fun hlt => ?_⟩
    ·have hlt := of_decide_eq_true hlt
     conv => whnf
     have hrow := SLv.of_row (hp.get (i := 0) rfl)
     obtain ⟨a, ha⟩ : ∃ a, yasked[i]? = some a := ⟨yasked[i]'(by omega), List.getElem?_eq_getElem (by omega)⟩
     obtain ⟨g, off, rfl, hld⟩ := hrow.at (j := i) (x := .int .i64 a) (by rw [List.getElem?_map, ha]; rfl)
     rw [Nat.add_comm] at hld
     (refine ⟨_, _, Blk.ld (hp.get (i := 2) rfl) TTok rfl rfl, ?_⟩; conv => whnf)
     (refine hKq _ _ _ (.refl _) ?_; clear hKq Kq; conv => whnf)
     (refine And.intro (fun _ => ?_) (fun h => absurd (by first | rfl | assumption | omega | decide) (of_decide_eq_false h)); conv => whnf)
     (refine hKq _ _ _ (.refl _) ?_; clear hKq Kq; conv => whnf)
     (refine VSeq.mk fun Kq hKq => ?_; conv => whnf)
     (refine VSeq.mk fun Kq hKq => ?_; conv => whnf)
     refine v_mixA TTok FFok mixed [(0, false), (1, false), (2, false), (3, false), (4, false), (5, false), (6, false), (7, false), (8, false)] (by kernel_rfl) ?_
     conv => whnf
     (refine ⟨_, fun w' hx' => Blk.ld (Blk.ext (hp.get (i := 3) rfl) hx') TTok rfl rfl, ?_⟩; conv => whnf)
     (refine ⟨_, ⟨rfl, by omega⟩, ?_⟩; conv => whnf)
     refine ⟨_, fun w' hx' => run_ld TTok rfl (hx'.cell hld), ?_⟩
     conv => whnf
     (refine ⟨_, fun w' hx' => Blk.ld (Blk.ext (hp.get (i := 2) rfl) hx') TTok rfl rfl, ?_⟩; conv => whnf)
     (intro w hx; try (have hp := hp.call hx); conv => whnf)
     (refine hKq _ _ _ (.refl _) ?_; clear hKq Kq; conv => whnf)
     refine ⟨fun hq => ?_, fun hq => ?_⟩
     ·have hq := of_decide_eq_true hq
      have hres := afterL_hit ha (decide_eq_true hq) hnb
      obtain ⟨v3, hr, hs⟩ := lo_val (SLv.of_row (hp.get (i := 0) rfl)) (i + 1) (by omega)
      obtain ⟨p3, c3, rfl⟩ := (hs w (SLw.row hp (i := 0) rfl)).shape
      have hdr : (iv yasked).drop (i + 1) = iv (yasked.drop (i + 1)) := by unfold iv; rw [List.map_drop]
      conv => whnf
      (refine VSeq.mk fun Kq hKq => ?_; conv => whnf)
      (refine ⟨_, _, Blk.ld (hp.get (i := 3) rfl) TTok rfl rfl, ?_⟩; conv => whnf)
      (refine Or.inl (And.intro (by first | omega | decide) ?_); conv => whnf)
      refine ⟨_, _, hr .i64 w, ?_⟩
      conv => whnf
      (refine hp.kst1 TTok (by rfl) 3 (by rfl) (by rfl) (by rfl) (Nat.le_of_ble_eq_true rfl) fun w hp => ?_; try simp only [List.set_cons_zero, List.set_cons_succ, EV.val] at hp; conv => whnf)
      (refine hKq _ _ _ (.refl _) ?_; clear hKq Kq; conv => whnf)
      (refine VSeq.mk fun Kq hKq => ?_; conv => whnf)
      (refine Or.inl (And.intro (by first | omega | decide) ?_); conv => whnf)
      (refine hp.kst1 TTok (by rfl) 3 (by rfl) (by rfl) (by rfl) (Nat.le_of_ble_eq_true rfl) fun w hp => ?_; try simp only [List.set_cons_zero, List.set_cons_succ, EV.val] at hp; conv => whnf)
      (refine hKq _ _ _ (.refl _) ?_; clear hKq Kq; conv => whnf)
      (clear hKq Kq; refine hKq _ _ _ (.refl _) ?_; clear hKq Kq; conv => whnf)
      (refine VSeq.mk fun Kq hKq => ?_; conv => whnf)
      (refine ⟨_, _, Blk.ldV (vs := [_, _, _, _, _, _, _, _, _, _, _, _, _]) (hp.get (i := 3) rfl) TTok rfl rfl rfl, ?_⟩; conv => whnf)
      (refine hp.kstA TTok rfl 1 rfl rfl (oneC_of rfl) (by rfl) fun w hp => ?_; try simp only [List.set_cons_zero, List.set_cons_succ, EV.val] at hp; conv => whnf)
      (refine hKq _ _ _ (.refl _) ?_; clear hKq Kq; conv => whnf)
      (refine ⟨_, Blk.lvN (hp.get (i := 1) rfl) TTok rfl rfl, ?_⟩; conv => whnf)
      rw [if_neg (by rw [hgo]; decide), if_neg hk1, if_pos hk2, hres]
      exact ⟨_, _, rfl, hp.ext, (by show SLw _ _ _ (iv (yasked.drop (i + 1))); rw [← hdr]; exact hs _ (SLw.row hp (i := 0) rfl)), .nil⟩
     ·have hq := of_decide_eq_false hq
      conv => whnf
      (refine hKq _ _ _ (.refl _) ?_; clear hKq Kq; conv => whnf)
      (refine Or.inl (And.intro (by first | omega | decide) ?_); conv => whnf)
      refine ⟨mm - 1, _, by omega, ⟨i + 1, by omega, rfl, fun b hbm => ?_, hp⟩, sub_cons rfl (sub_cons rfl (sub_cons rfl (sub_cons rfl (sub_cons rfl sub_nil))))⟩
      rw [List.take_add_one, ha] at hbm
      rcases List.mem_append.1 hbm with h | h
      ·exact hnb b h
      ·have : b = a := by simpa using h
       rw [this]; exact decide_eq_false hq
    ·have hlt := of_decide_eq_false hlt
     have hi : i = yasked.length := by omega
     subst hi
     rw [List.take_of_length_le (Nat.le_refl _)] at hnb
     have hres := afterL_miss hnb
     conv => whnf
     (refine hKq _ _ _ (.refl _) ?_; clear hKq Kq; conv => whnf)
     (clear hKq Kq; refine hKq _ _ _ (.refl _) ?_; clear hKq Kq; conv => whnf)
     (refine VSeq.mk fun Kq hKq => ?_; conv => whnf)
     (refine ⟨_, _, Blk.ldV (vs := [_, _, _, _, _, _, _, _, _, _, _, _, _]) (hp.get (i := 3) rfl) TTok rfl rfl rfl, ?_⟩; conv => whnf)
     (refine hp.kstA TTok rfl 1 rfl rfl (oneC_of rfl) (by rfl) fun w hp => ?_; try simp only [List.set_cons_zero, List.set_cons_succ, EV.val] at hp; conv => whnf)
     (refine hKq _ _ _ (.refl _) ?_; clear hKq Kq; conv => whnf)
     (refine ⟨_, Blk.lvN (hp.get (i := 1) rfl) TTok rfl rfl, ?_⟩; conv => whnf)
     rw [if_neg (by rw [hgo]; decide), if_neg hk1, if_pos hk2, hres]
     exact ⟨_, _, rfl, hp.ext, SLw.row hp (i := 0) rfl, .nil⟩
   ·refine ⟨fun hlt => ?_, fun hlt => ?_⟩
    ·conv => whnf
     (refine ⟨_, _, Blk.ld (hp.get (i := 2) rfl) TTok rfl rfl, ?_⟩; conv => whnf)
     (refine hKq _ _ _ (.refl _) ?_; clear hKq Kq; conv => whnf)
     (refine And.intro (fun h => absurd (of_decide_eq_true h) (by first | (intro h2; exact absurd rfl h2) | omega | decide)) (fun _ => ?_); conv => whnf)
     (clear hKq Kq; refine hKq _ _ _ (.refl _) ?_; clear hKq Kq; conv => whnf)
     (refine VSeq.mk fun Kq hKq => ?_; conv => whnf)
     (refine ⟨_, _, Blk.ldV (vs := [_, _, _, _, _, _, _, _, _, _, _, _, _]) (hp.get (i := 3) rfl) TTok rfl rfl rfl, ?_⟩; conv => whnf)
     (refine hp.kstA TTok rfl 1 rfl rfl (oneC_of rfl) (by rfl) fun w hp => ?_; try simp only [List.set_cons_zero, List.set_cons_succ, EV.val] at hp; conv => whnf)
     (refine hKq _ _ _ (.refl _) ?_; clear hKq Kq; conv => whnf)
     (refine ⟨_, Blk.lvN (hp.get (i := 1) rfl) TTok rfl rfl, ?_⟩; conv => whnf)
     rw [if_neg (by rw [hgo]; decide), if_neg hk1, if_neg hk2]
     exact ⟨_, _, rfl, hp.ext, SLw.row hp (i := 0) rfl, .nil⟩
    ·conv => whnf
     (refine hKq _ _ _ (.refl _) ?_; clear hKq Kq; conv => whnf)
     (clear hKq Kq; refine hKq _ _ _ (.refl _) ?_; clear hKq Kq; conv => whnf)
     (refine VSeq.mk fun Kq hKq => ?_; conv => whnf)
     (refine ⟨_, _, Blk.ldV (vs := [_, _, _, _, _, _, _, _, _, _, _, _, _]) (hp.get (i := 3) rfl) TTok rfl rfl rfl, ?_⟩; conv => whnf)
     (refine hp.kstA TTok rfl 1 rfl rfl (oneC_of rfl) (by rfl) fun w hp => ?_; try simp only [List.set_cons_zero, List.set_cons_succ, EV.val] at hp; conv => whnf)
     (refine hKq _ _ _ (.refl _) ?_; clear hKq Kq; conv => whnf)
     (refine ⟨_, Blk.lvN (hp.get (i := 1) rfl) TTok rfl rfl, ?_⟩; conv => whnf)
     rw [if_neg (by rw [hgo]; decide), if_neg hk1, if_neg hk2]
     exact ⟨_, _, rfl, hp.ext, SLw.row hp (i := 0) rfl, .nil⟩
end Go.Proofs.YtgkhcgiggjijlaaGreat
