/- Chapter 12: Time of the program. -/
/- Chapter 12: Time of the program, a question is asked. -/
/- Chapter 12: Time of the reference. -/
/- Chapter 12: Restart and Switch, program and reference. -/
/- Chapter 12: Restart and Switch, program and reference: what they return. -/
/- Chapter 12: Switch, program and reference. -/
/- Chapter 12: Hear of the program. -/
/- Chapter 12: equal watches, equal hops. -/
/- Chapter 12: Hear of the reference. -/
/- Chapter 12: Hear of the reference, what it returns. -/
/- Chapter 12: what the functions return for every watch, program and reference alike. -/
import Derived.Test.YtefjgoeabfgkmaaKN08
namespace Go.Proofs.Ytefjgoeabfgkmaa
set_option linter.unusedSimpArgs false
set_option linter.unusedVariables false
set_option maxRecDepth 100000
open Go.RowKit V
set_option maxHeartbeats 1600000
/-- a watch in memory, as a result -/
def ResT (W w' : World) (u : Value) (y : Wt) (hs : List Hop3) : Prop := ∃ v' o, u = .tuple #[.agg (y.c v').toArray, o, .int .i64 0] ∧ Ext W w' ∧ SLw W w' v' (iv y.asked) ∧ HRw W w' o hs
theorem Time_bad {W : World} {v : Value} (x : Wt) (hok : x.Ok) (hv : SLv W v (iv x.asked)) (now : Int) (hs : startN x now ≠ 0) :
  Calls Try.prog 6 #[.agg (x.c v).toArray, .int .i64 now] W fun e w' => e = .returned (.tuple #[.agg (zW.c (.slice none 0 0)).toArray, .slice none 0 0, .int .i64 (startN x now)]) ∧ Ext W w' := by
 have s1 : ∀ {W : World}, SLv W v (iv x.asked) → Calls Try.prog 19 #[.agg (x.c v).toArray, .int .i64 now] W fun e w' => e = .returned (.tuple #[.pointer none, .int .i64 (startN x now)]) ∧ Ext W w' := fun {W} hv => by
  unfold startN at hs ⊢
  cases hw : wtB x with
  | false => exact start_v x hok hv now hw
  | true =>
   rw [hw] at hs
   cases hi : inB now x.now 1099511627776 with
   | false => exact start_n x hok hv now hw hi
   | true => rw [hi] at hs; exact absurd rfl hs
 obtain ⟨N, hN⟩ : ∃ N, startN x now = N := ⟨_, rfl⟩
 rw [hN] at s1 hs ⊢
 clear hN hok
 obtain ⟨⟨ah, ap⟩, ⟨bh, bp⟩, now0, nxt, til, ser, gone, noise, word, fresh, asked⟩ := x
 dsimp only [Wt.c] at hv s1 ⊢
 have hsl : (iv asked).length = asked.length := List.length_map _
 obtain ⟨p, c, rfl⟩ := hv.shape
 rw [hsl] at hv s1 ⊢
 refine v_reads (args := [.agg #[.string ah, .int .i64 ap, .string bh, .int .i64 bp, .int .i64 now0, .int .i64 nxt, .int .i64 til, .int .i64 ser, .bool gone, .string noise, .string word, .string fresh, .slice p asked.length c], .int .i64 now]) TTok FFok Try.func6 rfl rfl ?_
 conv => whnf
 refine VSeq.mk fun Kq hKq => ?_
 conv => whnf
 have hp := Hp.nil W
 refine hp.kboxA fun q2 w hp hx => ?_
 conv => whnf
 (refine hp.kalloc z28 fun al28 w hp hx => ?_; conv => whnf)
 (refine hKq _ _ _ (.refl _) ?_; clear hKq Kq; conv => whnf)
 (refine VSeq.mk fun Kq hKq => ?_; conv => whnf)
 (refine ⟨_, _, Blk.ldV (vs := [_, _, _, _, _, _, _, _, _, _, _, _, _]) (hp.get (i := 1) rfl) TTok rfl rfl rfl, ?_⟩; conv => whnf)
 refine V.CallsUse (s1 (hv.ext hp.ext)) fun w hx => ?_
 have hp := hp.call hx
 conv => whnf
 (refine hKq _ _ _ (.refl _) ?_; clear hKq Kq; conv => whnf)
 (refine VSeq.mk fun Kq hKq => ?_; conv => whnf)
 (refine VSeq.mk fun Kq hKq => ?_; conv => whnf)
 (refine hKq _ _ _ (.refl _) ?_; clear hKq Kq; conv => whnf)
 (refine And.intro (fun _ => ?_) (fun h => absurd (by first | rfl | assumption | omega | decide) (of_decide_eq_false h)); conv => whnf)
 (refine VSeq.mk fun Kq hKq => ?_; conv => whnf)
 (refine ⟨_, _, bld28_ _, ?_⟩; conv => whnf)
 (refine hp.kstA TTok rfl 0 rfl rfl (oneC_of rfl) (by rfl) fun w hp => ?_; try simp only [List.set_cons_zero, List.set_cons_succ, EV.val] at hp; conv => whnf)
 (refine hKq _ _ _ (.refl _) ?_; clear hKq Kq; conv => whnf)
 (refine ⟨_, Blk.lvN (hp.get (i := 0) rfl) TTok rfl rfl, ?_⟩; conv => whnf)
 (exact ⟨rfl, hp.ext⟩)
theorem Time_g {W : World} {v : Value} (x : Wt) (hok : x.Ok) (hv : SLv W v (iv x.asked)) (now : Int) (hw : wtB x = true) (hn : inB now x.now 1099511627776 = true) (hg : goesB x now = true) :
  Calls Try.prog 6 #[.agg (x.c v).toArray, .int .i64 now] W fun e w' => ∃ u, e = .returned u ∧ ResT W w' u (atW x now) [] := by
 have hlen := wtB_len hw
 have s1 := fun {W : World} (hv : SLv W v (iv x.asked)) => start_t (W := W) x hok hv now hw hn (by omega)
 obtain ⟨_, ⟨_, h2, _, _, _, _, h7, h8, h9, h10, _⟩, _⟩ := wtB_spec hw
 have hi := inB_t hn
 clear hw hn
 have a1 := fun (M : List Nat) (w0 w : World) (H : List It) (q : Nat) (u : Value) hp => at_t (M := M) (w0 := w0) (w := w) (H := H) (q := q) (v := u) (out := .slice none 0 0) x now hg hp
 rw [atW_t hg] at a1
 rw [atW_t hg]
 clear hok
 obtain ⟨⟨ah, ap⟩, ⟨bh, bp⟩, now0, nxt, til, ser, gone, noise, word, fresh, asked⟩ := x
 dsimp only [Wt.c] at hv s1 a1 h2 h7 h8 h9 h10 hi hlen hg ⊢
 have hsl : (iv asked).length = asked.length := List.length_map _
 obtain ⟨p, c, rfl⟩ := hv.shape
 rw [hsl] at hv s1 ⊢
 refine v_fn (args := [.agg #[.string ah, .int .i64 ap, .string bh, .int .i64 bp, .int .i64 now0, .int .i64 nxt, .int .i64 til, .int .i64 ser, _, .string noise, .string word, .string fresh, .slice p asked.length c], .int .i64 now]) TTok FFok Try.func6 rfl (Nat.le_of_ble_eq_true rfl) ?_
 conv => whnf
 refine VSeq.mk fun Kq hKq => ?_
 conv => whnf
 have hp := Hp.nil W
 refine hp.kboxA fun q2 w hp hx => ?_
 conv => whnf
 (refine hp.kalloc z28 fun al28 w hp hx => ?_; conv => whnf)
 (refine hKq _ _ _ (.refl _) ?_; clear hKq Kq; conv => whnf)
 (refine VSeq.mk fun Kq hKq => ?_; conv => whnf)
 (refine ⟨_, _, Blk.ldV (vs := [_, _, _, _, _, _, _, _, _, _, _, _, _]) (hp.get (i := 1) rfl) TTok rfl rfl rfl, ?_⟩; conv => whnf)
 refine Calls.mono (s1 (hv.ext hp.ext)) ?_
 rintro _ w ⟨_, rfl, q, u, rfl, k2⟩
 refine ⟨_, rfl, ?_⟩
 have hp := hp.join k2
 simp only [List.cons_append, List.nil_append] at hp
 obtain ⟨pu, cu, rfl⟩ := row_shape (hp.get (i := 1) rfl)
 conv => whnf
 (refine hKq _ _ _ (.refl _) ?_; clear hKq Kq; conv => whnf)
 (refine VSeq.mk fun Kq hKq => ?_; conv => whnf)
 (refine VSeq.mk fun Kq hKq => ?_; conv => whnf)
 (refine hKq _ _ _ (.refl _) ?_; clear hKq Kq; conv => whnf)
 (refine And.intro (fun h => absurd (of_decide_eq_true h) (by first | (intro h2; exact absurd rfl h2) | omega | decide)) (fun _ => ?_); conv => whnf)
 (refine hKq _ _ _ (.refl _) ?_; clear hKq Kq; conv => whnf)
 (refine VSeq.mk fun Kq hKq => ?_; conv => whnf)
 refine Calls.mono (a1 _ _ _ _ _ _ hp) ?_
 rintro _ w ⟨_, rfl, hp⟩
 refine ⟨_, rfl, ?_⟩
 try dsimp only [gC] at hp
 conv => whnf
 clear s1 a1
 (refine hKq _ _ _ (.refl _) ?_; clear hKq Kq; conv => whnf)
 (refine VSeq.mk fun Kq hKq => ?_; conv => whnf)
 (refine VSeq.mk fun Kq hKq => ?_; conv => whnf)
 (refine VSeq.mk fun Kq hKq => ?_; conv => whnf)
 (refine ⟨_, _, Blk.ld (hp.get (i := 0) rfl) TTok rfl rfl, ?_⟩; conv => whnf)
 (refine hKq _ _ _ (.refl _) ?_; clear hKq Kq; conv => whnf)
 (refine VSeq.mk fun Kq hKq => ?_; conv => whnf)
 (refine And.intro (fun h => absurd h (by decide)) (fun _ => ?_); conv => whnf)
 (refine hKq _ _ _ (.refl _) ?_; clear hKq Kq; conv => whnf)
 (refine hKq _ _ _ (.refl _) ?_; clear hKq Kq; conv => whnf)
 (refine hKq _ _ _ (.refl _) ?_; clear hKq Kq; conv => whnf)
 (refine VSeq.mk fun Kq hKq => ?_; conv => whnf)
 have hcls := hp.pick [0, 1] (by decide)
 simp only [List.filterMap_cons, List.filterMap_nil, List.getElem?_cons_zero, List.getElem?_cons_succ] at hcls
 refine v_mtC TTok FFok mixed _ hcls [] (.q 0 (.q 1 (.q 2 (.q 3 (.q 4 (.q 5 (.q 6 (.q 7 (.m 8 (.q 9 (.q 10 .nil))))))))))) (by kernel_rfl) ?_
 clear hcls
 conv => whnf
 (refine ⟨_, fun w' hc => Blk.ldV (vs := [_, _, _, _, _, _, _, _, _, _, _, _, _]) (hc.get (i := 0) rfl) TTok rfl rfl rfl, ?_⟩; conv => whnf)
 (refine ⟨_, fun w' hc => Blk.ld (hc.get (i := 0) rfl) TTok rfl rfl, ?_⟩; conv => whnf)
 (intro w hx; try (have hp := hp.call hx); conv => whnf)
 (refine hp.kstA TTok rfl 2 rfl rfl (oneC_of rfl) (by rfl) fun w hp => ?_; try simp only [List.set_cons_zero, List.set_cons_succ, EV.val] at hp; conv => whnf)
 (refine And.intro (fun _ => hp.pick [0, 1] (by decide)) ?_; conv => whnf)
 (intro w hx; try (have hp := hp.call hx); conv => whnf)
 (refine hKq _ _ _ (.refl _) ?_; clear hKq Kq; conv => whnf)
 (refine ⟨_, Blk.lvN (hp.get (i := 2) rfl) TTok rfl rfl, ?_⟩; conv => whnf)
 exact ⟨_, _, rfl, hp.ext, .nil, .nil⟩
theorem Time_n1 {W : World} {v : Value} (x : Wt) (hok : x.Ok) (hv : SLv W v (iv x.asked)) (now : Int) (hw : wtB x = true) (hn : inB now x.now 1099511627776 = true) (hg : goesB x now = false) (h1 : x.gone = true) :
  Calls Try.prog 6 #[.agg (x.c v).toArray, .int .i64 now] W fun e w' => ∃ u, e = .returned u ∧ ResT W w' u (atW x now) [] := by
 have hlen := wtB_len hw
 have s1 := fun {W : World} (hv : SLv W v (iv x.asked)) => start_t (W := W) x hok hv now hw hn (by omega)
 obtain ⟨_, ⟨_, h2, _, _, _, _, h7, h8, h9, h10, _⟩, _⟩ := wtB_spec hw
 have hi := inB_t hn
 clear hw hn
 have a1 := fun (M : List Nat) (w0 w : World) (H : List It) (q : Nat) (u : Value) hp => at_f (M := M) (w0 := w0) (w := w) (H := H) (q := q) (v := u) (out := .slice none 0 0) x now hg hp
 rw [atW_f hg] at a1
 rw [atW_f hg]
 clear hok
 obtain ⟨⟨ah, ap⟩, ⟨bh, bp⟩, now0, nxt, til, ser, gone, noise, word, fresh, asked⟩ := x
 dsimp only [Wt.c] at hv s1 a1 h2 h7 h8 h9 h10 hi hlen hg h1 ⊢
 have hsl : (iv asked).length = asked.length := List.length_map _
 obtain ⟨p, c, rfl⟩ := hv.shape
 rw [hsl] at hv s1 ⊢
 clear hg
 subst h1
 refine v_fn (args := [.agg #[.string ah, .int .i64 ap, .string bh, .int .i64 bp, .int .i64 now0, .int .i64 nxt, .int .i64 til, .int .i64 ser, _, .string noise, .string word, .string fresh, .slice p asked.length c], .int .i64 now]) TTok FFok Try.func6 rfl (Nat.le_of_ble_eq_true rfl) ?_
 conv => whnf
 refine VSeq.mk fun Kq hKq => ?_
 conv => whnf
 have hp := Hp.nil W
 refine hp.kboxA fun q2 w hp hx => ?_
 conv => whnf
 (refine hp.kalloc z28 fun al28 w hp hx => ?_; conv => whnf)
 (refine hKq _ _ _ (.refl _) ?_; clear hKq Kq; conv => whnf)
 (refine VSeq.mk fun Kq hKq => ?_; conv => whnf)
 (refine ⟨_, _, Blk.ldV (vs := [_, _, _, _, _, _, _, _, _, _, _, _, _]) (hp.get (i := 1) rfl) TTok rfl rfl rfl, ?_⟩; conv => whnf)
 refine Calls.mono (s1 (hv.ext hp.ext)) ?_
 rintro _ w ⟨_, rfl, q, u, rfl, k2⟩
 refine ⟨_, rfl, ?_⟩
 have hp := hp.join k2
 simp only [List.cons_append, List.nil_append] at hp
 obtain ⟨pu, cu, rfl⟩ := row_shape (hp.get (i := 1) rfl)
 conv => whnf
 (refine hKq _ _ _ (.refl _) ?_; clear hKq Kq; conv => whnf)
 (refine VSeq.mk fun Kq hKq => ?_; conv => whnf)
 (refine VSeq.mk fun Kq hKq => ?_; conv => whnf)
 (refine hKq _ _ _ (.refl _) ?_; clear hKq Kq; conv => whnf)
 (refine And.intro (fun h => absurd (of_decide_eq_true h) (by first | (intro h2; exact absurd rfl h2) | omega | decide)) (fun _ => ?_); conv => whnf)
 (refine hKq _ _ _ (.refl _) ?_; clear hKq Kq; conv => whnf)
 (refine VSeq.mk fun Kq hKq => ?_; conv => whnf)
 refine Calls.mono (a1 _ _ _ _ _ _ hp) ?_
 rintro _ w ⟨_, rfl, hp⟩
 refine ⟨_, rfl, ?_⟩
 try dsimp only [gC] at hp
 conv => whnf
 clear s1 a1
 (refine hKq _ _ _ (.refl _) ?_; clear hKq Kq; conv => whnf)
 (refine VSeq.mk fun Kq hKq => ?_; conv => whnf)
 (refine VSeq.mk fun Kq hKq => ?_; conv => whnf)
 (refine VSeq.mk fun Kq hKq => ?_; conv => whnf)
 (refine ⟨_, _, Blk.ld (hp.get (i := 0) rfl) TTok rfl rfl, ?_⟩; conv => whnf)
 (refine hKq _ _ _ (.refl _) ?_; clear hKq Kq; conv => whnf)
 (refine VSeq.mk fun Kq hKq => ?_; conv => whnf)
 (refine And.intro (fun h => absurd h (by decide)) (fun _ => ?_); conv => whnf)
 (refine hKq _ _ _ (.refl _) ?_; clear hKq Kq; conv => whnf)
 (refine hKq _ _ _ (.refl _) ?_; clear hKq Kq; conv => whnf)
 (refine hKq _ _ _ (.refl _) ?_; clear hKq Kq; conv => whnf)
 (refine VSeq.mk fun Kq hKq => ?_; conv => whnf)
 have hcls := hp.pick [0, 1] (by decide)
 simp only [List.filterMap_cons, List.filterMap_nil, List.getElem?_cons_zero, List.getElem?_cons_succ] at hcls
 refine v_mtC TTok FFok mixed _ hcls [] (.q 0 (.q 1 (.q 2 (.q 3 (.q 4 (.q 5 (.q 6 (.q 7 (.m 8 (.q 9 (.q 10 .nil))))))))))) (by kernel_rfl) ?_
 clear hcls
 conv => whnf
 (refine ⟨_, fun w' hc => Blk.ldV (vs := [_, _, _, _, _, _, _, _, _, _, _, _, _]) (hc.get (i := 0) rfl) TTok rfl rfl rfl, ?_⟩; conv => whnf)
 (refine ⟨_, fun w' hc => Blk.ld (hc.get (i := 0) rfl) TTok rfl rfl, ?_⟩; conv => whnf)
 (intro w hx; try (have hp := hp.call hx); conv => whnf)
 (refine hp.kstA TTok rfl 2 rfl rfl (oneC_of rfl) (by rfl) fun w hp => ?_; try simp only [List.set_cons_zero, List.set_cons_succ, EV.val] at hp; conv => whnf)
 (refine And.intro (fun _ => hp.pick [0, 1] (by decide)) ?_; conv => whnf)
 (intro w hx; try (have hp := hp.call hx); conv => whnf)
 (refine hKq _ _ _ (.refl _) ?_; clear hKq Kq; conv => whnf)
 (refine ⟨_, Blk.lvN (hp.get (i := 2) rfl) TTok rfl rfl, ?_⟩; conv => whnf)
 exact ⟨_, _, rfl, hp.ext, SLw.row hp (i := 1) rfl, .nil⟩
theorem Time_n2 {W : World} {v : Value} (x : Wt) (hok : x.Ok) (hv : SLv W v (iv x.asked)) (now : Int) (hw : wtB x = true) (hn : inB now x.now 1099511627776 = true) (hg : goesB x now = false) (h1 : x.gone = false) (h3 : now < x.nxt) :
  Calls Try.prog 6 #[.agg (x.c v).toArray, .int .i64 now] W fun e w' => ∃ u, e = .returned u ∧ ResT W w' u (atW x now) [] := by
 have hlen := wtB_len hw
 have s1 := fun {W : World} (hv : SLv W v (iv x.asked)) => start_t (W := W) x hok hv now hw hn (by omega)
 obtain ⟨_, ⟨_, h2, _, _, _, _, h7, h8, h9, h10, _⟩, _⟩ := wtB_spec hw
 have hi := inB_t hn
 clear hw hn
 have a1 := fun (M : List Nat) (w0 w : World) (H : List It) (q : Nat) (u : Value) hp => at_f (M := M) (w0 := w0) (w := w) (H := H) (q := q) (v := u) (out := .slice none 0 0) x now hg hp
 rw [atW_f hg] at a1
 rw [atW_f hg]
 clear hok
 obtain ⟨⟨ah, ap⟩, ⟨bh, bp⟩, now0, nxt, til, ser, gone, noise, word, fresh, asked⟩ := x
 dsimp only [Wt.c] at hv s1 a1 h2 h7 h8 h9 h10 hi hlen hg h1 h3 ⊢
 have hsl : (iv asked).length = asked.length := List.length_map _
 obtain ⟨p, c, rfl⟩ := hv.shape
 rw [hsl] at hv s1 ⊢
 clear hg
 subst h1
 refine v_fn (args := [.agg #[.string ah, .int .i64 ap, .string bh, .int .i64 bp, .int .i64 now0, .int .i64 nxt, .int .i64 til, .int .i64 ser, _, .string noise, .string word, .string fresh, .slice p asked.length c], .int .i64 now]) TTok FFok Try.func6 rfl (Nat.le_of_ble_eq_true rfl) ?_
 conv => whnf
 refine VSeq.mk fun Kq hKq => ?_
 conv => whnf
 have hp := Hp.nil W
 refine hp.kboxA fun q2 w hp hx => ?_
 conv => whnf
 (refine hp.kalloc z28 fun al28 w hp hx => ?_; conv => whnf)
 (refine hKq _ _ _ (.refl _) ?_; clear hKq Kq; conv => whnf)
 (refine VSeq.mk fun Kq hKq => ?_; conv => whnf)
 (refine ⟨_, _, Blk.ldV (vs := [_, _, _, _, _, _, _, _, _, _, _, _, _]) (hp.get (i := 1) rfl) TTok rfl rfl rfl, ?_⟩; conv => whnf)
 refine Calls.mono (s1 (hv.ext hp.ext)) ?_
 rintro _ w ⟨_, rfl, q, u, rfl, k2⟩
 refine ⟨_, rfl, ?_⟩
 have hp := hp.join k2
 simp only [List.cons_append, List.nil_append] at hp
 obtain ⟨pu, cu, rfl⟩ := row_shape (hp.get (i := 1) rfl)
 conv => whnf
 (refine hKq _ _ _ (.refl _) ?_; clear hKq Kq; conv => whnf)
 (refine VSeq.mk fun Kq hKq => ?_; conv => whnf)
 (refine VSeq.mk fun Kq hKq => ?_; conv => whnf)
 (refine hKq _ _ _ (.refl _) ?_; clear hKq Kq; conv => whnf)
 (refine And.intro (fun h => absurd (of_decide_eq_true h) (by first | (intro h2; exact absurd rfl h2) | omega | decide)) (fun _ => ?_); conv => whnf)
 (refine hKq _ _ _ (.refl _) ?_; clear hKq Kq; conv => whnf)
 (refine VSeq.mk fun Kq hKq => ?_; conv => whnf)
 refine Calls.mono (a1 _ _ _ _ _ _ hp) ?_
 rintro _ w ⟨_, rfl, hp⟩
 refine ⟨_, rfl, ?_⟩
 try dsimp only [gC] at hp
 conv => whnf
 clear s1 a1
 (refine hKq _ _ _ (.refl _) ?_; clear hKq Kq; conv => whnf)
 (refine VSeq.mk fun Kq hKq => ?_; conv => whnf)
 (refine VSeq.mk fun Kq hKq => ?_; conv => whnf)
 (refine VSeq.mk fun Kq hKq => ?_; conv => whnf)
 (refine ⟨_, _, Blk.ld (hp.get (i := 0) rfl) TTok rfl rfl, ?_⟩; conv => whnf)
 (refine hKq _ _ _ (.refl _) ?_; clear hKq Kq; conv => whnf)
 (refine VSeq.mk fun Kq hKq => ?_; conv => whnf)
 (refine And.intro (fun _ => ?_) (fun h => absurd h (by decide)); conv => whnf)
 (refine ⟨_, _, Blk.ld (hp.get (i := 0) rfl) TTok rfl rfl, ?_⟩; conv => whnf)
 (refine hKq _ _ _ (.refl _) ?_; clear hKq Kq; conv => whnf)
 (refine And.intro (fun h => absurd (of_decide_eq_true h) (by first | (intro h2; exact absurd rfl h2) | omega | decide)) (fun _ => ?_); conv => whnf)
 (refine hKq _ _ _ (.refl _) ?_; clear hKq Kq; conv => whnf)
 (refine hKq _ _ _ (.refl _) ?_; clear hKq Kq; conv => whnf)
 (refine VSeq.mk fun Kq hKq => ?_; conv => whnf)
 have hcls := hp.pick [0, 1] (by decide)
 simp only [List.filterMap_cons, List.filterMap_nil, List.getElem?_cons_zero, List.getElem?_cons_succ] at hcls
 refine v_mtC TTok FFok mixed _ hcls [] (.q 0 (.q 1 (.q 2 (.q 3 (.q 4 (.q 5 (.q 6 (.q 7 (.m 8 (.q 9 (.q 10 .nil))))))))))) (by kernel_rfl) ?_
 clear hcls
 conv => whnf
 (refine ⟨_, fun w' hc => Blk.ldV (vs := [_, _, _, _, _, _, _, _, _, _, _, _, _]) (hc.get (i := 0) rfl) TTok rfl rfl rfl, ?_⟩; conv => whnf)
 (refine ⟨_, fun w' hc => Blk.ld (hc.get (i := 0) rfl) TTok rfl rfl, ?_⟩; conv => whnf)
 (intro w hx; try (have hp := hp.call hx); conv => whnf)
 (refine hp.kstA TTok rfl 2 rfl rfl (oneC_of rfl) (by rfl) fun w hp => ?_; try simp only [List.set_cons_zero, List.set_cons_succ, EV.val] at hp; conv => whnf)
 (refine And.intro (fun _ => hp.pick [0, 1] (by decide)) ?_; conv => whnf)
 (intro w hx; try (have hp := hp.call hx); conv => whnf)
 (refine hKq _ _ _ (.refl _) ?_; clear hKq Kq; conv => whnf)
 (refine ⟨_, Blk.lvN (hp.get (i := 2) rfl) TTok rfl rfl, ?_⟩; conv => whnf)
 exact ⟨_, _, rfl, hp.ext, SLw.row hp (i := 1) rfl, .nil⟩
theorem Time_n3 {W : World} {v : Value} (x : Wt) (hok : x.Ok) (hv : SLv W v (iv x.asked)) (now : Int) (hw : wtB x = true) (hn : inB now x.now 1099511627776 = true) (hg : goesB x now = false) (h1 : x.gone = false) (h3 : x.nxt ≤ now) (h4 : 1099511627776 ≤ x.ser) :
  Calls Try.prog 6 #[.agg (x.c v).toArray, .int .i64 now] W fun e w' => ∃ u, e = .returned u ∧ ResT W w' u (atW x now) [] := by
 have hlen := wtB_len hw
 have s1 := fun {W : World} (hv : SLv W v (iv x.asked)) => start_t (W := W) x hok hv now hw hn (by omega)
 obtain ⟨_, ⟨_, h2, _, _, _, _, h7, h8, h9, h10, _⟩, _⟩ := wtB_spec hw
 have hi := inB_t hn
 clear hw hn
 have a1 := fun (M : List Nat) (w0 w : World) (H : List It) (q : Nat) (u : Value) hp => at_f (M := M) (w0 := w0) (w := w) (H := H) (q := q) (v := u) (out := .slice none 0 0) x now hg hp
 rw [atW_f hg] at a1
 rw [atW_f hg]
 clear hok
 obtain ⟨⟨ah, ap⟩, ⟨bh, bp⟩, now0, nxt, til, ser, gone, noise, word, fresh, asked⟩ := x
 dsimp only [Wt.c] at hv s1 a1 h2 h7 h8 h9 h10 hi hlen hg h1 h3 h4 ⊢
 have hsl : (iv asked).length = asked.length := List.length_map _
 obtain ⟨p, c, rfl⟩ := hv.shape
 rw [hsl] at hv s1 ⊢
 clear hg
 subst h1
 refine v_fn (args := [.agg #[.string ah, .int .i64 ap, .string bh, .int .i64 bp, .int .i64 now0, .int .i64 nxt, .int .i64 til, .int .i64 ser, _, .string noise, .string word, .string fresh, .slice p asked.length c], .int .i64 now]) TTok FFok Try.func6 rfl (Nat.le_of_ble_eq_true rfl) ?_
 conv => whnf
 refine VSeq.mk fun Kq hKq => ?_
 conv => whnf
 have hp := Hp.nil W
 refine hp.kboxA fun q2 w hp hx => ?_
 conv => whnf
 (refine hp.kalloc z28 fun al28 w hp hx => ?_; conv => whnf)
 (refine hKq _ _ _ (.refl _) ?_; clear hKq Kq; conv => whnf)
 (refine VSeq.mk fun Kq hKq => ?_; conv => whnf)
 (refine ⟨_, _, Blk.ldV (vs := [_, _, _, _, _, _, _, _, _, _, _, _, _]) (hp.get (i := 1) rfl) TTok rfl rfl rfl, ?_⟩; conv => whnf)
 refine Calls.mono (s1 (hv.ext hp.ext)) ?_
 rintro _ w ⟨_, rfl, q, u, rfl, k2⟩
 refine ⟨_, rfl, ?_⟩
 have hp := hp.join k2
 simp only [List.cons_append, List.nil_append] at hp
 obtain ⟨pu, cu, rfl⟩ := row_shape (hp.get (i := 1) rfl)
 conv => whnf
 (refine hKq _ _ _ (.refl _) ?_; clear hKq Kq; conv => whnf)
 (refine VSeq.mk fun Kq hKq => ?_; conv => whnf)
 (refine VSeq.mk fun Kq hKq => ?_; conv => whnf)
 (refine hKq _ _ _ (.refl _) ?_; clear hKq Kq; conv => whnf)
 (refine And.intro (fun h => absurd (of_decide_eq_true h) (by first | (intro h2; exact absurd rfl h2) | omega | decide)) (fun _ => ?_); conv => whnf)
 (refine hKq _ _ _ (.refl _) ?_; clear hKq Kq; conv => whnf)
 (refine VSeq.mk fun Kq hKq => ?_; conv => whnf)
 refine Calls.mono (a1 _ _ _ _ _ _ hp) ?_
 rintro _ w ⟨_, rfl, hp⟩
 refine ⟨_, rfl, ?_⟩
 try dsimp only [gC] at hp
 conv => whnf
 clear s1 a1
 (refine hKq _ _ _ (.refl _) ?_; clear hKq Kq; conv => whnf)
 (refine VSeq.mk fun Kq hKq => ?_; conv => whnf)
 (refine VSeq.mk fun Kq hKq => ?_; conv => whnf)
 (refine VSeq.mk fun Kq hKq => ?_; conv => whnf)
 (refine ⟨_, _, Blk.ld (hp.get (i := 0) rfl) TTok rfl rfl, ?_⟩; conv => whnf)
 (refine hKq _ _ _ (.refl _) ?_; clear hKq Kq; conv => whnf)
 (refine VSeq.mk fun Kq hKq => ?_; conv => whnf)
 (refine And.intro (fun _ => ?_) (fun h => absurd h (by decide)); conv => whnf)
 (refine ⟨_, _, Blk.ld (hp.get (i := 0) rfl) TTok rfl rfl, ?_⟩; conv => whnf)
 (refine hKq _ _ _ (.refl _) ?_; clear hKq Kq; conv => whnf)
 (refine And.intro (fun _ => ?_) (fun h => absurd (by first | rfl | assumption | omega | decide) (of_decide_eq_false h)); conv => whnf)
 (refine ⟨_, _, Blk.ld (hp.get (i := 0) rfl) TTok rfl rfl, ?_⟩; conv => whnf)
 (refine hKq _ _ _ (.refl _) ?_; clear hKq Kq; conv => whnf)
 (refine And.intro (fun h => absurd (of_decide_eq_true h) (by first | (intro h2; exact absurd rfl h2) | omega | decide)) (fun _ => ?_); conv => whnf)
 (refine hKq _ _ _ (.refl _) ?_; clear hKq Kq; conv => whnf)
 (refine VSeq.mk fun Kq hKq => ?_; conv => whnf)
 have hcls := hp.pick [0, 1] (by decide)
 simp only [List.filterMap_cons, List.filterMap_nil, List.getElem?_cons_zero, List.getElem?_cons_succ] at hcls
 refine v_mtC TTok FFok mixed _ hcls [] (.q 0 (.q 1 (.q 2 (.q 3 (.q 4 (.q 5 (.q 6 (.q 7 (.m 8 (.q 9 (.q 10 .nil))))))))))) (by kernel_rfl) ?_
 clear hcls
 conv => whnf
 (refine ⟨_, fun w' hc => Blk.ldV (vs := [_, _, _, _, _, _, _, _, _, _, _, _, _]) (hc.get (i := 0) rfl) TTok rfl rfl rfl, ?_⟩; conv => whnf)
 (refine ⟨_, fun w' hc => Blk.ld (hc.get (i := 0) rfl) TTok rfl rfl, ?_⟩; conv => whnf)
 (intro w hx; try (have hp := hp.call hx); conv => whnf)
 (refine hp.kstA TTok rfl 2 rfl rfl (oneC_of rfl) (by rfl) fun w hp => ?_; try simp only [List.set_cons_zero, List.set_cons_succ, EV.val] at hp; conv => whnf)
 (refine And.intro (fun _ => hp.pick [0, 1] (by decide)) ?_; conv => whnf)
 (intro w hx; try (have hp := hp.call hx); conv => whnf)
 (refine hKq _ _ _ (.refl _) ?_; clear hKq Kq; conv => whnf)
 (refine ⟨_, Blk.lvN (hp.get (i := 2) rfl) TTok rfl rfl, ?_⟩; conv => whnf)
 exact ⟨_, _, rfl, hp.ext, SLw.row hp (i := 1) rfl, .nil⟩
set_option maxHeartbeats 1600000
theorem Time_a {W : World} {v : Value} (x : Wt) (hok : x.Ok) (hv : SLv W v (iv x.asked)) (now : Int) (hw : wtB x = true) (hn : inB now x.now 1099511627776 = true) (hg : goesB x now = false) (h1 : x.gone = false) (h3 : x.nxt ≤ now) (h4 : x.ser < 1099511627776) :
  Calls Try.prog 6 #[.agg (x.c v).toArray, .int .i64 now] W fun e w' => ∃ u, e = .returned u ∧ ResT W w' u (askW (atW x now) now) [(x.a, x.b, askP x.ser)] := by
 have hlen := wtB_len hw
 have s1 := fun {W : World} (hv : SLv W v (iv x.asked)) => start_t (W := W) x hok hv now hw hn (by omega)
 obtain ⟨_, ⟨h0, h2, _, _, _, _, h7, h8, h9, h10, _⟩, _⟩ := wtB_spec hw
 have hi := inB_t hn
 clear hw hn
 have a1 := fun (M : List Nat) (w0 w : World) (H : List It) (q : Nat) (u : Value) hp => at_f (M := M) (w0 := w0) (w := w) (H := H) (q := q) (v := u) (out := .slice none 0 0) x now hg hp
 rw [atW_f hg] at a1
 rw [atW_f hg]
 have sd := fun (M : List Nat) (w0 w : World) (H : List It) (q : Nat) (u : Value) hp => send_c (M := M) (w0 := w0) (w := w) (H := H) (q := q) (v := u) { x with now := now } (askP x.ser) hp
 have g1 := fun {W : World} {q : Nat} {u o : Value} hb => gap_c (W := W) (q := q) (v := u) (out := o) { askW { x with now := now } now with nxt := x.nxt } hb hok.noise (by show 0 < x.noise.size; omega) (x.ser + 1).toNat (by omega)
 have g2 := gapN_le x.noise (x.ser + 1).toNat
 have g3 : (((x.ser + 1).toNat : Nat) : Int) = x.ser + 1 := by omega
 rw [g3] at g1
 clear hok
 unfold askW
 dsimp only [askW, gC, askP] at g1 sd
 obtain ⟨⟨ah, ap⟩, ⟨bh, bp⟩, now0, nxt, til, ser, gone, noise, word, fresh, asked⟩ := x
 dsimp only [Wt.c] at hv s1 a1 sd h0 h2 h7 h8 h9 h10 hi hlen hg h1 h3 h4 g1 g2 g3 ⊢
 have hsl : (iv asked).length = asked.length := List.length_map _
 obtain ⟨p, c, rfl⟩ := hv.shape
 rw [hsl] at hv s1 ⊢
 clear hg
 subst h1
 refine v_fn (args := [.agg #[.string ah, .int .i64 ap, .string bh, .int .i64 bp, .int .i64 now0, .int .i64 nxt, .int .i64 til, .int .i64 ser, _, .string noise, .string word, .string fresh, .slice p asked.length c], .int .i64 now]) TTok FFok Try.func6 rfl (Nat.le_of_ble_eq_true rfl) ?_
 conv => whnf
 refine VSeq.mk fun Kq hKq => ?_
 conv => whnf
 have hp := Hp.nil W
 refine hp.kboxA fun q2 w hp hx => ?_
 conv => whnf
 (refine hp.kalloc z28 fun al28 w hp hx => ?_; conv => whnf)
 (refine hKq _ _ _ (.refl _) ?_; clear hKq Kq; conv => whnf)
 (refine VSeq.mk fun Kq hKq => ?_; conv => whnf)
 (refine ⟨_, _, Blk.ldV (vs := [_, _, _, _, _, _, _, _, _, _, _, _, _]) (hp.get (i := 1) rfl) TTok rfl rfl rfl, ?_⟩; conv => whnf)
 refine Calls.mono (s1 (hv.ext hp.ext)) ?_
 rintro _ w ⟨_, rfl, q, u, rfl, k2⟩
 refine ⟨_, rfl, ?_⟩
 have hp := hp.join k2
 simp only [List.cons_append, List.nil_append] at hp
 obtain ⟨pu, cu, rfl⟩ := row_shape (hp.get (i := 1) rfl)
 conv => whnf
 (refine hKq _ _ _ (.refl _) ?_; clear hKq Kq; conv => whnf)
 (refine VSeq.mk fun Kq hKq => ?_; conv => whnf)
 (refine VSeq.mk fun Kq hKq => ?_; conv => whnf)
 (refine hKq _ _ _ (.refl _) ?_; clear hKq Kq; conv => whnf)
 (refine And.intro (fun h => absurd (of_decide_eq_true h) (by first | (intro h2; exact absurd rfl h2) | omega | decide)) (fun _ => ?_); conv => whnf)
 (refine hKq _ _ _ (.refl _) ?_; clear hKq Kq; conv => whnf)
 (refine VSeq.mk fun Kq hKq => ?_; conv => whnf)
 refine Calls.mono (a1 _ _ _ _ _ _ hp) ?_
 rintro _ w ⟨_, rfl, hp⟩
 refine ⟨_, rfl, ?_⟩
 try dsimp only [gC] at hp
 conv => whnf
 clear s1 a1
 (refine hKq _ _ _ (.refl _) ?_; clear hKq Kq; conv => whnf)
 (refine VSeq.mk fun Kq hKq => ?_; conv => whnf)
 (refine VSeq.mk fun Kq hKq => ?_; conv => whnf)
 (refine VSeq.mk fun Kq hKq => ?_; conv => whnf)
 (refine ⟨_, _, Blk.ld (hp.get (i := 0) rfl) TTok rfl rfl, ?_⟩; conv => whnf)
 (refine hKq _ _ _ (.refl _) ?_; clear hKq Kq; conv => whnf)
 (refine VSeq.mk fun Kq hKq => ?_; conv => whnf)
 (refine And.intro (fun _ => ?_) (fun h => absurd h (by decide)); conv => whnf)
 (refine ⟨_, _, Blk.ld (hp.get (i := 0) rfl) TTok rfl rfl, ?_⟩; conv => whnf)
 (refine hKq _ _ _ (.refl _) ?_; clear hKq Kq; conv => whnf)
 (refine And.intro (fun _ => ?_) (fun h => absurd (by first | rfl | assumption | omega | decide) (of_decide_eq_false h)); conv => whnf)
 (refine ⟨_, _, Blk.ld (hp.get (i := 0) rfl) TTok rfl rfl, ?_⟩; conv => whnf)
 (refine hKq _ _ _ (.refl _) ?_; clear hKq Kq; conv => whnf)
 (refine And.intro (fun _ => ?_) (fun h => absurd (by first | rfl | assumption | omega | decide) (of_decide_eq_false h)); conv => whnf)
 (refine VSeq.mk fun Kq hKq => ?_; conv => whnf)
 (refine ⟨_, _, Blk.ld (hp.get (i := 0) rfl) TTok rfl rfl, ?_⟩; conv => whnf)
 (refine ⟨_, _, bld38_0_1_2 _ _ _ _, ?_⟩; conv => whnf)
 refine Calls.mono (sd _ _ _ _ _ _ hp) ?_
 rintro _ w ⟨_, rfl, o, hp⟩
 refine ⟨_, rfl, ?_⟩
 try dsimp only [gC] at hp
 obtain ⟨po, co, rfl⟩ := row_shape (hp.get (i := 1) rfl)
 conv => whnf
 (refine hKq _ _ _ (.refl _) ?_; clear hKq Kq; conv => whnf)
 (refine VSeq.mk fun Kq hKq => ?_; conv => whnf)
 have hcls := hp.pick [0] (by decide)
 simp only [List.filterMap_cons, List.filterMap_nil, List.getElem?_cons_zero, List.getElem?_cons_succ] at hcls
 refine v_mtC TTok FFok mixed _ hcls [16] (.q 0 (.q 1 (.q 2 (.q 3 (.q 4 (.q 5 (.q 6 (.q 7 (.q 8 (.q 9 (.q 10 (.m 11 (.m 12 (.m 13 (.q 14 (.q 15 (.m 16 .nil))))))))))))))))) (by kernel_rfl) ?_
 clear hcls
 conv => whnf
 (refine ⟨_, fun w' hc => Blk.ld (hc.get (i := 0) rfl) TTok rfl rfl, ?_⟩; conv => whnf)
 (refine ⟨_, fun w' hc => Blk.ld (hc.get (i := 0) rfl) TTok rfl rfl, ?_⟩; conv => whnf)
 (intro w hx; try (have hp := hp.call hx); conv => whnf)
 (refine hp.kmade _ _ (fun b => .slice (some ⟨b, 0, none⟩) 1 1) (mks26_1_0 _ _) fun q w hp hx => ?_; conv => whnf)
 (refine And.intro (fun hc => hc.call hx) ?_; conv => whnf)
 (intro w hx; try (have hp := hp.call hx); conv => whnf)
 refine hp.kapp sl26 3 rfl (Blk.src TTok (hp.get (i := 0) rfl) rfl (m := 1) rfl (oneC_of rfl)) (by omega) (by unfold maxLen; omega) fun v2 w hp => ?_
 simp only [List.set_cons_zero, List.set_cons_succ] at hp
 obtain ⟨p2, c2, rfl⟩ := row_shape (hp.get (i := 3) rfl)
 have hiv : iv asked ++ [.int .i64 ser] = iv (asked ++ [ser]) := by unfold iv; rw [List.map_append]; rfl
 have hlv : (iv (asked ++ [ser])).length = asked.length + 1 := by unfold iv; rw [List.length_map, List.length_append]; rfl
 rw [hiv] at hp
 obtain ⟨v3, hr, hs⟩ := lo_val (SLv.of_row (hp.get (i := 3) rfl)) (asked.length + 1 - 8) (by omega)
 have hmax : max (0 : Int) (((asked.length + 1 : Nat) : Int) - 8) = ((asked.length + 1 - 8 : Nat) : Int) := by omega
 have hr' : ∀ w', (Instr.sliceAt 26 (.slice p2 (asked.length + 1) c2) (some (.int .i64 (max (0 : Int) (((asked.length + 1 : Nat) : Int) - 8)))) none none).run Try.prog w' = .ok v3 w' := fun w' => by rw [hmax]; exact hr .i64 w'
 obtain ⟨p3, c3, rfl⟩ := (hs w (SLw.row hp (i := 3) rfl)).shape
 clear hr hiv
 conv => whnf
 (refine And.intro (fun _ => hp.pick [1] (by decide)) ?_; conv => whnf)
 (intro w hx; try (have hp := hp.call hx); conv => whnf)
 (refine And.intro (fun hc => hc) ?_; conv => whnf)
 (intro w hx; try (have hp := hp.call hx); conv => whnf)
 (refine hp.kst1 TTok (by rfl) 1 (by rfl) (by rfl) (by rfl) (Nat.le_of_ble_eq_true rfl) fun w hp => ?_; try simp only [List.set_cons_zero, List.set_cons_succ, EV.val] at hp; conv => whnf)
 (intro w hx; try (have hp := hp.call hx); conv => whnf)
 (refine hKq _ _ _ (.refl _) ?_; clear hKq Kq; conv => whnf)
 (refine VSeq.mk fun Kq hKq => ?_; conv => whnf)
 have hcls := hp.pick [1] (by decide)
 simp only [List.filterMap_cons, List.filterMap_nil, List.getElem?_cons_zero, List.getElem?_cons_succ] at hcls
 refine v_mtC TTok FFok mixed _ hcls [18] (.q 0 (.q 1 (.q 2 (.q 3 (.q 4 (.q 5 (.q 6 (.q 7 (.q 8 (.q 9 (.q 10 (.q 11 (.q 12 (.q 13 (.q 14 (.m 15 (.q 16 (.q 17 (.m 18 .nil))))))))))))))))))) (by kernel_rfl) ?_
 clear hcls
 conv => whnf
 (refine ⟨_, fun w' hc => Blk.ld (hc.get (i := 0) rfl) TTok rfl rfl, ?_⟩; conv => whnf)
 (refine ⟨_, fun w' hc => Blk.ld (hc.get (i := 0) rfl) TTok rfl rfl, ?_⟩; conv => whnf)
 (refine Or.inl (And.intro (by first | omega | decide) ?_); conv => whnf)
 refine ⟨_, fun w' _ => hr' w', ?_⟩
 conv => whnf
 (intro w hx; try (have hp := hp.call hx); conv => whnf)
 (refine And.intro (fun hc => hc) ?_; conv => whnf)
 (intro w hx; try (have hp := hp.call hx); conv => whnf)
 (refine hp.kst1 TTok (by rfl) 1 (by rfl) (by rfl) (by rfl) (Nat.le_of_ble_eq_true rfl) fun w hp => ?_; try simp only [List.set_cons_zero, List.set_cons_succ, EV.val] at hp; conv => whnf)
 (intro w hx; try (have hp := hp.call hx); conv => whnf)
 (refine hKq _ _ _ (.refl _) ?_; clear hKq Kq; conv => whnf)
 (refine VSeq.mk fun Kq hKq => ?_; conv => whnf)
 (refine ⟨_, _, Blk.ld (hp.get (i := 1) rfl) TTok rfl rfl, ?_⟩; conv => whnf)
 (refine Or.inl (And.intro (by first | omega | decide) ?_); conv => whnf)
 (refine hp.kst1 TTok (by rfl) 1 (by rfl) (by rfl) (by rfl) (Nat.le_of_ble_eq_true rfl) fun w hp => ?_; try simp only [List.set_cons_zero, List.set_cons_succ, EV.val] at hp; conv => whnf)
 (refine hKq _ _ _ (.refl _) ?_; clear hKq Kq; conv => whnf)
 (refine ⟨_, _, Blk.ld (hp.get (i := 1) rfl) TTok rfl rfl, ?_⟩; conv => whnf)
 refine V.CallsUse (g1 (hp.get (i := 1) rfl)) fun w hx => ?_
 have hp := hp.call hx
 conv => whnf
 (refine Or.inl (And.intro (by first | omega | decide) ?_); conv => whnf)
 (refine hp.kst1 TTok (by rfl) 1 (by rfl) (by rfl) (by rfl) (Nat.le_of_ble_eq_true rfl) fun w hp => ?_; try simp only [List.set_cons_zero, List.set_cons_succ, EV.val] at hp; conv => whnf)
 (refine hKq _ _ _ (.refl _) ?_; clear hKq Kq; conv => whnf)
 (refine VSeq.mk fun Kq hKq => ?_; conv => whnf)
 have hcls := hp.pick [1] (by decide)
 simp only [List.filterMap_cons, List.filterMap_nil, List.getElem?_cons_zero, List.getElem?_cons_succ] at hcls
 refine v_mtC TTok FFok mixed _ hcls [] (.q 0 (.q 1 (.q 2 (.q 3 (.q 4 (.q 5 (.q 6 (.q 7 (.m 8 (.q 9 (.q 10 .nil))))))))))) (by kernel_rfl) ?_
 clear hcls
 conv => whnf
 (refine ⟨_, fun w' hc => Blk.ldV (vs := [_, _, _, _, _, _, _, _, _, _, _, _, _]) (hc.get (i := 0) rfl) TTok rfl rfl rfl, ?_⟩; conv => whnf)
 (refine ⟨_, fun w' hc => Blk.ld (hc.get (i := 0) rfl) TTok rfl rfl, ?_⟩; conv => whnf)
 (intro w hx; try (have hp := hp.call hx); conv => whnf)
 (refine hp.kstA TTok rfl 4 rfl rfl (oneC_of rfl) (by rfl) fun w hp => ?_; try simp only [List.set_cons_zero, List.set_cons_succ, EV.val] at hp; conv => whnf)
 (refine And.intro (fun _ => hp.pick [1] (by decide)) ?_; conv => whnf)
 (intro w hx; try (have hp := hp.call hx); conv => whnf)
 (refine hKq _ _ _ (.refl _) ?_; clear hKq Kq; conv => whnf)
 (refine ⟨_, Blk.lvN (hp.get (i := 4) rfl) TTok rfl rfl, ?_⟩; conv => whnf)
 have hdr : (iv (asked ++ [ser])).drop (asked.length + 1 - 8) = iv (trim8 (asked ++ [ser])) := by unfold iv trim8; rw [List.map_drop, List.length_append]; rfl
 exact ⟨_, _, rfl, hp.ext, (by show SLw _ _ _ (iv (trim8 (asked ++ [ser]))); rw [← hdr]; exact hs _ (SLw.row hp (i := 3) rfl)), HRw.one hp (i := 2) rfl⟩
theorem Time_ok {W : World} {v : Value} (x : Wt) (hok : x.Ok) (hv : SLv W v (iv x.asked)) (now : Int) (hw : wtB x = true) (hn : inB now x.now 1099511627776 = true) :
  Calls Try.prog 6 #[.agg (x.c v).toArray, .int .i64 now] W fun e w' => ∃ u, e = .returned u ∧ ResT W w' u (timeW x now).1 (timeW x now).2 := by
 have kf : asksB (atW x now) now = false → timeW x now = (atW x now, []) := fun h => by unfold timeW; rw [if_neg (by rw [h]; decide)]
 have kt : asksB (atW x now) now = true → timeW x now = (askW (atW x now) now, [(x.a, x.b, askP x.ser)]) := fun h => by unfold timeW; rw [if_pos h]
 cases hg : goesB x now with
 | true =>
  rw [kf (by rw [atW_t hg]; unfold asksB; rfl)]
  exact Time_g x hok hv now hw hn hg
 | false =>
  cases h1 : x.gone with
  | true =>
   rw [kf (by rw [atW_f hg]; unfold asksB; rw [show ({ x with now := now } : Wt).gone = true from h1]; rfl)]
   exact Time_n1 x hok hv now hw hn hg h1
  | false =>
   by_cases h3 : now < x.nxt
   ·rw [kf (by rw [atW_f hg]; unfold asksB; rw [show decide (({ x with now := now } : Wt).nxt ≤ now) = false from decide_eq_false (by show ¬ x.nxt ≤ now; omega), Bool.false_and, Bool.and_false])]
    exact Time_n2 x hok hv now hw hn hg h1 h3
   ·by_cases h4 : 1099511627776 ≤ x.ser
    ·rw [kf (by rw [atW_f hg]; unfold asksB; rw [show decide (({ x with now := now } : Wt).ser < 1099511627776) = false from decide_eq_false (by show ¬ x.ser < 1099511627776; omega), Bool.and_false, Bool.and_false])]
     exact Time_n3 x hok hv now hw hn hg h1 (by omega) h4
    ·rw [kt (by rw [atW_f hg]; unfold asksB; rw [show ({ x with now := now } : Wt).gone = false from h1, show decide (({ x with now := now } : Wt).nxt ≤ now) = true from decide_eq_true (by show x.nxt ≤ now; omega), show decide (({ x with now := now } : Wt).ser < 1099511627776) = true from decide_eq_true (by show x.ser < 1099511627776; omega)]; rfl)]
     exact Time_a x hok hv now hw hn hg h1 (by omega) (by omega)
set_option maxHeartbeats 1600000
/-- what stands in a watch at a time -/
structure Fits (y : Wt) (now : Int) : Prop where
 len : y.asked.length ≤ 8
 s0 : 0 ≤ y.ser
 s1 : y.ser ≤ 1099511627776
 n0 : 0 ≤ now
 n1 : now ≤ 1099511627776
 z : SzS y.noise
 z0 : 0 < y.noise.size
theorem fits_at {x : Wt} {now : Int} (hok : x.Ok) (hw : wtB x = true) (hn : inB now x.now 1099511627776 = true) : Fits (atW x now) now := by
 have hlen := wtB_len hw
 obtain ⟨_, ⟨h0, h2, _, _, _, _, h7, h8, h9, h10, _⟩, _⟩ := wtB_spec hw
 have hi := inB_t hn
 cases hg : goesB x now with
 | true =>
  rw [atW_t hg]
  exact ⟨Nat.zero_le _, h7, h8, by omega, hi.2, hok.noise, by show 0 < x.noise.size; omega⟩
 | false =>
  rw [atW_f hg]
  exact ⟨hlen, h7, h8, by omega, hi.2, hok.noise, by show 0 < x.noise.size; omega⟩
set_option maxHeartbeats 4000000
theorem atc_c {M : List Nat} {w0 w : World} {H : List It} {q n : Nat} {v out : Value} (x : Wt) (now : Int) (hp : HpM M w0 w (blk q (gC x v out) 60 :: row 3 1 v n (iv x.asked) :: H)) :
  Calls Try.prog 20 #[.pointer (some ⟨q, 0, none⟩), .int .i64 now] w fun e w' => ∃ u, e = .returned u ∧ ∃ v', (∀ {W2} w2, SLw W2 w2 v (iv x.asked) → SLw W2 w2 v' (iv (atW x now).asked)) ∧ HpM M w0 w' (blk q (gC (atW x now) v' out) 60 :: row 3 1 v n (iv x.asked) :: H) := by
 cases hg : goesB x now with
 | true =>
  refine Calls.mono (at_t x now hg hp) ?_
  rintro _ w ⟨u, rfl, hp⟩
  exact ⟨_, rfl, _, fun w2 _ => by rw [atW_t hg]; exact .nil, hp⟩
 | false =>
  refine Calls.mono (at_f x now hg hp) ?_
  rintro _ w ⟨u, rfl, hp⟩
  exact ⟨_, rfl, _, fun w2 h => by rw [atW_f hg]; exact h, hp⟩
def ResW (W w' : World) (u : Value) (y : Wt) (e : Int) : Prop := ∃ v', u = .tuple #[.agg (y.c v').toArray, .int .i64 e] ∧ Ext W w' ∧ SLw W w' v' (iv y.asked)
def restW (x : Wt) (now : Int) (s : ByteArray) : Wt × Int :=
 let y := atW x now
 if y.gone then (zW, 8) else
 if wordB s = true ∧ ¬ s = y.word then ({ y with fresh := s }, 0) else (zW, 2)
def swW (x : Wt) (now : Int) (a b : Ad) : Wt × Int :=
 let y := atW x now
 if y.gone then (zW, 8) else
 if pathB a b then ({ y with a := a, b := b, asked := [], til := now + 30000, word := (if y.fresh = ⟨#[]⟩ then y.word else y.fresh), fresh := ⟨#[]⟩ }, 0) else (zW, 2)
theorem start_bad {W : World} {v : Value} (x : Wt) (hok : x.Ok) (hv : SLv W v (iv x.asked)) (now : Int) (hs : startN x now ≠ 0) :
  Calls Try.prog 19 #[.agg (x.c v).toArray, .int .i64 now] W fun e w' => e = .returned (.tuple #[.pointer none, .int .i64 (startN x now)]) ∧ Ext W w' := by
 unfold startN at hs ⊢
 cases hw : wtB x with
 | false => exact start_v x hok hv now hw
 | true =>
  rw [hw] at hs
  cases hi : inB now x.now 1099511627776 with
  | false => exact start_n x hok hv now hw hi
  | true => rw [hi] at hs; exact absurd rfl hs
theorem Restart_bad {W : World} {v : Value} (x : Wt) (hok : x.Ok) (hv : SLv W v (iv x.asked)) (now : Int) (s : ByteArray) (hs : startN x now ≠ 0) :
  Calls Try.prog 9 #[.agg (x.c v).toArray, .int .i64 now, .string s] W fun e w' => e = .returned (.tuple #[.agg (zW.c (.slice none 0 0)).toArray, .int .i64 (startN x now)]) ∧ Ext W w' := by
 have s1 := fun {W : World} (hv : SLv W v (iv x.asked)) => start_bad (W := W) x hok hv now hs
 obtain ⟨N, hN⟩ : ∃ N, startN x now = N := ⟨_, rfl⟩
 rw [hN] at s1 hs ⊢
 clear hN hok
 obtain ⟨⟨ah, ap⟩, ⟨bh, bp⟩, now0, nxt, til, ser, gone, noise, word, fresh, asked⟩ := x
 dsimp only [Wt.c] at hv s1 ⊢
 have hsl : (iv asked).length = asked.length := List.length_map _
 obtain ⟨p, c, rfl⟩ := hv.shape
 rw [hsl] at hv s1 ⊢
 refine v_reads (args := [.agg #[.string ah, .int .i64 ap, .string bh, .int .i64 bp, .int .i64 now0, .int .i64 nxt, .int .i64 til, .int .i64 ser, .bool gone, .string noise, .string word, .string fresh, .slice p asked.length c], .int .i64 now, .string s]) TTok FFok Try.func9 rfl rfl ?_
 conv => whnf
 refine VSeq.mk fun Kq hKq => ?_
 conv => whnf
 have hp := Hp.nil W
 (refine hp.kboxA fun q w hp hx => ?_; conv => whnf)
 (refine hp.kalloc z28 fun al28 w hp hx => ?_; conv => whnf)
 (refine hKq _ _ _ (.refl _) ?_; clear hKq Kq; conv => whnf)
 (refine VSeq.mk fun Kq hKq => ?_; conv => whnf)
 (refine ⟨_, _, Blk.ldV (vs := [_, _, _, _, _, _, _, _, _, _, _, _, _]) (hp.get (i := 1) rfl) TTok rfl rfl rfl, ?_⟩; conv => whnf)
 refine V.CallsUse (s1 (hv.ext hp.ext)) fun w hx => ?_
 have hp := hp.call hx
 conv => whnf
 (refine hKq _ _ _ (.refl _) ?_; clear hKq Kq; conv => whnf)
 (refine VSeq.mk fun Kq hKq => ?_; conv => whnf)
 (refine VSeq.mk fun Kq hKq => ?_; conv => whnf)
 (refine hKq _ _ _ (.refl _) ?_; clear hKq Kq; conv => whnf)
 (refine And.intro (fun _ => ?_) (fun h => absurd (by first | rfl | assumption | omega | decide) (of_decide_eq_false h)); conv => whnf)
 (refine VSeq.mk fun Kq hKq => ?_; conv => whnf)
 (refine ⟨_, _, bld28_ _, ?_⟩; conv => whnf)
 (refine hp.kstA TTok rfl 0 rfl rfl (oneC_of rfl) (by rfl) fun w hp => ?_; try simp only [List.set_cons_zero, List.set_cons_succ, EV.val] at hp; conv => whnf)
 (refine hKq _ _ _ (.refl _) ?_; clear hKq Kq; conv => whnf)
 (refine ⟨_, Blk.lvN (hp.get (i := 0) rfl) TTok rfl rfl, ?_⟩; conv => whnf)
 (exact ⟨rfl, hp.ext⟩)
theorem Switch_bad {W : World} {v : Value} (x : Wt) (hok : x.Ok) (hv : SLv W v (iv x.asked)) (now : Int) (sh th : ByteArray) (sp tp : Int) (hs : startN x now ≠ 0) :
  Calls Try.prog 12 #[.agg (x.c v).toArray, .int .i64 now, .agg #[.string sh, .int .i64 sp, .string th, .int .i64 tp]] W fun e w' => e = .returned (.tuple #[.agg (zW.c (.slice none 0 0)).toArray, .int .i64 (startN x now)]) ∧ Ext W w' := by
 have s1 := fun {W : World} (hv : SLv W v (iv x.asked)) => start_bad (W := W) x hok hv now hs
 obtain ⟨N, hN⟩ : ∃ N, startN x now = N := ⟨_, rfl⟩
 rw [hN] at s1 hs ⊢
 clear hN hok
 obtain ⟨⟨ah, ap⟩, ⟨bh, bp⟩, now0, nxt, til, ser, gone, noise, word, fresh, asked⟩ := x
 dsimp only [Wt.c] at hv s1 ⊢
 have hsl : (iv asked).length = asked.length := List.length_map _
 obtain ⟨p, c, rfl⟩ := hv.shape
 rw [hsl] at hv s1 ⊢
 refine v_reads (args := [.agg #[.string ah, .int .i64 ap, .string bh, .int .i64 bp, .int .i64 now0, .int .i64 nxt, .int .i64 til, .int .i64 ser, .bool gone, .string noise, .string word, .string fresh, .slice p asked.length c], .int .i64 now, .agg #[.string sh, .int .i64 sp, .string th, .int .i64 tp]]) TTok FFok Try.func12 rfl rfl ?_
 conv => whnf
 refine VSeq.mk fun Kq hKq => ?_
 conv => whnf
 have hp := Hp.nil W
 (refine hp.kboxA fun q w hp hx => ?_; conv => whnf)
 (refine hp.kboxA fun q w hp hx => ?_; conv => whnf)
 (refine hp.kalloc z28 fun al28 w hp hx => ?_; conv => whnf)
 (refine hKq _ _ _ (.refl _) ?_; clear hKq Kq; conv => whnf)
 (refine VSeq.mk fun Kq hKq => ?_; conv => whnf)
 (refine ⟨_, _, Blk.ldV (vs := [_, _, _, _, _, _, _, _, _, _, _, _, _]) (hp.get (i := 2) rfl) TTok rfl rfl rfl, ?_⟩; conv => whnf)
 refine V.CallsUse (s1 (hv.ext hp.ext)) fun w hx => ?_
 have hp := hp.call hx
 conv => whnf
 (refine hKq _ _ _ (.refl _) ?_; clear hKq Kq; conv => whnf)
 (refine VSeq.mk fun Kq hKq => ?_; conv => whnf)
 (refine VSeq.mk fun Kq hKq => ?_; conv => whnf)
 (refine hKq _ _ _ (.refl _) ?_; clear hKq Kq; conv => whnf)
 (refine And.intro (fun _ => ?_) (fun h => absurd (by first | rfl | assumption | omega | decide) (of_decide_eq_false h)); conv => whnf)
 (refine VSeq.mk fun Kq hKq => ?_; conv => whnf)
 (refine ⟨_, _, bld28_ _, ?_⟩; conv => whnf)
 (refine hp.kstA TTok rfl 0 rfl rfl (oneC_of rfl) (by rfl) fun w hp => ?_; try simp only [List.set_cons_zero, List.set_cons_succ, EV.val] at hp; conv => whnf)
 (refine hKq _ _ _ (.refl _) ?_; clear hKq Kq; conv => whnf)
 (refine ⟨_, Blk.lvN (hp.get (i := 0) rfl) TTok rfl rfl, ?_⟩; conv => whnf)
 (exact ⟨rfl, hp.ext⟩)
set_option maxHeartbeats 8000000
theorem Restart_ok {W : World} {v : Value} (x : Wt) (hok : x.Ok) (hv : SLv W v (iv x.asked)) (now : Int) (s : ByteArray) (hs : SzS s) (hw : wtB x = true) (hn : inB now x.now 1099511627776 = true) :
  Calls Try.prog 9 #[.agg (x.c v).toArray, .int .i64 now, .string s] W fun e w' => ∃ u, e = .returned u ∧ ResW W w' u (restW x now s).1 (restW x now s).2 := by
 have hlen := wtB_len hw
 have s1 := fun {W : World} (hv : SLv W v (iv x.asked)) => start_t (W := W) x hok hv now hw hn (by omega)
 have a1 := fun (M : List Nat) (w0 w : World) (H : List It) (q n : Nat) (u : Value) hp => atc_c (M := M) (w0 := w0) (w := w) (H := H) (q := q) (n := n) (v := u) (out := .slice none 0 0) x now hp
 have hf := fits_at hok hw hn
 unfold restW
 dsimp only
 obtain ⟨y, hy⟩ : ∃ y, atW x now = y := ⟨_, rfl⟩
 rw [hy] at a1 hf ⊢
 clear hw hn hok hy
 obtain ⟨⟨ah, ap⟩, ⟨bh, bp⟩, now0, nxt, til, ser, gone, noise, word, fresh, asked⟩ := x
 dsimp only [Wt.c] at hv s1 a1 ⊢
 have hsl : (iv asked).length = asked.length := List.length_map _
 obtain ⟨p, c, rfl⟩ := hv.shape
 rw [hsl] at hv s1 ⊢
 obtain ⟨⟨yah, yap⟩, ⟨ybh, ybp⟩, ynow, ynxt, ytil, yser, ygone, ynoise, yword, yfresh, yasked⟩ := y
 obtain ⟨f1, f2, f3, f4, f5, f6, f7⟩ := hf
 dsimp only at f1 f2 f3 f4 f5 f6 f7 a1 ⊢
 refine v_fn (args := [.agg #[.string ah, .int .i64 ap, .string bh, .int .i64 bp, .int .i64 now0, .int .i64 nxt, .int .i64 til, .int .i64 ser, _, .string noise, .string word, .string fresh, .slice p asked.length c], .int .i64 now, .string s]) TTok FFok Try.func9 rfl (Nat.le_of_ble_eq_true rfl) ?_
 conv => whnf
 refine VSeq.mk fun Kq hKq => ?_
 conv => whnf
 have hp := Hp.nil W
 (refine hp.kboxA fun q w hp hx => ?_; conv => whnf)
 (refine hp.kalloc z28 fun al28 w hp hx => ?_; conv => whnf)
 (refine hKq _ _ _ (.refl _) ?_; clear hKq Kq; conv => whnf)
 (refine VSeq.mk fun Kq hKq => ?_; conv => whnf)
 (refine ⟨_, _, Blk.ldV (vs := [_, _, _, _, _, _, _, _, _, _, _, _, _]) (hp.get (i := 1) rfl) TTok rfl rfl rfl, ?_⟩; conv => whnf)
 refine Calls.mono (s1 (hv.ext hp.ext)) ?_
 rintro _ w ⟨_, rfl, q, u, rfl, k2⟩
 refine ⟨_, rfl, ?_⟩
 have hp := hp.join k2
 simp only [List.cons_append, List.nil_append] at hp
 obtain ⟨pu, cu, rfl⟩ := row_shape (hp.get (i := 1) rfl)
 try dsimp only [gC] at hp
 conv => whnf
 clear s1 k2
 (refine hKq _ _ _ (.refl _) ?_; clear hKq Kq; conv => whnf)
 (refine VSeq.mk fun Kq hKq => ?_; conv => whnf)
 (refine VSeq.mk fun Kq hKq => ?_; conv => whnf)
 (refine hKq _ _ _ (.refl _) ?_; clear hKq Kq; conv => whnf)
 (refine And.intro (fun h => absurd (of_decide_eq_true h) (by first | (intro h2; exact absurd rfl h2) | omega | decide)) (fun _ => ?_); conv => whnf)
 (refine hKq _ _ _ (.refl _) ?_; clear hKq Kq; conv => whnf)
 (refine VSeq.mk fun Kq hKq => ?_; conv => whnf)
 refine Calls.mono (a1 _ _ _ _ _ _ _ hp) ?_
 rintro _ w ⟨_, rfl, v1, hv1, hp⟩
 refine ⟨_, rfl, ?_⟩
 try dsimp only [gC] at hp
 obtain ⟨p1, c1, rfl⟩ := (hv1 w (SLw.row hp (i := 1) rfl)).shape
 conv => whnf
 clear a1
 (refine hKq _ _ _ (.refl _) ?_; clear hKq Kq; conv => whnf)
 (refine VSeq.mk fun Kq hKq => ?_; conv => whnf)
 (refine VSeq.mk fun Kq hKq => ?_; conv => whnf)
 (refine ⟨_, _, Blk.ld (hp.get (i := 0) rfl) TTok rfl rfl, ?_⟩; conv => whnf)
 (refine hKq _ _ _ (.refl _) ?_; clear hKq Kq; conv => whnf)
 refine ⟨fun hgo => ?_, fun hgo => ?_⟩
 ·conv => whnf
  (refine VSeq.mk fun Kq hKq => ?_; conv => whnf)
  (refine ⟨_, _, bld28_ _, ?_⟩; conv => whnf)
  (refine hp.kstA TTok rfl 2 rfl rfl (oneC_of rfl) (by rfl) fun w hp => ?_; try simp only [List.set_cons_zero, List.set_cons_succ, EV.val] at hp; conv => whnf)
  (refine hKq _ _ _ (.refl _) ?_; clear hKq Kq; conv => whnf)
  (refine ⟨_, Blk.lvN (hp.get (i := 2) rfl) TTok rfl rfl, ?_⟩; conv => whnf)
  rw [if_pos hgo]
  exact ⟨_, rfl, hp.ext, .nil⟩
 ·conv => whnf
  (refine VSeq.mk fun Kq hKq => ?_; conv => whnf)
  (refine VSeq.mk fun Kq hKq => ?_; conv => whnf)
  (refine V.CallW.out ?_; (conv => arg 3; dsimp only [EV.val, List.toList_toArray, List.nil_append, List.append_nil, List.cons_append]); (with_reducible refine V.PureF.useW (word_p _ (by assumption)) fun w hx => ?_); try (have hp := hp.call hx); conv => whnf)
  (refine hKq _ _ _ (.refl _) ?_; clear hKq Kq; conv => whnf)
  (refine ⟨fun hd => ?_, fun hd => ?_⟩ <;> (try simp only [Bool.not_eq_true', Bool.not_eq_false', decide_eq_true_eq, decide_eq_false_iff_not, ne_eq, Classical.not_not] at hd) <;> (conv => whnf))
  (refine hKq _ _ _ (.refl _) ?_; clear hKq Kq; conv => whnf)
  (refine VSeq.mk fun Kq hKq => ?_; conv => whnf)
  (refine ⟨_, _, bld28_ _, ?_⟩; conv => whnf)
  (refine hp.kstA TTok rfl 2 rfl rfl (oneC_of rfl) (by rfl) fun w hp => ?_; try simp only [List.set_cons_zero, List.set_cons_succ, EV.val] at hp; conv => whnf)
  (refine hKq _ _ _ (.refl _) ?_; clear hKq Kq; conv => whnf)
  (refine ⟨_, Blk.lvN (hp.get (i := 2) rfl) TTok rfl rfl, ?_⟩; conv => whnf)
  rotate_left
  (refine ⟨_, _, Blk.ld (hp.get (i := 0) rfl) TTok rfl rfl, ?_⟩; conv => whnf)
  (refine hKq _ _ _ (.refl _) ?_; clear hKq Kq; conv => whnf)
  (refine ⟨fun hd => ?_, fun hd => ?_⟩ <;> (try simp only [Bool.not_eq_true', Bool.not_eq_false', decide_eq_true_eq, decide_eq_false_iff_not, ne_eq, Classical.not_not] at hd) <;> (conv => whnf))
  (refine VSeq.mk fun Kq hKq => ?_; conv => whnf)
  (refine ⟨_, _, bld28_ _, ?_⟩; conv => whnf)
  (refine hp.kstA TTok rfl 2 rfl rfl (oneC_of rfl) (by rfl) fun w hp => ?_; try simp only [List.set_cons_zero, List.set_cons_succ, EV.val] at hp; conv => whnf)
  (refine hKq _ _ _ (.refl _) ?_; clear hKq Kq; conv => whnf)
  (refine ⟨_, Blk.lvN (hp.get (i := 2) rfl) TTok rfl rfl, ?_⟩; conv => whnf)
  rotate_left
  (refine hKq _ _ _ (.refl _) ?_; clear hKq Kq; conv => whnf)
  (refine VSeq.mk fun Kq hKq => ?_; conv => whnf)
  (refine hp.kst1 TTok (by rfl) 0 (by rfl) (by rfl) (by rfl) (Nat.le_of_ble_eq_true rfl) fun w hp => ?_; try simp only [List.set_cons_zero, List.set_cons_succ, EV.val] at hp; conv => whnf)
  (refine hKq _ _ _ (.refl _) ?_; clear hKq Kq; conv => whnf)
  (refine VSeq.mk fun Kq hKq => ?_; conv => whnf)
  (refine ⟨_, _, Blk.ldV (vs := [_, _, _, _, _, _, _, _, _, _, _, _, _]) (hp.get (i := 0) rfl) TTok rfl rfl rfl, ?_⟩; conv => whnf)
  (refine hp.kstA TTok rfl 2 rfl rfl (oneC_of rfl) (by rfl) fun w hp => ?_; try simp only [List.set_cons_zero, List.set_cons_succ, EV.val] at hp; conv => whnf)
  (refine hKq _ _ _ (.refl _) ?_; clear hKq Kq; conv => whnf)
  (refine ⟨_, Blk.lvN (hp.get (i := 2) rfl) TTok rfl rfl, ?_⟩; conv => whnf)
  rotate_left
  all_goals rw [if_neg (by rw [hgo]; decide)]
  all_goals first | (rw [if_neg (by simp [*])]; exact ⟨_, rfl, hp.ext, .nil⟩) | (rw [if_pos ⟨by assumption, by assumption⟩]; exact ⟨_, rfl, hp.ext, hv1 _ (SLw.row hp (i := 1) rfl)⟩)
set_option maxHeartbeats 8000000
theorem Switch_ok {W : World} {v : Value} (x : Wt) (hok : x.Ok) (hv : SLv W v (iv x.asked)) (now : Int) (sh th : ByteArray) (sp tp : Int) (hs : Ad.Ok ⟨sh, sp⟩) (ht : Ad.Ok ⟨th, tp⟩) (hw : wtB x = true) (hn : inB now x.now 1099511627776 = true) :
  Calls Try.prog 12 #[.agg (x.c v).toArray, .int .i64 now, .agg #[.string sh, .int .i64 sp, .string th, .int .i64 tp]] W fun e w' => ∃ u, e = .returned u ∧ ResW W w' u (swW x now ⟨sh, sp⟩ ⟨th, tp⟩).1 (swW x now ⟨sh, sp⟩ ⟨th, tp⟩).2 := by
 have hlen := wtB_len hw
 have s1 := fun {W : World} (hv : SLv W v (iv x.asked)) => start_t (W := W) x hok hv now hw hn (by omega)
 have a1 := fun (M : List Nat) (w0 w : World) (H : List It) (q n : Nat) (u : Value) hp => atc_c (M := M) (w0 := w0) (w := w) (H := H) (q := q) (n := n) (v := u) (out := .slice none 0 0) x now hp
 have hf := fits_at hok hw hn
 unfold swW
 dsimp only
 obtain ⟨y, hy⟩ : ∃ y, atW x now = y := ⟨_, rfl⟩
 rw [hy] at a1 hf ⊢
 clear hw hn hok hy
 obtain ⟨⟨ah, ap⟩, ⟨bh, bp⟩, now0, nxt, til, ser, gone, noise, word, fresh, asked⟩ := x
 dsimp only [Wt.c] at hv s1 a1 ⊢
 have hsl : (iv asked).length = asked.length := List.length_map _
 obtain ⟨p, c, rfl⟩ := hv.shape
 rw [hsl] at hv s1 ⊢
 obtain ⟨⟨yah, yap⟩, ⟨ybh, ybp⟩, ynow, ynxt, ytil, yser, ygone, ynoise, yword, yfresh, yasked⟩ := y
 obtain ⟨f1, f2, f3, f4, f5, f6, f7⟩ := hf
 dsimp only at f1 f2 f3 f4 f5 f6 f7 a1 ⊢
 refine v_fn (args := [.agg #[.string ah, .int .i64 ap, .string bh, .int .i64 bp, .int .i64 now0, .int .i64 nxt, .int .i64 til, .int .i64 ser, _, .string noise, .string word, .string fresh, .slice p asked.length c], .int .i64 now, .agg #[.string sh, .int .i64 sp, .string th, .int .i64 tp]]) TTok FFok Try.func12 rfl (Nat.le_of_ble_eq_true rfl) ?_
 conv => whnf
 refine VSeq.mk fun Kq hKq => ?_
 conv => whnf
 have hp := Hp.nil W
 (refine hp.kboxA fun q w hp hx => ?_; conv => whnf)
 (refine hp.kboxA fun q w hp hx => ?_; conv => whnf)
 (refine hp.kalloc z28 fun al28 w hp hx => ?_; conv => whnf)
 (refine hKq _ _ _ (.refl _) ?_; clear hKq Kq; conv => whnf)
 (refine VSeq.mk fun Kq hKq => ?_; conv => whnf)
 (refine ⟨_, _, Blk.ldV (vs := [_, _, _, _, _, _, _, _, _, _, _, _, _]) (hp.get (i := 2) rfl) TTok rfl rfl rfl, ?_⟩; conv => whnf)
 refine Calls.mono (s1 (hv.ext hp.ext)) ?_
 rintro _ w ⟨_, rfl, q, u, rfl, k2⟩
 refine ⟨_, rfl, ?_⟩
 have hp := hp.join k2
 simp only [List.cons_append, List.nil_append] at hp
 obtain ⟨pu, cu, rfl⟩ := row_shape (hp.get (i := 1) rfl)
 try dsimp only [gC] at hp
 conv => whnf
 clear s1 k2
 (refine hKq _ _ _ (.refl _) ?_; clear hKq Kq; conv => whnf)
 (refine VSeq.mk fun Kq hKq => ?_; conv => whnf)
 (refine VSeq.mk fun Kq hKq => ?_; conv => whnf)
 (refine hKq _ _ _ (.refl _) ?_; clear hKq Kq; conv => whnf)
 (refine And.intro (fun h => absurd (of_decide_eq_true h) (by first | (intro h2; exact absurd rfl h2) | omega | decide)) (fun _ => ?_); conv => whnf)
 (refine hKq _ _ _ (.refl _) ?_; clear hKq Kq; conv => whnf)
 (refine VSeq.mk fun Kq hKq => ?_; conv => whnf)
 refine Calls.mono (a1 _ _ _ _ _ _ _ hp) ?_
 rintro _ w ⟨_, rfl, v1, hv1, hp⟩
 refine ⟨_, rfl, ?_⟩
 try dsimp only [gC] at hp
 obtain ⟨p1, c1, rfl⟩ := (hv1 w (SLw.row hp (i := 1) rfl)).shape
 conv => whnf
 clear a1
 (refine hKq _ _ _ (.refl _) ?_; clear hKq Kq; conv => whnf)
 (refine VSeq.mk fun Kq hKq => ?_; conv => whnf)
 (refine VSeq.mk fun Kq hKq => ?_; conv => whnf)
 (refine ⟨_, _, Blk.ld (hp.get (i := 0) rfl) TTok rfl rfl, ?_⟩; conv => whnf)
 (refine hKq _ _ _ (.refl _) ?_; clear hKq Kq; conv => whnf)
 refine ⟨fun hgo => ?_, fun hgo => ?_⟩
 ·conv => whnf
  (refine VSeq.mk fun Kq hKq => ?_; conv => whnf)
  (refine ⟨_, _, bld28_ _, ?_⟩; conv => whnf)
  (refine hp.kstA TTok rfl 2 rfl rfl (oneC_of rfl) (by rfl) fun w hp => ?_; try simp only [List.set_cons_zero, List.set_cons_succ, EV.val] at hp; conv => whnf)
  (refine hKq _ _ _ (.refl _) ?_; clear hKq Kq; conv => whnf)
  (refine ⟨_, Blk.lvN (hp.get (i := 2) rfl) TTok rfl rfl, ?_⟩; conv => whnf)
  rw [if_pos hgo]
  exact ⟨_, rfl, hp.ext, .nil⟩
 ·conv => whnf
  (refine VSeq.mk fun Kq hKq => ?_; conv => whnf)
  (refine ⟨_, _, Blk.ldV (vs := [_, _, _, _]) (hp.get (i := 3) rfl) TTok rfl rfl rfl, ?_⟩; conv => whnf)
  (refine V.CallW.out ?_; (conv => arg 3; dsimp only [EV.val, List.toList_toArray, List.nil_append, List.append_nil, List.cons_append]); (with_reducible refine V.PureF.useW (path_p _ _ _ _ (by assumption) (by assumption)) fun w hx => ?_); try (have hp := hp.call hx); conv => whnf)
  (refine hKq _ _ _ (.refl _) ?_; clear hKq Kq; conv => whnf)
  (refine ⟨fun hd => ?_, fun hd => ?_⟩ <;> (try simp only [Bool.not_eq_true', Bool.not_eq_false', decide_eq_true_eq, decide_eq_false_iff_not, ne_eq, Classical.not_not] at hd) <;> (conv => whnf))
  (refine VSeq.mk fun Kq hKq => ?_; conv => whnf)
  (refine ⟨_, _, bld28_ _, ?_⟩; conv => whnf)
  (refine hp.kstA TTok rfl 2 rfl rfl (oneC_of rfl) (by rfl) fun w hp => ?_; try simp only [List.set_cons_zero, List.set_cons_succ, EV.val] at hp; conv => whnf)
  (refine hKq _ _ _ (.refl _) ?_; clear hKq Kq; conv => whnf)
  (refine ⟨_, Blk.lvN (hp.get (i := 2) rfl) TTok rfl rfl, ?_⟩; conv => whnf)
  rotate_left
  (refine hKq _ _ _ (.refl _) ?_; clear hKq Kq; conv => whnf)
  (refine VSeq.mk fun Kq hKq => ?_; conv => whnf)
  (refine ⟨_, _, Blk.ldV (vs := [_, _, _, _]) (hp.get (i := 3) rfl) TTok rfl rfl rfl, ?_⟩; conv => whnf)
  (refine Or.inl (And.intro (by first | omega | decide) ?_); conv => whnf)
  (refine hp.kstP TTok rfl 0 rfl (vs := [_, _, _, _]) rfl (oneC_of rfl) (Nat.le_of_ble_eq_true rfl) rfl fun w hp => ?_; try simp only [List.take_succ_cons, List.take_zero, List.drop_succ_cons, List.drop_zero, List.cons_append, List.nil_append, List.set_cons_zero, List.set_cons_succ, EV.val] at hp; conv => whnf)
  (refine hp.kst1 TTok (by rfl) 0 (by rfl) (by rfl) (by rfl) (Nat.le_of_ble_eq_true rfl) fun w hp => ?_; try simp only [List.set_cons_zero, List.set_cons_succ, EV.val] at hp; conv => whnf)
  (refine hp.kst1 TTok (by rfl) 0 (by rfl) (by rfl) (by rfl) (Nat.le_of_ble_eq_true rfl) fun w hp => ?_; try simp only [List.set_cons_zero, List.set_cons_succ, EV.val] at hp; conv => whnf)
  (refine hKq _ _ _ (.refl _) ?_; clear hKq Kq; conv => whnf)
  (refine VSeq.mk fun Kq hKq => ?_; conv => whnf)
  (refine VSeq.mk fun Kq hKq => ?_; conv => whnf)
  (refine ⟨_, _, Blk.ld (hp.get (i := 0) rfl) TTok rfl rfl, ?_⟩; conv => whnf)
  (refine hKq _ _ _ (.refl _) ?_; clear hKq Kq; conv => whnf)
  (refine ⟨fun hd => ?_, fun hd => ?_⟩ <;> (try simp only [Bool.not_eq_true', Bool.not_eq_false', decide_eq_true_eq, decide_eq_false_iff_not, ne_eq, Classical.not_not] at hd) <;> (conv => whnf))
  (refine ⟨_, _, Blk.ld (hp.get (i := 0) rfl) TTok rfl rfl, ?_⟩; conv => whnf)
  (refine hp.kst1 TTok (by rfl) 0 (by rfl) (by rfl) (by rfl) (Nat.le_of_ble_eq_true rfl) fun w hp => ?_; try simp only [List.set_cons_zero, List.set_cons_succ, EV.val] at hp; conv => whnf)
  (refine hp.kst1 TTok (by rfl) 0 (by rfl) (by rfl) (by rfl) (Nat.le_of_ble_eq_true rfl) fun w hp => ?_; try simp only [List.set_cons_zero, List.set_cons_succ, EV.val] at hp; conv => whnf)
  (refine hKq _ _ _ (.refl _) ?_; clear hKq Kq; conv => whnf)
  (refine VSeq.mk fun Kq hKq => ?_; conv => whnf)
  (refine ⟨_, _, Blk.ldV (vs := [_, _, _, _, _, _, _, _, _, _, _, _, _]) (hp.get (i := 0) rfl) TTok rfl rfl rfl, ?_⟩; conv => whnf)
  (refine hp.kstA TTok rfl 2 rfl rfl (oneC_of rfl) (by rfl) fun w hp => ?_; try simp only [List.set_cons_zero, List.set_cons_succ, EV.val] at hp; conv => whnf)
  (refine hKq _ _ _ (.refl _) ?_; clear hKq Kq; conv => whnf)
  (refine ⟨_, Blk.lvN (hp.get (i := 2) rfl) TTok rfl rfl, ?_⟩; conv => whnf)
  rotate_left
  (refine hKq _ _ _ (.refl _) ?_; clear hKq Kq; conv => whnf)
  (refine VSeq.mk fun Kq hKq => ?_; conv => whnf)
  (refine ⟨_, _, Blk.ldV (vs := [_, _, _, _, _, _, _, _, _, _, _, _, _]) (hp.get (i := 0) rfl) TTok rfl rfl rfl, ?_⟩; conv => whnf)
  (refine hp.kstA TTok rfl 2 rfl rfl (oneC_of rfl) (by rfl) fun w hp => ?_; try simp only [List.set_cons_zero, List.set_cons_succ, EV.val] at hp; conv => whnf)
  (refine hKq _ _ _ (.refl _) ?_; clear hKq Kq; conv => whnf)
  (refine ⟨_, Blk.lvN (hp.get (i := 2) rfl) TTok rfl rfl, ?_⟩; conv => whnf)
  rotate_left
  all_goals rw [if_neg (by rw [hgo]; decide)]
  all_goals first | (rw [if_neg (by simp [*])]; exact ⟨_, rfl, hp.ext, .nil⟩) | (rw [if_pos (by assumption), if_neg (by assumption)]; exact ⟨_, rfl, hp.ext, .nil⟩) | (rw [if_pos (by assumption), if_pos (by assumption)]; exact ⟨_, rfl, hp.ext, .nil⟩) | (rw [if_pos (by assumption), show yfresh = (⟨#[]⟩ : ByteArray) by assumption, if_pos rfl]; exact ⟨_, rfl, hp.ext, .nil⟩)
set_option maxHeartbeats 1600000
structure Hop3.Ok (h : Hop3) : Prop where
 f : h.1.Ok
 t : h.2.1.Ok
 p : h.2.2.Ok
theorem Hear_bad0 {W : World} {v : Value} (x : Wt) (hok : x.Ok) (hv : SLv W v (iv x.asked)) (now : Int) (h : Hop3) (hs : startN x now ≠ 0) :
  Calls Try.prog 7 #[.agg (x.c v).toArray, .int .i64 now, .agg (hopF h).toArray] W fun e w' => e = .returned (.tuple #[.agg (zW.c (.slice none 0 0)).toArray, .slice none 0 0, .int .i64 (startN x now)]) ∧ Ext W w' := by
 have s1 : ∀ {W : World}, SLv W v (iv x.asked) → Calls Try.prog 19 #[.agg (x.c v).toArray, .int .i64 now] W fun e w' => e = .returned (.tuple #[.pointer none, .int .i64 (startN x now)]) ∧ Ext W w' := fun {W} hv => by
  unfold startN at hs ⊢
  cases hw : wtB x with
  | false => exact start_v x hok hv now hw
  | true =>
   rw [hw] at hs
   cases hi : inB now x.now 1099511627776 with
   | false => exact start_n x hok hv now hw hi
   | true => rw [hi] at hs; exact absurd rfl hs
 obtain ⟨N, hN⟩ : ∃ N, startN x now = N := ⟨_, rfl⟩
 rw [hN] at s1 hs ⊢
 clear hN hok
 obtain ⟨⟨ah, ap⟩, ⟨bh, bp⟩, now0, nxt, til, ser, gone, noise, word, fresh, asked⟩ := x
 obtain ⟨⟨fh, fp⟩, ⟨th, tp⟩, k, id, pr, ct, ti, no, ⟨mh, mp⟩⟩ := h
 dsimp only [Wt.c, hopF, hopC] at hv s1 ⊢
 have hsl : (iv asked).length = asked.length := List.length_map _
 obtain ⟨p, c, rfl⟩ := hv.shape
 rw [hsl] at hv s1 ⊢
 refine v_reads (args := [.agg #[.string ah, .int .i64 ap, .string bh, .int .i64 bp, .int .i64 now0, .int .i64 nxt, .int .i64 til, .int .i64 ser, _, .string noise, .string word, .string fresh, .slice p asked.length c], .int .i64 now, .agg #[.string fh, .int .i64 fp, .string th, .int .i64 tp, .int .i64 k, .int .i64 id, .int .i64 pr, .bool ct, .int .i64 ti, .bool no, .string mh, .int .i64 mp]]) TTok FFok Try.func7 rfl rfl ?_
 conv => whnf
 refine VSeq.mk fun Kq hKq => ?_
 conv => whnf
 have hp := Hp.nil W
 refine hp.kboxA fun q3 w hp hx => ?_
 conv => whnf
 refine hp.kboxA fun q5 w hp hx => ?_
 conv => whnf
 (refine hp.kalloc z28 fun al28 w hp hx => ?_; conv => whnf)
 (refine hKq _ _ _ (.refl _) ?_; clear hKq Kq; conv => whnf)
 (refine VSeq.mk fun Kq hKq => ?_; conv => whnf)
 (refine ⟨_, _, Blk.ldV (vs := [_, _, _, _, _, _, _, _, _, _, _, _, _]) (hp.get (i := 2) rfl) TTok rfl rfl rfl, ?_⟩; conv => whnf)
 refine V.CallsUse (s1 (hv.ext hp.ext)) fun w hx => ?_
 have hp := hp.call hx
 conv => whnf
 (refine hKq _ _ _ (.refl _) ?_; clear hKq Kq; conv => whnf)
 (refine VSeq.mk fun Kq hKq => ?_; conv => whnf)
 (refine VSeq.mk fun Kq hKq => ?_; conv => whnf)
 (refine hKq _ _ _ (.refl _) ?_; clear hKq Kq; conv => whnf)
 (refine And.intro (fun _ => ?_) (fun h => absurd (by first | rfl | assumption | omega | decide) (of_decide_eq_false h)); conv => whnf)
 (refine VSeq.mk fun Kq hKq => ?_; conv => whnf)
 (refine ⟨_, _, bld28_ _, ?_⟩; conv => whnf)
 (refine hp.kstA TTok rfl 0 rfl rfl (oneC_of rfl) (by rfl) fun w hp => ?_; try simp only [List.set_cons_zero, List.set_cons_succ, EV.val] at hp; conv => whnf)
 (refine hKq _ _ _ (.refl _) ?_; clear hKq Kq; conv => whnf)
 (refine ⟨_, Blk.lvN (hp.get (i := 0) rfl) TTok rfl rfl, ?_⟩; conv => whnf)
 (exact ⟨rfl, hp.ext⟩)
theorem Hear_bad1 {W : World} {v : Value} (x : Wt) (hok : x.Ok) (hv : SLv W v (iv x.asked)) (now : Int) (h : Hop3) (hho : h.Ok) (hw : wtB x = true) (hn : inB now x.now 1099511627776 = true) (hpb : probeB h.2.2 = false) :
  Calls Try.prog 7 #[.agg (x.c v).toArray, .int .i64 now, .agg (hopF h).toArray] W fun e w' => e = .returned (.tuple #[.agg (zW.c (.slice none 0 0)).toArray, .slice none 0 0, .int .i64 110]) ∧ Ext W w' := by
 have hlen := wtB_len hw
 have s1 := fun {W : World} (hv : SLv W v (iv x.asked)) => start_t (W := W) x hok hv now hw hn (by omega)
 have pc := fun {W : World} => probe_c (W := W) h.2.2 hho.p
 rw [hpb] at pc
 clear hw hn hpb hho hok
 obtain ⟨⟨ah, ap⟩, ⟨bh, bp⟩, now0, nxt, til, ser, gone, noise, word, fresh, asked⟩ := x
 obtain ⟨⟨fh, fp⟩, ⟨th, tp⟩, k, id, pr, ct, ti, no, ⟨mh, mp⟩⟩ := h
 dsimp only [Wt.c, hopF, hopC] at hv s1 pc ⊢
 have hsl : (iv asked).length = asked.length := List.length_map _
 obtain ⟨p, c, rfl⟩ := hv.shape
 rw [hsl] at hv s1 ⊢
 refine v_reads (args := [.agg #[.string ah, .int .i64 ap, .string bh, .int .i64 bp, .int .i64 now0, .int .i64 nxt, .int .i64 til, .int .i64 ser, _, .string noise, .string word, .string fresh, .slice p asked.length c], .int .i64 now, .agg #[.string fh, .int .i64 fp, .string th, .int .i64 tp, .int .i64 k, .int .i64 id, .int .i64 pr, .bool ct, .int .i64 ti, .bool no, .string mh, .int .i64 mp]]) TTok FFok Try.func7 rfl rfl ?_
 conv => whnf
 refine VSeq.mk fun Kq hKq => ?_
 conv => whnf
 have hp := Hp.nil W
 refine hp.kboxA fun q3 w hp hx => ?_
 conv => whnf
 refine hp.kboxA fun q5 w hp hx => ?_
 conv => whnf
 (refine hp.kalloc z28 fun al28 w hp hx => ?_; conv => whnf)
 (refine hKq _ _ _ (.refl _) ?_; clear hKq Kq; conv => whnf)
 (refine VSeq.mk fun Kq hKq => ?_; conv => whnf)
 (refine ⟨_, _, Blk.ldV (vs := [_, _, _, _, _, _, _, _, _, _, _, _, _]) (hp.get (i := 2) rfl) TTok rfl rfl rfl, ?_⟩; conv => whnf)
 refine Calls.mono (s1 (hv.ext hp.ext)) ?_
 rintro _ w ⟨_, rfl, q, u, rfl, k2⟩
 refine ⟨_, rfl, ?_⟩
 have hp := hp.join k2
 simp only [List.cons_append, List.nil_append] at hp
 obtain ⟨pu, cu, rfl⟩ := row_shape (hp.get (i := 1) rfl)
 try dsimp only [gC] at hp
 conv => whnf
 clear s1
 (refine hKq _ _ _ (.refl _) ?_; clear hKq Kq; conv => whnf)
 (refine VSeq.mk fun Kq hKq => ?_; conv => whnf)
 (refine VSeq.mk fun Kq hKq => ?_; conv => whnf)
 (refine hKq _ _ _ (.refl _) ?_; clear hKq Kq; conv => whnf)
 (refine And.intro (fun h => absurd (of_decide_eq_true h) (by first | (intro h2; exact absurd rfl h2) | omega | decide)) (fun _ => ?_); conv => whnf)
 (refine VSeq.mk fun Kq hKq => ?_; conv => whnf)
 (refine ⟨_, _, Blk.ldV (vs := [_, _, _, _, _, _, _, _]) (hp.get (i := 3) rfl) TTok rfl rfl rfl, ?_⟩; conv => whnf)
 refine V.CallsUse pc fun w hx => ?_
 have hp := hp.call hx
 conv => whnf
 clear pc
 (refine hKq _ _ _ (.refl _) ?_; clear hKq Kq; conv => whnf)
 (refine And.intro (fun _ => ?_) (fun h => absurd h (by decide)); conv => whnf)
 (refine VSeq.mk fun Kq hKq => ?_; conv => whnf)
 (refine ⟨_, _, bld28_ _, ?_⟩; conv => whnf)
 (refine hp.kstA TTok rfl 2 rfl rfl (oneC_of rfl) (by rfl) fun w hp => ?_; try simp only [List.set_cons_zero, List.set_cons_succ, EV.val] at hp; conv => whnf)
 (refine hKq _ _ _ (.refl _) ?_; clear hKq Kq; conv => whnf)
 (refine ⟨_, Blk.lvN (hp.get (i := 2) rfl) TTok rfl rfl, ?_⟩; conv => whnf)
 (exact ⟨rfl, hp.ext⟩)
theorem Hear_bad2 {W : World} {v : Value} (x : Wt) (hok : x.Ok) (hv : SLv W v (iv x.asked)) (now : Int) (h : Hop3) (hho : h.Ok) (hw : wtB x = true) (hn : inB now x.now 1099511627776 = true) (hpb : probeB h.2.2 = true) (hne : ¬ (h.2.1 = x.a ∧ h.1 = x.b)) :
  Calls Try.prog 7 #[.agg (x.c v).toArray, .int .i64 now, .agg (hopF h).toArray] W fun e w' => e = .returned (.tuple #[.agg (zW.c (.slice none 0 0)).toArray, .slice none 0 0, .int .i64 2]) ∧ Ext W w' := by
 have hlen := wtB_len hw
 have s1 := fun {W : World} (hv : SLv W v (iv x.asked)) => start_t (W := W) x hok hv now hw hn (by omega)
 have pc := fun {W : World} => probe_c (W := W) h.2.2 hho.p
 rw [hpb] at pc
 have pe := fun w xo yo => (pa_eq w h.2.1 h.1 x.a x.b hho.t hho.f hok.a hok.b xo yo).2
 rw [decide_eq_false hne] at pe
 clear hw hn hpb hho hok
 obtain ⟨⟨ah, ap⟩, ⟨bh, bp⟩, now0, nxt, til, ser, gone, noise, word, fresh, asked⟩ := x
 obtain ⟨⟨fh, fp⟩, ⟨th, tp⟩, k, id, pr, ct, ti, no, ⟨mh, mp⟩⟩ := h
 dsimp only [Wt.c, hopF, hopC] at hv s1 pc pe ⊢
 have hsl : (iv asked).length = asked.length := List.length_map _
 obtain ⟨p, c, rfl⟩ := hv.shape
 rw [hsl] at hv s1 ⊢
 refine v_reads (args := [.agg #[.string ah, .int .i64 ap, .string bh, .int .i64 bp, .int .i64 now0, .int .i64 nxt, .int .i64 til, .int .i64 ser, _, .string noise, .string word, .string fresh, .slice p asked.length c], .int .i64 now, .agg #[.string fh, .int .i64 fp, .string th, .int .i64 tp, .int .i64 k, .int .i64 id, .int .i64 pr, .bool ct, .int .i64 ti, .bool no, .string mh, .int .i64 mp]]) TTok FFok Try.func7 rfl rfl ?_
 conv => whnf
 refine VSeq.mk fun Kq hKq => ?_
 conv => whnf
 have hp := Hp.nil W
 refine hp.kboxA fun q3 w hp hx => ?_
 conv => whnf
 refine hp.kboxA fun q5 w hp hx => ?_
 conv => whnf
 (refine hp.kalloc z28 fun al28 w hp hx => ?_; conv => whnf)
 (refine hKq _ _ _ (.refl _) ?_; clear hKq Kq; conv => whnf)
 (refine VSeq.mk fun Kq hKq => ?_; conv => whnf)
 (refine ⟨_, _, Blk.ldV (vs := [_, _, _, _, _, _, _, _, _, _, _, _, _]) (hp.get (i := 2) rfl) TTok rfl rfl rfl, ?_⟩; conv => whnf)
 refine Calls.mono (s1 (hv.ext hp.ext)) ?_
 rintro _ w ⟨_, rfl, q, u, rfl, k2⟩
 refine ⟨_, rfl, ?_⟩
 have hp := hp.join k2
 simp only [List.cons_append, List.nil_append] at hp
 obtain ⟨pu, cu, rfl⟩ := row_shape (hp.get (i := 1) rfl)
 try dsimp only [gC] at hp
 conv => whnf
 clear s1
 (refine hKq _ _ _ (.refl _) ?_; clear hKq Kq; conv => whnf)
 (refine VSeq.mk fun Kq hKq => ?_; conv => whnf)
 (refine VSeq.mk fun Kq hKq => ?_; conv => whnf)
 (refine hKq _ _ _ (.refl _) ?_; clear hKq Kq; conv => whnf)
 (refine And.intro (fun h => absurd (of_decide_eq_true h) (by first | (intro h2; exact absurd rfl h2) | omega | decide)) (fun _ => ?_); conv => whnf)
 (refine VSeq.mk fun Kq hKq => ?_; conv => whnf)
 (refine ⟨_, _, Blk.ldV (vs := [_, _, _, _, _, _, _, _]) (hp.get (i := 3) rfl) TTok rfl rfl rfl, ?_⟩; conv => whnf)
 refine V.CallsUse pc fun w hx => ?_
 have hp := hp.call hx
 conv => whnf
 clear pc
 (refine hKq _ _ _ (.refl _) ?_; clear hKq Kq; conv => whnf)
 (refine And.intro (fun h => absurd h (by decide)) (fun _ => ?_); conv => whnf)
 (refine VSeq.mk fun Kq hKq => ?_; conv => whnf)
 (refine ⟨_, _, Blk.ldV (vs := [_, _]) (hp.get (i := 3) rfl) TTok rfl rfl rfl, ?_⟩; conv => whnf)
 (refine ⟨_, _, Blk.ldV (vs := [_, _]) (hp.get (i := 3) rfl) TTok rfl rfl rfl, ?_⟩; conv => whnf)
 (refine ⟨_, _, bld25_0_1 _ _ _ _ _, ?_⟩; conv => whnf)
 (refine ⟨_, _, Blk.ldV (vs := [_, _, _, _]) (hp.get (i := 4) rfl) TTok rfl rfl rfl, ?_⟩; conv => whnf)
 refine ⟨_, _, pe w _ _, ?_⟩
 conv => whnf
 refine hKq _ _ _ (.refl _) ?_
 clear hKq Kq
 conv => whnf
 (refine And.intro (fun _ => ?_) (fun h => absurd h (by decide)); conv => whnf)
 (refine VSeq.mk fun Kq hKq => ?_; conv => whnf)
 (refine ⟨_, _, bld28_ _, ?_⟩; conv => whnf)
 (refine hp.kstA TTok rfl 2 rfl rfl (oneC_of rfl) (by rfl) fun w hp => ?_; try simp only [List.set_cons_zero, List.set_cons_succ, EV.val] at hp; conv => whnf)
 (refine hKq _ _ _ (.refl _) ?_; clear hKq Kq; conv => whnf)
 (refine ⟨_, Blk.lvN (hp.get (i := 2) rfl) TTok rfl rfl, ?_⟩; conv => whnf)
 (exact ⟨rfl, hp.ext⟩)
/-- the program's answer to a probe -/
def hearW (x : Wt) (now : Int) (h : Hop3) : Wt × List Hop3 :=
 let y := atW x now
 if y.gone then (y, []) else
 if h.2.2.k = 1 then (y, [(y.a, y.b, p2 h.2.2.id h.1)]) else
 if h.2.2.k = 2 then (match afterL h.2.2.id y.asked with
  | some r => ({ y with asked := r, til := now + 30000 }, [])
  | none => (y, [])) else (y, [])
theorem t_map : Try.prog.underlying 65 = some (.map 3 64) := by kernel_rfl
theorem t_int : Try.prog.underlying 3 = some (.int .i64) := by kernel_rfl
theorem z_fun (w : World) : (zeroValue 64).run Try.prog w = .ok .nilFunc w := by kernel_rfl
theorem look_1 {w : World} {b : Nat} {f g : Value} {k : Int} (h : MPs w b [(1, f), (2, g)]) (hk : k = 1) : (Instr.lookup 65 (.map (some b)) (.int .i64 k) true).run Try.prog w = .ok (.tuple #[f, .bool true]) w := by
 subst hk
 exact h.look t_map t_int (z_fun w) 1 true
theorem look_2 {w : World} {b : Nat} {f g : Value} {k : Int} (h : MPs w b [(1, f), (2, g)]) (hk : k = 2) : (Instr.lookup 65 (.map (some b)) (.int .i64 k) true).run Try.prog w = .ok (.tuple #[g, .bool true]) w := by
 subst hk
 exact h.look t_map t_int (z_fun w) 2 true
theorem look_x {w : World} {b : Nat} {f g : Value} {k : Int} (h : MPs w b [(1, f), (2, g)]) (h1 : k ≠ 1) (h2 : k ≠ 2) : (Instr.lookup 65 (.map (some b)) (.int .i64 k) true).run Try.prog w = .ok (.tuple #[.nilFunc, .bool false]) w := by
 rw [h.look t_map t_int (z_fun w) k true]
 simp [List.find?_cons, decide_eq_false (Ne.symm h1), decide_eq_false (Ne.symm h2)]
/-- at, whatever comes of it -/
theorem at_c {M : List Nat} {w0 w : World} {H : List It} {q n : Nat} {v out : Value} (x : Wt) (now : Int) (hp : HpM M w0 w (blk q (gC x v out) 60 :: row 3 1 v n (iv x.asked) :: H)) :
  Calls Try.prog 20 #[.pointer (some ⟨q, 0, none⟩), .int .i64 now] w fun e w' => ∃ u, e = .returned u ∧ ∃ v', (∀ {W2} w2, SLw W2 w2 v (iv x.asked) → SLw W2 w2 v' (iv (atW x now).asked)) ∧ HpM M w0 w' (blk q (gC (atW x now) v' out) 60 :: row 3 1 v n (iv x.asked) :: H) := by
 cases hg : goesB x now with
 | true =>
  refine Calls.mono (at_t x now hg hp) ?_
  rintro _ w ⟨u, rfl, hp⟩
  exact ⟨_, rfl, _, fun w2 _ => by rw [atW_t hg]; exact .nil, hp⟩
 | false =>
  refine Calls.mono (at_f x now hg hp) ?_
  rintro _ w ⟨u, rfl, hp⟩
  exact ⟨_, rfl, _, fun w2 h => by rw [atW_f hg]; exact h, hp⟩
set_option maxHeartbeats 16000000 in
theorem Hear_ok {W : World} {v : Value} (x : Wt) (hok : x.Ok) (hv : SLv W v (iv x.asked)) (now : Int) (h : Hop3) (hho : h.Ok) (hw : wtB x = true) (hn : inB now x.now 1099511627776 = true) (hpb : probeB h.2.2 = true) (heq : h.2.1 = x.a ∧ h.1 = x.b) :
  Calls Try.prog 7 #[.agg (x.c v).toArray, .int .i64 now, .agg (hopF h).toArray] W fun e w' => ∃ u, e = .returned u ∧ ResT W w' u (hearW x now h).1 (hearW x now h).2 := by
 have hlen := wtB_len hw
 have s1 := fun {W : World} (hv : SLv W v (iv x.asked)) => start_t (W := W) x hok hv now hw hn (by omega)
 have pc := fun {W : World} => probe_c (W := W) h.2.2 hho.p
 rw [hpb] at pc
 have pe := fun w xo yo => (pa_eq w h.2.1 h.1 x.a x.b hho.t hho.f hok.a hok.b xo yo).2
 rw [decide_eq_true heq] at pe
 have a1 := fun (M : List Nat) (w0 w : World) (H : List It) (q n : Nat) (u : Value) hp => at_c (M := M) (w0 := w0) (w := w) (H := H) (q := q) (n := n) (v := u) (out := .slice none 0 0) x now hp
 have hf := fits_at hok hw hn
 have hyn : (atW x now).now = now := by
  cases hg : goesB x now with
  | true => rw [atW_t hg]
  | false => rw [atW_f hg]
 unfold hearW
 dsimp only
 obtain ⟨y, hy⟩ : ∃ y, atW x now = y := ⟨_, rfl⟩
 rw [hy] at a1 hf hyn ⊢
 clear hw hn hpb hho hok heq hy
 obtain ⟨⟨ah, ap⟩, ⟨bh, bp⟩, now0, nxt, til, ser, gone, noise, word, fresh, asked⟩ := x
 obtain ⟨⟨fh, fp⟩, ⟨th, tp⟩, k, id, pr, ct, ti, no, ⟨mh, mp⟩⟩ := h
 dsimp only [Wt.c, hopF, hopC] at hv s1 pc pe a1 ⊢
 have hsl : (iv asked).length = asked.length := List.length_map _
 obtain ⟨p, c, rfl⟩ := hv.shape
 rw [hsl] at hv s1 ⊢
 obtain ⟨⟨yah, yap⟩, ⟨ybh, ybp⟩, ynow, ynxt, ytil, yser, ygone, ynoise, yword, yfresh, yasked⟩ := y
 obtain ⟨f1, f2, f3, f4, f5, f6, f7⟩ := hf
 dsimp only at f1 f2 f3 f4 f5 f6 f7 a1 hyn ⊢
 obtain rfl := hyn.symm
 refine v_fn (args := [.agg #[.string ah, .int .i64 ap, .string bh, .int .i64 bp, .int .i64 now0, .int .i64 nxt, .int .i64 til, .int .i64 ser, _, .string noise, .string word, .string fresh, .slice p asked.length c], .int .i64 now, .agg #[.string fh, .int .i64 fp, .string th, .int .i64 tp, .int .i64 k, .int .i64 id, .int .i64 pr, .bool ct, .int .i64 ti, .bool no, .string mh, .int .i64 mp]]) TTok FFok Try.func7 rfl (Nat.le_of_ble_eq_true rfl) ?_
 conv => whnf
 refine VSeq.mk fun Kq hKq => ?_
 conv => whnf
 have hp := Hp.nil W
 refine hp.kboxA fun q3 w hp hx => ?_
 conv => whnf
 refine hp.kboxA fun q5 w hp hx => ?_
 conv => whnf
 (refine hp.kalloc z28 fun al28 w hp hx => ?_; conv => whnf)
 (refine hKq _ _ _ (.refl _) ?_; clear hKq Kq; conv => whnf)
 (refine VSeq.mk fun Kq hKq => ?_; conv => whnf)
 (refine ⟨_, _, Blk.ldV (vs := [_, _, _, _, _, _, _, _, _, _, _, _, _]) (hp.get (i := 2) rfl) TTok rfl rfl rfl, ?_⟩; conv => whnf)
 refine Calls.mono (s1 (hv.ext hp.ext)) ?_
 rintro _ w ⟨_, rfl, q, u, rfl, k2⟩
 refine ⟨_, rfl, ?_⟩
 have hp := hp.join k2
 simp only [List.cons_append, List.nil_append] at hp
 obtain ⟨pu, cu, rfl⟩ := row_shape (hp.get (i := 1) rfl)
 try dsimp only [gC] at hp
 conv => whnf
 clear s1
 (refine hKq _ _ _ (.refl _) ?_; clear hKq Kq; conv => whnf)
 (refine VSeq.mk fun Kq hKq => ?_; conv => whnf)
 (refine VSeq.mk fun Kq hKq => ?_; conv => whnf)
 (refine hKq _ _ _ (.refl _) ?_; clear hKq Kq; conv => whnf)
 (refine And.intro (fun h => absurd (of_decide_eq_true h) (by first | (intro h2; exact absurd rfl h2) | omega | decide)) (fun _ => ?_); conv => whnf)
 (refine VSeq.mk fun Kq hKq => ?_; conv => whnf)
 (refine ⟨_, _, Blk.ldV (vs := [_, _, _, _, _, _, _, _]) (hp.get (i := 3) rfl) TTok rfl rfl rfl, ?_⟩; conv => whnf)
 refine V.CallsUse pc fun w hx => ?_
 have hp := hp.call hx
 conv => whnf
 clear pc
 (refine hKq _ _ _ (.refl _) ?_; clear hKq Kq; conv => whnf)
 (refine And.intro (fun h => absurd h (by decide)) (fun _ => ?_); conv => whnf)
 (refine VSeq.mk fun Kq hKq => ?_; conv => whnf)
 (refine ⟨_, _, Blk.ldV (vs := [_, _]) (hp.get (i := 3) rfl) TTok rfl rfl rfl, ?_⟩; conv => whnf)
 (refine ⟨_, _, Blk.ldV (vs := [_, _]) (hp.get (i := 3) rfl) TTok rfl rfl rfl, ?_⟩; conv => whnf)
 (refine ⟨_, _, bld25_0_1 _ _ _ _ _, ?_⟩; conv => whnf)
 (refine ⟨_, _, Blk.ldV (vs := [_, _, _, _]) (hp.get (i := 4) rfl) TTok rfl rfl rfl, ?_⟩; conv => whnf)
 refine ⟨_, _, pe w _ _, ?_⟩
 conv => whnf
 refine hKq _ _ _ (.refl _) ?_
 clear hKq Kq
 conv => whnf
 (refine And.intro (fun h => absurd h (by decide)) (fun _ => ?_); conv => whnf)
 (refine hKq _ _ _ (.refl _) ?_; clear hKq Kq; conv => whnf)
 (refine VSeq.mk fun Kq hKq => ?_; conv => whnf)
 refine Calls.mono (a1 _ _ _ _ _ _ _ hp) ?_
 rintro _ w ⟨_, rfl, v1, hv1, hp⟩
 refine ⟨_, rfl, ?_⟩
 try dsimp only [gC] at hp
 obtain ⟨p1, c1, rfl⟩ := (hv1 w (SLw.row hp (i := 1) rfl)).shape
 conv => whnf
 clear a1
 (refine hKq _ _ _ (.refl _) ?_; clear hKq Kq; conv => whnf)
 (refine VSeq.mk fun Kq hKq => ?_; conv => whnf)
 refine hp.kmap fun bm w hp hx => ?_
 conv => whnf
 skip
 refine hp.kins t_map t_int 0 rfl rfl fun w hp => ?_
 simp only [List.set_cons_zero, List.nil_append] at hp
 conv => whnf
 skip
 refine hp.kins t_map t_int 0 rfl rfl fun w hp => ?_
 simp only [List.set_cons_zero, List.cons_append, List.nil_append] at hp
 conv => whnf
 (refine hKq _ _ _ (.refl _) ?_; clear hKq Kq; conv => whnf)
 (refine VSeq.mk fun Kq hKq => ?_; conv => whnf)
 (refine VSeq.mk fun Kq hKq => ?_; conv => whnf)
 (refine ⟨_, _, Blk.ld (hp.get (i := 4) rfl) TTok rfl rfl, ?_⟩; conv => whnf)
 have hml : yasked.length ≤ maxLen := by unfold maxLen; omega
 by_cases hk1 : k = 1
 ·refine ⟨_, _, look_1 (hp.get (i := 0) rfl) hk1, ?_⟩
  conv => whnf
  refine hKq _ _ _ (.refl _) ?_
  clear hKq Kq
  conv => whnf
  refine VSeq.mk fun Kq hKq => ?_
  conv => whnf
  refine VSeq.mk fun Kq hKq => ?_
  conv => whnf
  refine hKq _ _ _ (.refl _) ?_
  clear hKq Kq
  conv => whnf
  (refine And.intro (fun _ => ?_) (fun h => absurd h (by decide)); conv => whnf)
  (refine ⟨_, _, Blk.ld (hp.get (i := 1) rfl) TTok rfl rfl, ?_⟩; conv => whnf)
  (refine hKq _ _ _ (.refl _) ?_; clear hKq Kq; conv => whnf)
  refine ⟨fun hgo => ?_, fun hgo => ?_⟩
  ·have hgo : ygone = false := by simpa using hgo
   conv => whnf
   (refine ⟨_, _, Blk.ldV (vs := [_, _, _, _, _, _, _, _, _, _, _, _]) (hp.get (i := 4) rfl) TTok rfl rfl rfl, ?_⟩; conv => whnf)
   refine Calls.mono (asked_c ⟨⟨yah, yap⟩, ⟨ybh, ybp⟩, now, ynxt, ytil, yser, ygone, ynoise, yword, yfresh, yasked⟩ ⟨fh, fp⟩ ⟨th, tp⟩ ⟨k, id, pr, ct, ti, no, ⟨mh, mp⟩⟩ (hp.pick [1, 2, 3, 4, 5] (by decide))) ?_
   rintro _ w ⟨_, rfl, o, hp⟩
   refine ⟨_, rfl, ?_⟩
   dsimp only [gC] at hp
   obtain ⟨po, co, rfl⟩ := row_shape (hp.get (i := 1) rfl)
   conv => whnf
   (refine hKq _ _ _ (.refl _) ?_; clear hKq Kq; conv => whnf)
   (refine VSeq.mk fun Kq hKq => ?_; conv => whnf)
   have hcls := hp.pick [0] (by decide)
   simp only [List.filterMap_cons, List.filterMap_nil, List.getElem?_cons_zero, List.getElem?_cons_succ] at hcls
   refine v_mtC TTok FFok mixed _ hcls [] (.q 0 (.q 1 (.q 2 (.q 3 (.q 4 (.q 5 (.q 6 (.q 7 (.m 8 (.q 9 (.q 10 .nil))))))))))) (by kernel_rfl) ?_
   clear hcls
   conv => whnf
   (refine ⟨_, fun w' hc => Blk.ldV (vs := [_, _, _, _, _, _, _, _, _, _, _, _, _]) (hc.get (i := 0) rfl) TTok rfl rfl rfl, ?_⟩; conv => whnf)
   (refine ⟨_, fun w' hc => Blk.ld (hc.get (i := 0) rfl) TTok rfl rfl, ?_⟩; conv => whnf)
   (intro w hx; try (have hp := hp.call hx); conv => whnf)
   (refine hp.kstA TTok rfl 3 rfl rfl (oneC_of rfl) (by rfl) fun w hp => ?_; try simp only [List.set_cons_zero, List.set_cons_succ, EV.val] at hp; conv => whnf)
   (refine And.intro (fun _ => hp.pick [0] (by decide)) ?_; conv => whnf)
   (intro w hx; try (have hp := hp.call hx); conv => whnf)
   (refine hKq _ _ _ (.refl _) ?_; clear hKq Kq; conv => whnf)
   (refine ⟨_, Blk.lvN (hp.get (i := 3) rfl) TTok rfl rfl, ?_⟩; conv => whnf)
   rw [if_neg (by rw [hgo]; decide), if_pos hk1]
   exact ⟨_, _, rfl, hp.ext, hv1 _ (SLw.row hp (i := 2) rfl), HRw.one hp (i := 1) rfl⟩
  ·have hgo : ygone = true := by simpa using hgo
   conv => whnf
   (refine hKq _ _ _ (.refl _) ?_; clear hKq Kq; conv => whnf)
   (refine VSeq.mk fun Kq hKq => ?_; conv => whnf)
   have hcls := hp.pick [1] (by decide)
   simp only [List.filterMap_cons, List.filterMap_nil, List.getElem?_cons_zero, List.getElem?_cons_succ] at hcls
   refine v_mtC TTok FFok mixed _ hcls [] (.q 0 (.q 1 (.q 2 (.q 3 (.q 4 (.q 5 (.q 6 (.q 7 (.m 8 (.q 9 (.q 10 .nil))))))))))) (by kernel_rfl) ?_
   clear hcls
   conv => whnf
   (refine ⟨_, fun w' hc => Blk.ldV (vs := [_, _, _, _, _, _, _, _, _, _, _, _, _]) (hc.get (i := 0) rfl) TTok rfl rfl rfl, ?_⟩; conv => whnf)
   (refine ⟨_, fun w' hc => Blk.ld (hc.get (i := 0) rfl) TTok rfl rfl, ?_⟩; conv => whnf)
   (intro w hx; try (have hp := hp.call hx); conv => whnf)
   (refine hp.kstA TTok rfl 3 rfl rfl (oneC_of rfl) (by rfl) fun w hp => ?_; try simp only [List.set_cons_zero, List.set_cons_succ, EV.val] at hp; conv => whnf)
   (refine And.intro (fun _ => hp.pick [1] (by decide)) ?_; conv => whnf)
   (intro w hx; try (have hp := hp.call hx); conv => whnf)
   (refine hKq _ _ _ (.refl _) ?_; clear hKq Kq; conv => whnf)
   (refine ⟨_, Blk.lvN (hp.get (i := 3) rfl) TTok rfl rfl, ?_⟩; conv => whnf)
   rw [if_pos hgo]
   exact ⟨_, _, rfl, hp.ext, hv1 _ (SLw.row hp (i := 2) rfl), .nil⟩
 ·by_cases hk2 : k = 2
  ·refine ⟨_, _, look_2 (hp.get (i := 0) rfl) hk2, ?_⟩
   conv => whnf
   refine hKq _ _ _ (.refl _) ?_
   clear hKq Kq
   conv => whnf
   refine VSeq.mk fun Kq hKq => ?_
   conv => whnf
   refine VSeq.mk fun Kq hKq => ?_
   conv => whnf
   refine hKq _ _ _ (.refl _) ?_
   clear hKq Kq
   conv => whnf
   (refine And.intro (fun _ => ?_) (fun h => absurd h (by decide)); conv => whnf)
   (refine ⟨_, _, Blk.ld (hp.get (i := 1) rfl) TTok rfl rfl, ?_⟩; conv => whnf)
   (refine hKq _ _ _ (.refl _) ?_; clear hKq Kq; conv => whnf)
   refine ⟨fun hgo => ?_, fun hgo => ?_⟩
   ·have hgo : ygone = false := by simpa using hgo
    conv => whnf
    (refine ⟨_, _, Blk.ldV (vs := [_, _, _, _, _, _, _, _, _, _, _, _]) (hp.get (i := 4) rfl) TTok rfl rfl rfl, ?_⟩; conv => whnf)
    have hsv := hv1 w (SLw.row hp (i := 2) rfl)
    cases hr : afterL id yasked with
    | none =>
     refine Calls.mono (answered_n ⟨⟨yah, yap⟩, ⟨ybh, ybp⟩, now, ynxt, ytil, yser, ygone, ynoise, yword, yfresh, yasked⟩ ⟨fh, fp⟩ ⟨th, tp⟩ ⟨k, id, pr, ct, ti, no, ⟨mh, mp⟩⟩ hml hsv.s hr (hp.pick [1, 2, 3, 4, 5] (by decide))) ?_
     rintro _ w ⟨_, rfl, hp⟩
     refine ⟨_, rfl, ?_⟩
     dsimp only [gC] at hp
     conv => whnf
     (refine hKq _ _ _ (.refl _) ?_; clear hKq Kq; conv => whnf)
     (refine VSeq.mk fun Kq hKq => ?_; conv => whnf)
     have hcls := hp.pick [0] (by decide)
     simp only [List.filterMap_cons, List.filterMap_nil, List.getElem?_cons_zero, List.getElem?_cons_succ] at hcls
     refine v_mtC TTok FFok mixed _ hcls [] (.q 0 (.q 1 (.q 2 (.q 3 (.q 4 (.q 5 (.q 6 (.q 7 (.m 8 (.q 9 (.q 10 .nil))))))))))) (by kernel_rfl) ?_
     clear hcls
     conv => whnf
     (refine ⟨_, fun w' hc => Blk.ldV (vs := [_, _, _, _, _, _, _, _, _, _, _, _, _]) (hc.get (i := 0) rfl) TTok rfl rfl rfl, ?_⟩; conv => whnf)
     (refine ⟨_, fun w' hc => Blk.ld (hc.get (i := 0) rfl) TTok rfl rfl, ?_⟩; conv => whnf)
     (intro w hx; try (have hp := hp.call hx); conv => whnf)
     (refine hp.kstA TTok rfl 2 rfl rfl (oneC_of rfl) (by rfl) fun w hp => ?_; try simp only [List.set_cons_zero, List.set_cons_succ, EV.val] at hp; conv => whnf)
     (refine And.intro (fun _ => hp.pick [0] (by decide)) ?_; conv => whnf)
     (intro w hx; try (have hp := hp.call hx); conv => whnf)
     (refine hKq _ _ _ (.refl _) ?_; clear hKq Kq; conv => whnf)
     (refine ⟨_, Blk.lvN (hp.get (i := 2) rfl) TTok rfl rfl, ?_⟩; conv => whnf)
     rw [if_neg (by rw [hgo]; decide), if_neg hk1, if_pos hk2, hr]
     exact ⟨_, _, rfl, hp.ext, hv1 _ (SLw.row hp (i := 1) rfl), .nil⟩
    | some r =>
     refine Calls.mono (answered_s ⟨⟨yah, yap⟩, ⟨ybh, ybp⟩, now, ynxt, ytil, yser, ygone, ynoise, yword, yfresh, yasked⟩ ⟨fh, fp⟩ ⟨th, tp⟩ ⟨k, id, pr, ct, ti, no, ⟨mh, mp⟩⟩ hml ⟨by show _ ≤ now + 30000; omega, by show now + 30000 ≤ _; omega⟩ hsv.s hr (hp.pick [1, 2, 3, 4, 5] (by decide))) ?_
     rintro _ w ⟨_, rfl, v2, hv2, hp⟩
     refine ⟨_, rfl, ?_⟩
     dsimp only [gC] at hp
     obtain ⟨p2, c2, rfl⟩ := (hv2 w (hv1 w (SLw.row hp (i := 1) rfl))).shape
     conv => whnf
     (refine hKq _ _ _ (.refl _) ?_; clear hKq Kq; conv => whnf)
     (refine VSeq.mk fun Kq hKq => ?_; conv => whnf)
     have hcls := hp.pick [0] (by decide)
     simp only [List.filterMap_cons, List.filterMap_nil, List.getElem?_cons_zero, List.getElem?_cons_succ] at hcls
     refine v_mtC TTok FFok mixed _ hcls [] (.q 0 (.q 1 (.q 2 (.q 3 (.q 4 (.q 5 (.q 6 (.q 7 (.m 8 (.q 9 (.q 10 .nil))))))))))) (by kernel_rfl) ?_
     clear hcls
     conv => whnf
     (refine ⟨_, fun w' hc => Blk.ldV (vs := [_, _, _, _, _, _, _, _, _, _, _, _, _]) (hc.get (i := 0) rfl) TTok rfl rfl rfl, ?_⟩; conv => whnf)
     (refine ⟨_, fun w' hc => Blk.ld (hc.get (i := 0) rfl) TTok rfl rfl, ?_⟩; conv => whnf)
     (intro w hx; try (have hp := hp.call hx); conv => whnf)
     (refine hp.kstA TTok rfl 2 rfl rfl (oneC_of rfl) (by rfl) fun w hp => ?_; try simp only [List.set_cons_zero, List.set_cons_succ, EV.val] at hp; conv => whnf)
     (refine And.intro (fun _ => hp.pick [0] (by decide)) ?_; conv => whnf)
     (intro w hx; try (have hp := hp.call hx); conv => whnf)
     (refine hKq _ _ _ (.refl _) ?_; clear hKq Kq; conv => whnf)
     (refine ⟨_, Blk.lvN (hp.get (i := 2) rfl) TTok rfl rfl, ?_⟩; conv => whnf)
     rw [if_neg (by rw [hgo]; decide), if_neg hk1, if_pos hk2, hr]
     exact ⟨_, _, rfl, hp.ext, hv2 _ (hv1 _ (SLw.row hp (i := 1) rfl)), .nil⟩
   ·have hgo : ygone = true := by simpa using hgo
    conv => whnf
    (refine hKq _ _ _ (.refl _) ?_; clear hKq Kq; conv => whnf)
    (refine VSeq.mk fun Kq hKq => ?_; conv => whnf)
    have hcls := hp.pick [1] (by decide)
    simp only [List.filterMap_cons, List.filterMap_nil, List.getElem?_cons_zero, List.getElem?_cons_succ] at hcls
    refine v_mtC TTok FFok mixed _ hcls [] (.q 0 (.q 1 (.q 2 (.q 3 (.q 4 (.q 5 (.q 6 (.q 7 (.m 8 (.q 9 (.q 10 .nil))))))))))) (by kernel_rfl) ?_
    clear hcls
    conv => whnf
    (refine ⟨_, fun w' hc => Blk.ldV (vs := [_, _, _, _, _, _, _, _, _, _, _, _, _]) (hc.get (i := 0) rfl) TTok rfl rfl rfl, ?_⟩; conv => whnf)
    (refine ⟨_, fun w' hc => Blk.ld (hc.get (i := 0) rfl) TTok rfl rfl, ?_⟩; conv => whnf)
    (intro w hx; try (have hp := hp.call hx); conv => whnf)
    (refine hp.kstA TTok rfl 3 rfl rfl (oneC_of rfl) (by rfl) fun w hp => ?_; try simp only [List.set_cons_zero, List.set_cons_succ, EV.val] at hp; conv => whnf)
    (refine And.intro (fun _ => hp.pick [1] (by decide)) ?_; conv => whnf)
    (intro w hx; try (have hp := hp.call hx); conv => whnf)
    (refine hKq _ _ _ (.refl _) ?_; clear hKq Kq; conv => whnf)
    (refine ⟨_, Blk.lvN (hp.get (i := 3) rfl) TTok rfl rfl, ?_⟩; conv => whnf)
    rw [if_pos hgo]
    exact ⟨_, _, rfl, hp.ext, hv1 _ (SLw.row hp (i := 2) rfl), .nil⟩
  ·refine ⟨_, _, look_x (hp.get (i := 0) rfl) hk1 hk2, ?_⟩
   conv => whnf
   refine hKq _ _ _ (.refl _) ?_
   clear hKq Kq
   conv => whnf
   refine VSeq.mk fun Kq hKq => ?_
   conv => whnf
   refine VSeq.mk fun Kq hKq => ?_
   conv => whnf
   refine hKq _ _ _ (.refl _) ?_
   clear hKq Kq
   conv => whnf
   (refine And.intro (fun h => absurd h (by decide)) (fun _ => ?_); conv => whnf)
   (refine hKq _ _ _ (.refl _) ?_; clear hKq Kq; conv => whnf)
   (refine hKq _ _ _ (.refl _) ?_; clear hKq Kq; conv => whnf)
   (refine VSeq.mk fun Kq hKq => ?_; conv => whnf)
   skip
   have hcls := hp.pick [1] (by decide)
   simp only [List.filterMap_cons, List.filterMap_nil, List.getElem?_cons_zero, List.getElem?_cons_succ] at hcls
   refine v_mtC TTok FFok mixed _ hcls [] (.q 0 (.q 1 (.q 2 (.q 3 (.q 4 (.q 5 (.q 6 (.q 7 (.m 8 (.q 9 (.q 10 .nil))))))))))) (by kernel_rfl) ?_
   clear hcls
   conv => whnf
   (refine ⟨_, fun w' hc => Blk.ldV (vs := [_, _, _, _, _, _, _, _, _, _, _, _, _]) (hc.get (i := 0) rfl) TTok rfl rfl rfl, ?_⟩; conv => whnf)
   (refine ⟨_, fun w' hc => Blk.ld (hc.get (i := 0) rfl) TTok rfl rfl, ?_⟩; conv => whnf)
   (intro w hx; try (have hp := hp.call hx); conv => whnf)
   (refine hp.kstA TTok rfl 3 rfl rfl (oneC_of rfl) (by rfl) fun w hp => ?_; try simp only [List.set_cons_zero, List.set_cons_succ, EV.val] at hp; conv => whnf)
   (refine And.intro (fun _ => hp.pick [1] (by decide)) ?_; conv => whnf)
   (intro w hx; try (have hp := hp.call hx); conv => whnf)
   (refine hKq _ _ _ (.refl _) ?_; clear hKq Kq; conv => whnf)
   (refine ⟨_, Blk.lvN (hp.get (i := 3) rfl) TTok rfl rfl, ?_⟩; conv => whnf)
   have e : ∀ (y : Wt), (if ygone = true then (y, ([] : List Hop3)) else (y, [])) = (y, []) := fun y => by split <;> rfl
   rw [if_neg hk1, if_neg hk2, e]
   exact ⟨_, _, rfl, hp.ext, hv1 _ (SLw.row hp (i := 2) rfl), .nil⟩
set_option maxHeartbeats 4000000
theorem Wt.Ok.ad {x : Wt} (h : x.Ok) : ∀ (w : World) xo yo, ((do eqGuard .neq 25 xo yo (.agg (x.a.c ++ x.b.c).toArray) (.agg (x.a.c ++ x.b.c).toArray); binOp .neq 25 (.agg (x.a.c ++ x.b.c).toArray) (.agg (x.a.c ++ x.b.c).toArray) : Sem Value).run Try.prog w = .ok (.bool false) w) := fun w xo yo => by
 have := (pa_eq w x.a x.b x.a x.b h.a h.b h.a h.b xo yo).2
 rw [decide_eq_true ⟨rfl, rfl⟩] at this
 exact this
theorem neq_bool (b : Bool) (w : World) (xo yo : Operand) : (do eqGuard .neq 4 xo yo (.bool b) (.bool b); binOp .neq 4 (.bool b) (.bool b) : Sem Value).run Try.prog w = .ok (.bool false) w := by
 cases b <;> kernel_rfl
theorem Same12_c {W : World} {v u : Value} (x : Wt) (hok : x.Ok) (hv : SLv W v (iv x.asked)) (hu : SLv W u (iv x.asked)) :
  Calls Try.prog 17 #[.agg (x.c v).toArray, .agg (x.c u).toArray] W fun e w' => e = .returned (.bool true) ∧ Ext W w' := by
 have pe := hok.ad
 have hln := hok.len
 unfold maxLen at hln
 clear hok
 obtain ⟨⟨ah, ap⟩, ⟨bh, bp⟩, now, nxt, til, ser, gone, noise, word, fresh, asked⟩ := x
 dsimp only [Wt.c] at hv hu pe hln ⊢
 have hsl : (iv asked).length = asked.length := List.length_map _
 obtain ⟨p, c, rfl⟩ := hv.shape
 obtain ⟨p2, c2, rfl⟩ := hu.shape
 rw [hsl] at hv hu ⊢
 refine v_reads (args := [.agg #[.string ah, .int .i64 ap, .string bh, .int .i64 bp, .int .i64 now, .int .i64 nxt, .int .i64 til, .int .i64 ser, .bool gone, .string noise, .string word, .string fresh, .slice p asked.length c], .agg #[.string ah, .int .i64 ap, .string bh, .int .i64 bp, .int .i64 now, .int .i64 nxt, .int .i64 til, .int .i64 ser, .bool gone, .string noise, .string word, .string fresh, .slice p2 asked.length c2]]) TTok FFok Try.func17 rfl rfl ?_
 conv => whnf
 refine VSeq.mk fun Kq hKq => ?_
 conv => whnf
 have hp := Hp.nil W
 refine hp.kboxA fun q2 w hp hx => ?_
 conv => whnf
 refine hp.kboxA fun q3 w hp hx => ?_
 conv => whnf
 refine hKq _ _ _ (.refl _) ?_
 clear hKq Kq
 conv => whnf
 refine VSeq.mk fun Kq hKq => ?_
 conv => whnf
 refine VSeq.mk fun Kq hKq => ?_
 conv => whnf
 refine VSeq.mk fun Kq hKq => ?_
 conv => whnf
 (refine ⟨_, _, Blk.ldV (vs := [_, _, _, _]) (hp.get (i := 1) rfl) TTok rfl rfl rfl, ?_⟩; conv => whnf)
 (refine ⟨_, _, Blk.ldV (vs := [_, _, _, _]) (hp.get (i := 0) rfl) TTok rfl rfl rfl, ?_⟩; conv => whnf)
 refine ⟨_, _, pe _ _ _, ?_⟩
 conv => whnf
 refine hKq _ _ _ (.refl _) ?_
 clear hKq Kq
 conv => whnf
 refine VSeq.mk fun Kq hKq => ?_
 conv => whnf
 (refine And.intro (fun h => absurd h (by decide)) (fun _ => ?_); conv => whnf)
 (refine ⟨_, _, Blk.ld (hp.get (i := 1) rfl) TTok rfl rfl, ?_⟩; conv => whnf)
 (refine ⟨_, _, Blk.ld (hp.get (i := 0) rfl) TTok rfl rfl, ?_⟩; conv => whnf)
 (refine hKq _ _ _ (.refl _) ?_; clear hKq Kq; conv => whnf)
 (refine VSeq.mk fun Kq hKq => ?_; conv => whnf)
 (refine And.intro (fun h => absurd (of_decide_eq_true h) (by first | (intro h2; exact absurd rfl h2) | omega | decide)) (fun _ => ?_); conv => whnf)
 (refine ⟨_, _, Blk.ld (hp.get (i := 1) rfl) TTok rfl rfl, ?_⟩; conv => whnf)
 (refine ⟨_, _, Blk.ld (hp.get (i := 0) rfl) TTok rfl rfl, ?_⟩; conv => whnf)
 (refine hKq _ _ _ (.refl _) ?_; clear hKq Kq; conv => whnf)
 (refine VSeq.mk fun Kq hKq => ?_; conv => whnf)
 (refine And.intro (fun h => absurd (of_decide_eq_true h) (by first | (intro h2; exact absurd rfl h2) | omega | decide)) (fun _ => ?_); conv => whnf)
 (refine ⟨_, _, Blk.ld (hp.get (i := 1) rfl) TTok rfl rfl, ?_⟩; conv => whnf)
 (refine ⟨_, _, Blk.ld (hp.get (i := 0) rfl) TTok rfl rfl, ?_⟩; conv => whnf)
 (refine hKq _ _ _ (.refl _) ?_; clear hKq Kq; conv => whnf)
 (refine VSeq.mk fun Kq hKq => ?_; conv => whnf)
 (refine And.intro (fun h => absurd (of_decide_eq_true h) (by first | (intro h2; exact absurd rfl h2) | omega | decide)) (fun _ => ?_); conv => whnf)
 (refine ⟨_, _, Blk.ld (hp.get (i := 1) rfl) TTok rfl rfl, ?_⟩; conv => whnf)
 (refine ⟨_, _, Blk.ld (hp.get (i := 0) rfl) TTok rfl rfl, ?_⟩; conv => whnf)
 (refine hKq _ _ _ (.refl _) ?_; clear hKq Kq; conv => whnf)
 (refine VSeq.mk fun Kq hKq => ?_; conv => whnf)
 (refine And.intro (fun h => absurd (of_decide_eq_true h) (by first | (intro h2; exact absurd rfl h2) | omega | decide)) (fun _ => ?_); conv => whnf)
 (refine ⟨_, _, Blk.ld (hp.get (i := 1) rfl) TTok rfl rfl, ?_⟩; conv => whnf)
 (refine ⟨_, _, Blk.ld (hp.get (i := 0) rfl) TTok rfl rfl, ?_⟩; conv => whnf)
 refine ⟨_, _, neq_bool _ _ _ _, ?_⟩
 conv => whnf
 refine hKq _ _ _ (.refl _) ?_
 clear hKq Kq
 conv => whnf
 refine VSeq.mk fun Kq hKq => ?_
 conv => whnf
 (refine And.intro (fun h => absurd h (by decide)) (fun _ => ?_); conv => whnf)
 (refine ⟨_, _, Blk.ld (hp.get (i := 1) rfl) TTok rfl rfl, ?_⟩; conv => whnf)
 (refine ⟨_, _, Blk.ld (hp.get (i := 0) rfl) TTok rfl rfl, ?_⟩; conv => whnf)
 (refine hKq _ _ _ (.refl _) ?_; clear hKq Kq; conv => whnf)
 (refine VSeq.mk fun Kq hKq => ?_; conv => whnf)
 (refine And.intro (fun h => absurd (of_decide_eq_true h) (by first | (intro h2; exact absurd rfl h2) | omega | decide)) (fun _ => ?_); conv => whnf)
 (refine ⟨_, _, Blk.ld (hp.get (i := 1) rfl) TTok rfl rfl, ?_⟩; conv => whnf)
 (refine ⟨_, _, Blk.ld (hp.get (i := 0) rfl) TTok rfl rfl, ?_⟩; conv => whnf)
 (refine hKq _ _ _ (.refl _) ?_; clear hKq Kq; conv => whnf)
 (refine VSeq.mk fun Kq hKq => ?_; conv => whnf)
 (refine And.intro (fun h => absurd (of_decide_eq_true h) (by first | (intro h2; exact absurd rfl h2) | omega | decide)) (fun _ => ?_); conv => whnf)
 (refine ⟨_, _, Blk.ld (hp.get (i := 1) rfl) TTok rfl rfl, ?_⟩; conv => whnf)
 (refine ⟨_, _, Blk.ld (hp.get (i := 0) rfl) TTok rfl rfl, ?_⟩; conv => whnf)
 (refine hKq _ _ _ (.refl _) ?_; clear hKq Kq; conv => whnf)
 (refine And.intro (fun h => absurd (of_decide_eq_true h) (by first | (intro h2; exact absurd rfl h2) | omega | decide)) (fun _ => ?_); conv => whnf)
 (refine ⟨_, _, Blk.ld (hp.get (i := 1) rfl) TTok rfl rfl, ?_⟩; conv => whnf)
 (refine ⟨_, _, Blk.ld (hp.get (i := 0) rfl) TTok rfl rfl, ?_⟩; conv => whnf)
 (refine hKq _ _ _ (.refl _) ?_; clear hKq Kq; conv => whnf)
 (refine And.intro (fun h => absurd (of_decide_eq_true h) (by first | (intro h2; exact absurd rfl h2) | omega | decide)) (fun _ => ?_); conv => whnf)
 (refine hKq _ _ _ (.refl _) ?_; clear hKq Kq; conv => whnf)
 (refine VSeq.mk fun Kq hKq => ?_; conv => whnf)
 (refine VSeq.mk fun Kq hKq => ?_; conv => whnf)
 (refine hKq _ _ _ (.refl _) ?_; clear hKq Kq; conv => whnf)
 clear pe
 refine ⟨fun mm e w' => ∃ (i : Nat), mm + i = asked.length ∧ e = [(2, .v (.pointer (some ⟨q2, 0, none⟩))), (3, .v (.pointer (some ⟨q3, 0, none⟩))), (5, .v (.int .i64 i))] ∧ HpM [] W w' [blk q3 [.string ah, .int .i64 ap, .string bh, .int .i64 bp, .int .i64 now, .int .i64 nxt, .int .i64 til, .int .i64 ser, .bool gone, .string noise, .string word, .string fresh, .slice p2 asked.length c2] 28, blk q2 [.string ah, .int .i64 ap, .string bh, .int .i64 bp, .int .i64 now, .int .i64 nxt, .int .i64 til, .int .i64 ser, .bool gone, .string noise, .string word, .string fresh, .slice p asked.length c] 28],
  ⟨asked.length, _, ⟨0, by omega, rfl, hp⟩, sub_cons rfl (sub_cons rfl (sub_cons rfl sub_nil))⟩, ?_⟩
 rintro mm _ w ⟨i, hmm, rfl, hp⟩
 conv => whnf
 refine VSeq.mk fun Kq hKq => ?_
 conv => whnf
 refine VSeq.mk fun Kq hKq => ?_
 conv => whnf
 (refine ⟨_, _, Blk.ld (hp.get (i := 1) rfl) TTok rfl rfl, ?_⟩; conv => whnf)
 (refine hKq _ _ _ (.refl _) ?_; clear hKq Kq; conv => whnf)
 refine ⟨fun hlt => ?_, fun hlt => ?_⟩
 ·have hlt := of_decide_eq_true hlt
  conv => whnf
  refine hKq _ _ _ (.refl _) ?_
  clear hKq Kq
  conv => whnf
  refine VSeq.mk fun Kq hKq => ?_
  conv => whnf
  refine VSeq.mk fun Kq hKq => ?_
  conv => whnf
  obtain ⟨a, ha⟩ : ∃ a, asked[i]? = some a := ⟨asked[i]'(by omega), List.getElem?_eq_getElem (by omega)⟩
  obtain ⟨g, off, rfl, hld⟩ := (hv.ext hp.ext).at (j := i) (x := .int .i64 a) (by rw [List.getElem?_map, ha]; rfl)
  obtain ⟨g2, off2, rfl, hld2⟩ := (hu.ext hp.ext).at (j := i) (x := .int .i64 a) (by rw [List.getElem?_map, ha]; rfl)
  rw [Nat.add_comm] at hld hld2
  refine v_mixA TTok FFok mixed [(0, false), (1, false), (2, false), (3, false), (4, false), (5, false), (6, false), (7, false), (8, false), (9, false), (10, false)] (by kernel_rfl) ?_
  conv => whnf
  (refine ⟨_, fun w' hx' => Blk.ld (Blk.ext (hp.get (i := 1) rfl) hx') TTok rfl rfl, ?_⟩; conv => whnf)
  (refine ⟨_, ⟨rfl, by omega⟩, ?_⟩; conv => whnf)
  refine ⟨_, fun w' hx' => run_ld TTok rfl (hx'.cell hld), ?_⟩
  conv => whnf
  (refine ⟨_, fun w' hx' => Blk.ld (Blk.ext (hp.get (i := 0) rfl) hx') TTok rfl rfl, ?_⟩; conv => whnf)
  (refine ⟨_, ⟨rfl, by omega⟩, ?_⟩; conv => whnf)
  refine ⟨_, fun w' hx' => run_ld TTok rfl (hx'.cell hld2), ?_⟩
  conv => whnf
  (intro w hx; try (have hp := hp.call hx); conv => whnf)
  (refine hKq _ _ _ (.refl _) ?_; clear hKq Kq; conv => whnf)
  (refine And.intro (fun h => absurd (of_decide_eq_true h) (by first | (intro h2; exact absurd rfl h2) | omega | decide)) (fun _ => ?_); conv => whnf)
  (refine hKq _ _ _ (.refl _) ?_; clear hKq Kq; conv => whnf)
  (refine Or.inl (And.intro (by first | omega | decide) ?_); conv => whnf)
  exact ⟨mm - 1, _, by omega, ⟨i + 1, by omega, rfl, hp⟩, sub_cons rfl (sub_cons rfl (sub_cons rfl sub_nil))⟩
 ·have hlt := of_decide_eq_false hlt
  conv => whnf
  clear hKq Kq
  refine hKq _ _ _ (.refl _) ?_
  clear hKq Kq
  conv => whnf
  refine VSeq.mk fun Kq hKq => ?_
  conv => whnf
  refine hKq _ _ _ (.refl _) ?_
  clear hKq Kq
  conv => whnf
  (exact ⟨rfl, hp.ext⟩)
theorem hop_eq (w : World) (h : Hop3) (hh : h.1.Ok ∧ h.2.1.Ok ∧ h.2.2.Ok) (xo yo : Operand) :
  ((do eqGuard .neq 40 xo yo (.agg (hopF h).toArray) (.agg (hopF h).toArray); binOp .neq 40 (.agg (hopF h).toArray) (.agg (hopF h).toArray) : Sem Value).run Try.prog w = .ok (.bool false) w) := by
 have hr : Rd w (.cons (.ag shA) (.cons (.ag shA) (.cons (.ag shP) .nil))) (hopF h) :=
  ⟨h.1.c, _, rfl, h.1.rd hh.1, h.2.1.c, _, rfl, h.2.1.rd hh.2.1, h.2.2.c, [], rfl, h.2.2.rd hh.2.2, rfl⟩
 have hk : cmpOk Try.prog 40 12 (.cons (.ag shA) (.cons (.ag shA) (.cons (.ag shP) .nil))) = true := by kernel_rfl
 obtain ⟨r, hr2, _, h2⟩ := run_eq_agg hk (w0 := w) (w1 := w) hr hr xo yo
 have : r = true := hr2.2 rfl
 rw [this] at h2
 exact h2 w
theorem HR.shape {w : World} {o : Value} {hs : List Hop3} (h : HR w o hs) : ∃ p c, o = .slice p hs.length c := by
 rcases h with ⟨rfl, rfl⟩ | ⟨h, g, c, rfl, rfl, _⟩
 ·exact ⟨_, _, rfl⟩
 ·exact ⟨_, _, rfl⟩
set_option maxHeartbeats 16000000
set_option maxHeartbeats 16000000
theorem zW_ok : zW.Ok := ⟨Ad.z_ok, Ad.z_ok, ⟨by decide, by decide⟩, ⟨by decide, by decide⟩, ⟨by decide, by decide⟩, ⟨by decide, by decide⟩, Ad.z_ok.s, Ad.z_ok.s, Ad.z_ok.s, fun i hi => (List.not_mem_nil hi).elim, Nat.zero_le _⟩
theorem startN_0 {x : Wt} {now : Int} (h : startN x now = 0) : wtB x = true ∧ inB now x.now 1099511627776 = true := by
 unfold startN at h
 cases hw : wtB x with
 | false => rw [hw, if_neg (by decide)] at h; exact absurd h (by decide)
 | true =>
  cases hi : inB now x.now 1099511627776 with
  | false => rw [hw, hi, if_pos rfl, if_neg (by decide)] at h; exact absurd h (by decide)
  | true => exact ⟨rfl, rfl⟩
def newE (a b : Ad) (word noise : ByteArray) (now : Int) : Wt × Int := if newB a b word noise now then (newW a b word noise now, 0) else (zW, 2)
theorem newB_in {a b : Ad} {word noise : ByteArray} {now : Int} (h : newB a b word noise now = true) : inB now 0 1099511627776 = true ∧ wtB (nW a b word noise now) = true := by
 unfold newB at h
 exact Bool.and_eq_true_iff.1 h
theorem newE_ok {a b : Ad} {word noise : ByteArray} {now : Int} (ha : a.Ok) (hb : b.Ok) (hw : SzS word) (hn : SzS noise) : (newE a b word noise now).1.Ok := by
 unfold newE
 split
 ·rename_i h
  have h1 := inB_t (newB_in h).1
  have hg := gapN_le noise 0
  exact ⟨ha, hb, ⟨by show _ ≤ now; omega, by show now ≤ _; omega⟩, ⟨by show _ ≤ now + (gapN noise 0 : Int); omega, by show now + (gapN noise 0 : Int) ≤ _; omega⟩, ⟨by show _ ≤ now + 30000; omega, by show now + 30000 ≤ _; omega⟩, ⟨by show (_ : Int) ≤ 0; decide, by show (0 : Int) ≤ _; decide⟩, hn, hw, Ad.z_ok.s, fun i hi => (List.not_mem_nil hi).elim, Nat.zero_le _⟩
 ·exact zW_ok
theorem New_c {W : World} (ah bh : ByteArray) (ap bp : Int) (word noise : ByteArray) (now : Int) (ha : Ad.Ok ⟨ah, ap⟩) (hb : Ad.Ok ⟨bh, bp⟩) (hwd : SzS word) (hno : SzS noise) :
  Calls Try.prog 10 #[.agg #[.string ah, .int .i64 ap, .string bh, .int .i64 bp], .string word, .string noise, .int .i64 now] W fun e w' => e = .returned (.tuple #[.agg ((newE ⟨ah, ap⟩ ⟨bh, bp⟩ word noise now).1.c (.slice none 0 0)).toArray, .int .i64 (newE ⟨ah, ap⟩ ⟨bh, bp⟩ word noise now).2]) ∧ Ext W w' := by
 unfold newE
 cases h1 : inB now 0 1099511627776 with
 | false =>
  rw [if_neg (by unfold newB; rw [h1, Bool.false_and]; decide)]
  exact New_bad1 ah bh ap bp word noise now h1
 | true =>
  have h2 := inB_t h1
  have hok := nW_ok ha hb hwd hno (now := now) ⟨by omega, by omega⟩ ⟨by omega, by omega⟩
  cases h3 : wtB (nW ⟨ah, ap⟩ ⟨bh, bp⟩ word noise now) with
  | false =>
   rw [if_neg (by unfold newB; rw [h1, h3, Bool.and_false]; decide)]
   exact New_bad2 ah bh ap bp word noise now h1 hok h3
  | true =>
   rw [if_pos (by unfold newB; rw [h1, h3]; rfl)]
   exact New_ok ah bh ap bp word noise now h1 hok h3
/-- a watch, what is sent, an error -/
abbrev Res3 := Wt × List Hop3 × Int
def ResE (W w' : World) (u : Value) (r : Res3) : Prop := ∃ v' o, u = .tuple #[.agg (r.1.c v').toArray, o, .int .i64 r.2.2] ∧ Ext W w' ∧ SLw W w' v' (iv r.1.asked) ∧ HRw W w' o r.2.1
def timeE (x : Wt) (now : Int) : Res3 := if startN x now = 0 then ((timeW x now).1, (timeW x now).2, 0) else (zW, [], startN x now)
def hearE (x : Wt) (now : Int) (h : Hop3) : Res3 :=
 if startN x now ≠ 0 then (zW, [], startN x now) else
 if probeB h.2.2 = false then (zW, [], 110) else
 if ¬ (h.2.1 = x.a ∧ h.1 = x.b) then (zW, [], 2) else ((hearW x now h).1, (hearW x now h).2, 0)
def restE (x : Wt) (now : Int) (s : ByteArray) : Wt × Int := if startN x now = 0 then restW x now s else (zW, startN x now)
def swE (x : Wt) (now : Int) (a b : Ad) : Wt × Int := if startN x now = 0 then swW x now a b else (zW, startN x now)
theorem TimeE_c {W : World} {v : Value} (x : Wt) (hok : x.Ok) (hv : SLv W v (iv x.asked)) (now : Int) :
  Calls Try.prog 6 #[.agg (x.c v).toArray, .int .i64 now] W fun e w' => ∃ u, e = .returned u ∧ ResE W w' u (timeE x now) := by
 unfold timeE
 by_cases h : startN x now = 0
 ·rw [if_pos h]
  exact Time_ok x hok hv now (startN_0 h).1 (startN_0 h).2
 ·rw [if_neg h]
  refine Calls.mono (Time_bad x hok hv now h) ?_
  rintro _ w ⟨rfl, hx⟩
  exact ⟨_, rfl, _, _, rfl, hx, .nil, .nil⟩
theorem HearE_c {W : World} {v : Value} (x : Wt) (hok : x.Ok) (hv : SLv W v (iv x.asked)) (now : Int) (h : Hop3) (hho : h.Ok) :
  Calls Try.prog 7 #[.agg (x.c v).toArray, .int .i64 now, .agg (hopF h).toArray] W fun e w' => ∃ u, e = .returned u ∧ ResE W w' u (hearE x now h) := by
 unfold hearE
 by_cases h0 : startN x now = 0
 ·rw [if_neg (fun k => k h0)]
  obtain ⟨hw, hn⟩ := startN_0 h0
  cases hpb : probeB h.2.2 with
  | false =>
   rw [if_pos rfl]
   refine Calls.mono (Hear_bad1 x hok hv now h hho hw hn hpb) ?_
   rintro _ w ⟨rfl, hx⟩
   exact ⟨_, rfl, _, _, rfl, hx, .nil, .nil⟩
  | true =>
   rw [if_neg (by decide)]
   by_cases h2 : h.2.1 = x.a ∧ h.1 = x.b
   ·rw [if_neg (fun k => k h2)]
    exact Hear_ok x hok hv now h hho hw hn hpb h2
   ·rw [if_pos h2]
    refine Calls.mono (Hear_bad2 x hok hv now h hho hw hn hpb h2) ?_
    rintro _ w ⟨rfl, hx⟩
    exact ⟨_, rfl, _, _, rfl, hx, .nil, .nil⟩
 ·rw [if_pos h0]
  refine Calls.mono (Hear_bad0 x hok hv now h h0) ?_
  rintro _ w ⟨rfl, hx⟩
  exact ⟨_, rfl, _, _, rfl, hx, .nil, .nil⟩
theorem RestE_c {W : World} {v : Value} (x : Wt) (hok : x.Ok) (hv : SLv W v (iv x.asked)) (now : Int) (s : ByteArray) (hs : SzS s) :
  Calls Try.prog 9 #[.agg (x.c v).toArray, .int .i64 now, .string s] W fun e w' => ∃ u, e = .returned u ∧ ResW W w' u (restE x now s).1 (restE x now s).2 := by
 unfold restE
 by_cases h : startN x now = 0
 ·rw [if_pos h]
  exact Restart_ok x hok hv now s hs (startN_0 h).1 (startN_0 h).2
 ·rw [if_neg h]
  refine Calls.mono (Restart_bad x hok hv now s h) ?_
  rintro _ w ⟨rfl, hx⟩
  exact ⟨_, rfl, _, rfl, hx, .nil⟩
theorem SwE_c {W : World} {v : Value} (x : Wt) (hok : x.Ok) (hv : SLv W v (iv x.asked)) (now : Int) (sh th : ByteArray) (sp tp : Int) (hs : Ad.Ok ⟨sh, sp⟩) (ht : Ad.Ok ⟨th, tp⟩) :
  Calls Try.prog 12 #[.agg (x.c v).toArray, .int .i64 now, .agg #[.string sh, .int .i64 sp, .string th, .int .i64 tp]] W fun e w' => ∃ u, e = .returned u ∧ ResW W w' u (swE x now ⟨sh, sp⟩ ⟨th, tp⟩).1 (swE x now ⟨sh, sp⟩ ⟨th, tp⟩).2 := by
 unfold swE
 by_cases h : startN x now = 0
 ·rw [if_pos h]
  exact Switch_ok x hok hv now sh th sp tp hs ht (startN_0 h).1 (startN_0 h).2
 ·rw [if_neg h]
  refine Calls.mono (Switch_bad x hok hv now sh th sp tp h) ?_
  rintro _ w ⟨rfl, hx⟩
  exact ⟨_, rfl, _, rfl, hx, .nil⟩
/-! ### the laws of watches -/
theorem ascB_iff {ser : Int} : ∀ {l : List Int} {last : Int}, ascB last ser l = true ↔ (∀ i ∈ l, last < i ∧ i < ser) ∧ l.Pairwise (· < ·)
 | [], last => by simp [ascB]
 | a :: l, last => by
  rw [ascB_cons, Bool.and_eq_true, Bool.and_eq_true, decide_eq_true_eq, decide_eq_true_eq, ascB_iff, List.pairwise_cons]
  constructor
  ·rintro ⟨h1, h2, h3, h4⟩
   refine ⟨fun i hi => ?_, fun i hi => (h3 i hi).1, h4⟩
   rcases List.mem_cons.1 hi with rfl | hi
   ·exact ⟨h1, h2⟩
   ·exact ⟨Int.lt_trans h1 (h3 i hi).1, (h3 i hi).2⟩
  ·rintro ⟨h1, h2, h3⟩
   exact ⟨(h1 a (by simp)).1, (h1 a (by simp)).2, fun i hi => ⟨h2 i hi, (h1 i (by simp [hi])).2⟩, h3⟩
/-- a valid watch -/
structure Wv (x : Wt) : Prop where
 path : pathB x.a x.b = true
 now : 0 ≤ x.now ∧ x.now ≤ 1099511627776
 nxt : 0 ≤ x.nxt ∧ x.nxt ≤ 1099511633776
 til : 0 ≤ x.til ∧ x.til ≤ 1099511657776
 ser : 0 ≤ x.ser ∧ x.ser ≤ 1099511627776
 noise : 1 ≤ (x.noise.size : Int) ∧ (x.noise.size : Int) ≤ 64
 len : x.asked.length ≤ 8
 word : wordB x.word = true
 fresh : x.fresh = ⟨#[]⟩ ∨ (wordB x.fresh = true ∧ ¬ x.fresh = x.word)
 mem : ∀ i ∈ x.asked, -1 < i ∧ i < x.ser
 asc : x.asked.Pairwise (· < ·)
 gone : x.gone = true → x.asked = [] ∧ x.fresh = ⟨#[]⟩
 live : x.gone = false → x.now < x.til
theorem wtB_iff {x : Wt} : wtB x = true ↔ Wv x := by
 constructor
 ·intro h
  obtain ⟨h1, ⟨a1, a2, a3, a4, a5, a6, a7, a8, a9, a10, a11⟩, h3, h4, h5, h6, h7⟩ := wtB_spec h
  obtain ⟨h8, h9⟩ := ascB_iff.1 h5
  exact ⟨h1, ⟨a1, a2⟩, ⟨a3, a4⟩, ⟨a5, a6⟩, ⟨a7, a8⟩, ⟨a9, a10⟩, by omega, h3, h4, h8, h9, fun hg => ⟨List.eq_nil_of_length_eq_zero (by have := (h6 hg).1; omega), (h6 hg).2⟩, h7⟩
 ·intro h
  rw [wtB_all h.path ⟨h.now.1, h.now.2, h.nxt.1, h.nxt.2, h.til.1, h.til.2, h.ser.1, h.ser.2, h.noise.1, h.noise.2, by have := h.len; omega⟩ h.word h.fresh, ascB_iff.2 ⟨h.mem, h.asc⟩]
  cases hg : x.gone with
  | true => rw [(h.gone hg).1, (h.gone hg).2]; rfl
  | false => exact decide_eq_true (h.live hg)
theorem Wv.ok {x : Wt} (h : Wv x) (ha : x.a.Ok) (hb : x.b.Ok) (h1 : SzS x.noise) (h2 : SzS x.word) (h3 : SzS x.fresh) : x.Ok := by
 have := h.now; have := h.nxt; have := h.til; have := h.ser
 exact ⟨ha, hb, ⟨by omega, by omega⟩, ⟨by omega, by omega⟩, ⟨by omega, by omega⟩, ⟨by omega, by omega⟩, h1, h2, h3, fun i hi => by have := h.mem i hi; exact ⟨by omega, by omega⟩, Nat.le_trans h.len (by decide)⟩
theorem atW_v {x : Wt} {now : Int} (h : Wv x) (h1 : x.now ≤ now) (h2 : now ≤ 1099511627776) : Wv (atW x now) := by
 have hn := h.now
 cases hg : goesB x now with
 | true =>
  rw [atW_t hg]
  exact ⟨h.path, ⟨by show 0 ≤ now; omega, h2⟩, h.nxt, h.til, h.ser, h.noise, Nat.zero_le _, h.word, .inl rfl, fun i hi => (List.not_mem_nil hi).elim, .nil, fun _ => ⟨rfl, rfl⟩, fun h => by cases h⟩
 | false =>
  rw [atW_f hg]
  refine ⟨h.path, ⟨by show 0 ≤ now; omega, h2⟩, h.nxt, h.til, h.ser, h.noise, h.len, h.word, h.fresh, h.mem, h.asc, h.gone, fun h3 => ?_⟩
  have h3' : x.gone = false := h3
  unfold goesB at hg
  rw [h3'] at hg
  have : ¬ x.til ≤ now := by simpa using hg
  show now < x.til
  omega
theorem goesB_iff {x : Wt} {now : Int} : goesB x now = true ↔ x.til ≤ now ∧ x.gone = false := by unfold goesB; simp
theorem atW_same (x : Wt) (now : Int) : (atW x now).a = x.a ∧ (atW x now).b = x.b ∧ (atW x now).now = now ∧ (atW x now).nxt = x.nxt ∧ (atW x now).til = x.til ∧ (atW x now).ser = x.ser ∧ (atW x now).noise = x.noise ∧ (atW x now).word = x.word ∧ (atW x now).gone = (x.gone || decide (x.til ≤ now)) := by
 cases hg : goesB x now with
 | true =>
  rw [atW_t hg]
  have := goesB_iff.1 hg
  exact ⟨rfl, rfl, rfl, rfl, rfl, rfl, rfl, rfl, by rw [decide_eq_true this.1, Bool.or_true]⟩
 | false =>
  rw [atW_f hg]
  refine ⟨rfl, rfl, rfl, rfl, rfl, rfl, rfl, rfl, ?_⟩
  unfold goesB at hg
  cases h1 : x.gone with
  | true => simp [h1]
  | false =>
   rw [h1] at hg
   have : ¬ x.til ≤ now := by simpa using hg
   rw [decide_eq_false this]
   simp [h1]
theorem trim8_len (l : List Int) : (trim8 l).length ≤ 8 := by unfold trim8; rw [List.length_drop]; omega
theorem askW_v {y : Wt} {now : Int} (h : Wv y) (hn : y.now = now) (ha : asksB y now = true) : Wv (askW y now) := by
 unfold asksB at ha
 simp only [Bool.and_eq_true, Bool.not_eq_true', decide_eq_true_eq] at ha
 obtain ⟨h1, h2, h3⟩ := ha
 have hnn := h.now
 have hs := h.ser
 have hg := gapN_le y.noise (y.ser + 1).toNat
 have hsub : (trim8 (y.asked ++ [y.ser])).Sublist (y.asked ++ [y.ser]) := List.drop_sublist _ _
 refine ⟨h.path, h.now, ⟨by show 0 ≤ now + (gapN y.noise (y.ser + 1).toNat : Int); omega, by show now + (gapN y.noise (y.ser + 1).toNat : Int) ≤ _; omega⟩, h.til, ⟨by show 0 ≤ y.ser + 1; omega, by show y.ser + 1 ≤ _; omega⟩, h.noise, trim8_len _, h.word, h.fresh, fun i hi => ?_, ?_, fun hgo => ?_, h.live⟩
 ·have := hsub.subset hi
  show -1 < i ∧ i < y.ser + 1
  rcases List.mem_append.1 this with h4 | h4
  ·have := h.mem i h4; omega
  ·simp only [List.mem_singleton] at h4; omega
 ·refine List.Pairwise.sublist hsub (List.pairwise_append.2 ⟨h.asc, List.pairwise_singleton _ _, fun a ha b hb => ?_⟩)
  simp only [List.mem_singleton] at hb
  rw [hb]; exact (h.mem a ha).2
 ·have : y.gone = true := hgo
  rw [h1] at this; cases this
theorem timeW_v {x : Wt} {now : Int} (h : Wv x) (h1 : x.now ≤ now) (h2 : now ≤ 1099511627776) : Wv (timeW x now).1 := by
 have hy := atW_v h h1 h2
 unfold timeW
 split
 ·exact askW_v hy (atW_same x now).2.2.1 (by assumption)
 ·exact hy
theorem restW_v {x : Wt} {now : Int} {s : ByteArray} (h : Wv x) (h1 : x.now ≤ now) (h2 : now ≤ 1099511627776) (he : (restW x now s).2 = 0) : Wv (restW x now s).1 := by
 have hy := atW_v h h1 h2
 unfold restW at he ⊢
 dsimp only at he ⊢
 split at he
 ·cases he
 ·rename_i hgo
  rw [if_neg hgo]
  split at he
  ·rename_i hs
   rw [if_pos hs]
   exact ⟨hy.path, hy.now, hy.nxt, hy.til, hy.ser, hy.noise, hy.len, hy.word, .inr hs, hy.mem, hy.asc, fun hg => absurd hg hgo, hy.live⟩
  ·cases he
/-- the strings of a watch are short enough -/
structure Ws (x : Wt) : Prop where
 a : x.a.Ok
 b : x.b.Ok
 noise : SzS x.noise
 word : SzS x.word
 fresh : SzS x.fresh
theorem Wt.Ok.ws {x : Wt} (h : x.Ok) : Ws x := ⟨h.a, h.b, h.noise, h.word, h.fresh⟩
theorem Ws.ok {x : Wt} (h : Ws x) (hv : Wv x) : x.Ok := hv.ok h.a h.b h.noise h.word h.fresh
theorem atW_s {x : Wt} {now : Int} (h : Ws x) : Ws (atW x now) := by
 cases hg : goesB x now with
 | true => rw [atW_t hg]; exact ⟨h.a, h.b, h.noise, h.word, Ad.z_ok.s⟩
 | false => rw [atW_f hg]; exact ⟨h.a, h.b, h.noise, h.word, h.fresh⟩
theorem timeW_s {x : Wt} {now : Int} (h : Ws x) : Ws (timeW x now).1 := by
 have hy := atW_s (now := now) h
 unfold timeW
 split
 ·exact ⟨hy.a, hy.b, hy.noise, hy.word, hy.fresh⟩
 ·exact hy
theorem zW_s : Ws zW := zW_ok.ws
theorem restW_s {x : Wt} {now : Int} {s : ByteArray} (h : Ws x) (hs : SzS s) : Ws (restW x now s).1 := by
 have hy := atW_s (now := now) h
 unfold restW
 dsimp only
 split
 ·exact zW_s
 ·split
  ·exact ⟨hy.a, hy.b, hy.noise, hy.word, hs⟩
  ·exact zW_s
/-! the results are good values -/
theorem timeE_ok {x : Wt} (hok : x.Ok) (now : Int) : (timeE x now).1.Ok := by
 unfold timeE
 split
 ·rename_i h
  obtain ⟨h1, h2⟩ := startN_0 h
  have h3 := inB_t h2
  exact (timeW_s hok.ws).ok (timeW_v (wtB_iff.1 h1) h3.1 h3.2)
 ·exact zW_ok
theorem restE_ok {x : Wt} (hok : x.Ok) (now : Int) {s : ByteArray} (hs : SzS s) : (restE x now s).1.Ok := by
 unfold restE
 split
 ·rename_i h
  obtain ⟨h1, h2⟩ := startN_0 h
  have h3 := inB_t h2
  by_cases he : (restW x now s).2 = 0
  ·exact (restW_s hok.ws hs).ok (restW_v (wtB_iff.1 h1) h3.1 h3.2 he)
  ·have : (restW x now s).1 = zW := by
    unfold restW at he ⊢
    dsimp only at he ⊢
    split
    ·rfl
    ·rename_i hg
     rw [if_neg hg] at he
     split
     ·rename_i h5; rw [if_pos h5] at he; exact absurd rfl he
     ·rfl
   rw [this]; exact zW_ok
 ·exact zW_ok
end Go.Proofs.Ytefjgoeabfgkmaa
