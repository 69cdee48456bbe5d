/- Chapter 12: gaps, starts, times: the guard's methods. -/
/- Maps of the call's own, keyed by integers. Own work. No program is named here. -/
/- Chapter 12: questions and answers. -/
/- Chapter 12: the reference's probes and watches. -/
/- Chapter 12: the reference's check, errors, times. -/
/- Chapter 12: the reference's errors and times. -/
/- Chapter 12: Check, Wake, New: program and reference. -/
/- Chapter 12: New of the reference; Time of the program. -/
/- Drawn regions as trees, over a class of worlds: a quiet operation is quiet in every world of the class; an operation that is not quiet leaves the class' worlds in the class. Own work. No program is named here. -/
import Derived.Test.YtefjgoeabfgkmaaKN07
import Derived.Test.YtefjgoeabfgkmaaKN05
import Derived.MapKept
namespace Go.Proofs.Ytefjgoeabfgkmaa
set_option linter.unusedSimpArgs false
set_option linter.unusedVariables false
set_option maxRecDepth 100000
open Go.RowKit V
set_option maxHeartbeats 1600000
theorem _root_.Go.Proofs.Ytefjgoeabfgkmaa.V.HpM.pickH {M : List Nat} {w0 w : World} {L H : List It} (h : HpM M w0 w (L ++ H)) (ns : List Nat) (hn : ns.Nodup) : HpM M w0 w ((ns.filterMap fun i => L[i]?) ++ H) := by
 have hL := (h.sub (List.sublist_append_left L H)).pick ns hn
 have hH := h.sub (List.sublist_append_right L H)
 have hm : ∀ x ∈ ns.filterMap (fun i => L[i]?), x ∈ L := fun x hx => by
  obtain ⟨i, _, hi⟩ := List.mem_filterMap.1 hx
  exact List.mem_of_getElem? hi
 refine ⟨h.extM, fun x hx => ?_, fun x hx => ?_, fun x hx => ?_, List.pairwise_append.2 ⟨hL.apart, hH.apart, fun x hx y hy => (List.pairwise_append.1 h.apart).2.2 x (hm x hx) y hy⟩⟩
 ·rcases List.mem_append.1 hx with hx | hx
  ·exact hL.ok x hx
  ·exact hH.ok x hx
 ·rcases List.mem_append.1 hx with hx | hx
  ·exact hL.holds x hx
  ·exact hH.holds x hx
 ·rcases List.mem_append.1 hx with hx | hx
  ·exact hL.lo x hx
  ·exact hH.lo x hx
def gapN (s : ByteArray) (n : Nat) : Nat := 4000 + 2000 * byt s (n % s.size) / 256
theorem gapN_le (s : ByteArray) (n : Nat) : 4000 ≤ gapN s n ∧ gapN s n < 6000 := by
 unfold gapN
 have := byt_lt s (n % s.size)
 omega
theorem gap_c {W : World} {q : Nat} {v out : Value} (x : Wt) (hb : Blk W q (gC x v out) 60) (hz : SzS x.noise) (h0 : 0 < x.noise.size) (n : Nat) (hn : (n : Int) ≤ 9223372036854775807) :
  Calls Try.prog 22 #[.pointer (some ⟨q, 0, none⟩), .int .i64 n] W fun e w' => e = .returned (.int .i64 (gapN x.noise n : Nat)) ∧ Ext W w' := by
 obtain ⟨⟨ah, ap⟩, ⟨bh, bp⟩, now, nxt, til, ser, gone, noise, word, fresh, asked⟩ := x
 dsimp only [gC] at hb hz h0 ⊢
 have hbl := byt_lt noise (n % noise.size)
 refine v_reads (args := [.pointer (some ⟨q, 0, none⟩), .int .i64 n]) TTok FFok Try.func22 rfl rfl ?_
 conv => whnf
 refine VSeq.mk fun Kq hKq => ?_
 conv => whnf
 refine hKq _ _ _ (.refl _) ?_
 clear hKq Kq
 conv => whnf
 refine VSeq.mk fun Kq hKq => ?_
 conv => whnf
 have hp := Hp.nil W
 refine v_mixA TTok FFok mixed [(0, false), (1, false), (2, false), (3, false), (4, false), (5, false), (6, false), (7, false), (8, false), (9, false), (10, false), (11, false), (12, false), (13, false), (14, false), (15, false), (16, false), (17, false), (18, false)] (by kernel_rfl) ?_
 conv => whnf
 (refine ⟨_, fun w' hx' => Blk.ld (Blk.ext hb (hp.ext.trans hx')) TTok rfl rfl, ?_⟩; conv => whnf)
 (refine ⟨_, fun w' hx' => Blk.ld (Blk.ext hb (hp.ext.trans hx')) TTok rfl rfl, ?_⟩; conv => whnf)
 (refine And.intro (by first | omega | decide) ?_; conv => whnf)
 refine ⟨n % noise.size, ⟨by first | rfl | omega, Nat.mod_lt _ h0⟩, ?_⟩
 conv => whnf
 refine Or.inl (And.intro (by omega) ?_)
 conv => whnf
 refine Or.inl (And.intro (by omega) ?_)
 conv => whnf
 refine And.intro (by omega) ?_
 conv => whnf
 refine Or.inl (And.intro (by omega) ?_)
 conv => whnf
 (intro w hx; try (have hp := hp.call hx); conv => whnf)
 (refine hKq _ _ _ (.refl _) ?_; clear hKq Kq; conv => whnf)
 exact ⟨congrArg (Value.int .i64) (by unfold gapN; omega), hp.ext⟩
theorem CloneI_c {W : World} {v : Value} {l : List Int} (hv : SLv W v (iv l)) (hl : l.length ≤ 100000) :
  Calls Try.prog 36 #[v] W fun e w' => ∃ u, e = .returned u ∧ HpM [] W w' [row 3 1 u l.length (iv l)] := by
 have hsl : (iv l).length = l.length := List.length_map _
 have h1 : ∀ u ∈ iv l, u.oneCell' = true := fun u hu => by
  obtain ⟨a, _, rfl⟩ := List.mem_map.1 hu
  rfl
 have hsrc := fun {w : World} (h : Ext W w) => (hv.ext h).src TTok (tx := 26) rfl h1
 obtain ⟨p, c, rfl⟩ := hv.shape
 rw [hsl] at hv hsrc
 refine v_fn (args := [.slice p (iv l).length c]) TTok FFok Try.func36 rfl (Nat.le_of_ble_eq_true rfl) ?_
 rw [hsl]
 have hp := Hp.nil W
 conv => whnf
 refine VSeq.mk fun Kq hKq => ?_
 conv => whnf
 refine hKq _ _ _ (.refl _) ?_
 clear hKq Kq
 conv => whnf
 refine VSeq.mk fun Kq hKq => ?_
 conv => whnf
 refine VSeq.mk fun Kq hKq => ?_
 conv => whnf
 cases p with
 | none =>
  have h0 : l = [] := by
   rcases hv with ⟨h, _⟩ | ⟨g, off, c, h, _⟩
   ·exact List.map_eq_nil_iff.1 h
   ·simp at h
  subst h0
  refine ⟨.bool true, W, by kernel_rfl, ?_⟩
  conv => whnf
  refine hKq _ _ _ (.refl _) ?_
  clear hKq Kq
  conv => whnf
  refine And.intro (fun _ => ?_) (fun h => by cases h)
  conv => whnf
  refine VSeq.mk fun Kq hKq => ?_
  conv => whnf
  refine hKq _ _ _ (.refl _) ?_
  clear hKq Kq
  conv => whnf
  exact hp.knil 3 1
 | some a =>
  refine ⟨.bool false, W, by kernel_rfl, ?_⟩
  conv => whnf
  refine hKq _ _ _ (.refl _) ?_
  clear hKq Kq
  conv => whnf
  refine And.intro (fun h => by cases h) (fun _ => ?_)
  conv => whnf
  refine hKq _ _ _ (.refl _) ?_
  clear hKq Kq
  conv => whnf
  refine VSeq.mk fun Kq hKq => ?_
  conv => whnf
  refine hp.kmadeR [] 3 1 0 rfl (by decide) (by kernel_rfl) fun b w hp hx => ?_
  conv => whnf
  refine hp.kappE sl26 (hsrc hx) (by omega) (by unfold maxLen; omega) fun v' w hp _ => ?_
  rw [Nat.zero_add, List.nil_append] at hp
  obtain ⟨p1, c1, rfl⟩ := row_shape (hp.get (i := 0) rfl)
  conv => whnf
  refine hKq _ _ _ (.refl _) ?_
  clear hKq Kq
  conv => whnf
  exact hp
def startN (x : Wt) (now : Int) : Int := if wtB x then (if inB now x.now 1099511627776 then 0 else 2) else 120
theorem start_v {W : World} {v : Value} (x : Wt) (hok : x.Ok) (hv : SLv W v (iv x.asked)) (now : Int) (hw : wtB x = false) :
  Calls Try.prog 19 #[.agg (x.c v).toArray, .int .i64 now] W fun e w' => e = .returned (.tuple #[.pointer none, .int .i64 120]) ∧ Ext W w' := by
 obtain ⟨⟨ah, ap⟩, ⟨bh, bp⟩, now0, nxt, til, ser, gone, noise, word, fresh, asked⟩ := x
 have hok2 := hok
 obtain ⟨ha, hb', _, _, _, _, _, hwo, hfr, _, hln⟩ := hok2
 dsimp only [Wt.c] at hv hln hw ⊢
 have hsl : (iv asked).length = asked.length := List.length_map _
 obtain ⟨p, c, rfl⟩ := hv.shape
 rw [hsl] at hv ⊢
 refine v_reads (args := [.agg #[.string ah, .int .i64 ap, .string bh, .int .i64 bp, .int .i64 now0, .int .i64 nxt, .int .i64 til, .int .i64 ser, .bool gone, .string noise, .string word, .string fresh, .slice p asked.length c], .int .i64 now]) TTok FFok Try.func19 rfl rfl ?_
 conv => whnf
 refine VSeq.mk fun Kq hKq => ?_
 conv => whnf
 have hp := Hp.nil W
 refine hp.kboxA fun q2 w hp hx => ?_
 conv => whnf
 refine hKq _ _ _ (.refl _) ?_
 clear hKq Kq
 conv => whnf
 refine VSeq.mk fun Kq hKq => ?_
 conv => whnf
 (refine ⟨_, _, Blk.ldV (vs := [_, _, _, _, _, _, _, _, _, _, _, _, _]) (hp.get (i := 0) rfl) TTok rfl rfl rfl, ?_⟩; conv => whnf)
 (refine ⟨_, _, bld60_0 _ _ _ _ _ _ _ _ _ _ _ _ _ _, ?_⟩; conv => whnf)
 (refine hp.kboxA fun q w hp hx => ?_; conv => whnf)
 (refine hKq _ _ _ (.refl _) ?_; clear hKq Kq; conv => whnf)
 (refine VSeq.mk fun Kq hKq => ?_; conv => whnf)
 (refine VSeq.mk fun Kq hKq => ?_; conv => whnf)
 refine V.CallsUse (valid_c (v := .slice p asked.length c) (out := .slice none 0 0) _ hok (hp.get (i := 0) rfl) (hv.ext hp.ext)) fun w hx => ?_
 have hp := hp.call hx
 conv => whnf
 rw [hw]
 (refine hKq _ _ _ (.refl _) ?_; clear hKq Kq; conv => whnf)
 (refine And.intro (fun _ => ?_) (fun h => absurd h (by decide)); conv => whnf)
 (refine VSeq.mk fun Kq hKq => ?_; conv => whnf)
 (refine hKq _ _ _ (.refl _) ?_; clear hKq Kq; conv => whnf)
 (exact ⟨rfl, hp.ext⟩)
theorem start_n {W : World} {v : Value} (x : Wt) (hok : x.Ok) (hv : SLv W v (iv x.asked)) (now : Int) (hw : wtB x = true) (hn : inB now x.now 1099511627776 = false) :
  Calls Try.prog 19 #[.agg (x.c v).toArray, .int .i64 now] W fun e w' => e = .returned (.tuple #[.pointer none, .int .i64 2]) ∧ Ext W w' := by
 obtain ⟨⟨ah, ap⟩, ⟨bh, bp⟩, now0, nxt, til, ser, gone, noise, word, fresh, asked⟩ := x
 have hok2 := hok
 obtain ⟨ha, hb', _, _, _, _, _, hwo, hfr, _, hln⟩ := hok2
 dsimp only [Wt.c] at hv hln hw hn ⊢
 have hsl : (iv asked).length = asked.length := List.length_map _
 obtain ⟨p, c, rfl⟩ := hv.shape
 rw [hsl] at hv ⊢
 have hI := cwithin_p now now0 1099511627776
 rw [hn] at hI
 refine v_reads (args := [.agg #[.string ah, .int .i64 ap, .string bh, .int .i64 bp, .int .i64 now0, .int .i64 nxt, .int .i64 til, .int .i64 ser, .bool gone, .string noise, .string word, .string fresh, .slice p asked.length c], .int .i64 now]) TTok FFok Try.func19 rfl rfl ?_
 conv => whnf
 refine VSeq.mk fun Kq hKq => ?_
 conv => whnf
 have hp := Hp.nil W
 refine hp.kboxA fun q2 w hp hx => ?_
 conv => whnf
 refine hKq _ _ _ (.refl _) ?_
 clear hKq Kq
 conv => whnf
 refine VSeq.mk fun Kq hKq => ?_
 conv => whnf
 (refine ⟨_, _, Blk.ldV (vs := [_, _, _, _, _, _, _, _, _, _, _, _, _]) (hp.get (i := 0) rfl) TTok rfl rfl rfl, ?_⟩; conv => whnf)
 (refine ⟨_, _, bld60_0 _ _ _ _ _ _ _ _ _ _ _ _ _ _, ?_⟩; conv => whnf)
 (refine hp.kboxA fun q w hp hx => ?_; conv => whnf)
 (refine hKq _ _ _ (.refl _) ?_; clear hKq Kq; conv => whnf)
 (refine VSeq.mk fun Kq hKq => ?_; conv => whnf)
 (refine VSeq.mk fun Kq hKq => ?_; conv => whnf)
 refine V.CallsUse (valid_c (v := .slice p asked.length c) (out := .slice none 0 0) _ hok (hp.get (i := 0) rfl) (hv.ext hp.ext)) fun w hx => ?_
 have hp := hp.call hx
 conv => whnf
 rw [hw]
 (refine hKq _ _ _ (.refl _) ?_; clear hKq Kq; conv => whnf)
 (refine And.intro (fun h => absurd h (by decide)) (fun _ => ?_); conv => whnf)
 (refine hKq _ _ _ (.refl _) ?_; clear hKq Kq; conv => whnf)
 (refine VSeq.mk fun Kq hKq => ?_; conv => whnf)
 (refine VSeq.mk fun Kq hKq => ?_; conv => whnf)
 (refine ⟨_, _, Blk.ld (hp.get (i := 1) rfl) TTok rfl rfl, ?_⟩; conv => whnf)
 (refine V.CallW.out ?_; (conv => arg 3; dsimp only [EV.val, List.toList_toArray, List.nil_append, List.append_nil, List.cons_append]); refine V.PureF.useW (hI) fun w hx => ?_; try (have hp := hp.call hx); conv => whnf)
 (refine hKq _ _ _ (.refl _) ?_; clear hKq Kq; conv => whnf)
 (refine And.intro (fun _ => ?_) (fun h => absurd h (by decide)); conv => whnf)
 (refine VSeq.mk fun Kq hKq => ?_; conv => whnf)
 (refine hKq _ _ _ (.refl _) ?_; clear hKq Kq; conv => whnf)
 (exact ⟨rfl, hp.ext⟩)
theorem start_t {W : World} {v : Value} (x : Wt) (hok : x.Ok) (hv : SLv W v (iv x.asked)) (now : Int) (hw : wtB x = true) (hn : inB now x.now 1099511627776 = true) (hl : x.asked.length ≤ 100000) :
  Calls Try.prog 19 #[.agg (x.c v).toArray, .int .i64 now] W fun e w' => ∃ y, e = .returned y ∧ ∃ q u, y = .tuple #[.pointer (some ⟨q, 0, none⟩), .int .i64 0] ∧ HpM [] W w' [blk q (gC x u (.slice none 0 0)) 60, row 3 1 u x.asked.length (iv x.asked)] := by
 obtain ⟨⟨ah, ap⟩, ⟨bh, bp⟩, now0, nxt, til, ser, gone, noise, word, fresh, asked⟩ := x
 have hok2 := hok
 obtain ⟨ha, hb', _, _, _, _, _, hwo, hfr, _, hln⟩ := hok2
 dsimp only [Wt.c] at hv hln hw hn hl ⊢
 have hsl : (iv asked).length = asked.length := List.length_map _
 obtain ⟨p, c, rfl⟩ := hv.shape
 rw [hsl] at hv ⊢
 have hI := cwithin_p now now0 1099511627776
 rw [hn] at hI
 refine v_fn (args := [.agg #[.string ah, .int .i64 ap, .string bh, .int .i64 bp, .int .i64 now0, .int .i64 nxt, .int .i64 til, .int .i64 ser, .bool gone, .string noise, .string word, .string fresh, .slice p asked.length c], .int .i64 now]) TTok FFok Try.func19 rfl (Nat.le_of_ble_eq_true rfl) ?_
 conv => whnf
 refine VSeq.mk fun Kq hKq => ?_
 conv => whnf
 have hp := Hp.nil W
 refine hp.kboxA fun q2 w hp hx => ?_
 conv => whnf
 refine hKq _ _ _ (.refl _) ?_
 clear hKq Kq
 conv => whnf
 refine VSeq.mk fun Kq hKq => ?_
 conv => whnf
 (refine ⟨_, _, Blk.ldV (vs := [_, _, _, _, _, _, _, _, _, _, _, _, _]) (hp.get (i := 0) rfl) TTok rfl rfl rfl, ?_⟩; conv => whnf)
 (refine ⟨_, _, bld60_0 _ _ _ _ _ _ _ _ _ _ _ _ _ _, ?_⟩; conv => whnf)
 (refine hp.kboxA fun q w hp hx => ?_; conv => whnf)
 (refine hKq _ _ _ (.refl _) ?_; clear hKq Kq; conv => whnf)
 (refine VSeq.mk fun Kq hKq => ?_; conv => whnf)
 (refine VSeq.mk fun Kq hKq => ?_; conv => whnf)
 refine V.CallsUse (valid_c (v := .slice p asked.length c) (out := .slice none 0 0) _ hok (hp.get (i := 0) rfl) (hv.ext hp.ext)) fun w hx => ?_
 have hp := hp.call hx
 conv => whnf
 rw [hw]
 (refine hKq _ _ _ (.refl _) ?_; clear hKq Kq; conv => whnf)
 (refine And.intro (fun h => absurd h (by decide)) (fun _ => ?_); conv => whnf)
 (refine hKq _ _ _ (.refl _) ?_; clear hKq Kq; conv => whnf)
 (refine VSeq.mk fun Kq hKq => ?_; conv => whnf)
 (refine VSeq.mk fun Kq hKq => ?_; conv => whnf)
 (refine ⟨_, _, Blk.ld (hp.get (i := 1) rfl) TTok rfl rfl, ?_⟩; conv => whnf)
 (refine V.CallW.out ?_; (conv => arg 3; dsimp only [EV.val, List.toList_toArray, List.nil_append, List.append_nil, List.cons_append]); refine V.PureF.useW (hI) fun w hx => ?_; try (have hp := hp.call hx); conv => whnf)
 (refine hKq _ _ _ (.refl _) ?_; clear hKq Kq; conv => whnf)
 (refine And.intro (fun h => absurd h (by decide)) (fun _ => ?_); conv => whnf)
 (refine hKq _ _ _ (.refl _) ?_; clear hKq Kq; conv => whnf)
 (refine VSeq.mk fun Kq hKq => ?_; conv => whnf)
 (refine ⟨_, _, Blk.ld (hp.get (i := 1) rfl) TTok rfl rfl, ?_⟩; conv => whnf)
 refine Calls.mono (CloneI_c (hv.ext hp.ext) hl) ?_
 rintro _ w ⟨u, rfl, k2⟩
 refine ⟨_, rfl, ?_⟩
 have hp := hp.join k2
 simp only [List.cons_append, List.nil_append] at hp
 obtain ⟨pu, cu, rfl⟩ := row_shape (hp.get (i := 0) rfl)
 conv => whnf
 (refine hp.kst1 TTok (by rfl) 1 (by rfl) (by rfl) (by rfl) (Nat.le_of_ble_eq_true rfl) fun w hp => ?_; try simp only [List.set_cons_zero, List.set_cons_succ, EV.val] at hp; conv => whnf)
 (refine hKq _ _ _ (.refl _) ?_; clear hKq Kq; conv => whnf)
 (refine VSeq.mk fun Kq hKq => ?_; conv => whnf)
 (refine hKq _ _ _ (.refl _) ?_; clear hKq Kq; conv => whnf)
 exact ⟨q, _, rfl, hp.pick [1, 0] (by decide)⟩
def goesB (x : Wt) (now : Int) : Bool := decide (x.til ≤ now) && !x.gone
def atW (x : Wt) (now : Int) : Wt := if goesB x now then { x with now := now, gone := true, asked := [], fresh := ⟨#[]⟩ } else { x with now := now }
theorem atW_t {x : Wt} {now : Int} (h : goesB x now = true) : atW x now = { x with now := now, gone := true, asked := [], fresh := ⟨#[]⟩ } := by unfold atW; rw [if_pos h]
theorem atW_f {x : Wt} {now : Int} (h : goesB x now = false) : atW x now = { x with now := now } := by unfold atW; rw [if_neg (by rw [h]; decide)]
theorem at_t {M : List Nat} {w0 w : World} {H : List It} {q : Nat} {v out : Value} (x : Wt) (now : Int) (hg : goesB x now = true) (hp : HpM M w0 w (blk q (gC x v out) 60 :: H)) :
  Calls Try.prog 20 #[.pointer (some ⟨q, 0, none⟩), .int .i64 now] w fun e w' => ∃ u, e = .returned u ∧ HpM M w0 w' (blk q (gC (atW x now) (.slice none 0 0) out) 60 :: H) := by
 rw [atW_t hg]
 obtain ⟨⟨ah, ap⟩, ⟨bh, bp⟩, now0, nxt, til, ser, gone, noise, word, fresh, asked⟩ := x
 unfold goesB at hg
 simp only [Bool.and_eq_true, decide_eq_true_eq, Bool.not_eq_true'] at hg
 obtain ⟨h1, rfl⟩ := hg
 dsimp only [gC] at hp ⊢
 refine v_fn (args := [.pointer (some ⟨q, 0, none⟩), .int .i64 now]) TTok FFok Try.func20 rfl (Nat.le_of_ble_eq_true rfl) ?_
 conv => whnf
 refine VSeq.mk fun Kq hKq => ?_
 conv => whnf
 (refine hp.kst1 TTok (by rfl) 0 (by rfl) (by rfl) (by rfl) (Nat.le_of_ble_eq_true rfl) fun w hp => ?_; try simp only [List.set_cons_zero, List.set_cons_succ, EV.val] at hp; conv => whnf)
 (refine hKq _ _ _ (.refl _) ?_; clear hKq Kq; conv => whnf)
 (refine VSeq.mk fun Kq hKq => ?_; conv => whnf)
 (refine VSeq.mk fun Kq hKq => ?_; conv => whnf)
 (refine ⟨_, _, Blk.ld (hp.get (i := 0) rfl) TTok rfl rfl, ?_⟩; conv => whnf)
 (refine hKq _ _ _ (.refl _) ?_; clear hKq Kq; conv => whnf)
 (refine And.intro (fun _ => ?_) (fun h => absurd (by first | rfl | assumption | omega | decide) (of_decide_eq_false h)); conv => whnf)
 (refine ⟨_, _, Blk.ld (hp.get (i := 0) rfl) TTok rfl rfl, ?_⟩; conv => whnf)
 (refine hKq _ _ _ (.refl _) ?_; clear hKq Kq; conv => whnf)
 (refine And.intro (fun _ => ?_) (fun h => absurd h (by decide)); conv => whnf)
 (refine hp.kst1 TTok (by rfl) 0 (by rfl) (by rfl) (by rfl) (Nat.le_of_ble_eq_true rfl) fun w hp => ?_; try simp only [List.set_cons_zero, List.set_cons_succ, EV.val] at hp; conv => whnf)
 (refine hp.kst1 TTok (by rfl) 0 (by rfl) (by rfl) (by rfl) (Nat.le_of_ble_eq_true rfl) fun w hp => ?_; try simp only [List.set_cons_zero, List.set_cons_succ, EV.val] at hp; conv => whnf)
 (refine hp.kst1 TTok (by rfl) 0 (by rfl) (by rfl) (by rfl) (Nat.le_of_ble_eq_true rfl) fun w hp => ?_; try simp only [List.set_cons_zero, List.set_cons_succ, EV.val] at hp; conv => whnf)
 exact hp
theorem at_f {M : List Nat} {w0 w : World} {H : List It} {q : Nat} {v out : Value} (x : Wt) (now : Int) (hg : goesB x now = false) (hp : HpM M w0 w (blk q (gC x v out) 60 :: H)) :
  Calls Try.prog 20 #[.pointer (some ⟨q, 0, none⟩), .int .i64 now] w fun e w' => ∃ u, e = .returned u ∧ HpM M w0 w' (blk q (gC (atW x now) v out) 60 :: H) := by
 rw [atW_f hg]
 obtain ⟨⟨ah, ap⟩, ⟨bh, bp⟩, now0, nxt, til, ser, gone, noise, word, fresh, asked⟩ := x
 unfold goesB at hg
 dsimp only [gC] at hp hg ⊢
 refine v_fn (args := [.pointer (some ⟨q, 0, none⟩), .int .i64 now]) TTok FFok Try.func20 rfl (Nat.le_of_ble_eq_true rfl) ?_
 conv => whnf
 refine VSeq.mk fun Kq hKq => ?_
 conv => whnf
 (refine hp.kst1 TTok (by rfl) 0 (by rfl) (by rfl) (by rfl) (Nat.le_of_ble_eq_true rfl) fun w hp => ?_; try simp only [List.set_cons_zero, List.set_cons_succ, EV.val] at hp; conv => whnf)
 (refine hKq _ _ _ (.refl _) ?_; clear hKq Kq; conv => whnf)
 (refine VSeq.mk fun Kq hKq => ?_; conv => whnf)
 (refine VSeq.mk fun Kq hKq => ?_; conv => whnf)
 (refine ⟨_, _, Blk.ld (hp.get (i := 0) rfl) TTok rfl rfl, ?_⟩; conv => whnf)
 (refine hKq _ _ _ (.refl _) ?_; clear hKq Kq; conv => whnf)
 refine ⟨fun h1 => ?_, fun h1 => ?_⟩
 ·have h1 := of_decide_eq_true h1
  conv => whnf
  rw [decide_eq_true h1] at hg
  cases gone with
  | true =>
   (refine ⟨_, _, Blk.ld (hp.get (i := 0) rfl) TTok rfl rfl, ?_⟩; conv => whnf)
   (refine hKq _ _ _ (.refl _) ?_; clear hKq Kq; conv => whnf)
   (refine And.intro (fun h => absurd h (by decide)) (fun _ => ?_); conv => whnf)
   exact hp
  | false => simp at hg
 ·have h1 := of_decide_eq_false h1
  conv => whnf
  refine hKq _ _ _ (.refl _) ?_
  clear hKq Kq
  conv => whnf
  skip
  exact hp
abbrev hopC (f t : Ad) (p : Prb) : List Value := [.string f.h, .int .i64 f.p, .string t.h, .int .i64 t.p, .int .i64 p.k, .int .i64 p.id, .int .i64 p.pr, .bool p.ct, .int .i64 p.ti, .bool p.no, .string p.m.h, .int .i64 p.m.p]
theorem send_c {M : List Nat} {w0 w : World} {H : List It} {q : Nat} {v : Value} (x : Wt) (a : Prb) (hp : HpM M w0 w (blk q (gC x v (.slice none 0 0)) 60 :: H)) :
  Calls Try.prog 21 #[.pointer (some ⟨q, 0, none⟩), .agg a.c.toArray] w fun e w' => ∃ u, e = .returned u ∧ ∃ o, HpM M w0 w' (blk q (gC x v o) 60 :: row 40 12 o 1 (hopC x.a x.b a) :: H) := by
 obtain ⟨⟨ah, ap⟩, ⟨bh, bp⟩, now0, nxt, til, ser, gone, noise, word, fresh, asked⟩ := x
 obtain ⟨k, id, pr, ct, ti, no, ⟨mh, mp⟩⟩ := a
 dsimp only [gC, Prb.c] at hp ⊢
 refine v_fn (args := [.pointer (some ⟨q, 0, none⟩), .agg #[.int .i64 k, .int .i64 id, .int .i64 pr, .bool ct, .int .i64 ti, .bool no, .string mh, .int .i64 mp]]) TTok FFok Try.func21 rfl (Nat.le_of_ble_eq_true rfl) ?_
 conv => whnf
 refine VSeq.mk fun Kq hKq => ?_
 conv => whnf
 refine hp.kboxA fun q2 w hp hx => ?_
 conv => whnf
 refine hKq _ _ _ (.refl _) ?_
 clear hKq Kq
 conv => whnf
 refine v_mixF TTok FFok mixed 20 [0] [(1, false), (2, false), (3, false), (4, false), (5, false), (6, false), (7, false), (8, false), (9, false), (10, false), (11, false), (12, false), (13, false), (14, false), (15, false), (16, false), (17, false), (18, false), (19, true)] (by kernel_rfl) ?_
 conv => whnf
 (refine ⟨_, fun w' hx' => Blk.ld (Blk.ext (hp.get (i := 1) rfl) hx') TTok rfl rfl, ?_⟩; conv => whnf)
 (refine ⟨0, ⟨rfl, by decide⟩, ?_⟩; conv => whnf)
 (refine ⟨_, fun w' hx' => Blk.ldV (vs := [_, _]) (Blk.ext (hp.get (i := 1) rfl) hx') TTok rfl rfl rfl, ?_⟩; conv => whnf)
 (refine ⟨1, ⟨rfl, by decide⟩, ?_⟩; conv => whnf)
 (refine ⟨_, fun w' hx' => Blk.ldV (vs := [_, _]) (Blk.ext (hp.get (i := 1) rfl) hx') TTok rfl rfl rfl, ?_⟩; conv => whnf)
 (refine ⟨_, fun w' hx' => Blk.ldV (vs := [_, _, _, _, _, _, _, _]) (Blk.ext (hp.get (i := 0) rfl) hx') TTok rfl rfl rfl, ?_⟩; conv => whnf)
 (refine ⟨_, fun w' hx' => bld40_0_1_2 w' _ _ _ _ _ _ _ _ _ _ _ _, ?_⟩; conv => whnf)
 (intro w hx; try (have hp := hp.call hx); conv => whnf)
 (refine hp.kmade _ _ (fun b => .slice (some ⟨b, 0, none⟩) 1 1) (mks32_1_0 _ _ _ _ _ _ _ _ _ _ _ _ _) fun q w hp hx => ?_; conv => whnf)
 (with_reducible refine And.intro hx ?_; conv => whnf)
 (intro w hx; try (have hp := hp.call hx); conv => whnf)
 have hp := hp.knil 40 12
 refine hp.kapp sl32 0 rfl (Blk.src TTok (hp.get (i := 1) rfl) rfl (m := 1) rfl (oneC_of rfl)) (by decide) (by decide) fun v' w hp => ?_
 simp only [List.set_cons_zero, List.set_cons_succ] at hp
 obtain ⟨p1, c1, rfl⟩ := row_shape (hp.get (i := 0) rfl)
 conv => whnf
 refine hp.kst1 (off := 13) TTok (by rfl) 3 (by rfl) (by rfl) (by rfl) (Nat.le_of_ble_eq_true rfl) fun w hp => ?_
 try simp only [List.set_cons_zero, List.set_cons_succ, EV.val] at hp
 conv => whnf
 exact ⟨_, hp.pickH (L := [_, _, _, _]) [3, 0] (by decide)⟩
open Go.RowKit
namespace V
/-- Block b is a map of integers that holds just these entries, the oldest first. -/
def MPs (w : World) (b : Nat) (kvs : List (Int × Value)) : Prop := ∃ (es : Array MapEntry) (clock : Nat), w.heap[b]? = some (.map es clock) ∧ es.toList.map (fun e => (e.key, e.val)) = kvs.map fun p => (Value.int .i64 p.1, p.2)
def mp (b : Nat) (kvs : List (Int × Value)) : It := ⟨some b, fun w => MPs w b kvs⟩
theorem mp_ok (b : Nat) (kvs : List (Int × Value)) : (mp b kvs).Ok := fun w w' _ h hh => by
 obtain ⟨es, c, h1, h2⟩ := hh
 exact ⟨es, c, (h b rfl).trans h1, h2⟩
theorem find_mp (k : Int) : ∀ (l : List MapEntry) (kvs : List (Int × Value)) (i : Nat), l.map (fun e => (e.key, e.val)) = kvs.map (fun p => (Value.int .i64 p.1, p.2)) →
  (∃ r, Instr.findNow (.int .i64) (.int .i64 k) l i = some r ∧ (r.map (·.2)) = (kvs.find? fun p => decide (p.1 = k)).map (·.2))
 | [], [], i, _ => ⟨none, rfl, rfl⟩
 | e :: l, [], i, h => by simp at h
 | [], p :: kvs, i, h => by simp at h
 | e :: l, p :: kvs, i, h => by
  simp only [List.map_cons, List.cons.injEq, Prod.mk.injEq] at h
  obtain ⟨⟨hk, hv⟩, ht⟩ := h
  obtain ⟨r, hr, hr2⟩ := find_mp k l kvs (i + 1) ht
  by_cases e1 : p.1 = k
  ·refine ⟨some (i, e.val), ?_, ?_⟩
   ·subst e1
    simp [Instr.findNow, Instr.sameNow, hk]
   ·simp [List.find?_cons, e1, hv]
  ·refine ⟨r, ?_, ?_⟩
   ·have e2 : (k == p.1) = false := by simp; exact fun h => e1 h.symm
    simp [Instr.findNow, Instr.sameNow, hk, e2, hr]
   ·rw [hr2, List.find?_cons, decide_eq_false e1]
theorem find_mp' {k : Int} {l : List MapEntry} {kvs : List (Int × Value)} (h : l.map (fun e => (e.key, e.val)) = kvs.map (fun p => (Value.int .i64 p.1, p.2))) (hn : (kvs.find? fun p => decide (p.1 = k)) = none) : Instr.findNow (.int .i64) (.int .i64 k) l 0 = some none := by
 obtain ⟨r, hr, h2⟩ := find_mp k l kvs 0 h
 rw [hn] at h2
 cases r with
 | none => exact hr
 | some a => simp at h2
section
variable {P : Program} {T : Tab} {M : List Nat} {w0 w : World} {H : List It} {K : Value → World → Prop}
theorem HpM.kmap (h : HpM M w0 w H) {t : Nat} (hk : ∀ b w', HpM M w0 w' (mp b [] :: H) → Ext w w' → K (.map (some b)) w') : ∃ u w', (Instr.makeMap t none).run P w = .ok u w' ∧ K u w' := by
 have hr : (Instr.makeMap t none).run P w = .ok (.map (some w.heap.size)) (w.alloc (.map #[] 0)) := by
  simp [Instr.makeMap, Result.andThen]
 have hx : Ext w (w.alloc (.map #[] 0)) := (Ext.refl w).alloc _
 refine ⟨_, _, hr, hk _ _ (h.push hx (mp_ok _ _) ⟨#[], 0, (MapKept.heap_alloc w _).1, rfl⟩ ?_) hx⟩
 intro b hb
 simp only [mp, Option.some.injEq] at hb
 subst hb
 exact ⟨Nat.le_refl _, by simp⟩
/-- a new key -/
theorem HpM.kins (h : HpM M w0 w H) {t kt et : Nat} (ht : P.underlying t = some (.map kt et)) (hkt : P.underlying kt = some (.int .i64)) (i : Nat) {b : Nat} {kvs : List (Int × Value)} (hi : H[i]? = some (mp b kvs)) {k : Int} {v : Value}
  (hn : (kvs.find? fun p => decide (p.1 = k)) = none) (hk : ∀ w', HpM M w0 w' (H.set i (mp b (kvs ++ [(k, v)]))) → K undef w') :
  ∃ u w', (do Instr.mapUpdate t (.map (some b)) (.int .i64 k) v; Pure.pure undef : Sem Value).run P w = .ok u w' ∧ K u w' := by
 obtain ⟨es, clock, hb, hes⟩ : MPs w b kvs := h.get hi
 have hf := find_mp' hes hn
 have hr : (Instr.mapUpdate t (.map (some b)) (.int .i64 k) v).run P w = .ok () { w with heap := w.heap.setIfInBounds b (.map (es.push { key := .int .i64 k, val := v, born := clock }) (clock + 1)) } := by
  simp only [Instr.mapUpdate, Sem.run_bind, Go.Proofs.Ytefjgoeabfgkmaa.V.run_underlying ht, Result.andThen, MapKept.run_getObj_map hb, MapKept.run_checkKey hkt (show MapKept.IsKey (.int .i64) (.int .i64 k) from rfl), MapKept.run_findKey hkt hf]
  exact MapKept.run_setObj_map _ hb
 have hset := MapKept.heap_set hb (o' := .map (es.push { key := .int .i64 k, val := v, born := clock }) (clock + 1))
 have hg : w.grownBy { w with heap := w.heap.setIfInBounds b (.map (es.push { key := .int .i64 k, val := v, born := clock }) (clock + 1)) } (mp b kvs).own :=
  ⟨rfl, rfl, rfl, by simp, fun j hj hne => hset.2 j (fun e => hne (by rw [e]; rfl))⟩
 have hr2 : (do Instr.mapUpdate t (.map (some b)) (.int .i64 k) v; Pure.pure undef : Sem Value).run P w = .ok undef { w with heap := w.heap.setIfInBounds b (.map (es.push { key := .int .i64 k, val := v, born := clock }) (clock + 1)) } := by
  rw [Sem.run_bind, hr]
  simp [Result.andThen]
 exact ⟨_, _, hr2, hk _ (h.upd hi hg (mp_ok _ _) ⟨_, _, hset.1, by simp [hes]⟩ (fun b' hb' => .inl hb'))⟩
/-- a key is looked up -/
theorem MPs.look {b : Nat} {kvs : List (Int × Value)} (h : MPs w b kvs) {t kt et : Nat} (ht : P.underlying t = some (.map kt et)) (hkt : P.underlying kt = some (.int .i64)) {z : Value} (hz : (zeroValue et).run P w = .ok z w) (k : Int) (ok : Bool) :
  (Instr.lookup t (.map (some b)) (.int .i64 k) ok).run P w = .ok (match kvs.find? fun p => decide (p.1 = k) with
   | some p => if ok then .tuple #[p.2, .bool true] else p.2
   | none => if ok then .tuple #[z, .bool false] else z) w := by
 obtain ⟨es, clock, hb, hes⟩ := h
 obtain ⟨r, hr, h2⟩ := find_mp k es.toList kvs 0 hes
 simp only [Instr.lookup, Sem.run_bind, Go.Proofs.Ytefjgoeabfgkmaa.V.run_underlying ht, Result.andThen, MapKept.run_getObj_map hb, Sem.run_pure, MapKept.run_checkKey hkt (show MapKept.IsKey (.int .i64) (.int .i64 k) from rfl), MapKept.run_findKey hkt hr]
 cases hf : kvs.find? fun p => decide (p.1 = k) with
 | none =>
  rw [hf] at h2
  cases r with
  | none => simp [hz, Result.andThen]
  | some a => simp at h2
 | some p =>
  rw [hf] at h2
  cases r with
  | none => simp at h2
  | some a =>
   have : a.2 = p.2 := by simpa using h2
   simp [Result.andThen, this]
end
end V
set_option maxHeartbeats 1600000
def isB (id : Int) (a : Int) : Bool := decide (a = id)
def idxJ (id : Int) (l : List Int) : Int := match l.findIdx? (isB id) with
 | some i => (i : Nat)
 | none => -1
def afterL (id : Int) (l : List Int) : Option (List Int) := (l.findIdx? (isB id)).map fun i => l.drop (i + 1)
theorem idxJ_hit {k : Int} {al : List Int} {i : Nat} {a : Int} (ha : al[i]? = some a) (hb : isB k a = true) (hn : ∀ b ∈ al.take i, isB k b = false) : idxJ k al = i := by
 unfold idxJ
 obtain ⟨hi, rfl⟩ := List.getElem?_eq_some_iff.1 ha
 have : al.findIdx? (isB k) = some i := List.findIdx?_eq_some_iff_getElem.2 ⟨hi, hb, fun j hj => by
  have := hn al[j] (List.mem_take_iff_getElem.2 ⟨j, by omega, rfl⟩)
  rw [this]; decide⟩
 rw [this]
theorem idxJ_miss {k : Int} {al : List Int} (hn : ∀ b ∈ al, isB k b = false) : idxJ k al = -1 := by
 unfold idxJ
 have : al.findIdx? (isB k) = none := List.findIdx?_eq_none_iff.2 hn
 rw [this]
theorem ans1_c {W : World} {qh : Nat} {f t : Ad} {p : Prb} (x : Int) (hk : Blk W qh (hopC f t p) 40) :
  Calls Try.prog 39 #[.int .i64 x, .pointer (some ⟨qh, 0, none⟩)] W fun e w' => e = .returned (.bool (decide (x = p.id))) ∧ Ext W w' := by
 obtain ⟨k, id, pr, ct, ti, no, ⟨mh, mp⟩⟩ := p
 dsimp only [hopC] at hk ⊢
 refine v_reads (args := [.int .i64 x, .pointer (some ⟨qh, 0, none⟩)]) TTok FFok Try.func39 rfl rfl ?_
 conv => whnf
 refine VSeq.mk fun Kq hKq => ?_
 conv => whnf
 refine hKq _ _ _ (.refl _) ?_
 clear hKq Kq
 conv => whnf
 refine VSeq.mk fun Kq hKq => ?_
 conv => whnf
 have hp := Hp.nil W
 (refine ⟨_, _, Blk.ld (Blk.ext hk hp.ext) TTok rfl rfl, ?_⟩; conv => whnf)
 (refine hKq _ _ _ (.refl _) ?_; clear hKq Kq; conv => whnf)
 (exact ⟨rfl, hp.ext⟩)
theorem idxAns_c {W : World} {v : Value} {al : List Int} {qh : Nat} {f t : Ad} {pb : Prb} (hml : al.length ≤ maxLen) (hv : SLv W v (iv al)) (hk : Blk W qh (hopC f t pb) 40) :
  Calls Try.prog 51 #[v, .func (.func 39) #[] #[.pointer (some ⟨qh, 0, none⟩)]] W fun e w' => e = .returned (.int .i64 (idxJ pb.id al)) ∧ Ext W w' := by
 have hsl : (iv al).length = al.length := List.length_map _
 unfold maxLen at hml
 obtain ⟨p, c, rfl⟩ := hv.shape
 rw [hsl] at hv ⊢
 refine v_reads (args := [.slice p al.length c, .func (.func 39) #[] #[.pointer (some ⟨qh, 0, none⟩)]]) TTok FFok Try.func51 rfl rfl ?_
 conv => whnf
 refine VSeq.mk fun Kq hKq => ?_
 conv => whnf
 refine hKq _ _ _ (.refl _) ?_
 clear hKq Kq
 conv => whnf
 refine VSeq.mk fun Kq hKq => ?_
 conv => whnf
 refine VSeq.mk fun Kq hKq => ?_
 conv => whnf
 refine hKq _ _ _ (.refl _) ?_
 clear hKq Kq
 conv => whnf
 refine ⟨fun mm e w' => ∃ (i : Nat), mm + i = al.length ∧ e = [(0, .v (.slice p al.length c)), (1, .v (.func (.func 39) #[] #[.pointer (some ⟨qh, 0, none⟩)])), (7, .v (.int .i64 al.length)), (8, .v (.int .i64 i))] ∧ (∀ b ∈ al.take i, isB pb.id b = false) ∧ Ext W w',
  ⟨al.length, _, ⟨0, by omega, rfl, by simp, Ext.refl _⟩, sub_cons rfl (sub_cons rfl (sub_cons rfl (sub_cons rfl sub_nil)))⟩, ?_⟩
 rintro mm _ w ⟨i, hmm, rfl, hn, hxw⟩
 conv => whnf
 refine VSeq.mk fun Kq hKq => ?_
 conv => whnf
 refine hKq _ _ _ (.refl _) ?_
 clear hKq Kq
 conv => whnf
 refine VSeq.mk fun Kq hKq => ?_
 conv => whnf
 refine ⟨fun hlt => ?_, fun hlt => ?_⟩
 ·have hlt := of_decide_eq_true hlt
  conv => whnf
  refine hKq _ _ _ (.refl _) ?_
  clear hKq Kq
  conv => whnf
  refine VSeq.mk fun Kq hKq => ?_
  conv => whnf
  refine VSeq.mk fun Kq hKq => ?_
  conv => whnf
  refine hKq _ _ _ (.refl _) ?_
  clear hKq Kq
  conv => whnf
  refine VSeq.mk fun Kq hKq => ?_
  conv => whnf
  have hp := HpM.nil0 [] w
  obtain ⟨a, ha⟩ : ∃ a, al[i]? = some a := ⟨al[i]'(by omega), List.getElem?_eq_getElem (by omega)⟩
  obtain ⟨g, off, rfl, hld⟩ := (hv.ext hxw).at (j := i) (x := .int .i64 a) (by rw [List.getElem?_map, ha]; rfl)
  rw [Nat.add_comm] at hld
  refine ⟨i, ⟨by first | rfl | omega, by show i < al.length; omega⟩, ?_⟩
  conv => whnf
  refine ⟨_, _, run_ld TTok rfl hld, ?_⟩
  conv => whnf
  refine V.CallsUse (ans1_c a (Blk.ext hk hxw)) fun w hx => ?_
  try (have hp := hp.call hx)
  conv => whnf
  refine hKq _ _ _ (.refl _) ?_
  clear hKq Kq
  conv => whnf
  refine ⟨fun hq => ?_, fun hq => ?_⟩
  ·have hq := of_decide_eq_true hq
   conv => whnf
   refine VSeq.mk fun Kq hKq => ?_
   conv => whnf
   refine hKq _ _ _ (.refl _) ?_
   clear hKq Kq
   conv => whnf
   have hb : isB pb.id a = true := decide_eq_true hq
   have hI := idxJ_hit ha hb hn
   conv => whnf
   exact ⟨by rw [hI]; rfl, hxw.trans hx⟩
  ·have hq := of_decide_eq_false hq
   conv => whnf
   refine hKq _ _ _ (.refl _) ?_
   clear hKq Kq
   conv => whnf
   refine Or.inl (And.intro (by omega) ?_)
   conv => whnf
   have hb : isB pb.id a = false := decide_eq_false hq
   refine ⟨mm - 1, _, by omega, ⟨i + 1, by omega, rfl, fun b hbm => ?_, hxw.trans hx⟩, sub_cons rfl (sub_cons rfl (sub_cons rfl (sub_cons rfl sub_nil)))⟩
   rw [List.take_add_one, ha] at hbm
   rcases List.mem_append.1 hbm with h | h
   ·exact hn b h
   ·have : b = a := by simpa using h
    rw [this]; exact hb
 ·have hlt := of_decide_eq_false hlt
  conv => whnf
  clear hKq Kq
  refine hKq _ _ _ (.refl _) ?_
  clear hKq Kq
  conv => whnf
  refine VSeq.mk fun Kq hKq => ?_
  conv => whnf
  refine hKq _ _ _ (.refl _) ?_
  clear hKq Kq
  conv => whnf
  obtain rfl : i = al.length := by omega
  rw [List.take_of_length_le (Nat.le_refl _)] at hn
  have hI := idxJ_miss hn
  conv => whnf
  exact ⟨by rw [hI]; rfl, hxw⟩
/-- a value whose block (if any) is not of the world W -/
def FreshV (W : World) (v : Value) : Prop := ∀ a n c, v = .slice (some a) n c → W.heap.size ≤ a.block
/-- a slice that reads as a list, in a block that is not of the world W -/
structure SLw (W w : World) (v : Value) (xs : List Value) : Prop where
 s : SLv w v xs
 f : FreshV W v
theorem SLw.nil {W w : World} : SLw W w (.slice none 0 0) [] := ⟨SLv.nil, fun a n c h => by simp at h⟩
theorem SLw.shape {W w : World} {v : Value} {xs : List Value} (h : SLw W w v xs) : ∃ p c, v = .slice p xs.length c := h.s.shape
theorem SLw.row {W w : World} {H : List It} {e n : Nat} {v : Value} {xs : List Value} (hp : HpM [] W w H) {i : Nat} (hi : H[i]? = some (row e 1 v n xs)) : SLw W w v xs :=
 ⟨SLv.of_row (hp.get hi), fun a n' c h => by
  subst h
  have := (hp.lo _ (List.mem_of_getElem? hi) a.block rfl).1
  simpa using this⟩
theorem _root_.Go.Proofs.Ytefjgoeabfgkmaa.V.SLv.w0 {w : World} {v : Value} {xs : List Value} (h : SLv w v xs) : SLw { w with heap := #[] } w v xs := ⟨h, fun _ _ _ _ => Nat.zero_le _⟩
theorem SLw.ext {W w w' : World} {v : Value} {xs : List Value} (h : SLw W w v xs) (hx : Ext w w') : SLw W w' v xs := ⟨h.s.ext hx, h.f⟩
theorem lo_fresh {w : World} {v v' : Value} {xs : List Value} (h : SLv w v xs) {b : Nat} (hb : b ≤ xs.length) (hr : (Instr.sliceAt 26 v (some (.int .i64 (b : Int))) none none).run Try.prog w = .ok v' w) {W : World} (hf : FreshV W v) : FreshV W v' := by
 rcases h with ⟨rfl, a, c, rfl⟩ | ⟨g, off, c, rfl, hle, hc⟩
 ·have : b = 0 := by simpa using hb
  subst this
  obtain ⟨v2, h3, h4⟩ := (SLv.lo (P := Try.prog) TTok (t := 26) rfl rfl (w := w) (v := .slice a 0 c) (xs := []) (.inl ⟨rfl, _, _, rfl⟩) 0 (Nat.le_refl _))
  have e := hr.symm.trans (h3 .i64 w)
  have e : v' = v2 := by injection e
  subst e
  have h5 : (Instr.sliceAt 26 (.slice a 0 c) (some (.int .i64 ((0 : Nat) : Int))) none none).run Try.prog w = .ok (.slice a 0 c) w := by
   simp only [Instr.sliceAt, Instr.slice, Instr.sliceBounds, Sem.run_bind, Sem.run_pure, V.run_underlying (tab_slice TTok (t := 26) (e := 3) rfl), Result.andThen]
   rw [run_bound (P := Try.prog) (Nat.zero_le _)]
   simp only [Result.andThen, Sem.run_pure, tab_size TTok (t := 3) (n := 1) rfl]
   cases a <;> simp [Addr.add]
  have e := hr.symm.trans h5
  have e : v' = .slice a 0 c := by injection e
  rw [e]; exact hf
 ·have h5 := run_slice_lo (P := Try.prog) TTok (t := 26) rfl rfl (k := .i64) (w := w) (b := g) (off := off) (n := xs.length) (cap := c) b hb
  have e := hr.symm.trans h5
  have e := (Result.ok.inj e).1
  rw [e]
  intro a n c2 hh
  have h0 := hf ⟨g, off, none⟩ _ _ rfl
  simp only [Value.slice.injEq, Option.some.injEq] at hh
  rw [← hh.1]; exact h0
/-- the rest of a slice, as a value -/
theorem lo_val {w : World} {v : Value} {xs : List Value} (h : SLv w v xs) (b : Nat) (hb : b ≤ xs.length) :
  ∃ v', (∀ (k : IntKind) w', (Instr.sliceAt 26 v (some (.int k (b : Int))) none none).run Try.prog w' = .ok v' w') ∧ ∀ {W} w2, SLw W w2 v xs → SLw W w2 v' (xs.drop b) := by
 obtain ⟨v', h1, _⟩ := h.lo (P := Try.prog) TTok (t := 26) rfl rfl b hb
 refine ⟨v', h1, fun w2 h2 => ?_⟩
 obtain ⟨v2, h3, h4⟩ := h2.s.lo (P := Try.prog) TTok (t := 26) rfl rfl b hb
 have e := (h1 .i64 w2).symm.trans (h3 .i64 w2)
 have e : v' = v2 := by injection e
 refine ⟨by rw [e]; exact h4, ?_⟩
 exact lo_fresh h2.s hb (h1 .i64 w2) h2.f
theorem after_n {W : World} {v : Value} {al : List Int} {qh : Nat} {f t : Ad} {pb : Prb} (hml : al.length ≤ maxLen) (hv : SLv W v (iv al)) (hk : Blk W qh (hopC f t pb) 40) (ha : afterL pb.id al = none) :
  Calls Try.prog 38 #[v, .func (.func 39) #[] #[.pointer (some ⟨qh, 0, none⟩)]] W fun e w' => e = .returned (.tuple #[v, .bool false]) ∧ Ext W w' := by
 have hI := idxAns_c hml hv hk
 have hj : idxJ pb.id al = -1 := by
  unfold afterL at ha
  unfold idxJ
  rw [Option.map_eq_none_iff.1 ha]
 rw [hj] at hI
 obtain ⟨p, c, rfl⟩ := hv.shape
 refine v_reads (args := [.slice p (iv al).length c, .func (.func 39) #[] #[.pointer (some ⟨qh, 0, none⟩)]]) TTok FFok Try.func38 rfl rfl ?_
 conv => whnf
 refine VSeq.mk fun Kq hKq => ?_
 conv => whnf
 refine hKq _ _ _ (.refl _) ?_
 clear hKq Kq
 conv => whnf
 refine VSeq.mk fun Kq hKq => ?_
 conv => whnf
 have hp := Hp.nil W
 (refine V.CallW.out ?_; (conv => arg 3; dsimp only [EV.val, List.toList_toArray, List.nil_append, List.append_nil, List.cons_append]); (with_reducible refine V.CallsUseW (hI) fun w hx => ?_); try (have hp := hp.call hx); conv => whnf)
 (refine hKq _ _ _ (.refl _) ?_; clear hKq Kq; conv => whnf)
 (refine VSeq.mk fun Kq hKq => ?_; conv => whnf)
 (refine VSeq.mk fun Kq hKq => ?_; conv => whnf)
 (refine hKq _ _ _ (.refl _) ?_; clear hKq Kq; conv => whnf)
 (refine And.intro (fun _ => ?_) (fun h => absurd (by first | rfl | assumption | omega | decide) (of_decide_eq_false h)); conv => whnf)
 (refine VSeq.mk fun Kq hKq => ?_; conv => whnf)
 (refine hKq _ _ _ (.refl _) ?_; clear hKq Kq; conv => whnf)
 (exact ⟨rfl, hp.ext⟩)
theorem after_s {W : World} {v : Value} {al r : List Int} {qh : Nat} {f t : Ad} {pb : Prb} (hml : al.length ≤ maxLen) (hv : SLv W v (iv al)) (hk : Blk W qh (hopC f t pb) 40) (ha : afterL pb.id al = some r) :
  Calls Try.prog 38 #[v, .func (.func 39) #[] #[.pointer (some ⟨qh, 0, none⟩)]] W fun e w' => ∃ u, e = .returned (.tuple #[u, .bool true]) ∧ Ext W w' ∧ ∀ {W2} w2, SLw W2 w2 v (iv al) → SLw W2 w2 u (iv r) := by
 have hI := idxAns_c hml hv hk
 have hsl : (iv al).length = al.length := List.length_map _
 unfold afterL at ha
 obtain ⟨i, hi, rfl⟩ := Option.map_eq_some_iff.1 ha
 have hj : idxJ pb.id al = i := by
  unfold idxJ
  rw [hi]
 have hil : i < al.length := (List.findIdx?_eq_some_iff_getElem.1 hi).choose
 have hdr : iv (al.drop (i + 1)) = (iv al).drop (i + 1) := List.map_drop
 unfold maxLen at hml
 rw [hj] at hI
 obtain ⟨v', hr, hs⟩ := lo_val hv (i + 1) (by rw [hsl]; omega)
 obtain ⟨p, c, rfl⟩ := hv.shape
 refine (v_fn (R := fun u w' => ∃ y, u = .tuple #[y, .bool true] ∧ Ext W w' ∧ ∀ {W2} w2, SLw W2 w2 (.slice p (iv al).length c) (iv al) → SLw W2 w2 y (iv (al.drop (i + 1)))) (args := [.slice p (iv al).length c, .func (.func 39) #[] #[.pointer (some ⟨qh, 0, none⟩)]]) TTok FFok Try.func38 rfl (Nat.le_of_ble_eq_true rfl) ?_).mono ?_
 rotate_left
 ·rintro e w' ⟨_, rfl, y, rfl, h⟩; exact ⟨y, rfl, h⟩
 conv => whnf
 refine VSeq.mk fun Kq hKq => ?_
 conv => whnf
 refine hKq _ _ _ (.refl _) ?_
 clear hKq Kq
 conv => whnf
 refine VSeq.mk fun Kq hKq => ?_
 conv => whnf
 have hp := Hp.nil W
 (refine V.CallW.out ?_; (conv => arg 3; dsimp only [EV.val, List.toList_toArray, List.nil_append, List.append_nil, List.cons_append]); (with_reducible refine V.CallsUseW (hI) fun w hx => ?_); try (have hp := hp.call hx); conv => whnf)
 (refine hKq _ _ _ (.refl _) ?_; clear hKq Kq; conv => whnf)
 (refine VSeq.mk fun Kq hKq => ?_; conv => whnf)
 (refine VSeq.mk fun Kq hKq => ?_; conv => whnf)
 (refine hKq _ _ _ (.refl _) ?_; clear hKq Kq; conv => whnf)
 (refine And.intro (fun h => absurd (of_decide_eq_true h) (by first | (intro h2; exact absurd rfl h2) | omega | decide)) (fun _ => ?_); conv => whnf)
 (refine hKq _ _ _ (.refl _) ?_; clear hKq Kq; conv => whnf)
 (refine VSeq.mk fun Kq hKq => ?_; conv => whnf)
 (refine Or.inl (And.intro (by first | omega | decide) ?_); conv => whnf)
 refine ⟨_, _, hr _ w, ?_⟩
 conv => whnf
 refine hKq _ _ _ (.refl _) ?_
 clear hKq Kq
 conv => whnf
 exact ⟨_, rfl, hp.ext, fun w2 h2 => by rw [hdr]; exact hs w2 h2⟩
/-- the guard takes an answer -/
theorem answered_s {M : List Nat} {w0 w : World} {H : List It} {q : Nat} {v out : Value} {r : List Int} (x : Wt) (f t : Ad) (pb : Prb) (hml : x.asked.length ≤ maxLen) (hn : In64 (x.now + 30000)) (hv : SLv w v (iv x.asked)) (ha : afterL pb.id x.asked = some r) (hp : HpM M w0 w (blk q (gC x v out) 60 :: H)) :
  Calls Try.prog 25 #[.pointer (some ⟨q, 0, none⟩), .agg (hopC f t pb).toArray] w fun e w' => ∃ u, e = .returned u ∧ ∃ v', (∀ {W2} w2, SLw W2 w2 v (iv x.asked) → SLw W2 w2 v' (iv r)) ∧ HpM M w0 w' (blk q (gC { x with asked := r, til := x.now + 30000 } v' out) 60 :: H) := by
 obtain ⟨⟨ah, ap⟩, ⟨bh, bp⟩, now0, nxt, til, ser, gone, noise, word, fresh, asked⟩ := x
 obtain ⟨fh, fp⟩ := f
 obtain ⟨th, tp⟩ := t
 obtain ⟨k, id, pr, ct, ti, no, ⟨mh, mp⟩⟩ := pb
 obtain ⟨hn1, hn2⟩ := hn
 dsimp only at hn1 hn2
 dsimp only [gC, hopC] at hp hv ha hml ⊢
 refine v_fn (args := [.pointer (some ⟨q, 0, none⟩), .agg #[.string fh, .int .i64 fp, .string th, .int .i64 tp, .int .i64 k, .int .i64 id, .int .i64 pr, .bool ct, .int .i64 ti, .bool no, .string mh, .int .i64 mp]]) TTok FFok Try.func25 rfl (Nat.le_of_ble_eq_true rfl) ?_
 conv => whnf
 refine VSeq.mk fun Kq hKq => ?_
 conv => whnf
 refine hp.kboxA fun q2 w hp hx => ?_
 have hv := hv.ext hx
 conv => whnf
 refine hKq _ _ _ (.refl _) ?_
 clear hKq Kq
 conv => whnf
 refine VSeq.mk fun Kq hKq => ?_
 conv => whnf
 (refine ⟨_, _, Blk.ld (hp.get (i := 1) rfl) TTok rfl rfl, ?_⟩; conv => whnf)
 refine Calls.mono (after_s (f := ⟨fh, fp⟩) (t := ⟨th, tp⟩) (pb := ⟨k, id, pr, ct, ti, no, ⟨mh, mp⟩⟩) hml hv (hp.get (i := 0) rfl) ha) ?_
 rintro _ w ⟨u, rfl, hx, hs⟩
 refine ⟨_, rfl, ?_⟩
 have hp := hp.call hx
 obtain ⟨pu, cu, rfl⟩ := (hs w (hv.ext hx).w0).shape
 conv => whnf
 refine hKq _ _ _ (.refl _) ?_
 clear hKq Kq
 conv => whnf
 refine VSeq.mk fun Kq hKq => ?_
 conv => whnf
 refine hKq _ _ _ (.refl _) ?_
 clear hKq Kq
 conv => whnf
 (refine And.intro (fun _ => ?_) (fun h => absurd h (by decide)); conv => whnf)
 (refine ⟨_, _, Blk.ld (hp.get (i := 1) rfl) TTok rfl rfl, ?_⟩; conv => whnf)
 (refine Or.inl (And.intro (by first | omega | decide) ?_); conv => whnf)
 (refine hp.kst1 TTok (by rfl) 1 (by rfl) (by rfl) (by rfl) (Nat.le_of_ble_eq_true rfl) fun w hp => ?_; try simp only [List.set_cons_zero, List.set_cons_succ, EV.val] at hp; conv => whnf)
 (refine hp.kst1 TTok (by rfl) 1 (by rfl) (by rfl) (by rfl) (Nat.le_of_ble_eq_true rfl) fun w hp => ?_; try simp only [List.set_cons_zero, List.set_cons_succ, EV.val] at hp; conv => whnf)
 exact ⟨_, hs, hp.tail⟩
theorem answered_n {M : List Nat} {w0 w : World} {H : List It} {q : Nat} {v out : Value} (x : Wt) (f t : Ad) (pb : Prb) (hml : x.asked.length ≤ maxLen) (hv : SLv w v (iv x.asked)) (ha : afterL pb.id x.asked = none) (hp : HpM M w0 w (blk q (gC x v out) 60 :: H)) :
  Calls Try.prog 25 #[.pointer (some ⟨q, 0, none⟩), .agg (hopC f t pb).toArray] w fun e w' => ∃ u, e = .returned u ∧ HpM M w0 w' (blk q (gC x v out) 60 :: H) := by
 obtain ⟨⟨ah, ap⟩, ⟨bh, bp⟩, now0, nxt, til, ser, gone, noise, word, fresh, asked⟩ := x
 obtain ⟨fh, fp⟩ := f
 obtain ⟨th, tp⟩ := t
 obtain ⟨k, id, pr, ct, ti, no, ⟨mh, mp⟩⟩ := pb
 dsimp only [gC, hopC] at hp hv ha hml ⊢
 refine v_fn (args := [.pointer (some ⟨q, 0, none⟩), .agg #[.string fh, .int .i64 fp, .string th, .int .i64 tp, .int .i64 k, .int .i64 id, .int .i64 pr, .bool ct, .int .i64 ti, .bool no, .string mh, .int .i64 mp]]) TTok FFok Try.func25 rfl (Nat.le_of_ble_eq_true rfl) ?_
 conv => whnf
 refine VSeq.mk fun Kq hKq => ?_
 conv => whnf
 refine hp.kboxA fun q2 w hp hx => ?_
 have hv := hv.ext hx
 conv => whnf
 refine hKq _ _ _ (.refl _) ?_
 clear hKq Kq
 conv => whnf
 refine VSeq.mk fun Kq hKq => ?_
 conv => whnf
 (refine ⟨_, _, Blk.ld (hp.get (i := 1) rfl) TTok rfl rfl, ?_⟩; conv => whnf)
 refine Calls.mono (after_n (f := ⟨fh, fp⟩) (t := ⟨th, tp⟩) (pb := ⟨k, id, pr, ct, ti, no, ⟨mh, mp⟩⟩) hml hv (hp.get (i := 0) rfl) ha) ?_
 rintro _ w ⟨rfl, hx⟩
 refine ⟨_, rfl, ?_⟩
 have hp := hp.call hx
 conv => whnf
 refine hKq _ _ _ (.refl _) ?_
 clear hKq Kq
 conv => whnf
 refine VSeq.mk fun Kq hKq => ?_
 conv => whnf
 refine hKq _ _ _ (.refl _) ?_
 clear hKq Kq
 conv => whnf
 (refine And.intro (fun h => absurd h (by decide)) (fun _ => ?_); conv => whnf)
 exact hp.tail
/-- the guard answers a question -/
theorem asked_c {M : List Nat} {w0 w : World} {H : List It} {q : Nat} {v : Value} (x : Wt) (f t : Ad) (pb : Prb) (hp : HpM M w0 w (blk q (gC x v (.slice none 0 0)) 60 :: H)) :
  Calls Try.prog 24 #[.pointer (some ⟨q, 0, none⟩), .agg (hopC f t pb).toArray] w fun e w' => ∃ u, e = .returned u ∧ ∃ o, HpM M w0 w' (blk q (gC x v o) 60 :: row 40 12 o 1 (hopC x.a x.b (p2 pb.id f)) :: H) := by
 obtain ⟨fh, fp⟩ := f
 obtain ⟨th, tp⟩ := t
 obtain ⟨k, id, pr, ct, ti, no, ⟨mh, mp⟩⟩ := pb
 dsimp only [hopC] at hp ⊢
 refine v_fn (args := [.pointer (some ⟨q, 0, none⟩), .agg #[.string fh, .int .i64 fp, .string th, .int .i64 tp, .int .i64 k, .int .i64 id, .int .i64 pr, .bool ct, .int .i64 ti, .bool no, .string mh, .int .i64 mp]]) TTok FFok Try.func24 rfl (Nat.le_of_ble_eq_true rfl) ?_
 conv => whnf
 refine VSeq.mk fun Kq hKq => ?_
 conv => whnf
 refine hp.kboxA fun q2 w hp hx => ?_
 conv => whnf
 refine hKq _ _ _ (.refl _) ?_
 clear hKq Kq
 conv => whnf
 (refine ⟨_, _, Blk.ld (hp.get (i := 0) rfl) TTok rfl rfl, ?_⟩; conv => whnf)
 (refine ⟨_, _, Blk.ldV (vs := [_, _]) (hp.get (i := 0) rfl) TTok rfl rfl rfl, ?_⟩; conv => whnf)
 (refine ⟨_, _, bld38_0_1_6 _ _ _ _ _, ?_⟩; conv => whnf)
 refine Calls.mono (send_c x (p2 id ⟨fh, fp⟩) (hp.pickH (L := [_, _]) [1, 0] (by decide))) ?_
 rintro _ w ⟨u, rfl, o, hp⟩
 refine ⟨_, rfl, ?_⟩
 conv => whnf
 exact ⟨o, hp.pickH (L := [_, _, _]) [0, 1] (by decide)⟩
set_option maxHeartbeats 1600000
set_option maxHeartbeats 1600000
theorem wtB_all {x : Wt} (h1 : pathB x.a x.b = true) (h2 : 0 ≤ x.now ∧ x.now ≤ 1099511627776 ∧ 0 ≤ x.nxt ∧ x.nxt ≤ 1099511633776 ∧ 0 ≤ x.til ∧ x.til ≤ 1099511657776 ∧ 0 ≤ x.ser ∧ x.ser ≤ 1099511627776 ∧ 1 ≤ (x.noise.size : Int) ∧ (x.noise.size : Int) ≤ 64 ∧ (x.asked.length : Int) ≤ 8) (h3 : wordB x.word = true)
  (h4 : x.fresh = ⟨#[]⟩ ∨ (wordB x.fresh = true ∧ ¬ x.fresh = x.word)) : wtB x = (ascB (-1) x.ser x.asked && (if x.gone then decide ((x.asked.length : Int) = 0) && decide (x.fresh = ⟨#[]⟩) else decide (x.now < x.til))) := by
 obtain ⟨a1, a2, a3, a4, a5, a6, a7, a8, a9, a10, a11⟩ := h2
 unfold wtB inB
 rw [h1, decide_eq_true a1, decide_eq_true a2, decide_eq_true a3, decide_eq_true a4, decide_eq_true a5, decide_eq_true a6, decide_eq_true a7, decide_eq_true a8, decide_eq_true a9, decide_eq_true a10, decide_eq_true a11, h3]
 have : (decide (x.fresh = ⟨#[]⟩) || (wordB x.fresh && !decide (x.fresh = x.word))) = true := by
  rcases h4 with h | ⟨h, h'⟩
  ·simp [h]
  ·simp [h, h']
 rw [this]
 rfl
theorem wtB_spec {x : Wt} (h : wtB x = true) : pathB x.a x.b = true ∧ (0 ≤ x.now ∧ x.now ≤ 1099511627776 ∧ 0 ≤ x.nxt ∧ x.nxt ≤ 1099511633776 ∧ 0 ≤ x.til ∧ x.til ≤ 1099511657776 ∧ 0 ≤ x.ser ∧ x.ser ≤ 1099511627776 ∧ 1 ≤ (x.noise.size : Int) ∧ (x.noise.size : Int) ≤ 64 ∧ (x.asked.length : Int) ≤ 8) ∧ wordB x.word = true ∧
  (x.fresh = ⟨#[]⟩ ∨ (wordB x.fresh = true ∧ ¬ x.fresh = x.word)) ∧ ascB (-1) x.ser x.asked = true ∧ (x.gone = true → (x.asked.length : Int) = 0 ∧ x.fresh = ⟨#[]⟩) ∧ (x.gone = false → x.now < x.til) := by
 unfold wtB inB at h
 simp only [Bool.and_eq_true, Bool.or_eq_true, decide_eq_true_eq, Bool.not_eq_true', decide_eq_false_iff_not] at h
 obtain ⟨⟨h1, ⟨a1, a2⟩, ⟨a3, a4⟩, ⟨a5, a6⟩, a7, a8⟩, ⟨⟨a9, a10⟩, h3, h4, a11⟩, h5, h6⟩ := h
 refine ⟨h1, ⟨a1, a2, a3, a4, a5, a6, a7, a8, a9, a10, a11⟩, h3, h4, h5, fun hg => ?_, fun hg => ?_⟩
 ·rw [if_pos hg] at h6
  simpa using h6
 ·rw [if_neg (by rw [hg]; decide)] at h6
  simpa using h6
set_option maxHeartbeats 1600000
set_option maxHeartbeats 1600000
def zW : Wt := ⟨Ad.z, Ad.z, 0, 0, 0, 0, false, ⟨#[]⟩, ⟨#[]⟩, ⟨#[]⟩, []⟩
def chkW (x : Wt) : Int := if wtB x then 0 else 120
theorem Check12_c {W : World} {v : Value} (x : Wt) (hok : x.Ok) (hv : SLv W v (iv x.asked)) :
  Calls Try.prog 13 #[.agg (x.c v).toArray] W fun e w' => e = .returned (.int .i64 (chkW x)) ∧ Ext W w' := by
 have s1 := fun {W : World} {q : Nat} (hb : Blk W q (gC x v (.slice none 0 0)) 60) (hv : SLv W v (iv x.asked)) => valid_c (W := W) (q := q) (out := .slice none 0 0) x hok hb hv
 unfold chkW
 obtain ⟨r, hr⟩ : ∃ r, wtB x = r := ⟨_, rfl⟩
 rw [hr] at s1 ⊢
 clear hr hok
 obtain ⟨⟨ah, ap⟩, ⟨bh, bp⟩, now, nxt, til, ser, gone, noise, word, fresh, asked⟩ := x
 dsimp only [Wt.c] at hv s1 ⊢
 have hsl : (iv asked).length = asked.length := List.length_map _
 obtain ⟨p, c, rfl⟩ := hv.shape
 rw [hsl] at hv s1 ⊢
 dsimp only [gC] at s1
 refine v_reads (args := [.agg #[.string ah, .int .i64 ap, .string bh, .int .i64 bp, .int .i64 now, .int .i64 nxt, .int .i64 til, .int .i64 ser, .bool gone, .string noise, .string word, .string fresh, .slice p asked.length c]]) TTok FFok Try.func13 rfl rfl ?_
 conv => whnf
 refine VSeq.mk fun Kq hKq => ?_
 conv => whnf
 have hp := Hp.nil W
 refine hp.kboxA fun q2 w hp hx => ?_
 conv => whnf
 refine hKq _ _ _ (.refl _) ?_
 clear hKq Kq
 conv => whnf
 refine VSeq.mk fun Kq hKq => ?_
 conv => whnf
 refine VSeq.mk fun Kq hKq => ?_
 conv => whnf
 (refine ⟨_, _, Blk.ldV (vs := [_, _, _, _, _, _, _, _, _, _, _, _, _]) (hp.get (i := 0) rfl) TTok rfl rfl rfl, ?_⟩; conv => whnf)
 (refine ⟨_, _, bld60_0 _ _ _ _ _ _ _ _ _ _ _ _ _ _, ?_⟩; conv => whnf)
 (refine hp.kboxA fun q w hp hx => ?_; conv => whnf)
 (refine hKq _ _ _ (.refl _) ?_; clear hKq Kq; conv => whnf)
 (refine VSeq.mk fun Kq hKq => ?_; conv => whnf)
 refine V.CallsUse (s1 (hp.get (i := 0) rfl) (hv.ext hp.ext)) fun w hx => ?_
 have hp := hp.call hx
 conv => whnf
 clear s1
 cases r with
 | true =>
  (refine hKq _ _ _ (.refl _) ?_; clear hKq Kq; conv => whnf)
  (refine And.intro (fun h => absurd h (by decide)) (fun _ => ?_); conv => whnf)
  (refine hKq _ _ _ (.refl _) ?_; clear hKq Kq; conv => whnf)
  (refine VSeq.mk fun Kq hKq => ?_; conv => whnf)
  (refine hKq _ _ _ (.refl _) ?_; clear hKq Kq; conv => whnf)
  (exact ⟨rfl, hp.ext⟩)
 | false =>
  (refine hKq _ _ _ (.refl _) ?_; clear hKq Kq; conv => whnf)
  (refine And.intro (fun _ => ?_) (fun h => absurd h (by decide)); conv => whnf)
  (refine VSeq.mk fun Kq hKq => ?_; conv => whnf)
  (refine hKq _ _ _ (.refl _) ?_; clear hKq Kq; conv => whnf)
  (exact ⟨rfl, hp.ext⟩)
def wakeW (x : Wt) : Int × Int := if wtB x then (if x.gone then (0, 4) else (max x.now (min x.nxt x.til), 0)) else (0, 120)
theorem wtB_now {x : Wt} (h : wtB x = true) : inB x.now x.now 1099511627776 = true := by
 obtain ⟨_, ⟨_, h2, _⟩, _⟩ := wtB_spec h
 unfold inB
 rw [decide_eq_true (Int.le_refl _), decide_eq_true h2]; rfl
theorem wtB_len {x : Wt} (h : wtB x = true) : x.asked.length ≤ 8 := by
 obtain ⟨_, ⟨_, _, _, _, _, _, _, _, _, _, h2⟩, _⟩ := wtB_spec h
 omega
theorem Wake12_c {W : World} {v : Value} (x : Wt) (hok : x.Ok) (hv : SLv W v (iv x.asked)) :
  Calls Try.prog 18 #[.agg (x.c v).toArray] W fun e w' => e = .returned (.tuple #[.int .i64 (wakeW x).1, .int .i64 (wakeW x).2]) ∧ Ext W w' := by
 have s1 := fun {W : World} (hv : SLv W v (iv x.asked)) => start_v (W := W) x hok hv x.now
 have s2 := fun {W : World} (hv : SLv W v (iv x.asked)) (hw : wtB x = true) => start_t (W := W) x hok hv x.now hw (wtB_now hw) (by have := wtB_len hw; omega)
 unfold wakeW
 cases hw : wtB x with
 | false =>
  rw [if_neg (by decide)]
  obtain ⟨⟨ah, ap⟩, ⟨bh, bp⟩, now, nxt, til, ser, gone, noise, word, fresh, asked⟩ := x
  dsimp only [Wt.c] at hv s1 ⊢
  have hsl : (iv asked).length = asked.length := List.length_map _
  obtain ⟨p, c, rfl⟩ := hv.shape
  rw [hsl] at hv s1 ⊢
  refine v_reads (args := [.agg #[.string ah, .int .i64 ap, .string bh, .int .i64 bp, .int .i64 now, .int .i64 nxt, .int .i64 til, .int .i64 ser, .bool gone, .string noise, .string word, .string fresh, .slice p asked.length c]]) TTok FFok Try.func18 rfl rfl ?_
  conv => whnf
  refine VSeq.mk fun Kq hKq => ?_
  conv => whnf
  have hp := Hp.nil W
  refine hp.kboxA fun q2 w hp hx => ?_
  conv => whnf
  refine hKq _ _ _ (.refl _) ?_
  clear hKq Kq
  conv => whnf
  refine VSeq.mk fun Kq hKq => ?_
  conv => whnf
  (refine ⟨_, _, Blk.ldV (vs := [_, _, _, _, _, _, _, _, _, _, _, _, _]) (hp.get (i := 0) rfl) TTok rfl rfl rfl, ?_⟩; conv => whnf)
  (refine ⟨_, _, Blk.ld (hp.get (i := 0) rfl) TTok rfl rfl, ?_⟩; conv => whnf)
  refine V.CallsUse (s1 (hv.ext hp.ext) hw) fun w hx => ?_
  have hp := hp.call hx
  conv => whnf
  (refine hKq _ _ _ (.refl _) ?_; clear hKq Kq; conv => whnf)
  (refine VSeq.mk fun Kq hKq => ?_; conv => whnf)
  (refine VSeq.mk fun Kq hKq => ?_; conv => whnf)
  (refine hKq _ _ _ (.refl _) ?_; clear hKq Kq; conv => whnf)
  (refine And.intro (fun _ => ?_) (fun h => absurd (by first | rfl | assumption | omega | decide) (of_decide_eq_false h)); conv => whnf)
  (refine VSeq.mk fun Kq hKq => ?_; conv => whnf)
  (refine hKq _ _ _ (.refl _) ?_; clear hKq Kq; conv => whnf)
  (exact ⟨rfl, hp.ext⟩)
 | true =>
  rw [if_pos rfl]
  obtain ⟨⟨ah, ap⟩, ⟨bh, bp⟩, now, nxt, til, ser, gone, noise, word, fresh, asked⟩ := x
  dsimp only [Wt.c] at hv s2 ⊢
  have hsl : (iv asked).length = asked.length := List.length_map _
  obtain ⟨p, c, rfl⟩ := hv.shape
  rw [hsl] at hv s2 ⊢
  refine v_reads (args := [.agg #[.string ah, .int .i64 ap, .string bh, .int .i64 bp, .int .i64 now, .int .i64 nxt, .int .i64 til, .int .i64 ser, .bool gone, .string noise, .string word, .string fresh, .slice p asked.length c]]) TTok FFok Try.func18 rfl rfl ?_
  conv => whnf
  refine VSeq.mk fun Kq hKq => ?_
  conv => whnf
  have hp := Hp.nil W
  refine hp.kboxA fun q2 w hp hx => ?_
  conv => whnf
  refine hKq _ _ _ (.refl _) ?_
  clear hKq Kq
  conv => whnf
  refine VSeq.mk fun Kq hKq => ?_
  conv => whnf
  (refine ⟨_, _, Blk.ldV (vs := [_, _, _, _, _, _, _, _, _, _, _, _, _]) (hp.get (i := 0) rfl) TTok rfl rfl rfl, ?_⟩; conv => whnf)
  (refine ⟨_, _, Blk.ld (hp.get (i := 0) rfl) TTok rfl rfl, ?_⟩; conv => whnf)
  refine Calls.mono (s2 (hv.ext hp.ext) hw) ?_
  rintro _ w ⟨_, rfl, q, u, rfl, k2⟩
  refine ⟨_, rfl, ?_⟩
  have hp := hp.join k2
  simp only [List.cons_append, List.nil_append] at hp
  dsimp only [gC, atW, goesB] at hp
  conv => whnf
  cases gone with
  | true =>
   (refine hKq _ _ _ (.refl _) ?_; clear hKq Kq; conv => whnf)
   (refine VSeq.mk fun Kq hKq => ?_; conv => whnf)
   (refine VSeq.mk fun Kq hKq => ?_; conv => whnf)
   (refine hKq _ _ _ (.refl _) ?_; clear hKq Kq; conv => whnf)
   (refine And.intro (fun h => absurd (of_decide_eq_true h) (by first | (intro h2; exact absurd rfl h2) | omega | decide)) (fun _ => ?_); conv => whnf)
   (refine hKq _ _ _ (.refl _) ?_; clear hKq Kq; conv => whnf)
   (refine VSeq.mk fun Kq hKq => ?_; conv => whnf)
   (refine VSeq.mk fun Kq hKq => ?_; conv => whnf)
   (refine ⟨_, _, Blk.ld (hp.get (i := 0) rfl) TTok rfl rfl, ?_⟩; conv => whnf)
   (refine hKq _ _ _ (.refl _) ?_; clear hKq Kq; conv => whnf)
   (refine And.intro (fun _ => ?_) (fun h => absurd h (by decide)); conv => whnf)
   (refine VSeq.mk fun Kq hKq => ?_; conv => whnf)
   (refine hKq _ _ _ (.refl _) ?_; clear hKq Kq; conv => whnf)
   (exact ⟨rfl, hp.ext⟩)
  | false =>
   (refine hKq _ _ _ (.refl _) ?_; clear hKq Kq; conv => whnf)
   (refine VSeq.mk fun Kq hKq => ?_; conv => whnf)
   (refine VSeq.mk fun Kq hKq => ?_; conv => whnf)
   (refine hKq _ _ _ (.refl _) ?_; clear hKq Kq; conv => whnf)
   (refine And.intro (fun h => absurd (of_decide_eq_true h) (by first | (intro h2; exact absurd rfl h2) | omega | decide)) (fun _ => ?_); conv => whnf)
   (refine hKq _ _ _ (.refl _) ?_; clear hKq Kq; conv => whnf)
   (refine VSeq.mk fun Kq hKq => ?_; conv => whnf)
   (refine VSeq.mk fun Kq hKq => ?_; conv => whnf)
   (refine ⟨_, _, Blk.ld (hp.get (i := 0) rfl) TTok rfl rfl, ?_⟩; conv => whnf)
   (refine hKq _ _ _ (.refl _) ?_; clear hKq Kq; conv => whnf)
   (refine And.intro (fun h => absurd h (by decide)) (fun _ => ?_); conv => whnf)
   (refine hKq _ _ _ (.refl _) ?_; clear hKq Kq; conv => whnf)
   (refine VSeq.mk fun Kq hKq => ?_; conv => whnf)
   refine v_mixA TTok FFok mixed [(0, false), (1, false), (2, false), (3, false), (4, false), (5, false), (6, false), (7, false), (8, false), (9, false), (10, false), (11, false), (12, false), (13, false), (14, false), (15, false), (16, false), (17, false), (18, false)] (by kernel_rfl) ?_
   conv => whnf
   (refine ⟨_, fun w' hx' => Blk.ld (Blk.ext (hp.get (i := 0) rfl) hx') TTok rfl rfl, ?_⟩; conv => whnf)
   (refine ⟨_, fun w' hx' => Blk.ld (Blk.ext (hp.get (i := 0) rfl) hx') TTok rfl rfl, ?_⟩; conv => whnf)
   (refine ⟨_, fun w' hx' => Blk.ld (Blk.ext (hp.get (i := 0) rfl) hx') TTok rfl rfl, ?_⟩; conv => whnf)
   (intro w hx; try (have hp := hp.call hx); conv => whnf)
   (refine hKq _ _ _ (.refl _) ?_; clear hKq Kq; conv => whnf)
   (exact ⟨rfl, hp.ext⟩)
/-- a new watch, before its first gap -/
def nW (a b : Ad) (word noise : ByteArray) (now : Int) : Wt := ⟨a, b, now, 0, now + 30000, 0, false, noise, word, ⟨#[]⟩, []⟩
def newB (a b : Ad) (word noise : ByteArray) (now : Int) : Bool := inB now 0 1099511627776 && wtB (nW a b word noise now)
def newW (a b : Ad) (word noise : ByteArray) (now : Int) : Wt := { nW a b word noise now with nxt := now + gapN noise 0 }
theorem nW_ok {a b : Ad} {word noise : ByteArray} {now : Int} (ha : a.Ok) (hb : b.Ok) (hw : SzS word) (hn : SzS noise) (h : In64 now) (h2 : In64 (now + 30000)) : (nW a b word noise now).Ok :=
 ⟨ha, hb, h, (⟨by decide, by decide⟩ : In64 0), h2, (⟨by decide, by decide⟩ : In64 0), hn, hw, Ad.z_ok.s, fun i hi => (List.not_mem_nil hi).elim, Nat.zero_le _⟩
theorem New_bad1 {W : World} (ah bh : ByteArray) (ap bp : Int) (word noise : ByteArray) (now : Int) (h : inB now 0 1099511627776 = false) :
  Calls Try.prog 10 #[.agg #[.string ah, .int .i64 ap, .string bh, .int .i64 bp], .string word, .string noise, .int .i64 now] W fun e w' => e = .returned (.tuple #[.agg (zW.c (.slice none 0 0)).toArray, .int .i64 2]) ∧ Ext W w' := by
 have hI := cwithin_p now 0 1099511627776
 rw [h] at hI
 by_cases hf : -9223372036854775808 ≤ now + 30000 ∧ now + 30000 ≤ 9223372036854775807
 ·refine v_reads (args := [.agg #[.string ah, .int .i64 ap, .string bh, .int .i64 bp], .string word, .string noise, .int .i64 now]) TTok FFok Try.func10 rfl rfl ?_
  conv => whnf
  refine VSeq.mk fun Kq hKq => ?_
  conv => whnf
  have hp := Hp.nil W
  refine hp.kboxA fun q2 w hp hx => ?_
  conv => whnf
  (refine hp.kalloc z28 fun al28 w hp hx => ?_; conv => whnf)
  (refine hKq _ _ _ (.refl _) ?_; clear hKq Kq; conv => whnf)
  (refine VSeq.mk fun Kq hKq => ?_; conv => whnf)
  (refine ⟨_, _, Blk.ldV (vs := [_, _, _, _]) (hp.get (i := 1) rfl) TTok rfl rfl rfl, ?_⟩; conv => whnf)
  (refine Or.inl (And.intro (by first | omega | decide) ?_); conv => whnf)
  (refine ⟨_, _, bld28_0_1_3_6_7 _ _ _ _ _ _ _ _ _, ?_⟩; conv => whnf)
  (refine ⟨_, _, bld60_0 _ _ _ _ _ _ _ _ _ _ _ _ _ _, ?_⟩; conv => whnf)
  (refine hp.kboxA fun q w hp hx => ?_; conv => whnf)
  (refine hKq _ _ _ (.refl _) ?_; clear hKq Kq; conv => whnf)
  (refine VSeq.mk fun Kq hKq => ?_; conv => whnf)
  (refine VSeq.mk fun Kq hKq => ?_; conv => whnf)
  (refine VSeq.mk fun Kq hKq => ?_; conv => whnf)
  (refine V.CallW.out ?_; (conv => arg 3; dsimp only [EV.val, List.toList_toArray, List.nil_append, List.append_nil, List.cons_append]); refine V.PureF.useW (hI) fun w hx => ?_; try (have hp := hp.call hx); conv => whnf)
  (refine hKq _ _ _ (.refl _) ?_; clear hKq Kq; conv => whnf)
  (refine And.intro (fun _ => ?_) (fun h => absurd h (by decide)); conv => whnf)
  (refine hKq _ _ _ (.refl _) ?_; clear hKq Kq; conv => whnf)
  (refine VSeq.mk fun Kq hKq => ?_; conv => whnf)
  (refine ⟨_, _, bld28_ _, ?_⟩; conv => whnf)
  (refine hp.kstA TTok rfl 1 rfl rfl (oneC_of rfl) (by rfl) fun w hp => ?_; try simp only [List.set_cons_zero, List.set_cons_succ, EV.val] at hp; conv => whnf)
  (refine hKq _ _ _ (.refl _) ?_; clear hKq Kq; conv => whnf)
  (refine ⟨_, Blk.lvN (hp.get (i := 1) rfl) TTok rfl rfl, ?_⟩; conv => whnf)
  (exact ⟨rfl, hp.ext⟩)
 ·obtain ⟨y, hy⟩ : ∃ y, y = IntKind.i64.wrap (now + 30000) := ⟨_, rfl⟩
  refine v_reads (args := [.agg #[.string ah, .int .i64 ap, .string bh, .int .i64 bp], .string word, .string noise, .int .i64 now]) TTok FFok Try.func10 rfl rfl ?_
  conv => whnf
  refine VSeq.mk fun Kq hKq => ?_
  conv => whnf
  have hp := Hp.nil W
  refine hp.kboxA fun q2 w hp hx => ?_
  conv => whnf
  (refine hp.kalloc z28 fun al28 w hp hx => ?_; conv => whnf)
  (refine hKq _ _ _ (.refl _) ?_; clear hKq Kq; conv => whnf)
  (refine VSeq.mk fun Kq hKq => ?_; conv => whnf)
  (refine ⟨_, _, Blk.ldV (vs := [_, _, _, _]) (hp.get (i := 1) rfl) TTok rfl rfl rfl, ?_⟩; conv => whnf)
  refine Or.inr ⟨y, hy, ?_⟩
  conv => whnf
  (refine ⟨_, _, bld28_0_1_3_6_7 _ _ _ _ _ _ _ _ _, ?_⟩; conv => whnf)
  (refine ⟨_, _, bld60_0 _ _ _ _ _ _ _ _ _ _ _ _ _ _, ?_⟩; conv => whnf)
  (refine hp.kboxA fun q w hp hx => ?_; conv => whnf)
  (refine hKq _ _ _ (.refl _) ?_; clear hKq Kq; conv => whnf)
  (refine VSeq.mk fun Kq hKq => ?_; conv => whnf)
  (refine VSeq.mk fun Kq hKq => ?_; conv => whnf)
  (refine VSeq.mk fun Kq hKq => ?_; conv => whnf)
  (refine V.CallW.out ?_; (conv => arg 3; dsimp only [EV.val, List.toList_toArray, List.nil_append, List.append_nil, List.cons_append]); refine V.PureF.useW (hI) fun w hx => ?_; try (have hp := hp.call hx); conv => whnf)
  (refine hKq _ _ _ (.refl _) ?_; clear hKq Kq; conv => whnf)
  (refine And.intro (fun _ => ?_) (fun h => absurd h (by decide)); conv => whnf)
  (refine hKq _ _ _ (.refl _) ?_; clear hKq Kq; conv => whnf)
  (refine VSeq.mk fun Kq hKq => ?_; conv => whnf)
  (refine ⟨_, _, bld28_ _, ?_⟩; conv => whnf)
  (refine hp.kstA TTok rfl 1 rfl rfl (oneC_of rfl) (by rfl) fun w hp => ?_; try simp only [List.set_cons_zero, List.set_cons_succ, EV.val] at hp; conv => whnf)
  (refine hKq _ _ _ (.refl _) ?_; clear hKq Kq; conv => whnf)
  (refine ⟨_, Blk.lvN (hp.get (i := 1) rfl) TTok rfl rfl, ?_⟩; conv => whnf)
  (exact ⟨rfl, hp.ext⟩)
theorem New_bad2 {W : World} (ah bh : ByteArray) (ap bp : Int) (word noise : ByteArray) (now : Int) (h : inB now 0 1099511627776 = true) (hok : (nW ⟨ah, ap⟩ ⟨bh, bp⟩ word noise now).Ok) (hw : wtB (nW ⟨ah, ap⟩ ⟨bh, bp⟩ word noise now) = false) :
  Calls Try.prog 10 #[.agg #[.string ah, .int .i64 ap, .string bh, .int .i64 bp], .string word, .string noise, .int .i64 now] W fun e w' => e = .returned (.tuple #[.agg (zW.c (.slice none 0 0)).toArray, .int .i64 2]) ∧ Ext W w' := by
 have s1 := fun {W : World} {q : Nat} (hb : Blk W q (gC (nW ⟨ah, ap⟩ ⟨bh, bp⟩ word noise now) (.slice none 0 0) (.slice none 0 0)) 60) => valid_c (W := W) (q := q) (out := .slice none 0 0) _ hok hb .nil
 rw [hw] at s1
 dsimp only [gC, nW] at s1
 have hI := cwithin_p now 0 1099511627776
 rw [h] at hI
 have hn := inB_t h
 clear hok
 refine v_reads (args := [.agg #[.string ah, .int .i64 ap, .string bh, .int .i64 bp], .string word, .string noise, .int .i64 now]) TTok FFok Try.func10 rfl rfl ?_
 conv => whnf
 refine VSeq.mk fun Kq hKq => ?_
 conv => whnf
 have hp := Hp.nil W
 refine hp.kboxA fun q2 w hp hx => ?_
 conv => whnf
 (refine hp.kalloc z28 fun al28 w hp hx => ?_; conv => whnf)
 (refine hKq _ _ _ (.refl _) ?_; clear hKq Kq; conv => whnf)
 (refine VSeq.mk fun Kq hKq => ?_; conv => whnf)
 (refine ⟨_, _, Blk.ldV (vs := [_, _, _, _]) (hp.get (i := 1) rfl) TTok rfl rfl rfl, ?_⟩; conv => whnf)
 (refine Or.inl (And.intro (by first | omega | decide) ?_); conv => whnf)
 (refine ⟨_, _, bld28_0_1_3_6_7 _ _ _ _ _ _ _ _ _, ?_⟩; conv => whnf)
 (refine ⟨_, _, bld60_0 _ _ _ _ _ _ _ _ _ _ _ _ _ _, ?_⟩; conv => whnf)
 (refine hp.kboxA fun q w hp hx => ?_; conv => whnf)
 (refine hKq _ _ _ (.refl _) ?_; clear hKq Kq; conv => whnf)
 (refine VSeq.mk fun Kq hKq => ?_; conv => whnf)
 (refine VSeq.mk fun Kq hKq => ?_; conv => whnf)
 (refine VSeq.mk fun Kq hKq => ?_; conv => whnf)
 (refine V.CallW.out ?_; (conv => arg 3; dsimp only [EV.val, List.toList_toArray, List.nil_append, List.append_nil, List.cons_append]); refine V.PureF.useW (hI) fun w hx => ?_; try (have hp := hp.call hx); conv => whnf)
 (refine hKq _ _ _ (.refl _) ?_; clear hKq Kq; conv => whnf)
 (refine And.intro (fun h => absurd h (by decide)) (fun _ => ?_); conv => whnf)
 refine V.CallsUse (s1 (hp.get (i := 0) rfl)) fun w hx => ?_
 have hp := hp.call hx
 conv => whnf
 (refine hKq _ _ _ (.refl _) ?_; clear hKq Kq; conv => whnf)
 (refine And.intro (fun _ => ?_) (fun h => absurd h (by decide)); conv => whnf)
 (refine VSeq.mk fun Kq hKq => ?_; conv => whnf)
 (refine ⟨_, _, bld28_ _, ?_⟩; conv => whnf)
 (refine hp.kstA TTok rfl 1 rfl rfl (oneC_of rfl) (by rfl) fun w hp => ?_; try simp only [List.set_cons_zero, List.set_cons_succ, EV.val] at hp; conv => whnf)
 (refine hKq _ _ _ (.refl _) ?_; clear hKq Kq; conv => whnf)
 (refine ⟨_, Blk.lvN (hp.get (i := 1) rfl) TTok rfl rfl, ?_⟩; conv => whnf)
 (exact ⟨rfl, hp.ext⟩)
theorem New_ok {W : World} (ah bh : ByteArray) (ap bp : Int) (word noise : ByteArray) (now : Int) (h : inB now 0 1099511627776 = true) (hok : (nW ⟨ah, ap⟩ ⟨bh, bp⟩ word noise now).Ok) (hw : wtB (nW ⟨ah, ap⟩ ⟨bh, bp⟩ word noise now) = true) :
  Calls Try.prog 10 #[.agg #[.string ah, .int .i64 ap, .string bh, .int .i64 bp], .string word, .string noise, .int .i64 now] W fun e w' => e = .returned (.tuple #[.agg ((newW ⟨ah, ap⟩ ⟨bh, bp⟩ word noise now).c (.slice none 0 0)).toArray, .int .i64 0]) ∧ Ext W w' := by
 have s1 := fun {W : World} {q : Nat} (hb : Blk W q (gC (nW ⟨ah, ap⟩ ⟨bh, bp⟩ word noise now) (.slice none 0 0) (.slice none 0 0)) 60) => valid_c (W := W) (q := q) (out := .slice none 0 0) _ hok hb .nil
 have hns : 0 < noise.size := by
  obtain ⟨_, ⟨_, _, _, _, _, _, _, _, h9, _⟩, _⟩ := wtB_spec hw
  dsimp only [nW] at h9
  omega
 have s2 := fun {W : World} {q : Nat} (hb : Blk W q (gC (nW ⟨ah, ap⟩ ⟨bh, bp⟩ word noise now) (.slice none 0 0) (.slice none 0 0)) 60) => gap_c (W := W) (q := q) (out := .slice none 0 0) _ hb hok.noise hns 0 (by decide)
 rw [hw] at s1
 dsimp only [gC, nW] at s1 s2
 have hI := cwithin_p now 0 1099511627776
 rw [h] at hI
 have hn := inB_t h
 have hg := gapN_le noise 0
 clear hok
 refine v_reads (args := [.agg #[.string ah, .int .i64 ap, .string bh, .int .i64 bp], .string word, .string noise, .int .i64 now]) TTok FFok Try.func10 rfl rfl ?_
 conv => whnf
 refine VSeq.mk fun Kq hKq => ?_
 conv => whnf
 have hp := Hp.nil W
 refine hp.kboxA fun q2 w hp hx => ?_
 conv => whnf
 (refine hp.kalloc z28 fun al28 w hp hx => ?_; conv => whnf)
 (refine hKq _ _ _ (.refl _) ?_; clear hKq Kq; conv => whnf)
 (refine VSeq.mk fun Kq hKq => ?_; conv => whnf)
 (refine ⟨_, _, Blk.ldV (vs := [_, _, _, _]) (hp.get (i := 1) rfl) TTok rfl rfl rfl, ?_⟩; conv => whnf)
 (refine Or.inl (And.intro (by first | omega | decide) ?_); conv => whnf)
 (refine ⟨_, _, bld28_0_1_3_6_7 _ _ _ _ _ _ _ _ _, ?_⟩; conv => whnf)
 (refine ⟨_, _, bld60_0 _ _ _ _ _ _ _ _ _ _ _ _ _ _, ?_⟩; conv => whnf)
 (refine hp.kboxA fun q w hp hx => ?_; conv => whnf)
 (refine hKq _ _ _ (.refl _) ?_; clear hKq Kq; conv => whnf)
 (refine VSeq.mk fun Kq hKq => ?_; conv => whnf)
 (refine VSeq.mk fun Kq hKq => ?_; conv => whnf)
 (refine VSeq.mk fun Kq hKq => ?_; conv => whnf)
 (refine V.CallW.out ?_; (conv => arg 3; dsimp only [EV.val, List.toList_toArray, List.nil_append, List.append_nil, List.cons_append]); refine V.PureF.useW (hI) fun w hx => ?_; try (have hp := hp.call hx); conv => whnf)
 (refine hKq _ _ _ (.refl _) ?_; clear hKq Kq; conv => whnf)
 (refine And.intro (fun h => absurd h (by decide)) (fun _ => ?_); conv => whnf)
 refine V.CallsUse (s1 (hp.get (i := 0) rfl)) fun w hx => ?_
 have hp := hp.call hx
 conv => whnf
 (refine hKq _ _ _ (.refl _) ?_; clear hKq Kq; conv => whnf)
 (refine And.intro (fun h => absurd h (by decide)) (fun _ => ?_); conv => whnf)
 (refine hKq _ _ _ (.refl _) ?_; clear hKq Kq; conv => whnf)
 (refine VSeq.mk fun Kq hKq => ?_; conv => whnf)
 refine V.CallsUse (s2 (hp.get (i := 0) rfl)) fun w hx => ?_
 have hp := hp.call hx
 conv => whnf
 (refine Or.inl (And.intro (by first | omega | decide) ?_); conv => whnf)
 (refine hp.kst1 TTok (by rfl) 0 (by rfl) (by rfl) (by rfl) (Nat.le_of_ble_eq_true rfl) fun w hp => ?_; try simp only [List.set_cons_zero, List.set_cons_succ, EV.val] at hp; conv => whnf)
 (refine hKq _ _ _ (.refl _) ?_; clear hKq Kq; conv => whnf)
 (refine VSeq.mk fun Kq hKq => ?_; conv => whnf)
 (refine ⟨_, _, Blk.ldV (vs := [_, _, _, _, _, _, _, _, _, _, _, _, _]) (hp.get (i := 0) rfl) TTok rfl rfl rfl, ?_⟩; conv => whnf)
 (refine hp.kstA TTok rfl 1 rfl rfl (oneC_of rfl) (by rfl) fun w hp => ?_; try simp only [List.set_cons_zero, List.set_cons_succ, EV.val] at hp; conv => whnf)
 (refine hKq _ _ _ (.refl _) ?_; clear hKq Kq; conv => whnf)
 (refine ⟨_, Blk.lvN (hp.get (i := 1) rfl) TTok rfl rfl, ?_⟩; conv => whnf)
 (exact ⟨rfl, hp.ext⟩)
set_option maxHeartbeats 1600000
abbrev Hop3 := Ad × Ad × Prb
abbrev hopF (h : Hop3) : List Value := hopC h.1 h.2.1 h.2.2
def HR (w : World) (o : Value) (hs : List Hop3) : Prop := (hs = [] ∧ o = .slice none 0 0) ∨ ∃ h g c, hs = [h] ∧ o = .slice (some ⟨g, 0, none⟩) 1 c ∧ ∀ j v, (hopF h)[j]? = some v → w.cell? ⟨g, j, none⟩ = some v
theorem HR.nil {w : World} : HR w (.slice none 0 0) [] := .inl ⟨rfl, rfl⟩
theorem HR.one {w : World} {o : Value} {h : Hop3} (hr : (row 40 12 o 1 (hopF h)).holds w) : HR w o [h] := by
 obtain ⟨g, c, rfl⟩ := row_form hr (by decide)
 exact .inr ⟨h, g, c, rfl, rfl, fun j v hj => row_cell hr hj⟩
theorem HR.blk {w : World} {g c e : Nat} {h : Hop3} (hb : Blk w g (hopF h) e) : HR w (.slice (some ⟨g, 0, none⟩) 1 c) [h] :=
 .inr ⟨h, g, c, rfl, rfl, fun j v hj => (hb.cell j).trans hj⟩
theorem HR.ext {w w' : World} {o : Value} {hs : List Hop3} (h : HR w o hs) (hx : Ext w w') : HR w' o hs := by
 rcases h with h | ⟨h, g, c, h1, h2, h3⟩
 ·exact .inl h
 ·exact .inr ⟨h, g, c, h1, h2, fun j v hj => hx.cell (h3 j v hj)⟩
/-- what is sent, in a block that is not of the world W -/
structure HRw (W w : World) (o : Value) (hs : List Hop3) : Prop where
 s : HR w o hs
 f : FreshV W o
theorem HRw.nil {W w : World} : HRw W w (.slice none 0 0) [] := ⟨.nil, fun a n c h => by simp at h⟩
theorem HRw.one {W w : World} {H : List It} {o : Value} {h : Hop3} (hp : HpM [] W w H) {i : Nat} (hi : H[i]? = some (row 40 12 o 1 (hopF h))) : HRw W w o [h] :=
 ⟨HR.one (hp.get hi), fun a n' c h => by
  subst h
  have := (hp.lo _ (List.mem_of_getElem? hi) a.block rfl).1
  simpa using this⟩
theorem HRw.blk {W w : World} {H : List It} {g c e : Nat} {h : Hop3} (hp : HpM [] W w H) {i : Nat} (hi : H[i]? = some (blk g (hopF h) e)) : HRw W w (.slice (some ⟨g, 0, none⟩) 1 c) [h] :=
 ⟨HR.blk (hp.get hi), fun a n' c h => by
  have := (hp.lo _ (List.mem_of_getElem? hi) g rfl).1
  simp only [Value.slice.injEq, Option.some.injEq] at h
  rw [← h.1]
  simpa using this⟩
def askP (ser : Int) : Prb := ⟨1, ser, 1, false, 0, false, Ad.z⟩
def trim8 (l : List Int) : List Int := l.drop (l.length - 8)
def asksB (y : Wt) (now : Int) : Bool := !y.gone && (decide (y.nxt ≤ now) && decide (y.ser < 1099511627776))
def askW (y : Wt) (now : Int) : Wt := { y with asked := trim8 (y.asked ++ [y.ser]), ser := y.ser + 1, nxt := now + gapN y.noise (y.ser + 1).toNat }
def timeW (x : Wt) (now : Int) : Wt × List Hop3 := if asksB (atW x now) now then (askW (atW x now) now, [(x.a, x.b, askP x.ser)]) else (atW x now, [])
namespace V
section
variable {P : Program} {md : Region.Mode} {ops : Array Oper}
def YC (P : Program) (ops : Array Oper) (o : Oper) (v : Value) (a : Act) (C : World → Prop) : Prop :=
 (Region.wanted o (yielded ops a.tmps) = true ∧ ∀ w1, C w1 → o.quietAt P a (Ext w1) w1 v) ∨ (Region.wanted o (yielded ops a.tmps) = false ∧ v = undef)
theorem YC.yg {o : Oper} {v : Value} {a : Act} {C : World → Prop} {w : World} (h : YC P ops o v a C) (hc : ∀ w1, Ext w w1 → C w1) : YG P ops o v a w :=
 h.imp (fun h => ⟨h.1, fun w1 h1 => h.2 w1 (hc w1 h1)⟩) id
theorem YC.of_same {o : Oper} {v : Value} {a a' : Act} {C : World → Prop} (hy : YC P ops o v a C) (he : execOp a'.eval o = execOp a.eval o) (hw : Region.wanted o (yielded ops a'.tmps) = Region.wanted o (yielded ops a.tmps)) : YC P ops o v a' C := by
 unfold YC Oper.quietAt at *
 rw [he, hw]
 exact hy
theorem okOp_putC {j : Nat} {oi oj : Oper} {v : Value} {C : World → Prop} {w1 : World} (hj : ops[j]? = some oj) (hap : oi.apart ops oj = true)
  (hsi : ∀ cs b, oi.op ≠ .select cs b) (hsj : ∀ cs b, oj.op ≠ .select cs b) {K : Act → World → Prop} {a : Act}
  (hy : YC P ops oi v a C) (h : okOp P ops j K (a.put oi.dst v) w1) :
  okOp P ops j (fun a' w2 => YC P ops oi v a' C ∧ K (a'.put oi.dst v) w2) a w1 := by
 obtain ⟨h1, h2, h3⟩ := Oper.apart_spec hap
 have keep : ∀ (u : Value), YC P ops oi v (a.put oj.dst u) C := fun u =>
  hy.of_same (execOp_put oi hsi a oj.dst u h3) (wanted_put oi a oj.dst u h3)
 unfold okOp at *
 simp only [hj] at *
 rw [wanted_put oj a oi.dst v h1] at h
 split
 ·rename_i hw
  simp only [hw, if_true] at h
  unfold Oper.wp at *
  rw [execOp_put oj hsj a oi.dst v h1] at h
  generalize (execOp a.eval oj).run P w1 = r at *
  have put : ∀ (u : Value) (w2 : World), K ((a.put oi.dst v).put oj.dst u) w2 → YC P ops oi v (a.put oj.dst u) C ∧ K ((a.put oj.dst u).put oi.dst v) w2 := fun u w2 hk =>
   ⟨keep u, by rw [← Act.put_comm a v u h2]; exact hk⟩
  have putd : ∀ (x : Deferred) (w2 : World), K ({ tmps := (a.put oi.dst v).tmps, defers := x :: (a.put oi.dst v).defers : Act }.put oj.dst undef) w2 →
    YC P ops oi v ({ tmps := a.tmps, defers := x :: a.defers : Act }.put oj.dst undef) C ∧ K (({ tmps := a.tmps, defers := x :: a.defers : Act }.put oj.dst undef).put oi.dst v) w2 := fun x w2 hk => by
   have e : ({ tmps := (a.put oi.dst v).tmps, defers := x :: (a.put oi.dst v).defers } : Act) = ({ tmps := a.tmps, defers := x :: a.defers } : Act).put oi.dst v := by cases oi.dst <;> rfl
   have hy0 : YC P ops oi v { tmps := a.tmps, defers := x :: a.defers } C := hy.of_same rfl rfl
   refine ⟨hy0.of_same (execOp_put oi hsi _ oj.dst _ h3) (wanted_put oi _ oj.dst _ h3), ?_⟩
   rw [← Act.put_comm _ v undef h2, ← e]; exact hk
  cases r with
  | ok n w' =>
   cases n <;> simp only [Oper.upon] at h ⊢ <;>
    first
     | exact put _ _ h
     | exact Calls.mono h (fun e w'' he => by cases e <;> first | exact put _ _ he | exact he.elim | exact QF_out he)
     | exact Rows.mono h (fun _ _ he => put _ _ he)
     | exact putd _ _ h
     | exact h.elim
  | halt x w' => cases x <;> simp only [Oper.upon] at h ⊢ <;> first | exact h.elim | exact h
 ·rename_i hw
  simp only [hw] at h
  exact ⟨keep _, by rw [← Act.put_comm a v undef h2]; exact h⟩
def headC (P : Program) (md : Region.Mode) (ops : Array Oper) (bars : List Nat) (C : World → Prop) (L : Array Bool → Act → World → Prop) : Nat → Array Bool → Act → World → Prop
 | 0, done, a, w => ∀ w1, Ext w w1 → L done a w1
 | f + 1, done, a, w => ∀ w1, Ext w w1 → Region.ready md ops done ≠ [] ∧ ∀ i ∈ Region.ready md ops done, okOp P ops i (fun a' w2 => (bars.contains i = false → C w1 → C w2) ∧ headC P md ops bars C L f (done.setIfInBounds i true) a' w2) a w1
theorem headC_mono {bars : List Nat} {C : World → Prop} {L : Array Bool → Act → World → Prop} {w w' : World} (hx : Ext w w') : ∀ {f : Nat} {done : Array Bool} {a : Act}, headC P md ops bars C L f done a w → headC P md ops bars C L f done a w'
 | 0, _, _, h => fun w1 h1 => h w1 (hx.trans h1)
 | _ + 1, _, _, h => fun w1 h1 => h w1 (hx.trans h1)
theorem any_of_headC {g : Nat} {bars : List Nat} {C : World → Prop} {L : Array Bool → Act → World → Prop} {Q : Exit → Act → World → Prop} (hL : ∀ done a w, L done a w → wpAny P md ops Q g done a w) :
  ∀ (f : Nat) (done : Array Bool) (a : Act) (w : World), headC P md ops bars C L f done a w → wpAny P md ops Q (f + g) done a w := by
 intro f
 induction f with
 | zero => intro done a w h; rw [Nat.zero_add]; exact hL _ _ _ (h w (Ext.refl w))
 | succ f ih =>
  intro done a w h
  rw [show f + 1 + g = (f + g) + 1 by omega]
  have h := h w (Ext.refl w)
  exact ⟨fun h0 => absurd h0 h.1, fun i hi => wpOp_of_ok (fun a' w' h' => ih _ a' w' h'.2) (h.2 i hi)⟩
theorem headC_take {bars : List Nat} {C : World → Prop} (hC : ∀ w w', C w → Ext w w' → C w') {i : Nat} {oi : Oper} {v : Value} {L : Array Bool → Act → World → Prop} (hi : ops[i]? = some oi) (hsel : ∀ (j : Nat) (o : Oper) cs b, ops[j]? = some o → o.op ≠ .select cs b)
  (hbar : ∀ j, bars.contains j = true → waits2 md ops j i = true) (hdone : ∀ done a w, L done a w → Region.ready md ops done = []) :
  ∀ (f : Nat) (done : Array Bool) (a : Act) (w : World), HeadInv md ops ops.size done → C w →
   (∀ j oj, ops[j]? = some oj → j ≠ i → done.getD j true = false → (∀ e ∈ oj.after, Region.binds md e = true → e.on ≠ i) → oi.apart ops oj = true) →
   i ∈ Region.ready md ops done → YC P ops oi v a C →
   headC P md ops bars C L f (done.setIfInBounds i true) (a.put oi.dst v) w → headC P md ops bars C L (f + 1) done a w := by
 have hsz : i < ops.size := (Array.getElem?_eq_some_iff.1 hi).1
 intro f
 induction f with
 | zero =>
  intro done a w inv hxB _ hr hy H w1 hx
  refine ⟨List.ne_nil_of_mem hr, fun j hj => ?_⟩
  by_cases e : j = i
  ·subst e; exact (hy.yg fun w2 h2 => hC _ _ (hC _ _ hxB hx) h2).ok hi (Ext.refl w1) fun w2 h2 => ⟨fun _ h => hC _ _ h h2, headC_mono (hx.trans h2) H⟩
  ·have h1 := hdone _ _ _ (H w1 hx)
   have h2 := ready_mono (md := md) (ops := ops) hj e
   rw [h1] at h2; cases h2
 | succ f ih =>
  intro done a w inv hxB hfree hr hy H w1 hx
  have hun := (mem_ready.1 hr).1
  refine ⟨List.ne_nil_of_mem hr, fun j hj => ?_⟩
  by_cases e : j = i
  ·subst e; exact (hy.yg fun w2 h2 => hC _ _ (hC _ _ hxB hx) h2).ok hi (Ext.refl w1) fun w2 h2 => ⟨fun _ h => hC _ _ h h2, headC_mono (hx.trans h2) H⟩
  ·obtain ⟨hjun, oj, hoj, hall⟩ := mem_ready.1 hj
   have hjsz : j < ops.size := (Array.getElem?_eq_some_iff.1 hoj).1
   have hnot : ∀ e ∈ oj.after, Region.binds md e = true → e.on ≠ i := fun e he hb heq => by
    have := hall e he hb; rw [heq, getD_both hun] at this; cases this
   have hjb : bars.contains j = false := by
    cases hb : bars.contains j with
    | false => rfl
    | true => have := hbar j hb; rw [not_waits2 inv hun hj] at this; cases this
   have key := okOp_putC hoj (hfree j oj hoj e hjun hnot) (fun cs b => hsel i oi cs b hi) (fun cs b => hsel j oj cs b hoj) hy ((H w1 hx).2 j (ready_mono hj e))
   refine okOp_mono (fun a' w2 h3 => ⟨fun hb => h3.2.1 hb, ih (done.setIfInBounds j true) a' w2 (inv.set hj hjsz) (h3.2.1 hjb (hC _ _ hxB hx)) ?_ (ready_mono hr (Ne.symm e)) h3.1 ?_⟩) key
   ·intro k ok hk hki hu hno
    refine hfree k ok hk hki ?_ hno
    by_cases hjk : j = k
    ·subst hjk; exact hjun
    ·rwa [getD_set_ne true hjk] at hu
   ·rw [Array.setIfInBounds_comm _ _ e]; exact h3.2.2
def oblC (b : Bool) (C : World → Prop) (w1 w : World) (p : Prop) : Prop := match b with
 | true => p
 | false => (C w1 → C w) ∧ p
theorem oblC_spec {b : Bool} {C : World → Prop} {w1 w : World} {p : Prop} (h : oblC b C w1 w p) : (b = false → C w1 → C w) ∧ p := by
 cases b with
 | true => exact ⟨fun hc => (by cases hc), h⟩
 | false => exact ⟨fun _ => h.1, h.2⟩
def stepC (P : Program) (ops : Array Oper) (bars : List Nat) (C : World → Prop) (i : Nat) (k : Act → World → Prop) (a : Act) (w : World) : Prop :=
 ∀ w1, Ext w w1 → okOp P ops i (fun a' w2 => oblC (bars.contains i) C w1 w2 (k a' w2)) a w1
def actMC (P : Program) (ops : Array Oper) (bars : List Nat) (C : World → Prop) (Lq : Act → World → Prop) : MT → Act → World → Prop
 | .nil, a, w => ∀ w1, Ext w w1 → Lq a w1
 | .q i r, a, w => ∃ o, ops[i]? = some o ∧ ∃ v, YC P ops o v a C ∧ actMC P ops bars C Lq r (a.put o.dst v) w
 | .m i r, a, w => stepC P ops bars C i (actMC P ops bars C Lq r) a w
 | .br i j r s, a, w => stepC P ops bars C i (actMC P ops bars C Lq r) a w ∧ stepC P ops bars C j (actMC P ops bars C Lq s) a w
 | .br3 i j k r s t, a, w => stepC P ops bars C i (actMC P ops bars C Lq r) a w ∧ stepC P ops bars C j (actMC P ops bars C Lq s) a w ∧ stepC P ops bars C k (actMC P ops bars C Lq t) a w
 | .br4 i j k m r s t u, a, w => stepC P ops bars C i (actMC P ops bars C Lq r) a w ∧ stepC P ops bars C j (actMC P ops bars C Lq s) a w ∧ stepC P ops bars C k (actMC P ops bars C Lq t) a w ∧ stepC P ops bars C m (actMC P ops bars C Lq u) a w
theorem headC_step {bars : List Nat} {C : World → Prop} (hC : ∀ w w', C w → Ext w w' → C w') {f : Bool} {i : Nat} {L : Array Bool → Act → World → Prop} {k : Act → World → Prop} {g : Nat} {done : Array Bool} {a : Act} {w w1 : World} (hx : Ext w w1) (hB : f = true → C w)
  (h : stepC P ops bars C i k a w) (hk : ∀ a' w2, ((f && !bars.contains i) = true → C w2) → k a' w2 → headC P md ops bars C L g (done.setIfInBounds i true) a' w2) :
  okOp P ops i (fun a' w2 => (bars.contains i = false → C w1 → C w2) ∧ headC P md ops bars C L g (done.setIfInBounds i true) a' w2) a w1 := by
 refine okOp_mono (fun a' w2 h2 => ?_) (h w1 hx)
 obtain ⟨h3, h4⟩ := oblC_spec h2
 exact ⟨h3, hk a' w2 (fun hf => by
  rw [Bool.and_eq_true] at hf
  exact h3 (by simpa using hf.2) (hC _ _ (hB hf.1) hx)) h4⟩
theorem headC_mt {bars : List Nat} {C : World → Prop} (hC : ∀ w w', C w → Ext w w' → C w') {Lq : Act → World → Prop} (hsel : Region.noSelect ops = true) :
  ∀ (r : MT) (f : Bool) (done : Array Bool) (a : Act) (w : World), HeadInv md ops ops.size done → (f = true → C w) → mbB md ops bars f r done = true → actMC P ops bars C Lq r a w →
   headC P md ops bars C (fun done a w => Region.ready md ops done = [] ∧ Lq a w) r.len done a w
 | .nil, f, done, a, w, _, _, hB, h => fun w1 hx => ⟨List.isEmpty_iff.1 hB, h w1 hx⟩
 | .q i r, f, done, a, w, inv, hxB, hB, h => by
  simp only [mbB, Bool.and_eq_true] at hB
  obtain ⟨⟨⟨⟨hf, hr⟩, hfr⟩, hb⟩, hB'⟩ := hB
  obtain ⟨o, ho, v, hy, hk⟩ := h
  have hr' : i ∈ Region.ready md ops done := by simpa using hr
  exact headC_take hC ho (Region.noSelect_spec hsel) (barOk_spec hb) (fun done a w hL => hL.1) r.len done a w inv (hxB hf) (Region.free_spec ho hfr) hr' hy
   (headC_mt hC hsel r f _ _ _ (inv.set hr' (Array.getElem?_eq_some_iff.1 ho).1) hxB hB' hk)
 | .m i r, f, done, a, w, inv, hxB, hB, h => by
  simp only [mbB, Bool.and_eq_true, decide_eq_true_eq] at hB
  obtain ⟨hr, hB'⟩ := hB
  intro w1 hx
  have hri : i ∈ Region.ready md ops done := by rw [hr]; simp
  have hlt : ∀ q ∈ Region.ready md ops done, q < ops.size := fun q hq => (Array.getElem?_eq_some_iff.1 (mem_ready.1 hq).2.choose_spec.1).1
  refine ⟨by rw [hr]; simp, fun j hj => ?_⟩
  rw [hr] at hj
  obtain rfl : j = i := by simpa using hj
  exact headC_step hC hx hxB h fun a' w2 hb hk => headC_mt hC hsel r _ _ _ _ (inv.set hri (hlt _ hri)) hb hB' hk
 | .br i j r s, f, done, a, w, inv, hxB, hB, h => by
  simp only [mbB, Bool.and_eq_true, decide_eq_true_eq] at hB
  obtain ⟨⟨⟨hr, hl⟩, hB1⟩, hB2⟩ := hB
  have hl : r.len = s.len := by simpa using hl
  intro w1 hx
  have hlt : ∀ q ∈ Region.ready md ops done, q < ops.size := fun q hq => (Array.getElem?_eq_some_iff.1 (mem_ready.1 hq).2.choose_spec.1).1
  have hri : i ∈ Region.ready md ops done := by rw [hr]; simp
  have hrj : j ∈ Region.ready md ops done := by rw [hr]; simp
  refine ⟨by rw [hr]; simp, fun k hk => ?_⟩
  rw [hr] at hk
  have hk : k = i ∨ k = j := by simpa using hk
  rcases hk with rfl | rfl
  ·exact headC_step hC hx hxB h.1 fun a' w2 hb hk => headC_mt hC hsel r _ _ _ _ (inv.set hri (hlt _ hri)) hb hB1 hk
  ·exact headC_step hC hx hxB h.2 fun a' w2 hb hk => by
    have := headC_mt (Lq := Lq) hC hsel s _ _ _ _ (inv.set hrj (hlt _ hrj)) hb hB2 hk
    show headC P md ops bars C _ r.len _ a' w2
    rw [hl]; exact this
 | .br3 i j k r s t, f, done, a, w, inv, hxB, hB, h => by
  simp only [mbB, Bool.and_eq_true, decide_eq_true_eq] at hB
  obtain ⟨⟨⟨⟨⟨hr, hl⟩, hl2⟩, hB1⟩, hB2⟩, hB3⟩ := hB
  have hl : r.len = s.len := by simpa using hl
  have hl2 : r.len = t.len := by simpa using hl2
  intro w1 hx
  have hlt : ∀ q ∈ Region.ready md ops done, q < ops.size := fun q hq => (Array.getElem?_eq_some_iff.1 (mem_ready.1 hq).2.choose_spec.1).1
  have hri : i ∈ Region.ready md ops done := by rw [hr]; simp
  have hrj : j ∈ Region.ready md ops done := by rw [hr]; simp
  have hrk : k ∈ Region.ready md ops done := by rw [hr]; simp
  refine ⟨by rw [hr]; simp, fun q hq => ?_⟩
  rw [hr] at hq
  have hq : q = i ∨ q = j ∨ q = k := by simpa using hq
  rcases hq with rfl | rfl | rfl
  ·exact headC_step hC hx hxB h.1 fun a' w2 hb hk => headC_mt hC hsel r _ _ _ _ (inv.set hri (hlt _ hri)) hb hB1 hk
  ·exact headC_step hC hx hxB h.2.1 fun a' w2 hb hk => by
    have := headC_mt (Lq := Lq) hC hsel s _ _ _ _ (inv.set hrj (hlt _ hrj)) hb hB2 hk
    show headC P md ops bars C _ r.len _ a' w2
    rw [hl]; exact this
  ·exact headC_step hC hx hxB h.2.2 fun a' w2 hb hk => by
    have := headC_mt (Lq := Lq) hC hsel t _ _ _ _ (inv.set hrk (hlt _ hrk)) hb hB3 hk
    show headC P md ops bars C _ r.len _ a' w2
    rw [hl2]; exact this
 | .br4 i j k m r s t u, f, done, a, w, inv, hxB, hB, h => by
  simp only [mbB, Bool.and_eq_true, decide_eq_true_eq] at hB
  obtain ⟨⟨⟨⟨⟨⟨⟨hr, hl⟩, hl2⟩, hl3⟩, hB1⟩, hB2⟩, hB3⟩, hB4⟩ := hB
  have hl : r.len = s.len := by simpa using hl
  have hl2 : r.len = t.len := by simpa using hl2
  have hl3 : r.len = u.len := by simpa using hl3
  intro w1 hx
  have hlt : ∀ q ∈ Region.ready md ops done, q < ops.size := fun q hq => (Array.getElem?_eq_some_iff.1 (mem_ready.1 hq).2.choose_spec.1).1
  have hri : i ∈ Region.ready md ops done := by rw [hr]; simp
  have hrj : j ∈ Region.ready md ops done := by rw [hr]; simp
  have hrk : k ∈ Region.ready md ops done := by rw [hr]; simp
  have hrm : m ∈ Region.ready md ops done := by rw [hr]; simp
  refine ⟨by rw [hr]; simp, fun q hq => ?_⟩
  rw [hr] at hq
  have hq : q = i ∨ q = j ∨ q = k ∨ q = m := by simpa using hq
  rcases hq with rfl | rfl | rfl | rfl
  ·exact headC_step hC hx hxB h.1 fun a' w2 hb hk => headC_mt hC hsel r _ _ _ _ (inv.set hri (hlt _ hri)) hb hB1 hk
  ·exact headC_step hC hx hxB h.2.1 fun a' w2 hb hk => by
    have := headC_mt (Lq := Lq) hC hsel s _ _ _ _ (inv.set hrj (hlt _ hrj)) hb hB2 hk
    show headC P md ops bars C _ r.len _ a' w2
    rw [hl]; exact this
  ·exact headC_step hC hx hxB h.2.2.1 fun a' w2 hb hk => by
    have := headC_mt (Lq := Lq) hC hsel t _ _ _ _ (inv.set hrk (hlt _ hrk)) hb hB3 hk
    show headC P md ops bars C _ r.len _ a' w2
    rw [hl2]; exact this
  ·exact headC_step hC hx hxB h.2.2.2 fun a' w2 hb hk => by
    have := headC_mt (Lq := Lq) hC hsel u _ _ _ _ (inv.set hrm (hlt _ hrm)) hb hB4 hk
    show headC P md ops bars C _ r.len _ a' w2
    rw [hl3]; exact this
theorem actMC_ext {bars : List Nat} {C : World → Prop} {Lq : Act → World → Prop} : ∀ (r : MT) (a : Act) (w w' : World), Ext w w' → actMC P ops bars C Lq r a w → actMC P ops bars C Lq r a w'
 | .nil, _, _, _, hx, h => fun w1 h1 => h w1 (hx.trans h1)
 | .q _ r, _, _, _, hx, ⟨o, ho, v, hy, hk⟩ => ⟨o, ho, v, hy, actMC_ext r _ _ _ hx hk⟩
 | .m _ _, _, _, _, hx, h => fun w1 h1 => h w1 (hx.trans h1)
 | .br _ _ _ _, _, _, _, hx, h => ⟨fun w1 h1 => h.1 w1 (hx.trans h1), fun w1 h1 => h.2 w1 (hx.trans h1)⟩
 | .br3 _ _ _ _ _ _, _, _, _, hx, h => ⟨fun w1 h1 => h.1 w1 (hx.trans h1), fun w1 h1 => h.2.1 w1 (hx.trans h1), fun w1 h1 => h.2.2 w1 (hx.trans h1)⟩
 | .br4 _ _ _ _ _ _ _ _, _, _, _, hx, h => ⟨fun w1 h1 => h.1 w1 (hx.trans h1), fun w1 h1 => h.2.1 w1 (hx.trans h1), fun w1 h1 => h.2.2.1 w1 (hx.trans h1), fun w1 h1 => h.2.2.2 w1 (hx.trans h1)⟩
theorem region_mcA {Q : Exit → Act → World → Prop} {a : Act} {w : World} {l : List Oper} {C : World → Prop} (hC : ∀ w w', C w → Ext w w' → C w') (hw : C w) (bars : List Nat) (r : MT) (hm : P.follows .mixedOrders = true) (hB : (mbA l.toArray bars r && Nat.beq r.len l.length) = true)
  (h : actMC P l.toArray bars C (fun a' w' => Q .normal a' w') r a w) (t : Nat) :
  wpOps P l.toArray Q (Region.schedule (P.follows .mixedOrders) l.toArray t) a { w with drawn := w.drawn + 1 } := by
 simp only [mbA, Bool.and_eq_true] at hB
 obtain ⟨⟨hsel, hmix⟩, hlen⟩ := hB
 have hlen : r.len = l.length := by simpa using hlen
 have inv0 : HeadInv .any l.toArray l.toArray.size (Array.replicate l.toArray.size false) :=
  ⟨by simp, fun j oj _ hl => (by rw [getD_replicate_false] at hl; cases hl), fun t h1 h2 => absurd h2 (by omega)⟩
 have H := headC_mt (P := P) (md := .any) hC hsel r true _ a { w with drawn := w.drawn + 1 } inv0 (fun _ => hC _ _ hw (Ext.refl w).drew) hmix (actMC_ext r a w _ (Ext.refl w).drew h)
 refine any_ops hm ?_ t
 have key := any_of_headC (Q := Q) (g := 0) (fun done a' w' hL => ⟨hL.1, hL.2⟩) r.len _ a _ H
 have e2 : r.len + 0 = l.toArray.size := by rw [hlen]; simp
 rwa [e2] at key
end
/-! ### over environments -/
def quiC (P : Program) (C : World → Prop) : Hand Unit where
 run := fun s _ K => ∃ v, (∀ w1, C w1 → s.run P w1 = .ok v w1) ∧ K v ()
 call := fun f args _ K => ∃ v, (∀ w1, C w1 → Calls P f args w1 fun e w' => e = .returned v ∧ Ext w1 w') ∧ K v ()
 yield := fun _ _ _ _ => False
 ext := extP P
def MC (P : Program) (C : World → Prop) (x : Sem Next) (_ : Unit) (K : EV → Unit → Prop) : Prop :=
 ∃ e, (∀ w1, C w1 → Oper.quietUpon P (Ext w1) w1 e.val (x.run P w1)) ∧ K e ()
theorem quiC_laws (P : Program) (C : World → Prop) : Laws P (quiC P C) (MC P C) where
 congr := fun h ⟨e, hw, hk⟩ => ⟨e, fun w hc => by rw [h]; exact hw w hc, hk⟩
 pure := fun {e s K} hk => ⟨e, fun w _ => ⟨rfl, rfl⟩, hk⟩
 run := fun {x s K} h => by
  obtain ⟨v, hr, hk⟩ := h
  refine ⟨.v v, fun w hc => ?_, hk⟩
  rw [Sem.run_bind, hr w hc]
  exact ⟨rfl, rfl⟩
 runU := fun {x s K} h => by
  obtain ⟨v, hr, hk⟩ := h
  refine ⟨.v v, fun w hc => ?_, hk⟩
  have hr := hr w hc
  rw [Sem.run_bind] at hr ⊢
  cases hx : x.run P w with
  | ok u w2 =>
   rw [hx] at hr
   simp only [Result.andThen, Sem.run_pure, Result.ok.injEq] at hr
   obtain ⟨rfl, rfl⟩ := hr
   exact ⟨rfl, rfl⟩
  | halt h w2 => rw [hx] at hr; simp [Result.andThen] at hr
 call := fun {f args s K} he h => by
  obtain ⟨v, hr, hk⟩ := h
  refine ⟨.v v, fun w hc => ?_, hk⟩
  rw [he]
  exact ⟨rfl, hr w hc⟩
 yield := fun h => h.elim
 ext := fun h => h
section
variable (P : Program) (T : Tab) (Fs : List Nat) (n : Nat) (all : List Oper) (bars : List Nat) (C : World → Prop)
abbrev mStepC (i : Nat) (k : Env → World → Prop) (l : Env) (w : World) : Prop := match all[i]? with
 | none => False
 | some o => ∀ w1, Ext w w1 → vops T Fs (nrmH0 P) n all [o] l w1 fun l w2 => oblC (bars.contains i) C w1 w2 (k l w2)
abbrev vmtC (K : Env → World → Prop) : MT → Env → World → Prop
 | .nil, l, w => ∀ w1, Ext w w1 → K l w1
 | .q i r, l, w => match all[i]? with
  | none => False
  | some o => vops T Fs (quiC P C) n all [o] l () fun l _ => vmtC K r l w
 | .m i r, l, w => mStepC P T Fs n all bars C i (fun l w => vmtC K r l w) l w
 | .br i j r s, l, w => mStepC P T Fs n all bars C i (fun l w => vmtC K r l w) l w ∧ mStepC P T Fs n all bars C j (fun l w => vmtC K s l w) l w
 | .br3 i j k r s t, l, w => mStepC P T Fs n all bars C i (fun l w => vmtC K r l w) l w ∧ mStepC P T Fs n all bars C j (fun l w => vmtC K s l w) l w ∧ mStepC P T Fs n all bars C k (fun l w => vmtC K t l w) l w
 | .br4 i j k m r s t u, l, w => mStepC P T Fs n all bars C i (fun l w => vmtC K r l w) l w ∧ mStepC P T Fs n all bars C j (fun l w => vmtC K s l w) l w ∧ mStepC P T Fs n all bars C k (fun l w => vmtC K t l w) l w ∧ mStepC P T Fs n all bars C m (fun l w => vmtC K u l w) l w
end
section
variable {P : Program} {T : Tab} {Fs : List Nat} (hT : tabOk P T = true) (hF : ∀ f, memB f Fs = true → Enters P f)
include hT hF
theorem mStepC_act {n : Nat} {all : List Oper} {bars : List Nat} {C : World → Prop} {i : Nat} {k : Env → World → Prop} {q : Act → World → Prop} (hk : ∀ l a w, At n l a → k l w → q a w) {l : Env} {a : Act} {w : World} (ha : At n l a) (h : mStepC P T Fs n all bars C i k l w) :
  stepC P all.toArray bars C i q a w := by
 have ho : ∀ (b : Bool) (w1 w : World) (p p' : Prop), (p → p') → oblC b C w1 w p → oblC b C w1 w p' := fun b w1 w p p' hp h => by
  cases b with
  | true => exact hp h
  | false => exact ⟨h.1, hp h.2⟩
 unfold mStepC at h
 cases hi : all[i]? with
 | none => simp only [hi] at h
 | some o =>
  simp only [hi] at h
  intro w1 hx
  unfold okOp
  rw [show all.toArray[i]? = some o by simpa using hi]
  rcases vops_one hT hF (nrm_laws0 P) ha (h w1 hx) with ⟨hw, l', ha', hq⟩ | ⟨hw, l', ha', hk'⟩
  ·simp only [hw, if_true]
   refine hq o a _ QF fun e w' hk' => ?_
   obtain ⟨l2, ha2, hk'⟩ := vdst_put ha' hk'
   exact ho _ _ _ _ _ (hk _ _ _ ha2) hk'
  ·simp only [hw, Bool.false_eq_true, if_false]
   obtain ⟨l2, ha2, hk'⟩ := vdst_put ha' hk'
   exact ho _ _ _ _ _ (hk _ _ _ ha2) hk'
theorem vmtC_act {n : Nat} {all : List Oper} {bars : List Nat} {C : World → Prop} {K : Env → World → Prop} {Lq : Act → World → Prop} (hK : ∀ l a w, At n l a → K l w → Lq a w) :
  ∀ {r : MT} {l : Env} {a : Act} {w : World}, At n l a → vmtC P T Fs n all bars C K r l w → actMC P all.toArray bars C Lq r a w
 | .nil, l, a, w, ha, h => fun w1 hx => hK _ _ _ ha (h w1 hx)
 | .q i r, l, a, w, ha, h => by
  simp only [vmtC] at h
  cases hi : all[i]? with
  | none => simp only [hi] at h
  | some o =>
   simp only [hi] at h
   refine ⟨o, by simpa using hi, ?_⟩
   rcases vops_one hT hF (quiC_laws P C) ha h with ⟨hw, l', ha', e, hq, hk⟩ | ⟨hw, l', ha', hk⟩
   ·obtain ⟨l2, ha2, hk⟩ := vdst_put ha' hk
    exact ⟨e.val, .inl ⟨hw, hq⟩, vmtC_act hK ha2 hk⟩
   ·obtain ⟨l2, ha2, hk⟩ := vdst_put ha' hk
    exact ⟨undef, .inr ⟨hw, rfl⟩, vmtC_act hK ha2 hk⟩
 | .m i r, l, a, w, ha, h => mStepC_act hT hF (k := fun l w => vmtC P T Fs n all bars C K r l w) (q := fun a w => actMC P all.toArray bars C Lq r a w) (fun _ _ _ ha2 hk => vmtC_act hK ha2 hk) ha h
 | .br i j r s, l, a, w, ha, h => ⟨mStepC_act hT hF (k := fun l w => vmtC P T Fs n all bars C K r l w) (q := fun a w => actMC P all.toArray bars C Lq r a w) (fun _ _ _ ha2 hk => vmtC_act hK ha2 hk) ha h.1, mStepC_act hT hF (k := fun l w => vmtC P T Fs n all bars C K s l w) (q := fun a w => actMC P all.toArray bars C Lq s a w) (fun _ _ _ ha2 hk => vmtC_act hK ha2 hk) ha h.2⟩
 | .br3 i j k r s t, l, a, w, ha, h => ⟨mStepC_act hT hF (k := fun l w => vmtC P T Fs n all bars C K r l w) (q := fun a w => actMC P all.toArray bars C Lq r a w) (fun _ _ _ ha2 hk => vmtC_act hK ha2 hk) ha h.1, mStepC_act hT hF (k := fun l w => vmtC P T Fs n all bars C K s l w) (q := fun a w => actMC P all.toArray bars C Lq s a w) (fun _ _ _ ha2 hk => vmtC_act hK ha2 hk) ha h.2.1, mStepC_act hT hF (k := fun l w => vmtC P T Fs n all bars C K t l w) (q := fun a w => actMC P all.toArray bars C Lq t a w) (fun _ _ _ ha2 hk => vmtC_act hK ha2 hk) ha h.2.2⟩
 | .br4 i j k m r s t u, l, a, w, ha, h => ⟨mStepC_act hT hF (k := fun l w => vmtC P T Fs n all bars C K r l w) (q := fun a w => actMC P all.toArray bars C Lq r a w) (fun _ _ _ ha2 hk => vmtC_act hK ha2 hk) ha h.1, mStepC_act hT hF (k := fun l w => vmtC P T Fs n all bars C K s l w) (q := fun a w => actMC P all.toArray bars C Lq s a w) (fun _ _ _ ha2 hk => vmtC_act hK ha2 hk) ha h.2.1, mStepC_act hT hF (k := fun l w => vmtC P T Fs n all bars C K t l w) (q := fun a w => actMC P all.toArray bars C Lq t a w) (fun _ _ _ ha2 hk => vmtC_act hK ha2 hk) ha h.2.2.1, mStepC_act hT hF (k := fun l w => vmtC P T Fs n all bars C K u l w) (q := fun a w => actMC P all.toArray bars C Lq u a w) (fun _ _ _ ha2 hk => vmtC_act hK ha2 hk) ha h.2.2.2⟩
/-- the class: what the list H says of the call's own things -/
theorem v_mtC {n : Nat} {ops : List Oper} {l : Env} {w : World} {K : Env → World → Prop} (hm : P.follows .mixedOrders = true) {M : List Nat} {w0 : World} (H : List It) (hp : HpM M w0 w H) (bars : List Nat) (r : MT) (hB : (mbA ops.toArray bars r && Nat.beq r.len ops.length && noDefer ops) = true)
  (h : vmtC P T Fs n ops bars (fun w1 => HpM M w0 w1 H) K r l w) : VDraw P n ops l w K := by
 have hB' := hB
 rw [Bool.and_eq_true] at hB'
 refine VDraw.ofPlain (fun a Q ha hK => ?_) hB'.2
 refine region_mcA (C := fun w1 => HpM M w0 w1 H) (fun w w' h hx => h.call hx) hp bars r hm hB'.1 ?_
 exact vmtC_act hT hF (fun l a w ha h => hK l a w ha h) ha h
end
structure QCallC (P : Program) (f : Nat) (args : Array Value) (C : World → Prop) (K : Value → Unit → Prop) : Prop where
 out : ∃ v, (∀ w1, C w1 → Calls P f args w1 fun e w' => e = .returned v ∧ Ext w1 w') ∧ K v ()
theorem PureF.quietC {P : Program} {f : Nat} {args : Array Value} {v : Value} {C : World → Prop} {K : Value → Unit → Prop} (h : PureF P f args v) (hk : K v ()) : QCallC P f args C K := ⟨v, fun w1 _ => h w1, hk⟩
end V
end Go.Proofs.Ytefjgoeabfgkmaa
