/- Chapter 12: ConsentTurns. -/
/- ConsentTurns: for every draft, bends, watch, word, path and time, Restart and Switch return what the reference returns. -/
import Derived.Test.YtgkhcgiggjijlaaGreatGU13
import Derived.Test.YtgkhcgiggjijlaaGreatRows
import Derived.WalkKit
import Derived.ProofKit
import Derived.OpenShut
import Derived.ShutString
import Derived.ChangeOld
import Derived.Below
import Derived.Test.YtgkhcgiggjijlaaGreatGU03
namespace Go.Proofs.YtgkhcgiggjijlaaGreat
set_option linter.unusedSimpArgs false
set_option linter.unusedVariables false
set_option maxRecDepth 100000
open Go.RowKit V
set_option maxHeartbeats 16000000
theorem turns_c {W : World} {vn ve v : Value} (p : Nat) (hp256 : p < 256) (nb : List UInt8) (evs : List Ev) (hev : ∀ x ∈ evs, x.Ok) (hn : SLv W vn (bytesV nb)) (he : SLn W 5 ve (evs.map Ev.c)) (b c : Bn) (hb : b.Ok) (hc : c.Ok) (z : Wt) (hz : z.Ok) (hv : SLv W v (iv z.asked)) (wd : ByteArray) (hwd : SzS wd) (pa pb : Ad) (hpa : pa.Ok) (hpb : pb.Ok) (n5 : Nat) (hn5 : n5 < 65536) (nw : Int) (s0 s1 : Nat) (h0 : s0 < 256) (h1 : s1 < 256) :
    Calls Tryz.prog 6 #[.agg #[.int .u8 p, vn, ve], .agg (b.c ++ c.c).toArray, .agg (z.c v).toArray, .string wd, .agg #[.string pa.h, .int .i64 pa.p, .string pb.h, .int .i64 pb.p], .int .u16 n5, .int .i64 nw, .agg #[.int .u8 s0, .int .u8 s1]] W fun e w' => e = .returned (.bool true) ∧ Ext W w' := by
  have lwd := hwd
  unfold SzS maxLen at lwd
  refine v_reads (args := [.agg #[.int .u8 p, vn, ve], .agg #[.int .u8 b.what, .int .u8 b.at_, .int .i64 b.n, .string b.s, .string b.a.h, .int .i64 b.a.p, .int .u8 c.what, .int .u8 c.at_, .int .i64 c.n, .string c.s, .string c.a.h, .int .i64 c.a.p], .agg #[.string z.a.h, .int .i64 z.a.p, .string z.b.h, .int .i64 z.b.p, .int .i64 z.now, .int .i64 z.nxt, .int .i64 z.til, .int .i64 z.ser, .bool z.gone, .string z.noise, .string z.word, .string z.fresh, v], .string wd, .agg #[.string pa.h, .int .i64 pa.p, .string pb.h, .int .i64 pb.p], .int .u16 n5, .int .i64 nw, .agg #[.int .u8 s0, .int .u8 s1]]) TTok FFok Tryz.func6 rfl rfl ?_
  conv => whnf
  refine VSeq.mk fun Kq hKq => ?_
  conv => whnf
  have hp := Hp.nil W
  refine hp.kboxA fun q8 w hp hx => ?_
  conv => whnf
  refine hp.kboxA fun q9 w hp hx => ?_
  conv => whnf
  refine hp.kboxA fun q10 w hp hx => ?_
  conv => whnf
  refine hp.kboxA fun q12 w hp hx => ?_
  conv => whnf
  refine hp.kboxA fun q15 w hp hx => ?_
  conv => whnf
  refine hKq _ _ _ (.refl _) ?_
  clear hKq Kq
  conv => whnf
  refine VSeq.mk fun Kq hKq => ?_
  conv => whnf
  refine VSeq.mk fun Kq hKq => ?_
  conv => whnf
  have m1 : (min (wd.size : Int) 70 = ((min wd.size 70 : Nat) : Int)) := by omega
  (refine V.CallW.out ?_; (conv => arg 3; dsimp only [EV.val, List.toList_toArray, List.nil_append, List.append_nil, List.cons_append]); (with_reducible refine V.PureF.useW (wakes_p) fun w hx => ?_); try (have hp := hp.call hx); conv => whnf)
  (refine hKq _ _ _ (.refl _) ?_; clear hKq Kq; conv => whnf)
  (refine And.intro (fun h => absurd h (by decide)) (fun _ => ?_); conv => whnf)
  (refine hKq _ _ _ (.refl _) ?_; clear hKq Kq; conv => whnf)
  (refine VSeq.mk fun Kq hKq => ?_; conv => whnf)
  refine ⟨min wd.size 70, ⟨m1, by omega⟩, ?_⟩
  conv => whnf
  refine hKq _ _ _ (.refl _) ?_
  clear hKq Kq
  conv => whnf
  refine VSeq.mk fun Kq hKq => ?_
  conv => whnf
  refine VSeq.mk fun Kq hKq => ?_
  conv => whnf
  (refine ⟨_, _, Blk.ldV (vs := [_, _, _]) (hp.get (i := 4) rfl) TTok rfl rfl rfl, ?_⟩; conv => whnf)
  (refine ⟨_, _, Blk.ldV (vs := [_, _, _, _, _, _, _, _, _, _, _, _]) (hp.get (i := 3) rfl) TTok rfl rfl rfl, ?_⟩; conv => whnf)
  (refine ⟨_, _, Blk.ldV (vs := [_, _, _, _, _, _, _, _, _, _, _, _, _]) (hp.get (i := 2) rfl) TTok rfl rfl rfl, ?_⟩; conv => whnf)
  have hwx := cut_sz hwd (min wd.size 70)
  obtain ⟨wx, hwe⟩ : ∃ wx, wd.extract 0 (min wd.size 70) = wx := ⟨_, rfl⟩
  rw [hwe] at hwx ⊢
  clear hwe
  refine Calls.mono (watches_c p hp256 nb evs hev (hn.ext hp.ext) (he.ext hp.ext) b c hb hc z hz (hv.ext hp.ext)) ?_
  rintro _ w ⟨_, rfl, hx, hF⟩
  refine ⟨_, rfl, ?_⟩
  obtain ⟨A, rfl⟩ := hF.1
  have hp := hp.call hx
  conv => whnf
  (refine hKq _ _ _ (.refl _) ?_; clear hKq Kq; conv => whnf)
  clear hn he hb hc hz hv hwd lwd m1
  refine ⟨fun mm e w' => ∃ (k : Nat), mm + k = 4 ∧ e = [(3, .v (.string wx)), (5, .v (.int .u16 n5)), (6, .v (.int .i64 nw)), (12, .v (.pointer (some ⟨q12, 0, none⟩))), (15, .v (.pointer (some ⟨q15, 0, none⟩))), (43, .v (.agg A)), (44, .v (.int .i64 k))] ∧ Four w' (.agg A) ∧ HpM [] W w' [blk q15 [.int .u8 s0, .int .u8 s1] 69, blk q12 [.string pa.h, .int .i64 pa.p, .string pb.h, .int .i64 pb.p] 31],
    ⟨4, _, ⟨0, by omega, rfl, hF, hp.pick [0, 1] (by decide)⟩, (sub_cons rfl (sub_cons rfl (sub_cons rfl (sub_cons rfl (sub_cons rfl (sub_cons rfl (sub_cons rfl sub_nil)))))))⟩, ?_⟩
  clear hF hp hx
  repeat clear hp
  rintro mm _ w ⟨k, hmm, rfl, hF, hp⟩
  conv => whnf
  refine VSeq.mk fun Kq hKq => ?_
  conv => whnf
  refine hKq _ _ _ (.refl _) ?_
  clear hKq Kq
  conv => whnf
  refine VSeq.mk fun Kq hKq => ?_
  conv => whnf
  skip
  refine ⟨fun hlt => ?_, fun hlt => ?_⟩
  · have hlt := of_decide_eq_true hlt
    conv => whnf
    refine hKq _ _ _ (.refl _) ?_
    clear hKq Kq
    conv => whnf
    refine VSeq.mk fun Kq hKq => ?_
    conv => whnf
    refine VSeq.mk fun Kq hKq => ?_
    conv => whnf
    obtain ⟨y, vy, yo, sv, hix⟩ := hF.2 k (by omega)
    obtain ⟨pv, cv, rfl⟩ := sv.shape
    dsimp only [Wt.c] at hix
    have hpO := hp
    clear hp
    repeat clear hp
    have hp := Hp.nil w
    skip
    refine ⟨_, _, hix _, ?_⟩
    conv => whnf
    clear hix
    (refine hp.kalloc z34 fun al34 w hp hx => ?_; conv => whnf)
    (refine hp.kstA TTok rfl 0 rfl rfl (oneC_of rfl) (by rfl) fun w hp => ?_; try simp only [List.set_cons_zero, List.set_cons_succ, EV.val] at hp; conv => whnf)
    (refine hKq _ _ _ (.refl _) ?_; clear hKq Kq; conv => whnf)
    (refine VSeq.mk fun Kq hKq => ?_; conv => whnf)
    (refine ⟨_, _, Blk.ld (hp.get (i := 0) rfl) TTok rfl rfl, ?_⟩; conv => whnf)
    (refine And.intro (by first | omega | decide) ?_; conv => whnf)
    (refine Or.inl (And.intro (by first | omega | decide) ?_); conv => whnf)
    obtain ⟨t1, ht1⟩ : ∃ t, t = IntKind.i64.wrap (y.now + (n5 : Int) % 9000) := ⟨_, rfl⟩
    refine Or.inr ⟨t1, ht1, ?_⟩
    clear ht1
    conv => whnf
    (refine ⟨_, _, Blk.ld (hp.get (i := 0) rfl) TTok rfl rfl, ?_⟩; conv => whnf)
    obtain ⟨t2, ht2⟩ : ∃ t, t = IntKind.i64.wrap (y.til - 1) := ⟨_, rfl⟩
    refine Or.inr ⟨t2, ht2, ?_⟩
    clear ht2
    conv => whnf
    (refine And.intro (by first | omega | decide) ?_; conv => whnf)
    (refine Or.inl (And.intro (by first | omega | decide) ?_); conv => whnf)
    obtain ⟨t3, ht3⟩ : ∃ t, t = IntKind.i64.wrap (t2 + (n5 : Int) % 2) := ⟨_, rfl⟩
    refine Or.inr ⟨t3, ht3, ?_⟩
    clear ht3
    conv => whnf
    (refine ⟨_, _, bld70_0_1_2 _ _ _ _, ?_⟩; conv => whnf)
    (refine hKq _ _ _ (.refl _) ?_; clear hKq Kq; conv => whnf)
    refine ⟨fun mm e w' => ∃ (m : Nat), mm + m = 3 ∧ e = [(3, .v (.string wx)), (5, .v (.int .u16 n5)), (6, .v (.int .i64 nw)), (12, .v (.pointer (some ⟨q12, 0, none⟩))), (15, .v (.pointer (some ⟨q15, 0, none⟩))), (18, .v (.pointer (some ⟨al34, 0, none⟩))), (43, .v (.agg A)), (44, .v (.int .i64 k)), (61, .v (.agg #[.int .i64 t1, .int .i64 t3, .int .i64 nw])), (62, .v (.int .i64 m))] ∧ Four w' (.agg A) ∧ SLv w' (.slice pv (iv y.asked).length cv) (iv y.asked) ∧ HpM [] W w' [blk al34 [.string y.a.h, .int .i64 y.a.p, .string y.b.h, .int .i64 y.b.p, .int .i64 y.now, .int .i64 y.nxt, .int .i64 y.til, .int .i64 y.ser, .bool y.gone, .string y.noise, .string y.word, .string y.fresh, .slice pv (iv y.asked).length cv] 34, blk q15 [.int .u8 s0, .int .u8 s1] 69, blk q12 [.string pa.h, .int .i64 pa.p, .string pb.h, .int .i64 pb.p] 31],
      ⟨3, _, ⟨0, by omega, rfl, hF.ext hp.ext, sv.ext hp.ext, hpO.join hp⟩, (sub_cons rfl (sub_cons rfl (sub_cons rfl (sub_cons rfl (sub_cons rfl (sub_cons rfl (sub_cons rfl (sub_cons rfl (sub_cons rfl (sub_cons rfl sub_nil))))))))))⟩, ?_⟩
    clear hF hp sv hx hpO
    repeat clear hp
    rintro m2 _ w ⟨m, hm2, rfl, hF, sv, hp⟩
    conv => whnf
    refine VSeq.mk fun Kq hKq => ?_
    conv => whnf
    refine hKq _ _ _ (.refl _) ?_
    clear hKq Kq
    conv => whnf
    refine VSeq.mk fun Kq hKq => ?_
    conv => whnf
    skip
    refine ⟨fun hlm => ?_, fun hlm => ?_⟩
    · have hlm := of_decide_eq_true hlm
      conv => whnf
      refine hKq _ _ _ (.refl _) ?_
      clear hKq Kq
      conv => whnf
      refine VSeq.mk fun Kq hKq => ?_
      conv => whnf
      refine VSeq.mk fun Kq hKq => ?_
      conv => whnf
      obtain ⟨t, hix⟩ := ix53 t1 t3 nw m (by omega)
      skip
      refine ⟨_, _, hix _, ?_⟩
      conv => whnf
      refine hKq _ _ _ (.refl _) ?_
      clear hKq Kq
      conv => whnf
      refine VSeq.mk fun Kq hKq => ?_
      conv => whnf
      refine VSeq.mk fun Kq hKq => ?_
      conv => whnf
      clear hix
      skip
      refine v_mixA TTok FFok mixed [(0, false), (1, false), (2, false), (3, false), (4, false), (5, false), (6, false), (7, false)] (by kernel_rfl) ?_
      conv => whnf
      (refine ⟨0, ⟨rfl, by decide⟩, ?_⟩; conv => whnf)
      (refine ⟨_, fun w' hx' => Blk.ld (Blk.ext (hp.get (i := 1) rfl) hx') TTok rfl rfl, ?_⟩; conv => whnf)
      (refine V.QCallW.out ?_; (conv => arg 3; dsimp only [EV.val, List.toList_toArray, List.nil_append, List.append_nil, List.cons_append]); (with_reducible refine V.PureF.quietW (Words_p _ (by assumption)) ?_); conv => whnf)
      (refine ⟨_, fun w' hx' => Blk.ld (Blk.ext (hp.get (i := 0) rfl) hx') TTok rfl rfl, ?_⟩; conv => whnf)
      (refine ⟨_, fun w' hx' => bld71_0_1_2 w' _ _ _, ?_⟩; conv => whnf)
      (intro w hx; try (have hp := hp.call hx); conv => whnf)
      (refine hKq _ _ _ (.refl _) ?_; clear hKq Kq; conv => whnf)
      have hF := hF.ext hx
      have sv := sv.ext hx
      refine ⟨fun mm e w' => ∃ (j : Nat), mm + j = 3 ∧ e = [(3, .v (.string wx)), (5, .v (.int .u16 n5)), (6, .v (.int .i64 nw)), (12, .v (.pointer (some ⟨q12, 0, none⟩))), (15, .v (.pointer (some ⟨q15, 0, none⟩))), (18, .v (.pointer (some ⟨al34, 0, none⟩))), (20, .v (.int .i64 t)), (43, .v (.agg A)), (44, .v (.int .i64 k)), (61, .v (.agg #[.int .i64 t1, .int .i64 t3, .int .i64 nw])), (62, .v (.int .i64 m)), (71, .v (.agg #[.string wx, .string (wordsF s0), .string y.word])), (72, .v (.int .i64 j))] ∧ Four w' (.agg A) ∧ SLv w' (.slice pv (iv y.asked).length cv) (iv y.asked) ∧ HpM [] W w' [blk al34 [.string y.a.h, .int .i64 y.a.p, .string y.b.h, .int .i64 y.b.p, .int .i64 y.now, .int .i64 y.nxt, .int .i64 y.til, .int .i64 y.ser, .bool y.gone, .string y.noise, .string y.word, .string y.fresh, .slice pv (iv y.asked).length cv] 34, blk q15 [.int .u8 s0, .int .u8 s1] 69, blk q12 [.string pa.h, .int .i64 pa.p, .string pb.h, .int .i64 pb.p] 31],
        ⟨3, _, ⟨0, by omega, rfl, hF, sv, hp⟩, (sub_cons rfl (sub_cons rfl (sub_cons rfl (sub_cons rfl (sub_cons rfl (sub_cons rfl (sub_cons rfl (sub_cons rfl (sub_cons rfl (sub_cons rfl (sub_cons rfl (sub_cons rfl (sub_cons rfl sub_nil)))))))))))))⟩, ?_⟩
      clear hF hp sv
      repeat clear hp
      rintro m4 _ w ⟨j, hm4, rfl, hF, sv, hp⟩
      conv => whnf
      refine VSeq.mk fun Kq hKq => ?_
      conv => whnf
      refine hKq _ _ _ (.refl _) ?_
      clear hKq Kq
      conv => whnf
      refine VSeq.mk fun Kq hKq => ?_
      conv => whnf
      skip
      refine ⟨fun hlj => ?_, fun hlj => ?_⟩
      · have hlj := of_decide_eq_true hlj
        conv => whnf
        refine hKq _ _ _ (.refl _) ?_
        clear hKq Kq
        conv => whnf
        refine VSeq.mk fun Kq hKq => ?_
        conv => whnf
        refine VSeq.mk fun Kq hKq => ?_
        conv => whnf
        refine Exists.elim (ix5s hwx (wordsF_s s0) yo.word j (Int.ofNat_lt.1 hlj)) fun sx hsx => ?_
        have hz := hsx.1
        have hix := hsx.2
        clear hsx
        skip
        refine ⟨_, _, hix _, ?_⟩
        conv => whnf
        refine hKq _ _ _ (.refl _) ?_
        clear hKq Kq
        conv => whnf
        refine VSeq.mk fun Kq hKq => ?_
        conv => whnf
        clear hix
        (refine ⟨_, _, Blk.ldV (vs := [_, _, _, _, _, _, _, _, _, _, _, _, _]) (hp.get (i := 0) rfl) TTok rfl rfl rfl, ?_⟩; conv => whnf)
        have sT := RestE_c y yo sv t sx hz
        have sR := fun {W : World} hv => RestE12_c (W := W) (v := .slice pv (iv y.asked).length cv) y yo hv t sx hz
        have oR := restE_ok yo t hz
        refine Exists.elim (⟨_, rfl⟩ : ∃ R, restE y t sx = R) fun R hRe => ?_
        rw [hRe] at sT sR oR
        clear hRe
        dsimp only [Wt.c] at sT sR
        refine ResW.mono sT fun w p1 c1 hx hs1 => ?_
        refine ⟨_, rfl, ?_⟩
        have hpA := hp.call hx
        have B0 : Blk w al34 _ _ := hpA.get (i := 0) rfl
        have hF := hF.ext hx
        have sv := sv.ext hx
        clear hp sT
        repeat clear hp
        have hp := Hp.nil w
        conv => whnf
        (refine hp.kalloc z34 fun al34 w hp hx => ?_; conv => whnf)
        (refine hp.kstA TTok rfl 0 rfl rfl (oneC_of rfl) (by rfl) fun w hp => ?_; try simp only [List.set_cons_zero, List.set_cons_succ, EV.val] at hp; conv => whnf)
        (refine hKq _ _ _ (.refl _) ?_; clear hKq Kq; conv => whnf)
        (refine VSeq.mk fun Kq hKq => ?_; conv => whnf)
        (refine ⟨_, _, Blk.ldN (Blk.ext B0 hp.ext) TTok rfl rfl, ?_⟩; conv => whnf)
        refine ResW.mono (sR (sv.ext hp.ext)) fun w p2 c2 hx hs2 => ?_
        refine ⟨_, rfl, ?_⟩
        have hpB := hp.call hx
        have B1 : Blk w _ _ _ := hpB.get (i := 0) rfl
        have hs1 := hs1.ext hpB.ext
        have hF := hF.ext hpB.ext
        have sv := sv.ext hpB.ext
        clear hp sR B0
        repeat clear hp
        have hp := Hp.nil w
        conv => whnf
        (refine hp.kalloc z34 fun al34 w hp hx => ?_; conv => whnf)
        (refine hp.kstA TTok rfl 0 rfl rfl (oneC_of rfl) (by rfl) fun w hp => ?_; try simp only [List.set_cons_zero, List.set_cons_succ, EV.val] at hp; conv => whnf)
        (refine hKq _ _ _ (.refl _) ?_; clear hKq Kq; conv => whnf)
        (refine VSeq.mk fun Kq hKq => ?_; conv => whnf)
        (refine VSeq.mk fun Kq hKq => ?_; conv => whnf)
        (refine hKq _ _ _ (.refl _) ?_; clear hKq Kq; conv => whnf)
        (refine And.intro (fun h => absurd (of_decide_eq_true h) (by first | (intro h2; exact absurd rfl h2) | omega | decide)) (fun _ => ?_); conv => whnf)
        (refine ⟨_, _, Blk.ldN (Blk.ext B1 hp.ext) TTok rfl rfl, ?_⟩; conv => whnf)
        (refine ⟨_, _, Blk.ldV (vs := [_, _, _, _, _, _, _, _, _, _, _, _, _]) (hp.get (i := 0) rfl) TTok rfl rfl rfl, ?_⟩; conv => whnf)
        refine V.CallsUse (Same12_c R.1 oR (hs1.ext hp.ext) (hs2.ext hp.ext)) fun w hx => ?_
        have hp := hp.call hx
        conv => whnf
        (refine hKq _ _ _ (.refl _) ?_; clear hKq Kq; conv => whnf)
        (refine And.intro (fun h => absurd h (by decide)) (fun _ => ?_); conv => whnf)
        (refine hKq _ _ _ (.refl _) ?_; clear hKq Kq; conv => whnf)
        (refine Or.inl (And.intro (by first | omega | decide) ?_); conv => whnf)
        refine ⟨m4 - 1, _, by omega, ⟨j + 1, by omega, rfl, hF.ext hp.ext, sv.ext hp.ext, ((hpA.join hpB).join hp).pick [2, 3, 4] (by decide)⟩, (sub_cons rfl (sub_cons rfl (sub_cons rfl (sub_cons rfl (sub_cons rfl (sub_cons rfl (sub_cons rfl (sub_cons rfl (sub_cons rfl (sub_cons rfl (sub_cons rfl (sub_cons rfl (sub_cons rfl sub_nil)))))))))))))⟩
      · have hlj := of_decide_eq_false hlj
        conv => whnf
        clear hKq Kq
        refine hKq _ _ _ (.refl _) ?_
        clear hKq Kq
        conv => whnf
        refine VSeq.mk fun Kq hKq => ?_
        conv => whnf
        skip
        refine v_mixA TTok FFok mixed [(0, false), (1, false), (2, false), (3, false), (4, false), (5, false), (6, false), (7, false)] (by kernel_rfl) ?_
        conv => whnf
        (refine ⟨_, fun w' hx' => Blk.ldV (vs := [_, _, _, _]) (Blk.ext (hp.get (i := 2) rfl) hx') TTok rfl rfl rfl, ?_⟩; conv => whnf)
        (refine ⟨1, ⟨rfl, by decide⟩, ?_⟩; conv => whnf)
        (refine ⟨_, fun w' hx' => Blk.ld (Blk.ext (hp.get (i := 1) rfl) hx') TTok rfl rfl, ?_⟩; conv => whnf)
        (refine V.QCallW.out ?_; (conv => arg 3; dsimp only [EV.val, List.toList_toArray, List.nil_append, List.append_nil, List.cons_append]); (with_reducible refine V.PureF.quietW (Ends_p _ (by assumption)) ?_); conv => whnf)
        (refine ⟨_, fun w' hx' => Blk.ldV (vs := [_, _, _, _]) (Blk.ext (hp.get (i := 0) rfl) hx') TTok rfl rfl rfl, ?_⟩; conv => whnf)
        (refine ⟨_, fun w' hx' => bld73_0_1_2 w' _ _ _ _ _ _ _ _ _ _ _ _, ?_⟩; conv => whnf)
        (intro w hx; try (have hp := hp.call hx); conv => whnf)
        (refine hKq _ _ _ (.refl _) ?_; clear hKq Kq; conv => whnf)
        have hF := hF.ext hx
        have sv := sv.ext hx
        refine ⟨fun mm e w' => ∃ (i : Nat), mm + i = 3 ∧ e = [(3, .v (.string wx)), (5, .v (.int .u16 n5)), (6, .v (.int .i64 nw)), (12, .v (.pointer (some ⟨q12, 0, none⟩))), (15, .v (.pointer (some ⟨q15, 0, none⟩))), (18, .v (.pointer (some ⟨al34, 0, none⟩))), (20, .v (.int .i64 t)), (43, .v (.agg A)), (44, .v (.int .i64 k)), (61, .v (.agg #[.int .i64 t1, .int .i64 t3, .int .i64 nw])), (62, .v (.int .i64 m)), (105, .v (.agg #[.string pa.h, .int .i64 pa.p, .string pb.h, .int .i64 pb.p, .string (endA s1).h, .int .i64 (endA s1).p, .string (endB s1).h, .int .i64 (endB s1).p, .string y.a.h, .int .i64 y.a.p, .string y.b.h, .int .i64 y.b.p])), (106, .v (.int .i64 i))] ∧ Four w' (.agg A) ∧ SLv w' (.slice pv (iv y.asked).length cv) (iv y.asked) ∧ HpM [] W w' [blk al34 [.string y.a.h, .int .i64 y.a.p, .string y.b.h, .int .i64 y.b.p, .int .i64 y.now, .int .i64 y.nxt, .int .i64 y.til, .int .i64 y.ser, .bool y.gone, .string y.noise, .string y.word, .string y.fresh, .slice pv (iv y.asked).length cv] 34, blk q15 [.int .u8 s0, .int .u8 s1] 69, blk q12 [.string pa.h, .int .i64 pa.p, .string pb.h, .int .i64 pb.p] 31],
          ⟨3, _, ⟨0, by omega, rfl, hF, sv, hp⟩, (sub_cons rfl (sub_cons rfl (sub_cons rfl (sub_cons rfl (sub_cons rfl (sub_cons rfl (sub_cons rfl (sub_cons rfl (sub_cons rfl (sub_cons rfl (sub_cons rfl (sub_cons rfl (sub_cons rfl sub_nil)))))))))))))⟩, ?_⟩
        clear hF hp sv
        repeat clear hp
        rintro m6 _ w ⟨i, hm6, rfl, hF, sv, hp⟩
        conv => whnf
        refine VSeq.mk fun Kq hKq => ?_
        conv => whnf
        refine hKq _ _ _ (.refl _) ?_
        clear hKq Kq
        conv => whnf
        refine VSeq.mk fun Kq hKq => ?_
        conv => whnf
        skip
        refine ⟨fun hli => ?_, fun hli => ?_⟩
        · have hli := of_decide_eq_true hli
          conv => whnf
          refine hKq _ _ _ (.refl _) ?_
          clear hKq Kq
          conv => whnf
          refine VSeq.mk fun Kq hKq => ?_
          conv => whnf
          refine VSeq.mk fun Kq hKq => ?_
          conv => whnf
          refine Exists.elim (ix5p hpa hpb (endA_ok s1) (endB_ok s1) yo.a yo.b i (Int.ofNat_lt.1 hli)) fun r hq => ?_
          refine Exists.elim hq fun u hq => ?_
          have hr := hq.1
          have hu := hq.2.1
          have hix := hq.2.2
          clear hq
          have hpO := hp
          have D0 : Blk w al34 _ _ := hpO.get (i := 0) rfl
          clear hp
          repeat clear hp
          have hp := Hp.nil w
          skip
          refine ⟨_, _, hix _, ?_⟩
          conv => whnf
          clear hix
          (refine hp.kalloc z31 fun al31 w hp hx => ?_; conv => whnf)
          (refine hp.kstA TTok rfl 0 rfl rfl (oneC_of rfl) (by rfl) fun w hp => ?_; try simp only [List.set_cons_zero, List.set_cons_succ, EV.val] at hp; conv => whnf)
          (refine hKq _ _ _ (.refl _) ?_; clear hKq Kq; conv => whnf)
          (refine VSeq.mk fun Kq hKq => ?_; conv => whnf)
          (refine ⟨_, _, Blk.ldN (Blk.ext D0 hp.ext) TTok rfl rfl, ?_⟩; conv => whnf)
          (refine ⟨_, _, Blk.ldV (vs := [_, _, _, _]) (hp.get (i := 0) rfl) TTok rfl rfl rfl, ?_⟩; conv => whnf)
          have hF := hF.ext hp.ext
          have sv := sv.ext hp.ext
          have sT := SwE_c y yo sv t r.h u.h r.p u.p hr hu
          have sR := fun {W : World} hv => SwE12_c (W := W) (v := .slice pv (iv y.asked).length cv) y yo hv t r.h u.h r.p u.p hr hu
          have oR := swE_ok yo t hr hu
          refine Exists.elim (⟨_, rfl⟩ : ∃ R, swE y t r u = R) fun R hRe => ?_
          have hRe2 : swE y t ⟨r.h, r.p⟩ ⟨u.h, u.p⟩ = R := hRe
          rw [hRe2] at sT sR
          rw [hRe] at oR
          clear hRe hRe2
          dsimp only [Wt.c] at sT sR
          refine ResW.mono sT fun w p1 c1 hx hs1 => ?_
          refine ⟨_, rfl, ?_⟩
          have hpA := hp.call hx
          have B0 := D0.ext hpA.ext
          have C0 : Blk w _ _ _ := hpA.get (i := 0) rfl
          have hF := hF.ext hx
          have sv := sv.ext hx
          clear hp sT
          repeat clear hp
          have hp := Hp.nil w
          conv => whnf
          (refine hp.kalloc z34 fun al34 w hp hx => ?_; conv => whnf)
          (refine hp.kstA TTok rfl 0 rfl rfl (oneC_of rfl) (by rfl) fun w hp => ?_; try simp only [List.set_cons_zero, List.set_cons_succ, EV.val] at hp; conv => whnf)
          (refine hKq _ _ _ (.refl _) ?_; clear hKq Kq; conv => whnf)
          (refine VSeq.mk fun Kq hKq => ?_; conv => whnf)
          (refine ⟨_, _, Blk.ldN (Blk.ext B0 hp.ext) TTok rfl rfl, ?_⟩; conv => whnf)
          (refine ⟨_, _, Blk.ldN (Blk.ext C0 hp.ext) TTok rfl rfl, ?_⟩; conv => whnf)
          refine ResW.mono (sR (sv.ext hp.ext)) fun w p2 c2 hx hs2 => ?_
          refine ⟨_, rfl, ?_⟩
          have hpB := hp.call hx
          have B1 : Blk w _ _ _ := hpB.get (i := 0) rfl
          have hs1 := hs1.ext hpB.ext
          have hF := hF.ext hpB.ext
          have sv := sv.ext hpB.ext
          clear hp sR B0 C0 D0
          repeat clear hp
          have hp := Hp.nil w
          conv => whnf
          (refine hp.kalloc z34 fun al34 w hp hx => ?_; conv => whnf)
          (refine hp.kstA TTok rfl 0 rfl rfl (oneC_of rfl) (by rfl) fun w hp => ?_; try simp only [List.set_cons_zero, List.set_cons_succ, EV.val] at hp; conv => whnf)
          (refine hKq _ _ _ (.refl _) ?_; clear hKq Kq; conv => whnf)
          (refine VSeq.mk fun Kq hKq => ?_; conv => whnf)
          (refine VSeq.mk fun Kq hKq => ?_; conv => whnf)
          (refine hKq _ _ _ (.refl _) ?_; clear hKq Kq; conv => whnf)
          (refine And.intro (fun h => absurd (of_decide_eq_true h) (by first | (intro h2; exact absurd rfl h2) | omega | decide)) (fun _ => ?_); conv => whnf)
          (refine ⟨_, _, Blk.ldN (Blk.ext B1 hp.ext) TTok rfl rfl, ?_⟩; conv => whnf)
          (refine ⟨_, _, Blk.ldV (vs := [_, _, _, _, _, _, _, _, _, _, _, _, _]) (hp.get (i := 0) rfl) TTok rfl rfl rfl, ?_⟩; conv => whnf)
          refine V.CallsUse (Same12_c R.1 oR (hs1.ext hp.ext) (hs2.ext hp.ext)) fun w hx => ?_
          have hp := hp.call hx
          conv => whnf
          (refine hKq _ _ _ (.refl _) ?_; clear hKq Kq; conv => whnf)
          (refine And.intro (fun h => absurd h (by decide)) (fun _ => ?_); conv => whnf)
          (refine hKq _ _ _ (.refl _) ?_; clear hKq Kq; conv => whnf)
          (refine Or.inl (And.intro (by first | omega | decide) ?_); conv => whnf)
          refine ⟨m6 - 1, _, by omega, ⟨i + 1, by omega, rfl, hF.ext hp.ext, sv.ext hp.ext, (((hpO.join hpA).join hpB).join hp).pick [3, 4, 5] (by decide)⟩, (sub_cons rfl (sub_cons rfl (sub_cons rfl (sub_cons rfl (sub_cons rfl (sub_cons rfl (sub_cons rfl (sub_cons rfl (sub_cons rfl (sub_cons rfl (sub_cons rfl (sub_cons rfl (sub_cons rfl sub_nil)))))))))))))⟩
        · have hli := of_decide_eq_false hli
          conv => whnf
          clear hKq Kq
          refine hKq _ _ _ (.refl _) ?_
          clear hKq Kq
          conv => whnf
          refine Or.inl (And.intro (by omega) ?_)
          conv => whnf
          skip
          exact ⟨m2 - 1, _, by omega, ⟨m + 1, by omega, rfl, hF, sv, hp⟩, (sub_cons rfl (sub_cons rfl (sub_cons rfl (sub_cons rfl (sub_cons rfl (sub_cons rfl (sub_cons rfl (sub_cons rfl (sub_cons rfl (sub_cons rfl sub_nil))))))))))⟩
    · have hlm := of_decide_eq_false hlm
      conv => whnf
      clear hKq Kq
      refine hKq _ _ _ (.refl _) ?_
      clear hKq Kq
      conv => whnf
      refine Or.inl (And.intro (by omega) ?_)
      conv => whnf
      skip
      exact ⟨mm - 1, _, by omega, ⟨k + 1, by omega, rfl, hF, hp.pick [1, 2] (by decide)⟩, (sub_cons rfl (sub_cons rfl (sub_cons rfl (sub_cons rfl (sub_cons rfl (sub_cons rfl (sub_cons rfl sub_nil)))))))⟩
  · have hlt := of_decide_eq_false hlt
    conv => whnf
    clear hKq Kq
    refine hKq _ _ _ (.refl _) ?_
    clear hKq Kq
    conv => whnf
    refine VSeq.mk fun Kq hKq => ?_
    conv => whnf
    refine hKq _ _ _ (.refl _) ?_
    clear hKq Kq
    conv => whnf
    (exact ⟨rfl, hp.ext⟩)
theorem turns_at {W : World} (c0 c1 c2 : Array Value) (e0 : Rd W (.cons (.int .u8) (.cons (.sl (.int .u8)) (.cons (.sl (.ag shE)) .nil))) c0.toList) (e1 : Rd W (.cons (.ag shBn) (.cons (.ag shBn) .nil)) c1.toList) (e2 : Rd W shW c2.toList) (a3 : ByteArray) (w3 : a3.size ≤ maxLen) (c4 : Array Value) (e4 : Rd W shPa c4.toList) (a5 : Int) (w5 : (Lit.int .u16 a5).wf = true) (a6 : Int) (c7 : Array Value) (e7 : Rd W (.cons (.int .u8) (.cons (.int .u8) .nil)) c7.toList) :
    Calls Tryz.prog 6 #[.agg c0, .agg c1, .agg c2, .string a3, .agg c4, .int .u16 a5, .int .i64 a6, .agg c7] W fun e w' => e = .returned (.bool true) ∧ Ext W w' := by
  obtain ⟨p, nb, evs, vn, ve, hp, hev, hn, he, h0⟩ := drf_rd e0
  obtain ⟨b, c, hb, hc, h1⟩ := bns_rd e1
  obtain ⟨y, v, hy, hv, h2⟩ := wt_rd e2
  obtain ⟨pa, pb, hpa, hpb, h3⟩ := pa_rd2 e4
  obtain ⟨n5, rfl, hn5⟩ := nat_of_u w5 rfl
  obtain ⟨_, _, h7, ⟨n0, rfl, k0⟩, _, _, rfl, ⟨n1, rfl, k1⟩, h8⟩ := e7
  obtain rfl : _ = [] := h8
  obtain ⟨s0, rfl, hs0⟩ := nat_of_u k0 rfl
  obtain ⟨s1, rfl, hs1⟩ := nat_of_u k1 rfl
  have h0 : c0 = #[.int .u8 p, vn, ve] := Array.ext' h0
  have h1 : c1 = (b.c ++ c.c).toArray := Array.ext' h1
  have h2 : c2 = (y.c v).toArray := Array.ext' h2
  have h3 : c4 = #[.string pa.h, .int .i64 pa.p, .string pb.h, .int .i64 pb.p] := Array.ext' h3
  have h7 : c7 = #[.int .u8 s0, .int .u8 s1] := Array.ext' h7
  subst h0 h1 h2 h3 h7
  exact turns_c p hp nb evs hev hn he b c hb hc y hy hv a3 w3 pa pb hpa hpb n5 hn5 a6 s0 s1 hs0 hs1
end Go.Proofs.YtgkhcgiggjijlaaGreat
namespace Go.Proofs.YtgkhcgiggjijlaaGreat.consentTurns
open Go.ChangeShapes Go.WideShapes Go.ChangeAt Go.RowKit
open Go.ChangeMaps (open_string shut_string)
set_option linter.unusedVariables false
theorem own : ownKnob Tryz.prog.godebug = none := by kernel_rfl
theorem laidOut : laidOutB Tryz.prog = true := by kernel_rfl
set_option maxRecDepth 100000 in
theorem lifted (os : Os) (started : os.Started) (H : Type) (enc : TypeId × Value → H) :
    ReturnsInHanded {} Tryz.checked os 6 .any (Rows.consentTurnsSpec.pre6 enc Tryz.prog Tryz.f6 Rows.consentTurnsRow.domain false) (Rows.consentTurnsSpec.post enc Tryz.prog Tryz.f6 false true false false) := by
  refine returnsInHanded_of_change (C := Tryz.checked) own started (by kernel_rfl) Tryz.func6
    (ChangeSpec.witness6 (enc := enc) (C := Tryz.checked) false ⟨#[], #[.agg #[.int .u8 0, .slice none 0 0, .slice none 0 0], .agg #[.int .u8 0, .int .u8 0, .int .i64 0, .string ByteArray.empty, .string ByteArray.empty, .int .i64 0, .int .u8 0, .int .u8 0, .int .i64 0, .string ByteArray.empty, .string ByteArray.empty, .int .i64 0], .agg #[.string ByteArray.empty, .int .i64 0, .string ByteArray.empty, .int .i64 0, .int .i64 0, .int .i64 0, .int .i64 0, .int .i64 0, .bool false, .string ByteArray.empty, .string ByteArray.empty, .string ByteArray.empty, .slice none 0 0], .string ByteArray.empty, .agg #[.string ByteArray.empty, .int .i64 0, .string ByteArray.empty, .int .i64 0], .int .u16 0, .int .i64 0, .agg #[.int .u8 0, .int .u8 0]], []⟩ 8 (by kernel_rfl) (by kernel_rfl) (by kernel_rfl) (by kernel_rfl)) ?_
  intro W base args ds gs before hval0 hW hcnd _
  have hval : ∀ (j : Nat) t v, Tryz.f6.params[j]? = some t → args[j]? = some v → Value.okWide Tryz.prog W .any base t v := hval0
  have hW' := hW
  obtain ⟨p, q, hA0, hV, rfl, hfz, hnd⟩ := hW
  have hA : DataW.TrodAll enc Tryz.prog W 0 (fun _ => true) true Tryz.f6.params.toList args.toList ds p := hA0
  rw [Tryz.params6] at hA hval
  obtain ⟨v0, vs0, d0, ds0, p0, q0, hargs, rfl, rfl, h0, r0⟩ := trodAll_cons hA
  obtain ⟨v1, vs1, d1, ds1, p1, q1, rfl, rfl, rfl, h1, r1⟩ := trodAll_cons r0
  obtain ⟨v2, vs2, d2, ds2, p2, q2, rfl, rfl, rfl, h2, r2⟩ := trodAll_cons r1
  obtain ⟨v3, vs3, d3, ds3, p3, q3, rfl, rfl, rfl, h3, r3⟩ := trodAll_cons r2
  obtain ⟨v4, vs4, d4, ds4, p4, q4, rfl, rfl, rfl, h4, r4⟩ := trodAll_cons r3
  obtain ⟨v5, vs5, d5, ds5, p5, q5, rfl, rfl, rfl, h5, r5⟩ := trodAll_cons r4
  obtain ⟨v6, vs6, d6, ds6, p6, q6, rfl, rfl, rfl, h6, r6⟩ := trodAll_cons r5
  obtain ⟨v7, vs7, d7, ds7, p7, q7, rfl, rfl, rfl, h7, r7⟩ := trodAll_cons r6
  obtain ⟨rfl, rfl, rfl⟩ := trodAll_nil r7
  obtain rfl : args = #[v0, v1, v2, v3, v4, v5, v6, v7] := by cases args; simp_all
  obtain ⟨rfl, rfl⟩ := trodVars_none hV
  have k0 := h0
  have lt0 : ∀ x ∈ p0, x.block < W.heap.size := by obtain ⟨m, hm⟩ := k0; exact DataW.trod_lt m _ _ _ hm
  obtain ⟨c0, rfl, e0⟩ := V.rd_ag (s := (.cons (.int .u8) (.cons (.sl (.int .u8)) (.cons (.sl (.ag (.cons (.int .u8) (.cons (.int .u8) (.cons (.int .u8) (.cons (.int .u16) (.cons (.int .u8) .nil))))))) .nil)))) (by kernel_rfl) (hval 0 25 v0 rfl rfl) h0
  have k1 := h1
  have lt1 : ∀ x ∈ p1, x.block < W.heap.size := by obtain ⟨m, hm⟩ := k1; exact DataW.trod_lt m _ _ _ hm
  obtain ⟨c1, rfl, e1⟩ := V.rd_ag (s := (.cons (.ag (.cons (.int .u8) (.cons (.int .u8) (.cons (.int .i64) (.cons .str (.cons (.ag (.cons .str (.cons (.int .i64) .nil))) .nil)))))) (.cons (.ag (.cons (.int .u8) (.cons (.int .u8) (.cons (.int .i64) (.cons .str (.cons (.ag (.cons .str (.cons (.int .i64) .nil))) .nil)))))) .nil))) (by kernel_rfl) (hval 1 30 v1 rfl rfl) h1
  have k2 := h2
  have lt2 : ∀ x ∈ p2, x.block < W.heap.size := by obtain ⟨m, hm⟩ := k2; exact DataW.trod_lt m _ _ _ hm
  obtain ⟨c2, rfl, e2⟩ := V.rd_ag (s := (.cons (.ag (.cons (.ag (.cons .str (.cons (.int .i64) .nil))) (.cons (.ag (.cons .str (.cons (.int .i64) .nil))) .nil))) (.cons (.int .i64) (.cons (.int .i64) (.cons (.int .i64) (.cons (.int .i64) (.cons .bool (.cons .str (.cons .str (.cons .str (.cons (.sl (.int .i64)) .nil))))))))))) (by kernel_rfl) (hval 2 34 v2 rfl rfl) h2
  have k3 := h3
  have lt3 : ∀ x ∈ p3, x.block < W.heap.size := by obtain ⟨m, hm⟩ := k3; exact DataW.trod_lt m _ _ _ hm
  obtain ⟨a3, rfl, rfl, rfl, w3⟩ := open_string Tryz.underlying9 (hval 3 9 v3 rfl rfl) h3
  have k4 := h4
  have lt4 : ∀ x ∈ p4, x.block < W.heap.size := by obtain ⟨m, hm⟩ := k4; exact DataW.trod_lt m _ _ _ hm
  obtain ⟨c4, rfl, e4⟩ := V.rd_ag (s := (.cons (.ag (.cons .str (.cons (.int .i64) .nil))) (.cons (.ag (.cons .str (.cons (.int .i64) .nil))) .nil))) (by kernel_rfl) (hval 4 31 v4 rfl rfl) h4
  have k5 := h5
  have lt5 : ∀ x ∈ p5, x.block < W.heap.size := by obtain ⟨m, hm⟩ := k5; exact DataW.trod_lt m _ _ _ hm
  obtain ⟨a5, rfl, rfl, rfl, w5⟩ := open_int Tryz.underlying53 (hval 5 53 v5 rfl rfl) h5
  have k6 := h6
  have lt6 : ∀ x ∈ p6, x.block < W.heap.size := by obtain ⟨m, hm⟩ := k6; exact DataW.trod_lt m _ _ _ hm
  obtain ⟨a6, rfl, rfl, rfl, w6⟩ := open_int Tryz.underlying3 (hval 6 3 v6 rfl rfl) h6
  have k7 := h7
  have lt7 : ∀ x ∈ p7, x.block < W.heap.size := by obtain ⟨m, hm⟩ := k7; exact DataW.trod_lt m _ _ _ hm
  obtain ⟨c7, rfl, e7⟩ := V.rd_ag (s := (.cons (.int .u8) (.cons (.int .u8) .nil))) (by kernel_rfl) (hval 7 69 v7 rfl rfl) h7
  clear hA0 hval0
  refine (turns_at c0 c1 c2 e0 e1 e2 a3 w3 c4 e4 a5 w5 a6 c7 e7).mono fun e W' ⟨he, bel⟩ => ?_
  have bel : Below W.heap.size W W' := bel
  subst he
  exact ⟨_, rfl, _, _, _, [], _, [], hW', trodAll_mk1 (shut_bool Tryz.underlying4 _), (trodAll_cons_mk (Below.trod laidOut (by kernel_rfl) (of_decide_eq_true (by kernel_rfl)) k0 bel lt0) (trodAll_cons_mk (Below.trod laidOut (by kernel_rfl) (of_decide_eq_true (by kernel_rfl)) k1 bel lt1) (trodAll_cons_mk (Below.trod laidOut (by kernel_rfl) (of_decide_eq_true (by kernel_rfl)) k2 bel lt2) (trodAll_cons_mk (Below.trod laidOut (by kernel_rfl) (of_decide_eq_true (by kernel_rfl)) k3 bel lt3) (trodAll_cons_mk (Below.trod laidOut (by kernel_rfl) (of_decide_eq_true (by kernel_rfl)) k4 bel lt4) (trodAll_cons_mk (Below.trod laidOut (by kernel_rfl) (of_decide_eq_true (by kernel_rfl)) k5 bel lt5) (trodAll_cons_mk (Below.trod laidOut (by kernel_rfl) (of_decide_eq_true (by kernel_rfl)) k6 bel lt6) (trodAll_cons_mk (Below.trod laidOut (by kernel_rfl) (of_decide_eq_true (by kernel_rfl)) k7 bel lt7) trodAll_mk0)))))))), rfl, bel.frame _, fun h => by cases h⟩

theorem over : Rows.consentTurnsRow.holds Tryz.pinned (OpenSpec.ofChange Rows.consentTurnsSpec) :=
  OpenClaim.holds_of_wide 6 Tryz.f6 rfl rfl rfl rfl rfl rfl rfl ⟨rfl, rfl, rfl, rfl, rfl⟩ rfl rfl rfl rfl rfl (by kernel_rfl) Tryz.func6 (by kernel_rfl)
    (of_decide_eq_true (by kernel_rfl)) (by unfold Func.isWrapper; first | (rw [if_pos (by decide +kernel)]; kernel_rfl) | (rw [if_neg (by decide +kernel)]; exact ⟨rfl, rfl⟩))
    (fun os started H enc _ => lifted os started H enc)

theorem proved : Rows.ConsentTurnsSaid := over
#print axioms proved
end Go.Proofs.YtgkhcgiggjijlaaGreat.consentTurns
