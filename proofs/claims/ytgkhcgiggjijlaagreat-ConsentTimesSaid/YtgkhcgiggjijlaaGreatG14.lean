/- Chapter 12: ConsentTimes. -/
/- ConsentTimes: for every draft, bends, watch and time, Time returns what the reference returns: the watch, what is sent and the error. -/
import Derived.Test.YtgkhcgiggjijlaaGreatG13
import Derived.Test.YtgkhcgiggjijlaaGreatRows
import Derived.WalkKit
import Derived.ProofKit
import Derived.OpenShut
import Derived.ShutString
import Derived.ChangeOld
import Derived.Below
import Derived.Test.YtgkhcgiggjijlaaGreatG03
namespace Go.Proofs.YtgkhcgiggjijlaaGreat
set_option linter.unusedSimpArgs false
set_option linter.unusedVariables false
set_option maxRecDepth 100000
open Go.RowKit V
set_option maxHeartbeats 16000000
theorem timeE_hops {x : Wt} (hok : x.Ok) (now : Int) : ∀ h ∈ (timeE x now).2.1, h.1.Ok ∧ h.2.1.Ok ∧ h.2.2.Ok := fun h hh => by
  unfold timeE at hh
  split at hh
  · unfold timeW at hh
    split at hh
    · simp only [List.mem_singleton] at hh
      subst hh
      exact ⟨hok.a, hok.b, ⟨(⟨by decide, by decide⟩ : In64 1), hok.ser, (⟨by decide, by decide⟩ : In64 1), (⟨by decide, by decide⟩ : In64 0), Ad.z_ok⟩⟩
    · cases hh
  · cases hh
theorem times_c {W : World} {vn ve v : Value} (p : Nat) (hp256 : p < 256) (nb : List UInt8) (evs : List Ev) (hev : ∀ x ∈ evs, x.Ok) (hn : SLv W vn (bytesV nb)) (he : SLn W 5 ve (evs.map Ev.c)) (b c : Bn) (hb : b.Ok) (hc : c.Ok) (z : Wt) (hz : z.Ok) (hv : SLv W v (iv z.asked)) (n3 : Nat) (hn3 : n3 < 65536) (a4 : Int) :
    Calls Tryz.prog 4 #[.agg #[.int .u8 p, vn, ve], .agg (b.c ++ c.c).toArray, .agg (z.c v).toArray, .int .u16 n3, .int .i64 a4] W fun e w' => e = .returned (.bool true) ∧ Ext W w' := by
  refine v_reads (args := [.agg #[.int .u8 p, vn, ve], .agg #[.int .u8 b.what, .int .u8 b.at_, .int .i64 b.n, .string b.s, .string b.a.h, .int .i64 b.a.p, .int .u8 c.what, .int .u8 c.at_, .int .i64 c.n, .string c.s, .string c.a.h, .int .i64 c.a.p], .agg #[.string z.a.h, .int .i64 z.a.p, .string z.b.h, .int .i64 z.b.p, .int .i64 z.now, .int .i64 z.nxt, .int .i64 z.til, .int .i64 z.ser, .bool z.gone, .string z.noise, .string z.word, .string z.fresh, v], .int .u16 n3, .int .i64 a4]) TTok FFok Tryz.func4 rfl rfl ?_
  conv => whnf
  refine VSeq.mk fun Kq hKq => ?_
  conv => whnf
  have hp := Hp.nil W
  refine hp.kboxA fun q5 w hp hx => ?_
  conv => whnf
  refine hp.kboxA fun q6 w hp hx => ?_
  conv => whnf
  refine hp.kboxA fun q7 w hp hx => ?_
  conv => whnf
  refine hKq _ _ _ (V.Sub.refl _) ?_
  clear hKq Kq
  conv => whnf
  refine VSeq.mk fun Kq hKq => ?_
  conv => whnf
  refine VSeq.mk fun Kq hKq => ?_
  conv => whnf
  (refine V.CallW.out ?_; (conv => arg 3; dsimp only [EV.val, List.toList_toArray, List.nil_append, List.append_nil, List.cons_append]); (with_reducible refine V.PureF.useW (wakes_p) fun w hx => ?_); try (have hp := hp.call hx); conv => whnf)
  (refine hKq _ _ _ (V.Sub.refl _) ?_; clear hKq Kq; conv => whnf)
  (refine And.intro (fun h => absurd h (by decide)) (fun _ => ?_); conv => whnf)
  (refine hKq _ _ _ (V.Sub.refl _) ?_; clear hKq Kq; conv => whnf)
  (refine VSeq.mk fun Kq hKq => ?_; conv => whnf)
  (refine VSeq.mk fun Kq hKq => ?_; conv => whnf)
  (refine ⟨_, _, Blk.ldV (vs := [_, _, _]) (hp.get (i := 2) rfl) TTok rfl rfl rfl, ?_⟩; conv => whnf)
  (refine ⟨_, _, Blk.ldV (vs := [_, _, _, _, _, _, _, _, _, _, _, _]) (hp.get (i := 1) rfl) TTok rfl rfl rfl, ?_⟩; conv => whnf)
  (refine ⟨_, _, Blk.ldV (vs := [_, _, _, _, _, _, _, _, _, _, _, _, _]) (hp.get (i := 0) rfl) TTok rfl rfl rfl, ?_⟩; conv => whnf)
  refine Calls.mono (watches_c p hp256 nb evs hev (hn.ext hp.ext) (he.ext hp.ext) b c hb hc z hz (hv.ext hp.ext)) ?_
  rintro _ w ⟨_, rfl, hx, hF⟩
  refine ⟨_, rfl, ?_⟩
  obtain ⟨A, rfl⟩ := hF.1
  have hp := hp.call hx
  conv => whnf
  (refine hKq _ _ _ (V.Sub.refl _) ?_; clear hKq Kq; conv => whnf)
  clear hn he hb hc hz hv
  refine ⟨fun mm e w' => ∃ (k : Nat), mm + k = 4 ∧ e = [(3, .v (.int .u16 n3)), (4, .v (.int .i64 a4)), (26, .v (.agg A)), (27, .v (.int .i64 k))] ∧ Four w' (.agg A) ∧ HpM [] W w' [],
    ⟨4, _, ⟨0, by omega, rfl, hF, hp.sub (List.nil_sublist _)⟩, sub_cons rfl (sub_cons rfl (sub_cons rfl (sub_cons rfl sub_nil)))⟩, ?_⟩
  clear hF hp hx
  repeat clear hp
  rintro mm _ w ⟨k, hmm, rfl, hF, hp⟩
  conv => whnf
  refine VSeq.mk fun Kq hKq => ?_
  conv => whnf
  refine hKq _ _ _ (V.Sub.refl _) ?_
  clear hKq Kq
  conv => whnf
  refine VSeq.mk fun Kq hKq => ?_
  conv => whnf
  skip
  refine ⟨fun hlt => ?_, fun hlt => ?_⟩
  · have hlt := of_decide_eq_true hlt
    conv => whnf
    refine hKq _ _ _ (V.Sub.refl _) ?_
    clear hKq Kq
    conv => whnf
    refine VSeq.mk fun Kq hKq => ?_
    conv => whnf
    refine VSeq.mk fun Kq hKq => ?_
    conv => whnf
    obtain ⟨y, vy, yo, sv, hix⟩ := hF.2 k (by omega)
    obtain ⟨pv, cv, rfl⟩ := sv.shape
    dsimp only [Wt.c] at hix
    have hpO := hp
    clear hp
    repeat clear hp
    have hp := Hp.nil w
    skip
    refine ⟨_, _, hix _, ?_⟩
    conv => whnf
    (refine hp.kalloc z34 fun al34 w hp hx => ?_; conv => whnf)
    (refine hp.kstA TTok rfl 0 rfl rfl (oneC_of rfl) (by rfl) fun w hp => ?_; try simp only [List.set_cons_zero, List.set_cons_succ, EV.val] at hp; conv => whnf)
    (refine hKq _ _ _ (V.Sub.refl _) ?_; clear hKq Kq; conv => whnf)
    (refine VSeq.mk fun Kq hKq => ?_; conv => whnf)
    (refine ⟨_, _, Blk.ld (hp.get (i := 0) rfl) TTok rfl rfl, ?_⟩; conv => whnf)
    (refine And.intro (by first | omega | decide) ?_; conv => whnf)
    (refine Or.inl (And.intro (by first | omega | decide) ?_); conv => whnf)
    obtain ⟨t1, ht1⟩ : ∃ t, t = IntKind.i64.wrap (y.now + (n3 : Int) % 7000) := ⟨_, rfl⟩
    refine Or.inr ⟨t1, ht1, ?_⟩
    clear ht1 hix
    conv => whnf
    (refine ⟨_, _, Blk.ld (hp.get (i := 0) rfl) TTok rfl rfl, ?_⟩; conv => whnf)
    (refine ⟨_, _, Blk.ld (hp.get (i := 0) rfl) TTok rfl rfl, ?_⟩; conv => whnf)
    (refine ⟨_, _, bld54_0_1_2_3 _ _ _ _ _, ?_⟩; conv => whnf)
    (refine hKq _ _ _ (V.Sub.refl _) ?_; clear hKq Kq; conv => whnf)
    refine ⟨fun mm e w' => ∃ (m : Nat), mm + m = 4 ∧ e = [(3, .v (.int .u16 n3)), (4, .v (.int .i64 a4)), (12, .v (.pointer (some ⟨al34, 0, none⟩))), (26, .v (.agg A)), (27, .v (.int .i64 k)), (41, .v (.agg #[.int .i64 t1, .int .i64 y.nxt, .int .i64 y.til, .int .i64 a4])), (42, .v (.int .i64 m))] ∧ Four w' (.agg A) ∧ SLv w' (.slice pv (iv y.asked).length cv) (iv y.asked) ∧ HpM [] W w' [blk al34 [.string y.a.h, .int .i64 y.a.p, .string y.b.h, .int .i64 y.b.p, .int .i64 y.now, .int .i64 y.nxt, .int .i64 y.til, .int .i64 y.ser, .bool y.gone, .string y.noise, .string y.word, .string y.fresh, .slice pv (iv y.asked).length cv] 34],
      ⟨4, _, ⟨0, by omega, rfl, hF.ext hp.ext, sv.ext hp.ext, hpO.join hp⟩, sub_cons rfl (sub_cons rfl (sub_cons rfl (sub_cons rfl (sub_cons rfl (sub_cons rfl (sub_cons rfl sub_nil))))))⟩, ?_⟩
    clear hF hp sv hx hpO
    repeat clear hp
    rintro m4 _ w ⟨m, hm4, rfl, hF, sv, hp⟩
    conv => whnf
    refine VSeq.mk fun Kq hKq => ?_
    conv => whnf
    refine hKq _ _ _ (V.Sub.refl _) ?_
    clear hKq Kq
    conv => whnf
    refine VSeq.mk fun Kq hKq => ?_
    conv => whnf
    skip
    refine ⟨fun hlm => ?_, fun hlm => ?_⟩
    · have hlm := of_decide_eq_true hlm
      conv => whnf
      refine hKq _ _ _ (V.Sub.refl _) ?_
      clear hKq Kq
      conv => whnf
      refine VSeq.mk fun Kq hKq => ?_
      conv => whnf
      refine VSeq.mk fun Kq hKq => ?_
      conv => whnf
      obtain ⟨t, hix⟩ := ix54 t1 y.nxt y.til a4 m (by omega)
      skip
      refine ⟨_, _, hix _, ?_⟩
      conv => whnf
      refine hKq _ _ _ (V.Sub.refl _) ?_
      clear hKq Kq
      conv => whnf
      refine VSeq.mk fun Kq hKq => ?_
      conv => whnf
      clear hix
      (refine ⟨_, _, Blk.ldV (vs := [_, _, _, _, _, _, _, _, _, _, _, _, _]) (hp.get (i := 0) rfl) TTok rfl rfl rfl, ?_⟩; conv => whnf)
      have sT := TimeE_c y yo sv t
      have sR := fun {W : World} hv => TimeE12_c (W := W) (v := .slice pv (iv y.asked).length cv) y yo hv t
      have oR := timeE_ok yo t
      have hR := timeE_hops yo t
      obtain ⟨R, hRe⟩ : ∃ R, timeE y t = R := ⟨_, rfl⟩
      rw [hRe] at sT sR oR hR
      clear hRe
      dsimp only [ResE, Wt.c] at sT sR
      refine Calls.mono sT ?_
      rintro _ w ⟨_, rfl, v1, r1, rfl, hx, hs1, hr1⟩
      refine ⟨_, rfl, ?_⟩
      have hpA := hp.call hx
      have B0 : Blk w al34 _ _ := hpA.get (i := 0) rfl
      have hs1 := hs1.s
      have hr1 := hr1.s
      have hF := hF.ext hx
      have sv := sv.ext hx
      obtain ⟨p1, c1, rfl⟩ := hs1.shape
      clear hp sT
      repeat clear hp
      have hp := Hp.nil w
      conv => whnf
      (refine hp.kalloc z34 fun al34 w hp hx => ?_; conv => whnf)
      (refine hp.kstA TTok rfl 0 rfl rfl (oneC_of rfl) (by rfl) fun w hp => ?_; try simp only [List.set_cons_zero, List.set_cons_succ, EV.val] at hp; conv => whnf)
      (refine hKq _ _ _ (V.Sub.refl _) ?_; clear hKq Kq; conv => whnf)
      (refine VSeq.mk fun Kq hKq => ?_; conv => whnf)
      (refine ⟨_, _, Blk.ldN (Blk.ext B0 hp.ext) TTok rfl rfl, ?_⟩; conv => whnf)
      refine Calls.mono (sR (sv.ext hp.ext)) ?_
      rintro _ w ⟨_, rfl, v2, r2, rfl, hx, hs2, hr2⟩
      refine ⟨_, rfl, ?_⟩
      have hpB := hp.call hx
      have B1 : Blk w _ _ _ := hpB.get (i := 0) rfl
      have hs2 := hs2.s
      have hr2 := hr2.s
      have hs1 := hs1.ext hpB.ext
      have hr1 := hr1.ext hpB.ext
      have hF := hF.ext hpB.ext
      have sv := sv.ext hpB.ext
      obtain ⟨p2, c2, rfl⟩ := hs2.shape
      clear hp sR B0
      repeat clear hp
      have hp := Hp.nil w
      conv => whnf
      (refine hp.kalloc z34 fun al34 w hp hx => ?_; conv => whnf)
      (refine hp.kstA TTok rfl 0 rfl rfl (oneC_of rfl) (by rfl) fun w hp => ?_; try simp only [List.set_cons_zero, List.set_cons_succ, EV.val] at hp; conv => whnf)
      (refine hKq _ _ _ (V.Sub.refl _) ?_; clear hKq Kq; conv => whnf)
      (refine VSeq.mk fun Kq hKq => ?_; conv => whnf)
      (refine VSeq.mk fun Kq hKq => ?_; conv => whnf)
      (refine hKq _ _ _ (V.Sub.refl _) ?_; clear hKq Kq; conv => whnf)
      (refine VSeq.mk fun Kq hKq => ?_; conv => whnf)
      (refine And.intro (fun h => absurd (of_decide_eq_true h) (by first | (intro h2; exact absurd rfl h2) | omega | decide)) (fun _ => ?_); conv => whnf)
      (refine ⟨_, _, Blk.ldN (Blk.ext B1 hp.ext) TTok rfl rfl, ?_⟩; conv => whnf)
      (refine ⟨_, _, Blk.ldV (vs := [_, _, _, _, _, _, _, _, _, _, _, _, _]) (hp.get (i := 0) rfl) TTok rfl rfl rfl, ?_⟩; conv => whnf)
      refine V.CallsUse (Same12_c R.1 oR (hs1.ext hp.ext) (hs2.ext hp.ext)) fun w hx => ?_
      have hp := hp.call hx
      conv => whnf
      (refine hKq _ _ _ (V.Sub.refl _) ?_; clear hKq Kq; conv => whnf)
      (refine And.intro (fun h => absurd h (by decide)) (fun _ => ?_); conv => whnf)
      refine V.CallsUse (SameHops_c R.2.1 hR (hr1.ext hp.ext) (hr2.ext hp.ext)) fun w hx => ?_
      have hp := hp.call hx
      conv => whnf
      (refine hKq _ _ _ (V.Sub.refl _) ?_; clear hKq Kq; conv => whnf)
      (refine And.intro (fun h => absurd h (by decide)) (fun _ => ?_); conv => whnf)
      (refine hKq _ _ _ (V.Sub.refl _) ?_; clear hKq Kq; conv => whnf)
      (refine Or.inl (And.intro (by first | omega | decide) ?_); conv => whnf)
      refine ⟨m4 - 1, _, by omega, ⟨m + 1, by omega, rfl, hF.ext hp.ext, sv.ext hp.ext, ((hpA.join hpB).join hp).pick [2] (by decide)⟩, sub_cons rfl (sub_cons rfl (sub_cons rfl (sub_cons rfl (sub_cons rfl (sub_cons rfl (sub_cons rfl sub_nil))))))⟩
    · have hlm := of_decide_eq_false hlm
      conv => whnf
      clear hKq Kq
      refine hKq _ _ _ (V.Sub.refl _) ?_
      clear hKq Kq
      conv => whnf
      refine Or.inl (And.intro (by omega) ?_)
      conv => whnf
      skip
      exact ⟨mm - 1, _, by omega, ⟨k + 1, by omega, rfl, hF, hp.sub (List.nil_sublist _)⟩, sub_cons rfl (sub_cons rfl (sub_cons rfl (sub_cons rfl sub_nil)))⟩
  · have hlt := of_decide_eq_false hlt
    conv => whnf
    clear hKq Kq
    refine hKq _ _ _ (V.Sub.refl _) ?_
    clear hKq Kq
    conv => whnf
    refine VSeq.mk fun Kq hKq => ?_
    conv => whnf
    refine hKq _ _ _ (V.Sub.refl _) ?_
    clear hKq Kq
    conv => whnf
    (exact ⟨rfl, hp.ext⟩)
theorem times_at {W : World} (c0 c1 c2 : Array Value) (e0 : Rd W (.cons (.int .u8) (.cons (.sl (.int .u8)) (.cons (.sl (.ag shE)) .nil))) c0.toList) (e1 : Rd W (.cons (.ag shBn) (.cons (.ag shBn) .nil)) c1.toList) (e2 : Rd W shW c2.toList) (a3 a4 : Int) (w3 : (Lit.int .u16 a3).wf = true) :
    Calls Tryz.prog 4 #[.agg c0, .agg c1, .agg c2, .int .u16 a3, .int .i64 a4] W fun e w' => e = .returned (.bool true) ∧ Ext W w' := by
  obtain ⟨p, nb, evs, vn, ve, hp, hev, hn, he, h0⟩ := drf_rd e0
  obtain ⟨b, c, hb, hc, h1⟩ := bns_rd e1
  obtain ⟨y, v, hy, hv, h2⟩ := wt_rd e2
  obtain ⟨n3, rfl, hn3⟩ := nat_of_u w3 rfl
  have h0 : c0 = #[.int .u8 p, vn, ve] := Array.ext' h0
  have h1 : c1 = (b.c ++ c.c).toArray := Array.ext' h1
  have h2 : c2 = (y.c v).toArray := Array.ext' h2
  subst h0 h1 h2
  exact times_c p hp nb evs hev hn he b c hb hc y hy hv n3 hn3 a4
end Go.Proofs.YtgkhcgiggjijlaaGreat
namespace Go.Proofs.YtgkhcgiggjijlaaGreat.consentTimes
open Go.ChangeShapes Go.WideShapes Go.ChangeAt Go.RowKit
open Go.ChangeMaps (open_string shut_string)
set_option linter.unusedVariables false
theorem own : ownKnob Tryz.prog.godebug = none := by kernel_rfl
theorem laidOut : laidOutB Tryz.prog = true := by kernel_rfl
set_option maxRecDepth 100000 in
theorem lifted (os : Os) (started : os.Started) (H : Type) (enc : TypeId × Value → H) :
    ReturnsInHanded {} Tryz.checked os 4 .any (Rows.consentTimesSpec.pre6 enc Tryz.prog Tryz.f4 Rows.consentTimesRow.domain false) (Rows.consentTimesSpec.post enc Tryz.prog Tryz.f4 false true false false) := by
  refine returnsInHanded_of_change (C := Tryz.checked) own started (by kernel_rfl) Tryz.func4
    (ChangeSpec.witness6 (enc := enc) (C := Tryz.checked) false ⟨#[], #[.agg #[.int .u8 0, .slice none 0 0, .slice none 0 0], .agg #[.int .u8 0, .int .u8 0, .int .i64 0, .string ByteArray.empty, .string ByteArray.empty, .int .i64 0, .int .u8 0, .int .u8 0, .int .i64 0, .string ByteArray.empty, .string ByteArray.empty, .int .i64 0], .agg #[.string ByteArray.empty, .int .i64 0, .string ByteArray.empty, .int .i64 0, .int .i64 0, .int .i64 0, .int .i64 0, .int .i64 0, .bool false, .string ByteArray.empty, .string ByteArray.empty, .string ByteArray.empty, .slice none 0 0], .int .u16 0, .int .i64 0], []⟩ 8 (by kernel_rfl) (by kernel_rfl) (by kernel_rfl) (by kernel_rfl)) ?_
  intro W base args ds gs before hval0 hW hcnd _
  have hval : ∀ (j : Nat) t v, Tryz.f4.params[j]? = some t → args[j]? = some v → Value.okWide Tryz.prog W .any base t v := hval0
  have hW' := hW
  obtain ⟨p, q, hA0, hV, rfl, hfz, hnd⟩ := hW
  have hA : DataW.TrodAll enc Tryz.prog W 0 (fun _ => true) true Tryz.f4.params.toList args.toList ds p := hA0
  rw [Tryz.params4] at hA hval
  obtain ⟨v0, vs0, d0, ds0, p0, q0, hargs, rfl, rfl, h0, r0⟩ := trodAll_cons hA
  obtain ⟨v1, vs1, d1, ds1, p1, q1, rfl, rfl, rfl, h1, r1⟩ := trodAll_cons r0
  obtain ⟨v2, vs2, d2, ds2, p2, q2, rfl, rfl, rfl, h2, r2⟩ := trodAll_cons r1
  obtain ⟨v3, vs3, d3, ds3, p3, q3, rfl, rfl, rfl, h3, r3⟩ := trodAll_cons r2
  obtain ⟨v4, vs4, d4, ds4, p4, q4, rfl, rfl, rfl, h4, r4⟩ := trodAll_cons r3
  obtain ⟨rfl, rfl, rfl⟩ := trodAll_nil r4
  obtain rfl : args = #[v0, v1, v2, v3, v4] := by cases args; simp_all
  obtain ⟨rfl, rfl⟩ := trodVars_none hV
  have k0 := h0
  have lt0 : ∀ x ∈ p0, x.block < W.heap.size := by obtain ⟨m, hm⟩ := k0; exact DataW.trod_lt m _ _ _ hm
  obtain ⟨c0, rfl, e0⟩ := V.rd_ag (s := (.cons (.int .u8) (.cons (.sl (.int .u8)) (.cons (.sl (.ag (.cons (.int .u8) (.cons (.int .u8) (.cons (.int .u8) (.cons (.int .u16) (.cons (.int .u8) .nil))))))) .nil)))) (by kernel_rfl) (hval 0 25 v0 rfl rfl) h0
  have k1 := h1
  have lt1 : ∀ x ∈ p1, x.block < W.heap.size := by obtain ⟨m, hm⟩ := k1; exact DataW.trod_lt m _ _ _ hm
  obtain ⟨c1, rfl, e1⟩ := V.rd_ag (s := (.cons (.ag (.cons (.int .u8) (.cons (.int .u8) (.cons (.int .i64) (.cons .str (.cons (.ag (.cons .str (.cons (.int .i64) .nil))) .nil)))))) (.cons (.ag (.cons (.int .u8) (.cons (.int .u8) (.cons (.int .i64) (.cons .str (.cons (.ag (.cons .str (.cons (.int .i64) .nil))) .nil)))))) .nil))) (by kernel_rfl) (hval 1 30 v1 rfl rfl) h1
  have k2 := h2
  have lt2 : ∀ x ∈ p2, x.block < W.heap.size := by obtain ⟨m, hm⟩ := k2; exact DataW.trod_lt m _ _ _ hm
  obtain ⟨c2, rfl, e2⟩ := V.rd_ag (s := (.cons (.ag (.cons (.ag (.cons .str (.cons (.int .i64) .nil))) (.cons (.ag (.cons .str (.cons (.int .i64) .nil))) .nil))) (.cons (.int .i64) (.cons (.int .i64) (.cons (.int .i64) (.cons (.int .i64) (.cons .bool (.cons .str (.cons .str (.cons .str (.cons (.sl (.int .i64)) .nil))))))))))) (by kernel_rfl) (hval 2 34 v2 rfl rfl) h2
  have k3 := h3
  have lt3 : ∀ x ∈ p3, x.block < W.heap.size := by obtain ⟨m, hm⟩ := k3; exact DataW.trod_lt m _ _ _ hm
  obtain ⟨a3, rfl, rfl, rfl, w3⟩ := open_int Tryz.underlying53 (hval 3 53 v3 rfl rfl) h3
  have k4 := h4
  have lt4 : ∀ x ∈ p4, x.block < W.heap.size := by obtain ⟨m, hm⟩ := k4; exact DataW.trod_lt m _ _ _ hm
  obtain ⟨a4, rfl, rfl, rfl, w4⟩ := open_int Tryz.underlying3 (hval 4 3 v4 rfl rfl) h4
  clear hA0 hval0
  refine (times_at c0 c1 c2 e0 e1 e2 a3 a4 w3).mono fun e W' ⟨he, bel⟩ => ?_
  have bel : Below W.heap.size W W' := bel
  subst he
  exact ⟨_, rfl, _, _, _, [], _, [], hW', trodAll_mk1 (shut_bool Tryz.underlying4 _), (trodAll_cons_mk (Below.trod laidOut (by kernel_rfl) (of_decide_eq_true (by kernel_rfl)) k0 bel lt0) (trodAll_cons_mk (Below.trod laidOut (by kernel_rfl) (of_decide_eq_true (by kernel_rfl)) k1 bel lt1) (trodAll_cons_mk (Below.trod laidOut (by kernel_rfl) (of_decide_eq_true (by kernel_rfl)) k2 bel lt2) (trodAll_cons_mk (Below.trod laidOut (by kernel_rfl) (of_decide_eq_true (by kernel_rfl)) k3 bel lt3) (trodAll_cons_mk (Below.trod laidOut (by kernel_rfl) (of_decide_eq_true (by kernel_rfl)) k4 bel lt4) trodAll_mk0))))), rfl, bel.frame _, fun h => by cases h⟩

theorem over : Rows.consentTimesRow.holds Tryz.pinned (OpenSpec.ofChange Rows.consentTimesSpec) :=
  OpenClaim.holds_of_wide 4 Tryz.f4 rfl rfl rfl rfl rfl rfl rfl ⟨rfl, rfl, rfl, rfl, rfl⟩ rfl rfl rfl rfl rfl (by kernel_rfl) Tryz.func4 (by kernel_rfl)
    (of_decide_eq_true (by kernel_rfl)) (by unfold Func.isWrapper; first | (rw [if_pos (by decide +kernel)]; kernel_rfl) | (rw [if_neg (by decide +kernel)]; exact ⟨rfl, rfl⟩))
    (fun os started H enc _ => lifted os started H enc)

theorem proved : Rows.ConsentTimesSaid := over
#print axioms proved
end Go.Proofs.YtgkhcgiggjijlaaGreat.consentTimes
