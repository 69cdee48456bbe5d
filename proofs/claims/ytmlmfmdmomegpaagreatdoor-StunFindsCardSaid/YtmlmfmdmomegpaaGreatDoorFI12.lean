/- Chapter 08: StunFinds. -/
/- StunFinds returns true for every input, where the two tables of unicode/utf8 that its card ties read as they are laid. -/
import Derived.Test.YtmlmfmdmomegpaaGreatDoorFI11
import Derived.Test.YtmlmfmdmomegpaaGreatDoorCards
import Derived.Test.YtmlmfmdmomegpaaGreatDoorTie
import Derived.SevenTiedAt
import Derived.Stop.Joined
import Derived.LaidMore
import Derived.Lay
import Derived.MakeChecks
import Derived.Test.YtmlmfmdmomegpaaGreatDoorRows
import Derived.WalkKit
import Derived.ProofKit
import Derived.OpenShut
import Derived.SizedLaws
import Derived.ShutString
import Derived.ChangeOld
import Derived.Below
import Derived.Test.YtmlmfmdmomegpaaGreatDoorFI04
namespace Go.Proofs.YtmlmfmdmomegpaaGreatDoor
set_option linter.unusedSimpArgs false
set_option linter.unusedVariables false
set_option maxRecDepth 100000
open Go.RowKit V
set_option maxHeartbeats 51200000
theorem find_first {k : Int} {al : List At2} : (∃ (i : Nat) (a : At2), idxI k al = i ∧ al[i]? = some a ∧ findA k al = some a.2) ∨ (idxI k al = -1 ∧ findA k al = none) := by
  cases hI : al.findIdx? (kindB k) with
  | none =>
    refine .inr ⟨by unfold idxI; rw [hI], ?_⟩
    unfold findA
    rw [List.find?_eq_none.2 fun x hx => by have := List.findIdx?_eq_none_iff.1 hI x hx; simpa using this]
    rfl
  | some i =>
    obtain ⟨hi, h2, h3⟩ := List.findIdx?_eq_some_iff_getElem.1 hI
    refine .inl ⟨i, al[i], by unfold idxI; rw [hI], List.getElem?_eq_getElem hi, ?_⟩
    unfold findA
    rw [List.find?_eq_some_iff_getElem.2 ⟨h2, i, hi, rfl, fun j hj => by have := h3 j hj; revert this; cases kindB k (al[j]'(by omega)) <;> simp⟩]
    rfl
theorem finds_c {W : World} {v0 v1 : Value} {rl : List At2} {ps : List Pc3} (rc rm : Int) (rid : ByteArray) (hv0 : SA W v0 rl) (hrid : rid.size ≤ maxLen) (hrl : ∀ a ∈ rl, AtOk a)
    (c8 m16 : Nat) (id0 : ByteArray) (hv : SPc W v1 ps) (hps : ∀ p ∈ ps, PcOk p) (hc8 : c8 < 256) (hm16 : m16 < 65536) (hid : id0.size ≤ maxLen)
    (wh at_ : Nat) (N : Int) (S : ByteArray) (hwh : wh < 256) (hat : at_ < 256) (hN : in8 N) (hS : S.size ≤ maxLen) (wh2 at2 : Nat) (N2 : Int) (S2 : ByteArray) (hwh2 : wh2 < 256) (hat2 : at2 < 256) (hN2 : in8 N2) (hS2 : S2.size ≤ maxLen) (kd : Int) (an : Nat) (han : an < 256) :
    Calls Tryz.prog 4 #[.agg #[.int .i64 rc, .int .i64 rm, .string rid, v0], .agg #[.int .u8 c8, .int .u16 m16, .string id0, v1], .agg #[.int .u8 wh, .int .u8 at_, .int .i64 N, .string S], .agg #[.int .u8 wh2, .int .u8 at2, .int .i64 N2, .string S2], .int .i64 kd, .int .u8 an] W fun e w' => e = .returned (.bool true) ∧ Ext W w' := by
  have ms := fun {w : World} (hx : Ext W w) => messages_c (W := w) rc rm rid (hv0.ext hx) hrid hrl c8 m16 id0 (SLn.ext hv hx) hps hc8 hm16 hid wh at_ N S hwh hat hN hS wh2 at2 N2 S2 hwh2 hat2 hN2 hS2
  obtain ⟨p0, cp0, rfl⟩ := hv0.shape
  obtain ⟨p1, cp1, rfl⟩ := SPc.shape hv
  refine v_reads (args := [.agg #[.int .i64 rc, .int .i64 rm, .string rid, .slice p0 rl.length cp0], .agg #[.int .u8 c8, .int .u16 m16, .string id0, .slice p1 ps.length cp1], .agg #[.int .u8 wh, .int .u8 at_, .int .i64 N, .string S], .agg #[.int .u8 wh2, .int .u8 at2, .int .i64 N2, .string S2], .int .i64 kd, .int .u8 an]) TTok FFok Tryz.func4 rfl rfl ?_
  conv => whnf
  refine VSeq.mk fun Kq hKq => ?_
  conv => whnf
  have hp := Hp.nil W
  refine hp.kboxA fun q6 w hp hx => ?_
  conv => whnf
  refine hp.kboxA fun q7 w hp hx => ?_
  conv => whnf
  refine hp.kboxA fun q8 w hp hx => ?_
  conv => whnf
  refine hp.kboxA fun q9 w hp hx => ?_
  conv => whnf
  refine hKq _ _ _ (.refl _) ?_
  clear hKq Kq
  conv => whnf
  refine VSeq.mk fun Kq hKq => ?_
  conv => whnf
  refine VSeq.mk fun Kq hKq => ?_
  conv => whnf
  refine PureF.use (works_p) fun w hx => ?_
  try (have hp := hp.call hx)
  conv => whnf
  refine hKq _ _ _ (.refl _) ?_
  clear hKq Kq
  conv => whnf
  refine And.intro (fun h => by cases h) (fun _ => ?_)
  conv => whnf
  refine hKq _ _ _ (.refl _) ?_
  clear hKq Kq
  conv => whnf
  refine VSeq.mk fun Kq hKq => ?_
  conv => whnf
  refine VSeq.mk fun Kq hKq => ?_
  conv => whnf
  (refine ⟨_, _, Blk.ldV (vs := [_, _, _, _]) (hp.get (i := 3) rfl) TTok rfl rfl rfl, ?_⟩; conv => whnf)
  (refine ⟨_, _, Blk.ldV (vs := [_, _, _, _]) (hp.get (i := 2) rfl) TTok rfl rfl rfl, ?_⟩; conv => whnf)
  (refine ⟨_, _, Blk.ldV (vs := [_, _, _, _]) (hp.get (i := 1) rfl) TTok rfl rfl rfl, ?_⟩; conv => whnf)
  (refine ⟨_, _, Blk.ldV (vs := [_, _, _, _]) (hp.get (i := 0) rfl) TTok rfl rfl rfl, ?_⟩; conv => whnf)
  refine Calls.mono (ms hp.ext) ?_
  clear ms
  rintro _ wF ⟨A, rfl, hF, hx⟩
  refine ⟨_, rfl, ?_⟩
  have hxF := hp.ext.trans hx
  clear hp hx hv0 hv
  repeat clear hp
  obtain ⟨cs, rfl⟩ := hF.1
  have hp := Hp.nil wF
  conv => whnf
  refine hKq _ _ _ (.refl _) ?_
  clear hKq Kq
  conv => whnf
  refine ⟨fun mm e w' => ∃ (k : Nat), mm + k = 4 ∧ e = [(4, .v (.int .i64 kd)), (5, .v (.int .u8 an)), (31, .v (.agg cs)), (32, .v (.int .i64 k))] ∧ HpM [] wF w' [],
    ⟨4, _, ⟨0, by omega, rfl, hp⟩, sub_cons rfl (sub_cons rfl (sub_cons rfl (sub_cons rfl sub_nil)))⟩, ?_⟩
  clear hp
  repeat clear hp
  rintro mm _ w ⟨k, hmm, rfl, hp⟩
  conv => whnf
  refine VSeq.mk fun Kq hKq => ?_
  conv => whnf
  refine hKq _ _ _ (.refl _) ?_
  clear hKq Kq
  conv => whnf
  refine VSeq.mk fun Kq hKq => ?_
  conv => whnf
  refine ⟨fun hlt => ?_, fun hlt => ?_⟩
  · have hlt := of_decide_eq_true hlt
    conv => whnf
    refine hKq _ _ _ (.refl _) ?_
    clear hKq Kq
    conv => whnf
    refine VSeq.mk fun Kq hKq => ?_
    conv => whnf
    refine VSeq.mk fun Kq hKq => ?_
    conv => whnf
    obtain ⟨c, m, id, al, p, cp, mo, sa, -, hix⟩ := hF.2 k (by omega)
    refine ⟨_, _, hix _, ?_⟩
    conv => whnf
    (refine hp.kalloc z24 fun al24 w hp hx => ?_; conv => whnf)
    (refine hp.kstA TTok rfl 0 rfl rfl (oneC_of rfl) (by rfl) fun w hp => ?_; try simp only [List.set_cons_zero, List.set_cons_succ, EV.val] at hp; conv => whnf)
    (refine hKq _ _ _ (.refl _) ?_; clear hKq Kq; conv => whnf)
    (refine VSeq.mk fun Kq hKq => ?_; conv => whnf)
    (refine ⟨_, _, Blk.ldV (vs := [_, _, _, _]) (hp.get (i := 0) rfl) TTok rfl rfl rfl, ?_⟩; conv => whnf)
    obtain ⟨b14, rfl⟩ : ∃ q, q = al24 := ⟨al24, rfl⟩
    have sx := fun {w : World} (hp : HpM [] wF w [blk b14 [.int .i64 c, .int .i64 m, .string id, .slice p al.length cp] 24]) => sa.ext hp.ext
    have cR := fun {w : World} hx => right8_c (W := w) (v := .slice p al.length cp) (al := al) c m id hx
    have hml := mo.len
    obtain ⟨B, hB⟩ : ∃ B, stunB c m id al = B := ⟨_, rfl⟩
    rw [hB] at cR
    refine V.CallsUse (cR (sa.ext hp.ext)) fun w hx => ?_
    try (have hp := hp.call hx)
    conv => whnf
    refine hKq _ _ _ (.refl _) ?_
    clear hKq Kq
    conv => whnf
    refine VSeq.mk fun Kq hKq => ?_
    conv => whnf
    clear cR
    cases B with
    | true =>
      obtain ⟨C, rfl⟩ := Int.eq_ofNat_of_zero_le (stunB_t hB).1
      obtain ⟨M, rfl⟩ := Int.eq_ofNat_of_zero_le (stunB_t hB).2.2.1
      (refine ⟨_, _, Blk.ldV (vs := [_, _, _, _]) (hp.get (i := 0) rfl) TTok rfl rfl rfl, ?_⟩; conv => whnf)
      refine Calls.mono (Unknown_ok C M id (sa.ext hp.ext) hB) ?_
      rintro _ w ⟨_, rfl, lv, rfl, hr⟩
      refine ⟨_, rfl, ?_⟩
      have hp := hp.join hr
      clear hr
      simp only [List.cons_append, List.nil_append] at hp
      obtain ⟨pl, cl, rfl⟩ := row_shape (hp.get (i := 0) rfl)
      conv => whnf
      (refine hKq _ _ _ (.refl _) ?_; clear hKq Kq; conv => whnf)
      (refine VSeq.mk fun Kq hKq => ?_; conv => whnf)
      (refine VSeq.mk fun Kq hKq => ?_; conv => whnf)
      (refine VSeq.mk fun Kq hKq => ?_; conv => whnf)
      (refine hKq _ _ _ (.refl _) ?_; clear hKq Kq; conv => whnf)
      (refine VSeq.mk fun Kq hKq => ?_; conv => whnf)
      (refine And.intro (fun h => absurd h (by decide)) (fun _ => ?_); conv => whnf)
      (refine hKq _ _ _ (.refl _) ?_; clear hKq Kq; conv => whnf)
      (refine And.intro (fun _ => ?_) (fun h => absurd h (by decide)); conv => whnf)
      (refine And.intro (fun h => absurd (of_decide_eq_true h) (by first | (intro h2; exact absurd rfl h2) | omega | decide)) (fun _ => ?_); conv => whnf)
      (refine ⟨_, _, Blk.ldV (vs := [_, _, _, _]) (hp.get (i := 1) rfl) TTok rfl rfl rfl, ?_⟩; conv => whnf)
      refine Calls.mono (unknown8_c C M id (sa.ext hp.ext) (by omega)) ?_
      rintro _ w ⟨lv, rfl, hr⟩
      refine ⟨_, rfl, ?_⟩
      have hp := hp.join hr
      clear hr
      simp only [List.cons_append, List.nil_append] at hp
      obtain ⟨pm, cm, rfl⟩ := row_shape (hp.get (i := 0) rfl)
      conv => whnf
      skip
      have hul := unL_len al
      refine V.CallsUse (ints8_c (unL al) (unL al) (SLv.of_row (hp.get (i := 1) rfl)) (SLv.of_row (hp.get (i := 0) rfl)) (by omega) (by omega)) fun w hx => ?_
      try (have hp := hp.call hx)
      conv => whnf
      refine hKq _ _ _ (.refl _) ?_
      clear hKq Kq
      conv => whnf
      rw [decide_eq_true (rfl : unL al = unL al)]
      (refine And.intro (fun h => absurd h (by decide)) (fun _ => ?_); conv => whnf)
      (refine hKq _ _ _ (.refl _) ?_; clear hKq Kq; conv => whnf)
      (refine VSeq.mk fun Kq hKq => ?_; conv => whnf)
      have hp := hp.sub (List.drop_sublist 2 _)
      simp only [List.drop_succ_cons, List.drop_zero] at hp
      refine hp.kmadeR [.int .i64 kd, .int .i64 32, .int .i64 32808] 3 1 3 rfl (by decide) (by kernel_rfl) fun b w hp hx => ?_
      conv => whnf
      (refine hKq _ _ _ (.refl _) ?_; clear hKq Kq; conv => whnf)
      (refine VSeq.mk fun Kq hKq => ?_; conv => whnf)
      (refine VSeq.mk fun Kq hKq => ?_; conv => whnf)
      (refine ⟨_, _, Blk.ld (hp.get (i := 1) rfl) TTok rfl rfl, ?_⟩; conv => whnf)
      (refine hKq _ _ _ (.refl _) ?_; clear hKq Kq; conv => whnf)
      have key : ∀ (ks : List Int) (pk : Option Addr) (ck : Nat) (l : Env) (w : World), ks.length ≤ 4 → V.Sub [(4, .v (.int .i64 kd)), (5, .v (.int .u8 an)), (14, .v (.pointer (some ⟨b14, 0, none⟩))), (15, .v (.bool true)), (18, .v (.slice pk ks.length ck)), (31, .v (.agg cs)), (32, .v (.int .i64 k))] l → HpM [] wF w [row 3 1 (.slice pk ks.length ck) ks.length (ks.map (.int .i64)), blk b14 [.int .i64 C, .int .i64 M, .string id, .slice p al.length cp] 24] → Kq l w := by
        intro ks pk ck l w hks hs hp
        refine hKq _ _ _ hs ?_
        clear hKq Kq hs
        conv => whnf
        (refine VSeq.mk fun Kq hKq => ?_; conv => whnf)
        (refine hKq _ _ _ (.refl _) ?_; clear hKq Kq; conv => whnf)
        refine ⟨fun m2 e w' => ∃ (j : Nat), m2 + j = ks.length ∧ e = [(4, .v (.int .i64 kd)), (5, .v (.int .u8 an)), (14, .v (.pointer (some ⟨b14, 0, none⟩))), (15, .v (.bool true)), (31, .v (.agg cs)), (32, .v (.int .i64 k)), (87, .v (.slice pk ks.length ck)), (88, .v (.int .i64 ks.length)), (89, .v (.int .i64 j))] ∧ HpM [] wF w' [row 3 1 (.slice pk ks.length ck) ks.length (ks.map (.int .i64)), blk b14 [.int .i64 C, .int .i64 M, .string id, .slice p al.length cp] 24],
          ⟨ks.length, _, ⟨0, by omega, rfl, hp⟩, sub_cons rfl (sub_cons rfl (sub_cons rfl (sub_cons rfl (sub_cons rfl (sub_cons rfl (sub_cons rfl (sub_cons rfl (sub_cons rfl sub_nil))))))))⟩, ?_⟩
        clear hp
        repeat clear hp
        rintro m2 _ w ⟨j, hm2, rfl, hp⟩
        conv => whnf
        refine VSeq.mk fun Kq hKq => ?_
        conv => whnf
        refine hKq _ _ _ (.refl _) ?_
        clear hKq Kq
        conv => whnf
        refine VSeq.mk fun Kq hKq => ?_
        conv => whnf
        refine ⟨fun hj => ?_, fun hj => ?_⟩
        · have hj := of_decide_eq_true hj
          conv => whnf
          refine hKq _ _ _ (.refl _) ?_
          clear hKq Kq
          conv => whnf
          refine VSeq.mk fun Kq hKq => ?_
          conv => whnf
          refine VSeq.mk fun Kq hKq => ?_
          conv => whnf
          obtain ⟨kk, hkk⟩ : ∃ a, ks[j]? = some a := ⟨ks[j]'(by omega), List.getElem?_eq_getElem (by omega)⟩
          obtain ⟨g, off, he, hld⟩ := SLv.at (SLv.of_row (hp.get (i := 0) rfl)) (j := j) (x := .int .i64 kk) (by rw [List.getElem?_map, hkk]; rfl)
          obtain rfl := he
          rw [Nat.add_comm] at hld
          refine ⟨j, ⟨by first | rfl | omega, by show j < ks.length; omega⟩, ?_⟩
          conv => whnf
          refine ⟨_, _, run_ld TTok rfl hld, ?_⟩
          conv => whnf
          refine hKq _ _ _ (.refl _) ?_
          clear hKq Kq
          conv => whnf
          refine VSeq.mk fun Kq hKq => ?_
          conv => whnf
          (refine ⟨_, _, Blk.ldV (vs := [_, _, _, _]) (hp.get (i := 1) rfl) TTok rfl rfl rfl, ?_⟩; conv => whnf)
          have cF := fun {w : World} hx => Find_c (W := w) (v := .slice p al.length cp) (al := al) C M id kk hx
          rcases find_first (k := kk) (al := al) with ⟨i, a, e1, e2, e3⟩ | ⟨e1, e3⟩
          · have hfc : findC C M id al kk = (a.2, 0) := by unfold findC; rw [if_pos hB, e3]
            have cI := fun {w : World} {v : Value} hx => first8_c (W := w) (v := v) (al := al) C M id kk hx
            rw [e1] at cI
            rw [hfc] at cF
            have hil : i < al.length := (List.getElem?_eq_some_iff.1 e2).1
            obtain ⟨g2, off2, he2, -⟩ := sa.at e2
            obtain rfl := he2
            refine V.CallsUse (cF (sa.ext hp.ext)) fun w hx => ?_
            try (have hp := hp.call hx)
            conv => whnf
            refine hKq _ _ _ (.refl _) ?_
            clear hKq Kq
            conv => whnf
            refine VSeq.mk fun Kq hKq => ?_
            conv => whnf
            refine hKq _ _ _ (.refl _) ?_
            clear hKq Kq
            conv => whnf
            refine VSeq.mk fun Kq hKq => ?_
            conv => whnf
            refine VSeq.mk fun Kq hKq => ?_
            conv => whnf
            refine hKq _ _ _ (.refl _) ?_
            clear hKq Kq
            conv => whnf
            (refine And.intro (fun h => absurd h (by decide)) (fun _ => ?_); conv => whnf)
            (refine VSeq.mk fun Kq hKq => ?_; conv => whnf)
            (refine ⟨_, _, Blk.ldV (vs := [_, _, _, _]) (hp.get (i := 1) rfl) TTok rfl rfl rfl, ?_⟩; conv => whnf)
            refine V.CallsUse (cI (sa.ext hp.ext)) fun w hx => ?_
            try (have hp := hp.call hx)
            conv => whnf
            refine hKq _ _ _ (.refl _) ?_
            clear hKq Kq
            conv => whnf
            (refine And.intro (fun h => absurd (of_decide_eq_true h) (by first | (intro h2; exact absurd rfl h2) | omega | decide)) (fun _ => ?_); conv => whnf)
            refine v_mixA TTok FFok mixed [(0, false), (1, false), (2, false), (3, false), (4, false), (5, false), (6, false), (7, false), (8, false)] (by kernel_rfl) ?_
            conv => whnf
            (refine ⟨_, fun w' hx' => Blk.ld (Blk.ext (hp.get (i := 1) rfl) hx') TTok rfl rfl, ?_⟩; conv => whnf)
            (refine ⟨_, fun w' hx' => Blk.ldV (vs := [_, _, _, _]) (Blk.ext (hp.get (i := 1) rfl) hx') TTok rfl rfl rfl, ?_⟩; conv => whnf)
            refine ⟨_, fun w1 hx1 => cI (sa.ext (hp.ext.trans hx1)), ?_⟩
            conv => whnf
            refine ⟨i, ⟨by first | rfl | omega, by omega⟩, ?_⟩
            conv => whnf
            refine ⟨_, fun w1 hx1 => SA.ld1 (sa.ext (hp.ext.trans hx1)) e2, ?_⟩
            conv => whnf
            (intro w hx; try (have hp := hp.call hx); conv => whnf)
            (refine hKq _ _ _ (.refl _) ?_; clear hKq Kq; conv => whnf)
            (refine VSeq.mk fun Kq hKq => ?_; conv => whnf)
            (refine VSeq.mk fun Kq hKq => ?_; conv => whnf)
            (refine hKq _ _ _ (.refl _) ?_; clear hKq Kq; conv => whnf)
            (refine And.intro (fun h => absurd (of_decide_eq_true h) (by first | (intro h2; exact absurd rfl h2) | omega | decide)) (fun _ => ?_); conv => whnf)
            (refine hKq _ _ _ (.refl _) ?_; clear hKq Kq; conv => whnf)
            (refine And.intro (fun h => absurd (of_decide_eq_true h) (by first | (intro h2; exact absurd rfl h2) | omega | decide)) (fun _ => ?_); conv => whnf)
            (refine hKq _ _ _ (.refl _) ?_; clear hKq Kq; conv => whnf)
            (refine Or.inl (And.intro (by first | omega | decide) ?_); conv => whnf)
            exact ⟨m2 - 1, _, by omega, ⟨j + 1, by omega, rfl, hp⟩, sub_cons rfl (sub_cons rfl (sub_cons rfl (sub_cons rfl (sub_cons rfl (sub_cons rfl (sub_cons rfl (sub_cons rfl (sub_cons rfl (sub_nil)))))))))⟩
          · have hfc : findC C M id al kk = (.empty, 4) := by unfold findC; rw [if_pos hB, e3]
            have cI := fun {w : World} {v : Value} hx => first8_c (W := w) (v := v) (al := al) C M id kk hx
            rw [e1] at cI
            rw [hfc] at cF
            refine V.CallsUse (cF (sa.ext hp.ext)) fun w hx => ?_
            try (have hp := hp.call hx)
            conv => whnf
            refine hKq _ _ _ (.refl _) ?_
            clear hKq Kq
            conv => whnf
            refine VSeq.mk fun Kq hKq => ?_
            conv => whnf
            refine hKq _ _ _ (.refl _) ?_
            clear hKq Kq
            conv => whnf
            refine VSeq.mk fun Kq hKq => ?_
            conv => whnf
            refine VSeq.mk fun Kq hKq => ?_
            conv => whnf
            refine hKq _ _ _ (.refl _) ?_
            clear hKq Kq
            conv => whnf
            (refine And.intro (fun h => absurd h (by decide)) (fun _ => ?_); conv => whnf)
            (refine VSeq.mk fun Kq hKq => ?_; conv => whnf)
            (refine ⟨_, _, Blk.ldV (vs := [_, _, _, _]) (hp.get (i := 1) rfl) TTok rfl rfl rfl, ?_⟩; conv => whnf)
            refine V.CallsUse (cI (sa.ext hp.ext)) fun w hx => ?_
            try (have hp := hp.call hx)
            conv => whnf
            refine hKq _ _ _ (.refl _) ?_
            clear hKq Kq
            conv => whnf
            (refine And.intro (fun _ => ?_) (fun h => absurd (by first | rfl | assumption | omega | decide) (of_decide_eq_false h)); conv => whnf)
            (refine hKq _ _ _ (.refl _) ?_; clear hKq Kq; conv => whnf)
            (refine VSeq.mk fun Kq hKq => ?_; conv => whnf)
            (refine VSeq.mk fun Kq hKq => ?_; conv => whnf)
            (refine hKq _ _ _ (.refl _) ?_; clear hKq Kq; conv => whnf)
            (refine And.intro (fun h => absurd (of_decide_eq_true h) (by first | (intro h2; exact absurd rfl h2) | omega | decide)) (fun _ => ?_); conv => whnf)
            (refine hKq _ _ _ (.refl _) ?_; clear hKq Kq; conv => whnf)
            (refine And.intro (fun h => absurd (of_decide_eq_true h) (by first | (intro h2; exact absurd rfl h2) | omega | decide)) (fun _ => ?_); conv => whnf)
            (refine hKq _ _ _ (.refl _) ?_; clear hKq Kq; conv => whnf)
            (refine Or.inl (And.intro (by first | omega | decide) ?_); conv => whnf)
            exact ⟨m2 - 1, _, by omega, ⟨j + 1, by omega, rfl, hp⟩, sub_cons rfl (sub_cons rfl (sub_cons rfl (sub_cons rfl (sub_cons rfl (sub_cons rfl (sub_cons rfl (sub_cons rfl (sub_cons rfl (sub_nil)))))))))⟩
        · have hj := of_decide_eq_false hj
          conv => whnf
          clear hKq Kq
          refine hKq _ _ _ (.refl _) ?_
          clear hKq Kq
          conv => whnf
          refine Or.inl (And.intro (by omega) ?_)
          conv => whnf
          conv => whnf
          exact ⟨mm - 1, _, by omega, ⟨k + 1, by omega, rfl, hp.sub (List.nil_sublist _)⟩, sub_cons rfl (sub_cons rfl (sub_cons rfl (sub_cons rfl sub_nil)))⟩
      clear hKq
      by_cases hl0 : 0 < al.length
      · have hk : an % al.length < al.length := Nat.mod_lt _ hl0
        have ek : (an : Int) % (al.length : Int) = ((an % al.length : Nat) : Int) := by rw [Int.natCast_emod]
        obtain ⟨a, ha⟩ : ∃ a, al[an % al.length]? = some a := ⟨al[an % al.length]'hk, List.getElem?_eq_getElem hk⟩
        obtain ⟨g, off, he, -⟩ := sa.at ha
        obtain rfl := he
        have hl0q := fun {w : World} (hx : Ext wF w) => SA.ld0 (sa.ext hx) ha
        (refine And.intro (fun _ => ?_) (fun h => absurd (by first | rfl | assumption | omega | decide) (of_decide_eq_false h)); conv => whnf)
        refine v_mix TTok FFok mixed 13 [(0, false), (1, false), (2, false), (3, false), (4, false), (5, false), (6, false), (7, false), (8, false), (9, false), (10, false), (11, false), (12, true)] (by kernel_rfl) ?_
        conv => whnf
        (refine ⟨_, fun w' hx' => Blk.ld (Blk.ext (hp.get (i := 1) rfl) hx') TTok rfl rfl, ?_⟩; conv => whnf)
        (refine Or.inl (And.intro (by first | omega | decide) ?_); conv => whnf)
        (refine ⟨_, fun w' hx' => Blk.ld (Blk.ext (hp.get (i := 1) rfl) hx') TTok rfl rfl, ?_⟩; conv => whnf)
        (refine And.intro (by first | omega | decide) ?_; conv => whnf)
        rw [ek]
        refine ⟨an % al.length, ⟨by first | rfl | omega, by omega⟩, ?_⟩
        conv => whnf
        refine ⟨_, fun w1 hx1 => hl0q (hp.ext.trans hx1), ?_⟩
        conv => whnf
        (intro w hx; try (have hp := hp.call hx); conv => whnf)
        obtain ⟨_, w, hr, tb, rfl, hp, hx⟩ : ∃ u w', (Instr.buildSlice 48 1 #[(0, .int .i64 a.1)]).run Tryz.prog w = .ok u w' ∧ ∃ b, u = .slice (some ⟨b, 0, none⟩) 1 1 ∧ HpM [] wF w' (blk b [.int .i64 a.1] 3 :: _) ∧ Ext w w' := hp.kmade _ _ (fun b => .slice (some ⟨b, 0, none⟩) 1 1) (mks48_1_0 _ a.1) fun tb w hp hx => ⟨tb, rfl, hp, hx⟩
        refine ⟨_, _, hr, ?_⟩
        clear hr
        conv => whnf
        refine And.intro hx ?_
        conv => whnf
        (intro w hx; try (have hp := hp.call hx); conv => whnf)
        refine hp.kapp sl48 1 rfl (Blk.src TTok (hp.get (i := 0) rfl) rfl rfl (oneC_of rfl)) (by decide) (by unfold maxLen; decide) fun v' w hp => ?_
        simp only [List.set_cons_zero, List.set_cons_succ] at hp
        obtain ⟨p9, c9, rfl⟩ := row_shape (hp.get (i := 1) rfl)
        conv => whnf
        skip
        exact key [kd, 32, 32808, a.1] _ _ _ _ (by simp) (sub_cons rfl (sub_cons rfl (sub_cons rfl (sub_cons rfl (sub_cons rfl (sub_cons rfl (sub_cons rfl sub_nil))))))) hp.tail
      · (refine And.intro (fun h => absurd (of_decide_eq_true h) (by first | (intro h2; exact absurd rfl h2) | omega | decide)) (fun _ => ?_); conv => whnf)
        exact key [kd, 32, 32808] _ _ _ _ (by simp) (sub_cons rfl (sub_cons rfl (sub_cons rfl (sub_cons rfl (sub_cons rfl (sub_cons rfl (sub_cons rfl sub_nil))))))) hp
    | false =>
      (refine ⟨_, _, Blk.ldV (vs := [_, _, _, _]) (hp.get (i := 0) rfl) TTok rfl rfl rfl, ?_⟩; conv => whnf)
      refine V.CallsUse (Unknown_bad c m id (sa.ext hp.ext) hB) fun w hx => ?_
      try (have hp := hp.call hx)
      conv => whnf
      refine hKq _ _ _ (.refl _) ?_
      clear hKq Kq
      conv => whnf
      refine VSeq.mk fun Kq hKq => ?_
      conv => whnf
      refine VSeq.mk fun Kq hKq => ?_
      conv => whnf
      refine VSeq.mk fun Kq hKq => ?_
      conv => whnf
      refine hKq _ _ _ (.refl _) ?_
      clear hKq Kq
      conv => whnf
      refine VSeq.mk fun Kq hKq => ?_
      conv => whnf
      (refine And.intro (fun _ => ?_) (fun h => absurd h (by decide)); conv => whnf)
      (refine And.intro (fun h => absurd (of_decide_eq_true h) (by first | (intro h2; exact absurd rfl h2) | omega | decide)) (fun _ => ?_); conv => whnf)
      (refine hKq _ _ _ (.refl _) ?_; clear hKq Kq; conv => whnf)
      (refine And.intro (fun h => absurd (of_decide_eq_true h) (by first | (intro h2; exact absurd rfl h2) | omega | decide)) (fun _ => ?_); conv => whnf)
      (refine And.intro (fun h => absurd h (by decide)) (fun _ => ?_); conv => whnf)
      (refine hKq _ _ _ (.refl _) ?_; clear hKq Kq; conv => whnf)
      (refine hKq _ _ _ (.refl _) ?_; clear hKq Kq; conv => whnf)
      (refine VSeq.mk fun Kq hKq => ?_; conv => whnf)
      refine hp.kmadeR [.int .i64 kd, .int .i64 32, .int .i64 32808] 3 1 3 rfl (by decide) (by kernel_rfl) fun b w hp hx => ?_
      conv => whnf
      (refine hKq _ _ _ (.refl _) ?_; clear hKq Kq; conv => whnf)
      (refine VSeq.mk fun Kq hKq => ?_; conv => whnf)
      (refine VSeq.mk fun Kq hKq => ?_; conv => whnf)
      (refine ⟨_, _, Blk.ld (hp.get (i := 1) rfl) TTok rfl rfl, ?_⟩; conv => whnf)
      (refine hKq _ _ _ (.refl _) ?_; clear hKq Kq; conv => whnf)
      have key : ∀ (ks : List Int) (pk : Option Addr) (ck : Nat) (l : Env) (w : World), ks.length ≤ 4 → V.Sub [(4, .v (.int .i64 kd)), (5, .v (.int .u8 an)), (14, .v (.pointer (some ⟨b14, 0, none⟩))), (15, .v (.bool false)), (18, .v (.slice pk ks.length ck)), (31, .v (.agg cs)), (32, .v (.int .i64 k))] l → HpM [] wF w [row 3 1 (.slice pk ks.length ck) ks.length (ks.map (.int .i64)), blk b14 [.int .i64 c, .int .i64 m, .string id, .slice p al.length cp] 24] → Kq l w := by
        intro ks pk ck l w hks hs hp
        refine hKq _ _ _ hs ?_
        clear hKq Kq hs
        conv => whnf
        (refine VSeq.mk fun Kq hKq => ?_; conv => whnf)
        (refine hKq _ _ _ (.refl _) ?_; clear hKq Kq; conv => whnf)
        refine ⟨fun m2 e w' => ∃ (j : Nat), m2 + j = ks.length ∧ e = [(4, .v (.int .i64 kd)), (5, .v (.int .u8 an)), (14, .v (.pointer (some ⟨b14, 0, none⟩))), (15, .v (.bool false)), (31, .v (.agg cs)), (32, .v (.int .i64 k)), (87, .v (.slice pk ks.length ck)), (88, .v (.int .i64 ks.length)), (89, .v (.int .i64 j))] ∧ HpM [] wF w' [row 3 1 (.slice pk ks.length ck) ks.length (ks.map (.int .i64)), blk b14 [.int .i64 c, .int .i64 m, .string id, .slice p al.length cp] 24],
          ⟨ks.length, _, ⟨0, by omega, rfl, hp⟩, sub_cons rfl (sub_cons rfl (sub_cons rfl (sub_cons rfl (sub_cons rfl (sub_cons rfl (sub_cons rfl (sub_cons rfl (sub_cons rfl sub_nil))))))))⟩, ?_⟩
        clear hp
        repeat clear hp
        rintro m2 _ w ⟨j, hm2, rfl, hp⟩
        conv => whnf
        refine VSeq.mk fun Kq hKq => ?_
        conv => whnf
        refine hKq _ _ _ (.refl _) ?_
        clear hKq Kq
        conv => whnf
        refine VSeq.mk fun Kq hKq => ?_
        conv => whnf
        refine ⟨fun hj => ?_, fun hj => ?_⟩
        · have hj := of_decide_eq_true hj
          conv => whnf
          refine hKq _ _ _ (.refl _) ?_
          clear hKq Kq
          conv => whnf
          refine VSeq.mk fun Kq hKq => ?_
          conv => whnf
          refine VSeq.mk fun Kq hKq => ?_
          conv => whnf
          obtain ⟨kk, hkk⟩ : ∃ a, ks[j]? = some a := ⟨ks[j]'(by omega), List.getElem?_eq_getElem (by omega)⟩
          obtain ⟨g, off, he, hld⟩ := SLv.at (SLv.of_row (hp.get (i := 0) rfl)) (j := j) (x := .int .i64 kk) (by rw [List.getElem?_map, hkk]; rfl)
          obtain rfl := he
          rw [Nat.add_comm] at hld
          refine ⟨j, ⟨by first | rfl | omega, by show j < ks.length; omega⟩, ?_⟩
          conv => whnf
          refine ⟨_, _, run_ld TTok rfl hld, ?_⟩
          conv => whnf
          refine hKq _ _ _ (.refl _) ?_
          clear hKq Kq
          conv => whnf
          refine VSeq.mk fun Kq hKq => ?_
          conv => whnf
          (refine ⟨_, _, Blk.ldV (vs := [_, _, _, _]) (hp.get (i := 1) rfl) TTok rfl rfl rfl, ?_⟩; conv => whnf)
          have cF := fun {w : World} hx => Find_c (W := w) (v := .slice p al.length cp) (al := al) c m id kk hx
          have hfc : findC c m id al kk = (.empty, 80) := by unfold findC; rw [if_neg (by rw [hB]; decide)]
          rw [hfc] at cF
          refine V.CallsUse (cF (sa.ext hp.ext)) fun w hx => ?_
          try (have hp := hp.call hx)
          conv => whnf
          refine hKq _ _ _ (.refl _) ?_
          clear hKq Kq
          conv => whnf
          refine VSeq.mk fun Kq hKq => ?_
          conv => whnf
          refine hKq _ _ _ (.refl _) ?_
          clear hKq Kq
          conv => whnf
          refine VSeq.mk fun Kq hKq => ?_
          conv => whnf
          refine VSeq.mk fun Kq hKq => ?_
          conv => whnf
          refine hKq _ _ _ (.refl _) ?_
          clear hKq Kq
          conv => whnf
          (refine And.intro (fun _ => ?_) (fun h => absurd h (by decide)); conv => whnf)
          (refine hKq _ _ _ (.refl _) ?_; clear hKq Kq; conv => whnf)
          (refine VSeq.mk fun Kq hKq => ?_; conv => whnf)
          (refine VSeq.mk fun Kq hKq => ?_; conv => whnf)
          (refine hKq _ _ _ (.refl _) ?_; clear hKq Kq; conv => whnf)
          (refine And.intro (fun h => absurd (of_decide_eq_true h) (by first | (intro h2; exact absurd rfl h2) | omega | decide)) (fun _ => ?_); conv => whnf)
          (refine hKq _ _ _ (.refl _) ?_; clear hKq Kq; conv => whnf)
          (refine And.intro (fun h => absurd (of_decide_eq_true h) (by first | (intro h2; exact absurd rfl h2) | omega | decide)) (fun _ => ?_); conv => whnf)
          (refine hKq _ _ _ (.refl _) ?_; clear hKq Kq; conv => whnf)
          (refine Or.inl (And.intro (by first | omega | decide) ?_); conv => whnf)
          exact ⟨m2 - 1, _, by omega, ⟨j + 1, by omega, rfl, hp⟩, sub_cons rfl (sub_cons rfl (sub_cons rfl (sub_cons rfl (sub_cons rfl (sub_cons rfl (sub_cons rfl (sub_cons rfl (sub_cons rfl (sub_nil)))))))))⟩
        · have hj := of_decide_eq_false hj
          conv => whnf
          clear hKq Kq
          refine hKq _ _ _ (.refl _) ?_
          clear hKq Kq
          conv => whnf
          refine Or.inl (And.intro (by omega) ?_)
          conv => whnf
          conv => whnf
          exact ⟨mm - 1, _, by omega, ⟨k + 1, by omega, rfl, hp.sub (List.nil_sublist _)⟩, sub_cons rfl (sub_cons rfl (sub_cons rfl (sub_cons rfl sub_nil)))⟩
      clear hKq
      by_cases hl0 : 0 < al.length
      · have hk : an % al.length < al.length := Nat.mod_lt _ hl0
        have ek : (an : Int) % (al.length : Int) = ((an % al.length : Nat) : Int) := by rw [Int.natCast_emod]
        obtain ⟨a, ha⟩ : ∃ a, al[an % al.length]? = some a := ⟨al[an % al.length]'hk, List.getElem?_eq_getElem hk⟩
        obtain ⟨g, off, he, -⟩ := sa.at ha
        obtain rfl := he
        have hl0q := fun {w : World} (hx : Ext wF w) => SA.ld0 (sa.ext hx) ha
        (refine And.intro (fun _ => ?_) (fun h => absurd (by first | rfl | assumption | omega | decide) (of_decide_eq_false h)); conv => whnf)
        refine v_mix TTok FFok mixed 13 [(0, false), (1, false), (2, false), (3, false), (4, false), (5, false), (6, false), (7, false), (8, false), (9, false), (10, false), (11, false), (12, true)] (by kernel_rfl) ?_
        conv => whnf
        (refine ⟨_, fun w' hx' => Blk.ld (Blk.ext (hp.get (i := 1) rfl) hx') TTok rfl rfl, ?_⟩; conv => whnf)
        (refine Or.inl (And.intro (by first | omega | decide) ?_); conv => whnf)
        (refine ⟨_, fun w' hx' => Blk.ld (Blk.ext (hp.get (i := 1) rfl) hx') TTok rfl rfl, ?_⟩; conv => whnf)
        (refine And.intro (by first | omega | decide) ?_; conv => whnf)
        rw [ek]
        refine ⟨an % al.length, ⟨by first | rfl | omega, by omega⟩, ?_⟩
        conv => whnf
        refine ⟨_, fun w1 hx1 => hl0q (hp.ext.trans hx1), ?_⟩
        conv => whnf
        (intro w hx; try (have hp := hp.call hx); conv => whnf)
        obtain ⟨_, w, hr, tb, rfl, hp, hx⟩ : ∃ u w', (Instr.buildSlice 48 1 #[(0, .int .i64 a.1)]).run Tryz.prog w = .ok u w' ∧ ∃ b, u = .slice (some ⟨b, 0, none⟩) 1 1 ∧ HpM [] wF w' (blk b [.int .i64 a.1] 3 :: _) ∧ Ext w w' := hp.kmade _ _ (fun b => .slice (some ⟨b, 0, none⟩) 1 1) (mks48_1_0 _ a.1) fun tb w hp hx => ⟨tb, rfl, hp, hx⟩
        refine ⟨_, _, hr, ?_⟩
        clear hr
        conv => whnf
        refine And.intro hx ?_
        conv => whnf
        (intro w hx; try (have hp := hp.call hx); conv => whnf)
        refine hp.kapp sl48 1 rfl (Blk.src TTok (hp.get (i := 0) rfl) rfl rfl (oneC_of rfl)) (by decide) (by unfold maxLen; decide) fun v' w hp => ?_
        simp only [List.set_cons_zero, List.set_cons_succ] at hp
        obtain ⟨p9, c9, rfl⟩ := row_shape (hp.get (i := 1) rfl)
        conv => whnf
        skip
        exact key [kd, 32, 32808, a.1] _ _ _ _ (by simp) (sub_cons rfl (sub_cons rfl (sub_cons rfl (sub_cons rfl (sub_cons rfl (sub_cons rfl (sub_cons rfl sub_nil))))))) hp.tail
      · (refine And.intro (fun h => absurd (of_decide_eq_true h) (by first | (intro h2; exact absurd rfl h2) | omega | decide)) (fun _ => ?_); conv => whnf)
        exact key [kd, 32, 32808] _ _ _ _ (by simp) (sub_cons rfl (sub_cons rfl (sub_cons rfl (sub_cons rfl (sub_cons rfl (sub_cons rfl (sub_cons rfl sub_nil))))))) hp
  · have hlt := of_decide_eq_false hlt
    conv => whnf
    clear hKq Kq
    refine hKq _ _ _ (.refl _) ?_
    clear hKq Kq
    conv => whnf
    refine VSeq.mk fun Kq hKq => ?_
    conv => whnf
    refine hKq _ _ _ (.refl _) ?_
    clear hKq Kq
    conv => whnf
    conv => whnf
    exact ⟨rfl, hxF.trans hp.ext⟩
theorem at_rd {w : World} {cs : List Value} (h : Rd w (.ag sh8A) cs) : ∃ a : At2, AtOk a ∧ cs = atC a := by
  obtain ⟨_, _, rfl, ⟨k, rfl, hk⟩, _, _, rfl, ⟨s, rfl, hs⟩, h3⟩ := h
  obtain rfl : _ = [] := h3
  exact ⟨(k, s), ⟨wf_in8 hk, hs⟩, rfl⟩
def sh8R : Sh := .cons (.int .i64) (.cons (.int .i64) (.cons .str (.cons (.sl (.ag sh8A)) .nil)))
theorem raw_rd {w : World} {cs : List Value} (h : Rd w sh8R cs) : ∃ (c m : Int) (id : ByteArray) (v : Value) (al : List At2), id.size ≤ maxLen ∧ SA w v al ∧ (∀ a ∈ al, AtOk a) ∧ cs = [.int .i64 c, .int .i64 m, .string id, v] := by
  obtain ⟨_, _, rfl, ⟨c, rfl, hc⟩, _, _, rfl, ⟨m, rfl, hm⟩, _, _, rfl, ⟨s, rfl, hs⟩, _, _, rfl, ⟨v, xs, rfl, hv, hx⟩, h3⟩ := h
  obtain rfl : _ = [] := h3
  obtain ⟨al, rfl, ha⟩ := Rd.all (Q := AtOk) (f := atC) (fun cs h => at_rd h) hx
  exact ⟨c, m, s, v, al, hs, hv, ha, rfl⟩
def sh8B : Sh := .cons (.int .u8) (.cons (.int .u8) (.cons (.int .i64) (.cons .str .nil)))
theorem bend_rd {w : World} {cs : List Value} (h : Rd w sh8B cs) : ∃ (wh a : Nat) (N : Int) (S : ByteArray), wh < 256 ∧ a < 256 ∧ in8 N ∧ S.size ≤ maxLen ∧ cs = [.int .u8 wh, .int .u8 a, .int .i64 N, .string S] := by
  obtain ⟨_, _, rfl, h1, _, _, rfl, h2, _, _, rfl, ⟨N, rfl, hN⟩, _, _, rfl, ⟨S, rfl, hS⟩, h3⟩ := h
  obtain rfl : _ = [] := h3
  obtain ⟨wh, k1, rfl⟩ := u8_rd h1
  obtain ⟨a, k2, rfl⟩ := u8_rd h2
  exact ⟨wh, a, N, S, k1, k2, wf_in8 hN, hS, rfl⟩
theorem finds_at {W : World} {c0 c1 c2 c3 : Array Value} {a4 a5 : Int} (e0 : Rd W sh8R c0.toList) (e1 : Rd W sh8M c1.toList) (e2 : Rd W sh8B c2.toList) (e3 : Rd W sh8B c3.toList) (w5 : (Lit.int .u8 a5).wf = true) :
    Calls Tryz.prog 4 #[.agg c0, .agg c1, .agg c2, .agg c3, .int .i64 a4, .int .u8 a5] W fun e w' => e = .returned (.bool true) ∧ Ext W w' := by
  obtain ⟨rc, rm, rid, v0, rl, hrid, hv0, hrl, h0⟩ := raw_rd e0
  obtain ⟨c8, m16, id, v, ps, h1, h2, h3, hv, hps, h4⟩ := draft_rd e1
  obtain ⟨wh, at_, N, S, k1, k2, k3, k4, k0⟩ := bend_rd e2
  obtain ⟨wh2, at2, N2, S2, j1, j2, j3, j4, j0⟩ := bend_rd e3
  obtain ⟨an, han, rfl⟩ := wf_u8 w5
  have h0 : c0 = #[.int .i64 rc, .int .i64 rm, .string rid, v0] := Array.ext' h0
  have h4 : c1 = #[.int .u8 c8, .int .u16 m16, .string id, v] := Array.ext' h4
  have k0 : c2 = #[.int .u8 wh, .int .u8 at_, .int .i64 N, .string S] := Array.ext' k0
  have j0 : c3 = #[.int .u8 wh2, .int .u8 at2, .int .i64 N2, .string S2] := Array.ext' j0
  subst h0 h4 k0 j0
  exact finds_c rc rm rid hv0 hrid hrl c8 m16 id hv hps h1 h2 h3 wh at_ N S k1 k2 k3 k4 wh2 at2 N2 S2 j1 j2 j3 j4 a4 an han
end Go.Proofs.YtmlmfmdmomegpaaGreatDoor
namespace Go.Proofs.YtmlmfmdmomegpaaGreatDoor.stunFinds
open Go.ChangeShapes Go.WideShapes Go.ChangeAt Go.RowKit
open Go.ChangeMaps (open_string shut_string)
set_option linter.unusedVariables false
theorem own : ownKnob Tryz.prog.godebug = none := by kernel_rfl
theorem laidOut : laidOutB Tryz.prog = true := by kernel_rfl
def laid2 : List (String × DataW Unit) := [("unicode/utf8.acceptRanges", Rows.laid_unicode_utf8_acceptRanges), ("unicode/utf8.first", Rows.laid_unicode_utf8_first)]
set_option maxRecDepth 100000 in
theorem lifted (os : Os) (started : os.Started) (H : Type) (enc : TypeId × Value → H) :
    ReturnsInHanded {} Tryz.checked os 4 .any (fun w args => (Rows.stunFindsSpec.pre enc Tryz.prog Tryz.f4 [] false w args ∧ laidMetH Tryz.prog laid2 w) ∧ sizedMet enc Tryz.prog Tryz.f4 (OpenSpec.ofChange Rows.stunFindsSpec) false w args) (Rows.stunFindsSpec.post enc Tryz.prog Tryz.f4 false true false false) := by
  refine returnsInHanded_of_change_and (C := Tryz.checked) (X := fun w _ => laidMetH Tryz.prog laid2 w) (fun _ _ _ hh h => h.of_heap hh) own started (by kernel_rfl) Tryz.func4
    (ChangeSpec.witness_shaped (enc := enc) (C := Tryz.checked) (os := os) (X := fun w _ => laidMetH Tryz.prog laid2 w) false (World.laidAll Tryz.prog os laid2) #[.agg #[.int .i64 0, .int .i64 0, .string ByteArray.empty, .slice none 0 0], .agg #[.int .u8 0, .int .u16 0, .string ByteArray.empty, .slice none 0 0], .agg #[.int .u8 0, .int .u8 0, .int .i64 0, .string ByteArray.empty], .agg #[.int .u8 0, .int .u8 0, .int .i64 0, .string ByteArray.empty], .int .i64 0, .int .u8 0] 8 (World.laidAll_os _ _ _) (World.shaped_of_ZipB (by kernel_rfl) (by kernel_rfl)) (by kernel_rfl) (by kernel_rfl) (by kernel_rfl) (by rw [MakeChecks.laidMetH_plain _ _ _ (by kernel_rfl)]; exact laidMet_laidAll _ (by kernel_rfl) (by kernel_rfl))) ?_
  intro W base args ds gs before hval0 hW hcnd hsz0 hL _
  have hval : ∀ (j : Nat) t v, Tryz.f4.params[j]? = some t → args[j]? = some v → Value.okWide Tryz.prog W .any base t v := hval0
  have hW' := hW
  obtain ⟨p, q, hA0, hV, rfl, hfz, hnd⟩ := hW
  have hA : DataW.TrodAll enc Tryz.prog W 0 (fun _ => true) true Tryz.f4.params.toList args.toList ds p := hA0
  rw [Tryz.params4] at hA hval
  obtain ⟨v0, vs0, d0, ds0, p0, q0, hargs, rfl, rfl, h0, r0⟩ := trodAll_cons hA
  obtain ⟨v1, vs1, d1, ds1, p1, q1, rfl, rfl, rfl, h1, r1⟩ := trodAll_cons r0
  obtain ⟨v2, vs2, d2, ds2, p2, q2, rfl, rfl, rfl, h2, r2⟩ := trodAll_cons r1
  obtain ⟨v3, vs3, d3, ds3, p3, q3, rfl, rfl, rfl, h3, r3⟩ := trodAll_cons r2
  obtain ⟨v4, vs4, d4, ds4, p4, q4, rfl, rfl, rfl, h4, r4⟩ := trodAll_cons r3
  obtain ⟨v5, vs5, d5, ds5, p5, q5, rfl, rfl, rfl, h5, r5⟩ := trodAll_cons r4
  obtain ⟨rfl, rfl, rfl⟩ := trodAll_nil r5
  obtain rfl : args = #[v0, v1, v2, v3, v4, v5] := by cases args; simp_all
  obtain ⟨rfl, rfl⟩ := trodVars_none hV
  have k0 := h0
  have lt0 : ∀ x ∈ p0, x.block < W.heap.size := by obtain ⟨m, hm⟩ := k0; exact DataW.trod_lt m _ _ _ hm
  obtain ⟨c0, rfl, e0⟩ := V.rd_ag (s := (.cons (.int .i64) (.cons (.int .i64) (.cons .str (.cons (.sl (.ag (.cons (.int .i64) (.cons .str .nil)))) .nil))))) (by kernel_rfl) (hval 0 24 v0 rfl rfl) h0
  have k1 := h1
  have lt1 : ∀ x ∈ p1, x.block < W.heap.size := by obtain ⟨m, hm⟩ := k1; exact DataW.trod_lt m _ _ _ hm
  obtain ⟨c1, rfl, e1⟩ := V.rd_ag (s := (.cons (.int .u8) (.cons (.int .u16) (.cons .str (.cons (.sl (.ag (.cons (.int .u8) (.cons (.int .u16) (.cons .str .nil))))) .nil))))) (by kernel_rfl) (hval 1 28 v1 rfl rfl) h1
  have k2 := h2
  have lt2 : ∀ x ∈ p2, x.block < W.heap.size := by obtain ⟨m, hm⟩ := k2; exact DataW.trod_lt m _ _ _ hm
  obtain ⟨c2, rfl, e2⟩ := V.rd_ag (s := (.cons (.int .u8) (.cons (.int .u8) (.cons (.int .i64) (.cons .str .nil))))) (by kernel_rfl) (hval 2 30 v2 rfl rfl) h2
  have k3 := h3
  have lt3 : ∀ x ∈ p3, x.block < W.heap.size := by obtain ⟨m, hm⟩ := k3; exact DataW.trod_lt m _ _ _ hm
  obtain ⟨c3, rfl, e3⟩ := V.rd_ag (s := (.cons (.int .u8) (.cons (.int .u8) (.cons (.int .i64) (.cons .str .nil))))) (by kernel_rfl) (hval 3 30 v3 rfl rfl) h3
  have k4 := h4
  have lt4 : ∀ x ∈ p4, x.block < W.heap.size := by obtain ⟨m, hm⟩ := k4; exact DataW.trod_lt m _ _ _ hm
  obtain ⟨a4, rfl, rfl, rfl, w4⟩ := open_int Tryz.underlying3 (hval 4 3 v4 rfl rfl) h4
  have k5 := h5
  have lt5 : ∀ x ∈ p5, x.block < W.heap.size := by obtain ⟨m, hm⟩ := k5; exact DataW.trod_lt m _ _ _ hm
  obtain ⟨a5, rfl, rfl, rfl, w5⟩ := open_int Tryz.underlying5 (hval 5 5 v5 rfl rfl) h5
  clear hA0 hval0
  refine (finds_at e0 e1 e2 e3 w5).mono fun e W' ⟨he, bel⟩ => ?_
  have bel : Below W.heap.size W W' := bel
  subst he
  exact ⟨_, rfl, _, _, _, [], _, [], hW', trodAll_mk1 (shut_bool Tryz.underlying4 _), (trodAll_cons_mk (Below.trod laidOut (by kernel_rfl) (of_decide_eq_true (by kernel_rfl)) k0 bel lt0) (trodAll_cons_mk (Below.trod laidOut (by kernel_rfl) (of_decide_eq_true (by kernel_rfl)) k1 bel lt1) (trodAll_cons_mk (Below.trod laidOut (by kernel_rfl) (of_decide_eq_true (by kernel_rfl)) k2 bel lt2) (trodAll_cons_mk (Below.trod laidOut (by kernel_rfl) (of_decide_eq_true (by kernel_rfl)) k3 bel lt3) (trodAll_cons_mk (Below.trod laidOut (by kernel_rfl) (of_decide_eq_true (by kernel_rfl)) k4 bel lt4) (trodAll_cons_mk (Below.trod laidOut (by kernel_rfl) (of_decide_eq_true (by kernel_rfl)) k5 bel lt5) trodAll_mk0)))))), rfl, bel.frame _, fun h => by cases h⟩

theorem over : Rows.stunFindsRow.holds Tryz.pinned (OpenSpec.ofChange Rows.stunFindsSpec) :=
  OpenClaim.holds_of_wide 4 Tryz.f4 rfl rfl rfl rfl rfl rfl rfl ⟨rfl, rfl, rfl, rfl, rfl⟩ rfl rfl rfl rfl rfl (by kernel_rfl) Tryz.func4 (by kernel_rfl)
    (of_decide_eq_true (by kernel_rfl)) (by unfold Func.isWrapper; first | (rw [if_pos (by decide +kernel)]; kernel_rfl) | (rw [if_neg (by decide +kernel)]; exact ⟨rfl, rfl⟩))
    (fun os started H enc _ => lifted os started H enc)

theorem proved : Rows.StunFindsCardSaid :=
  Claim7.holds_tied_plain_at .later [] [.data, .pinned] true (true, "5f27dd6ed70dca3cf563e9660767357bc6414374a73c6f1dd9ec93831559d27f") true
    over (fun _ h => by cases h) (by kernel_rfl) (fun _ h => by cases h) stunFinds_row_tie rfl ⟨rfl, rfl⟩ (by kernel_rfl) rfl
    (fun f fn hf hfn => by
      obtain rfl : f = 4 := Option.some.inj ((show Tryz.prog.funcNamed "tannoy/tannoylaw08.StunFinds" = some 4 by kernel_rfl).symm.trans hf) |>.symm
      obtain rfl : fn = Tryz.f4 := (Option.some.inj (Tryz.func4.symm.trans hfn)).symm
      exact ⟨by kernel_rfl, fun j t ht => by
        rw [Tryz.params4] at ht
        have hm : t ∈ [24, 28, 30, 30, 3, 5] := by simpa using Array.mem_of_getElem? ht
        have hall : ([24, 28, 30, 30, 3, 5].all fun u => !Tryz.prog.wantsStandIn u) = true := by kernel_rfl
        exact (show Tryz.prog.wantsStandIn t = false by simpa using List.all_eq_true.1 hall t hm)⟩)
    (by kernel_rfl)
#print axioms proved
end Go.Proofs.YtmlmfmdmomegpaaGreatDoor.stunFinds
