/- Chapter 08: StunValues. -/
/- Chapter 08: StunBack. -/
/- StunBack returns true for every input, where the two tables of unicode/utf8 that its card ties read as they are laid. -/
import Derived.Test.YtmlmfmdmomegpaaGreatDoorBA10
import Derived.Test.YtmlmfmdmomegpaaGreatDoorBA09
import Derived.Test.YtmlmfmdmomegpaaGreatDoorCards
import Derived.Test.YtmlmfmdmomegpaaGreatDoorTie
import Derived.SevenTiedAt
import Derived.Stop.Joined
import Derived.LaidMore
import Derived.Lay
import Derived.MakeChecks
import Derived.Test.YtmlmfmdmomegpaaGreatDoorRows
import Derived.WalkKit
import Derived.ProofKit
import Derived.OpenShut
import Derived.SizedLaws
import Derived.ShutString
import Derived.ChangeOld
import Derived.Below
import Derived.Test.YtmlmfmdmomegpaaGreatDoorBA04
namespace Go.Proofs.YtmlmfmdmomegpaaGreatDoor
set_option linter.unusedSimpArgs false
set_option linter.unusedVariables false
set_option maxRecDepth 100000
open Go.RowKit V
set_option maxHeartbeats 25600000
theorem edit_c {W : World} (at_ less : Nat) (put s : ByteArray) (ha : at_ < 65536) (hl : less < 256) (hp : put.size ≤ maxLen) (hs : s.size ≤ 100000) :
    Calls Tryz.prog 18 #[.agg #[.int .u16 at_, .int .u8 less, .string put], .string s] W fun e w' => ∃ u, e = .returned u ∧ ∃ t : ByteArray, u = .string t ∧ t.size ≤ s.size + 8 ∧ Ext W w' := by
  refine v_fn (args := [.agg #[.int .u16 at_, .int .u8 less, .string put], .string s]) TTok FFok Tryz.func18 rfl (Nat.le_of_ble_eq_true rfl) ?_
  conv => whnf
  refine VSeq.mk fun Kq hKq => ?_
  conv => whnf
  have hpz := hp
  obtain ⟨m, hm, hle⟩ : ∃ m : Nat, (at_ : Int) % ((s.size : Int) + 1) = (m : Int) ∧ m ≤ s.size := by
    have h1 := Nat.mod_lt at_ (show 0 < s.size + 1 by omega)
    exact ⟨at_ % (s.size + 1), by rw [Int.natCast_emod]; rfl, by omega⟩
  obtain ⟨n, hn, hn2⟩ : ∃ n : Nat, min ((m : Int) + (less : Int) % 5) (s.size : Int) = (n : Int) ∧ n ≤ s.size := ⟨min (m + less % 5) s.size, by omega, by omega⟩
  have z1 := size_extract s 0 m hle
  have z2 := size_extract put 0 (min put.size 8) (by omega)
  have z3 := size_extract s n s.size (Nat.le_refl _)
  have hp := Hp.nil W
  refine hp.kboxA fun q w hp hx => ?_
  conv => whnf
  refine hKq _ _ _ (.refl _) ?_
  clear hKq Kq
  conv => whnf
  refine VSeq.mk fun Kq hKq => ?_
  conv => whnf
  (refine ⟨_, _, Blk.ld (hp.get (i := 0) rfl) TTok rfl rfl, ?_⟩; conv => whnf)
  (refine Or.inl (And.intro (by first | omega | decide) ?_); conv => whnf)
  (refine Or.inl (And.intro (by first | omega | decide) ?_); conv => whnf)
  (refine And.intro (by first | omega | decide) ?_; conv => whnf)
  (refine hKq _ _ _ (.refl _) ?_; clear hKq Kq; conv => whnf)
  (refine VSeq.mk fun Kq hKq => ?_; conv => whnf)
  rw [hm]
  refine v_mixA TTok FFok mixed [(0, false), (1, false), (2, false), (3, false), (4, false), (5, false), (6, false), (7, false), (8, false), (9, false), (10, false), (11, false), (12, false), (13, false), (14, false), (15, false), (16, false), (17, false), (18, false), (19, false), (20, false), (21, false), (22, false), (23, false)] (by kernel_rfl) ?_
  conv => whnf
  refine ⟨m, ⟨by first | rfl | omega, by omega⟩, ?_⟩
  conv => whnf
  (refine ⟨_, fun w' hx' => Blk.ld (Blk.ext (hp.get (i := 0) rfl) hx') TTok rfl rfl, ?_⟩; conv => whnf)
  (refine ⟨_, fun w' hx' => Blk.ld (Blk.ext (hp.get (i := 0) rfl) hx') TTok rfl rfl, ?_⟩; conv => whnf)
  refine ⟨min put.size 8, ⟨by omega, by omega⟩, ?_⟩
  conv => whnf
  refine And.intro (by omega) ?_
  conv => whnf
  (refine ⟨_, fun w' hx' => Blk.ld (Blk.ext (hp.get (i := 0) rfl) hx') TTok rfl rfl, ?_⟩; conv => whnf)
  (refine And.intro (by first | omega | decide) ?_; conv => whnf)
  (refine Or.inl (And.intro (by first | omega | decide) ?_); conv => whnf)
  (refine Or.inl (And.intro (by first | omega | decide) ?_); conv => whnf)
  rw [hn]
  refine ⟨n, ⟨by first | rfl | omega, by omega⟩, ?_⟩
  conv => whnf
  refine And.intro (by rw [ByteArray.size_append]; omega) ?_
  conv => whnf
  intro w hx
  try (have hp := hp.call hx)
  conv => whnf
  refine hKq _ _ _ (.refl _) ?_
  clear hKq Kq
  conv => whnf
  exact ⟨_, rfl, by rw [ByteArray.size_append, ByteArray.size_append]; omega, hp.ext⟩
def sh8E : Sh := .cons (.int .u16) (.cons (.int .u8) (.cons .str .nil))
theorem edit_rd {w : World} {cs : List Value} (h : Rd w sh8E cs) : ∃ (a l : Nat) (s : ByteArray), a < 65536 ∧ l < 256 ∧ s.size ≤ maxLen ∧ cs = [.int .u16 a, .int .u8 l, .string s] := by
  obtain ⟨_, _, rfl, h1, _, _, rfl, h2, _, _, rfl, ⟨s, rfl, hs⟩, h3⟩ := h
  obtain rfl : _ = [] := h3
  obtain ⟨a, ha, rfl⟩ := u16_rd h1
  obtain ⟨l, hl, rfl⟩ := u8_rd h2
  exact ⟨a, l, s, ha, hl, hs, rfl⟩
set_option maxHeartbeats 25600000
theorem decC_codes (s : ByteArray) (h : decC s ≠ 0) : decC s = 3 ∨ decC s = 5 ∨ decC s = 7 := by
  unfold decC at h ⊢
  repeat' split
  all_goals first | exact .inl rfl | exact .inr (.inl rfl) | exact .inr (.inr rfl) | (exfalso; simp_all)
theorem wr_same {c m : Nat} {id : ByteArray} {al : List At2} {c2 m2 : Nat} {id2 : ByteArray} {bl : List At2} (h : stunB c m id al = true) (h2 : stunB c2 m2 id2 bl = true) :
    decide (wrB c m id al 0 = wrB c2 m2 id2 bl 0) = sameB c m id al c2 m2 id2 bl := by
  by_cases e : wrB c m id al 0 = wrB c2 m2 id2 bl 0
  · rw [decide_eq_true e]
    obtain ⟨_, h3, h4, h5, h6⟩ := dec_of h
    obtain ⟨_, k3, k4, k5, k6⟩ := dec_of h2
    rw [e] at h3 h4 h5 h6
    exact (sameB_t ⟨congrArg Int.ofNat (h3.symm.trans k3), congrArg Int.ofNat (h4.symm.trans k4), h5.symm.trans k5, h6.symm.trans k6⟩).symm
  · rw [decide_eq_false e]
    refine (sameB_f fun hh => e ?_).symm
    obtain ⟨h3, h4, h5, h6⟩ := hh
    rw [Int.ofNat.inj h3, Int.ofNat.inj h4, h5, h6]
theorem sizeN_mod : ∀ l : List At2, sizeN l % 4 = 0
  | [] => rfl
  | a :: l => by
    have := sizeN_mod l
    rw [sizeN]
    unfold atN
    omega
theorem back_c {W : World} {v v2 : Value} {ps ps2 : List Pc3} (c8 m16 : Nat) (id0 : ByteArray) (c8' m16' : Nat) (id0' : ByteArray) (at_ less : Nat) (put : ByteArray) (hv : SPc W v ps) (hps : ∀ p ∈ ps, PcOk p) (hc8 : c8 < 256) (hm16 : m16 < 65536) (hid : id0.size ≤ maxLen) (hv2 : SPc W v2 ps2) (hps2 : ∀ p ∈ ps2, PcOk p) (hc8' : c8' < 256) (hm16' : m16' < 65536) (hid' : id0'.size ≤ maxLen) (ha : at_ < 65536) (hle : less < 256) (hput : put.size ≤ maxLen) :
    Calls Tryz.prog 5 #[.agg #[.int .u8 c8, .int .u16 m16, .string id0, v], .agg #[.int .u8 c8', .int .u16 m16', .string id0', v2], .agg #[.int .u16 at_, .int .u8 less, .string put]] W fun e w' => e = .returned (.bool true) ∧ Ext W w' := by
  have s1 := fun {w : World} (hx : Ext W w) => message_c (W := w) c8 m16 id0 (SLn.ext hv hx) hps hc8 hm16 hid
  have s2 := fun {w : World} (hx : Ext W w) => message_c (W := w) c8' m16' id0' (SLn.ext hv2 hx) hps2 hc8' hm16' hid'
  have se := fun {w : World} (s : ByteArray) (hs : s.size ≤ 100000) => edit_c (W := w) at_ less put s ha hle hput hs
  obtain ⟨p, cp, rfl⟩ := SPc.shape hv
  obtain ⟨p2, cp2, rfl⟩ := SPc.shape hv2
  refine v_reads (args := [.agg #[.int .u8 c8, .int .u16 m16, .string id0, .slice p ps.length cp], .agg #[.int .u8 c8', .int .u16 m16', .string id0', .slice p2 ps2.length cp2], .agg #[.int .u16 at_, .int .u8 less, .string put]]) TTok FFok Tryz.func5 rfl rfl ?_
  conv => whnf
  refine VSeq.mk fun Kq hKq => ?_
  conv => whnf
  have hp := Hp.nil W
  refine hp.kboxA fun q3 w hp hx => ?_
  conv => whnf
  refine hp.kboxA fun q4 w hp hx => ?_
  conv => whnf
  refine hp.kboxA fun q5 w hp hx => ?_
  conv => whnf
  refine hKq _ _ _ (.refl _) ?_
  clear hKq Kq
  conv => whnf
  refine VSeq.mk fun Kq hKq => ?_
  conv => whnf
  refine VSeq.mk fun Kq hKq => ?_
  conv => whnf
  refine PureF.use (works_p) fun w hx => ?_
  try (have hp := hp.call hx)
  conv => whnf
  refine hKq _ _ _ (.refl _) ?_
  clear hKq Kq
  conv => whnf
  refine And.intro (fun h => by cases h) (fun _ => ?_)
  conv => whnf
  refine hKq _ _ _ (.refl _) ?_
  clear hKq Kq
  conv => whnf
  refine VSeq.mk fun Kq hKq => ?_
  conv => whnf
  have hK : ∀ (c m : Nat) (id : ByteArray) (al : List At2) (c2 m2 : Nat) (id2 : ByteArray) (bl : List At2) (pu : Option Addr) (cu : Nat) (pv : Option Addr) (cv b7 b8 : Nat) (w : World), DrOk c m id al → DrOk c2 m2 id2 bl → HpM [] W w [blk b7 [.int .i64 c, .int .i64 m, .string id, .slice pu al.length cu] 24, blk b8 [.int .i64 c2, .int .i64 m2, .string id2, .slice pv bl.length cv] 24, row 54 2 (.slice pu al.length cu) al.length (flatC al), row 54 2 (.slice pv bl.length cv) bl.length (flatC bl), blk q5 [.int .u16 at_, .int .u8 less, .string put] 32] → ∀ l, V.Sub [(5, .v (.pointer (some ⟨q5, 0, none⟩))), (7, .v (.pointer (some ⟨b7, 0, none⟩))), (8, .v (.pointer (some ⟨b8, 0, none⟩)))] l → Kq l w := by
    intro c m id al c2 m2 id2 bl pu cu pv cv b7 b8 w dA dB hp l hs
    refine hKq _ _ _ hs ?_
    clear hKq Kq hs s1 s2
    conv => whnf
    have kA := dA.stun
    have kB := dB.stun
    have oA : ∀ a ∈ al, AtOk a := fun a ha => AtOk.of ((stunB_t kA).2.2.2.2.2.2.1 a ha)
    have oB : ∀ a ∈ bl, AtOk a := fun a ha => AtOk.of ((stunB_t kB).2.2.2.2.2.2.1 a ha)
    have zA := wrB_size c m id al 0
    have zi := dA.id
    have mA := sizeN_mod al
    have eq := wr_same kA kB
    obtain ⟨d0, d1, d2, d3, d4⟩ := dec_of kA
    have hz := (stunB_t kA).2.2.2.2.2.2.2
    have c1 := fun {w : World} (hx : SA w (.slice pu al.length cu) al) => Encode_ok (W := w) c m id hx kA
    have c2' := fun {w : World} (hx : SA w (.slice pv bl.length cv) bl) => Encode_ok (W := w) c2 m2 id2 hx kB
    obtain ⟨S, hS⟩ : ∃ S, wrB c m id al 0 = S := ⟨_, rfl⟩
    obtain ⟨T, hT⟩ : ∃ T, wrB c2 m2 id2 bl 0 = T := ⟨_, rfl⟩
    rw [hS] at zA eq d0 d1 d2 d3 d4 c1
    rw [hT] at eq c2'
    conv => whnf
    refine VSeq.mk fun Kq hKq => ?_
    conv => whnf
    (refine ⟨_, _, Blk.ldV (vs := [_, _, _, _]) (hp.get (i := 0) rfl) TTok rfl rfl rfl, ?_⟩; conv => whnf)
    refine V.CallsUse (c1 (SA.of_row (hp.get (i := 2) rfl))) fun w hx => ?_
    try (have hp := hp.call hx)
    conv => whnf
    refine hKq _ _ _ (.refl _) ?_
    clear hKq Kq
    conv => whnf
    refine VSeq.mk fun Kq hKq => ?_
    conv => whnf
    (refine ⟨_, _, Blk.ldV (vs := [_, _, _, _]) (hp.get (i := 1) rfl) TTok rfl rfl rfl, ?_⟩; conv => whnf)
    refine V.CallsUse (c2' (SA.of_row (hp.get (i := 3) rfl))) fun w hx => ?_
    try (have hp := hp.call hx)
    conv => whnf
    refine hKq _ _ _ (.refl _) ?_
    clear hKq Kq
    conv => whnf
    refine VSeq.mk fun Kq hKq => ?_
    conv => whnf
    refine VSeq.mk fun Kq hKq => ?_
    conv => whnf
    refine VSeq.mk fun Kq hKq => ?_
    conv => whnf
    refine hKq _ _ _ (.refl _) ?_
    clear hKq Kq
    conv => whnf
    refine VSeq.mk fun Kq hKq => ?_
    conv => whnf
    (refine And.intro (fun h => absurd (of_decide_eq_true h) (by first | (intro h2; exact absurd rfl h2) | omega | decide)) (fun _ => ?_); conv => whnf)
    (refine hKq _ _ _ (.refl _) ?_; clear hKq Kq; conv => whnf)
    (refine VSeq.mk fun Kq hKq => ?_; conv => whnf)
    (refine And.intro (fun h => absurd (of_decide_eq_true h) (by first | (intro h2; exact absurd rfl h2) | omega | decide)) (fun _ => ?_); conv => whnf)
    (refine And.intro (by first | omega | decide) ?_; conv => whnf)
    (refine hKq _ _ _ (.refl _) ?_; clear hKq Kq; conv => whnf)
    (refine VSeq.mk fun Kq hKq => ?_; conv => whnf)
    (refine And.intro (fun h => absurd (of_decide_eq_true h) (by first | (intro h2; exact absurd rfl h2) | omega | decide)) (fun _ => ?_); conv => whnf)
    (refine hKq _ _ _ (.refl _) ?_; clear hKq Kq; conv => whnf)
    (refine VSeq.mk fun Kq hKq => ?_; conv => whnf)
    (refine And.intro (fun h => absurd (of_decide_eq_true h) (by first | (intro h2; exact absurd rfl h2) | omega | decide)) (fun _ => ?_); conv => whnf)
    (refine ⟨_, _, Blk.ldV (vs := [_, _, _, _]) (hp.get (i := 0) rfl) TTok rfl rfl rfl, ?_⟩; conv => whnf)
    refine Calls.mono (gives_c hp _ _ _ _) ?_
    rintro _ w ⟨v, rfl, bb, rfl, hp, hx⟩
    refine ⟨_, rfl, ?_⟩
    conv => whnf
    skip
    refine Calls.mono (Decode_c S (by unfold maxLen; omega)) ?_
    rintro e w (⟨-, v', rfl, hr⟩ | ⟨h0, -⟩)
    rotate_left
    · exact absurd d0 h0
    rw [d1, d2, d3, d4] at *
    refine ⟨_, rfl, ?_⟩
    have hp := hp.join hr
    simp only [List.cons_append, List.nil_append] at hp
    obtain ⟨pd, cd, rfl⟩ := row_shape (hp.get (i := 0) rfl)
    conv => whnf
    clear hr
    skip
    refine V.CallsUse (gives_in c m id (SA.of_row (hp.get (i := 0) rfl)) (SA.of_row (hp.get (i := 4) rfl)) oA (hp.get (i := 1) rfl)) fun w hx => ?_
    try (have hp := hp.call hx)
    conv => whnf
    refine hKq _ _ _ (.refl _) ?_
    clear hKq Kq
    conv => whnf
    (refine And.intro (fun h => absurd h (by decide)) (fun _ => ?_); conv => whnf)
    (refine ⟨_, _, Blk.ldV (vs := [_, _, _, _]) (hp.get (i := 2) rfl) TTok rfl rfl rfl, ?_⟩; conv => whnf)
    (refine ⟨_, _, Blk.ldV (vs := [_, _, _, _]) (hp.get (i := 3) rfl) TTok rfl rfl rfl, ?_⟩; conv => whnf)
    have sm := fun {w : World} hu hv => Same8_c (W := w) (v := .slice pu al.length cu) (u := .slice pv bl.length cv) c m id c2 m2 id2 hu hv oA oB
    rw [← eq] at sm
    refine V.CallsUse (sm (SA.of_row (hp.get (i := 4) rfl)) (SA.of_row (hp.get (i := 5) rfl))) fun w hx => ?_
    try (have hp := hp.call hx)
    conv => whnf
    clear sm
    refine ⟨_, _, neq_bool8 _ _ _ _ _, ?_⟩
    conv => whnf
    refine hKq _ _ _ (.refl _) ?_
    clear hKq Kq
    conv => whnf
    rw [Bool.xor_self]
    (refine And.intro (fun h => absurd h (by decide)) (fun _ => ?_); conv => whnf)
    (refine hKq _ _ _ (.refl _) ?_; clear hKq Kq; conv => whnf)
    (refine VSeq.mk fun Kq hKq => ?_; conv => whnf)
    (refine ⟨_, _, Blk.ldV (vs := [_, _, _]) (hp.get (i := 6) rfl) TTok rfl rfl rfl, ?_⟩; conv => whnf)
    refine Calls.mono (se S (by omega)) ?_
    rintro _ w ⟨_, rfl, gx, rfl, zx, hx⟩
    refine ⟨_, rfl, ?_⟩
    have hp := hp.call hx
    conv => whnf
    (refine hKq _ _ _ (.refl _) ?_; clear hKq Kq; conv => whnf)
    (refine VSeq.mk fun Kq hKq => ?_; conv => whnf)
    refine Calls.mono (Decode_c gx (by unfold maxLen; omega)) ?_
    rintro e w (⟨h0, v', rfl, hr⟩ | ⟨h0, rfl, hx⟩)
    · refine ⟨_, rfl, ?_⟩
      have hp := hp.join hr
      simp only [List.cons_append, List.nil_append] at hp
      obtain ⟨h1, h2⟩ := of_dec h0
      obtain ⟨px, cx, rfl⟩ := row_shape (hp.get (i := 0) rfl)
      clear hr
      have cE := fun {w : World} (hx : SA w (.slice px (decA gx).1.length cx) (decA gx).1) => Encode_ok (W := w) (clsN (hdT gx)) (mthN (hdT gx)) (gx.extract 8 20) hx h2
      rw [← h1] at cE
      clear h1 h2
      conv => whnf
      (refine hp.kalloc z24 fun al24 w hp hx => ?_; conv => whnf)
      (refine hp.kstA TTok rfl 0 rfl rfl (oneC_of rfl) (by rfl) fun w hp => ?_; try simp only [List.set_cons_zero, List.set_cons_succ, EV.val] at hp; conv => whnf)
      (refine hKq _ _ _ (.refl _) ?_; clear hKq Kq; conv => whnf)
      (refine VSeq.mk fun Kq hKq => ?_; conv => whnf)
      (refine VSeq.mk fun Kq hKq => ?_; conv => whnf)
      (refine hKq _ _ _ (.refl _) ?_; clear hKq Kq; conv => whnf)
      (refine And.intro (fun h => absurd (of_decide_eq_true h) (by first | (intro h2; exact absurd rfl h2) | omega | decide)) (fun _ => ?_); conv => whnf)
      (refine hKq _ _ _ (.refl _) ?_; clear hKq Kq; conv => whnf)
      (refine VSeq.mk fun Kq hKq => ?_; conv => whnf)
      (refine ⟨_, _, Blk.ldV (vs := [_, _, _, _]) (hp.get (i := 0) rfl) TTok rfl rfl rfl, ?_⟩; conv => whnf)
      refine V.CallsUse (cE (SA.of_row (hp.get (i := 1) rfl))) fun w hx => ?_
      try (have hp := hp.call hx)
      conv => whnf
      refine hKq _ _ _ (.refl _) ?_
      clear hKq Kq
      conv => whnf
      refine VSeq.mk fun Kq hKq => ?_
      conv => whnf
      refine VSeq.mk fun Kq hKq => ?_
      conv => whnf
      refine hKq _ _ _ (.refl _) ?_
      clear hKq Kq
      conv => whnf
      (refine And.intro (fun _ => ?_) (fun h => absurd (by first | rfl | assumption | omega | decide) (of_decide_eq_false h)); conv => whnf)
      (refine hKq _ _ _ (.refl _) ?_; clear hKq Kq; conv => whnf)
      exact ⟨congrArg Value.bool (decide_eq_true rfl), hp.ext⟩
    · refine ⟨_, rfl, ?_⟩
      have hp := hp.call hx
      conv => whnf
      have hz2 := fun (w : World) => Same8_c (W := w) 0 0 ⟨#[]⟩ 0 0 ⟨#[]⟩ SA.nil8 SA.nil8 (fun a ha => by cases ha) (fun a ha => by cases ha)
      rw [sameB_t ⟨rfl, rfl, rfl, rfl⟩] at hz2
      rcases decC_codes gx h0 with h | h | h
      · rw [h]
        (refine hp.kalloc z24 fun al24 w hp hx => ?_; conv => whnf)
        (refine hp.kstA TTok rfl 0 rfl rfl (oneC_of rfl) (by rfl) fun w hp => ?_; try simp only [List.set_cons_zero, List.set_cons_succ, EV.val] at hp; conv => whnf)
        (refine hKq _ _ _ (.refl _) ?_; clear hKq Kq; conv => whnf)
        (refine VSeq.mk fun Kq hKq => ?_; conv => whnf)
        (refine VSeq.mk fun Kq hKq => ?_; conv => whnf)
        (refine hKq _ _ _ (.refl _) ?_; clear hKq Kq; conv => whnf)
        (refine And.intro (fun _ => ?_) (fun h => absurd (by first | rfl | assumption | omega | decide) (of_decide_eq_false h)); conv => whnf)
        (refine VSeq.mk fun Kq hKq => ?_; conv => whnf)
        (refine VSeq.mk fun Kq hKq => ?_; conv => whnf)
        (refine hKq _ _ _ (.refl _) ?_; clear hKq Kq; conv => whnf)
        (refine VSeq.mk fun Kq hKq => ?_; conv => whnf)
        (refine And.intro (fun h => absurd (of_decide_eq_true h) (by first | (intro h2; exact absurd rfl h2) | omega | decide)) (fun _ => ?_); conv => whnf)
        (refine hKq _ _ _ (.refl _) ?_; clear hKq Kq; conv => whnf)
        (refine VSeq.mk fun Kq hKq => ?_; conv => whnf)
        (refine And.intro (fun h => absurd (of_decide_eq_true h) (by first | (intro h2; exact absurd rfl h2) | omega | decide)) (fun _ => ?_); conv => whnf)
        (refine hKq _ _ _ (.refl _) ?_; clear hKq Kq; conv => whnf)
        (refine And.intro (fun _ => ?_) (fun h => absurd (by first | rfl | assumption | omega | decide) (of_decide_eq_false h)); conv => whnf)
        (refine ⟨_, _, Blk.ldV (vs := [_, _, _, _]) (hp.get (i := 0) rfl) TTok rfl rfl rfl, ?_⟩; conv => whnf)
        (refine ⟨_, _, bld24_ _, ?_⟩; conv => whnf)
        refine V.CallsUse (hz2 _) fun w hx => ?_
        try (have hp := hp.call hx)
        conv => whnf
        refine hKq _ _ _ (.refl _) ?_
        clear hKq Kq
        conv => whnf
        exact ⟨rfl, hp.ext⟩
      · rw [h]
        (refine hp.kalloc z24 fun al24 w hp hx => ?_; conv => whnf)
        (refine hp.kstA TTok rfl 0 rfl rfl (oneC_of rfl) (by rfl) fun w hp => ?_; try simp only [List.set_cons_zero, List.set_cons_succ, EV.val] at hp; conv => whnf)
        (refine hKq _ _ _ (.refl _) ?_; clear hKq Kq; conv => whnf)
        (refine VSeq.mk fun Kq hKq => ?_; conv => whnf)
        (refine VSeq.mk fun Kq hKq => ?_; conv => whnf)
        (refine hKq _ _ _ (.refl _) ?_; clear hKq Kq; conv => whnf)
        (refine And.intro (fun _ => ?_) (fun h => absurd (by first | rfl | assumption | omega | decide) (of_decide_eq_false h)); conv => whnf)
        (refine VSeq.mk fun Kq hKq => ?_; conv => whnf)
        (refine VSeq.mk fun Kq hKq => ?_; conv => whnf)
        (refine hKq _ _ _ (.refl _) ?_; clear hKq Kq; conv => whnf)
        (refine VSeq.mk fun Kq hKq => ?_; conv => whnf)
        (refine And.intro (fun _ => ?_) (fun h => absurd (by first | rfl | assumption | omega | decide) (of_decide_eq_false h)); conv => whnf)
        (refine hKq _ _ _ (.refl _) ?_; clear hKq Kq; conv => whnf)
        (refine VSeq.mk fun Kq hKq => ?_; conv => whnf)
        (refine hKq _ _ _ (.refl _) ?_; clear hKq Kq; conv => whnf)
        (refine ⟨_, _, Blk.ldV (vs := [_, _, _, _]) (hp.get (i := 0) rfl) TTok rfl rfl rfl, ?_⟩; conv => whnf)
        (refine ⟨_, _, bld24_ _, ?_⟩; conv => whnf)
        refine V.CallsUse (hz2 _) fun w hx => ?_
        try (have hp := hp.call hx)
        conv => whnf
        refine hKq _ _ _ (.refl _) ?_
        clear hKq Kq
        conv => whnf
        exact ⟨rfl, hp.ext⟩
      · rw [h]
        (refine hp.kalloc z24 fun al24 w hp hx => ?_; conv => whnf)
        (refine hp.kstA TTok rfl 0 rfl rfl (oneC_of rfl) (by rfl) fun w hp => ?_; try simp only [List.set_cons_zero, List.set_cons_succ, EV.val] at hp; conv => whnf)
        (refine hKq _ _ _ (.refl _) ?_; clear hKq Kq; conv => whnf)
        (refine VSeq.mk fun Kq hKq => ?_; conv => whnf)
        (refine VSeq.mk fun Kq hKq => ?_; conv => whnf)
        (refine hKq _ _ _ (.refl _) ?_; clear hKq Kq; conv => whnf)
        (refine And.intro (fun _ => ?_) (fun h => absurd (by first | rfl | assumption | omega | decide) (of_decide_eq_false h)); conv => whnf)
        (refine VSeq.mk fun Kq hKq => ?_; conv => whnf)
        (refine VSeq.mk fun Kq hKq => ?_; conv => whnf)
        (refine hKq _ _ _ (.refl _) ?_; clear hKq Kq; conv => whnf)
        (refine VSeq.mk fun Kq hKq => ?_; conv => whnf)
        (refine And.intro (fun h => absurd (of_decide_eq_true h) (by first | (intro h2; exact absurd rfl h2) | omega | decide)) (fun _ => ?_); conv => whnf)
        (refine hKq _ _ _ (.refl _) ?_; clear hKq Kq; conv => whnf)
        (refine VSeq.mk fun Kq hKq => ?_; conv => whnf)
        (refine And.intro (fun _ => ?_) (fun h => absurd (by first | rfl | assumption | omega | decide) (of_decide_eq_false h)); conv => whnf)
        (refine hKq _ _ _ (.refl _) ?_; clear hKq Kq; conv => whnf)
        (refine ⟨_, _, Blk.ldV (vs := [_, _, _, _]) (hp.get (i := 0) rfl) TTok rfl rfl rfl, ?_⟩; conv => whnf)
        (refine ⟨_, _, bld24_ _, ?_⟩; conv => whnf)
        refine V.CallsUse (hz2 _) fun w hx => ?_
        try (have hp := hp.call hx)
        conv => whnf
        refine hKq _ _ _ (.refl _) ?_
        clear hKq Kq
        conv => whnf
        exact ⟨rfl, hp.ext⟩
  clear hKq
  refine v_mt TTok FFok mixed 6 (.q 0 (.q 2 (.br3 1 4 5 (.br3 3 4 5 (.br 4 5 (.m 5 .nil) (.m 4 .nil)) (.br 3 5 (.m 5 .nil) (.m 3 .nil)) (.br 3 4 (.m 4 .nil) (.m 3 .nil))) (.br 1 5 (.br 3 5 (.m 5 .nil) (.m 3 .nil)) (.m 1 (.m 3 .nil))) (.br 1 4 (.br 3 4 (.m 4 .nil) (.m 3 .nil)) (.m 1 (.m 3 .nil)))))) (by kernel_rfl) ?_
  conv => whnf
  refine ⟨_, fun w' hx' => Blk.ldN (Blk.ext (hp.get (i := 2) rfl) hx') TTok rfl (rfl), ?_⟩
  conv => whnf
  refine ⟨_, fun w' hx' => Blk.ldN (Blk.ext (hp.get (i := 1) rfl) hx') TTok rfl (rfl), ?_⟩
  conv => whnf
  refine And.intro ?_ (And.intro ?_ ?_)
  · intro w hx
    try (have hp := hp.call hx)
    conv => whnf
    refine Calls.mono (s1 hp.ext) ?_
    rintro _ w ⟨_, rfl, c, m, id, al, u, rfl, dA, hr⟩
    refine ⟨_, rfl, ?_⟩
    have hx := hr.ext
    have hp := hp.join hr
    clear hr
    simp only [List.cons_append, List.nil_append] at hp
    obtain ⟨pu, cu, rfl⟩ := row_shape (hp.get (i := 0) rfl)
    conv => whnf
    refine And.intro hx ?_
    conv => whnf
    refine And.intro ?_ (And.intro ?_ ?_)
    · intro w hx
      try (have hp := hp.call hx)
      conv => whnf
      refine Calls.mono (s2 hp.ext) ?_
      rintro _ w ⟨_, rfl, c2, m2, id2, bl, u2, rfl, dB, hr⟩
      refine ⟨_, rfl, ?_⟩
      have hx := hr.ext
      have hp := hp.join hr
      clear hr
      simp only [List.cons_append, List.nil_append] at hp
      obtain ⟨pv, cv, rfl⟩ := row_shape (hp.get (i := 0) rfl)
      conv => whnf
      refine And.intro hx ?_
      conv => whnf
      refine And.intro ?_ ?_
      · intro w hx
        try (have hp := hp.call hx)
        conv => whnf
        refine hp.kalloc z24 fun b7 w hp hx => ?_
        conv => whnf
        refine And.intro hx ?_
        conv => whnf
        intro w hx
        try (have hp := hp.call hx)
        conv => whnf
        refine hp.kalloc z24 fun b8 w hp hx => ?_
        conv => whnf
        refine And.intro hx ?_
        conv => whnf
        have hp : HpM [] W w [blk b7 [.int .i64 0, .int .i64 0, .string ⟨#[]⟩, .slice none 0 0] 24, blk b8 [.int .i64 0, .int .i64 0, .string ⟨#[]⟩, .slice none 0 0] 24, row 54 2 (.slice pu al.length cu) al.length (flatC al), row 54 2 (.slice pv bl.length cv) bl.length (flatC bl), blk q5 [.int .u16 at_, .int .u8 less, .string put] 32] := hp.pick [1, 0, 3, 2, 4] (by decide)
        intro w hx
        try (have hp := hp.call hx)
        conv => whnf
        (refine hp.kstA TTok rfl 0 rfl rfl (oneC_of rfl) (by rfl) fun w hp => ?_; try simp only [List.set_cons_zero, List.set_cons_succ, EV.val] at hp; conv => whnf)
        (refine hp.kstA TTok rfl 1 rfl rfl (oneC_of rfl) (by rfl) fun w hp => ?_; try simp only [List.set_cons_zero, List.set_cons_succ, EV.val] at hp; conv => whnf)
        exact hK _ _ _ _ _ _ _ _ _ _ _ _ _ _ _ dA dB hp _ (sub_cons rfl (sub_cons rfl (sub_cons rfl sub_nil)))
      · intro w hx
        try (have hp := hp.call hx)
        conv => whnf
        refine hp.kalloc z24 fun b8 w hp hx => ?_
        conv => whnf
        refine And.intro hx ?_
        conv => whnf
        intro w hx
        try (have hp := hp.call hx)
        conv => whnf
        refine hp.kalloc z24 fun b7 w hp hx => ?_
        conv => whnf
        refine And.intro hx ?_
        conv => whnf
        have hp : HpM [] W w [blk b7 [.int .i64 0, .int .i64 0, .string ⟨#[]⟩, .slice none 0 0] 24, blk b8 [.int .i64 0, .int .i64 0, .string ⟨#[]⟩, .slice none 0 0] 24, row 54 2 (.slice pu al.length cu) al.length (flatC al), row 54 2 (.slice pv bl.length cv) bl.length (flatC bl), blk q5 [.int .u16 at_, .int .u8 less, .string put] 32] := hp.pick [0, 1, 3, 2, 4] (by decide)
        intro w hx
        try (have hp := hp.call hx)
        conv => whnf
        (refine hp.kstA TTok rfl 0 rfl rfl (oneC_of rfl) (by rfl) fun w hp => ?_; try simp only [List.set_cons_zero, List.set_cons_succ, EV.val] at hp; conv => whnf)
        (refine hp.kstA TTok rfl 1 rfl rfl (oneC_of rfl) (by rfl) fun w hp => ?_; try simp only [List.set_cons_zero, List.set_cons_succ, EV.val] at hp; conv => whnf)
        exact hK _ _ _ _ _ _ _ _ _ _ _ _ _ _ _ dA dB hp _ (sub_cons rfl (sub_cons rfl (sub_cons rfl sub_nil)))
    · intro w hx
      try (have hp := hp.call hx)
      conv => whnf
      refine hp.kalloc z24 fun b7 w hp hx => ?_
      conv => whnf
      refine And.intro hx ?_
      conv => whnf
      refine And.intro ?_ ?_
      · intro w hx
        try (have hp := hp.call hx)
        conv => whnf
        refine Calls.mono (s2 hp.ext) ?_
        rintro _ w ⟨_, rfl, c2, m2, id2, bl, u2, rfl, dB, hr⟩
        refine ⟨_, rfl, ?_⟩
        have hx := hr.ext
        have hp := hp.join hr
        clear hr
        simp only [List.cons_append, List.nil_append] at hp
        obtain ⟨pv, cv, rfl⟩ := row_shape (hp.get (i := 0) rfl)
        conv => whnf
        refine And.intro hx ?_
        conv => whnf
        intro w hx
        try (have hp := hp.call hx)
        conv => whnf
        refine hp.kalloc z24 fun b8 w hp hx => ?_
        conv => whnf
        refine And.intro hx ?_
        conv => whnf
        have hp : HpM [] W w [blk b7 [.int .i64 0, .int .i64 0, .string ⟨#[]⟩, .slice none 0 0] 24, blk b8 [.int .i64 0, .int .i64 0, .string ⟨#[]⟩, .slice none 0 0] 24, row 54 2 (.slice pu al.length cu) al.length (flatC al), row 54 2 (.slice pv bl.length cv) bl.length (flatC bl), blk q5 [.int .u16 at_, .int .u8 less, .string put] 32] := hp.pick [2, 0, 3, 1, 4] (by decide)
        intro w hx
        try (have hp := hp.call hx)
        conv => whnf
        (refine hp.kstA TTok rfl 0 rfl rfl (oneC_of rfl) (by rfl) fun w hp => ?_; try simp only [List.set_cons_zero, List.set_cons_succ, EV.val] at hp; conv => whnf)
        (refine hp.kstA TTok rfl 1 rfl rfl (oneC_of rfl) (by rfl) fun w hp => ?_; try simp only [List.set_cons_zero, List.set_cons_succ, EV.val] at hp; conv => whnf)
        exact hK _ _ _ _ _ _ _ _ _ _ _ _ _ _ _ dA dB hp _ (sub_cons rfl (sub_cons rfl (sub_cons rfl sub_nil)))
      · intro w hx
        try (have hp := hp.call hx)
        conv => whnf
        refine hp.kalloc z24 fun b8 w hp hx => ?_
        conv => whnf
        refine And.intro hx ?_
        conv => whnf
        intro w hx
        try (have hp := hp.call hx)
        conv => whnf
        refine Calls.mono (s2 hp.ext) ?_
        rintro _ w ⟨_, rfl, c2, m2, id2, bl, u2, rfl, dB, hr⟩
        refine ⟨_, rfl, ?_⟩
        have hx := hr.ext
        have hp := hp.join hr
        clear hr
        simp only [List.cons_append, List.nil_append] at hp
        obtain ⟨pv, cv, rfl⟩ := row_shape (hp.get (i := 0) rfl)
        conv => whnf
        refine And.intro hx ?_
        conv => whnf
        have hp : HpM [] W w [blk b7 [.int .i64 0, .int .i64 0, .string ⟨#[]⟩, .slice none 0 0] 24, blk b8 [.int .i64 0, .int .i64 0, .string ⟨#[]⟩, .slice none 0 0] 24, row 54 2 (.slice pu al.length cu) al.length (flatC al), row 54 2 (.slice pv bl.length cv) bl.length (flatC bl), blk q5 [.int .u16 at_, .int .u8 less, .string put] 32] := hp.pick [2, 1, 3, 0, 4] (by decide)
        intro w hx
        try (have hp := hp.call hx)
        conv => whnf
        (refine hp.kstA TTok rfl 0 rfl rfl (oneC_of rfl) (by rfl) fun w hp => ?_; try simp only [List.set_cons_zero, List.set_cons_succ, EV.val] at hp; conv => whnf)
        (refine hp.kstA TTok rfl 1 rfl rfl (oneC_of rfl) (by rfl) fun w hp => ?_; try simp only [List.set_cons_zero, List.set_cons_succ, EV.val] at hp; conv => whnf)
        exact hK _ _ _ _ _ _ _ _ _ _ _ _ _ _ _ dA dB hp _ (sub_cons rfl (sub_cons rfl (sub_cons rfl sub_nil)))
    · intro w hx
      try (have hp := hp.call hx)
      conv => whnf
      refine hp.kalloc z24 fun b8 w hp hx => ?_
      conv => whnf
      refine And.intro hx ?_
      conv => whnf
      refine And.intro ?_ ?_
      · intro w hx
        try (have hp := hp.call hx)
        conv => whnf
        refine Calls.mono (s2 hp.ext) ?_
        rintro _ w ⟨_, rfl, c2, m2, id2, bl, u2, rfl, dB, hr⟩
        refine ⟨_, rfl, ?_⟩
        have hx := hr.ext
        have hp := hp.join hr
        clear hr
        simp only [List.cons_append, List.nil_append] at hp
        obtain ⟨pv, cv, rfl⟩ := row_shape (hp.get (i := 0) rfl)
        conv => whnf
        refine And.intro hx ?_
        conv => whnf
        intro w hx
        try (have hp := hp.call hx)
        conv => whnf
        refine hp.kalloc z24 fun b7 w hp hx => ?_
        conv => whnf
        refine And.intro hx ?_
        conv => whnf
        have hp : HpM [] W w [blk b7 [.int .i64 0, .int .i64 0, .string ⟨#[]⟩, .slice none 0 0] 24, blk b8 [.int .i64 0, .int .i64 0, .string ⟨#[]⟩, .slice none 0 0] 24, row 54 2 (.slice pu al.length cu) al.length (flatC al), row 54 2 (.slice pv bl.length cv) bl.length (flatC bl), blk q5 [.int .u16 at_, .int .u8 less, .string put] 32] := hp.pick [0, 2, 3, 1, 4] (by decide)
        intro w hx
        try (have hp := hp.call hx)
        conv => whnf
        (refine hp.kstA TTok rfl 0 rfl rfl (oneC_of rfl) (by rfl) fun w hp => ?_; try simp only [List.set_cons_zero, List.set_cons_succ, EV.val] at hp; conv => whnf)
        (refine hp.kstA TTok rfl 1 rfl rfl (oneC_of rfl) (by rfl) fun w hp => ?_; try simp only [List.set_cons_zero, List.set_cons_succ, EV.val] at hp; conv => whnf)
        exact hK _ _ _ _ _ _ _ _ _ _ _ _ _ _ _ dA dB hp _ (sub_cons rfl (sub_cons rfl (sub_cons rfl sub_nil)))
      · intro w hx
        try (have hp := hp.call hx)
        conv => whnf
        refine hp.kalloc z24 fun b7 w hp hx => ?_
        conv => whnf
        refine And.intro hx ?_
        conv => whnf
        intro w hx
        try (have hp := hp.call hx)
        conv => whnf
        refine Calls.mono (s2 hp.ext) ?_
        rintro _ w ⟨_, rfl, c2, m2, id2, bl, u2, rfl, dB, hr⟩
        refine ⟨_, rfl, ?_⟩
        have hx := hr.ext
        have hp := hp.join hr
        clear hr
        simp only [List.cons_append, List.nil_append] at hp
        obtain ⟨pv, cv, rfl⟩ := row_shape (hp.get (i := 0) rfl)
        conv => whnf
        refine And.intro hx ?_
        conv => whnf
        have hp : HpM [] W w [blk b7 [.int .i64 0, .int .i64 0, .string ⟨#[]⟩, .slice none 0 0] 24, blk b8 [.int .i64 0, .int .i64 0, .string ⟨#[]⟩, .slice none 0 0] 24, row 54 2 (.slice pu al.length cu) al.length (flatC al), row 54 2 (.slice pv bl.length cv) bl.length (flatC bl), blk q5 [.int .u16 at_, .int .u8 less, .string put] 32] := hp.pick [1, 2, 3, 0, 4] (by decide)
        intro w hx
        try (have hp := hp.call hx)
        conv => whnf
        (refine hp.kstA TTok rfl 0 rfl rfl (oneC_of rfl) (by rfl) fun w hp => ?_; try simp only [List.set_cons_zero, List.set_cons_succ, EV.val] at hp; conv => whnf)
        (refine hp.kstA TTok rfl 1 rfl rfl (oneC_of rfl) (by rfl) fun w hp => ?_; try simp only [List.set_cons_zero, List.set_cons_succ, EV.val] at hp; conv => whnf)
        exact hK _ _ _ _ _ _ _ _ _ _ _ _ _ _ _ dA dB hp _ (sub_cons rfl (sub_cons rfl (sub_cons rfl sub_nil)))
  · intro w hx
    try (have hp := hp.call hx)
    conv => whnf
    refine hp.kalloc z24 fun b7 w hp hx => ?_
    conv => whnf
    refine And.intro hx ?_
    conv => whnf
    refine And.intro ?_ ?_
    · intro w hx
      try (have hp := hp.call hx)
      conv => whnf
      refine Calls.mono (s1 hp.ext) ?_
      rintro _ w ⟨_, rfl, c, m, id, al, u, rfl, dA, hr⟩
      refine ⟨_, rfl, ?_⟩
      have hx := hr.ext
      have hp := hp.join hr
      clear hr
      simp only [List.cons_append, List.nil_append] at hp
      obtain ⟨pu, cu, rfl⟩ := row_shape (hp.get (i := 0) rfl)
      conv => whnf
      refine And.intro hx ?_
      conv => whnf
      refine And.intro ?_ ?_
      · intro w hx
        try (have hp := hp.call hx)
        conv => whnf
        refine Calls.mono (s2 hp.ext) ?_
        rintro _ w ⟨_, rfl, c2, m2, id2, bl, u2, rfl, dB, hr⟩
        refine ⟨_, rfl, ?_⟩
        have hx := hr.ext
        have hp := hp.join hr
        clear hr
        simp only [List.cons_append, List.nil_append] at hp
        obtain ⟨pv, cv, rfl⟩ := row_shape (hp.get (i := 0) rfl)
        conv => whnf
        refine And.intro hx ?_
        conv => whnf
        intro w hx
        try (have hp := hp.call hx)
        conv => whnf
        refine hp.kalloc z24 fun b8 w hp hx => ?_
        conv => whnf
        refine And.intro hx ?_
        conv => whnf
        have hp : HpM [] W w [blk b7 [.int .i64 0, .int .i64 0, .string ⟨#[]⟩, .slice none 0 0] 24, blk b8 [.int .i64 0, .int .i64 0, .string ⟨#[]⟩, .slice none 0 0] 24, row 54 2 (.slice pu al.length cu) al.length (flatC al), row 54 2 (.slice pv bl.length cv) bl.length (flatC bl), blk q5 [.int .u16 at_, .int .u8 less, .string put] 32] := hp.pick [3, 0, 2, 1, 4] (by decide)
        intro w hx
        try (have hp := hp.call hx)
        conv => whnf
        (refine hp.kstA TTok rfl 0 rfl rfl (oneC_of rfl) (by rfl) fun w hp => ?_; try simp only [List.set_cons_zero, List.set_cons_succ, EV.val] at hp; conv => whnf)
        (refine hp.kstA TTok rfl 1 rfl rfl (oneC_of rfl) (by rfl) fun w hp => ?_; try simp only [List.set_cons_zero, List.set_cons_succ, EV.val] at hp; conv => whnf)
        exact hK _ _ _ _ _ _ _ _ _ _ _ _ _ _ _ dA dB hp _ (sub_cons rfl (sub_cons rfl (sub_cons rfl sub_nil)))
      · intro w hx
        try (have hp := hp.call hx)
        conv => whnf
        refine hp.kalloc z24 fun b8 w hp hx => ?_
        conv => whnf
        refine And.intro hx ?_
        conv => whnf
        intro w hx
        try (have hp := hp.call hx)
        conv => whnf
        refine Calls.mono (s2 hp.ext) ?_
        rintro _ w ⟨_, rfl, c2, m2, id2, bl, u2, rfl, dB, hr⟩
        refine ⟨_, rfl, ?_⟩
        have hx := hr.ext
        have hp := hp.join hr
        clear hr
        simp only [List.cons_append, List.nil_append] at hp
        obtain ⟨pv, cv, rfl⟩ := row_shape (hp.get (i := 0) rfl)
        conv => whnf
        refine And.intro hx ?_
        conv => whnf
        have hp : HpM [] W w [blk b7 [.int .i64 0, .int .i64 0, .string ⟨#[]⟩, .slice none 0 0] 24, blk b8 [.int .i64 0, .int .i64 0, .string ⟨#[]⟩, .slice none 0 0] 24, row 54 2 (.slice pu al.length cu) al.length (flatC al), row 54 2 (.slice pv bl.length cv) bl.length (flatC bl), blk q5 [.int .u16 at_, .int .u8 less, .string put] 32] := hp.pick [3, 1, 2, 0, 4] (by decide)
        intro w hx
        try (have hp := hp.call hx)
        conv => whnf
        (refine hp.kstA TTok rfl 0 rfl rfl (oneC_of rfl) (by rfl) fun w hp => ?_; try simp only [List.set_cons_zero, List.set_cons_succ, EV.val] at hp; conv => whnf)
        (refine hp.kstA TTok rfl 1 rfl rfl (oneC_of rfl) (by rfl) fun w hp => ?_; try simp only [List.set_cons_zero, List.set_cons_succ, EV.val] at hp; conv => whnf)
        exact hK _ _ _ _ _ _ _ _ _ _ _ _ _ _ _ dA dB hp _ (sub_cons rfl (sub_cons rfl (sub_cons rfl sub_nil)))
    · intro w hx
      try (have hp := hp.call hx)
      conv => whnf
      refine hp.kalloc z24 fun b8 w hp hx => ?_
      conv => whnf
      refine And.intro hx ?_
      conv => whnf
      intro w hx
      try (have hp := hp.call hx)
      conv => whnf
      refine Calls.mono (s1 hp.ext) ?_
      rintro _ w ⟨_, rfl, c, m, id, al, u, rfl, dA, hr⟩
      refine ⟨_, rfl, ?_⟩
      have hx := hr.ext
      have hp := hp.join hr
      clear hr
      simp only [List.cons_append, List.nil_append] at hp
      obtain ⟨pu, cu, rfl⟩ := row_shape (hp.get (i := 0) rfl)
      conv => whnf
      refine And.intro hx ?_
      conv => whnf
      intro w hx
      try (have hp := hp.call hx)
      conv => whnf
      refine Calls.mono (s2 hp.ext) ?_
      rintro _ w ⟨_, rfl, c2, m2, id2, bl, u2, rfl, dB, hr⟩
      refine ⟨_, rfl, ?_⟩
      have hx := hr.ext
      have hp := hp.join hr
      clear hr
      simp only [List.cons_append, List.nil_append] at hp
      obtain ⟨pv, cv, rfl⟩ := row_shape (hp.get (i := 0) rfl)
      conv => whnf
      refine And.intro hx ?_
      conv => whnf
      have hp : HpM [] W w [blk b7 [.int .i64 0, .int .i64 0, .string ⟨#[]⟩, .slice none 0 0] 24, blk b8 [.int .i64 0, .int .i64 0, .string ⟨#[]⟩, .slice none 0 0] 24, row 54 2 (.slice pu al.length cu) al.length (flatC al), row 54 2 (.slice pv bl.length cv) bl.length (flatC bl), blk q5 [.int .u16 at_, .int .u8 less, .string put] 32] := hp.pick [3, 2, 1, 0, 4] (by decide)
      intro w hx
      try (have hp := hp.call hx)
      conv => whnf
      (refine hp.kstA TTok rfl 0 rfl rfl (oneC_of rfl) (by rfl) fun w hp => ?_; try simp only [List.set_cons_zero, List.set_cons_succ, EV.val] at hp; conv => whnf)
      (refine hp.kstA TTok rfl 1 rfl rfl (oneC_of rfl) (by rfl) fun w hp => ?_; try simp only [List.set_cons_zero, List.set_cons_succ, EV.val] at hp; conv => whnf)
      exact hK _ _ _ _ _ _ _ _ _ _ _ _ _ _ _ dA dB hp _ (sub_cons rfl (sub_cons rfl (sub_cons rfl sub_nil)))
  · intro w hx
    try (have hp := hp.call hx)
    conv => whnf
    refine hp.kalloc z24 fun b8 w hp hx => ?_
    conv => whnf
    refine And.intro hx ?_
    conv => whnf
    refine And.intro ?_ ?_
    · intro w hx
      try (have hp := hp.call hx)
      conv => whnf
      refine Calls.mono (s1 hp.ext) ?_
      rintro _ w ⟨_, rfl, c, m, id, al, u, rfl, dA, hr⟩
      refine ⟨_, rfl, ?_⟩
      have hx := hr.ext
      have hp := hp.join hr
      clear hr
      simp only [List.cons_append, List.nil_append] at hp
      obtain ⟨pu, cu, rfl⟩ := row_shape (hp.get (i := 0) rfl)
      conv => whnf
      refine And.intro hx ?_
      conv => whnf
      refine And.intro ?_ ?_
      · intro w hx
        try (have hp := hp.call hx)
        conv => whnf
        refine Calls.mono (s2 hp.ext) ?_
        rintro _ w ⟨_, rfl, c2, m2, id2, bl, u2, rfl, dB, hr⟩
        refine ⟨_, rfl, ?_⟩
        have hx := hr.ext
        have hp := hp.join hr
        clear hr
        simp only [List.cons_append, List.nil_append] at hp
        obtain ⟨pv, cv, rfl⟩ := row_shape (hp.get (i := 0) rfl)
        conv => whnf
        refine And.intro hx ?_
        conv => whnf
        intro w hx
        try (have hp := hp.call hx)
        conv => whnf
        refine hp.kalloc z24 fun b7 w hp hx => ?_
        conv => whnf
        refine And.intro hx ?_
        conv => whnf
        have hp : HpM [] W w [blk b7 [.int .i64 0, .int .i64 0, .string ⟨#[]⟩, .slice none 0 0] 24, blk b8 [.int .i64 0, .int .i64 0, .string ⟨#[]⟩, .slice none 0 0] 24, row 54 2 (.slice pu al.length cu) al.length (flatC al), row 54 2 (.slice pv bl.length cv) bl.length (flatC bl), blk q5 [.int .u16 at_, .int .u8 less, .string put] 32] := hp.pick [0, 3, 2, 1, 4] (by decide)
        intro w hx
        try (have hp := hp.call hx)
        conv => whnf
        (refine hp.kstA TTok rfl 0 rfl rfl (oneC_of rfl) (by rfl) fun w hp => ?_; try simp only [List.set_cons_zero, List.set_cons_succ, EV.val] at hp; conv => whnf)
        (refine hp.kstA TTok rfl 1 rfl rfl (oneC_of rfl) (by rfl) fun w hp => ?_; try simp only [List.set_cons_zero, List.set_cons_succ, EV.val] at hp; conv => whnf)
        exact hK _ _ _ _ _ _ _ _ _ _ _ _ _ _ _ dA dB hp _ (sub_cons rfl (sub_cons rfl (sub_cons rfl sub_nil)))
      · intro w hx
        try (have hp := hp.call hx)
        conv => whnf
        refine hp.kalloc z24 fun b7 w hp hx => ?_
        conv => whnf
        refine And.intro hx ?_
        conv => whnf
        intro w hx
        try (have hp := hp.call hx)
        conv => whnf
        refine Calls.mono (s2 hp.ext) ?_
        rintro _ w ⟨_, rfl, c2, m2, id2, bl, u2, rfl, dB, hr⟩
        refine ⟨_, rfl, ?_⟩
        have hx := hr.ext
        have hp := hp.join hr
        clear hr
        simp only [List.cons_append, List.nil_append] at hp
        obtain ⟨pv, cv, rfl⟩ := row_shape (hp.get (i := 0) rfl)
        conv => whnf
        refine And.intro hx ?_
        conv => whnf
        have hp : HpM [] W w [blk b7 [.int .i64 0, .int .i64 0, .string ⟨#[]⟩, .slice none 0 0] 24, blk b8 [.int .i64 0, .int .i64 0, .string ⟨#[]⟩, .slice none 0 0] 24, row 54 2 (.slice pu al.length cu) al.length (flatC al), row 54 2 (.slice pv bl.length cv) bl.length (flatC bl), blk q5 [.int .u16 at_, .int .u8 less, .string put] 32] := hp.pick [1, 3, 2, 0, 4] (by decide)
        intro w hx
        try (have hp := hp.call hx)
        conv => whnf
        (refine hp.kstA TTok rfl 0 rfl rfl (oneC_of rfl) (by rfl) fun w hp => ?_; try simp only [List.set_cons_zero, List.set_cons_succ, EV.val] at hp; conv => whnf)
        (refine hp.kstA TTok rfl 1 rfl rfl (oneC_of rfl) (by rfl) fun w hp => ?_; try simp only [List.set_cons_zero, List.set_cons_succ, EV.val] at hp; conv => whnf)
        exact hK _ _ _ _ _ _ _ _ _ _ _ _ _ _ _ dA dB hp _ (sub_cons rfl (sub_cons rfl (sub_cons rfl sub_nil)))
    · intro w hx
      try (have hp := hp.call hx)
      conv => whnf
      refine hp.kalloc z24 fun b7 w hp hx => ?_
      conv => whnf
      refine And.intro hx ?_
      conv => whnf
      intro w hx
      try (have hp := hp.call hx)
      conv => whnf
      refine Calls.mono (s1 hp.ext) ?_
      rintro _ w ⟨_, rfl, c, m, id, al, u, rfl, dA, hr⟩
      refine ⟨_, rfl, ?_⟩
      have hx := hr.ext
      have hp := hp.join hr
      clear hr
      simp only [List.cons_append, List.nil_append] at hp
      obtain ⟨pu, cu, rfl⟩ := row_shape (hp.get (i := 0) rfl)
      conv => whnf
      refine And.intro hx ?_
      conv => whnf
      intro w hx
      try (have hp := hp.call hx)
      conv => whnf
      refine Calls.mono (s2 hp.ext) ?_
      rintro _ w ⟨_, rfl, c2, m2, id2, bl, u2, rfl, dB, hr⟩
      refine ⟨_, rfl, ?_⟩
      have hx := hr.ext
      have hp := hp.join hr
      clear hr
      simp only [List.cons_append, List.nil_append] at hp
      obtain ⟨pv, cv, rfl⟩ := row_shape (hp.get (i := 0) rfl)
      conv => whnf
      refine And.intro hx ?_
      conv => whnf
      have hp : HpM [] W w [blk b7 [.int .i64 0, .int .i64 0, .string ⟨#[]⟩, .slice none 0 0] 24, blk b8 [.int .i64 0, .int .i64 0, .string ⟨#[]⟩, .slice none 0 0] 24, row 54 2 (.slice pu al.length cu) al.length (flatC al), row 54 2 (.slice pv bl.length cv) bl.length (flatC bl), blk q5 [.int .u16 at_, .int .u8 less, .string put] 32] := hp.pick [2, 3, 1, 0, 4] (by decide)
      intro w hx
      try (have hp := hp.call hx)
      conv => whnf
      (refine hp.kstA TTok rfl 0 rfl rfl (oneC_of rfl) (by rfl) fun w hp => ?_; try simp only [List.set_cons_zero, List.set_cons_succ, EV.val] at hp; conv => whnf)
      (refine hp.kstA TTok rfl 1 rfl rfl (oneC_of rfl) (by rfl) fun w hp => ?_; try simp only [List.set_cons_zero, List.set_cons_succ, EV.val] at hp; conv => whnf)
      exact hK _ _ _ _ _ _ _ _ _ _ _ _ _ _ _ dA dB hp _ (sub_cons rfl (sub_cons rfl (sub_cons rfl sub_nil)))
def sh8P : Sh := .cons (.int .u8) (.cons (.int .u16) (.cons .str .nil))
theorem pc_rd {w : World} {cs : List Value} (h : Rd w (.ag sh8P) cs) : ∃ p : Pc3, PcOk p ∧ cs = pcC p := by
  obtain ⟨_, _, rfl, h1, _, _, rfl, h2, _, _, rfl, ⟨s, rfl, hs⟩, h3⟩ := h
  obtain rfl : _ = [] := h3
  obtain ⟨a, ha, rfl⟩ := u8_rd h1
  obtain ⟨k, hk, rfl⟩ := u16_rd h2
  exact ⟨(a, k, s), ⟨ha, hk, hs⟩, rfl⟩
def sh8M : Sh := .cons (.int .u8) (.cons (.int .u16) (.cons .str (.cons (.sl (.ag sh8P)) .nil)))
theorem draft_rd {w : World} {cs : List Value} (h : Rd w sh8M cs) : ∃ (c8 m16 : Nat) (id : ByteArray) (v : Value) (ps : List Pc3), c8 < 256 ∧ m16 < 65536 ∧ id.size ≤ maxLen ∧ SPc w v ps ∧ (∀ p ∈ ps, PcOk p) ∧ cs = [.int .u8 c8, .int .u16 m16, .string id, v] := by
  obtain ⟨_, _, rfl, h1, _, _, rfl, h2, _, _, rfl, ⟨s, rfl, hs⟩, _, _, rfl, ⟨v, xs, rfl, hv, hx⟩, h3⟩ := h
  obtain rfl : _ = [] := h3
  obtain ⟨a, ha, rfl⟩ := u8_rd h1
  obtain ⟨k, hk, rfl⟩ := u16_rd h2
  obtain ⟨ps, rfl, hp⟩ := Rd.all (Q := PcOk) (f := pcC) (fun cs h => pc_rd h) hx
  exact ⟨a, k, s, v, ps, ha, hk, hs, hv, hp, rfl⟩
theorem back_at {W : World} {c0 c1 c2 : Array Value} (e0 : Rd W sh8M c0.toList) (e1 : Rd W sh8M c1.toList) (e2 : Rd W sh8E c2.toList) :
    Calls Tryz.prog 5 #[.agg c0, .agg c1, .agg c2] W fun e w' => e = .returned (.bool true) ∧ Ext W w' := by
  obtain ⟨c8, m16, id, v, ps, h1, h2, h3, hv, hps, h0⟩ := draft_rd e0
  obtain ⟨c8', m16', id', v', ps', k1, k2, k3, kv, kps, k0⟩ := draft_rd e1
  obtain ⟨at_, less, put, ha, hl, hput, h6⟩ := edit_rd e2
  have h0 : c0 = #[.int .u8 c8, .int .u16 m16, .string id, v] := Array.ext' h0
  have k0 : c1 = #[.int .u8 c8', .int .u16 m16', .string id', v'] := Array.ext' k0
  have h6 : c2 = #[.int .u16 at_, .int .u8 less, .string put] := Array.ext' h6
  subst h0 k0 h6
  exact back_c c8 m16 id c8' m16' id' at_ less put hv hps h1 h2 h3 kv kps k1 k2 k3 ha hl hput
end Go.Proofs.YtmlmfmdmomegpaaGreatDoor
namespace Go.Proofs.YtmlmfmdmomegpaaGreatDoor.stunBack
open Go.ChangeShapes Go.WideShapes Go.ChangeAt Go.RowKit
open Go.ChangeMaps (open_string shut_string)
set_option linter.unusedVariables false
theorem own : ownKnob Tryz.prog.godebug = none := by kernel_rfl
theorem laidOut : laidOutB Tryz.prog = true := by kernel_rfl
def laid2 : List (String × DataW Unit) := [("unicode/utf8.acceptRanges", Rows.laid_unicode_utf8_acceptRanges), ("unicode/utf8.first", Rows.laid_unicode_utf8_first)]
set_option maxRecDepth 100000 in
theorem lifted (os : Os) (started : os.Started) (H : Type) (enc : TypeId × Value → H) :
    ReturnsInHanded {} Tryz.checked os 5 .any (fun w args => (Rows.stunBackSpec.pre enc Tryz.prog Tryz.f5 [] false w args ∧ laidMetH Tryz.prog laid2 w) ∧ sizedMet enc Tryz.prog Tryz.f5 (OpenSpec.ofChange Rows.stunBackSpec) false w args) (Rows.stunBackSpec.post enc Tryz.prog Tryz.f5 false true false false) := by
  refine returnsInHanded_of_change_and (C := Tryz.checked) (X := fun w _ => laidMetH Tryz.prog laid2 w) (fun _ _ _ hh h => h.of_heap hh) own started (by kernel_rfl) Tryz.func5
    (ChangeSpec.witness_shaped (enc := enc) (C := Tryz.checked) (os := os) (X := fun w _ => laidMetH Tryz.prog laid2 w) false (World.laidAll Tryz.prog os laid2) #[.agg #[.int .u8 0, .int .u16 0, .string ByteArray.empty, .slice none 0 0], .agg #[.int .u8 0, .int .u16 0, .string ByteArray.empty, .slice none 0 0], .agg #[.int .u16 0, .int .u8 0, .string ByteArray.empty]] 8 (World.laidAll_os _ _ _) (World.shaped_of_ZipB (by kernel_rfl) (by kernel_rfl)) (by kernel_rfl) (by kernel_rfl) (by kernel_rfl) (by rw [MakeChecks.laidMetH_plain _ _ _ (by kernel_rfl)]; exact laidMet_laidAll _ (by kernel_rfl) (by kernel_rfl))) ?_
  intro W base args ds gs before hval0 hW hcnd hsz0 hL _
  have hval : ∀ (j : Nat) t v, Tryz.f5.params[j]? = some t → args[j]? = some v → Value.okWide Tryz.prog W .any base t v := hval0
  have hW' := hW
  obtain ⟨p, q, hA0, hV, rfl, hfz, hnd⟩ := hW
  have hA : DataW.TrodAll enc Tryz.prog W 0 (fun _ => true) true Tryz.f5.params.toList args.toList ds p := hA0
  rw [Tryz.params5] at hA hval
  obtain ⟨v0, vs0, d0, ds0, p0, q0, hargs, rfl, rfl, h0, r0⟩ := trodAll_cons hA
  obtain ⟨v1, vs1, d1, ds1, p1, q1, rfl, rfl, rfl, h1, r1⟩ := trodAll_cons r0
  obtain ⟨v2, vs2, d2, ds2, p2, q2, rfl, rfl, rfl, h2, r2⟩ := trodAll_cons r1
  obtain ⟨rfl, rfl, rfl⟩ := trodAll_nil r2
  obtain rfl : args = #[v0, v1, v2] := by cases args; simp_all
  obtain ⟨rfl, rfl⟩ := trodVars_none hV
  have k0 := h0
  have lt0 : ∀ x ∈ p0, x.block < W.heap.size := by obtain ⟨m, hm⟩ := k0; exact DataW.trod_lt m _ _ _ hm
  obtain ⟨c0, rfl, e0⟩ := V.rd_ag (s := (.cons (.int .u8) (.cons (.int .u16) (.cons .str (.cons (.sl (.ag (.cons (.int .u8) (.cons (.int .u16) (.cons .str .nil))))) .nil))))) (by kernel_rfl) (hval 0 28 v0 rfl rfl) h0
  have k1 := h1
  have lt1 : ∀ x ∈ p1, x.block < W.heap.size := by obtain ⟨m, hm⟩ := k1; exact DataW.trod_lt m _ _ _ hm
  obtain ⟨c1, rfl, e1⟩ := V.rd_ag (s := (.cons (.int .u8) (.cons (.int .u16) (.cons .str (.cons (.sl (.ag (.cons (.int .u8) (.cons (.int .u16) (.cons .str .nil))))) .nil))))) (by kernel_rfl) (hval 1 28 v1 rfl rfl) h1
  have k2 := h2
  have lt2 : ∀ x ∈ p2, x.block < W.heap.size := by obtain ⟨m, hm⟩ := k2; exact DataW.trod_lt m _ _ _ hm
  obtain ⟨c2, rfl, e2⟩ := V.rd_ag (s := (.cons (.int .u16) (.cons (.int .u8) (.cons .str .nil)))) (by kernel_rfl) (hval 2 32 v2 rfl rfl) h2
  clear hA0 hval0
  refine (back_at e0 e1 e2).mono fun e W' ⟨he, bel⟩ => ?_
  have bel : Below W.heap.size W W' := bel
  subst he
  exact ⟨_, rfl, _, _, _, [], _, [], hW', trodAll_mk1 (shut_bool Tryz.underlying4 _), (trodAll_cons_mk (Below.trod laidOut (by kernel_rfl) (of_decide_eq_true (by kernel_rfl)) k0 bel lt0) (trodAll_cons_mk (Below.trod laidOut (by kernel_rfl) (of_decide_eq_true (by kernel_rfl)) k1 bel lt1) (trodAll_cons_mk (Below.trod laidOut (by kernel_rfl) (of_decide_eq_true (by kernel_rfl)) k2 bel lt2) trodAll_mk0))), rfl, bel.frame _, fun h => by cases h⟩

theorem over : Rows.stunBackRow.holds Tryz.pinned (OpenSpec.ofChange Rows.stunBackSpec) :=
  OpenClaim.holds_of_wide 5 Tryz.f5 rfl rfl rfl rfl rfl rfl rfl ⟨rfl, rfl, rfl, rfl, rfl⟩ rfl rfl rfl rfl rfl (by kernel_rfl) Tryz.func5 (by kernel_rfl)
    (of_decide_eq_true (by kernel_rfl)) (by unfold Func.isWrapper; first | (rw [if_pos (by decide +kernel)]; kernel_rfl) | (rw [if_neg (by decide +kernel)]; exact ⟨rfl, rfl⟩))
    (fun os started H enc _ => lifted os started H enc)

theorem proved : Rows.StunBackCardSaid :=
  Claim7.holds_tied_plain_at .later [] [.data, .pinned] true (true, "5f27dd6ed70dca3cf563e9660767357bc6414374a73c6f1dd9ec93831559d27f") true
    over (fun _ h => by cases h) (by kernel_rfl) (fun _ h => by cases h) stunBack_row_tie rfl ⟨rfl, rfl⟩ (by kernel_rfl) rfl
    (fun f fn hf hfn => by
      obtain rfl : f = 5 := Option.some.inj ((show Tryz.prog.funcNamed "tannoy/tannoylaw08.StunBack" = some 5 by kernel_rfl).symm.trans hf) |>.symm
      obtain rfl : fn = Tryz.f5 := (Option.some.inj (Tryz.func5.symm.trans hfn)).symm
      exact ⟨by kernel_rfl, fun j t ht => by
        rw [Tryz.params5] at ht
        have hm : t ∈ [28, 28, 32] := by simpa using Array.mem_of_getElem? ht
        have hall : ([28, 28, 32].all fun u => !Tryz.prog.wantsStandIn u) = true := by kernel_rfl
        exact (show Tryz.prog.wantsStandIn t = false by simpa using List.all_eq_true.1 hall t hm)⟩)
    (by kernel_rfl)
#print axioms proved
end Go.Proofs.YtmlmfmdmomegpaaGreatDoor.stunBack
