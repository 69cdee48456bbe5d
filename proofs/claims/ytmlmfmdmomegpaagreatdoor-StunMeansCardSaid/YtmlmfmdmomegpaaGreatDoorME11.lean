/- Chapter 08: StunMeans. -/
/- StunMeans returns true for every input, where the two tables of unicode/utf8 that its card ties read as they are laid. -/
import Derived.Test.YtmlmfmdmomegpaaGreatDoorME10
import Derived.Test.YtmlmfmdmomegpaaGreatDoorCards
import Derived.Test.YtmlmfmdmomegpaaGreatDoorTie
import Derived.SevenTiedAt
import Derived.Stop.Joined
import Derived.LaidMore
import Derived.Lay
import Derived.MakeChecks
import Derived.Test.YtmlmfmdmomegpaaGreatDoorRows
import Derived.WalkKit
import Derived.ProofKit
import Derived.OpenShut
import Derived.SizedLaws
import Derived.ShutString
import Derived.ChangeOld
import Derived.Below
import Derived.Test.YtmlmfmdmomegpaaGreatDoorME04
namespace Go.Proofs.YtmlmfmdmomegpaaGreatDoor
set_option linter.unusedSimpArgs false
set_option linter.unusedVariables false
set_option maxRecDepth 100000
open Go.RowKit V
set_option maxHeartbeats 25600000
theorem extD_list (i j : Nat) (s : ByteArray) : (s.extract i j).data.toList = (s.data.toList.take j).drop i := by
  rw [ByteArray.data_extract, Array.toList_extract, List.extract_eq_take_drop, List.drop_take]
theorem wrB_more (c m : Nat) (id : ByteArray) (fl : List At2) (n : Nat) :
    (wrB c m id fl 0).extract 0 2 ++ beB 2 (sizeN fl + n) ++ (wrB c m id fl 0).extract 4 (wrB c m id fl 0).size = wrB c m id fl n := by
  have l1 := beL_len 2 (kindN c m)
  have l2 := beL_len 2 (sizeN fl + 0)
  have hw : ∀ k, (wrB c m id fl k).data.toList = beL 2 (kindN c m) ++ (beL 2 (sizeN fl + k) ++ (beL 4 554869826 ++ id.data.toList ++ attrsL fl)) := fun k => by
    unfold wrB headL
    simp
  apply bA_ext
  simp only [ByteArray.data_append, Array.toList_append]
  rw [extD_list, extD_list, show (wrB c m id fl 0).data.toList.take (wrB c m id fl 0).size = (wrB c m id fl 0).data.toList from List.take_of_length_le (by rw [bA_len]; exact Nat.le_refl _), hw, hw, List.take_left' l1, List.drop_zero]
  have : (beL 2 (kindN c m) ++ (beL 2 (sizeN fl + 0) ++ (beL 4 554869826 ++ id.data.toList ++ attrsL fl))).drop 4 = beL 4 554869826 ++ id.data.toList ++ attrsL fl := by
    rw [← List.append_assoc]
    exact List.drop_left' (by rw [List.length_append, l1, l2])
  rw [this, List.append_assoc]
  rfl
theorem longer_c {W : World} {b : Nat} (c m : Nat) (id : ByteArray) (fl : List At2) (n : Nat) (zi : id.size = 12) (hz : sizeN fl ≤ 1200) (hn : n ≤ 100) (hb : Blk W b [.string (wrB c m id fl 0)] 9) :
    Calls Tryz.prog 41 #[.int .i64 n, .pointer (some ⟨b, 0, none⟩)] W fun e w' => e = .returned (.string (wrB c m id fl n)) ∧ Ext W w' := by
  have zw := wrB_size c m id fl 0
  have hm := wrB_more c m id fl n
  have hpo := Put_ok 2 (sizeN fl + n) (by decide) (by decide) (by omega)
  have zb := beB_size 2 (sizeN fl + n)
  rw [← hm]
  generalize wrB c m id fl 0 = S at *
  have z2 := size_extract S 0 2 (by omega)
  have z4 := size_extract S 4 S.size (Nat.le_refl _)
  have eN : (S.size : Int) - 20 + (n : Int) = ((sizeN fl + n : Nat) : Int) := by omega
  generalize beB 2 (sizeN fl + n) = B at *
  generalize sizeN fl + n = K at *
  refine v_reads (args := [.int .i64 n, .pointer (some ⟨b, 0, none⟩)]) TTok FFok Tryz.func41 rfl rfl ?_
  conv => whnf
  refine VSeq.mk fun Kq hKq => ?_
  conv => whnf
  refine hKq _ _ _ (.refl _) ?_
  clear hKq Kq
  conv => whnf
  refine VSeq.mk fun Kq hKq => ?_
  conv => whnf
  have hp := Hp.nil W
  refine ⟨_, _, Blk.ld (hb) TTok rfl (rfl), ?_⟩
  conv => whnf
  refine Or.inl (And.intro (by omega) ?_)
  conv => whnf
  refine Or.inl (And.intro (by omega) ?_)
  conv => whnf
  rw [eN]
  refine PureF.use (hpo) fun w hx => ?_
  try (have hp := hp.call hx)
  conv => whnf
  refine hKq _ _ _ (.refl _) ?_
  clear hKq Kq
  conv => whnf
  refine VSeq.mk fun Kq hKq => ?_
  conv => whnf
  refine v_mixA TTok FFok mixed [(0, false), (1, false), (2, false), (3, false), (4, false), (5, false), (6, false), (7, false)] (by kernel_rfl) ?_
  conv => whnf
  refine ⟨_, fun w1 hx1 => Blk.ld (Blk.ext (hb.ext hp.ext) hx1) TTok rfl rfl, ?_⟩
  conv => whnf
  refine ⟨2, ⟨by first | rfl | omega, by omega⟩, ?_⟩
  conv => whnf
  refine And.intro (by omega) ?_
  conv => whnf
  refine ⟨_, fun w1 hx1 => Blk.ld (Blk.ext (hb.ext hp.ext) hx1) TTok rfl rfl, ?_⟩
  conv => whnf
  refine ⟨4, ⟨by first | rfl | omega, by omega⟩, ?_⟩
  conv => whnf
  refine And.intro (by rw [ByteArray.size_append]; omega) ?_
  conv => whnf
  intro w hx
  try (have hp := hp.call hx)
  conv => whnf
  refine hKq _ _ _ (.refl _) ?_
  clear hKq Kq
  conv => whnf
  exact ⟨rfl, hp.ext⟩
theorem means_c {W : World} {v : Value} {ps : List Pc3} (c8 m16 : Nat) (id0 : ByteArray) (key0 : ByteArray) (hv : SPc W v ps) (hps : ∀ p ∈ ps, PcOk p) (hc8 : c8 < 256) (hm16 : m16 < 65536) (hid : id0.size ≤ maxLen) (hkey : key0.size ≤ maxLen) :
    Calls Tryz.prog 8 #[.agg #[.int .u8 c8, .int .u16 m16, .string id0, v], .string key0] W fun e w' => e = .returned (.bool true) ∧ Ext W w' := by
  have s1 := fun {w : World} (hx : Ext W w) => message_c (W := w) c8 m16 id0 (SLn.ext hv hx) hps hc8 hm16 hid
  obtain ⟨p, cp, rfl⟩ := SPc.shape hv
  refine v_reads (args := [.agg #[.int .u8 c8, .int .u16 m16, .string id0, .slice p ps.length cp], .string key0]) TTok FFok Tryz.func8 rfl rfl ?_
  conv => whnf
  refine VSeq.mk fun Kq hKq => ?_
  conv => whnf
  have hp := Hp.nil W
  refine hp.kboxA fun q3 w hp hx => ?_
  conv => whnf
  refine hKq _ _ _ (.refl _) ?_
  clear hKq Kq
  conv => whnf
  refine VSeq.mk fun Kq hKq => ?_
  conv => whnf
  refine VSeq.mk fun Kq hKq => ?_
  conv => whnf
  refine PureF.use (works_p) fun w hx => ?_
  try (have hp := hp.call hx)
  conv => whnf
  refine hKq _ _ _ (.refl _) ?_
  clear hKq Kq
  conv => whnf
  refine And.intro (fun h => by cases h) (fun _ => ?_)
  conv => whnf
  refine hKq _ _ _ (.refl _) ?_
  clear hKq Kq
  conv => whnf
  refine VSeq.mk fun Kq hKq => ?_
  conv => whnf
  unfold maxLen at hkey
  refine ⟨min key0.size 100, ⟨by omega, by omega⟩, ?_⟩
  conv => whnf
  refine hKq _ _ _ (.refl _) ?_
  clear hKq Kq
  conv => whnf
  refine VSeq.mk fun Kq hKq => ?_
  conv => whnf
  have zk := size_extract key0 0 (min key0.size 100) (by omega)
  generalize key0.extract 0 (min key0.size 100) = key at *
  (refine ⟨_, _, Blk.ldV (vs := [_, _, _, _]) (hp.get (i := 0) rfl) TTok rfl rfl rfl, ?_⟩; conv => whnf)
  refine Calls.mono (s1 hp.ext) ?_
  rintro _ w ⟨_, rfl, c, m, id, al, u, rfl, dA, hr⟩
  refine ⟨_, rfl, ?_⟩
  have hp := hp.call hr.ext
  obtain ⟨pu, cu, rfl⟩ := row_shape (hr.get (i := 0) rfl)
  clear hr
  conv => whnf
  (refine hp.kalloc z24 fun al24 w hp hx => ?_; conv => whnf)
  (refine hp.kstA TTok rfl 0 rfl rfl (oneC_of rfl) (by rfl) fun w hp => ?_; try simp only [List.set_cons_zero, List.set_cons_succ, EV.val] at hp; conv => whnf)
  (refine hKq _ _ _ (.refl _) ?_; clear hKq Kq; conv => whnf)
  (refine VSeq.mk fun Kq hKq => ?_; conv => whnf)
  (refine hp.kst1 TTok (by rfl) 0 (by rfl) (by rfl) (by rfl) (Nat.le_of_ble_eq_true rfl) fun w hp => ?_; try simp only [List.set_cons_zero, List.set_cons_succ, EV.val] at hp; conv => whnf)
  (refine hKq _ _ _ (.refl _) ?_; clear hKq Kq; conv => whnf)
  (refine VSeq.mk fun Kq hKq => ?_; conv => whnf)
  (refine VSeq.mk fun Kq hKq => ?_; conv => whnf)
  (refine ⟨_, _, Blk.ldV (vs := [_, _, _, _]) (hp.get (i := 1) rfl) TTok rfl rfl rfl, ?_⟩; conv => whnf)
  obtain ⟨b5, rfl⟩ : ∃ q, q = al24 := ⟨al24, rfl⟩
  refine Calls.mono (s1 hp.ext) ?_
  clear s1
  rintro _ w ⟨_, rfl, c2, m2, id2, bl, u2, rfl, dB, hr⟩
  refine ⟨_, rfl, ?_⟩
  have hp := hp.join hr
  clear hr
  simp only [List.cons_append, List.nil_append] at hp
  obtain ⟨pb, cb, rfl⟩ := row_shape (hp.get (i := 0) rfl)
  conv => whnf
  skip
  have hp := hp.knil 54 2
  have hp := hp.pick [0, 1, 2] (by decide)
  have hp : HpM [] W w [row 54 2 (.slice none 0 0) 0 (flatC []), row 54 2 (.slice pb bl.length cb) bl.length (flatC bl), blk b5 [.int .i64 c, .int .i64 m, .string id, .slice none 0 0] 24] := hp
  have fO := filL_ok dA dB
  obtain ⟨f8, f9⟩ := filL_has bl
  first | refine ⟨.slice pb bl.length cb, w, by kernel_rfl, ?_⟩ | refine ⟨.slice pb bl.length cb, w0, by kernel_rfl, ?_⟩
  conv => whnf
  refine hKq _ _ _ (.refl _) ?_
  clear hKq Kq
  conv => whnf
  refine ⟨fun mm e w' => ∃ (i : Nat) (u : Value), mm + i = bl.length ∧ e = [(1, .v (.string key)), (5, .v (.pointer (some ⟨b5, 0, none⟩))), (33, .v (.slice pb bl.length cb)), (34, .v (.int .i64 bl.length)), (35, .v (.int .i64 i))] ∧ HpM [] W w' [row 54 2 u (filL (bl.take i)).length (flatC (filL (bl.take i))), row 54 2 (.slice pb bl.length cb) bl.length (flatC bl), blk b5 [.int .i64 c, .int .i64 m, .string id, u] 24],
    ⟨bl.length, _, ⟨0, _, by omega, rfl, hp⟩, sub_cons rfl (sub_cons rfl (sub_cons rfl (sub_cons rfl (sub_cons rfl sub_nil))))⟩, ?_⟩
  clear hp hx
  repeat clear hp
  have hlb := dB.len
  rintro mm _ w ⟨i, u, hmm, rfl, hp⟩
  obtain ⟨pu, cu, rfl⟩ := row_shape (hp.get (i := 0) rfl)
  have hfl := filL_len (bl.take i)
  have htl : (bl.take i).length ≤ bl.length := by rw [List.length_take]; omega
  conv => whnf
  refine VSeq.mk fun Kq hKq => ?_
  conv => whnf
  refine hKq _ _ _ (.refl _) ?_
  clear hKq Kq
  conv => whnf
  refine VSeq.mk fun Kq hKq => ?_
  conv => whnf
  refine ⟨fun hlt => ?_, fun hlt => ?_⟩
  · have hlt := of_decide_eq_true hlt
    conv => whnf
    refine hKq _ _ _ (.refl _) ?_
    clear hKq Kq
    conv => whnf
    refine VSeq.mk fun Kq hKq => ?_
    conv => whnf
    refine VSeq.mk fun Kq hKq => ?_
    conv => whnf
    obtain ⟨a, hai⟩ : ∃ a, bl[i]? = some a := ⟨bl[i]'(by omega), List.getElem?_eq_getElem (by omega)⟩
    have hst := filL_take hai
    obtain ⟨g, off, he, hld⟩ := (SA.of_row (hp.get (i := 1) rfl)).at hai
    obtain rfl := he
    obtain ⟨k, t⟩ := a
    dsimp only at hld
    have hfc : flatC (filL (bl.take i)) ++ [.int .i64 k, .string t] = flatC (filL (bl.take i) ++ [(k, t)]) := by rw [flatC_app]; rfl
    generalize filL (bl.take i) = fl at *
    refine ⟨i, ⟨by first | rfl | omega, by show i < bl.length; omega⟩, ?_⟩
    conv => whnf
    refine ⟨_, _, hld, ?_⟩
    conv => whnf
    refine hp.kalloc z54 fun a9 w hp hx => ?_
    conv => whnf
    (refine hp.kstA TTok rfl 0 rfl rfl (oneC_of rfl) (by rfl) fun w hp => ?_; try simp only [List.set_cons_zero, List.set_cons_succ, EV.val] at hp; conv => whnf)
    (refine hKq _ _ _ (.refl _) ?_; clear hKq Kq; conv => whnf)
    (refine VSeq.mk fun Kq hKq => ?_; conv => whnf)
    (refine VSeq.mk fun Kq hKq => ?_; conv => whnf)
    (refine ⟨_, _, Blk.ld (hp.get (i := 0) rfl) TTok rfl rfl, ?_⟩; conv => whnf)
    (refine hKq _ _ _ (.refl _) ?_; clear hKq Kq; conv => whnf)
    by_cases h8 : k = 8
    · have hkb : keepB (k, t) = false := by unfold keepB; simp [h8]
      rw [hkb, if_neg (by decide), List.append_nil] at hst
      (refine And.intro (fun h => absurd (of_decide_eq_true h) (by first | (intro h2; exact absurd rfl h2) | omega | decide)) (fun _ => ?_); conv => whnf)
      (refine hKq _ _ _ (.refl _) ?_; clear hKq Kq; conv => whnf)
      (refine hKq _ _ _ (.refl _) ?_; clear hKq Kq; conv => whnf)
      (refine Or.inl (And.intro (by first | omega | decide) ?_); conv => whnf)
      exact ⟨mm - 1, _, by omega, ⟨i + 1, _, by omega, rfl, by rw [hst]; exact hp.pick [1, 2, 3] (by decide)⟩, sub_cons rfl (sub_cons rfl (sub_cons rfl (sub_cons rfl (sub_cons rfl sub_nil))))⟩
    · by_cases h3 : k = 32808
      · have hkb : keepB (k, t) = false := by unfold keepB; simp [h3]
        rw [hkb, if_neg (by decide), List.append_nil] at hst
        (refine And.intro (fun _ => ?_) (fun h => absurd (by first | rfl | assumption | omega | decide) (of_decide_eq_false h)); conv => whnf)
        (refine ⟨_, _, Blk.ld (hp.get (i := 0) rfl) TTok rfl rfl, ?_⟩; conv => whnf)
        (refine hKq _ _ _ (.refl _) ?_; clear hKq Kq; conv => whnf)
        (refine And.intro (fun h => absurd (of_decide_eq_true h) (by first | (intro h2; exact absurd rfl h2) | omega | decide)) (fun _ => ?_); conv => whnf)
        (refine hKq _ _ _ (.refl _) ?_; clear hKq Kq; conv => whnf)
        (refine Or.inl (And.intro (by first | omega | decide) ?_); conv => whnf)
        exact ⟨mm - 1, _, by omega, ⟨i + 1, _, by omega, rfl, by rw [hst]; exact hp.pick [1, 2, 3] (by decide)⟩, sub_cons rfl (sub_cons rfl (sub_cons rfl (sub_cons rfl (sub_cons rfl sub_nil))))⟩
      · have hkb : keepB (k, t) = true := by unfold keepB; simp [h8, h3]
        rw [hkb, if_pos rfl] at hst
        (refine And.intro (fun _ => ?_) (fun h => absurd (by first | rfl | assumption | omega | decide) (of_decide_eq_false h)); conv => whnf)
        (refine ⟨_, _, Blk.ld (hp.get (i := 0) rfl) TTok rfl rfl, ?_⟩; conv => whnf)
        (refine hKq _ _ _ (.refl _) ?_; clear hKq Kq; conv => whnf)
        (refine And.intro (fun _ => ?_) (fun h => absurd (by first | rfl | assumption | omega | decide) (of_decide_eq_false h)); conv => whnf)
        (refine ⟨_, _, Blk.ld (hp.get (i := 3) rfl) TTok rfl rfl, ?_⟩; conv => whnf)
        (refine ⟨_, _, Blk.ldV (vs := [_, _]) (hp.get (i := 0) rfl) TTok rfl rfl rfl, ?_⟩; conv => whnf)
        (refine hp.kmade _ _ (fun b => .slice (some ⟨b, 0, none⟩) 1 1) (mks22_1_0 _ _ _) fun q w hp hx => ?_; conv => whnf)
        refine hp.kapp sl22 2 rfl (Blk.src TTok (hp.get (i := 0) rfl) rfl (m := 1) rfl (oneC_of rfl)) (by omega) (by unfold maxLen; omega) fun v' w hp => ?_
        simp only [List.set_cons_zero, List.set_cons_succ] at hp
        rw [hfc] at hp
        obtain ⟨p1, c1, rfl⟩ := row_shape (hp.get (i := 2) rfl)
        conv => whnf
        (refine hp.kst1 TTok (by rfl) 4 (by rfl) (by rfl) (by rfl) (Nat.le_of_ble_eq_true rfl) fun w hp => ?_; try simp only [List.set_cons_zero, List.set_cons_succ, EV.val] at hp; conv => whnf)
        (refine hKq _ _ _ (.refl _) ?_; clear hKq Kq; conv => whnf)
        (refine Or.inl (And.intro (by first | omega | decide) ?_); conv => whnf)
        exact ⟨mm - 1, _, by omega, ⟨i + 1, _, by omega, rfl, by rw [hst, List.length_append]; exact hp.pick [2, 3, 4] (by decide)⟩, sub_cons rfl (sub_cons rfl (sub_cons rfl (sub_cons rfl (sub_cons rfl sub_nil))))⟩
  · have hlt := of_decide_eq_false hlt
    conv => whnf
    clear hKq Kq
    refine hKq _ _ _ (.refl _) ?_
    clear hKq Kq
    conv => whnf
    refine VSeq.mk fun Kq hKq => ?_
    conv => whnf
    obtain rfl : i = bl.length := by omega
    rw [List.take_of_length_le (Nat.le_refl _)] at hp
    clear hfl htl
    generalize filL bl = fl at *
    have hp := hp.pick [0, 2] (by decide)
    have hp : HpM [] W w [row 54 2 (.slice pu fl.length cu) fl.length (flatC fl), blk b5 [.int .i64 c, .int .i64 m, .string id, .slice pu fl.length cu] 24] := hp
    clear hlt hmm dB hlb
    have kF := fO.stun
    have fl6 := fO.len
    obtain ⟨M, hM⟩ : ∃ M, macB key (wrB c m id fl 36) = M := ⟨_, rfl⟩
    have aM : attrB (8, M) = true ∧ M.size ≤ 60 := by rw [← hM]; exact ⟨mac_attr _ _, by rw [macB_size]; decide⟩
    have kP : stunB c m id (fl ++ [(8, M)]) = true := dr_more fO (by simp) (by intro a ha; rw [List.mem_singleton] at ha; subst ha; exact aM)
    obtain ⟨F, hF⟩ : ∃ F, fpB (wrB c m id fl 8) = F := ⟨_, rfl⟩
    have aF : attrB (32808, F) = true ∧ F.size ≤ 60 := by rw [← hF]; exact ⟨fp_attr _, by rw [fpB_size]; decide⟩
    have kQ : stunB c m id (fl ++ [(32808, F)]) = true := dr_more fO (by simp) (by intro a ha; rw [List.mem_singleton] at ha; subst ha; exact aF)
    have hz := (stunB_t kF).2.2.2.2.2.2.2
    have zi := fO.id
    have zA := wrB_size c m id fl 0
    have z36 := wrB_size c m id fl 36
    have z8 := wrB_size c m id fl 8
    have cE := fun {w : World} {v : Value} (hx : SA w v fl) => Encode_ok (W := w) c m id hx kF
    have pr := fun {w : World} hx => Protect_ok (W := w) (v := .slice pu fl.length cu) (al := fl) c m id key hx kF (by omega) f8 f9 (by rw [hM]; exact kP)
    rw [hM] at pr
    have mk := fun {w : World} hx => Mark_ok (W := w) (v := .slice pu fl.length cu) (al := fl) c m id hx kF f9 (by rw [hF]; exact kQ)
    rw [hF] at mk
    have lo := fun {w : World} {b : Nat} (n : Nat) hn hb => longer_c (W := w) (b := b) c m id fl n zi (by omega) hn hb
    have mc := Mac_p key (wrB c m id fl 36)
    unfold macR at mc
    rw [if_neg (by omega), hM] at mc
    have cr := Crc_ok 1 (wrB c m id fl 8) (.inl rfl) (by omega)
    have hF2 : beB 4 (crcL 1 0 (wrB c m id fl 8).data.toList ^^^ 1398035790) = F := by rw [← hF]; rfl
    have hN := fpN_lt (wrB c m id fl 8)
    unfold fpN at hN
    (refine ⟨_, _, Blk.ldV (vs := [_, _, _, _]) (hp.get (i := 1) rfl) TTok rfl rfl rfl, ?_⟩; conv => whnf)
    refine V.CallsUse (cE (SA.of_row (hp.get (i := 0) rfl))) fun w hx => ?_
    try (have hp := hp.call hx)
    conv => whnf
    (refine hp.kalloc z9 fun al9 w hp hx => ?_; conv => whnf)
    (refine hp.kst1 TTok (by rfl) 0 (by rfl) (by rfl) (by rfl) (Nat.le_of_ble_eq_true rfl) fun w hp => ?_; try simp only [List.set_cons_zero, List.set_cons_succ, EV.val] at hp; conv => whnf)
    (refine hKq _ _ _ (.refl _) ?_; clear hKq Kq; conv => whnf)
    (refine VSeq.mk fun Kq hKq => ?_; conv => whnf)
    (refine ⟨_, _, Blk.ldV (vs := [_, _, _, _]) (hp.get (i := 2) rfl) TTok rfl rfl rfl, ?_⟩; conv => whnf)
    obtain ⟨al2, h2⟩ : ∃ al2, fl ++ [((8 : Int), M)] = al2 := ⟨_, rfl⟩
    have g2 : al2[fl.length]? = some (8, M) := by rw [← h2, List.getElem?_append_right (Nat.le_refl _), Nat.sub_self]; rfl
    have n2 : al2.length = fl.length + 1 := by rw [← h2, List.length_append]; rfl
    obtain ⟨al3, h3⟩ : ∃ al3, fl ++ [((32808 : Int), F)] = al3 := ⟨_, rfl⟩
    have g3 : al3[fl.length]? = some (32808, F) := by rw [← h3, List.getElem?_append_right (Nat.le_refl _), Nat.sub_self]; rfl
    have n3 : al3.length = fl.length + 1 := by rw [← h3, List.length_append]; rfl
    rw [h2] at pr
    rw [h3] at mk
    refine Calls.mono (pr (SA.of_row (hp.get (i := 1) rfl))) ?_
    clear pr
    rintro _ w ⟨_, rfl, v', rfl, hr⟩
    refine ⟨_, rfl, ?_⟩
    have hp := hp.join hr
    clear hr
    simp only [List.cons_append, List.nil_append] at hp
    obtain ⟨p2, c2, rfl⟩ := row_shape (hp.get (i := 0) rfl)
    conv => whnf
    (refine hp.kalloc z24 fun al24 w hp hx => ?_; conv => whnf)
    (refine hp.kstA TTok rfl 0 rfl rfl (oneC_of rfl) (by rfl) fun w hp => ?_; try simp only [List.set_cons_zero, List.set_cons_succ, EV.val] at hp; conv => whnf)
    (refine hKq _ _ _ (.refl _) ?_; clear hKq Kq; conv => whnf)
    (refine VSeq.mk fun Kq hKq => ?_; conv => whnf)
    (refine ⟨_, _, Blk.ldV (vs := [_, _, _, _]) (hp.get (i := 4) rfl) TTok rfl rfl rfl, ?_⟩; conv => whnf)
    obtain ⟨b10, rfl⟩ : ∃ q, q = al24 := ⟨al24, rfl⟩
    refine Calls.mono (mk (SA.of_row (hp.get (i := 3) rfl))) ?_
    clear mk
    rintro _ w ⟨_, rfl, v', rfl, hr⟩
    refine ⟨_, rfl, ?_⟩
    have hp := hp.join hr
    clear hr
    simp only [List.cons_append, List.nil_append] at hp
    obtain ⟨p3, c3, rfl⟩ := row_shape (hp.get (i := 0) rfl)
    conv => whnf
    (refine hp.kalloc z24 fun al24 w hp hx => ?_; conv => whnf)
    (refine hp.kstA TTok rfl 0 rfl rfl (oneC_of rfl) (by rfl) fun w hp => ?_; try simp only [List.set_cons_zero, List.set_cons_succ, EV.val] at hp; conv => whnf)
    (refine hKq _ _ _ (.refl _) ?_; clear hKq Kq; conv => whnf)
    (refine VSeq.mk fun Kq hKq => ?_; conv => whnf)
    (refine VSeq.mk fun Kq hKq => ?_; conv => whnf)
    (refine VSeq.mk fun Kq hKq => ?_; conv => whnf)
    (refine hKq _ _ _ (.refl _) ?_; clear hKq Kq; conv => whnf)
    (refine VSeq.mk fun Kq hKq => ?_; conv => whnf)
    (refine And.intro (fun h => absurd (of_decide_eq_true h) (by first | (intro h2; exact absurd rfl h2) | omega | decide)) (fun _ => ?_); conv => whnf)
    (refine hKq _ _ _ (.refl _) ?_; clear hKq Kq; conv => whnf)
    (refine VSeq.mk fun Kq hKq => ?_; conv => whnf)
    (refine And.intro (fun h => absurd (of_decide_eq_true h) (by first | (intro h2; exact absurd rfl h2) | omega | decide)) (fun _ => ?_); conv => whnf)
    (refine hKq _ _ _ (.refl _) ?_; clear hKq Kq; conv => whnf)
    (refine VSeq.mk fun Kq hKq => ?_; conv => whnf)
    (refine And.intro (fun h => absurd (of_decide_eq_true h) (by first | (intro h2; exact absurd rfl h2) | omega | decide)) (fun _ => ?_); conv => whnf)
    (refine ⟨_, _, Blk.ld (hp.get (i := 4) rfl) TTok rfl rfl, ?_⟩; conv => whnf)
    (refine hKq _ _ _ (.refl _) ?_; clear hKq Kq; conv => whnf)
    (refine VSeq.mk fun Kq hKq => ?_; conv => whnf)
    (refine And.intro (fun h => absurd (of_decide_eq_true h) (by first | (intro h2; exact absurd rfl h2) | omega | decide)) (fun _ => ?_); conv => whnf)
    (refine ⟨_, _, Blk.ld (hp.get (i := 2) rfl) TTok rfl rfl, ?_⟩; conv => whnf)
    (refine ⟨_, _, Blk.ld (hp.get (i := 6) rfl) TTok rfl rfl, ?_⟩; conv => whnf)
    (refine Or.inl (And.intro (by first | omega | decide) ?_); conv => whnf)
    (refine hKq _ _ _ (.refl _) ?_; clear hKq Kq; conv => whnf)
    (refine And.intro (fun h => absurd (of_decide_eq_true h) (by first | (intro h2; exact absurd rfl h2) | omega | decide)) (fun _ => ?_); conv => whnf)
    (refine ⟨_, _, Blk.ld (hp.get (i := 0) rfl) TTok rfl rfl, ?_⟩; conv => whnf)
    (refine ⟨_, _, Blk.ld (hp.get (i := 6) rfl) TTok rfl rfl, ?_⟩; conv => whnf)
    (refine Or.inl (And.intro (by first | omega | decide) ?_); conv => whnf)
    (refine hKq _ _ _ (.refl _) ?_; clear hKq Kq; conv => whnf)
    (refine And.intro (fun h => absurd (of_decide_eq_true h) (by first | (intro h2; exact absurd rfl h2) | omega | decide)) (fun _ => ?_); conv => whnf)
    (refine hKq _ _ _ (.refl _) ?_; clear hKq Kq; conv => whnf)
    (refine VSeq.mk fun Kq hKq => ?_; conv => whnf)
    (refine hKq _ _ _ (.refl _) ?_; clear hKq Kq; conv => whnf)
    (refine VSeq.mk fun Kq hKq => ?_; conv => whnf)
    refine V.CallsUse (lo 36 (by decide) (hp.get (i := 4) rfl)) fun w hx => ?_
    try (have hp := hp.call hx)
    conv => whnf
    refine PureF.use (mc) fun w hx => ?_
    try (have hp := hp.call hx)
    conv => whnf
    refine hKq _ _ _ (.refl _) ?_
    clear hKq Kq
    conv => whnf
    refine VSeq.mk fun Kq hKq => ?_
    conv => whnf
    skip
    refine V.CallsUse (lo 8 (by decide) (hp.get (i := 4) rfl)) fun w hx => ?_
    try (have hp := hp.call hx)
    conv => whnf
    refine PureF.use (cr) fun w hx => ?_
    try (have hp := hp.call hx)
    conv => whnf
    refine hKq _ _ _ (.refl _) ?_
    clear hKq Kq
    conv => whnf
    refine VSeq.mk fun Kq hKq => ?_
    conv => whnf
    have hpo := Put_ok 4 (crcL 1 0 (wrB c m id fl 8).data.toList ^^^ 1398035790) (by decide) (by decide) (by omega)
    rw [hF2] at hpo
    have hcl := crcL_lt 1 0 (wrB c m id fl 8).data.toList
    refine ⟨crcL 1 0 (wrB c m id fl 8).data.toList, 1398035790, _, ⟨by first | rfl | omega, by first | rfl | omega, by omega, by omega⟩, rfl, ?_⟩
    conv => whnf
    refine PureF.use (hpo) fun w hx => ?_
    try (have hp := hp.call hx)
    conv => whnf
    refine hKq _ _ _ (.refl _) ?_
    clear hKq Kq
    conv => whnf
    refine VSeq.mk fun Kq hKq => ?_
    conv => whnf
    refine VSeq.mk fun Kq hKq => ?_
    conv => whnf
    refine hKq _ _ _ (.refl _) ?_
    clear hKq Kq
    conv => whnf
    refine VSeq.mk fun Kq hKq => ?_
    conv => whnf
    have qA : ∀ {a : At2}, attrB a = true → AtOk a := fun h => AtOk.of h
    (refine And.intro (fun _ => ?_) (fun h => absurd (by first | rfl | assumption | omega | decide) (of_decide_eq_false h)); conv => whnf)
    (refine hKq _ _ _ (.refl _) ?_; clear hKq Kq; conv => whnf)
    (refine VSeq.mk fun Kq hKq => ?_; conv => whnf)
    (refine And.intro (fun _ => ?_) (fun h => absurd (by first | rfl | assumption | omega | decide) (of_decide_eq_false h)); conv => whnf)
    (refine hKq _ _ _ (.refl _) ?_; clear hKq Kq; conv => whnf)
    (refine VSeq.mk fun Kq hKq => ?_; conv => whnf)
    (refine And.intro (fun _ => ?_) (fun h => absurd (by first | rfl | assumption | omega | decide) (of_decide_eq_false h)); conv => whnf)
    (refine ⟨_, _, Blk.ld (hp.get (i := 2) rfl) TTok rfl rfl, ?_⟩; conv => whnf)
    (refine ⟨_, _, Blk.ld (hp.get (i := 6) rfl) TTok rfl rfl, ?_⟩; conv => whnf)
    obtain ⟨g2', o2', e2', l2'⟩ := (SA.of_row (hp.get (i := 3) rfl)).at g2
    obtain rfl := e2'
    obtain ⟨g3', o3', e3', l3'⟩ := (SA.of_row (hp.get (i := 1) rfl)).at g3
    obtain rfl := e3'
    refine ⟨fl.length, ⟨by first | rfl | omega, by omega⟩, ?_⟩
    conv => whnf
    refine ⟨_, _, l2', ?_⟩
    conv => whnf
    (refine ⟨_, _, bld54_0_1 _ _ _, ?_⟩; conv => whnf)
    refine ⟨_, _, (at_eq _ (8, M) (8, M) (qA aM.1) (qA aM.1) _ _).1, ?_⟩
    conv => whnf
    refine hKq _ _ _ (.refl _) ?_
    clear hKq Kq
    conv => whnf
    rw [decide_eq_true (rfl : (((8 : Int), M) : At2) = (8, M))]
    (refine And.intro (fun _ => ?_) (fun h => absurd h (by decide)); conv => whnf)
    (refine ⟨_, _, Blk.ld (hp.get (i := 0) rfl) TTok rfl rfl, ?_⟩; conv => whnf)
    (refine ⟨_, _, Blk.ld (hp.get (i := 6) rfl) TTok rfl rfl, ?_⟩; conv => whnf)
    (refine ⟨_, ⟨rfl, by omega⟩, ?_⟩; conv => whnf)
    refine ⟨_, _, l3', ?_⟩
    conv => whnf
    (refine ⟨_, _, bld54_0_1 _ _ _, ?_⟩; conv => whnf)
    refine ⟨_, _, (at_eq _ (32808, F) (32808, F) (qA aF.1) (qA aF.1) _ _).1, ?_⟩
    conv => whnf
    refine hKq _ _ _ (.refl _) ?_
    clear hKq Kq
    conv => whnf
    rw [decide_eq_true (rfl : (((32808 : Int), F) : At2) = (32808, F))]
    skip
    exact ⟨rfl, hp.ext⟩
theorem means_at {W : World} {c0 : Array Value} {a1 : ByteArray} (e0 : Rd W sh8M c0.toList) (w1 : a1.size ≤ maxLen) :
    Calls Tryz.prog 8 #[.agg c0, .string a1] W fun e w' => e = .returned (.bool true) ∧ Ext W w' := by
  obtain ⟨c8, m16, id, v, ps, h1, h2, h3, hv, hps, h0⟩ := draft_rd e0
  have h0 : c0 = #[.int .u8 c8, .int .u16 m16, .string id, v] := Array.ext' h0
  subst h0
  exact means_c c8 m16 id a1 hv hps h1 h2 h3 w1
end Go.Proofs.YtmlmfmdmomegpaaGreatDoor
namespace Go.Proofs.YtmlmfmdmomegpaaGreatDoor.stunMeans
open Go.ChangeShapes Go.WideShapes Go.ChangeAt Go.RowKit
open Go.ChangeMaps (open_string shut_string)
set_option linter.unusedVariables false
theorem own : ownKnob Tryz.prog.godebug = none := by kernel_rfl
theorem laidOut : laidOutB Tryz.prog = true := by kernel_rfl
def laid2 : List (String × DataW Unit) := [("unicode/utf8.acceptRanges", Rows.laid_unicode_utf8_acceptRanges), ("unicode/utf8.first", Rows.laid_unicode_utf8_first)]
set_option maxRecDepth 100000 in
theorem lifted (os : Os) (started : os.Started) (H : Type) (enc : TypeId × Value → H) :
    ReturnsInHanded {} Tryz.checked os 8 .any (fun w args => (Rows.stunMeansSpec.pre enc Tryz.prog Tryz.f8 [] false w args ∧ laidMetH Tryz.prog laid2 w) ∧ sizedMet enc Tryz.prog Tryz.f8 (OpenSpec.ofChange Rows.stunMeansSpec) false w args) (Rows.stunMeansSpec.post enc Tryz.prog Tryz.f8 false true false false) := by
  refine returnsInHanded_of_change_and (C := Tryz.checked) (X := fun w _ => laidMetH Tryz.prog laid2 w) (fun _ _ _ hh h => h.of_heap hh) own started (by kernel_rfl) Tryz.func8
    (ChangeSpec.witness_shaped (enc := enc) (C := Tryz.checked) (os := os) (X := fun w _ => laidMetH Tryz.prog laid2 w) false (World.laidAll Tryz.prog os laid2) #[.agg #[.int .u8 0, .int .u16 0, .string ByteArray.empty, .slice none 0 0], .string ByteArray.empty] 8 (World.laidAll_os _ _ _) (World.shaped_of_ZipB (by kernel_rfl) (by kernel_rfl)) (by kernel_rfl) (by kernel_rfl) (by kernel_rfl) (by rw [MakeChecks.laidMetH_plain _ _ _ (by kernel_rfl)]; exact laidMet_laidAll _ (by kernel_rfl) (by kernel_rfl))) ?_
  intro W base args ds gs before hval0 hW hcnd hsz0 hL _
  have hval : ∀ (j : Nat) t v, Tryz.f8.params[j]? = some t → args[j]? = some v → Value.okWide Tryz.prog W .any base t v := hval0
  have hW' := hW
  obtain ⟨p, q, hA0, hV, rfl, hfz, hnd⟩ := hW
  have hA : DataW.TrodAll enc Tryz.prog W 0 (fun _ => true) true Tryz.f8.params.toList args.toList ds p := hA0
  rw [Tryz.params8] at hA hval
  obtain ⟨v0, vs0, d0, ds0, p0, q0, hargs, rfl, rfl, h0, r0⟩ := trodAll_cons hA
  obtain ⟨v1, vs1, d1, ds1, p1, q1, rfl, rfl, rfl, h1, r1⟩ := trodAll_cons r0
  obtain ⟨rfl, rfl, rfl⟩ := trodAll_nil r1
  obtain rfl : args = #[v0, v1] := by cases args; simp_all
  obtain ⟨rfl, rfl⟩ := trodVars_none hV
  have k0 := h0
  have lt0 : ∀ x ∈ p0, x.block < W.heap.size := by obtain ⟨m, hm⟩ := k0; exact DataW.trod_lt m _ _ _ hm
  obtain ⟨c0, rfl, e0⟩ := V.rd_ag (s := (.cons (.int .u8) (.cons (.int .u16) (.cons .str (.cons (.sl (.ag (.cons (.int .u8) (.cons (.int .u16) (.cons .str .nil))))) .nil))))) (by kernel_rfl) (hval 0 28 v0 rfl rfl) h0
  have k1 := h1
  have lt1 : ∀ x ∈ p1, x.block < W.heap.size := by obtain ⟨m, hm⟩ := k1; exact DataW.trod_lt m _ _ _ hm
  obtain ⟨a1, rfl, rfl, rfl, w1⟩ := open_string Tryz.underlying9 (hval 1 9 v1 rfl rfl) h1
  clear hA0 hval0
  refine (means_at e0 w1).mono fun e W' ⟨he, bel⟩ => ?_
  have bel : Below W.heap.size W W' := bel
  subst he
  exact ⟨_, rfl, _, _, _, [], _, [], hW', trodAll_mk1 (shut_bool Tryz.underlying4 _), (trodAll_cons_mk (Below.trod laidOut (by kernel_rfl) (of_decide_eq_true (by kernel_rfl)) k0 bel lt0) (trodAll_cons_mk (Below.trod laidOut (by kernel_rfl) (of_decide_eq_true (by kernel_rfl)) k1 bel lt1) trodAll_mk0)), rfl, bel.frame _, fun h => by cases h⟩

theorem over : Rows.stunMeansRow.holds Tryz.pinned (OpenSpec.ofChange Rows.stunMeansSpec) :=
  OpenClaim.holds_of_wide 8 Tryz.f8 rfl rfl rfl rfl rfl rfl rfl ⟨rfl, rfl, rfl, rfl, rfl⟩ rfl rfl rfl rfl rfl (by kernel_rfl) Tryz.func8 (by kernel_rfl)
    (of_decide_eq_true (by kernel_rfl)) (by unfold Func.isWrapper; first | (rw [if_pos (by decide +kernel)]; kernel_rfl) | (rw [if_neg (by decide +kernel)]; exact ⟨rfl, rfl⟩))
    (fun os started H enc _ => lifted os started H enc)

theorem proved : Rows.StunMeansCardSaid :=
  Claim7.holds_tied_plain_at .later [] [.data, .pinned] true (true, "5f27dd6ed70dca3cf563e9660767357bc6414374a73c6f1dd9ec93831559d27f") true
    over (fun _ h => by cases h) (by kernel_rfl) (fun _ h => by cases h) stunMeans_row_tie rfl ⟨rfl, rfl⟩ (by kernel_rfl) rfl
    (fun f fn hf hfn => by
      obtain rfl : f = 8 := Option.some.inj ((show Tryz.prog.funcNamed "tannoy/tannoylaw08.StunMeans" = some 8 by kernel_rfl).symm.trans hf) |>.symm
      obtain rfl : fn = Tryz.f8 := (Option.some.inj (Tryz.func8.symm.trans hfn)).symm
      exact ⟨by kernel_rfl, fun j t ht => by
        rw [Tryz.params8] at ht
        have hm : t ∈ [28, 9] := by simpa using Array.mem_of_getElem? ht
        have hall : ([28, 9].all fun u => !Tryz.prog.wantsStandIn u) = true := by kernel_rfl
        exact (show Tryz.prog.wantsStandIn t = false by simpa using List.all_eq_true.1 hall t hm)⟩)
    (by kernel_rfl)
#print axioms proved
end Go.Proofs.YtmlmfmdmomegpaaGreatDoor.stunMeans
