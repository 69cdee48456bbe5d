/- Chapter 08: StunKnown. -/
/- The Go function StunKnown answers true: the examples of the chapter, the limits and the order of errors hold. -/
import Derived.Test.YtmlmfmdmomegpaaGreatDoorKN17
import Derived.Test.YtmlmfmdmomegpaaGreatDoorCards
import Derived.Test.YtmlmfmdmomegpaaGreatDoorTie
import Derived.SevenTiedAt
import Derived.Stop.Joined
import Derived.LaidMore
import Derived.Lay
import Derived.MakeChecks
import Derived.Test.YtmlmfmdmomegpaaGreatDoorRows
import Derived.WalkKit
import Derived.ProofKit
import Derived.OpenShut
import Derived.SizedLaws
import Derived.ShutString
import Derived.ChangeOld
import Derived.Below
import Derived.Test.YtmlmfmdmomegpaaGreatDoorKN06
namespace Go.Proofs.YtmlmfmdmomegpaaGreatDoor
set_option linter.unusedSimpArgs false
set_option linter.unusedVariables false
set_option maxRecDepth 100000
open Go.RowKit V
set_option maxHeartbeats 51200000
theorem eq63z (xo yo : Operand) (w : World) : (do eqGuard .eql 63 xo yo (.agg #[.string ⟨#[]⟩, .int .i64 0]) (.agg #[.string ⟨#[]⟩, .int .i64 0]); binOp .eql 63 (.agg #[.string ⟨#[]⟩, .int .i64 0]) (.agg #[.string ⟨#[]⟩, .int .i64 0]) : Sem Value).run Tryz.prog w = .ok (.bool true) w := by kernel_rfl
theorem bad5_0 : stunB 4 0 idC [] = false := by decide
theorem bad5_1 : stunB (-1) 0 idC [] = false := by decide
theorem bad5_2 : stunB 0 4096 idC [] = false := by decide
theorem bad5_3 : stunB 0 0 (idC ++ (⟨#[120]⟩ : ByteArray)) [] = false := by decide +kernel
theorem bad5_4 : stunB 0 1 idC [(65536, ⟨#[]⟩)] = false := by decide
theorem ix114 (pw : Option Addr) (cw k : Nat) (hk : k < 5) : ∃ (c m : Int) (id : ByteArray) (p : Option Addr) (cp : Nat) (al : List At2), stunB c m id al = false ∧ (∀ w, SA w (.slice pw 1 cw) [(65536, ⟨#[]⟩)] → SA w (.slice p al.length cp) al) ∧ ∀ w, (Instr.index 114 (.agg #[.int .i64 4, .int .i64 0, .string idC, .slice none 0 0, .int .i64 (-1), .int .i64 0, .string idC, .slice none 0 0, .int .i64 0, .int .i64 4096, .string idC, .slice none 0 0, .int .i64 0, .int .i64 0, .string (idC ++ (⟨#[120]⟩ : ByteArray)), .slice none 0 0, .int .i64 0, .int .i64 1, .string idC, .slice pw 1 cw]) (.int .i64 k)).run Tryz.prog w = .ok (.agg #[.int .i64 c, .int .i64 m, .string id, .slice p al.length cp]) w := by
  have : k = 0 ∨ k = 1 ∨ k = 2 ∨ k = 3 ∨ k = 4 := by omega
  rcases this with rfl | rfl | rfl | rfl | rfl
  · exact ⟨4, 0, idC, none, 0, [], bad5_0, fun _ _ => SA.nil8, fun w => by kernel_rfl⟩
  · exact ⟨-1, 0, idC, none, 0, [], bad5_1, fun _ _ => SA.nil8, fun w => by kernel_rfl⟩
  · exact ⟨0, 4096, idC, none, 0, [], bad5_2, fun _ _ => SA.nil8, fun w => by kernel_rfl⟩
  · exact ⟨0, 0, idC ++ (⟨#[120]⟩ : ByteArray), none, 0, [], bad5_3, fun _ _ => SA.nil8, fun w => by kernel_rfl⟩
  · exact ⟨0, 1, idC, pw, cw, [(65536, ⟨#[]⟩)], bad5_4, fun _ h => h, fun w => by kernel_rfl⟩
theorem known_p : PureF Tryz.prog 11 #[] (.bool true) := by
  have r1 := Rep_p 120 4097 (by decide)
  have zl := rep_size 120 4097
  have q4 := rr4
  generalize rep 120 4097 = LG at *
  have va := value_p 763 (by decide)
  have vb := value_p 408 (by decide)
  have vc := value_p 409 (by decide)
  have v0 := value_p 0 (by decide)
  have v4 := value_p 764 (by decide)
  have z4 := rep_size 118 764
  have kf := full_ok
  have sf := full_sz
  have sw := wide_sz
  unfold fullL at kf sf
  unfold wideL at sw
  generalize rep 118 763 = ra at *
  generalize rep 118 408 = rb at *
  generalize rep 118 409 = rc at *
  generalize rep 118 0 = r0 at *
  generalize rep 118 764 = r4 at *
  first | refine v_pure TTok FFok Tryz.func11 rfl rfl fun w0 => ?_ | refine v_pure (args := []) TTok FFok Tryz.func11 rfl rfl fun w0 => ?_
  conv => whnf
  refine VSeq.mk fun Kq hKq => ?_
  conv => whnf
  refine hKq _ _ _ (.refl _) ?_
  clear hKq Kq
  conv => whnf
  refine VSeq.mk fun Kq hKq => ?_
  conv => whnf
  refine VSeq.mk fun Kq hKq => ?_
  conv => whnf
  have hp := Hp.nil w0
  refine PureF.use (works_p) fun w hx => ?_
  try (have hp := hp.call hx)
  conv => whnf
  refine hKq _ _ _ (.refl _) ?_
  clear hKq Kq
  conv => whnf
  (refine And.intro (fun h => absurd h (by decide)) (fun _ => ?_); conv => whnf)
  (refine hKq _ _ _ (.refl _) ?_; clear hKq Kq; conv => whnf)
  (refine VSeq.mk fun Kq hKq => ?_; conv => whnf)
  refine PureF.use (chapter_p) fun w hx => ?_
  try (have hp := hp.call hx)
  conv => whnf
  (refine hp.kalloc z24 fun al24 w hp hx => ?_; conv => whnf)
  (refine hp.kstA TTok rfl 0 rfl rfl (oneC_of rfl) (by rfl) fun w hp => ?_; try simp only [List.set_cons_zero, List.set_cons_succ, EV.val] at hp; conv => whnf)
  (refine hKq _ _ _ (.refl _) ?_; clear hKq Kq; conv => whnf)
  (refine VSeq.mk fun Kq hKq => ?_; conv => whnf)
  obtain ⟨b1, rfl⟩ : ∃ q, q = al24 := ⟨al24, rfl⟩
  refine PureF.use (r1) fun w hx => ?_
  try (have hp := hp.call hx)
  conv => whnf
  refine hKq _ _ _ (.refl _) ?_
  clear hKq Kq
  conv => whnf
  refine VSeq.mk fun Kq hKq => ?_
  conv => whnf
  refine hKq _ _ _ (.refl _) ?_
  clear hKq Kq
  conv => whnf
  refine VSeq.mk fun Kq hKq => ?_
  conv => whnf
  skip
  have hK6 : ∀ (b4 : Nat) (p4 : Option Addr) (c4 : Nat) (w : World), HpM [] w0 w [blk b4 [.int .i64 0, .int .i64 1, .string idC, .slice p4 2 c4] 24, row 54 2 (.slice p4 2 c4) 2 (flatC [(6, ra), (6, rb)]), blk b1 [.int .i64 0, .int .i64 1, .string idC, .slice none 0 0] 24] → ∀ l, V.Sub [(1, .v (.pointer (some ⟨b1, 0, none⟩))), (2, .v (.string LG)), (3, .v (.func (.func 57) #[] #[])), (4, .v (.pointer (some ⟨b4, 0, none⟩)))] l → Kq l w := by
    clear hp hx
    repeat clear hp
    intro b4 p4 c4 w hp l hs
    refine hKq _ _ _ hs ?_
    clear hKq Kq hs
    conv => whnf
    (refine VSeq.mk fun Kq hKq => ?_; conv => whnf)
    have hK7 : ∀ (b5 : Nat) (p5 : Option Addr) (c5 : Nat) (w : World), HpM [] w0 w [blk b5 [.int .i64 0, .int .i64 1, .string idC, .slice p5 2 c5] 24, row 54 2 (.slice p5 2 c5) 2 (flatC [(6, ra), (6, rc)]), blk b4 [.int .i64 0, .int .i64 1, .string idC, .slice p4 2 c4] 24, row 54 2 (.slice p4 2 c4) 2 (flatC [(6, ra), (6, rb)]), blk b1 [.int .i64 0, .int .i64 1, .string idC, .slice none 0 0] 24] → ∀ l, V.Sub [(1, .v (.pointer (some ⟨b1, 0, none⟩))), (2, .v (.string LG)), (3, .v (.func (.func 57) #[] #[])), (4, .v (.pointer (some ⟨b4, 0, none⟩))), (5, .v (.pointer (some ⟨b5, 0, none⟩)))] l → Kq l w := by
      clear hp
      repeat clear hp
      intro b5 p5 c5 w hp l hs
      refine hKq _ _ _ hs ?_
      clear hKq Kq hs
      conv => whnf
      (refine VSeq.mk fun Kq hKq => ?_; conv => whnf)
      (refine ⟨_, _, Blk.ldV (vs := [_, _, _, _]) (hp.get (i := 4) rfl) TTok rfl rfl rfl, ?_⟩; conv => whnf)
      (refine hp.kalloc z24 fun al24 w hp hx => ?_; conv => whnf)
      (refine hp.kstA TTok rfl 0 rfl rfl (oneC_of rfl) (by rfl) fun w hp => ?_; try simp only [List.set_cons_zero, List.set_cons_succ, EV.val] at hp; conv => whnf)
      (refine hKq _ _ _ (.refl _) ?_; clear hKq Kq; conv => whnf)
      (refine VSeq.mk fun Kq hKq => ?_; conv => whnf)
      (refine VSeq.mk fun Kq hKq => ?_; conv => whnf)
      (refine hKq _ _ _ (.refl _) ?_; clear hKq Kq; conv => whnf)
      obtain ⟨b6, rfl⟩ : ∃ q, q = al24 := ⟨al24, rfl⟩
      have hp := hp.knil 54 2
      refine ⟨fun mm e w' => ∃ (k : Nat) (p6 : Option Addr) (c6 : Nat), mm + k = 30 ∧ e = [(1, .v (.pointer (some ⟨b1, 0, none⟩))), (2, .v (.string LG)), (3, .v (.func (.func 57) #[] #[])), (4, .v (.pointer (some ⟨b4, 0, none⟩))), (5, .v (.pointer (some ⟨b5, 0, none⟩))), (6, .v (.pointer (some ⟨b6, 0, none⟩))), (56, .v (.int .i64 k))] ∧ HpM [] w0 w' [blk b6 [.int .i64 0, .int .i64 1, .string idC, .slice p6 k c6] 24, row 54 2 (.slice p6 k c6) k (flatC (manyL k)), blk b5 [.int .i64 0, .int .i64 1, .string idC, .slice p5 2 c5] 24, row 54 2 (.slice p5 2 c5) 2 (flatC [(6, ra), (6, rc)]), blk b4 [.int .i64 0, .int .i64 1, .string idC, .slice p4 2 c4] 24, row 54 2 (.slice p4 2 c4) 2 (flatC [(6, ra), (6, rb)]), blk b1 [.int .i64 0, .int .i64 1, .string idC, .slice none 0 0] 24],
        ⟨30, _, ⟨0, none, 0, by omega, rfl, hp.pick [1, 0, 2, 3, 4, 5, 6] (by decide)⟩, sub_cons rfl (sub_cons rfl (sub_cons rfl (sub_cons rfl (sub_cons rfl (sub_cons rfl (sub_cons rfl (sub_nil)))))))⟩, ?_⟩
      clear hp
      repeat clear hp
      rintro mm _ w ⟨k, p6, c6, hmm, rfl, hp⟩
      have hml := many_len k
      conv => whnf
      refine VSeq.mk fun Kq hKq => ?_
      conv => whnf
      refine hKq _ _ _ (.refl _) ?_
      clear hKq Kq
      conv => whnf
      refine VSeq.mk fun Kq hKq => ?_
      conv => whnf
      refine ⟨fun hlt => ?_, fun hlt => ?_⟩
      · have hlt := of_decide_eq_true hlt
        conv => whnf
        refine hKq _ _ _ (.refl _) ?_
        clear hKq Kq
        conv => whnf
        refine VSeq.mk fun Kq hKq => ?_
        conv => whnf
        (refine ⟨_, _, Blk.ldV (vs := [_, _, _, _]) (hp.get (i := 0) rfl) TTok rfl rfl rfl, ?_⟩; conv => whnf)
        (refine ⟨_, _, bld54_0 _ _, ?_⟩; conv => whnf)
        (refine hp.kmade _ _ (fun b => .slice (some ⟨b, 0, none⟩) 1 1) (mks22_1_0 _ _ _) fun q w hp hx => ?_; conv => whnf)
        refine Calls.mono (with8_c 0 1 idC (SA.of_row (al := manyL k) (by rw [hml]; exact hp.get (i := 2) rfl)) (SA.of_blk (al := [(65535, ⟨#[]⟩)]) (hp.get (i := 0) rfl) rfl (by unfold maxLen; decide)) (by omega) (by simp)) ?_
        rintro _ w ⟨_, rfl, dv, rfl, hr⟩
        refine ⟨_, rfl, ?_⟩
        rw [many_succ, many_len] at hr
        have hp := hp.join hr
        clear hr
        simp only [List.cons_append, List.nil_append] at hp
        obtain ⟨pd, cd, rfl⟩ := row_shape (hp.get (i := 0) rfl)
        conv => whnf
        (refine hp.kstA TTok rfl 2 rfl rfl (oneC_of rfl) (by rfl) fun w hp => ?_; try simp only [List.set_cons_zero, List.set_cons_succ, EV.val] at hp; conv => whnf)
        (refine hKq _ _ _ (.refl _) ?_; clear hKq Kq; conv => whnf)
        (refine Or.inl (And.intro (by first | omega | decide) ?_); conv => whnf)
        exact ⟨mm - 1, _, by omega, ⟨k + 1, pd, cd, by omega, rfl, hp.pick [2, 0, 4, 5, 6, 7, 8] (by decide)⟩, sub_cons rfl (sub_cons rfl (sub_cons rfl (sub_cons rfl (sub_cons rfl (sub_cons rfl (sub_cons rfl (sub_nil)))))))⟩
      · have hlt := of_decide_eq_false hlt
        conv => whnf
        clear hKq Kq
        refine hKq _ _ _ (.refl _) ?_
        clear hKq Kq
        conv => whnf
        refine VSeq.mk fun Kq hKq => ?_
        conv => whnf
        obtain rfl : k = 30 := by omega
        clear hlt hmm
        have kw : stunB 0 1 idC [(6, ra), (6, rc)] = false := over (by rw [sw]; decide)
        have ko := many_ok 30 (by decide)
        have kE := fun {w : World} (hx : SA w (.slice p4 2 c4) [(6, ra), (6, rb)]) => Encode_ok (W := w) 0 1 idC hx kf
        have zs := wrB_size 0 1 idC [(6, ra), (6, rb)] 0
        rw [sf] at zs
        have hz : idC.size = 12 := rfl
        rw [hz] at zs
        have dS := fun (W : World) (s : ByteArray) (hs : s = wrB 0 1 idC [(6, ra), (6, rb)] 0) => Decode_yes (W := W) s hs kf
        obtain ⟨S, hS⟩ : ∃ S, S = wrB 0 1 idC [(6, ra), (6, rb)] 0 := ⟨_, rfl⟩
        rw [← hS] at zs kE
        have dS := fun (W : World) => dS W S hS
        have d3 := dec_big (S ++ (⟨#[120]⟩ : ByteArray)) (by rw [ByteArray.size_append, zs]; decide)
        have eS := fun (w : World) => Decode_no (W := w) (S ++ (⟨#[120]⟩ : ByteArray)) (by rw [ByteArray.size_append, zs]; decide) (by rw [d3]; decide)
        rw [d3] at eS
        clear hS d3
        have oA : ∀ a ∈ [((6 : Int), ra), (6, rb)], AtOk a := fun a ha => AtOk.of ((stunB_t kf).2.2.2.2.2.2.1 a ha)
        (refine ⟨_, _, Blk.ldV (vs := [_, _, _, _]) (hp.get (i := 4) rfl) TTok rfl rfl rfl, ?_⟩; conv => whnf)
        refine V.CallsUse (kE (SA.of_row (hp.get (i := 5) rfl))) fun w hx => ?_
        try (have hp := hp.call hx)
        conv => whnf
        refine hKq _ _ _ (.refl _) ?_
        clear hKq Kq
        conv => whnf
        refine VSeq.mk fun Kq hKq => ?_
        conv => whnf
        clear kE
        skip
        have hK15 : ∀ w, HpM [] w0 w [blk b1 [.int .i64 0, .int .i64 1, .string idC, .slice none 0 0] 24] → ∀ l, V.Sub [(1, .v (.pointer (some ⟨b1, 0, none⟩))), (2, .v (.string LG)), (9, .v (.bool true))] l → Kq l w := by
          as_aux_lemma =>
          clear hp dS eS oA ko kw kf va vb vc v0 v4
          repeat clear hp
          intro w hp l hs
          refine hKq _ _ _ hs ?_
          clear hKq Kq hs
          conv => whnf
          (refine VSeq.mk fun Kq hKq => ?_; conv => whnf)
          (refine VSeq.mk fun Kq hKq => ?_; conv => whnf)
          refine v_mixA TTok FFok mixed [(0, false), (1, false), (2, false), (3, false), (4, false), (5, false), (6, false), (7, false), (8, false), (9, false), (10, false), (11, false), (12, false), (13, false), (14, false), (18, false), (15, true), (16, true), (17, false)] (by kernel_rfl) ?_
          conv => whnf
          (refine ⟨_, fun w' hx' => Blk.ld (Blk.ext (hp.get (i := 0) rfl) hx') TTok rfl rfl, ?_⟩; conv => whnf)
          (refine ⟨_, fun w' hx' => bld24_0_2 w' _ _, ?_⟩; conv => whnf)
          (refine ⟨_, fun w' hx' => Blk.ld (Blk.ext (hp.get (i := 0) rfl) hx') TTok rfl rfl, ?_⟩; conv => whnf)
          (refine ⟨_, fun w' hx' => bld24_0_2 w' _ _, ?_⟩; conv => whnf)
          (refine ⟨_, fun w' hx' => Blk.ld (Blk.ext (hp.get (i := 0) rfl) hx') TTok rfl rfl, ?_⟩; conv => whnf)
          (refine ⟨_, fun w' hx' => bld24_1_2 w' _ _, ?_⟩; conv => whnf)
          (refine ⟨_, fun w' hx' => Blk.ld (Blk.ext (hp.get (i := 0) rfl) hx') TTok rfl rfl, ?_⟩; conv => whnf)
          (refine And.intro (by first | omega | decide) ?_; conv => whnf)
          (refine ⟨_, fun w' hx' => bld24_2 w' _, ?_⟩; conv => whnf)
          (refine ⟨_, fun w' hx' => Blk.ldV (vs := [_, _, _, _]) (Blk.ext (hp.get (i := 0) rfl) hx') TTok rfl rfl rfl, ?_⟩; conv => whnf)
          (refine ⟨_, fun w' hx' => bld54_0 w' _, ?_⟩; conv => whnf)
          (intro w hx; try (have hp := hp.call hx); conv => whnf)
          obtain ⟨_, w, hr, tb, rfl, hp, hx⟩ : ∃ u w', (Instr.buildSlice 22 1 #[(0, .agg #[.int .i64 65536, .string ⟨#[]⟩])]).run Tryz.prog w = .ok u w' ∧ ∃ b, u = .slice (some ⟨b, 0, none⟩) 1 1 ∧ HpM [] w0 w' (blk b [.int .i64 65536, .string ⟨#[]⟩] 54 :: _) ∧ Ext w w' := hp.kmade _ _ (fun b => .slice (some ⟨b, 0, none⟩) 1 1) (mks22_1_0 _ (.int .i64 65536) (.string ⟨#[]⟩)) fun tb w hp hx => ⟨tb, rfl, hp, hx⟩
          refine ⟨_, _, hr, ?_⟩
          clear hr
          conv => whnf
          refine And.intro hx ?_
          conv => whnf
          (intro w hx; try (have hp := hp.call hx); conv => whnf)
          refine Calls.mono (with8_c 0 1 idC SA.nil8 (SA.of_blk (n := 1) (al := [(65536, ⟨#[]⟩)]) (hp.get (i := 0) rfl) rfl (by unfold maxLen; decide)) (by simp) (by simp)) ?_
          rintro _ w ⟨_, rfl, dv, rfl, hr⟩
          refine ⟨_, rfl, ?_⟩
          have hx := hr.ext
          have hp := hp.join hr
          clear hr
          simp only [List.cons_append, List.nil_append] at hp
          obtain ⟨pw, cw, rfl⟩ := row_shape (hp.get (i := 0) rfl)
          conv => whnf
          refine And.intro hx ?_
          conv => whnf
          (refine ⟨_, fun w' hx' => bld114_0_1_2_3_4 w' _ _ _ _ _ _ _ _ _ _ _ _ _ _ _ _ _ _ _ _, ?_⟩; conv => whnf)
          (intro w hx; try (have hp := hp.call hx); conv => whnf)
          (refine hKq _ _ _ (.refl _) ?_; clear hKq Kq; conv => whnf)
          refine ⟨fun mm e w' => ∃ (k : Nat), mm + k = 5 ∧ e = [(1, .v (.pointer (some ⟨b1, 0, none⟩))), (2, .v (.string LG)), (9, .v (.bool true)), (194, .v (.agg #[.int .i64 4, .int .i64 0, .string idC, .slice none 0 0, .int .i64 (-1), .int .i64 0, .string idC, .slice none 0 0, .int .i64 0, .int .i64 4096, .string idC, .slice none 0 0, .int .i64 0, .int .i64 0, .string (idC ++ (⟨#[120]⟩ : ByteArray)), .slice none 0 0, .int .i64 0, .int .i64 1, .string idC, .slice pw 1 cw])), (195, .v (.int .i64 k))] ∧ HpM [] w0 w' [row 54 2 (.slice pw 1 cw) 1 (flatC [(65536, ⟨#[]⟩)]), blk b1 [.int .i64 0, .int .i64 1, .string idC, .slice none 0 0] 24],
            ⟨5, _, ⟨0, by omega, rfl, hp.pick [0, 2] (by decide)⟩, sub_cons rfl (sub_cons rfl (sub_cons rfl (sub_cons rfl (sub_cons rfl (sub_nil)))))⟩, ?_⟩
          clear hp hx
          repeat clear hp
          rintro mm _ w ⟨k, hmm, rfl, hp⟩
          conv => whnf
          refine VSeq.mk fun Kq hKq => ?_
          conv => whnf
          refine hKq _ _ _ (.refl _) ?_
          clear hKq Kq
          conv => whnf
          refine VSeq.mk fun Kq hKq => ?_
          conv => whnf
          refine ⟨fun hlt => ?_, fun hlt => ?_⟩
          · have hlt := of_decide_eq_true hlt
            conv => whnf
            refine hKq _ _ _ (.refl _) ?_
            clear hKq Kq
            conv => whnf
            refine VSeq.mk fun Kq hKq => ?_
            conv => whnf
            refine VSeq.mk fun Kq hKq => ?_
            conv => whnf
            obtain ⟨c, m, id, p, cp, al, hbd, hsa, hix⟩ := ix114 pw cw k (by omega)
            have sa : ∀ {w : World}, HpM [] w0 w [row 54 2 (.slice pw 1 cw) 1 (flatC [(65536, ⟨#[]⟩)]), blk b1 [.int .i64 0, .int .i64 1, .string idC, .slice none 0 0] 24] → SA w (.slice p al.length cp) al := fun hp => hsa _ (SA.of_row (al := [(65536, ⟨#[]⟩)]) (hp.get (i := 0) rfl))
            refine ⟨_, _, hix _, ?_⟩
            conv => whnf
            (refine hp.kalloc z24 fun al24 w hp hx => ?_; conv => whnf)
            (refine hp.kstA TTok rfl 0 rfl rfl (oneC_of rfl) (by rfl) fun w hp => ?_; try simp only [List.set_cons_zero, List.set_cons_succ, EV.val] at hp; conv => whnf)
            (refine hKq _ _ _ (.refl _) ?_; clear hKq Kq; conv => whnf)
            have hfc : findC c m id al 6 = (.empty, 80) := by unfold findC; rw [if_neg (by rw [hbd]; decide)]
            have cF := fun {w : World} hx => Find_c (W := w) (v := .slice p al.length cp) (al := al) c m id 6 hx
            rw [hfc] at cF
            refine v_mixA TTok FFok mixed [(0, false), (1, false), (2, false), (3, false), (4, false), (5, false), (6, false), (8, false), (7, true), (9, false), (10, false), (11, false), (12, false), (13, false), (14, false), (16, false), (15, true), (17, false), (18, false), (19, false), (20, false), (21, false), (22, false)] (by kernel_rfl) ?_
            conv => whnf
            (refine And.intro (fun _ => ?_) (fun h => absurd h (by decide)); conv => whnf)
            (refine ⟨_, fun w' hx' => Blk.ldV (vs := [_, _, _, _]) (Blk.ext (hp.get (i := 0) rfl) hx') TTok rfl rfl rfl, ?_⟩; conv => whnf)
            refine ⟨_, fun w1 hx1 => Check_no c m id hbd ((sa (hp.pick [1, 2] (by decide))).ext hx1), ?_⟩
            conv => whnf
            (refine And.intro (fun _ => ?_) (fun h => absurd (by first | rfl | assumption | omega | decide) (of_decide_eq_false h)); conv => whnf)
            (refine ⟨_, fun w' hx' => Blk.ldV (vs := [_, _, _, _]) (Blk.ext (hp.get (i := 0) rfl) hx') TTok rfl rfl rfl, ?_⟩; conv => whnf)
            (intro w hx; try (have hp := hp.call hx); conv => whnf)
            refine Calls.mono (fails_c hp _) ?_
            rintro _ w ⟨v, rfl, bb, rfl, hp, hx⟩
            refine ⟨_, rfl, ?_⟩
            conv => whnf
            refine And.intro hx ?_
            conv => whnf
            skip
            refine ⟨_, fun w1 hx1 => Encode_bad c m id ((sa (hp.pick [2, 3] (by decide))).ext hx1) hbd, ?_⟩
            conv => whnf
            refine ⟨_, fun w1 hx1 => fails_in (Blk.ext (hp.get (i := 0) rfl) hx1), ?_⟩
            conv => whnf
            (refine And.intro (fun _ => ?_) (fun h => absurd h (by decide)); conv => whnf)
            (refine ⟨_, fun w' hx' => Blk.ldV (vs := [_, _, _, _]) (Blk.ext (hp.get (i := 1) rfl) hx') TTok rfl rfl rfl, ?_⟩; conv => whnf)
            (intro w hx; try (have hp := hp.call hx); conv => whnf)
            refine Calls.mono (fails_c hp _) ?_
            rintro _ w ⟨v, rfl, bb, rfl, hp, hx⟩
            refine ⟨_, rfl, ?_⟩
            conv => whnf
            refine And.intro hx ?_
            conv => whnf
            skip
            refine ⟨_, fun w1 hx1 => cF ((sa (hp.pick [3, 4] (by decide))).ext hx1), ?_⟩
            conv => whnf
            refine ⟨_, fun w1 hx1 => fails_in (Blk.ext (hp.get (i := 0) rfl) hx1), ?_⟩
            conv => whnf
            (intro w hx; try (have hp := hp.call hx); conv => whnf)
            (refine hKq _ _ _ (.refl _) ?_; clear hKq Kq; conv => whnf)
            (refine Or.inl (And.intro (by first | omega | decide) ?_); conv => whnf)
            exact ⟨mm - 1, _, by omega, ⟨k + 1, by omega, rfl, hp.pick [3, 4] (by decide)⟩, sub_cons rfl (sub_cons rfl (sub_cons rfl (sub_cons rfl (sub_cons rfl (sub_nil)))))⟩
          · have hlt := of_decide_eq_false hlt
            conv => whnf
            clear hKq Kq
            refine hKq _ _ _ (.refl _) ?_
            clear hKq Kq
            conv => whnf
            refine VSeq.mk fun Kq hKq => ?_
            conv => whnf
            have hp := hp.pick [1] (by decide)
            have hp : HpM [] w0 w [blk b1 [.int .i64 0, .int .i64 1, .string idC, .slice none 0 0] 24] := hp
            clear hlt hmm
            have kT := fun (w : World) => Encode_ok (W := w) 3 4095 idC SA.nil8 t_ok
            have dT := fun (W : World) (s : ByteArray) (hs : s = wrB 3 4095 idC [] 0) => Decode_yes (W := W) s hs t_ok
            have zT := t_size
            have iT := t_id
            have xT := t_pre
            have f1 := t_d1
            have f2 := t_d2
            have f3 := p_d1
            have f4 := p_d2
            have f5 := p_d3
            have f6 := p_d4
            unfold pB at f3 f4
            unfold tB at *
            obtain ⟨T, hT⟩ : ∃ T, T = wrB 3 4095 idC [] 0 := ⟨_, rfl⟩
            rw [← hT] at kT zT iT xT f1 f2 f3 f4 f5 f6
            have dT := fun (W : World) => dT W T hT
            clear hT
            have z2 := size_extract T 2 T.size (by omega)
            have z04 := size_extract T 0 4 (by omega)
            have z5 := size_extract T 5 T.size (by omega)
            have z420 := size_extract T 4 20 (by omega)
            have f1 : decC (⟨#[64, 0]⟩ ++ T.extract 2 T.size) = 5 := by rw [zT]; exact f1
            have f2 : decC (T.extract 0 4 ++ ⟨#[32]⟩ ++ T.extract 5 T.size) = 5 := by rw [zT]; exact f2
            have eA := fun (w : World) => Decode_no (W := w) (⟨#[64, 0]⟩ ++ T.extract 2 T.size) (by rw [ByteArray.size_append, z2, zT]; decide) (by rw [f1]; decide)
            have eB := fun (w : World) => Decode_no (W := w) (T.extract 0 4 ++ ⟨#[32]⟩ ++ T.extract 5 T.size) (by rw [ByteArray.size_append, ByteArray.size_append, z04, z5, zT]; decide) (by rw [f2]; decide)
            rw [f1] at eA
            rw [f2] at eB
            obtain ⟨U, hU⟩ : ∃ U, T.extract 4 20 = U := ⟨_, rfl⟩
            rw [hU] at z420 f3 f4 f5 f6
            have eC := fun (w : World) => Decode_no (W := w) (⟨#[0, 1, 0, 8]⟩ ++ U ++ ⟨#[0, 6, 0, 1, 118, 0, 0]⟩ ++ ⟨#[1]⟩) (by rw [ByteArray.size_append, ByteArray.size_append, ByteArray.size_append, z420]; decide) (by rw [f3]; decide)
            have eD := fun (w : World) => Decode_yes (W := w) (⟨#[0, 1, 0, 8]⟩ ++ U ++ ⟨#[0, 6, 0, 1, 118, 0, 0]⟩ ++ ⟨#[0]⟩) f4 p_ok
            have eE := fun (w : World) => Decode_no (W := w) (⟨#[0, 1, 0, 4]⟩ ++ U ++ ⟨#[0, 6, 0, 1]⟩) (by rw [ByteArray.size_append, ByteArray.size_append, z420]; decide) (by rw [f5]; decide)
            have eF := fun (w : World) => Decode_no (W := w) (⟨#[0, 1, 0, 2]⟩ ++ U ++ ⟨#[0, 6]⟩) (by rw [ByteArray.size_append, ByteArray.size_append, z420]; decide) (by rw [f6]; decide)
            rw [f3] at eC
            rw [f5] at eE
            rw [f6] at eF
            have li0 : (⟨#[64, 0]⟩ : ByteArray).size = 2 := rfl
            have li1 : (⟨#[32]⟩ : ByteArray).size = 1 := rfl
            have li2 : (⟨#[0, 1, 0, 8]⟩ : ByteArray).size = 4 := rfl
            have li3 : (⟨#[0, 6, 0, 1, 118, 0, 0]⟩ : ByteArray).size = 7 := rfl
            have li4 : (⟨#[1]⟩ : ByteArray).size = 1 := rfl
            have li5 : (⟨#[0]⟩ : ByteArray).size = 1 := rfl
            have li6 : (⟨#[0, 1, 0, 4]⟩ : ByteArray).size = 4 := rfl
            have li7 : (⟨#[0, 6, 0, 1]⟩ : ByteArray).size = 4 := rfl
            have li8 : (⟨#[0, 1, 0, 2]⟩ : ByteArray).size = 4 := rfl
            have li9 : (⟨#[0, 6]⟩ : ByteArray).size = 2 := rfl
            have li10 : (⟨#[0, 0, 4, 0]⟩ : ByteArray).size = 4 := rfl
            have zi0 : (T.extract 0 4 ++ ⟨#[32]⟩).size = 5 := by rw [ByteArray.size_append, z04]; rfl
            have zi1 : ((⟨#[0, 1, 0, 8]⟩ : ByteArray) ++ U).size = 20 := by rw [ByteArray.size_append, z420]; rfl
            have zi2 : ((⟨#[0, 1, 0, 8]⟩ : ByteArray) ++ U ++ ⟨#[0, 6, 0, 1, 118, 0, 0]⟩).size = 27 := by rw [ByteArray.size_append, zi1]; rfl
            have zi3 : ((⟨#[0, 1, 0, 4]⟩ : ByteArray) ++ U).size = 20 := by rw [ByteArray.size_append, z420]; rfl
            have zi4 : ((⟨#[0, 1, 0, 2]⟩ : ByteArray) ++ U).size = 20 := by rw [ByteArray.size_append, z420]; rfl
            have zi5 := size_extract LG 0 129 (by omega)
            have m2 := m2_p T zT
            rw [iT] at m2
            (refine ⟨_, _, Blk.ldV (vs := [_, _, _, _]) (hp.get (i := 0) rfl) TTok rfl rfl rfl, ?_⟩; conv => whnf)
            (refine hp.kalloc z24 fun al24 w hp hx => ?_; conv => whnf)
            (refine hp.kstA TTok rfl 0 rfl rfl (oneC_of rfl) (by rfl) fun w hp => ?_; try simp only [List.set_cons_zero, List.set_cons_succ, EV.val] at hp; conv => whnf)
            (refine hKq _ _ _ (.refl _) ?_; clear hKq Kq; conv => whnf)
            (refine VSeq.mk fun Kq hKq => ?_; conv => whnf)
            (refine hp.kst1 TTok (by rfl) 0 (by rfl) (by rfl) (by rfl) (Nat.le_of_ble_eq_true rfl) fun w hp => ?_; try simp only [List.set_cons_zero, List.set_cons_succ, EV.val] at hp; conv => whnf)
            (refine hp.kst1 TTok (by rfl) 0 (by rfl) (by rfl) (by rfl) (Nat.le_of_ble_eq_true rfl) fun w hp => ?_; try simp only [List.set_cons_zero, List.set_cons_succ, EV.val] at hp; conv => whnf)
            (refine hKq _ _ _ (.refl _) ?_; clear hKq Kq; conv => whnf)
            (refine VSeq.mk fun Kq hKq => ?_; conv => whnf)
            (refine ⟨_, _, Blk.ldV (vs := [_, _, _, _]) (hp.get (i := 0) rfl) TTok rfl rfl rfl, ?_⟩; conv => whnf)
            obtain ⟨b12, rfl⟩ : ∃ q, q = al24 := ⟨al24, rfl⟩
            have hp : HpM [] w0 w [blk b12 [.int .i64 3, .int .i64 4095, .string idC, .slice none 0 0] 24, blk b1 [.int .i64 0, .int .i64 1, .string idC, .slice none 0 0] 24] := hp
            refine V.CallsUse (kT _) fun w hx => ?_
            try (have hp := hp.call hx)
            conv => whnf
            refine hKq _ _ _ (.refl _) ?_
            clear hKq Kq
            conv => whnf
            refine VSeq.mk fun Kq hKq => ?_
            conv => whnf
            clear kT
            skip
            as_aux_lemma =>
            refine v_mixA TTok FFok mixed [(0, false), (1, false), (2, false), (3, false), (4, false), (5, false), (6, false), (7, false), (8, false), (9, false), (10, false), (12, false), (11, true), (13, true), (14, false), (15, false), (16, false), (17, false), (18, false), (20, false), (21, false), (22, false), (19, true), (23, false), (24, false), (25, false), (26, false), (27, false), (28, false), (30, false), (31, false), (32, false), (33, false), (34, false), (35, false), (29, true), (36, false), (37, false), (38, false), (39, false), (40, false), (41, false)] (by kernel_rfl) ?_
            conv => whnf
            (refine And.intro (fun _ => ?_) (fun h => absurd h (by decide)); conv => whnf)
            (refine And.intro (fun _ => ?_) (fun h => absurd (by first | rfl | assumption | omega | decide) (of_decide_eq_false h)); conv => whnf)
            first | refine PureF.quiet (HasPrefix_p T ⟨#[63, 255]⟩ xT) ?_ | refine PureF.quietE (HasPrefix_p T ⟨#[63, 255]⟩ xT) ?_
            conv => whnf
            (refine And.intro (fun _ => ?_) (fun h => absurd h (by decide)); conv => whnf)
            (refine ⟨_, fun w' hx' => Blk.ldV (vs := [_, _, _, _]) (Blk.ext (hp.get (i := 0) rfl) hx') TTok rfl rfl rfl, ?_⟩; conv => whnf)
            (intro w hx; try (have hp := hp.call hx); conv => whnf)
            refine Calls.mono (gives_c hp _ _ _ _) ?_
            rintro _ w ⟨v, rfl, bb, rfl, hp, hx⟩
            refine ⟨_, rfl, ?_⟩
            conv => whnf
            refine And.intro hx ?_
            conv => whnf
            (intro w hx; try (have hp := hp.call hx); conv => whnf)
            refine Calls.mono (dT w) ?_
            clear dT
            rintro _ w ⟨v', rfl, hr⟩
            refine ⟨_, rfl, ?_⟩
            have hx := hr.ext
            have hp := hp.join hr
            clear hr
            simp only [List.cons_append, List.nil_append] at hp
            obtain ⟨pd, cd, rfl⟩ := row_shape (hp.get (i := 0) rfl)
            conv => whnf
            refine And.intro hx ?_
            conv => whnf
            skip
            refine ⟨_, fun w1 hx1 => gives_in 3 4095 idC ((SA.of_row (al := []) (hp.get (i := 0) rfl)).ext hx1) SA.nil8 (fun a ha => by cases ha) (Blk.ext (hp.get (i := 1) rfl) hx1), ?_⟩
            conv => whnf
            (refine And.intro (fun _ => ?_) (fun h => absurd h (by decide)); conv => whnf)
            refine ⟨2, ⟨by first | rfl | omega, by omega⟩, ?_⟩
            conv => whnf
            refine And.intro (by omega) ?_
            conv => whnf
            (intro w hx; try (have hp := hp.call hx); conv => whnf)
            try conv => whnf
            skip
            refine Calls.mono (refuses_c hp _) ?_
            rintro _ w ⟨v, rfl, bb, rfl, hp, hx⟩
            refine ⟨_, rfl, ?_⟩
            conv => whnf
            refine And.intro hx ?_
            conv => whnf
            skip
            refine ⟨_, fun w1 _ => eA w1, ?_⟩
            conv => whnf
            refine ⟨_, fun w1 hx1 => refuses_in (Blk.ext (hp.get (i := 0) rfl) hx1), ?_⟩
            conv => whnf
            (refine And.intro (fun _ => ?_) (fun h => absurd h (by decide)); conv => whnf)
            refine ⟨4, ⟨by first | rfl | omega, by omega⟩, ?_⟩
            conv => whnf
            refine And.intro (by omega) ?_
            conv => whnf
            skip
            refine ⟨5, ⟨by first | rfl | omega, by omega⟩, ?_⟩
            conv => whnf
            refine And.intro (by omega) ?_
            conv => whnf
            (intro w hx; try (have hp := hp.call hx); conv => whnf)
            try conv => whnf
            skip
            refine Calls.mono (refuses_c hp _) ?_
            rintro _ w ⟨v, rfl, bb, rfl, hp, hx⟩
            refine ⟨_, rfl, ?_⟩
            conv => whnf
            refine And.intro hx ?_
            conv => whnf
            skip
            refine ⟨_, fun w1 _ => eB w1, ?_⟩
            conv => whnf
            refine ⟨_, fun w1 hx1 => refuses_in (Blk.ext (hp.get (i := 0) rfl) hx1), ?_⟩
            conv => whnf
            (intro w hx; try (have hp := hp.call hx); conv => whnf)
            (refine hKq _ _ _ (.refl _) ?_; clear hKq Kq; conv => whnf)
            (refine VSeq.mk fun Kq hKq => ?_; conv => whnf)
            clear eA eB f1 f2
            refine ⟨4, 20, ⟨by first | rfl | omega, by first | rfl | omega, by omega, by omega⟩, ?_⟩
            conv => whnf
            rw [hU]
            (refine And.intro (by first | omega | decide) ?_; conv => whnf)
            (refine And.intro (by first | omega | decide) ?_; conv => whnf)
            (refine hKq _ _ _ (.refl _) ?_; clear hKq Kq; conv => whnf)
            (refine VSeq.mk fun Kq hKq => ?_; conv => whnf)
            as_aux_lemma =>
            refine v_mixA TTok FFok mixed [(0, false), (1, false), (3, false), (4, false), (2, true), (5, false), (6, false), (7, false), (8, false), (9, false), (10, false), (11, false), (12, false), (13, false), (17, false), (18, false), (14, true), (15, true), (16, true), (19, true), (20, false), (21, false), (22, false), (23, false), (24, false), (26, false), (27, false), (28, false), (29, false), (25, true), (30, false), (31, false), (32, false), (33, false), (34, false), (35, false), (37, false), (38, false), (39, false), (40, false), (36, true), (41, false), (42, false), (43, false), (44, false), (45, false), (46, false)] (by kernel_rfl) ?_
            conv => whnf
            (refine And.intro (fun _ => ?_) (fun h => absurd h (by decide)); conv => whnf)
            (refine And.intro (by first | omega | decide) ?_; conv => whnf)
            (intro w hx; try (have hp := hp.call hx); conv => whnf)
            try conv => whnf
            skip
            refine Calls.mono (refuses_c hp _) ?_
            rintro _ w ⟨v, rfl, bb, rfl, hp, hx⟩
            refine ⟨_, rfl, ?_⟩
            conv => whnf
            refine And.intro hx ?_
            conv => whnf
            skip
            refine ⟨_, fun w1 _ => eC w1, ?_⟩
            conv => whnf
            refine ⟨_, fun w1 hx1 => refuses_in (Blk.ext (hp.get (i := 0) rfl) hx1), ?_⟩
            conv => whnf
            (refine And.intro (fun _ => ?_) (fun h => absurd h (by decide)); conv => whnf)
            first | refine PureF.quiet (m2) ?_ | refine PureF.quietE (m2) ?_
            conv => whnf
            (refine ⟨_, fun w' hx' => bld54_0_1 w' _ _, ?_⟩; conv => whnf)
            (refine And.intro (by first | omega | decide) ?_; conv => whnf)
            (intro w hx; try (have hp := hp.call hx); conv => whnf)
            obtain ⟨_, w, hr, tb, rfl, hp, hx⟩ : ∃ u w', (Instr.buildSlice 22 1 #[(0, .agg #[.int .i64 6, .string ⟨#[118]⟩])]).run Tryz.prog w = .ok u w' ∧ ∃ b, u = .slice (some ⟨b, 0, none⟩) 1 1 ∧ HpM [] w0 w' (blk b [.int .i64 6, .string ⟨#[118]⟩] 54 :: _) ∧ Ext w w' := hp.kmade _ _ (fun b => .slice (some ⟨b, 0, none⟩) 1 1) (mks22_1_0 _ (.int .i64 6) (.string ⟨#[118]⟩)) fun tb w hp hx => ⟨tb, rfl, hp, hx⟩
            refine ⟨_, _, hr, ?_⟩
            clear hr
            conv => whnf
            refine And.intro hx ?_
            conv => whnf
            (intro w hx; try (have hp := hp.call hx); conv => whnf)
            refine Calls.mono (with8_c 0 1 idC SA.nil8 (SA.of_blk (n := 1) (al := [(6, ⟨#[118]⟩)]) (hp.get (i := 0) rfl) rfl (by unfold maxLen; decide)) (by simp) (by simp)) ?_
            rintro _ w ⟨_, rfl, dv, rfl, hr⟩
            refine ⟨_, rfl, ?_⟩
            have hx := hr.ext
            have hp := hp.join hr
            clear hr
            simp only [List.cons_append, List.nil_append] at hp
            obtain ⟨pw, cw, rfl⟩ := row_shape (hp.get (i := 0) rfl)
            conv => whnf
            refine And.intro hx ?_
            conv => whnf
            (intro w hx; try (have hp := hp.call hx); conv => whnf)
            refine Calls.mono (gives_c hp _ _ _ _) ?_
            rintro _ w ⟨v, rfl, bb, rfl, hp, hx⟩
            refine ⟨_, rfl, ?_⟩
            conv => whnf
            refine And.intro hx ?_
            conv => whnf
            (intro w hx; try (have hp := hp.call hx); conv => whnf)
            refine Calls.mono (eD w) ?_
            clear eD
            rintro _ w ⟨v', rfl, hr⟩
            refine ⟨_, rfl, ?_⟩
            have hx := hr.ext
            have hp := hp.join hr
            clear hr
            simp only [List.cons_append, List.nil_append] at hp
            obtain ⟨px, cx, rfl⟩ := row_shape (hp.get (i := 0) rfl)
            conv => whnf
            refine And.intro hx ?_
            conv => whnf
            skip
            refine ⟨_, fun w1 hx1 => gives_in 0 1 idC ((SA.of_row (al := [(6, ⟨#[118]⟩)]) (hp.get (i := 0) rfl)).ext hx1) ((SA.of_row (al := [(6, ⟨#[118]⟩)]) (hp.get (i := 2) rfl)).ext hx1) (fun a ha => AtOk.of ((stunB_t p_ok).2.2.2.2.2.2.1 a ha)) (Blk.ext (hp.get (i := 1) rfl) hx1), ?_⟩
            conv => whnf
            (refine And.intro (fun _ => ?_) (fun h => absurd h (by decide)); conv => whnf)
            refine ⟨4, 20, ⟨by first | rfl | omega, by first | rfl | omega, by omega, by omega⟩, ?_⟩
            conv => whnf
            rw [hU]
            (refine And.intro (by first | omega | decide) ?_; conv => whnf)
            (refine And.intro (by first | omega | decide) ?_; conv => whnf)
            (intro w hx; try (have hp := hp.call hx); conv => whnf)
            try conv => whnf
            skip
            refine Calls.mono (refuses_c hp _) ?_
            rintro _ w ⟨v, rfl, bb, rfl, hp, hx⟩
            refine ⟨_, rfl, ?_⟩
            conv => whnf
            refine And.intro hx ?_
            conv => whnf
            skip
            refine ⟨_, fun w1 _ => eE w1, ?_⟩
            conv => whnf
            refine ⟨_, fun w1 hx1 => refuses_in (Blk.ext (hp.get (i := 0) rfl) hx1), ?_⟩
            conv => whnf
            (refine And.intro (fun _ => ?_) (fun h => absurd h (by decide)); conv => whnf)
            refine ⟨4, 20, ⟨by first | rfl | omega, by first | rfl | omega, by omega, by omega⟩, ?_⟩
            conv => whnf
            rw [hU]
            (refine And.intro (by first | omega | decide) ?_; conv => whnf)
            (refine And.intro (by first | omega | decide) ?_; conv => whnf)
            (intro w hx; try (have hp := hp.call hx); conv => whnf)
            try conv => whnf
            skip
            refine Calls.mono (refuses_c hp _) ?_
            rintro _ w ⟨v, rfl, bb, rfl, hp, hx⟩
            refine ⟨_, rfl, ?_⟩
            conv => whnf
            refine And.intro hx ?_
            conv => whnf
            skip
            refine ⟨_, fun w1 _ => eF w1, ?_⟩
            conv => whnf
            refine ⟨_, fun w1 hx1 => refuses_in (Blk.ext (hp.get (i := 0) rfl) hx1), ?_⟩
            conv => whnf
            (intro w hx; try (have hp := hp.call hx); conv => whnf)
            (refine hKq _ _ _ (.refl _) ?_; clear hKq Kq; conv => whnf)
            (refine VSeq.mk fun Kq hKq => ?_; conv => whnf)
            clear eC eE eF f3 f4 f5 f6
            have hp := hp.pick [12] (by decide)
            have hp : HpM [] w0 w [blk b1 [.int .i64 0, .int .i64 1, .string idC, .slice none 0 0] 24] := hp
            as_aux_lemma =>
            refine PureF.use (rr1) fun w hx => ?_
            try (have hp := hp.call hx)
            conv => whnf
            refine hKq _ _ _ (.refl _) ?_
            clear hKq Kq
            conv => whnf
            refine VSeq.mk fun Kq hKq => ?_
            conv => whnf
            skip
            refine PureF.use (rr2) fun w hx => ?_
            try (have hp := hp.call hx)
            conv => whnf
            refine hKq _ _ _ (.refl _) ?_
            clear hKq Kq
            conv => whnf
            refine VSeq.mk fun Kq hKq => ?_
            conv => whnf
            skip
            refine PureF.use (rr3) fun w hx => ?_
            try (have hp := hp.call hx)
            conv => whnf
            refine hKq _ _ _ (.refl _) ?_
            clear hKq Kq
            conv => whnf
            refine VSeq.mk fun Kq hKq => ?_
            conv => whnf
            skip
            refine ⟨129, ⟨by first | rfl | omega, by omega⟩, ?_⟩
            conv => whnf
            refine And.intro (by omega) ?_
            conv => whnf
            skip
            refine PureF.use (q4) fun w hx => ?_
            try (have hp := hp.call hx)
            conv => whnf
            refine hKq _ _ _ (.refl _) ?_
            clear hKq Kq
            conv => whnf
            refine VSeq.mk fun Kq hKq => ?_
            conv => whnf
            skip
            refine PureF.use (rr5) fun w hx => ?_
            try (have hp := hp.call hx)
            conv => whnf
            refine hKq _ _ _ (.refl _) ?_
            clear hKq Kq
            conv => whnf
            refine VSeq.mk fun Kq hKq => ?_
            conv => whnf
            (refine ⟨_, _, Blk.ld (hp.get (i := 0) rfl) TTok rfl rfl, ?_⟩; conv => whnf)
            refine PureF.use (rm1) fun w hx => ?_
            try (have hp := hp.call hx)
            conv => whnf
            (refine hp.kalloc z63 fun al63 w hp hx => ?_; conv => whnf)
            (refine hp.kstA TTok rfl 0 rfl rfl (oneC_of rfl) (by rfl) fun w hp => ?_; try simp only [List.set_cons_zero, List.set_cons_succ, EV.val] at hp; conv => whnf)
            (refine hKq _ _ _ (.refl _) ?_; clear hKq Kq; conv => whnf)
            (refine VSeq.mk fun Kq hKq => ?_; conv => whnf)
            (refine ⟨_, _, Blk.ld (hp.get (i := 1) rfl) TTok rfl rfl, ?_⟩; conv => whnf)
            obtain ⟨b31, rfl⟩ : ∃ q, q = al63 := ⟨al63, rfl⟩
            refine PureF.use (rm2) fun w hx => ?_
            try (have hp := hp.call hx)
            conv => whnf
            (refine hp.kalloc z63 fun al63 w hp hx => ?_; conv => whnf)
            (refine hp.kstA TTok rfl 0 rfl rfl (oneC_of rfl) (by rfl) fun w hp => ?_; try simp only [List.set_cons_zero, List.set_cons_succ, EV.val] at hp; conv => whnf)
            (refine hKq _ _ _ (.refl _) ?_; clear hKq Kq; conv => whnf)
            (refine VSeq.mk fun Kq hKq => ?_; conv => whnf)
            obtain ⟨b33, rfl⟩ : ∃ q, q = al63 := ⟨al63, rfl⟩
            refine PureF.use (rm3) fun w hx => ?_
            try (have hp := hp.call hx)
            conv => whnf
            (refine hp.kalloc z63 fun al63 w hp hx => ?_; conv => whnf)
            (refine hp.kstA TTok rfl 0 rfl rfl (oneC_of rfl) (by rfl) fun w hp => ?_; try simp only [List.set_cons_zero, List.set_cons_succ, EV.val] at hp; conv => whnf)
            (refine hKq _ _ _ (.refl _) ?_; clear hKq Kq; conv => whnf)
            (refine VSeq.mk fun Kq hKq => ?_; conv => whnf)
            as_aux_lemma =>
            refine v_mixA TTok FFok mixed [(0, false), (1, false), (2, false), (3, false), (4, false), (5, false), (6, false), (7, false), (8, false), (9, false), (10, false), (11, false), (12, false), (13, false), (14, false), (15, false), (16, false), (17, false), (18, false), (19, false), (20, false), (21, false), (22, false), (23, false), (24, false), (25, false), (26, false), (27, false), (28, false), (29, false), (30, false), (31, false), (32, false), (33, false), (34, false), (35, false), (36, false), (37, false), (38, false), (39, false), (40, false), (41, false), (42, false), (43, false), (44, false), (45, false), (46, false), (47, false), (48, false), (49, false), (50, false), (51, false), (52, false), (53, false), (54, false), (55, false), (56, false), (57, false), (58, false), (59, false), (60, false), (61, false), (63, false), (64, false), (62, true), (65, false), (66, false), (67, false), (68, false), (69, false), (70, false), (72, false), (71, true), (73, false), (74, false), (75, false), (76, false), (77, false), (78, false)] (by kernel_rfl) ?_
            conv => whnf
            skip
            first | refine PureF.quiet (works_p) ?_ | refine PureF.quietE (works_p) ?_
            conv => whnf
            (refine And.intro (fun _ => ?_) (fun h => absurd h (by decide)); conv => whnf)
            (refine And.intro (fun _ => ?_) (fun h => absurd h (by decide)); conv => whnf)
            (refine And.intro (fun _ => ?_) (fun h => absurd (by first | rfl | assumption | omega | decide) (of_decide_eq_false h)); conv => whnf)
            (refine And.intro (fun _ => ?_) (fun h => absurd (by first | rfl | assumption | omega | decide) (of_decide_eq_false h)); conv => whnf)
            (refine And.intro (fun _ => ?_) (fun h => absurd (by first | rfl | assumption | omega | decide) (of_decide_eq_false h)); conv => whnf)
            (refine And.intro (fun _ => ?_) (fun h => absurd (by first | rfl | assumption | omega | decide) (of_decide_eq_false h)); conv => whnf)
            (refine And.intro (fun _ => ?_) (fun h => absurd (by first | rfl | assumption | omega | decide) (of_decide_eq_false h)); conv => whnf)
            (refine And.intro (fun _ => ?_) (fun h => absurd (by first | rfl | assumption | omega | decide) (of_decide_eq_false h)); conv => whnf)
            (refine And.intro (fun _ => ?_) (fun h => absurd (by first | rfl | assumption | omega | decide) (of_decide_eq_false h)); conv => whnf)
            (refine ⟨_, fun w' hx' => Blk.ldV (vs := [_, _]) (Blk.ext (hp.get (i := 2) rfl) hx') TTok rfl rfl rfl, ?_⟩; conv => whnf)
            (refine ⟨_, fun w' hx' => bld63_ w', ?_⟩; conv => whnf)
            refine ⟨_, fun w1 _ => eq63z _ _ w1, ?_⟩
            conv => whnf
            (refine And.intro (fun _ => ?_) (fun h => absurd h (by decide)); conv => whnf)
            (refine And.intro (fun _ => ?_) (fun h => absurd (by first | rfl | assumption | omega | decide) (of_decide_eq_false h)); conv => whnf)
            (refine ⟨_, fun w' hx' => Blk.ldV (vs := [_, _]) (Blk.ext (hp.get (i := 1) rfl) hx') TTok rfl rfl rfl, ?_⟩; conv => whnf)
            (refine ⟨_, fun w' hx' => bld63_ w', ?_⟩; conv => whnf)
            refine ⟨_, fun w1 _ => eq63z _ _ w1, ?_⟩
            conv => whnf
            (refine And.intro (fun _ => ?_) (fun h => absurd h (by decide)); conv => whnf)
            (refine And.intro (fun _ => ?_) (fun h => absurd (by first | rfl | assumption | omega | decide) (of_decide_eq_false h)); conv => whnf)
            (refine ⟨_, fun w' hx' => Blk.ldV (vs := [_, _]) (Blk.ext (hp.get (i := 0) rfl) hx') TTok rfl rfl rfl, ?_⟩; conv => whnf)
            (refine ⟨_, fun w' hx' => bld63_ w', ?_⟩; conv => whnf)
            refine ⟨_, fun w1 _ => eq63z _ _ w1, ?_⟩
            conv => whnf
            (refine And.intro (fun _ => ?_) (fun h => absurd h (by decide)); conv => whnf)
            (refine And.intro (fun _ => ?_) (fun h => absurd (by first | rfl | assumption | omega | decide) (of_decide_eq_false h)); conv => whnf)
            refine ⟨129, ⟨by first | rfl | omega, by omega⟩, ?_⟩
            conv => whnf
            (intro w hx; try (have hp := hp.call hx); conv => whnf)
            refine Calls.mono (fails_c hp _) ?_
            rintro _ w ⟨v, rfl, bb, rfl, hp, hx⟩
            refine ⟨_, rfl, ?_⟩
            conv => whnf
            refine And.intro hx ?_
            conv => whnf
            skip
            first | refine PureF.quiet (Reason_long 300 (LG.extract 0 129) (by decide) (by omega)) ?_ | refine PureF.quietE (Reason_long 300 (LG.extract 0 129) (by decide) (by omega)) ?_
            conv => whnf
            refine ⟨_, fun w1 hx1 => fails_in (Blk.ext (hp.get (i := 0) rfl) hx1), ?_⟩
            conv => whnf
            (refine And.intro (fun _ => ?_) (fun h => absurd h (by decide)); conv => whnf)
            (intro w hx; try (have hp := hp.call hx); conv => whnf)
            refine Calls.mono (fails_c hp _) ?_
            rintro _ w ⟨v, rfl, bb, rfl, hp, hx⟩
            refine ⟨_, rfl, ?_⟩
            conv => whnf
            refine And.intro hx ?_
            conv => whnf
            skip
            first | refine PureF.quiet (Reason_arg 700 LG (by decide)) ?_ | refine PureF.quietE (Reason_arg 700 LG (by decide)) ?_
            conv => whnf
            refine ⟨_, fun w1 hx1 => fails_in (Blk.ext (hp.get (i := 0) rfl) hx1), ?_⟩
            conv => whnf
            (intro w hx; try (have hp := hp.call hx); conv => whnf)
            (refine hKq _ _ _ (.refl _) ?_; clear hKq Kq; conv => whnf)
            exact ⟨rfl, hp.ext⟩
        clear hKq
        as_aux_lemma =>
        refine v_mixA TTok FFok mixed [(0, false), (1, false), (2, false), (3, false), (4, false), (5, false), (6, false), (7, false), (8, false), (10, false), (9, true), (11, true), (12, false), (13, false), (14, false), (15, false), (16, false), (17, false), (18, false), (19, false), (20, false), (21, false), (22, false), (23, false), (24, false), (25, false), (26, false), (27, false), (28, false), (29, false), (30, true), (31, true), (32, false), (33, false), (34, false), (35, false), (36, false), (37, false), (38, false), (39, true), (40, true), (41, false), (42, false), (43, false), (44, false), (46, false), (47, false), (45, true), (48, false), (49, false), (50, false), (51, false), (52, false), (53, false), (55, false), (54, true), (56, false), (57, false), (58, false), (59, false), (60, false), (61, false), (63, false), (62, true), (64, false), (65, false), (66, false), (67, false), (68, false), (69, false), (71, false), (72, false), (70, true), (73, false), (74, false), (75, false), (76, false), (77, false), (78, false), (79, false), (80, false), (81, false), (82, false), (83, false), (84, false), (85, false), (86, false), (87, false), (88, false), (89, false), (90, false), (92, false), (93, false), (91, true), (94, false), (95, false), (96, false), (97, false), (98, false), (99, false), (100, false), (101, false), (102, false), (103, false), (104, false), (105, false), (106, false), (107, false), (108, false), (109, false)] (mixA_of (by as_aux_lemma => kernel_rfl) (mixB_app (d1 := #[true, true, true, true, true, true, true, true, true, true, true, true, true, true, true, true, true, true, true, true, true, true, false, false, false, false, false, false, false, false, false, false, false, false, false, false, false, false, false, false, false, false, false, false, false, false, false, false, false, false, false, false, false, false, false, false, false, false, false, false, false, false, false, false, false, false, false, false, false, false, false, false, false, false, false, false, false, false, false, false, false, false, false, false, false, false, false, false, false, false, false, false, false, false, false, false, false, false, false, false, false, false, false, false, false, false, false, false, false, false]) (mixB_app (d1 := #[true, true, true, true, true, true, true, true, true, true, true, true, true, true, true, true, true, true, true, true, true, true, true, true, true, true, true, true, true, true, true, true, true, true, true, true, true, true, true, true, true, true, true, true, false, false, false, false, false, false, false, false, false, false, false, false, false, false, false, false, false, false, false, false, false, false, false, false, false, false, false, false, false, false, false, false, false, false, false, false, false, false, false, false, false, false, false, false, false, false, false, false, false, false, false, false, false, false, false, false, false, false, false, false, false, false, false, false, false, false]) (mixB_app (d1 := #[true, true, true, true, true, true, true, true, true, true, true, true, true, true, true, true, true, true, true, true, true, true, true, true, true, true, true, true, true, true, true, true, true, true, true, true, true, true, true, true, true, true, true, true, true, true, true, true, true, true, true, true, true, true, true, true, true, true, true, true, true, true, true, true, true, true, false, false, false, false, false, false, false, false, false, false, false, false, false, false, false, false, false, false, false, false, false, false, false, false, false, false, false, false, false, false, false, false, false, false, false, false, false, false, false, false, false, false, false, false]) (mixB_app (d1 := #[true, true, true, true, true, true, true, true, true, true, true, true, true, true, true, true, true, true, true, true, true, true, true, true, true, true, true, true, true, true, true, true, true, true, true, true, true, true, true, true, true, true, true, true, true, true, true, true, true, true, true, true, true, true, true, true, true, true, true, true, true, true, true, true, true, true, true, true, true, true, true, true, true, true, true, true, true, true, true, true, true, true, true, true, true, true, true, true, false, false, false, false, false, false, false, false, false, false, false, false, false, false, false, false, false, false, false, false, false, false]) (by as_aux_lemma => kernel_rfl) [(66, false), (67, false), (68, false), (69, false), (71, false), (72, false), (70, true), (73, false), (74, false), (75, false), (76, false), (77, false), (78, false), (79, false), (80, false), (81, false), (82, false), (83, false), (84, false), (85, false), (86, false), (87, false)] _ (by as_aux_lemma => kernel_rfl)) [(44, false), (46, false), (47, false), (45, true), (48, false), (49, false), (50, false), (51, false), (52, false), (53, false), (55, false), (54, true), (56, false), (57, false), (58, false), (59, false), (60, false), (61, false), (63, false), (62, true), (64, false), (65, false)] _ (by as_aux_lemma => kernel_rfl)) [(22, false), (23, false), (24, false), (25, false), (26, false), (27, false), (28, false), (29, false), (30, true), (31, true), (32, false), (33, false), (34, false), (35, false), (36, false), (37, false), (38, false), (39, true), (40, true), (41, false), (42, false), (43, false)] _ (by as_aux_lemma => kernel_rfl)) [(0, false), (1, false), (2, false), (3, false), (4, false), (5, false), (6, false), (7, false), (8, false), (10, false), (9, true), (11, true), (12, false), (13, false), (14, false), (15, false), (16, false), (17, false), (18, false), (19, false), (20, false), (21, false)] _ (by as_aux_lemma => kernel_rfl))) ?_
        conv => whnf
        (refine And.intro (fun _ => ?_) (fun h => absurd (by first | rfl | assumption | omega | decide) (of_decide_eq_false h)); conv => whnf)
        (refine And.intro (fun _ => ?_) (fun h => absurd (by first | rfl | assumption | omega | decide) (of_decide_eq_false h)); conv => whnf)
        (refine ⟨_, fun w' hx' => Blk.ldV (vs := [_, _, _, _]) (Blk.ext (hp.get (i := 4) rfl) hx') TTok rfl rfl rfl, ?_⟩; conv => whnf)
        (intro w hx; try (have hp := hp.call hx); conv => whnf)
        as_aux_lemma =>
        refine Calls.mono (gives_c hp _ _ _ _) ?_
        rintro _ w ⟨v, rfl, bb, rfl, hp, hx⟩
        refine ⟨_, rfl, ?_⟩
        conv => whnf
        refine And.intro hx ?_
        conv => whnf
        (intro w hx; try (have hp := hp.call hx); conv => whnf)
        refine Calls.mono (dS w) ?_
        clear dS
        rintro _ w ⟨v', rfl, hr⟩
        refine ⟨_, rfl, ?_⟩
        have hx := hr.ext
        have hp := hp.join hr
        clear hr
        simp only [List.cons_append, List.nil_append] at hp
        obtain ⟨pd, cd, rfl⟩ := row_shape (hp.get (i := 0) rfl)
        conv => whnf
        refine And.intro hx ?_
        conv => whnf
        skip
        as_aux_lemma =>
        refine ⟨_, fun w1 hx1 => gives_in 0 1 idC ((SA.of_row (hp.get (i := 0) rfl)).ext hx1) ((SA.of_row (hp.get (i := 7) rfl)).ext hx1) oA (Blk.ext (hp.get (i := 1) rfl) hx1), ?_⟩
        conv => whnf
        (refine And.intro (fun _ => ?_) (fun h => absurd h (by decide)); conv => whnf)
        (refine ⟨_, fun w' hx' => Blk.ldV (vs := [_, _, _, _]) (Blk.ext (hp.get (i := 4) rfl) hx') TTok rfl rfl rfl, ?_⟩; conv => whnf)
        refine ⟨_, fun w1 hx1 => Check_no 0 1 idC kw ((SA.of_row (hp.get (i := 5) rfl)).ext hx1), ?_⟩
        conv => whnf
        (refine And.intro (fun _ => ?_) (fun h => absurd (by first | rfl | assumption | omega | decide) (of_decide_eq_false h)); conv => whnf)
        (refine ⟨_, fun w' hx' => Blk.ldV (vs := [_, _, _, _]) (Blk.ext (hp.get (i := 2) rfl) hx') TTok rfl rfl rfl, ?_⟩; conv => whnf)
        as_aux_lemma =>
        refine ⟨_, fun w1 hx1 => Check_yes 0 1 idC ko ((SA.of_row (al := manyL 30) (by rw [hml]; exact hp.get (i := 3) rfl)).ext hx1), ?_⟩
        conv => whnf
        (refine And.intro (fun _ => ?_) (fun h => absurd (by first | rfl | assumption | omega | decide) (of_decide_eq_false h)); conv => whnf)
        (refine ⟨_, fun w' hx' => Blk.ldV (vs := [_, _, _, _]) (Blk.ext (hp.get (i := 2) rfl) hx') TTok rfl rfl rfl, ?_⟩; conv => whnf)
        first | refine PureF.quiet (v0) ?_ | refine PureF.quietE (v0) ?_
        conv => whnf
        (intro w hx; try (have hp := hp.call hx); conv => whnf)
        obtain ⟨_, w, hr, tb, rfl, hp, hx⟩ : ∃ u w', (Instr.buildSlice 22 1 #[(0, .agg #[.int .i64 6, .string r0])]).run Tryz.prog w = .ok u w' ∧ ∃ b, u = .slice (some ⟨b, 0, none⟩) 1 1 ∧ HpM [] w0 w' (blk b [.int .i64 6, .string r0] 54 :: _) ∧ Ext w w' := hp.kmade _ _ (fun b => .slice (some ⟨b, 0, none⟩) 1 1) (mks22_1_0 _ (.int .i64 6) (.string r0)) fun tb w hp hx => ⟨tb, rfl, hp, hx⟩
        refine ⟨_, _, hr, ?_⟩
        clear hr
        conv => whnf
        refine And.intro hx ?_
        conv => whnf
        (intro w hx; try (have hp := hp.call hx); conv => whnf)
        as_aux_lemma =>
        refine Calls.mono (with8_c 0 1 idC (SA.of_row (al := manyL 30) (by rw [hml]; exact hp.get (i := 4) rfl)) (SA.of_blk (n := 1) (al := [(6, r0)]) (hp.get (i := 0) rfl) rfl (by unfold maxLen; decide)) (by omega) (by simp)) ?_
        rintro _ w ⟨_, rfl, dv, rfl, hr⟩
        refine ⟨_, rfl, ?_⟩
        have hx := hr.ext
        have hp := hp.join hr
        clear hr
        simp only [List.cons_append, List.nil_append] at hp
        obtain ⟨pe, ce, rfl⟩ := row_shape (hp.get (i := 0) rfl)
        conv => whnf
        refine And.intro hx ?_
        conv => whnf
        skip
        refine ⟨_, fun w1 hx1 => Check_no 0 1 idC (longer (by rw [List.length_append, hml]; show 30 < 30 + 1; decide)) ((SA.of_row (al := manyL 30 ++ [(6, r0)]) (hp.get (i := 0) rfl)).ext hx1), ?_⟩
        conv => whnf
        (refine And.intro (fun _ => ?_) (fun h => absurd (by first | rfl | assumption | omega | decide) (of_decide_eq_false h)); conv => whnf)
        (refine ⟨_, fun w' hx' => Blk.ldN (Blk.ext (hp.get (i := 10) rfl) hx') TTok rfl rfl, ?_⟩; conv => whnf)
        first | refine PureF.quiet (v4) ?_ | refine PureF.quietE (v4) ?_
        conv => whnf
        (intro w hx; try (have hp := hp.call hx); conv => whnf)
        obtain ⟨_, w, hr, tb, rfl, hp, hx⟩ : ∃ u w', (Instr.buildSlice 22 1 #[(0, .agg #[.int .i64 6, .string r4])]).run Tryz.prog w = .ok u w' ∧ ∃ b, u = .slice (some ⟨b, 0, none⟩) 1 1 ∧ HpM [] w0 w' (blk b [.int .i64 6, .string r4] 54 :: _) ∧ Ext w w' := hp.kmade _ _ (fun b => .slice (some ⟨b, 0, none⟩) 1 1) (mks22_1_0 _ (.int .i64 6) (.string r4)) fun tb w hp hx => ⟨tb, rfl, hp, hx⟩
        refine ⟨_, _, hr, ?_⟩
        clear hr
        conv => whnf
        refine And.intro hx ?_
        conv => whnf
        (intro w hx; try (have hp := hp.call hx); conv => whnf)
        as_aux_lemma =>
        refine Calls.mono (with8_c 0 1 idC SA.nil8 (SA.of_blk (n := 1) (al := [(6, r4)]) (hp.get (i := 0) rfl) rfl (by unfold maxLen; decide)) (by simp) (by simp)) ?_
        rintro _ w ⟨_, rfl, dv, rfl, hr⟩
        refine ⟨_, rfl, ?_⟩
        have hx := hr.ext
        have hp := hp.join hr
        clear hr
        simp only [List.cons_append, List.nil_append] at hp
        obtain ⟨pg, cg, rfl⟩ := row_shape (hp.get (i := 0) rfl)
        conv => whnf
        refine And.intro hx ?_
        conv => whnf
        skip
        have k4 : stunB 0 1 idC [(6, r4)] = false := stunB_f fun h => by
          have := attrB_t ((stunB_t h).2.2.2.2.2.2.1 (6, r4) List.mem_cons_self)
          have h2 := this.2.2
          simp only at h2
          omega
        as_aux_lemma =>
        refine ⟨_, fun w1 hx1 => Check_no 0 1 idC k4 ((SA.of_row (al := [(6, r4)]) (hp.get (i := 0) rfl)).ext hx1), ?_⟩
        conv => whnf
        (refine And.intro (fun _ => ?_) (fun h => absurd (by first | rfl | assumption | omega | decide) (of_decide_eq_false h)); conv => whnf)
        as_aux_lemma =>
        refine And.intro (by show S.size + 1 ≤ _; omega) ?_
        conv => whnf
        (intro w hx; try (have hp := hp.call hx); conv => whnf)
        try conv => whnf
        skip
        refine Calls.mono (refuses_c hp _) ?_
        rintro _ w ⟨v, rfl, bb, rfl, hp, hx⟩
        refine ⟨_, rfl, ?_⟩
        conv => whnf
        refine And.intro hx ?_
        conv => whnf
        skip
        refine ⟨_, fun w1 _ => eS w1, ?_⟩
        conv => whnf
        refine ⟨_, fun w1 hx1 => refuses_in (Blk.ext (hp.get (i := 0) rfl) hx1), ?_⟩
        conv => whnf
        (refine And.intro (fun _ => ?_) (fun h => absurd h (by decide)); conv => whnf)
        (refine ⟨_, fun w' hx' => Blk.ldN (Blk.ext (hp.get (i := 11) rfl) hx') TTok rfl rfl, ?_⟩; conv => whnf)
        (intro w hx; try (have hp := hp.call hx); conv => whnf)
        as_aux_lemma =>
        try conv => whnf
        skip
        refine Calls.mono (refuses_c hp _) ?_
        rintro _ w ⟨v, rfl, bb, rfl, hp, hx⟩
        refine ⟨_, rfl, ?_⟩
        conv => whnf
        refine And.intro hx ?_
        conv => whnf
        skip
        refine ⟨_, fun w1 hx1 => Prot_full 0 1 idC (⟨#[107]⟩ : ByteArray) kf (by decide) rfl rfl (by rw [sf]; decide) ((SA.of_row (al := [(6, ra), (6, rb)]) (hp.get (i := 13) rfl)).ext hx1), ?_⟩
        conv => whnf
        refine ⟨_, fun w1 hx1 => refuses_in (Blk.ext (hp.get (i := 0) rfl) hx1), ?_⟩
        conv => whnf
        (refine And.intro (fun _ => ?_) (fun h => absurd h (by decide)); conv => whnf)
        (refine ⟨_, fun w' hx' => Blk.ldV (vs := [_, _, _, _]) (Blk.ext (hp.get (i := 8) rfl) hx') TTok rfl rfl rfl, ?_⟩; conv => whnf)
        (intro w hx; try (have hp := hp.call hx); conv => whnf)
        as_aux_lemma =>
        try conv => whnf
        skip
        refine Calls.mono (refuses_c hp _) ?_
        rintro _ w ⟨v, rfl, bb, rfl, hp, hx⟩
        refine ⟨_, rfl, ?_⟩
        conv => whnf
        refine And.intro hx ?_
        conv => whnf
        skip
        refine ⟨_, fun w1 hx1 => Mark_many 0 1 idC ko many_has (by rw [hml]; decide) ((SA.of_row (al := manyL 30) (by rw [hml]; exact hp.get (i := 10) rfl)).ext hx1), ?_⟩
        conv => whnf
        refine ⟨_, fun w1 hx1 => refuses_in (Blk.ext (hp.get (i := 0) rfl) hx1), ?_⟩
        conv => whnf
        (refine And.intro (fun _ => ?_) (fun h => absurd h (by decide)); conv => whnf)
        (refine ⟨_, fun w' hx' => Blk.ldN (Blk.ext (hp.get (i := 15) rfl) hx') TTok rfl rfl, ?_⟩; conv => whnf)
        (intro w hx; try (have hp := hp.call hx); conv => whnf)
        as_aux_lemma =>
        try conv => whnf
        skip
        refine Calls.mono (refuses_c hp _) ?_
        rintro _ w ⟨v, rfl, bb, rfl, hp, hx⟩
        refine ⟨_, rfl, ?_⟩
        conv => whnf
        refine And.intro hx ?_
        conv => whnf
        skip
        refine ⟨_, fun w1 _ => Protect_long 0 1 idC LG SA.nil8 k_s0 (by omega), ?_⟩
        conv => whnf
        refine ⟨_, fun w1 hx1 => refuses_in (Blk.ext (hp.get (i := 0) rfl) hx1), ?_⟩
        conv => whnf
        (refine And.intro (fun _ => ?_) (fun h => absurd h (by decide)); conv => whnf)
        (refine ⟨_, fun w' hx' => Blk.ldN (Blk.ext (hp.get (i := 16) rfl) hx') TTok rfl rfl, ?_⟩; conv => whnf)
        as_aux_lemma =>
        have vm := fun (w : World) => Verify_c (W := w) 0 1 idC LG SA.nil8
        have vz := fun (w : World) => Verify_c (W := w) 0 0 ⟨#[]⟩ LG SA.nil8
        have mm1 := fun (w : World) => Marked_c (W := w) 0 1 idC SA.nil8
        have mz := fun (w : World) => Marked_c (W := w) 0 0 ⟨#[]⟩ SA.nil8
        rw [m_ver LG (by omega)] at vm
        rw [zero_ver] at vz
        rw [m_mrk] at mm1
        rw [zero_mrk] at mz
        refine ⟨_, fun w1 _ => vm w1, ?_⟩
        conv => whnf
        (refine And.intro (fun _ => ?_) (fun h => absurd (by first | rfl | assumption | omega | decide) (of_decide_eq_false h)); conv => whnf)
        (refine ⟨_, fun w' hx' => bld24_ w', ?_⟩; conv => whnf)
        refine ⟨_, fun w1 _ => vz w1, ?_⟩
        conv => whnf
        (refine And.intro (fun _ => ?_) (fun h => absurd (by first | rfl | assumption | omega | decide) (of_decide_eq_false h)); conv => whnf)
        (refine ⟨_, fun w' hx' => bld24_ w', ?_⟩; conv => whnf)
        (intro w hx; try (have hp := hp.call hx); conv => whnf)
        as_aux_lemma =>
        try conv => whnf
        skip
        refine Calls.mono (refuses_c hp _) ?_
        rintro _ w ⟨v, rfl, bb, rfl, hp, hx⟩
        refine ⟨_, rfl, ?_⟩
        conv => whnf
        refine And.intro hx ?_
        conv => whnf
        skip
        refine ⟨_, fun w1 _ => Protect_stun 0 0 ⟨#[]⟩ LG SA.nil8 zero_no, ?_⟩
        conv => whnf
        refine ⟨_, fun w1 hx1 => refuses_in (Blk.ext (hp.get (i := 0) rfl) hx1), ?_⟩
        conv => whnf
        (refine And.intro (fun _ => ?_) (fun h => absurd h (by decide)); conv => whnf)
        (refine ⟨_, fun w' hx' => Blk.ldN (Blk.ext (hp.get (i := 17) rfl) hx') TTok rfl rfl, ?_⟩; conv => whnf)
        refine ⟨_, fun w1 _ => mm1 w1, ?_⟩
        conv => whnf
        (refine And.intro (fun _ => ?_) (fun h => absurd (by first | rfl | assumption | omega | decide) (of_decide_eq_false h)); conv => whnf)
        (refine ⟨_, fun w' hx' => bld24_ w', ?_⟩; conv => whnf)
        refine ⟨_, fun w1 _ => mz w1, ?_⟩
        conv => whnf
        clear vm vz mm1 mz eS va vb vc v0 v4
        (intro w hx; try (have hp := hp.call hx); conv => whnf)
        exact hK15 w (hp.pick [17] (by decide)) _ (sub_cons rfl (sub_cons rfl (sub_cons rfl sub_nil)))
    clear hKq
    refine v_mt TTok FFok mixed 8 (.q 0 (.q 1 (.q 2 (.q 3 (.q 4 (.br 5 7 (.br 6 7 (.m 7 .nil) (.m 6 .nil)) (.m 5 (.m 6 .nil)))))))) (by kernel_rfl) ?_
    conv => whnf
    (refine ⟨_, fun w' hx' => Blk.ldV (vs := [_, _, _, _]) (Blk.ext (hp.get (i := 2) rfl) hx') TTok rfl rfl rfl, ?_⟩; conv => whnf)
    first | refine PureF.quiet (va) ?_ | refine PureF.quietE (va) ?_
    conv => whnf
    first | refine PureF.quiet (vc) ?_ | refine PureF.quietE (vc) ?_
    conv => whnf
    refine And.intro ?_ ?_
    · intro w hx
      try (have hp := hp.call hx)
      conv => whnf
      refine hp.kmade _ _ (fun b => .slice (some ⟨b, 0, none⟩) 2 2) (mks22_2_0_1 _ (.int .i64 6) (.string ra) (.int .i64 6) (.string rc)) fun tb w hp hx => ?_
      conv => whnf
      refine And.intro hx ?_
      conv => whnf
      refine And.intro ?_ ?_
      · intro w hx
        try (have hp := hp.call hx)
        conv => whnf
        refine Calls.mono (with8_c 0 1 idC SA.nil8 (SA.of_blk (al := [(6, ra), (6, rc)]) (hp.get (i := 0) rfl) rfl (by unfold maxLen; decide)) (by simp) (by simp)) ?_
        rintro _ w ⟨_, rfl, dv, rfl, hr⟩
        refine ⟨_, rfl, ?_⟩
        have hx := hr.ext
        have hp := hp.join hr
        clear hr
        simp only [List.cons_append, List.nil_append] at hp
        obtain ⟨pd, cd, rfl⟩ := row_shape (hp.get (i := 0) rfl)
        conv => whnf
        refine And.intro hx ?_
        conv => whnf
        intro w hx
        try (have hp := hp.call hx)
        conv => whnf
        refine hp.kalloc z24 fun b5 w hp hx => ?_
        conv => whnf
        refine And.intro hx ?_
        conv => whnf
        intro w hx
        try (have hp := hp.call hx)
        conv => whnf
        (refine hp.kstA TTok rfl 0 rfl rfl (oneC_of rfl) (by rfl) fun w hp => ?_; try simp only [List.set_cons_zero, List.set_cons_succ, EV.val] at hp; conv => whnf)
        exact hK7 _ _ _ _ (hp.pick [0, 1, 3, 4, 5] (by decide)) _ (sub_cons rfl (sub_cons rfl (sub_cons rfl (sub_cons rfl (sub_cons rfl (sub_nil))))))
      · intro w hx
        try (have hp := hp.call hx)
        conv => whnf
        refine hp.kalloc z24 fun b5 w hp hx => ?_
        conv => whnf
        refine And.intro hx ?_
        conv => whnf
        intro w hx
        try (have hp := hp.call hx)
        conv => whnf
        refine Calls.mono (with8_c 0 1 idC SA.nil8 (SA.of_blk (al := [(6, ra), (6, rc)]) (hp.get (i := 1) rfl) rfl (by unfold maxLen; decide)) (by simp) (by simp)) ?_
        rintro _ w ⟨_, rfl, dv, rfl, hr⟩
        refine ⟨_, rfl, ?_⟩
        have hx := hr.ext
        have hp := hp.join hr
        clear hr
        simp only [List.cons_append, List.nil_append] at hp
        obtain ⟨pd, cd, rfl⟩ := row_shape (hp.get (i := 0) rfl)
        conv => whnf
        refine And.intro hx ?_
        conv => whnf
        intro w hx
        try (have hp := hp.call hx)
        conv => whnf
        (refine hp.kstA TTok rfl 1 rfl rfl (oneC_of rfl) (by rfl) fun w hp => ?_; try simp only [List.set_cons_zero, List.set_cons_succ, EV.val] at hp; conv => whnf)
        exact hK7 _ _ _ _ (hp.pick [1, 0, 3, 4, 5] (by decide)) _ (sub_cons rfl (sub_cons rfl (sub_cons rfl (sub_cons rfl (sub_cons rfl (sub_nil))))))
    · intro w hx
      try (have hp := hp.call hx)
      conv => whnf
      refine hp.kalloc z24 fun b5 w hp hx => ?_
      conv => whnf
      refine And.intro hx ?_
      conv => whnf
      intro w hx
      try (have hp := hp.call hx)
      conv => whnf
      refine hp.kmade _ _ (fun b => .slice (some ⟨b, 0, none⟩) 2 2) (mks22_2_0_1 _ (.int .i64 6) (.string ra) (.int .i64 6) (.string rc)) fun tb w hp hx => ?_
      conv => whnf
      refine And.intro hx ?_
      conv => whnf
      intro w hx
      try (have hp := hp.call hx)
      conv => whnf
      refine Calls.mono (with8_c 0 1 idC SA.nil8 (SA.of_blk (al := [(6, ra), (6, rc)]) (hp.get (i := 0) rfl) rfl (by unfold maxLen; decide)) (by simp) (by simp)) ?_
      rintro _ w ⟨_, rfl, dv, rfl, hr⟩
      refine ⟨_, rfl, ?_⟩
      have hx := hr.ext
      have hp := hp.join hr
      clear hr
      simp only [List.cons_append, List.nil_append] at hp
      obtain ⟨pd, cd, rfl⟩ := row_shape (hp.get (i := 0) rfl)
      conv => whnf
      refine And.intro hx ?_
      conv => whnf
      intro w hx
      try (have hp := hp.call hx)
      conv => whnf
      (refine hp.kstA TTok rfl 2 rfl rfl (oneC_of rfl) (by rfl) fun w hp => ?_; try simp only [List.set_cons_zero, List.set_cons_succ, EV.val] at hp; conv => whnf)
      exact hK7 _ _ _ _ (hp.pick [2, 0, 3, 4, 5] (by decide)) _ (sub_cons rfl (sub_cons rfl (sub_cons rfl (sub_cons rfl (sub_cons rfl (sub_nil))))))
  clear hKq
  refine v_mt TTok FFok mixed 8 (.q 0 (.q 1 (.q 2 (.q 3 (.q 4 (.br 5 7 (.br 6 7 (.m 7 .nil) (.m 6 .nil)) (.m 5 (.m 6 .nil)))))))) (by kernel_rfl) ?_
  conv => whnf
  (refine ⟨_, fun w' hx' => Blk.ldV (vs := [_, _, _, _]) (Blk.ext (hp.get (i := 0) rfl) hx') TTok rfl rfl rfl, ?_⟩; conv => whnf)
  first | refine PureF.quiet (va) ?_ | refine PureF.quietE (va) ?_
  conv => whnf
  first | refine PureF.quiet (vb) ?_ | refine PureF.quietE (vb) ?_
  conv => whnf
  refine And.intro ?_ ?_
  · intro w hx
    try (have hp := hp.call hx)
    conv => whnf
    refine hp.kmade _ _ (fun b => .slice (some ⟨b, 0, none⟩) 2 2) (mks22_2_0_1 _ (.int .i64 6) (.string ra) (.int .i64 6) (.string rb)) fun tb w hp hx => ?_
    conv => whnf
    refine And.intro hx ?_
    conv => whnf
    refine And.intro ?_ ?_
    · intro w hx
      try (have hp := hp.call hx)
      conv => whnf
      refine Calls.mono (with8_c 0 1 idC SA.nil8 (SA.of_blk (al := [(6, ra), (6, rb)]) (hp.get (i := 0) rfl) rfl (by unfold maxLen; decide)) (by simp) (by simp)) ?_
      rintro _ w ⟨_, rfl, dv, rfl, hr⟩
      refine ⟨_, rfl, ?_⟩
      have hx := hr.ext
      have hp := hp.join hr
      clear hr
      simp only [List.cons_append, List.nil_append] at hp
      obtain ⟨pd, cd, rfl⟩ := row_shape (hp.get (i := 0) rfl)
      conv => whnf
      refine And.intro hx ?_
      conv => whnf
      intro w hx
      try (have hp := hp.call hx)
      conv => whnf
      refine hp.kalloc z24 fun b4 w hp hx => ?_
      conv => whnf
      refine And.intro hx ?_
      conv => whnf
      intro w hx
      try (have hp := hp.call hx)
      conv => whnf
      (refine hp.kstA TTok rfl 0 rfl rfl (oneC_of rfl) (by rfl) fun w hp => ?_; try simp only [List.set_cons_zero, List.set_cons_succ, EV.val] at hp; conv => whnf)
      exact hK6 _ _ _ _ (hp.pick [0, 1, 3] (by decide)) _ (sub_cons rfl (sub_cons rfl (sub_cons rfl (sub_cons rfl (sub_nil)))))
    · intro w hx
      try (have hp := hp.call hx)
      conv => whnf
      refine hp.kalloc z24 fun b4 w hp hx => ?_
      conv => whnf
      refine And.intro hx ?_
      conv => whnf
      intro w hx
      try (have hp := hp.call hx)
      conv => whnf
      refine Calls.mono (with8_c 0 1 idC SA.nil8 (SA.of_blk (al := [(6, ra), (6, rb)]) (hp.get (i := 1) rfl) rfl (by unfold maxLen; decide)) (by simp) (by simp)) ?_
      rintro _ w ⟨_, rfl, dv, rfl, hr⟩
      refine ⟨_, rfl, ?_⟩
      have hx := hr.ext
      have hp := hp.join hr
      clear hr
      simp only [List.cons_append, List.nil_append] at hp
      obtain ⟨pd, cd, rfl⟩ := row_shape (hp.get (i := 0) rfl)
      conv => whnf
      refine And.intro hx ?_
      conv => whnf
      intro w hx
      try (have hp := hp.call hx)
      conv => whnf
      (refine hp.kstA TTok rfl 1 rfl rfl (oneC_of rfl) (by rfl) fun w hp => ?_; try simp only [List.set_cons_zero, List.set_cons_succ, EV.val] at hp; conv => whnf)
      exact hK6 _ _ _ _ (hp.pick [1, 0, 3] (by decide)) _ (sub_cons rfl (sub_cons rfl (sub_cons rfl (sub_cons rfl (sub_nil)))))
  · intro w hx
    try (have hp := hp.call hx)
    conv => whnf
    refine hp.kalloc z24 fun b4 w hp hx => ?_
    conv => whnf
    refine And.intro hx ?_
    conv => whnf
    intro w hx
    try (have hp := hp.call hx)
    conv => whnf
    refine hp.kmade _ _ (fun b => .slice (some ⟨b, 0, none⟩) 2 2) (mks22_2_0_1 _ (.int .i64 6) (.string ra) (.int .i64 6) (.string rb)) fun tb w hp hx => ?_
    conv => whnf
    refine And.intro hx ?_
    conv => whnf
    intro w hx
    try (have hp := hp.call hx)
    conv => whnf
    refine Calls.mono (with8_c 0 1 idC SA.nil8 (SA.of_blk (al := [(6, ra), (6, rb)]) (hp.get (i := 0) rfl) rfl (by unfold maxLen; decide)) (by simp) (by simp)) ?_
    rintro _ w ⟨_, rfl, dv, rfl, hr⟩
    refine ⟨_, rfl, ?_⟩
    have hx := hr.ext
    have hp := hp.join hr
    clear hr
    simp only [List.cons_append, List.nil_append] at hp
    obtain ⟨pd, cd, rfl⟩ := row_shape (hp.get (i := 0) rfl)
    conv => whnf
    refine And.intro hx ?_
    conv => whnf
    intro w hx
    try (have hp := hp.call hx)
    conv => whnf
    (refine hp.kstA TTok rfl 2 rfl rfl (oneC_of rfl) (by rfl) fun w hp => ?_; try simp only [List.set_cons_zero, List.set_cons_succ, EV.val] at hp; conv => whnf)
    exact hK6 _ _ _ _ (hp.pick [2, 0, 3] (by decide)) _ (sub_cons rfl (sub_cons rfl (sub_cons rfl (sub_cons rfl (sub_nil)))))
end Go.Proofs.YtmlmfmdmomegpaaGreatDoor
namespace Go.Proofs.YtmlmfmdmomegpaaGreatDoor.stunKnown
open Go.ChangeShapes Go.WideShapes Go.ChangeAt Go.RowKit
open Go.ChangeMaps (open_string shut_string)
set_option linter.unusedVariables false
theorem own : ownKnob Tryz.prog.godebug = none := by kernel_rfl
theorem laidOut : laidOutB Tryz.prog = true := by kernel_rfl
def laid2 : List (String × DataW Unit) := [("unicode/utf8.acceptRanges", Rows.laid_unicode_utf8_acceptRanges), ("unicode/utf8.first", Rows.laid_unicode_utf8_first)]
set_option maxRecDepth 100000 in
theorem lifted (os : Os) (started : os.Started) (H : Type) (enc : TypeId × Value → H) :
    ReturnsInHanded {} Tryz.checked os 11 .any (fun w args => (Rows.stunKnownSpec.pre enc Tryz.prog Tryz.f11 [] false w args ∧ laidMetH Tryz.prog laid2 w) ∧ sizedMet enc Tryz.prog Tryz.f11 (OpenSpec.ofChange Rows.stunKnownSpec) false w args) (Rows.stunKnownSpec.post enc Tryz.prog Tryz.f11 false true false false) := by
  refine returnsInHanded_of_change_and (C := Tryz.checked) (X := fun w _ => laidMetH Tryz.prog laid2 w) (fun _ _ _ hh h => h.of_heap hh) own started (by kernel_rfl) Tryz.func11
    (ChangeSpec.witness_shaped (enc := enc) (C := Tryz.checked) (os := os) (X := fun w _ => laidMetH Tryz.prog laid2 w) false (World.laidAll Tryz.prog os laid2) #[] 8 (World.laidAll_os _ _ _) (World.shaped_of_ZipB (by kernel_rfl) (by kernel_rfl)) (by kernel_rfl) (by kernel_rfl) (by kernel_rfl) (by rw [MakeChecks.laidMetH_plain _ _ _ (by kernel_rfl)]; exact laidMet_laidAll _ (by kernel_rfl) (by kernel_rfl))) ?_
  intro W base args ds gs before hval0 hW hcnd hsz0 hL _
  have hval : ∀ (j : Nat) t v, Tryz.f11.params[j]? = some t → args[j]? = some v → Value.okWide Tryz.prog W .any base t v := hval0
  have hW' := hW
  obtain ⟨p, q, hA0, hV, rfl, hfz, hnd⟩ := hW
  have hA : DataW.TrodAll enc Tryz.prog W 0 (fun _ => true) true Tryz.f11.params.toList args.toList ds p := hA0
  rw [Tryz.params11] at hA hval
  obtain ⟨rfl, rfl, rfl⟩ := trodAll_none hA
  obtain ⟨rfl, rfl⟩ := trodVars_none hV
  clear hA0 hval0
  refine ((known_p) W).mono fun e W' ⟨he, bel⟩ => ?_
  have bel : Below W.heap.size W W' := bel
  subst he
  exact ⟨_, rfl, _, _, _, [], _, [], hW', trodAll_mk1 (shut_bool Tryz.underlying4 _), rfl, rfl, bel.frame _, fun h => by cases h⟩

theorem over : Rows.stunKnownRow.holds Tryz.pinned (OpenSpec.ofChange Rows.stunKnownSpec) :=
  OpenClaim.holds_of_wide 11 Tryz.f11 rfl rfl rfl rfl rfl rfl rfl ⟨rfl, rfl, rfl, rfl, rfl⟩ rfl rfl rfl rfl rfl (by kernel_rfl) Tryz.func11 (by kernel_rfl)
    (of_decide_eq_true (by kernel_rfl)) (by unfold Func.isWrapper; first | (rw [if_pos (by decide +kernel)]; kernel_rfl) | (rw [if_neg (by decide +kernel)]; exact ⟨rfl, rfl⟩))
    (fun os started H enc _ => lifted os started H enc)

theorem proved : Rows.StunKnownCardSaid :=
  Claim7.holds_tied_plain_at .later [] [.data, .pinned] true (true, "5f27dd6ed70dca3cf563e9660767357bc6414374a73c6f1dd9ec93831559d27f") true
    over (fun _ h => by cases h) (by kernel_rfl) (fun _ h => by cases h) stunKnown_row_tie rfl ⟨rfl, rfl⟩ (by kernel_rfl) rfl
    (fun f fn hf hfn => by
      obtain rfl : f = 11 := Option.some.inj ((show Tryz.prog.funcNamed "tannoy/tannoylaw08.StunKnown" = some 11 by kernel_rfl).symm.trans hf) |>.symm
      obtain rfl : fn = Tryz.f11 := (Option.some.inj (Tryz.func11.symm.trans hfn)).symm
      exact ⟨by kernel_rfl, fun j t ht => by
        rw [Tryz.params11] at ht
        simp at ht⟩)
    (by kernel_rfl)
#print axioms proved
end Go.Proofs.YtmlmfmdmomegpaaGreatDoor.stunKnown
