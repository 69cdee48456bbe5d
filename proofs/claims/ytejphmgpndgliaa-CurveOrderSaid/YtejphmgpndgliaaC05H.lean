/- Chapter 05: a step of the program's ladder. -/
import Derived.Test.YtejphmgpndgliaaC05G
import Derived.Test.YtejphmgpndgliaaX4
namespace Go.Proofs.Ytejphmgpndgliaa
set_option linter.unusedSimpArgs false
set_option linter.unusedVariables false
open Go.RowKit V
abbrev L25 (A B C D U : List Nat) : List Nat := A ++ (B ++ (C ++ (D ++ U)))
theorem l25_get (A B C D U : List Nat) (hA : A.length = 5) (hB : B.length = 5) (hC : C.length = 5) (hD : D.length = 5) (hU : U.length = 5) :
    ((kw .u64 (L25 A B C D U)).drop 0).take 5 = kw .u64 A ∧ ((kw .u64 (L25 A B C D U)).drop 5).take 5 = kw .u64 B ∧ ((kw .u64 (L25 A B C D U)).drop 10).take 5 = kw .u64 C ∧ ((kw .u64 (L25 A B C D U)).drop 15).take 5 = kw .u64 D ∧ ((kw .u64 (L25 A B C D U)).drop 20).take 5 = kw .u64 U := by
  match A, B, C, D, U, hA, hB, hC, hD, hU with
  | [_, _, _, _, _], [_, _, _, _, _], [_, _, _, _, _], [_, _, _, _, _], [_, _, _, _, _], _, _, _, _, _ => exact ⟨rfl, rfl, rfl, rfl, rfl⟩
theorem l25_get10 (A B C D U : List Nat) (hA : A.length = 5) (hB : B.length = 5) (hC : C.length = 5) (hD : D.length = 5) (hU : U.length = 5) :
    ((kw .u64 (L25 A B C D U)).drop 0).take 10 = kw .u64 (A ++ B) ∧ ((kw .u64 (L25 A B C D U)).drop 10).take 10 = kw .u64 (C ++ D) := by
  match A, B, C, D, U, hA, hB, hC, hD, hU with
  | [_, _, _, _, _], [_, _, _, _, _], [_, _, _, _, _], [_, _, _, _, _], [_, _, _, _, _], _, _, _, _, _ => exact ⟨rfl, rfl⟩
theorem l25_set (A B C D U F : List Nat) (hA : A.length = 5) (hB : B.length = 5) (hC : C.length = 5) (hD : D.length = 5) (hU : U.length = 5) :
    (kw .u64 (L25 A B C D U)).take 0 ++ kw .u64 F ++ (kw .u64 (L25 A B C D U)).drop (0 + 5) = kw .u64 (L25 F B C D U) ∧ (kw .u64 (L25 A B C D U)).take 5 ++ kw .u64 F ++ (kw .u64 (L25 A B C D U)).drop (5 + 5) = kw .u64 (L25 A F C D U) ∧
    (kw .u64 (L25 A B C D U)).take 10 ++ kw .u64 F ++ (kw .u64 (L25 A B C D U)).drop (10 + 5) = kw .u64 (L25 A B F D U) ∧ (kw .u64 (L25 A B C D U)).take 15 ++ kw .u64 F ++ (kw .u64 (L25 A B C D U)).drop (15 + 5) = kw .u64 (L25 A B C F U) := by
  match A, B, C, D, U, hA, hB, hC, hD, hU with
  | [_, _, _, _, _], [_, _, _, _, _], [_, _, _, _, _], [_, _, _, _, _], [_, _, _, _, _], _, _, _, _, _ => exact ⟨by simp [kw], by simp [kw], by simp [kw], by simp [kw]⟩
theorem l25_set10 (A B C D U X Y : List Nat) (hA : A.length = 5) (hB : B.length = 5) (hC : C.length = 5) (hD : D.length = 5) (hU : U.length = 5) :
    (kw .u64 (L25 A B C D U)).take 0 ++ kw .u64 (X ++ Y) ++ (kw .u64 (L25 A B C D U)).drop (0 + 10) = kw .u64 (L25 X Y C D U) ∧ (kw .u64 (L25 A B C D U)).take 10 ++ kw .u64 (X ++ Y) ++ (kw .u64 (L25 A B C D U)).drop (10 + 10) = kw .u64 (L25 A B X Y U) := by
  match A, B, C, D, U, hA, hB, hC, hD, hU with
  | [_, _, _, _, _], [_, _, _, _, _], [_, _, _, _, _], [_, _, _, _, _], [_, _, _, _, _], _, _, _, _, _ => exact ⟨by simp [kw], by simp [kw]⟩
def k121 : List Nat := [121665, 0, 0, 0, 0]
theorem k121_Bd : Bd k121 := r5_k.1
set_option maxHeartbeats 8000000 in
theorem step_c {w0 : World} {qb : Nat} (A B C D U : List Nat) (hA : Bd A) (hB : Bd B) (hC : Bd C) (hD : Bd D) (hU : Bd U) (hb : Blk w0 qb (kw .u64 (L25 A B C D U)) 73) :
    Calls Try.prog 45 #[.pointer (some ⟨qb, 0, none⟩)] w0 fun e w' => ∃ v, e = .returned v ∧ (v = .tuple #[] ∧ w0.grownBy w' (some qb) ∧
      Blk w' qb (kw .u64 (L25 (LadF.step U ⟨A, B, C, D⟩).a (LadF.step U ⟨A, B, C, D⟩).b (LadF.step U ⟨A, B, C, D⟩).c (LadF.step U ⟨A, B, C, D⟩).d U)) 73) := by
  unfold LadF.step
  dsimp only
  obtain ⟨up, hup⟩ : ∃ x, plusF A B = x := ⟨_, rfl⟩
  obtain ⟨dn, hdn⟩ : ∃ x, minusF A B = x := ⟨_, rfl⟩
  have Bup : Bd up := by rw [← hup]; exact (plusF_ok A B hA hB).1
  have Bdn : Bd dn := by rw [← hdn]; exact (minusF_ok A B hA hB).1
  have p1 := plus_p A B hA hB
  have p2 := minus_p A B hA hB
  rw [hup] at p1 ⊢
  rw [hdn] at p2 ⊢
  obtain ⟨s, hs⟩ : ∃ x, timesF up up = x := ⟨_, rfl⟩
  obtain ⟨m, hm⟩ : ∃ x, timesF dn dn = x := ⟨_, rfl⟩
  have Bs : Bd s := by rw [← hs]; exact (timesF_ok _ _ Bup Bup).1
  have Bm : Bd m := by rw [← hm]; exact (timesF_ok _ _ Bdn Bdn).1
  have p3 := times_p up up Bup Bup
  have p4 := times_p dn dn Bdn Bdn
  rw [hs] at p3 ⊢
  rw [hm] at p4 ⊢
  obtain ⟨e, he⟩ : ∃ x, minusF s m = x := ⟨_, rfl⟩
  have Be : Bd e := by rw [← he]; exact (minusF_ok _ _ Bs Bm).1
  have p5 := minus_p s m Bs Bm
  rw [he] at p5 ⊢
  obtain ⟨cd, hcd⟩ : ∃ x, minusF C D = x := ⟨_, rfl⟩
  obtain ⟨cs, hcs⟩ : ∃ x, plusF C D = x := ⟨_, rfl⟩
  have Bcd : Bd cd := by rw [← hcd]; exact (minusF_ok _ _ hC hD).1
  have Bcs : Bd cs := by rw [← hcs]; exact (plusF_ok _ _ hC hD).1
  have p6 := minus_p C D hC hD
  have p7 := plus_p C D hC hD
  rw [hcd] at p6 ⊢
  rw [hcs] at p7 ⊢
  obtain ⟨f, hf⟩ : ∃ x, timesF cd up = x := ⟨_, rfl⟩
  obtain ⟨g, hg⟩ : ∃ x, timesF cs dn = x := ⟨_, rfl⟩
  have Bf : Bd f := by rw [← hf]; exact (timesF_ok _ _ Bcd Bup).1
  have Bg : Bd g := by rw [← hg]; exact (timesF_ok _ _ Bcs Bdn).1
  have p8 := times_p cd up Bcd Bup
  have p9 := times_p cs dn Bcs Bdn
  rw [hf] at p8 ⊢
  rw [hg] at p9 ⊢
  obtain ⟨a2, ha2⟩ : ∃ x, timesF s m = x := ⟨_, rfl⟩
  have Ba2 : Bd a2 := by rw [← ha2]; exact (timesF_ok _ _ Bs Bm).1
  have p10 := times_p s m Bs Bm
  rw [ha2] at p10 ⊢
  rw [show ([121665, 0, 0, 0, 0] : List Nat) = k121 from rfl]
  obtain ⟨ek, hek⟩ : ∃ x, timesF e k121 = x := ⟨_, rfl⟩
  have Bek : Bd ek := by rw [← hek]; exact (timesF_ok _ _ Be k121_Bd).1
  have p11 := times_p e k121 Be k121_Bd
  rw [hek] at p11 ⊢
  obtain ⟨sk, hsk⟩ : ∃ x, plusF s ek = x := ⟨_, rfl⟩
  have Bsk : Bd sk := by rw [← hsk]; exact (plusF_ok _ _ Bs Bek).1
  have p12 := plus_p s ek Bs Bek
  rw [hsk] at p12 ⊢
  obtain ⟨b2, hb2⟩ : ∃ x, timesF e sk = x := ⟨_, rfl⟩
  have Bb2 : Bd b2 := by rw [← hb2]; exact (timesF_ok _ _ Be Bsk).1
  have p13 := times_p e sk Be Bsk
  rw [hb2] at p13 ⊢
  obtain ⟨x1, hx1⟩ : ∃ x, plusF f g = x := ⟨_, rfl⟩
  obtain ⟨x2, hx2⟩ : ∃ x, minusF f g = x := ⟨_, rfl⟩
  have Bx1 : Bd x1 := by rw [← hx1]; exact (plusF_ok _ _ Bf Bg).1
  have Bx2 : Bd x2 := by rw [← hx2]; exact (minusF_ok _ _ Bf Bg).1
  have p14 := plus_p f g Bf Bg
  have p15 := minus_p f g Bf Bg
  rw [hx1] at p14 ⊢
  rw [hx2] at p15 ⊢
  obtain ⟨c2, hc2⟩ : ∃ x, timesF x1 x1 = x := ⟨_, rfl⟩
  obtain ⟨y2, hy2⟩ : ∃ x, timesF x2 x2 = x := ⟨_, rfl⟩
  have Bc2 : Bd c2 := by rw [← hc2]; exact (timesF_ok _ _ Bx1 Bx1).1
  have By2 : Bd y2 := by rw [← hy2]; exact (timesF_ok _ _ Bx2 Bx2).1
  have p16 := times_p x1 x1 Bx1 Bx1
  have p17 := times_p x2 x2 Bx2 Bx2
  rw [hc2] at p16 ⊢
  rw [hy2] at p17 ⊢
  obtain ⟨d2, hd2⟩ : ∃ x, timesF U y2 = x := ⟨_, rfl⟩
  have Bd2 : Bd d2 := by rw [← hd2]; exact (timesF_ok _ _ hU By2).1
  have p18 := times_p U y2 hU By2
  rw [hd2] at p18 ⊢
  clear hup hdn hs hm he hcd hcs hf hg ha2 hek hsk hb2 hx1 hx2 hc2 hy2 hd2
  unfold fV at p1 p2 p3 p4 p5 p6 p7 p8 p9 p10 p11 p12 p13 p14 p15 p16 p17 p18
  obtain ⟨g0, g1, g2, g3, g4⟩ := l25_get A B C D U hA.1 hB.1 hC.1 hD.1 hU.1
  refine v_fn TTok FFok Try.func45 rfl (args := [.pointer (some ⟨qb, 0, none⟩)]) (R := fun v w' => v = .tuple #[] ∧ w0.grownBy w' (some qb) ∧ Blk w' qb (kw .u64 (L25 a2 b2 c2 d2 U)) 73) (Nat.le_of_ble_eq_true rfl) ?_
  have hp : HpM [qb] w0 w0 [blk qb (kw .u64 (L25 A B C D U)) 73] := (HpM.nil0 [qb] w0).take hb (by simp) (by simp)
  clear hb
  conv => whnf
  refine VSeq.mk fun Kq hKq => ?_
  conv => whnf
  have hK : ∀ (w1 : World) (q2 q3 : Nat), HpM [qb] w0 w1 [blk q2 (kw .u64 up) 68, blk q3 (kw .u64 dn) 68, blk qb (kw .u64 (L25 A B C D U)) 73] →
      ∀ l, V.Sub [(0, .v (.pointer (some ⟨qb, 0, none⟩))), (2, .v (.pointer (some ⟨q2, 0, none⟩))), (3, .v (.pointer (some ⟨q3, 0, none⟩)))] l → Kq l w1 := by
    clear hp
    repeat clear hp
    intro w q2 q3 hp l hsub
    refine hKq _ _ _ hsub ?_
    clear hKq Kq hsub
    conv => whnf
    refine VSeq.mk fun Kq hKq => ?_
    conv => whnf
    have hK : ∀ (w1 : World) (q4 q5 : Nat), HpM [qb] w0 w1 [blk q4 (kw .u64 s) 68, blk q5 (kw .u64 m) 68, blk q2 (kw .u64 up) 68, blk q3 (kw .u64 dn) 68, blk qb (kw .u64 (L25 A B C D U)) 73] →
        ∀ l, V.Sub [(0, .v (.pointer (some ⟨qb, 0, none⟩))), (2, .v (.pointer (some ⟨q2, 0, none⟩))), (3, .v (.pointer (some ⟨q3, 0, none⟩))), (4, .v (.pointer (some ⟨q4, 0, none⟩))), (5, .v (.pointer (some ⟨q5, 0, none⟩)))] l → Kq l w1 := by
      clear hp
      repeat clear hp
      intro w q4 q5 hp l hsub
      refine hKq _ _ _ hsub ?_
      clear hKq Kq hsub
      conv => whnf
      refine VSeq.mk fun Kq hKq => ?_
      conv => whnf
      refine ⟨_, _, Blk.ldN (hp.get (i := 0) rfl) TTok rfl (by rw [kw_len, Bs.1]), ?_⟩
      conv => whnf
      refine ⟨_, _, Blk.ldN (hp.get (i := 1) rfl) TTok rfl (by rw [kw_len, Bm.1]), ?_⟩
      conv => whnf
      refine PureF.use (p5) fun w hx => ?_
      try (have hp := hp.call hx)
      conv => whnf
      refine hp.kalloc z68 fun q6 w hp hx => ?_
      conv => whnf
      refine hp.kstA TTok rfl 0 rfl (by rw [kw_len, Be.1]) (kwu_one _) (by rfl) fun w hp => ?_
      try simp only [List.set_cons_zero, List.set_cons_succ, EV.val] at hp
      conv => whnf
      refine hKq _ _ _ (V.Sub.refl _) ?_
      clear hKq Kq
      conv => whnf
      refine VSeq.mk fun Kq hKq => ?_
      conv => whnf
      have hK : ∀ (w1 : World) (q7 q8 : Nat), HpM [qb] w0 w1 [blk q7 (kw .u64 f) 68, blk q8 (kw .u64 g) 68, blk q6 (kw .u64 e) 68, blk q4 (kw .u64 s) 68, blk q5 (kw .u64 m) 68, blk qb (kw .u64 (L25 A B C D U)) 73] →
          ∀ l, V.Sub [(0, .v (.pointer (some ⟨qb, 0, none⟩))), (4, .v (.pointer (some ⟨q4, 0, none⟩))), (5, .v (.pointer (some ⟨q5, 0, none⟩))), (6, .v (.pointer (some ⟨q6, 0, none⟩))), (7, .v (.pointer (some ⟨q7, 0, none⟩))), (8, .v (.pointer (some ⟨q8, 0, none⟩)))] l → Kq l w1 := by
        clear hp
        repeat clear hp
        intro w q7 q8 hp l hsub
        refine hKq _ _ _ hsub ?_
        clear hKq Kq hsub
        obtain ⟨t0, _, _, _⟩ := l25_set A B C D U a2 hA.1 hB.1 hC.1 hD.1 hU.1
        obtain ⟨_, t1, _, _⟩ := l25_set a2 B C D U b2 Ba2.1 hB.1 hC.1 hD.1 hU.1
        obtain ⟨_, _, _, _, g5⟩ := l25_get a2 b2 C D U Ba2.1 Bb2.1 hC.1 hD.1 hU.1
        obtain ⟨_, _, t2, _⟩ := l25_set a2 b2 C D U c2 Ba2.1 Bb2.1 hC.1 hD.1 hU.1
        obtain ⟨_, _, _, t3⟩ := l25_set a2 b2 c2 D U d2 Ba2.1 Bb2.1 Bc2.1 hD.1 hU.1
        have len25 : ∀ {A B C D U : List Nat}, Bd A → Bd B → Bd C → Bd D → Bd U → (kw .u64 (L25 A B C D U)).length = 25 := fun hA hB hC hD hU => by
          rw [kw_len]
          simp only [List.length_append, hA.1, hB.1, hC.1, hD.1, hU.1]
        conv => whnf
        refine VSeq.mk fun Kq hKq => ?_
        conv => whnf
        refine v_mixF TTok FFok mixed 15 [1] [(0, false), (2, false), (3, false), (4, false), (5, false), (6, false), (7, false), (8, false), (9, false), (10, false), (11, false), (12, false), (13, false), (14, false)] (by kernel_rfl) ?_
        conv => whnf
        refine ⟨_, fun w' hx' => Blk.ldN (Blk.ext (hp.get (i := 3) rfl) hx') TTok rfl (by rw [kw_len, Bs.1]), ?_⟩
        conv => whnf
        refine ⟨_, fun w' hx' => Blk.ldN (Blk.ext (hp.get (i := 4) rfl) hx') TTok rfl (by rw [kw_len, Bm.1]), ?_⟩
        conv => whnf
        first | refine PureF.quiet (p10) ?_ | refine PureF.quietE (p10) ?_
        conv => whnf
        refine ⟨_, fun w' hx' => Blk.ldN (Blk.ext (hp.get (i := 2) rfl) hx') TTok rfl (by rw [kw_len, Be.1]), ?_⟩
        conv => whnf
        refine ⟨_, fun w' hx' => Blk.ldN (Blk.ext (hp.get (i := 3) rfl) hx') TTok rfl (by rw [kw_len, Bs.1]), ?_⟩
        conv => whnf
        refine ⟨_, fun w' hx' => Blk.ldN (Blk.ext (hp.get (i := 2) rfl) hx') TTok rfl (by rw [kw_len, Be.1]), ?_⟩
        conv => whnf
        refine ⟨.agg (kw .u64 k121).toArray, fun w' hx' => by kernel_rfl, ?_⟩
        conv => whnf
        first | refine PureF.quiet (p11) ?_ | refine PureF.quietE (p11) ?_
        conv => whnf
        first | refine PureF.quiet (p12) ?_ | refine PureF.quietE (p12) ?_
        conv => whnf
        first | refine PureF.quiet (p13) ?_ | refine PureF.quietE (p13) ?_
        conv => whnf
        intro w hx
        try (have hp := hp.call hx)
        conv => whnf
        refine hp.kst (off := 0) TTok rfl 5 rfl (kw .u64 a2) rfl (by rw [kw_len, Ba2.1]) (kwu_one _) (by rw [len25 hA hB hC hD hU]; decide) fun w hp => ?_
        simp only [List.set_cons_zero, List.set_cons_succ] at hp
        rw [t0] at hp
        conv => whnf
        refine hp.kst (off := 5) TTok rfl 5 rfl (kw .u64 b2) rfl (by rw [kw_len, Bb2.1]) (kwu_one _) (by rw [len25 Ba2 hB hC hD hU]; decide) fun w hp => ?_
        simp only [List.set_cons_zero, List.set_cons_succ] at hp
        rw [t1] at hp
        conv => whnf
        refine hKq _ _ _ (V.Sub.refl _) ?_
        clear hKq Kq
        conv => whnf
        refine VSeq.mk fun Kq hKq => ?_
        conv => whnf
        have hK : ∀ (w1 : World) (q9 q10 : Nat), HpM [qb] w0 w1 [blk q9 (kw .u64 x1) 68, blk q10 (kw .u64 x2) 68, blk qb (kw .u64 (L25 a2 b2 C D U)) 73] →
            ∀ l, V.Sub [(0, .v (.pointer (some ⟨qb, 0, none⟩))), (9, .v (.pointer (some ⟨q9, 0, none⟩))), (10, .v (.pointer (some ⟨q10, 0, none⟩)))] l → Kq l w1 := by
          clear hp
          repeat clear hp
          intro w q9 q10 hp l hsub
          refine hKq _ _ _ hsub ?_
          clear hKq Kq hsub
          conv => whnf
          refine v_mixF TTok FFok mixed 16 [1] [(0, false), (2, false), (3, false), (4, false), (5, false), (6, false), (7, false), (8, false), (9, false), (10, false), (11, false), (12, false), (13, false), (14, false), (15, false)] (by kernel_rfl) ?_
          conv => whnf
          refine ⟨_, fun w' hx' => Blk.ldN (Blk.ext (hp.get (i := 0) rfl) hx') TTok rfl (by rw [kw_len, Bx1.1]), ?_⟩
          conv => whnf
          refine ⟨_, fun w' hx' => Blk.ldN (Blk.ext (hp.get (i := 0) rfl) hx') TTok rfl (by rw [kw_len, Bx1.1]), ?_⟩
          conv => whnf
          first | refine PureF.quiet (p16) ?_ | refine PureF.quietE (p16) ?_
          conv => whnf
          refine ⟨_, fun w' hx' => Blk.ldV (off := 20) (Blk.ext (hp.get (i := 2) rfl) hx') TTok rfl (vs := kw .u64 U) g5 (by rw [kw_len, hU.1]), ?_⟩
          conv => whnf
          refine ⟨_, fun w' hx' => Blk.ldN (Blk.ext (hp.get (i := 1) rfl) hx') TTok rfl (by rw [kw_len, Bx2.1]), ?_⟩
          conv => whnf
          refine ⟨_, fun w' hx' => Blk.ldN (Blk.ext (hp.get (i := 1) rfl) hx') TTok rfl (by rw [kw_len, Bx2.1]), ?_⟩
          conv => whnf
          first | refine PureF.quiet (p17) ?_ | refine PureF.quietE (p17) ?_
          conv => whnf
          first | refine PureF.quiet (p18) ?_ | refine PureF.quietE (p18) ?_
          conv => whnf
          intro w hx
          try (have hp := hp.call hx)
          conv => whnf
          refine hp.kst (off := 10) TTok rfl 2 rfl (kw .u64 c2) rfl (by rw [kw_len, Bc2.1]) (kwu_one _) (by rw [len25 Ba2 Bb2 hC hD hU]; decide) fun w hp => ?_
          simp only [List.set_cons_zero, List.set_cons_succ] at hp
          rw [t2] at hp
          conv => whnf
          refine hp.kst (off := 15) TTok rfl 2 rfl (kw .u64 d2) rfl (by rw [kw_len, Bd2.1]) (kwu_one _) (by rw [len25 Ba2 Bb2 Bc2 hD hU]; decide) fun w hp => ?_
          simp only [List.set_cons_zero, List.set_cons_succ] at hp
          rw [t3] at hp
          conv => whnf
          exact ⟨rfl, hp.extM.grownBy, hp.get (i := 2) rfl⟩
        clear hKq
        refine v_mt TTok FFok mixed 8 (.q 0 (.q 1 (.q 2 (.q 3 (.q 4 (.q 5 (.br 6 7 (.m 7 .nil) (.m 6 .nil)))))))) (by kernel_rfl) ?_
        conv => whnf
        refine ⟨_, fun w' hx' => Blk.ldN (Blk.ext (hp.get (i := 0) rfl) hx') TTok rfl (by rw [kw_len, Bf.1]), ?_⟩
        conv => whnf
        refine ⟨_, fun w' hx' => Blk.ldN (Blk.ext (hp.get (i := 1) rfl) hx') TTok rfl (by rw [kw_len, Bg.1]), ?_⟩
        conv => whnf
        first | refine PureF.quiet (p14) ?_ | refine PureF.quietE (p14) ?_
        conv => whnf
        refine ⟨_, fun w' hx' => Blk.ldN (Blk.ext (hp.get (i := 0) rfl) hx') TTok rfl (by rw [kw_len, Bf.1]), ?_⟩
        conv => whnf
        refine ⟨_, fun w' hx' => Blk.ldN (Blk.ext (hp.get (i := 1) rfl) hx') TTok rfl (by rw [kw_len, Bg.1]), ?_⟩
        conv => whnf
        first | refine PureF.quiet (p15) ?_ | refine PureF.quietE (p15) ?_
        conv => whnf
        refine And.intro ?_ ?_
        · intro w hx
          try (have hp := hp.call hx)
          conv => whnf
          refine hp.kalloc z68 fun r1 w hp hx => ?_
          conv => whnf
          refine And.intro hx ?_
          conv => whnf
          intro w hx
          try (have hp := hp.call hx)
          conv => whnf
          refine hp.kalloc z68 fun r2 w hp hx => ?_
          conv => whnf
          refine And.intro hx ?_
          conv => whnf
          intro w hx
          try (have hp := hp.call hx)
          conv => whnf
          refine hp.kstA TTok rfl 1 rfl (by rw [kw_len, Bx1.1]) (kwu_one _) (by rfl) fun w hp => ?_
          try simp only [List.set_cons_zero, List.set_cons_succ, EV.val] at hp
          conv => whnf
          refine hp.kstA TTok rfl 0 rfl (by rw [kw_len, Bx2.1]) (kwu_one _) (by rfl) fun w hp => ?_
          try simp only [List.set_cons_zero, List.set_cons_succ, EV.val] at hp
          conv => whnf
          exact hK _ _ _ (hp.pick [1, 0, 7] (by decide)) _ (sub_cons rfl (sub_cons rfl (sub_cons rfl sub_nil)))
        · intro w hx
          try (have hp := hp.call hx)
          conv => whnf
          refine hp.kalloc z68 fun r2 w hp hx => ?_
          conv => whnf
          refine And.intro hx ?_
          conv => whnf
          intro w hx
          try (have hp := hp.call hx)
          conv => whnf
          refine hp.kalloc z68 fun r1 w hp hx => ?_
          conv => whnf
          refine And.intro hx ?_
          conv => whnf
          intro w hx
          try (have hp := hp.call hx)
          conv => whnf
          refine hp.kstA TTok rfl 0 rfl (by rw [kw_len, Bx1.1]) (kwu_one _) (by rfl) fun w hp => ?_
          try simp only [List.set_cons_zero, List.set_cons_succ, EV.val] at hp
          conv => whnf
          refine hp.kstA TTok rfl 1 rfl (by rw [kw_len, Bx2.1]) (kwu_one _) (by rfl) fun w hp => ?_
          try simp only [List.set_cons_zero, List.set_cons_succ, EV.val] at hp
          conv => whnf
          exact hK _ _ _ (hp.pick [0, 1, 7] (by decide)) _ (sub_cons rfl (sub_cons rfl (sub_cons rfl sub_nil)))
      clear hKq
      refine v_mt TTok FFok mixed 28 (.q 0 (.q 1 (.q 2 (.q 3 (.q 4 (.q 5 (.q 6 (.q 7 (.q 8 (.q 9 (.q 10 (.q 11 (.q 12 (.q 13 (.q 14 (.q 15 (.q 16 (.q 17 (.q 18 (.q 19 (.q 20 (.q 21 (.q 22 (.q 23 (.q 24 (.q 25 (.br 26 27 (.m 27 .nil) (.m 26 .nil)))))))))))))))))))))))))))) (by kernel_rfl) ?_
      conv => whnf
      refine ⟨_, fun w' hx' => Blk.ldV (off := 10) (Blk.ext (hp.get (i := 5) rfl) hx') TTok rfl (vs := kw .u64 C) g2 (by rw [kw_len, hC.1]), ?_⟩
      conv => whnf
      refine ⟨_, fun w' hx' => Blk.ldV (off := 15) (Blk.ext (hp.get (i := 5) rfl) hx') TTok rfl (vs := kw .u64 D) g3 (by rw [kw_len, hD.1]), ?_⟩
      conv => whnf
      first | refine PureF.quiet (p6) ?_ | refine PureF.quietE (p6) ?_
      conv => whnf
      refine ⟨_, fun w' hx' => Blk.ldN (Blk.ext (hp.get (i := 3) rfl) hx') TTok rfl (by rw [kw_len, Bup.1]), ?_⟩
      conv => whnf
      first | refine PureF.quiet (p8) ?_ | refine PureF.quietE (p8) ?_
      conv => whnf
      refine ⟨_, fun w' hx' => Blk.ldV (off := 10) (Blk.ext (hp.get (i := 5) rfl) hx') TTok rfl (vs := kw .u64 C) g2 (by rw [kw_len, hC.1]), ?_⟩
      conv => whnf
      refine ⟨_, fun w' hx' => Blk.ldV (off := 15) (Blk.ext (hp.get (i := 5) rfl) hx') TTok rfl (vs := kw .u64 D) g3 (by rw [kw_len, hD.1]), ?_⟩
      conv => whnf
      first | refine PureF.quiet (p7) ?_ | refine PureF.quietE (p7) ?_
      conv => whnf
      refine ⟨_, fun w' hx' => Blk.ldN (Blk.ext (hp.get (i := 4) rfl) hx') TTok rfl (by rw [kw_len, Bdn.1]), ?_⟩
      conv => whnf
      first | refine PureF.quiet (p9) ?_ | refine PureF.quietE (p9) ?_
      conv => whnf
      refine And.intro ?_ ?_
      · intro w hx
        try (have hp := hp.call hx)
        conv => whnf
        refine hp.kalloc z68 fun r1 w hp hx => ?_
        conv => whnf
        refine And.intro hx ?_
        conv => whnf
        intro w hx
        try (have hp := hp.call hx)
        conv => whnf
        refine hp.kalloc z68 fun r2 w hp hx => ?_
        conv => whnf
        refine And.intro hx ?_
        conv => whnf
        intro w hx
        try (have hp := hp.call hx)
        conv => whnf
        refine hp.kstA TTok rfl 1 rfl (by rw [kw_len, Bf.1]) (kwu_one _) (by rfl) fun w hp => ?_
        try simp only [List.set_cons_zero, List.set_cons_succ, EV.val] at hp
        conv => whnf
        refine hp.kstA TTok rfl 0 rfl (by rw [kw_len, Bg.1]) (kwu_one _) (by rfl) fun w hp => ?_
        try simp only [List.set_cons_zero, List.set_cons_succ, EV.val] at hp
        conv => whnf
        exact hK _ _ _ (hp.pick [1, 0, 2, 3, 4, 7] (by decide)) _ (sub_cons rfl (sub_cons rfl (sub_cons rfl (sub_cons rfl (sub_cons rfl (sub_cons rfl sub_nil))))))
      · intro w hx
        try (have hp := hp.call hx)
        conv => whnf
        refine hp.kalloc z68 fun r2 w hp hx => ?_
        conv => whnf
        refine And.intro hx ?_
        conv => whnf
        intro w hx
        try (have hp := hp.call hx)
        conv => whnf
        refine hp.kalloc z68 fun r1 w hp hx => ?_
        conv => whnf
        refine And.intro hx ?_
        conv => whnf
        intro w hx
        try (have hp := hp.call hx)
        conv => whnf
        refine hp.kstA TTok rfl 0 rfl (by rw [kw_len, Bf.1]) (kwu_one _) (by rfl) fun w hp => ?_
        try simp only [List.set_cons_zero, List.set_cons_succ, EV.val] at hp
        conv => whnf
        refine hp.kstA TTok rfl 1 rfl (by rw [kw_len, Bg.1]) (kwu_one _) (by rfl) fun w hp => ?_
        try simp only [List.set_cons_zero, List.set_cons_succ, EV.val] at hp
        conv => whnf
        exact hK _ _ _ (hp.pick [0, 1, 2, 3, 4, 7] (by decide)) _ (sub_cons rfl (sub_cons rfl (sub_cons rfl (sub_cons rfl (sub_cons rfl (sub_cons rfl sub_nil))))))
    clear hKq
    refine v_mt TTok FFok mixed 8 (.q 0 (.q 1 (.q 2 (.q 3 (.q 4 (.q 5 (.br 6 7 (.m 7 .nil) (.m 6 .nil)))))))) (by kernel_rfl) ?_
    conv => whnf
    refine ⟨_, fun w' hx' => Blk.ldN (Blk.ext (hp.get (i := 0) rfl) hx') TTok rfl (by rw [kw_len, Bup.1]), ?_⟩
    conv => whnf
    refine ⟨_, fun w' hx' => Blk.ldN (Blk.ext (hp.get (i := 0) rfl) hx') TTok rfl (by rw [kw_len, Bup.1]), ?_⟩
    conv => whnf
    first | refine PureF.quiet (p3) ?_ | refine PureF.quietE (p3) ?_
    conv => whnf
    refine ⟨_, fun w' hx' => Blk.ldN (Blk.ext (hp.get (i := 1) rfl) hx') TTok rfl (by rw [kw_len, Bdn.1]), ?_⟩
    conv => whnf
    refine ⟨_, fun w' hx' => Blk.ldN (Blk.ext (hp.get (i := 1) rfl) hx') TTok rfl (by rw [kw_len, Bdn.1]), ?_⟩
    conv => whnf
    first | refine PureF.quiet (p4) ?_ | refine PureF.quietE (p4) ?_
    conv => whnf
    refine And.intro ?_ ?_
    · intro w hx
      try (have hp := hp.call hx)
      conv => whnf
      refine hp.kalloc z68 fun r1 w hp hx => ?_
      conv => whnf
      refine And.intro hx ?_
      conv => whnf
      intro w hx
      try (have hp := hp.call hx)
      conv => whnf
      refine hp.kalloc z68 fun r2 w hp hx => ?_
      conv => whnf
      refine And.intro hx ?_
      conv => whnf
      intro w hx
      try (have hp := hp.call hx)
      conv => whnf
      refine hp.kstA TTok rfl 1 rfl (by rw [kw_len, Bs.1]) (kwu_one _) (by rfl) fun w hp => ?_
      try simp only [List.set_cons_zero, List.set_cons_succ, EV.val] at hp
      conv => whnf
      refine hp.kstA TTok rfl 0 rfl (by rw [kw_len, Bm.1]) (kwu_one _) (by rfl) fun w hp => ?_
      try simp only [List.set_cons_zero, List.set_cons_succ, EV.val] at hp
      conv => whnf
      exact hK _ _ _ (hp.pick [1, 0, 2, 3, 4] (by decide)) _ (sub_cons rfl (sub_cons rfl (sub_cons rfl (sub_cons rfl (sub_cons rfl sub_nil)))))
    · intro w hx
      try (have hp := hp.call hx)
      conv => whnf
      refine hp.kalloc z68 fun r2 w hp hx => ?_
      conv => whnf
      refine And.intro hx ?_
      conv => whnf
      intro w hx
      try (have hp := hp.call hx)
      conv => whnf
      refine hp.kalloc z68 fun r1 w hp hx => ?_
      conv => whnf
      refine And.intro hx ?_
      conv => whnf
      intro w hx
      try (have hp := hp.call hx)
      conv => whnf
      refine hp.kstA TTok rfl 0 rfl (by rw [kw_len, Bs.1]) (kwu_one _) (by rfl) fun w hp => ?_
      try simp only [List.set_cons_zero, List.set_cons_succ, EV.val] at hp
      conv => whnf
      refine hp.kstA TTok rfl 1 rfl (by rw [kw_len, Bm.1]) (kwu_one _) (by rfl) fun w hp => ?_
      try simp only [List.set_cons_zero, List.set_cons_succ, EV.val] at hp
      conv => whnf
      exact hK _ _ _ (hp.pick [0, 1, 2, 3, 4] (by decide)) _ (sub_cons rfl (sub_cons rfl (sub_cons rfl (sub_cons rfl (sub_cons rfl sub_nil)))))
  clear hKq
  refine v_mt TTok FFok mixed 24 (.q 0 (.q 1 (.q 2 (.q 3 (.q 4 (.q 5 (.q 6 (.q 7 (.q 8 (.q 9 (.q 10 (.q 11 (.q 12 (.q 13 (.q 14 (.q 15 (.q 16 (.q 17 (.q 18 (.q 19 (.q 20 (.q 21 (.br 22 23 (.m 23 .nil) (.m 22 .nil)))))))))))))))))))))))) (by kernel_rfl) ?_
  conv => whnf
  refine ⟨_, fun w' hx' => Blk.ldV (off := 0) (Blk.ext (hp.get (i := 0) rfl) hx') TTok rfl (vs := kw .u64 A) g0 (by rw [kw_len, hA.1]), ?_⟩
  conv => whnf
  refine ⟨_, fun w' hx' => Blk.ldV (off := 5) (Blk.ext (hp.get (i := 0) rfl) hx') TTok rfl (vs := kw .u64 B) g1 (by rw [kw_len, hB.1]), ?_⟩
  conv => whnf
  first | refine PureF.quiet (p1) ?_ | refine PureF.quietE (p1) ?_
  conv => whnf
  refine ⟨_, fun w' hx' => Blk.ldV (off := 0) (Blk.ext (hp.get (i := 0) rfl) hx') TTok rfl (vs := kw .u64 A) g0 (by rw [kw_len, hA.1]), ?_⟩
  conv => whnf
  refine ⟨_, fun w' hx' => Blk.ldV (off := 5) (Blk.ext (hp.get (i := 0) rfl) hx') TTok rfl (vs := kw .u64 B) g1 (by rw [kw_len, hB.1]), ?_⟩
  conv => whnf
  first | refine PureF.quiet (p2) ?_ | refine PureF.quietE (p2) ?_
  conv => whnf
  refine And.intro ?_ ?_
  · intro w hx
    try (have hp := hp.call hx)
    conv => whnf
    refine hp.kalloc z68 fun r1 w hp hx => ?_
    conv => whnf
    refine And.intro hx ?_
    conv => whnf
    intro w hx
    try (have hp := hp.call hx)
    conv => whnf
    refine hp.kalloc z68 fun r2 w hp hx => ?_
    conv => whnf
    refine And.intro hx ?_
    conv => whnf
    intro w hx
    try (have hp := hp.call hx)
    conv => whnf
    refine hp.kstA TTok rfl 1 rfl (by rw [kw_len, Bup.1]) (kwu_one _) (by rfl) fun w hp => ?_
    try simp only [List.set_cons_zero, List.set_cons_succ, EV.val] at hp
    conv => whnf
    refine hp.kstA TTok rfl 0 rfl (by rw [kw_len, Bdn.1]) (kwu_one _) (by rfl) fun w hp => ?_
    try simp only [List.set_cons_zero, List.set_cons_succ, EV.val] at hp
    conv => whnf
    exact hK _ _ _ (hp.pick [1, 0, 2] (by decide)) _ (sub_cons rfl (sub_cons rfl (sub_cons rfl sub_nil)))
  · intro w hx
    try (have hp := hp.call hx)
    conv => whnf
    refine hp.kalloc z68 fun r2 w hp hx => ?_
    conv => whnf
    refine And.intro hx ?_
    conv => whnf
    intro w hx
    try (have hp := hp.call hx)
    conv => whnf
    refine hp.kalloc z68 fun r1 w hp hx => ?_
    conv => whnf
    refine And.intro hx ?_
    conv => whnf
    intro w hx
    try (have hp := hp.call hx)
    conv => whnf
    refine hp.kstA TTok rfl 0 rfl (by rw [kw_len, Bup.1]) (kwu_one _) (by rfl) fun w hp => ?_
    try simp only [List.set_cons_zero, List.set_cons_succ, EV.val] at hp
    conv => whnf
    refine hp.kstA TTok rfl 1 rfl (by rw [kw_len, Bdn.1]) (kwu_one _) (by rfl) fun w hp => ?_
    try simp only [List.set_cons_zero, List.set_cons_succ, EV.val] at hp
    conv => whnf
    exact hK _ _ _ (hp.pick [0, 1, 2] (by decide)) _ (sub_cons rfl (sub_cons rfl (sub_cons rfl sub_nil)))
end Go.Proofs.Ytejphmgpndgliaa
