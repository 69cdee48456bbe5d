/- Chapter 02: full blocks are mixed in. -/
import Derived.Test.YtebmmfeegjgbeaaC02F
namespace Go.Proofs.Ytebmmfeegjgbeaa
set_option linter.unusedSimpArgs false
set_option linter.unusedVariables false
open Go.RowKit V
def schP (b : List UInt8) (t : Nat) : List Nat := wsch b t ++ List.replicate (64 - t) 0
theorem schP_len (b : List UInt8) (t : Nat) (h : t ≤ 64) : (schP b t).length = 64 := by
  unfold schP; rw [List.length_append, wsch_len, List.length_replicate]; omega
theorem schP_all (b : List UInt8) : schP b 64 = wsch b 64 := by unfold schP; exact List.append_nil _
theorem schP_get (b : List UInt8) (t i : Nat) (h : i < t) : (schP b t)[i]? = some ((wsch b t).getD i 0) := by
  unfold schP
  rw [List.getElem?_append_left (by rw [wsch_len]; exact h), List.getD_eq_getElem?_getD, List.getElem?_eq_getElem (by rw [wsch_len]; exact h)]; rfl
theorem schP_set (b : List UInt8) (t : Nat) (h : t < 64) : (schP b t).set t (wnext b (wsch b t) t) = schP b (t + 1) := by
  unfold schP
  rw [List.set_append, if_neg (by rw [wsch_len]; omega), wsch_len, Nat.sub_self, wsch, show 64 - t = (64 - (t + 1)) + 1 by omega, List.replicate_succ, List.set_cons_zero, List.append_assoc]; rfl
theorem be4_byt (B : ByteArray) (i : Nat) : be4 B.data.toList i = byt B i * 16777216 + byt B (i + 1) * 65536 + byt B (i + 2) * 256 + byt B (i + 3) := rfl
theorem nat_getD (l : List Nat) (i : Nat) (h : i < l.length) : l[i]? = some (l.getD i 0) := by
  rw [List.getD_eq_getElem?_getD, List.getElem?_eq_getElem h]; rfl
def hC (h : List Nat) (tail : ByteArray) (c : Int) : List Value := kw .u32 h ++ [.string tail, .int .i64 c]
def addP (g v : List Nat) (i : Nat) : List Nat := (addW g v).take i ++ g.drop i
theorem addW_get (g v : List Nat) (i : Nat) (h : i < 8) : (addW g v)[i]? = some ((g.getD i 0 + v.getD i 0) % M32) := by
  unfold addW; rw [List.getElem?_map, List.getElem?_range h]; rfl
theorem addP_zero (g v : List Nat) : addP g v 0 = g := by simp [addP]
theorem addP_all (g v : List Nat) (h : g.length = 8) : addP g v 8 = addW g v := by
  unfold addP; rw [List.drop_eq_nil_of_le (by omega), List.append_nil, List.take_of_length_le (by rw [(addW_W8 g v).1]; exact Nat.le_refl _)]
theorem addP_len (g v : List Nat) (i : Nat) (h : g.length = 8) (hi : i ≤ 8) : (addP g v i).length = 8 := by
  unfold addP; rw [List.length_append, List.length_take, List.length_drop, (addW_W8 g v).1]; omega
theorem addP_get (g v : List Nat) (i : Nat) (h : g.length = 8) (hi : i < 8) : (addP g v i)[i]? = some (g.getD i 0) := by
  unfold addP
  rw [List.getElem?_append_right (by rw [List.length_take]; omega), List.length_take, (addW_W8 g v).1, show i - min i 8 = 0 by omega, List.getElem?_drop, Nat.add_zero, nat_getD g i (by omega)]
theorem addP_set (g v : List Nat) (i : Nat) (h : g.length = 8) (hi : i < 8) : (addP g v i).set i ((g.getD i 0 + v.getD i 0) % M32) = addP g v (i + 1) := by
  unfold addP
  rw [List.set_append, if_neg (by rw [List.length_take]; omega), List.length_take, (addW_W8 g v).1, show i - min i 8 = 0 by omega, List.drop_eq_getElem_cons (by omega), List.set_cons_zero, List.take_add_one, addW_get g v i hi]
  simp
theorem hC_get {l : List Nat} {tail : ByteArray} {c : Int} {i x : Nat} (h : l[i]? = some x) : (hC l tail c)[i]? = some (.int .u32 (x : Nat)) := by
  unfold hC
  have hl : i < l.length := (List.getElem?_eq_some_iff.1 h).1
  rw [List.getElem?_append_left (by rw [kw_len]; exact hl)]
  exact kw_get h
theorem hC_len (l : List Nat) (tail : ByteArray) (c : Int) : (hC l tail c).length = l.length + 2 := by
  unfold hC; rw [List.length_append, kw_len]; rfl
theorem hC_set (l : List Nat) (tail : ByteArray) (c : Int) (i x : Nat) (h : i < l.length) : (hC l tail c).set i (.int .u32 ((x : Nat) : Int)) = hC (l.set i x) tail c := by
  unfold hC
  rw [List.set_append_left _ _ (by rw [kw_len]; exact h), kw_set]
theorem hC_words (g : List Nat) (tail : ByteArray) (c : Int) (h : g.length = 8) : ((hC g tail c).drop 0).take 8 = kw .u32 g := by
  unfold hC
  rw [List.drop_zero, List.take_left' (by rw [kw_len, h])]
set_option maxHeartbeats 16000000 in
theorem mix_c {w0 : World} {qh e : Nat} (s : ByteArray) (h : List Nat) (tail : ByteArray) (c : Int) (hh : W8 h) (hs : s.size ≤ 1000000) (hb : Blk w0 qh (hC h tail c) e) :
    Calls Try.prog 62 #[.pointer (some ⟨qh, 0, none⟩), .string s, hV KL] w0 fun e' w' => ∃ v, e' = .returned v ∧ v = .tuple #[] ∧ w0.grownBy w' (some qh) ∧ Blk w' qh (hC (mixA KL h s.data.toList) tail c) e := by
  have hsl : s.data.toList.length = s.size := by simp
  refine v_fn (args := [.pointer (some ⟨qh, 0, none⟩), .string s, hV KL]) TTok FFok (f := 62) rfl rfl (Nat.le_of_ble_eq_true rfl) ?_
  have hp := (HpM.nil0 [qh] w0).take hb (by simp) (by simp)
  unfold hV
  conv => whnf
  refine VSeq.mk fun Kq hKq => ?_
  conv => whnf
  refine hp.kbox ([.pointer (some ⟨qh, 0, none⟩)]) rfl fun q3 w hp hx => ?_
  conv => whnf
  refine hp.kbox (kw .u32 KL) rfl fun q5 w hp hx => ?_
  conv => whnf
  refine hKq _ _ _ (V.Sub.refl _) ?_
  clear hKq Kq
  conv => whnf
  refine VSeq.mk fun Kq hKq => ?_
  conv => whnf
  refine Calls.mono (blocks_c hp s) ?_
  rintro _ w1 ⟨v, rfl, bs, rfl, hp, hx2⟩
  refine ⟨_, rfl, ?_⟩
  clear hx hx2
  have hp0 := hp.rot 1
  conv => whnf
  refine hKq _ _ _ (V.Sub.refl _) ?_
  clear hKq Kq
  conv => whnf
  refine v_range TTok FFok (blocks_iter s bs) rfl rfl (by kernel_rfl) rfl (fun _ => rfl)
    (fun t X W => t ≤ s.size / 64 ∧ HpM [qh] w0 W (blk q5 (kw .u32 KL) 71 :: blk q3 [.pointer (some ⟨qh, 0, none⟩)] 107 :: blk qh (hC (mixJ KL s.data.toList h t) tail c) e :: X))
    (fun _ _ _ => False)
    (fun t => ⟨fun X A h x hx => h.2.holds x (by simp [hx]), fun X X' A B r h => ⟨h.1, h.2.reframeAt 3 rfl r⟩⟩)
    (fun e => ⟨fun X A h x hx => h.elim, fun X X' A B r h => h.elim⟩)
    (fun t X A h => by omega) [blk bs [.string s] 9] (hp.sub (by simp)) rfl
    (fun B hx => (hp.get (i := 0) rfl : Blk _ _ _ _).ext hx) ⟨by omega, hp0⟩ ?_ ?_ ?_ ?_
  · rintro k X A ⟨hk, hp⟩ hk5
    clear hp0
    conv => whnf
    refine ⟨fun x hx => hp.holds x (by simp [hx]), fun X' B' r => ?_⟩
    have hp := hp.reframeAt 3 rfl r
    simp only [List.take_succ_cons, List.take_zero, List.cons_append, List.nil_append] at hp
    have hkb : 64 * k + 64 ≤ s.size := by omega
    have hBs := blkB_size s k hkb
    have hBl : (blkB s k).data.toList = (s.data.toList.drop (64 * k)).take 64 := rfl
    have hsuc : mixJ KL s.data.toList h (k + 1) = addW (mixJ KL s.data.toList h k) (rnds KL (wsch (blkB s k).data.toList 64) (mixJ KL s.data.toList h k) 64) := rfl
    have hg8 := mixJ_W8 KL s.data.toList hh k
    obtain ⟨g, hgd⟩ : ∃ g, mixJ KL s.data.toList h k = g := ⟨_, rfl⟩
    rw [hgd] at hp hsuc hg8
    obtain ⟨B, hB⟩ : ∃ B, blkB s k = B := ⟨_, rfl⟩
    rw [hB] at hBs hsuc ⊢
    obtain ⟨L, hL⟩ : ∃ L, B.data.toList = L := ⟨_, rfl⟩
    rw [hL] at hsuc
    clear hBl hB hgd
    conv => whnf
    refine VSeq.mk fun Kq hKq => ?_
    conv => whnf
    refine hp.kalloc z71 fun q7 w hp hx => ?_
    conv => whnf
    refine hKq _ _ _ (V.Sub.refl _) ?_
    clear hKq Kq
    conv => whnf
    refine VSeq.mk fun Kq hKq => ?_
    conv => whnf
    refine VSeq.mk fun Kq hKq => ?_
    conv => whnf
    refine hKq _ _ _ (V.Sub.refl _) ?_
    clear hKq Kq
    conv => whnf
    have hp : HpM [qh] w0 w (blk q7 (kw .u32 (schP L 0)) 71 :: blk q5 (kw .u32 KL) 71 :: blk q3 [.pointer (some ⟨qh, 0, none⟩)] 107 :: blk qh (hC g tail c) e :: X') := hp
    refine ⟨fun m l' w' => ∃ (t : Nat), m + t = 64 ∧ l' = [(3, .v (.pointer (some ⟨q3, 0, none⟩))), (5, .v (.pointer (some ⟨q5, 0, none⟩))), (6, .v (.string B)), (7, .v (.pointer (some ⟨q7, 0, none⟩))), (22, .v (.int .i64 t))] ∧
        HpM [qh] w0 w' (blk q7 (kw .u32 (schP L t)) 71 :: blk q5 (kw .u32 KL) 71 :: blk q3 [.pointer (some ⟨qh, 0, none⟩)] 107 :: blk qh (hC g tail c) e :: X'),
      ⟨64, _, ⟨0, by omega, rfl, hp⟩, sub_cons rfl (sub_cons rfl (sub_cons rfl (sub_cons rfl (sub_cons rfl sub_nil))))⟩, ?_⟩
    clear hp hx
    repeat clear hp
    rintro m _ w ⟨t, hm, rfl, hp⟩
    conv => whnf
    refine VSeq.mk fun Kq hKq => ?_
    conv => whnf
    refine hKq _ _ _ (V.Sub.refl _) ?_
    clear hKq Kq
    conv => whnf
    refine VSeq.mk fun Kq hKq => ?_
    conv => whnf
    refine ⟨fun hlt => ?_, fun hlt => ?_⟩
    · have hlt := of_decide_eq_true hlt
      conv => whnf
      refine hKq _ _ _ (V.Sub.refl _) ?_
      clear hKq Kq
      conv => whnf
      refine VSeq.mk fun Kq hKq => ?_
      conv => whnf
      refine VSeq.mk fun Kq hKq => ?_
      conv => whnf
      refine hKq _ _ _ (V.Sub.refl _) ?_
      clear hKq Kq
      conv => whnf
      refine VSeq.mk fun Kq hKq => ?_
      conv => whnf
      refine VSeq.mk fun Kq hKq => ?_
      conv => whnf
      refine hKq _ _ _ (V.Sub.refl _) ?_
      clear hKq Kq
      conv => whnf
      have hset := schP_set L t (by omega)
      have hlen := schP_len L t (by omega)
      refine ⟨fun h16 => ?_, fun h16 => ?_⟩
      · have h16 := of_decide_eq_true h16
        conv => whnf
        refine VSeq.mk fun Kq hKq => ?_
        conv => whnf
        refine And.intro (by omega) ?_
        conv => whnf
        refine And.intro (by omega) ?_
        conv => whnf
        refine And.intro (by omega) ?_
        conv => whnf
        have hwn : wnext L (wsch L t) t = byt B (4 * t) * 16777216 + byt B (4 * t + 1) * 65536 + byt B (4 * t + 2) * 256 + byt B (4 * t + 3) := by
          unfold wnext
          rw [if_pos (by omega), ← hL]
          exact be4_byt B (4 * t)
        rw [hwn] at hset
        refine ⟨4 * t, 4 * t + 4, ⟨by first | rfl | omega, by first | rfl | omega, by omega, by omega⟩, ?_⟩
        conv => whnf
        refine hKq _ _ _ (V.Sub.refl _) ?_
        clear hKq Kq
        conv => whnf
        refine VSeq.mk fun Kq hKq => ?_
        conv => whnf
        have hxs := size_extract B (4 * t) (4 * t + 4) (by omega)
        have x0 : byt (B.extract (4 * t) (4 * t + 4)) 0 = byt B (4 * t) := byt_extract B (4 * t) (4 * t + 4) 0 (by omega) (by omega)
        have x1 := byt_extract B (4 * t) (4 * t + 4) 1 (by omega) (by omega)
        have x2 := byt_extract B (4 * t) (4 * t + 4) 2 (by omega) (by omega)
        have x3 := byt_extract B (4 * t) (4 * t + 4) 3 (by omega) (by omega)
        rw [← x0, ← x1, ← x2, ← x3] at hset
        obtain ⟨x, hxd⟩ : ∃ x, B.extract (4 * t) (4 * t + 4) = x := ⟨_, rfl⟩
        rw [hxd] at hxs hset ⊢
        clear x0 x1 x2 x3 hxd hwn
        have u0 := V.byt_lt x 0
        have u1 := V.byt_lt x 1
        have u2 := V.byt_lt x 2
        have u3 := V.byt_lt x 3
        refine v_mix TTok FFok mixed 20 [(0, false), (1, false), (2, false), (3, false), (4, false), (5, false), (6, false), (7, false), (8, false), (9, false), (10, false), (11, false), (12, false), (13, false), (14, false), (15, false), (16, false), (17, false), (18, false), (19, false)] (by kernel_rfl) ?_
        conv => whnf
        refine ⟨0, ⟨by first | rfl | omega, by omega⟩, ?_⟩
        conv => whnf
        refine And.intro (by omega) ?_
        conv => whnf
        refine ⟨24, ⟨by first | rfl | omega, by omega⟩, ?_⟩
        conv => whnf
        refine ⟨1, ⟨by first | rfl | omega, by omega⟩, ?_⟩
        conv => whnf
        refine And.intro (by omega) ?_
        conv => whnf
        refine ⟨16, ⟨by first | rfl | omega, by omega⟩, ?_⟩
        conv => whnf
        refine ⟨byt x 0 * 16777216, byt x 1 * 65536, byt x 0 * 16777216 + byt x 1 * 65536, ⟨by first | rfl | omega, by first | rfl | omega, by omega, by omega⟩, by (dsimp only; exact nat_join 24 _ _ (by omega) (by omega)), ?_⟩
        conv => whnf
        refine ⟨2, ⟨by first | rfl | omega, by omega⟩, ?_⟩
        conv => whnf
        refine And.intro (by omega) ?_
        conv => whnf
        refine ⟨8, ⟨by first | rfl | omega, by omega⟩, ?_⟩
        conv => whnf
        refine ⟨byt x 0 * 16777216 + byt x 1 * 65536, byt x 2 * 256, byt x 0 * 16777216 + byt x 1 * 65536 + byt x 2 * 256, ⟨by first | rfl | omega, by first | rfl | omega, by omega, by omega⟩, by (dsimp only; exact nat_join 16 _ _ (by omega) (by omega)), ?_⟩
        conv => whnf
        refine ⟨3, ⟨by first | rfl | omega, by omega⟩, ?_⟩
        conv => whnf
        refine And.intro (by omega) ?_
        conv => whnf
        refine ⟨byt x 0 * 16777216 + byt x 1 * 65536 + byt x 2 * 256, byt x 3, byt x 0 * 16777216 + byt x 1 * 65536 + byt x 2 * 256 + byt x 3, ⟨by first | rfl | omega, by first | rfl | omega, by omega, by omega⟩, by (dsimp only; exact nat_join 8 _ _ (by omega) (by omega)), ?_⟩
        conv => whnf
        refine ⟨t, ⟨by first | rfl | omega, by omega⟩, ?_⟩
        conv => whnf
        intro w hx
        try (have hp := hp.call hx)
        conv => whnf
        refine hp.kst1 (off := t) TTok (by rfl) 0 (by rfl) (by rfl) (by rfl) (by rw [kw_len]; omega) fun w hp => ?_
        try simp only [List.set_cons_zero, List.set_cons_succ, EV.val] at hp
        conv => whnf
        refine hKq _ _ _ (V.Sub.refl _) ?_
        clear hKq Kq
        conv => whnf
        clear hKq Kq
        refine hKq _ _ _ (V.Sub.refl _) ?_
        clear hKq Kq
        conv => whnf
        refine And.intro (by omega) ?_
        conv => whnf
        rw [kw_set, hset] at hp
        exact ⟨m - 1, _, by omega, ⟨t + 1, by omega, rfl, hp⟩, sub_cons rfl (sub_cons rfl (sub_cons rfl (sub_cons rfl (sub_cons rfl sub_nil))))⟩
      · have h16 := of_decide_eq_false h16
        conv => whnf
        refine hKq _ _ _ (V.Sub.refl _) ?_
        clear hKq Kq
        conv => whnf
        refine VSeq.mk fun Kq hKq => ?_
        conv => whnf
        have hwn : wnext L (wsch L t) t = ((wsch L t).getD (t - 16) 0 + (wsch L t).getD (t - 7) 0 + sg0 ((wsch L t).getD (t - 15) 0) + sg1 ((wsch L t).getD (t - 2) 0)) % M32 := by unfold wnext; rw [if_neg (by omega)]
        rw [hwn] at hset
        have g16 := schP_get L t (t - 16) (by omega)
        have g7 := schP_get L t (t - 7) (by omega)
        have g15 := schP_get L t (t - 15) (by omega)
        have g2 := schP_get L t (t - 2) (by omega)
        have l16 := getD_lt32 (wsch_lt L t) (t - 16)
        have l7 := getD_lt32 (wsch_lt L t) (t - 7)
        have l15 := getD_lt32 (wsch_lt L t) (t - 15)
        have l2 := getD_lt32 (wsch_lt L t) (t - 2)
        obtain ⟨p, hpd⟩ : ∃ p, (wsch L t).getD (t - 16) 0 = p := ⟨_, rfl⟩
        obtain ⟨q, hqd⟩ : ∃ q, (wsch L t).getD (t - 7) 0 = q := ⟨_, rfl⟩
        obtain ⟨x, hxd⟩ : ∃ x, (wsch L t).getD (t - 15) 0 = x := ⟨_, rfl⟩
        obtain ⟨y, hyd⟩ : ∃ y, (wsch L t).getD (t - 2) 0 = y := ⟨_, rfl⟩
        rw [hpd] at hset g16 l16
        rw [hqd] at hset g7 l7
        rw [hxd] at hset g15 l15
        rw [hyd] at hset g2 l2
        clear hpd hqd hxd hyd hwn
        have s0 := sg0_lt l15
        have s1 := sg1_lt l2
        have e0 : rotl x 25 ^^^ rotl x 14 ^^^ (x / 8) = sg0 x := rfl
        have e1 : rotl y 15 ^^^ rotl y 13 ^^^ (y / 1024) = sg1 y := rfl
        have r25 := rotl_lt x 25 l15 (by decide)
        have r14 := rotl_lt x 14 l15 (by decide)
        have r15 := rotl_lt y 15 l2 (by decide)
        have r13 := rotl_lt y 13 l2 (by decide)
        have rx := xor_lt32 r25 r14
        have ry := xor_lt32 r15 r13
        unfold M32 at l16 l7 l15 l2 s0 s1 rx ry
        refine v_mixA TTok FFok mixed [(0, false), (1, false), (2, false), (3, false), (4, false), (5, false), (6, false), (7, false), (8, false), (9, false)] (by kernel_rfl) ?_
        conv => whnf
        refine And.intro (by omega) ?_
        conv => whnf
        refine ⟨t - 15, ⟨by first | rfl | omega, by omega⟩, ?_⟩
        conv => whnf
        refine ⟨_, fun w' hx' => Blk.ld (Blk.ext (hp.get (i := 0) rfl) hx') TTok rfl (kw_get g15), ?_⟩
        conv => whnf
        refine And.intro (by omega) ?_
        conv => whnf
        refine ⟨t - 2, ⟨by first | rfl | omega, by omega⟩, ?_⟩
        conv => whnf
        refine ⟨_, fun w' hx' => Blk.ld (Blk.ext (hp.get (i := 0) rfl) hx') TTok rfl (kw_get g2), ?_⟩
        conv => whnf
        intro w hx
        try (have hp := hp.call hx)
        conv => whnf
        refine hKq _ _ _ (V.Sub.refl _) ?_
        clear hKq Kq
        conv => whnf
        refine v_mix TTok FFok mixed 29 [(0, false), (1, false), (2, false), (3, false), (4, false), (5, false), (6, false), (7, false), (8, false), (9, false), (10, false), (11, false), (12, false), (13, false), (14, false), (15, false), (16, false), (17, false), (18, false), (19, false), (20, false), (21, false), (22, false), (23, false), (24, false), (25, false), (26, false), (27, false), (28, false)] (by kernel_rfl) ?_
        conv => whnf
        refine And.intro (by omega) ?_
        conv => whnf
        refine ⟨t - 16, ⟨by first | rfl | omega, by omega⟩, ?_⟩
        conv => whnf
        refine ⟨_, fun w' hx' => Blk.ld (Blk.ext (hp.get (i := 0) rfl) hx') TTok rfl (kw_get g16), ?_⟩
        conv => whnf
        refine And.intro (by omega) ?_
        conv => whnf
        refine ⟨t - 7, ⟨by first | rfl | omega, by omega⟩, ?_⟩
        conv => whnf
        refine ⟨_, fun w' hx' => Blk.ld (Blk.ext (hp.get (i := 0) rfl) hx') TTok rfl (kw_get g7), ?_⟩
        conv => whnf
        first | refine PureF.quiet (rotN_p x 7 l15 (by decide) (by decide)) ?_ | refine PureF.quietE (rotN_p x 7 l15 (by decide) (by decide)) ?_
        conv => whnf
        first | refine PureF.quiet (rotN_p x 18 l15 (by decide) (by decide)) ?_ | refine PureF.quietE (rotN_p x 18 l15 (by decide) (by decide)) ?_
        conv => whnf
        refine ⟨rotl x 25, rotl x 14, _, ⟨by first | rfl | omega, by first | rfl | omega, by omega, by omega⟩, rfl, ?_⟩
        conv => whnf
        refine ⟨3, ⟨by first | rfl | omega, by omega⟩, ?_⟩
        conv => whnf
        refine ⟨rotl x 25 ^^^ rotl x 14, x / 8, sg0 x, ⟨by first | rfl | omega, by first | rfl | omega, by omega, by omega⟩, rfl, ?_⟩
        conv => whnf
        first | refine PureF.quiet (rotN_p y 17 l2 (by decide) (by decide)) ?_ | refine PureF.quietE (rotN_p y 17 l2 (by decide) (by decide)) ?_
        conv => whnf
        first | refine PureF.quiet (rotN_p y 19 l2 (by decide) (by decide)) ?_ | refine PureF.quietE (rotN_p y 19 l2 (by decide) (by decide)) ?_
        conv => whnf
        refine ⟨rotl y 15, rotl y 13, _, ⟨by first | rfl | omega, by first | rfl | omega, by omega, by omega⟩, rfl, ?_⟩
        conv => whnf
        refine ⟨10, ⟨by first | rfl | omega, by omega⟩, ?_⟩
        conv => whnf
        refine ⟨rotl y 15 ^^^ rotl y 13, y / 1024, sg1 y, ⟨by first | rfl | omega, by first | rfl | omega, by omega, by omega⟩, rfl, ?_⟩
        conv => whnf
        refine ⟨t, ⟨by first | rfl | omega, by omega⟩, ?_⟩
        conv => whnf
        intro w hx
        try (have hp := hp.call hx)
        conv => whnf
        refine hp.kst1 (off := t) TTok (by rfl) 0 (by rfl) (by rfl) (by rfl) (by rw [kw_len]; omega) fun w hp => ?_
        try simp only [List.set_cons_zero, List.set_cons_succ, EV.val] at hp
        conv => whnf
        refine hKq _ _ _ (V.Sub.refl _) ?_
        clear hKq Kq
        conv => whnf
        refine And.intro (by omega) ?_
        conv => whnf
        rw [show ((((p : Int) + (q : Int)) % 4294967296 + ((sg0 x : Nat) : Int)) % 4294967296 + ((sg1 y : Nat) : Int)) % 4294967296 = (((p + q + sg0 x + sg1 y) % M32 : Nat) : Int) by unfold M32; omega, kw_set, hset] at hp
        exact ⟨m - 1, _, by omega, ⟨t + 1, by omega, rfl, hp⟩, sub_cons rfl (sub_cons rfl (sub_cons rfl (sub_cons rfl (sub_cons rfl sub_nil))))⟩
    · have hlt := of_decide_eq_false hlt
      conv => whnf
      clear hKq Kq
      refine hKq _ _ _ (V.Sub.refl _) ?_
      clear hKq Kq
      conv => whnf
      refine VSeq.mk fun Kq hKq => ?_
      conv => whnf
      obtain rfl : t = 64 := by omega
      rw [schP_all] at hp
      have hWl := wsch_len L 64
      have hWlt := wsch_lt L 64
      obtain ⟨W, hW⟩ : ∃ W, wsch L 64 = W := ⟨_, rfl⟩
      rw [hW] at hp hWl hWlt hsuc
      clear hW hlt hm
      refine ⟨_, _, Blk.ld (hp.get (i := 2) rfl) TTok rfl (rfl), ?_⟩
      conv => whnf
      refine ⟨_, _, Blk.ldV (off := 0) (hp.get (i := 3) rfl) TTok rfl (vs := kw .u32 g) (hC_words g tail c hg8.1) (by rw [kw_len, hg8.1]), ?_⟩
      conv => whnf
      refine hp.kalloc z25 fun q12 w hp hx => ?_
      conv => whnf
      refine hp.kstA TTok rfl 0 rfl (by rw [kw_len, hg8.1]) (kw_one _ _) (by rfl) fun w hp => ?_
      try simp only [List.set_cons_zero, List.set_cons_succ, EV.val] at hp
      conv => whnf
      refine hKq _ _ _ (V.Sub.refl _) ?_
      clear hKq Kq
      conv => whnf
      refine VSeq.mk fun Kq hKq => ?_
      conv => whnf
      refine VSeq.mk fun Kq hKq => ?_
      conv => whnf
      refine hKq _ _ _ (V.Sub.refl _) ?_
      clear hKq Kq
      conv => whnf
      have hp : HpM [qh] w0 w (blk q12 (kw .u32 (rnds KL W g 0)) 25 :: blk q7 (kw .u32 W) 71 :: blk q5 (kw .u32 KL) 71 :: blk q3 [.pointer (some ⟨qh, 0, none⟩)] 107 :: blk qh (hC g tail c) e :: X') := hp
      refine ⟨fun m l' w' => ∃ (t : Nat), m + t = 64 ∧ l' = [(3, .v (.pointer (some ⟨q3, 0, none⟩))), (5, .v (.pointer (some ⟨q5, 0, none⟩))), (7, .v (.pointer (some ⟨q7, 0, none⟩))), (12, .v (.pointer (some ⟨q12, 0, none⟩))), (97, .v (.int .i64 t))] ∧
          HpM [qh] w0 w' (blk q12 (kw .u32 (rnds KL W g t)) 25 :: blk q7 (kw .u32 W) 71 :: blk q5 (kw .u32 KL) 71 :: blk q3 [.pointer (some ⟨qh, 0, none⟩)] 107 :: blk qh (hC g tail c) e :: X'),
        ⟨64, _, ⟨0, by omega, rfl, hp⟩, sub_cons rfl (sub_cons rfl (sub_cons rfl (sub_cons rfl (sub_cons rfl sub_nil))))⟩, ?_⟩
      clear hp hx
      repeat clear hp
      rintro m _ w ⟨t, hm, rfl, hp⟩
      have hv8 := rnds_W8 KL W hg8 t
      conv => whnf
      refine VSeq.mk fun Kq hKq => ?_
      conv => whnf
      refine hKq _ _ _ (V.Sub.refl _) ?_
      clear hKq Kq
      conv => whnf
      refine VSeq.mk fun Kq hKq => ?_
      conv => whnf
      refine ⟨fun hlt => ?_, fun hlt => ?_⟩
      · have hlt := of_decide_eq_true hlt
        conv => whnf
        refine hKq _ _ _ (V.Sub.refl _) ?_
        clear hKq Kq
        conv => whnf
        refine VSeq.mk fun Kq hKq => ?_
        conv => whnf
        refine VSeq.mk fun Kq hKq => ?_
        conv => whnf
        refine hKq _ _ _ (V.Sub.refl _) ?_
        clear hKq Kq
        conv => whnf
        refine VSeq.mk fun Kq hKq => ?_
        conv => whnf
        have hrs : rnds KL W g (t + 1) = rnd8 (rnds KL W g t) (KL.getD t 0) (W.getD t 0) := rfl
        have hgk : KL[t]? = some (KL.getD t 0) := nat_getD _ _ (by rw [KL_len]; omega)
        have hgw : W[t]? = some (W.getD t 0) := nat_getD _ _ (by omega)
        have lk := getD_lt32 KL_lt t
        have lw := getD_lt32 hWlt t
        obtain ⟨v, hvd⟩ : ∃ v, rnds KL W g t = v := ⟨_, rfl⟩
        rw [hvd] at hp hv8 hrs
        obtain ⟨kt, hkt⟩ : ∃ kt, KL.getD t 0 = kt := ⟨_, rfl⟩
        obtain ⟨wt, hwt⟩ : ∃ wt, W.getD t 0 = wt := ⟨_, rfl⟩
        rw [hkt] at hrs hgk lk
        rw [hwt] at hrs hgw lw
        clear hvd hkt hwt
        obtain ⟨a, b, cc, d, ee, ff, gg, hh', rfl⟩ : ∃ a b c d e f g h, v = [a, b, c, d, e, f, g, h] := by
          match v, hv8.1 with
          | [a, b, c, d, e, f, g, h], _ => exact ⟨a, b, c, d, e, f, g, h, rfl⟩
        have la : a < M32 := hv8.2 a (by simp)
        have lb : b < M32 := hv8.2 b (by simp)
        have lc : cc < M32 := hv8.2 cc (by simp)
        have ld : d < M32 := hv8.2 d (by simp)
        have le : ee < M32 := hv8.2 ee (by simp)
        have lf : ff < M32 := hv8.2 ff (by simp)
        have lg : gg < M32 := hv8.2 gg (by simp)
        have lh : hh' < M32 := hv8.2 hh' (by simp)
        have r26 := rotl_lt ee 26 le (by decide)
        have r21 := rotl_lt ee 21 le (by decide)
        have r7 := rotl_lt ee 7 le (by decide)
        have r30 := rotl_lt a 30 la (by decide)
        have r19 := rotl_lt a 19 la (by decide)
        have r10 := rotl_lt a 10 la (by decide)
        have re1 := xor_lt32 r26 r21
        have ra1 := xor_lt32 r30 r19
        have be := bs1_lt le
        have ba := bs0_lt la
        have hch := chf_lt (f := ff) le lg
        have hmj := maj_lt (c := cc) la lb
        have aef := and_lt32 (y := ff) le
        have ng : (4294967295 - ee) &&& gg < M32 := Nat.lt_of_le_of_lt Nat.and_le_right lg
        have aab := and_lt32 (y := b) la
        have aac := and_lt32 (y := cc) la
        have abc := and_lt32 (y := cc) lb
        have axx := xor_lt32 aab aac
        have hone : one [a, b, cc, d, ee, ff, gg, hh'] kt wt = (hh' + bs1 ee + chf ee ff gg + kt + wt) % M32 := rfl
        have htwo : two [a, b, cc, d, ee, ff, gg, hh'] = (bs0 a + maj a b cc) % M32 := rfl
        have hrn : rnd8 [a, b, cc, d, ee, ff, gg, hh'] kt wt = [(one [a, b, cc, d, ee, ff, gg, hh'] kt wt + two [a, b, cc, d, ee, ff, gg, hh']) % M32, a, b, cc, (d + one [a, b, cc, d, ee, ff, gg, hh'] kt wt) % M32, ee, ff, gg] := rfl
        rw [hrn, hone, htwo] at hrs
        unfold M32 at la lb lc ld le lf lg lh lk lw re1 ra1 be ba hch hmj aef ng aab aac abc axx hrs
        refine v_mixA TTok FFok mixed [(0, false), (1, false), (2, false), (3, false), (4, false), (5, false)] (by kernel_rfl) ?_
        conv => whnf
        refine ⟨0, ⟨by first | rfl | omega, by omega⟩, ?_⟩
        conv => whnf
        refine ⟨_, fun w' hx' => Blk.ld (Blk.ext (hp.get (i := 0) rfl) hx') TTok rfl (rfl), ?_⟩
        conv => whnf
        refine ⟨4, ⟨by first | rfl | omega, by omega⟩, ?_⟩
        conv => whnf
        refine ⟨_, fun w' hx' => Blk.ld (Blk.ext (hp.get (i := 0) rfl) hx') TTok rfl (rfl), ?_⟩
        conv => whnf
        intro w hx
        try (have hp := hp.call hx)
        conv => whnf
        refine hKq _ _ _ (V.Sub.refl _) ?_
        clear hKq Kq
        conv => whnf
        refine VSeq.mk fun Kq hKq => ?_
        conv => whnf
        refine v_mixA TTok FFok mixed [(0, false), (1, false), (2, false), (3, false), (4, false), (5, false), (6, false), (7, false), (8, false), (9, false), (10, false), (11, false), (12, false), (13, false), (14, false), (15, false), (16, false), (17, false), (18, false), (19, false), (20, false), (21, false), (22, false), (23, false), (24, false), (25, false), (26, false), (27, false), (28, false), (29, false), (30, false)] (by kernel_rfl) ?_
        conv => whnf
        refine ⟨7, ⟨by first | rfl | omega, by omega⟩, ?_⟩
        conv => whnf
        refine ⟨_, fun w' hx' => Blk.ld (Blk.ext (hp.get (i := 0) rfl) hx') TTok rfl (rfl), ?_⟩
        conv => whnf
        first | refine PureF.quiet (rotN_p ee 6 le (by decide) (by decide)) ?_ | refine PureF.quietE (rotN_p ee 6 le (by decide) (by decide)) ?_
        conv => whnf
        first | refine PureF.quiet (rotN_p ee 11 le (by decide) (by decide)) ?_ | refine PureF.quietE (rotN_p ee 11 le (by decide) (by decide)) ?_
        conv => whnf
        refine ⟨rotl ee 26, rotl ee 21, _, ⟨by first | rfl | omega, by first | rfl | omega, by omega, by omega⟩, rfl, ?_⟩
        conv => whnf
        first | refine PureF.quiet (rotN_p ee 25 le (by decide) (by decide)) ?_ | refine PureF.quietE (rotN_p ee 25 le (by decide) (by decide)) ?_
        conv => whnf
        refine ⟨rotl ee 26 ^^^ rotl ee 21, rotl ee 7, bs1 ee, ⟨by first | rfl | omega, by first | rfl | omega, by omega, by omega⟩, rfl, ?_⟩
        conv => whnf
        refine ⟨5, ⟨by first | rfl | omega, by omega⟩, ?_⟩
        conv => whnf
        refine ⟨_, fun w' hx' => Blk.ld (Blk.ext (hp.get (i := 0) rfl) hx') TTok rfl (rfl), ?_⟩
        conv => whnf
        refine ⟨ee, ff, _, ⟨by first | rfl | omega, by first | rfl | omega, by omega, by omega⟩, rfl, ?_⟩
        conv => whnf
        refine And.intro (by omega) ?_
        conv => whnf
        refine ⟨6, ⟨by first | rfl | omega, by omega⟩, ?_⟩
        conv => whnf
        refine ⟨_, fun w' hx' => Blk.ld (Blk.ext (hp.get (i := 0) rfl) hx') TTok rfl (rfl), ?_⟩
        conv => whnf
        refine ⟨4294967295 - ee, gg, _, ⟨by first | rfl | omega, by first | rfl | omega, by omega, by omega⟩, rfl, ?_⟩
        conv => whnf
        refine ⟨ee &&& ff, (4294967295 - ee) &&& gg, chf ee ff gg, ⟨by first | rfl | omega, by first | rfl | omega, by omega, by omega⟩, rfl, ?_⟩
        conv => whnf
        refine ⟨t, ⟨by first | rfl | omega, by omega⟩, ?_⟩
        conv => whnf
        refine ⟨_, fun w' hx' => Blk.ld (Blk.ext (hp.get (i := 2) rfl) hx') TTok rfl (kw_get hgk), ?_⟩
        conv => whnf
        refine ⟨t, ⟨by first | rfl | omega, by omega⟩, ?_⟩
        conv => whnf
        refine ⟨_, fun w' hx' => Blk.ld (Blk.ext (hp.get (i := 1) rfl) hx') TTok rfl (kw_get hgw), ?_⟩
        conv => whnf
        intro w hx
        try (have hp := hp.call hx)
        conv => whnf
        refine hKq _ _ _ (V.Sub.refl _) ?_
        clear hKq Kq
        conv => whnf
        refine VSeq.mk fun Kq hKq => ?_
        conv => whnf
        obtain ⟨O, hO⟩ : ∃ O, (hh' + bs1 ee + chf ee ff gg + kt + wt) % 4294967296 = O := ⟨_, rfl⟩
        have hO2 : (((((hh' : Nat) : Int) + ((bs1 ee : Nat) : Int)) % 4294967296 + ((chf ee ff gg : Nat) : Int)) % 4294967296 + (kt : Int)) % 4294967296 + (wt : Int) = ((((((hh' : Nat) : Int) + ((bs1 ee : Nat) : Int)) % 4294967296 + ((chf ee ff gg : Nat) : Int)) % 4294967296 + (kt : Int)) % 4294967296 + (wt : Int)) := rfl
        rw [show ((((((hh' : Nat) : Int) + ((bs1 ee : Nat) : Int)) % 4294967296 + ((chf ee ff gg : Nat) : Int)) % 4294967296 + (kt : Int)) % 4294967296 + (wt : Int)) % 4294967296 = ((O : Nat) : Int) by rw [← hO]; omega]
        have lO : O < 4294967296 := by rw [← hO]; exact Nat.mod_lt _ (by decide)
        rw [hO] at hrs
        clear hO2
        refine v_mixA TTok FFok mixed [(0, false), (1, false), (2, false), (3, false), (4, false), (5, false), (6, false), (7, false), (8, false), (9, false), (10, false), (11, false), (12, false), (13, false), (14, false), (15, false), (16, false), (17, false), (18, false), (19, false), (20, false), (21, false), (22, false), (23, false), (24, false)] (by kernel_rfl) ?_
        conv => whnf
        first | refine PureF.quiet (rotN_p a 2 la (by decide) (by decide)) ?_ | refine PureF.quietE (rotN_p a 2 la (by decide) (by decide)) ?_
        conv => whnf
        first | refine PureF.quiet (rotN_p a 13 la (by decide) (by decide)) ?_ | refine PureF.quietE (rotN_p a 13 la (by decide) (by decide)) ?_
        conv => whnf
        refine ⟨rotl a 30, rotl a 19, _, ⟨by first | rfl | omega, by first | rfl | omega, by omega, by omega⟩, rfl, ?_⟩
        conv => whnf
        first | refine PureF.quiet (rotN_p a 22 la (by decide) (by decide)) ?_ | refine PureF.quietE (rotN_p a 22 la (by decide) (by decide)) ?_
        conv => whnf
        refine ⟨rotl a 30 ^^^ rotl a 19, rotl a 10, bs0 a, ⟨by first | rfl | omega, by first | rfl | omega, by omega, by omega⟩, rfl, ?_⟩
        conv => whnf
        refine ⟨1, ⟨by first | rfl | omega, by omega⟩, ?_⟩
        conv => whnf
        refine ⟨_, fun w' hx' => Blk.ld (Blk.ext (hp.get (i := 0) rfl) hx') TTok rfl (rfl), ?_⟩
        conv => whnf
        refine ⟨a, b, _, ⟨by first | rfl | omega, by first | rfl | omega, by omega, by omega⟩, rfl, ?_⟩
        conv => whnf
        refine ⟨2, ⟨by first | rfl | omega, by omega⟩, ?_⟩
        conv => whnf
        refine ⟨_, fun w' hx' => Blk.ld (Blk.ext (hp.get (i := 0) rfl) hx') TTok rfl (rfl), ?_⟩
        conv => whnf
        refine ⟨a, cc, _, ⟨by first | rfl | omega, by first | rfl | omega, by omega, by omega⟩, rfl, ?_⟩
        conv => whnf
        refine ⟨a &&& b, a &&& cc, _, ⟨by first | rfl | omega, by first | rfl | omega, by omega, by omega⟩, rfl, ?_⟩
        conv => whnf
        refine ⟨1, ⟨by first | rfl | omega, by omega⟩, ?_⟩
        conv => whnf
        refine ⟨_, fun w' hx' => Blk.ld (Blk.ext (hp.get (i := 0) rfl) hx') TTok rfl (rfl), ?_⟩
        conv => whnf
        refine ⟨2, ⟨by first | rfl | omega, by omega⟩, ?_⟩
        conv => whnf
        refine ⟨_, fun w' hx' => Blk.ld (Blk.ext (hp.get (i := 0) rfl) hx') TTok rfl (rfl), ?_⟩
        conv => whnf
        refine ⟨b, cc, _, ⟨by first | rfl | omega, by first | rfl | omega, by omega, by omega⟩, rfl, ?_⟩
        conv => whnf
        refine ⟨(a &&& b) ^^^ (a &&& cc), b &&& cc, maj a b cc, ⟨by first | rfl | omega, by first | rfl | omega, by omega, by omega⟩, rfl, ?_⟩
        conv => whnf
        intro w hx
        try (have hp := hp.call hx)
        conv => whnf
        refine hKq _ _ _ (V.Sub.refl _) ?_
        clear hKq Kq
        conv => whnf
        obtain ⟨T, hT⟩ : ∃ T, (bs0 a + maj a b cc) % 4294967296 = T := ⟨_, rfl⟩
        rw [show (((bs0 a : Nat) : Int) + ((maj a b cc : Nat) : Int)) % 4294967296 = ((T : Nat) : Int) by rw [← hT]; omega]
        have lT : T < 4294967296 := by rw [← hT]; exact Nat.mod_lt _ (by decide)
        rw [hT] at hrs
        rw [show ((O : Int) + (T : Int)) % 4294967296 = (((O + T) % 4294967296 : Nat) : Int) by omega]
        refine ⟨0, ⟨by first | rfl | omega, by omega⟩, ?_⟩
        conv => whnf
        refine ⟨_, _, Blk.ld (hp.get (i := 0) rfl) TTok rfl (rfl), ?_⟩
        conv => whnf
        refine ⟨1, ⟨by first | rfl | omega, by omega⟩, ?_⟩
        conv => whnf
        refine ⟨_, _, Blk.ld (hp.get (i := 0) rfl) TTok rfl (rfl), ?_⟩
        conv => whnf
        refine ⟨2, ⟨by first | rfl | omega, by omega⟩, ?_⟩
        conv => whnf
        refine ⟨_, _, Blk.ld (hp.get (i := 0) rfl) TTok rfl (rfl), ?_⟩
        conv => whnf
        refine ⟨3, ⟨by first | rfl | omega, by omega⟩, ?_⟩
        conv => whnf
        refine ⟨_, _, Blk.ld (hp.get (i := 0) rfl) TTok rfl (rfl), ?_⟩
        conv => whnf
        rw [show ((d : Int) + (O : Int)) % 4294967296 = (((d + O) % 4294967296 : Nat) : Int) by omega]
        refine ⟨4, ⟨by first | rfl | omega, by omega⟩, ?_⟩
        conv => whnf
        refine ⟨_, _, Blk.ld (hp.get (i := 0) rfl) TTok rfl (rfl), ?_⟩
        conv => whnf
        refine ⟨5, ⟨by first | rfl | omega, by omega⟩, ?_⟩
        conv => whnf
        refine ⟨_, _, Blk.ld (hp.get (i := 0) rfl) TTok rfl (rfl), ?_⟩
        conv => whnf
        refine ⟨6, ⟨by first | rfl | omega, by omega⟩, ?_⟩
        conv => whnf
        refine ⟨_, _, Blk.ld (hp.get (i := 0) rfl) TTok rfl (rfl), ?_⟩
        conv => whnf
        first | refine ⟨.agg (kw .u32 [(O + T) % 4294967296, a, b, cc, (d + O) % 4294967296, ee, ff, gg]).toArray, w, by kernel_rfl, ?_⟩ | refine ⟨.agg (kw .u32 [(O + T) % 4294967296, a, b, cc, (d + O) % 4294967296, ee, ff, gg]).toArray, w0, by kernel_rfl, ?_⟩
        conv => whnf
        refine hp.kstA TTok rfl 0 rfl (by rfl) (kw_one _ _) (by rfl) fun w hp => ?_
        try simp only [List.set_cons_zero, List.set_cons_succ, EV.val] at hp
        conv => whnf
        refine hKq _ _ _ (V.Sub.refl _) ?_
        clear hKq Kq
        conv => whnf
        refine And.intro (by omega) ?_
        conv => whnf
        rw [← hrs] at hp
        exact ⟨m - 1, _, by omega, ⟨t + 1, by omega, rfl, hp⟩, sub_cons rfl (sub_cons rfl (sub_cons rfl (sub_cons rfl (sub_cons rfl sub_nil))))⟩
      · have hlt := of_decide_eq_false hlt
        conv => whnf
        clear hKq Kq
        refine hKq _ _ _ (V.Sub.refl _) ?_
        clear hKq Kq
        conv => whnf
        refine VSeq.mk fun Kq hKq => ?_
        conv => whnf
        refine hKq _ _ _ (V.Sub.refl _) ?_
        clear hKq Kq
        conv => whnf
        obtain rfl : t = 64 := by omega
        clear hlt hm
        obtain ⟨v, hvd⟩ : ∃ v, rnds KL W g 64 = v := ⟨_, rfl⟩
        rw [hvd] at hp hv8 hsuc
        clear hvd
        have hp : HpM [qh] w0 w (blk q12 (kw .u32 v) 25 :: blk q7 (kw .u32 W) 71 :: blk q5 (kw .u32 KL) 71 :: blk q3 [.pointer (some ⟨qh, 0, none⟩)] 107 :: blk qh (hC (addP g v 0) tail c) e :: X') := by rw [addP_zero]; exact hp
        refine ⟨fun m l' w' => ∃ (t : Nat), m + t = 8 ∧ l' = [(3, .v (.pointer (some ⟨q3, 0, none⟩))), (12, .v (.pointer (some ⟨q12, 0, none⟩))), (179, .v (.int .i64 t))] ∧
            HpM [qh] w0 w' (blk q12 (kw .u32 v) 25 :: blk q7 (kw .u32 W) 71 :: blk q5 (kw .u32 KL) 71 :: blk q3 [.pointer (some ⟨qh, 0, none⟩)] 107 :: blk qh (hC (addP g v t) tail c) e :: X'),
          ⟨8, _, ⟨0, by omega, rfl, hp⟩, sub_cons rfl (sub_cons rfl (sub_cons rfl sub_nil))⟩, ?_⟩
        clear hp
        repeat clear hp
        rintro m _ w ⟨t, hm, rfl, hp⟩
        conv => whnf
        refine VSeq.mk fun Kq hKq => ?_
        conv => whnf
        refine hKq _ _ _ (V.Sub.refl _) ?_
        clear hKq Kq
        conv => whnf
        refine VSeq.mk fun Kq hKq => ?_
        conv => whnf
        refine ⟨fun hlt => ?_, fun hlt => ?_⟩
        · have hlt := of_decide_eq_true hlt
          conv => whnf
          refine hKq _ _ _ (V.Sub.refl _) ?_
          clear hKq Kq
          conv => whnf
          refine VSeq.mk fun Kq hKq => ?_
          conv => whnf
          refine VSeq.mk fun Kq hKq => ?_
          conv => whnf
          refine hKq _ _ _ (V.Sub.refl _) ?_
          clear hKq Kq
          conv => whnf
          have ha := addP_get g v t hg8.1 (by omega)
          have hse := addP_set g v t hg8.1 (by omega)
          have hal := addP_len g v t hg8.1 (by omega)
          have hgv : v[t]? = some (v.getD t 0) := nat_getD _ _ (by rw [hv8.1]; omega)
          have lg := hg8.get t
          have lv := hv8.get t
          obtain ⟨x, hxd⟩ : ∃ x, g.getD t 0 = x := ⟨_, rfl⟩
          obtain ⟨y, hyd⟩ : ∃ y, v.getD t 0 = y := ⟨_, rfl⟩
          rw [hxd] at ha hse lg
          rw [hyd] at hgv hse lv
          clear hxd hyd
          refine v_mix TTok FFok mixed 15 [(0, false), (1, false), (2, false), (3, false), (4, false), (5, false), (6, false), (7, false), (8, false), (9, false), (10, false), (11, false), (12, false), (13, false), (14, false)] (by kernel_rfl) ?_
          conv => whnf
          refine ⟨_, fun w' hx' => Blk.ld (Blk.ext (hp.get (i := 3) rfl) hx') TTok rfl (rfl), ?_⟩
          conv => whnf
          refine ⟨t, ⟨by first | rfl | omega, by omega⟩, ?_⟩
          conv => whnf
          refine ⟨_, fun w' hx' => Blk.ld (Blk.ext (hp.get (i := 4) rfl) hx') TTok rfl (hC_get ha), ?_⟩
          conv => whnf
          refine ⟨t, ⟨by first | rfl | omega, by omega⟩, ?_⟩
          conv => whnf
          refine ⟨_, fun w' hx' => Blk.ld (Blk.ext (hp.get (i := 0) rfl) hx') TTok rfl (kw_get hgv), ?_⟩
          conv => whnf
          refine ⟨t, ⟨by first | rfl | omega, by omega⟩, ?_⟩
          conv => whnf
          intro w hx
          try (have hp := hp.call hx)
          conv => whnf
          refine hp.kst1 (off := t) TTok (by rfl) 4 (by rfl) (by rfl) (by rfl) (by rw [hC_len, hal]; omega) fun w hp => ?_
          try simp only [List.set_cons_zero, List.set_cons_succ, EV.val] at hp
          conv => whnf
          refine hKq _ _ _ (V.Sub.refl _) ?_
          clear hKq Kq
          conv => whnf
          refine And.intro (by omega) ?_
          conv => whnf
          rw [show ((x : Int) + (y : Int)) % 4294967296 = (((x + y) % M32 : Nat) : Int) by unfold M32; omega, hC_set _ _ _ _ _ (by rw [hal]; omega), hse] at hp
          exact ⟨m - 1, _, by omega, ⟨t + 1, by omega, rfl, hp⟩, sub_cons rfl (sub_cons rfl (sub_cons rfl sub_nil))⟩
        · have hlt := of_decide_eq_false hlt
          conv => whnf
          refine And.intro (by omega) ?_
          conv => whnf
          obtain rfl : t = 8 := by omega
          rw [addP_all g v hg8.1, ← hsuc] at hp
          exact hp.tail.tail
  · rintro D k X W rfl ⟨_, hp⟩
    conv => whnf
    have hp2 := hp.shut (i := 3) rfl (o' := .deferred none)
    refine ⟨hp.get (i := 3) rfl, ?_⟩
    conv => whnf
    refine ⟨rfl, hp2.extM.grownBy, ?_⟩
    have := hp2.get (i := 2) rfl
    unfold mixA
    rw [hsl]
    exact this
  · rintro D X W h; exact h.elim
  · rintro i D X W h; exact h.elim
end Go.Proofs.Ytebmmfeegjgbeaa
