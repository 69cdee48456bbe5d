/- Chapter 02: full blocks are mixed in. -/
/- Chapter 02: octets are added. -/
/- Chapter 02: the digest at the end. -/
/- Chapter 02: Start, Check, More, End of the program; made, long, sum. -/
/- Chapter 02: End, More of the program; made, long, sum. -/
/- Chapter 02: made, long, sum of the program. -/
import Derived.Test.YtmlmfmdmomegpaaGreatDoorKN07
namespace Go.Proofs.YtmlmfmdmomegpaaGreatDoor
set_option linter.unusedSimpArgs false
set_option linter.unusedVariables false
set_option maxRecDepth 100000
open Go.RowKit V
def schP (b : List UInt8) (t : Nat) : List Nat := wsch b t ++ List.replicate (64 - t) 0
theorem schP_len (b : List UInt8) (t : Nat) (h : t ≤ 64) : (schP b t).length = 64 := by
  unfold schP; rw [List.length_append, wsch_len, List.length_replicate]; omega
theorem schP_all (b : List UInt8) : schP b 64 = wsch b 64 := by unfold schP; exact List.append_nil _
theorem schP_get (b : List UInt8) (t i : Nat) (h : i < t) : (schP b t)[i]? = some ((wsch b t).getD i 0) := by
  unfold schP
  rw [List.getElem?_append_left (by rw [wsch_len]; exact h), List.getD_eq_getElem?_getD, List.getElem?_eq_getElem (by rw [wsch_len]; exact h)]; rfl
theorem schP_set (b : List UInt8) (t : Nat) (h : t < 64) : (schP b t).set t (wnext b (wsch b t) t) = schP b (t + 1) := by
  unfold schP
  rw [List.set_append, if_neg (by rw [wsch_len]; omega), wsch_len, Nat.sub_self, wsch, show 64 - t = (64 - (t + 1)) + 1 by omega, List.replicate_succ, List.set_cons_zero, List.append_assoc]; rfl
theorem be4_byt (B : ByteArray) (i : Nat) : be4 B.data.toList i = byt B i * 16777216 + byt B (i + 1) * 65536 + byt B (i + 2) * 256 + byt B (i + 3) := rfl
theorem nat_getD (l : List Nat) (i : Nat) (h : i < l.length) : l[i]? = some (l.getD i 0) := by
  rw [List.getD_eq_getElem?_getD, List.getElem?_eq_getElem h]; rfl
def hC (h : List Nat) (tail : ByteArray) (c : Int) : List Value := kw .u32 h ++ [.string tail, .int .i64 c]
def addP (g v : List Nat) (i : Nat) : List Nat := (addW g v).take i ++ g.drop i
theorem addW_get (g v : List Nat) (i : Nat) (h : i < 8) : (addW g v)[i]? = some ((g.getD i 0 + v.getD i 0) % M32) := by
  unfold addW; rw [List.getElem?_map, List.getElem?_range h]; rfl
theorem addP_zero (g v : List Nat) : addP g v 0 = g := by simp [addP]
theorem addP_all (g v : List Nat) (h : g.length = 8) : addP g v 8 = addW g v := by
  unfold addP; rw [List.drop_eq_nil_of_le (by omega), List.append_nil, List.take_of_length_le (by rw [(addW_W8 g v).1]; exact Nat.le_refl _)]
theorem addP_len (g v : List Nat) (i : Nat) (h : g.length = 8) (hi : i ≤ 8) : (addP g v i).length = 8 := by
  unfold addP; rw [List.length_append, List.length_take, List.length_drop, (addW_W8 g v).1]; omega
theorem addP_get (g v : List Nat) (i : Nat) (h : g.length = 8) (hi : i < 8) : (addP g v i)[i]? = some (g.getD i 0) := by
  unfold addP
  rw [List.getElem?_append_right (by rw [List.length_take]; omega), List.length_take, (addW_W8 g v).1, show i - min i 8 = 0 by omega, List.getElem?_drop, Nat.add_zero, nat_getD g i (by omega)]
theorem addP_set (g v : List Nat) (i : Nat) (h : g.length = 8) (hi : i < 8) : (addP g v i).set i ((g.getD i 0 + v.getD i 0) % M32) = addP g v (i + 1) := by
  unfold addP
  rw [List.set_append, if_neg (by rw [List.length_take]; omega), List.length_take, (addW_W8 g v).1, show i - min i 8 = 0 by omega, List.drop_eq_getElem_cons (by omega), List.set_cons_zero, List.take_add_one, addW_get g v i hi]
  simp
theorem hC_get {l : List Nat} {tail : ByteArray} {c : Int} {i x : Nat} (h : l[i]? = some x) : (hC l tail c)[i]? = some (.int .u32 (x : Nat)) := by
  unfold hC
  have hl : i < l.length := (List.getElem?_eq_some_iff.1 h).1
  rw [List.getElem?_append_left (by rw [kw_len]; exact hl)]
  exact kw_get h
theorem hC_len (l : List Nat) (tail : ByteArray) (c : Int) : (hC l tail c).length = l.length + 2 := by
  unfold hC; rw [List.length_append, kw_len]; rfl
theorem hC_set (l : List Nat) (tail : ByteArray) (c : Int) (i x : Nat) (h : i < l.length) : (hC l tail c).set i (.int .u32 ((x : Nat) : Int)) = hC (l.set i x) tail c := by
  unfold hC
  rw [List.set_append_left _ _ (by rw [kw_len]; exact h), kw_set]
theorem hC_words (g : List Nat) (tail : ByteArray) (c : Int) (h : g.length = 8) : ((hC g tail c).drop 0).take 8 = kw .u32 g := by
  unfold hC
  rw [List.drop_zero, List.take_left' (by rw [kw_len, h])]
set_option maxHeartbeats 16000000 in
theorem mix_c {w0 : World} {qh e : Nat} (s : ByteArray) (h : List Nat) (tail : ByteArray) (c : Int) (hh : W8 h) (hs : s.size ≤ 1000000) (hb : Blk w0 qh (hC h tail c) e) :
    Calls Tryz.prog 169 #[.pointer (some ⟨qh, 0, none⟩), .string s, hV KL] w0 fun e' w' => ∃ v, e' = .returned v ∧ v = .tuple #[] ∧ w0.grownBy w' (some qh) ∧ Blk w' qh (hC (mixA KL h s.data.toList) tail c) e := by
  have hsl : s.data.toList.length = s.size := by simp
  refine v_fn (args := [.pointer (some ⟨qh, 0, none⟩), .string s, hV KL]) TTok FFok (f := 169) rfl rfl (Nat.le_of_ble_eq_true rfl) ?_
  have hp := (HpM.nil0 [qh] w0).take hb (by simp) (by simp)
  unfold hV
  conv => whnf
  refine VSeq.mk fun Kq hKq => ?_
  conv => whnf
  refine hp.kbox ([.pointer (some ⟨qh, 0, none⟩)]) rfl fun q3 w hp hx => ?_
  conv => whnf
  refine hp.kbox (kw .u32 KL) rfl fun q5 w hp hx => ?_
  conv => whnf
  refine hKq _ _ _ (.refl _) ?_
  clear hKq Kq
  conv => whnf
  refine VSeq.mk fun Kq hKq => ?_
  conv => whnf
  refine Calls.mono (blocks_c hp s) ?_
  rintro _ w1 ⟨v, rfl, bs, rfl, hp, hx2⟩
  refine ⟨_, rfl, ?_⟩
  clear hx hx2
  have hp0 := hp.rot 1
  conv => whnf
  refine hKq _ _ _ (.refl _) ?_
  clear hKq Kq
  conv => whnf
  refine v_range TTok FFok (blocks_iter s bs) rfl rfl (by kernel_rfl) rfl (fun _ => rfl)
    (fun t X W => t ≤ s.size / 64 ∧ HpM [qh] w0 W (blk q5 (kw .u32 KL) 158 :: blk q3 [.pointer (some ⟨qh, 0, none⟩)] 247 :: blk qh (hC (mixJ KL s.data.toList h t) tail c) e :: X))
    (fun _ _ _ => False)
    (fun t => ⟨fun X A h x hx => h.2.holds x (by simp [hx]), fun X X' A B r h => ⟨h.1, h.2.reframeAt 3 rfl r⟩⟩)
    (fun e => ⟨fun X A h x hx => h.elim, fun X X' A B r h => h.elim⟩)
    (fun t X A h => by omega) [blk bs [.string s] 9] (hp.sub (by simp)) rfl
    (fun B hx => (hp.get (i := 0) rfl : Blk _ _ _ _).ext hx) ⟨by omega, hp0⟩ ?_ ?_ ?_ ?_
  · rintro k X A ⟨hk, hp⟩ hk5
    clear hp0
    conv => whnf
    refine ⟨fun x hx => hp.holds x (by simp [hx]), fun X' B' r => ?_⟩
    have hp := hp.reframeAt 3 rfl r
    simp only [List.take_succ_cons, List.take_zero, List.cons_append, List.nil_append] at hp
    have hkb : 64 * k + 64 ≤ s.size := by omega
    have hBs := blkB_size s k hkb
    have hBl : (blkB s k).data.toList = (s.data.toList.drop (64 * k)).take 64 := rfl
    have hsuc : mixJ KL s.data.toList h (k + 1) = addW (mixJ KL s.data.toList h k) (rnds KL (wsch (blkB s k).data.toList 64) (mixJ KL s.data.toList h k) 64) := rfl
    have hg8 := mixJ_W8 KL s.data.toList hh k
    obtain ⟨g, hgd⟩ : ∃ g, mixJ KL s.data.toList h k = g := ⟨_, rfl⟩
    rw [hgd] at hp hsuc hg8
    obtain ⟨B, hB⟩ : ∃ B, blkB s k = B := ⟨_, rfl⟩
    rw [hB] at hBs hsuc ⊢
    obtain ⟨L, hL⟩ : ∃ L, B.data.toList = L := ⟨_, rfl⟩
    rw [hL] at hsuc
    clear hBl hB hgd
    conv => whnf
    refine VSeq.mk fun Kq hKq => ?_
    conv => whnf
    refine hp.kalloc z158 fun q7 w hp hx => ?_
    conv => whnf
    refine hKq _ _ _ (.refl _) ?_
    clear hKq Kq
    conv => whnf
    refine VSeq.mk fun Kq hKq => ?_
    conv => whnf
    refine VSeq.mk fun Kq hKq => ?_
    conv => whnf
    refine hKq _ _ _ (.refl _) ?_
    clear hKq Kq
    conv => whnf
    have hp : HpM [qh] w0 w (blk q7 (kw .u32 (schP L 0)) 158 :: blk q5 (kw .u32 KL) 158 :: blk q3 [.pointer (some ⟨qh, 0, none⟩)] 247 :: blk qh (hC g tail c) e :: X') := hp
    refine ⟨fun m l' w' => ∃ (t : Nat), m + t = 64 ∧ l' = [(3, .v (.pointer (some ⟨q3, 0, none⟩))), (5, .v (.pointer (some ⟨q5, 0, none⟩))), (6, .v (.string B)), (7, .v (.pointer (some ⟨q7, 0, none⟩))), (22, .v (.int .i64 t))] ∧
        HpM [qh] w0 w' (blk q7 (kw .u32 (schP L t)) 158 :: blk q5 (kw .u32 KL) 158 :: blk q3 [.pointer (some ⟨qh, 0, none⟩)] 247 :: blk qh (hC g tail c) e :: X'),
      ⟨64, _, ⟨0, by omega, rfl, hp⟩, sub_cons rfl (sub_cons rfl (sub_cons rfl (sub_cons rfl (sub_cons rfl sub_nil))))⟩, ?_⟩
    clear hp hx
    repeat clear hp
    rintro m _ w ⟨t, hm, rfl, hp⟩
    conv => whnf
    refine VSeq.mk fun Kq hKq => ?_
    conv => whnf
    refine hKq _ _ _ (.refl _) ?_
    clear hKq Kq
    conv => whnf
    refine VSeq.mk fun Kq hKq => ?_
    conv => whnf
    refine ⟨fun hlt => ?_, fun hlt => ?_⟩
    · have hlt := of_decide_eq_true hlt
      conv => whnf
      refine hKq _ _ _ (.refl _) ?_
      clear hKq Kq
      conv => whnf
      refine VSeq.mk fun Kq hKq => ?_
      conv => whnf
      refine VSeq.mk fun Kq hKq => ?_
      conv => whnf
      refine hKq _ _ _ (.refl _) ?_
      clear hKq Kq
      conv => whnf
      refine VSeq.mk fun Kq hKq => ?_
      conv => whnf
      refine VSeq.mk fun Kq hKq => ?_
      conv => whnf
      refine hKq _ _ _ (.refl _) ?_
      clear hKq Kq
      conv => whnf
      have hset := schP_set L t (by omega)
      have hlen := schP_len L t (by omega)
      refine ⟨fun h16 => ?_, fun h16 => ?_⟩
      · have h16 := of_decide_eq_true h16
        conv => whnf
        refine VSeq.mk fun Kq hKq => ?_
        conv => whnf
        refine Or.inl (And.intro (by omega) ?_)
        conv => whnf
        refine Or.inl (And.intro (by omega) ?_)
        conv => whnf
        refine Or.inl (And.intro (by omega) ?_)
        conv => whnf
        have hwn : wnext L (wsch L t) t = byt B (4 * t) * 16777216 + byt B (4 * t + 1) * 65536 + byt B (4 * t + 2) * 256 + byt B (4 * t + 3) := by
          unfold wnext
          rw [if_pos (by omega), ← hL]
          exact be4_byt B (4 * t)
        rw [hwn] at hset
        refine ⟨4 * t, 4 * t + 4, ⟨by first | rfl | omega, by first | rfl | omega, by omega, by omega⟩, ?_⟩
        conv => whnf
        refine hKq _ _ _ (.refl _) ?_
        clear hKq Kq
        conv => whnf
        refine VSeq.mk fun Kq hKq => ?_
        conv => whnf
        have hxs := size_extract B (4 * t) (4 * t + 4) (by omega)
        have x0 : byt (B.extract (4 * t) (4 * t + 4)) 0 = byt B (4 * t) := byt_extract B (4 * t) (4 * t + 4) 0 (by omega) (by omega)
        have x1 := byt_extract B (4 * t) (4 * t + 4) 1 (by omega) (by omega)
        have x2 := byt_extract B (4 * t) (4 * t + 4) 2 (by omega) (by omega)
        have x3 := byt_extract B (4 * t) (4 * t + 4) 3 (by omega) (by omega)
        rw [← x0, ← x1, ← x2, ← x3] at hset
        obtain ⟨x, hxd⟩ : ∃ x, B.extract (4 * t) (4 * t + 4) = x := ⟨_, rfl⟩
        rw [hxd] at hxs hset ⊢
        clear x0 x1 x2 x3 hxd hwn
        have u0 := V.byt_lt x 0
        have u1 := V.byt_lt x 1
        have u2 := V.byt_lt x 2
        have u3 := V.byt_lt x 3
        refine v_mix TTok FFok mixed 20 [(0, false), (1, false), (2, false), (3, false), (4, false), (5, false), (6, false), (7, false), (8, false), (9, false), (10, false), (11, false), (12, false), (13, false), (14, false), (15, false), (16, false), (17, false), (18, false), (19, false)] (by kernel_rfl) ?_
        conv => whnf
        refine ⟨0, ⟨by first | rfl | omega, by omega⟩, ?_⟩
        conv => whnf
        refine And.intro (by omega) ?_
        conv => whnf
        refine ⟨24, ⟨by first | rfl | omega, by omega⟩, ?_⟩
        conv => whnf
        refine ⟨1, ⟨by first | rfl | omega, by omega⟩, ?_⟩
        conv => whnf
        refine And.intro (by omega) ?_
        conv => whnf
        refine ⟨16, ⟨by first | rfl | omega, by omega⟩, ?_⟩
        conv => whnf
        refine ⟨byt x 0 * 16777216, byt x 1 * 65536, byt x 0 * 16777216 + byt x 1 * 65536, ⟨by first | rfl | omega, by first | rfl | omega, by omega, by omega⟩, by (dsimp only; exact nat_join 24 _ _ (by omega) (by omega)), ?_⟩
        conv => whnf
        refine ⟨2, ⟨by first | rfl | omega, by omega⟩, ?_⟩
        conv => whnf
        refine And.intro (by omega) ?_
        conv => whnf
        refine ⟨8, ⟨by first | rfl | omega, by omega⟩, ?_⟩
        conv => whnf
        refine ⟨byt x 0 * 16777216 + byt x 1 * 65536, byt x 2 * 256, byt x 0 * 16777216 + byt x 1 * 65536 + byt x 2 * 256, ⟨by first | rfl | omega, by first | rfl | omega, by omega, by omega⟩, by (dsimp only; exact nat_join 16 _ _ (by omega) (by omega)), ?_⟩
        conv => whnf
        refine ⟨3, ⟨by first | rfl | omega, by omega⟩, ?_⟩
        conv => whnf
        refine And.intro (by omega) ?_
        conv => whnf
        refine ⟨byt x 0 * 16777216 + byt x 1 * 65536 + byt x 2 * 256, byt x 3, byt x 0 * 16777216 + byt x 1 * 65536 + byt x 2 * 256 + byt x 3, ⟨by first | rfl | omega, by first | rfl | omega, by omega, by omega⟩, by (dsimp only; exact nat_join 8 _ _ (by omega) (by omega)), ?_⟩
        conv => whnf
        refine ⟨t, ⟨by first | rfl | omega, by omega⟩, ?_⟩
        conv => whnf
        intro w hx
        try (have hp := hp.call hx)
        conv => whnf
        refine hp.kst1 (off := t) TTok (by rfl) 0 (by rfl) (by rfl) (by rfl) (by rw [kw_len]; omega) fun w hp => ?_
        try simp only [List.set_cons_zero, List.set_cons_succ, EV.val] at hp
        conv => whnf
        refine hKq _ _ _ (.refl _) ?_
        clear hKq Kq
        conv => whnf
        clear hKq Kq
        refine hKq _ _ _ (.refl _) ?_
        clear hKq Kq
        conv => whnf
        refine Or.inl (And.intro (by omega) ?_)
        conv => whnf
        rw [kw_set, hset] at hp
        exact ⟨m - 1, _, by omega, ⟨t + 1, by omega, rfl, hp⟩, sub_cons rfl (sub_cons rfl (sub_cons rfl (sub_cons rfl (sub_cons rfl sub_nil))))⟩
      · have h16 := of_decide_eq_false h16
        conv => whnf
        refine hKq _ _ _ (.refl _) ?_
        clear hKq Kq
        conv => whnf
        refine VSeq.mk fun Kq hKq => ?_
        conv => whnf
        have hwn : wnext L (wsch L t) t = ((wsch L t).getD (t - 16) 0 + (wsch L t).getD (t - 7) 0 + sg0 ((wsch L t).getD (t - 15) 0) + sg1 ((wsch L t).getD (t - 2) 0)) % M32 := by unfold wnext; rw [if_neg (by omega)]
        rw [hwn] at hset
        have g16 := schP_get L t (t - 16) (by omega)
        have g7 := schP_get L t (t - 7) (by omega)
        have g15 := schP_get L t (t - 15) (by omega)
        have g2 := schP_get L t (t - 2) (by omega)
        have l16 := getD_lt32 (wsch_lt L t) (t - 16)
        have l7 := getD_lt32 (wsch_lt L t) (t - 7)
        have l15 := getD_lt32 (wsch_lt L t) (t - 15)
        have l2 := getD_lt32 (wsch_lt L t) (t - 2)
        obtain ⟨p, hpd⟩ : ∃ p, (wsch L t).getD (t - 16) 0 = p := ⟨_, rfl⟩
        obtain ⟨q, hqd⟩ : ∃ q, (wsch L t).getD (t - 7) 0 = q := ⟨_, rfl⟩
        obtain ⟨x, hxd⟩ : ∃ x, (wsch L t).getD (t - 15) 0 = x := ⟨_, rfl⟩
        obtain ⟨y, hyd⟩ : ∃ y, (wsch L t).getD (t - 2) 0 = y := ⟨_, rfl⟩
        rw [hpd] at hset g16 l16
        rw [hqd] at hset g7 l7
        rw [hxd] at hset g15 l15
        rw [hyd] at hset g2 l2
        clear hpd hqd hxd hyd hwn
        have s0 := sg0_lt l15
        have s1 := sg1_lt l2
        have e0 : rotl x 25 ^^^ rotl x 14 ^^^ (x / 8) = sg0 x := rfl
        have e1 : rotl y 15 ^^^ rotl y 13 ^^^ (y / 1024) = sg1 y := rfl
        have r25 := rotl_lt x 25 l15 (by decide)
        have r14 := rotl_lt x 14 l15 (by decide)
        have r15 := rotl_lt y 15 l2 (by decide)
        have r13 := rotl_lt y 13 l2 (by decide)
        have rx := xor_lt32 r25 r14
        have ry := xor_lt32 r15 r13
        unfold M32 at l16 l7 l15 l2 s0 s1 rx ry
        refine v_mixA TTok FFok mixed [(0, false), (1, false), (2, false), (3, false), (4, false), (5, false), (6, false), (7, false), (8, false), (9, false)] (by kernel_rfl) ?_
        conv => whnf
        refine Or.inl (And.intro (by omega) ?_)
        conv => whnf
        refine ⟨t - 15, ⟨by first | rfl | omega, by omega⟩, ?_⟩
        conv => whnf
        refine ⟨_, fun w' hx' => Blk.ld (Blk.ext (hp.get (i := 0) rfl) hx') TTok rfl (kw_get g15), ?_⟩
        conv => whnf
        refine Or.inl (And.intro (by omega) ?_)
        conv => whnf
        refine ⟨t - 2, ⟨by first | rfl | omega, by omega⟩, ?_⟩
        conv => whnf
        refine ⟨_, fun w' hx' => Blk.ld (Blk.ext (hp.get (i := 0) rfl) hx') TTok rfl (kw_get g2), ?_⟩
        conv => whnf
        intro w hx
        try (have hp := hp.call hx)
        conv => whnf
        refine hKq _ _ _ (.refl _) ?_
        clear hKq Kq
        conv => whnf
        refine v_mix TTok FFok mixed 29 [(0, false), (1, false), (2, false), (3, false), (4, false), (5, false), (6, false), (7, false), (8, false), (9, false), (10, false), (11, false), (12, false), (13, false), (14, false), (15, false), (16, false), (17, false), (18, false), (19, false), (20, false), (21, false), (22, false), (23, false), (24, false), (25, false), (26, false), (27, false), (28, false)] (by kernel_rfl) ?_
        conv => whnf
        refine Or.inl (And.intro (by omega) ?_)
        conv => whnf
        refine ⟨t - 16, ⟨by first | rfl | omega, by omega⟩, ?_⟩
        conv => whnf
        refine ⟨_, fun w' hx' => Blk.ld (Blk.ext (hp.get (i := 0) rfl) hx') TTok rfl (kw_get g16), ?_⟩
        conv => whnf
        refine Or.inl (And.intro (by omega) ?_)
        conv => whnf
        refine ⟨t - 7, ⟨by first | rfl | omega, by omega⟩, ?_⟩
        conv => whnf
        refine ⟨_, fun w' hx' => Blk.ld (Blk.ext (hp.get (i := 0) rfl) hx') TTok rfl (kw_get g7), ?_⟩
        conv => whnf
        first | refine PureF.quiet (rotN_p x 7 l15 (by decide) (by decide)) ?_ | refine PureF.quietE (rotN_p x 7 l15 (by decide) (by decide)) ?_
        conv => whnf
        first | refine PureF.quiet (rotN_p x 18 l15 (by decide) (by decide)) ?_ | refine PureF.quietE (rotN_p x 18 l15 (by decide) (by decide)) ?_
        conv => whnf
        refine ⟨rotl x 25, rotl x 14, _, ⟨by first | rfl | omega, by first | rfl | omega, by omega, by omega⟩, rfl, ?_⟩
        conv => whnf
        refine ⟨3, ⟨by first | rfl | omega, by omega⟩, ?_⟩
        conv => whnf
        refine ⟨rotl x 25 ^^^ rotl x 14, x / 8, sg0 x, ⟨by first | rfl | omega, by first | rfl | omega, by omega, by omega⟩, rfl, ?_⟩
        conv => whnf
        first | refine PureF.quiet (rotN_p y 17 l2 (by decide) (by decide)) ?_ | refine PureF.quietE (rotN_p y 17 l2 (by decide) (by decide)) ?_
        conv => whnf
        first | refine PureF.quiet (rotN_p y 19 l2 (by decide) (by decide)) ?_ | refine PureF.quietE (rotN_p y 19 l2 (by decide) (by decide)) ?_
        conv => whnf
        refine ⟨rotl y 15, rotl y 13, _, ⟨by first | rfl | omega, by first | rfl | omega, by omega, by omega⟩, rfl, ?_⟩
        conv => whnf
        refine ⟨10, ⟨by first | rfl | omega, by omega⟩, ?_⟩
        conv => whnf
        refine ⟨rotl y 15 ^^^ rotl y 13, y / 1024, sg1 y, ⟨by first | rfl | omega, by first | rfl | omega, by omega, by omega⟩, rfl, ?_⟩
        conv => whnf
        refine ⟨t, ⟨by first | rfl | omega, by omega⟩, ?_⟩
        conv => whnf
        intro w hx
        try (have hp := hp.call hx)
        conv => whnf
        refine hp.kst1 (off := t) TTok (by rfl) 0 (by rfl) (by rfl) (by rfl) (by rw [kw_len]; omega) fun w hp => ?_
        try simp only [List.set_cons_zero, List.set_cons_succ, EV.val] at hp
        conv => whnf
        refine hKq _ _ _ (.refl _) ?_
        clear hKq Kq
        conv => whnf
        refine Or.inl (And.intro (by omega) ?_)
        conv => whnf
        rw [show ((((p : Int) + (q : Int)) % 4294967296 + ((sg0 x : Nat) : Int)) % 4294967296 + ((sg1 y : Nat) : Int)) % 4294967296 = (((p + q + sg0 x + sg1 y) % M32 : Nat) : Int) by unfold M32; omega, kw_set, hset] at hp
        exact ⟨m - 1, _, by omega, ⟨t + 1, by omega, rfl, hp⟩, sub_cons rfl (sub_cons rfl (sub_cons rfl (sub_cons rfl (sub_cons rfl sub_nil))))⟩
    · have hlt := of_decide_eq_false hlt
      conv => whnf
      clear hKq Kq
      refine hKq _ _ _ (.refl _) ?_
      clear hKq Kq
      conv => whnf
      refine VSeq.mk fun Kq hKq => ?_
      conv => whnf
      obtain rfl : t = 64 := by omega
      rw [schP_all] at hp
      have hWl := wsch_len L 64
      have hWlt := wsch_lt L 64
      obtain ⟨W, hW⟩ : ∃ W, wsch L 64 = W := ⟨_, rfl⟩
      rw [hW] at hp hWl hWlt hsuc
      clear hW hlt hm
      refine ⟨_, _, Blk.ld (hp.get (i := 2) rfl) TTok rfl (rfl), ?_⟩
      conv => whnf
      refine ⟨_, _, Blk.ldV (off := 0) (hp.get (i := 3) rfl) TTok rfl (vs := kw .u32 g) (hC_words g tail c hg8.1) (by rw [kw_len, hg8.1]), ?_⟩
      conv => whnf
      refine hp.kalloc z157 fun q12 w hp hx => ?_
      conv => whnf
      refine hp.kstA TTok rfl 0 rfl (by rw [kw_len, hg8.1]) (kw_one _ _) (by rfl) fun w hp => ?_
      try simp only [List.set_cons_zero, List.set_cons_succ, EV.val] at hp
      conv => whnf
      refine hKq _ _ _ (.refl _) ?_
      clear hKq Kq
      conv => whnf
      refine VSeq.mk fun Kq hKq => ?_
      conv => whnf
      refine VSeq.mk fun Kq hKq => ?_
      conv => whnf
      refine hKq _ _ _ (.refl _) ?_
      clear hKq Kq
      conv => whnf
      have hp : HpM [qh] w0 w (blk q12 (kw .u32 (rnds KL W g 0)) 157 :: blk q7 (kw .u32 W) 158 :: blk q5 (kw .u32 KL) 158 :: blk q3 [.pointer (some ⟨qh, 0, none⟩)] 247 :: blk qh (hC g tail c) e :: X') := hp
      refine ⟨fun m l' w' => ∃ (t : Nat), m + t = 64 ∧ l' = [(3, .v (.pointer (some ⟨q3, 0, none⟩))), (5, .v (.pointer (some ⟨q5, 0, none⟩))), (7, .v (.pointer (some ⟨q7, 0, none⟩))), (12, .v (.pointer (some ⟨q12, 0, none⟩))), (97, .v (.int .i64 t))] ∧
          HpM [qh] w0 w' (blk q12 (kw .u32 (rnds KL W g t)) 157 :: blk q7 (kw .u32 W) 158 :: blk q5 (kw .u32 KL) 158 :: blk q3 [.pointer (some ⟨qh, 0, none⟩)] 247 :: blk qh (hC g tail c) e :: X'),
        ⟨64, _, ⟨0, by omega, rfl, hp⟩, sub_cons rfl (sub_cons rfl (sub_cons rfl (sub_cons rfl (sub_cons rfl sub_nil))))⟩, ?_⟩
      clear hp hx
      repeat clear hp
      rintro m _ w ⟨t, hm, rfl, hp⟩
      have hv8 := rnds_W8 KL W hg8 t
      conv => whnf
      refine VSeq.mk fun Kq hKq => ?_
      conv => whnf
      refine hKq _ _ _ (.refl _) ?_
      clear hKq Kq
      conv => whnf
      refine VSeq.mk fun Kq hKq => ?_
      conv => whnf
      refine ⟨fun hlt => ?_, fun hlt => ?_⟩
      · have hlt := of_decide_eq_true hlt
        conv => whnf
        refine hKq _ _ _ (.refl _) ?_
        clear hKq Kq
        conv => whnf
        refine VSeq.mk fun Kq hKq => ?_
        conv => whnf
        refine VSeq.mk fun Kq hKq => ?_
        conv => whnf
        refine hKq _ _ _ (.refl _) ?_
        clear hKq Kq
        conv => whnf
        refine VSeq.mk fun Kq hKq => ?_
        conv => whnf
        have hrs : rnds KL W g (t + 1) = rnd8 (rnds KL W g t) (KL.getD t 0) (W.getD t 0) := rfl
        have hgk : KL[t]? = some (KL.getD t 0) := nat_getD _ _ (by rw [KL_len]; omega)
        have hgw : W[t]? = some (W.getD t 0) := nat_getD _ _ (by omega)
        have lk := getD_lt32 KL_lt t
        have lw := getD_lt32 hWlt t
        obtain ⟨v, hvd⟩ : ∃ v, rnds KL W g t = v := ⟨_, rfl⟩
        rw [hvd] at hp hv8 hrs
        obtain ⟨kt, hkt⟩ : ∃ kt, KL.getD t 0 = kt := ⟨_, rfl⟩
        obtain ⟨wt, hwt⟩ : ∃ wt, W.getD t 0 = wt := ⟨_, rfl⟩
        rw [hkt] at hrs hgk lk
        rw [hwt] at hrs hgw lw
        clear hvd hkt hwt
        obtain ⟨a, b, cc, d, ee, ff, gg, hh', rfl⟩ : ∃ a b c d e f g h, v = [a, b, c, d, e, f, g, h] := by
          match v, hv8.1 with
          | [a, b, c, d, e, f, g, h], _ => exact ⟨a, b, c, d, e, f, g, h, rfl⟩
        have la : a < M32 := hv8.2 a (by simp)
        have lb : b < M32 := hv8.2 b (by simp)
        have lc : cc < M32 := hv8.2 cc (by simp)
        have ld : d < M32 := hv8.2 d (by simp)
        have le : ee < M32 := hv8.2 ee (by simp)
        have lf : ff < M32 := hv8.2 ff (by simp)
        have lg : gg < M32 := hv8.2 gg (by simp)
        have lh : hh' < M32 := hv8.2 hh' (by simp)
        have r26 := rotl_lt ee 26 le (by decide)
        have r21 := rotl_lt ee 21 le (by decide)
        have r7 := rotl_lt ee 7 le (by decide)
        have r30 := rotl_lt a 30 la (by decide)
        have r19 := rotl_lt a 19 la (by decide)
        have r10 := rotl_lt a 10 la (by decide)
        have re1 := xor_lt32 r26 r21
        have ra1 := xor_lt32 r30 r19
        have be := bs1_lt le
        have ba := bs0_lt la
        have hch := chf_lt (f := ff) le lg
        have hmj := maj_lt (c := cc) la lb
        have aef := and_lt32 (y := ff) le
        have ng : (4294967295 - ee) &&& gg < M32 := Nat.lt_of_le_of_lt Nat.and_le_right lg
        have aab := and_lt32 (y := b) la
        have aac := and_lt32 (y := cc) la
        have abc := and_lt32 (y := cc) lb
        have axx := xor_lt32 aab aac
        have hone : one [a, b, cc, d, ee, ff, gg, hh'] kt wt = (hh' + bs1 ee + chf ee ff gg + kt + wt) % M32 := rfl
        have htwo : two [a, b, cc, d, ee, ff, gg, hh'] = (bs0 a + maj a b cc) % M32 := rfl
        have hrn : rnd8 [a, b, cc, d, ee, ff, gg, hh'] kt wt = [(one [a, b, cc, d, ee, ff, gg, hh'] kt wt + two [a, b, cc, d, ee, ff, gg, hh']) % M32, a, b, cc, (d + one [a, b, cc, d, ee, ff, gg, hh'] kt wt) % M32, ee, ff, gg] := rfl
        rw [hrn, hone, htwo] at hrs
        unfold M32 at la lb lc ld le lf lg lh lk lw re1 ra1 be ba hch hmj aef ng aab aac abc axx hrs
        refine v_mixA TTok FFok mixed [(0, false), (1, false), (2, false), (3, false), (4, false), (5, false)] (by kernel_rfl) ?_
        conv => whnf
        refine ⟨0, ⟨by first | rfl | omega, by omega⟩, ?_⟩
        conv => whnf
        refine ⟨_, fun w' hx' => Blk.ld (Blk.ext (hp.get (i := 0) rfl) hx') TTok rfl (rfl), ?_⟩
        conv => whnf
        refine ⟨4, ⟨by first | rfl | omega, by omega⟩, ?_⟩
        conv => whnf
        refine ⟨_, fun w' hx' => Blk.ld (Blk.ext (hp.get (i := 0) rfl) hx') TTok rfl (rfl), ?_⟩
        conv => whnf
        intro w hx
        try (have hp := hp.call hx)
        conv => whnf
        refine hKq _ _ _ (.refl _) ?_
        clear hKq Kq
        conv => whnf
        refine VSeq.mk fun Kq hKq => ?_
        conv => whnf
        refine v_mixA TTok FFok mixed [(0, false), (1, false), (2, false), (3, false), (4, false), (5, false), (6, false), (7, false), (8, false), (9, false), (10, false), (11, false), (12, false), (13, false), (14, false), (15, false), (16, false), (17, false), (18, false), (19, false), (20, false), (21, false), (22, false), (23, false), (24, false), (25, false), (26, false), (27, false), (28, false), (29, false), (30, false)] (by kernel_rfl) ?_
        conv => whnf
        refine ⟨7, ⟨by first | rfl | omega, by omega⟩, ?_⟩
        conv => whnf
        refine ⟨_, fun w' hx' => Blk.ld (Blk.ext (hp.get (i := 0) rfl) hx') TTok rfl (rfl), ?_⟩
        conv => whnf
        first | refine PureF.quiet (rotN_p ee 6 le (by decide) (by decide)) ?_ | refine PureF.quietE (rotN_p ee 6 le (by decide) (by decide)) ?_
        conv => whnf
        first | refine PureF.quiet (rotN_p ee 11 le (by decide) (by decide)) ?_ | refine PureF.quietE (rotN_p ee 11 le (by decide) (by decide)) ?_
        conv => whnf
        refine ⟨rotl ee 26, rotl ee 21, _, ⟨by first | rfl | omega, by first | rfl | omega, by omega, by omega⟩, rfl, ?_⟩
        conv => whnf
        first | refine PureF.quiet (rotN_p ee 25 le (by decide) (by decide)) ?_ | refine PureF.quietE (rotN_p ee 25 le (by decide) (by decide)) ?_
        conv => whnf
        refine ⟨rotl ee 26 ^^^ rotl ee 21, rotl ee 7, bs1 ee, ⟨by first | rfl | omega, by first | rfl | omega, by omega, by omega⟩, rfl, ?_⟩
        conv => whnf
        refine ⟨5, ⟨by first | rfl | omega, by omega⟩, ?_⟩
        conv => whnf
        refine ⟨_, fun w' hx' => Blk.ld (Blk.ext (hp.get (i := 0) rfl) hx') TTok rfl (rfl), ?_⟩
        conv => whnf
        refine ⟨ee, ff, _, ⟨by first | rfl | omega, by first | rfl | omega, by omega, by omega⟩, rfl, ?_⟩
        conv => whnf
        refine And.intro (by omega) ?_
        conv => whnf
        refine ⟨6, ⟨by first | rfl | omega, by omega⟩, ?_⟩
        conv => whnf
        refine ⟨_, fun w' hx' => Blk.ld (Blk.ext (hp.get (i := 0) rfl) hx') TTok rfl (rfl), ?_⟩
        conv => whnf
        refine ⟨4294967295 - ee, gg, _, ⟨by first | rfl | omega, by first | rfl | omega, by omega, by omega⟩, rfl, ?_⟩
        conv => whnf
        refine ⟨ee &&& ff, (4294967295 - ee) &&& gg, chf ee ff gg, ⟨by first | rfl | omega, by first | rfl | omega, by omega, by omega⟩, rfl, ?_⟩
        conv => whnf
        refine ⟨t, ⟨by first | rfl | omega, by omega⟩, ?_⟩
        conv => whnf
        refine ⟨_, fun w' hx' => Blk.ld (Blk.ext (hp.get (i := 2) rfl) hx') TTok rfl (kw_get hgk), ?_⟩
        conv => whnf
        refine ⟨t, ⟨by first | rfl | omega, by omega⟩, ?_⟩
        conv => whnf
        refine ⟨_, fun w' hx' => Blk.ld (Blk.ext (hp.get (i := 1) rfl) hx') TTok rfl (kw_get hgw), ?_⟩
        conv => whnf
        intro w hx
        try (have hp := hp.call hx)
        conv => whnf
        refine hKq _ _ _ (.refl _) ?_
        clear hKq Kq
        conv => whnf
        refine VSeq.mk fun Kq hKq => ?_
        conv => whnf
        obtain ⟨O, hO⟩ : ∃ O, (hh' + bs1 ee + chf ee ff gg + kt + wt) % 4294967296 = O := ⟨_, rfl⟩
        have hO2 : (((((hh' : Nat) : Int) + ((bs1 ee : Nat) : Int)) % 4294967296 + ((chf ee ff gg : Nat) : Int)) % 4294967296 + (kt : Int)) % 4294967296 + (wt : Int) = ((((((hh' : Nat) : Int) + ((bs1 ee : Nat) : Int)) % 4294967296 + ((chf ee ff gg : Nat) : Int)) % 4294967296 + (kt : Int)) % 4294967296 + (wt : Int)) := rfl
        rw [show ((((((hh' : Nat) : Int) + ((bs1 ee : Nat) : Int)) % 4294967296 + ((chf ee ff gg : Nat) : Int)) % 4294967296 + (kt : Int)) % 4294967296 + (wt : Int)) % 4294967296 = ((O : Nat) : Int) by rw [← hO]; omega]
        have lO : O < 4294967296 := by rw [← hO]; exact Nat.mod_lt _ (by decide)
        rw [hO] at hrs
        clear hO2
        refine v_mixA TTok FFok mixed [(0, false), (1, false), (2, false), (3, false), (4, false), (5, false), (6, false), (7, false), (8, false), (9, false), (10, false), (11, false), (12, false), (13, false), (14, false), (15, false), (16, false), (17, false), (18, false), (19, false), (20, false), (21, false), (22, false), (23, false), (24, false)] (by kernel_rfl) ?_
        conv => whnf
        first | refine PureF.quiet (rotN_p a 2 la (by decide) (by decide)) ?_ | refine PureF.quietE (rotN_p a 2 la (by decide) (by decide)) ?_
        conv => whnf
        first | refine PureF.quiet (rotN_p a 13 la (by decide) (by decide)) ?_ | refine PureF.quietE (rotN_p a 13 la (by decide) (by decide)) ?_
        conv => whnf
        refine ⟨rotl a 30, rotl a 19, _, ⟨by first | rfl | omega, by first | rfl | omega, by omega, by omega⟩, rfl, ?_⟩
        conv => whnf
        first | refine PureF.quiet (rotN_p a 22 la (by decide) (by decide)) ?_ | refine PureF.quietE (rotN_p a 22 la (by decide) (by decide)) ?_
        conv => whnf
        refine ⟨rotl a 30 ^^^ rotl a 19, rotl a 10, bs0 a, ⟨by first | rfl | omega, by first | rfl | omega, by omega, by omega⟩, rfl, ?_⟩
        conv => whnf
        refine ⟨1, ⟨by first | rfl | omega, by omega⟩, ?_⟩
        conv => whnf
        refine ⟨_, fun w' hx' => Blk.ld (Blk.ext (hp.get (i := 0) rfl) hx') TTok rfl (rfl), ?_⟩
        conv => whnf
        refine ⟨a, b, _, ⟨by first | rfl | omega, by first | rfl | omega, by omega, by omega⟩, rfl, ?_⟩
        conv => whnf
        refine ⟨2, ⟨by first | rfl | omega, by omega⟩, ?_⟩
        conv => whnf
        refine ⟨_, fun w' hx' => Blk.ld (Blk.ext (hp.get (i := 0) rfl) hx') TTok rfl (rfl), ?_⟩
        conv => whnf
        refine ⟨a, cc, _, ⟨by first | rfl | omega, by first | rfl | omega, by omega, by omega⟩, rfl, ?_⟩
        conv => whnf
        refine ⟨a &&& b, a &&& cc, _, ⟨by first | rfl | omega, by first | rfl | omega, by omega, by omega⟩, rfl, ?_⟩
        conv => whnf
        refine ⟨1, ⟨by first | rfl | omega, by omega⟩, ?_⟩
        conv => whnf
        refine ⟨_, fun w' hx' => Blk.ld (Blk.ext (hp.get (i := 0) rfl) hx') TTok rfl (rfl), ?_⟩
        conv => whnf
        refine ⟨2, ⟨by first | rfl | omega, by omega⟩, ?_⟩
        conv => whnf
        refine ⟨_, fun w' hx' => Blk.ld (Blk.ext (hp.get (i := 0) rfl) hx') TTok rfl (rfl), ?_⟩
        conv => whnf
        refine ⟨b, cc, _, ⟨by first | rfl | omega, by first | rfl | omega, by omega, by omega⟩, rfl, ?_⟩
        conv => whnf
        refine ⟨(a &&& b) ^^^ (a &&& cc), b &&& cc, maj a b cc, ⟨by first | rfl | omega, by first | rfl | omega, by omega, by omega⟩, rfl, ?_⟩
        conv => whnf
        intro w hx
        try (have hp := hp.call hx)
        conv => whnf
        refine hKq _ _ _ (.refl _) ?_
        clear hKq Kq
        conv => whnf
        obtain ⟨T, hT⟩ : ∃ T, (bs0 a + maj a b cc) % 4294967296 = T := ⟨_, rfl⟩
        rw [show (((bs0 a : Nat) : Int) + ((maj a b cc : Nat) : Int)) % 4294967296 = ((T : Nat) : Int) by rw [← hT]; omega]
        have lT : T < 4294967296 := by rw [← hT]; exact Nat.mod_lt _ (by decide)
        rw [hT] at hrs
        rw [show ((O : Int) + (T : Int)) % 4294967296 = (((O + T) % 4294967296 : Nat) : Int) by omega]
        refine ⟨0, ⟨by first | rfl | omega, by omega⟩, ?_⟩
        conv => whnf
        refine ⟨_, _, Blk.ld (hp.get (i := 0) rfl) TTok rfl (rfl), ?_⟩
        conv => whnf
        refine ⟨1, ⟨by first | rfl | omega, by omega⟩, ?_⟩
        conv => whnf
        refine ⟨_, _, Blk.ld (hp.get (i := 0) rfl) TTok rfl (rfl), ?_⟩
        conv => whnf
        refine ⟨2, ⟨by first | rfl | omega, by omega⟩, ?_⟩
        conv => whnf
        refine ⟨_, _, Blk.ld (hp.get (i := 0) rfl) TTok rfl (rfl), ?_⟩
        conv => whnf
        refine ⟨3, ⟨by first | rfl | omega, by omega⟩, ?_⟩
        conv => whnf
        refine ⟨_, _, Blk.ld (hp.get (i := 0) rfl) TTok rfl (rfl), ?_⟩
        conv => whnf
        rw [show ((d : Int) + (O : Int)) % 4294967296 = (((d + O) % 4294967296 : Nat) : Int) by omega]
        refine ⟨4, ⟨by first | rfl | omega, by omega⟩, ?_⟩
        conv => whnf
        refine ⟨_, _, Blk.ld (hp.get (i := 0) rfl) TTok rfl (rfl), ?_⟩
        conv => whnf
        refine ⟨5, ⟨by first | rfl | omega, by omega⟩, ?_⟩
        conv => whnf
        refine ⟨_, _, Blk.ld (hp.get (i := 0) rfl) TTok rfl (rfl), ?_⟩
        conv => whnf
        refine ⟨6, ⟨by first | rfl | omega, by omega⟩, ?_⟩
        conv => whnf
        refine ⟨_, _, Blk.ld (hp.get (i := 0) rfl) TTok rfl (rfl), ?_⟩
        conv => whnf
        first | refine ⟨.agg (kw .u32 [(O + T) % 4294967296, a, b, cc, (d + O) % 4294967296, ee, ff, gg]).toArray, w, by kernel_rfl, ?_⟩ | refine ⟨.agg (kw .u32 [(O + T) % 4294967296, a, b, cc, (d + O) % 4294967296, ee, ff, gg]).toArray, w0, by kernel_rfl, ?_⟩
        conv => whnf
        refine hp.kstA TTok rfl 0 rfl (by rfl) (kw_one _ _) (by rfl) fun w hp => ?_
        try simp only [List.set_cons_zero, List.set_cons_succ, EV.val] at hp
        conv => whnf
        refine hKq _ _ _ (.refl _) ?_
        clear hKq Kq
        conv => whnf
        refine Or.inl (And.intro (by omega) ?_)
        conv => whnf
        rw [← hrs] at hp
        exact ⟨m - 1, _, by omega, ⟨t + 1, by omega, rfl, hp⟩, sub_cons rfl (sub_cons rfl (sub_cons rfl (sub_cons rfl (sub_cons rfl sub_nil))))⟩
      · have hlt := of_decide_eq_false hlt
        conv => whnf
        clear hKq Kq
        refine hKq _ _ _ (.refl _) ?_
        clear hKq Kq
        conv => whnf
        refine VSeq.mk fun Kq hKq => ?_
        conv => whnf
        refine hKq _ _ _ (.refl _) ?_
        clear hKq Kq
        conv => whnf
        obtain rfl : t = 64 := by omega
        clear hlt hm
        obtain ⟨v, hvd⟩ : ∃ v, rnds KL W g 64 = v := ⟨_, rfl⟩
        rw [hvd] at hp hv8 hsuc
        clear hvd
        have hp : HpM [qh] w0 w (blk q12 (kw .u32 v) 157 :: blk q7 (kw .u32 W) 158 :: blk q5 (kw .u32 KL) 158 :: blk q3 [.pointer (some ⟨qh, 0, none⟩)] 247 :: blk qh (hC (addP g v 0) tail c) e :: X') := by rw [addP_zero]; exact hp
        refine ⟨fun m l' w' => ∃ (t : Nat), m + t = 8 ∧ l' = [(3, .v (.pointer (some ⟨q3, 0, none⟩))), (12, .v (.pointer (some ⟨q12, 0, none⟩))), (179, .v (.int .i64 t))] ∧
            HpM [qh] w0 w' (blk q12 (kw .u32 v) 157 :: blk q7 (kw .u32 W) 158 :: blk q5 (kw .u32 KL) 158 :: blk q3 [.pointer (some ⟨qh, 0, none⟩)] 247 :: blk qh (hC (addP g v t) tail c) e :: X'),
          ⟨8, _, ⟨0, by omega, rfl, hp⟩, sub_cons rfl (sub_cons rfl (sub_cons rfl sub_nil))⟩, ?_⟩
        clear hp
        repeat clear hp
        rintro m _ w ⟨t, hm, rfl, hp⟩
        conv => whnf
        refine VSeq.mk fun Kq hKq => ?_
        conv => whnf
        refine hKq _ _ _ (.refl _) ?_
        clear hKq Kq
        conv => whnf
        refine VSeq.mk fun Kq hKq => ?_
        conv => whnf
        refine ⟨fun hlt => ?_, fun hlt => ?_⟩
        · have hlt := of_decide_eq_true hlt
          conv => whnf
          refine hKq _ _ _ (.refl _) ?_
          clear hKq Kq
          conv => whnf
          refine VSeq.mk fun Kq hKq => ?_
          conv => whnf
          refine VSeq.mk fun Kq hKq => ?_
          conv => whnf
          refine hKq _ _ _ (.refl _) ?_
          clear hKq Kq
          conv => whnf
          have ha := addP_get g v t hg8.1 (by omega)
          have hse := addP_set g v t hg8.1 (by omega)
          have hal := addP_len g v t hg8.1 (by omega)
          have hgv : v[t]? = some (v.getD t 0) := nat_getD _ _ (by rw [hv8.1]; omega)
          have lg := hg8.get t
          have lv := hv8.get t
          obtain ⟨x, hxd⟩ : ∃ x, g.getD t 0 = x := ⟨_, rfl⟩
          obtain ⟨y, hyd⟩ : ∃ y, v.getD t 0 = y := ⟨_, rfl⟩
          rw [hxd] at ha hse lg
          rw [hyd] at hgv hse lv
          clear hxd hyd
          refine v_mix TTok FFok mixed 15 [(0, false), (1, false), (2, false), (3, false), (4, false), (5, false), (6, false), (7, false), (8, false), (9, false), (10, false), (11, false), (12, false), (13, false), (14, false)] (by kernel_rfl) ?_
          conv => whnf
          refine ⟨_, fun w' hx' => Blk.ld (Blk.ext (hp.get (i := 3) rfl) hx') TTok rfl (rfl), ?_⟩
          conv => whnf
          refine ⟨t, ⟨by first | rfl | omega, by omega⟩, ?_⟩
          conv => whnf
          refine ⟨_, fun w' hx' => Blk.ld (Blk.ext (hp.get (i := 4) rfl) hx') TTok rfl (hC_get ha), ?_⟩
          conv => whnf
          refine ⟨t, ⟨by first | rfl | omega, by omega⟩, ?_⟩
          conv => whnf
          refine ⟨_, fun w' hx' => Blk.ld (Blk.ext (hp.get (i := 0) rfl) hx') TTok rfl (kw_get hgv), ?_⟩
          conv => whnf
          refine ⟨t, ⟨by first | rfl | omega, by omega⟩, ?_⟩
          conv => whnf
          intro w hx
          try (have hp := hp.call hx)
          conv => whnf
          refine hp.kst1 (off := t) TTok (by rfl) 4 (by rfl) (by rfl) (by rfl) (by rw [hC_len, hal]; omega) fun w hp => ?_
          try simp only [List.set_cons_zero, List.set_cons_succ, EV.val] at hp
          conv => whnf
          refine hKq _ _ _ (.refl _) ?_
          clear hKq Kq
          conv => whnf
          refine Or.inl (And.intro (by omega) ?_)
          conv => whnf
          rw [show ((x : Int) + (y : Int)) % 4294967296 = (((x + y) % M32 : Nat) : Int) by unfold M32; omega, hC_set _ _ _ _ _ (by rw [hal]; omega), hse] at hp
          exact ⟨m - 1, _, by omega, ⟨t + 1, by omega, rfl, hp⟩, sub_cons rfl (sub_cons rfl (sub_cons rfl sub_nil))⟩
        · have hlt := of_decide_eq_false hlt
          conv => whnf
          refine And.intro (by omega) ?_
          conv => whnf
          obtain rfl : t = 8 := by omega
          rw [addP_all g v hg8.1, ← hsuc] at hp
          exact hp.tail.tail
  · rintro D k X W rfl ⟨_, hp⟩
    conv => whnf
    have hp2 := hp.shut (i := 3) rfl (o' := .deferred none)
    refine ⟨hp.get (i := 3) rfl, ?_⟩
    conv => whnf
    refine ⟨rfl, hp2.extM.grownBy, ?_⟩
    have := hp2.get (i := 2) rfl
    unfold mixA
    rw [hsl]
    exact this
  · rintro D X W h; exact h.elim
  · rintro i D X W h; exact h.elim
def restB (s : ByteArray) : ByteArray := ⟨(rest s.data.toList).toArray⟩
theorem restB_size (s : ByteArray) : (restB s).size = s.size % 64 := by unfold restB; rw [bA_size, rest_len, toList_len]
theorem restB_ext (s : ByteArray) : s.extract (s.size / 64 * 64) s.size = restB s := by
  apply ba_eq
  rw [ext_list]
  show _ = rest s.data.toList
  unfold rest
  rw [toList_len, List.take_of_length_le (by rw [List.length_drop, toList_len]; omega)]
theorem hC_tail (l : List Nat) (tail : ByteArray) (c : Int) (h : l.length = 8) : (hC l tail c)[8]? = some (.string tail) := by
  unfold hC; rw [List.getElem?_append_right (by rw [kw_len]; omega), kw_len, h]; rfl
theorem hC_cnt (l : List Nat) (tail : ByteArray) (c : Int) (h : l.length = 8) : (hC l tail c)[9]? = some (.int .i64 c) := by
  unfold hC; rw [List.getElem?_append_right (by rw [kw_len]; omega), kw_len, h]; rfl
theorem hC_setT (l : List Nat) (tail x : ByteArray) (c : Int) (h : l.length = 8) : (hC l tail c).set 8 (.string x) = hC l x c := by
  unfold hC; rw [List.set_append_right _ _ (by rw [kw_len]; omega), kw_len, h]; rfl
theorem hC_setC (l : List Nat) (tail : ByteArray) (c x : Int) (h : l.length = 8) : (hC l tail c).set 9 (.int .i64 x) = hC l tail x := by
  unfold hC; rw [List.set_append_right _ _ (by rw [kw_len]; omega), kw_len, h]; rfl
set_option maxHeartbeats 4000000 in
theorem add_c {w0 : World} {qh e : Nat} (s : ByteArray) (h : List Nat) (tail : ByteArray) (c : Nat) (hh : W8 h) (hs : s.size ≤ 100000) (ht : tail.size ≤ 100000) (hc : c ≤ 4398046511104) (hb : Blk w0 qh (hC h tail c) e) :
    Calls Tryz.prog 155 #[.pointer (some ⟨qh, 0, none⟩), .string s, hV KL] w0 fun e' w' => ∃ v, e' = .returned v ∧ v = .tuple #[] ∧ w0.grownBy w' (some qh) ∧ Blk w' qh (hC (mixA KL h (tail.data.toList ++ s.data.toList)) (restB (tail ++ s)) ((c + s.size : Nat) : Int)) e := by
  refine v_fn (args := [.pointer (some ⟨qh, 0, none⟩), .string s, hV KL]) TTok FFok (f := 155) rfl rfl (Nat.le_of_ble_eq_true rfl) ?_
  have hp := (HpM.nil0 [qh] w0).take hb (by simp) (by simp)
  have h8 := (mixA_W8 KL hh (tail.data.toList ++ s.data.toList)).1
  unfold hV
  conv => whnf
  refine VSeq.mk fun Kq hKq => ?_
  conv => whnf
  refine hp.kbox (kw .u32 KL) rfl fun q5 w hp hx => ?_
  conv => whnf
  refine hKq _ _ _ (.refl _) ?_
  clear hKq Kq
  conv => whnf
  refine VSeq.mk fun Kq hKq => ?_
  conv => whnf
  refine ⟨_, _, Blk.ld (hp.get (i := 1) rfl) TTok rfl (hC_tail _ _ _ hh.1), ?_⟩
  conv => whnf
  refine And.intro (by omega) ?_
  conv => whnf
  refine hKq _ _ _ (.refl _) ?_
  clear hKq Kq
  conv => whnf
  refine VSeq.mk fun Kq hKq => ?_
  conv => whnf
  have hl : (tail ++ s).data.toList = tail.data.toList ++ s.data.toList := by rw [ByteArray.toList_data_append]
  have hsz : (tail ++ s).size = tail.size + s.size := ByteArray.size_append
  rw [← hl] at h8
  obtain ⟨all, hall⟩ : ∃ all, tail ++ s = all := ⟨_, rfl⟩
  rw [hall] at hsz h8 hl ⊢
  refine ⟨_, _, Blk.ldN (hp.get (i := 0) rfl) TTok rfl (by rfl), ?_⟩
  conv => whnf
  have hm := mix_c all h tail c hh (by omega) (hp.get (i := 1) rfl)
  unfold hV at hm
  refine Calls.mono (hm) ?_
  rintro e w ⟨v, rfl, rfl, hg, hb⟩
  refine ⟨_, rfl, ?_⟩
  have hp := hp.wrote (i := 1) rfl hg hb
  try simp only [List.set_cons_zero, List.set_cons_succ, EV.val] at hp
  conv => whnf
  refine hKq _ _ _ (.refl _) ?_
  clear hKq Kq
  conv => whnf
  refine VSeq.mk fun Kq hKq => ?_
  conv => whnf
  refine And.intro (by omega) ?_
  conv => whnf
  refine Or.inl (And.intro (by omega) ?_)
  conv => whnf
  refine ⟨all.size / 64 * 64, ⟨by first | rfl | omega, by omega⟩, ?_⟩
  conv => whnf
  rw [restB_ext]
  refine PureF.use (Clone_p (restB all) (by rw [restB_size]; omega)) fun w hx => ?_
  try (have hp := hp.call hx)
  conv => whnf
  refine hp.kst1 (off := 8) TTok (by rfl) 1 (by rfl) (by rfl) (by rfl) (by rw [hC_len, h8]; decide) fun w hp => ?_
  try simp only [List.set_cons_zero, List.set_cons_succ, EV.val] at hp
  conv => whnf
  refine hKq _ _ _ (.refl _) ?_
  clear hKq Kq
  conv => whnf
  rw [hC_setT _ _ _ _ h8] at hp
  refine ⟨_, _, Blk.ld (hp.get (i := 1) rfl) TTok rfl (hC_cnt _ _ _ h8), ?_⟩
  conv => whnf
  refine Or.inl (And.intro (by omega) ?_)
  conv => whnf
  refine hp.kst1 (off := 9) TTok (by rfl) 1 (by rfl) (by rfl) (by rfl) (by rw [hC_len, h8]; decide) fun w hp => ?_
  try simp only [List.set_cons_zero, List.set_cons_succ, EV.val] at hp
  conv => whnf
  rw [hC_setC _ _ _ _ h8, show (c : Int) + (s.size : Int) = ((c + s.size : Nat) : Int) by omega] at hp
  refine ⟨rfl, hp.extM.grownBy, ?_⟩
  rw [hall, ← hl]
  exact hp.get (i := 1) rfl
set_option maxRecDepth 100000 in
theorem idx8 (v : List Nat) (hv : v.length = 8) (i : Nat) (hi : i < 8) (w : World) : (Instr.index 157 (.agg (kw .u32 v).toArray) (.int .i64 (i : Nat))).run Tryz.prog w = .ok (.int .u32 (v.getD i 0 : Nat)) w := by
  match v, hv, i, hi with
  | [a, b, c, d, e, f, g, h], _, 0, _ => exact (by kernel_rfl : (Instr.index 157 (.agg (kw .u32 [a, b, c, d, e, f, g, h]).toArray) (.int .i64 ((0 : Nat) : Int))).run Tryz.prog w = .ok (.int .u32 ((a : Nat) : Int)) w)
  | [a, b, c, d, e, f, g, h], _, 1, _ => exact (by kernel_rfl : (Instr.index 157 (.agg (kw .u32 [a, b, c, d, e, f, g, h]).toArray) (.int .i64 ((1 : Nat) : Int))).run Tryz.prog w = .ok (.int .u32 ((b : Nat) : Int)) w)
  | [a, b, c, d, e, f, g, h], _, 2, _ => exact (by kernel_rfl : (Instr.index 157 (.agg (kw .u32 [a, b, c, d, e, f, g, h]).toArray) (.int .i64 ((2 : Nat) : Int))).run Tryz.prog w = .ok (.int .u32 ((c : Nat) : Int)) w)
  | [a, b, c, d, e, f, g, h], _, 3, _ => exact (by kernel_rfl : (Instr.index 157 (.agg (kw .u32 [a, b, c, d, e, f, g, h]).toArray) (.int .i64 ((3 : Nat) : Int))).run Tryz.prog w = .ok (.int .u32 ((d : Nat) : Int)) w)
  | [a, b, c, d, e, f, g, h], _, 4, _ => exact (by kernel_rfl : (Instr.index 157 (.agg (kw .u32 [a, b, c, d, e, f, g, h]).toArray) (.int .i64 ((4 : Nat) : Int))).run Tryz.prog w = .ok (.int .u32 ((e : Nat) : Int)) w)
  | [a, b, c, d, e, f, g, h], _, 5, _ => exact (by kernel_rfl : (Instr.index 157 (.agg (kw .u32 [a, b, c, d, e, f, g, h]).toArray) (.int .i64 ((5 : Nat) : Int))).run Tryz.prog w = .ok (.int .u32 ((f : Nat) : Int)) w)
  | [a, b, c, d, e, f, g, h], _, 6, _ => exact (by kernel_rfl : (Instr.index 157 (.agg (kw .u32 [a, b, c, d, e, f, g, h]).toArray) (.int .i64 ((6 : Nat) : Int))).run Tryz.prog w = .ok (.int .u32 ((g : Nat) : Int)) w)
  | [a, b, c, d, e, f, g, h], _, 7, _ => exact (by kernel_rfl : (Instr.index 157 (.agg (kw .u32 [a, b, c, d, e, f, g, h]).toArray) (.int .i64 ((7 : Nat) : Int))).run Tryz.prog w = .ok (.int .u32 ((h : Nat) : Int)) w)
def be8J (n j : Nat) : List UInt8 := (List.range j).map fun i => UInt8.ofNat (n / 2 ^ (56 - 8 * i))
theorem be8J_succ (n j : Nat) : be8J n (j + 1) = be8J n j ++ [UInt8.ofNat (n / 2 ^ (56 - 8 * j))] := by
  unfold be8J; rw [List.range_succ, List.map_append]; rfl
theorem bytesV_rep (n : Nat) : List.replicate n (Value.int .u8 0) = bytesV (List.replicate n 0) := by
  unfold bytesV; rw [List.map_replicate]; rfl
theorem outW_take (h : List Nat) (j : Nat) (hj : j < h.length) : outW (h.take (j + 1)) = outW (h.take j) ++ out4 (h.getD j 0) := by
  rw [List.take_succ_eq_append_getElem hj]; unfold outW; rw [List.flatMap_append, List.getD_eq_getElem?_getD, List.getElem?_eq_getElem hj]
  simp
theorem u8_cast (n : Nat) : ((n : Nat) : Int) % 256 = (((UInt8.ofNat n).toNat : Nat) : Int) := by
  rw [UInt8.toNat_ofNat']; omega
set_option maxHeartbeats 4000000 in
theorem end_p (h : List Nat) (tail : ByteArray) (c : Nat) (hh : W8 h) (ht : tail.size ≤ 64) (hc : c ≤ 4398046511104) :
    PureF Tryz.prog 156 #[.agg (hC h tail c).toArray, hV KL] (.string ⟨(endL KL h tail.data.toList c).toArray⟩) := by
  have htl : tail.data.toList.length = tail.size := by simp
  have hcl := hC_len h tail c
  rw [hh.1] at hcl
  unfold hV
  first | refine v_pure TTok FFok Tryz.func156 rfl rfl fun w0 => ?_ | refine v_pure (args := []) TTok FFok Tryz.func156 rfl rfl fun w0 => ?_
  conv => whnf
  refine VSeq.mk fun Kq hKq => ?_
  conv => whnf
  have hp := Hp.nil w0
  refine hp.kbox (hC h tail c) rfl fun q2 w hp hx => ?_
  conv => whnf
  refine hp.kbox (kw .u32 KL) rfl fun q3 w hp hx => ?_
  conv => whnf
  refine hKq _ _ _ (.refl _) ?_
  clear hKq Kq
  conv => whnf
  refine VSeq.mk fun Kq hKq => ?_
  conv => whnf
  refine v_mixA TTok FFok mixed [(0, false), (1, false), (2, false), (3, false), (4, false), (5, false), (6, false), (7, false), (8, false), (9, false), (10, true), (11, false), (12, false), (13, false)] (by kernel_rfl) ?_
  conv => whnf
  refine ⟨_, fun w' hx' => Blk.ld (Blk.ext (hp.get (i := 1) rfl) hx') TTok rfl (hC_tail _ _ _ hh.1), ?_⟩
  conv => whnf
  refine And.intro (by show tail.size + 1 ≤ _; omega) ?_
  conv => whnf
  refine ⟨_, fun w' hx' => Blk.ld (Blk.ext (hp.get (i := 1) rfl) hx') TTok rfl (hC_tail _ _ _ hh.1), ?_⟩
  conv => whnf
  refine Or.inl (And.intro (by omega) ?_)
  conv => whnf
  refine And.intro (by omega) ?_
  conv => whnf
  intro w hx
  try (have hp := hp.call hx)
  conv => whnf
  rw [show (119 - ((tail.size : Nat) : Int)) % 64 = (((119 - tail.size) % 64 : Nat) : Int) by omega]
  refine hp.kmkS sl88 z5 ((119 - tail.size) % 64) (by omega) (by unfold maxLen; omega) fun b w hp hx => ?_
  rw [bytesV_rep] at hp
  conv => whnf
  refine And.intro hx ?_
  conv => whnf
  refine ⟨_, fun w1 hx' => Blk.str (l := List.replicate ((119 - tail.size) % 64) 0) (Blk.ext (hp.get (i := 0) rfl) hx') TTok rfl rfl rfl rfl List.length_replicate, ?_⟩
  conv => whnf
  have hsz : (tail ++ (⟨#[128]⟩ : ByteArray) ++ ⟨(List.replicate ((119 - tail.size) % 64) (0 : UInt8)).toArray⟩).size = tail.size + 1 + (119 - tail.size) % 64 := by
    rw [ByteArray.size_append, ByteArray.size_append]
    congr 1
    exact List.length_replicate
  have hzs : (⟨(List.replicate ((119 - tail.size) % 64) (0 : UInt8)).toArray⟩ : ByteArray).size = (119 - tail.size) % 64 := by
    show (List.toArray _).size = _; rw [List.size_toArray, List.length_replicate]
  have h1s : (tail ++ (⟨#[128]⟩ : ByteArray)).size = tail.size + 1 := ByteArray.size_append
  refine And.intro (by rw [h1s, hzs]; omega) ?_
  conv => whnf
  have hbl : (tail ++ (⟨#[128]⟩ : ByteArray) ++ ⟨(List.replicate ((119 - tail.size) % 64) (0 : UInt8)).toArray⟩).data.toList = tail.data.toList ++ (128 : UInt8) :: List.replicate ((119 - tail.size) % 64) 0 := by
    rw [ByteArray.toList_data_append, ByteArray.toList_data_append, List.append_assoc]
    rfl
  obtain ⟨bb, hbb⟩ : ∃ bb, tail ++ (⟨#[128]⟩ : ByteArray) ++ ⟨(List.replicate ((119 - tail.size) % 64) (0 : UInt8)).toArray⟩ = bb := ⟨_, rfl⟩
  rw [hbb] at hsz hbl ⊢
  clear hbb h1s hzs
  intro w hx
  try (have hp := hp.call hx)
  conv => whnf
  refine hKq _ _ _ (.refl _) ?_
  clear hKq Kq
  conv => whnf
  refine VSeq.mk fun Kq hKq => ?_
  conv => whnf
  refine ⟨_, _, Blk.ld (hp.get (i := 2) rfl) TTok rfl (hC_cnt _ _ _ hh.1), ?_⟩
  conv => whnf
  refine And.intro (by omega) ?_
  conv => whnf
  refine hKq _ _ _ (.refl _) ?_
  clear hKq Kq
  conv => whnf
  refine VSeq.mk fun Kq hKq => ?_
  conv => whnf
  refine VSeq.mk fun Kq hKq => ?_
  conv => whnf
  refine hKq _ _ _ (.refl _) ?_
  clear hKq Kq
  conv => whnf
  rw [show ((c : Nat) : Int) * 8 % 18446744073709551616 = ((c * 8 : Nat) : Int) by omega]
  have hp := hp.tail
  obtain ⟨n, hn⟩ : ∃ n, c * 8 = n := ⟨_, rfl⟩
  have hnl : n < 18446744073709551616 := by omega
  rw [hn]
  have hS0 : bb = ⟨(bb.data.toList ++ be8J n 0).toArray⟩ := by
    apply ba_eq
    show _ = bb.data.toList ++ []
    rw [List.append_nil]
  refine ⟨fun m e w' => ∃ (j : Nat) (v : Int), m + j = 8 ∧ v = 56 - 8 * (j : Int) ∧ e = [(2, .v (.pointer (some ⟨q2, 0, none⟩))), (3, .v (.pointer (some ⟨q3, 0, none⟩))), (5, .v (.string ⟨(bb.data.toList ++ be8J n j).toArray⟩)), (6, .v (.int .u64 n)), (7, .v (.int .i64 v))] ∧
      HpM [] w0 w' [blk q3 (kw .u32 KL) 158, blk q2 (hC h tail c) 232],
    ⟨8, _, ⟨0, 56, by omega, rfl, rfl, hp⟩, sub_cons rfl (sub_cons rfl (sub_cons (by rw [← hS0]; rfl) (sub_cons rfl (sub_cons rfl sub_nil))))⟩, ?_⟩
  clear hp hx hS0
  repeat clear hp
  rintro m _ w ⟨j, v, hm, hv, rfl, hp⟩
  by_cases hj8 : j = 8
  · subst hj8
    obtain rfl : v = -8 := by omega
    conv => whnf
    refine VSeq.mk fun Kq hKq => ?_
    conv => whnf
    refine VSeq.mk fun Kq hKq => ?_
    conv => whnf
    refine hKq _ _ _ (.refl _) ?_
    clear hKq Kq
    conv => whnf
    refine ⟨fun h => absurd (of_decide_eq_true h) (by decide), fun _ => ?_⟩
    conv => whnf
    clear hKq Kq
    refine hKq _ _ _ (.refl _) ?_
    clear hKq Kq
    conv => whnf
    refine VSeq.mk fun Kq hKq => ?_
    conv => whnf
    have hend : endL KL h tail.data.toList c = outW (mixA KL h (bb.data.toList ++ be8J n 8)) := by
      unfold endL closing
      rw [hbl, htl, hn, List.append_assoc]
      rfl
    have h8s : (⟨(bb.data.toList ++ be8J n 8).toArray⟩ : ByteArray).size = bb.size + 8 := by
      rw [bA_size, List.length_append, toList_len]; rfl
    obtain ⟨R, hR⟩ : ∃ R : ByteArray, ⟨(bb.data.toList ++ be8J n 8).toArray⟩ = R := ⟨_, rfl⟩
    have hRl : bb.data.toList ++ be8J n 8 = R.data.toList := by rw [← hR]
    rw [hRl] at hend
    rw [hR] at h8s ⊢
    refine ⟨_, _, Blk.ldN (hp.get (i := 0) rfl) TTok rfl (by rfl), ?_⟩
    conv => whnf
    have hm := mix_c R h tail c hh (by omega) (hp.get (i := 1) rfl)
    unfold hV at hm
    refine Calls.mono (hm) ?_
    rintro e w ⟨v, rfl, rfl, hg, hb⟩
    refine ⟨_, rfl, ?_⟩
    have hp := hp.wrote (i := 1) rfl hg hb
    try simp only [List.set_cons_zero, List.set_cons_succ, EV.val] at hp
    conv => whnf
    refine hKq _ _ _ (.refl _) ?_
    clear hKq Kq
    conv => whnf
    refine VSeq.mk fun Kq hKq => ?_
    conv => whnf
    refine hKq _ _ _ (.refl _) ?_
    clear hKq Kq
    conv => whnf
    refine VSeq.mk fun Kq hKq => ?_
    conv => whnf
    refine VSeq.mk fun Kq hKq => ?_
    conv => whnf
    have hv8 := mixA_W8 KL hh R.data.toList
    obtain ⟨v, hvd⟩ : ∃ v, mixA KL h R.data.toList = v := ⟨_, rfl⟩
    rw [hvd] at hp hv8 hend
    refine ⟨_, _, Blk.ldV (off := 0) (hp.get (i := 1) rfl) TTok rfl (vs := kw .u32 v) (hC_words v tail c hv8.1) (by rw [kw_len, hv8.1]), ?_⟩
    conv => whnf
    refine hKq _ _ _ (.refl _) ?_
    clear hKq Kq
    conv => whnf
    have hp := hp.knil 5 1
    have hp : HpM [] w0 w [row 5 1 (.slice none 0 0) (4 * 0) (bytesV (outW (v.take 0))), blk q3 (kw .u32 KL) 158, blk q2 (hC v tail c) 232] := hp
    refine ⟨fun m e w' => ∃ (i : Nat) (u : Value), m + i = 8 ∧ e = [(8, .v u), (46, .v (.agg (kw .u32 v).toArray)), (47, .v (.int .i64 i))] ∧
        HpM [] w0 w' [row 5 1 u (4 * i) (bytesV (outW (v.take i))), blk q3 (kw .u32 KL) 158, blk q2 (hC v tail c) 232],
      ⟨8, _, ⟨0, _, by omega, rfl, hp⟩, sub_cons rfl (sub_cons rfl (sub_cons rfl sub_nil))⟩, ?_⟩
    clear hp
    repeat clear hp
    rintro m _ w ⟨i, u, hm, rfl, hp⟩
    conv => whnf
    refine VSeq.mk fun Kq hKq => ?_
    conv => whnf
    refine hKq _ _ _ (.refl _) ?_
    clear hKq Kq
    conv => whnf
    refine VSeq.mk fun Kq hKq => ?_
    conv => whnf
    refine ⟨fun hlt => ?_, fun hlt => ?_⟩
    · have hlt := of_decide_eq_true hlt
      conv => whnf
      refine hKq _ _ _ (.refl _) ?_
      clear hKq Kq
      conv => whnf
      refine VSeq.mk fun Kq hKq => ?_
      conv => whnf
      refine VSeq.mk fun Kq hKq => ?_
      conv => whnf
      have htk := outW_take v i (by rw [hv8.1]; omega)
      have hx := hv8.get i
      refine ⟨_, _, idx8 v hv8.1 i (by omega) w, ?_⟩
      conv => whnf
      refine hKq _ _ _ (.refl _) ?_
      clear hKq Kq
      conv => whnf
      obtain ⟨x, hxd⟩ : ∃ x, v.getD i 0 = x := ⟨_, rfl⟩
      rw [hxd] at htk hx ⊢
      unfold M32 at hx
      refine ⟨24, ⟨by first | rfl | omega, by omega⟩, ?_⟩
      conv => whnf
      refine ⟨16, ⟨by first | rfl | omega, by omega⟩, ?_⟩
      conv => whnf
      refine ⟨8, ⟨by first | rfl | omega, by omega⟩, ?_⟩
      conv => whnf
      rw [show ((x : Nat) : Int) / 2 ^ 24 % 256 = (((UInt8.ofNat (x / 16777216)).toNat : Nat) : Int) by rw [← u8_cast]; omega, show ((x : Nat) : Int) / 2 ^ 16 % 256 = (((UInt8.ofNat (x / 65536)).toNat : Nat) : Int) by rw [← u8_cast]; omega, show ((x : Nat) : Int) / 2 ^ 8 % 256 = (((UInt8.ofNat (x / 256)).toNat : Nat) : Int) by rw [← u8_cast]; omega, show ((x : Nat) : Int) % 256 = (((UInt8.ofNat x).toNat : Nat) : Int) from u8_cast x]
      refine hp.kmade (bytesV (out4 x)) 5 (fun b => .slice (some ⟨b, 0, none⟩) 4 4) (by kernel_rfl) fun tb w hp hx => ?_
      conv => whnf
      refine hp.kapp sl88 1 rfl (Blk.src TTok (hp.get (i := 0) rfl) rfl rfl (one_bytes _)) (by omega) (by unfold maxLen; omega) fun v' w hp => ?_
      simp only [List.set_cons_zero, List.set_cons_succ] at hp
      conv => whnf
      refine hKq _ _ _ (.refl _) ?_
      clear hKq Kq
      conv => whnf
      refine Or.inl (And.intro (by omega) ?_)
      conv => whnf
      refine ⟨m - 1, _, by omega, ⟨i + 1, v', by omega, rfl, ?_⟩, sub_cons rfl (sub_cons rfl (sub_cons rfl sub_nil))⟩
      rw [htk, bytesV_app]; exact hp.tail
    · have hlt := of_decide_eq_false hlt
      conv => whnf
      clear hKq Kq
      refine hKq _ _ _ (.refl _) ?_
      clear hKq Kq
      conv => whnf
      refine VSeq.mk fun Kq hKq => ?_
      conv => whnf
      obtain rfl : i = 8 := by omega
      rw [List.take_of_length_le (by rw [hv8.1]; exact Nat.le_refl _)] at hp
      refine ⟨_, _, row_str (hp.get (i := 0) rfl) TTok rfl rfl rfl, ?_⟩
      conv => whnf
      refine hKq _ _ _ (.refl _) ?_
      clear hKq Kq
      conv => whnf
      exact ⟨by rw [hend]; rfl, hp.ext⟩
  · obtain ⟨k, hk⟩ : ∃ k, k = 56 - 8 * j := ⟨_, rfl⟩
    obtain rfl : v = (k : Nat) := by omega
    have hbs := be8J_succ n j
    rw [← hk] at hbs
    conv => whnf
    refine VSeq.mk fun Kq hKq => ?_
    conv => whnf
    refine VSeq.mk fun Kq hKq => ?_
    conv => whnf
    refine hKq _ _ _ (.refl _) ?_
    clear hKq Kq
    conv => whnf
    refine ⟨fun hlt => ?_, fun hlt => ?_⟩
    · have hlt := of_decide_eq_true hlt
      conv => whnf
      refine hKq _ _ _ (.refl _) ?_
      clear hKq Kq
      conv => whnf
      refine VSeq.mk fun Kq hKq => ?_
      conv => whnf
      refine ⟨k, ⟨by first | rfl | omega, by omega⟩, ?_⟩
      conv => whnf
      rw [show ((n : Nat) : Int) / 2 ^ k = ((n / 2 ^ k : Nat) : Int) by simp, u8_cast]
      refine hp.kmade (bytesV [UInt8.ofNat (n / 2 ^ k)]) 5 (fun b => .slice (some ⟨b, 0, none⟩) 1 1) (by kernel_rfl) fun tb w hp hx => ?_
      conv => whnf
      refine ⟨_, _, Blk.str (l := [UInt8.ofNat (n / 2 ^ k)]) (hp.get (i := 0) rfl) TTok rfl rfl rfl rfl rfl, ?_⟩
      conv => whnf
      have hsj : (⟨(bb.data.toList ++ be8J n j).toArray⟩ : ByteArray).size = bb.size + j := by
        rw [bA_size, List.length_append, toList_len]; unfold be8J; rw [List.length_map, List.length_range]
      refine And.intro (by rw [hsj]; show bb.size + j + 1 ≤ _; omega) ?_
      conv => whnf
      refine hKq _ _ _ (.refl _) ?_
      clear hKq Kq
      conv => whnf
      refine Or.inl (And.intro (by omega) ?_)
      conv => whnf
      have hS : (⟨(bb.data.toList ++ be8J n j).toArray⟩ : ByteArray) ++ ⟨#[UInt8.ofNat (n / 2 ^ k)]⟩ = ⟨(bb.data.toList ++ be8J n (j + 1)).toArray⟩ := by
        apply ba_eq
        rw [ByteArray.toList_data_append, hbs, ← List.append_assoc]
      rw [hS]
      exact ⟨m - 1, _, by omega, ⟨j + 1, _, by omega, by omega, rfl, hp.tail⟩, sub_cons rfl (sub_cons rfl (sub_cons rfl (sub_cons rfl (sub_cons rfl sub_nil))))⟩
    · exact absurd (Int.natCast_nonneg k) (of_decide_eq_false hlt)
def hH (h : List Nat) (tail : ByteArray) (c : Int) : Value := .agg (hC h tail c).toArray
theorem hC_one (l : List Nat) (tail : ByteArray) (c : Int) : ∀ u ∈ hC l tail c, u.oneCell' = true := by
  intro u hu
  unfold hC at hu
  rw [List.mem_append] at hu
  rcases hu with h | h
  · exact kw_one _ _ u h
  · simp only [List.mem_cons, List.not_mem_nil, or_false] at h
    rcases h with rfl | rfl <;> rfl

def mC : List Value := kw .u32 SL ++ kw .u32 KL
def mV : Value := .agg mC.toArray
theorem mC_one : ∀ u ∈ mC, u.oneCell' = true := by
  intro u hu
  unfold mC at hu
  rw [List.mem_append] at hu
  rcases hu with h | h <;> exact kw_one _ _ u h
set_option maxHeartbeats 4000000 in
theorem made_p : PureF Tryz.prog 94 #[] mV := by
  have hc := constants_p
  unfold hV at hc
  unfold mV
  first | refine v_pure TTok FFok Tryz.func94 rfl rfl fun w0 => ?_ | refine v_pure (args := []) TTok FFok Tryz.func94 rfl rfl fun w0 => ?_
  conv => whnf
  refine VSeq.mk fun Kq hKq => ?_
  conv => whnf
  have hp := Hp.nil w0
  refine hp.kalloc z160 fun q0 w hp hx => ?_
  conv => whnf
  refine hKq _ _ _ (.refl _) ?_
  clear hKq Kq
  conv => whnf
  refine VSeq.mk fun Kq hKq => ?_
  conv => whnf
  refine PureF.use (hc) fun w hx => ?_
  try (have hp := hp.call hx)
  conv => whnf
  refine hp.kalloc z157 fun q1 w hp hx => ?_
  conv => whnf
  refine hp.kalloc z158 fun q2 w hp hx => ?_
  conv => whnf
  refine hp.kstA TTok rfl 1 rfl (by rfl) (kw_one _ _) (by rfl) fun w hp => ?_
  try simp only [List.set_cons_zero, List.set_cons_succ, EV.val] at hp
  conv => whnf
  refine hp.kstA TTok rfl 0 rfl (by rfl) (kw_one _ _) (by rfl) fun w hp => ?_
  try simp only [List.set_cons_zero, List.set_cons_succ, EV.val] at hp
  conv => whnf
  refine hKq _ _ _ (.refl _) ?_
  clear hKq Kq
  conv => whnf
  refine VSeq.mk fun Kq hKq => ?_
  conv => whnf
  refine ⟨_, _, Blk.ldN (hp.get (i := 1) rfl) TTok rfl (by rfl), ?_⟩
  conv => whnf
  refine ⟨_, _, Blk.ldN (hp.get (i := 0) rfl) TTok rfl (by rfl), ?_⟩
  conv => whnf
  first | refine ⟨.agg mC.toArray, w, by kernel_rfl, ?_⟩ | refine ⟨.agg mC.toArray, w0, by kernel_rfl, ?_⟩
  conv => whnf
  refine hp.kstA TTok rfl 2 rfl (by rfl) (mC_one) (by rfl) fun w hp => ?_
  try simp only [List.set_cons_zero, List.set_cons_succ, EV.val] at hp
  conv => whnf
  refine hKq _ _ _ (.refl _) ?_
  clear hKq Kq
  conv => whnf
  exact ⟨_, Blk.lvN (hp.get (i := 2) rfl) TTok rfl (by rfl), rfl, hp.ext⟩
def bigS (L : List ByteArray) : Bool := L.any fun x => decide (4096 < x.size)
theorem long_c {w0 : World} {v : Value} (L : List ByteArray) (hv : SLv w0 v (sw L)) (hl : L.length ≤ 1000) :
    Calls Tryz.prog 93 #[v] w0 fun e w' => e = .returned (.bool (bigS L)) ∧ Ext w0 w' := by
  obtain ⟨p, c, rfl⟩ := hv.shape
  rw [sw_len] at hv ⊢
  refine v_reads TTok FFok Tryz.func93 rfl rfl ?_
  conv => whnf
  refine VSeq.mk fun Kq hKq => ?_
  conv => whnf
  refine hKq _ _ _ (.refl _) ?_
  clear hKq Kq
  conv => whnf
  refine VSeq.mk fun Kq hKq => ?_
  conv => whnf
  refine VSeq.mk fun Kq hKq => ?_
  conv => whnf
  refine hKq _ _ _ (.refl _) ?_
  clear hKq Kq
  conv => whnf
  have hp := Hp.nil w0
  refine ⟨fun m e w' => ∃ (i : Nat), m + i = L.length ∧ e = [(5, .v (.slice p L.length c)), (6, .v (.int .i64 L.length)), (7, .v (.int .i64 i))] ∧ bigS (L.take i) = false ∧ Hp w0 w' [],
    ⟨L.length, _, ⟨0, by omega, rfl, by rw [List.take_zero]; rfl, hp⟩, sub_cons rfl (sub_cons rfl (sub_cons rfl sub_nil))⟩, ?_⟩
  clear hp
  repeat clear hp
  rintro m _ w ⟨i, hm, rfl, hbg, hp⟩
  conv => whnf
  refine VSeq.mk fun Kq hKq => ?_
  conv => whnf
  refine hKq _ _ _ (.refl _) ?_
  clear hKq Kq
  conv => whnf
  refine VSeq.mk fun Kq hKq => ?_
  conv => whnf
  refine ⟨fun hlt => ?_, fun hlt => ?_⟩
  · have hlt := of_decide_eq_true hlt
    conv => whnf
    refine hKq _ _ _ (.refl _) ?_
    clear hKq Kq
    conv => whnf
    refine VSeq.mk fun Kq hKq => ?_
    conv => whnf
    refine VSeq.mk fun Kq hKq => ?_
    conv => whnf
    have hi : i < L.length := by omega
    have hxi : L[i]? = some L[i] := List.getElem?_eq_getElem hi
    have htk : L.take (i + 1) = L.take i ++ [L[i]] := take_snoc hxi
    obtain ⟨x, hx⟩ : ∃ x, L[i] = x := ⟨_, rfl⟩
    rw [hx] at hxi htk
    obtain ⟨g, off, rfl, hcell⟩ := hv.at (sw_get hxi)
    refine ⟨i, ⟨by first | rfl | omega, by omega⟩, ?_⟩
    conv => whnf
    refine ⟨_, _, run_ld TTok rfl (by rw [addM_eq, Nat.mul_one]; exact Ext.cell hp.ext hcell), ?_⟩
    conv => whnf
    refine hKq _ _ _ (.refl _) ?_
    clear hKq Kq
    conv => whnf
    refine VSeq.mk fun Kq hKq => ?_
    conv => whnf
    refine hKq _ _ _ (.refl _) ?_
    clear hKq Kq
    conv => whnf
    refine ⟨fun hb => ?_, fun hb => ?_⟩
    · have hb := of_decide_eq_true hb
      conv => whnf
      refine VSeq.mk fun Kq hKq => ?_
      conv => whnf
      refine hKq _ _ _ (.refl _) ?_
      clear hKq Kq
      conv => whnf
      refine ⟨?_, hp.ext⟩
      have : bigS L = true := by
        unfold bigS
        rw [List.any_eq_true]
        exact ⟨x, List.mem_of_getElem? hxi, decide_eq_true (by omega)⟩
      rw [this]; rfl
    · have hb := of_decide_eq_false hb
      conv => whnf
      refine hKq _ _ _ (.refl _) ?_
      clear hKq Kq
      conv => whnf
      refine Or.inl (And.intro (by omega) ?_)
      conv => whnf
      have hb2 : bigS (L.take (i + 1)) = false := by
        unfold bigS at *
        rw [htk, List.any_append, hbg, Bool.false_or]
        simp only [List.any_cons, List.any_nil, Bool.or_false]
        exact decide_eq_false (by omega)
      exact ⟨m - 1, _, by omega, ⟨i + 1, by omega, rfl, hb2, hp⟩, sub_cons rfl (sub_cons rfl (sub_cons rfl sub_nil))⟩
  · have hlt := of_decide_eq_false hlt
    conv => whnf
    clear hKq Kq
    refine hKq _ _ _ (.refl _) ?_
    clear hKq Kq
    conv => whnf
    refine VSeq.mk fun Kq hKq => ?_
    conv => whnf
    refine hKq _ _ _ (.refl _) ?_
    clear hKq Kq
    conv => whnf
    obtain rfl : i = L.length := by omega
    rw [List.take_length] at hbg
    refine ⟨?_, hp.ext⟩
    rw [hbg]; rfl
def catL (L : List ByteArray) : List UInt8 := L.flatMap fun x => x.data.toList
theorem catL_take (L : List ByteArray) (i : Nat) (x : ByteArray) (h : L[i]? = some x) : catL (L.take (i + 1)) = catL (L.take i) ++ x.data.toList := by
  rw [take_snoc h]; unfold catL; rw [List.flatMap_append]; simp
theorem catL_pre (L : List ByteArray) (i : Nat) : (catL (L.take i)).length ≤ (catL L).length := by
  conv => rhs; rw [← List.take_append_drop i L]
  unfold catL
  rw [List.flatMap_append, List.length_append]; omega
def stB (a : List UInt8) : List Value := hC (mixA KL SL a) ⟨(rest a).toArray⟩ ((a.length : Nat) : Int)
theorem stB_len (a : List UInt8) : (stB a).length = 10 := by unfold stB; rw [hC_len, (mixA_W8 KL SL_W8 a).1]
theorem stB_add (a : List UInt8) (s : ByteArray) : hC (mixA KL (mixA KL SL a) ((⟨(rest a).toArray⟩ : ByteArray).data.toList ++ s.data.toList)) (restB (⟨(rest a).toArray⟩ ++ s)) ((a.length + s.size : Nat) : Int) = stB (a ++ s.data.toList) := by
  obtain ⟨h1, h2⟩ := mix_more KL SL a s.data.toList
  unfold stB restB
  rw [ByteArray.toList_data_append]
  show hC (mixA KL (mixA KL SL a) (rest a ++ s.data.toList)) ⟨(rest (rest a ++ s.data.toList)).toArray⟩ _ = _
  rw [h1, h2, List.length_append, toList_len]
set_option maxHeartbeats 4000000 in
theorem sum_c {w0 : World} {v : Value} (L : List ByteArray) (hv : SLv w0 v (sw L)) (hl : (catL L).length ≤ 50000) (hn : L.length ≤ 1000) :
    Calls Tryz.prog 128 #[mV, v] w0 fun e w' => e = .returned (.string ⟨(sumL2 KL SL (catL L)).toArray⟩) ∧ Ext w0 w' := by
  obtain ⟨p, c, rfl⟩ := hv.shape
  rw [sw_len] at hv ⊢
  unfold mV
  refine v_reads TTok FFok Tryz.func128 rfl rfl ?_
  conv => whnf
  refine VSeq.mk fun Kq hKq => ?_
  conv => whnf
  have hp := Hp.nil w0
  refine hp.kbox (mC) rfl fun q2 w hp hx => ?_
  conv => whnf
  refine hKq _ _ _ (.refl _) ?_
  clear hKq Kq
  conv => whnf
  refine VSeq.mk fun Kq hKq => ?_
  conv => whnf
  refine ⟨_, _, Blk.ldV (off := 0) (hp.get (i := 0) rfl) TTok rfl (vs := kw .u32 SL) (by rfl) (by rfl), ?_⟩
  conv => whnf
  first | refine ⟨.agg (stB []).toArray, w, by kernel_rfl, ?_⟩ | refine ⟨.agg (stB []).toArray, w0, by kernel_rfl, ?_⟩
  conv => whnf
  first | refine ⟨.agg (stB []).toArray, w, by kernel_rfl, ?_⟩ | refine ⟨.agg (stB []).toArray, w0, by kernel_rfl, ?_⟩
  conv => whnf
  refine hp.kalloc z232 fun q5 w hp hx => ?_
  conv => whnf
  refine hp.kstA TTok rfl 0 rfl (stB_len []) (hC_one _ _ _) (by rfl) fun w hp => ?_
  try simp only [List.set_cons_zero, List.set_cons_succ, EV.val] at hp
  conv => whnf
  refine hKq _ _ _ (.refl _) ?_
  clear hKq Kq
  conv => whnf
  refine VSeq.mk fun Kq hKq => ?_
  conv => whnf
  refine VSeq.mk fun Kq hKq => ?_
  conv => whnf
  refine hKq _ _ _ (.refl _) ?_
  clear hKq Kq
  conv => whnf
  refine ⟨fun m e w' => ∃ (i : Nat), m + i = L.length ∧ e = [(2, .v (.pointer (some ⟨q2, 0, none⟩))), (5, .v (.pointer (some ⟨q5, 0, none⟩))), (12, .v (.slice p L.length c)), (13, .v (.int .i64 L.length)), (14, .v (.int .i64 i))] ∧ HpM [] w0 w' [blk q5 (stB (catL (L.take i))) 232, blk q2 mC 160],
    ⟨L.length, _, ⟨0, by omega, rfl, hp⟩, sub_cons rfl (sub_cons rfl (sub_cons rfl (sub_cons rfl (sub_cons rfl sub_nil))))⟩, ?_⟩
  clear hp hx
  repeat clear hp
  rintro m _ w ⟨i, hm, rfl, hp⟩
  have hpre := catL_pre L i
  conv => whnf
  refine VSeq.mk fun Kq hKq => ?_
  conv => whnf
  refine hKq _ _ _ (.refl _) ?_
  clear hKq Kq
  conv => whnf
  refine VSeq.mk fun Kq hKq => ?_
  conv => whnf
  refine ⟨fun hlt => ?_, fun hlt => ?_⟩
  · have hlt := of_decide_eq_true hlt
    conv => whnf
    refine hKq _ _ _ (.refl _) ?_
    clear hKq Kq
    conv => whnf
    refine VSeq.mk fun Kq hKq => ?_
    conv => whnf
    refine VSeq.mk fun Kq hKq => ?_
    conv => whnf
    have hi : i < L.length := by omega
    have hxi : L[i]? = some L[i] := List.getElem?_eq_getElem hi
    have htk := catL_take L i _ hxi
    have hpre2 := catL_pre L (i + 1)
    obtain ⟨x, hx⟩ : ∃ x, L[i] = x := ⟨_, rfl⟩
    rw [hx] at hxi htk
    obtain ⟨g, off, rfl, hcell⟩ := hv.at (sw_get hxi)
    obtain ⟨a, ha⟩ : ∃ a, catL (L.take i) = a := ⟨_, rfl⟩
    rw [ha] at hp hpre htk
    rw [htk, List.length_append, toList_len] at hpre2
    have hra : (⟨(rest a).toArray⟩ : ByteArray).size = a.length % 64 := by rw [bA_size, rest_len]
    refine ⟨i, ⟨by first | rfl | omega, by omega⟩, ?_⟩
    conv => whnf
    refine ⟨_, _, run_ld TTok rfl (by rw [addM_eq, Nat.mul_one]; exact Ext.cell hp.ext hcell), ?_⟩
    conv => whnf
    refine hKq _ _ _ (.refl _) ?_
    clear hKq Kq
    conv => whnf
    refine ⟨_, _, Blk.ldV (off := 8) (hp.get (i := 1) rfl) TTok rfl (vs := kw .u32 KL) (by rfl) (by rfl), ?_⟩
    conv => whnf
    have had := add_c x (mixA KL SL a) ⟨(rest a).toArray⟩ a.length (mixA_W8 KL SL_W8 a) (by omega) (by omega) (by omega) (hp.get (i := 0) rfl)
    unfold hV at had
    refine Calls.mono (had) ?_
    rintro e w ⟨v, rfl, rfl, hg, hb⟩
    refine ⟨_, rfl, ?_⟩
    have hp := hp.wrote (i := 0) rfl hg hb
    try simp only [List.set_cons_zero, List.set_cons_succ, EV.val] at hp
    conv => whnf
    refine hKq _ _ _ (.refl _) ?_
    clear hKq Kq
    conv => whnf
    refine Or.inl (And.intro (by omega) ?_)
    conv => whnf
    rw [stB_add, ← htk] at hp
    exact ⟨m - 1, _, by omega, ⟨i + 1, by omega, rfl, hp⟩, sub_cons rfl (sub_cons rfl (sub_cons rfl (sub_cons rfl (sub_cons rfl sub_nil))))⟩
  · have hlt := of_decide_eq_false hlt
    conv => whnf
    clear hKq Kq
    refine hKq _ _ _ (.refl _) ?_
    clear hKq Kq
    conv => whnf
    refine VSeq.mk fun Kq hKq => ?_
    conv => whnf
    obtain rfl : i = L.length := by omega
    rw [List.take_length] at hp hpre
    obtain ⟨a, ha⟩ : ∃ a, catL L = a := ⟨_, rfl⟩
    rw [ha] at hp
    have hl2 := hl
    rw [ha] at hl2
    have hra : (⟨(rest a).toArray⟩ : ByteArray).size = a.length % 64 := by rw [bA_size, rest_len]
    have he := end_p (mixA KL SL a) ⟨(rest a).toArray⟩ a.length (mixA_W8 KL SL_W8 a) (by omega) (by omega)
    unfold hV at he
    refine ⟨_, _, Blk.ldN (hp.get (i := 0) rfl) TTok rfl (stB_len a), ?_⟩
    conv => whnf
    refine ⟨_, _, Blk.ldV (off := 8) (hp.get (i := 1) rfl) TTok rfl (vs := kw .u32 KL) (by rfl) (by rfl), ?_⟩
    conv => whnf
    refine PureF.use (he) fun w hx => ?_
    try (have hp := hp.call hx)
    conv => whnf
    refine hKq _ _ _ (.refl _) ?_
    clear hKq Kq
    conv => whnf
    exact ⟨by rw [ha]; rfl, hp.ext⟩
end Go.Proofs.YtmlmfmdmomegpaaGreatDoor
