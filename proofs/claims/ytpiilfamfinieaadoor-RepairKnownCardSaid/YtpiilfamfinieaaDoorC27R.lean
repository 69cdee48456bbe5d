/- Chapter 27: the reference's small functions. -/
import Derived.Test.YtpiilfamfinieaaDoorC27P
namespace Go.Proofs.YtpiilfamfinieaaDoor
set_option linter.unusedSimpArgs false
set_option linter.unusedVariables false
open Go.RowKit V
theorem In_p (s i : Nat) (hs : s < 18446744073709551616) (hi : i < 64) : PureF Tryd.prog 42 #[.int .u64 s, .int .i64 i] (.bool (s.testBit i)) := by
  have hkd : s / 2 ^ i < 18446744073709551616 := Nat.lt_of_le_of_lt (Nat.div_le_self _ _) hs
  have hbit : (s / 2 ^ i % 2 = 1) ↔ s.testBit i = true := by rw [div_bit]; split <;> simp [*]
  first | refine v_pure TTok FFok Tryd.func42 rfl rfl fun w0 => ?_ | refine v_pure (args := []) TTok FFok Tryd.func42 rfl rfl fun w0 => ?_
  conv => whnf
  refine VSeq.mk fun Kq hKq => ?_
  conv => whnf
  refine hKq _ _ _ (V.Sub.refl _) ?_
  clear hKq Kq
  conv => whnf
  refine VSeq.mk fun Kq hKq => ?_
  conv => whnf
  refine ⟨i, ⟨by first | rfl | omega, by omega⟩, ?_⟩
  conv => whnf
  rw [shr_cast]
  refine ⟨s / 2 ^ i, 1, s / 2 ^ i % 2, ⟨by first | rfl | omega, by first | rfl | omega, by omega, by omega⟩, by (dsimp only; exact Nat.and_one_is_mod _), ?_⟩
  conv => whnf
  refine hKq _ _ _ (V.Sub.refl _) ?_
  clear hKq Kq
  conv => whnf
  exact ⟨congrArg Value.bool (by rw [Bool.eq_iff_iff, ← hbit, decide_eq_true_iff]; omega), Ext.refl _⟩
theorem On_p (r c l i : Nat) (h : Shp r c) (hl : l < r + c) (hi : i < r * c) : PureF Tryd.prog 43 #[.int .i64 r, .int .i64 c, .int .i64 l, .int .i64 i] (.bool (onL r c l i)) := by
  obtain ⟨h1, h2, h3, h4⟩ := h
  have hrc : r * c ≤ 6 * 8 := Nat.mul_le_mul (by omega) (by omega)
  have hd : ((i : Int) / (c : Int)) = ((i / c : Nat) : Int) := by simp
  have hm : ((i : Int) % (c : Int)) = ((i % c : Nat) : Int) := by simp
  have hd1 : i / c ≤ i := Nat.div_le_self _ _
  have hm1 : i % c ≤ i := Nat.mod_le _ _
  first | refine v_pure TTok FFok Tryd.func43 rfl rfl fun w0 => ?_ | refine v_pure (args := []) TTok FFok Tryd.func43 rfl rfl fun w0 => ?_
  conv => whnf
  refine VSeq.mk fun Kq hKq => ?_
  conv => whnf
  refine hKq _ _ _ (V.Sub.refl _) ?_
  clear hKq Kq
  conv => whnf
  refine VSeq.mk fun Kq hKq => ?_
  conv => whnf
  refine VSeq.mk fun Kq hKq => ?_
  conv => whnf
  refine hKq _ _ _ (V.Sub.refl _) ?_
  clear hKq Kq
  conv => whnf
  refine ⟨fun hlr => ?_, fun hlr => ?_⟩
  · have hlr := of_decide_eq_true hlr
    conv => whnf
    refine VSeq.mk fun Kq hKq => ?_
    conv => whnf
    refine And.intro (by omega) ?_
    conv => whnf
    refine hKq _ _ _ (V.Sub.refl _) ?_
    clear hKq Kq
    conv => whnf
    refine ⟨congrArg Value.bool ?_, Ext.refl _⟩
    unfold onL
    rw [if_pos (by omega), hd, Bool.eq_iff_iff, decide_eq_true_iff, beq_iff_eq]
    omega
  · have hlr := of_decide_eq_false hlr
    conv => whnf
    refine hKq _ _ _ (V.Sub.refl _) ?_
    clear hKq Kq
    conv => whnf
    refine VSeq.mk fun Kq hKq => ?_
    conv => whnf
    refine And.intro (by omega) ?_
    conv => whnf
    refine And.intro (by omega) ?_
    conv => whnf
    refine hKq _ _ _ (V.Sub.refl _) ?_
    clear hKq Kq
    conv => whnf
    refine ⟨congrArg Value.bool ?_, Ext.refl _⟩
    unfold onL
    rw [if_neg (by omega), hm, Bool.eq_iff_iff, decide_eq_true_iff, beq_iff_eq]
    omega
instance (r c : Int) : Decidable (Shp r c) := by unfold Shp; infer_instance
theorem Shape_p (r c : Int) : PureF Tryd.prog 15 #[.int .i64 r, .int .i64 c] (.bool (decide (Shp r c))) := by
  first | refine v_pure TTok FFok Tryd.func15 rfl rfl fun w0 => ?_ | refine v_pure (args := []) TTok FFok Tryd.func15 rfl rfl fun w0 => ?_
  conv => whnf
  refine VSeq.mk fun Kq hKq => ?_
  conv => whnf
  refine hKq _ _ _ (V.Sub.refl _) ?_
  clear hKq Kq
  conv => whnf
  refine VSeq.mk fun Kq hKq => ?_
  conv => whnf
  refine VSeq.mk fun Kq hKq => ?_
  conv => whnf
  refine hKq _ _ _ (V.Sub.refl _) ?_
  clear hKq Kq
  conv => whnf
  refine VSeq.mk fun Kq hKq => ?_
  conv => whnf
  refine ⟨fun g1 => ?_, fun g1 => ?_⟩
  · have g1 := of_decide_eq_true g1
    conv => whnf
    refine hKq _ _ _ (V.Sub.refl _) ?_
    clear hKq Kq
    conv => whnf
    refine VSeq.mk fun Kq hKq => ?_
    conv => whnf
    refine ⟨fun g2 => ?_, fun g2 => ?_⟩
    · have g2 := of_decide_eq_true g2
      conv => whnf
      refine hKq _ _ _ (V.Sub.refl _) ?_
      clear hKq Kq
      conv => whnf
      refine ⟨fun g3 => ?_, fun g3 => ?_⟩
      · have g3 := of_decide_eq_true g3
        conv => whnf
        refine hKq _ _ _ (V.Sub.refl _) ?_
        clear hKq Kq
        conv => whnf
        exact ⟨congrArg Value.bool (decide_eq_decide.2 (by unfold Shp; omega)), Ext.refl _⟩
      · have g3 := of_decide_eq_false g3
        conv => whnf
        refine hKq _ _ _ (V.Sub.refl _) ?_
        clear hKq Kq
        conv => whnf
        exact ⟨congrArg Value.bool (decide_eq_false (by unfold Shp; omega)).symm, Ext.refl _⟩
    · have g2 := of_decide_eq_false g2
      conv => whnf
      refine hKq _ _ _ (V.Sub.refl _) ?_
      clear hKq Kq
      conv => whnf
      refine hKq _ _ _ (V.Sub.refl _) ?_
      clear hKq Kq
      conv => whnf
      exact ⟨congrArg Value.bool (decide_eq_false (by unfold Shp; omega)).symm, Ext.refl _⟩
  · have g1 := of_decide_eq_false g1
    conv => whnf
    refine hKq _ _ _ (V.Sub.refl _) ?_
    clear hKq Kq
    conv => whnf
    refine VSeq.mk fun Kq hKq => ?_
    conv => whnf
    refine hKq _ _ _ (V.Sub.refl _) ?_
    clear hKq Kq
    conv => whnf
    refine hKq _ _ _ (V.Sub.refl _) ?_
    clear hKq Kq
    conv => whnf
    exact ⟨congrArg Value.bool (decide_eq_false (by unfold Shp; omega)).symm, Ext.refl _⟩
theorem Form_p (s : ByteArray) (hs : s.size ≤ 1048576) : PureF Tryd.prog 61 #[.string s] (.string ⟨(formL s.data.toList).toArray⟩) := by
  first | refine v_pure TTok FFok Tryd.func61 rfl rfl fun w0 => ?_ | refine v_pure (args := []) TTok FFok Tryd.func61 rfl rfl fun w0 => ?_
  conv => whnf
  refine VSeq.mk fun Kq hKq => ?_
  conv => whnf
  refine hKq _ _ _ (V.Sub.refl _) ?_
  clear hKq Kq
  conv => whnf
  refine VSeq.mk fun Kq hKq => ?_
  conv => whnf
  refine And.intro (by omega) ?_
  conv => whnf
  refine And.intro (by omega) ?_
  conv => whnf
  have hp := Hp.nil w0
  rw [show ((s.size : Int) / 256 % 256) = (((UInt8.ofNat (s.size / 256)).toNat : Nat) : Int) by simp, show ((s.size : Int) % 256 % 256) = (((UInt8.ofNat s.size).toNat : Nat) : Int) by simp]
  refine hp.kmade ([.int .u8 (((UInt8.ofNat (s.size / 256)).toNat : Nat) : Int), .int .u8 (((UInt8.ofNat s.size).toNat : Nat) : Int)]) 5 (fun b => .slice (some ⟨b, 0, none⟩) 2 2) (by kernel_rfl) fun tb w hp hx => ?_
  conv => whnf
  refine ⟨_, _, (Blk.str (l := [UInt8.ofNat (s.size / 256), UInt8.ofNat s.size]) (hp.get (i := 0) rfl) TTok rfl rfl rfl rfl rfl), ?_⟩
  conv => whnf
  refine And.intro (by show 2 + s.size ≤ _; omega) ?_
  conv => whnf
  refine hKq _ _ _ (V.Sub.refl _) ?_
  clear hKq Kq
  conv => whnf
  exact ⟨congrArg Value.string (by apply ByteArray.ext; apply Array.ext'; simp [formL]), hp.ext⟩
def pxK (a b : List UInt8) (k : Nat) : List UInt8 := (List.range (max a.length b.length)).map fun i => if i < k then a.getD i 0 ^^^ b.getD i 0 else 0
theorem pxK_len (a b : List UInt8) (k : Nat) : (pxK a b k).length = max a.length b.length := by simp [pxK]
theorem pxK_get (a b : List UInt8) (k i : Nat) (h : i < max a.length b.length) : (pxK a b k)[i]? = some (if i < k then a.getD i 0 ^^^ b.getD i 0 else 0) := by
  rw [pxK, List.getElem?_map, List.getElem?_range h]; rfl
theorem pxK_zero (a b : List UInt8) : pxK a b 0 = List.replicate (max a.length b.length) 0 := by
  apply List.ext_getElem?
  intro i
  by_cases h : i < max a.length b.length
  · rw [pxK_get _ _ _ _ h, List.getElem?_replicate, if_pos h]; simp
  · rw [List.getElem?_eq_none (by rw [pxK_len]; omega), List.getElem?_eq_none (by rw [List.length_replicate]; omega)]
theorem pxK_all (a b : List UInt8) : pxK a b (max a.length b.length) = px a b := by
  apply List.ext_getElem?
  intro i
  by_cases h : i < max a.length b.length
  · rw [pxK_get _ _ _ _ h, px_get _ _ _ h, if_pos h]
  · rw [List.getElem?_eq_none (by rw [pxK_len]; omega), List.getElem?_eq_none (by rw [px_len]; omega)]
theorem pxK_same (a b : List UInt8) (k : Nat) (h : k < max a.length b.length) : (pxK a b k).set k 0 = pxK a b k := by
  apply List.ext_getElem?
  intro i
  rw [List.getElem?_set]
  by_cases e : k = i
  · subst e; rw [if_pos rfl, if_pos (by rw [pxK_len]; exact h), pxK_get _ _ _ _ h, if_neg (by omega)]
  · rw [if_neg e]
theorem pxK_next (a b : List UInt8) (k : Nat) (u : UInt8) (h : k < max a.length b.length) : ((pxK a b k).set k u).set k (a.getD k 0 ^^^ b.getD k 0) = pxK a b (k + 1) := by
  rw [List.set_set]
  apply List.ext_getElem?
  intro i
  rw [List.getElem?_set]
  by_cases e : k = i
  · subst e; rw [if_pos rfl, if_pos (by rw [pxK_len]; exact h), pxK_get _ _ _ _ h, if_pos (by omega)]
  · rw [if_neg e]
    by_cases h' : i < max a.length b.length
    · rw [pxK_get _ _ _ _ h', pxK_get _ _ _ _ h']
      have : (i < k ↔ i < k + 1) := by omega
      simp [this]
    · rw [List.getElem?_eq_none (by rw [pxK_len]; omega), List.getElem?_eq_none (by rw [pxK_len]; omega)]
theorem pxK_set_get (a b : List UInt8) (k : Nat) (u : UInt8) (h : k < max a.length b.length) : ((pxK a b k).set k u)[k]? = some u := by
  rw [List.getElem?_set, if_pos rfl, if_pos (by rw [pxK_len]; exact h)]
theorem Xor_p (a b : ByteArray) (ha : a.size ≤ 2000000) (hb : b.size ≤ 2000000) : PureF Tryd.prog 47 #[.string a, .string b] (.string ⟨(px a.data.toList b.data.toList).toArray⟩) := by
  have hal := toList_len a
  have hbl := toList_len b
  first | refine v_pure TTok FFok Tryd.func47 rfl rfl fun w0 => ?_ | refine v_pure (args := []) TTok FFok Tryd.func47 rfl rfl fun w0 => ?_
  conv => whnf
  refine VSeq.mk fun Kq hKq => ?_
  conv => whnf
  refine hKq _ _ _ (V.Sub.refl _) ?_
  clear hKq Kq
  conv => whnf
  refine VSeq.mk fun Kq hKq => ?_
  conv => whnf
  have hp := Hp.nil w0
  obtain ⟨n, hn⟩ : ∃ n, max a.size b.size = n := ⟨_, rfl⟩
  have hnl : max a.data.toList.length b.data.toList.length = n := by omega
  rw [show (max (a.size : Int) (b.size : Int)) = (n : Int) by omega]
  refine hp.kmkS sl81 z5 n (by omega) (by unfold maxLen; omega) fun ob w hp hx => ?_
  have e0 : List.replicate n (Value.int .u8 0) = bytesV (pxK a.data.toList b.data.toList 0) := by
    rw [pxK_zero, hnl]; simp [bytesV, List.map_replicate]
  rw [e0] at hp
  clear hx e0
  conv => whnf
  refine hKq _ _ _ (V.Sub.refl _) ?_
  clear hKq Kq
  conv => whnf
  refine VSeq.mk fun Kq hKq => ?_
  conv => whnf
  refine VSeq.mk fun Kq hKq => ?_
  conv => whnf
  refine hKq _ _ _ (V.Sub.refl _) ?_
  clear hKq Kq
  conv => whnf
  refine ⟨fun m l w => ∃ k : Nat, m + k = n ∧ l = [(0, .v (.string a)), (1, .v (.string b)), (5, .v (.slice (some ⟨ob, 0, none⟩) n n)), (6, .v (.int .i64 k))] ∧ HpM [] w0 w [blk ob (bytesV (pxK a.data.toList b.data.toList k)) 5],
    ⟨n, _, ⟨0, rfl, rfl, hp⟩, sub_cons rfl (sub_cons rfl (sub_cons rfl (sub_cons rfl sub_nil)))⟩, ?_⟩
  clear hp
  repeat clear hp
  rintro m _ w ⟨k, hm, rfl, hp⟩
  conv => whnf
  refine VSeq.mk fun Kq hKq => ?_
  conv => whnf
  refine VSeq.mk fun Kq hKq => ?_
  conv => whnf
  refine hKq _ _ _ (V.Sub.refl _) ?_
  clear hKq Kq
  conv => whnf
  refine ⟨fun hlt => ?_, fun hlt => ?_⟩
  · have hlt := of_decide_eq_true hlt
    conv => whnf
    refine hKq _ _ _ (V.Sub.refl _) ?_
    clear hKq Kq
    conv => whnf
    refine VSeq.mk fun Kq hKq => ?_
    conv => whnf
    refine VSeq.mk fun Kq hKq => ?_
    conv => whnf
    refine VSeq.mk fun Kq hKq => ?_
    conv => whnf
    refine hKq _ _ _ (V.Sub.refl _) ?_
    clear hKq Kq
    conv => whnf
    have hk : k < max a.data.toList.length b.data.toList.length := by omega
    have hpl := pxK_len a.data.toList b.data.toList k
    have hg0 : (pxK a.data.toList b.data.toList k)[k]? = some 0 := by rw [pxK_get _ _ _ _ hk, if_neg (by omega)]
    have hnext := fun u => pxK_next a.data.toList b.data.toList k u hk
    have hsame := pxK_same a.data.toList b.data.toList k hk
    have hsg := fun u => pxK_set_get a.data.toList b.data.toList k u hk
    obtain ⟨A, hA⟩ : ∃ A, a.data.toList.getD k 0 = A := ⟨_, rfl⟩
    obtain ⟨B, hB⟩ : ∃ B, b.data.toList.getD k 0 = B := ⟨_, rfl⟩
    rw [hA, hB] at hnext
    have hA8 := UInt8.toNat_lt A
    have hB8 := UInt8.toNat_lt B
    have hAb : k < a.size → byt a k = A.toNat := fun h => by rw [byt_at a k (by omega), ← hA, List.getD_eq_getElem?_getD, List.getElem?_eq_getElem (by omega)]; rfl
    have hBb : k < b.size → byt b k = B.toNat := fun h => by rw [byt_at b k (by omega), ← hB, List.getD_eq_getElem?_getD, List.getElem?_eq_getElem (by omega)]; rfl
    have hA0 : ¬ k < a.size → A = 0 := fun h => by rw [← hA]; exact getD_out _ _ (by omega)
    have hB0 : ¬ k < b.size → B = 0 := fun h => by rw [← hB]; exact getD_out _ _ (by omega)
    refine ⟨fun hka => ?_, fun hka => ?_⟩
    · have hka := of_decide_eq_true hka
      conv => whnf
      have hat := hAb (by omega)
      refine v_mix TTok FFok mixed 11 [(0, false), (1, false), (2, false), (3, false), (4, false), (5, false), (6, false), (7, false), (8, false), (9, false), (10, false)] (by kernel_rfl) ?_
      conv => whnf
      refine ⟨k, ⟨by first | rfl | omega, by omega⟩, ?_⟩
      conv => whnf
      refine ⟨_, fun w' hx' => Blk.ld (off := k) (Blk.ext (hp.get (i := 0) rfl) hx') TTok rfl (bytesV_get hg0), ?_⟩
      conv => whnf
      refine ⟨k, ⟨by first | rfl | omega, by omega⟩, ?_⟩
      conv => whnf
      rw [hat]
      refine ⟨0, A.toNat, A.toNat, ⟨by first | rfl | omega, by first | rfl | omega, by omega, by omega⟩, by (dsimp only; simp), ?_⟩
      conv => whnf
      refine ⟨k, ⟨by first | rfl | omega, by omega⟩, ?_⟩
      conv => whnf
      intro w hx
      try (have hp := hp.call hx)
      conv => whnf
      rw [show addM 0 k 1 = k by rw [addM_eq]; omega]
      refine hp.kst1 (t := 5) TTok rfl 0 rfl (off := k) (v := .int .u8 (A.toNat : Nat)) rfl rfl (by rw [bytesV_len, hpl]; omega) fun w hp => ?_
      simp only [List.set_cons_zero] at hp
      rw [bytesV_set1] at hp
      conv => whnf
      refine hKq _ _ _ (V.Sub.refl _) ?_
      clear hKq Kq
      conv => whnf
      refine VSeq.mk fun Kq hKq => ?_
      conv => whnf
      refine hKq _ _ _ (V.Sub.refl _) ?_
      clear hKq Kq
      conv => whnf
      refine ⟨fun hkb => ?_, fun hkb => ?_⟩
      · have hkb := of_decide_eq_true hkb
        conv => whnf
        have hbt := hBb (by omega)
        refine v_mix TTok FFok mixed 11 [(0, false), (1, false), (2, false), (3, false), (4, false), (5, false), (6, false), (7, false), (8, false), (9, false), (10, false)] (by kernel_rfl) ?_
        conv => whnf
        refine ⟨k, ⟨by first | rfl | omega, by omega⟩, ?_⟩
        conv => whnf
        refine ⟨_, fun w' hx' => Blk.ld (off := k) (Blk.ext (hp.get (i := 0) rfl) hx') TTok rfl (bytesV_get (hsg A)), ?_⟩
        conv => whnf
        refine ⟨k, ⟨by first | rfl | omega, by omega⟩, ?_⟩
        conv => whnf
        rw [hbt]
        refine ⟨A.toNat, B.toNat, (A ^^^ B).toNat, ⟨by first | rfl | omega, by first | rfl | omega, by omega, by omega⟩, by (dsimp only; rw [UInt8.toNat_xor]), ?_⟩
        conv => whnf
        refine ⟨k, ⟨by first | rfl | omega, by omega⟩, ?_⟩
        conv => whnf
        intro w hx
        try (have hp := hp.call hx)
        conv => whnf
        rw [show addM 0 k 1 = k by rw [addM_eq]; omega]
        refine hp.kst1 (t := 5) TTok rfl 0 rfl (off := k) (v := .int .u8 ((A ^^^ B).toNat : Nat)) rfl rfl (by rw [bytesV_len, List.length_set, hpl]; omega) fun w hp => ?_
        simp only [List.set_cons_zero] at hp
        rw [bytesV_set1, hnext] at hp
        conv => whnf
        refine hKq _ _ _ (V.Sub.refl _) ?_
        clear hKq Kq
        conv => whnf
        refine And.intro (by omega) ?_
        conv => whnf
        exact ⟨m - 1, _, by omega, ⟨k + 1, by omega, rfl, hp⟩, sub_cons rfl (sub_cons rfl (sub_cons rfl (sub_cons rfl sub_nil)))⟩
      · have hkb := of_decide_eq_false hkb
        conv => whnf
        refine hKq _ _ _ (V.Sub.refl _) ?_
        clear hKq Kq
        conv => whnf
        refine And.intro (by omega) ?_
        conv => whnf
        have hn1 := hnext A
        rw [hB0 (by omega), UInt8.xor_zero, List.set_set] at hn1
        rw [hn1] at hp
        exact ⟨m - 1, _, by omega, ⟨k + 1, by omega, rfl, hp⟩, sub_cons rfl (sub_cons rfl (sub_cons rfl (sub_cons rfl sub_nil)))⟩
    · have hka := of_decide_eq_false hka
      conv => whnf
      refine hKq _ _ _ (V.Sub.refl _) ?_
      clear hKq Kq
      conv => whnf
      refine VSeq.mk fun Kq hKq => ?_
      conv => whnf
      refine hKq _ _ _ (V.Sub.refl _) ?_
      clear hKq Kq
      conv => whnf
      rw [← hsame, ← hA0 (by omega)] at hp
      refine ⟨fun hkb => ?_, fun hkb => ?_⟩
      · have hkb := of_decide_eq_true hkb
        conv => whnf
        have hbt := hBb (by omega)
        refine v_mix TTok FFok mixed 11 [(0, false), (1, false), (2, false), (3, false), (4, false), (5, false), (6, false), (7, false), (8, false), (9, false), (10, false)] (by kernel_rfl) ?_
        conv => whnf
        refine ⟨k, ⟨by first | rfl | omega, by omega⟩, ?_⟩
        conv => whnf
        refine ⟨_, fun w' hx' => Blk.ld (off := k) (Blk.ext (hp.get (i := 0) rfl) hx') TTok rfl (bytesV_get (hsg A)), ?_⟩
        conv => whnf
        refine ⟨k, ⟨by first | rfl | omega, by omega⟩, ?_⟩
        conv => whnf
        rw [hbt]
        refine ⟨A.toNat, B.toNat, (A ^^^ B).toNat, ⟨by first | rfl | omega, by first | rfl | omega, by omega, by omega⟩, by (dsimp only; rw [UInt8.toNat_xor]), ?_⟩
        conv => whnf
        refine ⟨k, ⟨by first | rfl | omega, by omega⟩, ?_⟩
        conv => whnf
        intro w hx
        try (have hp := hp.call hx)
        conv => whnf
        rw [show addM 0 k 1 = k by rw [addM_eq]; omega]
        refine hp.kst1 (t := 5) TTok rfl 0 rfl (off := k) (v := .int .u8 ((A ^^^ B).toNat : Nat)) rfl rfl (by rw [bytesV_len, List.length_set, hpl]; omega) fun w hp => ?_
        simp only [List.set_cons_zero] at hp
        rw [bytesV_set1, hnext] at hp
        conv => whnf
        refine hKq _ _ _ (V.Sub.refl _) ?_
        clear hKq Kq
        conv => whnf
        refine And.intro (by omega) ?_
        conv => whnf
        exact ⟨m - 1, _, by omega, ⟨k + 1, by omega, rfl, hp⟩, sub_cons rfl (sub_cons rfl (sub_cons rfl (sub_cons rfl sub_nil)))⟩
      · have hkb := of_decide_eq_false hkb
        conv => whnf
        refine hKq _ _ _ (V.Sub.refl _) ?_
        clear hKq Kq
        conv => whnf
        refine And.intro (by omega) ?_
        conv => whnf
        have hn1 := hnext A
        rw [hB0 (by omega), UInt8.xor_zero, List.set_set] at hn1
        rw [hn1] at hp
        exact ⟨m - 1, _, by omega, ⟨k + 1, by omega, rfl, hp⟩, sub_cons rfl (sub_cons rfl (sub_cons rfl (sub_cons rfl sub_nil)))⟩
  · have hlt := of_decide_eq_false hlt
    conv => whnf
    clear hKq Kq
    refine hKq _ _ _ (V.Sub.refl _) ?_
    clear hKq Kq
    conv => whnf
    refine VSeq.mk fun Kq hKq => ?_
    conv => whnf
    obtain rfl : k = n := by omega
    rw [← hnl, pxK_all] at hp
    refine ⟨_, _, (Blk.str (l := px a.data.toList b.data.toList) (hp.get (i := 0) rfl) TTok rfl rfl rfl rfl (by rw [px_len]; omega)), ?_⟩
    conv => whnf
    refine hKq _ _ _ (V.Sub.refl _) ?_
    clear hKq Kq
    conv => whnf
    exact ⟨rfl, hp.ext⟩
theorem rcover_c {W : World} {v : Value} (r c l : Nat) (but : Int) (h : Shp r c) (hlr : l < r + c) (hbut : -1 ≤ but ∧ but ≤ 100) (L : List ByteArray) (hv : SLv W v (sw L)) (hL : L.length = r * c) (hLb : ∀ x ∈ L, x.size ≤ 1100) :
    Calls Tryd.prog 37 #[.int .i64 r, .int .i64 c, .int .i64 l, v, .int .i64 but] W fun e w' => e = .returned (.string ⟨(covN r c l but L L.length).toArray⟩) ∧ Ext W w' := by
  obtain ⟨p, cc, rfl⟩ := hv.shape
  rw [sw_len] at hv ⊢
  have h' := h
  obtain ⟨h1, h2, h3, h4⟩ := h'
  have hrc : r * c ≤ 6 * 8 := Nat.mul_le_mul (by omega) (by omega)
  refine v_reads (args := [.int .i64 r, .int .i64 c, .int .i64 l, .slice p L.length cc, .int .i64 but]) TTok FFok Tryd.func37 rfl rfl ?_
  conv => whnf
  refine VSeq.mk fun Kq hKq => ?_
  conv => whnf
  refine hKq _ _ _ (V.Sub.refl _) ?_
  clear hKq Kq
  conv => whnf
  refine VSeq.mk fun Kq hKq => ?_
  conv => whnf
  refine hKq _ _ _ (V.Sub.refl _) ?_
  clear hKq Kq
  conv => whnf
  refine VSeq.mk fun Kq hKq => ?_
  conv => whnf
  refine VSeq.mk fun Kq hKq => ?_
  conv => whnf
  refine hKq _ _ _ (V.Sub.refl _) ?_
  clear hKq Kq
  conv => whnf
  refine ⟨fun m e w => ∃ q : Nat, m + q = L.length ∧ e = [(0, .v (.int .i64 r)), (1, .v (.int .i64 c)), (2, .v (.int .i64 l)), (3, .v (.slice p L.length cc)), (4, .v (.int .i64 but)), (11, .v (.string ⟨(covN r c l but L q).toArray⟩)), (12, .v (.int .i64 q))] ∧ Ext W w,
    ⟨L.length, _, ⟨0, rfl, rfl, Ext.refl _⟩, sub_cons rfl (sub_cons rfl (sub_cons rfl (sub_cons rfl (sub_cons rfl (sub_cons rfl (sub_cons rfl sub_nil))))))⟩, ?_⟩
  rintro m _ w ⟨q, hm, rfl, hx0⟩
  conv => whnf
  refine VSeq.mk fun Kq hKq => ?_
  conv => whnf
  refine VSeq.mk fun Kq hKq => ?_
  conv => whnf
  refine hKq _ _ _ (V.Sub.refl _) ?_
  clear hKq Kq
  conv => whnf
  refine ⟨fun hlt => ?_, fun hlt => ?_⟩
  · have hlt := of_decide_eq_true hlt
    conv => whnf
    refine hKq _ _ _ (V.Sub.refl _) ?_
    clear hKq Kq
    conv => whnf
    refine VSeq.mk fun Kq hKq => ?_
    conv => whnf
    refine VSeq.mk fun Kq hKq => ?_
    conv => whnf
    refine VSeq.mk fun Kq hKq => ?_
    conv => whnf
    have hq : q < L.length := by omega
    have hxi : L[q]? = some L[q] := List.getElem?_eq_getElem hq
    have hxb := hLb _ (List.getElem_mem hq)
    have hcs2 : covN r c l but L (q + 1) = if (onL r c l q && decide ((q : Int) ≠ but)) = true then px (covN r c l but L q) (formL (L[q]).data.toList) else covN r c l but L q := by
      rw [covN, List.getD_eq_getElem?_getD, hxi]; rfl
    have hcl := covN_len r c l but L 1100 hLb q
    generalize L[q] = x at hxi hxb hcs2
    refine PureF.use (On_p r c l q h hlr (by omega)) fun w hx => ?_
    try (have hp := hp.call hx)
    conv => whnf
    refine hKq _ _ _ (V.Sub.refl _) ?_
    clear hKq Kq
    conv => whnf
    have hx0 := hx0.trans hx
    refine ⟨fun hon => ?_, fun hon => ?_⟩
    · conv => whnf
      refine hKq _ _ _ (V.Sub.refl _) ?_
      clear hKq Kq
      conv => whnf
      refine ⟨fun hne => ?_, fun hne => ?_⟩
      · have hne := of_decide_eq_true hne
        conv => whnf
        rw [if_pos (by rw [hon, Bool.true_and, decide_eq_true_iff]; exact hne)] at hcs2
        obtain ⟨g, off, rfl, hcell⟩ := hv.at (sw_get hxi)
        refine ⟨q, ⟨by first | rfl | omega, by omega⟩, ?_⟩
        conv => whnf
        refine ⟨_, _, run_ld TTok rfl (by rw [addM_eq, Nat.mul_one]; exact Ext.cell hx0 hcell), ?_⟩
        conv => whnf
        refine PureF.use (Form_p x (by omega)) fun w hx => ?_
        try (have hp := hp.call hx)
        conv => whnf
        have hx0 := hx0.trans hx
        refine PureF.use (Xor_p ⟨(covN r c l but L q).toArray⟩ ⟨(formL x.data.toList).toArray⟩ (by show (List.toArray _).size ≤ _; rw [List.size_toArray]; omega) (by show (List.toArray _).size ≤ _; rw [List.size_toArray, formL_len, toList_len]; omega)) fun w hx => ?_
        try (have hp := hp.call hx)
        conv => whnf
        refine hKq _ _ _ (V.Sub.refl _) ?_
        clear hKq Kq
        conv => whnf
        refine And.intro (by omega) ?_
        conv => whnf
        have hx0 := hx0.trans hx
        exact ⟨m - 1, _, by omega, ⟨q + 1, by omega, rfl, hx0⟩, sub_cons rfl (sub_cons rfl (sub_cons rfl (sub_cons rfl (sub_cons rfl (sub_cons (by rw [hcs2]; rfl) (sub_cons rfl sub_nil))))))⟩
      · have hne := of_decide_eq_false hne
        conv => whnf
        refine hKq _ _ _ (V.Sub.refl _) ?_
        clear hKq Kq
        conv => whnf
        refine And.intro (by omega) ?_
        conv => whnf
        rw [if_neg (by rw [Bool.and_eq_true, decide_eq_true_iff]; exact fun e => hne e.2)] at hcs2
        exact ⟨m - 1, _, by omega, ⟨q + 1, by omega, rfl, hx0⟩, sub_cons rfl (sub_cons rfl (sub_cons rfl (sub_cons rfl (sub_cons rfl (sub_cons (by rw [hcs2]; rfl) (sub_cons rfl sub_nil))))))⟩
    · conv => whnf
      refine hKq _ _ _ (V.Sub.refl _) ?_
      clear hKq Kq
      conv => whnf
      refine hKq _ _ _ (V.Sub.refl _) ?_
      clear hKq Kq
      conv => whnf
      refine And.intro (by omega) ?_
      conv => whnf
      rw [if_neg (by rw [hon]; simp)] at hcs2
      exact ⟨m - 1, _, by omega, ⟨q + 1, by omega, rfl, hx0⟩, sub_cons rfl (sub_cons rfl (sub_cons rfl (sub_cons rfl (sub_cons rfl (sub_cons (by rw [hcs2]; rfl) (sub_cons rfl sub_nil))))))⟩
  · have hlt := of_decide_eq_false hlt
    conv => whnf
    clear hKq Kq
    refine hKq _ _ _ (V.Sub.refl _) ?_
    clear hKq Kq
    conv => whnf
    refine VSeq.mk fun Kq hKq => ?_
    conv => whnf
    refine hKq _ _ _ (V.Sub.refl _) ?_
    clear hKq Kq
    conv => whnf
    obtain rfl : q = L.length := by omega
    exact ⟨rfl, hx0⟩
theorem rCovers_c {W : World} {v : Value} (r c : Nat) (h : Shp r c) (L : List ByteArray) (hv : SLv W v (sw L)) (hL : L.length = r * c) (hLb : ∀ x ∈ L, x.size ≤ 1100) :
    Calls Tryd.prog 17 #[.int .i64 r, .int .i64 c, v] W fun e w' => ∃ u, e = .returned u ∧ ∃ v', u = v' ∧ HpM [] W w' [row 9 1 v' (r + c) (sw (coversB r c L))] := by
  have hcov := fun w l hl hw => @rcover_c w v r c l (-1) h hl (by omega) L hw hL hLb
  obtain ⟨p, cc, rfl⟩ := hv.shape
  rw [sw_len] at hv hcov ⊢
  have h' := h
  obtain ⟨h1, h2, h3, h4⟩ := h'
  refine v_fn (args := [.int .i64 r, .int .i64 c, .slice p L.length cc]) TTok FFok Tryd.func17 rfl (Nat.le_of_ble_eq_true rfl) ?_
  have hp := (Hp.nil W).knil 9 1
  conv => whnf
  refine VSeq.mk fun Kq hKq => ?_
  conv => whnf
  refine hKq _ _ _ (V.Sub.refl _) ?_
  clear hKq Kq
  conv => whnf
  refine VSeq.mk fun Kq hKq => ?_
  conv => whnf
  refine hKq _ _ _ (V.Sub.refl _) ?_
  clear hKq Kq
  conv => whnf
  refine VSeq.mk fun Kq hKq => ?_
  conv => whnf
  refine VSeq.mk fun Kq hKq => ?_
  conv => whnf
  refine hKq _ _ _ (V.Sub.refl _) ?_
  clear hKq Kq
  conv => whnf
  refine ⟨fun m e w => ∃ (q : Nat) (u : Value), m + q = r + c ∧ e = [(0, .v (.int .i64 r)), (1, .v (.int .i64 c)), (2, .v (.slice p L.length cc)), (7, .v u), (8, .v (.int .i64 q))] ∧ HpM [] W w [row 9 1 u q (sw ((coversB r c L).take q))],
    ⟨r + c, _, ⟨0, _, rfl, rfl, hp⟩, sub_cons rfl (sub_cons rfl (sub_cons rfl (sub_cons rfl (sub_cons rfl sub_nil))))⟩, ?_⟩
  clear hp
  repeat clear hp
  rintro m _ w ⟨q, u, hm, rfl, hp⟩
  conv => whnf
  refine VSeq.mk fun Kq hKq => ?_
  conv => whnf
  refine VSeq.mk fun Kq hKq => ?_
  conv => whnf
  refine And.intro (by omega) ?_
  conv => whnf
  refine hKq _ _ _ (V.Sub.refl _) ?_
  clear hKq Kq
  conv => whnf
  refine ⟨fun hlt => ?_, fun hlt => ?_⟩
  · have hlt := of_decide_eq_true hlt
    conv => whnf
    refine hKq _ _ _ (V.Sub.refl _) ?_
    clear hKq Kq
    conv => whnf
    refine VSeq.mk fun Kq hKq => ?_
    conv => whnf
    have hq : q < r + c := by omega
    have hsn := take_snoc (coversB_get r c q L hq)
    refine V.CallsUse (hcov _ q hq (hv.ext hp.ext)) fun w hx => ?_
    try (have hp := hp.call hx)
    conv => whnf
    refine hp.kmade ([.string (coverB r c q L)]) 9 (fun b => .slice (some ⟨b, 0, none⟩) 1 1) (by kernel_rfl) fun tb w hp hx => ?_
    conv => whnf
    refine hp.kapp sl22 1 rfl (Blk.src TTok (hp.get (i := 0) rfl) rfl rfl (by intro u hu; simp at hu; subst hu; rfl)) (by omega) (by unfold maxLen; omega) fun v3 w hp => ?_
    simp only [List.set_cons_zero, List.set_cons_succ] at hp
    have hp := hp.tail
    change HpM [] W w [row 9 1 v3 (q + 1) (sw ((coversB r c L).take q) ++ sw [coverB r c q L])] at hp
    rw [← sw_app, ← hsn] at hp
    conv => whnf
    refine hKq _ _ _ (V.Sub.refl _) ?_
    clear hKq Kq
    conv => whnf
    refine And.intro (by omega) ?_
    conv => whnf
    exact ⟨m - 1, _, by omega, ⟨q + 1, v3, by omega, rfl, hp⟩, sub_cons rfl (sub_cons rfl (sub_cons rfl (sub_cons rfl (sub_cons rfl sub_nil))))⟩
  · have hlt := of_decide_eq_false hlt
    conv => whnf
    clear hKq Kq
    refine hKq _ _ _ (V.Sub.refl _) ?_
    clear hKq Kq
    conv => whnf
    refine VSeq.mk fun Kq hKq => ?_
    conv => whnf
    refine hKq _ _ _ (V.Sub.refl _) ?_
    clear hKq Kq
    conv => whnf
    obtain rfl : q = r + c := by omega
    rw [List.take_of_length_le (by rw [coversB_len]; omega)] at hp
    exact ⟨u, rfl, hp⟩
theorem Sets_p (r c lost kr kc : Nat) (h : Shp r c) (h1 : lost < 18446744073709551616) (h2 : kr < 18446744073709551616) (h3 : kc < 18446744073709551616) : PureF Tryd.prog 23 #[.int .i64 r, .int .i64 c, .int .u64 lost, .int .u64 kr, .int .u64 kc] (.bool (setsB r c lost kr kc)) := by
  have hm : r * c ≤ 6 * 8 := Nat.mul_le_mul (by unfold Shp at h; omega) (by unfold Shp at h; omega)
  have he : (r : Int) * (c : Int) = ((r * c : Nat) : Int) := by simp
  have hr : r ≤ 6 := by unfold Shp at h; omega
  have hc : c ≤ 8 := by unfold Shp at h; omega
  first | refine v_pure TTok FFok Tryd.func23 rfl rfl fun w0 => ?_ | refine v_pure (args := []) TTok FFok Tryd.func23 rfl rfl fun w0 => ?_
  conv => whnf
  refine VSeq.mk fun Kq hKq => ?_
  conv => whnf
  refine hKq _ _ _ (V.Sub.refl _) ?_
  clear hKq Kq
  conv => whnf
  refine VSeq.mk fun Kq hKq => ?_
  conv => whnf
  refine VSeq.mk fun Kq hKq => ?_
  conv => whnf
  refine And.intro (by omega) ?_
  conv => whnf
  rw [he]
  conv => whnf
  refine ⟨r * c, ⟨by first | rfl | omega, by omega⟩, ?_⟩
  conv => whnf
  refine hKq _ _ _ (V.Sub.refl _) ?_
  clear hKq Kq
  conv => whnf
  refine VSeq.mk fun Kq hKq => ?_
  conv => whnf
  rw [shr_cast]
  refine ⟨fun g1 => ?_, fun g1 => ?_⟩
  · have g1 := of_decide_eq_true g1
    conv => whnf
    refine ⟨r, ⟨by first | rfl | omega, by omega⟩, ?_⟩
    conv => whnf
    refine hKq _ _ _ (V.Sub.refl _) ?_
    clear hKq Kq
    conv => whnf
    rw [shr_cast]
    refine ⟨fun g2 => ?_, fun g2 => ?_⟩
    · have g2 := of_decide_eq_true g2
      conv => whnf
      refine ⟨c, ⟨by first | rfl | omega, by omega⟩, ?_⟩
      conv => whnf
      refine hKq _ _ _ (V.Sub.refl _) ?_
      clear hKq Kq
      conv => whnf
      rw [shr_cast]
      rw [div_zero] at g1 g2
      exact ⟨congrArg Value.bool (by rw [Bool.eq_iff_iff]; simp only [setsB, decide_eq_true_iff, div_zero]; exact ⟨fun g3 => ⟨g1, g2, g3⟩, fun g => g.2.2⟩), Ext.refl _⟩
    · have g2 := of_decide_eq_false g2
      conv => whnf
      refine hKq _ _ _ (V.Sub.refl _) ?_
      clear hKq Kq
      conv => whnf
      rw [div_zero] at g2
      exact ⟨congrArg Value.bool (by symm; exact decide_eq_false (fun g => g2 g.2.1)), Ext.refl _⟩
  · have g1 := of_decide_eq_false g1
    conv => whnf
    refine hKq _ _ _ (V.Sub.refl _) ?_
    clear hKq Kq
    conv => whnf
    refine hKq _ _ _ (V.Sub.refl _) ?_
    clear hKq Kq
    conv => whnf
    rw [div_zero] at g1
    exact ⟨congrArg Value.bool (by symm; exact decide_eq_false (fun g => g1 g.1)), Ext.refl _⟩
end Go.Proofs.YtpiilfamfinieaaDoor
