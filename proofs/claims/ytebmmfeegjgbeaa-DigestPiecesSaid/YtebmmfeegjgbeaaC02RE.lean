/- Chapter 02: the reference's codes and derived octets. -/
import Derived.Test.YtebmmfeegjgbeaaC02RD
namespace Go.Proofs.Ytebmmfeegjgbeaa
set_option linter.unusedSimpArgs false
set_option linter.unusedVariables false
open Go.RowKit V
set_option maxRecDepth 100000
set_option maxHeartbeats 1600000 in
theorem changed_p (key : ByteArray) (c : UInt8) (hk : key.size ≤ 64) : PureF Try.prog 54 #[.string key, .int .i64 (c.toNat : Nat)] (.string ⟨(xorK c key.data.toList).toArray⟩) := by
  have hkl : key.data.toList.length = key.size := by simp
  have hc := c.toNat_lt
  first | refine v_pure TTok FFok Try.func54 rfl rfl fun w0 => ?_ | refine v_pure (args := []) TTok FFok Try.func54 rfl rfl fun w0 => ?_
  conv => whnf
  refine VSeq.mk fun Kq hKq => ?_
  conv => whnf
  refine hKq _ _ _ (V.Sub.refl _) ?_
  clear hKq Kq
  conv => whnf
  refine VSeq.mk fun Kq hKq => ?_
  conv => whnf
  have hp := Hp.nil w0
  refine hp.kmkS sl41 z5 64 (by decide) (by unfold maxLen; decide) fun q w hp hx => ?_
  conv => whnf
  refine hKq _ _ _ (V.Sub.refl _) ?_
  clear hKq Kq
  conv => whnf
  refine VSeq.mk fun Kq hKq => ?_
  conv => whnf
  refine hp.kcopyS sl41 0 rfl key (bytesV key.data.toList) (by rw [List.take_of_length_le (by omega)]) (by rw [bytesV_len, List.length_replicate]; omega) fun w hp => ?_
  simp only [List.set_cons_zero] at hp
  rw [bytesV_rep, bytesV_drop, ← bytesV_app, bytesV_len, List.drop_replicate, show key.data.toList ++ List.replicate (64 - key.data.toList.length) 0 = padL key.data.toList from rfl] at hp
  have hpl := padL_len key.data.toList (by omega)
  have hxk : xorK c key.data.toList = (padL key.data.toList).map (· ^^^ c) := rfl
  obtain ⟨l, hl⟩ : ∃ l, padL key.data.toList = l := ⟨_, rfl⟩
  rw [hl] at hp hpl hxk
  conv => whnf
  refine hKq _ _ _ (V.Sub.refl _) ?_
  clear hKq Kq
  conv => whnf
  refine VSeq.mk fun Kq hKq => ?_
  conv => whnf
  refine VSeq.mk fun Kq hKq => ?_
  conv => whnf
  refine hKq _ _ _ (V.Sub.refl _) ?_
  clear hKq Kq
  conv => whnf
  have hp : HpM [] w0 w [blk q (bytesV (mapP (· ^^^ c) l 0)) 5] := by rw [mapP_zero]; exact hp
  refine ⟨fun m e w' => ∃ (i : Nat), m + i = 64 ∧ e = [(1, .v (.int .i64 (c.toNat : Nat))), (5, .v (.slice (some ⟨q, 0, none⟩) 64 64)), (6, .v (.int .i64 i))] ∧
      HpM [] w0 w' [blk q (bytesV (mapP (· ^^^ c) l i)) 5],
    ⟨64, _, ⟨0, by omega, rfl, hp⟩, sub_cons rfl (sub_cons rfl (sub_cons rfl sub_nil))⟩, ?_⟩
  clear hp hx
  repeat clear hp
  rintro m _ w ⟨i, hm, rfl, hp⟩
  conv => whnf
  refine VSeq.mk fun Kq hKq => ?_
  conv => whnf
  refine VSeq.mk fun Kq hKq => ?_
  conv => whnf
  refine hKq _ _ _ (V.Sub.refl _) ?_
  clear hKq Kq
  conv => whnf
  refine ⟨fun hlt => ?_, fun hlt => ?_⟩
  · have hlt := of_decide_eq_true hlt
    conv => whnf
    refine hKq _ _ _ (V.Sub.refl _) ?_
    clear hKq Kq
    conv => whnf
    refine VSeq.mk fun Kq hKq => ?_
    conv => whnf
    have hg := mapP_get (· ^^^ c) l i (by omega)
    have hs := mapP_set (· ^^^ c) l i (by omega)
    have hml := mapP_len (· ^^^ c) l i (by omega)
    obtain ⟨x, hxd⟩ : ∃ x, l.getD i 0 = x := ⟨_, rfl⟩
    rw [hxd] at hg hs
    have hx := x.toNat_lt
    have hxc : x.toNat ^^^ c.toNat = (x ^^^ c).toNat := (UInt8.toNat_xor _ _).symm
    refine ⟨i, ⟨by first | rfl | omega, by omega⟩, ?_⟩
    conv => whnf
    refine ⟨_, _, Blk.ld (hp.get (i := 0) rfl) TTok rfl (bytesV_get hg), ?_⟩
    conv => whnf
    rw [show ((c.toNat : Nat) : Int) % 256 = ((c.toNat : Nat) : Int) by omega]
    refine ⟨x.toNat, c.toNat, (x ^^^ c).toNat, ⟨by first | rfl | omega, by first | rfl | omega, by omega, by omega⟩, by (dsimp only; exact hxc), ?_⟩
    conv => whnf
    refine ⟨i, ⟨by first | rfl | omega, by omega⟩, ?_⟩
    conv => whnf
    refine hp.kst1 (off := i) TTok (by rfl) 0 (by rfl) (by rfl) (by rfl) (by rw [bytesV_len, hml]; omega) fun w hp => ?_
    try simp only [List.set_cons_zero, List.set_cons_succ, EV.val] at hp
    conv => whnf
    refine hKq _ _ _ (V.Sub.refl _) ?_
    clear hKq Kq
    conv => whnf
    refine And.intro (by omega) ?_
    conv => whnf
    rw [bytesV_set' _ _ _ _ rfl, hs] at hp
    exact ⟨m - 1, _, by omega, ⟨i + 1, by omega, rfl, hp⟩, sub_cons rfl (sub_cons rfl (sub_cons rfl sub_nil))⟩
  · have hlt := of_decide_eq_false hlt
    conv => whnf
    clear hKq Kq
    refine hKq _ _ _ (V.Sub.refl _) ?_
    clear hKq Kq
    conv => whnf
    refine VSeq.mk fun Kq hKq => ?_
    conv => whnf
    obtain rfl : i = l.length := by omega
    rw [mapP_all, ← hxk] at hp
    refine ⟨_, _, Blk.str (l := xorK c key.data.toList) (hp.get (i := 0) rfl) TTok rfl rfl rfl rfl (by rw [hxk, List.length_map, hpl]), ?_⟩
    conv => whnf
    refine hKq _ _ _ (V.Sub.refl _) ?_
    clear hKq Kq
    conv => whnf
    exact ⟨rfl, hp.ext⟩
theorem changed_92 (key : ByteArray) (hk : key.size ≤ 64) : PureF Try.prog 54 #[.string key, .int .i64 92] (.string ⟨(xorK 92 key.data.toList).toArray⟩) := changed_p key 92 hk
theorem changed_54 (key : ByteArray) (hk : key.size ≤ 64) : PureF Try.prog 54 #[.string key, .int .i64 54] (.string ⟨(xorK 54 key.data.toList).toArray⟩) := changed_p key 54 hk
theorem keyL_short (k : List UInt8) (h : k.length ≤ 64) : keyL k = k := by unfold keyL; rw [if_neg (by omega)]
theorem mac_eq (sh s : ByteArray) (hs : sh.size ≤ 64) : macB sh s = sumB (⟨(xorK 92 sh.data.toList).toArray⟩ ++ sumB (⟨(xorK 54 sh.data.toList).toArray⟩ ++ s)) := by
  have hsl := toList_len sh
  apply ba_eq
  show macL sh.data.toList s.data.toList = sumL2 KL SL ((⟨(xorK 92 sh.data.toList).toArray⟩ : ByteArray) ++ sumB (⟨(xorK 54 sh.data.toList).toArray⟩ ++ s)).data.toList
  rw [ByteArray.toList_data_append]
  show _ = sumL2 KL SL (xorK 92 sh.data.toList ++ sumL2 KL SL ((⟨(xorK 54 sh.data.toList).toArray⟩ : ByteArray) ++ s).data.toList)
  rw [ByteArray.toList_data_append]
  unfold macL
  rw [keyL_short sh.data.toList (by omega)]
set_option maxHeartbeats 1600000 in
theorem rMac_c {W : World} {tS tK : Value} (k s : ByteArray) (hS : SLv W tS (kw .i64 SL)) (hK : SLv W tK (kw .i64 KL)) (hk : k.size ≤ 50000) (hs : s.size ≤ 50000) :
    Calls Try.prog 28 #[.agg #[tS, tK], .string k, .string s] W fun e w' => ∃ v, e = .returned v ∧ v = .string (macB k s) ∧ Ext W w' := by
  obtain ⟨pS, cS, rfl⟩ := hS.shape
  obtain ⟨pK, cK, rfl⟩ := hK.shape
  refine v_fn (args := [.agg #[.slice pS (kw .i64 SL).length cS, .slice pK (kw .i64 KL).length cK], .string k, .string s]) TTok FFok Try.func28 rfl (Nat.le_of_ble_eq_true rfl) ?_
  conv => whnf
  refine VSeq.mk fun Kq hKq => ?_
  conv => whnf
  have hp := Hp.nil W
  refine hp.kbox ([.slice pS (kw .i64 SL).length cS, .slice pK (kw .i64 KL).length cK]) rfl fun qt w hp hx => ?_
  conv => whnf
  refine hKq _ _ _ (V.Sub.refl _) ?_
  clear hKq Kq
  conv => whnf
  refine VSeq.mk fun Kq hKq => ?_
  conv => whnf
  refine VSeq.mk fun Kq hKq => ?_
  conv => whnf
  refine hKq _ _ _ (V.Sub.refl _) ?_
  clear hKq Kq
  conv => whnf
  have hp : HpM [] W w [blk qt [.slice pS (kw .i64 SL).length cS, .slice pK (kw .i64 KL).length cK] 52] := hp
  have key2 : ∀ (w1 : World) (sh : ByteArray), HpM [] W w1 [blk qt [.slice pS (kw .i64 SL).length cS, .slice pK (kw .i64 KL).length cK] 52] → sh.size ≤ 64 → macB sh s = macB k s →
      ∀ l, V.Sub [(1, .v (.string sh)), (2, .v (.string s)), (3, .v (.pointer (some ⟨qt, 0, none⟩)))] l → Kq l w1 := by
    clear hp hx
    repeat clear hp
    intro w sh hp hsh hmac l hsub
    refine hKq _ _ _ hsub ?_
    clear hKq Kq hsub
    conv => whnf
    refine VSeq.mk fun Kq hKq => ?_
    conv => whnf
    have h92 := changed_92 sh hsh
    have h54 := changed_54 sh hsh
    have hshl := toList_len sh
    have l54 := xorK_len 54 sh.data.toList (by omega)
    have l92 := xorK_len 92 sh.data.toList (by omega)
    have heq := mac_eq sh s hsh
    have hA := bA_size (xorK 54 sh.data.toList)
    have hB := bA_size (xorK 92 sh.data.toList)
    rw [l54] at hA
    rw [l92] at hB
    obtain ⟨A, hAd⟩ : ∃ A : ByteArray, ⟨(xorK 54 sh.data.toList).toArray⟩ = A := ⟨_, rfl⟩
    obtain ⟨B, hBd⟩ : ∃ A : ByteArray, ⟨(xorK 92 sh.data.toList).toArray⟩ = A := ⟨_, rfl⟩
    rw [hAd] at hA h54 heq
    rw [hBd] at hB h92 heq
    have hAs : (A ++ s).size = A.size + s.size := ByteArray.size_append
    have hI := sumB_size (A ++ s)
    obtain ⟨I, hId⟩ : ∃ I, sumB (A ++ s) = I := ⟨_, rfl⟩
    have hBI : (B ++ I).size = B.size + I.size := ByteArray.size_append
    rw [hId] at heq hI
    refine v_mixA TTok FFok mixed [(0, false), (1, false), (2, false), (3, false), (4, false), (5, false), (6, false), (7, false), (8, true), (9, false), (10, true), (11, false)] (by kernel_rfl) ?_
    conv => whnf
    refine ⟨_, fun w' hx' => Blk.ldN (Blk.ext (hp.get (i := 0) rfl) hx') TTok rfl (rfl), ?_⟩
    conv => whnf
    first | refine PureF.quiet (h92) ?_ | refine PureF.quietE (h92) ?_
    conv => whnf
    refine ⟨_, fun w' hx' => Blk.ldN (Blk.ext (hp.get (i := 0) rfl) hx') TTok rfl (rfl), ?_⟩
    conv => whnf
    first | refine PureF.quiet (h54) ?_ | refine PureF.quietE (h54) ?_
    conv => whnf
    refine And.intro (by omega) ?_
    conv => whnf
    intro w hx
    try (have hp := hp.call hx)
    conv => whnf
    refine Calls.mono (rSum_c (W := w) (A ++ s) (hS.ext hp.ext) (hK.ext hp.ext) (by omega)) ?_
    rintro _ w ⟨_, rfl, rfl, hx⟩
    refine ⟨_, rfl, ?_⟩
    conv => whnf
    refine And.intro hx ?_
    conv => whnf
    have hp := hp.call hx
    rw [hId]
    refine And.intro (by omega) ?_
    conv => whnf
    intro w hx
    try (have hp := hp.call hx)
    conv => whnf
    refine Calls.mono (rSum_c (W := w) (B ++ I) (hS.ext hp.ext) (hK.ext hp.ext) (by omega)) ?_
    rintro _ w ⟨_, rfl, rfl, hx⟩
    refine ⟨_, rfl, ?_⟩
    conv => whnf
    refine And.intro hx ?_
    conv => whnf
    have hp := hp.call hx
    intro w hx
    try (have hp := hp.call hx)
    conv => whnf
    refine hKq _ _ _ (V.Sub.refl _) ?_
    clear hKq Kq
    conv => whnf
    rw [← heq, hmac]
    exact ⟨rfl, hp.ext⟩
  refine ⟨fun hlt => ?_, fun hlt => ?_⟩
  · have hlt := of_decide_eq_true hlt
    conv => whnf
    clear hKq
    refine ⟨_, _, Blk.ldN (hp.get (i := 0) rfl) TTok rfl (rfl), ?_⟩
    conv => whnf
    refine Calls.mono (rSum_c (W := w) k (hS.ext hp.ext) (hK.ext hp.ext) (by omega)) ?_
    rintro _ w ⟨_, rfl, rfl, hx⟩
    refine ⟨_, rfl, ?_⟩
    conv => whnf
    have hp := hp.call hx
    refine key2 _ (sumB k) hp (by rw [sumB_size]; decide) ?_ _ (sub_cons rfl (sub_cons rfl (sub_cons rfl sub_nil)))
    apply ba_eq
    show macL (sumL2 KL SL k.data.toList) s.data.toList = macL k.data.toList s.data.toList
    have hkl := toList_len k
    have e1 : keyL k.data.toList = sumL2 KL SL k.data.toList := by unfold keyL; rw [if_pos (by omega)]
    unfold macL
    rw [e1, keyL_short (sumL2 KL SL k.data.toList) (by rw [sumL2_len]; decide)]
  · have hlt := of_decide_eq_false hlt
    conv => whnf
    clear hKq
    exact key2 _ k hp (by omega) rfl _ (sub_cons rfl (sub_cons rfl (sub_cons rfl sub_nil)))
set_option maxHeartbeats 1600000 in
theorem rDerive_c {W : World} {tS tK : Value} (secret salt label : ByteArray) (n : Nat) (hS : SLv W tS (kw .i64 SL)) (hK : SLv W tK (kw .i64 KL)) (ha : secret.size ≤ 40000) (hb : salt.size ≤ 40000) (hc : label.size ≤ 40000) (hn : n ≤ 255) :
    Calls Try.prog 32 #[.agg #[tS, tK], .string secret, .string salt, .string label, .int .i64 n] W fun e w' => ∃ v, e = .returned v ∧ v = .string ⟨(derL secret.data.toList salt.data.toList label.data.toList n).toArray⟩ ∧ Ext W w' := by
  obtain ⟨pS, cS, rfl⟩ := hS.shape
  obtain ⟨pK, cK, rfl⟩ := hK.shape
  refine v_fn (args := [.agg #[.slice pS (kw .i64 SL).length cS, .slice pK (kw .i64 KL).length cK], .string secret, .string salt, .string label, .int .i64 n]) TTok FFok Try.func32 rfl (Nat.le_of_ble_eq_true rfl) ?_
  conv => whnf
  refine VSeq.mk fun Kq hKq => ?_
  conv => whnf
  have hp := Hp.nil W
  refine hp.kbox ([.slice pS (kw .i64 SL).length cS, .slice pK (kw .i64 KL).length cK]) rfl fun qt w hp hx => ?_
  conv => whnf
  refine hKq _ _ _ (V.Sub.refl _) ?_
  clear hKq Kq
  conv => whnf
  refine VSeq.mk fun Kq hKq => ?_
  conv => whnf
  have hp : HpM [] W w [blk qt [.slice pS (kw .i64 SL).length cS, .slice pK (kw .i64 KL).length cK] 52] := hp
  refine ⟨_, _, Blk.ldN (hp.get (i := 0) rfl) TTok rfl (rfl), ?_⟩
  conv => whnf
  refine Calls.mono (rMac_c (W := w) salt secret (hS.ext hp.ext) (hK.ext hp.ext) (by omega) (by omega)) ?_
  rintro _ w ⟨_, rfl, rfl, hx⟩
  refine ⟨_, rfl, ?_⟩
  conv => whnf
  refine hKq _ _ _ (V.Sub.refl _) ?_
  clear hKq Kq
  conv => whnf
  refine VSeq.mk fun Kq hKq => ?_
  conv => whnf
  refine hKq _ _ _ (V.Sub.refl _) ?_
  clear hKq Kq
  conv => whnf
  refine VSeq.mk fun Kq hKq => ?_
  conv => whnf
  refine VSeq.mk fun Kq hKq => ?_
  conv => whnf
  refine hKq _ _ _ (V.Sub.refl _) ?_
  clear hKq Kq
  conv => whnf
  have hp := hp.call hx
  have hKs := macB_size salt secret
  have hder : ∀ i, i ≤ 8 → n ≤ 32 * i → (derJ (macB salt secret).data.toList label.data.toList i).2.take n = derL secret.data.toList salt.data.toList label.data.toList n := fun i h1 h2 => derL_of _ _ _ n i h1 h2
  obtain ⟨K, hKd⟩ : ∃ K, macB salt secret = K := ⟨_, rfl⟩
  rw [hKd] at hKs hder ⊢
  have hll := toList_len label
  refine ⟨fun mm e w' => ∃ (j : Nat) (o l : ByteArray), mm + j = 8 ∧ o.data.toList = (derJ K.data.toList label.data.toList j).2 ∧ l.data.toList = (derJ K.data.toList label.data.toList j).1 ∧ e = [(3, .v (.string label)), (4, .v (.int .i64 n)), (5, .v (.pointer (some ⟨qt, 0, none⟩))), (11, .v (.string K)), (12, .v (.string o)), (13, .v (.string l)), (14, .v (.int .i64 (j + 1 : Nat)))] ∧ HpM [] W w' [blk qt [.slice pS (kw .i64 SL).length cS, .slice pK (kw .i64 KL).length cK] 52],
      ⟨8, _, ⟨0, ⟨#[]⟩, ⟨#[]⟩, by omega, rfl, rfl, rfl, hp⟩, sub_cons rfl (sub_cons rfl (sub_cons rfl (sub_cons rfl (sub_cons rfl (sub_cons rfl (sub_cons rfl sub_nil))))))⟩, ?_⟩
  clear hp hx
  repeat clear hp
  rintro mm _ w ⟨j, o, l, hmm, ho, hl, rfl, hp⟩
  obtain ⟨hz1, hz2⟩ := derJ_len K.data.toList label.data.toList j
  rw [← ho, toList_len] at hz1
  rw [← hl, toList_len] at hz2
  conv => whnf
  refine VSeq.mk fun Kq hKq => ?_
  conv => whnf
  refine VSeq.mk fun Kq hKq => ?_
  conv => whnf
  refine hKq _ _ _ (V.Sub.refl _) ?_
  clear hKq Kq
  conv => whnf
  refine ⟨fun hlt => ?_, fun hlt => ?_⟩
  · have hlt := of_decide_eq_true hlt
    conv => whnf
    refine hKq _ _ _ (V.Sub.refl _) ?_
    clear hKq Kq
    conv => whnf
    refine VSeq.mk fun Kq hKq => ?_
    conv => whnf
    refine VSeq.mk fun Kq hKq => ?_
    conv => whnf
    have hj : j < 8 := by omega
    refine ⟨_, _, Blk.ldN (hp.get (i := 0) rfl) TTok rfl (rfl), ?_⟩
    conv => whnf
    refine And.intro (by omega) ?_
    conv => whnf
    have hla : (l ++ label).size = l.size + label.size := ByteArray.size_append
    rw [u8_cast]
    refine hp.kmade (bytesV [UInt8.ofNat (j + 1)]) 5 (fun b => .slice (some ⟨b, 0, none⟩) 1 1) (by kernel_rfl) fun tb w hp hx => ?_
    conv => whnf
    obtain ⟨O, hO, hOs, hOl⟩ : ∃ O : ByteArray, ⟨[UInt8.ofNat (j + 1)].toArray⟩ = O ∧ O.size = 1 ∧ O.data.toList = [UInt8.ofNat (j + 1)] := ⟨_, rfl, rfl, rfl⟩
    refine ⟨_, _, Blk.str (l := [UInt8.ofNat (j + 1)]) (hp.get (i := 0) rfl) TTok rfl rfl rfl rfl rfl, ?_⟩
    conv => whnf
    rw [hO]
    have hlb : (l ++ label ++ O).size = l.size + label.size + 1 := by rw [ByteArray.size_append, hla, hOs]
    refine And.intro (by rw [hla, hOs]; omega) ?_
    conv => whnf
    refine Calls.mono (rMac_c (W := w) K (l ++ label ++ O) (hS.ext hp.ext) (hK.ext hp.ext) (by omega) (by omega)) ?_
    rintro _ w ⟨_, rfl, rfl, hx⟩
    refine ⟨_, rfl, ?_⟩
    conv => whnf
    refine hKq _ _ _ (V.Sub.refl _) ?_
    clear hKq Kq
    conv => whnf
    have hp := hp.call hx
    have hml : (macB K (l ++ label ++ O)).data.toList = macL K.data.toList ((derJ K.data.toList label.data.toList j).1 ++ label.data.toList ++ [UInt8.ofNat (j + 1)]) := by
      show macL K.data.toList (l ++ label ++ O).data.toList = _
      rw [ByteArray.toList_data_append, ByteArray.toList_data_append, hl, hOl]
    have hms := macB_size K (l ++ label ++ O)
    obtain ⟨M, hM⟩ : ∃ M, macB K (l ++ label ++ O) = M := ⟨_, rfl⟩
    rw [hM] at hml hms ⊢
    have hom : (o ++ M).data.toList = (derJ K.data.toList label.data.toList (j + 1)).2 := by
      rw [ByteArray.toList_data_append, ho, hml]; rfl
    refine And.intro (by omega) ?_
    conv => whnf
    refine hKq _ _ _ (V.Sub.refl _) ?_
    clear hKq Kq
    conv => whnf
    refine And.intro (by omega) ?_
    conv => whnf
    exact ⟨mm - 1, _, by omega, ⟨j + 1, o ++ M, M, by omega, hom, hml, rfl, hp.tail⟩, sub_cons rfl (sub_cons rfl (sub_cons rfl (sub_cons rfl (sub_cons rfl (sub_cons rfl (sub_cons rfl sub_nil))))))⟩
  · have hlt := of_decide_eq_false hlt
    conv => whnf
    clear hKq Kq
    refine hKq _ _ _ (V.Sub.refl _) ?_
    clear hKq Kq
    conv => whnf
    refine VSeq.mk fun Kq hKq => ?_
    conv => whnf
    refine ⟨n, ⟨by first | rfl | omega, by omega⟩, ?_⟩
    conv => whnf
    refine hKq _ _ _ (V.Sub.refl _) ?_
    clear hKq Kq
    conv => whnf
    refine ⟨?_, hp.ext⟩
    have e : o.extract 0 n = ⟨(derL secret.data.toList salt.data.toList label.data.toList n).toArray⟩ := by
      apply ba_eq
      rw [ext_list, List.drop_zero, ho, Nat.sub_zero]
      exact hder j (by omega) (by omega)
    rw [e]
    rfl
end Go.Proofs.Ytebmmfeegjgbeaa
