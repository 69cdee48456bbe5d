/- Chapter 03: the reference's Block. -/
import Derived.Test.YtppfnacjehiieaaC03J
namespace Go.Proofs.Ytppfnacjehiieaa
set_option linter.unusedSimpArgs false
set_option linter.unusedVariables false
open Go.RowKit V

/-- all 64 octets that the block's words are read from -/
def firstR (key nonce : ByteArray) (c : Nat) : ByteArray := (((⟨#[101, 120, 112, 97, 110, 100, 32, 51, 50, 45, 98, 121, 116, 101, 32, 107]⟩ : ByteArray) ++ key) ++ ⟨(octL c).toArray⟩) ++ nonce
theorem byt4 (a b c d : UInt8) : byt ⟨#[a, b, c, d]⟩ 0 = a.toNat ∧ byt ⟨#[a, b, c, d]⟩ 1 = b.toNat ∧ byt ⟨#[a, b, c, d]⟩ 2 = c.toNat ∧ byt ⟨#[a, b, c, d]⟩ 3 = d.toNat := ⟨rfl, rfl, rfl, rfl⟩
theorem firstR_byt (key nonce : ByteArray) (hk : key.size = 32) (c i : Nat) (h : i < 48 ∨ 52 ≤ i) : byt (firstR key nonce c) i = byt (firstS key nonce) i := by
  have s1 : ((⟨#[101, 120, 112, 97, 110, 100, 32, 51, 50, 45, 98, 121, 116, 101, 32, 107]⟩ : ByteArray) ++ key).size = 48 := by rw [ByteArray.size_append, hk]; rfl
  have s2 : (⟨(octL c).toArray⟩ : ByteArray).size = 4 := rfl
  have s3 : (⟨#[0, 0, 0, 0]⟩ : ByteArray).size = 4 := rfl
  unfold firstR firstS
  generalize (⟨#[101, 120, 112, 97, 110, 100, 32, 51, 50, 45, 98, 121, 116, 101, 32, 107]⟩ : ByteArray) ++ key = A at s1 ⊢
  rw [byt_append (A ++ ⟨(octL c).toArray⟩), byt_append (A ++ ⟨#[0, 0, 0, 0]⟩), byt_append A, byt_append A, ByteArray.size_append, ByteArray.size_append, s1, s2, s3]
  rcases h with h | h
  · rw [if_pos (by omega), if_pos h, if_pos (by omega), if_pos h]
  · rw [if_neg (by omega), if_neg (by omega)]
theorem firstR_mid (key nonce : ByteArray) (hk : key.size = 32) (c j : Nat) (h : j < 4) : byt (firstR key nonce c) (48 + j) = byt ⟨(octL c).toArray⟩ j := by
  have s1 : ((⟨#[101, 120, 112, 97, 110, 100, 32, 51, 50, 45, 98, 121, 116, 101, 32, 107]⟩ : ByteArray) ++ key).size = 48 := by rw [ByteArray.size_append, hk]; rfl
  have s2 : (⟨(octL c).toArray⟩ : ByteArray).size = 4 := rfl
  unfold firstR
  generalize (⟨#[101, 120, 112, 97, 110, 100, 32, 51, 50, 45, 98, 121, 116, 101, 32, 107]⟩ : ByteArray) ++ key = A at s1 ⊢
  rw [byt_append (A ++ ⟨(octL c).toArray⟩), byt_append A, ByteArray.size_append, s1, s2, if_pos (by omega), if_neg (by omega), show 48 + j - 48 = j by omega]
theorem wn_firstR (key nonce : ByteArray) (hk : key.size = 32) (c : Nat) (hc : c < 4294967296) : wn (firstR key nonce c) = (wn (firstS key nonce)).set 12 c := by
  apply List.ext_getElem
  · simp [wn]
  intro i h1 h2
  have hi : i < 16 := by simpa [wn] using h1
  rw [List.getElem_set]
  by_cases e : 12 = i
  · subst e
    rw [if_pos rfl]
    obtain ⟨a, b, d, f⟩ := byt4 (UInt8.ofNat c) (UInt8.ofNat (c / 256)) (UInt8.ofNat (c / 65536)) (UInt8.ofNat (c / 16777216))
    have m0 := firstR_mid key nonce hk c 0 (by omega)
    have m1 := firstR_mid key nonce hk c 1 (by omega)
    have m2 := firstR_mid key nonce hk c 2 (by omega)
    have m3 := firstR_mid key nonce hk c 3 (by omega)
    have k0 := u8_of c; have k1 := u8_of (c / 256); have k2 := u8_of (c / 65536); have k3 := u8_of (c / 16777216)
    simp only [wn, List.getElem_map, List.getElem_range, le4]
    simp only [octL] at m0 m1 m2 m3
    rw [show 4 * 12 = 48 + 0 by rfl, m0, m1, m2, m3, a, b, d, f]
    omega
  · rw [if_neg e]
    simp only [wn, List.getElem_map, List.getElem_range, le4]
    rw [firstR_byt _ _ hk _ _ (by omega), firstR_byt _ _ hk _ _ (by omega), firstR_byt _ _ hk _ _ (by omega), firstR_byt _ _ hk _ _ (by omega)]
theorem firstR_size (key nonce : ByteArray) (hk : key.size = 32) (hn : nonce.size = 12) (c : Nat) : (firstR key nonce c).size = 64 := by
  unfold firstR; simp only [ByteArray.size_append, hk, hn]; rfl
theorem bA_append (a b : List UInt8) : (⟨a.toArray⟩ : ByteArray) ++ ⟨b.toArray⟩ = ⟨(a ++ b).toArray⟩ := by
  apply ByteArray.ext; simp [ByteArray.data_append]
theorem bA_size (l : List UInt8) : (⟨l.toArray⟩ : ByteArray).size = l.length := rfl
theorem colL_step (ws : List Nat) (i : Nat) (hi : i < 4) : (colL.take (i + 1)).foldl qround ws = qround ((colL.take i).foldl qround ws) (i, 4 + i, 8 + i, 12 + i) := by
  have e : colL[i]? = some (i, 4 + i, 8 + i, 12 + i) := by rcases (by omega : i = 0 ∨ i = 1 ∨ i = 2 ∨ i = 3) with rfl | rfl | rfl | rfl <;> rfl
  rw [List.take_add_one, e]; simp only [Option.toList_some, List.foldl_append, List.foldl_cons, List.foldl_nil]
theorem diaL_step (ws : List Nat) (i : Nat) (hi : i < 4) : (diaL.take (i + 1)).foldl qround ws = qround ((diaL.take i).foldl qround ws) (i, 4 + (i + 1) % 4, 8 + (i + 2) % 4, 12 + (i + 3) % 4) := by
  have e : diaL[i]? = some (i, 4 + (i + 1) % 4, 8 + (i + 2) % 4, 12 + (i + 3) % 4) := by rcases (by omega : i = 0 ∨ i = 1 ∨ i = 2 ∨ i = 3) with rfl | rfl | rfl | rfl <;> rfl
  rw [List.take_add_one, e]; simp only [Option.toList_some, List.foldl_append, List.foldl_cons, List.foldl_nil]
set_option maxHeartbeats 1600000 in
theorem rBlock_p (key nonce : ByteArray) (c : Nat) (hk : key.size = 32) (hn : nonce.size = 12) (hc : c < 4294967296) :
    PureF Try.prog 12 #[.string key, .string nonce, .int .i64 c] (.string ⟨(blkS key nonce c).toArray⟩) := by
  have s1 : ((⟨#[101, 120, 112, 97, 110, 100, 32, 51, 50, 45, 98, 121, 116, 101, 32, 107]⟩ : ByteArray) ++ key).size = 48 := by rw [ByteArray.size_append, hk]; rfl
  have s2 : (((⟨#[101, 120, 112, 97, 110, 100, 32, 51, 50, 45, 98, 121, 116, 101, 32, 107]⟩ : ByteArray) ++ key) ++ ⟨(octL c).toArray⟩).size = 52 := by rw [ByteArray.size_append, s1]; rfl
  have s3 := firstR_size key nonce hk hn c
  have hwn := wn_firstR key nonce hk c hc
  first | refine v_pure TTok FFok Try.func12 rfl rfl fun w0 => ?_ | refine v_pure (args := []) TTok FFok Try.func12 rfl rfl fun w0 => ?_
  conv => whnf
  repeat (first | (refine VSeq.mk fun Kq hKq => ?_; conv => whnf) | (refine hKq _ _ ?_; clear hKq Kq; conv => whnf) | (clear hKq Kq; refine hKq _ _ ?_; clear hKq Kq; conv => whnf) | (clear hKq Kq; clear hKq Kq; refine hKq _ _ ?_; clear hKq Kq; conv => whnf) | (clear hKq Kq; clear hKq Kq; clear hKq Kq; refine hKq _ _ ?_; clear hKq Kq; conv => whnf) | (clear hKq Kq; clear hKq Kq; clear hKq Kq; clear hKq Kq; refine hKq _ _ ?_; clear hKq Kq; conv => whnf) | (clear hKq Kq; clear hKq Kq; clear hKq Kq; clear hKq Kq; clear hKq Kq; refine hKq _ _ ?_; clear hKq Kq; conv => whnf) | (refine And.intro (by omega) ?_; conv => whnf))
  have hp := Hp.nil w0
  refine And.intro (by rw [hk]; decide) ?_
  conv => whnf
  repeat (first | (refine VSeq.mk fun Kq hKq => ?_; conv => whnf) | (refine hKq _ _ ?_; clear hKq Kq; conv => whnf) | (clear hKq Kq; refine hKq _ _ ?_; clear hKq Kq; conv => whnf) | (clear hKq Kq; clear hKq Kq; refine hKq _ _ ?_; clear hKq Kq; conv => whnf) | (clear hKq Kq; clear hKq Kq; clear hKq Kq; refine hKq _ _ ?_; clear hKq Kq; conv => whnf) | (clear hKq Kq; clear hKq Kq; clear hKq Kq; clear hKq Kq; refine hKq _ _ ?_; clear hKq Kq; conv => whnf) | (clear hKq Kq; clear hKq Kq; clear hKq Kq; clear hKq Kq; clear hKq Kq; refine hKq _ _ ?_; clear hKq Kq; conv => whnf) | (refine And.intro (by omega) ?_; conv => whnf))
  refine PureF.use (octets_p c hc) fun w hx => ?_
  try (have hp := hp.call hx)
  conv => whnf
  repeat (first | (refine VSeq.mk fun Kq hKq => ?_; conv => whnf) | (refine hKq _ _ ?_; clear hKq Kq; conv => whnf) | (clear hKq Kq; refine hKq _ _ ?_; clear hKq Kq; conv => whnf) | (clear hKq Kq; clear hKq Kq; refine hKq _ _ ?_; clear hKq Kq; conv => whnf) | (clear hKq Kq; clear hKq Kq; clear hKq Kq; refine hKq _ _ ?_; clear hKq Kq; conv => whnf) | (clear hKq Kq; clear hKq Kq; clear hKq Kq; clear hKq Kq; refine hKq _ _ ?_; clear hKq Kq; conv => whnf) | (clear hKq Kq; clear hKq Kq; clear hKq Kq; clear hKq Kq; clear hKq Kq; refine hKq _ _ ?_; clear hKq Kq; conv => whnf) | (refine And.intro (by omega) ?_; conv => whnf))
  refine And.intro (by rw [s1]; exact (by decide : 48 + 4 ≤ 9223372036854775807)) ?_
  conv => whnf
  repeat (first | (refine VSeq.mk fun Kq hKq => ?_; conv => whnf) | (refine hKq _ _ ?_; clear hKq Kq; conv => whnf) | (clear hKq Kq; refine hKq _ _ ?_; clear hKq Kq; conv => whnf) | (clear hKq Kq; clear hKq Kq; refine hKq _ _ ?_; clear hKq Kq; conv => whnf) | (clear hKq Kq; clear hKq Kq; clear hKq Kq; refine hKq _ _ ?_; clear hKq Kq; conv => whnf) | (clear hKq Kq; clear hKq Kq; clear hKq Kq; clear hKq Kq; refine hKq _ _ ?_; clear hKq Kq; conv => whnf) | (clear hKq Kq; clear hKq Kq; clear hKq Kq; clear hKq Kq; clear hKq Kq; refine hKq _ _ ?_; clear hKq Kq; conv => whnf) | (refine And.intro (by omega) ?_; conv => whnf))
  have hp := hp.knil 3 1
  clear hx
  refine ⟨fun m l w => ∃ (j : Nat) (v : Value), m + j = 16 ∧ l = [(7, .v (.string (firstR key nonce c))), (8, .v v), (9, .v (.int .i64 j))] ∧ Hp w0 w [row 3 1 v j (iw ((wn (firstR key nonce c)).take j))],
    ⟨16, _, ⟨0, _, rfl, rfl, hp⟩, sub_cons rfl (sub_cons rfl (sub_cons rfl sub_nil))⟩, ?_⟩
  clear hp
  rintro m _ w ⟨j, v, hm, rfl, hp⟩
  conv => whnf
  repeat (first | (refine VSeq.mk fun Kq hKq => ?_; conv => whnf) | (refine hKq _ _ ?_; clear hKq Kq; conv => whnf) | (clear hKq Kq; refine hKq _ _ ?_; clear hKq Kq; conv => whnf) | (clear hKq Kq; clear hKq Kq; refine hKq _ _ ?_; clear hKq Kq; conv => whnf) | (clear hKq Kq; clear hKq Kq; clear hKq Kq; refine hKq _ _ ?_; clear hKq Kq; conv => whnf) | (clear hKq Kq; clear hKq Kq; clear hKq Kq; clear hKq Kq; refine hKq _ _ ?_; clear hKq Kq; conv => whnf) | (clear hKq Kq; clear hKq Kq; clear hKq Kq; clear hKq Kq; clear hKq Kq; refine hKq _ _ ?_; clear hKq Kq; conv => whnf) | (refine And.intro (by omega) ?_; conv => whnf))
  refine ⟨fun hlt => ?_, fun hlt => ?_⟩
  · have hlt := of_decide_eq_true hlt
    conv => whnf
    repeat (first | (refine VSeq.mk fun Kq hKq => ?_; conv => whnf) | (refine hKq _ _ ?_; clear hKq Kq; conv => whnf) | (clear hKq Kq; refine hKq _ _ ?_; clear hKq Kq; conv => whnf) | (clear hKq Kq; clear hKq Kq; refine hKq _ _ ?_; clear hKq Kq; conv => whnf) | (clear hKq Kq; clear hKq Kq; clear hKq Kq; refine hKq _ _ ?_; clear hKq Kq; conv => whnf) | (clear hKq Kq; clear hKq Kq; clear hKq Kq; clear hKq Kq; refine hKq _ _ ?_; clear hKq Kq; conv => whnf) | (clear hKq Kq; clear hKq Kq; clear hKq Kq; clear hKq Kq; clear hKq Kq; refine hKq _ _ ?_; clear hKq Kq; conv => whnf) | (refine And.intro (by omega) ?_; conv => whnf))
    have hj : j < 16 := by omega
    have hle : le4 ((firstR key nonce c).extract (4 * j) (4 * j + 4)) 0 = le4 (firstR key nonce c) (4 * j) := by
      unfold le4; simp only [Nat.zero_add]; rw [byt_extract _ _ _ _ (by omega) (by omega), byt_extract _ _ _ _ (by omega) (by omega), byt_extract _ _ _ _ (by omega) (by omega), byt_extract _ _ _ _ (by omega) (by omega)]; rfl
    have hsz : ((firstR key nonce c).extract (4 * j) (4 * j + 4)).size = 4 := by rw [size_extract _ _ _ (by omega)]; omega
    refine ⟨4 * j, 4 * j + 4, ⟨by first | rfl | omega, by first | rfl | omega, by omega, by omega⟩, ?_⟩
    conv => whnf
    repeat (first | (refine VSeq.mk fun Kq hKq => ?_; conv => whnf) | (refine hKq _ _ ?_; clear hKq Kq; conv => whnf) | (clear hKq Kq; refine hKq _ _ ?_; clear hKq Kq; conv => whnf) | (clear hKq Kq; clear hKq Kq; refine hKq _ _ ?_; clear hKq Kq; conv => whnf) | (clear hKq Kq; clear hKq Kq; clear hKq Kq; refine hKq _ _ ?_; clear hKq Kq; conv => whnf) | (clear hKq Kq; clear hKq Kq; clear hKq Kq; clear hKq Kq; refine hKq _ _ ?_; clear hKq Kq; conv => whnf) | (clear hKq Kq; clear hKq Kq; clear hKq Kq; clear hKq Kq; clear hKq Kq; refine hKq _ _ ?_; clear hKq Kq; conv => whnf) | (refine And.intro (by omega) ?_; conv => whnf))
    refine PureF.use (rnumber_p _ (by omega)) fun w hx => ?_
    try (have hp := hp.call hx)
    conv => whnf
    repeat (first | (refine VSeq.mk fun Kq hKq => ?_; conv => whnf) | (refine hKq _ _ ?_; clear hKq Kq; conv => whnf) | (clear hKq Kq; refine hKq _ _ ?_; clear hKq Kq; conv => whnf) | (clear hKq Kq; clear hKq Kq; refine hKq _ _ ?_; clear hKq Kq; conv => whnf) | (clear hKq Kq; clear hKq Kq; clear hKq Kq; refine hKq _ _ ?_; clear hKq Kq; conv => whnf) | (clear hKq Kq; clear hKq Kq; clear hKq Kq; clear hKq Kq; refine hKq _ _ ?_; clear hKq Kq; conv => whnf) | (clear hKq Kq; clear hKq Kq; clear hKq Kq; clear hKq Kq; clear hKq Kq; refine hKq _ _ ?_; clear hKq Kq; conv => whnf) | (refine And.intro (by omega) ?_; conv => whnf))
    rw [hle]
    refine hp.kmade ([.int .i64 (le4 (firstR key nonce c) (4 * j) : Nat)]) 3 (fun b => .slice (some ⟨b, 0, none⟩) 1 1) (by kernel_rfl) fun tb w hp hx => ?_
    conv => whnf
    repeat (first | (refine VSeq.mk fun Kq hKq => ?_; conv => whnf) | (refine hKq _ _ ?_; clear hKq Kq; conv => whnf) | (clear hKq Kq; refine hKq _ _ ?_; clear hKq Kq; conv => whnf) | (clear hKq Kq; clear hKq Kq; refine hKq _ _ ?_; clear hKq Kq; conv => whnf) | (clear hKq Kq; clear hKq Kq; clear hKq Kq; refine hKq _ _ ?_; clear hKq Kq; conv => whnf) | (clear hKq Kq; clear hKq Kq; clear hKq Kq; clear hKq Kq; refine hKq _ _ ?_; clear hKq Kq; conv => whnf) | (clear hKq Kq; clear hKq Kq; clear hKq Kq; clear hKq Kq; clear hKq Kq; refine hKq _ _ ?_; clear hKq Kq; conv => whnf) | (refine And.intro (by omega) ?_; conv => whnf))
    refine hp.kapp (by kernel_rfl : slOk Try.prog 57 3 1 8 = true) 1 rfl (Blk.src TTok (hp.get (i := 0) rfl) rfl rfl (by intro u hu; simp at hu; subst hu; rfl)) (by omega) (by unfold maxLen; omega) fun v' w hp => ?_
    simp only [List.set_cons_zero, List.set_cons_succ] at hp
    conv => whnf
    repeat (first | (refine VSeq.mk fun Kq hKq => ?_; conv => whnf) | (refine hKq _ _ ?_; clear hKq Kq; conv => whnf) | (clear hKq Kq; refine hKq _ _ ?_; clear hKq Kq; conv => whnf) | (clear hKq Kq; clear hKq Kq; refine hKq _ _ ?_; clear hKq Kq; conv => whnf) | (clear hKq Kq; clear hKq Kq; clear hKq Kq; refine hKq _ _ ?_; clear hKq Kq; conv => whnf) | (clear hKq Kq; clear hKq Kq; clear hKq Kq; clear hKq Kq; refine hKq _ _ ?_; clear hKq Kq; conv => whnf) | (clear hKq Kq; clear hKq Kq; clear hKq Kq; clear hKq Kq; clear hKq Kq; refine hKq _ _ ?_; clear hKq Kq; conv => whnf) | (refine And.intro (by omega) ?_; conv => whnf))
    refine ⟨m - 1, _, by omega, ⟨j + 1, v', by omega, rfl, ?_⟩, sub_cons rfl (sub_cons rfl (sub_cons rfl sub_nil))⟩
    have e : iw ((wn (firstR key nonce c)).take (j + 1)) = iw ((wn (firstR key nonce c)).take j) ++ [.int .i64 (le4 (firstR key nonce c) (4 * j) : Nat)] := by
      rw [List.take_add_one]; simp [iw, wn, hj]
    rw [e]; exact hp.tail
  · have hlt := of_decide_eq_false hlt
    conv => whnf
    repeat (first | (refine VSeq.mk fun Kq hKq => ?_; conv => whnf) | (refine hKq _ _ ?_; clear hKq Kq; conv => whnf) | (clear hKq Kq; refine hKq _ _ ?_; clear hKq Kq; conv => whnf) | (clear hKq Kq; clear hKq Kq; refine hKq _ _ ?_; clear hKq Kq; conv => whnf) | (clear hKq Kq; clear hKq Kq; clear hKq Kq; refine hKq _ _ ?_; clear hKq Kq; conv => whnf) | (clear hKq Kq; clear hKq Kq; clear hKq Kq; clear hKq Kq; refine hKq _ _ ?_; clear hKq Kq; conv => whnf) | (clear hKq Kq; clear hKq Kq; clear hKq Kq; clear hKq Kq; clear hKq Kq; refine hKq _ _ ?_; clear hKq Kq; conv => whnf) | (refine And.intro (by omega) ?_; conv => whnf))
    obtain rfl : j = 16 := by omega
    rw [List.take_of_length_le (by simp [wn]), hwn] at hp
    obtain ⟨g, gc, zs, rfl, hp⟩ := hp.toBlk0 0 rfl (by omega)
    simp only [List.set_cons_zero] at hp
    obtain ⟨us, hus⟩ : ∃ us, (wn (firstS key nonce)).set 12 c = us := ⟨_, rfl⟩
    have hbs : blkS key nonce c = blockB us := by unfold blkS; rw [hus]
    have hw1 : Words us := by rw [← hus]; exact (wn_words _).set _ _ hc
    rw [hus] at hp
    clear hus hwn
    refine ⟨fun m l w => ∃ (r gw cw : Nat) (zw : List Value), m + r = 10 ∧ l = [(8, .v (.slice (some ⟨g, 0, none⟩) 16 gc)), (10, .v (.slice (some ⟨gw, 0, none⟩) 16 cw)), (11, .v (.int .i64 r))] ∧ Blk w gw (iw (drounds us r) ++ zw) 3 ∧ Hp w0 w [blk g (iw us ++ zs) 3],
      ⟨10, _, ⟨0, g, gc, zs, rfl, rfl, hp.get (i := 0) rfl, hp⟩, sub_cons rfl (sub_cons rfl (sub_cons rfl sub_nil))⟩, ?_⟩
    clear hp
    rintro m _ w ⟨r, gw, cw, zw, hm, rfl, hwb, hp⟩
    conv => whnf
    repeat (first | (refine VSeq.mk fun Kq hKq => ?_; conv => whnf) | (refine hKq _ _ ?_; clear hKq Kq; conv => whnf) | (clear hKq Kq; refine hKq _ _ ?_; clear hKq Kq; conv => whnf) | (clear hKq Kq; clear hKq Kq; refine hKq _ _ ?_; clear hKq Kq; conv => whnf) | (clear hKq Kq; clear hKq Kq; clear hKq Kq; refine hKq _ _ ?_; clear hKq Kq; conv => whnf) | (clear hKq Kq; clear hKq Kq; clear hKq Kq; clear hKq Kq; refine hKq _ _ ?_; clear hKq Kq; conv => whnf) | (clear hKq Kq; clear hKq Kq; clear hKq Kq; clear hKq Kq; clear hKq Kq; refine hKq _ _ ?_; clear hKq Kq; conv => whnf) | (refine And.intro (by omega) ?_; conv => whnf))
    refine ⟨fun hlt => ?_, fun hlt => ?_⟩
    · have hlt := of_decide_eq_true hlt
      conv => whnf
      repeat (first | (refine VSeq.mk fun Kq hKq => ?_; conv => whnf) | (refine hKq _ _ ?_; clear hKq Kq; conv => whnf) | (clear hKq Kq; refine hKq _ _ ?_; clear hKq Kq; conv => whnf) | (clear hKq Kq; clear hKq Kq; refine hKq _ _ ?_; clear hKq Kq; conv => whnf) | (clear hKq Kq; clear hKq Kq; clear hKq Kq; refine hKq _ _ ?_; clear hKq Kq; conv => whnf) | (clear hKq Kq; clear hKq Kq; clear hKq Kq; clear hKq Kq; refine hKq _ _ ?_; clear hKq Kq; conv => whnf) | (clear hKq Kq; clear hKq Kq; clear hKq Kq; clear hKq Kq; clear hKq Kq; refine hKq _ _ ?_; clear hKq Kq; conv => whnf) | (refine And.intro (by omega) ?_; conv => whnf))
      have hwr := drounds_words hw1 r
      refine ⟨fun m l w => ∃ (i gw cw : Nat) (zw : List Value), m + i = 4 ∧ l = [(8, .v (.slice (some ⟨g, 0, none⟩) 16 gc)), (10, .v (.slice (some ⟨gw, 0, none⟩) 16 cw)), (11, .v (.int .i64 r)), (12, .v (.int .i64 i))] ∧ Blk w gw (iw ((colL.take i).foldl qround (drounds us r)) ++ zw) 3 ∧ Hp w0 w [blk g (iw us ++ zs) 3],
        ⟨4, _, ⟨0, gw, cw, zw, rfl, rfl, hwb, hp⟩, sub_cons rfl (sub_cons rfl (sub_cons rfl (sub_cons rfl sub_nil)))⟩, ?_⟩
      clear hp hwb
      rintro m' _ w ⟨i, gw, cw, zw, hm', rfl, hwb, hp⟩
      conv => whnf
      repeat (first | (refine VSeq.mk fun Kq hKq => ?_; conv => whnf) | (refine hKq _ _ ?_; clear hKq Kq; conv => whnf) | (clear hKq Kq; refine hKq _ _ ?_; clear hKq Kq; conv => whnf) | (clear hKq Kq; clear hKq Kq; refine hKq _ _ ?_; clear hKq Kq; conv => whnf) | (clear hKq Kq; clear hKq Kq; clear hKq Kq; refine hKq _ _ ?_; clear hKq Kq; conv => whnf) | (clear hKq Kq; clear hKq Kq; clear hKq Kq; clear hKq Kq; refine hKq _ _ ?_; clear hKq Kq; conv => whnf) | (clear hKq Kq; clear hKq Kq; clear hKq Kq; clear hKq Kq; clear hKq Kq; refine hKq _ _ ?_; clear hKq Kq; conv => whnf) | (refine And.intro (by omega) ?_; conv => whnf))
      refine ⟨fun hlt2 => ?_, fun hlt2 => ?_⟩
      · have hlt2 := of_decide_eq_true hlt2
        conv => whnf
        repeat (first | (refine VSeq.mk fun Kq hKq => ?_; conv => whnf) | (refine hKq _ _ ?_; clear hKq Kq; conv => whnf) | (clear hKq Kq; refine hKq _ _ ?_; clear hKq Kq; conv => whnf) | (clear hKq Kq; clear hKq Kq; refine hKq _ _ ?_; clear hKq Kq; conv => whnf) | (clear hKq Kq; clear hKq Kq; clear hKq Kq; refine hKq _ _ ?_; clear hKq Kq; conv => whnf) | (clear hKq Kq; clear hKq Kq; clear hKq Kq; clear hKq Kq; refine hKq _ _ ?_; clear hKq Kq; conv => whnf) | (clear hKq Kq; clear hKq Kq; clear hKq Kq; clear hKq Kq; clear hKq Kq; refine hKq _ _ ?_; clear hKq Kq; conv => whnf) | (refine And.intro (by omega) ?_; conv => whnf))
        have hi : i < 4 := by omega
        have hw2 := hwr.fold (colL.take i)
        have hnx := colL_step (drounds us r) i hi
        refine Calls.mono (rquarter_c (cap := cw) _ hw2 i (4 + i) (8 + i) (12 + i) (by omega) (by omega) (by omega) (by omega) hwb) ?_
        rintro _ w ⟨_, rfl, g', cw', zw', rfl, hb', hx⟩
        have hp := hp.call hx
        refine ⟨_, rfl, ?_⟩
        conv => whnf
        repeat (first | (refine VSeq.mk fun Kq hKq => ?_; conv => whnf) | (refine hKq _ _ ?_; clear hKq Kq; conv => whnf) | (clear hKq Kq; refine hKq _ _ ?_; clear hKq Kq; conv => whnf) | (clear hKq Kq; clear hKq Kq; refine hKq _ _ ?_; clear hKq Kq; conv => whnf) | (clear hKq Kq; clear hKq Kq; clear hKq Kq; refine hKq _ _ ?_; clear hKq Kq; conv => whnf) | (clear hKq Kq; clear hKq Kq; clear hKq Kq; clear hKq Kq; refine hKq _ _ ?_; clear hKq Kq; conv => whnf) | (clear hKq Kq; clear hKq Kq; clear hKq Kq; clear hKq Kq; clear hKq Kq; refine hKq _ _ ?_; clear hKq Kq; conv => whnf) | (refine And.intro (by omega) ?_; conv => whnf))
        exact ⟨m' - 1, _, by omega, ⟨i + 1, g', cw', zw', by omega, rfl, by rw [hnx]; exact hb', hp⟩, sub_cons rfl (sub_cons rfl (sub_cons rfl (sub_cons rfl sub_nil)))⟩
      · have hlt2 := of_decide_eq_false hlt2
        conv => whnf
        repeat (first | (refine VSeq.mk fun Kq hKq => ?_; conv => whnf) | (refine hKq _ _ ?_; clear hKq Kq; conv => whnf) | (clear hKq Kq; refine hKq _ _ ?_; clear hKq Kq; conv => whnf) | (clear hKq Kq; clear hKq Kq; refine hKq _ _ ?_; clear hKq Kq; conv => whnf) | (clear hKq Kq; clear hKq Kq; clear hKq Kq; refine hKq _ _ ?_; clear hKq Kq; conv => whnf) | (clear hKq Kq; clear hKq Kq; clear hKq Kq; clear hKq Kq; refine hKq _ _ ?_; clear hKq Kq; conv => whnf) | (clear hKq Kq; clear hKq Kq; clear hKq Kq; clear hKq Kq; clear hKq Kq; refine hKq _ _ ?_; clear hKq Kq; conv => whnf) | (refine And.intro (by omega) ?_; conv => whnf))
        obtain rfl : i = 4 := by omega
        have hwc : Words (colL.foldl qround (drounds us r)) := hwr.fold colL
        change Blk _ gw (iw (colL.foldl qround (drounds us r)) ++ zw) _ at hwb
        have hnr : drounds us (r + 1) = diaL.foldl qround (colL.foldl qround (drounds us r)) := rfl
        generalize colL.foldl qround (drounds us r) = ds at *
        refine ⟨fun m l w => ∃ (i gw cw : Nat) (zw : List Value), m + i = 4 ∧ l = [(8, .v (.slice (some ⟨g, 0, none⟩) 16 gc)), (10, .v (.slice (some ⟨gw, 0, none⟩) 16 cw)), (11, .v (.int .i64 r)), (13, .v (.int .i64 i))] ∧ Blk w gw (iw ((diaL.take i).foldl qround ds) ++ zw) 3 ∧ Hp w0 w [blk g (iw us ++ zs) 3],
          ⟨4, _, ⟨0, gw, cw, zw, rfl, rfl, hwb, hp⟩, sub_cons rfl (sub_cons rfl (sub_cons rfl (sub_cons rfl sub_nil)))⟩, ?_⟩
        clear hp hwb hlt2 hm'
        rintro m' _ w ⟨i, gw, cw, zw, hm', rfl, hwb, hp⟩
        conv => whnf
        repeat (first | (refine VSeq.mk fun Kq hKq => ?_; conv => whnf) | (refine hKq _ _ ?_; clear hKq Kq; conv => whnf) | (clear hKq Kq; refine hKq _ _ ?_; clear hKq Kq; conv => whnf) | (clear hKq Kq; clear hKq Kq; refine hKq _ _ ?_; clear hKq Kq; conv => whnf) | (clear hKq Kq; clear hKq Kq; clear hKq Kq; refine hKq _ _ ?_; clear hKq Kq; conv => whnf) | (clear hKq Kq; clear hKq Kq; clear hKq Kq; clear hKq Kq; refine hKq _ _ ?_; clear hKq Kq; conv => whnf) | (clear hKq Kq; clear hKq Kq; clear hKq Kq; clear hKq Kq; clear hKq Kq; refine hKq _ _ ?_; clear hKq Kq; conv => whnf) | (refine And.intro (by omega) ?_; conv => whnf))
        refine ⟨fun hlt2 => ?_, fun hlt2 => ?_⟩
        · have hlt2 := of_decide_eq_true hlt2
          conv => whnf
          repeat (first | (refine VSeq.mk fun Kq hKq => ?_; conv => whnf) | (refine hKq _ _ ?_; clear hKq Kq; conv => whnf) | (clear hKq Kq; refine hKq _ _ ?_; clear hKq Kq; conv => whnf) | (clear hKq Kq; clear hKq Kq; refine hKq _ _ ?_; clear hKq Kq; conv => whnf) | (clear hKq Kq; clear hKq Kq; clear hKq Kq; refine hKq _ _ ?_; clear hKq Kq; conv => whnf) | (clear hKq Kq; clear hKq Kq; clear hKq Kq; clear hKq Kq; refine hKq _ _ ?_; clear hKq Kq; conv => whnf) | (clear hKq Kq; clear hKq Kq; clear hKq Kq; clear hKq Kq; clear hKq Kq; refine hKq _ _ ?_; clear hKq Kq; conv => whnf) | (refine And.intro (by omega) ?_; conv => whnf))
          have hi : i < 4 := by omega
          have hw2 := hwc.fold (diaL.take i)
          have hnx := diaL_step ds i hi
          refine Calls.mono (rquarter_c (cap := cw) _ hw2 i (4 + (i + 1) % 4) (8 + (i + 2) % 4) (12 + (i + 3) % 4) (by omega) (by omega) (by omega) (by omega) hwb) ?_
          rintro _ w ⟨_, rfl, g', cw', zw', rfl, hb', hx⟩
          have hp := hp.call hx
          refine ⟨_, rfl, ?_⟩
          conv => whnf
          repeat (first | (refine VSeq.mk fun Kq hKq => ?_; conv => whnf) | (refine hKq _ _ ?_; clear hKq Kq; conv => whnf) | (clear hKq Kq; refine hKq _ _ ?_; clear hKq Kq; conv => whnf) | (clear hKq Kq; clear hKq Kq; refine hKq _ _ ?_; clear hKq Kq; conv => whnf) | (clear hKq Kq; clear hKq Kq; clear hKq Kq; refine hKq _ _ ?_; clear hKq Kq; conv => whnf) | (clear hKq Kq; clear hKq Kq; clear hKq Kq; clear hKq Kq; refine hKq _ _ ?_; clear hKq Kq; conv => whnf) | (clear hKq Kq; clear hKq Kq; clear hKq Kq; clear hKq Kq; clear hKq Kq; refine hKq _ _ ?_; clear hKq Kq; conv => whnf) | (refine And.intro (by omega) ?_; conv => whnf))
          exact ⟨m' - 1, _, by omega, ⟨i + 1, g', cw', zw', by omega, rfl, by rw [hnx]; exact hb', hp⟩, sub_cons rfl (sub_cons rfl (sub_cons rfl (sub_cons rfl sub_nil)))⟩
        · have hlt2 := of_decide_eq_false hlt2
          conv => whnf
          repeat (first | (refine VSeq.mk fun Kq hKq => ?_; conv => whnf) | (refine hKq _ _ ?_; clear hKq Kq; conv => whnf) | (clear hKq Kq; refine hKq _ _ ?_; clear hKq Kq; conv => whnf) | (clear hKq Kq; clear hKq Kq; refine hKq _ _ ?_; clear hKq Kq; conv => whnf) | (clear hKq Kq; clear hKq Kq; clear hKq Kq; refine hKq _ _ ?_; clear hKq Kq; conv => whnf) | (clear hKq Kq; clear hKq Kq; clear hKq Kq; clear hKq Kq; refine hKq _ _ ?_; clear hKq Kq; conv => whnf) | (clear hKq Kq; clear hKq Kq; clear hKq Kq; clear hKq Kq; clear hKq Kq; refine hKq _ _ ?_; clear hKq Kq; conv => whnf) | (refine And.intro (by omega) ?_; conv => whnf))
          obtain rfl : i = 4 := by omega
          exact ⟨m - 1, _, by omega, ⟨r + 1, gw, cw, zw, by omega, rfl, by rw [hnr]; exact hwb, hp⟩, sub_cons rfl (sub_cons rfl (sub_cons rfl sub_nil))⟩
    · have hlt := of_decide_eq_false hlt
      conv => whnf
      repeat (first | (refine VSeq.mk fun Kq hKq => ?_; conv => whnf) | (refine hKq _ _ ?_; clear hKq Kq; conv => whnf) | (clear hKq Kq; refine hKq _ _ ?_; clear hKq Kq; conv => whnf) | (clear hKq Kq; clear hKq Kq; refine hKq _ _ ?_; clear hKq Kq; conv => whnf) | (clear hKq Kq; clear hKq Kq; clear hKq Kq; refine hKq _ _ ?_; clear hKq Kq; conv => whnf) | (clear hKq Kq; clear hKq Kq; clear hKq Kq; clear hKq Kq; refine hKq _ _ ?_; clear hKq Kq; conv => whnf) | (clear hKq Kq; clear hKq Kq; clear hKq Kq; clear hKq Kq; clear hKq Kq; refine hKq _ _ ?_; clear hKq Kq; conv => whnf) | (refine And.intro (by omega) ?_; conv => whnf))
      obtain rfl : r = 10 := by omega
      have hm2 := drounds_words hw1 10
      refine ⟨fun m l w => ∃ i : Nat, m + i = 16 ∧ l = [(8, .v (.slice (some ⟨g, 0, none⟩) 16 gc)), (10, .v (.slice (some ⟨gw, 0, none⟩) 16 cw)), (14, .v (.string ⟨((blockB us).take (4 * i)).toArray⟩)), (15, .v (.int .i64 i))] ∧ Blk w gw (iw (drounds us 10) ++ zw) 3 ∧ Hp w0 w [blk g (iw us ++ zs) 3],
        ⟨16, _, ⟨0, rfl, rfl, hwb, hp⟩, sub_cons rfl (sub_cons rfl (sub_cons rfl (sub_cons rfl sub_nil)))⟩, ?_⟩
      clear hp hwb hm hlt
      rintro m _ w ⟨i, hm, rfl, hwb, hp⟩
      conv => whnf
      repeat (first | (refine VSeq.mk fun Kq hKq => ?_; conv => whnf) | (refine hKq _ _ ?_; clear hKq Kq; conv => whnf) | (clear hKq Kq; refine hKq _ _ ?_; clear hKq Kq; conv => whnf) | (clear hKq Kq; clear hKq Kq; refine hKq _ _ ?_; clear hKq Kq; conv => whnf) | (clear hKq Kq; clear hKq Kq; clear hKq Kq; refine hKq _ _ ?_; clear hKq Kq; conv => whnf) | (clear hKq Kq; clear hKq Kq; clear hKq Kq; clear hKq Kq; refine hKq _ _ ?_; clear hKq Kq; conv => whnf) | (clear hKq Kq; clear hKq Kq; clear hKq Kq; clear hKq Kq; clear hKq Kq; refine hKq _ _ ?_; clear hKq Kq; conv => whnf) | (refine And.intro (by omega) ?_; conv => whnf))
      refine ⟨fun hlt => ?_, fun hlt => ?_⟩
      · have hlt := of_decide_eq_true hlt
        conv => whnf
        repeat (first | (refine VSeq.mk fun Kq hKq => ?_; conv => whnf) | (refine hKq _ _ ?_; clear hKq Kq; conv => whnf) | (clear hKq Kq; refine hKq _ _ ?_; clear hKq Kq; conv => whnf) | (clear hKq Kq; clear hKq Kq; refine hKq _ _ ?_; clear hKq Kq; conv => whnf) | (clear hKq Kq; clear hKq Kq; clear hKq Kq; refine hKq _ _ ?_; clear hKq Kq; conv => whnf) | (clear hKq Kq; clear hKq Kq; clear hKq Kq; clear hKq Kq; refine hKq _ _ ?_; clear hKq Kq; conv => whnf) | (clear hKq Kq; clear hKq Kq; clear hKq Kq; clear hKq Kq; clear hKq Kq; refine hKq _ _ ?_; clear hKq Kq; conv => whnf) | (refine And.intro (by omega) ?_; conv => whnf))
        have hi : i < 16 := by omega
        have hxa := hw1.get i; have hxb := hm2.get i
        have hsum : ((Go.Proofs.Ytppfnacjehiieaa.gw us i : Int) + Go.Proofs.Ytppfnacjehiieaa.gw (drounds us 10) i) % 4294967296 = (((Go.Proofs.Ytppfnacjehiieaa.gw us i + Go.Proofs.Ytppfnacjehiieaa.gw (drounds us 10) i) % 4294967296 : Nat) : Int) := by omega
        have hblk : (blockB us).take (4 * (i + 1)) = (blockB us).take (4 * i) ++ octL ((Go.Proofs.Ytppfnacjehiieaa.gw us i + Go.Proofs.Ytppfnacjehiieaa.gw (drounds us 10) i) % 4294967296) := by
          have hL := blockB_len us
          apply List.ext_getElem?
          intro t
          by_cases h1 : t < 4 * i
          · rw [List.getElem?_take_of_lt (by omega), List.getElem?_append_left (by simp [hL]; omega), List.getElem?_take_of_lt h1]
          · by_cases h2 : t < 4 * (i + 1)
            · obtain ⟨q, rfl⟩ : ∃ q, t = 4 * i + q := ⟨t - 4 * i, by omega⟩
              rw [List.getElem?_take_of_lt h2, blockB_get us i q hi (by omega), List.getElem?_append_right (by simp [hL]; omega)]
              congr 1; simp [hL]; omega
            · rw [List.getElem?_eq_none (by simp [hL]; omega), List.getElem?_eq_none (by simp [hL, octL]; omega)]
        have hz1 : (⟨((blockB us).take (4 * i)).toArray⟩ : ByteArray).size = 4 * i := by rw [bA_size, List.length_take, blockB_len]; omega
        have hz2 : (⟨(octL ((Go.Proofs.Ytppfnacjehiieaa.gw us i + Go.Proofs.Ytppfnacjehiieaa.gw (drounds us 10) i) % 4294967296)).toArray⟩ : ByteArray).size = 4 := rfl
        refine v_q TTok FFok mixed (by kernel_rfl) ?_
        conv => whnf
        repeat (first | (refine VSeq.mk fun Kq hKq => ?_; conv => whnf) | (refine hKq _ _ ?_; clear hKq Kq; conv => whnf) | (clear hKq Kq; refine hKq _ _ ?_; clear hKq Kq; conv => whnf) | (clear hKq Kq; clear hKq Kq; refine hKq _ _ ?_; clear hKq Kq; conv => whnf) | (clear hKq Kq; clear hKq Kq; clear hKq Kq; refine hKq _ _ ?_; clear hKq Kq; conv => whnf) | (clear hKq Kq; clear hKq Kq; clear hKq Kq; clear hKq Kq; refine hKq _ _ ?_; clear hKq Kq; conv => whnf) | (clear hKq Kq; clear hKq Kq; clear hKq Kq; clear hKq Kq; clear hKq Kq; refine hKq _ _ ?_; clear hKq Kq; conv => whnf) | (refine And.intro (by omega) ?_; conv => whnf))
        refine ⟨i, ⟨by first | rfl | omega, by omega⟩, ?_⟩
        conv => whnf
        repeat (first | (refine VSeq.mk fun Kq hKq => ?_; conv => whnf) | (refine hKq _ _ ?_; clear hKq Kq; conv => whnf) | (clear hKq Kq; refine hKq _ _ ?_; clear hKq Kq; conv => whnf) | (clear hKq Kq; clear hKq Kq; refine hKq _ _ ?_; clear hKq Kq; conv => whnf) | (clear hKq Kq; clear hKq Kq; clear hKq Kq; refine hKq _ _ ?_; clear hKq Kq; conv => whnf) | (clear hKq Kq; clear hKq Kq; clear hKq Kq; clear hKq Kq; refine hKq _ _ ?_; clear hKq Kq; conv => whnf) | (clear hKq Kq; clear hKq Kq; clear hKq Kq; clear hKq Kq; clear hKq Kq; refine hKq _ _ ?_; clear hKq Kq; conv => whnf) | (refine And.intro (by omega) ?_; conv => whnf))
        refine ⟨_, fun w' hx' => Blk.ld (off := i) (Blk.ext (hp.get (i := 0) rfl) hx') TTok rfl (iw_get (by rw [hw1.1]; exact hi)), ?_⟩
        conv => whnf
        repeat (first | (refine VSeq.mk fun Kq hKq => ?_; conv => whnf) | (refine hKq _ _ ?_; clear hKq Kq; conv => whnf) | (clear hKq Kq; refine hKq _ _ ?_; clear hKq Kq; conv => whnf) | (clear hKq Kq; clear hKq Kq; refine hKq _ _ ?_; clear hKq Kq; conv => whnf) | (clear hKq Kq; clear hKq Kq; clear hKq Kq; refine hKq _ _ ?_; clear hKq Kq; conv => whnf) | (clear hKq Kq; clear hKq Kq; clear hKq Kq; clear hKq Kq; refine hKq _ _ ?_; clear hKq Kq; conv => whnf) | (clear hKq Kq; clear hKq Kq; clear hKq Kq; clear hKq Kq; clear hKq Kq; refine hKq _ _ ?_; clear hKq Kq; conv => whnf) | (refine And.intro (by omega) ?_; conv => whnf))
        refine ⟨i, ⟨by first | rfl | omega, by omega⟩, ?_⟩
        conv => whnf
        repeat (first | (refine VSeq.mk fun Kq hKq => ?_; conv => whnf) | (refine hKq _ _ ?_; clear hKq Kq; conv => whnf) | (clear hKq Kq; refine hKq _ _ ?_; clear hKq Kq; conv => whnf) | (clear hKq Kq; clear hKq Kq; refine hKq _ _ ?_; clear hKq Kq; conv => whnf) | (clear hKq Kq; clear hKq Kq; clear hKq Kq; refine hKq _ _ ?_; clear hKq Kq; conv => whnf) | (clear hKq Kq; clear hKq Kq; clear hKq Kq; clear hKq Kq; refine hKq _ _ ?_; clear hKq Kq; conv => whnf) | (clear hKq Kq; clear hKq Kq; clear hKq Kq; clear hKq Kq; clear hKq Kq; refine hKq _ _ ?_; clear hKq Kq; conv => whnf) | (refine And.intro (by omega) ?_; conv => whnf))
        refine ⟨_, fun w' hx' => Blk.ld (off := i) (Blk.ext hwb hx') TTok rfl (iw_get (by rw [hm2.1]; exact hi)), ?_⟩
        conv => whnf
        repeat (first | (refine VSeq.mk fun Kq hKq => ?_; conv => whnf) | (refine hKq _ _ ?_; clear hKq Kq; conv => whnf) | (clear hKq Kq; refine hKq _ _ ?_; clear hKq Kq; conv => whnf) | (clear hKq Kq; clear hKq Kq; refine hKq _ _ ?_; clear hKq Kq; conv => whnf) | (clear hKq Kq; clear hKq Kq; clear hKq Kq; refine hKq _ _ ?_; clear hKq Kq; conv => whnf) | (clear hKq Kq; clear hKq Kq; clear hKq Kq; clear hKq Kq; refine hKq _ _ ?_; clear hKq Kq; conv => whnf) | (clear hKq Kq; clear hKq Kq; clear hKq Kq; clear hKq Kq; clear hKq Kq; refine hKq _ _ ?_; clear hKq Kq; conv => whnf) | (refine And.intro (by omega) ?_; conv => whnf))
        rw [hsum]
        first | refine PureF.quiet (octets_p _ (Nat.mod_lt _ (by omega))) ?_ | refine PureF.quietE (octets_p _ (Nat.mod_lt _ (by omega))) ?_
        conv => whnf
        repeat (first | (refine VSeq.mk fun Kq hKq => ?_; conv => whnf) | (refine hKq _ _ ?_; clear hKq Kq; conv => whnf) | (clear hKq Kq; refine hKq _ _ ?_; clear hKq Kq; conv => whnf) | (clear hKq Kq; clear hKq Kq; refine hKq _ _ ?_; clear hKq Kq; conv => whnf) | (clear hKq Kq; clear hKq Kq; clear hKq Kq; refine hKq _ _ ?_; clear hKq Kq; conv => whnf) | (clear hKq Kq; clear hKq Kq; clear hKq Kq; clear hKq Kq; refine hKq _ _ ?_; clear hKq Kq; conv => whnf) | (clear hKq Kq; clear hKq Kq; clear hKq Kq; clear hKq Kq; clear hKq Kq; refine hKq _ _ ?_; clear hKq Kq; conv => whnf) | (refine And.intro (by omega) ?_; conv => whnf))
        intro w hx
        have hp := hp.call hx
        have hwb := hwb.ext hx
        conv => whnf
        repeat (first | (refine VSeq.mk fun Kq hKq => ?_; conv => whnf) | (refine hKq _ _ ?_; clear hKq Kq; conv => whnf) | (clear hKq Kq; refine hKq _ _ ?_; clear hKq Kq; conv => whnf) | (clear hKq Kq; clear hKq Kq; refine hKq _ _ ?_; clear hKq Kq; conv => whnf) | (clear hKq Kq; clear hKq Kq; clear hKq Kq; refine hKq _ _ ?_; clear hKq Kq; conv => whnf) | (clear hKq Kq; clear hKq Kq; clear hKq Kq; clear hKq Kq; refine hKq _ _ ?_; clear hKq Kq; conv => whnf) | (clear hKq Kq; clear hKq Kq; clear hKq Kq; clear hKq Kq; clear hKq Kq; refine hKq _ _ ?_; clear hKq Kq; conv => whnf) | (refine And.intro (by omega) ?_; conv => whnf))
        refine ⟨m - 1, _, by omega, ⟨i + 1, by omega, rfl, hwb, hp⟩, ?_⟩
        rw [hblk, ← bA_append]
        exact sub_cons rfl (sub_cons rfl (sub_cons rfl (sub_cons rfl sub_nil)))
      · have hlt := of_decide_eq_false hlt
        conv => whnf
        repeat (first | (refine VSeq.mk fun Kq hKq => ?_; conv => whnf) | (refine hKq _ _ ?_; clear hKq Kq; conv => whnf) | (clear hKq Kq; refine hKq _ _ ?_; clear hKq Kq; conv => whnf) | (clear hKq Kq; clear hKq Kq; refine hKq _ _ ?_; clear hKq Kq; conv => whnf) | (clear hKq Kq; clear hKq Kq; clear hKq Kq; refine hKq _ _ ?_; clear hKq Kq; conv => whnf) | (clear hKq Kq; clear hKq Kq; clear hKq Kq; clear hKq Kq; refine hKq _ _ ?_; clear hKq Kq; conv => whnf) | (clear hKq Kq; clear hKq Kq; clear hKq Kq; clear hKq Kq; clear hKq Kq; refine hKq _ _ ?_; clear hKq Kq; conv => whnf) | (refine And.intro (by omega) ?_; conv => whnf))
        obtain rfl : i = 16 := by omega
        rw [List.take_of_length_le (by rw [blockB_len]; omega)]
        exact ⟨by rw [hbs]; rfl, hp.ext⟩
end Go.Proofs.Ytppfnacjehiieaa
