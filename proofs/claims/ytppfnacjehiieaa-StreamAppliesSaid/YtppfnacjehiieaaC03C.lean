/- Chapter 03: octets, first. -/
import Derived.Test.YtppfnacjehiieaaT
import Derived.Test.YtppfnacjehiieaaC03B
namespace Go.Proofs.Ytppfnacjehiieaa
set_option linter.unusedSimpArgs false
set_option linter.unusedVariables false
open Go.RowKit V

def octL (x : Nat) : List UInt8 := [UInt8.ofNat x, UInt8.ofNat (x / 256), UInt8.ofNat (x / 65536), UInt8.ofNat (x / 16777216)]
theorem u8_of (n : Nat) : ((UInt8.ofNat n).toNat : Int) = (n : Int) % 256 := by simp
theorem octets_p (x : Nat) (h : x < 4294967296) : PureF Try.prog 25 #[.int .i64 x] (.string ⟨(octL x).toArray⟩) := by
  first | refine v_pure TTok FFok Try.func25 rfl rfl fun w0 => ?_ | refine v_pure (args := []) TTok FFok Try.func25 rfl rfl fun w0 => ?_
  conv => whnf
  repeat (first | (refine VSeq.mk fun Kq hKq => ?_; conv => whnf) | (refine hKq _ _ ?_; clear hKq Kq; conv => whnf) | (clear hKq Kq; refine hKq _ _ ?_; clear hKq Kq; conv => whnf) | (clear hKq Kq; clear hKq Kq; refine hKq _ _ ?_; clear hKq Kq; conv => whnf) | (clear hKq Kq; clear hKq Kq; clear hKq Kq; refine hKq _ _ ?_; clear hKq Kq; conv => whnf) | (clear hKq Kq; clear hKq Kq; clear hKq Kq; clear hKq Kq; refine hKq _ _ ?_; clear hKq Kq; conv => whnf) | (clear hKq Kq; clear hKq Kq; clear hKq Kq; clear hKq Kq; clear hKq Kq; refine hKq _ _ ?_; clear hKq Kq; conv => whnf) | (refine And.intro (by omega) ?_; conv => whnf))
  have hp := Hp.nil w0
  refine hp.kmade ([.int .u8 ((x : Int) % 256 % 256), .int .u8 ((x : Int) / 256 % 256 % 256), .int .u8 ((x : Int) / 65536 % 256 % 256), .int .u8 ((x : Int) / 16777216 % 256)]) 5 (fun b => .slice (some ⟨b, 0, none⟩) 4 4) (by kernel_rfl) fun b w hp hx => ?_
  conv => whnf
  repeat (first | (refine VSeq.mk fun Kq hKq => ?_; conv => whnf) | (refine hKq _ _ ?_; clear hKq Kq; conv => whnf) | (clear hKq Kq; refine hKq _ _ ?_; clear hKq Kq; conv => whnf) | (clear hKq Kq; clear hKq Kq; refine hKq _ _ ?_; clear hKq Kq; conv => whnf) | (clear hKq Kq; clear hKq Kq; clear hKq Kq; refine hKq _ _ ?_; clear hKq Kq; conv => whnf) | (clear hKq Kq; clear hKq Kq; clear hKq Kq; clear hKq Kq; refine hKq _ _ ?_; clear hKq Kq; conv => whnf) | (clear hKq Kq; clear hKq Kq; clear hKq Kq; clear hKq Kq; clear hKq Kq; refine hKq _ _ ?_; clear hKq Kq; conv => whnf) | (refine And.intro (by omega) ?_; conv => whnf))
  refine ⟨_, _, Blk.str (hp.get (i := 0) rfl) TTok rfl rfl rfl (l := octL x) ?_ rfl, ?_⟩
  · simp only [bytesV, octL, List.map, u8_of]
    refine congr (congrArg List.cons (V.ret_int (by omega))) (congr (congrArg List.cons (V.ret_int (by omega))) (congr (congrArg List.cons (V.ret_int (by omega))) (congr (congrArg List.cons (V.ret_int (by omega))) rfl)))
  conv => whnf
  repeat (first | (refine VSeq.mk fun Kq hKq => ?_; conv => whnf) | (refine hKq _ _ ?_; clear hKq Kq; conv => whnf) | (clear hKq Kq; refine hKq _ _ ?_; clear hKq Kq; conv => whnf) | (clear hKq Kq; clear hKq Kq; refine hKq _ _ ?_; clear hKq Kq; conv => whnf) | (clear hKq Kq; clear hKq Kq; clear hKq Kq; refine hKq _ _ ?_; clear hKq Kq; conv => whnf) | (clear hKq Kq; clear hKq Kq; clear hKq Kq; clear hKq Kq; refine hKq _ _ ?_; clear hKq Kq; conv => whnf) | (clear hKq Kq; clear hKq Kq; clear hKq Kq; clear hKq Kq; clear hKq Kq; refine hKq _ _ ?_; clear hKq Kq; conv => whnf) | (refine And.intro (by omega) ?_; conv => whnf))
  exact ⟨rfl, hp.ext⟩

/-- the words of a block, of a string of 64 octets -/
def wordsOf (s : ByteArray) : List Value := (List.range 16).map fun i => .int .u32 (le4 s (4 * i) : Nat)
def firstS (key nonce : ByteArray) : ByteArray := ((⟨#[101, 120, 112, 97, 110, 100, 32, 51, 50, 45, 98, 121, 116, 101, 32, 107]⟩ : ByteArray) ++ key ++ ⟨#[0, 0, 0, 0]⟩) ++ nonce
theorem first_p (key nonce : ByteArray) (hk : key.size = 32) (hn : nonce.size = 12) : PureF Try.prog 23 #[.string key, .string nonce] (.agg (wordsOf (firstS key nonce)).toArray) := by
  have s1 : ((⟨#[101, 120, 112, 97, 110, 100, 32, 51, 50, 45, 98, 121, 116, 101, 32, 107]⟩ : ByteArray) ++ key).size = 48 := by rw [ByteArray.size_append, hk]; rfl
  have s2 : ((⟨#[101, 120, 112, 97, 110, 100, 32, 51, 50, 45, 98, 121, 116, 101, 32, 107]⟩ : ByteArray) ++ key ++ ⟨#[0, 0, 0, 0]⟩).size = 52 := by rw [ByteArray.size_append, s1]; rfl
  have s3 : (firstS key nonce).size = 64 := by unfold firstS; rw [ByteArray.size_append, s2, hn]
  first | refine v_pure TTok FFok Try.func23 rfl rfl fun w0 => ?_ | refine v_pure (args := []) TTok FFok Try.func23 rfl rfl fun w0 => ?_
  conv => whnf
  repeat (first | (refine VSeq.mk fun Kq hKq => ?_; conv => whnf) | (refine hKq _ _ ?_; clear hKq Kq; conv => whnf) | (clear hKq Kq; refine hKq _ _ ?_; clear hKq Kq; conv => whnf) | (clear hKq Kq; clear hKq Kq; refine hKq _ _ ?_; clear hKq Kq; conv => whnf) | (clear hKq Kq; clear hKq Kq; clear hKq Kq; refine hKq _ _ ?_; clear hKq Kq; conv => whnf) | (clear hKq Kq; clear hKq Kq; clear hKq Kq; clear hKq Kq; refine hKq _ _ ?_; clear hKq Kq; conv => whnf) | (clear hKq Kq; clear hKq Kq; clear hKq Kq; clear hKq Kq; clear hKq Kq; refine hKq _ _ ?_; clear hKq Kq; conv => whnf) | (refine And.intro (by omega) ?_; conv => whnf))
  have hp := Hp.nil w0
  refine hp.kalloc z52 fun r w hp hx => ?_
  conv => whnf
  repeat (first | (refine VSeq.mk fun Kq hKq => ?_; conv => whnf) | (refine hKq _ _ ?_; clear hKq Kq; conv => whnf) | (clear hKq Kq; refine hKq _ _ ?_; clear hKq Kq; conv => whnf) | (clear hKq Kq; clear hKq Kq; refine hKq _ _ ?_; clear hKq Kq; conv => whnf) | (clear hKq Kq; clear hKq Kq; clear hKq Kq; refine hKq _ _ ?_; clear hKq Kq; conv => whnf) | (clear hKq Kq; clear hKq Kq; clear hKq Kq; clear hKq Kq; refine hKq _ _ ?_; clear hKq Kq; conv => whnf) | (clear hKq Kq; clear hKq Kq; clear hKq Kq; clear hKq Kq; clear hKq Kq; refine hKq _ _ ?_; clear hKq Kq; conv => whnf) | (refine And.intro (by omega) ?_; conv => whnf))
  refine hp.kalloc z52 fun a w hp hx => ?_
  conv => whnf
  repeat (first | (refine VSeq.mk fun Kq hKq => ?_; conv => whnf) | (refine hKq _ _ ?_; clear hKq Kq; conv => whnf) | (clear hKq Kq; refine hKq _ _ ?_; clear hKq Kq; conv => whnf) | (clear hKq Kq; clear hKq Kq; refine hKq _ _ ?_; clear hKq Kq; conv => whnf) | (clear hKq Kq; clear hKq Kq; clear hKq Kq; refine hKq _ _ ?_; clear hKq Kq; conv => whnf) | (clear hKq Kq; clear hKq Kq; clear hKq Kq; clear hKq Kq; refine hKq _ _ ?_; clear hKq Kq; conv => whnf) | (clear hKq Kq; clear hKq Kq; clear hKq Kq; clear hKq Kq; clear hKq Kq; refine hKq _ _ ?_; clear hKq Kq; conv => whnf) | (refine And.intro (by omega) ?_; conv => whnf))
  refine And.intro (by rw [hk]; decide) ?_
  conv => whnf
  repeat (first | (refine VSeq.mk fun Kq hKq => ?_; conv => whnf) | (refine hKq _ _ ?_; clear hKq Kq; conv => whnf) | (clear hKq Kq; refine hKq _ _ ?_; clear hKq Kq; conv => whnf) | (clear hKq Kq; clear hKq Kq; refine hKq _ _ ?_; clear hKq Kq; conv => whnf) | (clear hKq Kq; clear hKq Kq; clear hKq Kq; refine hKq _ _ ?_; clear hKq Kq; conv => whnf) | (clear hKq Kq; clear hKq Kq; clear hKq Kq; clear hKq Kq; refine hKq _ _ ?_; clear hKq Kq; conv => whnf) | (clear hKq Kq; clear hKq Kq; clear hKq Kq; clear hKq Kq; clear hKq Kq; refine hKq _ _ ?_; clear hKq Kq; conv => whnf) | (refine And.intro (by omega) ?_; conv => whnf))
  refine And.intro (by rw [s1]; decide) ?_
  conv => whnf
  repeat (first | (refine VSeq.mk fun Kq hKq => ?_; conv => whnf) | (refine hKq _ _ ?_; clear hKq Kq; conv => whnf) | (clear hKq Kq; refine hKq _ _ ?_; clear hKq Kq; conv => whnf) | (clear hKq Kq; clear hKq Kq; refine hKq _ _ ?_; clear hKq Kq; conv => whnf) | (clear hKq Kq; clear hKq Kq; clear hKq Kq; refine hKq _ _ ?_; clear hKq Kq; conv => whnf) | (clear hKq Kq; clear hKq Kq; clear hKq Kq; clear hKq Kq; refine hKq _ _ ?_; clear hKq Kq; conv => whnf) | (clear hKq Kq; clear hKq Kq; clear hKq Kq; clear hKq Kq; clear hKq Kq; refine hKq _ _ ?_; clear hKq Kq; conv => whnf) | (refine And.intro (by omega) ?_; conv => whnf))
  clear hx
  refine ⟨fun m l w' => ∃ j : Nat, m + j = 16 ∧ l = [(4, .v (.pointer (some ⟨r, 0, none⟩))), (5, .v (.pointer (some ⟨a, 0, none⟩))), (6, .v (.string (firstS key nonce))), (13, .v (.int .i64 j))] ∧
      Hp w0 w' [blk a ((wordsOf (firstS key nonce)).take j ++ List.replicate (16 - j) (.int .u32 0)) 52, blk r (List.replicate 16 (.int .u32 0)) 52],
    ⟨16, _, ⟨0, rfl, rfl, by simpa using hp⟩, sub_cons rfl (sub_cons rfl (sub_cons rfl (sub_cons rfl sub_nil)))⟩, ?_⟩
  clear hp
  rintro m l w ⟨j, hm, rfl, hp⟩
  conv => whnf
  repeat (first | (refine VSeq.mk fun Kq hKq => ?_; conv => whnf) | (refine hKq _ _ ?_; clear hKq Kq; conv => whnf) | (clear hKq Kq; refine hKq _ _ ?_; clear hKq Kq; conv => whnf) | (clear hKq Kq; clear hKq Kq; refine hKq _ _ ?_; clear hKq Kq; conv => whnf) | (clear hKq Kq; clear hKq Kq; clear hKq Kq; refine hKq _ _ ?_; clear hKq Kq; conv => whnf) | (clear hKq Kq; clear hKq Kq; clear hKq Kq; clear hKq Kq; refine hKq _ _ ?_; clear hKq Kq; conv => whnf) | (clear hKq Kq; clear hKq Kq; clear hKq Kq; clear hKq Kq; clear hKq Kq; refine hKq _ _ ?_; clear hKq Kq; conv => whnf) | (refine And.intro (by omega) ?_; conv => whnf))
  refine ⟨fun hlt => ?_, fun hlt => ?_⟩
  · have hlt := of_decide_eq_true hlt
    conv => whnf
    repeat (first | (refine VSeq.mk fun Kq hKq => ?_; conv => whnf) | (refine hKq _ _ ?_; clear hKq Kq; conv => whnf) | (clear hKq Kq; refine hKq _ _ ?_; clear hKq Kq; conv => whnf) | (clear hKq Kq; clear hKq Kq; refine hKq _ _ ?_; clear hKq Kq; conv => whnf) | (clear hKq Kq; clear hKq Kq; clear hKq Kq; refine hKq _ _ ?_; clear hKq Kq; conv => whnf) | (clear hKq Kq; clear hKq Kq; clear hKq Kq; clear hKq Kq; refine hKq _ _ ?_; clear hKq Kq; conv => whnf) | (clear hKq Kq; clear hKq Kq; clear hKq Kq; clear hKq Kq; clear hKq Kq; refine hKq _ _ ?_; clear hKq Kq; conv => whnf) | (refine And.intro (by omega) ?_; conv => whnf))
    have hj : j < 16 := by omega
    refine ⟨4 * j, ⟨by first | rfl | omega, by omega⟩, ?_⟩
    conv => whnf
    repeat (first | (refine VSeq.mk fun Kq hKq => ?_; conv => whnf) | (refine hKq _ _ ?_; clear hKq Kq; conv => whnf) | (clear hKq Kq; refine hKq _ _ ?_; clear hKq Kq; conv => whnf) | (clear hKq Kq; clear hKq Kq; refine hKq _ _ ?_; clear hKq Kq; conv => whnf) | (clear hKq Kq; clear hKq Kq; clear hKq Kq; refine hKq _ _ ?_; clear hKq Kq; conv => whnf) | (clear hKq Kq; clear hKq Kq; clear hKq Kq; clear hKq Kq; refine hKq _ _ ?_; clear hKq Kq; conv => whnf) | (clear hKq Kq; clear hKq Kq; clear hKq Kq; clear hKq Kq; clear hKq Kq; refine hKq _ _ ?_; clear hKq Kq; conv => whnf) | (refine And.intro (by omega) ?_; conv => whnf))
    have hsz : ((firstS key nonce).extract (4 * j) (firstS key nonce).size).size = 64 - 4 * j := by rw [size_extract _ _ _ (Nat.le_refl _), s3]
    refine PureF.use (number_p _ (by rw [hsz]; omega)) fun w hx => ?_
    try (have hp := hp.call hx)
    conv => whnf
    repeat (first | (refine VSeq.mk fun Kq hKq => ?_; conv => whnf) | (refine hKq _ _ ?_; clear hKq Kq; conv => whnf) | (clear hKq Kq; refine hKq _ _ ?_; clear hKq Kq; conv => whnf) | (clear hKq Kq; clear hKq Kq; refine hKq _ _ ?_; clear hKq Kq; conv => whnf) | (clear hKq Kq; clear hKq Kq; clear hKq Kq; refine hKq _ _ ?_; clear hKq Kq; conv => whnf) | (clear hKq Kq; clear hKq Kq; clear hKq Kq; clear hKq Kq; refine hKq _ _ ?_; clear hKq Kq; conv => whnf) | (clear hKq Kq; clear hKq Kq; clear hKq Kq; clear hKq Kq; clear hKq Kq; refine hKq _ _ ?_; clear hKq Kq; conv => whnf) | (refine And.intro (by omega) ?_; conv => whnf))
    refine ⟨j, ⟨by first | rfl | omega, by omega⟩, ?_⟩
    conv => whnf
    repeat (first | (refine VSeq.mk fun Kq hKq => ?_; conv => whnf) | (refine hKq _ _ ?_; clear hKq Kq; conv => whnf) | (clear hKq Kq; refine hKq _ _ ?_; clear hKq Kq; conv => whnf) | (clear hKq Kq; clear hKq Kq; refine hKq _ _ ?_; clear hKq Kq; conv => whnf) | (clear hKq Kq; clear hKq Kq; clear hKq Kq; refine hKq _ _ ?_; clear hKq Kq; conv => whnf) | (clear hKq Kq; clear hKq Kq; clear hKq Kq; clear hKq Kq; refine hKq _ _ ?_; clear hKq Kq; conv => whnf) | (clear hKq Kq; clear hKq Kq; clear hKq Kq; clear hKq Kq; clear hKq Kq; refine hKq _ _ ?_; clear hKq Kq; conv => whnf) | (refine And.intro (by omega) ?_; conv => whnf))
    refine hp.kst1 (off := j) TTok (by rfl) 0 (by rfl) (by rfl) (by rfl) (by simp [wordsOf]; omega) fun w hp => ?_
    try simp only [List.set_cons_zero, List.set_cons_succ, EV.val] at hp
    conv => whnf
    repeat (first | (refine VSeq.mk fun Kq hKq => ?_; conv => whnf) | (refine hKq _ _ ?_; clear hKq Kq; conv => whnf) | (clear hKq Kq; refine hKq _ _ ?_; clear hKq Kq; conv => whnf) | (clear hKq Kq; clear hKq Kq; refine hKq _ _ ?_; clear hKq Kq; conv => whnf) | (clear hKq Kq; clear hKq Kq; clear hKq Kq; refine hKq _ _ ?_; clear hKq Kq; conv => whnf) | (clear hKq Kq; clear hKq Kq; clear hKq Kq; clear hKq Kq; refine hKq _ _ ?_; clear hKq Kq; conv => whnf) | (clear hKq Kq; clear hKq Kq; clear hKq Kq; clear hKq Kq; clear hKq Kq; refine hKq _ _ ?_; clear hKq Kq; conv => whnf) | (refine And.intro (by omega) ?_; conv => whnf))
    refine ⟨m - 1, _, by omega, ⟨j + 1, by omega, rfl, ?_⟩, sub_cons rfl (sub_cons rfl (sub_cons rfl (sub_cons rfl sub_nil)))⟩
    refine (congrArg (fun z => Hp w0 w [blk a z 52, blk r (List.replicate 16 (.int .u32 0)) 52]) ?_).mp hp
    rw [show le4 ((firstS key nonce).extract (4 * j) (firstS key nonce).size) 0 = le4 (firstS key nonce) (4 * j) by unfold le4; simp only [Nat.zero_add]; rw [byt_extract _ _ _ _ (by omega) (Nat.le_refl _), byt_extract _ _ _ _ (by omega) (Nat.le_refl _), byt_extract _ _ _ _ (by omega) (Nat.le_refl _), byt_extract _ _ _ _ (by omega) (Nat.le_refl _)]; rfl]
    exact set_next (wordsOf (firstS key nonce)) _ (Value.int .u32 0) j 16 hj (by simp [wordsOf]) (by simp [wordsOf, hj])
  · have hlt := of_decide_eq_false hlt
    conv => whnf
    repeat (first | (refine VSeq.mk fun Kq hKq => ?_; conv => whnf) | (refine hKq _ _ ?_; clear hKq Kq; conv => whnf) | (clear hKq Kq; refine hKq _ _ ?_; clear hKq Kq; conv => whnf) | (clear hKq Kq; clear hKq Kq; refine hKq _ _ ?_; clear hKq Kq; conv => whnf) | (clear hKq Kq; clear hKq Kq; clear hKq Kq; refine hKq _ _ ?_; clear hKq Kq; conv => whnf) | (clear hKq Kq; clear hKq Kq; clear hKq Kq; clear hKq Kq; refine hKq _ _ ?_; clear hKq Kq; conv => whnf) | (clear hKq Kq; clear hKq Kq; clear hKq Kq; clear hKq Kq; clear hKq Kq; refine hKq _ _ ?_; clear hKq Kq; conv => whnf) | (refine And.intro (by omega) ?_; conv => whnf))
    obtain rfl : j = 16 := by omega
    have hw : (wordsOf (firstS key nonce)).take 16 ++ List.replicate (16 - 16) (.int .u32 0) = wordsOf (firstS key nonce) := by rw [List.take_of_length_le (by simp [wordsOf])]; simp
    rw [hw] at hp
    refine ⟨_, _, Blk.ldN (hp.get (i := 0) rfl) TTok rfl (by simp [wordsOf]), ?_⟩
    conv => whnf
    repeat (first | (refine VSeq.mk fun Kq hKq => ?_; conv => whnf) | (refine hKq _ _ ?_; clear hKq Kq; conv => whnf) | (clear hKq Kq; refine hKq _ _ ?_; clear hKq Kq; conv => whnf) | (clear hKq Kq; clear hKq Kq; refine hKq _ _ ?_; clear hKq Kq; conv => whnf) | (clear hKq Kq; clear hKq Kq; clear hKq Kq; refine hKq _ _ ?_; clear hKq Kq; conv => whnf) | (clear hKq Kq; clear hKq Kq; clear hKq Kq; clear hKq Kq; refine hKq _ _ ?_; clear hKq Kq; conv => whnf) | (clear hKq Kq; clear hKq Kq; clear hKq Kq; clear hKq Kq; clear hKq Kq; refine hKq _ _ ?_; clear hKq Kq; conv => whnf) | (refine And.intro (by omega) ?_; conv => whnf))
    refine hp.kstA TTok rfl 1 rfl (by simp [wordsOf]) (by simp [wordsOf]; intros; rfl) (by simp) fun w hp => ?_
    conv => whnf
    repeat (first | (refine VSeq.mk fun Kq hKq => ?_; conv => whnf) | (refine hKq _ _ ?_; clear hKq Kq; conv => whnf) | (clear hKq Kq; refine hKq _ _ ?_; clear hKq Kq; conv => whnf) | (clear hKq Kq; clear hKq Kq; refine hKq _ _ ?_; clear hKq Kq; conv => whnf) | (clear hKq Kq; clear hKq Kq; clear hKq Kq; refine hKq _ _ ?_; clear hKq Kq; conv => whnf) | (clear hKq Kq; clear hKq Kq; clear hKq Kq; clear hKq Kq; refine hKq _ _ ?_; clear hKq Kq; conv => whnf) | (clear hKq Kq; clear hKq Kq; clear hKq Kq; clear hKq Kq; clear hKq Kq; refine hKq _ _ ?_; clear hKq Kq; conv => whnf) | (refine And.intro (by omega) ?_; conv => whnf))
    exact ⟨_, Blk.lvN (hp.get (i := 1) rfl) TTok rfl (by simp [wordsOf]), rfl, hp.ext⟩
end Go.Proofs.Ytppfnacjehiieaa
