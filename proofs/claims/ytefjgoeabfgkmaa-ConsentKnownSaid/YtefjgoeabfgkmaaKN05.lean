/- Chapter 02: the digest at the end. -/
/- Chapter 02: Start, Check, More, End of the program; made, long, sum. -/
/- Chapter 02: End, More of the program; made, long, sum. -/
/- Chapter 02: made, long, sum of the program. -/
/- Chapter 02: codes. -/
/- Chapter 02: Sum, Mac, Derive of the program. -/
/- Rules for walks whose steps are found by trial. Own work. No program is named here. -/
/- Written by a program of mine off the seat's translation: what composite literals make. -/
/- Chapter 08: addresses, small functions. -/
/- Chapter 08: numbers as octets. -/
/- Chapter 08: padding, mixed octets. -/
/- Chapter 08: mixed values, values of errors. -/
import Derived.Test.YtefjgoeabfgkmaaKN04
import Derived.Test.YtefjgoeabfgkmaaKN02
import Derived.Test.YtefjgoeabfgkmaaKN03
namespace Go.Proofs.Ytefjgoeabfgkmaa
set_option linter.unusedSimpArgs false
set_option linter.unusedVariables false
set_option maxRecDepth 100000
open Go.RowKit V
set_option maxRecDepth 100000 in
theorem idx8 (v : List Nat) (hv : v.length = 8) (i : Nat) (hi : i < 8) (w : World) : (Instr.index 144 (.agg (kw .u32 v).toArray) (.int .i64 (i : Nat))).run Try.prog w = .ok (.int .u32 (v.getD i 0 : Nat)) w := by
 match v, hv, i, hi with
 | [a, b, c, d, e, f, g, h], _, 0, _ => exact (by kernel_rfl : (Instr.index 144 (.agg (kw .u32 [a, b, c, d, e, f, g, h]).toArray) (.int .i64 ((0 : Nat) : Int))).run Try.prog w = .ok (.int .u32 ((a : Nat) : Int)) w)
 | [a, b, c, d, e, f, g, h], _, 1, _ => exact (by kernel_rfl : (Instr.index 144 (.agg (kw .u32 [a, b, c, d, e, f, g, h]).toArray) (.int .i64 ((1 : Nat) : Int))).run Try.prog w = .ok (.int .u32 ((b : Nat) : Int)) w)
 | [a, b, c, d, e, f, g, h], _, 2, _ => exact (by kernel_rfl : (Instr.index 144 (.agg (kw .u32 [a, b, c, d, e, f, g, h]).toArray) (.int .i64 ((2 : Nat) : Int))).run Try.prog w = .ok (.int .u32 ((c : Nat) : Int)) w)
 | [a, b, c, d, e, f, g, h], _, 3, _ => exact (by kernel_rfl : (Instr.index 144 (.agg (kw .u32 [a, b, c, d, e, f, g, h]).toArray) (.int .i64 ((3 : Nat) : Int))).run Try.prog w = .ok (.int .u32 ((d : Nat) : Int)) w)
 | [a, b, c, d, e, f, g, h], _, 4, _ => exact (by kernel_rfl : (Instr.index 144 (.agg (kw .u32 [a, b, c, d, e, f, g, h]).toArray) (.int .i64 ((4 : Nat) : Int))).run Try.prog w = .ok (.int .u32 ((e : Nat) : Int)) w)
 | [a, b, c, d, e, f, g, h], _, 5, _ => exact (by kernel_rfl : (Instr.index 144 (.agg (kw .u32 [a, b, c, d, e, f, g, h]).toArray) (.int .i64 ((5 : Nat) : Int))).run Try.prog w = .ok (.int .u32 ((f : Nat) : Int)) w)
 | [a, b, c, d, e, f, g, h], _, 6, _ => exact (by kernel_rfl : (Instr.index 144 (.agg (kw .u32 [a, b, c, d, e, f, g, h]).toArray) (.int .i64 ((6 : Nat) : Int))).run Try.prog w = .ok (.int .u32 ((g : Nat) : Int)) w)
 | [a, b, c, d, e, f, g, h], _, 7, _ => exact (by kernel_rfl : (Instr.index 144 (.agg (kw .u32 [a, b, c, d, e, f, g, h]).toArray) (.int .i64 ((7 : Nat) : Int))).run Try.prog w = .ok (.int .u32 ((h : Nat) : Int)) w)
def be8J (n j : Nat) : List UInt8 := (List.range j).map fun i => UInt8.ofNat (n / 2 ^ (56 - 8 * i))
theorem be8J_succ (n j : Nat) : be8J n (j + 1) = be8J n j ++ [UInt8.ofNat (n / 2 ^ (56 - 8 * j))] := by
 unfold be8J; rw [List.range_succ, List.map_append]; rfl
theorem bytesV_rep (n : Nat) : List.replicate n (Value.int .u8 0) = bytesV (List.replicate n 0) := by
 unfold bytesV; rw [List.map_replicate]; rfl
theorem outW_take (h : List Nat) (j : Nat) (hj : j < h.length) : outW (h.take (j + 1)) = outW (h.take j) ++ out4 (h.getD j 0) := by
 rw [List.take_succ_eq_append_getElem hj]; unfold outW; rw [List.flatMap_append, List.getD_eq_getElem?_getD, List.getElem?_eq_getElem hj]
 simp
theorem u8_cast (n : Nat) : ((n : Nat) : Int) % 256 = (((UInt8.ofNat n).toNat : Nat) : Int) := by
 rw [UInt8.toNat_ofNat']; omega
set_option maxHeartbeats 4000000 in
theorem end_p (h : List Nat) (tail : ByteArray) (c : Nat) (hh : W8 h) (ht : tail.size ≤ 64) (hc : c ≤ 4398046511104) :
  PureF Try.prog 93 #[.agg (hC h tail c).toArray, hV KL] (.string ⟨(endL KL h tail.data.toList c).toArray⟩) := by
 have htl : tail.data.toList.length = tail.size := by simp
 have hcl := hC_len h tail c
 rw [hh.1] at hcl
 unfold hV
 first | refine v_pure TTok FFok Try.func93 rfl rfl fun w0 => ?_ | refine v_pure (args := []) TTok FFok Try.func93 rfl rfl fun w0 => ?_
 conv => whnf
 refine VSeq.mk fun Kq hKq => ?_
 conv => whnf
 have hp := Hp.nil w0
 refine hp.kbox (hC h tail c) rfl fun q2 w hp hx => ?_
 conv => whnf
 refine hp.kbox (kw .u32 KL) rfl fun q3 w hp hx => ?_
 conv => whnf
 refine hKq _ _ _ (.refl _) ?_
 clear hKq Kq
 conv => whnf
 refine VSeq.mk fun Kq hKq => ?_
 conv => whnf
 refine v_mixA TTok FFok mixed [(0, false), (1, false), (2, false), (3, false), (4, false), (5, false), (6, false), (7, false), (8, false), (9, false), (10, true), (11, false), (12, false), (13, false)] (by kernel_rfl) ?_
 conv => whnf
 refine ⟨_, fun w' hx' => Blk.ld (Blk.ext (hp.get (i := 1) rfl) hx') TTok rfl (hC_tail _ _ _ hh.1), ?_⟩
 conv => whnf
 refine And.intro (by show tail.size + 1 ≤ _; omega) ?_
 conv => whnf
 refine ⟨_, fun w' hx' => Blk.ld (Blk.ext (hp.get (i := 1) rfl) hx') TTok rfl (hC_tail _ _ _ hh.1), ?_⟩
 conv => whnf
 refine Or.inl (And.intro (by omega) ?_)
 conv => whnf
 refine And.intro (by omega) ?_
 conv => whnf
 intro w hx
 try (have hp := hp.call hx)
 conv => whnf
 rw [show (119 - ((tail.size : Nat) : Int)) % 64 = (((119 - tail.size) % 64 : Nat) : Int) by omega]
 refine hp.kmkS sl67 z5 ((119 - tail.size) % 64) (by omega) (by unfold maxLen; omega) fun b w hp hx => ?_
 rw [bytesV_rep] at hp
 conv => whnf
 refine And.intro hx ?_
 conv => whnf
 refine ⟨_, fun w1 hx' => Blk.str (l := List.replicate ((119 - tail.size) % 64) 0) (Blk.ext (hp.get (i := 0) rfl) hx') TTok rfl rfl rfl rfl List.length_replicate, ?_⟩
 conv => whnf
 have hsz : (tail ++ (⟨#[128]⟩ : ByteArray) ++ ⟨(List.replicate ((119 - tail.size) % 64) (0 : UInt8)).toArray⟩).size = tail.size + 1 + (119 - tail.size) % 64 := by
  rw [ByteArray.size_append, ByteArray.size_append]
  congr 1
  exact List.length_replicate
 have hzs : (⟨(List.replicate ((119 - tail.size) % 64) (0 : UInt8)).toArray⟩ : ByteArray).size = (119 - tail.size) % 64 := by
  show (List.toArray _).size = _; rw [List.size_toArray, List.length_replicate]
 have h1s : (tail ++ (⟨#[128]⟩ : ByteArray)).size = tail.size + 1 := ByteArray.size_append
 refine And.intro (by rw [h1s, hzs]; omega) ?_
 conv => whnf
 have hbl : (tail ++ (⟨#[128]⟩ : ByteArray) ++ ⟨(List.replicate ((119 - tail.size) % 64) (0 : UInt8)).toArray⟩).data.toList = tail.data.toList ++ (128 : UInt8) :: List.replicate ((119 - tail.size) % 64) 0 := by
  rw [ByteArray.toList_data_append, ByteArray.toList_data_append, List.append_assoc]
  rfl
 obtain ⟨bb, hbb⟩ : ∃ bb, tail ++ (⟨#[128]⟩ : ByteArray) ++ ⟨(List.replicate ((119 - tail.size) % 64) (0 : UInt8)).toArray⟩ = bb := ⟨_, rfl⟩
 rw [hbb] at hsz hbl ⊢
 clear hbb h1s hzs
 intro w hx
 try (have hp := hp.call hx)
 conv => whnf
 refine hKq _ _ _ (.refl _) ?_
 clear hKq Kq
 conv => whnf
 refine VSeq.mk fun Kq hKq => ?_
 conv => whnf
 refine ⟨_, _, Blk.ld (hp.get (i := 2) rfl) TTok rfl (hC_cnt _ _ _ hh.1), ?_⟩
 conv => whnf
 refine And.intro (by omega) ?_
 conv => whnf
 refine hKq _ _ _ (.refl _) ?_
 clear hKq Kq
 conv => whnf
 refine VSeq.mk fun Kq hKq => ?_
 conv => whnf
 refine VSeq.mk fun Kq hKq => ?_
 conv => whnf
 refine hKq _ _ _ (.refl _) ?_
 clear hKq Kq
 conv => whnf
 rw [show ((c : Nat) : Int) * 8 % 18446744073709551616 = ((c * 8 : Nat) : Int) by omega]
 have hp := hp.tail
 obtain ⟨n, hn⟩ : ∃ n, c * 8 = n := ⟨_, rfl⟩
 have hnl : n < 18446744073709551616 := by omega
 rw [hn]
 have hS0 : bb = ⟨(bb.data.toList ++ be8J n 0).toArray⟩ := by
  apply ba_eq
  show _ = bb.data.toList ++ []
  rw [List.append_nil]
 refine ⟨fun m e w' => ∃ (j : Nat) (v : Int), m + j = 8 ∧ v = 56 - 8 * (j : Int) ∧ e = [(2, .v (.pointer (some ⟨q2, 0, none⟩))), (3, .v (.pointer (some ⟨q3, 0, none⟩))), (5, .v (.string ⟨(bb.data.toList ++ be8J n j).toArray⟩)), (6, .v (.int .u64 n)), (7, .v (.int .i64 v))] ∧
   HpM [] w0 w' [blk q3 (kw .u32 KL) 145, blk q2 (hC h tail c) 162],
  ⟨8, _, ⟨0, 56, by omega, rfl, rfl, hp⟩, sub_cons rfl (sub_cons rfl (sub_cons (by rw [← hS0]; rfl) (sub_cons rfl (sub_cons rfl sub_nil))))⟩, ?_⟩
 clear hp hx hS0
 repeat clear hp
 rintro m _ w ⟨j, v, hm, hv, rfl, hp⟩
 by_cases hj8 : j = 8
 ·subst hj8
  obtain rfl : v = -8 := by omega
  conv => whnf
  refine VSeq.mk fun Kq hKq => ?_
  conv => whnf
  refine VSeq.mk fun Kq hKq => ?_
  conv => whnf
  refine hKq _ _ _ (.refl _) ?_
  clear hKq Kq
  conv => whnf
  refine ⟨fun h => absurd (of_decide_eq_true h) (by decide), fun _ => ?_⟩
  conv => whnf
  clear hKq Kq
  refine hKq _ _ _ (.refl _) ?_
  clear hKq Kq
  conv => whnf
  refine VSeq.mk fun Kq hKq => ?_
  conv => whnf
  have hend : endL KL h tail.data.toList c = outW (mixA KL h (bb.data.toList ++ be8J n 8)) := by
   unfold endL closing
   rw [hbl, htl, hn, List.append_assoc]
   rfl
  have h8s : (⟨(bb.data.toList ++ be8J n 8).toArray⟩ : ByteArray).size = bb.size + 8 := by
   rw [bA_size, List.length_append, toList_len]; rfl
  obtain ⟨R, hR⟩ : ∃ R : ByteArray, ⟨(bb.data.toList ++ be8J n 8).toArray⟩ = R := ⟨_, rfl⟩
  have hRl : bb.data.toList ++ be8J n 8 = R.data.toList := by rw [← hR]
  rw [hRl] at hend
  rw [hR] at h8s ⊢
  refine ⟨_, _, Blk.ldN (hp.get (i := 0) rfl) TTok rfl (by rfl), ?_⟩
  conv => whnf
  have hm := mix_c R h tail c hh (by omega) (hp.get (i := 1) rfl)
  unfold hV at hm
  refine Calls.mono (hm) ?_
  rintro e w ⟨v, rfl, rfl, hg, hb⟩
  refine ⟨_, rfl, ?_⟩
  have hp := hp.wrote (i := 1) rfl hg hb
  try simp only [List.set_cons_zero, List.set_cons_succ, EV.val] at hp
  conv => whnf
  refine hKq _ _ _ (.refl _) ?_
  clear hKq Kq
  conv => whnf
  refine VSeq.mk fun Kq hKq => ?_
  conv => whnf
  refine hKq _ _ _ (.refl _) ?_
  clear hKq Kq
  conv => whnf
  refine VSeq.mk fun Kq hKq => ?_
  conv => whnf
  refine VSeq.mk fun Kq hKq => ?_
  conv => whnf
  have hv8 := mixA_W8 KL hh R.data.toList
  obtain ⟨v, hvd⟩ : ∃ v, mixA KL h R.data.toList = v := ⟨_, rfl⟩
  rw [hvd] at hp hv8 hend
  refine ⟨_, _, Blk.ldV (off := 0) (hp.get (i := 1) rfl) TTok rfl (vs := kw .u32 v) (hC_words v tail c hv8.1) (by rw [kw_len, hv8.1]), ?_⟩
  conv => whnf
  refine hKq _ _ _ (.refl _) ?_
  clear hKq Kq
  conv => whnf
  have hp := hp.knil 5 1
  have hp : HpM [] w0 w [row 5 1 (.slice none 0 0) (4 * 0) (bytesV (outW (v.take 0))), blk q3 (kw .u32 KL) 145, blk q2 (hC v tail c) 162] := hp
  refine ⟨fun m e w' => ∃ (i : Nat) (u : Value), m + i = 8 ∧ e = [(8, .v u), (46, .v (.agg (kw .u32 v).toArray)), (47, .v (.int .i64 i))] ∧
    HpM [] w0 w' [row 5 1 u (4 * i) (bytesV (outW (v.take i))), blk q3 (kw .u32 KL) 145, blk q2 (hC v tail c) 162],
   ⟨8, _, ⟨0, _, by omega, rfl, hp⟩, sub_cons rfl (sub_cons rfl (sub_cons rfl sub_nil))⟩, ?_⟩
  clear hp
  repeat clear hp
  rintro m _ w ⟨i, u, hm, rfl, hp⟩
  conv => whnf
  refine VSeq.mk fun Kq hKq => ?_
  conv => whnf
  refine hKq _ _ _ (.refl _) ?_
  clear hKq Kq
  conv => whnf
  refine VSeq.mk fun Kq hKq => ?_
  conv => whnf
  refine ⟨fun hlt => ?_, fun hlt => ?_⟩
  ·have hlt := of_decide_eq_true hlt
   conv => whnf
   refine hKq _ _ _ (.refl _) ?_
   clear hKq Kq
   conv => whnf
   refine VSeq.mk fun Kq hKq => ?_
   conv => whnf
   refine VSeq.mk fun Kq hKq => ?_
   conv => whnf
   have htk := outW_take v i (by rw [hv8.1]; omega)
   have hx := hv8.get i
   refine ⟨_, _, idx8 v hv8.1 i (by omega) w, ?_⟩
   conv => whnf
   refine hKq _ _ _ (.refl _) ?_
   clear hKq Kq
   conv => whnf
   obtain ⟨x, hxd⟩ : ∃ x, v.getD i 0 = x := ⟨_, rfl⟩
   rw [hxd] at htk hx ⊢
   unfold M32 at hx
   refine ⟨24, ⟨by first | rfl | omega, by omega⟩, ?_⟩
   conv => whnf
   refine ⟨16, ⟨by first | rfl | omega, by omega⟩, ?_⟩
   conv => whnf
   refine ⟨8, ⟨by first | rfl | omega, by omega⟩, ?_⟩
   conv => whnf
   rw [show ((x : Nat) : Int) / 2 ^ 24 % 256 = (((UInt8.ofNat (x / 16777216)).toNat : Nat) : Int) by rw [← u8_cast]; omega, show ((x : Nat) : Int) / 2 ^ 16 % 256 = (((UInt8.ofNat (x / 65536)).toNat : Nat) : Int) by rw [← u8_cast]; omega, show ((x : Nat) : Int) / 2 ^ 8 % 256 = (((UInt8.ofNat (x / 256)).toNat : Nat) : Int) by rw [← u8_cast]; omega, show ((x : Nat) : Int) % 256 = (((UInt8.ofNat x).toNat : Nat) : Int) from u8_cast x]
   refine hp.kmade (bytesV (out4 x)) 5 (fun b => .slice (some ⟨b, 0, none⟩) 4 4) (by kernel_rfl) fun tb w hp hx => ?_
   conv => whnf
   refine hp.kapp sl67 1 rfl (Blk.src TTok (hp.get (i := 0) rfl) rfl rfl (one_bytes _)) (by omega) (by unfold maxLen; omega) fun v' w hp => ?_
   simp only [List.set_cons_zero, List.set_cons_succ] at hp
   conv => whnf
   refine hKq _ _ _ (.refl _) ?_
   clear hKq Kq
   conv => whnf
   refine Or.inl (And.intro (by omega) ?_)
   conv => whnf
   refine ⟨m - 1, _, by omega, ⟨i + 1, v', by omega, rfl, ?_⟩, sub_cons rfl (sub_cons rfl (sub_cons rfl sub_nil))⟩
   rw [htk, bytesV_app]; exact hp.tail
  ·have hlt := of_decide_eq_false hlt
   conv => whnf
   clear hKq Kq
   refine hKq _ _ _ (.refl _) ?_
   clear hKq Kq
   conv => whnf
   refine VSeq.mk fun Kq hKq => ?_
   conv => whnf
   obtain rfl : i = 8 := by omega
   rw [List.take_of_length_le (by rw [hv8.1]; exact Nat.le_refl _)] at hp
   refine ⟨_, _, row_str (hp.get (i := 0) rfl) TTok rfl rfl rfl, ?_⟩
   conv => whnf
   refine hKq _ _ _ (.refl _) ?_
   clear hKq Kq
   conv => whnf
   exact ⟨by rw [hend]; rfl, hp.ext⟩
 ·obtain ⟨k, hk⟩ : ∃ k, k = 56 - 8 * j := ⟨_, rfl⟩
  obtain rfl : v = (k : Nat) := by omega
  have hbs := be8J_succ n j
  rw [← hk] at hbs
  conv => whnf
  refine VSeq.mk fun Kq hKq => ?_
  conv => whnf
  refine VSeq.mk fun Kq hKq => ?_
  conv => whnf
  refine hKq _ _ _ (.refl _) ?_
  clear hKq Kq
  conv => whnf
  refine ⟨fun hlt => ?_, fun hlt => ?_⟩
  ·have hlt := of_decide_eq_true hlt
   conv => whnf
   refine hKq _ _ _ (.refl _) ?_
   clear hKq Kq
   conv => whnf
   refine VSeq.mk fun Kq hKq => ?_
   conv => whnf
   refine ⟨k, ⟨by first | rfl | omega, by omega⟩, ?_⟩
   conv => whnf
   rw [show ((n : Nat) : Int) / 2 ^ k = ((n / 2 ^ k : Nat) : Int) by simp, u8_cast]
   refine hp.kmade (bytesV [UInt8.ofNat (n / 2 ^ k)]) 5 (fun b => .slice (some ⟨b, 0, none⟩) 1 1) (by kernel_rfl) fun tb w hp hx => ?_
   conv => whnf
   refine ⟨_, _, Blk.str (l := [UInt8.ofNat (n / 2 ^ k)]) (hp.get (i := 0) rfl) TTok rfl rfl rfl rfl rfl, ?_⟩
   conv => whnf
   have hsj : (⟨(bb.data.toList ++ be8J n j).toArray⟩ : ByteArray).size = bb.size + j := by
    rw [bA_size, List.length_append, toList_len]; unfold be8J; rw [List.length_map, List.length_range]
   refine And.intro (by rw [hsj]; show bb.size + j + 1 ≤ _; omega) ?_
   conv => whnf
   refine hKq _ _ _ (.refl _) ?_
   clear hKq Kq
   conv => whnf
   refine Or.inl (And.intro (by omega) ?_)
   conv => whnf
   have hS : (⟨(bb.data.toList ++ be8J n j).toArray⟩ : ByteArray) ++ ⟨#[UInt8.ofNat (n / 2 ^ k)]⟩ = ⟨(bb.data.toList ++ be8J n (j + 1)).toArray⟩ := by
    apply ba_eq
    rw [ByteArray.toList_data_append, hbs, ← List.append_assoc]
   rw [hS]
   exact ⟨m - 1, _, by omega, ⟨j + 1, _, by omega, by omega, rfl, hp.tail⟩, sub_cons rfl (sub_cons rfl (sub_cons rfl (sub_cons rfl (sub_cons rfl sub_nil))))⟩
  ·exact absurd (Int.natCast_nonneg k) (of_decide_eq_false hlt)
def hH (h : List Nat) (tail : ByteArray) (c : Int) : Value := .agg (hC h tail c).toArray
theorem hC_one (l : List Nat) (tail : ByteArray) (c : Int) : ∀ u ∈ hC l tail c, u.oneCell' = true := by
 intro u hu
 unfold hC at hu
 rw [List.mem_append] at hu
 rcases hu with h | h
 ·exact kw_one _ _ u h
 ·simp only [List.mem_cons, List.not_mem_nil, or_false] at h
  rcases h with rfl | rfl <;> rfl

def mC : List Value := kw .u32 SL ++ kw .u32 KL
def mV : Value := .agg mC.toArray
theorem mC_one : ∀ u ∈ mC, u.oneCell' = true := by
 intro u hu
 unfold mC at hu
 rw [List.mem_append] at hu
 rcases hu with h | h <;> exact kw_one _ _ u h
set_option maxHeartbeats 4000000 in
theorem made_p : PureF Try.prog 82 #[] mV := by
 have hc := constants_p
 unfold hV at hc
 unfold mV
 first | refine v_pure TTok FFok Try.func82 rfl rfl fun w0 => ?_ | refine v_pure (args := []) TTok FFok Try.func82 rfl rfl fun w0 => ?_
 conv => whnf
 refine VSeq.mk fun Kq hKq => ?_
 conv => whnf
 have hp := Hp.nil w0
 refine hp.kalloc z147 fun q0 w hp hx => ?_
 conv => whnf
 refine hKq _ _ _ (.refl _) ?_
 clear hKq Kq
 conv => whnf
 refine VSeq.mk fun Kq hKq => ?_
 conv => whnf
 refine PureF.use (hc) fun w hx => ?_
 try (have hp := hp.call hx)
 conv => whnf
 refine hp.kalloc z144 fun q1 w hp hx => ?_
 conv => whnf
 refine hp.kalloc z145 fun q2 w hp hx => ?_
 conv => whnf
 refine hp.kstA TTok rfl 1 rfl (by rfl) (kw_one _ _) (by rfl) fun w hp => ?_
 try simp only [List.set_cons_zero, List.set_cons_succ, EV.val] at hp
 conv => whnf
 refine hp.kstA TTok rfl 0 rfl (by rfl) (kw_one _ _) (by rfl) fun w hp => ?_
 try simp only [List.set_cons_zero, List.set_cons_succ, EV.val] at hp
 conv => whnf
 refine hKq _ _ _ (.refl _) ?_
 clear hKq Kq
 conv => whnf
 refine VSeq.mk fun Kq hKq => ?_
 conv => whnf
 refine ⟨_, _, Blk.ldN (hp.get (i := 1) rfl) TTok rfl (by rfl), ?_⟩
 conv => whnf
 refine ⟨_, _, Blk.ldN (hp.get (i := 0) rfl) TTok rfl (by rfl), ?_⟩
 conv => whnf
 first | refine ⟨.agg mC.toArray, w, by kernel_rfl, ?_⟩ | refine ⟨.agg mC.toArray, w0, by kernel_rfl, ?_⟩
 conv => whnf
 refine hp.kstA TTok rfl 2 rfl (by rfl) (mC_one) (by rfl) fun w hp => ?_
 try simp only [List.set_cons_zero, List.set_cons_succ, EV.val] at hp
 conv => whnf
 refine hKq _ _ _ (.refl _) ?_
 clear hKq Kq
 conv => whnf
 exact ⟨_, Blk.lvN (hp.get (i := 2) rfl) TTok rfl (by rfl), rfl, hp.ext⟩
def bigS (L : List ByteArray) : Bool := L.any fun x => decide (4096 < x.size)
theorem long_c {w0 : World} {v : Value} (L : List ByteArray) (hv : SLv w0 v (sw L)) (hl : L.length ≤ 1000) :
  Calls Try.prog 81 #[v] w0 fun e w' => e = .returned (.bool (bigS L)) ∧ Ext w0 w' := by
 obtain ⟨p, c, rfl⟩ := hv.shape
 rw [sw_len] at hv ⊢
 refine v_reads TTok FFok Try.func81 rfl rfl ?_
 conv => whnf
 refine VSeq.mk fun Kq hKq => ?_
 conv => whnf
 refine hKq _ _ _ (.refl _) ?_
 clear hKq Kq
 conv => whnf
 refine VSeq.mk fun Kq hKq => ?_
 conv => whnf
 refine VSeq.mk fun Kq hKq => ?_
 conv => whnf
 refine hKq _ _ _ (.refl _) ?_
 clear hKq Kq
 conv => whnf
 have hp := Hp.nil w0
 refine ⟨fun m e w' => ∃ (i : Nat), m + i = L.length ∧ e = [(5, .v (.slice p L.length c)), (6, .v (.int .i64 L.length)), (7, .v (.int .i64 i))] ∧ bigS (L.take i) = false ∧ Hp w0 w' [],
  ⟨L.length, _, ⟨0, by omega, rfl, by rw [List.take_zero]; rfl, hp⟩, sub_cons rfl (sub_cons rfl (sub_cons rfl sub_nil))⟩, ?_⟩
 clear hp
 repeat clear hp
 rintro m _ w ⟨i, hm, rfl, hbg, hp⟩
 conv => whnf
 refine VSeq.mk fun Kq hKq => ?_
 conv => whnf
 refine hKq _ _ _ (.refl _) ?_
 clear hKq Kq
 conv => whnf
 refine VSeq.mk fun Kq hKq => ?_
 conv => whnf
 refine ⟨fun hlt => ?_, fun hlt => ?_⟩
 ·have hlt := of_decide_eq_true hlt
  conv => whnf
  refine hKq _ _ _ (.refl _) ?_
  clear hKq Kq
  conv => whnf
  refine VSeq.mk fun Kq hKq => ?_
  conv => whnf
  refine VSeq.mk fun Kq hKq => ?_
  conv => whnf
  have hi : i < L.length := by omega
  have hxi : L[i]? = some L[i] := List.getElem?_eq_getElem hi
  have htk : L.take (i + 1) = L.take i ++ [L[i]] := take_snoc hxi
  obtain ⟨x, hx⟩ : ∃ x, L[i] = x := ⟨_, rfl⟩
  rw [hx] at hxi htk
  obtain ⟨g, off, rfl, hcell⟩ := hv.at (sw_get hxi)
  refine ⟨i, ⟨by first | rfl | omega, by omega⟩, ?_⟩
  conv => whnf
  refine ⟨_, _, run_ld TTok rfl (by rw [addM_eq, Nat.mul_one]; exact Ext.cell hp.ext hcell), ?_⟩
  conv => whnf
  refine hKq _ _ _ (.refl _) ?_
  clear hKq Kq
  conv => whnf
  refine VSeq.mk fun Kq hKq => ?_
  conv => whnf
  refine hKq _ _ _ (.refl _) ?_
  clear hKq Kq
  conv => whnf
  refine ⟨fun hb => ?_, fun hb => ?_⟩
  ·have hb := of_decide_eq_true hb
   conv => whnf
   refine VSeq.mk fun Kq hKq => ?_
   conv => whnf
   refine hKq _ _ _ (.refl _) ?_
   clear hKq Kq
   conv => whnf
   refine ⟨?_, hp.ext⟩
   have : bigS L = true := by
    unfold bigS
    rw [List.any_eq_true]
    exact ⟨x, List.mem_of_getElem? hxi, decide_eq_true (by omega)⟩
   rw [this]; rfl
  ·have hb := of_decide_eq_false hb
   conv => whnf
   refine hKq _ _ _ (.refl _) ?_
   clear hKq Kq
   conv => whnf
   refine Or.inl (And.intro (by omega) ?_)
   conv => whnf
   have hb2 : bigS (L.take (i + 1)) = false := by
    unfold bigS at *
    rw [htk, List.any_append, hbg, Bool.false_or]
    simp only [List.any_cons, List.any_nil, Bool.or_false]
    exact decide_eq_false (by omega)
   exact ⟨m - 1, _, by omega, ⟨i + 1, by omega, rfl, hb2, hp⟩, sub_cons rfl (sub_cons rfl (sub_cons rfl sub_nil))⟩
 ·have hlt := of_decide_eq_false hlt
  conv => whnf
  clear hKq Kq
  refine hKq _ _ _ (.refl _) ?_
  clear hKq Kq
  conv => whnf
  refine VSeq.mk fun Kq hKq => ?_
  conv => whnf
  refine hKq _ _ _ (.refl _) ?_
  clear hKq Kq
  conv => whnf
  obtain rfl : i = L.length := by omega
  rw [List.take_length] at hbg
  refine ⟨?_, hp.ext⟩
  rw [hbg]; rfl
def catL (L : List ByteArray) : List UInt8 := L.flatMap fun x => x.data.toList
theorem catL_take (L : List ByteArray) (i : Nat) (x : ByteArray) (h : L[i]? = some x) : catL (L.take (i + 1)) = catL (L.take i) ++ x.data.toList := by
 rw [take_snoc h]; unfold catL; rw [List.flatMap_append]; simp
theorem catL_pre (L : List ByteArray) (i : Nat) : (catL (L.take i)).length ≤ (catL L).length := by
 conv => rhs; rw [← List.take_append_drop i L]
 unfold catL
 rw [List.flatMap_append, List.length_append]; omega
def stB (a : List UInt8) : List Value := hC (mixA KL SL a) ⟨(rest a).toArray⟩ ((a.length : Nat) : Int)
theorem stB_len (a : List UInt8) : (stB a).length = 10 := by unfold stB; rw [hC_len, (mixA_W8 KL SL_W8 a).1]
theorem stB_add (a : List UInt8) (s : ByteArray) : hC (mixA KL (mixA KL SL a) ((⟨(rest a).toArray⟩ : ByteArray).data.toList ++ s.data.toList)) (restB (⟨(rest a).toArray⟩ ++ s)) ((a.length + s.size : Nat) : Int) = stB (a ++ s.data.toList) := by
 obtain ⟨h1, h2⟩ := mix_more KL SL a s.data.toList
 unfold stB restB
 rw [ByteArray.toList_data_append]
 show hC (mixA KL (mixA KL SL a) (rest a ++ s.data.toList)) ⟨(rest (rest a ++ s.data.toList)).toArray⟩ _ = _
 rw [h1, h2, List.length_append, toList_len]
set_option maxHeartbeats 4000000 in
theorem sum_c {w0 : World} {v : Value} (L : List ByteArray) (hv : SLv w0 v (sw L)) (hl : (catL L).length ≤ 50000) (hn : L.length ≤ 1000) :
  Calls Try.prog 86 #[mV, v] w0 fun e w' => e = .returned (.string ⟨(sumL2 KL SL (catL L)).toArray⟩) ∧ Ext w0 w' := by
 obtain ⟨p, c, rfl⟩ := hv.shape
 rw [sw_len] at hv ⊢
 unfold mV
 refine v_reads TTok FFok Try.func86 rfl rfl ?_
 conv => whnf
 refine VSeq.mk fun Kq hKq => ?_
 conv => whnf
 have hp := Hp.nil w0
 refine hp.kbox (mC) rfl fun q2 w hp hx => ?_
 conv => whnf
 refine hKq _ _ _ (.refl _) ?_
 clear hKq Kq
 conv => whnf
 refine VSeq.mk fun Kq hKq => ?_
 conv => whnf
 refine ⟨_, _, Blk.ldV (off := 0) (hp.get (i := 0) rfl) TTok rfl (vs := kw .u32 SL) (by rfl) (by rfl), ?_⟩
 conv => whnf
 first | refine ⟨.agg (stB []).toArray, w, by kernel_rfl, ?_⟩ | refine ⟨.agg (stB []).toArray, w0, by kernel_rfl, ?_⟩
 conv => whnf
 first | refine ⟨.agg (stB []).toArray, w, by kernel_rfl, ?_⟩ | refine ⟨.agg (stB []).toArray, w0, by kernel_rfl, ?_⟩
 conv => whnf
 refine hp.kalloc z162 fun q5 w hp hx => ?_
 conv => whnf
 refine hp.kstA TTok rfl 0 rfl (stB_len []) (hC_one _ _ _) (by rfl) fun w hp => ?_
 try simp only [List.set_cons_zero, List.set_cons_succ, EV.val] at hp
 conv => whnf
 refine hKq _ _ _ (.refl _) ?_
 clear hKq Kq
 conv => whnf
 refine VSeq.mk fun Kq hKq => ?_
 conv => whnf
 refine VSeq.mk fun Kq hKq => ?_
 conv => whnf
 refine hKq _ _ _ (.refl _) ?_
 clear hKq Kq
 conv => whnf
 refine ⟨fun m e w' => ∃ (i : Nat), m + i = L.length ∧ e = [(2, .v (.pointer (some ⟨q2, 0, none⟩))), (5, .v (.pointer (some ⟨q5, 0, none⟩))), (12, .v (.slice p L.length c)), (13, .v (.int .i64 L.length)), (14, .v (.int .i64 i))] ∧ HpM [] w0 w' [blk q5 (stB (catL (L.take i))) 162, blk q2 mC 147],
  ⟨L.length, _, ⟨0, by omega, rfl, hp⟩, sub_cons rfl (sub_cons rfl (sub_cons rfl (sub_cons rfl (sub_cons rfl sub_nil))))⟩, ?_⟩
 clear hp hx
 repeat clear hp
 rintro m _ w ⟨i, hm, rfl, hp⟩
 have hpre := catL_pre L i
 conv => whnf
 refine VSeq.mk fun Kq hKq => ?_
 conv => whnf
 refine hKq _ _ _ (.refl _) ?_
 clear hKq Kq
 conv => whnf
 refine VSeq.mk fun Kq hKq => ?_
 conv => whnf
 refine ⟨fun hlt => ?_, fun hlt => ?_⟩
 ·have hlt := of_decide_eq_true hlt
  conv => whnf
  refine hKq _ _ _ (.refl _) ?_
  clear hKq Kq
  conv => whnf
  refine VSeq.mk fun Kq hKq => ?_
  conv => whnf
  refine VSeq.mk fun Kq hKq => ?_
  conv => whnf
  have hi : i < L.length := by omega
  have hxi : L[i]? = some L[i] := List.getElem?_eq_getElem hi
  have htk := catL_take L i _ hxi
  have hpre2 := catL_pre L (i + 1)
  obtain ⟨x, hx⟩ : ∃ x, L[i] = x := ⟨_, rfl⟩
  rw [hx] at hxi htk
  obtain ⟨g, off, rfl, hcell⟩ := hv.at (sw_get hxi)
  obtain ⟨a, ha⟩ : ∃ a, catL (L.take i) = a := ⟨_, rfl⟩
  rw [ha] at hp hpre htk
  rw [htk, List.length_append, toList_len] at hpre2
  have hra : (⟨(rest a).toArray⟩ : ByteArray).size = a.length % 64 := by rw [bA_size, rest_len]
  refine ⟨i, ⟨by first | rfl | omega, by omega⟩, ?_⟩
  conv => whnf
  refine ⟨_, _, run_ld TTok rfl (by rw [addM_eq, Nat.mul_one]; exact Ext.cell hp.ext hcell), ?_⟩
  conv => whnf
  refine hKq _ _ _ (.refl _) ?_
  clear hKq Kq
  conv => whnf
  refine ⟨_, _, Blk.ldV (off := 8) (hp.get (i := 1) rfl) TTok rfl (vs := kw .u32 KL) (by rfl) (by rfl), ?_⟩
  conv => whnf
  have had := add_c x (mixA KL SL a) ⟨(rest a).toArray⟩ a.length (mixA_W8 KL SL_W8 a) (by omega) (by omega) (by omega) (hp.get (i := 0) rfl)
  unfold hV at had
  refine Calls.mono (had) ?_
  rintro e w ⟨v, rfl, rfl, hg, hb⟩
  refine ⟨_, rfl, ?_⟩
  have hp := hp.wrote (i := 0) rfl hg hb
  try simp only [List.set_cons_zero, List.set_cons_succ, EV.val] at hp
  conv => whnf
  refine hKq _ _ _ (.refl _) ?_
  clear hKq Kq
  conv => whnf
  refine Or.inl (And.intro (by omega) ?_)
  conv => whnf
  rw [stB_add, ← htk] at hp
  exact ⟨m - 1, _, by omega, ⟨i + 1, by omega, rfl, hp⟩, sub_cons rfl (sub_cons rfl (sub_cons rfl (sub_cons rfl (sub_cons rfl sub_nil))))⟩
 ·have hlt := of_decide_eq_false hlt
  conv => whnf
  clear hKq Kq
  refine hKq _ _ _ (.refl _) ?_
  clear hKq Kq
  conv => whnf
  refine VSeq.mk fun Kq hKq => ?_
  conv => whnf
  obtain rfl : i = L.length := by omega
  rw [List.take_length] at hp hpre
  obtain ⟨a, ha⟩ : ∃ a, catL L = a := ⟨_, rfl⟩
  rw [ha] at hp
  have hl2 := hl
  rw [ha] at hl2
  have hra : (⟨(rest a).toArray⟩ : ByteArray).size = a.length % 64 := by rw [bA_size, rest_len]
  have he := end_p (mixA KL SL a) ⟨(rest a).toArray⟩ a.length (mixA_W8 KL SL_W8 a) (by omega) (by omega)
  unfold hV at he
  refine ⟨_, _, Blk.ldN (hp.get (i := 0) rfl) TTok rfl (stB_len a), ?_⟩
  conv => whnf
  refine ⟨_, _, Blk.ldV (off := 8) (hp.get (i := 1) rfl) TTok rfl (vs := kw .u32 KL) (by rfl) (by rfl), ?_⟩
  conv => whnf
  refine PureF.use (he) fun w hx => ?_
  try (have hp := hp.call hx)
  conv => whnf
  refine hKq _ _ _ (.refl _) ?_
  clear hKq Kq
  conv => whnf
  exact ⟨by rw [ha]; rfl, hp.ext⟩
def padL (k : List UInt8) : List UInt8 := k ++ List.replicate (64 - k.length) 0
theorem padL_len (k : List UInt8) (h : k.length ≤ 64) : (padL k).length = 64 := by unfold padL; rw [List.length_append, List.length_replicate]; omega
def xorK (c : UInt8) (k : List UInt8) : List UInt8 := (padL k).map (· ^^^ c)
def mapP (f : UInt8 → UInt8) (l : List UInt8) (i : Nat) : List UInt8 := (l.map f).take i ++ l.drop i
theorem mapP_zero (f : UInt8 → UInt8) (l : List UInt8) : mapP f l 0 = l := by simp [mapP]
theorem mapP_all (f : UInt8 → UInt8) (l : List UInt8) : mapP f l l.length = l.map f := by
 unfold mapP; rw [List.drop_length, List.append_nil, List.take_of_length_le (by rw [List.length_map]; exact Nat.le_refl _)]
theorem mapP_len (f : UInt8 → UInt8) (l : List UInt8) (i : Nat) (h : i ≤ l.length) : (mapP f l i).length = l.length := by
 unfold mapP; rw [List.length_append, List.length_take, List.length_map, List.length_drop]; omega
theorem mapP_get (f : UInt8 → UInt8) (l : List UInt8) (i : Nat) (h : i < l.length) : (mapP f l i)[i]? = some (l.getD i 0) := by
 unfold mapP
 rw [List.getElem?_append_right (by rw [List.length_take]; omega), List.length_take, List.length_map, show i - min i l.length = 0 by omega, List.getElem?_drop, Nat.add_zero, List.getD_eq_getElem?_getD, List.getElem?_eq_getElem h]; rfl
theorem mapP_set (f : UInt8 → UInt8) (l : List UInt8) (i : Nat) (h : i < l.length) : (mapP f l i).set i (f (l.getD i 0)) = mapP f l (i + 1) := by
 unfold mapP
 rw [List.set_append, if_neg (by rw [List.length_take]; omega), List.length_take, List.length_map, show i - min i l.length = 0 by omega, List.drop_eq_getElem_cons h, List.set_cons_zero, List.take_add_one, List.getElem?_map, List.getElem?_eq_getElem h, List.getD_eq_getElem?_getD, List.getElem?_eq_getElem h]
 simp
theorem bytesV_set' (l : List UInt8) (i : Nat) (b : UInt8) (n : Nat) (e : n = b.toNat) : (bytesV l).set i (.int .u8 ((n : Nat) : Int)) = bytesV (l.set i b) := by
 subst e; simp [bytesV, List.map_set]
theorem bytesV_drop (b : List UInt8) (m : Nat) : (bytesV b).drop m = bytesV (b.drop m) := by simp [bytesV, List.map_drop]
set_option maxHeartbeats 4000000 in
theorem with_c {w0 : World} {b4 : Nat} (key : ByteArray) (c : UInt8) (hk : key.size ≤ 64) (hb : Blk w0 b4 [.string key] 9) :
  Calls Try.prog 87 #[.int .u8 (c.toNat : Nat), .pointer (some ⟨b4, 0, none⟩)] w0 fun e w' => e = .returned (.string ⟨(xorK c key.data.toList).toArray⟩) ∧ Ext w0 w' := by
 have hkl : key.data.toList.length = key.size := by simp
 have hc := c.toNat_lt
 refine v_reads TTok FFok Try.func87 rfl rfl ?_
 conv => whnf
 refine VSeq.mk fun Kq hKq => ?_
 conv => whnf
 refine hKq _ _ _ (.refl _) ?_
 clear hKq Kq
 conv => whnf
 refine VSeq.mk fun Kq hKq => ?_
 conv => whnf
 have hp := Hp.nil w0
 refine hp.kmkS sl67 z5 64 (by decide) (by unfold maxLen; decide) fun q w hp hx => ?_
 conv => whnf
 refine hKq _ _ _ (.refl _) ?_
 clear hKq Kq
 conv => whnf
 refine VSeq.mk fun Kq hKq => ?_
 conv => whnf
 refine ⟨_, _, Blk.ld (hb.ext hp.ext) TTok rfl (rfl), ?_⟩
 conv => whnf
 refine hp.kcopyS sl67 0 rfl key (bytesV key.data.toList) (by rw [List.take_of_length_le (by omega)]) (by rw [bytesV_len, List.length_replicate]; omega) fun w hp => ?_
 simp only [List.set_cons_zero] at hp
 rw [bytesV_rep, bytesV_drop, ← bytesV_app, bytesV_len, List.drop_replicate, show key.data.toList ++ List.replicate (64 - key.data.toList.length) 0 = padL key.data.toList from rfl] at hp
 have hpl := padL_len key.data.toList (by omega)
 have hxk : xorK c key.data.toList = (padL key.data.toList).map (· ^^^ c) := rfl
 obtain ⟨l, hl⟩ : ∃ l, padL key.data.toList = l := ⟨_, rfl⟩
 rw [hl] at hp hpl hxk
 conv => whnf
 refine hKq _ _ _ (.refl _) ?_
 clear hKq Kq
 conv => whnf
 refine VSeq.mk fun Kq hKq => ?_
 conv => whnf
 refine VSeq.mk fun Kq hKq => ?_
 conv => whnf
 refine hKq _ _ _ (.refl _) ?_
 clear hKq Kq
 conv => whnf
 have hp : HpM [] w0 w [blk q (bytesV (mapP (· ^^^ c) l 0)) 5] := by rw [mapP_zero]; exact hp
 refine ⟨fun m e w' => ∃ (i : Nat), m + i = 64 ∧ e = [(0, .v (.int .u8 (c.toNat : Nat))), (4, .v (.slice (some ⟨q, 0, none⟩) 64 64)), (11, .v (.int .i64 64)), (12, .v (.int .i64 i))] ∧
   HpM [] w0 w' [blk q (bytesV (mapP (· ^^^ c) l i)) 5],
  ⟨64, _, ⟨0, by omega, rfl, hp⟩, sub_cons rfl (sub_cons rfl (sub_cons rfl (sub_cons rfl sub_nil)))⟩, ?_⟩
 clear hp hx
 repeat clear hp
 rintro m _ w ⟨i, hm, rfl, hp⟩
 conv => whnf
 refine VSeq.mk fun Kq hKq => ?_
 conv => whnf
 refine hKq _ _ _ (.refl _) ?_
 clear hKq Kq
 conv => whnf
 refine VSeq.mk fun Kq hKq => ?_
 conv => whnf
 refine ⟨fun hlt => ?_, fun hlt => ?_⟩
 ·have hlt := of_decide_eq_true hlt
  conv => whnf
  refine hKq _ _ _ (.refl _) ?_
  clear hKq Kq
  conv => whnf
  refine VSeq.mk fun Kq hKq => ?_
  conv => whnf
  refine VSeq.mk fun Kq hKq => ?_
  conv => whnf
  refine hKq _ _ _ (.refl _) ?_
  clear hKq Kq
  conv => whnf
  have hg := mapP_get (· ^^^ c) l i (by omega)
  have hs := mapP_set (· ^^^ c) l i (by omega)
  have hml := mapP_len (· ^^^ c) l i (by omega)
  obtain ⟨x, hxd⟩ : ∃ x, l.getD i 0 = x := ⟨_, rfl⟩
  rw [hxd] at hg hs
  have hx := x.toNat_lt
  have hxc : x.toNat ^^^ c.toNat = (x ^^^ c).toNat := (UInt8.toNat_xor _ _).symm
  refine ⟨i, ⟨by first | rfl | omega, by omega⟩, ?_⟩
  conv => whnf
  refine ⟨_, _, Blk.ld (hp.get (i := 0) rfl) TTok rfl (bytesV_get hg), ?_⟩
  conv => whnf
  refine ⟨x.toNat, c.toNat, (x ^^^ c).toNat, ⟨by first | rfl | omega, by first | rfl | omega, by omega, by omega⟩, by (dsimp only; exact hxc), ?_⟩
  conv => whnf
  refine ⟨i, ⟨by first | rfl | omega, by omega⟩, ?_⟩
  conv => whnf
  refine hp.kst1 (off := i) TTok (by rfl) 0 (by rfl) (by rfl) (by rfl) (by rw [bytesV_len, hml]; omega) fun w hp => ?_
  try simp only [List.set_cons_zero, List.set_cons_succ, EV.val] at hp
  conv => whnf
  refine hKq _ _ _ (.refl _) ?_
  clear hKq Kq
  conv => whnf
  refine Or.inl (And.intro (by omega) ?_)
  conv => whnf
  rw [bytesV_set' _ _ _ _ rfl, hs] at hp
  exact ⟨m - 1, _, by omega, ⟨i + 1, by omega, rfl, hp⟩, sub_cons rfl (sub_cons rfl (sub_cons rfl (sub_cons rfl sub_nil)))⟩
 ·have hlt := of_decide_eq_false hlt
  conv => whnf
  clear hKq Kq
  refine hKq _ _ _ (.refl _) ?_
  clear hKq Kq
  conv => whnf
  refine VSeq.mk fun Kq hKq => ?_
  conv => whnf
  obtain rfl : i = l.length := by omega
  rw [mapP_all, ← hxk] at hp
  refine ⟨_, _, Blk.str (l := xorK c key.data.toList) (hp.get (i := 0) rfl) TTok rfl rfl rfl rfl (by rw [hxk, List.length_map, hpl]), ?_⟩
  conv => whnf
  refine hKq _ _ _ (.refl _) ?_
  clear hKq Kq
  conv => whnf
  exact ⟨rfl, hp.ext⟩
/-- the key itself, or its digest -/
def keyL (k : List UInt8) : List UInt8 := if 64 < k.length then sumL2 KL SL k else k
def macL (k m : List UInt8) : List UInt8 := sumL2 KL SL (xorK 92 (keyL k) ++ sumL2 KL SL (xorK 54 (keyL k) ++ m))
theorem sumL2_len (s : List UInt8) : (sumL2 KL SL s).length = 32 := endL_len KL (mixA_W8 KL SL_W8 s) _ _
theorem keyL_len (k : List UInt8) : (keyL k).length ≤ 64 := by
 unfold keyL
 split
 ·rw [sumL2_len]; decide
 ·omega
theorem xorK_len (c : UInt8) (k : List UInt8) (h : k.length ≤ 64) : (xorK c k).length = 64 := by unfold xorK; rw [List.length_map, padL_len k h]
set_option maxHeartbeats 800000 in
theorem mac_c {w0 : World} {v : Value} (key : ByteArray) (L : List ByteArray) (hv : SLv w0 v (sw L)) (hl : (catL L).length ≤ 20000) (hn : L.length ≤ 100) (hk : key.size ≤ 20000) :
  Calls Try.prog 83 #[mV, .string key, v] w0 fun e w' => e = .returned (.string ⟨(macL key.data.toList (catL L)).toArray⟩) ∧ Ext w0 w' := by
 obtain ⟨p, c, rfl⟩ := hv.shape
 rw [sw_len] at hv ⊢
 have hkl : key.data.toList.length = key.size := by simp
 unfold mV
 refine v_reads TTok FFok Try.func83 rfl rfl ?_
 conv => whnf
 refine VSeq.mk fun Kq hKq => ?_
 conv => whnf
 have hp := Hp.nil w0
 refine hp.kbox (mC) rfl fun q3 w hp hx => ?_
 conv => whnf
 refine hp.kbox ([.string key]) rfl fun q4 w hp hx => ?_
 conv => whnf
 refine hKq _ _ _ (.refl _) ?_
 clear hKq Kq
 conv => whnf
 refine VSeq.mk fun Kq hKq => ?_
 conv => whnf
 refine VSeq.mk fun Kq hKq => ?_
 conv => whnf
 refine ⟨_, _, Blk.ld (hp.get (i := 0) rfl) TTok rfl (rfl), ?_⟩
 conv => whnf
 refine hKq _ _ _ (.refl _) ?_
 clear hKq Kq
 conv => whnf
 have key2 : ∀ (kk : ByteArray) (w : World), kk.data.toList = keyL key.data.toList → HpM [] w0 w [blk q4 [.string kk] 9, blk q3 mC 147] →
   ∀ l, V.Sub [(2, .v (.slice p L.length c)), (3, .v (.pointer (some ⟨q3, 0, none⟩))), (4, .v (.pointer (some ⟨q4, 0, none⟩)))] l → Kq l w := by
  clear hp hx
  repeat clear hp
  intro kk w hkk hp l hsub
  refine hKq _ _ _ hsub ?_
  clear hKq Kq hsub
  have hkk64 : kk.size ≤ 64 := by rw [← toList_len, hkk]; exact keyL_len _
  have hmac : macL key.data.toList (catL L) = sumL2 KL SL (xorK 92 kk.data.toList ++ sumL2 KL SL (xorK 54 kk.data.toList ++ catL L)) := by rw [hkk]; rfl
  have hx54 := xorK_len 54 kk.data.toList (by rw [toList_len]; exact hkk64)
  have hx92 := xorK_len 92 kk.data.toList (by rw [toList_len]; exact hkk64)
  obtain ⟨A, hA⟩ : ∃ A : ByteArray, ⟨(xorK 54 kk.data.toList).toArray⟩ = A := ⟨_, rfl⟩
  obtain ⟨B, hB⟩ : ∃ B : ByteArray, ⟨(xorK 92 kk.data.toList).toArray⟩ = B := ⟨_, rfl⟩
  have hAl : A.data.toList = xorK 54 kk.data.toList := by rw [← hA]
  have hBl : B.data.toList = xorK 92 kk.data.toList := by rw [← hB]
  have hw54 := fun (w1 : World) (hx' : Ext w w1) => with_c kk 54 hkk64 (Blk.ext (hp.get (i := 0) rfl) hx')
  have hw92 := fun (w1 : World) (hx' : Ext w w1) => with_c kk 92 hkk64 (Blk.ext (hp.get (i := 0) rfl) hx')
  rw [hA] at hw54
  rw [hB] at hw92
  rw [← hAl] at hmac hx54
  rw [← hBl] at hmac hx92
  clear hA hB hAl hBl
  have hcat1 : catL (A :: L) = A.data.toList ++ catL L := rfl
  conv => whnf
  refine VSeq.mk fun Kq hKq => ?_
  conv => whnf
  refine hKq _ _ _ (.refl _) ?_
  clear hKq Kq
  conv => whnf
  refine VSeq.mk fun Kq hKq => ?_
  conv => whnf
  refine v_mixA TTok FFok mixed [(0, false), (1, false), (2, false), (3, false), (4, false), (5, false), (7, false), (6, true), (8, true), (9, false), (10, true), (11, false), (12, false)] (by kernel_rfl) ?_
  conv => whnf
  refine ⟨_, fun w' hx' => Blk.ldN (Blk.ext (hp.get (i := 1) rfl) hx') TTok rfl (by rfl), ?_⟩
  conv => whnf
  refine ⟨_, fun w1 hx' => hw92 w1 hx', ?_⟩
  conv => whnf
  refine ⟨_, fun w' hx' => Blk.ldN (Blk.ext (hp.get (i := 1) rfl) hx') TTok rfl (by rfl), ?_⟩
  conv => whnf
  refine ⟨_, fun w1 hx' => hw54 w1 hx', ?_⟩
  conv => whnf
  intro w hx
  have hp := hp.call hx
  conv => whnf
  refine hp.kmadeR (sw [A]) 9 1 1 rfl (by decide) (by kernel_rfl) fun b w hp hx => ?_
  conv => whnf
  refine And.intro hx ?_
  intro w hx
  have hp := hp.call hx
  conv => whnf
  refine hp.kappE sl151 (SLv.src TTok (tx := 151) rfl (hv.ext hp.ext) (sw_one _)) (by rw [sw_len]; omega) (by rw [sw_len]; unfold maxLen; omega) fun u w hp hx => ?_
  rw [← sw_app] at hp
  conv => whnf
  refine And.intro hx ?_
  conv => whnf
  have hs1 := fun (w1 : World) (hx' : Ext w w1) => sum_c (w0 := w1) (v := u) (A :: L) (SLv.ext (SLv.of_row (hp.get (i := 0) rfl)) hx') (by rw [hcat1, List.length_append, hx54]; omega) (by rw [List.length_cons]; omega)
  rw [hcat1] at hs1
  have hs1l := sumL2_len (A.data.toList ++ catL L)
  obtain ⟨S1, hS1⟩ : ∃ S1 : ByteArray, ⟨(sumL2 KL SL (A.data.toList ++ catL L)).toArray⟩ = S1 := ⟨_, rfl⟩
  have hS1l : S1.data.toList = sumL2 KL SL (A.data.toList ++ catL L) := by rw [← hS1]
  rw [hS1] at hs1
  rw [← hS1l] at hmac hs1l
  clear hS1 hS1l
  refine ⟨_, fun w1 hx' => hs1 w1 hx', ?_⟩
  conv => whnf
  intro w hx
  have hp := hp.call hx
  conv => whnf
  refine hp.kmadeR (sw [B, S1]) 9 1 2 rfl (by decide) (by kernel_rfl) fun b2 w hp hx => ?_
  conv => whnf
  refine And.intro hx ?_
  conv => whnf
  have hcat2 : catL [B, S1] = B.data.toList ++ S1.data.toList := by unfold catL; simp
  have hs2 := fun (w1 : World) (hx' : Ext w w1) => sum_c (w0 := w1) (v := .slice (some ⟨b2, 0, none⟩) 2 2) [B, S1] (SLv.ext (SLv.of_row (hp.get (i := 0) rfl)) hx') (by rw [hcat2, List.length_append, hx92, hs1l]; omega) (by rw [List.length_cons, List.length_cons]; exact (by decide : 0 + 1 + 1 ≤ 1000))
  rw [hcat2, ← hmac] at hs2
  refine ⟨_, fun w1 hx' => hs2 w1 hx', ?_⟩
  conv => whnf
  intro w hx
  try (have hp := hp.call hx)
  conv => whnf
  refine hKq _ _ _ (.refl _) ?_
  clear hKq Kq
  conv => whnf
  exact ⟨rfl, hp.ext⟩
 clear hKq
 refine ⟨fun hlt => ?_, fun hlt => ?_⟩
 ·have hlt := of_decide_eq_true hlt
  conv => whnf
  refine ⟨_, _, Blk.ldN (hp.get (i := 1) rfl) TTok rfl (by rfl), ?_⟩
  conv => whnf
  refine ⟨_, _, Blk.ld (hp.get (i := 0) rfl) TTok rfl (rfl), ?_⟩
  conv => whnf
  refine hp.kmade (sw [key]) 9 (fun b => .slice (some ⟨b, 0, none⟩) 1 1) (by kernel_rfl) fun tb w hp hx => ?_
  conv => whnf
  have hcat : catL [key] = key.data.toList := by unfold catL; simp
  have hs := sum_c (v := .slice (some ⟨tb, 0, none⟩) 1 1) [key] (SLv.of_blk0 (n := 1) (c := 1) (hp.get (i := 0) rfl) rfl) (by rw [hcat]; omega) (by rw [List.length_cons]; exact (by decide : 0 + 1 ≤ 1000))
  rw [hcat] at hs
  unfold mV at hs
  refine V.CallsUse (hs) fun w hx => ?_
  try (have hp := hp.call hx)
  conv => whnf
  refine hp.kst1 TTok (by rfl) 1 (by rfl) (by rfl) (by rfl) (by exact Nat.zero_lt_one) fun w hp => ?_
  try simp only [List.set_cons_zero, List.set_cons_succ, EV.val] at hp
  conv => whnf
  refine key2 _ _ ?_ hp.tail _ (sub_cons rfl (sub_cons rfl (sub_cons rfl sub_nil)))
  unfold keyL
  rw [if_pos (by omega)]
 ·have hlt := of_decide_eq_false hlt
  conv => whnf
  refine key2 key _ ?_ hp _ (sub_cons rfl (sub_cons rfl (sub_cons rfl sub_nil)))
  unfold keyL
  rw [if_neg (by omega)]
def macB (k s : ByteArray) : ByteArray := ⟨(macL k.data.toList s.data.toList).toArray⟩
theorem macB_size (k s : ByteArray) : (macB k s).size = 32 := by unfold macB macL; rw [bA_size, sumL2_len]
theorem cat1 (s : ByteArray) : catL [s] = s.data.toList := by unfold catL; simp
def macR (k s : ByteArray) : Value := if 4096 < k.size ∨ 4096 < s.size then .tuple #[.string ⟨#[]⟩, .int .i64 3] else .tuple #[.string (macB k s), .int .i64 0]
set_option maxHeartbeats 800000 in
theorem Mac_p (k s : ByteArray) : PureF Try.prog 72 #[.string k, .string s] (macR k s) := by
 unfold macR
 first | refine v_pure TTok FFok Try.func72 rfl rfl fun w0 => ?_ | refine v_pure (args := []) TTok FFok Try.func72 rfl rfl fun w0 => ?_
 conv => whnf
 refine VSeq.mk fun Kq hKq => ?_
 conv => whnf
 refine hKq _ _ _ (.refl _) ?_
 clear hKq Kq
 conv => whnf
 refine VSeq.mk fun Kq hKq => ?_
 conv => whnf
 refine VSeq.mk fun Kq hKq => ?_
 conv => whnf
 have hp := Hp.nil w0
 refine hp.kmade (sw [k, s]) 9 (fun b => .slice (some ⟨b, 0, none⟩) 2 2) (by kernel_rfl) fun tb w hp hx => ?_
 conv => whnf
 have hl := long_c (v := .slice (some ⟨tb, 0, none⟩) 2 2) [k, s] (SLv.of_blk0 (n := 2) (c := 2) (hp.get (i := 0) rfl) rfl) (by rw [List.length_cons, List.length_cons]; exact (by decide : 0 + 1 + 1 ≤ 1000))
 rw [show bigS [k, s] = decide (4096 < k.size ∨ 4096 < s.size) by simp [bigS]] at hl
 by_cases h : 4096 < k.size ∨ 4096 < s.size
 ·rw [decide_eq_true h] at hl
  refine V.CallsUse (hl) fun w hx => ?_
  try (have hp := hp.call hx)
  conv => whnf
  refine hKq _ _ _ (.refl _) ?_
  clear hKq Kq
  conv => whnf
  refine And.intro (fun _ => ?_) (fun h => by cases h)
  conv => whnf
  refine VSeq.mk fun Kq hKq => ?_
  conv => whnf
  refine hKq _ _ _ (.refl _) ?_
  clear hKq Kq
  conv => whnf
  exact ⟨by rw [if_pos h]; rfl, hp.ext⟩
 ·rw [decide_eq_false h] at hl
  refine V.CallsUse (hl) fun w hx => ?_
  try (have hp := hp.call hx)
  conv => whnf
  refine hKq _ _ _ (.refl _) ?_
  clear hKq Kq
  conv => whnf
  refine And.intro (fun h => by cases h) (fun _ => ?_)
  conv => whnf
  refine hKq _ _ _ (.refl _) ?_
  clear hKq Kq
  conv => whnf
  refine VSeq.mk fun Kq hKq => ?_
  conv => whnf
  refine PureF.use (made_p) fun w hx => ?_
  try (have hp := hp.call hx)
  conv => whnf
  refine hp.kmade (sw [s]) 9 (fun b => .slice (some ⟨b, 0, none⟩) 1 1) (by kernel_rfl) fun tc w hp hx => ?_
  conv => whnf
  have hs := mac_c (v := .slice (some ⟨tc, 0, none⟩) 1 1) k [s] (SLv.of_blk0 (n := 1) (c := 1) (hp.get (i := 0) rfl) rfl) (by rw [cat1, toList_len]; omega) (by rw [List.length_cons]; exact (by decide : 0 + 1 ≤ 100)) (by omega)
  rw [cat1] at hs
  refine V.CallsUse (hs) fun w hx => ?_
  try (have hp := hp.call hx)
  conv => whnf
  refine hKq _ _ _ (.refl _) ?_
  clear hKq Kq
  conv => whnf
  exact ⟨by rw [if_neg h]; rfl, hp.ext⟩
open Go.RowKit
namespace V
theorem oneC_of {vs : List Value} (h : vs.all Value.oneCell' = true) : ∀ u ∈ vs, u.oneCell' = true := fun u hu => List.all_eq_true.1 h u hu
section
variable {P : Program} {T : Tab} {M : List Nat} {w0 w : World} {H : List It} {K : Value → World → Prop}
theorem HpM.kboxA (h : HpM M w0 w H) {t : Nat} {vs : List Value} (hk : ∀ b w', HpM M w0 w' (blk b vs t :: H) → Ext w w' → K (.pointer (some ⟨b, 0, none⟩)) w') :
    ∃ u w', (Instr.box t (.agg vs.toArray)).run P w = .ok u w' ∧ K u w' := h.kbox vs (by simp [Value.cells]) hk
theorem HpM.kstP (h : HpM M w0 w H) (hT : tabOk P T = true) {t n : Nat} {kd : TK} (ht : tfind T t = some ⟨kd, n⟩) (i : Nat) {b off : Nat} {cs : List Value} {e : Nat} (hi : H[i]? = some (blk b cs e)) {vs : List Value}
    (hn : vs.length = n) (h1 : ∀ u ∈ vs, u.oneCell' = true) (ho : off + n ≤ cs.length) {cs' : List Value} (hcs : cs' = cs.take off ++ vs ++ cs.drop (off + n)) (hk : ∀ w', HpM M w0 w' (H.set i (blk b cs' e)) → K undef w') :
    ∃ u w', (do Instr.storeAt t (.pointer (some ⟨b, off, none⟩)) (.agg vs.toArray); Pure.pure undef : Sem Value).run P w = .ok u w' ∧ K u w' :=
  h.kst hT ht i hi vs (by simp [Value.cells]) hn h1 ho (by subst hcs; exact hk)
/-- A call, shut: contracts are matched by the function's number and the arguments alone. -/
structure CallW (P : Program) (f : Nat) (args : Array Value) (w : World) (K : Value → World → Prop) : Prop where
  out : Calls P f args w fun e w' => ∃ v, e = .returned v ∧ K v w'
structure QCallW (P : Program) (f : Nat) (args : Array Value) (w0 : World) (K : Value → Unit → Prop) : Prop where
  out : ∃ v, (∀ w1, Ext w0 w1 → Calls P f args w1 fun e w' => e = .returned v ∧ Ext w1 w') ∧ K v ()
structure CallsW (P : Program) (f : Nat) (args : Array Value) (w : World) (R : Ending → World → Prop) : Prop where
  out : Calls P f args w R
theorem PureF.useW {f : Nat} {args : Array Value} {v : Value} (h : PureF P f args v) (hk : ∀ w', Ext w w' → K v w') : CallW P f args w K := ⟨PureF.use h hk⟩
theorem PureF.quietW {f : Nat} {args : Array Value} {v : Value} {K : Value → Unit → Prop} (h : PureF P f args v) (hk : K v ()) : QCallW P f args w K := ⟨PureF.quietE h hk⟩
theorem CallsUseW {f : Nat} {args : Array Value} {v : Value} (h : Calls P f args w fun e w' => e = .returned v ∧ Ext w w') (hk : ∀ w', Ext w w' → K v w') : CallW P f args w K := ⟨CallsUse h hk⟩
theorem MakesF.useW {f : Nat} {args : Array Value} {R : Value → List It} (h : MakesF P f args R) (hp : HpM M w0 w H) (hk : ∀ v w', HpM M w0 w' (R v ++ H) → Ext w w' → K v w') : CallW P f args w K := ⟨MakesF.use h hp hk⟩
theorem CallsW.use {f : Nat} {args : Array Value} {R : Ending → World → Prop} (h : Calls P f args w R) (hk : ∀ e w', R e w' → ∃ v, e = .returned v ∧ K v w') : CallW P f args w K := ⟨h.mono hk⟩
/-- append onto an own slice whatever marks its row bears -/
theorem HpM.kappO (h : HpM M w0 w H) {t e bytes : Nat} (hs : slOk P t e 1 bytes = true) (i : Nat) {v : Value} {xs : List Value} (hi : H[i]? = some (ob e v xs))
    {tx ty : Nat} {x : Value} {m : Nat} {news : List Value} (src : Src P 1 tx x m news w) (hb : (xs.length + m) * bytes ≤ 140737488355328) (hml : xs.length + m ≤ maxLen)
    (hk : ∀ v' w', HpM M w0 w' (H.set i (ob e v' (xs ++ news))) → K v' w') :
    ∃ u w', (Builtin.append_ #[t, tx] ty #[v, x]).run P w = .ok u w' ∧ K u w' := by
  obtain ⟨hu, ⟨inf, z', hinf, hsz, rfl, hz, hzs⟩, hpos⟩ := slOk_spec hs
  obtain ⟨n, hn⟩ : ∃ n, xs.length = n := ⟨_, rfl⟩
  rw [hn] at hb hml
  have hnl : news.length = m := by have := src.newsLen; omega
  have hown : OB w e v xs := h.get hi
  have same : ∀ u, u = v → news = [] → (Builtin.append_ #[t, tx] ty #[v, x]).run P w = .ok u w → ∃ u w', (Builtin.append_ #[t, tx] ty #[v, x]).run P w = .ok u w' ∧ K u w' := fun u hu hne hr => by
    subst hu
    refine ⟨_, _, hr, hk _ w ?_⟩
    rw [hne, List.append_nil]
    have e : H.set i (ob e u xs) = H := by
      obtain ⟨hil, hie⟩ := List.getElem?_eq_some_iff.1 hi
      rw [← hie, List.set_getElem_self]
    rw [e]; exact h
  have grow : ∀ (old : Nat), old < n + m → ∀ (base : Option Addr), v = .slice base n old → (Builtin.firstCells inf.size n (.slice base n old)).run P w.drew = .ok xs.toArray w.drew →
      ∃ u w', (Builtin.append_ #[t, tx] ty #[v, x]).run P w = .ok u w' ∧ K u w' := by
    intro old ho base hv hf
    subst hv
    have hr := run_append_grow_src (P := P) w t tx ty e inf z' hu hinf hz base n old xs hf x m news (by rw [hsz]; exact src) ho (by unfold maxLen at hml; omega) (growslice_fits ho hb)
    have hge := grownCap_ge w (n + m) old e
    have hle := grownCap_le_maxLen w (n + m) old e hml
    have hl1 : (xs ++ news).length = n + m := by rw [List.length_append, hn, hnl]
    have hl2 : (Builtin.zeroCells z'.cells (grownCap w (n + m) old e - (n + m))).toList.length = grownCap w (n + m) old e - (n + m) := by
      rw [Array.length_toList, size_zeroCells, hzs, Nat.mul_one]
    refine ⟨_, _, hr, hk _ _ (h.upd hi ?_ (ob_ok _ _ _) (.inr ⟨w.heap.size, (Builtin.zeroCells z'.cells (grownCap w (n + m) old e - (n + m))).toList, by rw [hl1, hl2]; congr 1; omega, by rw [hl1, hl2]; omega, ⟨(0, 0), .inl rfl, ?_⟩⟩) ?_)⟩
    · exact ⟨rfl, rfl, rfl, by simp, fun k hk _ => heap_alloc_old w.drew _ hk⟩
    · have e1 : (xs ++ news ++ (Builtin.zeroCells z'.cells (grownCap w (n + m) old e - (n + m))).toList).toArray = (xs ++ news).toArray ++ Builtin.zeroCells z'.cells (grownCap w (n + m) old e - (n + m)) := by
        apply Array.ext'
        simp
      rw [e1]
      exact heap_alloc_new w.drew _
    · intro b hb'
      simp only [ob, Value.ownBlock, Option.some.injEq] at hb'
      subst hb'
      exact .inr ⟨Nat.le_refl _, by simp⟩
  rcases hown with ⟨rfl, rfl⟩ | ⟨g, zs, rfl, hmx, hbk⟩
  · have hn0 : n = 0 := by rw [← hn]; rfl
    subst hn0
    by_cases hm : m = 0
    · subst hm
      refine same _ rfl (List.eq_nil_of_length_eq_zero hnl) ?_
      have hlen := src.len
      have hcells := src.cells
      have hnews : news = [] := List.eq_nil_of_length_eq_zero hnl
      subst hnews
      rcases src.kind with ⟨e', hk'⟩ | hk' <;>
        (simp [Builtin.append_, Go.Proofs.Ytefjgoeabfgkmaa.V.run_underlying hu, Go.Proofs.Ytefjgoeabfgkmaa.V.run_underlying hk', sizeOf, typeInfo, hinf, hsz, hlen, Result.andThen]
         rw [hcells])
    · exact grow 0 (by omega) none rfl (by simp [Builtin.firstCells])
  · rw [hn] at grow ⊢
    by_cases hroom : n + m ≤ n + zs.length
    · obtain ⟨f, hf, hg⟩ := hbk
      have hst := storeF (P := P) g n e f news 0 (xs ++ zs).toArray w hg (by simpa using hf) (by simp; omega) src.one
      simp only [Nat.add_zero] at hst
      have hr : (Builtin.append_ #[t, tx] ty #[.slice (some ⟨g, 0, none⟩) n (n + zs.length), x]).run P w =
          .ok (.slice (some ⟨g, 0, none⟩) (n + m) (n + zs.length)) (w.setRow g ((xs ++ zs).toArray.toList.take n ++ news ++ (xs ++ zs).toArray.toList.drop (n + news.length)).toArray) := by
        have hroom' : m ≤ zs.length := by omega
        have hlen := src.len
        have hcells := src.cells
        rcases src.kind with ⟨e', hk'⟩ | hk' <;>
          (simp [Builtin.append_, Go.Proofs.Ytefjgoeabfgkmaa.V.run_underlying hu, Go.Proofs.Ytefjgoeabfgkmaa.V.run_underlying hk', sizeOf, typeInfo, hinf, hsz, hlen, hcells, hroom', Addr.add_lit, Result.andThen]
           simp at hst
           rw [hst])
      rw [hr]
      have hcells : ((xs ++ zs).toArray.toList.take n ++ news ++ (xs ++ zs).toArray.toList.drop (n + news.length)) = (xs ++ news) ++ zs.drop m := by
        simp only [List.toList_toArray]
        rw [← hn, List.take_left, ← List.drop_drop, List.drop_left, hnl]
      have hl1 : (xs ++ news).length = n + m := by rw [List.length_append, hnl, hn]
      have hl2 : (xs ++ news).length + (zs.drop m).length = n + zs.length := by rw [hl1, List.length_drop]; omega
      rw [hcells]
      refine ⟨_, _, rfl, hk _ _ (h.upd hi (grownBy_setRow w g _) (ob_ok _ _ _) (.inr ⟨g, zs.drop m, by rw [hl2, hl1], by rw [hl2, ← hn]; exact hmx, ⟨f, ?_, setRow_heap w g _ _ e f hg⟩⟩) (fun b hb => .inl hb))⟩
      rw [List.length_append, hl2, ← hn, ← List.length_append]; exact hf
    · have holds : ∀ j u, xs[j]? = some u → w.drew.cell? ((⟨g, 0, none⟩ : Addr).add j) = some u := fun j u hj => by
        have := hbk.cell j
        rw [List.getElem?_append_left (List.getElem?_eq_some_iff.1 hj).1, hj] at this
        rw [add_none, Nat.zero_add]; exact this
      exact grow (n + zs.length) (by omega) (some ⟨g, 0, none⟩) rfl (by rw [hsz]; exact run_firstCells_some (P := P) w.drew 1 n ⟨g, 0, none⟩ n (n + zs.length) xs (by omega) holds)
end
end V
theorem bld102_1_2 (w : World) (x0 : Int) (x1 : ByteArray) : (Instr.build 102 #[(1, .int .i64 x0), (2, .string x1)]).run Try.prog w = .ok (.agg #[.int .i64 0, .int .i64 x0, .string x1, .slice none 0 0]) w := by kernel_rfl
theorem bld118_0_1 (w : World) (x0 : Int) (x1 : ByteArray) : (Instr.build 118 #[(0, .int .i64 x0), (1, .string x1)]).run Try.prog w = .ok (.agg #[.int .i64 x0, .string x1]) w := by kernel_rfl
theorem bld125_ (w : World)  : (Instr.build 125 #[]).run Try.prog w = .ok (.agg #[.string ⟨#[]⟩]) w := by kernel_rfl
theorem bld125_0 (w : World) (x0 : ByteArray) : (Instr.build 125 #[(0, .string x0)]).run Try.prog w = .ok (.agg #[.string x0]) w := by kernel_rfl
theorem bld24_ (w : World)  : (Instr.build 24 #[]).run Try.prog w = .ok (.agg #[.string ⟨#[]⟩, .int .i64 0]) w := by kernel_rfl
theorem bld24_0_1 (w : World) (x0 : ByteArray) (x1 : Int) : (Instr.build 24 #[(0, .string x0), (1, .int .i64 x1)]).run Try.prog w = .ok (.agg #[.string x0, .int .i64 x1]) w := by kernel_rfl
theorem bld25_ (w : World)  : (Instr.build 25 #[]).run Try.prog w = .ok (.agg #[.string ⟨#[]⟩, .int .i64 0, .string ⟨#[]⟩, .int .i64 0]) w := by kernel_rfl
theorem bld25_0_1 (w : World) (x00 x01 : Value) (x10 x11 : Value) : (Instr.build 25 #[(0, .agg #[x00, x01]), (1, .agg #[x10, x11])]).run Try.prog w = .ok (.agg #[x00, x01, x10, x11]) w := by kernel_rfl
theorem bld28_ (w : World)  : (Instr.build 28 #[]).run Try.prog w = .ok (.agg #[.string ⟨#[]⟩, .int .i64 0, .string ⟨#[]⟩, .int .i64 0, .int .i64 0, .int .i64 0, .int .i64 0, .int .i64 0, .bool false, .string ⟨#[]⟩, .string ⟨#[]⟩, .string ⟨#[]⟩, .slice none 0 0]) w := by kernel_rfl
theorem bld28_0_1_3_6_7 (w : World) (x00 x01 x02 x03 : Value) (x1 : Int) (x2 : Int) (x3 : ByteArray) (x4 : ByteArray) : (Instr.build 28 #[(0, .agg #[x00, x01, x02, x03]), (1, .int .i64 x1), (3, .int .i64 x2), (6, .string x3), (7, .string x4)]).run Try.prog w = .ok (.agg #[x00, x01, x02, x03, .int .i64 x1, .int .i64 0, .int .i64 x2, .int .i64 0, .bool false, .string x3, .string x4, .string ⟨#[]⟩, .slice none 0 0]) w := by kernel_rfl
theorem bld38_0_1 (w : World) (x0 : Int) (x1 : Int) : (Instr.build 38 #[(0, .int .i64 x0), (1, .int .i64 x1)]).run Try.prog w = .ok (.agg #[.int .i64 x0, .int .i64 x1, .int .i64 0, .bool false, .int .i64 0, .bool false, .string ⟨#[]⟩, .int .i64 0]) w := by kernel_rfl
theorem bld38_0_1_2 (w : World) (x0 : Int) (x1 : Int) (x2 : Int) : (Instr.build 38 #[(0, .int .i64 x0), (1, .int .i64 x1), (2, .int .i64 x2)]).run Try.prog w = .ok (.agg #[.int .i64 x0, .int .i64 x1, .int .i64 x2, .bool false, .int .i64 0, .bool false, .string ⟨#[]⟩, .int .i64 0]) w := by kernel_rfl
theorem bld38_0_1_2_4 (w : World) (x0 : Int) (x1 : Int) (x2 : Int) (x3 : Int) : (Instr.build 38 #[(0, .int .i64 x0), (1, .int .i64 x1), (2, .int .i64 x2), (4, .int .i64 x3)]).run Try.prog w = .ok (.agg #[.int .i64 x0, .int .i64 x1, .int .i64 x2, .bool false, .int .i64 x3, .bool false, .string ⟨#[]⟩, .int .i64 0]) w := by kernel_rfl
theorem bld38_0_1_6 (w : World) (x0 : Int) (x1 : Int) (x20 x21 : Value) : (Instr.build 38 #[(0, .int .i64 x0), (1, .int .i64 x1), (6, .agg #[x20, x21])]).run Try.prog w = .ok (.agg #[.int .i64 x0, .int .i64 x1, .int .i64 0, .bool false, .int .i64 0, .bool false, x20, x21]) w := by kernel_rfl
theorem bld38_0_2 (w : World) (x0 : Int) (x1 : Int) : (Instr.build 38 #[(0, .int .i64 x0), (2, .int .i64 x1)]).run Try.prog w = .ok (.agg #[.int .i64 x0, .int .i64 0, .int .i64 x1, .bool false, .int .i64 0, .bool false, .string ⟨#[]⟩, .int .i64 0]) w := by kernel_rfl
theorem bld38_0_6 (w : World) (x0 : Int) (x10 x11 : Value) : (Instr.build 38 #[(0, .int .i64 x0), (6, .agg #[x10, x11])]).run Try.prog w = .ok (.agg #[.int .i64 x0, .int .i64 0, .int .i64 0, .bool false, .int .i64 0, .bool false, x10, x11]) w := by kernel_rfl
theorem bld38_0 (w : World) (x0 : Int) : (Instr.build 38 #[(0, .int .i64 x0)]).run Try.prog w = .ok (.agg #[.int .i64 x0, .int .i64 0, .int .i64 0, .bool false, .int .i64 0, .bool false, .string ⟨#[]⟩, .int .i64 0]) w := by kernel_rfl
theorem bld40_0_1 (w : World) (x00 x01 : Value) (x10 x11 : Value) : (Instr.build 40 #[(0, .agg #[x00, x01]), (1, .agg #[x10, x11])]).run Try.prog w = .ok (.agg #[x00, x01, x10, x11, .int .i64 0, .int .i64 0, .int .i64 0, .bool false, .int .i64 0, .bool false, .string ⟨#[]⟩, .int .i64 0]) w := by kernel_rfl
theorem bld40_0_1_2 (w : World) (x00 x01 : Value) (x10 x11 : Value) (x20 x21 x22 x23 x24 x25 x26 x27 : Value) : (Instr.build 40 #[(0, .agg #[x00, x01]), (1, .agg #[x10, x11]), (2, .agg #[x20, x21, x22, x23, x24, x25, x26, x27])]).run Try.prog w = .ok (.agg #[x00, x01, x10, x11, x20, x21, x22, x23, x24, x25, x26, x27]) w := by kernel_rfl
theorem bld46_0_2 (w : World) (x0 : Int) (x1 : Int) : (Instr.build 46 #[(0, .int .u8 x0), (2, .int .i64 x1)]).run Try.prog w = .ok (.agg #[.int .u8 x0, .int .u8 0, .int .i64 x1, .string ⟨#[]⟩, .string ⟨#[]⟩, .int .i64 0]) w := by kernel_rfl
theorem bld46_0_3 (w : World) (x0 : Int) (x1 : ByteArray) : (Instr.build 46 #[(0, .int .u8 x0), (3, .string x1)]).run Try.prog w = .ok (.agg #[.int .u8 x0, .int .u8 0, .int .i64 0, .string x1, .string ⟨#[]⟩, .int .i64 0]) w := by kernel_rfl
theorem bld46_0_4 (w : World) (x0 : Int) (x10 x11 : Value) : (Instr.build 46 #[(0, .int .u8 x0), (4, .agg #[x10, x11])]).run Try.prog w = .ok (.agg #[.int .u8 x0, .int .u8 0, .int .i64 0, .string ⟨#[]⟩, x10, x11]) w := by kernel_rfl
theorem bld46_0 (w : World) (x0 : Int) : (Instr.build 46 #[(0, .int .u8 x0)]).run Try.prog w = .ok (.agg #[.int .u8 x0, .int .u8 0, .int .i64 0, .string ⟨#[]⟩, .string ⟨#[]⟩, .int .i64 0]) w := by kernel_rfl
theorem bld60_0 (w : World) (x00 x01 x02 x03 x04 x05 x06 x07 x08 x09 x010 x011 x012 : Value) : (Instr.build 60 #[(0, .agg #[x00, x01, x02, x03, x04, x05, x06, x07, x08, x09, x010, x011, x012])]).run Try.prog w = .ok (.agg #[x00, x01, x02, x03, x04, x05, x06, x07, x08, x09, x010, x011, x012, .slice none 0 0]) w := by kernel_rfl
theorem mks100_1_0 (w : World) (x00 x01 : Value) : (Instr.buildSlice 100 1 #[(0, .agg #[x00, x01])]).run Try.prog w = .ok (.slice (some ⟨w.heap.size, 0, none⟩) 1 1) (w.alloc (.cells #[x00, x01] 118)) := by kernel_rfl
theorem mks26_1_0 (w : World) (x0 : Int) : (Instr.buildSlice 26 1 #[(0, .int .i64 x0)]).run Try.prog w = .ok (.slice (some ⟨w.heap.size, 0, none⟩) 1 1) (w.alloc (.cells #[.int .i64 x0] 3)) := by kernel_rfl
theorem mks26_8_0_1_2_3_4_5_6_7 (w : World) (x0 : Int) (x1 : Int) (x2 : Int) (x3 : Int) (x4 : Int) (x5 : Int) (x6 : Int) (x7 : Int) : (Instr.buildSlice 26 8 #[(0, .int .i64 x0), (1, .int .i64 x1), (2, .int .i64 x2), (3, .int .i64 x3), (4, .int .i64 x4), (5, .int .i64 x5), (6, .int .i64 x6), (7, .int .i64 x7)]).run Try.prog w = .ok (.slice (some ⟨w.heap.size, 0, none⟩) 8 8) (w.alloc (.cells #[.int .i64 x0, .int .i64 x1, .int .i64 x2, .int .i64 x3, .int .i64 x4, .int .i64 x5, .int .i64 x6, .int .i64 x7] 3)) := by kernel_rfl
theorem mks32_1_0 (w : World) (x00 x01 x02 x03 x04 x05 x06 x07 x08 x09 x010 x011 : Value) : (Instr.buildSlice 32 1 #[(0, .agg #[x00, x01, x02, x03, x04, x05, x06, x07, x08, x09, x010, x011])]).run Try.prog w = .ok (.slice (some ⟨w.heap.size, 0, none⟩) 1 1) (w.alloc (.cells #[x00, x01, x02, x03, x04, x05, x06, x07, x08, x09, x010, x011] 40)) := by kernel_rfl
theorem mks67_1_0 (w : World) (x0 : Int) : (Instr.buildSlice 67 1 #[(0, .int .u8 x0)]).run Try.prog w = .ok (.slice (some ⟨w.heap.size, 0, none⟩) 1 1) (w.alloc (.cells #[.int .u8 x0] 5)) := by kernel_rfl
theorem mks67_4_0_1_2_3 (w : World) (x0 : Int) (x1 : Int) (x2 : Int) (x3 : Int) : (Instr.buildSlice 67 4 #[(0, .int .u8 x0), (1, .int .u8 x1), (2, .int .u8 x2), (3, .int .u8 x3)]).run Try.prog w = .ok (.slice (some ⟨w.heap.size, 0, none⟩) 4 4) (w.alloc (.cells #[.int .u8 x0, .int .u8 x1, .int .u8 x2, .int .u8 x3] 5)) := by kernel_rfl
def hostB (s : ByteArray) : Bool := decide (s.size = 4) || decide (s.size = 16)
theorem hostB_t {s : ByteArray} (h : hostB s = true) : s.size = 4 ∨ s.size = 16 := by
 unfold hostB at h
 simpa using h
theorem hostB_f {s : ByteArray} (h : hostB s = false) : s.size ≠ 4 ∧ s.size ≠ 16 := by
 unfold hostB at h
 simpa using h
theorem hostB_of {s : ByteArray} (h : s.size = 4 ∨ s.size = 16) : hostB s = true := by
 unfold hostB
 simpa using h
def addrB (h : ByteArray) (p : Int) : Bool := hostB h && (decide (0 ≤ p) && decide (p ≤ 65535))
theorem addrB_t {h : ByteArray} {p : Int} (x : addrB h p = true) : hostB h = true ∧ 0 ≤ p ∧ p ≤ 65535 := by
 unfold addrB at x
 simpa using x
theorem addrB_f {h : ByteArray} {p : Int} (x : addrB h p = false) : hostB h = true → 0 ≤ p → 65535 < p := by
 unfold addrB at x
 intro h1 h2
 rw [h1, decide_eq_true h2] at x
 simpa using x
theorem addrB_of {h : ByteArray} {p : Int} (h1 : hostB h = true) (h2 : 0 ≤ p) (h3 : p ≤ 65535) : addrB h p = true := by
 unfold addrB
 rw [h1, decide_eq_true h2, decide_eq_true h3]
 rfl
def usB (h : ByteArray) (p : Int) : Bool := addrB h p && decide (1 ≤ p)
theorem aread_t (s : ByteArray) (h : hostB s = true) : PureF Try.prog 67 #[.string s] (.tuple #[.agg #[.string s], .int .i64 0]) := by
 have h := hostB_t h
 first | refine v_pure TTok FFok Try.func67 rfl rfl fun w0 => ?_ | refine v_pure (args := []) TTok FFok Try.func67 rfl rfl fun w0 => ?_
 conv => whnf
 refine VSeq.mk fun Kq hKq => ?_
 conv => whnf
 have hp := Hp.nil w0
 (refine hp.kalloc z125 fun al125 w hp hx => ?_; conv => whnf)
 (refine hKq _ _ _ (.refl _) ?_; clear hKq Kq; conv => whnf)
 (refine VSeq.mk fun Kq hKq => ?_; conv => whnf)
 (refine VSeq.mk fun Kq hKq => ?_; conv => whnf)
 (refine VSeq.mk fun Kq hKq => ?_; conv => whnf)
 (refine hKq _ _ _ (.refl _) ?_; clear hKq Kq; conv => whnf)
 (refine ⟨fun hd => ?_, fun hd => ?_⟩ <;> (try simp only [Bool.not_eq_true', Bool.not_eq_false', decide_eq_true_eq, decide_eq_false_iff_not, ne_eq, Classical.not_not] at hd) <;> (conv => whnf))
 (refine hKq _ _ _ (.refl _) ?_; clear hKq Kq; conv => whnf)
 (refine And.intro (fun h => absurd (of_decide_eq_true h) (by first | (intro h2; exact absurd rfl h2) | omega | decide)) (fun _ => ?_); conv => whnf)
 (refine hKq _ _ _ (.refl _) ?_; clear hKq Kq; conv => whnf)
 (refine VSeq.mk fun Kq hKq => ?_; conv => whnf)
 (refine ⟨_, _, bld125_0 _ _, ?_⟩; conv => whnf)
 (refine hp.kstA TTok rfl 0 rfl rfl (oneC_of rfl) (by rfl) fun w hp => ?_; try simp only [List.set_cons_zero, List.set_cons_succ, EV.val] at hp; conv => whnf)
 (refine hKq _ _ _ (.refl _) ?_; clear hKq Kq; conv => whnf)
 (refine ⟨_, Blk.lvN (hp.get (i := 0) rfl) TTok rfl rfl, ?_⟩; conv => whnf)
 (exact ⟨rfl, hp.ext⟩)
 (refine hKq _ _ _ (.refl _) ?_; clear hKq Kq; conv => whnf)
 (refine hKq _ _ _ (.refl _) ?_; clear hKq Kq; conv => whnf)
 (refine VSeq.mk fun Kq hKq => ?_; conv => whnf)
 (refine ⟨_, _, bld125_0 _ _, ?_⟩; conv => whnf)
 (refine hp.kstA TTok rfl 0 rfl rfl (oneC_of rfl) (by rfl) fun w hp => ?_; try simp only [List.set_cons_zero, List.set_cons_succ, EV.val] at hp; conv => whnf)
 (refine hKq _ _ _ (.refl _) ?_; clear hKq Kq; conv => whnf)
 (refine ⟨_, Blk.lvN (hp.get (i := 0) rfl) TTok rfl rfl, ?_⟩; conv => whnf)
 (exact ⟨rfl, hp.ext⟩)
theorem aread_f (s : ByteArray) (h : hostB s = false) : PureF Try.prog 67 #[.string s] (.tuple #[.agg #[.string ⟨#[]⟩], .int .i64 2]) := by
 have h := hostB_f h
 first | refine v_pure TTok FFok Try.func67 rfl rfl fun w0 => ?_ | refine v_pure (args := []) TTok FFok Try.func67 rfl rfl fun w0 => ?_
 conv => whnf
 refine VSeq.mk fun Kq hKq => ?_
 conv => whnf
 have hp := Hp.nil w0
 (refine hp.kalloc z125 fun al125 w hp hx => ?_; conv => whnf)
 (refine hKq _ _ _ (.refl _) ?_; clear hKq Kq; conv => whnf)
 (refine VSeq.mk fun Kq hKq => ?_; conv => whnf)
 (refine VSeq.mk fun Kq hKq => ?_; conv => whnf)
 (refine VSeq.mk fun Kq hKq => ?_; conv => whnf)
 (refine hKq _ _ _ (.refl _) ?_; clear hKq Kq; conv => whnf)
 (refine And.intro (fun _ => ?_) (fun h => absurd (by first | rfl | assumption | omega | decide) (of_decide_eq_false h)); conv => whnf)
 (refine hKq _ _ _ (.refl _) ?_; clear hKq Kq; conv => whnf)
 (refine And.intro (fun _ => ?_) (fun h => absurd (by first | rfl | assumption | omega | decide) (of_decide_eq_false h)); conv => whnf)
 (refine VSeq.mk fun Kq hKq => ?_; conv => whnf)
 (refine ⟨_, _, bld125_ _, ?_⟩; conv => whnf)
 (refine hp.kstA TTok rfl 0 rfl rfl (oneC_of rfl) (by rfl) fun w hp => ?_; try simp only [List.set_cons_zero, List.set_cons_succ, EV.val] at hp; conv => whnf)
 (refine hKq _ _ _ (.refl _) ?_; clear hKq Kq; conv => whnf)
 (refine ⟨_, Blk.lvN (hp.get (i := 0) rfl) TTok rfl rfl, ?_⟩; conv => whnf)
 (exact ⟨rfl, hp.ext⟩)
theorem acheck_t (h : ByteArray) (p : Int) (x : addrB h p = true) : PureF Try.prog 55 #[.agg #[.string h, .int .i64 p]] (.int .i64 0) := by
 obtain ⟨h1, h2, h3⟩ := addrB_t x
 first | refine v_pure TTok FFok Try.func55 rfl rfl fun w0 => ?_ | refine v_pure (args := []) TTok FFok Try.func55 rfl rfl fun w0 => ?_
 conv => whnf
 refine VSeq.mk fun Kq hKq => ?_
 conv => whnf
 have hp := Hp.nil w0
 (refine hp.kboxA fun q w hp hx => ?_; conv => whnf)
 (refine hKq _ _ _ (.refl _) ?_; clear hKq Kq; conv => whnf)
 (refine VSeq.mk fun Kq hKq => ?_; conv => whnf)
 (refine VSeq.mk fun Kq hKq => ?_; conv => whnf)
 (refine ⟨_, _, Blk.ld (hp.get (i := 0) rfl) TTok rfl rfl, ?_⟩; conv => whnf)
 (refine V.CallW.out ?_; (conv => arg 3; dsimp only [EV.val, List.toList_toArray, List.nil_append, List.append_nil, List.cons_append]); (with_reducible refine V.PureF.useW (aread_t _ (by assumption)) fun w hx => ?_); try (have hp := hp.call hx); conv => whnf)
 (refine hp.kalloc z125 fun al125 w hp hx => ?_; conv => whnf)
 (refine hp.kstA TTok rfl 0 rfl rfl (oneC_of rfl) (by rfl) fun w hp => ?_; try simp only [List.set_cons_zero, List.set_cons_succ, EV.val] at hp; conv => whnf)
 (refine hKq _ _ _ (.refl _) ?_; clear hKq Kq; conv => whnf)
 (refine VSeq.mk fun Kq hKq => ?_; conv => whnf)
 (refine VSeq.mk fun Kq hKq => ?_; conv => whnf)
 (refine hKq _ _ _ (.refl _) ?_; clear hKq Kq; conv => whnf)
 (refine VSeq.mk fun Kq hKq => ?_; conv => whnf)
 (refine And.intro (fun h => absurd (of_decide_eq_true h) (by first | (intro h2; exact absurd rfl h2) | omega | decide)) (fun _ => ?_); conv => whnf)
 (refine ⟨_, _, Blk.ld (hp.get (i := 1) rfl) TTok rfl rfl, ?_⟩; conv => whnf)
 (refine hKq _ _ _ (.refl _) ?_; clear hKq Kq; conv => whnf)
 (refine And.intro (fun h => absurd (of_decide_eq_true h) (by first | (intro h2; exact absurd rfl h2) | omega | decide)) (fun _ => ?_); conv => whnf)
 (refine ⟨_, _, Blk.ld (hp.get (i := 1) rfl) TTok rfl rfl, ?_⟩; conv => whnf)
 (refine hKq _ _ _ (.refl _) ?_; clear hKq Kq; conv => whnf)
 (refine And.intro (fun h => absurd (of_decide_eq_true h) (by first | (intro h2; exact absurd rfl h2) | omega | decide)) (fun _ => ?_); conv => whnf)
 (refine hKq _ _ _ (.refl _) ?_; clear hKq Kq; conv => whnf)
 (refine VSeq.mk fun Kq hKq => ?_; conv => whnf)
 (refine hKq _ _ _ (.refl _) ?_; clear hKq Kq; conv => whnf)
 (exact ⟨rfl, hp.ext⟩)
theorem acheck_f (h : ByteArray) (p : Int) (x : addrB h p = false) : PureF Try.prog 55 #[.agg #[.string h, .int .i64 p]] (.int .i64 2) := by
 have x := addrB_f x
 cases h1 : hostB h with
 | true =>
  have x := x h1
  first | refine v_pure TTok FFok Try.func55 rfl rfl fun w0 => ?_ | refine v_pure (args := []) TTok FFok Try.func55 rfl rfl fun w0 => ?_
  conv => whnf
  refine VSeq.mk fun Kq hKq => ?_
  conv => whnf
  have hp := Hp.nil w0
  (refine hp.kboxA fun q w hp hx => ?_; conv => whnf)
  (refine hKq _ _ _ (.refl _) ?_; clear hKq Kq; conv => whnf)
  (refine VSeq.mk fun Kq hKq => ?_; conv => whnf)
  (refine VSeq.mk fun Kq hKq => ?_; conv => whnf)
  (refine ⟨_, _, Blk.ld (hp.get (i := 0) rfl) TTok rfl rfl, ?_⟩; conv => whnf)
  (refine V.CallW.out ?_; (conv => arg 3; dsimp only [EV.val, List.toList_toArray, List.nil_append, List.append_nil, List.cons_append]); (with_reducible refine V.PureF.useW (aread_t _ (by assumption)) fun w hx => ?_); try (have hp := hp.call hx); conv => whnf)
  (refine hp.kalloc z125 fun al125 w hp hx => ?_; conv => whnf)
  (refine hp.kstA TTok rfl 0 rfl rfl (oneC_of rfl) (by rfl) fun w hp => ?_; try simp only [List.set_cons_zero, List.set_cons_succ, EV.val] at hp; conv => whnf)
  (refine hKq _ _ _ (.refl _) ?_; clear hKq Kq; conv => whnf)
  (refine VSeq.mk fun Kq hKq => ?_; conv => whnf)
  (refine VSeq.mk fun Kq hKq => ?_; conv => whnf)
  (refine hKq _ _ _ (.refl _) ?_; clear hKq Kq; conv => whnf)
  (refine VSeq.mk fun Kq hKq => ?_; conv => whnf)
  (refine And.intro (fun h => absurd (of_decide_eq_true h) (by first | (intro h2; exact absurd rfl h2) | omega | decide)) (fun _ => ?_); conv => whnf)
  (refine ⟨_, _, Blk.ld (hp.get (i := 1) rfl) TTok rfl rfl, ?_⟩; conv => whnf)
  (refine hKq _ _ _ (.refl _) ?_; clear hKq Kq; conv => whnf)
  (refine ⟨fun hd => ?_, fun hd => ?_⟩ <;> (try simp only [Bool.not_eq_true', Bool.not_eq_false', decide_eq_true_eq, decide_eq_false_iff_not, ne_eq, Classical.not_not] at hd) <;> (conv => whnf))
  (refine hKq _ _ _ (.refl _) ?_; clear hKq Kq; conv => whnf)
  (refine VSeq.mk fun Kq hKq => ?_; conv => whnf)
  (refine hKq _ _ _ (.refl _) ?_; clear hKq Kq; conv => whnf)
  (exact ⟨rfl, hp.ext⟩)
  (refine ⟨_, _, Blk.ld (hp.get (i := 1) rfl) TTok rfl rfl, ?_⟩; conv => whnf)
  (refine hKq _ _ _ (.refl _) ?_; clear hKq Kq; conv => whnf)
  (refine And.intro (fun _ => ?_) (fun h => absurd (by first | rfl | assumption | omega | decide) (of_decide_eq_false h)); conv => whnf)
  (refine VSeq.mk fun Kq hKq => ?_; conv => whnf)
  (refine hKq _ _ _ (.refl _) ?_; clear hKq Kq; conv => whnf)
  (exact ⟨rfl, hp.ext⟩)
 | false =>
  clear x
  first | refine v_pure TTok FFok Try.func55 rfl rfl fun w0 => ?_ | refine v_pure (args := []) TTok FFok Try.func55 rfl rfl fun w0 => ?_
  conv => whnf
  refine VSeq.mk fun Kq hKq => ?_
  conv => whnf
  have hp := Hp.nil w0
  (refine hp.kboxA fun q w hp hx => ?_; conv => whnf)
  (refine hKq _ _ _ (.refl _) ?_; clear hKq Kq; conv => whnf)
  (refine VSeq.mk fun Kq hKq => ?_; conv => whnf)
  (refine VSeq.mk fun Kq hKq => ?_; conv => whnf)
  (refine ⟨_, _, Blk.ld (hp.get (i := 0) rfl) TTok rfl rfl, ?_⟩; conv => whnf)
  (refine V.CallW.out ?_; (conv => arg 3; dsimp only [EV.val, List.toList_toArray, List.nil_append, List.append_nil, List.cons_append]); (with_reducible refine V.PureF.useW (aread_f _ (by assumption)) fun w hx => ?_); try (have hp := hp.call hx); conv => whnf)
  (refine hp.kalloc z125 fun al125 w hp hx => ?_; conv => whnf)
  (refine hp.kstA TTok rfl 0 rfl rfl (oneC_of rfl) (by rfl) fun w hp => ?_; try simp only [List.set_cons_zero, List.set_cons_succ, EV.val] at hp; conv => whnf)
  (refine hKq _ _ _ (.refl _) ?_; clear hKq Kq; conv => whnf)
  (refine VSeq.mk fun Kq hKq => ?_; conv => whnf)
  (refine VSeq.mk fun Kq hKq => ?_; conv => whnf)
  (refine hKq _ _ _ (.refl _) ?_; clear hKq Kq; conv => whnf)
  (refine VSeq.mk fun Kq hKq => ?_; conv => whnf)
  (refine And.intro (fun _ => ?_) (fun h => absurd (by first | rfl | assumption | omega | decide) (of_decide_eq_false h)); conv => whnf)
  (refine hKq _ _ _ (.refl _) ?_; clear hKq Kq; conv => whnf)
  (refine hKq _ _ _ (.refl _) ?_; clear hKq Kq; conv => whnf)
  (refine VSeq.mk fun Kq hKq => ?_; conv => whnf)
  (refine hKq _ _ _ (.refl _) ?_; clear hKq Kq; conv => whnf)
  (exact ⟨rfl, hp.ext⟩)
theorem family_4 (s : ByteArray) (h : s.size = 4) : PureF Try.prog 74 #[.string s] (.tuple #[.int .i64 1, .int .i64 0]) := by
 have h1 := hostB_of (.inl h)
 first | refine v_pure TTok FFok Try.func74 rfl rfl fun w0 => ?_ | refine v_pure (args := []) TTok FFok Try.func74 rfl rfl fun w0 => ?_
 conv => whnf
 refine VSeq.mk fun Kq hKq => ?_
 conv => whnf
 refine hKq _ _ _ (.refl _) ?_
 clear hKq Kq
 conv => whnf
 refine VSeq.mk fun Kq hKq => ?_
 conv => whnf
 refine VSeq.mk fun Kq hKq => ?_
 conv => whnf
 have hp := Hp.nil w0
 (refine V.CallW.out ?_; (conv => arg 3; dsimp only [EV.val, List.toList_toArray, List.nil_append, List.append_nil, List.cons_append]); (with_reducible refine V.PureF.useW (aread_t _ (by assumption)) fun w hx => ?_); try (have hp := hp.call hx); conv => whnf)
 (refine hp.kalloc z125 fun al125 w hp hx => ?_; conv => whnf)
 (refine hp.kstA TTok rfl 0 rfl rfl (oneC_of rfl) (by rfl) fun w hp => ?_; try simp only [List.set_cons_zero, List.set_cons_succ, EV.val] at hp; conv => whnf)
 (refine hKq _ _ _ (.refl _) ?_; clear hKq Kq; conv => whnf)
 (refine VSeq.mk fun Kq hKq => ?_; conv => whnf)
 (refine hKq _ _ _ (.refl _) ?_; clear hKq Kq; conv => whnf)
 (refine And.intro (fun h => absurd (of_decide_eq_true h) (by first | (intro h2; exact absurd rfl h2) | omega | decide)) (fun _ => ?_); conv => whnf)
 (refine hKq _ _ _ (.refl _) ?_; clear hKq Kq; conv => whnf)
 (refine VSeq.mk fun Kq hKq => ?_; conv => whnf)
 (refine VSeq.mk fun Kq hKq => ?_; conv => whnf)
 (refine hKq _ _ _ (.refl _) ?_; clear hKq Kq; conv => whnf)
 (refine And.intro (fun _ => ?_) (fun h => absurd (by first | rfl | assumption | omega | decide) (of_decide_eq_false h)); conv => whnf)
 (refine VSeq.mk fun Kq hKq => ?_; conv => whnf)
 (refine hKq _ _ _ (.refl _) ?_; clear hKq Kq; conv => whnf)
 (exact ⟨rfl, hp.ext⟩)
theorem family_6 (s : ByteArray) (h : s.size = 16) : PureF Try.prog 74 #[.string s] (.tuple #[.int .i64 2, .int .i64 0]) := by
 have h1 := hostB_of (.inr h)
 first | refine v_pure TTok FFok Try.func74 rfl rfl fun w0 => ?_ | refine v_pure (args := []) TTok FFok Try.func74 rfl rfl fun w0 => ?_
 conv => whnf
 refine VSeq.mk fun Kq hKq => ?_
 conv => whnf
 refine hKq _ _ _ (.refl _) ?_
 clear hKq Kq
 conv => whnf
 refine VSeq.mk fun Kq hKq => ?_
 conv => whnf
 refine VSeq.mk fun Kq hKq => ?_
 conv => whnf
 have hp := Hp.nil w0
 (refine V.CallW.out ?_; (conv => arg 3; dsimp only [EV.val, List.toList_toArray, List.nil_append, List.append_nil, List.cons_append]); (with_reducible refine V.PureF.useW (aread_t _ (by assumption)) fun w hx => ?_); try (have hp := hp.call hx); conv => whnf)
 (refine hp.kalloc z125 fun al125 w hp hx => ?_; conv => whnf)
 (refine hp.kstA TTok rfl 0 rfl rfl (oneC_of rfl) (by rfl) fun w hp => ?_; try simp only [List.set_cons_zero, List.set_cons_succ, EV.val] at hp; conv => whnf)
 (refine hKq _ _ _ (.refl _) ?_; clear hKq Kq; conv => whnf)
 (refine VSeq.mk fun Kq hKq => ?_; conv => whnf)
 (refine hKq _ _ _ (.refl _) ?_; clear hKq Kq; conv => whnf)
 (refine And.intro (fun h => absurd (of_decide_eq_true h) (by first | (intro h2; exact absurd rfl h2) | omega | decide)) (fun _ => ?_); conv => whnf)
 (refine hKq _ _ _ (.refl _) ?_; clear hKq Kq; conv => whnf)
 (refine VSeq.mk fun Kq hKq => ?_; conv => whnf)
 (refine VSeq.mk fun Kq hKq => ?_; conv => whnf)
 (refine hKq _ _ _ (.refl _) ?_; clear hKq Kq; conv => whnf)
 (refine And.intro (fun h => absurd (of_decide_eq_true h) (by first | (intro h2; exact absurd rfl h2) | omega | decide)) (fun _ => ?_); conv => whnf)
 (refine hKq _ _ _ (.refl _) ?_; clear hKq Kq; conv => whnf)
 (refine VSeq.mk fun Kq hKq => ?_; conv => whnf)
 (refine hKq _ _ _ (.refl _) ?_; clear hKq Kq; conv => whnf)
 (exact ⟨rfl, hp.ext⟩)
theorem ausable_p (h : ByteArray) (p : Int) : PureF Try.prog 57 #[.agg #[.string h, .int .i64 p]] (.bool (usB h p)) := by
 unfold usB
 cases x : addrB h p with
 | true =>
  first | refine v_pure TTok FFok Try.func57 rfl rfl fun w0 => ?_ | refine v_pure (args := []) TTok FFok Try.func57 rfl rfl fun w0 => ?_
  conv => whnf
  refine VSeq.mk fun Kq hKq => ?_
  conv => whnf
  have hp := Hp.nil w0
  (refine hp.kboxA fun q w hp hx => ?_; conv => whnf)
  (refine hKq _ _ _ (.refl _) ?_; clear hKq Kq; conv => whnf)
  (refine VSeq.mk fun Kq hKq => ?_; conv => whnf)
  (refine VSeq.mk fun Kq hKq => ?_; conv => whnf)
  (refine ⟨_, _, Blk.ldV (vs := [_, _]) (hp.get (i := 0) rfl) TTok rfl rfl rfl, ?_⟩; conv => whnf)
  (refine V.CallW.out ?_; (conv => arg 3; dsimp only [EV.val, List.toList_toArray, List.nil_append, List.append_nil, List.cons_append]); (with_reducible refine V.PureF.useW (acheck_t _ _ (by assumption)) fun w hx => ?_); try (have hp := hp.call hx); conv => whnf)
  (refine hKq _ _ _ (.refl _) ?_; clear hKq Kq; conv => whnf)
  (refine And.intro (fun _ => ?_) (fun h => absurd (by first | rfl | assumption | omega | decide) (of_decide_eq_false h)); conv => whnf)
  (refine ⟨_, _, Blk.ld (hp.get (i := 0) rfl) TTok rfl rfl, ?_⟩; conv => whnf)
  (refine hKq _ _ _ (.refl _) ?_; clear hKq Kq; conv => whnf)
  (exact ⟨rfl, hp.ext⟩)
 | false =>
  first | refine v_pure TTok FFok Try.func57 rfl rfl fun w0 => ?_ | refine v_pure (args := []) TTok FFok Try.func57 rfl rfl fun w0 => ?_
  conv => whnf
  refine VSeq.mk fun Kq hKq => ?_
  conv => whnf
  have hp := Hp.nil w0
  (refine hp.kboxA fun q w hp hx => ?_; conv => whnf)
  (refine hKq _ _ _ (.refl _) ?_; clear hKq Kq; conv => whnf)
  (refine VSeq.mk fun Kq hKq => ?_; conv => whnf)
  (refine VSeq.mk fun Kq hKq => ?_; conv => whnf)
  (refine ⟨_, _, Blk.ldV (vs := [_, _]) (hp.get (i := 0) rfl) TTok rfl rfl rfl, ?_⟩; conv => whnf)
  (refine V.CallW.out ?_; (conv => arg 3; dsimp only [EV.val, List.toList_toArray, List.nil_append, List.append_nil, List.cons_append]); (with_reducible refine V.PureF.useW (acheck_f _ _ (by assumption)) fun w hx => ?_); try (have hp := hp.call hx); conv => whnf)
  (refine hKq _ _ _ (.refl _) ?_; clear hKq Kq; conv => whnf)
  (refine And.intro (fun h => absurd (of_decide_eq_true h) (by first | (intro h2; exact absurd rfl h2) | omega | decide)) (fun _ => ?_); conv => whnf)
  (refine hKq _ _ _ (.refl _) ?_; clear hKq Kq; conv => whnf)
  (exact ⟨rfl, hp.ext⟩)
def beL (n v : Nat) : List UInt8 := (List.range n).map fun i => UInt8.ofNat (v / 2 ^ (8 * (n - 1 - i)))
def beB (n v : Nat) : ByteArray := ⟨(beL n v).toArray⟩
theorem beL_len (n v : Nat) : (beL n v).length = n := by unfold beL; rw [List.length_map, List.length_range]
theorem beB_size (n v : Nat) : (beB n v).size = n := by unfold beB; rw [bA_size, beL_len]
theorem beL_get (n v i : Nat) (h : i < n) : (beL n v).getD i 0 = UInt8.ofNat (v / 2 ^ (8 * (n - 1 - i))) := by
 unfold beL
 rw [List.getD_eq_getElem?_getD, List.getElem?_map, List.getElem?_range h]
 rfl
theorem set_bytes (l : List UInt8) (n i : Nat) (h : i < n) (hl : l.length = n) : (bytesV (l.take i ++ List.replicate (n - i) 0)).set i (.int .u8 (((l.getD i 0).toNat : Nat) : Int)) = bytesV (l.take (i + 1) ++ List.replicate (n - (i + 1)) 0) := by
 have e1 : n - i = (n - (i + 1)) + 1 := by omega
 have e2 : l.take (i + 1) = l.take i ++ [l.getD i 0] := by
  rw [List.take_add_one, List.getD_eq_getElem?_getD, List.getElem?_eq_getElem (by omega)]; rfl
 rw [e1, List.replicate_succ, e2]
 unfold bytesV
 rw [List.map_append, List.map_append, List.map_append, List.map_cons, List.set_append_right _ _ (by rw [List.length_map, List.length_take]; omega), List.length_map, List.length_take, Nat.min_eq_left (by omega), Nat.sub_self, List.set_cons_zero, List.append_assoc]
 rfl
theorem shr_byte (v m : Nat) : ((v : Nat) : Int) / 2 ^ m % 256 = (((UInt8.ofNat (v / 2 ^ m)).toNat : Nat) : Int) := by
 rw [UInt8.toNat_ofNat']
 have : ((v : Nat) : Int) / 2 ^ m = ((v / 2 ^ m : Nat) : Int) := by
  rw [Int.natCast_ediv, Int.natCast_pow]; rfl
 rw [this]
 omega
theorem shr_zero {v m : Nat} (h : v < 2 ^ m) : ((v : Nat) : Int) / 2 ^ m = 0 := by
 have : ((v : Nat) : Int) / 2 ^ m = ((v / 2 ^ m : Nat) : Int) := by
  rw [Int.natCast_ediv, Int.natCast_pow]; rfl
 rw [this, Nat.div_eq_of_lt h]; rfl
theorem Put_ok (n v : Nat) (h1 : 1 ≤ n) (h7 : n ≤ 7) (hv : v < 2 ^ (8 * n)) : PureF Try.prog 73 #[.int .i64 n, .int .i64 v] (.tuple #[.string (beB n v), .int .i64 0]) := by
 have hv56 : v < 72057594037927936 := Nat.lt_of_lt_of_le hv (by
  have : (2 : Nat) ^ (8 * n) ≤ 2 ^ 56 := Nat.pow_le_pow_right (by decide) (by omega)
  exact this)
 have hz := shr_zero hv
 first | refine v_pure TTok FFok Try.func73 rfl rfl fun w0 => ?_ | refine v_pure (args := []) TTok FFok Try.func73 rfl rfl fun w0 => ?_
 conv => whnf
 refine VSeq.mk fun Kq hKq => ?_
 conv => whnf
 refine hKq _ _ _ (.refl _) ?_
 clear hKq Kq
 conv => whnf
 refine VSeq.mk fun Kq hKq => ?_
 conv => whnf
 refine VSeq.mk fun Kq hKq => ?_
 conv => whnf
 refine VSeq.mk fun Kq hKq => ?_
 conv => whnf
 refine hKq _ _ _ (.refl _) ?_
 clear hKq Kq
 conv => whnf
 refine VSeq.mk fun Kq hKq => ?_
 conv => whnf
 have hp := Hp.nil w0
 (refine And.intro (fun h => absurd (of_decide_eq_true h) (by first | (intro h2; exact absurd rfl h2) | omega | decide)) (fun _ => ?_); conv => whnf)
 (refine hKq _ _ _ (.refl _) ?_; clear hKq Kq; conv => whnf)
 (refine And.intro (fun h => absurd (of_decide_eq_true h) (by first | (intro h2; exact absurd rfl h2) | omega | decide)) (fun _ => ?_); conv => whnf)
 (refine hKq _ _ _ (.refl _) ?_; clear hKq Kq; conv => whnf)
 (refine And.intro (fun h => absurd (of_decide_eq_true h) (by first | (intro h2; exact absurd rfl h2) | omega | decide)) (fun _ => ?_); conv => whnf)
 (refine VSeq.mk fun Kq hKq => ?_; conv => whnf)
 (refine Or.inl (And.intro (by first | omega | decide) ?_); conv => whnf)
 refine ⟨8 * n, ⟨by first | rfl | omega, by omega⟩, ?_⟩
 conv => whnf
 refine hKq _ _ _ (.refl _) ?_
 clear hKq Kq
 conv => whnf
 rw [hz]
 (refine And.intro (fun h => absurd (of_decide_eq_true h) (by first | (intro h2; exact absurd rfl h2) | omega | decide)) (fun _ => ?_); conv => whnf)
 (refine hKq _ _ _ (.refl _) ?_; clear hKq Kq; conv => whnf)
 (refine VSeq.mk fun Kq hKq => ?_; conv => whnf)
 refine hp.kmkS sl67 z5 n (by omega) (by unfold maxLen; omega) fun b w hp hx => ?_
 rw [bytesV_rep] at hp
 conv => whnf
 refine hKq _ _ _ (.refl _) ?_
 clear hKq Kq
 conv => whnf
 refine VSeq.mk fun Kq hKq => ?_
 conv => whnf
 refine VSeq.mk fun Kq hKq => ?_
 conv => whnf
 refine hKq _ _ _ (.refl _) ?_
 clear hKq Kq
 conv => whnf
 have hp : HpM [] w0 w [blk b (bytesV ((beL n v).take 0 ++ List.replicate (n - 0) 0)) 5] := hp
 refine ⟨fun mm e w' => ∃ (i : Nat), mm + i = n ∧ e = [(0, .v (.int .i64 n)), (1, .v (.int .i64 v)), (6, .v (.slice (some ⟨b, 0, none⟩) n n)), (28, .v (.int .i64 n)), (29, .v (.int .i64 i))] ∧ HpM [] w0 w' [blk b (bytesV ((beL n v).take i ++ List.replicate (n - i) 0)) 5],
  ⟨n, _, ⟨0, by omega, rfl, hp⟩, sub_cons rfl (sub_cons rfl (sub_cons rfl (sub_cons rfl (sub_cons rfl sub_nil))))⟩, ?_⟩
 clear hp hx
 repeat clear hp
 rintro mm _ w ⟨i, hmm, rfl, hp⟩
 conv => whnf
 refine VSeq.mk fun Kq hKq => ?_
 conv => whnf
 refine hKq _ _ _ (.refl _) ?_
 clear hKq Kq
 conv => whnf
 refine VSeq.mk fun Kq hKq => ?_
 conv => whnf
 refine ⟨fun hlt => ?_, fun hlt => ?_⟩
 ·have hlt := of_decide_eq_true hlt
  conv => whnf
  refine hKq _ _ _ (.refl _) ?_
  clear hKq Kq
  conv => whnf
  refine VSeq.mk fun Kq hKq => ?_
  conv => whnf
  refine VSeq.mk fun Kq hKq => ?_
  conv => whnf
  refine hKq _ _ _ (.refl _) ?_
  clear hKq Kq
  conv => whnf
  refine Or.inl (And.intro (by omega) ?_)
  conv => whnf
  refine Or.inl (And.intro (by omega) ?_)
  conv => whnf
  refine Or.inl (And.intro (by omega) ?_)
  conv => whnf
  have hi : i < n := by omega
  have e8 : (8 : Int) * (((n : Nat) : Int) - 1 - ((i : Nat) : Int)) = ((8 * (n - 1 - i) : Nat) : Int) := by omega
  refine ⟨8 * (n - 1 - i), ⟨by first | rfl | omega, by omega⟩, ?_⟩
  conv => whnf
  rw [shr_byte, ← beL_get n v i hi]
  refine ⟨i, ⟨by first | rfl | omega, by omega⟩, ?_⟩
  conv => whnf
  refine hp.kst1 (off := i) TTok (by rfl) 0 (by rfl) (by rfl) (by rfl) (by rw [bytesV_len, List.length_append, List.length_take, beL_len, List.length_replicate]; omega) fun w hp => ?_
  try simp only [List.set_cons_zero, List.set_cons_succ, EV.val] at hp
  conv => whnf
  refine hKq _ _ _ (.refl _) ?_
  clear hKq Kq
  conv => whnf
  refine Or.inl (And.intro (by omega) ?_)
  conv => whnf
  rw [set_bytes (beL n v) n i hi (beL_len n v)] at hp
  exact ⟨mm - 1, _, by omega, ⟨i + 1, by omega, rfl, hp⟩, sub_cons rfl (sub_cons rfl (sub_cons rfl (sub_cons rfl (sub_cons rfl sub_nil))))⟩
 ·have hlt := of_decide_eq_false hlt
  conv => whnf
  clear hKq Kq
  refine hKq _ _ _ (.refl _) ?_
  clear hKq Kq
  conv => whnf
  refine VSeq.mk fun Kq hKq => ?_
  conv => whnf
  obtain rfl : i = n := by omega
  rw [Nat.sub_self, List.replicate_zero, List.append_nil, List.take_of_length_le (by rw [beL_len]; exact Nat.le_refl _)] at hp
  refine ⟨_, _, Blk.str (l := beL i v) (hp.get (i := 0) rfl) TTok rfl rfl rfl rfl (beL_len i v), ?_⟩
  conv => whnf
  refine hKq _ _ _ (.refl _) ?_
  clear hKq Kq
  conv => whnf
  exact ⟨rfl, hp.ext⟩
theorem unit4_p : PureF Try.prog 84 #[.int .i64 4] (.bool true) := by
 have h64 : PureF Try.prog 95 #[.int .u64 4] (.int .i64 1) := by
  first | refine v_pure TTok FFok Try.func95 rfl rfl fun w0 => ?_ | refine v_pure (args := []) TTok FFok Try.func95 rfl rfl fun w0 => ?_
  conv => whnf
  refine VSeq.mk fun Kq hKq => ?_
  conv => whnf
  refine hKq _ _ _ (.refl _) ?_
  clear hKq Kq
  conv => whnf
  refine VSeq.mk fun Kq hKq => ?_
  conv => whnf
  have hp := Hp.nil w0
  (refine ⟨1, ⟨rfl, by decide⟩, ?_⟩; conv => whnf)
  (refine ⟨_, _, _, ⟨rfl, rfl, by decide, by decide⟩, rfl, ?_⟩; conv => whnf)
  (refine ⟨_, _, _, ⟨rfl, rfl, by decide, by decide⟩, rfl, ?_⟩; conv => whnf)
  (refine hKq _ _ _ (.refl _) ?_; clear hKq Kq; conv => whnf)
  (refine VSeq.mk fun Kq hKq => ?_; conv => whnf)
  (refine ⟨2, ⟨rfl, by decide⟩, ?_⟩; conv => whnf)
  (refine ⟨_, _, _, ⟨rfl, rfl, by decide, by decide⟩, rfl, ?_⟩; conv => whnf)
  (refine ⟨_, _, _, ⟨rfl, rfl, by decide, by decide⟩, rfl, ?_⟩; conv => whnf)
  (refine hKq _ _ _ (.refl _) ?_; clear hKq Kq; conv => whnf)
  (refine VSeq.mk fun Kq hKq => ?_; conv => whnf)
  (refine ⟨_, ⟨(Int.toNat_of_nonneg (by decide)).symm, by decide⟩, ?_⟩; conv => whnf)
  (refine ⟨_, _, _, ⟨rfl, rfl, by decide, by decide⟩, rfl, ?_⟩; conv => whnf)
  (refine hKq _ _ _ (.refl _) ?_; clear hKq Kq; conv => whnf)
  (refine VSeq.mk fun Kq hKq => ?_; conv => whnf)
  (refine ⟨_, ⟨(Int.toNat_of_nonneg (by decide)).symm, by decide⟩, ?_⟩; conv => whnf)
  (refine hKq _ _ _ (.refl _) ?_; clear hKq Kq; conv => whnf)
  (refine VSeq.mk fun Kq hKq => ?_; conv => whnf)
  (refine ⟨_, ⟨(Int.toNat_of_nonneg (by decide)).symm, by decide⟩, ?_⟩; conv => whnf)
  (refine hKq _ _ _ (.refl _) ?_; clear hKq Kq; conv => whnf)
  (refine VSeq.mk fun Kq hKq => ?_; conv => whnf)
  (refine ⟨_, ⟨(Int.toNat_of_nonneg (by decide)).symm, by decide⟩, ?_⟩; conv => whnf)
  (refine hKq _ _ _ (.refl _) ?_; clear hKq Kq; conv => whnf)
  (refine VSeq.mk fun Kq hKq => ?_; conv => whnf)
  (refine Or.inl (And.intro (by first | omega | decide) ?_); conv => whnf)
  (refine ⟨_, _, _, ⟨rfl, rfl, by decide, by decide⟩, rfl, ?_⟩; conv => whnf)
  (refine hKq _ _ _ (.refl _) ?_; clear hKq Kq; conv => whnf)
  (exact ⟨rfl, hp.ext⟩)
 have h1 : PureF Try.prog 88 #[.int .u64 4] (.int .i64 1) := by
  first | refine v_pure TTok FFok Try.func88 rfl rfl fun w0 => ?_ | refine v_pure (args := []) TTok FFok Try.func88 rfl rfl fun w0 => ?_
  conv => whnf
  refine VSeq.mk fun Kq hKq => ?_
  conv => whnf
  refine hKq _ _ _ (.refl _) ?_
  clear hKq Kq
  conv => whnf
  refine VSeq.mk fun Kq hKq => ?_
  conv => whnf
  refine hKq _ _ _ (.refl _) ?_
  clear hKq Kq
  conv => whnf
  refine VSeq.mk fun Kq hKq => ?_
  conv => whnf
  have hp := Hp.nil w0
  (refine V.CallW.out ?_; (conv => arg 3; dsimp only [EV.val, List.toList_toArray, List.nil_append, List.append_nil, List.cons_append]); (with_reducible refine V.PureF.useW (h64) fun w hx => ?_); try (have hp := hp.call hx); conv => whnf)
  (refine hKq _ _ _ (.refl _) ?_; clear hKq Kq; conv => whnf)
  (exact ⟨rfl, hp.ext⟩)
 first | refine v_pure TTok FFok Try.func84 rfl rfl fun w0 => ?_ | refine v_pure (args := []) TTok FFok Try.func84 rfl rfl fun w0 => ?_
 conv => whnf
 refine VSeq.mk fun Kq hKq => ?_
 conv => whnf
 refine hKq _ _ _ (.refl _) ?_
 clear hKq Kq
 conv => whnf
 refine VSeq.mk fun Kq hKq => ?_
 conv => whnf
 refine VSeq.mk fun Kq hKq => ?_
 conv => whnf
 refine hKq _ _ _ (.refl _) ?_
 clear hKq Kq
 conv => whnf
 refine VSeq.mk fun Kq hKq => ?_
 conv => whnf
 have hp := Hp.nil w0
 (refine And.intro (fun _ => ?_) (fun h => absurd (by first | rfl | assumption | omega | decide) (of_decide_eq_false h)); conv => whnf)
 (refine hKq _ _ _ (.refl _) ?_; clear hKq Kq; conv => whnf)
 (refine And.intro (fun _ => ?_) (fun h => absurd (by first | rfl | assumption | omega | decide) (of_decide_eq_false h)); conv => whnf)
 (refine And.intro (by first | omega | decide) ?_; conv => whnf)
 (refine V.CallW.out ?_; (conv => arg 3; dsimp only [EV.val, List.toList_toArray, List.nil_append, List.append_nil, List.cons_append]); (with_reducible refine V.PureF.useW (h1) fun w hx => ?_); try (have hp := hp.call hx); conv => whnf)
 (refine hKq _ _ _ (.refl _) ?_; clear hKq Kq; conv => whnf)
 (exact ⟨rfl, hp.ext⟩)
def padN (n : Nat) : Nat := (4 - n % 4) % 4
def padB (s : ByteArray) : ByteArray := ⟨(s.data.toList ++ List.replicate (padN s.size) 0).toArray⟩
theorem padB_size (s : ByteArray) : (padB s).size = (s.size + 3) / 4 * 4 := by
 unfold padB padN
 rw [bA_size, List.length_append, List.length_replicate, toList_len]
 omega
theorem rep_snoc (l : List UInt8) (k : Nat) : bytesV (l ++ List.replicate k 0) ++ [.int .u8 0] = bytesV (l ++ List.replicate (k + 1) 0) := by
 rw [List.replicate_succ', ← List.append_assoc]
 unfold bytesV
 rw [List.map_append (l₁ := l ++ List.replicate k 0)]
 rfl
theorem Pad_ok (s : ByteArray) (hs : s.size ≤ 100000) : PureF Try.prog 79 #[.string s, .int .i64 4] (.tuple #[.string (padB s), .int .i64 0]) := by
 have hsl := toList_len s
 first | refine v_pure TTok FFok Try.func79 rfl rfl fun w0 => ?_ | refine v_pure (args := []) TTok FFok Try.func79 rfl rfl fun w0 => ?_
 conv => whnf
 refine VSeq.mk fun Kq hKq => ?_
 conv => whnf
 refine hKq _ _ _ (.refl _) ?_
 clear hKq Kq
 conv => whnf
 refine VSeq.mk fun Kq hKq => ?_
 conv => whnf
 refine VSeq.mk fun Kq hKq => ?_
 conv => whnf
 have hp := Hp.nil w0
 (refine V.CallW.out ?_; (conv => arg 3; dsimp only [EV.val, List.toList_toArray, List.nil_append, List.append_nil, List.cons_append]); (with_reducible refine V.PureF.useW (unit4_p) fun w hx => ?_); try (have hp := hp.call hx); conv => whnf)
 (refine hKq _ _ _ (.refl _) ?_; clear hKq Kq; conv => whnf)
 (refine And.intro (fun h => absurd h (by decide)) (fun _ => ?_); conv => whnf)
 (refine hKq _ _ _ (.refl _) ?_; clear hKq Kq; conv => whnf)
 (refine VSeq.mk fun Kq hKq => ?_; conv => whnf)
 refine hp.kbytesO TTok rfl rfl rfl (by unfold maxLen; omega) fun v w hp hx => ?_
 conv => whnf
 refine hKq _ _ _ (.refl _) ?_
 clear hKq Kq
 conv => whnf
 refine VSeq.mk fun Kq hKq => ?_
 conv => whnf
 have hp : HpM [] w0 w [ob 5 v (bytesV (s.data.toList ++ List.replicate 0 0))] := by rw [List.replicate_zero, List.append_nil]; exact hp
 refine ⟨fun mm e w' => ∃ (k : Nat) (v : Value), mm + k = padN s.size ∧ e = [(1, .v (.int .i64 4)), (6, .v v)] ∧ HpM [] w0 w' [ob 5 v (bytesV (s.data.toList ++ List.replicate k 0))],
  ⟨padN s.size, _, ⟨0, v, by omega, rfl, hp⟩, sub_cons rfl (sub_cons rfl sub_nil)⟩, ?_⟩
 clear hp hx
 repeat clear hp
 rintro mm _ w ⟨k, v, hmm, rfl, hp⟩
 have hl : (bytesV (s.data.toList ++ List.replicate k 0)).length = s.size + k := by rw [bytesV_len, List.length_append, List.length_replicate, hsl]
 obtain ⟨p, c, rfl⟩ := OB.shape (hp.get (i := 0) rfl)
 unfold padN at hmm
 conv => whnf
 refine VSeq.mk fun Kq hKq => ?_
 conv => whnf
 refine VSeq.mk fun Kq hKq => ?_
 conv => whnf
 refine And.intro (by omega) ?_
 conv => whnf
 refine hKq _ _ _ (.refl _) ?_
 clear hKq Kq
 conv => whnf
 refine ⟨fun hlt => ?_, fun hlt => ?_⟩
 ·have hlt := of_decide_eq_true hlt
  conv => whnf
  refine hKq _ _ _ (.refl _) ?_
  clear hKq Kq
  conv => whnf
  (refine hp.kmade _ _ (fun b => .slice (some ⟨b, 0, none⟩) 1 1) (mks67_1_0 _ _) fun q w hp hx => ?_; conv => whnf)
  refine hp.kappO sl67 1 rfl (Blk.src TTok (hp.get (i := 0) rfl) rfl rfl (oneC_of rfl)) (by omega) (by unfold maxLen; omega) fun v' w hp => ?_
  simp only [List.set_cons_zero, List.set_cons_succ] at hp
  rw [rep_snoc] at hp
  conv => whnf
  exact ⟨mm - 1, _, by omega, ⟨k + 1, v', by unfold padN; omega, rfl, hp.tail⟩, sub_cons rfl (sub_cons rfl sub_nil)⟩
 ·have hlt := of_decide_eq_false hlt
  conv => whnf
  clear hKq Kq
  refine hKq _ _ _ (.refl _) ?_
  clear hKq Kq
  conv => whnf
  refine VSeq.mk fun Kq hKq => ?_
  conv => whnf
  have hk : k = padN s.size := by unfold padN; omega
  subst hk
  refine ⟨_, _, OB.str (hp.get (i := 0) rfl) TTok rfl rfl rfl, ?_⟩
  conv => whnf
  refine hKq _ _ _ (.refl _) ?_
  clear hKq Kq
  conv => whnf
  exact ⟨rfl, hp.ext⟩
theorem kindN_lt {a b c d e : Nat} (ha : a < 16384) (hb : b < 16384) (hc : c < 16384) (hd : d < 16384) (he : e < 16384) : (a ||| b ||| c ||| d ||| e) < 16384 :=
 Nat.or_lt_two_pow (n := 14) (Nat.or_lt_two_pow (Nat.or_lt_two_pow (Nat.or_lt_two_pow ha hb) hc) hd) he
def kindN (c m : Nat) : Nat := (m &&& 3968) * 4 ||| (c &&& 2) * 128 ||| (m &&& 112) * 2 ||| (c &&& 1) * 16 ||| (m &&& 15)
theorem kindN_bd (c m : Nat) : kindN c m < 16384 := by
 have h1 : m &&& 3968 ≤ 3968 := Nat.and_le_right
 have h2 : c &&& 2 ≤ 2 := Nat.and_le_right
 have h3 : m &&& 112 ≤ 112 := Nat.and_le_right
 have h4 : c &&& 1 ≤ 1 := Nat.and_le_right
 have h5 : m &&& 15 ≤ 15 := Nat.and_le_right
 exact kindN_lt (by omega) (by omega) (by omega) (by omega) (by omega)
theorem kind_p (c m : Nat) (hc : c < 4) (hm : m < 4096) : PureF Try.prog 78 #[.int .i64 c, .int .i64 m] (.int .i64 (kindN c m)) := by
 have h1 : m &&& 3968 ≤ 3968 := Nat.and_le_right
 have h2 : c &&& 2 ≤ 2 := Nat.and_le_right
 have h3 : m &&& 112 ≤ 112 := Nat.and_le_right
 have h4 : c &&& 1 ≤ 1 := Nat.and_le_right
 have h5 : m &&& 15 ≤ 15 := Nat.and_le_right
 have o1 : ((m &&& 3968) * 4 ||| (c &&& 2) * 128) < 16384 := Nat.or_lt_two_pow (n := 14) (by omega) (by omega)
 have o2 : ((m &&& 3968) * 4 ||| (c &&& 2) * 128 ||| (m &&& 112) * 2) < 16384 := Nat.or_lt_two_pow (n := 14) o1 (by omega)
 have o3 : ((m &&& 3968) * 4 ||| (c &&& 2) * 128 ||| (m &&& 112) * 2 ||| (c &&& 1) * 16) < 16384 := Nat.or_lt_two_pow (n := 14) o2 (by omega)
 unfold kindN
 generalize hA : m &&& 3968 = A at *
 generalize hB : c &&& 2 = B at *
 generalize hC : m &&& 112 = C at *
 generalize hD : c &&& 1 = D at *
 generalize hE : m &&& 15 = E at *
 first | refine v_pure TTok FFok Try.func78 rfl rfl fun w0 => ?_ | refine v_pure (args := []) TTok FFok Try.func78 rfl rfl fun w0 => ?_
 conv => whnf
 refine VSeq.mk fun Kq hKq => ?_
 conv => whnf
 refine hKq _ _ _ (.refl _) ?_
 clear hKq Kq
 conv => whnf
 refine VSeq.mk fun Kq hKq => ?_
 conv => whnf
 have hp := Hp.nil w0
 refine ⟨m, 3968, A, ⟨by first | rfl | omega, by first | rfl | omega, by omega, by omega⟩, by (dsimp only; exact hA), ?_⟩
 conv => whnf
 refine ⟨2, ⟨by first | rfl | omega, by omega⟩, ?_⟩
 conv => whnf
 refine Or.inl (And.intro (by omega) ?_)
 conv => whnf
 refine ⟨c, 2, B, ⟨by first | rfl | omega, by first | rfl | omega, by omega, by omega⟩, by (dsimp only; exact hB), ?_⟩
 conv => whnf
 refine ⟨7, ⟨by first | rfl | omega, by omega⟩, ?_⟩
 conv => whnf
 refine Or.inl (And.intro (by omega) ?_)
 conv => whnf
 refine ⟨A * 4, B * 128, _, ⟨by first | rfl | omega, by first | rfl | omega, by omega, by omega⟩, rfl, ?_⟩
 conv => whnf
 refine ⟨m, 112, C, ⟨by first | rfl | omega, by first | rfl | omega, by omega, by omega⟩, by (dsimp only; exact hC), ?_⟩
 conv => whnf
 refine ⟨1, ⟨by first | rfl | omega, by omega⟩, ?_⟩
 conv => whnf
 refine Or.inl (And.intro (by omega) ?_)
 conv => whnf
 refine ⟨A * 4 ||| B * 128, C * 2, _, ⟨by first | rfl | omega, by first | rfl | omega, by omega, by omega⟩, rfl, ?_⟩
 conv => whnf
 refine ⟨c, 1, D, ⟨by first | rfl | omega, by first | rfl | omega, by omega, by omega⟩, by (dsimp only; exact hD), ?_⟩
 conv => whnf
 refine ⟨4, ⟨by first | rfl | omega, by omega⟩, ?_⟩
 conv => whnf
 refine Or.inl (And.intro (by omega) ?_)
 conv => whnf
 refine ⟨A * 4 ||| B * 128 ||| C * 2, D * 16, _, ⟨by first | rfl | omega, by first | rfl | omega, by omega, by omega⟩, rfl, ?_⟩
 conv => whnf
 refine ⟨m, 15, E, ⟨by first | rfl | omega, by first | rfl | omega, by omega, by omega⟩, by (dsimp only; exact hE), ?_⟩
 conv => whnf
 refine ⟨A * 4 ||| B * 128 ||| C * 2 ||| D * 16, E, _, ⟨by first | rfl | omega, by first | rfl | omega, by omega, by omega⟩, rfl, ?_⟩
 conv => whnf
 refine hKq _ _ _ (.refl _) ?_
 clear hKq Kq
 conv => whnf
 exact ⟨rfl, hp.ext⟩
def xorL (s b : List UInt8) : List UInt8 := List.zipWith (fun x y => x ^^^ y) s b
def xorB (s b : ByteArray) : ByteArray := ⟨(xorL s.data.toList b.data.toList).toArray⟩
theorem xorL_len (s b : List UInt8) (h : s.length ≤ b.length) : (xorL s b).length = s.length := by unfold xorL; rw [List.length_zipWith]; omega
theorem xorB_size (s b : ByteArray) (h : s.size ≤ b.size) : (xorB s b).size = s.size := by
 unfold xorB
 rw [bA_size, xorL_len _ _ (by rw [toList_len, toList_len]; exact h), toList_len]
theorem xorL_get (s b : List UInt8) (h : s.length ≤ b.length) (i : Nat) (hi : i < s.length) : (xorL s b).getD i 0 = s.getD i 0 ^^^ b.getD i 0 := by
 unfold xorL
 rw [List.getD_eq_getElem?_getD, List.getElem?_zipWith, List.getD_eq_getElem?_getD, List.getD_eq_getElem?_getD, List.getElem?_eq_getElem hi, List.getElem?_eq_getElem (by omega)]
 rfl
theorem xj_set (s b : List UInt8) (zs : List Value) (h : s.length ≤ b.length) (i : Nat) (hi : i < s.length) : (bytesV ((xorL s b).take i ++ s.drop i) ++ zs).set i (.int .u8 (((s.getD i 0 ^^^ b.getD i 0).toNat : Nat) : Int)) = bytesV ((xorL s b).take (i + 1) ++ s.drop (i + 1)) ++ zs := by
 have hl := xorL_len s b h
 have e2 : (xorL s b).take (i + 1) = (xorL s b).take i ++ [s.getD i 0 ^^^ b.getD i 0] := by
  rw [← xorL_get s b h i hi, List.take_add_one, List.getD_eq_getElem?_getD, List.getElem?_eq_getElem (by omega)]; rfl
 rw [bytesV_set _ _ _ _ (by rw [List.length_append, List.length_take, List.length_drop]; omega), e2, List.drop_eq_getElem_cons hi, List.set_append_right _ _ (by rw [List.length_take]; omega), List.length_take, Nat.min_eq_left (by omega), Nat.sub_self, List.set_cons_zero, List.append_assoc]
 rfl
theorem xj_get (s b : List UInt8) (zs : List Value) (h : s.length ≤ b.length) (i : Nat) (hi : i < s.length) : (bytesV ((xorL s b).take i ++ s.drop i) ++ zs)[i]? = some (.int .u8 (((s.getD i 0).toNat : Nat) : Int)) := by
 have hl := xorL_len s b h
 rw [List.getElem?_append_left (by rw [bytesV_len, List.length_append, List.length_take, List.length_drop]; omega)]
 have : ((xorL s b).take i ++ s.drop i)[i]? = some (s.getD i 0) := by
  rw [List.getElem?_append_right (by rw [List.length_take]; omega), List.length_take, Nat.min_eq_left (by omega), Nat.sub_self, List.getElem?_drop, Nat.add_zero, List.getD_eq_getElem?_getD, List.getElem?_eq_getElem hi]; rfl
 exact bytesV_get this
theorem changed_p (s b : ByteArray) (h : s.size ≤ b.size) (hs : s.size ≤ 100000) : PureF Try.prog 75 #[.string s, .string b] (.string (xorB s b)) := by
 have hsl := toList_len s
 have hbl := toList_len b
 have hh : s.data.toList.length ≤ b.data.toList.length := by omega
 have hxl := xorL_len _ _ hh
 have hB : ∀ i, byt b i = (b.data.toList.getD i 0).toNat := fun i => rfl
 unfold xorB
 obtain ⟨S, hS⟩ : ∃ S, s.data.toList = S := ⟨_, rfl⟩
 obtain ⟨B, hBd⟩ : ∃ B, b.data.toList = B := ⟨_, rfl⟩
 rw [hBd] at hh hbl hB
 first | refine v_pure TTok FFok Try.func75 rfl rfl fun w0 => ?_ | refine v_pure (args := []) TTok FFok Try.func75 rfl rfl fun w0 => ?_
 conv => whnf
 refine VSeq.mk fun Kq hKq => ?_
 conv => whnf
 refine hKq _ _ _ (.refl _) ?_
 clear hKq Kq
 conv => whnf
 refine VSeq.mk fun Kq hKq => ?_
 conv => whnf
 have hp := Hp.nil w0
 refine hp.kbytes TTok rfl rfl rfl fun q zs c w hp hx => ?_
 have hp : HpM [] w0 w [blk q (bytesV s.data.toList ++ zs) 5] := hp
 rw [hS] at hsl hh hxl hp ⊢
 rw [hBd] at hxl ⊢
 conv => whnf
 refine hKq _ _ _ (.refl _) ?_
 clear hKq Kq
 conv => whnf
 refine VSeq.mk fun Kq hKq => ?_
 conv => whnf
 refine VSeq.mk fun Kq hKq => ?_
 conv => whnf
 refine hKq _ _ _ (.refl _) ?_
 clear hKq Kq
 conv => whnf
 refine ⟨fun mm e w' => ∃ (i : Nat), mm + i = s.size ∧ e = [(1, .v (.string b)), (5, .v (.slice (some ⟨q, 0, none⟩) s.size c)), (10, .v (.int .i64 s.size)), (11, .v (.int .i64 i))] ∧ HpM [] w0 w' [blk q (bytesV ((xorL S B).take i ++ S.drop i) ++ zs) 5],
  ⟨s.size, _, ⟨0, by omega, rfl, hp⟩, sub_cons rfl (sub_cons rfl (sub_cons rfl (sub_cons rfl sub_nil)))⟩, ?_⟩
 clear hp hx
 repeat clear hp
 rintro mm _ w ⟨i, hmm, rfl, hp⟩
 conv => whnf
 refine VSeq.mk fun Kq hKq => ?_
 conv => whnf
 refine hKq _ _ _ (.refl _) ?_
 clear hKq Kq
 conv => whnf
 refine VSeq.mk fun Kq hKq => ?_
 conv => whnf
 refine ⟨fun hlt => ?_, fun hlt => ?_⟩
 ·have hlt := of_decide_eq_true hlt
  conv => whnf
  refine hKq _ _ _ (.refl _) ?_
  clear hKq Kq
  conv => whnf
  refine VSeq.mk fun Kq hKq => ?_
  conv => whnf
  refine VSeq.mk fun Kq hKq => ?_
  conv => whnf
  refine hKq _ _ _ (.refl _) ?_
  clear hKq Kq
  conv => whnf
  have hi : i < S.length := by omega
  have u1 := (S.getD i 0).toNat_lt
  have u2 := (B.getD i 0).toNat_lt
  refine v_mix TTok FFok mixed 9 [(0, false), (1, false), (2, false), (3, false), (4, false), (5, false), (6, false), (7, false), (8, false)] (by kernel_rfl) ?_
  conv => whnf
  refine ⟨i, ⟨by first | rfl | omega, by omega⟩, ?_⟩
  conv => whnf
  refine ⟨_, fun w' hx' => Blk.ld (Blk.ext (hp.get (i := 0) rfl) hx') TTok rfl (xj_get S B zs hh i hi), ?_⟩
  conv => whnf
  refine ⟨i, ⟨by first | rfl | omega, by omega⟩, ?_⟩
  conv => whnf
  rw [hB]
  refine ⟨(S.getD i 0).toNat, (B.getD i 0).toNat, (S.getD i 0 ^^^ B.getD i 0).toNat, ⟨by first | rfl | omega, by first | rfl | omega, by omega, by omega⟩, by (dsimp only; exact (UInt8.toNat_xor _ _).symm), ?_⟩
  conv => whnf
  refine ⟨i, ⟨by first | rfl | omega, by omega⟩, ?_⟩
  conv => whnf
  intro w hx
  try (have hp := hp.call hx)
  conv => whnf
  refine hp.kst1 (off := i) TTok (by rfl) 0 (by rfl) (by rfl) (by rfl) (by rw [List.length_append, bytesV_len, List.length_append, List.length_take, List.length_drop]; omega) fun w hp => ?_
  try simp only [List.set_cons_zero, List.set_cons_succ, EV.val] at hp
  conv => whnf
  refine hKq _ _ _ (.refl _) ?_
  clear hKq Kq
  conv => whnf
  refine Or.inl (And.intro (by omega) ?_)
  conv => whnf
  rw [xj_set S B zs hh i hi] at hp
  exact ⟨mm - 1, _, by omega, ⟨i + 1, by omega, rfl, hp⟩, sub_cons rfl (sub_cons rfl (sub_cons rfl (sub_cons rfl sub_nil)))⟩
 ·have hlt := of_decide_eq_false hlt
  conv => whnf
  clear hKq Kq
  refine hKq _ _ _ (.refl _) ?_
  clear hKq Kq
  conv => whnf
  refine VSeq.mk fun Kq hKq => ?_
  conv => whnf
  obtain rfl : i = s.size := by omega
  rw [← hsl, List.drop_of_length_le (Nat.le_refl _), List.append_nil, ← hxl, List.take_of_length_le (Nat.le_refl _)] at hp
  refine ⟨_, _, Blk.str' (l := xorL S B) (hp.get (i := 0) rfl) TTok rfl rfl rfl rfl (by omega), ?_⟩
  conv => whnf
  refine hKq _ _ _ (.refl _) ?_
  clear hKq Kq
  conv => whnf
  rw [hS, hBd]
  exact ⟨rfl, hp.ext⟩
def magicB : ByteArray := beB 4 554869826
def maskB (id : ByteArray) : ByteArray := magicB ++ id
theorem maskB_size (id : ByteArray) (h : id.size = 12) : (maskB id).size = 16 := by
 unfold maskB magicB
 rw [ByteArray.size_append, beB_size, h]
theorem mask_p (id : ByteArray) (h : id.size ≤ 100) : PureF Try.prog 76 #[.string id] (.string (maskB id)) := by
 have hz := beB_size 4 554869826
 unfold maskB magicB
 first | refine v_pure TTok FFok Try.func76 rfl rfl fun w0 => ?_ | refine v_pure (args := []) TTok FFok Try.func76 rfl rfl fun w0 => ?_
 conv => whnf
 refine VSeq.mk fun Kq hKq => ?_
 conv => whnf
 refine hKq _ _ _ (.refl _) ?_
 clear hKq Kq
 conv => whnf
 refine VSeq.mk fun Kq hKq => ?_
 conv => whnf
 have hp := Hp.nil w0
 (refine V.CallW.out ?_; (conv => arg 3; dsimp only [EV.val, List.toList_toArray, List.nil_append, List.append_nil, List.cons_append]); refine V.PureF.useW (Put_ok 4 554869826 (by decide) (by decide) (by decide)) fun w hx => ?_; try (have hp := hp.call hx); conv => whnf)
 (refine hKq _ _ _ (.refl _) ?_; clear hKq Kq; conv => whnf)
 (refine VSeq.mk fun Kq hKq => ?_; conv => whnf)
 (refine And.intro (by first | omega | decide) ?_; conv => whnf)
 (refine hKq _ _ _ (.refl _) ?_; clear hKq Kq; conv => whnf)
 (exact ⟨rfl, hp.ext⟩)
def famN (h : ByteArray) : Nat := if h.size = 4 then 1 else 2
def mixB (id host : ByteArray) (port : Nat) : ByteArray := ⟨#[0, UInt8.ofNat (famN host)]⟩ ++ xorB (beB 2 port) (maskB id) ++ xorB host (maskB id)
theorem mixB_size (id host : ByteArray) (port : Nat) (hi : id.size = 12) (hh : hostB host = true) : (mixB id host port).size = 4 + host.size := by
 have := maskB_size id hi
 have h2 := hostB_t hh
 unfold mixB
 rw [ByteArray.size_append, ByteArray.size_append, xorB_size _ _ (by rw [beB_size]; omega), xorB_size _ _ (by omega), beB_size]
 rfl
theorem family_p (s : ByteArray) (h : hostB s = true) : PureF Try.prog 74 #[.string s] (.tuple #[.int .i64 (famN s), .int .i64 0]) := by
 rcases hostB_t h with h | h
 ·have : famN s = 1 := by unfold famN; rw [if_pos h]
  rw [this]; exact family_4 s h
 ·have : famN s = 2 := by unfold famN; rw [if_neg (by omega)]
  rw [this]; exact family_6 s h
theorem Mixed_ok (id host : ByteArray) (port : Nat) (hi : id.size = 12) (hh : hostB host = true) (hpt : port ≤ 65535) : PureF Try.prog 64 #[.string id, .agg #[.string host, .int .i64 port]] (.tuple #[.string (mixB id host port), .int .i64 0]) := by
 have hA := addrB_of hh (Int.natCast_nonneg port) (show ((port : Nat) : Int) ≤ 65535 by omega)
 have hz := maskB_size id hi
 have h2 := hostB_t hh
 have hf := family_p host hh
 have hpo := Put_ok 2 port (by decide) (by decide) (by omega)
 have hm := mask_p id (by omega)
 have hc1 := changed_p (beB 2 port) (maskB id) (by rw [beB_size]; omega) (by rw [beB_size]; omega)
 have hc2 := changed_p host (maskB id) (by omega) (by omega)
 have z1 := xorB_size (beB 2 port) (maskB id) (by rw [beB_size]; omega)
 have z2 := xorB_size host (maskB id) (by omega)
 rw [beB_size] at z1
 have hfn : famN host < 256 := by unfold famN; split <;> omega
 have hfe : ((famN host : Nat) : Int) % 256 = (((UInt8.ofNat (famN host)).toNat : Nat) : Int) := by rw [UInt8.toNat_ofNat_of_lt' (by simpa using hfn)]; omega
 unfold mixB
 first | refine v_pure TTok FFok Try.func64 rfl rfl fun w0 => ?_ | refine v_pure (args := []) TTok FFok Try.func64 rfl rfl fun w0 => ?_
 conv => whnf
 refine VSeq.mk fun Kq hKq => ?_
 conv => whnf
 have hp := Hp.nil w0
 (refine hp.kboxA fun q w hp hx => ?_; conv => whnf)
 (refine hKq _ _ _ (.refl _) ?_; clear hKq Kq; conv => whnf)
 (refine VSeq.mk fun Kq hKq => ?_; conv => whnf)
 (refine ⟨_, _, Blk.ld (hp.get (i := 0) rfl) TTok rfl rfl, ?_⟩; conv => whnf)
 (refine V.CallW.out ?_; (conv => arg 3; dsimp only [EV.val, List.toList_toArray, List.nil_append, List.append_nil, List.cons_append]); (with_reducible refine V.PureF.useW (hf) fun w hx => ?_); try (have hp := hp.call hx); conv => whnf)
 (refine hKq _ _ _ (.refl _) ?_; clear hKq Kq; conv => whnf)
 (refine VSeq.mk fun Kq hKq => ?_; conv => whnf)
 (refine VSeq.mk fun Kq hKq => ?_; conv => whnf)
 (refine VSeq.mk fun Kq hKq => ?_; conv => whnf)
 (refine hKq _ _ _ (.refl _) ?_; clear hKq Kq; conv => whnf)
 (refine VSeq.mk fun Kq hKq => ?_; conv => whnf)
 (refine And.intro (fun h => absurd (of_decide_eq_true h) (by first | (intro h2; exact absurd rfl h2) | omega | decide)) (fun _ => ?_); conv => whnf)
 (refine ⟨_, _, Blk.ldV (vs := [_, _]) (hp.get (i := 0) rfl) TTok rfl rfl rfl, ?_⟩; conv => whnf)
 (refine V.CallW.out ?_; (conv => arg 3; dsimp only [EV.val, List.toList_toArray, List.nil_append, List.append_nil, List.cons_append]); (with_reducible refine V.PureF.useW (acheck_t _ _ (by assumption)) fun w hx => ?_); try (have hp := hp.call hx); conv => whnf)
 (refine hKq _ _ _ (.refl _) ?_; clear hKq Kq; conv => whnf)
 (refine And.intro (fun h => absurd (of_decide_eq_true h) (by first | (intro h2; exact absurd rfl h2) | omega | decide)) (fun _ => ?_); conv => whnf)
 (refine hKq _ _ _ (.refl _) ?_; clear hKq Kq; conv => whnf)
 (refine And.intro (fun h => absurd (of_decide_eq_true h) (by first | (intro h2; exact absurd rfl h2) | omega | decide)) (fun _ => ?_); conv => whnf)
 (refine hKq _ _ _ (.refl _) ?_; clear hKq Kq; conv => whnf)
 (refine VSeq.mk fun Kq hKq => ?_; conv => whnf)
 (refine ⟨_, _, Blk.ld (hp.get (i := 0) rfl) TTok rfl rfl, ?_⟩; conv => whnf)
 (refine V.CallW.out ?_; (conv => arg 3; dsimp only [EV.val, List.toList_toArray, List.nil_append, List.append_nil, List.cons_append]); refine V.PureF.useW (hpo) fun w hx => ?_; try (have hp := hp.call hx); conv => whnf)
 (refine hKq _ _ _ (.refl _) ?_; clear hKq Kq; conv => whnf)
 (refine VSeq.mk fun Kq hKq => ?_; conv => whnf)
 refine v_mixA TTok FFok mixed [(0, false), (1, false), (4, false), (5, false), (6, false), (7, false), (9, false), (10, false), (11, false), (12, false), (13, false), (2, true), (3, false), (8, false), (14, false), (15, false), (16, false)] (by kernel_rfl) ?_
 conv => whnf
 first | refine PureF.quiet (hm) ?_ | refine PureF.quietE (hm) ?_
 conv => whnf
 first | refine PureF.quiet (hc1) ?_ | refine PureF.quietE (hc1) ?_
 conv => whnf
 refine ⟨_, fun w' hx' => Blk.ld (Blk.ext (hp.get (i := 0) rfl) hx') TTok rfl (rfl), ?_⟩
 conv => whnf
 first | refine PureF.quiet (hm) ?_ | refine PureF.quietE (hm) ?_
 conv => whnf
 first | refine PureF.quiet (hc2) ?_ | refine PureF.quietE (hc2) ?_
 conv => whnf
 intro w hx
 try (have hp := hp.call hx)
 conv => whnf
 rw [hfe]
 refine hp.kmade (bytesV [0, UInt8.ofNat (famN host)]) 5 (fun b => .slice (some ⟨b, 0, none⟩) 2 2) (by kernel_rfl) fun qb w hp hx => ?_
 conv => whnf
 refine And.intro hx ?_
 conv => whnf
 refine ⟨_, fun w1 hx' => Blk.str (l := [0, UInt8.ofNat (famN host)]) (Blk.ext (hp.get (i := 0) rfl) hx') TTok rfl rfl rfl rfl rfl, ?_⟩
 conv => whnf
 refine And.intro (by show 2 + _ ≤ _; omega) ?_
 conv => whnf
 refine And.intro (by rw [ByteArray.size_append]; show 2 + _ + _ ≤ _; omega) ?_
 conv => whnf
 intro w hx
 try (have hp := hp.call hx)
 conv => whnf
 refine hKq _ _ _ (.refl _) ?_
 clear hKq Kq
 conv => whnf
 exact ⟨rfl, hp.ext⟩
def reasonB (n : Nat) (r : ByteArray) : ByteArray := ⟨#[0, 0, UInt8.ofNat (n / 100), UInt8.ofNat (n % 100)]⟩ ++ r
theorem Reason_ok (n : Nat) (r : ByteArray) (h1 : 300 ≤ n) (h2 : n ≤ 699) (hr : r.size ≤ 128) : PureF Try.prog 65 #[.int .i64 n, .string r] (.tuple #[.string (reasonB n r), .int .i64 0]) := by
 have e1 : ((n : Nat) : Int) / 100 % 256 = (((UInt8.ofNat (n / 100)).toNat : Nat) : Int) := by rw [UInt8.toNat_ofNat_of_lt' (show n / 100 < UInt8.size by show n / 100 < 256; omega)]; omega
 have e2 : ((n : Nat) : Int) % 100 % 256 = (((UInt8.ofNat (n % 100)).toNat : Nat) : Int) := by rw [UInt8.toNat_ofNat_of_lt' (show n % 100 < UInt8.size by show n % 100 < 256; omega)]; omega
 unfold reasonB
 first | refine v_pure TTok FFok Try.func65 rfl rfl fun w0 => ?_ | refine v_pure (args := []) TTok FFok Try.func65 rfl rfl fun w0 => ?_
 conv => whnf
 refine VSeq.mk fun Kq hKq => ?_
 conv => whnf
 refine hKq _ _ _ (.refl _) ?_
 clear hKq Kq
 conv => whnf
 refine VSeq.mk fun Kq hKq => ?_
 conv => whnf
 refine VSeq.mk fun Kq hKq => ?_
 conv => whnf
 refine VSeq.mk fun Kq hKq => ?_
 conv => whnf
 refine hKq _ _ _ (.refl _) ?_
 clear hKq Kq
 conv => whnf
 have hp := Hp.nil w0
 (refine And.intro (fun h => absurd (of_decide_eq_true h) (by first | (intro h2; exact absurd rfl h2) | omega | decide)) (fun _ => ?_); conv => whnf)
 (refine hKq _ _ _ (.refl _) ?_; clear hKq Kq; conv => whnf)
 (refine And.intro (fun h => absurd (of_decide_eq_true h) (by first | (intro h2; exact absurd rfl h2) | omega | decide)) (fun _ => ?_); conv => whnf)
 (refine VSeq.mk fun Kq hKq => ?_; conv => whnf)
 (refine hKq _ _ _ (.refl _) ?_; clear hKq Kq; conv => whnf)
 (refine And.intro (fun h => absurd (of_decide_eq_true h) (by first | (intro h2; exact absurd rfl h2) | omega | decide)) (fun _ => ?_); conv => whnf)
 (refine hKq _ _ _ (.refl _) ?_; clear hKq Kq; conv => whnf)
 (refine VSeq.mk fun Kq hKq => ?_; conv => whnf)
 (refine And.intro (by first | omega | decide) ?_; conv => whnf)
 (refine And.intro (by first | omega | decide) ?_; conv => whnf)
 rw [e1, e2]
 refine hp.kmade (bytesV [0, 0, UInt8.ofNat (n / 100), UInt8.ofNat (n % 100)]) 5 (fun b => .slice (some ⟨b, 0, none⟩) 4 4) (by kernel_rfl) fun qb w hp hx => ?_
 conv => whnf
 refine ⟨_, _, Blk.str (l := [0, 0, UInt8.ofNat (n / 100), UInt8.ofNat (n % 100)]) (hp.get (i := 0) rfl) TTok rfl rfl rfl rfl rfl, ?_⟩
 conv => whnf
 refine And.intro (by show 4 + _ ≤ _; omega) ?_
 conv => whnf
 refine hKq _ _ _ (.refl _) ?_
 clear hKq Kq
 conv => whnf
 exact ⟨rfl, hp.ext⟩
theorem aput_p (n v : Nat) (h1 : 1 ≤ n) (h7 : n ≤ 7) (hv : v < 2 ^ (8 * n)) : PureF Try.prog 62 #[.int .i64 n, .int .i64 v] (.string (beB n v)) := by
 have hp0 := Put_ok n v h1 h7 hv
 first | refine v_pure TTok FFok Try.func62 rfl rfl fun w0 => ?_ | refine v_pure (args := []) TTok FFok Try.func62 rfl rfl fun w0 => ?_
 conv => whnf
 refine VSeq.mk fun Kq hKq => ?_
 conv => whnf
 refine hKq _ _ _ (.refl _) ?_
 clear hKq Kq
 conv => whnf
 refine VSeq.mk fun Kq hKq => ?_
 conv => whnf
 have hp := Hp.nil w0
 (refine V.CallW.out ?_; (conv => arg 3; dsimp only [EV.val, List.toList_toArray, List.nil_append, List.append_nil, List.cons_append]); (with_reducible refine V.PureF.useW (hp0) fun w hx => ?_); try (have hp := hp.call hx); conv => whnf)
 (refine hKq _ _ _ (.refl _) ?_; clear hKq Kq; conv => whnf)
 (refine VSeq.mk fun Kq hKq => ?_; conv => whnf)
 (refine hKq _ _ _ (.refl _) ?_; clear hKq Kq; conv => whnf)
 (exact ⟨rfl, hp.ext⟩)
end Go.Proofs.Ytefjgoeabfgkmaa
