/- Chapter 02: the law's small functions; the examples. -/
import Derived.Test.YtebmmfeegjgbeaaC02P
import Derived.Test.YtebmmfeegjgbeaaHX
namespace Go.Proofs.Ytebmmfeegjgbeaa
set_option linter.unusedSimpArgs false
set_option linter.unusedVariables false
open Go.RowKit V
set_option maxRecDepth 100000
theorem is_c {M : List Nat} {w0 w : World} {H : List It} (hp : HpM M w0 w H) (s : ByteArray) :
    Calls Try.prog 33 #[.string s] w fun e w' => ∃ v, e = .returned v ∧ ∃ b, v = .func (.func 56) #[] #[.pointer (some ⟨b, 0, none⟩)] ∧ HpM M w0 w' (blk b [.string s] 9 :: H) ∧ Ext w w' := by
  refine v_fn (args := [.string s]) TTok FFok (f := 33) rfl rfl (Nat.le_of_ble_eq_true rfl) ?_
  conv => whnf
  refine VSeq.mk fun Kq hKq => ?_
  conv => whnf
  refine hp.kbox [.string s] rfl fun b w1 hp hx1 => ?_
  conv => whnf
  refine hKq _ _ _ (V.Sub.refl _) ?_
  clear hKq Kq
  conv => whnf
  refine VSeq.mk fun Kq hKq => ?_
  conv => whnf
  refine hKq _ _ _ (V.Sub.refl _) ?_
  clear hKq Kq
  conv => whnf
  exact ⟨b, rfl, hp, hx1⟩
theorem same_c {M : List Nat} {w0 w : World} {H : List It} (hp : HpM M w0 w H) (s : ByteArray) :
    Calls Try.prog 15 #[.string s] w fun e w' => ∃ v, e = .returned v ∧ ∃ b, v = .func (.func 37) #[] #[.pointer (some ⟨b, 0, none⟩)] ∧ HpM M w0 w' (blk b [.string s] 9 :: H) ∧ Ext w w' := by
  refine v_fn (args := [.string s]) TTok FFok (f := 15) rfl rfl (Nat.le_of_ble_eq_true rfl) ?_
  conv => whnf
  refine VSeq.mk fun Kq hKq => ?_
  conv => whnf
  refine hp.kbox [.string s] rfl fun b w1 hp hx1 => ?_
  conv => whnf
  refine hKq _ _ _ (V.Sub.refl _) ?_
  clear hKq Kq
  conv => whnf
  refine VSeq.mk fun Kq hKq => ?_
  conv => whnf
  refine hKq _ _ _ (V.Sub.refl _) ?_
  clear hKq Kq
  conv => whnf
  exact ⟨b, rfl, hp, hx1⟩
theorem fails_c {M : List Nat} {w0 w : World} {H : List It} (hp : HpM M w0 w H) (n : Int) :
    Calls Try.prog 21 #[.int .i64 n] w fun e w' => ∃ v, e = .returned v ∧ ∃ b, v = .func (.func 48) #[] #[.pointer (some ⟨b, 0, none⟩)] ∧ HpM M w0 w' (blk b [.int .i64 n] 29 :: H) ∧ Ext w w' := by
  refine v_fn (args := [.int .i64 n]) TTok FFok (f := 21) rfl rfl (Nat.le_of_ble_eq_true rfl) ?_
  conv => whnf
  refine VSeq.mk fun Kq hKq => ?_
  conv => whnf
  refine hp.kbox [.int .i64 n] rfl fun b w1 hp hx1 => ?_
  conv => whnf
  refine hKq _ _ _ (V.Sub.refl _) ?_
  clear hKq Kq
  conv => whnf
  refine VSeq.mk fun Kq hKq => ?_
  conv => whnf
  refine hKq _ _ _ (V.Sub.refl _) ?_
  clear hKq Kq
  conv => whnf
  exact ⟨b, rfl, hp, hx1⟩
/-- the cases that occur: the same string, no error -/
theorem same_in {w : World} {b : Nat} {s : ByteArray} (hb : Blk w b [.string s] 9) :
    Calls Try.prog 37 #[.string s, .int .i64 0, .pointer (some ⟨b, 0, none⟩)] w fun e w' => e = .returned (.bool true) ∧ Ext w w' := by
  refine v_reads TTok FFok Try.func37 rfl rfl ?_
  conv => whnf
  refine VSeq.mk fun Kq hKq => ?_
  conv => whnf
  refine hKq _ _ _ (V.Sub.refl _) ?_
  clear hKq Kq
  conv => whnf
  refine VSeq.mk fun Kq hKq => ?_
  conv => whnf
  refine VSeq.mk fun Kq hKq => ?_
  conv => whnf
  refine ⟨_, _, Blk.ld (hb) TTok rfl (rfl), ?_⟩
  conv => whnf
  refine hKq _ _ _ (V.Sub.refl _) ?_
  clear hKq Kq
  conv => whnf
  refine And.intro (fun _ => ?_) (fun h => absurd (rfl) (of_decide_eq_false h))
  conv => whnf
  refine hKq _ _ _ (V.Sub.refl _) ?_
  clear hKq Kq
  conv => whnf
  exact ⟨rfl, Ext.refl _⟩
theorem fails_in {w : World} {b : Nat} {n : Int} (hb : Blk w b [.int .i64 n] 29) :
    Calls Try.prog 48 #[.string ⟨#[]⟩, .int .i64 n, .pointer (some ⟨b, 0, none⟩)] w fun e w' => e = .returned (.bool true) ∧ Ext w w' := by
  refine v_reads TTok FFok Try.func48 rfl rfl ?_
  conv => whnf
  refine VSeq.mk fun Kq hKq => ?_
  conv => whnf
  refine hKq _ _ _ (V.Sub.refl _) ?_
  clear hKq Kq
  conv => whnf
  refine VSeq.mk fun Kq hKq => ?_
  conv => whnf
  refine VSeq.mk fun Kq hKq => ?_
  conv => whnf
  refine hKq _ _ _ (V.Sub.refl _) ?_
  clear hKq Kq
  conv => whnf
  refine And.intro (fun _ => ?_) (fun h => absurd (rfl) (of_decide_eq_false h))
  conv => whnf
  refine ⟨_, _, Blk.ld (hb) TTok rfl (rfl), ?_⟩
  conv => whnf
  refine hKq _ _ _ (V.Sub.refl _) ?_
  clear hKq Kq
  conv => whnf
  refine ⟨?_, Ext.refl _⟩
  exact congrArg Value.bool (decide_eq_true rfl)
theorem is_in {w : World} {b : Nat} {s : ByteArray} (x : ByteArray) (hx : (⟨(hexL x.data.toList).toArray⟩ : ByteArray) = s) (hs : x.size ≤ 100) (hb : Blk w b [.string s] 9) :
    Calls Try.prog 56 #[.string x, .int .i64 0, .pointer (some ⟨b, 0, none⟩)] w fun e w' => e = .returned (.bool true) ∧ Ext w w' := by
  have hh := Hex_p x (by omega)
  rw [hx] at hh
  refine v_reads TTok FFok Try.func56 rfl rfl ?_
  conv => whnf
  refine VSeq.mk fun Kq hKq => ?_
  conv => whnf
  refine hKq _ _ _ (V.Sub.refl _) ?_
  clear hKq Kq
  conv => whnf
  refine VSeq.mk fun Kq hKq => ?_
  conv => whnf
  have hp := Hp.nil w
  refine v_mixA TTok FFok mixed [(0, false), (1, false), (2, false), (3, false), (4, false), (5, false), (6, false), (7, false), (8, false)] (by kernel_rfl) ?_
  conv => whnf
  refine And.intro (fun _ => ?_) (fun h => absurd (rfl) (of_decide_eq_false h))
  conv => whnf
  first | refine PureF.quiet (hh) ?_ | refine PureF.quietE (hh) ?_
  conv => whnf
  refine ⟨_, fun w' hx' => Blk.ld (Blk.ext (hb) hx') TTok rfl (rfl), ?_⟩
  conv => whnf
  intro w hx
  try (have hp := hp.call hx)
  conv => whnf
  refine hKq _ _ _ (V.Sub.refl _) ?_
  clear hKq Kq
  conv => whnf
  refine ⟨?_, hp.ext⟩
  exact congrArg Value.bool (decide_eq_true rfl)
def e0 : ByteArray := (⟨#[101, 51, 98, 48, 99, 52, 52, 50, 57, 56, 102, 99, 49, 99, 49, 52, 57, 97, 102, 98, 102, 52, 99, 56, 57, 57, 54, 102, 98, 57, 50, 52, 50, 55, 97, 101, 52, 49, 101, 52, 54, 52, 57, 98, 57, 51, 52, 99, 97, 52, 57, 53, 57, 57, 49, 98, 55, 56, 53, 50, 98, 56, 53, 53]⟩ : ByteArray)
def e1 : ByteArray := (⟨#[98, 97, 55, 56, 49, 54, 98, 102, 56, 102, 48, 49, 99, 102, 101, 97, 52, 49, 52, 49, 52, 48, 100, 101, 53, 100, 97, 101, 50, 50, 50, 51, 98, 48, 48, 51, 54, 49, 97, 51, 57, 54, 49, 55, 55, 97, 57, 99, 98, 52, 49, 48, 102, 102, 54, 49, 102, 50, 48, 48, 49, 53, 97, 100]⟩ : ByteArray)
def e2 : ByteArray := (⟨#[98, 48, 51, 52, 52, 99, 54, 49, 100, 56, 100, 98, 51, 56, 53, 51, 53, 99, 97, 56, 97, 102, 99, 101, 97, 102, 48, 98, 102, 49, 50, 98, 56, 56, 49, 100, 99, 50, 48, 48, 99, 57, 56, 51, 51, 100, 97, 55, 50, 54, 101, 57, 51, 55, 54, 99, 50, 101, 51, 50, 99, 102, 102, 55]⟩ : ByteArray)
theorem sumR_ok (s : ByteArray) (h : s.size ≤ 4096) : sumR s = .tuple #[.string (sumB s), .int .i64 0] := if_neg (by omega)
theorem macR_ok (k s : ByteArray) (hk : k.size ≤ 4096) (h : s.size ≤ 4096) : macR k s = .tuple #[.string (macB k s), .int .i64 0] := if_neg (by omega)
theorem Sum_ok (s : ByteArray) (h : s.size ≤ 4096) : PureF Try.prog 16 #[.string s] (.tuple #[.string (sumB s), .int .i64 0]) := by rw [← sumR_ok s h]; exact Sum_p s
theorem Sum_long (s : ByteArray) (h : 4096 < s.size) : PureF Try.prog 16 #[.string s] (.tuple #[.string ⟨#[]⟩, .int .i64 3]) := by
  have := Sum_p s
  unfold sumR at this
  rwa [if_pos h] at this
theorem Mac_ok (k s : ByteArray) (hk : k.size ≤ 4096) (h : s.size ≤ 4096) : PureF Try.prog 17 #[.string k, .string s] (.tuple #[.string (macB k s), .int .i64 0]) := by rw [← macR_ok k s hk h]; exact Mac_p k s
def stV (a : List UInt8) : Value := .agg (stB a).toArray
theorem st_ok (a : List UInt8) (h : a.length ≤ 1099511627776) : okH ⟨(rest a).toArray⟩ ((a.length : Nat) : Int) = true := by
  unfold okH
  rw [bA_size, rest_len, decide_eq_true (by omega), decide_eq_true (by omega), decide_eq_true (by omega)]
  rfl
theorem Start_st : PureF Try.prog 11 #[] (stV []) := Start_p
theorem More_st (a : List UInt8) (s : ByteArray) (hs : s.size ≤ 4096) (h : a.length + s.size ≤ 1099511627776) : PureF Try.prog 12 #[stV a, .string s] (.tuple #[stV (a ++ s.data.toList), .int .i64 0]) := by
  have hm := More_ok (mixA KL SL a) ⟨(rest a).toArray⟩ s a.length (mixA_W8 KL SL_W8 a) (st_ok a (by omega)) hs h
  unfold hH at hm
  rw [stB_add] at hm
  exact hm
theorem End_st (a : List UInt8) (h : a.length ≤ 1099511627776) : PureF Try.prog 14 #[stV a] (.tuple #[.string ⟨(sumL2 KL SL a).toArray⟩, .int .i64 0]) :=
  End_ok (mixA KL SL a) ⟨(rest a).toArray⟩ a.length (mixA_W8 KL SL_W8 a) (st_ok a h)
theorem Check_st (a : List UInt8) (h : a.length ≤ 1099511627776) : PureF Try.prog 13 #[stV a] (.int .i64 0) := by
  have hc := Check_p (mixA KL SL a) ⟨(rest a).toArray⟩ ((a.length : Nat) : Int) (mixA_W8 KL SL_W8 a).1
  rw [st_ok a h, if_pos rfl] at hc
  exact hc
def abcL : List UInt8 := [97, 98, 99]
theorem x0 : (⟨(hexL (sumB (⟨#[]⟩ : ByteArray)).data.toList).toArray⟩ : ByteArray) = (⟨#[101, 51, 98, 48, 99, 52, 52, 50, 57, 56, 102, 99, 49, 99, 49, 52, 57, 97, 102, 98, 102, 52, 99, 56, 57, 57, 54, 102, 98, 57, 50, 52, 50, 55, 97, 101, 52, 49, 101, 52, 54, 52, 57, 98, 57, 51, 52, 99, 97, 52, 57, 53, 57, 57, 49, 98, 55, 56, 53, 50, 98, 56, 53, 53]⟩ : ByteArray) := by decide +kernel
theorem x1 : (⟨(hexL (sumB (⟨#[97, 98, 99]⟩ : ByteArray)).data.toList).toArray⟩ : ByteArray) = (⟨#[98, 97, 55, 56, 49, 54, 98, 102, 56, 102, 48, 49, 99, 102, 101, 97, 52, 49, 52, 49, 52, 48, 100, 101, 53, 100, 97, 101, 50, 50, 50, 51, 98, 48, 48, 51, 54, 49, 97, 51, 57, 54, 49, 55, 55, 97, 57, 99, 98, 52, 49, 48, 102, 102, 54, 49, 102, 50, 48, 48, 49, 53, 97, 100]⟩ : ByteArray) := by decide +kernel
theorem x2 : (⟨(hexL (macB (repS (⟨#[11]⟩ : ByteArray) 20) (⟨#[72, 105, 32, 84, 104, 101, 114, 101]⟩ : ByteArray)).data.toList).toArray⟩ : ByteArray) = (⟨#[98, 48, 51, 52, 52, 99, 54, 49, 100, 56, 100, 98, 51, 56, 53, 51, 53, 99, 97, 56, 97, 102, 99, 101, 97, 102, 48, 98, 102, 49, 50, 98, 56, 56, 49, 100, 99, 50, 48, 48, 99, 57, 56, 51, 51, 100, 97, 55, 50, 54, 101, 57, 51, 55, 54, 99, 50, 101, 51, 50, 99, 102, 102, 55]⟩ : ByteArray) := by decide +kernel
theorem Derive_arg : PureF Try.prog 19 #[.string (⟨#[97]⟩ : ByteArray), .string (⟨#[98]⟩ : ByteArray), .string (⟨#[99]⟩ : ByteArray), .int .i64 256] (.tuple #[.string ⟨#[]⟩, .int .i64 2]) := Derive_p (⟨#[97]⟩ : ByteArray) (⟨#[98]⟩ : ByteArray) (⟨#[99]⟩ : ByteArray) 256
theorem Check_1 : PureF Try.prog 13 #[.agg (hC (List.replicate 8 0) ⟨#[]⟩ 1).toArray] (.int .i64 2) := Check_p (List.replicate 8 0) ⟨#[]⟩ 1 rfl
theorem zero_W8 : W8 (List.replicate 8 0) := ⟨rfl, by decide⟩
theorem More_b : PureF Try.prog 12 #[.agg (hC (List.replicate 8 0) ⟨#[]⟩ 1099511627712).toArray, .string (repS (⟨#[120]⟩ : ByteArray) 65)] (.tuple #[zH, .int .i64 6]) :=
  More_big (List.replicate 8 0) ⟨#[]⟩ (repS (⟨#[120]⟩ : ByteArray) 65) 1099511627712 zero_W8 (by decide) (by rw [repS_size]; decide) (by rw [repS_size]; decide)
set_option maxHeartbeats 1600000 in
theorem works_p : PureF Try.prog 10 #[] (.bool true) := by
  have hm := More_st [] (⟨#[97, 98, 99]⟩ : ByteArray) (by decide) (by decide)
  have he := End_st ([] ++ ((⟨#[97, 98, 99]⟩ : ByteArray)).data.toList) (by decide)
  have hl := stB_len ([] ++ ((⟨#[97, 98, 99]⟩ : ByteArray)).data.toList)
  have hsa : (⟨(sumL2 KL SL ([] ++ ((⟨#[97, 98, 99]⟩ : ByteArray)).data.toList)).toArray⟩ : ByteArray) = sumB (⟨#[97, 98, 99]⟩ : ByteArray) := rfl
  rw [hsa] at he
  unfold stV at hm he
  have hone : ∀ u ∈ stB ([] ++ ((⟨#[97, 98, 99]⟩ : ByteArray)).data.toList), u.oneCell' = true := hC_one _ _ _
  obtain ⟨S, hS⟩ : ∃ S, stB ([] ++ ((⟨#[97, 98, 99]⟩ : ByteArray)).data.toList) = S := ⟨_, rfl⟩
  rw [hS] at hm he hl hone
  have hz := More_b
  unfold zH hH at hz
  first | refine v_pure TTok FFok Try.func10 rfl rfl fun w0 => ?_ | refine v_pure (args := []) TTok FFok Try.func10 rfl rfl fun w0 => ?_
  conv => whnf
  refine VSeq.mk fun Kq hKq => ?_
  conv => whnf
  refine hKq _ _ _ (V.Sub.refl _) ?_
  clear hKq Kq
  conv => whnf
  refine VSeq.mk fun Kq hKq => ?_
  conv => whnf
  have hp := Hp.nil w0
  refine PureF.use (Start_st) fun w hx => ?_
  try (have hp := hp.call hx)
  conv => whnf
  refine PureF.use (hm) fun w hx => ?_
  try (have hp := hp.call hx)
  conv => whnf
  refine hp.kalloc z27 fun q1 w hp hx => ?_
  conv => whnf
  refine hp.kstA TTok rfl 0 rfl (hl) (hone) (by rfl) fun w hp => ?_
  try simp only [List.set_cons_zero, List.set_cons_succ, EV.val] at hp
  conv => whnf
  refine hKq _ _ _ (V.Sub.refl _) ?_
  clear hKq Kq
  conv => whnf
  refine VSeq.mk fun Kq hKq => ?_
  conv => whnf
  first | refine ⟨.agg (hC (List.replicate 8 0) ⟨#[]⟩ 1099511627712).toArray, w, by kernel_rfl, ?_⟩ | refine ⟨.agg (hC (List.replicate 8 0) ⟨#[]⟩ 1099511627712).toArray, w0, by kernel_rfl, ?_⟩
  conv => whnf
  refine PureF.use (Repeat_p (⟨#[120]⟩ : ByteArray) 65 (by decide) (by decide)) fun w hx => ?_
  try (have hp := hp.call hx)
  conv => whnf
  refine PureF.use (hz) fun w hx => ?_
  try (have hp := hp.call hx)
  conv => whnf
  refine hp.kalloc z27 fun q3 w hp hx => ?_
  conv => whnf
  refine hp.kstA TTok rfl 0 rfl (by rfl) (hC_one _ _ _) (by rfl) fun w hp => ?_
  try simp only [List.set_cons_zero, List.set_cons_succ, EV.val] at hp
  conv => whnf
  refine hKq _ _ _ (V.Sub.refl _) ?_
  clear hKq Kq
  conv => whnf
  refine VSeq.mk fun Kq hKq => ?_
  conv => whnf
  refine v_mixA TTok FFok mixed [(0, true), (1, false), (2, false), (3, false), (4, false), (5, false), (6, true), (7, false), (8, false), (9, false), (10, false), (11, false), (12, false), (13, false), (14, false), (15, false), (16, false), (18, false), (17, true), (19, false), (20, false), (21, false), (22, false), (23, false), (24, false), (25, true), (26, false), (27, false), (28, false), (29, false), (30, false), (31, false), (32, false)] (by kernel_rfl) ?_
  conv => whnf
  intro w hx
  try (have hp := hp.call hx)
  conv => whnf
  skip
  refine Calls.mono (is_c hp _) ?_
  rintro _ w ⟨v, rfl, b1, rfl, hp, hx⟩
  refine ⟨_, rfl, ?_⟩
  conv => whnf
  refine And.intro hx ?_
  conv => whnf
  first | refine PureF.quiet (Sum_ok (⟨#[]⟩ : ByteArray) (by decide)) ?_ | refine PureF.quietE (Sum_ok (⟨#[]⟩ : ByteArray) (by decide)) ?_
  conv => whnf
  refine ⟨_, fun w1 hx' => is_in (sumB (⟨#[]⟩ : ByteArray)) x0 (by rw [sumB_size]; decide) (Blk.ext (hp.get (i := 0) rfl) hx'), ?_⟩
  conv => whnf
  intro w hx
  try (have hp := hp.call hx)
  conv => whnf
  (refine And.intro (fun _ => ?_) (fun h => by cases h))
  refine Calls.mono (is_c hp _) ?_
  rintro _ w ⟨v, rfl, b1, rfl, hp, hx⟩
  refine ⟨_, rfl, ?_⟩
  conv => whnf
  refine And.intro hx ?_
  conv => whnf
  first | refine PureF.quiet (Sum_ok (⟨#[97, 98, 99]⟩ : ByteArray) (by decide)) ?_ | refine PureF.quietE (Sum_ok (⟨#[97, 98, 99]⟩ : ByteArray) (by decide)) ?_
  conv => whnf
  refine ⟨_, fun w1 hx' => is_in (sumB (⟨#[97, 98, 99]⟩ : ByteArray)) x1 (by rw [sumB_size]; decide) (Blk.ext (hp.get (i := 0) rfl) hx'), ?_⟩
  conv => whnf
  refine And.intro (fun _ => ?_) (fun h => by cases h)
  conv => whnf
  refine And.intro (fun _ => ?_) (fun h => absurd (rfl) (of_decide_eq_false h))
  conv => whnf
  refine ⟨_, fun w' hx' => Blk.ldN (Blk.ext (hp.get (i := 3) rfl) hx') TTok rfl (hl), ?_⟩
  conv => whnf
  intro w hx
  try (have hp := hp.call hx)
  conv => whnf
  skip
  refine Calls.mono (is_c hp _) ?_
  rintro _ w ⟨v, rfl, b1, rfl, hp, hx⟩
  refine ⟨_, rfl, ?_⟩
  conv => whnf
  refine And.intro hx ?_
  conv => whnf
  first | refine PureF.quiet (he) ?_ | refine PureF.quietE (he) ?_
  conv => whnf
  refine ⟨_, fun w1 hx' => is_in (sumB (⟨#[97, 98, 99]⟩ : ByteArray)) x1 (by rw [sumB_size]; decide) (Blk.ext (hp.get (i := 0) rfl) hx'), ?_⟩
  conv => whnf
  intro w hx
  try (have hp := hp.call hx)
  conv => whnf
  (refine And.intro (fun _ => ?_) (fun h => by cases h))
  refine Calls.mono (is_c hp _) ?_
  rintro _ w ⟨v, rfl, b1, rfl, hp, hx⟩
  refine ⟨_, rfl, ?_⟩
  conv => whnf
  refine And.intro hx ?_
  conv => whnf
  first | refine PureF.quiet (Repeat_p (⟨#[11]⟩ : ByteArray) 20 (by decide) (by decide)) ?_ | refine PureF.quietE (Repeat_p (⟨#[11]⟩ : ByteArray) 20 (by decide) (by decide)) ?_
  conv => whnf
  first | refine PureF.quiet (Mac_ok (repS (⟨#[11]⟩ : ByteArray) 20) (⟨#[72, 105, 32, 84, 104, 101, 114, 101]⟩ : ByteArray) (by rw [repS_size]; decide) (by decide)) ?_ | refine PureF.quietE (Mac_ok (repS (⟨#[11]⟩ : ByteArray) 20) (⟨#[72, 105, 32, 84, 104, 101, 114, 101]⟩ : ByteArray) (by rw [repS_size]; decide) (by decide)) ?_
  conv => whnf
  refine ⟨_, fun w1 hx' => is_in (macB (repS (⟨#[11]⟩ : ByteArray) 20) (⟨#[72, 105, 32, 84, 104, 101, 114, 101]⟩ : ByteArray)) x2 (by rw [macB_size]; decide) (Blk.ext (hp.get (i := 0) rfl) hx'), ?_⟩
  conv => whnf
  intro w hx
  try (have hp := hp.call hx)
  conv => whnf
  refine hKq _ _ _ (V.Sub.refl _) ?_
  clear hKq Kq
  conv => whnf
  refine VSeq.mk fun Kq hKq => ?_
  conv => whnf
  refine VSeq.mk fun Kq hKq => ?_
  conv => whnf
  refine hKq _ _ _ (V.Sub.refl _) ?_
  clear hKq Kq
  conv => whnf
  refine VSeq.mk fun Kq hKq => ?_
  conv => whnf
  refine And.intro (fun _ => ?_) (fun h => by cases h)
  conv => whnf
  refine Calls.mono (fails_c hp _) ?_
  rintro _ w ⟨v, rfl, b7, rfl, hp, hx⟩
  refine ⟨_, rfl, ?_⟩
  conv => whnf
  refine PureF.use (Repeat_p (⟨#[120]⟩ : ByteArray) 4097 (by decide) (by decide)) fun w hx => ?_
  try (have hp := hp.call hx)
  conv => whnf
  refine PureF.use (Sum_long (repS (⟨#[120]⟩ : ByteArray) 4097) (by rw [repS_size]; decide)) fun w hx => ?_
  try (have hp := hp.call hx)
  conv => whnf
  refine V.CallsUse (fails_in (hp.get (i := 0) rfl)) fun w hx => ?_
  try (have hp := hp.call hx)
  conv => whnf
  refine hKq _ _ _ (V.Sub.refl _) ?_
  clear hKq Kq
  conv => whnf
  refine VSeq.mk fun Kq hKq => ?_
  conv => whnf
  refine And.intro (fun _ => ?_) (fun h => by cases h)
  conv => whnf
  refine Calls.mono (fails_c hp _) ?_
  rintro _ w ⟨v, rfl, b8, rfl, hp, hx⟩
  refine ⟨_, rfl, ?_⟩
  conv => whnf
  refine PureF.use (Derive_arg) fun w hx => ?_
  try (have hp := hp.call hx)
  conv => whnf
  refine V.CallsUse (fails_in (hp.get (i := 0) rfl)) fun w hx => ?_
  try (have hp := hp.call hx)
  conv => whnf
  refine hKq _ _ _ (V.Sub.refl _) ?_
  clear hKq Kq
  conv => whnf
  refine VSeq.mk fun Kq hKq => ?_
  conv => whnf
  refine And.intro (fun _ => ?_) (fun h => by cases h)
  conv => whnf
  first | refine ⟨.agg (hC (List.replicate 8 0) ⟨#[]⟩ 1).toArray, w, by kernel_rfl, ?_⟩ | refine ⟨.agg (hC (List.replicate 8 0) ⟨#[]⟩ 1).toArray, w0, by kernel_rfl, ?_⟩
  conv => whnf
  refine PureF.use (Check_1) fun w hx => ?_
  try (have hp := hp.call hx)
  conv => whnf
  refine hKq _ _ _ (V.Sub.refl _) ?_
  clear hKq Kq
  conv => whnf
  refine VSeq.mk fun Kq hKq => ?_
  conv => whnf
  refine And.intro (fun _ => ?_) (fun h => absurd (rfl) (of_decide_eq_false h))
  conv => whnf
  refine ⟨_, _, Blk.ldN (hp.get (i := 6) rfl) TTok rfl (by rfl), ?_⟩
  conv => whnf
  first | refine ⟨.agg (hC (List.replicate 8 0) ⟨#[]⟩ 0).toArray, w, by kernel_rfl, ?_⟩ | refine ⟨.agg (hC (List.replicate 8 0) ⟨#[]⟩ 0).toArray, w0, by kernel_rfl, ?_⟩
  conv => whnf
  first | refine ⟨.bool true, w, by kernel_rfl, ?_⟩ | refine ⟨.bool true, w0, by kernel_rfl, ?_⟩
  conv => whnf
  refine hKq _ _ _ (V.Sub.refl _) ?_
  clear hKq Kq
  conv => whnf
  refine And.intro (fun _ => ?_) (fun h => by cases h)
  conv => whnf
  refine hKq _ _ _ (V.Sub.refl _) ?_
  clear hKq Kq
  conv => whnf
  exact ⟨congrArg Value.bool (decide_eq_true rfl), hp.ext⟩
end Go.Proofs.Ytebmmfeegjgbeaa
