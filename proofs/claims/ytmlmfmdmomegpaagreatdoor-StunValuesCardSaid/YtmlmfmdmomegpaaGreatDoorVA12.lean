/- Chapter 08: StunValues. -/
/- StunValues returns true for every input, where the two tables of unicode/utf8 that its card ties read as they are laid. -/
import Derived.Test.YtmlmfmdmomegpaaGreatDoorVA11
import Derived.Test.YtmlmfmdmomegpaaGreatDoorCards
import Derived.Test.YtmlmfmdmomegpaaGreatDoorTie
import Derived.SevenTiedAt
import Derived.Stop.Joined
import Derived.LaidMore
import Derived.Lay
import Derived.MakeChecks
import Derived.Test.YtmlmfmdmomegpaaGreatDoorRows
import Derived.WalkKit
import Derived.ProofKit
import Derived.OpenShut
import Derived.SizedLaws
import Derived.ShutString
import Derived.ChangeOld
import Derived.Below
import Derived.Test.YtmlmfmdmomegpaaGreatDoorVA04
namespace Go.Proofs.YtmlmfmdmomegpaaGreatDoor
set_option linter.unusedSimpArgs false
set_option linter.unusedVariables false
set_option maxRecDepth 100000
open Go.RowKit V
set_option maxHeartbeats 25600000
theorem ix2s (a b : ByteArray) (i : Nat) (h : i < 2) : ∃ s, (s = a ∨ s = b) ∧ ∀ w, (Instr.index 68 (.agg #[.string a, .string b]) (.int .i64 i)).run Tryz.prog w = .ok (.string s) w := by
  have : i = 0 ∨ i = 1 := by omega
  rcases this with rfl | rfl
  · exact ⟨a, .inl rfl, fun w => by kernel_rfl⟩
  · exact ⟨b, .inr rfl, fun w => by kernel_rfl⟩
theorem ix3s (a b c : ByteArray) (i : Nat) (h : i < 3) : ∃ s, (s = a ∨ s = b ∨ s = c) ∧ ∀ w, (Instr.index 82 (.agg #[.string a, .string b, .string c]) (.int .i64 i)).run Tryz.prog w = .ok (.string s) w := by
  have : i = 0 ∨ i = 1 ∨ i = 2 := by omega
  rcases this with rfl | rfl | rfl
  · exact ⟨a, .inl rfl, fun w => by kernel_rfl⟩
  · exact ⟨b, .inr (.inl rfl), fun w => by kernel_rfl⟩
  · exact ⟨c, .inr (.inr rfl), fun w => by kernel_rfl⟩
theorem ix4s (a b c d : ByteArray) (i : Nat) (h : i < 4) : ∃ s, (s = a ∨ s = b ∨ s = c ∨ s = d) ∧ ∀ w, (Instr.index 73 (.agg #[.string a, .string b, .string c, .string d]) (.int .i64 i)).run Tryz.prog w = .ok (.string s) w := by
  have : i = 0 ∨ i = 1 ∨ i = 2 ∨ i = 3 := by omega
  rcases this with rfl | rfl | rfl | rfl
  · exact ⟨a, .inl rfl, fun w => by kernel_rfl⟩
  · exact ⟨b, .inr (.inl rfl), fun w => by kernel_rfl⟩
  · exact ⟨c, .inr (.inr (.inl rfl)), fun w => by kernel_rfl⟩
  · exact ⟨d, .inr (.inr (.inr rfl)), fun w => by kernel_rfl⟩
theorem ix2a (h h' : ByteArray) (p p' : Int) (i : Nat) (hi : i < 2) : ∃ g q, ((g = h ∧ q = p) ∨ (g = h' ∧ q = p')) ∧ ∀ w, (Instr.index 69 (.agg #[.string h, .int .i64 p, .string h', .int .i64 p']) (.int .i64 i)).run Tryz.prog w = .ok (.agg #[.string g, .int .i64 q]) w := by
  have : i = 0 ∨ i = 1 := by omega
  rcases this with rfl | rfl
  · exact ⟨h, p, .inl ⟨rfl, rfl⟩, fun w => by kernel_rfl⟩
  · exact ⟨h', p', .inr ⟨rfl, rfl⟩, fun w => by kernel_rfl⟩
theorem ix2i (p p' : Int) (i : Nat) (hi : i < 2) : ∃ q, (q = p ∨ q = p') ∧ ∀ w, (Instr.index 79 (.agg #[.int .i64 p, .int .i64 p']) (.int .i64 i)).run Tryz.prog w = .ok (.int .i64 q) w := by
  have : i = 0 ∨ i = 1 := by omega
  rcases this with rfl | rfl
  · exact ⟨p, .inl rfl, fun w => by kernel_rfl⟩
  · exact ⟨p', .inr rfl, fun w => by kernel_rfl⟩
theorem edit_c {W : World} (at_ less : Nat) (put s : ByteArray) (ha : at_ < 65536) (hl : less < 256) (hp : put.size ≤ maxLen) (hs : s.size ≤ 100000) :
    Calls Tryz.prog 18 #[.agg #[.int .u16 at_, .int .u8 less, .string put], .string s] W fun e w' => ∃ u, e = .returned u ∧ ∃ t : ByteArray, u = .string t ∧ t.size ≤ s.size + 8 ∧ Ext W w' := by
  refine v_fn (args := [.agg #[.int .u16 at_, .int .u8 less, .string put], .string s]) TTok FFok Tryz.func18 rfl (Nat.le_of_ble_eq_true rfl) ?_
  conv => whnf
  refine VSeq.mk fun Kq hKq => ?_
  conv => whnf
  have hpz := hp
  obtain ⟨m, hm, hle⟩ : ∃ m : Nat, (at_ : Int) % ((s.size : Int) + 1) = (m : Int) ∧ m ≤ s.size := by
    have h1 := Nat.mod_lt at_ (show 0 < s.size + 1 by omega)
    exact ⟨at_ % (s.size + 1), by rw [Int.natCast_emod]; rfl, by omega⟩
  obtain ⟨n, hn, hn2⟩ : ∃ n : Nat, min ((m : Int) + (less : Int) % 5) (s.size : Int) = (n : Int) ∧ n ≤ s.size := ⟨min (m + less % 5) s.size, by omega, by omega⟩
  have z1 := size_extract s 0 m hle
  have z2 := size_extract put 0 (min put.size 8) (by omega)
  have z3 := size_extract s n s.size (Nat.le_refl _)
  have hp := Hp.nil W
  refine hp.kboxA fun q w hp hx => ?_
  conv => whnf
  refine hKq _ _ _ (.refl _) ?_
  clear hKq Kq
  conv => whnf
  refine VSeq.mk fun Kq hKq => ?_
  conv => whnf
  (refine ⟨_, _, Blk.ld (hp.get (i := 0) rfl) TTok rfl rfl, ?_⟩; conv => whnf)
  (refine Or.inl (And.intro (by first | omega | decide) ?_); conv => whnf)
  (refine Or.inl (And.intro (by first | omega | decide) ?_); conv => whnf)
  (refine And.intro (by first | omega | decide) ?_; conv => whnf)
  (refine hKq _ _ _ (.refl _) ?_; clear hKq Kq; conv => whnf)
  (refine VSeq.mk fun Kq hKq => ?_; conv => whnf)
  rw [hm]
  refine v_mixA TTok FFok mixed [(0, false), (1, false), (2, false), (3, false), (4, false), (5, false), (6, false), (7, false), (8, false), (9, false), (10, false), (11, false), (12, false), (13, false), (14, false), (15, false), (16, false), (17, false), (18, false), (19, false), (20, false), (21, false), (22, false), (23, false)] (by kernel_rfl) ?_
  conv => whnf
  refine ⟨m, ⟨by first | rfl | omega, by omega⟩, ?_⟩
  conv => whnf
  (refine ⟨_, fun w' hx' => Blk.ld (Blk.ext (hp.get (i := 0) rfl) hx') TTok rfl rfl, ?_⟩; conv => whnf)
  (refine ⟨_, fun w' hx' => Blk.ld (Blk.ext (hp.get (i := 0) rfl) hx') TTok rfl rfl, ?_⟩; conv => whnf)
  refine ⟨min put.size 8, ⟨by omega, by omega⟩, ?_⟩
  conv => whnf
  refine And.intro (by omega) ?_
  conv => whnf
  (refine ⟨_, fun w' hx' => Blk.ld (Blk.ext (hp.get (i := 0) rfl) hx') TTok rfl rfl, ?_⟩; conv => whnf)
  (refine And.intro (by first | omega | decide) ?_; conv => whnf)
  (refine Or.inl (And.intro (by first | omega | decide) ?_); conv => whnf)
  (refine Or.inl (And.intro (by first | omega | decide) ?_); conv => whnf)
  rw [hn]
  refine ⟨n, ⟨by first | rfl | omega, by omega⟩, ?_⟩
  conv => whnf
  refine And.intro (by rw [ByteArray.size_append]; omega) ?_
  conv => whnf
  intro w hx
  try (have hp := hp.call hx)
  conv => whnf
  refine hKq _ _ _ (.refl _) ?_
  clear hKq Kq
  conv => whnf
  exact ⟨_, rfl, by rw [ByteArray.size_append, ByteArray.size_append]; omega, hp.ext⟩
def TRu : V.Tab := TT.map fun x => match Nat.beq x.1 78 with
  | true => (x.1, ⟨.other, 1⟩)
  | false => x
theorem TRuok : V.tabOk Tryz.prog TRu = true := by kernel_rfl
theorem u_int : Tryz.prog.underlying 3 = some (.int .i64) := by kernel_rfl
theorem u_uint : Tryz.prog.underlying 78 = some (.int .u64) := by kernel_rfl
theorem conv_u (n : Int) (w : World) : (convert 3 78 (.int .i64 n)).run Tryz.prog w = .ok (.int .u64 (n % 18446744073709551616)) w := by
  simp only [convert, Sem.run_bind, run_underlying u_int, run_underlying u_uint, Result.andThen]
  rfl
theorem conv_i (n : Nat) (h : n < 400) (w : World) : (convert 78 3 (.int .u64 n)).run Tryz.prog w = .ok (.int .i64 n) w := by
  simp only [convert, Sem.run_bind, run_underlying u_int, run_underlying u_uint, Result.andThen]
  show Result.ok (Value.int .i64 (IntKind.i64.wrap n)) w = _
  rw [IntWalk.i64_in _ (by omega)]
theorem rem_u (xo yo : Operand) (n : Int) (w : World) : (do eqGuard .rem 78 xo yo (.int .u64 (n % 18446744073709551616)) (.int .u64 400); binOp .rem 78 (.int .u64 (n % 18446744073709551616)) (.int .u64 400) : Sem Value).run Tryz.prog w = .ok (.int .u64 ((n % 18446744073709551616) % 400)) w := by
  rw [Sem.run_bind, run_eqGuard_int]
  simp only [binOp, Result.andThen, Op.intDiv]
  have h0 : 0 ≤ n % 18446744073709551616 := Int.emod_nonneg _ (by decide)
  have e : (n % 18446744073709551616).tmod 400 = n % 18446744073709551616 % 400 := Int.tmod_eq_emod_of_nonneg h0
  simp [e]
  done
theorem values_c {W : World} (id0 : ByteArray) (rh : ByteArray) (rp : Int) (va0 : ByteArray) (nu : Int) (re0 : ByteArray) (lo : Bool) (p0 p1 p2 p3 p4 p5 p6 p7 pt : Nat) (at_ less : Nat) (put : ByteArray)
    (hid : id0.size ≤ maxLen) (hrh : rh.size ≤ maxLen) (hrp : in8 rp) (hva : va0.size ≤ maxLen) (hnu : in8 nu) (hre : re0.size ≤ maxLen) (hp8 : p0 < 65536 ∧ p1 < 65536 ∧ p2 < 65536 ∧ p3 < 65536 ∧ p4 < 65536 ∧ p5 < 65536 ∧ p6 < 65536 ∧ p7 < 65536) (hpt : pt < 65536) (ha : at_ < 65536) (hle : less < 256) (hput : put.size ≤ maxLen) :
    Calls Tryz.prog 6 #[.string id0, .agg #[.string rh, .int .i64 rp], .string va0, .int .i64 nu, .string re0, .agg (dC lo p0 p1 p2 p3 p4 p5 p6 p7 pt).toArray, .agg #[.int .u16 at_, .int .u8 less, .string put]] W fun e w' => e = .returned (.bool true) ∧ Ext W w' := by
  have sa := fun {w : World} => addr7_c (W := w) lo p0 p1 p2 p3 p4 p5 p6 p7 pt hp8 hpt
  have se := fun {w : World} (s : ByteArray) (hs : s.size ≤ 100000) => edit_c (W := w) at_ less put s ha hle hput hs
  unfold dC at sa ⊢
  refine v_reads (args := [.string id0, .agg #[.string rh, .int .i64 rp], .string va0, .int .i64 nu, .string re0, .agg #[.bool lo, .int .u16 p0, .int .u16 p1, .int .u16 p2, .int .u16 p3, .int .u16 p4, .int .u16 p5, .int .u16 p6, .int .u16 p7, .int .u16 pt], .agg #[.int .u16 at_, .int .u8 less, .string put]]) TRuok FFok Tryz.func6 rfl rfl ?_
  have TTok := TRuok
  conv => whnf
  refine VSeq.mk fun Kq hKq => ?_
  conv => whnf
  have hp := Hp.nil W
  refine hp.kboxA fun q8 w hp hx => ?_
  conv => whnf
  refine hp.kboxA fun q12 w hp hx => ?_
  conv => whnf
  refine hp.kboxA fun q13 w hp hx => ?_
  conv => whnf
  refine hKq _ _ _ (.refl _) ?_
  clear hKq Kq
  conv => whnf
  refine VSeq.mk fun Kq hKq => ?_
  conv => whnf
  refine VSeq.mk fun Kq hKq => ?_
  conv => whnf
  refine PureF.use (works_p) fun w hx => ?_
  try (have hp := hp.call hx)
  conv => whnf
  refine hKq _ _ _ (.refl _) ?_
  clear hKq Kq
  conv => whnf
  refine And.intro (fun h => by cases h) (fun _ => ?_)
  conv => whnf
  refine hKq _ _ _ (.refl _) ?_
  clear hKq Kq
  conv => whnf
  refine VSeq.mk fun Kq hKq => ?_
  conv => whnf
  unfold maxLen at hid hrh hva hre
  refine v_mixA TTok FFok mixed [(0, false), (1, false), (2, false), (3, false), (4, false), (5, false), (6, false), (7, false), (8, false), (9, false), (10, false), (11, false), (12, false), (13, false), (14, false), (15, false), (16, false), (17, false)] (by kernel_rfl) ?_
  conv => whnf
  refine ⟨min id0.size 20, ⟨by omega, by omega⟩, ?_⟩
  conv => whnf
  refine ⟨min va0.size 200, ⟨by omega, by omega⟩, ?_⟩
  conv => whnf
  refine ⟨min re0.size 200, ⟨by omega, by omega⟩, ?_⟩
  conv => whnf
  intro w hx
  try (have hp := hp.call hx)
  conv => whnf
  refine hKq _ _ _ (.refl _) ?_
  clear hKq Kq
  conv => whnf
  refine VSeq.mk fun Kq hKq => ?_
  conv => whnf
  have zid := size_extract id0 0 (min id0.size 20) (by omega)
  have zva := size_extract va0 0 (min va0.size 200) (by omega)
  have zre := size_extract re0 0 (min re0.size 200) (by omega)
  generalize id0.extract 0 (min id0.size 20) = id1 at *
  generalize va0.extract 0 (min va0.size 200) = va at *
  generalize re0.extract 0 (min re0.size 200) = re at *
  (refine ⟨_, _, Blk.ld (hp.get (i := 2) rfl) TTok rfl rfl, ?_⟩; conv => whnf)
  (refine ⟨_, _, Blk.ld (hp.get (i := 2) rfl) TTok rfl rfl, ?_⟩; conv => whnf)
  refine ⟨min rh.size 20, ⟨by omega, by omega⟩, ?_⟩
  conv => whnf
  have zrh := size_extract rh 0 (min rh.size 20) (by omega)
  generalize rh.extract 0 (min rh.size 20) = gh at *
  (refine hp.kst1 TTok (by rfl) 2 (by rfl) (by rfl) (by rfl) (Nat.le_of_ble_eq_true rfl) fun w hp => ?_; try simp only [List.set_cons_zero, List.set_cons_succ, EV.val] at hp; conv => whnf)
  (refine hKq _ _ _ (.refl _) ?_; clear hKq Kq; conv => whnf)
  (refine VSeq.mk fun Kq hKq => ?_; conv => whnf)
  have z12 : (id1 ++ (⟨#[48, 49, 50, 51, 52, 53, 54, 55, 56, 57, 97, 98]⟩ : ByteArray)).size = id1.size + 12 := by rw [ByteArray.size_append]; rfl
  refine And.intro (by show id1.size + 12 ≤ _; omega) ?_
  conv => whnf
  refine ⟨12, ⟨by first | rfl | omega, by omega⟩, ?_⟩
  conv => whnf
  refine hKq _ _ _ (.refl _) ?_
  clear hKq Kq
  conv => whnf
  refine VSeq.mk fun Kq hKq => ?_
  conv => whnf
  have zi := size_extract (id1 ++ (⟨#[48, 49, 50, 51, 52, 53, 54, 55, 56, 57, 97, 98]⟩ : ByteArray)) 0 12 (by omega)
  generalize (id1 ++ (⟨#[48, 49, 50, 51, 52, 53, 54, 55, 56, 57, 97, 98]⟩ : ByteArray)).extract 0 12 = id at *
  have zi : id.size = 12 := zi
  clear z12
  (refine ⟨_, _, Blk.ldV (vs := [_, _, _, _, _, _, _, _, _, _]) (hp.get (i := 1) rfl) TTok rfl rfl rfl, ?_⟩; conv => whnf)
  refine Calls.mono sa ?_
  clear sa
  rintro _ w ⟨_, rfl, h, rfl, hh, hx⟩
  refine ⟨_, rfl, ?_⟩
  have hp := hp.call hx
  conv => whnf
  (refine hp.kalloc z63 fun al63 w hp hx => ?_; conv => whnf)
  (refine hp.kstA TTok rfl 0 rfl rfl (oneC_of rfl) (by rfl) fun w hp => ?_; try simp only [List.set_cons_zero, List.set_cons_succ, EV.val] at hp; conv => whnf)
  (refine hKq _ _ _ (.refl _) ?_; clear hKq Kq; conv => whnf)
  (refine VSeq.mk fun Kq hKq => ?_; conv => whnf)
  (refine VSeq.mk fun Kq hKq => ?_; conv => whnf)
  (refine ⟨_, _, bld68_0_1 _ _ _, ?_⟩; conv => whnf)
  (refine hKq _ _ _ (.refl _) ?_; clear hKq Kq; conv => whnf)
  obtain ⟨b16, rfl⟩ : ∃ q, q = al63 := ⟨al63, rfl⟩
  have hp := hp.pick [0, 1, 3] (by decide)
  have hp : HpM [] W w [blk b16 [.string h, .int .i64 pt] 63, blk q13 [.int .u16 at_, .int .u8 less, .string put] 32, blk q8 [.string gh, .int .i64 rp] 63] := hp
  have key : ∀ (l : Env) (w : World), V.Sub [(2, .v (.string va)), (3, .v (.int .i64 nu)), (4, .v (.string re)), (13, .v (.pointer (some ⟨q13, 0, none⟩)))] l → HpM [] W w [blk q13 [.int .u16 at_, .int .u8 less, .string put] 32] → Kq l w := by
    intro l w hs hp
    refine hKq _ _ _ hs ?_
    clear hKq Kq hs
    conv => whnf
    clear hh
    obtain ⟨r, hr, hr4⟩ : ∃ r : Nat, (nu % 18446744073709551616) % 400 = (r : Int) ∧ r < 400 := ⟨((nu % 18446744073709551616) % 400).toNat, by omega, by omega⟩
    have eN : (300 : Int) + (r : Int) = ((300 + r : Nat) : Int) := by omega
    obtain ⟨N, hN⟩ : ∃ N, 300 + r = N := ⟨_, rfl⟩
    rw [hN] at eN
    conv => whnf
    refine VSeq.mk fun Kq hKq => ?_
    conv => whnf
    refine VSeq.mk fun Kq hKq => ?_
    conv => whnf
    refine ⟨_, _, conv_u nu _, ?_⟩
    conv => whnf
    refine ⟨_, _, rem_u _ _ nu _, ?_⟩
    conv => whnf
    rw [hr]
    refine ⟨_, _, conv_i r hr4 _, ?_⟩
    conv => whnf
    refine Or.inl (And.intro (by omega) ?_)
    conv => whnf
    rw [eN]
    (refine ⟨_, _, bld79_0_1 _ _ _, ?_⟩; conv => whnf)
    (refine hKq _ _ _ (.refl _) ?_; clear hKq Kq; conv => whnf)
    refine ⟨fun m2 e w' => ∃ (j : Nat), m2 + j = 2 ∧ e = [(2, .v (.string va)), (3, .v (.int .i64 nu)), (4, .v (.string re)), (13, .v (.pointer (some ⟨q13, 0, none⟩))), (178, .v (.agg #[.int .i64 nu, .int .i64 N])), (179, .v (.int .i64 j))] ∧ HpM [] W w' [blk q13 [.int .u16 at_, .int .u8 less, .string put] 32],
      ⟨2, _, ⟨0, by omega, rfl, hp⟩, sub_cons rfl (sub_cons rfl (sub_cons rfl (sub_cons rfl (sub_cons rfl (sub_cons rfl (sub_nil))))))⟩, ?_⟩
    clear hp
    repeat clear hp
    rintro m2 _ w ⟨j, hm2, rfl, hp⟩
    conv => whnf
    refine VSeq.mk fun Kq hKq => ?_
    conv => whnf
    refine hKq _ _ _ (.refl _) ?_
    clear hKq Kq
    conv => whnf
    refine VSeq.mk fun Kq hKq => ?_
    conv => whnf
    refine ⟨fun hj => ?_, fun hj => ?_⟩
    · have hj := of_decide_eq_true hj
      conv => whnf
      refine hKq _ _ _ (.refl _) ?_
      clear hKq Kq
      conv => whnf
      refine VSeq.mk fun Kq hKq => ?_
      conv => whnf
      refine VSeq.mk fun Kq hKq => ?_
      conv => whnf
      obtain ⟨n, hn, hix⟩ := ix2i nu N j (by omega)
      refine ⟨_, _, hix _, ?_⟩
      conv => whnf
      refine hKq _ _ _ (.refl _) ?_
      clear hKq Kq
      conv => whnf
      refine VSeq.mk fun Kq hKq => ?_
      conv => whnf
      clear hix hn
      by_cases h1 : n < 300 ∨ 699 < n
      · have c1 := Reason_arg n re h1
        rcases h1 with h1 | h1
        · (refine V.CallW.out ?_; (conv => arg 3; dsimp only [EV.val, List.toList_toArray, List.nil_append, List.append_nil, List.cons_append]); (with_reducible refine V.PureF.useW (c1) fun w hx => ?_); try (have hp := hp.call hx); conv => whnf)
          (refine hKq _ _ _ (.refl _) ?_; clear hKq Kq; conv => whnf)
          (refine VSeq.mk fun Kq hKq => ?_; conv => whnf)
          (refine hKq _ _ _ (.refl _) ?_; clear hKq Kq; conv => whnf)
          (refine VSeq.mk fun Kq hKq => ?_; conv => whnf)
          (refine VSeq.mk fun Kq hKq => ?_; conv => whnf)
          (refine VSeq.mk fun Kq hKq => ?_; conv => whnf)
          (refine hKq _ _ _ (.refl _) ?_; clear hKq Kq; conv => whnf)
          (refine And.intro (fun _ => ?_) (fun h => absurd (by first | rfl | assumption | omega | decide) (of_decide_eq_false h)); conv => whnf)
          (refine hKq _ _ _ (.refl _) ?_; clear hKq Kq; conv => whnf)
          (refine hKq _ _ _ (.refl _) ?_; clear hKq Kq; conv => whnf)
          (refine VSeq.mk fun Kq hKq => ?_; conv => whnf)
          (refine VSeq.mk fun Kq hKq => ?_; conv => whnf)
          (refine hKq _ _ _ (.refl _) ?_; clear hKq Kq; conv => whnf)
          (refine And.intro (fun h => absurd (of_decide_eq_true h) (by first | (intro h2; exact absurd rfl h2) | omega | decide)) (fun _ => ?_); conv => whnf)
          (refine hKq _ _ _ (.refl _) ?_; clear hKq Kq; conv => whnf)
          (refine And.intro (fun h => absurd (of_decide_eq_true h) (by first | (intro h2; exact absurd rfl h2) | omega | decide)) (fun _ => ?_); conv => whnf)
          (refine hKq _ _ _ (.refl _) ?_; clear hKq Kq; conv => whnf)
          (refine Or.inl (And.intro (by first | omega | decide) ?_); conv => whnf)
          exact ⟨m2 - 1, _, by omega, ⟨j + 1, by omega, rfl, hp⟩, sub_cons rfl (sub_cons rfl (sub_cons rfl (sub_cons rfl (sub_cons rfl (sub_cons rfl (sub_nil))))))⟩
        · (refine V.CallW.out ?_; (conv => arg 3; dsimp only [EV.val, List.toList_toArray, List.nil_append, List.append_nil, List.cons_append]); (with_reducible refine V.PureF.useW (c1) fun w hx => ?_); try (have hp := hp.call hx); conv => whnf)
          (refine hKq _ _ _ (.refl _) ?_; clear hKq Kq; conv => whnf)
          (refine VSeq.mk fun Kq hKq => ?_; conv => whnf)
          (refine hKq _ _ _ (.refl _) ?_; clear hKq Kq; conv => whnf)
          (refine VSeq.mk fun Kq hKq => ?_; conv => whnf)
          (refine VSeq.mk fun Kq hKq => ?_; conv => whnf)
          (refine VSeq.mk fun Kq hKq => ?_; conv => whnf)
          (refine hKq _ _ _ (.refl _) ?_; clear hKq Kq; conv => whnf)
          (refine And.intro (fun h => absurd (of_decide_eq_true h) (by first | (intro h2; exact absurd rfl h2) | omega | decide)) (fun _ => ?_); conv => whnf)
          (refine hKq _ _ _ (.refl _) ?_; clear hKq Kq; conv => whnf)
          (refine And.intro (fun _ => ?_) (fun h => absurd (by first | rfl | assumption | omega | decide) (of_decide_eq_false h)); conv => whnf)
          (refine hKq _ _ _ (.refl _) ?_; clear hKq Kq; conv => whnf)
          (refine VSeq.mk fun Kq hKq => ?_; conv => whnf)
          (refine VSeq.mk fun Kq hKq => ?_; conv => whnf)
          (refine hKq _ _ _ (.refl _) ?_; clear hKq Kq; conv => whnf)
          (refine And.intro (fun h => absurd (of_decide_eq_true h) (by first | (intro h2; exact absurd rfl h2) | omega | decide)) (fun _ => ?_); conv => whnf)
          (refine hKq _ _ _ (.refl _) ?_; clear hKq Kq; conv => whnf)
          (refine And.intro (fun h => absurd (of_decide_eq_true h) (by first | (intro h2; exact absurd rfl h2) | omega | decide)) (fun _ => ?_); conv => whnf)
          (refine hKq _ _ _ (.refl _) ?_; clear hKq Kq; conv => whnf)
          (refine Or.inl (And.intro (by first | omega | decide) ?_); conv => whnf)
          exact ⟨m2 - 1, _, by omega, ⟨j + 1, by omega, rfl, hp⟩, sub_cons rfl (sub_cons rfl (sub_cons rfl (sub_cons rfl (sub_cons rfl (sub_cons rfl (sub_nil))))))⟩
      · by_cases h2 : 128 < re.size
        · have c1 := Reason_long n re (by omega) h2
          (refine V.CallW.out ?_; (conv => arg 3; dsimp only [EV.val, List.toList_toArray, List.nil_append, List.append_nil, List.cons_append]); (with_reducible refine V.PureF.useW (c1) fun w hx => ?_); try (have hp := hp.call hx); conv => whnf)
          (refine hKq _ _ _ (.refl _) ?_; clear hKq Kq; conv => whnf)
          (refine VSeq.mk fun Kq hKq => ?_; conv => whnf)
          (refine hKq _ _ _ (.refl _) ?_; clear hKq Kq; conv => whnf)
          (refine VSeq.mk fun Kq hKq => ?_; conv => whnf)
          (refine VSeq.mk fun Kq hKq => ?_; conv => whnf)
          (refine VSeq.mk fun Kq hKq => ?_; conv => whnf)
          (refine hKq _ _ _ (.refl _) ?_; clear hKq Kq; conv => whnf)
          (refine And.intro (fun h => absurd (of_decide_eq_true h) (by first | (intro h2; exact absurd rfl h2) | omega | decide)) (fun _ => ?_); conv => whnf)
          (refine hKq _ _ _ (.refl _) ?_; clear hKq Kq; conv => whnf)
          (refine And.intro (fun h => absurd (of_decide_eq_true h) (by first | (intro h2; exact absurd rfl h2) | omega | decide)) (fun _ => ?_); conv => whnf)
          (refine VSeq.mk fun Kq hKq => ?_; conv => whnf)
          (refine hKq _ _ _ (.refl _) ?_; clear hKq Kq; conv => whnf)
          (refine And.intro (fun _ => ?_) (fun h => absurd (by first | rfl | assumption | omega | decide) (of_decide_eq_false h)); conv => whnf)
          (refine hKq _ _ _ (.refl _) ?_; clear hKq Kq; conv => whnf)
          (refine VSeq.mk fun Kq hKq => ?_; conv => whnf)
          (refine VSeq.mk fun Kq hKq => ?_; conv => whnf)
          (refine hKq _ _ _ (.refl _) ?_; clear hKq Kq; conv => whnf)
          (refine And.intro (fun h => absurd (of_decide_eq_true h) (by first | (intro h2; exact absurd rfl h2) | omega | decide)) (fun _ => ?_); conv => whnf)
          (refine hKq _ _ _ (.refl _) ?_; clear hKq Kq; conv => whnf)
          (refine And.intro (fun h => absurd (of_decide_eq_true h) (by first | (intro h2; exact absurd rfl h2) | omega | decide)) (fun _ => ?_); conv => whnf)
          (refine hKq _ _ _ (.refl _) ?_; clear hKq Kq; conv => whnf)
          (refine Or.inl (And.intro (by first | omega | decide) ?_); conv => whnf)
          exact ⟨m2 - 1, _, by omega, ⟨j + 1, by omega, rfl, hp⟩, sub_cons rfl (sub_cons rfl (sub_cons rfl (sub_cons rfl (sub_cons rfl (sub_cons rfl (sub_nil))))))⟩
        · obtain ⟨m, rfl⟩ := Int.eq_ofNat_of_zero_le (show 0 ≤ n by omega)
          have c1 := Reason_ok m re (by omega) (by omega) (by omega)
          have c2 := reason8_p m re (by omega) (by omega)
          (refine V.CallW.out ?_; (conv => arg 3; dsimp only [EV.val, List.toList_toArray, List.nil_append, List.append_nil, List.cons_append]); (with_reducible refine V.PureF.useW (c1) fun w hx => ?_); try (have hp := hp.call hx); conv => whnf)
          (refine hKq _ _ _ (.refl _) ?_; clear hKq Kq; conv => whnf)
          (refine VSeq.mk fun Kq hKq => ?_; conv => whnf)
          (refine hKq _ _ _ (.refl _) ?_; clear hKq Kq; conv => whnf)
          (refine VSeq.mk fun Kq hKq => ?_; conv => whnf)
          (refine VSeq.mk fun Kq hKq => ?_; conv => whnf)
          (refine VSeq.mk fun Kq hKq => ?_; conv => whnf)
          (refine hKq _ _ _ (.refl _) ?_; clear hKq Kq; conv => whnf)
          (refine And.intro (fun h => absurd (of_decide_eq_true h) (by first | (intro h2; exact absurd rfl h2) | omega | decide)) (fun _ => ?_); conv => whnf)
          (refine hKq _ _ _ (.refl _) ?_; clear hKq Kq; conv => whnf)
          (refine And.intro (fun h => absurd (of_decide_eq_true h) (by first | (intro h2; exact absurd rfl h2) | omega | decide)) (fun _ => ?_); conv => whnf)
          (refine VSeq.mk fun Kq hKq => ?_; conv => whnf)
          (refine hKq _ _ _ (.refl _) ?_; clear hKq Kq; conv => whnf)
          (refine And.intro (fun h => absurd (of_decide_eq_true h) (by first | (intro h2; exact absurd rfl h2) | omega | decide)) (fun _ => ?_); conv => whnf)
          (refine V.CallW.out ?_; (conv => arg 3; dsimp only [EV.val, List.toList_toArray, List.nil_append, List.append_nil, List.cons_append]); (with_reducible refine V.PureF.useW (c2) fun w hx => ?_); try (have hp := hp.call hx); conv => whnf)
          (refine hKq _ _ _ (.refl _) ?_; clear hKq Kq; conv => whnf)
          (refine VSeq.mk fun Kq hKq => ?_; conv => whnf)
          (refine VSeq.mk fun Kq hKq => ?_; conv => whnf)
          (refine hKq _ _ _ (.refl _) ?_; clear hKq Kq; conv => whnf)
          (refine And.intro (fun h => absurd (of_decide_eq_true h) (by first | (intro h2; exact absurd rfl h2) | omega | decide)) (fun _ => ?_); conv => whnf)
          (refine hKq _ _ _ (.refl _) ?_; clear hKq Kq; conv => whnf)
          (refine And.intro (fun h => absurd (of_decide_eq_true h) (by first | (intro h2; exact absurd rfl h2) | omega | decide)) (fun _ => ?_); conv => whnf)
          (refine hKq _ _ _ (.refl _) ?_; clear hKq Kq; conv => whnf)
          (refine Or.inl (And.intro (by first | omega | decide) ?_); conv => whnf)
          exact ⟨m2 - 1, _, by omega, ⟨j + 1, by omega, rfl, hp⟩, sub_cons rfl (sub_cons rfl (sub_cons rfl (sub_cons rfl (sub_cons rfl (sub_cons rfl (sub_nil))))))⟩
    · have hj := of_decide_eq_false hj
      conv => whnf
      clear hKq Kq
      refine hKq _ _ _ (.refl _) ?_
      clear hKq Kq
      conv => whnf
      refine VSeq.mk fun Kq hKq => ?_
      conv => whnf
      have c2 := reason8_p N re (by omega) (by omega)
      have zr : (reasonB N re).size = 4 + re.size := by unfold reasonB; rw [ByteArray.size_append]; rfl
      conv => whnf
      refine ⟨_, _, conv_u nu _, ?_⟩
      conv => whnf
      refine ⟨_, _, rem_u _ _ nu _, ?_⟩
      conv => whnf
      rw [hr]
      refine ⟨_, _, conv_i r hr4 _, ?_⟩
      conv => whnf
      refine Or.inl (And.intro (by omega) ?_)
      conv => whnf
      rw [eN]
      refine PureF.use (c2) fun w hx => ?_
      try (have hp := hp.call hx)
      conv => whnf
      refine hKq _ _ _ (.refl _) ?_
      clear hKq Kq
      conv => whnf
      refine VSeq.mk fun Kq hKq => ?_
      conv => whnf
      refine VSeq.mk fun Kq hKq => ?_
      conv => whnf
      generalize reasonB N re = good at *
      (refine ⟨_, _, Blk.ldV (vs := [_, _, _]) (hp.get (i := 0) rfl) TTok rfl rfl rfl, ?_⟩; conv => whnf)
      refine Calls.mono (se good (by omega)) ?_
      rintro _ w ⟨_, rfl, gx, rfl, zx, hx⟩
      refine ⟨_, rfl, ?_⟩
      have hp := hp.call hx
      conv => whnf
      (refine ⟨_, _, bld82_0_1_2 _ _ _ _, ?_⟩; conv => whnf)
      (refine hKq _ _ _ (.refl _) ?_; clear hKq Kq; conv => whnf)
      refine ⟨fun m2 e w' => ∃ (j : Nat), m2 + j = 3 ∧ e = [(223, .v (.agg #[.string va, .string good, .string gx])), (224, .v (.int .i64 j))] ∧ HpM [] W w' [blk q13 [.int .u16 at_, .int .u8 less, .string put] 32],
        ⟨3, _, ⟨0, by omega, rfl, hp⟩, sub_cons rfl (sub_cons rfl (sub_nil))⟩, ?_⟩
      clear hp hx hm2 hj
      repeat clear hp
      rintro m2 _ w ⟨j, hm2, rfl, hp⟩
      conv => whnf
      refine VSeq.mk fun Kq hKq => ?_
      conv => whnf
      refine hKq _ _ _ (.refl _) ?_
      clear hKq Kq
      conv => whnf
      refine VSeq.mk fun Kq hKq => ?_
      conv => whnf
      refine ⟨fun hj => ?_, fun hj => ?_⟩
      · have hj := of_decide_eq_true hj
        conv => whnf
        refine hKq _ _ _ (.refl _) ?_
        clear hKq Kq
        conv => whnf
        refine VSeq.mk fun Kq hKq => ?_
        conv => whnf
        refine VSeq.mk fun Kq hKq => ?_
        conv => whnf
        obtain ⟨v, hv, hix⟩ := ix3s va good gx j (by omega)
        refine ⟨_, _, hix _, ?_⟩
        conv => whnf
        refine hKq _ _ _ (.refl _) ?_
        clear hKq Kq
        conv => whnf
        refine VSeq.mk fun Kq hKq => ?_
        conv => whnf
        clear hix hv
        by_cases hR : rsnO v
        · have c1 := ReadReason_ok v hR
          have c2 := (rr8_in v hR.1 hR.2.2.2.2.1).1 hR
          (refine V.CallW.out ?_; (conv => arg 3; dsimp only [EV.val, List.toList_toArray, List.nil_append, List.append_nil, List.cons_append]); (with_reducible refine V.PureF.useW (c1) fun w hx => ?_); try (have hp := hp.call hx); conv => whnf)
          (refine hKq _ _ _ (.refl _) ?_; clear hKq Kq; conv => whnf)
          (refine VSeq.mk fun Kq hKq => ?_; conv => whnf)
          (refine V.CallW.out ?_; (conv => arg 3; dsimp only [EV.val, List.toList_toArray, List.nil_append, List.append_nil, List.cons_append]); (with_reducible refine V.PureF.useW (c2) fun w hx => ?_); try (have hp := hp.call hx); conv => whnf)
          (refine hKq _ _ _ (.refl _) ?_; clear hKq Kq; conv => whnf)
          (refine VSeq.mk fun Kq hKq => ?_; conv => whnf)
          (refine VSeq.mk fun Kq hKq => ?_; conv => whnf)
          (refine hKq _ _ _ (.refl _) ?_; clear hKq Kq; conv => whnf)
          (refine VSeq.mk fun Kq hKq => ?_; conv => whnf)
          (refine And.intro (fun h => absurd (of_decide_eq_true h) (by first | (intro h2; exact absurd rfl h2) | omega | decide)) (fun _ => ?_); conv => whnf)
          (refine hKq _ _ _ (.refl _) ?_; clear hKq Kq; conv => whnf)
          (refine VSeq.mk fun Kq hKq => ?_; conv => whnf)
          (refine And.intro (fun h => absurd (of_decide_eq_true h) (by first | (intro h2; exact absurd rfl h2) | omega | decide)) (fun _ => ?_); conv => whnf)
          refine ⟨_, _, neq_bool8 _ _ _ _ _, ?_⟩
          conv => whnf
          refine hKq _ _ _ (.refl _) ?_
          clear hKq Kq
          conv => whnf
          rw [show (true ^^ decide ((0 : Int) = 0)) = false from rfl]
          (refine And.intro (fun h => absurd h (by decide)) (fun _ => ?_); conv => whnf)
          (refine And.intro (fun h => absurd h (by decide)) (fun _ => ?_); conv => whnf)
          (refine hKq _ _ _ (.refl _) ?_; clear hKq Kq; conv => whnf)
          (refine hKq _ _ _ (.refl _) ?_; clear hKq Kq; conv => whnf)
          (refine Or.inl (And.intro (by first | omega | decide) ?_); conv => whnf)
          exact ⟨m2 - 1, _, by omega, ⟨j + 1, by omega, rfl, hp⟩, sub_cons rfl (sub_cons rfl (sub_nil))⟩
        · have c1 := ReadReason_no v hR
          have c2 : PureF Tryz.prog 38 #[.string v] (.tuple #[.int .i64 0, .string ⟨#[]⟩, .bool false]) := by
            by_cases hs : 4 ≤ v.size ∧ v.size ≤ 132
            · exact (rr8_in v hs.1 hs.2).2 hR
            · exact rr8_size v (by omega)
          (refine V.CallW.out ?_; (conv => arg 3; dsimp only [EV.val, List.toList_toArray, List.nil_append, List.append_nil, List.cons_append]); (with_reducible refine V.PureF.useW (c1) fun w hx => ?_); try (have hp := hp.call hx); conv => whnf)
          (refine hKq _ _ _ (.refl _) ?_; clear hKq Kq; conv => whnf)
          (refine VSeq.mk fun Kq hKq => ?_; conv => whnf)
          (refine V.CallW.out ?_; (conv => arg 3; dsimp only [EV.val, List.toList_toArray, List.nil_append, List.append_nil, List.cons_append]); (with_reducible refine V.PureF.useW (c2) fun w hx => ?_); try (have hp := hp.call hx); conv => whnf)
          (refine hKq _ _ _ (.refl _) ?_; clear hKq Kq; conv => whnf)
          (refine VSeq.mk fun Kq hKq => ?_; conv => whnf)
          (refine VSeq.mk fun Kq hKq => ?_; conv => whnf)
          (refine hKq _ _ _ (.refl _) ?_; clear hKq Kq; conv => whnf)
          (refine VSeq.mk fun Kq hKq => ?_; conv => whnf)
          (refine And.intro (fun h => absurd (of_decide_eq_true h) (by first | (intro h2; exact absurd rfl h2) | omega | decide)) (fun _ => ?_); conv => whnf)
          (refine hKq _ _ _ (.refl _) ?_; clear hKq Kq; conv => whnf)
          (refine VSeq.mk fun Kq hKq => ?_; conv => whnf)
          (refine And.intro (fun h => absurd (of_decide_eq_true h) (by first | (intro h2; exact absurd rfl h2) | omega | decide)) (fun _ => ?_); conv => whnf)
          refine ⟨_, _, neq_bool8 _ _ _ _ _, ?_⟩
          conv => whnf
          refine hKq _ _ _ (.refl _) ?_
          clear hKq Kq
          conv => whnf
          rw [show (false ^^ decide ((5 : Int) = 0)) = false from rfl]
          (refine And.intro (fun h => absurd h (by decide)) (fun _ => ?_); conv => whnf)
          (refine And.intro (fun _ => ?_) (fun h => absurd h (by decide)); conv => whnf)
          (refine hKq _ _ _ (.refl _) ?_; clear hKq Kq; conv => whnf)
          (refine And.intro (fun h => absurd (of_decide_eq_true h) (by first | (intro h2; exact absurd rfl h2) | omega | decide)) (fun _ => ?_); conv => whnf)
          (refine hKq _ _ _ (.refl _) ?_; clear hKq Kq; conv => whnf)
          (refine Or.inl (And.intro (by first | omega | decide) ?_); conv => whnf)
          exact ⟨m2 - 1, _, by omega, ⟨j + 1, by omega, rfl, hp⟩, sub_cons rfl (sub_cons rfl (sub_nil))⟩
      · have hj := of_decide_eq_false hj
        conv => whnf
        clear hKq Kq
        refine hKq _ _ _ (.refl _) ?_
        clear hKq Kq
        conv => whnf
        refine VSeq.mk fun Kq hKq => ?_
        conv => whnf
        refine hKq _ _ _ (.refl _) ?_
        clear hKq Kq
        conv => whnf
        conv => whnf
        exact ⟨rfl, hp.ext⟩
  refine ⟨fun mm e w' => ∃ (k : Nat), mm + k = 2 ∧ e = [(2, .v (.string va)), (3, .v (.int .i64 nu)), (4, .v (.string re)), (8, .v (.pointer (some ⟨q8, 0, none⟩))), (13, .v (.pointer (some ⟨q13, 0, none⟩))), (15, .v (.string id)), (16, .v (.pointer (some ⟨b16, 0, none⟩))), (79, .v (.agg #[.string id1, .string id])), (80, .v (.int .i64 k))] ∧ HpM [] W w' [blk b16 [.string h, .int .i64 pt] 63, blk q13 [.int .u16 at_, .int .u8 less, .string put] 32, blk q8 [.string gh, .int .i64 rp] 63],
    ⟨2, _, ⟨0, by omega, rfl, hp⟩, sub_cons rfl (sub_cons rfl (sub_cons rfl (sub_cons rfl (sub_cons rfl (sub_cons rfl (sub_cons rfl (sub_cons rfl (sub_cons rfl sub_nil))))))))⟩, ?_⟩
  clear hp hx hKq
  repeat clear hp
  rintro mm _ w ⟨k, hmm, rfl, hp⟩
  conv => whnf
  refine VSeq.mk fun Kq hKq => ?_
  conv => whnf
  refine hKq _ _ _ (.refl _) ?_
  clear hKq Kq
  conv => whnf
  refine VSeq.mk fun Kq hKq => ?_
  conv => whnf
  refine ⟨fun hlt => ?_, fun hlt => ?_⟩
  · have hlt := of_decide_eq_true hlt
    conv => whnf
    refine hKq _ _ _ (.refl _) ?_
    clear hKq Kq
    conv => whnf
    refine VSeq.mk fun Kq hKq => ?_
    conv => whnf
    refine VSeq.mk fun Kq hKq => ?_
    conv => whnf
    obtain ⟨s, hs, hix⟩ := ix2s id1 id k (by omega)
    have zs : s.size ≤ 20 := by rcases hs with rfl | rfl <;> omega
    refine ⟨_, _, hix _, ?_⟩
    conv => whnf
    refine hKq _ _ _ (.refl _) ?_
    clear hKq Kq
    conv => whnf
    refine VSeq.mk fun Kq hKq => ?_
    conv => whnf
    refine VSeq.mk fun Kq hKq => ?_
    conv => whnf
    clear hix hs
    (refine ⟨_, _, Blk.ldV (vs := [_, _]) (hp.get (i := 2) rfl) TTok rfl rfl rfl, ?_⟩; conv => whnf)
    (refine ⟨_, _, Blk.ldV (vs := [_, _]) (hp.get (i := 0) rfl) TTok rfl rfl rfl, ?_⟩; conv => whnf)
    (refine ⟨_, _, bld69_0_1 _ _ _ _ _, ?_⟩; conv => whnf)
    (refine hKq _ _ _ (.refl _) ?_; clear hKq Kq; conv => whnf)
    refine ⟨fun m2 e w' => ∃ (j : Nat), m2 + j = 2 ∧ e = [(2, .v (.string va)), (3, .v (.int .i64 nu)), (4, .v (.string re)), (8, .v (.pointer (some ⟨q8, 0, none⟩))), (13, .v (.pointer (some ⟨q13, 0, none⟩))), (15, .v (.string id)), (16, .v (.pointer (some ⟨b16, 0, none⟩))), (18, .v (.string s)), (79, .v (.agg #[.string id1, .string id])), (80, .v (.int .i64 k)), (85, .v (.agg #[.string gh, .int .i64 rp, .string h, .int .i64 pt])), (86, .v (.int .i64 j))] ∧ HpM [] W w' [blk b16 [.string h, .int .i64 pt] 63, blk q13 [.int .u16 at_, .int .u8 less, .string put] 32, blk q8 [.string gh, .int .i64 rp] 63],
      ⟨2, _, ⟨0, by omega, rfl, hp⟩, sub_cons rfl (sub_cons rfl (sub_cons rfl (sub_cons rfl (sub_cons rfl (sub_cons rfl (sub_cons rfl (sub_cons rfl (sub_cons rfl (sub_cons rfl (sub_cons rfl (sub_cons rfl sub_nil)))))))))))⟩, ?_⟩
    clear hp
    repeat clear hp
    rintro m2 _ w ⟨j, hm2, rfl, hp⟩
    conv => whnf
    refine VSeq.mk fun Kq hKq => ?_
    conv => whnf
    refine hKq _ _ _ (.refl _) ?_
    clear hKq Kq
    conv => whnf
    refine VSeq.mk fun Kq hKq => ?_
    conv => whnf
    refine ⟨fun hj => ?_, fun hj => ?_⟩
    · have hj := of_decide_eq_true hj
      conv => whnf
      refine hKq _ _ _ (.refl _) ?_
      clear hKq Kq
      conv => whnf
      refine VSeq.mk fun Kq hKq => ?_
      conv => whnf
      refine VSeq.mk fun Kq hKq => ?_
      conv => whnf
      obtain ⟨g, q, hs2, hix⟩ := ix2a gh h rp pt j (by omega)
      refine ⟨_, _, hix _, ?_⟩
      conv => whnf
      clear hix hs2
      have h7 := right7_p g q
      by_cases h12 : s.size = 12
      · by_cases hb : addrB g q = true
        · obtain ⟨b1, b2, b3⟩ := addrB_t hb
          rw [hb] at h7
          obtain ⟨Q, rfl⟩ := Int.eq_ofNat_of_zero_le b2
          have c1 := Mixed_ok s g Q h12 b1 (by omega)
          have c2 := mixed8_p s g Q h12 b1 (by omega)
          (refine hp.kalloc z63 fun al63 w hp hx => ?_; conv => whnf)
          (refine hp.kstA TTok rfl 0 rfl rfl (oneC_of rfl) (by rfl) fun w hp => ?_; try simp only [List.set_cons_zero, List.set_cons_succ, EV.val] at hp; conv => whnf)
          (refine hKq _ _ _ (.refl _) ?_; clear hKq Kq; conv => whnf)
          (refine VSeq.mk fun Kq hKq => ?_; conv => whnf)
          (refine ⟨_, _, Blk.ldV (vs := [_, _]) (hp.get (i := 0) rfl) TTok rfl rfl rfl, ?_⟩; conv => whnf)
          (refine V.CallW.out ?_; (conv => arg 3; dsimp only [EV.val, List.toList_toArray, List.nil_append, List.append_nil, List.cons_append]); (with_reducible refine V.PureF.useW (c1) fun w hx => ?_); try (have hp := hp.call hx); conv => whnf)
          (refine hKq _ _ _ (.refl _) ?_; clear hKq Kq; conv => whnf)
          (refine VSeq.mk fun Kq hKq => ?_; conv => whnf)
          (refine hKq _ _ _ (.refl _) ?_; clear hKq Kq; conv => whnf)
          (refine VSeq.mk fun Kq hKq => ?_; conv => whnf)
          (refine VSeq.mk fun Kq hKq => ?_; conv => whnf)
          (refine VSeq.mk fun Kq hKq => ?_; conv => whnf)
          (refine hKq _ _ _ (.refl _) ?_; clear hKq Kq; conv => whnf)
          (refine And.intro (fun _ => ?_) (fun h => absurd (by first | rfl | assumption | omega | decide) (of_decide_eq_false h)); conv => whnf)
          (refine ⟨_, _, Blk.ldV (vs := [_, _]) (hp.get (i := 0) rfl) TTok rfl rfl rfl, ?_⟩; conv => whnf)
          (refine V.CallW.out ?_; (conv => arg 3; dsimp only [EV.val, List.toList_toArray, List.nil_append, List.append_nil, List.cons_append]); (with_reducible refine V.PureF.useW (h7) fun w hx => ?_); try (have hp := hp.call hx); conv => whnf)
          (refine hKq _ _ _ (.refl _) ?_; clear hKq Kq; conv => whnf)
          (refine And.intro (fun _ => ?_) (fun h => absurd h (by decide)); conv => whnf)
          (refine ⟨_, _, Blk.ldV (vs := [_, _]) (hp.get (i := 0) rfl) TTok rfl rfl rfl, ?_⟩; conv => whnf)
          (refine V.CallW.out ?_; (conv => arg 3; dsimp only [EV.val, List.toList_toArray, List.nil_append, List.append_nil, List.cons_append]); (with_reducible refine V.PureF.useW (c2) fun w hx => ?_); try (have hp := hp.call hx); conv => whnf)
          (refine hKq _ _ _ (.refl _) ?_; clear hKq Kq; conv => whnf)
          (refine VSeq.mk fun Kq hKq => ?_; conv => whnf)
          (refine VSeq.mk fun Kq hKq => ?_; conv => whnf)
          (refine hKq _ _ _ (.refl _) ?_; clear hKq Kq; conv => whnf)
          (refine And.intro (fun h => absurd (of_decide_eq_true h) (by first | (intro h2; exact absurd rfl h2) | omega | decide)) (fun _ => ?_); conv => whnf)
          (refine hKq _ _ _ (.refl _) ?_; clear hKq Kq; conv => whnf)
          (refine And.intro (fun h => absurd (of_decide_eq_true h) (by first | (intro h2; exact absurd rfl h2) | omega | decide)) (fun _ => ?_); conv => whnf)
          (refine hKq _ _ _ (.refl _) ?_; clear hKq Kq; conv => whnf)
          (refine Or.inl (And.intro (by first | omega | decide) ?_); conv => whnf)
          exact ⟨m2 - 1, _, by omega, ⟨j + 1, by omega, rfl, hp.sub (List.sublist_cons_self _ _)⟩, sub_cons rfl (sub_cons rfl (sub_cons rfl (sub_cons rfl (sub_cons rfl (sub_cons rfl (sub_cons rfl (sub_cons rfl (sub_cons rfl (sub_cons rfl (sub_cons rfl (sub_cons rfl sub_nil)))))))))))⟩
        · have hb : addrB g q = false := by simpa using hb
          rw [hb] at h7
          have c1 := Mixed_bad s g q hb
          (refine hp.kalloc z63 fun al63 w hp hx => ?_; conv => whnf)
          (refine hp.kstA TTok rfl 0 rfl rfl (oneC_of rfl) (by rfl) fun w hp => ?_; try simp only [List.set_cons_zero, List.set_cons_succ, EV.val] at hp; conv => whnf)
          (refine hKq _ _ _ (.refl _) ?_; clear hKq Kq; conv => whnf)
          (refine VSeq.mk fun Kq hKq => ?_; conv => whnf)
          (refine ⟨_, _, Blk.ldV (vs := [_, _]) (hp.get (i := 0) rfl) TTok rfl rfl rfl, ?_⟩; conv => whnf)
          (refine V.CallW.out ?_; (conv => arg 3; dsimp only [EV.val, List.toList_toArray, List.nil_append, List.append_nil, List.cons_append]); (with_reducible refine V.PureF.useW (c1) fun w hx => ?_); try (have hp := hp.call hx); conv => whnf)
          (refine hKq _ _ _ (.refl _) ?_; clear hKq Kq; conv => whnf)
          (refine VSeq.mk fun Kq hKq => ?_; conv => whnf)
          (refine hKq _ _ _ (.refl _) ?_; clear hKq Kq; conv => whnf)
          (refine VSeq.mk fun Kq hKq => ?_; conv => whnf)
          (refine VSeq.mk fun Kq hKq => ?_; conv => whnf)
          (refine VSeq.mk fun Kq hKq => ?_; conv => whnf)
          (refine hKq _ _ _ (.refl _) ?_; clear hKq Kq; conv => whnf)
          (refine And.intro (fun _ => ?_) (fun h => absurd (by first | rfl | assumption | omega | decide) (of_decide_eq_false h)); conv => whnf)
          (refine ⟨_, _, Blk.ldV (vs := [_, _]) (hp.get (i := 0) rfl) TTok rfl rfl rfl, ?_⟩; conv => whnf)
          (refine V.CallW.out ?_; (conv => arg 3; dsimp only [EV.val, List.toList_toArray, List.nil_append, List.append_nil, List.cons_append]); (with_reducible refine V.PureF.useW (h7) fun w hx => ?_); try (have hp := hp.call hx); conv => whnf)
          (refine hKq _ _ _ (.refl _) ?_; clear hKq Kq; conv => whnf)
          (refine And.intro (fun h => absurd h (by decide)) (fun _ => ?_); conv => whnf)
          (refine hKq _ _ _ (.refl _) ?_; clear hKq Kq; conv => whnf)
          (refine VSeq.mk fun Kq hKq => ?_; conv => whnf)
          (refine VSeq.mk fun Kq hKq => ?_; conv => whnf)
          (refine hKq _ _ _ (.refl _) ?_; clear hKq Kq; conv => whnf)
          (refine And.intro (fun h => absurd (of_decide_eq_true h) (by first | (intro h2; exact absurd rfl h2) | omega | decide)) (fun _ => ?_); conv => whnf)
          (refine hKq _ _ _ (.refl _) ?_; clear hKq Kq; conv => whnf)
          (refine And.intro (fun h => absurd (of_decide_eq_true h) (by first | (intro h2; exact absurd rfl h2) | omega | decide)) (fun _ => ?_); conv => whnf)
          (refine hKq _ _ _ (.refl _) ?_; clear hKq Kq; conv => whnf)
          (refine Or.inl (And.intro (by first | omega | decide) ?_); conv => whnf)
          exact ⟨m2 - 1, _, by omega, ⟨j + 1, by omega, rfl, hp.sub (List.sublist_cons_self _ _)⟩, sub_cons rfl (sub_cons rfl (sub_cons rfl (sub_cons rfl (sub_cons rfl (sub_cons rfl (sub_cons rfl (sub_cons rfl (sub_cons rfl (sub_cons rfl (sub_cons rfl (sub_cons rfl sub_nil)))))))))))⟩
      · have c1 := Mixed_id s g q h12
        (refine hp.kalloc z63 fun al63 w hp hx => ?_; conv => whnf)
        (refine hp.kstA TTok rfl 0 rfl rfl (oneC_of rfl) (by rfl) fun w hp => ?_; try simp only [List.set_cons_zero, List.set_cons_succ, EV.val] at hp; conv => whnf)
        (refine hKq _ _ _ (.refl _) ?_; clear hKq Kq; conv => whnf)
        (refine VSeq.mk fun Kq hKq => ?_; conv => whnf)
        (refine ⟨_, _, Blk.ldV (vs := [_, _]) (hp.get (i := 0) rfl) TTok rfl rfl rfl, ?_⟩; conv => whnf)
        (refine V.CallW.out ?_; (conv => arg 3; dsimp only [EV.val, List.toList_toArray, List.nil_append, List.append_nil, List.cons_append]); (with_reducible refine V.PureF.useW (c1) fun w hx => ?_); try (have hp := hp.call hx); conv => whnf)
        (refine hKq _ _ _ (.refl _) ?_; clear hKq Kq; conv => whnf)
        (refine VSeq.mk fun Kq hKq => ?_; conv => whnf)
        (refine hKq _ _ _ (.refl _) ?_; clear hKq Kq; conv => whnf)
        (refine VSeq.mk fun Kq hKq => ?_; conv => whnf)
        (refine VSeq.mk fun Kq hKq => ?_; conv => whnf)
        (refine VSeq.mk fun Kq hKq => ?_; conv => whnf)
        (refine hKq _ _ _ (.refl _) ?_; clear hKq Kq; conv => whnf)
        (refine And.intro (fun h => absurd (of_decide_eq_true h) (by first | (intro h2; exact absurd rfl h2) | omega | decide)) (fun _ => ?_); conv => whnf)
        (refine hKq _ _ _ (.refl _) ?_; clear hKq Kq; conv => whnf)
        (refine hKq _ _ _ (.refl _) ?_; clear hKq Kq; conv => whnf)
        (refine VSeq.mk fun Kq hKq => ?_; conv => whnf)
        (refine VSeq.mk fun Kq hKq => ?_; conv => whnf)
        (refine hKq _ _ _ (.refl _) ?_; clear hKq Kq; conv => whnf)
        (refine And.intro (fun h => absurd (of_decide_eq_true h) (by first | (intro h2; exact absurd rfl h2) | omega | decide)) (fun _ => ?_); conv => whnf)
        (refine hKq _ _ _ (.refl _) ?_; clear hKq Kq; conv => whnf)
        (refine And.intro (fun h => absurd (of_decide_eq_true h) (by first | (intro h2; exact absurd rfl h2) | omega | decide)) (fun _ => ?_); conv => whnf)
        (refine hKq _ _ _ (.refl _) ?_; clear hKq Kq; conv => whnf)
        (refine Or.inl (And.intro (by first | omega | decide) ?_); conv => whnf)
        exact ⟨m2 - 1, _, by omega, ⟨j + 1, by omega, rfl, hp.sub (List.sublist_cons_self _ _)⟩, sub_cons rfl (sub_cons rfl (sub_cons rfl (sub_cons rfl (sub_cons rfl (sub_cons rfl (sub_cons rfl (sub_cons rfl (sub_cons rfl (sub_cons rfl (sub_cons rfl (sub_cons rfl sub_nil)))))))))))⟩
    · have hj := of_decide_eq_false hj
      conv => whnf
      clear hKq Kq
      refine hKq _ _ _ (.refl _) ?_
      clear hKq Kq
      conv => whnf
      refine VSeq.mk fun Kq hKq => ?_
      conv => whnf
      have c3 := mixed8_p id h pt zi hh (by omega)
      have zg := mixB_size id h pt zi hh
      have h2 := hostB_t hh
      (refine ⟨_, _, Blk.ldV (vs := [_, _]) (hp.get (i := 0) rfl) TTok rfl rfl rfl, ?_⟩; conv => whnf)
      (refine V.CallW.out ?_; (conv => arg 3; dsimp only [EV.val, List.toList_toArray, List.nil_append, List.append_nil, List.cons_append]); (with_reducible refine V.PureF.useW (c3) fun w hx => ?_); try (have hp := hp.call hx); conv => whnf)
      (refine hKq _ _ _ (.refl _) ?_; clear hKq Kq; conv => whnf)
      (refine VSeq.mk fun Kq hKq => ?_; conv => whnf)
      generalize mixB id h pt = good at *
      refine v_mixA TTok FFok mixed [(0, false), (1, false), (2, false), (3, false), (5, false), (6, false), (7, false), (8, false), (9, false), (11, false), (4, true), (10, false)] (by kernel_rfl) ?_
      conv => whnf
      (refine ⟨_, fun w' hx' => Blk.ldV (vs := [_, _, _]) (Blk.ext (hp.get (i := 1) rfl) hx') TTok rfl rfl rfl, ?_⟩; conv => whnf)
      (refine Or.inl (And.intro (by first | omega | decide) ?_); conv => whnf)
      refine ⟨good.size - 1, ⟨by first | rfl | omega, by omega⟩, ?_⟩
      conv => whnf
      (intro w hx; try (have hp := hp.call hx); conv => whnf)
      refine Calls.mono (se good (by omega)) ?_
      rintro _ w ⟨_, rfl, gx, rfl, zx, hx⟩
      refine ⟨_, rfl, ?_⟩
      have hp := hp.call hx
      conv => whnf
      refine And.intro hx ?_
      conv => whnf
      (refine ⟨_, fun w' hx' => bld73_0_1_2_3 w' _ _ _ _, ?_⟩; conv => whnf)
      (intro w hx; try (have hp := hp.call hx); conv => whnf)
      (refine hKq _ _ _ (.refl _) ?_; clear hKq Kq; conv => whnf)
      refine ⟨fun m2 e w' => ∃ (j : Nat), m2 + j = 4 ∧ e = [(2, .v (.string va)), (3, .v (.int .i64 nu)), (4, .v (.string re)), (8, .v (.pointer (some ⟨q8, 0, none⟩))), (13, .v (.pointer (some ⟨q13, 0, none⟩))), (15, .v (.string id)), (16, .v (.pointer (some ⟨b16, 0, none⟩))), (18, .v (.string s)), (79, .v (.agg #[.string id1, .string id])), (80, .v (.int .i64 k)), (127, .v (.agg #[.string va, .string good, .string gx, .string (good.extract 0 (good.size - 1))])), (128, .v (.int .i64 j))] ∧ HpM [] W w' [blk b16 [.string h, .int .i64 pt] 63, blk q13 [.int .u16 at_, .int .u8 less, .string put] 32, blk q8 [.string gh, .int .i64 rp] 63],
        ⟨4, _, ⟨0, by omega, rfl, hp⟩, sub_cons rfl (sub_cons rfl (sub_cons rfl (sub_cons rfl (sub_cons rfl (sub_cons rfl (sub_cons rfl (sub_cons rfl (sub_cons rfl (sub_cons rfl (sub_cons rfl (sub_cons rfl (sub_nil))))))))))))⟩, ?_⟩
      clear hp hx hm2 hj
      repeat clear hp
      rintro m2 _ w ⟨j, hm2, rfl, hp⟩
      conv => whnf
      refine VSeq.mk fun Kq hKq => ?_
      conv => whnf
      refine hKq _ _ _ (.refl _) ?_
      clear hKq Kq
      conv => whnf
      refine VSeq.mk fun Kq hKq => ?_
      conv => whnf
      refine ⟨fun hj => ?_, fun hj => ?_⟩
      · have hj := of_decide_eq_true hj
        conv => whnf
        refine hKq _ _ _ (.refl _) ?_
        clear hKq Kq
        conv => whnf
        refine VSeq.mk fun Kq hKq => ?_
        conv => whnf
        refine VSeq.mk fun Kq hKq => ?_
        conv => whnf
        obtain ⟨v, hv, hix⟩ := ix4s va good gx (good.extract 0 (good.size - 1)) j (by omega)
        refine ⟨_, _, hix _, ?_⟩
        conv => whnf
        refine hKq _ _ _ (.refl _) ?_
        clear hKq Kq
        conv => whnf
        refine VSeq.mk fun Kq hKq => ?_
        conv => whnf
        clear hix hv
        by_cases h12 : s.size = 12
        · by_cases h8 : v.size = 8 ∨ v.size = 20
          · have c1 := ReadMixed_rd s v h12 h8
            have c2 := rdm8_rd s v h12 h8
            have R := rdM h12 h8
            have ms : (rdmH s v).size ≤ maxLen := by have := hostB_t R.hh; unfold maxLen; omega
            have mi : in8 ((rdmP s v : Nat) : Int) := by have := R.pt; exact ⟨by omega, by omega⟩
            by_cases hE : mixB s (rdmH s v) (rdmP s v) = v
            · have c1 := c1.1 hE
              have c2 := c2.1 hE
              (refine V.CallW.out ?_; (conv => arg 3; dsimp only [EV.val, List.toList_toArray, List.nil_append, List.append_nil, List.cons_append]); (with_reducible refine V.PureF.useW (c1) fun w hx => ?_); try (have hp := hp.call hx); conv => whnf)
              (refine hp.kalloc z63 fun al63 w hp hx => ?_; conv => whnf)
              (refine hp.kstA TTok rfl 0 rfl rfl (oneC_of rfl) (by rfl) fun w hp => ?_; try simp only [List.set_cons_zero, List.set_cons_succ, EV.val] at hp; conv => whnf)
              (refine hKq _ _ _ (.refl _) ?_; clear hKq Kq; conv => whnf)
              (refine VSeq.mk fun Kq hKq => ?_; conv => whnf)
              (refine hKq _ _ _ (.refl _) ?_; clear hKq Kq; conv => whnf)
              (refine And.intro (fun h => absurd (of_decide_eq_true h) (by first | (intro h2; exact absurd rfl h2) | omega | decide)) (fun _ => ?_); conv => whnf)
              (refine VSeq.mk fun Kq hKq => ?_; conv => whnf)
              (refine V.CallW.out ?_; (conv => arg 3; dsimp only [EV.val, List.toList_toArray, List.nil_append, List.append_nil, List.cons_append]); (with_reducible refine V.PureF.useW (c2) fun w hx => ?_); try (have hp := hp.call hx); conv => whnf)
              (refine hp.kalloc z63 fun al63 w hp hx => ?_; conv => whnf)
              (refine hp.kstA TTok rfl 0 rfl rfl (oneC_of rfl) (by rfl) fun w hp => ?_; try simp only [List.set_cons_zero, List.set_cons_succ, EV.val] at hp; conv => whnf)
              (refine hKq _ _ _ (.refl _) ?_; clear hKq Kq; conv => whnf)
              (refine VSeq.mk fun Kq hKq => ?_; conv => whnf)
              (refine VSeq.mk fun Kq hKq => ?_; conv => whnf)
              (refine ⟨_, _, Blk.ldV (vs := [_, _]) (hp.get (i := 1) rfl) TTok rfl rfl rfl, ?_⟩; conv => whnf)
              (refine ⟨_, _, Blk.ldV (vs := [_, _]) (hp.get (i := 0) rfl) TTok rfl rfl rfl, ?_⟩; conv => whnf)
              refine ⟨_, _, addr8_same _ _ _ ms mi _ _, ?_⟩
              conv => whnf
              refine hKq _ _ _ (.refl _) ?_
              clear hKq Kq
              conv => whnf
              refine VSeq.mk fun Kq hKq => ?_
              conv => whnf
              (refine And.intro (fun h => absurd h (by decide)) (fun _ => ?_); conv => whnf)
              refine ⟨_, _, neq_bool8 _ _ _ _ _, ?_⟩
              conv => whnf
              refine hKq _ _ _ (.refl _) ?_
              clear hKq Kq
              conv => whnf
              rw [show (true ^^ decide ((0 : Int) = 0)) = false from rfl]
              (refine And.intro (fun h => absurd h (by decide)) (fun _ => ?_); conv => whnf)
              (refine And.intro (fun h => absurd h (by decide)) (fun _ => ?_); conv => whnf)
              (refine hKq _ _ _ (.refl _) ?_; clear hKq Kq; conv => whnf)
              (refine hKq _ _ _ (.refl _) ?_; clear hKq Kq; conv => whnf)
              (refine Or.inl (And.intro (by first | omega | decide) ?_); conv => whnf)
              exact ⟨m2 - 1, _, by omega, ⟨j + 1, by omega, rfl, hp.pick [2, 3, 4] (by decide)⟩, sub_cons rfl (sub_cons rfl (sub_cons rfl (sub_cons rfl (sub_cons rfl (sub_cons rfl (sub_cons rfl (sub_cons rfl (sub_cons rfl (sub_cons rfl (sub_cons rfl (sub_cons rfl (sub_nil))))))))))))⟩
            · have c1 := c1.2 hE
              have c2 := c2.2 hE
              (refine V.CallW.out ?_; (conv => arg 3; dsimp only [EV.val, List.toList_toArray, List.nil_append, List.append_nil, List.cons_append]); (with_reducible refine V.PureF.useW (c1) fun w hx => ?_); try (have hp := hp.call hx); conv => whnf)
              (refine hp.kalloc z63 fun al63 w hp hx => ?_; conv => whnf)
              (refine hp.kstA TTok rfl 0 rfl rfl (oneC_of rfl) (by rfl) fun w hp => ?_; try simp only [List.set_cons_zero, List.set_cons_succ, EV.val] at hp; conv => whnf)
              (refine hKq _ _ _ (.refl _) ?_; clear hKq Kq; conv => whnf)
              (refine VSeq.mk fun Kq hKq => ?_; conv => whnf)
              (refine hKq _ _ _ (.refl _) ?_; clear hKq Kq; conv => whnf)
              (refine And.intro (fun h => absurd (of_decide_eq_true h) (by first | (intro h2; exact absurd rfl h2) | omega | decide)) (fun _ => ?_); conv => whnf)
              (refine VSeq.mk fun Kq hKq => ?_; conv => whnf)
              (refine V.CallW.out ?_; (conv => arg 3; dsimp only [EV.val, List.toList_toArray, List.nil_append, List.append_nil, List.cons_append]); (with_reducible refine V.PureF.useW (c2) fun w hx => ?_); try (have hp := hp.call hx); conv => whnf)
              (refine hp.kalloc z63 fun al63 w hp hx => ?_; conv => whnf)
              (refine hp.kstA TTok rfl 0 rfl rfl (oneC_of rfl) (by rfl) fun w hp => ?_; try simp only [List.set_cons_zero, List.set_cons_succ, EV.val] at hp; conv => whnf)
              (refine hKq _ _ _ (.refl _) ?_; clear hKq Kq; conv => whnf)
              (refine VSeq.mk fun Kq hKq => ?_; conv => whnf)
              (refine VSeq.mk fun Kq hKq => ?_; conv => whnf)
              (refine ⟨_, _, Blk.ldV (vs := [_, _]) (hp.get (i := 1) rfl) TTok rfl rfl rfl, ?_⟩; conv => whnf)
              (refine ⟨_, _, Blk.ldV (vs := [_, _]) (hp.get (i := 0) rfl) TTok rfl rfl rfl, ?_⟩; conv => whnf)
              have ms : (⟨#[]⟩ : ByteArray).size ≤ maxLen := by unfold maxLen; decide
              have mi : in8 0 := ⟨by decide, by decide⟩
              refine ⟨_, _, addr8_same _ _ _ ms mi _ _, ?_⟩
              conv => whnf
              refine hKq _ _ _ (.refl _) ?_
              clear hKq Kq
              conv => whnf
              refine VSeq.mk fun Kq hKq => ?_
              conv => whnf
              (refine And.intro (fun h => absurd h (by decide)) (fun _ => ?_); conv => whnf)
              refine ⟨_, _, neq_bool8 _ _ _ _ _, ?_⟩
              conv => whnf
              refine hKq _ _ _ (.refl _) ?_
              clear hKq Kq
              conv => whnf
              rw [show (false ^^ decide ((5 : Int) = 0)) = false from rfl]
              (refine And.intro (fun h => absurd h (by decide)) (fun _ => ?_); conv => whnf)
              (refine And.intro (fun _ => ?_) (fun h => absurd h (by decide)); conv => whnf)
              (refine hKq _ _ _ (.refl _) ?_; clear hKq Kq; conv => whnf)
              (refine And.intro (fun h => absurd (of_decide_eq_true h) (by first | (intro h2; exact absurd rfl h2) | omega | decide)) (fun _ => ?_); conv => whnf)
              (refine hKq _ _ _ (.refl _) ?_; clear hKq Kq; conv => whnf)
              (refine Or.inl (And.intro (by first | omega | decide) ?_); conv => whnf)
              exact ⟨m2 - 1, _, by omega, ⟨j + 1, by omega, rfl, hp.pick [2, 3, 4] (by decide)⟩, sub_cons rfl (sub_cons rfl (sub_cons rfl (sub_cons rfl (sub_cons rfl (sub_cons rfl (sub_cons rfl (sub_cons rfl (sub_cons rfl (sub_cons rfl (sub_cons rfl (sub_cons rfl (sub_nil))))))))))))⟩
          · have c1 := ReadMixed_size s v h12 (by omega) (by omega)
            have c2 := rdm8_size s v h12 (by omega) (by omega)
            (refine V.CallW.out ?_; (conv => arg 3; dsimp only [EV.val, List.toList_toArray, List.nil_append, List.append_nil, List.cons_append]); (with_reducible refine V.PureF.useW (c1) fun w hx => ?_); try (have hp := hp.call hx); conv => whnf)
            (refine hp.kalloc z63 fun al63 w hp hx => ?_; conv => whnf)
            (refine hp.kstA TTok rfl 0 rfl rfl (oneC_of rfl) (by rfl) fun w hp => ?_; try simp only [List.set_cons_zero, List.set_cons_succ, EV.val] at hp; conv => whnf)
            (refine hKq _ _ _ (.refl _) ?_; clear hKq Kq; conv => whnf)
            (refine VSeq.mk fun Kq hKq => ?_; conv => whnf)
            (refine hKq _ _ _ (.refl _) ?_; clear hKq Kq; conv => whnf)
            (refine And.intro (fun h => absurd (of_decide_eq_true h) (by first | (intro h2; exact absurd rfl h2) | omega | decide)) (fun _ => ?_); conv => whnf)
            (refine VSeq.mk fun Kq hKq => ?_; conv => whnf)
            (refine V.CallW.out ?_; (conv => arg 3; dsimp only [EV.val, List.toList_toArray, List.nil_append, List.append_nil, List.cons_append]); (with_reducible refine V.PureF.useW (c2) fun w hx => ?_); try (have hp := hp.call hx); conv => whnf)
            (refine hp.kalloc z63 fun al63 w hp hx => ?_; conv => whnf)
            (refine hp.kstA TTok rfl 0 rfl rfl (oneC_of rfl) (by rfl) fun w hp => ?_; try simp only [List.set_cons_zero, List.set_cons_succ, EV.val] at hp; conv => whnf)
            (refine hKq _ _ _ (.refl _) ?_; clear hKq Kq; conv => whnf)
            (refine VSeq.mk fun Kq hKq => ?_; conv => whnf)
            (refine VSeq.mk fun Kq hKq => ?_; conv => whnf)
            (refine ⟨_, _, Blk.ldV (vs := [_, _]) (hp.get (i := 1) rfl) TTok rfl rfl rfl, ?_⟩; conv => whnf)
            (refine ⟨_, _, Blk.ldV (vs := [_, _]) (hp.get (i := 0) rfl) TTok rfl rfl rfl, ?_⟩; conv => whnf)
            have ms : (⟨#[]⟩ : ByteArray).size ≤ maxLen := by unfold maxLen; decide
            have mi : in8 0 := ⟨by decide, by decide⟩
            refine ⟨_, _, addr8_same _ _ _ ms mi _ _, ?_⟩
            conv => whnf
            refine hKq _ _ _ (.refl _) ?_
            clear hKq Kq
            conv => whnf
            refine VSeq.mk fun Kq hKq => ?_
            conv => whnf
            (refine And.intro (fun h => absurd h (by decide)) (fun _ => ?_); conv => whnf)
            refine ⟨_, _, neq_bool8 _ _ _ _ _, ?_⟩
            conv => whnf
            refine hKq _ _ _ (.refl _) ?_
            clear hKq Kq
            conv => whnf
            rw [show (false ^^ decide ((5 : Int) = 0)) = false from rfl]
            (refine And.intro (fun h => absurd h (by decide)) (fun _ => ?_); conv => whnf)
            (refine And.intro (fun _ => ?_) (fun h => absurd h (by decide)); conv => whnf)
            (refine hKq _ _ _ (.refl _) ?_; clear hKq Kq; conv => whnf)
            (refine And.intro (fun h => absurd (of_decide_eq_true h) (by first | (intro h2; exact absurd rfl h2) | omega | decide)) (fun _ => ?_); conv => whnf)
            (refine hKq _ _ _ (.refl _) ?_; clear hKq Kq; conv => whnf)
            (refine Or.inl (And.intro (by first | omega | decide) ?_); conv => whnf)
            exact ⟨m2 - 1, _, by omega, ⟨j + 1, by omega, rfl, hp.pick [2, 3, 4] (by decide)⟩, sub_cons rfl (sub_cons rfl (sub_cons rfl (sub_cons rfl (sub_cons rfl (sub_cons rfl (sub_cons rfl (sub_cons rfl (sub_cons rfl (sub_cons rfl (sub_cons rfl (sub_cons rfl (sub_nil))))))))))))⟩
        · have c1 := ReadMixed_id s v h12
          (refine V.CallW.out ?_; (conv => arg 3; dsimp only [EV.val, List.toList_toArray, List.nil_append, List.append_nil, List.cons_append]); (with_reducible refine V.PureF.useW (c1) fun w hx => ?_); try (have hp := hp.call hx); conv => whnf)
          (refine hp.kalloc z63 fun al63 w hp hx => ?_; conv => whnf)
          (refine hp.kstA TTok rfl 0 rfl rfl (oneC_of rfl) (by rfl) fun w hp => ?_; try simp only [List.set_cons_zero, List.set_cons_succ, EV.val] at hp; conv => whnf)
          (refine hKq _ _ _ (.refl _) ?_; clear hKq Kq; conv => whnf)
          (refine VSeq.mk fun Kq hKq => ?_; conv => whnf)
          (refine hKq _ _ _ (.refl _) ?_; clear hKq Kq; conv => whnf)
          (refine And.intro (fun _ => ?_) (fun h => absurd (by first | rfl | assumption | omega | decide) (of_decide_eq_false h)); conv => whnf)
          (refine VSeq.mk fun Kq hKq => ?_; conv => whnf)
          (refine VSeq.mk fun Kq hKq => ?_; conv => whnf)
          (refine ⟨_, _, Blk.ldV (vs := [_, _]) (hp.get (i := 0) rfl) TTok rfl rfl rfl, ?_⟩; conv => whnf)
          (refine ⟨_, _, bld63_ _, ?_⟩; conv => whnf)
          have ms : (⟨#[]⟩ : ByteArray).size ≤ maxLen := by unfold maxLen; decide
          have mi : in8 0 := ⟨by decide, by decide⟩
          refine ⟨_, _, addr8_same _ _ _ ms mi _ _, ?_⟩
          conv => whnf
          refine hKq _ _ _ (.refl _) ?_
          clear hKq Kq
          conv => whnf
          (refine And.intro (fun h => absurd h (by decide)) (fun _ => ?_); conv => whnf)
          (refine hKq _ _ _ (.refl _) ?_; clear hKq Kq; conv => whnf)
          (refine And.intro (fun h => absurd (of_decide_eq_true h) (by first | (intro h2; exact absurd rfl h2) | omega | decide)) (fun _ => ?_); conv => whnf)
          (refine hKq _ _ _ (.refl _) ?_; clear hKq Kq; conv => whnf)
          (refine Or.inl (And.intro (by first | omega | decide) ?_); conv => whnf)
          exact ⟨m2 - 1, _, by omega, ⟨j + 1, by omega, rfl, hp.pick [1, 2, 3] (by decide)⟩, sub_cons rfl (sub_cons rfl (sub_cons rfl (sub_cons rfl (sub_cons rfl (sub_cons rfl (sub_cons rfl (sub_cons rfl (sub_cons rfl (sub_cons rfl (sub_cons rfl (sub_cons rfl (sub_nil))))))))))))⟩
      · have hj := of_decide_eq_false hj
        conv => whnf
        clear hKq Kq
        refine hKq _ _ _ (.refl _) ?_
        clear hKq Kq
        conv => whnf
        refine Or.inl (And.intro (by omega) ?_)
        conv => whnf
        conv => whnf
        exact ⟨mm - 1, _, by omega, ⟨k + 1, by omega, rfl, hp⟩, sub_cons rfl (sub_cons rfl (sub_cons rfl (sub_cons rfl (sub_cons rfl (sub_cons rfl (sub_cons rfl (sub_cons rfl (sub_cons rfl (sub_nil)))))))))⟩
  · have hlt := of_decide_eq_false hlt
    conv => whnf
    exact key _ _ (sub_cons rfl (sub_cons rfl (sub_cons rfl (sub_cons rfl sub_nil)))) (hp.sub (List.Sublist.cons _ (List.Sublist.cons_cons _ (List.nil_sublist _))))
theorem addr8_rd {w : World} {cs : List Value} (h : Rd w sh8D cs) : ∃ (a : ByteArray) (p : Int), a.size ≤ maxLen ∧ in8 p ∧ cs = [.string a, .int .i64 p] := by
  obtain ⟨_, _, rfl, ⟨a, rfl, ha⟩, _, _, rfl, ⟨p, rfl, hp⟩, h3⟩ := h
  obtain rfl : _ = [] := h3
  exact ⟨a, p, ha, wf_in8 hp, rfl⟩
def sh8E : Sh := .cons (.int .u16) (.cons (.int .u8) (.cons .str .nil))
theorem edit_rd {w : World} {cs : List Value} (h : Rd w sh8E cs) : ∃ (a l : Nat) (s : ByteArray), a < 65536 ∧ l < 256 ∧ s.size ≤ maxLen ∧ cs = [.int .u16 a, .int .u8 l, .string s] := by
  obtain ⟨_, _, rfl, h1, _, _, rfl, h2, _, _, rfl, ⟨s, rfl, hs⟩, h3⟩ := h
  obtain rfl : _ = [] := h3
  obtain ⟨a, ha, rfl⟩ := u16_rd h1
  obtain ⟨l, hl, rfl⟩ := u8_rd h2
  exact ⟨a, l, s, ha, hl, hs, rfl⟩
theorem values_at {W : World} {a0 a2 a4 : ByteArray} {c1 c5 c6 : Array Value} {a3 : Int} (w0 : a0.size ≤ maxLen) (e1 : Rd W sh8D c1.toList) (w2 : a2.size ≤ maxLen) (w3 : (Lit.int .i64 a3).wf = true) (w4 : a4.size ≤ maxLen) (e5 : Rd W shD7 c5.toList) (e6 : Rd W sh8E c6.toList) :
    Calls Tryz.prog 6 #[.string a0, .agg c1, .string a2, .int .i64 a3, .string a4, .agg c5, .agg c6] W fun e w' => e = .returned (.bool true) ∧ Ext W w' := by
  obtain ⟨rh, rp, hrh, hrp, h1⟩ := addr8_rd e1
  obtain ⟨lo, p0, p1, p2, p3, p4, p5, p6, p7, pt, h8, hpt, h5⟩ := d7_rd e5
  obtain ⟨at_, less, put, ha, hl, hput, h6⟩ := edit_rd e6
  have h1 : c1 = #[.string rh, .int .i64 rp] := Array.ext' h1
  have h5 : c5 = (dC lo p0 p1 p2 p3 p4 p5 p6 p7 pt).toArray := Array.ext' h5
  have h6 : c6 = #[.int .u16 at_, .int .u8 less, .string put] := Array.ext' h6
  subst h1 h5 h6
  exact values_c a0 rh rp a2 a3 a4 lo p0 p1 p2 p3 p4 p5 p6 p7 pt at_ less put w0 hrh hrp w2 (wf_in8 w3) w4 h8 hpt ha hl hput
end Go.Proofs.YtmlmfmdmomegpaaGreatDoor
namespace Go.Proofs.YtmlmfmdmomegpaaGreatDoor.stunValues
open Go.ChangeShapes Go.WideShapes Go.ChangeAt Go.RowKit
open Go.ChangeMaps (open_string shut_string)
set_option linter.unusedVariables false
theorem own : ownKnob Tryz.prog.godebug = none := by kernel_rfl
theorem laidOut : laidOutB Tryz.prog = true := by kernel_rfl
def laid2 : List (String × DataW Unit) := [("unicode/utf8.acceptRanges", Rows.laid_unicode_utf8_acceptRanges), ("unicode/utf8.first", Rows.laid_unicode_utf8_first)]
set_option maxRecDepth 100000 in
theorem lifted (os : Os) (started : os.Started) (H : Type) (enc : TypeId × Value → H) :
    ReturnsInHanded {} Tryz.checked os 6 .any (fun w args => (Rows.stunValuesSpec.pre enc Tryz.prog Tryz.f6 [] false w args ∧ laidMetH Tryz.prog laid2 w) ∧ sizedMet enc Tryz.prog Tryz.f6 (OpenSpec.ofChange Rows.stunValuesSpec) false w args) (Rows.stunValuesSpec.post enc Tryz.prog Tryz.f6 false true false false) := by
  refine returnsInHanded_of_change_and (C := Tryz.checked) (X := fun w _ => laidMetH Tryz.prog laid2 w) (fun _ _ _ hh h => h.of_heap hh) own started (by kernel_rfl) Tryz.func6
    (ChangeSpec.witness_shaped (enc := enc) (C := Tryz.checked) (os := os) (X := fun w _ => laidMetH Tryz.prog laid2 w) false (World.laidAll Tryz.prog os laid2) #[.string ByteArray.empty, .agg #[.string ByteArray.empty, .int .i64 0], .string ByteArray.empty, .int .i64 0, .string ByteArray.empty, .agg #[.bool false, .int .u16 0, .int .u16 0, .int .u16 0, .int .u16 0, .int .u16 0, .int .u16 0, .int .u16 0, .int .u16 0, .int .u16 0], .agg #[.int .u16 0, .int .u8 0, .string ByteArray.empty]] 8 (World.laidAll_os _ _ _) (World.shaped_of_ZipB (by kernel_rfl) (by kernel_rfl)) (by kernel_rfl) (by kernel_rfl) (by kernel_rfl) (by rw [MakeChecks.laidMetH_plain _ _ _ (by kernel_rfl)]; exact laidMet_laidAll _ (by kernel_rfl) (by kernel_rfl))) ?_
  intro W base args ds gs before hval0 hW hcnd hsz0 hL _
  have hval : ∀ (j : Nat) t v, Tryz.f6.params[j]? = some t → args[j]? = some v → Value.okWide Tryz.prog W .any base t v := hval0
  have hW' := hW
  obtain ⟨p, q, hA0, hV, rfl, hfz, hnd⟩ := hW
  have hA : DataW.TrodAll enc Tryz.prog W 0 (fun _ => true) true Tryz.f6.params.toList args.toList ds p := hA0
  rw [Tryz.params6] at hA hval
  obtain ⟨v0, vs0, d0, ds0, p0, q0, hargs, rfl, rfl, h0, r0⟩ := trodAll_cons hA
  obtain ⟨v1, vs1, d1, ds1, p1, q1, rfl, rfl, rfl, h1, r1⟩ := trodAll_cons r0
  obtain ⟨v2, vs2, d2, ds2, p2, q2, rfl, rfl, rfl, h2, r2⟩ := trodAll_cons r1
  obtain ⟨v3, vs3, d3, ds3, p3, q3, rfl, rfl, rfl, h3, r3⟩ := trodAll_cons r2
  obtain ⟨v4, vs4, d4, ds4, p4, q4, rfl, rfl, rfl, h4, r4⟩ := trodAll_cons r3
  obtain ⟨v5, vs5, d5, ds5, p5, q5, rfl, rfl, rfl, h5, r5⟩ := trodAll_cons r4
  obtain ⟨v6, vs6, d6, ds6, p6, q6, rfl, rfl, rfl, h6, r6⟩ := trodAll_cons r5
  obtain ⟨rfl, rfl, rfl⟩ := trodAll_nil r6
  obtain rfl : args = #[v0, v1, v2, v3, v4, v5, v6] := by cases args; simp_all
  obtain ⟨rfl, rfl⟩ := trodVars_none hV
  have k0 := h0
  have lt0 : ∀ x ∈ p0, x.block < W.heap.size := by obtain ⟨m, hm⟩ := k0; exact DataW.trod_lt m _ _ _ hm
  obtain ⟨a0, rfl, rfl, rfl, w0⟩ := open_string Tryz.underlying9 (hval 0 9 v0 rfl rfl) h0
  have k1 := h1
  have lt1 : ∀ x ∈ p1, x.block < W.heap.size := by obtain ⟨m, hm⟩ := k1; exact DataW.trod_lt m _ _ _ hm
  obtain ⟨c1, rfl, e1⟩ := V.rd_ag (s := (.cons .str (.cons (.int .i64) .nil))) (by kernel_rfl) (hval 1 63 v1 rfl rfl) h1
  have k2 := h2
  have lt2 : ∀ x ∈ p2, x.block < W.heap.size := by obtain ⟨m, hm⟩ := k2; exact DataW.trod_lt m _ _ _ hm
  obtain ⟨a2, rfl, rfl, rfl, w2⟩ := open_string Tryz.underlying9 (hval 2 9 v2 rfl rfl) h2
  have k3 := h3
  have lt3 : ∀ x ∈ p3, x.block < W.heap.size := by obtain ⟨m, hm⟩ := k3; exact DataW.trod_lt m _ _ _ hm
  obtain ⟨a3, rfl, rfl, rfl, w3⟩ := open_int Tryz.underlying3 (hval 3 3 v3 rfl rfl) h3
  have k4 := h4
  have lt4 : ∀ x ∈ p4, x.block < W.heap.size := by obtain ⟨m, hm⟩ := k4; exact DataW.trod_lt m _ _ _ hm
  obtain ⟨a4, rfl, rfl, rfl, w4⟩ := open_string Tryz.underlying9 (hval 4 9 v4 rfl rfl) h4
  have k5 := h5
  have lt5 : ∀ x ∈ p5, x.block < W.heap.size := by obtain ⟨m, hm⟩ := k5; exact DataW.trod_lt m _ _ _ hm
  obtain ⟨c5, rfl, e5⟩ := V.rd_ag (s := (.cons .bool (.cons (.ag (.cons (.int .u16) (.cons (.int .u16) (.cons (.int .u16) (.cons (.int .u16) (.cons (.int .u16) (.cons (.int .u16) (.cons (.int .u16) (.cons (.int .u16) .nil))))))))) (.cons (.int .u16) .nil)))) (by kernel_rfl) (hval 5 66 v5 rfl rfl) h5
  have k6 := h6
  have lt6 : ∀ x ∈ p6, x.block < W.heap.size := by obtain ⟨m, hm⟩ := k6; exact DataW.trod_lt m _ _ _ hm
  obtain ⟨c6, rfl, e6⟩ := V.rd_ag (s := (.cons (.int .u16) (.cons (.int .u8) (.cons .str .nil)))) (by kernel_rfl) (hval 6 32 v6 rfl rfl) h6
  clear hA0 hval0
  refine (values_at w0 e1 w2 w3 w4 e5 e6).mono fun e W' ⟨he, bel⟩ => ?_
  have bel : Below W.heap.size W W' := bel
  subst he
  exact ⟨_, rfl, _, _, _, [], _, [], hW', trodAll_mk1 (shut_bool Tryz.underlying4 _), (trodAll_cons_mk (Below.trod laidOut (by kernel_rfl) (of_decide_eq_true (by kernel_rfl)) k0 bel lt0) (trodAll_cons_mk (Below.trod laidOut (by kernel_rfl) (of_decide_eq_true (by kernel_rfl)) k1 bel lt1) (trodAll_cons_mk (Below.trod laidOut (by kernel_rfl) (of_decide_eq_true (by kernel_rfl)) k2 bel lt2) (trodAll_cons_mk (Below.trod laidOut (by kernel_rfl) (of_decide_eq_true (by kernel_rfl)) k3 bel lt3) (trodAll_cons_mk (Below.trod laidOut (by kernel_rfl) (of_decide_eq_true (by kernel_rfl)) k4 bel lt4) (trodAll_cons_mk (Below.trod laidOut (by kernel_rfl) (of_decide_eq_true (by kernel_rfl)) k5 bel lt5) (trodAll_cons_mk (Below.trod laidOut (by kernel_rfl) (of_decide_eq_true (by kernel_rfl)) k6 bel lt6) trodAll_mk0))))))), rfl, bel.frame _, fun h => by cases h⟩

theorem over : Rows.stunValuesRow.holds Tryz.pinned (OpenSpec.ofChange Rows.stunValuesSpec) :=
  OpenClaim.holds_of_wide 6 Tryz.f6 rfl rfl rfl rfl rfl rfl rfl ⟨rfl, rfl, rfl, rfl, rfl⟩ rfl rfl rfl rfl rfl (by kernel_rfl) Tryz.func6 (by kernel_rfl)
    (of_decide_eq_true (by kernel_rfl)) (by unfold Func.isWrapper; first | (rw [if_pos (by decide +kernel)]; kernel_rfl) | (rw [if_neg (by decide +kernel)]; exact ⟨rfl, rfl⟩))
    (fun os started H enc _ => lifted os started H enc)

theorem proved : Rows.StunValuesCardSaid :=
  Claim7.holds_tied_plain_at .later [] [.data, .pinned] true (true, "5f27dd6ed70dca3cf563e9660767357bc6414374a73c6f1dd9ec93831559d27f") true
    over (fun _ h => by cases h) (by kernel_rfl) (fun _ h => by cases h) stunValues_row_tie rfl ⟨rfl, rfl⟩ (by kernel_rfl) rfl
    (fun f fn hf hfn => by
      obtain rfl : f = 6 := Option.some.inj ((show Tryz.prog.funcNamed "tannoy/tannoylaw08.StunValues" = some 6 by kernel_rfl).symm.trans hf) |>.symm
      obtain rfl : fn = Tryz.f6 := (Option.some.inj (Tryz.func6.symm.trans hfn)).symm
      exact ⟨by kernel_rfl, fun j t ht => by
        rw [Tryz.params6] at ht
        have hm : t ∈ [9, 63, 9, 3, 9, 66, 32] := by simpa using Array.mem_of_getElem? ht
        have hall : ([9, 63, 9, 3, 9, 66, 32].all fun u => !Tryz.prog.wantsStandIn u) = true := by kernel_rfl
        exact (show Tryz.prog.wantsStandIn t = false by simpa using List.all_eq_true.1 hall t hm)⟩)
    (by kernel_rfl)
#print axioms proved
end Go.Proofs.YtmlmfmdmomegpaaGreatDoor.stunValues
