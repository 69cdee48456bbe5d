/- Chapter 08: what the closed statement computes. -/
/- Chapter 08: drafted messages. -/
/- Chapter 08: the messages of a law: what is cut. -/
/- Chapter 08: the messages of a law: what is bent. -/
/- Chapter 08: mixed values are read by the reference. -/
/- Chapter 08: drafted addresses. -/
/- Chapter 08: plain laws of mixed values and of values of errors. -/
/- Chapter 08: StunMixes. -/
/- Chapter 08: StunValues. -/
/- Chapter 08: StunBack. -/
/- Chapter 08: the four messages of a law. -/
/- Chapter 08: StunFinds. -/
/- The order of a drawn region is checked in pieces: for the kernel's memory. Own work. No program is named here. -/
import Derived.Test.YtmlmfmdmomegpaaGreatDoorKN16
import Derived.Test.YtmlmfmdmomegpaaGreatDoorKN12
import Derived.Test.YtmlmfmdmomegpaaGreatDoorKN06
import Derived.Test.YtmlmfmdmomegpaaGreatDoorKN14
import Derived.Test.YtmlmfmdmomegpaaGreatDoorKN15
import Derived.Test.YtmlmfmdmomegpaaGreatDoorKN05
import Derived.Test.YtmlmfmdmomegpaaGreatDoorKN11
import Derived.Test.YtmlmfmdmomegpaaGreatDoorKN09
import Derived.Test.YtmlmfmdmomegpaaGreatDoorKN04
namespace Go.Proofs.YtmlmfmdmomegpaaGreatDoor
set_option linter.unusedSimpArgs false
set_option linter.unusedVariables false
set_option maxRecDepth 100000
open Go.RowKit V
set_option maxHeartbeats 12800000
def rep (b : UInt8) (n : Nat) : ByteArray := repS ⟨#[b]⟩ n
theorem rep_size (b : UInt8) (n : Nat) : (rep b n).size = n := by unfold rep; rw [repS_size]; show n * 1 = n; omega
theorem Rep_p (b : UInt8) (n : Nat) (h : n ≤ 10000) : PureF Tryz.prog 56 #[.string ⟨#[b]⟩, .int .i64 n] (.string (rep b n)) := Repeat_p ⟨#[b]⟩ n (by show 1 * n ≤ _; omega) (by omega)
theorem value_p (n : Nat) (h : n ≤ 10000) : PureF Tryz.prog 57 #[.int .i64 n] (.agg #[.int .i64 6, .string (rep 118 n)]) := by
  first | refine v_pure TTok FFok Tryz.func57 rfl rfl fun w0 => ?_ | refine v_pure (args := []) TTok FFok Tryz.func57 rfl rfl fun w0 => ?_
  conv => whnf
  repeat (first | (refine VSeq.mk fun Kq hKq => ?_; conv => whnf) | (refine hKq _ _ _ (.refl _) ?_; clear hKq Kq; conv => whnf) | (clear hKq Kq; refine hKq _ _ _ (.refl _) ?_; clear hKq Kq; conv => whnf) | (clear hKq Kq; clear hKq Kq; refine hKq _ _ _ (.refl _) ?_; clear hKq Kq; conv => whnf) | (clear hKq Kq; clear hKq Kq; clear hKq Kq; refine hKq _ _ _ (.refl _) ?_; clear hKq Kq; conv => whnf) | (clear hKq Kq; clear hKq Kq; clear hKq Kq; clear hKq Kq; refine hKq _ _ _ (.refl _) ?_; clear hKq Kq; conv => whnf) | (clear hKq Kq; clear hKq Kq; clear hKq Kq; clear hKq Kq; clear hKq Kq; refine hKq _ _ _ (.refl _) ?_; clear hKq Kq; conv => whnf) | (refine Or.inl (And.intro (by omega) ?_); conv => whnf) | (refine And.intro (by omega) ?_; conv => whnf))
  have hp := Hp.nil w0
  refine hp.kalloc z54 fun a9 w hp hx => ?_
  conv => whnf
  repeat (first | (refine VSeq.mk fun Kq hKq => ?_; conv => whnf) | (refine hKq _ _ _ (.refl _) ?_; clear hKq Kq; conv => whnf) | (clear hKq Kq; refine hKq _ _ _ (.refl _) ?_; clear hKq Kq; conv => whnf) | (clear hKq Kq; clear hKq Kq; refine hKq _ _ _ (.refl _) ?_; clear hKq Kq; conv => whnf) | (clear hKq Kq; clear hKq Kq; clear hKq Kq; refine hKq _ _ _ (.refl _) ?_; clear hKq Kq; conv => whnf) | (clear hKq Kq; clear hKq Kq; clear hKq Kq; clear hKq Kq; refine hKq _ _ _ (.refl _) ?_; clear hKq Kq; conv => whnf) | (clear hKq Kq; clear hKq Kq; clear hKq Kq; clear hKq Kq; clear hKq Kq; refine hKq _ _ _ (.refl _) ?_; clear hKq Kq; conv => whnf) | (refine Or.inl (And.intro (by omega) ?_); conv => whnf) | (refine And.intro (by omega) ?_; conv => whnf))
  refine PureF.use (Rep_p 118 n h) fun w hx => ?_
  try (have hp := hp.call hx)
  conv => whnf
  repeat (first | (refine VSeq.mk fun Kq hKq => ?_; conv => whnf) | (refine hKq _ _ _ (.refl _) ?_; clear hKq Kq; conv => whnf) | (clear hKq Kq; refine hKq _ _ _ (.refl _) ?_; clear hKq Kq; conv => whnf) | (clear hKq Kq; clear hKq Kq; refine hKq _ _ _ (.refl _) ?_; clear hKq Kq; conv => whnf) | (clear hKq Kq; clear hKq Kq; clear hKq Kq; refine hKq _ _ _ (.refl _) ?_; clear hKq Kq; conv => whnf) | (clear hKq Kq; clear hKq Kq; clear hKq Kq; clear hKq Kq; refine hKq _ _ _ (.refl _) ?_; clear hKq Kq; conv => whnf) | (clear hKq Kq; clear hKq Kq; clear hKq Kq; clear hKq Kq; clear hKq Kq; refine hKq _ _ _ (.refl _) ?_; clear hKq Kq; conv => whnf) | (refine Or.inl (And.intro (by omega) ?_); conv => whnf) | (refine And.intro (by omega) ?_; conv => whnf))
  repeat (first | (refine VSeq.mk fun Kq hKq => ?_; conv => whnf) | (refine hKq _ _ _ (.refl _) ?_; clear hKq Kq; conv => whnf) | (clear hKq Kq; refine hKq _ _ _ (.refl _) ?_; clear hKq Kq; conv => whnf) | (clear hKq Kq; clear hKq Kq; refine hKq _ _ _ (.refl _) ?_; clear hKq Kq; conv => whnf) | (clear hKq Kq; clear hKq Kq; clear hKq Kq; refine hKq _ _ _ (.refl _) ?_; clear hKq Kq; conv => whnf) | ((with_reducible show ∃ v w1, Sem.run _ (Instr.box _ _) _ = Result.ok v w1 ∧ _); first | (refine hp.kboxA fun q w hp hx => ?_; conv => whnf) | (refine hp.kbox1 rfl fun q w hp hx => ?_; conv => whnf) | fail) | ((with_reducible show ∃ v w1, Sem.run _ (Instr.alloc 54 _ _) _ = Result.ok v w1 ∧ _); first | (refine hp.kalloc z54 fun al54 w hp hx => ?_; conv => whnf) | fail) | ((with_reducible show ∃ v w1, Sem.run _ (Instr.build 54 #[(0, _), (1, _)]) _ = Result.ok v w1 ∧ _); first | (refine ⟨_, _, bld54_0_1 _ _ _, ?_⟩; conv => whnf) | fail) | ((with_reducible show ∃ v, (∀ w1, Ext _ w1 → Sem.run _ (Instr.build 54 #[(0, _), (1, _)]) w1 = Result.ok v w1) ∧ _); first | (refine ⟨_, fun w' hx' => bld54_0_1 w' _ _, ?_⟩; conv => whnf) | fail) | ((with_reducible show ∃ v w1, Sem.run _ (bind (Instr.storeAt 54 _ _) _) _ = Result.ok v w1 ∧ _); first | (refine hp.kstA TTok rfl 0 rfl rfl (oneC_of rfl) (by rfl) fun w hp => ?_; try simp only [List.set_cons_zero, List.set_cons_succ, EV.val] at hp; conv => whnf) | (refine hp.kstA TTok rfl 1 rfl rfl (oneC_of rfl) (by rfl) fun w hp => ?_; try simp only [List.set_cons_zero, List.set_cons_succ, EV.val] at hp; conv => whnf) | (refine hp.kstA TTok rfl 2 rfl rfl (oneC_of rfl) (by rfl) fun w hp => ?_; try simp only [List.set_cons_zero, List.set_cons_succ, EV.val] at hp; conv => whnf) | (refine hp.kstA TTok rfl 3 rfl rfl (oneC_of rfl) (by rfl) fun w hp => ?_; try simp only [List.set_cons_zero, List.set_cons_succ, EV.val] at hp; conv => whnf) | (refine hp.kstA TTok rfl 4 rfl rfl (oneC_of rfl) (by rfl) fun w hp => ?_; try simp only [List.set_cons_zero, List.set_cons_succ, EV.val] at hp; conv => whnf) | (refine hp.kstA TTok rfl 5 rfl rfl (oneC_of rfl) (by rfl) fun w hp => ?_; try simp only [List.set_cons_zero, List.set_cons_succ, EV.val] at hp; conv => whnf) | (refine hp.kstA TTok rfl 6 rfl rfl (oneC_of rfl) (by rfl) fun w hp => ?_; try simp only [List.set_cons_zero, List.set_cons_succ, EV.val] at hp; conv => whnf) | (refine hp.kstA TTok rfl 7 rfl rfl (oneC_of rfl) (by rfl) fun w hp => ?_; try simp only [List.set_cons_zero, List.set_cons_succ, EV.val] at hp; conv => whnf) | (refine hp.kstP TTok rfl 0 rfl (vs := [_, _]) rfl (oneC_of rfl) (Nat.le_of_ble_eq_true rfl) rfl fun w hp => ?_; try simp only [List.take_succ_cons, List.take_zero, List.drop_succ_cons, List.drop_zero, List.cons_append, List.nil_append, List.set_cons_zero, List.set_cons_succ, EV.val] at hp; conv => whnf) | (refine hp.kstP TTok rfl 1 rfl (vs := [_, _]) rfl (oneC_of rfl) (Nat.le_of_ble_eq_true rfl) rfl fun w hp => ?_; try simp only [List.take_succ_cons, List.take_zero, List.drop_succ_cons, List.drop_zero, List.cons_append, List.nil_append, List.set_cons_zero, List.set_cons_succ, EV.val] at hp; conv => whnf) | (refine hp.kstP TTok rfl 2 rfl (vs := [_, _]) rfl (oneC_of rfl) (Nat.le_of_ble_eq_true rfl) rfl fun w hp => ?_; try simp only [List.take_succ_cons, List.take_zero, List.drop_succ_cons, List.drop_zero, List.cons_append, List.nil_append, List.set_cons_zero, List.set_cons_succ, EV.val] at hp; conv => whnf) | (refine hp.kstP TTok rfl 3 rfl (vs := [_, _]) rfl (oneC_of rfl) (Nat.le_of_ble_eq_true rfl) rfl fun w hp => ?_; try simp only [List.take_succ_cons, List.take_zero, List.drop_succ_cons, List.drop_zero, List.cons_append, List.nil_append, List.set_cons_zero, List.set_cons_succ, EV.val] at hp; conv => whnf) | (refine hp.kstP TTok rfl 4 rfl (vs := [_, _]) rfl (oneC_of rfl) (Nat.le_of_ble_eq_true rfl) rfl fun w hp => ?_; try simp only [List.take_succ_cons, List.take_zero, List.drop_succ_cons, List.drop_zero, List.cons_append, List.nil_append, List.set_cons_zero, List.set_cons_succ, EV.val] at hp; conv => whnf) | (refine hp.kstP TTok rfl 5 rfl (vs := [_, _]) rfl (oneC_of rfl) (Nat.le_of_ble_eq_true rfl) rfl fun w hp => ?_; try simp only [List.take_succ_cons, List.take_zero, List.drop_succ_cons, List.drop_zero, List.cons_append, List.nil_append, List.set_cons_zero, List.set_cons_succ, EV.val] at hp; conv => whnf) | (refine hp.kstP TTok rfl 6 rfl (vs := [_, _]) rfl (oneC_of rfl) (Nat.le_of_ble_eq_true rfl) rfl fun w hp => ?_; try simp only [List.take_succ_cons, List.take_zero, List.drop_succ_cons, List.drop_zero, List.cons_append, List.nil_append, List.set_cons_zero, List.set_cons_succ, EV.val] at hp; conv => whnf) | (refine hp.kstP TTok rfl 7 rfl (vs := [_, _]) rfl (oneC_of rfl) (Nat.le_of_ble_eq_true rfl) rfl fun w hp => ?_; try simp only [List.take_succ_cons, List.take_zero, List.drop_succ_cons, List.drop_zero, List.cons_append, List.nil_append, List.set_cons_zero, List.set_cons_succ, EV.val] at hp; conv => whnf) | fail) | ((with_reducible show ∀ w1, Ext _ w1 → _); first | (intro w hx; try (have hp := hp.call hx); conv => whnf) | fail) | ((with_reducible show ∃ v, Sem.run _ (loadVar _ _) _ = Result.ok v _ ∧ _); first | (refine ⟨_, Blk.lv (hp.get (i := 0) rfl) TTok rfl rfl, ?_⟩; conv => whnf) | (refine ⟨_, Blk.lv (hp.get (i := 1) rfl) TTok rfl rfl, ?_⟩; conv => whnf) | (refine ⟨_, Blk.lv (hp.get (i := 2) rfl) TTok rfl rfl, ?_⟩; conv => whnf) | (refine ⟨_, Blk.lv (hp.get (i := 3) rfl) TTok rfl rfl, ?_⟩; conv => whnf) | (refine ⟨_, Blk.lv (hp.get (i := 4) rfl) TTok rfl rfl, ?_⟩; conv => whnf) | (refine ⟨_, Blk.lv (hp.get (i := 5) rfl) TTok rfl rfl, ?_⟩; conv => whnf) | (refine ⟨_, Blk.lv (hp.get (i := 6) rfl) TTok rfl rfl, ?_⟩; conv => whnf) | (refine ⟨_, Blk.lv (hp.get (i := 7) rfl) TTok rfl rfl, ?_⟩; conv => whnf) | (refine ⟨_, Blk.lvN (hp.get (i := 0) rfl) TTok rfl rfl, ?_⟩; conv => whnf) | (refine ⟨_, Blk.lvN (hp.get (i := 1) rfl) TTok rfl rfl, ?_⟩; conv => whnf) | (refine ⟨_, Blk.lvN (hp.get (i := 2) rfl) TTok rfl rfl, ?_⟩; conv => whnf) | (refine ⟨_, Blk.lvN (hp.get (i := 3) rfl) TTok rfl rfl, ?_⟩; conv => whnf) | (refine ⟨_, Blk.lvN (hp.get (i := 4) rfl) TTok rfl rfl, ?_⟩; conv => whnf) | (refine ⟨_, Blk.lvN (hp.get (i := 5) rfl) TTok rfl rfl, ?_⟩; conv => whnf) | (refine ⟨_, Blk.lvN (hp.get (i := 6) rfl) TTok rfl rfl, ?_⟩; conv => whnf) | (refine ⟨_, Blk.lvN (hp.get (i := 7) rfl) TTok rfl rfl, ?_⟩; conv => whnf) | fail) | ((with_reducible show ∃ m : Nat, (_ ∧ _) ∧ _); first | (refine ⟨_, ⟨rfl, by omega⟩, ?_⟩; conv => whnf) | (refine ⟨0, ⟨rfl, by decide⟩, ?_⟩; conv => whnf) | (refine ⟨1, ⟨rfl, by decide⟩, ?_⟩; conv => whnf) | (refine ⟨2, ⟨rfl, by decide⟩, ?_⟩; conv => whnf) | fail) | ((with_reducible show ∃ m n : Nat, (_ ∧ _) ∧ _); first | (refine ⟨_, _, ⟨rfl, rfl, by omega, by omega⟩, ?_⟩; conv => whnf) | fail) | ((with_reducible show ∃ m n r : Nat, (_ ∧ _) ∧ _); first | (refine ⟨_, _, _, ⟨rfl, rfl, by decide, by decide⟩, rfl, ?_⟩; conv => whnf) | fail) | ((with_reducible show _ ∨ _); first | (refine Or.inl (And.intro (by first | omega | decide) ?_); conv => whnf) | fail) | (with_reducible refine And.intro hx ?_; conv => whnf) | (refine And.intro (by first | omega | decide) ?_; conv => whnf) | ((with_reducible show (true = true → _) ∧ (true = false → _)); first | (refine And.intro (fun _ => ?_) (fun h => absurd h (by decide)); conv => whnf) | fail) | ((with_reducible show ((!false) = true → _) ∧ ((!false) = false → _)); first | (refine And.intro (fun _ => ?_) (fun h => absurd h (by decide)); conv => whnf) | fail) | ((with_reducible show (false = true → _) ∧ (false = false → _)); first | (refine And.intro (fun h => absurd h (by decide)) (fun _ => ?_); conv => whnf) | fail) | ((with_reducible show ((!true) = true → _) ∧ ((!true) = false → _)); first | (refine And.intro (fun h => absurd h (by decide)) (fun _ => ?_); conv => whnf) | fail) | ((with_reducible show (decide _ = true → _) ∧ (decide _ = false → _)); first | (refine And.intro (fun _ => ?_) (fun h => absurd (by first | rfl | assumption | omega | decide) (of_decide_eq_false h)); conv => whnf) | (refine And.intro (fun h => absurd (of_decide_eq_true h) (by first | (intro h2; exact absurd rfl h2) | omega | decide)) (fun _ => ?_); conv => whnf) | fail) | ((with_reducible show ((!(decide _)) = true → _) ∧ ((!(decide _)) = false → _)); first | (refine And.intro (fun _ => ?_) (fun h => absurd (of_decide_eq_true ((Bool.not_eq_false' _).mp h)) (by first | (intro h2; exact absurd rfl h2) | omega | decide)); conv => whnf) | (refine And.intro (fun h => absurd (by first | rfl | assumption | omega | decide) (of_decide_eq_false ((Bool.not_eq_true' _).mp h))) (fun _ => ?_); conv => whnf) | fail) | fail)
  exact ⟨rfl, hp.ext⟩
theorem m2_p (s : ByteArray) (h : s.size = 20) : PureF Tryz.prog 60 #[.string s] (.agg #[.int .i64 0, .int .i64 1, .string (s.extract 8 20), .slice none 0 0]) := by
  first | refine v_pure TTok FFok Tryz.func60 rfl rfl fun w0 => ?_ | refine v_pure (args := []) TTok FFok Tryz.func60 rfl rfl fun w0 => ?_
  conv => whnf
  repeat (first | (refine VSeq.mk fun Kq hKq => ?_; conv => whnf) | (refine hKq _ _ _ (.refl _) ?_; clear hKq Kq; conv => whnf) | (clear hKq Kq; refine hKq _ _ _ (.refl _) ?_; clear hKq Kq; conv => whnf) | (clear hKq Kq; clear hKq Kq; refine hKq _ _ _ (.refl _) ?_; clear hKq Kq; conv => whnf) | (clear hKq Kq; clear hKq Kq; clear hKq Kq; refine hKq _ _ _ (.refl _) ?_; clear hKq Kq; conv => whnf) | (clear hKq Kq; clear hKq Kq; clear hKq Kq; clear hKq Kq; refine hKq _ _ _ (.refl _) ?_; clear hKq Kq; conv => whnf) | (clear hKq Kq; clear hKq Kq; clear hKq Kq; clear hKq Kq; clear hKq Kq; refine hKq _ _ _ (.refl _) ?_; clear hKq Kq; conv => whnf) | (refine Or.inl (And.intro (by omega) ?_); conv => whnf) | (refine And.intro (by omega) ?_; conv => whnf))
  have hp := Hp.nil w0
  refine hp.kalloc z24 fun a9 w hp hx => ?_
  conv => whnf
  repeat (first | (refine VSeq.mk fun Kq hKq => ?_; conv => whnf) | (refine hKq _ _ _ (.refl _) ?_; clear hKq Kq; conv => whnf) | (clear hKq Kq; refine hKq _ _ _ (.refl _) ?_; clear hKq Kq; conv => whnf) | (clear hKq Kq; clear hKq Kq; refine hKq _ _ _ (.refl _) ?_; clear hKq Kq; conv => whnf) | (clear hKq Kq; clear hKq Kq; clear hKq Kq; refine hKq _ _ _ (.refl _) ?_; clear hKq Kq; conv => whnf) | (clear hKq Kq; clear hKq Kq; clear hKq Kq; clear hKq Kq; refine hKq _ _ _ (.refl _) ?_; clear hKq Kq; conv => whnf) | (clear hKq Kq; clear hKq Kq; clear hKq Kq; clear hKq Kq; clear hKq Kq; refine hKq _ _ _ (.refl _) ?_; clear hKq Kq; conv => whnf) | (refine Or.inl (And.intro (by omega) ?_); conv => whnf) | (refine And.intro (by omega) ?_; conv => whnf))
  refine ⟨8, 20, ⟨by first | rfl | omega, by first | rfl | omega, by omega, by omega⟩, ?_⟩
  conv => whnf
  repeat (first | (refine VSeq.mk fun Kq hKq => ?_; conv => whnf) | (refine hKq _ _ _ (.refl _) ?_; clear hKq Kq; conv => whnf) | (clear hKq Kq; refine hKq _ _ _ (.refl _) ?_; clear hKq Kq; conv => whnf) | (clear hKq Kq; clear hKq Kq; refine hKq _ _ _ (.refl _) ?_; clear hKq Kq; conv => whnf) | (clear hKq Kq; clear hKq Kq; clear hKq Kq; refine hKq _ _ _ (.refl _) ?_; clear hKq Kq; conv => whnf) | (clear hKq Kq; clear hKq Kq; clear hKq Kq; clear hKq Kq; refine hKq _ _ _ (.refl _) ?_; clear hKq Kq; conv => whnf) | (clear hKq Kq; clear hKq Kq; clear hKq Kq; clear hKq Kq; clear hKq Kq; refine hKq _ _ _ (.refl _) ?_; clear hKq Kq; conv => whnf) | (refine Or.inl (And.intro (by omega) ?_); conv => whnf) | (refine And.intro (by omega) ?_; conv => whnf))
  repeat (first | (refine VSeq.mk fun Kq hKq => ?_; conv => whnf) | (refine hKq _ _ _ (.refl _) ?_; clear hKq Kq; conv => whnf) | (clear hKq Kq; refine hKq _ _ _ (.refl _) ?_; clear hKq Kq; conv => whnf) | (clear hKq Kq; clear hKq Kq; refine hKq _ _ _ (.refl _) ?_; clear hKq Kq; conv => whnf) | (clear hKq Kq; clear hKq Kq; clear hKq Kq; refine hKq _ _ _ (.refl _) ?_; clear hKq Kq; conv => whnf) | ((with_reducible show ∃ v w1, Sem.run _ (Instr.box _ _) _ = Result.ok v w1 ∧ _); first | (refine hp.kboxA fun q w hp hx => ?_; conv => whnf) | (refine hp.kbox1 rfl fun q w hp hx => ?_; conv => whnf) | fail) | ((with_reducible show ∃ v w1, Sem.run _ (Instr.alloc 24 _ _) _ = Result.ok v w1 ∧ _); first | (refine hp.kalloc z24 fun al24 w hp hx => ?_; conv => whnf) | fail) | ((with_reducible show ∃ v w1, Sem.run _ (Instr.build 24 #[(1, _), (2, _)]) _ = Result.ok v w1 ∧ _); first | (refine ⟨_, _, bld24_1_2 _ _ _, ?_⟩; conv => whnf) | fail) | ((with_reducible show ∃ v, (∀ w1, Ext _ w1 → Sem.run _ (Instr.build 24 #[(1, _), (2, _)]) w1 = Result.ok v w1) ∧ _); first | (refine ⟨_, fun w' hx' => bld24_1_2 w' _ _, ?_⟩; conv => whnf) | fail) | ((with_reducible show ∃ v w1, Sem.run _ (bind (Instr.storeAt 24 _ _) _) _ = Result.ok v w1 ∧ _); first | (refine hp.kstA TTok rfl 0 rfl rfl (oneC_of rfl) (by rfl) fun w hp => ?_; try simp only [List.set_cons_zero, List.set_cons_succ, EV.val] at hp; conv => whnf) | (refine hp.kstA TTok rfl 1 rfl rfl (oneC_of rfl) (by rfl) fun w hp => ?_; try simp only [List.set_cons_zero, List.set_cons_succ, EV.val] at hp; conv => whnf) | (refine hp.kstA TTok rfl 2 rfl rfl (oneC_of rfl) (by rfl) fun w hp => ?_; try simp only [List.set_cons_zero, List.set_cons_succ, EV.val] at hp; conv => whnf) | (refine hp.kstA TTok rfl 3 rfl rfl (oneC_of rfl) (by rfl) fun w hp => ?_; try simp only [List.set_cons_zero, List.set_cons_succ, EV.val] at hp; conv => whnf) | (refine hp.kstA TTok rfl 4 rfl rfl (oneC_of rfl) (by rfl) fun w hp => ?_; try simp only [List.set_cons_zero, List.set_cons_succ, EV.val] at hp; conv => whnf) | (refine hp.kstA TTok rfl 5 rfl rfl (oneC_of rfl) (by rfl) fun w hp => ?_; try simp only [List.set_cons_zero, List.set_cons_succ, EV.val] at hp; conv => whnf) | (refine hp.kstA TTok rfl 6 rfl rfl (oneC_of rfl) (by rfl) fun w hp => ?_; try simp only [List.set_cons_zero, List.set_cons_succ, EV.val] at hp; conv => whnf) | (refine hp.kstA TTok rfl 7 rfl rfl (oneC_of rfl) (by rfl) fun w hp => ?_; try simp only [List.set_cons_zero, List.set_cons_succ, EV.val] at hp; conv => whnf) | (refine hp.kstP TTok rfl 0 rfl (vs := [_, _, _, _]) rfl (oneC_of rfl) (Nat.le_of_ble_eq_true rfl) rfl fun w hp => ?_; try simp only [List.take_succ_cons, List.take_zero, List.drop_succ_cons, List.drop_zero, List.cons_append, List.nil_append, List.set_cons_zero, List.set_cons_succ, EV.val] at hp; conv => whnf) | (refine hp.kstP TTok rfl 1 rfl (vs := [_, _, _, _]) rfl (oneC_of rfl) (Nat.le_of_ble_eq_true rfl) rfl fun w hp => ?_; try simp only [List.take_succ_cons, List.take_zero, List.drop_succ_cons, List.drop_zero, List.cons_append, List.nil_append, List.set_cons_zero, List.set_cons_succ, EV.val] at hp; conv => whnf) | (refine hp.kstP TTok rfl 2 rfl (vs := [_, _, _, _]) rfl (oneC_of rfl) (Nat.le_of_ble_eq_true rfl) rfl fun w hp => ?_; try simp only [List.take_succ_cons, List.take_zero, List.drop_succ_cons, List.drop_zero, List.cons_append, List.nil_append, List.set_cons_zero, List.set_cons_succ, EV.val] at hp; conv => whnf) | (refine hp.kstP TTok rfl 3 rfl (vs := [_, _, _, _]) rfl (oneC_of rfl) (Nat.le_of_ble_eq_true rfl) rfl fun w hp => ?_; try simp only [List.take_succ_cons, List.take_zero, List.drop_succ_cons, List.drop_zero, List.cons_append, List.nil_append, List.set_cons_zero, List.set_cons_succ, EV.val] at hp; conv => whnf) | (refine hp.kstP TTok rfl 4 rfl (vs := [_, _, _, _]) rfl (oneC_of rfl) (Nat.le_of_ble_eq_true rfl) rfl fun w hp => ?_; try simp only [List.take_succ_cons, List.take_zero, List.drop_succ_cons, List.drop_zero, List.cons_append, List.nil_append, List.set_cons_zero, List.set_cons_succ, EV.val] at hp; conv => whnf) | (refine hp.kstP TTok rfl 5 rfl (vs := [_, _, _, _]) rfl (oneC_of rfl) (Nat.le_of_ble_eq_true rfl) rfl fun w hp => ?_; try simp only [List.take_succ_cons, List.take_zero, List.drop_succ_cons, List.drop_zero, List.cons_append, List.nil_append, List.set_cons_zero, List.set_cons_succ, EV.val] at hp; conv => whnf) | (refine hp.kstP TTok rfl 6 rfl (vs := [_, _, _, _]) rfl (oneC_of rfl) (Nat.le_of_ble_eq_true rfl) rfl fun w hp => ?_; try simp only [List.take_succ_cons, List.take_zero, List.drop_succ_cons, List.drop_zero, List.cons_append, List.nil_append, List.set_cons_zero, List.set_cons_succ, EV.val] at hp; conv => whnf) | (refine hp.kstP TTok rfl 7 rfl (vs := [_, _, _, _]) rfl (oneC_of rfl) (Nat.le_of_ble_eq_true rfl) rfl fun w hp => ?_; try simp only [List.take_succ_cons, List.take_zero, List.drop_succ_cons, List.drop_zero, List.cons_append, List.nil_append, List.set_cons_zero, List.set_cons_succ, EV.val] at hp; conv => whnf) | fail) | ((with_reducible show ∀ w1, Ext _ w1 → _); first | (intro w hx; try (have hp := hp.call hx); conv => whnf) | fail) | ((with_reducible show ∃ v, Sem.run _ (loadVar _ _) _ = Result.ok v _ ∧ _); first | (refine ⟨_, Blk.lv (hp.get (i := 0) rfl) TTok rfl rfl, ?_⟩; conv => whnf) | (refine ⟨_, Blk.lv (hp.get (i := 1) rfl) TTok rfl rfl, ?_⟩; conv => whnf) | (refine ⟨_, Blk.lv (hp.get (i := 2) rfl) TTok rfl rfl, ?_⟩; conv => whnf) | (refine ⟨_, Blk.lv (hp.get (i := 3) rfl) TTok rfl rfl, ?_⟩; conv => whnf) | (refine ⟨_, Blk.lv (hp.get (i := 4) rfl) TTok rfl rfl, ?_⟩; conv => whnf) | (refine ⟨_, Blk.lv (hp.get (i := 5) rfl) TTok rfl rfl, ?_⟩; conv => whnf) | (refine ⟨_, Blk.lv (hp.get (i := 6) rfl) TTok rfl rfl, ?_⟩; conv => whnf) | (refine ⟨_, Blk.lv (hp.get (i := 7) rfl) TTok rfl rfl, ?_⟩; conv => whnf) | (refine ⟨_, Blk.lvN (hp.get (i := 0) rfl) TTok rfl rfl, ?_⟩; conv => whnf) | (refine ⟨_, Blk.lvN (hp.get (i := 1) rfl) TTok rfl rfl, ?_⟩; conv => whnf) | (refine ⟨_, Blk.lvN (hp.get (i := 2) rfl) TTok rfl rfl, ?_⟩; conv => whnf) | (refine ⟨_, Blk.lvN (hp.get (i := 3) rfl) TTok rfl rfl, ?_⟩; conv => whnf) | (refine ⟨_, Blk.lvN (hp.get (i := 4) rfl) TTok rfl rfl, ?_⟩; conv => whnf) | (refine ⟨_, Blk.lvN (hp.get (i := 5) rfl) TTok rfl rfl, ?_⟩; conv => whnf) | (refine ⟨_, Blk.lvN (hp.get (i := 6) rfl) TTok rfl rfl, ?_⟩; conv => whnf) | (refine ⟨_, Blk.lvN (hp.get (i := 7) rfl) TTok rfl rfl, ?_⟩; conv => whnf) | fail) | ((with_reducible show ∃ m : Nat, (_ ∧ _) ∧ _); first | (refine ⟨_, ⟨rfl, by omega⟩, ?_⟩; conv => whnf) | (refine ⟨0, ⟨rfl, by decide⟩, ?_⟩; conv => whnf) | (refine ⟨1, ⟨rfl, by decide⟩, ?_⟩; conv => whnf) | (refine ⟨2, ⟨rfl, by decide⟩, ?_⟩; conv => whnf) | fail) | ((with_reducible show ∃ m n : Nat, (_ ∧ _) ∧ _); first | (refine ⟨_, _, ⟨rfl, rfl, by omega, by omega⟩, ?_⟩; conv => whnf) | fail) | ((with_reducible show ∃ m n r : Nat, (_ ∧ _) ∧ _); first | (refine ⟨_, _, _, ⟨rfl, rfl, by decide, by decide⟩, rfl, ?_⟩; conv => whnf) | fail) | ((with_reducible show _ ∨ _); first | (refine Or.inl (And.intro (by first | omega | decide) ?_); conv => whnf) | fail) | (with_reducible refine And.intro hx ?_; conv => whnf) | (refine And.intro (by first | omega | decide) ?_; conv => whnf) | ((with_reducible show (true = true → _) ∧ (true = false → _)); first | (refine And.intro (fun _ => ?_) (fun h => absurd h (by decide)); conv => whnf) | fail) | ((with_reducible show ((!false) = true → _) ∧ ((!false) = false → _)); first | (refine And.intro (fun _ => ?_) (fun h => absurd h (by decide)); conv => whnf) | fail) | ((with_reducible show (false = true → _) ∧ (false = false → _)); first | (refine And.intro (fun h => absurd h (by decide)) (fun _ => ?_); conv => whnf) | fail) | ((with_reducible show ((!true) = true → _) ∧ ((!true) = false → _)); first | (refine And.intro (fun h => absurd h (by decide)) (fun _ => ?_); conv => whnf) | fail) | ((with_reducible show (decide _ = true → _) ∧ (decide _ = false → _)); first | (refine And.intro (fun _ => ?_) (fun h => absurd (by first | rfl | assumption | omega | decide) (of_decide_eq_false h)); conv => whnf) | (refine And.intro (fun h => absurd (of_decide_eq_true h) (by first | (intro h2; exact absurd rfl h2) | omega | decide)) (fun _ => ?_); conv => whnf) | fail) | ((with_reducible show ((!(decide _)) = true → _) ∧ ((!(decide _)) = false → _)); first | (refine And.intro (fun _ => ?_) (fun h => absurd (of_decide_eq_true ((Bool.not_eq_false' _).mp h)) (by first | (intro h2; exact absurd rfl h2) | omega | decide)); conv => whnf) | (refine And.intro (fun h => absurd (by first | rfl | assumption | omega | decide) (of_decide_eq_false ((Bool.not_eq_true' _).mp h))) (fun _ => ?_); conv => whnf) | fail) | fail)
  exact ⟨rfl, hp.ext⟩
theorem hasPrefix_p (s p : ByteArray) (h : s.data.toList.take p.size = p.data.toList) : PureF Tryz.prog 110 #[.string s, .string p] (.bool true) := by
  have hl : p.size ≤ s.size := by
    have := congrArg List.length h
    rw [List.length_take, toList_len, toList_len] at this
    omega
  have he : s.extract 0 p.size = p := by
    apply ba_eq
    rw [ext_list, List.drop_zero]
    exact h
  first | refine v_pure TTok FFok Tryz.func110 rfl rfl fun w0 => ?_ | refine v_pure (args := []) TTok FFok Tryz.func110 rfl rfl fun w0 => ?_
  conv => whnf
  repeat (first | (refine VSeq.mk fun Kq hKq => ?_; conv => whnf) | (refine hKq _ _ _ (.refl _) ?_; clear hKq Kq; conv => whnf) | (clear hKq Kq; refine hKq _ _ _ (.refl _) ?_; clear hKq Kq; conv => whnf) | (clear hKq Kq; clear hKq Kq; refine hKq _ _ _ (.refl _) ?_; clear hKq Kq; conv => whnf) | (clear hKq Kq; clear hKq Kq; clear hKq Kq; refine hKq _ _ _ (.refl _) ?_; clear hKq Kq; conv => whnf) | (clear hKq Kq; clear hKq Kq; clear hKq Kq; clear hKq Kq; refine hKq _ _ _ (.refl _) ?_; clear hKq Kq; conv => whnf) | (clear hKq Kq; clear hKq Kq; clear hKq Kq; clear hKq Kq; clear hKq Kq; refine hKq _ _ _ (.refl _) ?_; clear hKq Kq; conv => whnf) | (refine Or.inl (And.intro (by omega) ?_); conv => whnf) | (refine And.intro (by omega) ?_; conv => whnf))
  have hp := Hp.nil w0
  refine And.intro (fun _ => ?_) (fun h => absurd ((by omega)) (of_decide_eq_false h))
  conv => whnf
  repeat (first | (refine VSeq.mk fun Kq hKq => ?_; conv => whnf) | (refine hKq _ _ _ (.refl _) ?_; clear hKq Kq; conv => whnf) | (clear hKq Kq; refine hKq _ _ _ (.refl _) ?_; clear hKq Kq; conv => whnf) | (clear hKq Kq; clear hKq Kq; refine hKq _ _ _ (.refl _) ?_; clear hKq Kq; conv => whnf) | (clear hKq Kq; clear hKq Kq; clear hKq Kq; refine hKq _ _ _ (.refl _) ?_; clear hKq Kq; conv => whnf) | (clear hKq Kq; clear hKq Kq; clear hKq Kq; clear hKq Kq; refine hKq _ _ _ (.refl _) ?_; clear hKq Kq; conv => whnf) | (clear hKq Kq; clear hKq Kq; clear hKq Kq; clear hKq Kq; clear hKq Kq; refine hKq _ _ _ (.refl _) ?_; clear hKq Kq; conv => whnf) | (refine Or.inl (And.intro (by omega) ?_); conv => whnf) | (refine And.intro (by omega) ?_; conv => whnf))
  refine ⟨p.size, ⟨by first | rfl | omega, by omega⟩, ?_⟩
  conv => whnf
  repeat (first | (refine VSeq.mk fun Kq hKq => ?_; conv => whnf) | (refine hKq _ _ _ (.refl _) ?_; clear hKq Kq; conv => whnf) | (clear hKq Kq; refine hKq _ _ _ (.refl _) ?_; clear hKq Kq; conv => whnf) | (clear hKq Kq; clear hKq Kq; refine hKq _ _ _ (.refl _) ?_; clear hKq Kq; conv => whnf) | (clear hKq Kq; clear hKq Kq; clear hKq Kq; refine hKq _ _ _ (.refl _) ?_; clear hKq Kq; conv => whnf) | (clear hKq Kq; clear hKq Kq; clear hKq Kq; clear hKq Kq; refine hKq _ _ _ (.refl _) ?_; clear hKq Kq; conv => whnf) | (clear hKq Kq; clear hKq Kq; clear hKq Kq; clear hKq Kq; clear hKq Kq; refine hKq _ _ _ (.refl _) ?_; clear hKq Kq; conv => whnf) | (refine Or.inl (And.intro (by omega) ?_); conv => whnf) | (refine And.intro (by omega) ?_; conv => whnf))
  refine ⟨?_, hp.ext⟩
  exact congrArg Value.bool (decide_eq_true he)
theorem HasPrefix_p (s p : ByteArray) (h : s.data.toList.take p.size = p.data.toList) : PureF Tryz.prog 59 #[.string s, .string p] (.bool true) := by
  first | refine v_pure TTok FFok Tryz.func59 rfl rfl fun w0 => ?_ | refine v_pure (args := []) TTok FFok Tryz.func59 rfl rfl fun w0 => ?_
  conv => whnf
  repeat (first | (refine VSeq.mk fun Kq hKq => ?_; conv => whnf) | (refine hKq _ _ _ (.refl _) ?_; clear hKq Kq; conv => whnf) | (clear hKq Kq; refine hKq _ _ _ (.refl _) ?_; clear hKq Kq; conv => whnf) | (clear hKq Kq; clear hKq Kq; refine hKq _ _ _ (.refl _) ?_; clear hKq Kq; conv => whnf) | (clear hKq Kq; clear hKq Kq; clear hKq Kq; refine hKq _ _ _ (.refl _) ?_; clear hKq Kq; conv => whnf) | (clear hKq Kq; clear hKq Kq; clear hKq Kq; clear hKq Kq; refine hKq _ _ _ (.refl _) ?_; clear hKq Kq; conv => whnf) | (clear hKq Kq; clear hKq Kq; clear hKq Kq; clear hKq Kq; clear hKq Kq; refine hKq _ _ _ (.refl _) ?_; clear hKq Kq; conv => whnf) | (refine Or.inl (And.intro (by omega) ?_); conv => whnf) | (refine And.intro (by omega) ?_; conv => whnf))
  have hp := Hp.nil w0
  refine PureF.use (hasPrefix_p s p h) fun w hx => ?_
  try (have hp := hp.call hx)
  conv => whnf
  repeat (first | (refine VSeq.mk fun Kq hKq => ?_; conv => whnf) | (refine hKq _ _ _ (.refl _) ?_; clear hKq Kq; conv => whnf) | (clear hKq Kq; refine hKq _ _ _ (.refl _) ?_; clear hKq Kq; conv => whnf) | (clear hKq Kq; clear hKq Kq; refine hKq _ _ _ (.refl _) ?_; clear hKq Kq; conv => whnf) | (clear hKq Kq; clear hKq Kq; clear hKq Kq; refine hKq _ _ _ (.refl _) ?_; clear hKq Kq; conv => whnf) | (clear hKq Kq; clear hKq Kq; clear hKq Kq; clear hKq Kq; refine hKq _ _ _ (.refl _) ?_; clear hKq Kq; conv => whnf) | (clear hKq Kq; clear hKq Kq; clear hKq Kq; clear hKq Kq; clear hKq Kq; refine hKq _ _ _ (.refl _) ?_; clear hKq Kq; conv => whnf) | (refine Or.inl (And.intro (by omega) ?_); conv => whnf) | (refine And.intro (by omega) ?_; conv => whnf))
  exact ⟨rfl, hp.ext⟩
def fullL : List At2 := [(6, rep 118 763), (6, rep 118 408)]
def wideL : List At2 := [(6, rep 118 763), (6, rep 118 409)]
def manyL (n : Nat) : List At2 := List.replicate n (65535, ⟨#[]⟩)
theorem idC_size : idC.size = 12 := rfl
theorem rep_attr (n : Nat) (h : n ≤ 763) : attrB (6, rep 118 n) = true := by
  unfold attrB
  have := rep_size 118 n
  simp only [Bool.and_eq_true, decide_eq_true_eq]
  omega
theorem rep_atN (n : Nat) : atN (6, rep 118 n) = 4 + (n + 3) / 4 * 4 := by unfold atN; rw [rep_size]
theorem full_sz : sizeN fullL = 1180 := by unfold fullL sizeN sizeN sizeN; rw [rep_atN, rep_atN]
theorem wide_sz : sizeN wideL = 1184 := by unfold wideL sizeN sizeN sizeN; rw [rep_atN, rep_atN]
theorem full_ok : stunB 0 1 idC fullL = true := by
  refine stunB_of (by decide) (by decide) (by decide) (by decide) idC_size (by decide) (fun a ha => ?_) (by rw [full_sz]; decide)
  unfold fullL at ha
  rcases List.mem_cons.1 ha with rfl | ha
  · exact rep_attr _ (by decide)
  · rw [List.mem_singleton] at ha; subst ha; exact rep_attr _ (by decide)
theorem over {c m : Int} {id : ByteArray} {al : List At2} (h : 1180 < sizeN al) : stunB c m id al = false := stunB_f fun hb => by
  have := (stunB_t hb).2.2.2.2.2.2.2
  omega
theorem longer {c m : Int} {id : ByteArray} {al : List At2} (h : 30 < al.length) : stunB c m id al = false := stunB_f fun hb => by
  have := (stunB_t hb).2.2.2.2.2.1
  omega
theorem many_sz : ∀ n, sizeN (manyL n) = 4 * n
  | 0 => rfl
  | n + 1 => by
    have h := many_sz n
    show 4 + sizeN (manyL n) = _
    omega
theorem many_len (n : Nat) : (manyL n).length = n := List.length_replicate
theorem many_ok (n : Nat) (h : n ≤ 30) : stunB 0 1 idC (manyL n) = true := by
  refine stunB_of (by decide) (by decide) (by decide) (by decide) idC_size (by rw [many_len]; exact h) (fun a ha => ?_) (by rw [many_sz]; omega)
  rw [List.eq_of_mem_replicate ha]
  decide
theorem many_succ (n : Nat) : manyL n ++ [(65535, ⟨#[]⟩)] = manyL (n + 1) := by
  unfold manyL
  rw [← List.replicate_succ']
def tB : ByteArray := wrB 3 4095 idC [] 0
def pB : ByteArray := ⟨#[0, 1, 0, 8]⟩ ++ tB.extract 4 20 ++ ⟨#[0, 6, 0, 1, 118, 0, 0]⟩
theorem t_ok : stunB 3 4095 idC [] = true := by decide +kernel
theorem t_size : tB.size = 20 := by decide +kernel
theorem t_pre : tB.data.toList.take 2 = [63, 255] := by decide +kernel
theorem t_id : tB.extract 8 20 = idC := by decide +kernel
theorem t_d1 : decC (⟨#[64, 0]⟩ ++ tB.extract 2 20) = 5 := by decide +kernel
theorem t_d2 : decC (tB.extract 0 4 ++ ⟨#[32]⟩ ++ tB.extract 5 20) = 5 := by decide +kernel
theorem p_d1 : decC (pB ++ ⟨#[1]⟩) = 5 := by decide +kernel
theorem p_d2 : pB ++ ⟨#[0]⟩ = wrB 0 1 idC [(6, ⟨#[118]⟩)] 0 := by decide +kernel
theorem p_ok : stunB 0 1 idC [(6, ⟨#[118]⟩)] = true := by decide +kernel
theorem p_d3 : decC (⟨#[0, 1, 0, 4]⟩ ++ tB.extract 4 20 ++ ⟨#[0, 6, 0, 1]⟩) = 5 := by decide +kernel
theorem p_d4 : decC (⟨#[0, 1, 0, 2]⟩ ++ tB.extract 4 20 ++ ⟨#[0, 6]⟩) = 5 := by decide +kernel
theorem dec_big (s : ByteArray) (h : 1200 < s.size) : decC s = 3 := by unfold decC; rw [if_pos h]
theorem rr1 : PureF Tryz.prog 37 #[.string ⟨#[0, 0, 4, 100]⟩] (.tuple #[.int .i64 0, .string ⟨#[]⟩, .int .i64 5]) := ReadReason_big _ (by decide) (by decide +kernel)
theorem rr2 : PureF Tryz.prog 37 #[.string ⟨#[0, 1, 4, 0]⟩] (.tuple #[.int .i64 0, .string ⟨#[]⟩, .int .i64 5]) := ReadReason_other _ (by decide) (by decide) (by decide +kernel) (by decide +kernel) (by decide +kernel)
theorem rr3 : PureF Tryz.prog 37 #[.string ⟨#[0, 0, 2, 99]⟩] (.tuple #[.int .i64 0, .string ⟨#[]⟩, .int .i64 5]) := ReadReason_arg _ (by decide) (by decide +kernel) (by decide +kernel)
theorem rr5 : PureF Tryz.prog 37 #[.string ⟨#[0, 0, 6, 99]⟩] (.tuple #[.int .i64 699, .string ⟨#[]⟩, .int .i64 0]) := by
  have h := ReadReason_ok ⟨#[0, 0, 6, 99]⟩ (by unfold rsnO; decide +kernel)
  have e1 : rsnN ⟨#[0, 0, 6, 99]⟩ = 699 := by decide +kernel
  have e2 : (⟨#[0, 0, 6, 99]⟩ : ByteArray).extract 4 (⟨#[0, 0, 6, 99]⟩ : ByteArray).size = ⟨#[]⟩ := by decide +kernel
  rw [e1, e2] at h
  exact h
theorem rr4 : PureF Tryz.prog 37 #[.string (⟨#[0, 0, 4, 0]⟩ ++ (rep 120 4097).extract 0 129)] (.tuple #[.int .i64 0, .string ⟨#[]⟩, .int .i64 5]) := by
  have z1 := size_extract (rep 120 4097) 0 129 (by rw [rep_size]; decide)
  have z2 : ((⟨#[0, 0, 4, 0]⟩ : ByteArray) ++ (rep 120 4097).extract 0 129).size = 133 := by rw [ByteArray.size_append, z1]; rfl
  refine ReadReason_long _ (by omega) ?_ ?_
  · decide +kernel
  · decide +kernel
theorem rm1 : PureF Tryz.prog 33 #[.string idC, .string ⟨#[0, 3, 97, 97, 98, 98, 98, 98]⟩] (.tuple #[.agg #[.string ⟨#[]⟩, .int .i64 0], .int .i64 5]) := (ReadMixed_rd _ _ rfl (.inl rfl)).2 (by decide +kernel)
theorem rm2 : PureF Tryz.prog 33 #[.string idC, .string ⟨#[1, 1, 97, 97, 98, 98, 98, 98]⟩] (.tuple #[.agg #[.string ⟨#[]⟩, .int .i64 0], .int .i64 5]) := (ReadMixed_rd _ _ rfl (.inl rfl)).2 (by decide +kernel)
theorem rm3 : PureF Tryz.prog 33 #[.string (⟨#[115, 104, 111, 114, 116]⟩ : ByteArray), .string ⟨#[0]⟩] (.tuple #[.agg #[.string ⟨#[]⟩, .int .i64 0], .int .i64 2]) := ReadMixed_id _ _ (by decide)
theorem Decode_yes {W : World} {c m : Nat} {id : ByteArray} {al : List At2} (s : ByteArray) (hs : s = wrB c m id al 0) (h : stunB c m id al = true) :
    Calls Tryz.prog 19 #[.string s] W fun e w' => ∃ v, e = .returned (.tuple #[.agg #[.int .i64 c, .int .i64 m, .string id, v], .int .i64 0]) ∧ HpM [] W w' [row 54 2 v al.length (flatC al)] := by
  obtain ⟨d0, d1, d2, d3, d4⟩ := dec_of h
  have hz := (stunB_t h).2.2.2.2.2.2.2
  have hi := (stunB_t h).2.2.2.2.1
  have zs := wrB_size c m id al 0
  rw [← hs] at d0 d1 d2 d3 d4 zs
  refine (Decode_c s (by unfold maxLen; omega)).mono fun e w' hh => ?_
  rcases hh with ⟨-, v, he, hp⟩ | ⟨h0, -⟩
  · rw [d1, d2, d3] at he
    rw [d4] at hp
    exact ⟨v, he, hp⟩
  · exact absurd d0 h0
theorem Check_no {W : World} {v : Value} {al : List At2} (c m : Int) (id : ByteArray) (h : stunB c m id al = false) (hv : SA W v al) :
    Calls Tryz.prog 17 #[.agg #[.int .i64 c, .int .i64 m, .string id, v]] W fun e w' => e = .returned (.int .i64 80) ∧ Ext W w' := by
  have hc := Check_c (W := W) c m id hv
  unfold chkN at hc
  rw [h] at hc
  exact hc
theorem Check_yes {W : World} {v : Value} {al : List At2} (c m : Int) (id : ByteArray) (h : stunB c m id al = true) (hv : SA W v al) :
    Calls Tryz.prog 17 #[.agg #[.int .i64 c, .int .i64 m, .string id, v]] W fun e w' => e = .returned (.int .i64 0) ∧ Ext W w' := by
  have hc := Check_c (W := W) c m id hv
  unfold chkN at hc
  rw [h] at hc
  exact hc
theorem Prot_full {W : World} {v : Value} {al : List At2} (c m : Nat) (id key : ByteArray) (hb : stunB c m id al = true) (hk : key.size ≤ 4096) (h8 : hasB 8 al = false) (h9 : hasB 32808 al = false) (hz : 1150 ≤ sizeN al) (hv : SA W v al) :
    Calls Tryz.prog 39 #[.agg #[.int .i64 c, .int .i64 m, .string id, v], .string key] W fun e w' => e = .returned (.tuple #[zStun, .int .i64 3]) ∧ Ext W w' :=
  (Protect_full c m id key hv hb hk h8 h9 (over (by
    rw [sizeN_app]
    have : sizeN [((8 : Int), macB key (wrB c m id al 36))] = 4 + ((macB key (wrB c m id al 36)).size + 3) / 4 * 4 := rfl
    rw [macB_size] at this
    omega))).mono fun _ _ ⟨_, h1, h2, h3⟩ => ⟨h1.trans (congrArg _ h2), h3⟩
theorem Mark_many {W : World} {v : Value} {al : List At2} (c m : Nat) (id : ByteArray) (hb : stunB c m id al = true) (h9 : hasB 32808 al = false) (hz : 30 ≤ al.length) (hv : SA W v al) :
    Calls Tryz.prog 40 #[.agg #[.int .i64 c, .int .i64 m, .string id, v]] W fun e w' => e = .returned (.tuple #[zStun, .int .i64 3]) ∧ Ext W w' :=
  (Mark_full c m id hv hb h9 (longer (by rw [List.length_append, List.length_singleton]; omega))).mono fun _ _ ⟨_, h1, h2, h3⟩ => ⟨h1.trans (congrArg _ h2), h3⟩
theorem many_has : hasB 32808 (manyL 30) = false := by decide +kernel
theorem zero_no : stunB 0 0 ⟨#[]⟩ [] = false := by decide
theorem zero_ver (key : ByteArray) : verC 0 0 ⟨#[]⟩ key [] = 80 := rfl
theorem zero_mrk : markC 0 0 ⟨#[]⟩ [] = 80 := by decide
theorem m_mrk : markC 0 1 idC [] = 4 := by decide
theorem m_ver (key : ByteArray) (h : 4096 < key.size) : verC 0 1 idC key [] = 3 := by unfold verC; rw [if_pos k_s0, if_pos h]
set_option maxHeartbeats 12800000
/-- a piece of a draft: which, kind, value -/
abbrev Pc3 : Type := Nat × Nat × ByteArray
def pcC (p : Pc3) : List Value := [.int .u8 p.1, .int .u16 p.2.1, .string p.2.2]
def SPc (w : World) (v : Value) (l : List Pc3) : Prop := SLn w 3 v (l.map pcC)
theorem SPc.shape {w : World} {v : Value} {l : List Pc3} (h : SPc w v l) : ∃ p c, v = .slice p l.length c := by
  obtain ⟨p, c, e⟩ := SLn.shape h
  rw [List.length_map] at e
  exact ⟨p, c, e⟩
theorem SPc.at {w : World} {p : Option Addr} {n c : Nat} {l : List Pc3} (h : SPc w (.slice p n c) l) {j : Nat} {a : Pc3} (hj : l[j]? = some a) :
    ∃ g off, p = some ⟨g, off, none⟩ ∧ (Instr.loadAt 99 (.pointer (some ⟨g, addM off j 3, none⟩))).run Tryz.prog w = .ok (.agg #[.int .u8 a.1, .int .u16 a.2.1, .string a.2.2]) w := by
  obtain ⟨g, off, e, _, hc⟩ := SLn.cells h (j := j) (x := pcC a) (by rw [List.getElem?_map, hj]; rfl)
  exact ⟨g, off, e, run_ldN TTok rfl (vs := pcC a) rfl fun i y hy => hc i y hy⟩
/-- what is known of a drafted message -/
structure DrOk (c m : Nat) (id : ByteArray) (al : List At2) : Prop where
  c : c < 4
  m : m < 4096
  id : id.size = 12
  len : al.length ≤ 6
  each : ∀ a ∈ al, 0 ≤ a.1 ∧ a.1 ≤ 65535 ∧ a.2.size ≤ 60
set_option maxHeartbeats 25600000
set_option maxHeartbeats 51200000
theorem SA.cap {w : World} {g n c : Nat} {al : List At2} (h : SA w (.slice (some ⟨g, 0, none⟩) n c) al) (hn : 0 < al.length) : al.length ≤ c ∧ c ≤ maxLen := by
  rcases h with ⟨hv, h⟩ | ⟨_, _, hv, h⟩ | ⟨g', off', c', hv, h1, h2, h3⟩
  · rw [List.map_eq_nil_iff.1 h] at hn; simp at hn
  · rw [List.map_eq_nil_iff.1 h] at hn; simp at hn
  · simp only [Value.slice.injEq] at hv
    obtain ⟨-, -, rfl⟩ := hv
    rw [List.length_map] at h1
    exact ⟨h1, h2⟩
set_option maxHeartbeats 6400000
set_option maxHeartbeats 12800000

set_option maxHeartbeats 12800000
set_option maxHeartbeats 25600000
set_option maxHeartbeats 25600000
set_option maxHeartbeats 25600000
theorem ix34_0 (w : World) (c0 m0 c1 m1 c2 m2 c3 m3 : Int) (i0 i1 i2 i3 : ByteArray) (p0 p1 p2 p3 : Option Addr) (n0 n1 n2 n3 k0 k1 k2 k3 : Nat) : (Instr.index 34 (.agg #[.int .i64 c0, .int .i64 m0, .string i0, .slice p0 n0 k0, .int .i64 c1, .int .i64 m1, .string i1, .slice p1 n1 k1, .int .i64 c2, .int .i64 m2, .string i2, .slice p2 n2 k2, .int .i64 c3, .int .i64 m3, .string i3, .slice p3 n3 k3]) (.int .i64 0)).run Tryz.prog w = .ok (.agg #[.int .i64 c0, .int .i64 m0, .string i0, .slice p0 n0 k0]) w := by kernel_rfl
theorem ix34_1 (w : World) (c0 m0 c1 m1 c2 m2 c3 m3 : Int) (i0 i1 i2 i3 : ByteArray) (p0 p1 p2 p3 : Option Addr) (n0 n1 n2 n3 k0 k1 k2 k3 : Nat) : (Instr.index 34 (.agg #[.int .i64 c0, .int .i64 m0, .string i0, .slice p0 n0 k0, .int .i64 c1, .int .i64 m1, .string i1, .slice p1 n1 k1, .int .i64 c2, .int .i64 m2, .string i2, .slice p2 n2 k2, .int .i64 c3, .int .i64 m3, .string i3, .slice p3 n3 k3]) (.int .i64 1)).run Tryz.prog w = .ok (.agg #[.int .i64 c1, .int .i64 m1, .string i1, .slice p1 n1 k1]) w := by kernel_rfl
theorem ix34_2 (w : World) (c0 m0 c1 m1 c2 m2 c3 m3 : Int) (i0 i1 i2 i3 : ByteArray) (p0 p1 p2 p3 : Option Addr) (n0 n1 n2 n3 k0 k1 k2 k3 : Nat) : (Instr.index 34 (.agg #[.int .i64 c0, .int .i64 m0, .string i0, .slice p0 n0 k0, .int .i64 c1, .int .i64 m1, .string i1, .slice p1 n1 k1, .int .i64 c2, .int .i64 m2, .string i2, .slice p2 n2 k2, .int .i64 c3, .int .i64 m3, .string i3, .slice p3 n3 k3]) (.int .i64 2)).run Tryz.prog w = .ok (.agg #[.int .i64 c2, .int .i64 m2, .string i2, .slice p2 n2 k2]) w := by kernel_rfl
theorem ix34_3 (w : World) (c0 m0 c1 m1 c2 m2 c3 m3 : Int) (i0 i1 i2 i3 : ByteArray) (p0 p1 p2 p3 : Option Addr) (n0 n1 n2 n3 k0 k1 k2 k3 : Nat) : (Instr.index 34 (.agg #[.int .i64 c0, .int .i64 m0, .string i0, .slice p0 n0 k0, .int .i64 c1, .int .i64 m1, .string i1, .slice p1 n1 k1, .int .i64 c2, .int .i64 m2, .string i2, .slice p2 n2 k2, .int .i64 c3, .int .i64 m3, .string i3, .slice p3 n3 k3]) (.int .i64 3)).run Tryz.prog w = .ok (.agg #[.int .i64 c3, .int .i64 m3, .string i3, .slice p3 n3 k3]) w := by kernel_rfl
structure MsOk (id : ByteArray) (al : List At2) : Prop where
  id : id.size ≤ maxLen
  len : al.length ≤ 100
  each : ∀ a ∈ al, AtOk a
/-- an array of four messages: what each index gives -/
def Four8 (w : World) (A : Value) : Prop := (∃ cs, A = .agg cs) ∧ ∀ k : Nat, k < 4 → ∃ (c m : Int) (id : ByteArray) (al : List At2) (p : Option Addr) (cp : Nat), MsOk id al ∧ SA w (.slice p al.length cp) al ∧ (k = 1 → ∃ c' m' : Nat, c = c' ∧ m = m' ∧ DrOk c' m' id al) ∧ ∀ w2, (Instr.index 34 A (.int .i64 k)).run Tryz.prog w2 = .ok (.agg #[.int .i64 c, .int .i64 m, .string id, .slice p al.length cp]) w2
theorem Four8.ext {w w' : World} {A : Value} (h : Four8 w A) (hx : Ext w w') : Four8 w' A := ⟨h.1, fun k hk =>
  let ⟨c, m, id, al, p, cp, h1, h2, h3, h4⟩ := h.2 k hk
  ⟨c, m, id, al, p, cp, h1, h2.ext hx, h3, h4⟩⟩
/-- an array of four messages, cell by cell -/
def Cells16 (w : World) (A : Value) : Prop := ∃ (c0 m0 c1 m1 c2 m2 c3 m3 : Int) (i0 i1 i2 i3 : ByteArray) (l0 l1 l2 l3 : List At2) (p0 p1 p2 p3 : Option Addr) (k0 k1 k2 k3 : Nat),
  A = .agg #[.int .i64 c0, .int .i64 m0, .string i0, .slice p0 l0.length k0, .int .i64 c1, .int .i64 m1, .string i1, .slice p1 l1.length k1, .int .i64 c2, .int .i64 m2, .string i2, .slice p2 l2.length k2, .int .i64 c3, .int .i64 m3, .string i3, .slice p3 l3.length k3] ∧
  (MsOk i0 l0 ∧ SA w (.slice p0 l0.length k0) l0) ∧ (MsOk i1 l1 ∧ SA w (.slice p1 l1.length k1) l1) ∧ (MsOk i2 l2 ∧ SA w (.slice p2 l2.length k2) l2) ∧ (MsOk i3 l3 ∧ SA w (.slice p3 l3.length k3) l3) ∧ ∃ c' m' : Nat, c1 = c' ∧ m1 = m' ∧ DrOk c' m' i1 l1
theorem Cells16.four {w : World} {A : Value} (h : Cells16 w A) : Four8 w A := by
  obtain ⟨c0, m0, c1, m1, c2, m2, c3, m3, i0, i1, i2, i3, l0, l1, l2, l3, p0, p1, p2, p3, k0, k1, k2, k3, rfl, h0, h1, h2, h3, hd⟩ := h
  refine ⟨⟨_, rfl⟩, fun k hk => ?_⟩
  have hk4 : k = 0 ∨ k = 1 ∨ k = 2 ∨ k = 3 := by omega
  rcases hk4 with rfl | rfl | rfl | rfl
  · exact ⟨c0, m0, i0, l0, p0, k0, h0.1, h0.2, (fun h => by cases h), fun w2 => ix34_0 w2 _ _ _ _ _ _ _ _ _ _ _ _ _ _ _ _ _ _ _ _ _ _ _ _⟩
  · exact ⟨c1, m1, i1, l1, p1, k1, h1.1, h1.2, (fun _ => hd), fun w2 => ix34_1 w2 _ _ _ _ _ _ _ _ _ _ _ _ _ _ _ _ _ _ _ _ _ _ _ _⟩
  · exact ⟨c2, m2, i2, l2, p2, k2, h2.1, h2.2, (fun h => by cases h), fun w2 => ix34_2 w2 _ _ _ _ _ _ _ _ _ _ _ _ _ _ _ _ _ _ _ _ _ _ _ _⟩
  · exact ⟨c3, m3, i3, l3, p3, k3, h3.1, h3.2, (fun h => by cases h), fun w2 => ix34_3 w2 _ _ _ _ _ _ _ _ _ _ _ _ _ _ _ _ _ _ _ _ _ _ _ _⟩
set_option maxHeartbeats 51200000
open Go.RowKit
namespace V
/-- a piece of an order: what is done behind it -/
def mixP (md : Region.Mode) (ops : Array Oper) (n : Nat) : List (Nat × Bool) → Array Bool → Option (Array Bool)
  | [], done => some done
  | (i, false) :: r, done => match decide (i < n) && (Region.ready md ops done).contains i && Region.free md ops done i with
    | true => mixP md ops n r (done.setIfInBounds i true)
    | false => none
  | (i, true) :: r, done => match decide (i < n) && decide (Region.ready md ops done = [i]) with
    | true => mixP md ops n r (done.setIfInBounds i true)
    | false => none
theorem mixB_app {md : Region.Mode} {ops : Array Oper} {n : Nat} {base : Array Bool → Bool} {r2 : List (Nat × Bool)} {d1 : Array Bool} (h2 : mixB md ops n base r2 d1 = true) :
    ∀ (r1 : List (Nat × Bool)) (d0 : Array Bool), mixP md ops n r1 d0 = some d1 → mixB md ops n base (r1 ++ r2) d0 = true
  | [], d0, h => by
    simp only [mixP, Option.some.injEq] at h
    subst h
    exact h2
  | (i, false) :: r, d0, h => by
    unfold mixP at h
    split at h
    · rename_i hc
      show mixB md ops n base ((i, false) :: (r ++ r2)) d0 = true
      unfold mixB
      rw [hc, Bool.true_and]
      exact mixB_app h2 r _ h
    · cases h
  | (i, true) :: r, d0, h => by
    unfold mixP at h
    split at h
    · rename_i hc
      show mixB md ops n base ((i, true) :: (r ++ r2)) d0 = true
      unfold mixB
      rw [hc, Bool.true_and]
      exact mixB_app h2 r _ h
    · cases h
theorem mixA_of {L : List Oper} {ops : Array Oper} {r : List (Nat × Bool)} (hs : (Region.noSelect ops && Nat.beq r.length L.length && noDefer L) = true) (h : mixB .any ops ops.size (fun done => (Region.ready .any ops done).isEmpty) r (Array.replicate ops.size false) = true) :
    (mixA ops r && Nat.beq r.length L.length && noDefer L) = true := by
  unfold mixA
  rw [h, Bool.and_true]
  exact hs
end V
end Go.Proofs.YtmlmfmdmomegpaaGreatDoor
