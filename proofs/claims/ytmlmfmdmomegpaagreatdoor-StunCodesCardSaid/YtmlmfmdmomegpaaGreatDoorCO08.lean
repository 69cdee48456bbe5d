/- Chapter 08: zeros are trimmed. -/
/- Chapter 08: octets are read as attributes. -/
/- Functions that may panic, that defer, that recover. Own work. No program is named here. -/
import Derived.Test.YtmlmfmdmomegpaaGreatDoorCO07
import Derived.Test.YtmlmfmdmomegpaaGreatDoorCO06
import Derived.Test.YtmlmfmdmomegpaaGreatDoorCO01
namespace Go.Proofs.YtmlmfmdmomegpaaGreatDoor
set_option linter.unusedSimpArgs false
set_option linter.unusedVariables false
set_option maxRecDepth 100000
open Go.RowKit V
set_option maxHeartbeats 4000000
def trN (s : ByteArray) : Nat → Nat
  | 0 => 0
  | k + 1 => if byt s k = 0 then trN s k else k + 1
theorem trN_le (s : ByteArray) : ∀ k, trN s k ≤ k
  | 0 => Nat.le_refl _
  | k + 1 => by
    unfold trN
    split
    · exact Nat.le_trans (trN_le s k) (Nat.le_succ k)
    · exact Nat.le_refl _
def tlN (s : ByteArray) : Nat → Nat → Nat
  | 0, j => j
  | f + 1, j => if byt s j = 0 then tlN s f (j + 1) else j
theorem byt_pre (s : ByteArray) (j k i : Nat) (h : k ≤ s.size) (hi : j + i < k) : byt (s.extract j k) i = byt s (j + i) := by
  unfold byt
  have e : (s.extract j k).data.toList = (s.data.toList.take k).drop j := by
    have : (s.extract j k).data = s.data.extract j k := by simp
    rw [this, Array.toList_extract, List.extract_eq_take_drop, List.drop_take]
  rw [e, List.getD_eq_getElem?_getD, List.getElem?_drop, List.getElem?_take, if_pos (by omega), List.getD_eq_getElem?_getD]
theorem ext_ext (s : ByteArray) (j k a b : Nat) : (s.extract j k).extract a b = s.extract (j + a) (min (j + b) k) := by
  apply ba_eq
  rw [ext_toList, ext_toList, ext_toList, List.take_drop, List.drop_drop, List.take_take]
theorem trN_z {s : ByteArray} {k : Nat} (h : byt s k = 0) : trN s (k + 1) = trN s k := by
  conv => lhs; unfold trN
  rw [if_pos h]
theorem trN_nz {s : ByteArray} {k : Nat} (h : byt s k ≠ 0) : trN s (k + 1) = k + 1 := by
  unfold trN
  rw [if_neg h]
theorem trR_p (s : ByteArray) (hs : s.size ≤ 100000) : PureF Tryz.prog 146 #[.string s, .int .u8 0] (.string (s.extract 0 (trN s s.size))) := by
  first | refine v_pure TTok FFok Tryz.func146 rfl rfl fun w0 => ?_ | refine v_pure (args := []) TTok FFok Tryz.func146 rfl rfl fun w0 => ?_
  conv => whnf
  repeat (first | (refine VSeq.mk fun Kq hKq => ?_; conv => whnf) | (refine hKq _ _ _ (.refl _) ?_; clear hKq Kq; conv => whnf) | (clear hKq Kq; refine hKq _ _ _ (.refl _) ?_; clear hKq Kq; conv => whnf) | (clear hKq Kq; clear hKq Kq; refine hKq _ _ _ (.refl _) ?_; clear hKq Kq; conv => whnf) | (clear hKq Kq; clear hKq Kq; clear hKq Kq; refine hKq _ _ _ (.refl _) ?_; clear hKq Kq; conv => whnf) | (clear hKq Kq; clear hKq Kq; clear hKq Kq; clear hKq Kq; refine hKq _ _ _ (.refl _) ?_; clear hKq Kq; conv => whnf) | (clear hKq Kq; clear hKq Kq; clear hKq Kq; clear hKq Kq; clear hKq Kq; refine hKq _ _ _ (.refl _) ?_; clear hKq Kq; conv => whnf) | (refine Or.inl (And.intro (by omega) ?_); conv => whnf) | (refine And.intro (by omega) ?_; conv => whnf))
  have hp := Hp.nil w0
  refine ⟨fun mm e w' => ∃ (k : Nat), mm = k ∧ k ≤ s.size ∧ trN s k = trN s s.size ∧ e = [(0, .v (.string (s.extract 0 k))), (1, .v (.int .u8 0))] ∧ HpM [] w0 w' [],
    ⟨s.size, _, ⟨s.size, rfl, Nat.le_refl _, rfl, by rw [show s.extract 0 s.size = s by simp], hp⟩, sub_cons rfl (sub_cons rfl sub_nil)⟩, ?_⟩
  clear hp
  repeat clear hp
  rintro mm _ w ⟨k, rfl, hk, htr, rfl, hp⟩
  have hsz : (s.extract 0 mm).size = mm := by rw [ByteArray.size_extract]; omega
  conv => whnf
  repeat (first | (refine VSeq.mk fun Kq hKq => ?_; conv => whnf) | (refine hKq _ _ _ (.refl _) ?_; clear hKq Kq; conv => whnf) | (clear hKq Kq; refine hKq _ _ _ (.refl _) ?_; clear hKq Kq; conv => whnf) | (clear hKq Kq; clear hKq Kq; refine hKq _ _ _ (.refl _) ?_; clear hKq Kq; conv => whnf) | (clear hKq Kq; clear hKq Kq; clear hKq Kq; refine hKq _ _ _ (.refl _) ?_; clear hKq Kq; conv => whnf) | (clear hKq Kq; clear hKq Kq; clear hKq Kq; clear hKq Kq; refine hKq _ _ _ (.refl _) ?_; clear hKq Kq; conv => whnf) | (clear hKq Kq; clear hKq Kq; clear hKq Kq; clear hKq Kq; clear hKq Kq; refine hKq _ _ _ (.refl _) ?_; clear hKq Kq; conv => whnf) | (refine Or.inl (And.intro (by omega) ?_); conv => whnf) | (refine And.intro (by omega) ?_; conv => whnf))
  refine ⟨fun h0 => ?_, fun h0 => ?_⟩
  · have h0 := of_decide_eq_true h0
    conv => whnf
    repeat (first | (refine VSeq.mk fun Kq hKq => ?_; conv => whnf) | (refine hKq _ _ _ (.refl _) ?_; clear hKq Kq; conv => whnf) | (clear hKq Kq; refine hKq _ _ _ (.refl _) ?_; clear hKq Kq; conv => whnf) | (clear hKq Kq; clear hKq Kq; refine hKq _ _ _ (.refl _) ?_; clear hKq Kq; conv => whnf) | (clear hKq Kq; clear hKq Kq; clear hKq Kq; refine hKq _ _ _ (.refl _) ?_; clear hKq Kq; conv => whnf) | (clear hKq Kq; clear hKq Kq; clear hKq Kq; clear hKq Kq; refine hKq _ _ _ (.refl _) ?_; clear hKq Kq; conv => whnf) | (clear hKq Kq; clear hKq Kq; clear hKq Kq; clear hKq Kq; clear hKq Kq; refine hKq _ _ _ (.refl _) ?_; clear hKq Kq; conv => whnf) | (refine Or.inl (And.intro (by omega) ?_); conv => whnf) | (refine And.intro (by omega) ?_; conv => whnf))
    have hpos : 0 < mm := by omega
    refine ⟨mm - 1, ⟨by first | rfl | omega, by omega⟩, ?_⟩
    conv => whnf
    repeat (first | (refine VSeq.mk fun Kq hKq => ?_; conv => whnf) | (refine hKq _ _ _ (.refl _) ?_; clear hKq Kq; conv => whnf) | (clear hKq Kq; refine hKq _ _ _ (.refl _) ?_; clear hKq Kq; conv => whnf) | (clear hKq Kq; clear hKq Kq; refine hKq _ _ _ (.refl _) ?_; clear hKq Kq; conv => whnf) | (clear hKq Kq; clear hKq Kq; clear hKq Kq; refine hKq _ _ _ (.refl _) ?_; clear hKq Kq; conv => whnf) | (clear hKq Kq; clear hKq Kq; clear hKq Kq; clear hKq Kq; refine hKq _ _ _ (.refl _) ?_; clear hKq Kq; conv => whnf) | (clear hKq Kq; clear hKq Kq; clear hKq Kq; clear hKq Kq; clear hKq Kq; refine hKq _ _ _ (.refl _) ?_; clear hKq Kq; conv => whnf) | (refine Or.inl (And.intro (by omega) ?_); conv => whnf) | (refine And.intro (by omega) ?_; conv => whnf))
    rw [byt_pre s 0 mm (mm - 1) hk (by omega), Nat.zero_add]
    refine ⟨fun hz => ?_, fun hz => ?_⟩
    · have hz := of_decide_eq_true hz
      conv => whnf
      repeat (first | (refine VSeq.mk fun Kq hKq => ?_; conv => whnf) | (refine hKq _ _ _ (.refl _) ?_; clear hKq Kq; conv => whnf) | (clear hKq Kq; refine hKq _ _ _ (.refl _) ?_; clear hKq Kq; conv => whnf) | (clear hKq Kq; clear hKq Kq; refine hKq _ _ _ (.refl _) ?_; clear hKq Kq; conv => whnf) | (clear hKq Kq; clear hKq Kq; clear hKq Kq; refine hKq _ _ _ (.refl _) ?_; clear hKq Kq; conv => whnf) | (clear hKq Kq; clear hKq Kq; clear hKq Kq; clear hKq Kq; refine hKq _ _ _ (.refl _) ?_; clear hKq Kq; conv => whnf) | (clear hKq Kq; clear hKq Kq; clear hKq Kq; clear hKq Kq; clear hKq Kq; refine hKq _ _ _ (.refl _) ?_; clear hKq Kq; conv => whnf) | (refine Or.inl (And.intro (by omega) ?_); conv => whnf) | (refine And.intro (by omega) ?_; conv => whnf))
      obtain ⟨k, rfl⟩ : ∃ k, mm = k + 1 := ⟨mm - 1, by omega⟩
      simp only [Nat.add_sub_cancel] at hz
      repeat (first | (refine VSeq.mk fun Kq hKq => ?_; conv => whnf) | (refine hKq _ _ _ (.refl _) ?_; clear hKq Kq; conv => whnf) | (clear hKq Kq; refine hKq _ _ _ (.refl _) ?_; clear hKq Kq; conv => whnf) | (clear hKq Kq; clear hKq Kq; refine hKq _ _ _ (.refl _) ?_; clear hKq Kq; conv => whnf) | (clear hKq Kq; clear hKq Kq; clear hKq Kq; refine hKq _ _ _ (.refl _) ?_; clear hKq Kq; conv => whnf) | ((with_reducible show ∃ v w1, Sem.run _ (Instr.box _ _) _ = Result.ok v w1 ∧ _); first | (refine hp.kboxA fun q w hp hx => ?_; conv => whnf) | (refine hp.kbox1 rfl fun q w hp hx => ?_; conv => whnf) | fail) | ((with_reducible show ∀ w1, Ext _ w1 → _); first | (intro w hx; try (have hp := hp.call hx); conv => whnf) | fail) | ((with_reducible show ∃ v, Sem.run _ (loadVar _ _) _ = Result.ok v _ ∧ _); first | (refine ⟨_, Blk.lv (hp.get (i := 0) rfl) TTok rfl rfl, ?_⟩; conv => whnf) | (refine ⟨_, Blk.lv (hp.get (i := 1) rfl) TTok rfl rfl, ?_⟩; conv => whnf) | (refine ⟨_, Blk.lv (hp.get (i := 2) rfl) TTok rfl rfl, ?_⟩; conv => whnf) | (refine ⟨_, Blk.lv (hp.get (i := 3) rfl) TTok rfl rfl, ?_⟩; conv => whnf) | (refine ⟨_, Blk.lv (hp.get (i := 4) rfl) TTok rfl rfl, ?_⟩; conv => whnf) | (refine ⟨_, Blk.lv (hp.get (i := 5) rfl) TTok rfl rfl, ?_⟩; conv => whnf) | (refine ⟨_, Blk.lv (hp.get (i := 6) rfl) TTok rfl rfl, ?_⟩; conv => whnf) | (refine ⟨_, Blk.lv (hp.get (i := 7) rfl) TTok rfl rfl, ?_⟩; conv => whnf) | (refine ⟨_, Blk.lvN (hp.get (i := 0) rfl) TTok rfl rfl, ?_⟩; conv => whnf) | (refine ⟨_, Blk.lvN (hp.get (i := 1) rfl) TTok rfl rfl, ?_⟩; conv => whnf) | (refine ⟨_, Blk.lvN (hp.get (i := 2) rfl) TTok rfl rfl, ?_⟩; conv => whnf) | (refine ⟨_, Blk.lvN (hp.get (i := 3) rfl) TTok rfl rfl, ?_⟩; conv => whnf) | (refine ⟨_, Blk.lvN (hp.get (i := 4) rfl) TTok rfl rfl, ?_⟩; conv => whnf) | (refine ⟨_, Blk.lvN (hp.get (i := 5) rfl) TTok rfl rfl, ?_⟩; conv => whnf) | (refine ⟨_, Blk.lvN (hp.get (i := 6) rfl) TTok rfl rfl, ?_⟩; conv => whnf) | (refine ⟨_, Blk.lvN (hp.get (i := 7) rfl) TTok rfl rfl, ?_⟩; conv => whnf) | fail) | ((with_reducible show ∃ m : Nat, (_ ∧ _) ∧ _); first | (refine ⟨_, ⟨rfl, by omega⟩, ?_⟩; conv => whnf) | (refine ⟨0, ⟨rfl, by decide⟩, ?_⟩; conv => whnf) | (refine ⟨1, ⟨rfl, by decide⟩, ?_⟩; conv => whnf) | (refine ⟨2, ⟨rfl, by decide⟩, ?_⟩; conv => whnf) | fail) | ((with_reducible show ∃ m n : Nat, (_ ∧ _) ∧ _); first | (refine ⟨_, _, ⟨rfl, rfl, by omega, by omega⟩, ?_⟩; conv => whnf) | fail) | ((with_reducible show ∃ m n r : Nat, (_ ∧ _) ∧ _); first | (refine ⟨_, _, _, ⟨rfl, rfl, by decide, by decide⟩, rfl, ?_⟩; conv => whnf) | fail) | ((with_reducible show _ ∨ _); first | (refine Or.inl (And.intro (by first | omega | decide) ?_); conv => whnf) | fail) | (with_reducible refine And.intro hx ?_; conv => whnf) | (refine And.intro (by first | omega | decide) ?_; conv => whnf) | ((with_reducible show (true = true → _) ∧ (true = false → _)); first | (refine And.intro (fun _ => ?_) (fun h => absurd h (by decide)); conv => whnf) | fail) | ((with_reducible show ((!false) = true → _) ∧ ((!false) = false → _)); first | (refine And.intro (fun _ => ?_) (fun h => absurd h (by decide)); conv => whnf) | fail) | ((with_reducible show (false = true → _) ∧ (false = false → _)); first | (refine And.intro (fun h => absurd h (by decide)) (fun _ => ?_); conv => whnf) | fail) | ((with_reducible show ((!true) = true → _) ∧ ((!true) = false → _)); first | (refine And.intro (fun h => absurd h (by decide)) (fun _ => ?_); conv => whnf) | fail) | ((with_reducible show (decide _ = true → _) ∧ (decide _ = false → _)); first | (refine And.intro (fun _ => ?_) (fun h => absurd (by first | rfl | assumption | omega | decide) (of_decide_eq_false h)); conv => whnf) | (refine And.intro (fun h => absurd (of_decide_eq_true h) (by first | (intro h2; exact absurd rfl h2) | omega | decide)) (fun _ => ?_); conv => whnf) | fail) | ((with_reducible show ((!(decide _)) = true → _) ∧ ((!(decide _)) = false → _)); first | (refine And.intro (fun _ => ?_) (fun h => absurd (of_decide_eq_true ((Bool.not_eq_false' _).mp h)) (by first | (intro h2; exact absurd rfl h2) | omega | decide)); conv => whnf) | (refine And.intro (fun h => absurd (by first | rfl | assumption | omega | decide) (of_decide_eq_false ((Bool.not_eq_true' _).mp h))) (fun _ => ?_); conv => whnf) | fail) | fail)
      refine ⟨k, ⟨by first | rfl | omega, by omega⟩, ?_⟩
      conv => whnf
      repeat (first | (refine VSeq.mk fun Kq hKq => ?_; conv => whnf) | (refine hKq _ _ _ (.refl _) ?_; clear hKq Kq; conv => whnf) | (clear hKq Kq; refine hKq _ _ _ (.refl _) ?_; clear hKq Kq; conv => whnf) | (clear hKq Kq; clear hKq Kq; refine hKq _ _ _ (.refl _) ?_; clear hKq Kq; conv => whnf) | (clear hKq Kq; clear hKq Kq; clear hKq Kq; refine hKq _ _ _ (.refl _) ?_; clear hKq Kq; conv => whnf) | (clear hKq Kq; clear hKq Kq; clear hKq Kq; clear hKq Kq; refine hKq _ _ _ (.refl _) ?_; clear hKq Kq; conv => whnf) | (clear hKq Kq; clear hKq Kq; clear hKq Kq; clear hKq Kq; clear hKq Kq; refine hKq _ _ _ (.refl _) ?_; clear hKq Kq; conv => whnf) | (refine Or.inl (And.intro (by omega) ?_); conv => whnf) | (refine And.intro (by omega) ?_; conv => whnf))
      repeat (first | (refine VSeq.mk fun Kq hKq => ?_; conv => whnf) | (refine hKq _ _ _ (.refl _) ?_; clear hKq Kq; conv => whnf) | (clear hKq Kq; refine hKq _ _ _ (.refl _) ?_; clear hKq Kq; conv => whnf) | (clear hKq Kq; clear hKq Kq; refine hKq _ _ _ (.refl _) ?_; clear hKq Kq; conv => whnf) | (clear hKq Kq; clear hKq Kq; clear hKq Kq; refine hKq _ _ _ (.refl _) ?_; clear hKq Kq; conv => whnf) | ((with_reducible show ∃ v w1, Sem.run _ (Instr.box _ _) _ = Result.ok v w1 ∧ _); first | (refine hp.kboxA fun q w hp hx => ?_; conv => whnf) | (refine hp.kbox1 rfl fun q w hp hx => ?_; conv => whnf) | fail) | ((with_reducible show ∀ w1, Ext _ w1 → _); first | (intro w hx; try (have hp := hp.call hx); conv => whnf) | fail) | ((with_reducible show ∃ v, Sem.run _ (loadVar _ _) _ = Result.ok v _ ∧ _); first | (refine ⟨_, Blk.lv (hp.get (i := 0) rfl) TTok rfl rfl, ?_⟩; conv => whnf) | (refine ⟨_, Blk.lv (hp.get (i := 1) rfl) TTok rfl rfl, ?_⟩; conv => whnf) | (refine ⟨_, Blk.lv (hp.get (i := 2) rfl) TTok rfl rfl, ?_⟩; conv => whnf) | (refine ⟨_, Blk.lv (hp.get (i := 3) rfl) TTok rfl rfl, ?_⟩; conv => whnf) | (refine ⟨_, Blk.lv (hp.get (i := 4) rfl) TTok rfl rfl, ?_⟩; conv => whnf) | (refine ⟨_, Blk.lv (hp.get (i := 5) rfl) TTok rfl rfl, ?_⟩; conv => whnf) | (refine ⟨_, Blk.lv (hp.get (i := 6) rfl) TTok rfl rfl, ?_⟩; conv => whnf) | (refine ⟨_, Blk.lv (hp.get (i := 7) rfl) TTok rfl rfl, ?_⟩; conv => whnf) | (refine ⟨_, Blk.lvN (hp.get (i := 0) rfl) TTok rfl rfl, ?_⟩; conv => whnf) | (refine ⟨_, Blk.lvN (hp.get (i := 1) rfl) TTok rfl rfl, ?_⟩; conv => whnf) | (refine ⟨_, Blk.lvN (hp.get (i := 2) rfl) TTok rfl rfl, ?_⟩; conv => whnf) | (refine ⟨_, Blk.lvN (hp.get (i := 3) rfl) TTok rfl rfl, ?_⟩; conv => whnf) | (refine ⟨_, Blk.lvN (hp.get (i := 4) rfl) TTok rfl rfl, ?_⟩; conv => whnf) | (refine ⟨_, Blk.lvN (hp.get (i := 5) rfl) TTok rfl rfl, ?_⟩; conv => whnf) | (refine ⟨_, Blk.lvN (hp.get (i := 6) rfl) TTok rfl rfl, ?_⟩; conv => whnf) | (refine ⟨_, Blk.lvN (hp.get (i := 7) rfl) TTok rfl rfl, ?_⟩; conv => whnf) | fail) | ((with_reducible show ∃ m : Nat, (_ ∧ _) ∧ _); first | (refine ⟨_, ⟨rfl, by omega⟩, ?_⟩; conv => whnf) | (refine ⟨0, ⟨rfl, by decide⟩, ?_⟩; conv => whnf) | (refine ⟨1, ⟨rfl, by decide⟩, ?_⟩; conv => whnf) | (refine ⟨2, ⟨rfl, by decide⟩, ?_⟩; conv => whnf) | fail) | ((with_reducible show ∃ m n : Nat, (_ ∧ _) ∧ _); first | (refine ⟨_, _, ⟨rfl, rfl, by omega, by omega⟩, ?_⟩; conv => whnf) | fail) | ((with_reducible show ∃ m n r : Nat, (_ ∧ _) ∧ _); first | (refine ⟨_, _, _, ⟨rfl, rfl, by decide, by decide⟩, rfl, ?_⟩; conv => whnf) | fail) | ((with_reducible show _ ∨ _); first | (refine Or.inl (And.intro (by first | omega | decide) ?_); conv => whnf) | fail) | (with_reducible refine And.intro hx ?_; conv => whnf) | (refine And.intro (by first | omega | decide) ?_; conv => whnf) | ((with_reducible show (true = true → _) ∧ (true = false → _)); first | (refine And.intro (fun _ => ?_) (fun h => absurd h (by decide)); conv => whnf) | fail) | ((with_reducible show ((!false) = true → _) ∧ ((!false) = false → _)); first | (refine And.intro (fun _ => ?_) (fun h => absurd h (by decide)); conv => whnf) | fail) | ((with_reducible show (false = true → _) ∧ (false = false → _)); first | (refine And.intro (fun h => absurd h (by decide)) (fun _ => ?_); conv => whnf) | fail) | ((with_reducible show ((!true) = true → _) ∧ ((!true) = false → _)); first | (refine And.intro (fun h => absurd h (by decide)) (fun _ => ?_); conv => whnf) | fail) | ((with_reducible show (decide _ = true → _) ∧ (decide _ = false → _)); first | (refine And.intro (fun _ => ?_) (fun h => absurd (by first | rfl | assumption | omega | decide) (of_decide_eq_false h)); conv => whnf) | (refine And.intro (fun h => absurd (of_decide_eq_true h) (by first | (intro h2; exact absurd rfl h2) | omega | decide)) (fun _ => ?_); conv => whnf) | fail) | ((with_reducible show ((!(decide _)) = true → _) ∧ ((!(decide _)) = false → _)); first | (refine And.intro (fun _ => ?_) (fun h => absurd (of_decide_eq_true ((Bool.not_eq_false' _).mp h)) (by first | (intro h2; exact absurd rfl h2) | omega | decide)); conv => whnf) | (refine And.intro (fun h => absurd (by first | rfl | assumption | omega | decide) (of_decide_eq_false ((Bool.not_eq_true' _).mp h))) (fun _ => ?_); conv => whnf) | fail) | fail)
      rw [ext_ext, Nat.zero_add, Nat.zero_add, Nat.min_eq_left (by omega)]
      exact ⟨k, _, by omega, ⟨k, rfl, by omega, (trN_z (by omega)).symm.trans htr, rfl, hp⟩, sub_cons rfl (sub_cons rfl sub_nil)⟩
    · have hz := of_decide_eq_false hz
      conv => whnf
      repeat (first | (refine VSeq.mk fun Kq hKq => ?_; conv => whnf) | (refine hKq _ _ _ (.refl _) ?_; clear hKq Kq; conv => whnf) | (clear hKq Kq; refine hKq _ _ _ (.refl _) ?_; clear hKq Kq; conv => whnf) | (clear hKq Kq; clear hKq Kq; refine hKq _ _ _ (.refl _) ?_; clear hKq Kq; conv => whnf) | (clear hKq Kq; clear hKq Kq; clear hKq Kq; refine hKq _ _ _ (.refl _) ?_; clear hKq Kq; conv => whnf) | (clear hKq Kq; clear hKq Kq; clear hKq Kq; clear hKq Kq; refine hKq _ _ _ (.refl _) ?_; clear hKq Kq; conv => whnf) | (clear hKq Kq; clear hKq Kq; clear hKq Kq; clear hKq Kq; clear hKq Kq; refine hKq _ _ _ (.refl _) ?_; clear hKq Kq; conv => whnf) | (refine Or.inl (And.intro (by omega) ?_); conv => whnf) | (refine And.intro (by omega) ?_; conv => whnf))
      repeat (first | (refine VSeq.mk fun Kq hKq => ?_; conv => whnf) | (refine hKq _ _ _ (.refl _) ?_; clear hKq Kq; conv => whnf) | (clear hKq Kq; refine hKq _ _ _ (.refl _) ?_; clear hKq Kq; conv => whnf) | (clear hKq Kq; clear hKq Kq; refine hKq _ _ _ (.refl _) ?_; clear hKq Kq; conv => whnf) | (clear hKq Kq; clear hKq Kq; clear hKq Kq; refine hKq _ _ _ (.refl _) ?_; clear hKq Kq; conv => whnf) | ((with_reducible show ∃ v w1, Sem.run _ (Instr.box _ _) _ = Result.ok v w1 ∧ _); first | (refine hp.kboxA fun q w hp hx => ?_; conv => whnf) | (refine hp.kbox1 rfl fun q w hp hx => ?_; conv => whnf) | fail) | ((with_reducible show ∀ w1, Ext _ w1 → _); first | (intro w hx; try (have hp := hp.call hx); conv => whnf) | fail) | ((with_reducible show ∃ v, Sem.run _ (loadVar _ _) _ = Result.ok v _ ∧ _); first | (refine ⟨_, Blk.lv (hp.get (i := 0) rfl) TTok rfl rfl, ?_⟩; conv => whnf) | (refine ⟨_, Blk.lv (hp.get (i := 1) rfl) TTok rfl rfl, ?_⟩; conv => whnf) | (refine ⟨_, Blk.lv (hp.get (i := 2) rfl) TTok rfl rfl, ?_⟩; conv => whnf) | (refine ⟨_, Blk.lv (hp.get (i := 3) rfl) TTok rfl rfl, ?_⟩; conv => whnf) | (refine ⟨_, Blk.lv (hp.get (i := 4) rfl) TTok rfl rfl, ?_⟩; conv => whnf) | (refine ⟨_, Blk.lv (hp.get (i := 5) rfl) TTok rfl rfl, ?_⟩; conv => whnf) | (refine ⟨_, Blk.lv (hp.get (i := 6) rfl) TTok rfl rfl, ?_⟩; conv => whnf) | (refine ⟨_, Blk.lv (hp.get (i := 7) rfl) TTok rfl rfl, ?_⟩; conv => whnf) | (refine ⟨_, Blk.lvN (hp.get (i := 0) rfl) TTok rfl rfl, ?_⟩; conv => whnf) | (refine ⟨_, Blk.lvN (hp.get (i := 1) rfl) TTok rfl rfl, ?_⟩; conv => whnf) | (refine ⟨_, Blk.lvN (hp.get (i := 2) rfl) TTok rfl rfl, ?_⟩; conv => whnf) | (refine ⟨_, Blk.lvN (hp.get (i := 3) rfl) TTok rfl rfl, ?_⟩; conv => whnf) | (refine ⟨_, Blk.lvN (hp.get (i := 4) rfl) TTok rfl rfl, ?_⟩; conv => whnf) | (refine ⟨_, Blk.lvN (hp.get (i := 5) rfl) TTok rfl rfl, ?_⟩; conv => whnf) | (refine ⟨_, Blk.lvN (hp.get (i := 6) rfl) TTok rfl rfl, ?_⟩; conv => whnf) | (refine ⟨_, Blk.lvN (hp.get (i := 7) rfl) TTok rfl rfl, ?_⟩; conv => whnf) | fail) | ((with_reducible show ∃ m : Nat, (_ ∧ _) ∧ _); first | (refine ⟨_, ⟨rfl, by omega⟩, ?_⟩; conv => whnf) | (refine ⟨0, ⟨rfl, by decide⟩, ?_⟩; conv => whnf) | (refine ⟨1, ⟨rfl, by decide⟩, ?_⟩; conv => whnf) | (refine ⟨2, ⟨rfl, by decide⟩, ?_⟩; conv => whnf) | fail) | ((with_reducible show ∃ m n : Nat, (_ ∧ _) ∧ _); first | (refine ⟨_, _, ⟨rfl, rfl, by omega, by omega⟩, ?_⟩; conv => whnf) | fail) | ((with_reducible show ∃ m n r : Nat, (_ ∧ _) ∧ _); first | (refine ⟨_, _, _, ⟨rfl, rfl, by decide, by decide⟩, rfl, ?_⟩; conv => whnf) | fail) | ((with_reducible show _ ∨ _); first | (refine Or.inl (And.intro (by first | omega | decide) ?_); conv => whnf) | fail) | (with_reducible refine And.intro hx ?_; conv => whnf) | (refine And.intro (by first | omega | decide) ?_; conv => whnf) | ((with_reducible show (true = true → _) ∧ (true = false → _)); first | (refine And.intro (fun _ => ?_) (fun h => absurd h (by decide)); conv => whnf) | fail) | ((with_reducible show ((!false) = true → _) ∧ ((!false) = false → _)); first | (refine And.intro (fun _ => ?_) (fun h => absurd h (by decide)); conv => whnf) | fail) | ((with_reducible show (false = true → _) ∧ (false = false → _)); first | (refine And.intro (fun h => absurd h (by decide)) (fun _ => ?_); conv => whnf) | fail) | ((with_reducible show ((!true) = true → _) ∧ ((!true) = false → _)); first | (refine And.intro (fun h => absurd h (by decide)) (fun _ => ?_); conv => whnf) | fail) | ((with_reducible show (decide _ = true → _) ∧ (decide _ = false → _)); first | (refine And.intro (fun _ => ?_) (fun h => absurd (by first | rfl | assumption | omega | decide) (of_decide_eq_false h)); conv => whnf) | (refine And.intro (fun h => absurd (of_decide_eq_true h) (by first | (intro h2; exact absurd rfl h2) | omega | decide)) (fun _ => ?_); conv => whnf) | fail) | ((with_reducible show ((!(decide _)) = true → _) ∧ ((!(decide _)) = false → _)); first | (refine And.intro (fun _ => ?_) (fun h => absurd (of_decide_eq_true ((Bool.not_eq_false' _).mp h)) (by first | (intro h2; exact absurd rfl h2) | omega | decide)); conv => whnf) | (refine And.intro (fun h => absurd (by first | rfl | assumption | omega | decide) (of_decide_eq_false ((Bool.not_eq_true' _).mp h))) (fun _ => ?_); conv => whnf) | fail) | fail)
      obtain ⟨k, rfl⟩ : ∃ k, mm = k + 1 := ⟨mm - 1, by omega⟩
      simp only [Nat.add_sub_cancel] at hz
      rw [← htr, trN_nz (by omega)]
      exact ⟨rfl, hp.ext⟩
  · have h0 := of_decide_eq_false h0
    conv => whnf
    repeat (first | (refine VSeq.mk fun Kq hKq => ?_; conv => whnf) | (refine hKq _ _ _ (.refl _) ?_; clear hKq Kq; conv => whnf) | (clear hKq Kq; refine hKq _ _ _ (.refl _) ?_; clear hKq Kq; conv => whnf) | (clear hKq Kq; clear hKq Kq; refine hKq _ _ _ (.refl _) ?_; clear hKq Kq; conv => whnf) | (clear hKq Kq; clear hKq Kq; clear hKq Kq; refine hKq _ _ _ (.refl _) ?_; clear hKq Kq; conv => whnf) | (clear hKq Kq; clear hKq Kq; clear hKq Kq; clear hKq Kq; refine hKq _ _ _ (.refl _) ?_; clear hKq Kq; conv => whnf) | (clear hKq Kq; clear hKq Kq; clear hKq Kq; clear hKq Kq; clear hKq Kq; refine hKq _ _ _ (.refl _) ?_; clear hKq Kq; conv => whnf) | (refine Or.inl (And.intro (by omega) ?_); conv => whnf) | (refine And.intro (by omega) ?_; conv => whnf))
    repeat (first | (refine VSeq.mk fun Kq hKq => ?_; conv => whnf) | (refine hKq _ _ _ (.refl _) ?_; clear hKq Kq; conv => whnf) | (clear hKq Kq; refine hKq _ _ _ (.refl _) ?_; clear hKq Kq; conv => whnf) | (clear hKq Kq; clear hKq Kq; refine hKq _ _ _ (.refl _) ?_; clear hKq Kq; conv => whnf) | (clear hKq Kq; clear hKq Kq; clear hKq Kq; refine hKq _ _ _ (.refl _) ?_; clear hKq Kq; conv => whnf) | ((with_reducible show ∃ v w1, Sem.run _ (Instr.box _ _) _ = Result.ok v w1 ∧ _); first | (refine hp.kboxA fun q w hp hx => ?_; conv => whnf) | (refine hp.kbox1 rfl fun q w hp hx => ?_; conv => whnf) | fail) | ((with_reducible show ∀ w1, Ext _ w1 → _); first | (intro w hx; try (have hp := hp.call hx); conv => whnf) | fail) | ((with_reducible show ∃ v, Sem.run _ (loadVar _ _) _ = Result.ok v _ ∧ _); first | (refine ⟨_, Blk.lv (hp.get (i := 0) rfl) TTok rfl rfl, ?_⟩; conv => whnf) | (refine ⟨_, Blk.lv (hp.get (i := 1) rfl) TTok rfl rfl, ?_⟩; conv => whnf) | (refine ⟨_, Blk.lv (hp.get (i := 2) rfl) TTok rfl rfl, ?_⟩; conv => whnf) | (refine ⟨_, Blk.lv (hp.get (i := 3) rfl) TTok rfl rfl, ?_⟩; conv => whnf) | (refine ⟨_, Blk.lv (hp.get (i := 4) rfl) TTok rfl rfl, ?_⟩; conv => whnf) | (refine ⟨_, Blk.lv (hp.get (i := 5) rfl) TTok rfl rfl, ?_⟩; conv => whnf) | (refine ⟨_, Blk.lv (hp.get (i := 6) rfl) TTok rfl rfl, ?_⟩; conv => whnf) | (refine ⟨_, Blk.lv (hp.get (i := 7) rfl) TTok rfl rfl, ?_⟩; conv => whnf) | (refine ⟨_, Blk.lvN (hp.get (i := 0) rfl) TTok rfl rfl, ?_⟩; conv => whnf) | (refine ⟨_, Blk.lvN (hp.get (i := 1) rfl) TTok rfl rfl, ?_⟩; conv => whnf) | (refine ⟨_, Blk.lvN (hp.get (i := 2) rfl) TTok rfl rfl, ?_⟩; conv => whnf) | (refine ⟨_, Blk.lvN (hp.get (i := 3) rfl) TTok rfl rfl, ?_⟩; conv => whnf) | (refine ⟨_, Blk.lvN (hp.get (i := 4) rfl) TTok rfl rfl, ?_⟩; conv => whnf) | (refine ⟨_, Blk.lvN (hp.get (i := 5) rfl) TTok rfl rfl, ?_⟩; conv => whnf) | (refine ⟨_, Blk.lvN (hp.get (i := 6) rfl) TTok rfl rfl, ?_⟩; conv => whnf) | (refine ⟨_, Blk.lvN (hp.get (i := 7) rfl) TTok rfl rfl, ?_⟩; conv => whnf) | fail) | ((with_reducible show ∃ m : Nat, (_ ∧ _) ∧ _); first | (refine ⟨_, ⟨rfl, by omega⟩, ?_⟩; conv => whnf) | (refine ⟨0, ⟨rfl, by decide⟩, ?_⟩; conv => whnf) | (refine ⟨1, ⟨rfl, by decide⟩, ?_⟩; conv => whnf) | (refine ⟨2, ⟨rfl, by decide⟩, ?_⟩; conv => whnf) | fail) | ((with_reducible show ∃ m n : Nat, (_ ∧ _) ∧ _); first | (refine ⟨_, _, ⟨rfl, rfl, by omega, by omega⟩, ?_⟩; conv => whnf) | fail) | ((with_reducible show ∃ m n r : Nat, (_ ∧ _) ∧ _); first | (refine ⟨_, _, _, ⟨rfl, rfl, by decide, by decide⟩, rfl, ?_⟩; conv => whnf) | fail) | ((with_reducible show _ ∨ _); first | (refine Or.inl (And.intro (by first | omega | decide) ?_); conv => whnf) | fail) | (with_reducible refine And.intro hx ?_; conv => whnf) | (refine And.intro (by first | omega | decide) ?_; conv => whnf) | ((with_reducible show (true = true → _) ∧ (true = false → _)); first | (refine And.intro (fun _ => ?_) (fun h => absurd h (by decide)); conv => whnf) | fail) | ((with_reducible show ((!false) = true → _) ∧ ((!false) = false → _)); first | (refine And.intro (fun _ => ?_) (fun h => absurd h (by decide)); conv => whnf) | fail) | ((with_reducible show (false = true → _) ∧ (false = false → _)); first | (refine And.intro (fun h => absurd h (by decide)) (fun _ => ?_); conv => whnf) | fail) | ((with_reducible show ((!true) = true → _) ∧ ((!true) = false → _)); first | (refine And.intro (fun h => absurd h (by decide)) (fun _ => ?_); conv => whnf) | fail) | ((with_reducible show (decide _ = true → _) ∧ (decide _ = false → _)); first | (refine And.intro (fun _ => ?_) (fun h => absurd (by first | rfl | assumption | omega | decide) (of_decide_eq_false h)); conv => whnf) | (refine And.intro (fun h => absurd (of_decide_eq_true h) (by first | (intro h2; exact absurd rfl h2) | omega | decide)) (fun _ => ?_); conv => whnf) | fail) | ((with_reducible show ((!(decide _)) = true → _) ∧ ((!(decide _)) = false → _)); first | (refine And.intro (fun _ => ?_) (fun h => absurd (of_decide_eq_true ((Bool.not_eq_false' _).mp h)) (by first | (intro h2; exact absurd rfl h2) | omega | decide)); conv => whnf) | (refine And.intro (fun h => absurd (by first | rfl | assumption | omega | decide) (of_decide_eq_false ((Bool.not_eq_true' _).mp h))) (fun _ => ?_); conv => whnf) | fail) | fail)
    obtain rfl : mm = 0 := by omega
    rw [← htr]
    exact ⟨rfl, hp.ext⟩
theorem tlN_z {s : ByteArray} {f j : Nat} (h : byt s j = 0) : tlN s (f + 1) j = tlN s f (j + 1) := by
  conv => lhs; unfold tlN
  rw [if_pos h]
theorem tlN_nz {s : ByteArray} {f j : Nat} (h : byt s j ≠ 0) : tlN s (f + 1) j = j := by
  unfold tlN
  rw [if_neg h]
theorem trL_p (s : ByteArray) (hs : s.size ≤ 100000) : PureF Tryz.prog 145 #[.string s, .int .u8 0] (.string (s.extract (tlN s s.size 0) s.size)) := by
  first | refine v_pure TTok FFok Tryz.func145 rfl rfl fun w0 => ?_ | refine v_pure (args := []) TTok FFok Tryz.func145 rfl rfl fun w0 => ?_
  conv => whnf
  repeat (first | (refine VSeq.mk fun Kq hKq => ?_; conv => whnf) | (refine hKq _ _ _ (.refl _) ?_; clear hKq Kq; conv => whnf) | (clear hKq Kq; refine hKq _ _ _ (.refl _) ?_; clear hKq Kq; conv => whnf) | (clear hKq Kq; clear hKq Kq; refine hKq _ _ _ (.refl _) ?_; clear hKq Kq; conv => whnf) | (clear hKq Kq; clear hKq Kq; clear hKq Kq; refine hKq _ _ _ (.refl _) ?_; clear hKq Kq; conv => whnf) | (clear hKq Kq; clear hKq Kq; clear hKq Kq; clear hKq Kq; refine hKq _ _ _ (.refl _) ?_; clear hKq Kq; conv => whnf) | (clear hKq Kq; clear hKq Kq; clear hKq Kq; clear hKq Kq; clear hKq Kq; refine hKq _ _ _ (.refl _) ?_; clear hKq Kq; conv => whnf) | (refine Or.inl (And.intro (by omega) ?_); conv => whnf) | (refine And.intro (by omega) ?_; conv => whnf))
  have hp := Hp.nil w0
  refine ⟨fun mm e w' => ∃ (j : Nat), mm + j = s.size ∧ tlN s mm j = tlN s s.size 0 ∧ e = [(0, .v (.string (s.extract j s.size))), (1, .v (.int .u8 0))] ∧ HpM [] w0 w' [],
    ⟨s.size, _, ⟨0, by omega, rfl, by rw [show s.extract 0 s.size = s by simp], hp⟩, sub_cons rfl (sub_cons rfl sub_nil)⟩, ?_⟩
  clear hp
  repeat clear hp
  rintro mm _ w ⟨j, hj, htr, rfl, hp⟩
  have hsz : (s.extract j s.size).size = mm := by rw [ByteArray.size_extract]; omega
  conv => whnf
  repeat (first | (refine VSeq.mk fun Kq hKq => ?_; conv => whnf) | (refine hKq _ _ _ (.refl _) ?_; clear hKq Kq; conv => whnf) | (clear hKq Kq; refine hKq _ _ _ (.refl _) ?_; clear hKq Kq; conv => whnf) | (clear hKq Kq; clear hKq Kq; refine hKq _ _ _ (.refl _) ?_; clear hKq Kq; conv => whnf) | (clear hKq Kq; clear hKq Kq; clear hKq Kq; refine hKq _ _ _ (.refl _) ?_; clear hKq Kq; conv => whnf) | (clear hKq Kq; clear hKq Kq; clear hKq Kq; clear hKq Kq; refine hKq _ _ _ (.refl _) ?_; clear hKq Kq; conv => whnf) | (clear hKq Kq; clear hKq Kq; clear hKq Kq; clear hKq Kq; clear hKq Kq; refine hKq _ _ _ (.refl _) ?_; clear hKq Kq; conv => whnf) | (refine Or.inl (And.intro (by omega) ?_); conv => whnf) | (refine And.intro (by omega) ?_; conv => whnf))
  refine ⟨fun h0 => ?_, fun h0 => ?_⟩
  · have h0 := of_decide_eq_true h0
    conv => whnf
    repeat (first | (refine VSeq.mk fun Kq hKq => ?_; conv => whnf) | (refine hKq _ _ _ (.refl _) ?_; clear hKq Kq; conv => whnf) | (clear hKq Kq; refine hKq _ _ _ (.refl _) ?_; clear hKq Kq; conv => whnf) | (clear hKq Kq; clear hKq Kq; refine hKq _ _ _ (.refl _) ?_; clear hKq Kq; conv => whnf) | (clear hKq Kq; clear hKq Kq; clear hKq Kq; refine hKq _ _ _ (.refl _) ?_; clear hKq Kq; conv => whnf) | (clear hKq Kq; clear hKq Kq; clear hKq Kq; clear hKq Kq; refine hKq _ _ _ (.refl _) ?_; clear hKq Kq; conv => whnf) | (clear hKq Kq; clear hKq Kq; clear hKq Kq; clear hKq Kq; clear hKq Kq; refine hKq _ _ _ (.refl _) ?_; clear hKq Kq; conv => whnf) | (refine Or.inl (And.intro (by omega) ?_); conv => whnf) | (refine And.intro (by omega) ?_; conv => whnf))
    have hpos : 0 < mm := by omega
    obtain ⟨f, rfl⟩ : ∃ f, mm = f + 1 := ⟨mm - 1, by omega⟩
    refine ⟨0, ⟨by first | rfl | omega, by omega⟩, ?_⟩
    conv => whnf
    repeat (first | (refine VSeq.mk fun Kq hKq => ?_; conv => whnf) | (refine hKq _ _ _ (.refl _) ?_; clear hKq Kq; conv => whnf) | (clear hKq Kq; refine hKq _ _ _ (.refl _) ?_; clear hKq Kq; conv => whnf) | (clear hKq Kq; clear hKq Kq; refine hKq _ _ _ (.refl _) ?_; clear hKq Kq; conv => whnf) | (clear hKq Kq; clear hKq Kq; clear hKq Kq; refine hKq _ _ _ (.refl _) ?_; clear hKq Kq; conv => whnf) | (clear hKq Kq; clear hKq Kq; clear hKq Kq; clear hKq Kq; refine hKq _ _ _ (.refl _) ?_; clear hKq Kq; conv => whnf) | (clear hKq Kq; clear hKq Kq; clear hKq Kq; clear hKq Kq; clear hKq Kq; refine hKq _ _ _ (.refl _) ?_; clear hKq Kq; conv => whnf) | (refine Or.inl (And.intro (by omega) ?_); conv => whnf) | (refine And.intro (by omega) ?_; conv => whnf))
    rw [byt_pre s j s.size 0 (Nat.le_refl _) (by omega), Nat.add_zero]
    refine ⟨fun hz => ?_, fun hz => ?_⟩
    · have hz := of_decide_eq_true hz
      conv => whnf
      repeat (first | (refine VSeq.mk fun Kq hKq => ?_; conv => whnf) | (refine hKq _ _ _ (.refl _) ?_; clear hKq Kq; conv => whnf) | (clear hKq Kq; refine hKq _ _ _ (.refl _) ?_; clear hKq Kq; conv => whnf) | (clear hKq Kq; clear hKq Kq; refine hKq _ _ _ (.refl _) ?_; clear hKq Kq; conv => whnf) | (clear hKq Kq; clear hKq Kq; clear hKq Kq; refine hKq _ _ _ (.refl _) ?_; clear hKq Kq; conv => whnf) | (clear hKq Kq; clear hKq Kq; clear hKq Kq; clear hKq Kq; refine hKq _ _ _ (.refl _) ?_; clear hKq Kq; conv => whnf) | (clear hKq Kq; clear hKq Kq; clear hKq Kq; clear hKq Kq; clear hKq Kq; refine hKq _ _ _ (.refl _) ?_; clear hKq Kq; conv => whnf) | (refine Or.inl (And.intro (by omega) ?_); conv => whnf) | (refine And.intro (by omega) ?_; conv => whnf))
      repeat (first | (refine VSeq.mk fun Kq hKq => ?_; conv => whnf) | (refine hKq _ _ _ (.refl _) ?_; clear hKq Kq; conv => whnf) | (clear hKq Kq; refine hKq _ _ _ (.refl _) ?_; clear hKq Kq; conv => whnf) | (clear hKq Kq; clear hKq Kq; refine hKq _ _ _ (.refl _) ?_; clear hKq Kq; conv => whnf) | (clear hKq Kq; clear hKq Kq; clear hKq Kq; refine hKq _ _ _ (.refl _) ?_; clear hKq Kq; conv => whnf) | ((with_reducible show ∃ v w1, Sem.run _ (Instr.box _ _) _ = Result.ok v w1 ∧ _); first | (refine hp.kboxA fun q w hp hx => ?_; conv => whnf) | (refine hp.kbox1 rfl fun q w hp hx => ?_; conv => whnf) | fail) | ((with_reducible show ∀ w1, Ext _ w1 → _); first | (intro w hx; try (have hp := hp.call hx); conv => whnf) | fail) | ((with_reducible show ∃ v, Sem.run _ (loadVar _ _) _ = Result.ok v _ ∧ _); first | (refine ⟨_, Blk.lv (hp.get (i := 0) rfl) TTok rfl rfl, ?_⟩; conv => whnf) | (refine ⟨_, Blk.lv (hp.get (i := 1) rfl) TTok rfl rfl, ?_⟩; conv => whnf) | (refine ⟨_, Blk.lv (hp.get (i := 2) rfl) TTok rfl rfl, ?_⟩; conv => whnf) | (refine ⟨_, Blk.lv (hp.get (i := 3) rfl) TTok rfl rfl, ?_⟩; conv => whnf) | (refine ⟨_, Blk.lv (hp.get (i := 4) rfl) TTok rfl rfl, ?_⟩; conv => whnf) | (refine ⟨_, Blk.lv (hp.get (i := 5) rfl) TTok rfl rfl, ?_⟩; conv => whnf) | (refine ⟨_, Blk.lv (hp.get (i := 6) rfl) TTok rfl rfl, ?_⟩; conv => whnf) | (refine ⟨_, Blk.lv (hp.get (i := 7) rfl) TTok rfl rfl, ?_⟩; conv => whnf) | (refine ⟨_, Blk.lvN (hp.get (i := 0) rfl) TTok rfl rfl, ?_⟩; conv => whnf) | (refine ⟨_, Blk.lvN (hp.get (i := 1) rfl) TTok rfl rfl, ?_⟩; conv => whnf) | (refine ⟨_, Blk.lvN (hp.get (i := 2) rfl) TTok rfl rfl, ?_⟩; conv => whnf) | (refine ⟨_, Blk.lvN (hp.get (i := 3) rfl) TTok rfl rfl, ?_⟩; conv => whnf) | (refine ⟨_, Blk.lvN (hp.get (i := 4) rfl) TTok rfl rfl, ?_⟩; conv => whnf) | (refine ⟨_, Blk.lvN (hp.get (i := 5) rfl) TTok rfl rfl, ?_⟩; conv => whnf) | (refine ⟨_, Blk.lvN (hp.get (i := 6) rfl) TTok rfl rfl, ?_⟩; conv => whnf) | (refine ⟨_, Blk.lvN (hp.get (i := 7) rfl) TTok rfl rfl, ?_⟩; conv => whnf) | fail) | ((with_reducible show ∃ m : Nat, (_ ∧ _) ∧ _); first | (refine ⟨_, ⟨rfl, by omega⟩, ?_⟩; conv => whnf) | (refine ⟨0, ⟨rfl, by decide⟩, ?_⟩; conv => whnf) | (refine ⟨1, ⟨rfl, by decide⟩, ?_⟩; conv => whnf) | (refine ⟨2, ⟨rfl, by decide⟩, ?_⟩; conv => whnf) | fail) | ((with_reducible show ∃ m n : Nat, (_ ∧ _) ∧ _); first | (refine ⟨_, _, ⟨rfl, rfl, by omega, by omega⟩, ?_⟩; conv => whnf) | fail) | ((with_reducible show ∃ m n r : Nat, (_ ∧ _) ∧ _); first | (refine ⟨_, _, _, ⟨rfl, rfl, by decide, by decide⟩, rfl, ?_⟩; conv => whnf) | fail) | ((with_reducible show _ ∨ _); first | (refine Or.inl (And.intro (by first | omega | decide) ?_); conv => whnf) | fail) | (with_reducible refine And.intro hx ?_; conv => whnf) | (refine And.intro (by first | omega | decide) ?_; conv => whnf) | ((with_reducible show (true = true → _) ∧ (true = false → _)); first | (refine And.intro (fun _ => ?_) (fun h => absurd h (by decide)); conv => whnf) | fail) | ((with_reducible show ((!false) = true → _) ∧ ((!false) = false → _)); first | (refine And.intro (fun _ => ?_) (fun h => absurd h (by decide)); conv => whnf) | fail) | ((with_reducible show (false = true → _) ∧ (false = false → _)); first | (refine And.intro (fun h => absurd h (by decide)) (fun _ => ?_); conv => whnf) | fail) | ((with_reducible show ((!true) = true → _) ∧ ((!true) = false → _)); first | (refine And.intro (fun h => absurd h (by decide)) (fun _ => ?_); conv => whnf) | fail) | ((with_reducible show (decide _ = true → _) ∧ (decide _ = false → _)); first | (refine And.intro (fun _ => ?_) (fun h => absurd (by first | rfl | assumption | omega | decide) (of_decide_eq_false h)); conv => whnf) | (refine And.intro (fun h => absurd (of_decide_eq_true h) (by first | (intro h2; exact absurd rfl h2) | omega | decide)) (fun _ => ?_); conv => whnf) | fail) | ((with_reducible show ((!(decide _)) = true → _) ∧ ((!(decide _)) = false → _)); first | (refine And.intro (fun _ => ?_) (fun h => absurd (of_decide_eq_true ((Bool.not_eq_false' _).mp h)) (by first | (intro h2; exact absurd rfl h2) | omega | decide)); conv => whnf) | (refine And.intro (fun h => absurd (by first | rfl | assumption | omega | decide) (of_decide_eq_false ((Bool.not_eq_true' _).mp h))) (fun _ => ?_); conv => whnf) | fail) | fail)
      refine ⟨1, ⟨by first | rfl | omega, by omega⟩, ?_⟩
      conv => whnf
      repeat (first | (refine VSeq.mk fun Kq hKq => ?_; conv => whnf) | (refine hKq _ _ _ (.refl _) ?_; clear hKq Kq; conv => whnf) | (clear hKq Kq; refine hKq _ _ _ (.refl _) ?_; clear hKq Kq; conv => whnf) | (clear hKq Kq; clear hKq Kq; refine hKq _ _ _ (.refl _) ?_; clear hKq Kq; conv => whnf) | (clear hKq Kq; clear hKq Kq; clear hKq Kq; refine hKq _ _ _ (.refl _) ?_; clear hKq Kq; conv => whnf) | (clear hKq Kq; clear hKq Kq; clear hKq Kq; clear hKq Kq; refine hKq _ _ _ (.refl _) ?_; clear hKq Kq; conv => whnf) | (clear hKq Kq; clear hKq Kq; clear hKq Kq; clear hKq Kq; clear hKq Kq; refine hKq _ _ _ (.refl _) ?_; clear hKq Kq; conv => whnf) | (refine Or.inl (And.intro (by omega) ?_); conv => whnf) | (refine And.intro (by omega) ?_; conv => whnf))
      repeat (first | (refine VSeq.mk fun Kq hKq => ?_; conv => whnf) | (refine hKq _ _ _ (.refl _) ?_; clear hKq Kq; conv => whnf) | (clear hKq Kq; refine hKq _ _ _ (.refl _) ?_; clear hKq Kq; conv => whnf) | (clear hKq Kq; clear hKq Kq; refine hKq _ _ _ (.refl _) ?_; clear hKq Kq; conv => whnf) | (clear hKq Kq; clear hKq Kq; clear hKq Kq; refine hKq _ _ _ (.refl _) ?_; clear hKq Kq; conv => whnf) | ((with_reducible show ∃ v w1, Sem.run _ (Instr.box _ _) _ = Result.ok v w1 ∧ _); first | (refine hp.kboxA fun q w hp hx => ?_; conv => whnf) | (refine hp.kbox1 rfl fun q w hp hx => ?_; conv => whnf) | fail) | ((with_reducible show ∀ w1, Ext _ w1 → _); first | (intro w hx; try (have hp := hp.call hx); conv => whnf) | fail) | ((with_reducible show ∃ v, Sem.run _ (loadVar _ _) _ = Result.ok v _ ∧ _); first | (refine ⟨_, Blk.lv (hp.get (i := 0) rfl) TTok rfl rfl, ?_⟩; conv => whnf) | (refine ⟨_, Blk.lv (hp.get (i := 1) rfl) TTok rfl rfl, ?_⟩; conv => whnf) | (refine ⟨_, Blk.lv (hp.get (i := 2) rfl) TTok rfl rfl, ?_⟩; conv => whnf) | (refine ⟨_, Blk.lv (hp.get (i := 3) rfl) TTok rfl rfl, ?_⟩; conv => whnf) | (refine ⟨_, Blk.lv (hp.get (i := 4) rfl) TTok rfl rfl, ?_⟩; conv => whnf) | (refine ⟨_, Blk.lv (hp.get (i := 5) rfl) TTok rfl rfl, ?_⟩; conv => whnf) | (refine ⟨_, Blk.lv (hp.get (i := 6) rfl) TTok rfl rfl, ?_⟩; conv => whnf) | (refine ⟨_, Blk.lv (hp.get (i := 7) rfl) TTok rfl rfl, ?_⟩; conv => whnf) | (refine ⟨_, Blk.lvN (hp.get (i := 0) rfl) TTok rfl rfl, ?_⟩; conv => whnf) | (refine ⟨_, Blk.lvN (hp.get (i := 1) rfl) TTok rfl rfl, ?_⟩; conv => whnf) | (refine ⟨_, Blk.lvN (hp.get (i := 2) rfl) TTok rfl rfl, ?_⟩; conv => whnf) | (refine ⟨_, Blk.lvN (hp.get (i := 3) rfl) TTok rfl rfl, ?_⟩; conv => whnf) | (refine ⟨_, Blk.lvN (hp.get (i := 4) rfl) TTok rfl rfl, ?_⟩; conv => whnf) | (refine ⟨_, Blk.lvN (hp.get (i := 5) rfl) TTok rfl rfl, ?_⟩; conv => whnf) | (refine ⟨_, Blk.lvN (hp.get (i := 6) rfl) TTok rfl rfl, ?_⟩; conv => whnf) | (refine ⟨_, Blk.lvN (hp.get (i := 7) rfl) TTok rfl rfl, ?_⟩; conv => whnf) | fail) | ((with_reducible show ∃ m : Nat, (_ ∧ _) ∧ _); first | (refine ⟨_, ⟨rfl, by omega⟩, ?_⟩; conv => whnf) | (refine ⟨0, ⟨rfl, by decide⟩, ?_⟩; conv => whnf) | (refine ⟨1, ⟨rfl, by decide⟩, ?_⟩; conv => whnf) | (refine ⟨2, ⟨rfl, by decide⟩, ?_⟩; conv => whnf) | fail) | ((with_reducible show ∃ m n : Nat, (_ ∧ _) ∧ _); first | (refine ⟨_, _, ⟨rfl, rfl, by omega, by omega⟩, ?_⟩; conv => whnf) | fail) | ((with_reducible show ∃ m n r : Nat, (_ ∧ _) ∧ _); first | (refine ⟨_, _, _, ⟨rfl, rfl, by decide, by decide⟩, rfl, ?_⟩; conv => whnf) | fail) | ((with_reducible show _ ∨ _); first | (refine Or.inl (And.intro (by first | omega | decide) ?_); conv => whnf) | fail) | (with_reducible refine And.intro hx ?_; conv => whnf) | (refine And.intro (by first | omega | decide) ?_; conv => whnf) | ((with_reducible show (true = true → _) ∧ (true = false → _)); first | (refine And.intro (fun _ => ?_) (fun h => absurd h (by decide)); conv => whnf) | fail) | ((with_reducible show ((!false) = true → _) ∧ ((!false) = false → _)); first | (refine And.intro (fun _ => ?_) (fun h => absurd h (by decide)); conv => whnf) | fail) | ((with_reducible show (false = true → _) ∧ (false = false → _)); first | (refine And.intro (fun h => absurd h (by decide)) (fun _ => ?_); conv => whnf) | fail) | ((with_reducible show ((!true) = true → _) ∧ ((!true) = false → _)); first | (refine And.intro (fun h => absurd h (by decide)) (fun _ => ?_); conv => whnf) | fail) | ((with_reducible show (decide _ = true → _) ∧ (decide _ = false → _)); first | (refine And.intro (fun _ => ?_) (fun h => absurd (by first | rfl | assumption | omega | decide) (of_decide_eq_false h)); conv => whnf) | (refine And.intro (fun h => absurd (of_decide_eq_true h) (by first | (intro h2; exact absurd rfl h2) | omega | decide)) (fun _ => ?_); conv => whnf) | fail) | ((with_reducible show ((!(decide _)) = true → _) ∧ ((!(decide _)) = false → _)); first | (refine And.intro (fun _ => ?_) (fun h => absurd (of_decide_eq_true ((Bool.not_eq_false' _).mp h)) (by first | (intro h2; exact absurd rfl h2) | omega | decide)); conv => whnf) | (refine And.intro (fun h => absurd (by first | rfl | assumption | omega | decide) (of_decide_eq_false ((Bool.not_eq_true' _).mp h))) (fun _ => ?_); conv => whnf) | fail) | fail)
      rw [ext_ext, hsz, show min (j + (f + 1)) s.size = s.size by omega]
      exact ⟨f, _, by omega, ⟨j + 1, by omega, (tlN_z (by omega)).symm.trans htr, rfl, hp⟩, sub_cons rfl (sub_cons rfl sub_nil)⟩
    · have hz := of_decide_eq_false hz
      conv => whnf
      repeat (first | (refine VSeq.mk fun Kq hKq => ?_; conv => whnf) | (refine hKq _ _ _ (.refl _) ?_; clear hKq Kq; conv => whnf) | (clear hKq Kq; refine hKq _ _ _ (.refl _) ?_; clear hKq Kq; conv => whnf) | (clear hKq Kq; clear hKq Kq; refine hKq _ _ _ (.refl _) ?_; clear hKq Kq; conv => whnf) | (clear hKq Kq; clear hKq Kq; clear hKq Kq; refine hKq _ _ _ (.refl _) ?_; clear hKq Kq; conv => whnf) | (clear hKq Kq; clear hKq Kq; clear hKq Kq; clear hKq Kq; refine hKq _ _ _ (.refl _) ?_; clear hKq Kq; conv => whnf) | (clear hKq Kq; clear hKq Kq; clear hKq Kq; clear hKq Kq; clear hKq Kq; refine hKq _ _ _ (.refl _) ?_; clear hKq Kq; conv => whnf) | (refine Or.inl (And.intro (by omega) ?_); conv => whnf) | (refine And.intro (by omega) ?_; conv => whnf))
      repeat (first | (refine VSeq.mk fun Kq hKq => ?_; conv => whnf) | (refine hKq _ _ _ (.refl _) ?_; clear hKq Kq; conv => whnf) | (clear hKq Kq; refine hKq _ _ _ (.refl _) ?_; clear hKq Kq; conv => whnf) | (clear hKq Kq; clear hKq Kq; refine hKq _ _ _ (.refl _) ?_; clear hKq Kq; conv => whnf) | (clear hKq Kq; clear hKq Kq; clear hKq Kq; refine hKq _ _ _ (.refl _) ?_; clear hKq Kq; conv => whnf) | ((with_reducible show ∃ v w1, Sem.run _ (Instr.box _ _) _ = Result.ok v w1 ∧ _); first | (refine hp.kboxA fun q w hp hx => ?_; conv => whnf) | (refine hp.kbox1 rfl fun q w hp hx => ?_; conv => whnf) | fail) | ((with_reducible show ∀ w1, Ext _ w1 → _); first | (intro w hx; try (have hp := hp.call hx); conv => whnf) | fail) | ((with_reducible show ∃ v, Sem.run _ (loadVar _ _) _ = Result.ok v _ ∧ _); first | (refine ⟨_, Blk.lv (hp.get (i := 0) rfl) TTok rfl rfl, ?_⟩; conv => whnf) | (refine ⟨_, Blk.lv (hp.get (i := 1) rfl) TTok rfl rfl, ?_⟩; conv => whnf) | (refine ⟨_, Blk.lv (hp.get (i := 2) rfl) TTok rfl rfl, ?_⟩; conv => whnf) | (refine ⟨_, Blk.lv (hp.get (i := 3) rfl) TTok rfl rfl, ?_⟩; conv => whnf) | (refine ⟨_, Blk.lv (hp.get (i := 4) rfl) TTok rfl rfl, ?_⟩; conv => whnf) | (refine ⟨_, Blk.lv (hp.get (i := 5) rfl) TTok rfl rfl, ?_⟩; conv => whnf) | (refine ⟨_, Blk.lv (hp.get (i := 6) rfl) TTok rfl rfl, ?_⟩; conv => whnf) | (refine ⟨_, Blk.lv (hp.get (i := 7) rfl) TTok rfl rfl, ?_⟩; conv => whnf) | (refine ⟨_, Blk.lvN (hp.get (i := 0) rfl) TTok rfl rfl, ?_⟩; conv => whnf) | (refine ⟨_, Blk.lvN (hp.get (i := 1) rfl) TTok rfl rfl, ?_⟩; conv => whnf) | (refine ⟨_, Blk.lvN (hp.get (i := 2) rfl) TTok rfl rfl, ?_⟩; conv => whnf) | (refine ⟨_, Blk.lvN (hp.get (i := 3) rfl) TTok rfl rfl, ?_⟩; conv => whnf) | (refine ⟨_, Blk.lvN (hp.get (i := 4) rfl) TTok rfl rfl, ?_⟩; conv => whnf) | (refine ⟨_, Blk.lvN (hp.get (i := 5) rfl) TTok rfl rfl, ?_⟩; conv => whnf) | (refine ⟨_, Blk.lvN (hp.get (i := 6) rfl) TTok rfl rfl, ?_⟩; conv => whnf) | (refine ⟨_, Blk.lvN (hp.get (i := 7) rfl) TTok rfl rfl, ?_⟩; conv => whnf) | fail) | ((with_reducible show ∃ m : Nat, (_ ∧ _) ∧ _); first | (refine ⟨_, ⟨rfl, by omega⟩, ?_⟩; conv => whnf) | (refine ⟨0, ⟨rfl, by decide⟩, ?_⟩; conv => whnf) | (refine ⟨1, ⟨rfl, by decide⟩, ?_⟩; conv => whnf) | (refine ⟨2, ⟨rfl, by decide⟩, ?_⟩; conv => whnf) | fail) | ((with_reducible show ∃ m n : Nat, (_ ∧ _) ∧ _); first | (refine ⟨_, _, ⟨rfl, rfl, by omega, by omega⟩, ?_⟩; conv => whnf) | fail) | ((with_reducible show ∃ m n r : Nat, (_ ∧ _) ∧ _); first | (refine ⟨_, _, _, ⟨rfl, rfl, by decide, by decide⟩, rfl, ?_⟩; conv => whnf) | fail) | ((with_reducible show _ ∨ _); first | (refine Or.inl (And.intro (by first | omega | decide) ?_); conv => whnf) | fail) | (with_reducible refine And.intro hx ?_; conv => whnf) | (refine And.intro (by first | omega | decide) ?_; conv => whnf) | ((with_reducible show (true = true → _) ∧ (true = false → _)); first | (refine And.intro (fun _ => ?_) (fun h => absurd h (by decide)); conv => whnf) | fail) | ((with_reducible show ((!false) = true → _) ∧ ((!false) = false → _)); first | (refine And.intro (fun _ => ?_) (fun h => absurd h (by decide)); conv => whnf) | fail) | ((with_reducible show (false = true → _) ∧ (false = false → _)); first | (refine And.intro (fun h => absurd h (by decide)) (fun _ => ?_); conv => whnf) | fail) | ((with_reducible show ((!true) = true → _) ∧ ((!true) = false → _)); first | (refine And.intro (fun h => absurd h (by decide)) (fun _ => ?_); conv => whnf) | fail) | ((with_reducible show (decide _ = true → _) ∧ (decide _ = false → _)); first | (refine And.intro (fun _ => ?_) (fun h => absurd (by first | rfl | assumption | omega | decide) (of_decide_eq_false h)); conv => whnf) | (refine And.intro (fun h => absurd (of_decide_eq_true h) (by first | (intro h2; exact absurd rfl h2) | omega | decide)) (fun _ => ?_); conv => whnf) | fail) | ((with_reducible show ((!(decide _)) = true → _) ∧ ((!(decide _)) = false → _)); first | (refine And.intro (fun _ => ?_) (fun h => absurd (of_decide_eq_true ((Bool.not_eq_false' _).mp h)) (by first | (intro h2; exact absurd rfl h2) | omega | decide)); conv => whnf) | (refine And.intro (fun h => absurd (by first | rfl | assumption | omega | decide) (of_decide_eq_false ((Bool.not_eq_true' _).mp h))) (fun _ => ?_); conv => whnf) | fail) | fail)
      rw [← htr, tlN_nz (by omega)]
      exact ⟨rfl, hp.ext⟩
  · have h0 := of_decide_eq_false h0
    conv => whnf
    repeat (first | (refine VSeq.mk fun Kq hKq => ?_; conv => whnf) | (refine hKq _ _ _ (.refl _) ?_; clear hKq Kq; conv => whnf) | (clear hKq Kq; refine hKq _ _ _ (.refl _) ?_; clear hKq Kq; conv => whnf) | (clear hKq Kq; clear hKq Kq; refine hKq _ _ _ (.refl _) ?_; clear hKq Kq; conv => whnf) | (clear hKq Kq; clear hKq Kq; clear hKq Kq; refine hKq _ _ _ (.refl _) ?_; clear hKq Kq; conv => whnf) | (clear hKq Kq; clear hKq Kq; clear hKq Kq; clear hKq Kq; refine hKq _ _ _ (.refl _) ?_; clear hKq Kq; conv => whnf) | (clear hKq Kq; clear hKq Kq; clear hKq Kq; clear hKq Kq; clear hKq Kq; refine hKq _ _ _ (.refl _) ?_; clear hKq Kq; conv => whnf) | (refine Or.inl (And.intro (by omega) ?_); conv => whnf) | (refine And.intro (by omega) ?_; conv => whnf))
    repeat (first | (refine VSeq.mk fun Kq hKq => ?_; conv => whnf) | (refine hKq _ _ _ (.refl _) ?_; clear hKq Kq; conv => whnf) | (clear hKq Kq; refine hKq _ _ _ (.refl _) ?_; clear hKq Kq; conv => whnf) | (clear hKq Kq; clear hKq Kq; refine hKq _ _ _ (.refl _) ?_; clear hKq Kq; conv => whnf) | (clear hKq Kq; clear hKq Kq; clear hKq Kq; refine hKq _ _ _ (.refl _) ?_; clear hKq Kq; conv => whnf) | ((with_reducible show ∃ v w1, Sem.run _ (Instr.box _ _) _ = Result.ok v w1 ∧ _); first | (refine hp.kboxA fun q w hp hx => ?_; conv => whnf) | (refine hp.kbox1 rfl fun q w hp hx => ?_; conv => whnf) | fail) | ((with_reducible show ∀ w1, Ext _ w1 → _); first | (intro w hx; try (have hp := hp.call hx); conv => whnf) | fail) | ((with_reducible show ∃ v, Sem.run _ (loadVar _ _) _ = Result.ok v _ ∧ _); first | (refine ⟨_, Blk.lv (hp.get (i := 0) rfl) TTok rfl rfl, ?_⟩; conv => whnf) | (refine ⟨_, Blk.lv (hp.get (i := 1) rfl) TTok rfl rfl, ?_⟩; conv => whnf) | (refine ⟨_, Blk.lv (hp.get (i := 2) rfl) TTok rfl rfl, ?_⟩; conv => whnf) | (refine ⟨_, Blk.lv (hp.get (i := 3) rfl) TTok rfl rfl, ?_⟩; conv => whnf) | (refine ⟨_, Blk.lv (hp.get (i := 4) rfl) TTok rfl rfl, ?_⟩; conv => whnf) | (refine ⟨_, Blk.lv (hp.get (i := 5) rfl) TTok rfl rfl, ?_⟩; conv => whnf) | (refine ⟨_, Blk.lv (hp.get (i := 6) rfl) TTok rfl rfl, ?_⟩; conv => whnf) | (refine ⟨_, Blk.lv (hp.get (i := 7) rfl) TTok rfl rfl, ?_⟩; conv => whnf) | (refine ⟨_, Blk.lvN (hp.get (i := 0) rfl) TTok rfl rfl, ?_⟩; conv => whnf) | (refine ⟨_, Blk.lvN (hp.get (i := 1) rfl) TTok rfl rfl, ?_⟩; conv => whnf) | (refine ⟨_, Blk.lvN (hp.get (i := 2) rfl) TTok rfl rfl, ?_⟩; conv => whnf) | (refine ⟨_, Blk.lvN (hp.get (i := 3) rfl) TTok rfl rfl, ?_⟩; conv => whnf) | (refine ⟨_, Blk.lvN (hp.get (i := 4) rfl) TTok rfl rfl, ?_⟩; conv => whnf) | (refine ⟨_, Blk.lvN (hp.get (i := 5) rfl) TTok rfl rfl, ?_⟩; conv => whnf) | (refine ⟨_, Blk.lvN (hp.get (i := 6) rfl) TTok rfl rfl, ?_⟩; conv => whnf) | (refine ⟨_, Blk.lvN (hp.get (i := 7) rfl) TTok rfl rfl, ?_⟩; conv => whnf) | fail) | ((with_reducible show ∃ m : Nat, (_ ∧ _) ∧ _); first | (refine ⟨_, ⟨rfl, by omega⟩, ?_⟩; conv => whnf) | (refine ⟨0, ⟨rfl, by decide⟩, ?_⟩; conv => whnf) | (refine ⟨1, ⟨rfl, by decide⟩, ?_⟩; conv => whnf) | (refine ⟨2, ⟨rfl, by decide⟩, ?_⟩; conv => whnf) | fail) | ((with_reducible show ∃ m n : Nat, (_ ∧ _) ∧ _); first | (refine ⟨_, _, ⟨rfl, rfl, by omega, by omega⟩, ?_⟩; conv => whnf) | fail) | ((with_reducible show ∃ m n r : Nat, (_ ∧ _) ∧ _); first | (refine ⟨_, _, _, ⟨rfl, rfl, by decide, by decide⟩, rfl, ?_⟩; conv => whnf) | fail) | ((with_reducible show _ ∨ _); first | (refine Or.inl (And.intro (by first | omega | decide) ?_); conv => whnf) | fail) | (with_reducible refine And.intro hx ?_; conv => whnf) | (refine And.intro (by first | omega | decide) ?_; conv => whnf) | ((with_reducible show (true = true → _) ∧ (true = false → _)); first | (refine And.intro (fun _ => ?_) (fun h => absurd h (by decide)); conv => whnf) | fail) | ((with_reducible show ((!false) = true → _) ∧ ((!false) = false → _)); first | (refine And.intro (fun _ => ?_) (fun h => absurd h (by decide)); conv => whnf) | fail) | ((with_reducible show (false = true → _) ∧ (false = false → _)); first | (refine And.intro (fun h => absurd h (by decide)) (fun _ => ?_); conv => whnf) | fail) | ((with_reducible show ((!true) = true → _) ∧ ((!true) = false → _)); first | (refine And.intro (fun h => absurd h (by decide)) (fun _ => ?_); conv => whnf) | fail) | ((with_reducible show (decide _ = true → _) ∧ (decide _ = false → _)); first | (refine And.intro (fun _ => ?_) (fun h => absurd (by first | rfl | assumption | omega | decide) (of_decide_eq_false h)); conv => whnf) | (refine And.intro (fun h => absurd (of_decide_eq_true h) (by first | (intro h2; exact absurd rfl h2) | omega | decide)) (fun _ => ?_); conv => whnf) | fail) | ((with_reducible show ((!(decide _)) = true → _) ∧ ((!(decide _)) = false → _)); first | (refine And.intro (fun _ => ?_) (fun h => absurd (of_decide_eq_true ((Bool.not_eq_false' _).mp h)) (by first | (intro h2; exact absurd rfl h2) | omega | decide)); conv => whnf) | (refine And.intro (fun h => absurd (by first | rfl | assumption | omega | decide) (of_decide_eq_false ((Bool.not_eq_true' _).mp h))) (fun _ => ?_); conv => whnf) | fail) | fail)
    obtain rfl : mm = 0 := by omega
    rw [← htr]
    exact ⟨rfl, hp.ext⟩
def trimB (s : ByteArray) : ByteArray := (s.extract 0 (trN s s.size)).extract (tlN (s.extract 0 (trN s s.size)) (s.extract 0 (trN s s.size)).size 0) (s.extract 0 (trN s s.size)).size
theorem Trim_p (s : ByteArray) (hs : s.size ≤ 100000) : PureF Tryz.prog 122 #[.string s, .string ⟨#[0]⟩] (.string (trimB s)) := by
  have hr : (s.extract 0 (trN s s.size)).size ≤ 100000 := by rw [ByteArray.size_extract]; have := trN_le s s.size; omega
  first | refine v_pure TTok FFok Tryz.func122 rfl rfl fun w0 => ?_ | refine v_pure (args := []) TTok FFok Tryz.func122 rfl rfl fun w0 => ?_
  conv => whnf
  repeat (first | (refine VSeq.mk fun Kq hKq => ?_; conv => whnf) | (refine hKq _ _ _ (.refl _) ?_; clear hKq Kq; conv => whnf) | (clear hKq Kq; refine hKq _ _ _ (.refl _) ?_; clear hKq Kq; conv => whnf) | (clear hKq Kq; clear hKq Kq; refine hKq _ _ _ (.refl _) ?_; clear hKq Kq; conv => whnf) | (clear hKq Kq; clear hKq Kq; clear hKq Kq; refine hKq _ _ _ (.refl _) ?_; clear hKq Kq; conv => whnf) | (clear hKq Kq; clear hKq Kq; clear hKq Kq; clear hKq Kq; refine hKq _ _ _ (.refl _) ?_; clear hKq Kq; conv => whnf) | (clear hKq Kq; clear hKq Kq; clear hKq Kq; clear hKq Kq; clear hKq Kq; refine hKq _ _ _ (.refl _) ?_; clear hKq Kq; conv => whnf) | (refine Or.inl (And.intro (by omega) ?_); conv => whnf) | (refine And.intro (by omega) ?_; conv => whnf))
  have hp := Hp.nil w0
  refine ⟨fun he => ?_, fun he => ?_⟩
  · have he := of_decide_eq_true he
    conv => whnf
    repeat (first | (refine VSeq.mk fun Kq hKq => ?_; conv => whnf) | (refine hKq _ _ _ (.refl _) ?_; clear hKq Kq; conv => whnf) | (clear hKq Kq; refine hKq _ _ _ (.refl _) ?_; clear hKq Kq; conv => whnf) | (clear hKq Kq; clear hKq Kq; refine hKq _ _ _ (.refl _) ?_; clear hKq Kq; conv => whnf) | (clear hKq Kq; clear hKq Kq; clear hKq Kq; refine hKq _ _ _ (.refl _) ?_; clear hKq Kq; conv => whnf) | (clear hKq Kq; clear hKq Kq; clear hKq Kq; clear hKq Kq; refine hKq _ _ _ (.refl _) ?_; clear hKq Kq; conv => whnf) | (clear hKq Kq; clear hKq Kq; clear hKq Kq; clear hKq Kq; clear hKq Kq; refine hKq _ _ _ (.refl _) ?_; clear hKq Kq; conv => whnf) | (refine Or.inl (And.intro (by omega) ?_); conv => whnf) | (refine And.intro (by omega) ?_; conv => whnf))
    subst he
    repeat (first | (refine VSeq.mk fun Kq hKq => ?_; conv => whnf) | (refine hKq _ _ _ (.refl _) ?_; clear hKq Kq; conv => whnf) | (clear hKq Kq; refine hKq _ _ _ (.refl _) ?_; clear hKq Kq; conv => whnf) | (clear hKq Kq; clear hKq Kq; refine hKq _ _ _ (.refl _) ?_; clear hKq Kq; conv => whnf) | (clear hKq Kq; clear hKq Kq; clear hKq Kq; refine hKq _ _ _ (.refl _) ?_; clear hKq Kq; conv => whnf) | ((with_reducible show ∃ v w1, Sem.run _ (Instr.box _ _) _ = Result.ok v w1 ∧ _); first | (refine hp.kboxA fun q w hp hx => ?_; conv => whnf) | (refine hp.kbox1 rfl fun q w hp hx => ?_; conv => whnf) | fail) | ((with_reducible show ∃ v w1, Sem.run _ (Instr.alloc 222 _ _) _ = Result.ok v w1 ∧ _); first | (refine hp.kalloc z222 fun al222 w hp hx => ?_; conv => whnf) | fail) | ((with_reducible show ∃ v w1, Sem.run _ (bind (Instr.storeAt 222 _ _) _) _ = Result.ok v w1 ∧ _); first | (refine hp.kstA TTok rfl 0 rfl rfl (oneC_of rfl) (by rfl) fun w hp => ?_; try simp only [List.set_cons_zero, List.set_cons_succ, EV.val] at hp; conv => whnf) | (refine hp.kstA TTok rfl 1 rfl rfl (oneC_of rfl) (by rfl) fun w hp => ?_; try simp only [List.set_cons_zero, List.set_cons_succ, EV.val] at hp; conv => whnf) | (refine hp.kstA TTok rfl 2 rfl rfl (oneC_of rfl) (by rfl) fun w hp => ?_; try simp only [List.set_cons_zero, List.set_cons_succ, EV.val] at hp; conv => whnf) | (refine hp.kstA TTok rfl 3 rfl rfl (oneC_of rfl) (by rfl) fun w hp => ?_; try simp only [List.set_cons_zero, List.set_cons_succ, EV.val] at hp; conv => whnf) | (refine hp.kstA TTok rfl 4 rfl rfl (oneC_of rfl) (by rfl) fun w hp => ?_; try simp only [List.set_cons_zero, List.set_cons_succ, EV.val] at hp; conv => whnf) | (refine hp.kstA TTok rfl 5 rfl rfl (oneC_of rfl) (by rfl) fun w hp => ?_; try simp only [List.set_cons_zero, List.set_cons_succ, EV.val] at hp; conv => whnf) | (refine hp.kstA TTok rfl 6 rfl rfl (oneC_of rfl) (by rfl) fun w hp => ?_; try simp only [List.set_cons_zero, List.set_cons_succ, EV.val] at hp; conv => whnf) | (refine hp.kstA TTok rfl 7 rfl rfl (oneC_of rfl) (by rfl) fun w hp => ?_; try simp only [List.set_cons_zero, List.set_cons_succ, EV.val] at hp; conv => whnf) | fail) | ((with_reducible show ∀ w1, Ext _ w1 → _); first | (intro w hx; try (have hp := hp.call hx); conv => whnf) | fail) | ((with_reducible show ∃ v, Sem.run _ (loadVar _ _) _ = Result.ok v _ ∧ _); first | (refine ⟨_, Blk.lv (hp.get (i := 0) rfl) TTok rfl rfl, ?_⟩; conv => whnf) | (refine ⟨_, Blk.lv (hp.get (i := 1) rfl) TTok rfl rfl, ?_⟩; conv => whnf) | (refine ⟨_, Blk.lv (hp.get (i := 2) rfl) TTok rfl rfl, ?_⟩; conv => whnf) | (refine ⟨_, Blk.lv (hp.get (i := 3) rfl) TTok rfl rfl, ?_⟩; conv => whnf) | (refine ⟨_, Blk.lv (hp.get (i := 4) rfl) TTok rfl rfl, ?_⟩; conv => whnf) | (refine ⟨_, Blk.lv (hp.get (i := 5) rfl) TTok rfl rfl, ?_⟩; conv => whnf) | (refine ⟨_, Blk.lv (hp.get (i := 6) rfl) TTok rfl rfl, ?_⟩; conv => whnf) | (refine ⟨_, Blk.lv (hp.get (i := 7) rfl) TTok rfl rfl, ?_⟩; conv => whnf) | (refine ⟨_, Blk.lvN (hp.get (i := 0) rfl) TTok rfl rfl, ?_⟩; conv => whnf) | (refine ⟨_, Blk.lvN (hp.get (i := 1) rfl) TTok rfl rfl, ?_⟩; conv => whnf) | (refine ⟨_, Blk.lvN (hp.get (i := 2) rfl) TTok rfl rfl, ?_⟩; conv => whnf) | (refine ⟨_, Blk.lvN (hp.get (i := 3) rfl) TTok rfl rfl, ?_⟩; conv => whnf) | (refine ⟨_, Blk.lvN (hp.get (i := 4) rfl) TTok rfl rfl, ?_⟩; conv => whnf) | (refine ⟨_, Blk.lvN (hp.get (i := 5) rfl) TTok rfl rfl, ?_⟩; conv => whnf) | (refine ⟨_, Blk.lvN (hp.get (i := 6) rfl) TTok rfl rfl, ?_⟩; conv => whnf) | (refine ⟨_, Blk.lvN (hp.get (i := 7) rfl) TTok rfl rfl, ?_⟩; conv => whnf) | fail) | ((with_reducible show ∃ m : Nat, (_ ∧ _) ∧ _); first | (refine ⟨_, ⟨rfl, by omega⟩, ?_⟩; conv => whnf) | (refine ⟨0, ⟨rfl, by decide⟩, ?_⟩; conv => whnf) | (refine ⟨1, ⟨rfl, by decide⟩, ?_⟩; conv => whnf) | (refine ⟨2, ⟨rfl, by decide⟩, ?_⟩; conv => whnf) | fail) | ((with_reducible show ∃ m n : Nat, (_ ∧ _) ∧ _); first | (refine ⟨_, _, ⟨rfl, rfl, by omega, by omega⟩, ?_⟩; conv => whnf) | fail) | ((with_reducible show ∃ m n r : Nat, (_ ∧ _) ∧ _); first | (refine ⟨_, _, _, ⟨rfl, rfl, by decide, by decide⟩, rfl, ?_⟩; conv => whnf) | fail) | ((with_reducible show ∀ (cs : List Frame), _); first | (refine V.CallW.out ?_; (conv => arg 3; dsimp only [EV.val, List.toList_toArray, List.nil_append, List.append_nil, List.cons_append]); first | ((with_reducible show V.CallW _ 145 _ _ _); first | ((with_reducible refine V.PureF.useW (trL_p _ (by first | assumption | omega)) fun w hx => ?_); try (have hp := hp.call hx); conv => whnf) | (refine V.PureF.useW (trL_p _ (by first | assumption | omega)) fun w hx => ?_; try (have hp := hp.call hx); conv => whnf) | fail) | ((with_reducible show V.CallW _ 146 _ _ _); first | ((with_reducible refine V.PureF.useW (trR_p _ (by first | assumption | omega)) fun w hx => ?_); try (have hp := hp.call hx); conv => whnf) | (refine V.PureF.useW (trR_p _ (by first | assumption | omega)) fun w hx => ?_; try (have hp := hp.call hx); conv => whnf) | fail) | fail) | fail) | ((with_reducible show ∃ v, (∀ w1, _ → Calls _ _ _ _ _) ∧ _); first | (refine V.QCallW.out ?_; (conv => arg 3; dsimp only [EV.val, List.toList_toArray, List.nil_append, List.append_nil, List.cons_append]); first | ((with_reducible show V.QCallW _ 145 _ _ _); first | ((with_reducible refine V.PureF.quietW (trL_p _ (by first | assumption | omega)) ?_); conv => whnf) | (refine V.PureF.quietW (trL_p _ (by first | assumption | omega)) ?_; conv => whnf) | fail) | ((with_reducible show V.QCallW _ 146 _ _ _); first | ((with_reducible refine V.PureF.quietW (trR_p _ (by first | assumption | omega)) ?_); conv => whnf) | (refine V.PureF.quietW (trR_p _ (by first | assumption | omega)) ?_; conv => whnf) | fail) | fail) | fail) | ((with_reducible show _ ∨ _); first | (refine Or.inl (And.intro (by first | omega | decide) ?_); conv => whnf) | fail) | (with_reducible refine And.intro hx ?_; conv => whnf) | (refine And.intro (by first | omega | decide) ?_; conv => whnf) | ((with_reducible show (true = true → _) ∧ (true = false → _)); first | (refine And.intro (fun _ => ?_) (fun h => absurd h (by decide)); conv => whnf) | fail) | ((with_reducible show ((!false) = true → _) ∧ ((!false) = false → _)); first | (refine And.intro (fun _ => ?_) (fun h => absurd h (by decide)); conv => whnf) | fail) | ((with_reducible show (false = true → _) ∧ (false = false → _)); first | (refine And.intro (fun h => absurd h (by decide)) (fun _ => ?_); conv => whnf) | fail) | ((with_reducible show ((!true) = true → _) ∧ ((!true) = false → _)); first | (refine And.intro (fun h => absurd h (by decide)) (fun _ => ?_); conv => whnf) | fail) | ((with_reducible show (decide _ = true → _) ∧ (decide _ = false → _)); first | (refine And.intro (fun _ => ?_) (fun h => absurd (by first | rfl | assumption | omega | decide) (of_decide_eq_false h)); conv => whnf) | (refine And.intro (fun h => absurd (of_decide_eq_true h) (by first | (intro h2; exact absurd rfl h2) | omega | decide)) (fun _ => ?_); conv => whnf) | fail) | ((with_reducible show ((!(decide _)) = true → _) ∧ ((!(decide _)) = false → _)); first | (refine And.intro (fun _ => ?_) (fun h => absurd (of_decide_eq_true ((Bool.not_eq_false' _).mp h)) (by first | (intro h2; exact absurd rfl h2) | omega | decide)); conv => whnf) | (refine And.intro (fun h => absurd (by first | rfl | assumption | omega | decide) (of_decide_eq_false ((Bool.not_eq_true' _).mp h))) (fun _ => ?_); conv => whnf) | fail) | fail)
    exact ⟨rfl, hp.ext⟩
  · have he := of_decide_eq_false he
    conv => whnf
    repeat (first | (refine VSeq.mk fun Kq hKq => ?_; conv => whnf) | (refine hKq _ _ _ (.refl _) ?_; clear hKq Kq; conv => whnf) | (clear hKq Kq; refine hKq _ _ _ (.refl _) ?_; clear hKq Kq; conv => whnf) | (clear hKq Kq; clear hKq Kq; refine hKq _ _ _ (.refl _) ?_; clear hKq Kq; conv => whnf) | (clear hKq Kq; clear hKq Kq; clear hKq Kq; refine hKq _ _ _ (.refl _) ?_; clear hKq Kq; conv => whnf) | (clear hKq Kq; clear hKq Kq; clear hKq Kq; clear hKq Kq; refine hKq _ _ _ (.refl _) ?_; clear hKq Kq; conv => whnf) | (clear hKq Kq; clear hKq Kq; clear hKq Kq; clear hKq Kq; clear hKq Kq; refine hKq _ _ _ (.refl _) ?_; clear hKq Kq; conv => whnf) | (refine Or.inl (And.intro (by omega) ?_); conv => whnf) | (refine And.intro (by omega) ?_; conv => whnf))
    refine And.intro (fun h => absurd (of_decide_eq_true h) ((fun e => by cases e))) (fun _ => ?_)
    conv => whnf
    repeat (first | (refine VSeq.mk fun Kq hKq => ?_; conv => whnf) | (refine hKq _ _ _ (.refl _) ?_; clear hKq Kq; conv => whnf) | (clear hKq Kq; refine hKq _ _ _ (.refl _) ?_; clear hKq Kq; conv => whnf) | (clear hKq Kq; clear hKq Kq; refine hKq _ _ _ (.refl _) ?_; clear hKq Kq; conv => whnf) | (clear hKq Kq; clear hKq Kq; clear hKq Kq; refine hKq _ _ _ (.refl _) ?_; clear hKq Kq; conv => whnf) | (clear hKq Kq; clear hKq Kq; clear hKq Kq; clear hKq Kq; refine hKq _ _ _ (.refl _) ?_; clear hKq Kq; conv => whnf) | (clear hKq Kq; clear hKq Kq; clear hKq Kq; clear hKq Kq; clear hKq Kq; refine hKq _ _ _ (.refl _) ?_; clear hKq Kq; conv => whnf) | (refine Or.inl (And.intro (by omega) ?_); conv => whnf) | (refine And.intro (by omega) ?_; conv => whnf))
    repeat (first | (refine VSeq.mk fun Kq hKq => ?_; conv => whnf) | (refine hKq _ _ _ (.refl _) ?_; clear hKq Kq; conv => whnf) | (clear hKq Kq; refine hKq _ _ _ (.refl _) ?_; clear hKq Kq; conv => whnf) | (clear hKq Kq; clear hKq Kq; refine hKq _ _ _ (.refl _) ?_; clear hKq Kq; conv => whnf) | (clear hKq Kq; clear hKq Kq; clear hKq Kq; refine hKq _ _ _ (.refl _) ?_; clear hKq Kq; conv => whnf) | ((with_reducible show ∃ v w1, Sem.run _ (Instr.box _ _) _ = Result.ok v w1 ∧ _); first | (refine hp.kboxA fun q w hp hx => ?_; conv => whnf) | (refine hp.kbox1 rfl fun q w hp hx => ?_; conv => whnf) | fail) | ((with_reducible show ∃ v w1, Sem.run _ (Instr.alloc 222 _ _) _ = Result.ok v w1 ∧ _); first | (refine hp.kalloc z222 fun al222 w hp hx => ?_; conv => whnf) | fail) | ((with_reducible show ∃ v w1, Sem.run _ (bind (Instr.storeAt 222 _ _) _) _ = Result.ok v w1 ∧ _); first | (refine hp.kstA TTok rfl 0 rfl rfl (oneC_of rfl) (by rfl) fun w hp => ?_; try simp only [List.set_cons_zero, List.set_cons_succ, EV.val] at hp; conv => whnf) | (refine hp.kstA TTok rfl 1 rfl rfl (oneC_of rfl) (by rfl) fun w hp => ?_; try simp only [List.set_cons_zero, List.set_cons_succ, EV.val] at hp; conv => whnf) | (refine hp.kstA TTok rfl 2 rfl rfl (oneC_of rfl) (by rfl) fun w hp => ?_; try simp only [List.set_cons_zero, List.set_cons_succ, EV.val] at hp; conv => whnf) | (refine hp.kstA TTok rfl 3 rfl rfl (oneC_of rfl) (by rfl) fun w hp => ?_; try simp only [List.set_cons_zero, List.set_cons_succ, EV.val] at hp; conv => whnf) | (refine hp.kstA TTok rfl 4 rfl rfl (oneC_of rfl) (by rfl) fun w hp => ?_; try simp only [List.set_cons_zero, List.set_cons_succ, EV.val] at hp; conv => whnf) | (refine hp.kstA TTok rfl 5 rfl rfl (oneC_of rfl) (by rfl) fun w hp => ?_; try simp only [List.set_cons_zero, List.set_cons_succ, EV.val] at hp; conv => whnf) | (refine hp.kstA TTok rfl 6 rfl rfl (oneC_of rfl) (by rfl) fun w hp => ?_; try simp only [List.set_cons_zero, List.set_cons_succ, EV.val] at hp; conv => whnf) | (refine hp.kstA TTok rfl 7 rfl rfl (oneC_of rfl) (by rfl) fun w hp => ?_; try simp only [List.set_cons_zero, List.set_cons_succ, EV.val] at hp; conv => whnf) | fail) | ((with_reducible show ∀ w1, Ext _ w1 → _); first | (intro w hx; try (have hp := hp.call hx); conv => whnf) | fail) | ((with_reducible show ∃ v, Sem.run _ (loadVar _ _) _ = Result.ok v _ ∧ _); first | (refine ⟨_, Blk.lv (hp.get (i := 0) rfl) TTok rfl rfl, ?_⟩; conv => whnf) | (refine ⟨_, Blk.lv (hp.get (i := 1) rfl) TTok rfl rfl, ?_⟩; conv => whnf) | (refine ⟨_, Blk.lv (hp.get (i := 2) rfl) TTok rfl rfl, ?_⟩; conv => whnf) | (refine ⟨_, Blk.lv (hp.get (i := 3) rfl) TTok rfl rfl, ?_⟩; conv => whnf) | (refine ⟨_, Blk.lv (hp.get (i := 4) rfl) TTok rfl rfl, ?_⟩; conv => whnf) | (refine ⟨_, Blk.lv (hp.get (i := 5) rfl) TTok rfl rfl, ?_⟩; conv => whnf) | (refine ⟨_, Blk.lv (hp.get (i := 6) rfl) TTok rfl rfl, ?_⟩; conv => whnf) | (refine ⟨_, Blk.lv (hp.get (i := 7) rfl) TTok rfl rfl, ?_⟩; conv => whnf) | (refine ⟨_, Blk.lvN (hp.get (i := 0) rfl) TTok rfl rfl, ?_⟩; conv => whnf) | (refine ⟨_, Blk.lvN (hp.get (i := 1) rfl) TTok rfl rfl, ?_⟩; conv => whnf) | (refine ⟨_, Blk.lvN (hp.get (i := 2) rfl) TTok rfl rfl, ?_⟩; conv => whnf) | (refine ⟨_, Blk.lvN (hp.get (i := 3) rfl) TTok rfl rfl, ?_⟩; conv => whnf) | (refine ⟨_, Blk.lvN (hp.get (i := 4) rfl) TTok rfl rfl, ?_⟩; conv => whnf) | (refine ⟨_, Blk.lvN (hp.get (i := 5) rfl) TTok rfl rfl, ?_⟩; conv => whnf) | (refine ⟨_, Blk.lvN (hp.get (i := 6) rfl) TTok rfl rfl, ?_⟩; conv => whnf) | (refine ⟨_, Blk.lvN (hp.get (i := 7) rfl) TTok rfl rfl, ?_⟩; conv => whnf) | fail) | ((with_reducible show ∃ m : Nat, (_ ∧ _) ∧ _); first | (refine ⟨_, ⟨rfl, by omega⟩, ?_⟩; conv => whnf) | (refine ⟨0, ⟨rfl, by decide⟩, ?_⟩; conv => whnf) | (refine ⟨1, ⟨rfl, by decide⟩, ?_⟩; conv => whnf) | (refine ⟨2, ⟨rfl, by decide⟩, ?_⟩; conv => whnf) | fail) | ((with_reducible show ∃ m n : Nat, (_ ∧ _) ∧ _); first | (refine ⟨_, _, ⟨rfl, rfl, by omega, by omega⟩, ?_⟩; conv => whnf) | fail) | ((with_reducible show ∃ m n r : Nat, (_ ∧ _) ∧ _); first | (refine ⟨_, _, _, ⟨rfl, rfl, by decide, by decide⟩, rfl, ?_⟩; conv => whnf) | fail) | ((with_reducible show ∀ (cs : List Frame), _); first | (refine V.CallW.out ?_; (conv => arg 3; dsimp only [EV.val, List.toList_toArray, List.nil_append, List.append_nil, List.cons_append]); first | ((with_reducible show V.CallW _ 145 _ _ _); first | ((with_reducible refine V.PureF.useW (trL_p _ (by first | assumption | omega)) fun w hx => ?_); try (have hp := hp.call hx); conv => whnf) | (refine V.PureF.useW (trL_p _ (by first | assumption | omega)) fun w hx => ?_; try (have hp := hp.call hx); conv => whnf) | fail) | ((with_reducible show V.CallW _ 146 _ _ _); first | ((with_reducible refine V.PureF.useW (trR_p _ (by first | assumption | omega)) fun w hx => ?_); try (have hp := hp.call hx); conv => whnf) | (refine V.PureF.useW (trR_p _ (by first | assumption | omega)) fun w hx => ?_; try (have hp := hp.call hx); conv => whnf) | fail) | fail) | fail) | ((with_reducible show ∃ v, (∀ w1, _ → Calls _ _ _ _ _) ∧ _); first | (refine V.QCallW.out ?_; (conv => arg 3; dsimp only [EV.val, List.toList_toArray, List.nil_append, List.append_nil, List.cons_append]); first | ((with_reducible show V.QCallW _ 145 _ _ _); first | ((with_reducible refine V.PureF.quietW (trL_p _ (by first | assumption | omega)) ?_); conv => whnf) | (refine V.PureF.quietW (trL_p _ (by first | assumption | omega)) ?_; conv => whnf) | fail) | ((with_reducible show V.QCallW _ 146 _ _ _); first | ((with_reducible refine V.PureF.quietW (trR_p _ (by first | assumption | omega)) ?_); conv => whnf) | (refine V.PureF.quietW (trR_p _ (by first | assumption | omega)) ?_; conv => whnf) | fail) | fail) | fail) | ((with_reducible show _ ∨ _); first | (refine Or.inl (And.intro (by first | omega | decide) ?_); conv => whnf) | fail) | (with_reducible refine And.intro hx ?_; conv => whnf) | (refine And.intro (by first | omega | decide) ?_; conv => whnf) | ((with_reducible show (true = true → _) ∧ (true = false → _)); first | (refine And.intro (fun _ => ?_) (fun h => absurd h (by decide)); conv => whnf) | fail) | ((with_reducible show ((!false) = true → _) ∧ ((!false) = false → _)); first | (refine And.intro (fun _ => ?_) (fun h => absurd h (by decide)); conv => whnf) | fail) | ((with_reducible show (false = true → _) ∧ (false = false → _)); first | (refine And.intro (fun h => absurd h (by decide)) (fun _ => ?_); conv => whnf) | fail) | ((with_reducible show ((!true) = true → _) ∧ ((!true) = false → _)); first | (refine And.intro (fun h => absurd h (by decide)) (fun _ => ?_); conv => whnf) | fail) | ((with_reducible show (decide _ = true → _) ∧ (decide _ = false → _)); first | (refine And.intro (fun _ => ?_) (fun h => absurd (by first | rfl | assumption | omega | decide) (of_decide_eq_false h)); conv => whnf) | (refine And.intro (fun h => absurd (of_decide_eq_true h) (by first | (intro h2; exact absurd rfl h2) | omega | decide)) (fun _ => ?_); conv => whnf) | fail) | ((with_reducible show ((!(decide _)) = true → _) ∧ ((!(decide _)) = false → _)); first | (refine And.intro (fun _ => ?_) (fun h => absurd (of_decide_eq_true ((Bool.not_eq_false' _).mp h)) (by first | (intro h2; exact absurd rfl h2) | omega | decide)); conv => whnf) | (refine And.intro (fun h => absurd (by first | rfl | assumption | omega | decide) (of_decide_eq_false ((Bool.not_eq_true' _).mp h))) (fun _ => ?_); conv => whnf) | fail) | fail)
    refine v_mixA TTok FFok mixed [(0, false), (1, false), (2, false), (3, false), (4, false), (5, false), (6, false), (7, false)] (by kernel_rfl) ?_
    conv => whnf
    repeat (first | (refine VSeq.mk fun Kq hKq => ?_; conv => whnf) | (refine hKq _ _ _ (.refl _) ?_; clear hKq Kq; conv => whnf) | (clear hKq Kq; refine hKq _ _ _ (.refl _) ?_; clear hKq Kq; conv => whnf) | (clear hKq Kq; clear hKq Kq; refine hKq _ _ _ (.refl _) ?_; clear hKq Kq; conv => whnf) | (clear hKq Kq; clear hKq Kq; clear hKq Kq; refine hKq _ _ _ (.refl _) ?_; clear hKq Kq; conv => whnf) | (clear hKq Kq; clear hKq Kq; clear hKq Kq; clear hKq Kq; refine hKq _ _ _ (.refl _) ?_; clear hKq Kq; conv => whnf) | (clear hKq Kq; clear hKq Kq; clear hKq Kq; clear hKq Kq; clear hKq Kq; refine hKq _ _ _ (.refl _) ?_; clear hKq Kq; conv => whnf) | (refine Or.inl (And.intro (by omega) ?_); conv => whnf) | (refine And.intro (by omega) ?_; conv => whnf))
    repeat (first | (refine VSeq.mk fun Kq hKq => ?_; conv => whnf) | (refine hKq _ _ _ (.refl _) ?_; clear hKq Kq; conv => whnf) | (clear hKq Kq; refine hKq _ _ _ (.refl _) ?_; clear hKq Kq; conv => whnf) | (clear hKq Kq; clear hKq Kq; refine hKq _ _ _ (.refl _) ?_; clear hKq Kq; conv => whnf) | (clear hKq Kq; clear hKq Kq; clear hKq Kq; refine hKq _ _ _ (.refl _) ?_; clear hKq Kq; conv => whnf) | ((with_reducible show ∃ v w1, Sem.run _ (Instr.box _ _) _ = Result.ok v w1 ∧ _); first | (refine hp.kboxA fun q w hp hx => ?_; conv => whnf) | (refine hp.kbox1 rfl fun q w hp hx => ?_; conv => whnf) | fail) | ((with_reducible show ∃ v w1, Sem.run _ (Instr.alloc 222 _ _) _ = Result.ok v w1 ∧ _); first | (refine hp.kalloc z222 fun al222 w hp hx => ?_; conv => whnf) | fail) | ((with_reducible show ∃ v w1, Sem.run _ (bind (Instr.storeAt 222 _ _) _) _ = Result.ok v w1 ∧ _); first | (refine hp.kstA TTok rfl 0 rfl rfl (oneC_of rfl) (by rfl) fun w hp => ?_; try simp only [List.set_cons_zero, List.set_cons_succ, EV.val] at hp; conv => whnf) | (refine hp.kstA TTok rfl 1 rfl rfl (oneC_of rfl) (by rfl) fun w hp => ?_; try simp only [List.set_cons_zero, List.set_cons_succ, EV.val] at hp; conv => whnf) | (refine hp.kstA TTok rfl 2 rfl rfl (oneC_of rfl) (by rfl) fun w hp => ?_; try simp only [List.set_cons_zero, List.set_cons_succ, EV.val] at hp; conv => whnf) | (refine hp.kstA TTok rfl 3 rfl rfl (oneC_of rfl) (by rfl) fun w hp => ?_; try simp only [List.set_cons_zero, List.set_cons_succ, EV.val] at hp; conv => whnf) | (refine hp.kstA TTok rfl 4 rfl rfl (oneC_of rfl) (by rfl) fun w hp => ?_; try simp only [List.set_cons_zero, List.set_cons_succ, EV.val] at hp; conv => whnf) | (refine hp.kstA TTok rfl 5 rfl rfl (oneC_of rfl) (by rfl) fun w hp => ?_; try simp only [List.set_cons_zero, List.set_cons_succ, EV.val] at hp; conv => whnf) | (refine hp.kstA TTok rfl 6 rfl rfl (oneC_of rfl) (by rfl) fun w hp => ?_; try simp only [List.set_cons_zero, List.set_cons_succ, EV.val] at hp; conv => whnf) | (refine hp.kstA TTok rfl 7 rfl rfl (oneC_of rfl) (by rfl) fun w hp => ?_; try simp only [List.set_cons_zero, List.set_cons_succ, EV.val] at hp; conv => whnf) | fail) | ((with_reducible show ∀ w1, Ext _ w1 → _); first | (intro w hx; try (have hp := hp.call hx); conv => whnf) | fail) | ((with_reducible show ∃ v, Sem.run _ (loadVar _ _) _ = Result.ok v _ ∧ _); first | (refine ⟨_, Blk.lv (hp.get (i := 0) rfl) TTok rfl rfl, ?_⟩; conv => whnf) | (refine ⟨_, Blk.lv (hp.get (i := 1) rfl) TTok rfl rfl, ?_⟩; conv => whnf) | (refine ⟨_, Blk.lv (hp.get (i := 2) rfl) TTok rfl rfl, ?_⟩; conv => whnf) | (refine ⟨_, Blk.lv (hp.get (i := 3) rfl) TTok rfl rfl, ?_⟩; conv => whnf) | (refine ⟨_, Blk.lv (hp.get (i := 4) rfl) TTok rfl rfl, ?_⟩; conv => whnf) | (refine ⟨_, Blk.lv (hp.get (i := 5) rfl) TTok rfl rfl, ?_⟩; conv => whnf) | (refine ⟨_, Blk.lv (hp.get (i := 6) rfl) TTok rfl rfl, ?_⟩; conv => whnf) | (refine ⟨_, Blk.lv (hp.get (i := 7) rfl) TTok rfl rfl, ?_⟩; conv => whnf) | (refine ⟨_, Blk.lvN (hp.get (i := 0) rfl) TTok rfl rfl, ?_⟩; conv => whnf) | (refine ⟨_, Blk.lvN (hp.get (i := 1) rfl) TTok rfl rfl, ?_⟩; conv => whnf) | (refine ⟨_, Blk.lvN (hp.get (i := 2) rfl) TTok rfl rfl, ?_⟩; conv => whnf) | (refine ⟨_, Blk.lvN (hp.get (i := 3) rfl) TTok rfl rfl, ?_⟩; conv => whnf) | (refine ⟨_, Blk.lvN (hp.get (i := 4) rfl) TTok rfl rfl, ?_⟩; conv => whnf) | (refine ⟨_, Blk.lvN (hp.get (i := 5) rfl) TTok rfl rfl, ?_⟩; conv => whnf) | (refine ⟨_, Blk.lvN (hp.get (i := 6) rfl) TTok rfl rfl, ?_⟩; conv => whnf) | (refine ⟨_, Blk.lvN (hp.get (i := 7) rfl) TTok rfl rfl, ?_⟩; conv => whnf) | fail) | ((with_reducible show ∃ m : Nat, (_ ∧ _) ∧ _); first | (refine ⟨_, ⟨rfl, by omega⟩, ?_⟩; conv => whnf) | (refine ⟨0, ⟨rfl, by decide⟩, ?_⟩; conv => whnf) | (refine ⟨1, ⟨rfl, by decide⟩, ?_⟩; conv => whnf) | (refine ⟨2, ⟨rfl, by decide⟩, ?_⟩; conv => whnf) | fail) | ((with_reducible show ∃ m n : Nat, (_ ∧ _) ∧ _); first | (refine ⟨_, _, ⟨rfl, rfl, by omega, by omega⟩, ?_⟩; conv => whnf) | fail) | ((with_reducible show ∃ m n r : Nat, (_ ∧ _) ∧ _); first | (refine ⟨_, _, _, ⟨rfl, rfl, by decide, by decide⟩, rfl, ?_⟩; conv => whnf) | fail) | ((with_reducible show ∀ (cs : List Frame), _); first | (refine V.CallW.out ?_; (conv => arg 3; dsimp only [EV.val, List.toList_toArray, List.nil_append, List.append_nil, List.cons_append]); first | ((with_reducible show V.CallW _ 145 _ _ _); first | ((with_reducible refine V.PureF.useW (trL_p _ (by first | assumption | omega)) fun w hx => ?_); try (have hp := hp.call hx); conv => whnf) | (refine V.PureF.useW (trL_p _ (by first | assumption | omega)) fun w hx => ?_; try (have hp := hp.call hx); conv => whnf) | fail) | ((with_reducible show V.CallW _ 146 _ _ _); first | ((with_reducible refine V.PureF.useW (trR_p _ (by first | assumption | omega)) fun w hx => ?_); try (have hp := hp.call hx); conv => whnf) | (refine V.PureF.useW (trR_p _ (by first | assumption | omega)) fun w hx => ?_; try (have hp := hp.call hx); conv => whnf) | fail) | fail) | fail) | ((with_reducible show ∃ v, (∀ w1, _ → Calls _ _ _ _ _) ∧ _); first | (refine V.QCallW.out ?_; (conv => arg 3; dsimp only [EV.val, List.toList_toArray, List.nil_append, List.append_nil, List.cons_append]); first | ((with_reducible show V.QCallW _ 145 _ _ _); first | ((with_reducible refine V.PureF.quietW (trL_p _ (by first | assumption | omega)) ?_); conv => whnf) | (refine V.PureF.quietW (trL_p _ (by first | assumption | omega)) ?_; conv => whnf) | fail) | ((with_reducible show V.QCallW _ 146 _ _ _); first | ((with_reducible refine V.PureF.quietW (trR_p _ (by first | assumption | omega)) ?_); conv => whnf) | (refine V.PureF.quietW (trR_p _ (by first | assumption | omega)) ?_; conv => whnf) | fail) | fail) | fail) | ((with_reducible show _ ∨ _); first | (refine Or.inl (And.intro (by first | omega | decide) ?_); conv => whnf) | fail) | (with_reducible refine And.intro hx ?_; conv => whnf) | (refine And.intro (by first | omega | decide) ?_; conv => whnf) | ((with_reducible show (true = true → _) ∧ (true = false → _)); first | (refine And.intro (fun _ => ?_) (fun h => absurd h (by decide)); conv => whnf) | fail) | ((with_reducible show ((!false) = true → _) ∧ ((!false) = false → _)); first | (refine And.intro (fun _ => ?_) (fun h => absurd h (by decide)); conv => whnf) | fail) | ((with_reducible show (false = true → _) ∧ (false = false → _)); first | (refine And.intro (fun h => absurd h (by decide)) (fun _ => ?_); conv => whnf) | fail) | ((with_reducible show ((!true) = true → _) ∧ ((!true) = false → _)); first | (refine And.intro (fun h => absurd h (by decide)) (fun _ => ?_); conv => whnf) | fail) | ((with_reducible show (decide _ = true → _) ∧ (decide _ = false → _)); first | (refine And.intro (fun _ => ?_) (fun h => absurd (by first | rfl | assumption | omega | decide) (of_decide_eq_false h)); conv => whnf) | (refine And.intro (fun h => absurd (of_decide_eq_true h) (by first | (intro h2; exact absurd rfl h2) | omega | decide)) (fun _ => ?_); conv => whnf) | fail) | ((with_reducible show ((!(decide _)) = true → _) ∧ ((!(decide _)) = false → _)); first | (refine And.intro (fun _ => ?_) (fun h => absurd (of_decide_eq_true ((Bool.not_eq_false' _).mp h)) (by first | (intro h2; exact absurd rfl h2) | omega | decide)); conv => whnf) | (refine And.intro (fun h => absurd (by first | rfl | assumption | omega | decide) (of_decide_eq_false ((Bool.not_eq_true' _).mp h))) (fun _ => ?_); conv => whnf) | fail) | fail)
    exact ⟨rfl, hp.ext⟩
theorem trN_0 {s : ByteArray} : ∀ {k : Nat}, (∀ i, i < k → byt s i = 0) → trN s k = 0
  | 0, _ => rfl
  | k + 1, h => by rw [trN_z (h k (Nat.lt_succ_self k))]; exact trN_0 fun i hi => h i (Nat.lt_succ_of_lt hi)
theorem trN_pos {s : ByteArray} : ∀ {k : Nat}, trN s k ≠ 0 → byt s (trN s k - 1) ≠ 0 ∧ trN s k ≤ k
  | 0, h => absurd rfl h
  | k + 1, h => by
    by_cases hb : byt s k = 0
    · rw [trN_z hb] at h ⊢
      have := trN_pos h
      exact ⟨this.1, by omega⟩
    · rw [trN_nz hb]; exact ⟨hb, Nat.le_refl _⟩
theorem trN_zero {s : ByteArray} : ∀ {k : Nat}, trN s k = 0 → ∀ i, i < k → byt s i = 0
  | 0, _, i, hi => by omega
  | k + 1, h, i, hi => by
    by_cases hb : byt s k = 0
    · rw [trN_z hb] at h
      by_cases e : i = k
      · subst e; exact hb
      · exact trN_zero h i (by omega)
    · rw [trN_nz hb] at h; cases h
theorem tlN_le {s : ByteArray} {m : Nat} (hm : byt s m ≠ 0) : ∀ f j, j ≤ m → tlN s f j ≤ m
  | 0, j, h => h
  | f + 1, j, h => by
    by_cases hb : byt s j = 0
    · rw [tlN_z hb]
      have : j ≠ m := fun e => by subst e; exact hm hb
      exact tlN_le hm f (j + 1) (by omega)
    · rw [tlN_nz hb]; exact h
theorem trimB_iff (s : ByteArray) : trimB s = ⟨#[]⟩ ↔ ∀ i, i < s.size → byt s i = 0 := by
  constructor
  · intro h
    by_cases hz : trN s s.size = 0
    · exact trN_zero hz
    · exfalso
      obtain ⟨h1, h2⟩ := trN_pos hz
      have h3 : (trimB s).size = 0 := by rw [h]; rfl
      unfold trimB at h3
      have hsz : (s.extract 0 (trN s s.size)).size = trN s s.size := by rw [ByteArray.size_extract]; omega
      have hb : byt (s.extract 0 (trN s s.size)) (trN s s.size - 1) ≠ 0 := by
        rw [byt_pre s 0 (trN s s.size) (trN s s.size - 1) h2 (by omega), Nat.zero_add]; exact h1
      have := tlN_le hb (s.extract 0 (trN s s.size)).size 0 (by omega)
      rw [ByteArray.size_extract] at h3
      omega
  · intro h
    have hz := trN_0 h
    unfold trimB
    rw [hz]
    apply ba_eq
    rw [ext_toList, ext_toList]
    simp
set_option maxHeartbeats 4000000
def u2 (a b : UInt8) : Nat := a.toNat * 256 + b.toNat
theorem u2_lt (a b : UInt8) : u2 a b < 65536 := by
  unfold u2
  have h1 := a.toNat_lt
  have h2 := b.toNat_lt
  omega
/-- one attribute at the head of octets, and what is behind it -/
def pstep : List UInt8 → Option (At2 × List UInt8)
  | a :: b :: c :: d :: r =>
    if u2 c d + padN (u2 c d) ≤ r.length ∧ (r.drop (u2 c d)).take (padN (u2 c d)) = List.replicate (padN (u2 c d)) 0 then some (((u2 a b : Nat), ⟨(r.take (u2 c d)).toArray⟩), r.drop (u2 c d + padN (u2 c d))) else none
  | _ => none
theorem pstep_lt {l r : List UInt8} {a : At2} (h : pstep l = some (a, r)) : r.length + 4 ≤ l.length := by
  unfold pstep at h
  split at h
  · split at h
    · rename_i a b c d r' hc
      simp only [Option.some.injEq, Prod.mk.injEq] at h
      rw [← h.2, List.length_drop]
      simp only [List.length_cons]
      omega
    · cases h
  · cases h
def parseF : Nat → List UInt8 → List At2 × Bool
  | 0, l => ([], l.isEmpty)
  | _ + 1, [] => ([], true)
  | f + 1, l => match pstep l with
    | none => ([], false)
    | some (a, r) => (a :: (parseF f r).1, (parseF f r).2)
theorem parseF_fuel : ∀ (f g : Nat) (l : List UInt8), l.length ≤ f → l.length ≤ g → parseF f l = parseF g l
  | 0, 0, l, _, _ => rfl
  | 0, g + 1, l, h, _ => by
    have : l = [] := List.eq_nil_of_length_eq_zero (by omega)
    subst this; rfl
  | f + 1, 0, l, _, h => by
    have : l = [] := List.eq_nil_of_length_eq_zero (by omega)
    subst this; rfl
  | f + 1, g + 1, [], _, _ => rfl
  | f + 1, g + 1, x :: l, hf, hg => by
    unfold parseF
    cases hp : pstep (x :: l) with
    | none => rfl
    | some y =>
      obtain ⟨a, r⟩ := y
      have := pstep_lt hp
      dsimp only
      rw [parseF_fuel f g r (by simp only [List.length_cons] at *; omega) (by simp only [List.length_cons] at *; omega)]
def parse (l : List UInt8) : List At2 × Bool := parseF l.length l
theorem parse_nil : parse [] = ([], true) := rfl
theorem parse_none {l : List UInt8} (h : l ≠ []) (hp : pstep l = none) : parse l = ([], false) := by
  cases l with
  | nil => exact absurd rfl h
  | cons x l => unfold parse; rw [List.length_cons]; unfold parseF; rw [hp]
theorem parse_some {l r : List UInt8} {a : At2} (hp : pstep l = some (a, r)) : parse l = (a :: (parse r).1, (parse r).2) := by
  have hlt := pstep_lt hp
  cases l with
  | nil => simp [pstep] at hp
  | cons x l =>
    unfold parse
    rw [List.length_cons]
    conv => lhs; unfold parseF
    rw [hp]
    dsimp only
    rw [parseF_fuel l.length r.length r (by simp only [List.length_cons] at hlt; omega) (Nat.le_refl _)]
theorem beL2 (v : Nat) : beL 2 v = [UInt8.ofNat (v / 256), UInt8.ofNat v] := by
  unfold beL
  simp [List.range, List.range.loop]
theorem u2_of (v : Nat) (h : v < 65536) : u2 (UInt8.ofNat (v / 256)) (UInt8.ofNat v) = v := by
  unfold u2
  rw [UInt8.toNat_ofNat', UInt8.toNat_ofNat']
  omega
theorem of_u2 (a b : UInt8) : UInt8.ofNat (u2 a b / 256) = a ∧ UInt8.ofNat (u2 a b) = b := by
  have h1 := a.toNat_lt
  have h2 := b.toNat_lt
  unfold u2
  constructor <;> apply UInt8.toNat_inj.1 <;> rw [UInt8.toNat_ofNat'] <;> omega
/-- an attribute's numbers fit -/
def fitA (a : At2) : Prop := 0 ≤ a.1 ∧ a.1 ≤ 65535 ∧ a.2.size ≤ 65535
theorem fitA_of {a : At2} (h : attrB a = true) : fitA a := by
  have := attrB_t h
  exact ⟨this.1, this.2.1, by omega⟩
theorem padB_list (s : ByteArray) : (padB s).data.toList = s.data.toList ++ List.replicate (padN s.size) 0 := by unfold padB; simp
theorem bA_len (s : ByteArray) : s.data.toList.length = s.size := by cases s; rfl
theorem pstep_attr (a : At2) (h : fitA a) (r : List UInt8) : pstep (attrL a ++ r) = some (a, r) := by
  obtain ⟨k, s⟩ := a
  obtain ⟨h0, h1, h2⟩ := h
  dsimp only at h0 h1 h2
  unfold attrL
  dsimp only
  rw [beL2, beL2, padB_list]
  simp only [List.cons_append, List.nil_append, List.append_assoc]
  unfold pstep
  dsimp only
  rw [u2_of s.size (by omega), u2_of k.toNat (by omega)]
  have hl : s.data.toList.length = s.size := bA_len s
  rw [if_pos ?_]
  · simp only [Option.some.injEq, Prod.mk.injEq]
    refine ⟨⟨by omega, ?_⟩, ?_⟩
    · rw [List.take_left' hl]
    · rw [← List.drop_drop, List.drop_left' hl, List.drop_left' List.length_replicate]
  · refine ⟨?_, ?_⟩
    · simp only [List.length_append, List.length_replicate]; omega
    · rw [List.drop_left' hl, List.take_left' List.length_replicate]
theorem attr_pstep {l r : List UInt8} {a : At2} (h : pstep l = some (a, r)) : l = attrL a ++ r ∧ fitA a := by
  unfold pstep at h
  split at h
  · rename_i x y c d q
    split at h
    · rename_i hc
      simp only [Option.some.injEq, Prod.mk.injEq] at h
      obtain ⟨rfl, rfl⟩ := h
      have hsz : (⟨(List.take (u2 c d) q).toArray⟩ : ByteArray).size = u2 c d := by
        show (List.take (u2 c d) q).toArray.size = _
        simp only [List.size_toArray, List.length_take]; omega
      have hcd := u2_lt c d
      have hxy := u2_lt x y
      refine ⟨?_, by simp only; omega, by simp only; omega, by rw [hsz]; omega⟩
      unfold attrL
      dsimp only
      rw [beL2, beL2, padB_list, hsz, Int.toNat_natCast, (of_u2 x y).1, (of_u2 x y).2, (of_u2 c d).1, (of_u2 c d).2]
      simp only [List.cons_append, List.nil_append, List.append_assoc, List.cons.injEq, true_and]
      rw [← hc.2, ← List.drop_drop, List.take_append_drop, List.take_append_drop]
    · cases h
  · cases h
theorem parse_attrs : ∀ (al : List At2), (∀ a ∈ al, fitA a) → parse (attrsL al) = (al, true)
  | [], _ => rfl
  | a :: al, h => by
    show parse (attrL a ++ attrsL al) = _
    rw [parse_some (pstep_attr a (h a List.mem_cons_self) _), parse_attrs al fun x hx => h x (List.mem_cons_of_mem _ hx)]
theorem attrs_parseF : ∀ (f : Nat) (l : List UInt8), l.length ≤ f → (parse l).2 = true → l = attrsL (parse l).1 ∧ ∀ a ∈ (parse l).1, fitA a
  | f, [], _, h => ⟨rfl, fun a ha => by cases ha⟩
  | 0, x :: l, hf, h => by simp at hf
  | f + 1, x :: l, hf, h => by
    cases hp : pstep (x :: l) with
    | none => rw [parse_none (by simp) hp] at h; cases h
    | some y =>
      obtain ⟨a, r⟩ := y
      rw [parse_some hp] at h ⊢
      have hlt := pstep_lt hp
      obtain ⟨h1, h2⟩ := attrs_parseF f r (by simp only [List.length_cons] at *; omega) h
      obtain ⟨h3, h4⟩ := attr_pstep hp
      refine ⟨?_, fun b hb => ?_⟩
      · rw [h3]
        show _ = attrL a ++ attrsL (parse r).1
        rw [← h1]
      · rcases List.mem_cons.1 hb with rfl | hb
        · exact h4
        · exact h2 b hb
theorem attrs_parse {l : List UInt8} (h : (parse l).2 = true) : l = attrsL (parse l).1 ∧ ∀ a ∈ (parse l).1, fitA a := attrs_parseF l.length l (Nat.le_refl _) h
/-! ### the head -/
def clsN (t : Nat) : Nat := ((t / 16) &&& 1) ||| ((t / 128) &&& 2)
def mthN (t : Nat) : Nat := ((t &&& 15) ||| ((t / 2) &&& 112)) ||| ((t / 4) &&& 3968)
theorem head_all : (List.range 16384).all (fun t => Nat.blt (clsN t) 4 && (Nat.blt (mthN t) 4096 && Nat.beq (kindN (clsN t) (mthN t)) t)) = true := by kernel_rfl
theorem head_t {t : Nat} (h : t < 16384) : clsN t < 4 ∧ mthN t < 4096 ∧ kindN (clsN t) (mthN t) = t := by
  have := List.all_eq_true.1 head_all t (List.mem_range.2 h)
  simp only [Bool.and_eq_true, Nat.blt_eq] at this
  exact ⟨this.1, this.2.1, Nat.eq_of_beq_eq_true this.2.2⟩
theorem kind_all : (List.range 16384).all (fun x => Nat.beq (clsN (kindN (x / 4096) (x % 4096))) (x / 4096) && Nat.beq (mthN (kindN (x / 4096) (x % 4096))) (x % 4096)) = true := by kernel_rfl
theorem kind_inv {c m : Nat} (hc : c < 4) (hm : m < 4096) : clsN (kindN c m) = c ∧ mthN (kindN c m) = m := by
  have := List.all_eq_true.1 kind_all (c * 4096 + m) (List.mem_range.2 (by omega))
  simp only [Bool.and_eq_true] at this
  rw [show (c * 4096 + m) / 4096 = c by omega, show (c * 4096 + m) % 4096 = m by omega] at this
  exact ⟨Nat.eq_of_beq_eq_true this.1, Nat.eq_of_beq_eq_true this.2⟩
open Go.RowKit
namespace V
section
variable {P : Program} {T : Tab} {Fs : List Nat} (hT : tabOk P T = true) (hF : ∀ f, memB f Fs = true → Enters P f)
include hT hF
omit hT hF in
theorem at_entry {args : List Value} {nt : Nat} (hn : args.length ≤ nt) : At nt (entry 0 args) { tmps := args.toArray ++ Array.replicate (nt - args.toArray.size) undef, defers := [] } := by
  refine ⟨by rw [marks_entry], by simp; omega, ?_⟩
  have key : ∀ (vs pre : List Value) t x, look (entry pre.length vs) t = some x → ((pre ++ vs).toArray ++ Array.replicate (nt - args.length) undef).getD t undef = x.val := by
    intro vs
    induction vs with
    | nil => intro pre t x h; simp [entry, look] at h
    | cons v vs ih =>
      intro pre t x h
      simp only [entry, look] at h
      by_cases e : pre.length = t
      · subst e; simp at h; subst h
        simp [Array.getD_eq_getD_getElem?, Array.getElem?_append]
      · rw [beqF e] at h
        have := ih (pre ++ [v]) t x (by simpa using h)
        simpa using this
  intro t x h
  have := key args [] t x h
  simpa using this
omit hT hF in
theorem res_run {fn : Func} {l : Env} {a : Act} {w : World} {R : Value → Prop} (ha : At fn.ntmps l a) (h : vres P fn.results.toList l w (fun vs => R (one vs))) : ∃ v, (results fn a.tmps).run P w = .ok v w ∧ R v := by
  obtain ⟨vs, hk, hr⟩ := vres_sound ha h
  refine ⟨one vs, ?_, hk⟩
  have e : results fn a.tmps = (fn.results.mapM (resOf a) >>= fun vs => Pure.pure (if h : vs.size = 1 then vs[0] else .tuple vs)) := by
    have hg : ∀ (f g : ResultVar → Sem Value), (∀ x, f x = g x) → (fn.results.mapM f >>= fun vs => (Pure.pure (if h : vs.size = 1 then vs[0] else Value.tuple vs) : Sem Value)) = (fn.results.mapM g >>= fun vs => Pure.pure (if h : vs.size = 1 then vs[0] else Value.tuple vs)) := fun f g h => by rw [funext h]
    exact hg _ _ (fun x => by cases x <;> rfl)
  rw [e, Sem.run_bind, Array.mapM_eq_mapM_toList, Sem.run_map, hr]
  simp only [Result.andThen, Sem.run_pure]
  match vs with
  | [] => rfl
  | [v] => rfl
  | v :: u :: r => simp [one]
/-- A function that may panic, and that may defer. -/
theorem v_fnD {f : Nat} {fn : Func} {c : Code} {args : List Value} {w : World} {R : Ending → World → Prop} (hf : P.funcs[f]? = some fn) (hb : fn.body = some c) (hn : args.length ≤ fn.ntmps)
    (h : vgo P T Fs fn.ntmps c (entry 0 args) w (retKD P Fs fn.results.toList R)) : Calls P f args.toArray w R := by
  refine (callsIn_wide (n := 0)).1 (callsIn_of_wp_marks (F := wideR none) hf hb trivial ?_)
  refine wpIn_mono (vgo_sound hT hF none 0 c (.inl rfl) (at_entry hn) h) ?_
  have fin : ∀ {l : Env} {a : Act}, At fn.ntmps l a → ∀ (Ds : List Deferred) (u : FrameMode) (w : World), vleaveD P Fs fn.results.toList l R Ds u w →
      LeavesInM (wideR none) 0 P fn a.tmps R Ds u w := by
    intro l a ha Ds
    induction Ds with
    | nil =>
      intro u w h
      cases u with
      | run => exact h.elim
      | returning => exact res_run (R := fun v => R (.returned v) w) ha h
      | panicking c => exact h
    | cons d Ds ih =>
      intro u w h
      simp only [vleaveD] at h
      split at h
      · rename_i D htar
        exact ⟨h.1.1, .inl ⟨D, _, htar, run_takeDeferred h.1.2, ih _ _ h.2⟩⟩
      · rename_i f cap htar
        refine ⟨h.1.1, .inr ⟨by simp [wideR], .func f, cap, f, d.args ++ cap, htar, ?_, fun _ _ => trivial, h.2.mono ?_⟩⟩
        · rw [htar]
          simp [invoke, hF f h.1.2]
          try exact hF f h.1.2 _ _
        · intro e u' w' hq
          cases e with
          | returned v => exact ih _ _ hq
          | panicked c => exact ih _ _ hq
          | outgrown => exact hq.elim
      · exact h.elim
  intro e a w hq
  cases e with
  | normal => obtain ⟨l, ha, hk⟩ := hq; have := fin ha _ _ _ hk; rw [← ha.defers] at this; exact this
  | ret => obtain ⟨l, ha, hk⟩ := hq; have := fin ha _ _ _ hk; rw [← ha.defers] at this; exact this
  | exit i => obtain ⟨l, ha, hk⟩ := hq; exact hk.elim
  | goto l => obtain ⟨l, ha, hk⟩ := hq; exact hk.elim
  | panic c => obtain ⟨l, ha, hk⟩ := (show ∃ l, At fn.ntmps l a ∧ _ from hq); have := fin ha _ _ _ hk; rw [← ha.defers] at this; exact this
  | outgrown => exact False.elim hq

/-! ### a deferred call that recovers -/
/-- What recover hands back, and the mode that it leaves. -/
def recM : FrameMode → Value × FrameMode
  | .panicking ({ v, recovered := false, goexit := false } :: older) => (v, .panicking ({ v, recovered := true } :: older))
  | u => (.nilIface, u)
/-- A deferred function's way out. -/
def retK0 (P : Program) (rs : List ResultVar) (R : Value → World → Prop) : KK where
  nrm := fun l w => marks l = [] ∧ vres P rs l w fun vs => R (one vs) w
  ret := fun l w => marks l = [] ∧ vres P rs l w fun vs => R (one vs) w
  ex := fun _ _ _ => False
theorem vops_soundS {n : Nat} {all : List Oper} {cs : List Frame} {Q : Exit → Act → List Frame → World → Prop} {K : Env → World → Prop} (hK : ∀ l a w, At n l a → K l w → Q .normal a cs w) :
    ∀ {ops : List Oper} {i : Nat} {l : Env} {a : Act} {w : World}, all.drop i = ops → At n l a → vops T Fs (valH P) n all ops l w K → wpOpsSIn (wideR none) 0 P all.toArray Q (List.range' i ops.length) a cs w
  | [], i, l, a, w, _, ha, h => hK l a w ha h
  | o :: rest, i, l, a, w, hd, ha, h => by
    have hi : all.toArray[i]? = some o := by
      have : all[i]? = some o := by rw [← List.head?_drop, hd]; rfl
      simpa using this
    have hrest : all.drop (i + 1) = rest := by rw [← List.drop_drop, hd]; rfl
    have put : ∀ {l : Env} {e : EV} {w' : World}, At n l a → vdst n o l (fun l s => vops T Fs (valH P) n all rest l s K) e w' → wpOpsSIn (wideR none) 0 P all.toArray Q (List.range' (i + 1) rest.length) (a.put o.dst e.val) cs w' := by
      intro l e w' ha h
      unfold vdst at h
      split at h
      · rename_i d hd
        split at h
        · rename_i hb
          split at h
          · rename_i hm
            rw [hd]
            exact vops_soundS hK hrest (ha.put hb e hm) h
          · exact h.elim
        · exact h.elim
      · rename_i hd
        rw [hd]
        exact vops_soundS hK hrest ha h
    have run : ∀ {l : Env}, At n l a → Region.wanted o (yielded all.toArray a.tmps) = true → vop T Fs (valH P) l o.op o.type w (vdst n o l (fun l s => vops T Fs (valH P) n all rest l s K)) → wpOpsSIn (wideR none) 0 P all.toArray Q (List.range' i (o :: rest).length) a cs w := by
      intro l ha hw h
      rw [List.length_cons, List.range'_succ]
      unfold wpOpsSIn
      rw [hi]
      refine ⟨fun _ _ => trivial, ?_⟩
      rw [if_pos hw]
      obtain ⟨e, w', hr, hk⟩ := vop_sound hT hF (val_laws P) ha h
      rcases hr with hr | ⟨hr, he⟩
      · rw [hr]; exact put ha hk
      · rw [hr]; have := put ha hk; rw [he] at this; exact this
    have skip : ∀ {l : Env}, At n l a → Region.wanted o (yielded all.toArray a.tmps) = false → vdst n o l (fun l s => vops T Fs (valH P) n all rest l s K) (.v undef) w → wpOpsSIn (wideR none) 0 P all.toArray Q (List.range' i (o :: rest).length) a cs w := by
      intro l ha hw h
      rw [List.length_cons, List.range'_succ]
      unfold wpOpsSIn
      rw [hi]
      refine ⟨fun _ _ => trivial, ?_⟩
      rw [if_neg (by rw [hw]; exact Bool.false_ne_true)]
      exact put ha h
    simp only [vops] at h
    split at h
    · rename_i hg
      exact run ha (by simp [Region.wanted, hg]) h
    · rename_i j want hg
      split at h <;> try exact h.elim
      rename_i d hj
      have lit : ∀ {b : Bool}, look l d = some (.v (.bool b)) → ∀ e : EV, e.isM = false → e.val = .bool b → At n ((d, e) :: l) a := fun {b} hl e hm he =>
        ⟨by rw [marks_cons hm]; exact ha.defers, ha.size, fun t x hx => by
          simp only [look] at hx
          by_cases hd : d = t
          · subst hd; simp at hx; subst hx; rw [ha.holds d _ hl, he]
          · rw [beqF hd] at hx; exact ha.holds t x hx⟩
      split at h
      · rename_i hl
        have hy := yielded_of ha hj hl
        cases want with
        | true => exact run ha (by simp [Region.wanted, hg, hy]) h
        | false => exact skip ha (by simp [Region.wanted, hg, hy]) h
      · rename_i hl
        have hy := yielded_of ha hj hl
        cases want with
        | true => exact skip ha (by simp [Region.wanted, hg, hy]) h
        | false => exact run ha (by simp [Region.wanted, hg, hy]) h
      · rename_i b hl
        have hy := yielded_of ha hj hl
        cases want with
        | true =>
          cases b with
          | true => exact run (lit hl .tt rfl rfl) (by simp [Region.wanted, hg, hy]) (h.1 rfl)
          | false => exact skip (lit hl .ff rfl rfl) (by simp [Region.wanted, hg, hy]) (h.2 rfl)
        | false =>
          cases b with
          | true => exact skip (lit hl .tt rfl rfl) (by simp [Region.wanted, hg, hy]) (h.1 rfl)
          | false => exact run (lit hl .ff rfl rfl) (by simp [Region.wanted, hg, hy]) (h.2 rfl)
      · rename_i vs hl
        have hy := yielded_of ha hj hl
        exact skip ha (by simp [Region.wanted, hg, hy]) h
      · exact h.elim
/-- A deferred function whose first operation is recover. -/
theorem v_deferred {f : Nat} {fn : Func} {id : Nat} {o0 : Oper} {ops : List Oper} {rest : Code} {args : List Value} {u u2 : FrameMode} {v : Value} {w : World} {R : Value → World → Prop} (hf : P.funcs[f]? = some fn)
    (hb : fn.body = some (.seq (.region id (o0 :: ops).toArray false) rest)) (hn : args.length ≤ fn.ntmps) (ho : ∀ ρ w, (execOp ρ o0).run P w = .ok .recover w) (hg : o0.guard = none) {d : Nat} (hd : o0.dst = some d) (hdn : Nat.blt d fn.ntmps = true)
    (hu : recM u = (v, u2))
    (h : vops T Fs (valH P) fn.ntmps (o0 :: ops) ops ((d, .v v) :: entry 0 args) w (fun l w => vgo P T Fs fn.ntmps rest l w (retK0 P fn.results.toList R))) :
    DefC P f args.toArray u w fun e u' w' => u' = u2 ∧ ∃ x, e = .returned x ∧ R x w' := by
  refine callsDIn_of_wpSIn hf hb trivial fun c₀ cs hc => ?_
  refine wpSIn_seq (wpSIn_region ?_)
  have ha := at_entry (args := args) hn
  have hrec : recoverD (c₀ :: cs) = some (v, { c₀ with mode := u2 } :: cs) ∨ (recoverD (c₀ :: cs) = none ∧ v = .nilIface ∧ c₀ = { c₀ with mode := u2 }) := by
    simp only [recoverD]
    rw [hc]
    unfold recM at hu
    split at hu
    · simp only [Prod.mk.injEq] at hu
      obtain ⟨rfl, rfl⟩ := hu
      exact .inl rfl
    · rename_i hnot
      simp only [Prod.mk.injEq] at hu
      obtain ⟨rfl, rfl⟩ := hu
      refine .inr ⟨?_, rfl, by rw [← hc]⟩
      split
      · rename_i hm
        first | exact absurd rfl (hnot _ _) | exact absurd hm (hnot _ _)
      · rfl
  have e0 : (o0 :: ops).toArray.size = ops.length + 1 := by simp
  rw [e0, List.range_eq_range', List.range'_succ]
  unfold wpOpsSIn
  have h0 : (o0 :: ops).toArray[0]? = some o0 := by simp
  rw [h0]
  refine ⟨fun _ _ => trivial, ?_⟩
  rw [if_pos (by simp [Region.wanted, hg]), ho]
  have key : wpOpsSIn (wideR none) 0 P (o0 :: ops).toArray (Exit.thenS (rest.wpSIn (wideR none) 0 P (bodyPostS P fn c₀ cs fun e u' w' => u' = u2 ∧ ∃ x, e = .returned x ∧ R x w')) (bodyPostS P fn c₀ cs fun e u' w' => u' = u2 ∧ ∃ x, e = .returned x ∧ R x w')) (List.range' (0 + 1) ops.length) (({ tmps := args.toArray ++ Array.replicate (fn.ntmps - args.toArray.size) undef, defers := [] } : Act).put o0.dst v) ({ c₀ with mode := u2 } :: cs) w := by
    refine vops_soundS hT hF (n := fn.ntmps) (K := fun l w => vgo P T Fs fn.ntmps rest l w (retK0 P fn.results.toList R)) ?_ (by simp) (by rw [hd]; exact ha.put hdn (.v v)) h
    intro l a w ha h
    refine wpSIn_of_wpIn rfl (wpIn_mono (vgo_sound hT hF none 0 rest (.inl rfl) ha h) ?_)
    intro e a w hq
    have fin : ∀ {l : Env} {a : Act} {w : World}, At fn.ntmps l a → (marks l = []) → vres P fn.results.toList l w (fun vs => R (one vs) w) → a.defers = [] ∧ ∃ u', { c₀ with mode := u2 } :: cs = { c₀ with mode := u' } :: cs ∧ ∃ v, (results fn a.tmps).run P w = .ok v w ∧ u' = u2 ∧ ∃ x, Ending.returned v = .returned x ∧ R x w := by
      intro l a w ha hm hk
      obtain ⟨x, hx, hR⟩ := res_run (R := fun v => R v w) ha hk
      exact ⟨by rw [ha.defers, hm], u2, rfl, x, hx, rfl, x, rfl, hR⟩
    cases e with
    | normal => obtain ⟨l, ha, hm, hk⟩ := hq; exact fin ha hm hk
    | ret => obtain ⟨l, ha, hm, hk⟩ := hq; exact fin ha hm hk
    | exit i => obtain ⟨l, ha, hk⟩ := hq; exact hk.elim
    | goto l => obtain ⟨l, ha, hk⟩ := hq; exact hk.elim
    | panic c => exact False.elim hq
    | outgrown => exact False.elim hq
  rcases hrec with hr | ⟨hr, rfl, hcc⟩
  · simp only [hr]; exact key
  · simp only [hr]; rw [← hcc] at key; exact key
end
end V
end Go.Proofs.YtmlmfmdmomegpaaGreatDoor
