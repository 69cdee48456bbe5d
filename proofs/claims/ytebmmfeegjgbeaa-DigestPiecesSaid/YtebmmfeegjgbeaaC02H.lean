/- Chapter 02: octets are added. -/
import Derived.Test.YtebmmfeegjgbeaaC02G
namespace Go.Proofs.Ytebmmfeegjgbeaa
set_option linter.unusedSimpArgs false
set_option linter.unusedVariables false
open Go.RowKit V
def restB (s : ByteArray) : ByteArray := ⟨(rest s.data.toList).toArray⟩
theorem restB_size (s : ByteArray) : (restB s).size = s.size % 64 := by unfold restB; rw [bA_size, rest_len, toList_len]
theorem restB_ext (s : ByteArray) : s.extract (s.size / 64 * 64) s.size = restB s := by
  apply ba_eq
  rw [ext_list]
  show _ = rest s.data.toList
  unfold rest
  rw [toList_len, List.take_of_length_le (by rw [List.length_drop, toList_len]; omega)]
theorem hC_tail (l : List Nat) (tail : ByteArray) (c : Int) (h : l.length = 8) : (hC l tail c)[8]? = some (.string tail) := by
  unfold hC; rw [List.getElem?_append_right (by rw [kw_len]; omega), kw_len, h]; rfl
theorem hC_cnt (l : List Nat) (tail : ByteArray) (c : Int) (h : l.length = 8) : (hC l tail c)[9]? = some (.int .i64 c) := by
  unfold hC; rw [List.getElem?_append_right (by rw [kw_len]; omega), kw_len, h]; rfl
theorem hC_setT (l : List Nat) (tail x : ByteArray) (c : Int) (h : l.length = 8) : (hC l tail c).set 8 (.string x) = hC l x c := by
  unfold hC; rw [List.set_append_right _ _ (by rw [kw_len]; omega), kw_len, h]; rfl
theorem hC_setC (l : List Nat) (tail : ByteArray) (c x : Int) (h : l.length = 8) : (hC l tail c).set 9 (.int .i64 x) = hC l tail x := by
  unfold hC; rw [List.set_append_right _ _ (by rw [kw_len]; omega), kw_len, h]; rfl
set_option maxHeartbeats 4000000 in
theorem add_c {w0 : World} {qh e : Nat} (s : ByteArray) (h : List Nat) (tail : ByteArray) (c : Nat) (hh : W8 h) (hs : s.size ≤ 100000) (ht : tail.size ≤ 100000) (hc : c ≤ 4398046511104) (hb : Blk w0 qh (hC h tail c) e) :
    Calls Try.prog 35 #[.pointer (some ⟨qh, 0, none⟩), .string s, hV KL] w0 fun e' w' => ∃ v, e' = .returned v ∧ v = .tuple #[] ∧ w0.grownBy w' (some qh) ∧ Blk w' qh (hC (mixA KL h (tail.data.toList ++ s.data.toList)) (restB (tail ++ s)) ((c + s.size : Nat) : Int)) e := by
  refine v_fn (args := [.pointer (some ⟨qh, 0, none⟩), .string s, hV KL]) TTok FFok (f := 35) rfl rfl (Nat.le_of_ble_eq_true rfl) ?_
  have hp := (HpM.nil0 [qh] w0).take hb (by simp) (by simp)
  have h8 := (mixA_W8 KL hh (tail.data.toList ++ s.data.toList)).1
  unfold hV
  conv => whnf
  repeat (first | (refine VSeq.mk fun Kq hKq => ?_; conv => whnf) | (refine hKq _ _ _ (V.Sub.refl _) ?_; clear hKq Kq; conv => whnf) | (clear hKq Kq; refine hKq _ _ _ (V.Sub.refl _) ?_; clear hKq Kq; conv => whnf) | (clear hKq Kq; clear hKq Kq; refine hKq _ _ _ (V.Sub.refl _) ?_; clear hKq Kq; conv => whnf) | (clear hKq Kq; clear hKq Kq; clear hKq Kq; refine hKq _ _ _ (V.Sub.refl _) ?_; clear hKq Kq; conv => whnf) | (clear hKq Kq; clear hKq Kq; clear hKq Kq; clear hKq Kq; refine hKq _ _ _ (V.Sub.refl _) ?_; clear hKq Kq; conv => whnf) | (clear hKq Kq; clear hKq Kq; clear hKq Kq; clear hKq Kq; clear hKq Kq; refine hKq _ _ _ (V.Sub.refl _) ?_; clear hKq Kq; conv => whnf) | (refine And.intro (by omega) ?_; conv => whnf))
  refine hp.kbox (kw .u32 KL) rfl fun q5 w hp hx => ?_
  conv => whnf
  repeat (first | (refine VSeq.mk fun Kq hKq => ?_; conv => whnf) | (refine hKq _ _ _ (V.Sub.refl _) ?_; clear hKq Kq; conv => whnf) | (clear hKq Kq; refine hKq _ _ _ (V.Sub.refl _) ?_; clear hKq Kq; conv => whnf) | (clear hKq Kq; clear hKq Kq; refine hKq _ _ _ (V.Sub.refl _) ?_; clear hKq Kq; conv => whnf) | (clear hKq Kq; clear hKq Kq; clear hKq Kq; refine hKq _ _ _ (V.Sub.refl _) ?_; clear hKq Kq; conv => whnf) | (clear hKq Kq; clear hKq Kq; clear hKq Kq; clear hKq Kq; refine hKq _ _ _ (V.Sub.refl _) ?_; clear hKq Kq; conv => whnf) | (clear hKq Kq; clear hKq Kq; clear hKq Kq; clear hKq Kq; clear hKq Kq; refine hKq _ _ _ (V.Sub.refl _) ?_; clear hKq Kq; conv => whnf) | (refine And.intro (by omega) ?_; conv => whnf))
  refine ⟨_, _, Blk.ld (hp.get (i := 1) rfl) TTok rfl (hC_tail _ _ _ hh.1), ?_⟩
  conv => whnf
  repeat (first | (refine VSeq.mk fun Kq hKq => ?_; conv => whnf) | (refine hKq _ _ _ (V.Sub.refl _) ?_; clear hKq Kq; conv => whnf) | (clear hKq Kq; refine hKq _ _ _ (V.Sub.refl _) ?_; clear hKq Kq; conv => whnf) | (clear hKq Kq; clear hKq Kq; refine hKq _ _ _ (V.Sub.refl _) ?_; clear hKq Kq; conv => whnf) | (clear hKq Kq; clear hKq Kq; clear hKq Kq; refine hKq _ _ _ (V.Sub.refl _) ?_; clear hKq Kq; conv => whnf) | (clear hKq Kq; clear hKq Kq; clear hKq Kq; clear hKq Kq; refine hKq _ _ _ (V.Sub.refl _) ?_; clear hKq Kq; conv => whnf) | (clear hKq Kq; clear hKq Kq; clear hKq Kq; clear hKq Kq; clear hKq Kq; refine hKq _ _ _ (V.Sub.refl _) ?_; clear hKq Kq; conv => whnf) | (refine And.intro (by omega) ?_; conv => whnf))
  have hl : (tail ++ s).data.toList = tail.data.toList ++ s.data.toList := by rw [ByteArray.toList_data_append]
  have hsz : (tail ++ s).size = tail.size + s.size := ByteArray.size_append
  rw [← hl] at h8
  obtain ⟨all, hall⟩ : ∃ all, tail ++ s = all := ⟨_, rfl⟩
  rw [hall] at hsz h8 hl ⊢
  refine ⟨_, _, Blk.ldN (hp.get (i := 0) rfl) TTok rfl (by rfl), ?_⟩
  conv => whnf
  repeat (first | (refine VSeq.mk fun Kq hKq => ?_; conv => whnf) | (refine hKq _ _ _ (V.Sub.refl _) ?_; clear hKq Kq; conv => whnf) | (clear hKq Kq; refine hKq _ _ _ (V.Sub.refl _) ?_; clear hKq Kq; conv => whnf) | (clear hKq Kq; clear hKq Kq; refine hKq _ _ _ (V.Sub.refl _) ?_; clear hKq Kq; conv => whnf) | (clear hKq Kq; clear hKq Kq; clear hKq Kq; refine hKq _ _ _ (V.Sub.refl _) ?_; clear hKq Kq; conv => whnf) | (clear hKq Kq; clear hKq Kq; clear hKq Kq; clear hKq Kq; refine hKq _ _ _ (V.Sub.refl _) ?_; clear hKq Kq; conv => whnf) | (clear hKq Kq; clear hKq Kq; clear hKq Kq; clear hKq Kq; clear hKq Kq; refine hKq _ _ _ (V.Sub.refl _) ?_; clear hKq Kq; conv => whnf) | (refine And.intro (by omega) ?_; conv => whnf))
  have hm := mix_c all h tail c hh (by omega) (hp.get (i := 1) rfl)
  unfold hV at hm
  refine Calls.mono (hm) ?_
  rintro e w ⟨v, rfl, rfl, hg, hb⟩
  refine ⟨_, rfl, ?_⟩
  have hp := hp.wrote (i := 1) rfl hg hb
  try simp only [List.set_cons_zero, List.set_cons_succ, EV.val] at hp
  conv => whnf
  repeat (first | (refine VSeq.mk fun Kq hKq => ?_; conv => whnf) | (refine hKq _ _ _ (V.Sub.refl _) ?_; clear hKq Kq; conv => whnf) | (clear hKq Kq; refine hKq _ _ _ (V.Sub.refl _) ?_; clear hKq Kq; conv => whnf) | (clear hKq Kq; clear hKq Kq; refine hKq _ _ _ (V.Sub.refl _) ?_; clear hKq Kq; conv => whnf) | (clear hKq Kq; clear hKq Kq; clear hKq Kq; refine hKq _ _ _ (V.Sub.refl _) ?_; clear hKq Kq; conv => whnf) | (clear hKq Kq; clear hKq Kq; clear hKq Kq; clear hKq Kq; refine hKq _ _ _ (V.Sub.refl _) ?_; clear hKq Kq; conv => whnf) | (clear hKq Kq; clear hKq Kq; clear hKq Kq; clear hKq Kq; clear hKq Kq; refine hKq _ _ _ (V.Sub.refl _) ?_; clear hKq Kq; conv => whnf) | (refine And.intro (by omega) ?_; conv => whnf))
  refine ⟨all.size / 64 * 64, ⟨by first | rfl | omega, by omega⟩, ?_⟩
  conv => whnf
  repeat (first | (refine VSeq.mk fun Kq hKq => ?_; conv => whnf) | (refine hKq _ _ _ (V.Sub.refl _) ?_; clear hKq Kq; conv => whnf) | (clear hKq Kq; refine hKq _ _ _ (V.Sub.refl _) ?_; clear hKq Kq; conv => whnf) | (clear hKq Kq; clear hKq Kq; refine hKq _ _ _ (V.Sub.refl _) ?_; clear hKq Kq; conv => whnf) | (clear hKq Kq; clear hKq Kq; clear hKq Kq; refine hKq _ _ _ (V.Sub.refl _) ?_; clear hKq Kq; conv => whnf) | (clear hKq Kq; clear hKq Kq; clear hKq Kq; clear hKq Kq; refine hKq _ _ _ (V.Sub.refl _) ?_; clear hKq Kq; conv => whnf) | (clear hKq Kq; clear hKq Kq; clear hKq Kq; clear hKq Kq; clear hKq Kq; refine hKq _ _ _ (V.Sub.refl _) ?_; clear hKq Kq; conv => whnf) | (refine And.intro (by omega) ?_; conv => whnf))
  rw [restB_ext]
  refine PureF.use (Clone_p (restB all) (by rw [restB_size]; omega)) fun w hx => ?_
  try (have hp := hp.call hx)
  conv => whnf
  repeat (first | (refine VSeq.mk fun Kq hKq => ?_; conv => whnf) | (refine hKq _ _ _ (V.Sub.refl _) ?_; clear hKq Kq; conv => whnf) | (clear hKq Kq; refine hKq _ _ _ (V.Sub.refl _) ?_; clear hKq Kq; conv => whnf) | (clear hKq Kq; clear hKq Kq; refine hKq _ _ _ (V.Sub.refl _) ?_; clear hKq Kq; conv => whnf) | (clear hKq Kq; clear hKq Kq; clear hKq Kq; refine hKq _ _ _ (V.Sub.refl _) ?_; clear hKq Kq; conv => whnf) | (clear hKq Kq; clear hKq Kq; clear hKq Kq; clear hKq Kq; refine hKq _ _ _ (V.Sub.refl _) ?_; clear hKq Kq; conv => whnf) | (clear hKq Kq; clear hKq Kq; clear hKq Kq; clear hKq Kq; clear hKq Kq; refine hKq _ _ _ (V.Sub.refl _) ?_; clear hKq Kq; conv => whnf) | (refine And.intro (by omega) ?_; conv => whnf))
  refine hp.kst1 (off := 8) TTok (by rfl) 1 (by rfl) (by rfl) (by rfl) (by rw [hC_len, h8]; decide) fun w hp => ?_
  try simp only [List.set_cons_zero, List.set_cons_succ, EV.val] at hp
  conv => whnf
  repeat (first | (refine VSeq.mk fun Kq hKq => ?_; conv => whnf) | (refine hKq _ _ _ (V.Sub.refl _) ?_; clear hKq Kq; conv => whnf) | (clear hKq Kq; refine hKq _ _ _ (V.Sub.refl _) ?_; clear hKq Kq; conv => whnf) | (clear hKq Kq; clear hKq Kq; refine hKq _ _ _ (V.Sub.refl _) ?_; clear hKq Kq; conv => whnf) | (clear hKq Kq; clear hKq Kq; clear hKq Kq; refine hKq _ _ _ (V.Sub.refl _) ?_; clear hKq Kq; conv => whnf) | (clear hKq Kq; clear hKq Kq; clear hKq Kq; clear hKq Kq; refine hKq _ _ _ (V.Sub.refl _) ?_; clear hKq Kq; conv => whnf) | (clear hKq Kq; clear hKq Kq; clear hKq Kq; clear hKq Kq; clear hKq Kq; refine hKq _ _ _ (V.Sub.refl _) ?_; clear hKq Kq; conv => whnf) | (refine And.intro (by omega) ?_; conv => whnf))
  rw [hC_setT _ _ _ _ h8] at hp
  refine ⟨_, _, Blk.ld (hp.get (i := 1) rfl) TTok rfl (hC_cnt _ _ _ h8), ?_⟩
  conv => whnf
  repeat (first | (refine VSeq.mk fun Kq hKq => ?_; conv => whnf) | (refine hKq _ _ _ (V.Sub.refl _) ?_; clear hKq Kq; conv => whnf) | (clear hKq Kq; refine hKq _ _ _ (V.Sub.refl _) ?_; clear hKq Kq; conv => whnf) | (clear hKq Kq; clear hKq Kq; refine hKq _ _ _ (V.Sub.refl _) ?_; clear hKq Kq; conv => whnf) | (clear hKq Kq; clear hKq Kq; clear hKq Kq; refine hKq _ _ _ (V.Sub.refl _) ?_; clear hKq Kq; conv => whnf) | (clear hKq Kq; clear hKq Kq; clear hKq Kq; clear hKq Kq; refine hKq _ _ _ (V.Sub.refl _) ?_; clear hKq Kq; conv => whnf) | (clear hKq Kq; clear hKq Kq; clear hKq Kq; clear hKq Kq; clear hKq Kq; refine hKq _ _ _ (V.Sub.refl _) ?_; clear hKq Kq; conv => whnf) | (refine And.intro (by omega) ?_; conv => whnf))
  refine hp.kst1 (off := 9) TTok (by rfl) 1 (by rfl) (by rfl) (by rfl) (by rw [hC_len, h8]; decide) fun w hp => ?_
  try simp only [List.set_cons_zero, List.set_cons_succ, EV.val] at hp
  conv => whnf
  repeat (first | (refine VSeq.mk fun Kq hKq => ?_; conv => whnf) | (refine hKq _ _ _ (V.Sub.refl _) ?_; clear hKq Kq; conv => whnf) | (clear hKq Kq; refine hKq _ _ _ (V.Sub.refl _) ?_; clear hKq Kq; conv => whnf) | (clear hKq Kq; clear hKq Kq; refine hKq _ _ _ (V.Sub.refl _) ?_; clear hKq Kq; conv => whnf) | (clear hKq Kq; clear hKq Kq; clear hKq Kq; refine hKq _ _ _ (V.Sub.refl _) ?_; clear hKq Kq; conv => whnf) | (clear hKq Kq; clear hKq Kq; clear hKq Kq; clear hKq Kq; refine hKq _ _ _ (V.Sub.refl _) ?_; clear hKq Kq; conv => whnf) | (clear hKq Kq; clear hKq Kq; clear hKq Kq; clear hKq Kq; clear hKq Kq; refine hKq _ _ _ (V.Sub.refl _) ?_; clear hKq Kq; conv => whnf) | (refine And.intro (by omega) ?_; conv => whnf))
  rw [hC_setC _ _ _ _ h8, show (c : Int) + (s.size : Int) = ((c + s.size : Nat) : Int) by omega] at hp
  refine ⟨rfl, hp.extM.grownBy, ?_⟩
  rw [hall, ← hl]
  exact hp.get (i := 1) rfl
end Go.Proofs.Ytebmmfeegjgbeaa
