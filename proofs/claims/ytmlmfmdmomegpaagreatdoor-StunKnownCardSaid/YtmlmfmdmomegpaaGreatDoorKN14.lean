/- Chapter 08: the attributes of octets, yielded. -/
/- Chapter 08: attributes, collected. -/
/- Marks of ranges that were left by a jump. Own work. No program is named here. -/
/- Chapter 08: the closures of Decode. -/
/- Chapter 08: Decode. -/
/- Chapter 08: what is read from octets is what was written. -/
/- Chapter 08: plain laws of the reference: the type of a message bit by bit, values of errors. -/
/- Chapter 08: the reference of octets. -/
/- Hexadecimal text: octets.Hex (for any seat; from C03L). -/
/- Chapter 08: the reference: type, mixed values, values of errors. -/
/- Chapter 08: the reference: sizes, validity, octets, places. -/
import Derived.Test.YtmlmfmdmomegpaaGreatDoorKN13
import Derived.Test.YtmlmfmdmomegpaaGreatDoorKN11
import Derived.Test.YtmlmfmdmomegpaaGreatDoorKN05
import Derived.Test.YtmlmfmdmomegpaaGreatDoorKN12
import Derived.Test.YtmlmfmdmomegpaaGreatDoorKN06
import Derived.Test.YtmlmfmdmomegpaaGreatDoorKN04
namespace Go.Proofs.YtmlmfmdmomegpaaGreatDoor
set_option linter.unusedSimpArgs false
set_option linter.unusedVariables false
set_option maxRecDepth 100000
open Go.RowKit V
set_option maxHeartbeats 16000000
def TRi : V.Tab := TT.map fun x => match Nat.beq x.1 3 with | true => (x.1, ⟨.other, 1⟩) | false => x
theorem TRiok : V.tabOk Tryz.prog TRi = true := by kernel_rfl
def atV (a : At2) : Value := .agg #[.int .i64 a.1, .string a.2]
theorem attrs_iter (S : ByteArray) (hS : S.size ≤ 10000) (bs : Nat) (N : Nat) :
    Iter2P Tryz.prog 120 [.pointer (some ⟨bs, 0, none⟩)] [bs] (fun W => Blk W bs [.string S] 9)
      (fun k => [atV ((parse S.data.toList).1.getD k (0, ⟨#[]⟩))]) (fun k => k = (parse S.data.toList).1.length ∧ (parse S.data.toList).2 = true) (fun k c => k = (parse S.data.toList).1.length ∧ (parse S.data.toList).2 = false ∧ c = mal) N := by
  intro l J Jx W hcap hN hJ hJx hY h0
  have hl := toList_len S
  obtain ⟨L, hL⟩ : ∃ L, S.data.toList = L := ⟨_, rfl⟩
  obtain ⟨A, ok, hA⟩ : ∃ A ok, parse L = (A, ok) := ⟨_, _, rfl⟩
  rw [hL, hA] at hY ⊢
  dsimp only at hY ⊢
  refine v_fnD (args := [.func (.yield l) #[] #[], .pointer (some ⟨bs, 0, none⟩)]) TRiok FFok Tryz.func120 rfl (Nat.le_of_ble_eq_true rfl) ?_
  have hlt : bs < W.heap.size := hcap.lt
  have hp := HpM.nil0 [] W
  conv => whnf
  refine VSeq.mk fun Kq hKq => ?_
  conv => whnf
  refine ⟨_, _, hcap.ld TTok rfl rfl, ?_⟩
  conv => whnf
  refine ⟨.agg #[.string S, .int .i64 0], W, by kernel_rfl, ?_⟩
  conv => whnf
  refine hp.kalloc z126 fun q w hp hx => ?_
  conv => whnf
  refine hp.kstA TTok rfl 0 rfl (rfl) (oneC_of rfl) (rfl) fun w hp => ?_
  try simp only [List.set_cons_zero, List.set_cons_succ, EV.val] at hp
  conv => whnf
  refine hKq _ _ _ (.refl _) ?_
  clear hKq Kq
  conv => whnf
  have hlo := hp.lo _ List.mem_cons_self q rfl
  have hqW : W.heap.size ≤ q := by
    rcases hlo.1 with h | h
    · simp at h
    · exact h
  have hnd : ∀ {q : Nat}, q ≠ bs → [q, bs].Pairwise (fun x y => x ≠ y) := fun h => by simp [h]
  have hj0 := hJ 0 [bs] W w [q, bs] h0 (hp.extM.mono (by simp)) (by
    intro b hb
    rcases List.mem_cons.1 hb with rfl | hb
    · exact .inr ⟨hqW, hlo.2⟩
    · exact .inl hb) (hnd (by omega)) hp.extM.size
  have hq0 : Blk w q [.string S, .int .i64 ((0 : Nat) : Int)] 126 := hp.get (i := 0) rfl
  have hb0 := hcap.ext hp.ext
  have hne : q ≠ bs := by omega
  clear hx hlo h0 hp
  repeat clear hp
  refine ⟨fun m l' w => ∃ (k at_ q : Nat), m + at_ = S.size ∧ parse (L.drop at_) = (A.drop k, ok) ∧ k ≤ A.length ∧ q ≠ bs ∧ l' = [(0, .v (.func (.yield l) #[] #[])), (1, .v (.pointer (some ⟨bs, 0, none⟩))), (3, .v (.pointer (some ⟨q, 0, none⟩)))] ∧ J k [q, bs] w ∧ Blk w q [.string S, .int .i64 at_] 126 ∧ Blk w bs [.string S] 9,
    ⟨S.size, _, ⟨0, 0, q, by omega, hA, Nat.zero_le _, hne, rfl, hj0, hq0, hb0⟩, sub_cons rfl (sub_cons rfl (sub_cons rfl sub_nil))⟩, ?_⟩
  clear hj0 hq0 hb0 hne hqW
  clear q hcap hlt
  rintro mm _ w ⟨k, at_, q, hmm, hpar, hk, hqb, rfl, hj, hq, hbs⟩
  have hp := ((HpM.nil0 [q, bs] w).take hbs (by simp) (by simp)).take hq (by simp) (by simp [blk, Ne.symm hqb])
  conv => whnf
  refine VSeq.mk fun Kq hKq => ?_
  conv => whnf
  refine VSeq.mk fun Kq hKq => ?_
  conv => whnf
  (refine ⟨_, _, Blk.ld (hp.get (i := 0) rfl) TTok rfl rfl, ?_⟩; conv => whnf)
  (refine ⟨_, _, Blk.ld (hp.get (i := 1) rfl) TTok rfl rfl, ?_⟩; conv => whnf)
  refine ⟨_, _, lss_raw _ _ _ _ _, ?_⟩
  conv => whnf
  refine hKq _ _ _ (.refl _) ?_
  clear hKq Kq
  conv => whnf
  skip
  refine ⟨fun hlt => ?_, fun hlt => ?_⟩
  · have hlt := of_decide_eq_true hlt
    conv => whnf
    refine hKq _ _ _ (.refl _) ?_
    clear hKq Kq
    conv => whnf
    refine VSeq.mk fun Kq hKq => ?_
    conv => whnf
    refine VSeq.mk fun Kq hKq => ?_
    conv => whnf
    have hdl : (L.drop at_) ≠ [] := fun e => by
      have := congrArg List.length e
      rw [List.length_drop, ← hL, hl, List.length_nil] at this
      omega
    have fin : pstep (L.drop at_) = none → ∀ (w' : World), ExtM [q, bs] w w' → ∃ c k Z, Ending.panicked mal = Ending.panicked c ∧ (k = A.length ∧ ok = false ∧ c = mal) ∧ J k Z w' := fun hn w' hx => by
      have h1 := parse_none hdl hn
      rw [hpar] at h1
      simp only [Prod.mk.injEq] at h1
      have h2 := congrArg List.length h1.1
      rw [List.length_drop, List.length_nil] at h2
      exact ⟨mal, k, [q, bs], rfl, ⟨by omega, h1.2, rfl⟩, hJ k _ w w' [q, bs] hj hx (fun b hb => .inl hb) (hnd hqb) hx.size⟩
    have ps := @pstep_short S at_
    have pa := @pstep_at S at_
    rw [hL] at ps pa
    by_cases c1 : at_ + 2 ≤ S.size
    rotate_left
    · skip
      (refine ⟨_, _, Blk.ldV (vs := [_, _]) (hp.get (i := 0) rfl) TTok rfl rfl rfl, ?_⟩; conv => whnf)
      ((first | refine V.CallW.out ?_ | refine V.CallW.outP ?_); (conv => arg 3; dsimp only [EV.val, List.toList_toArray, List.nil_append, List.append_nil, List.cons_append]); refine V.PureF.useW (Uint_short S at_ 2 (by omega) (by omega) (by decide) (by decide) (by omega)) fun w hx => ?_; try (have hp := hp.call hx); conv => whnf)
      (refine hp.kalloc z126 fun al126 w hp hx => ?_; conv => whnf)
      (refine hp.kstA TTok rfl 0 rfl rfl (oneC_of rfl) (by rfl) fun w hp => ?_; try simp only [List.set_cons_zero, List.set_cons_succ, EV.val] at hp; conv => whnf)
      (refine hKq _ _ _ (.refl _) ?_; clear hKq Kq; conv => whnf)
      (refine VSeq.mk fun Kq hKq => ?_; conv => whnf)
      refine V.CallP.out ?_
      conv => arg 3; dsimp only [EV.val, List.toList_toArray, List.nil_append, List.append_nil, List.cons_append]
      refine V.CallP.use (must_fb (by decide)) ?_
      rintro _ w ⟨rfl, hx⟩
      refine Or.inr ⟨_, rfl, ?_⟩
      try (have hp := hp.call hx)
      conv => whnf
      exact .inr (fin (ps (by omega)) _ hp.extM)
    (refine ⟨_, _, Blk.ldV (vs := [_, _]) (hp.get (i := 0) rfl) TTok rfl rfl rfl, ?_⟩; conv => whnf)
    ((first | refine V.CallW.out ?_ | refine V.CallW.outP ?_); (conv => arg 3; dsimp only [EV.val, List.toList_toArray, List.nil_append, List.append_nil, List.cons_append]); refine V.PureF.useW (Uint_ok S at_ 2 (by decide) (by decide) (by omega) (by omega)) fun w hx => ?_; try (have hp := hp.call hx); conv => whnf)
    (refine hp.kalloc z126 fun al126 w hp hx => ?_; conv => whnf)
    (refine hp.kstA TTok rfl 0 rfl rfl (oneC_of rfl) (by rfl) fun w hp => ?_; try simp only [List.set_cons_zero, List.set_cons_succ, EV.val] at hp; conv => whnf)
    (refine hKq _ _ _ (.refl _) ?_; clear hKq Kq; conv => whnf)
    (refine VSeq.mk fun Kq hKq => ?_; conv => whnf)
    ((first | refine V.CallW.out ?_ | refine V.CallW.outP ?_); (conv => arg 3; dsimp only [EV.val, List.toList_toArray, List.nil_append, List.append_nil, List.cons_append]); (with_reducible refine V.PureF.useW (must_tb (by decide)) fun w hx => ?_); try (have hp := hp.call hx); conv => whnf)
    (refine hKq _ _ _ (.refl _) ?_; clear hKq Kq; conv => whnf)
    (refine VSeq.mk fun Kq hKq => ?_; conv => whnf)
    (refine ⟨_, _, Blk.ldV (vs := [_, _]) (hp.get (i := 0) rfl) TTok rfl rfl rfl, ?_⟩; conv => whnf)
    by_cases c2 : at_ + 2 + 2 ≤ S.size
    rotate_left
    · skip
      ((first | refine V.CallW.out ?_ | refine V.CallW.outP ?_); (conv => arg 3; dsimp only [EV.val, List.toList_toArray, List.nil_append, List.append_nil, List.cons_append]); refine V.PureF.useW (Uint_short S (at_ + 2) 2 (by omega) (by omega) (by decide) (by decide) (by omega)) fun w hx => ?_; try (have hp := hp.call hx); conv => whnf)
      (refine hp.kstA TTok rfl 0 rfl rfl (oneC_of rfl) (by rfl) fun w hp => ?_; try simp only [List.set_cons_zero, List.set_cons_succ, EV.val] at hp; conv => whnf)
      (refine hKq _ _ _ (.refl _) ?_; clear hKq Kq; conv => whnf)
      (refine VSeq.mk fun Kq hKq => ?_; conv => whnf)
      refine V.CallP.out ?_
      conv => arg 3; dsimp only [EV.val, List.toList_toArray, List.nil_append, List.append_nil, List.cons_append]
      refine V.CallP.use (must_fb (by decide)) ?_
      rintro _ w ⟨rfl, hx⟩
      refine Or.inr ⟨_, rfl, ?_⟩
      try (have hp := hp.call hx)
      conv => whnf
      exact .inr (fin (ps (by omega)) _ hp.extM)
    ((first | refine V.CallW.out ?_ | refine V.CallW.outP ?_); (conv => arg 3; dsimp only [EV.val, List.toList_toArray, List.nil_append, List.append_nil, List.cons_append]); refine V.PureF.useW (Uint_ok S (at_ + 2) 2 (by decide) (by decide) (by omega) (by omega)) fun w hx => ?_; try (have hp := hp.call hx); conv => whnf)
    (refine hp.kstA TTok rfl 0 rfl rfl (oneC_of rfl) (by rfl) fun w hp => ?_; try simp only [List.set_cons_zero, List.set_cons_succ, EV.val] at hp; conv => whnf)
    (refine hKq _ _ _ (.refl _) ?_; clear hKq Kq; conv => whnf)
    (refine VSeq.mk fun Kq hKq => ?_; conv => whnf)
    ((first | refine V.CallW.out ?_ | refine V.CallW.outP ?_); (conv => arg 3; dsimp only [EV.val, List.toList_toArray, List.nil_append, List.append_nil, List.cons_append]); (with_reducible refine V.PureF.useW (must_tb (by decide)) fun w hx => ?_); try (have hp := hp.call hx); conv => whnf)
    (refine hKq _ _ _ (.refl _) ?_; clear hKq Kq; conv => whnf)
    (refine VSeq.mk fun Kq hKq => ?_; conv => whnf)
    (refine ⟨_, _, Blk.ldV (vs := [_, _]) (hp.get (i := 0) rfl) TTok rfl rfl rfl, ?_⟩; conv => whnf)
    have pa := pa (by omega) rfl rfl
    have hdb := numL_lt 2 (S.extract at_ (at_ + 2)).data.toList (by rw [toList_len, ByteArray.size_extract]; omega)
    have hnb := numL_lt 2 (S.extract (at_ + 2) (at_ + 2 + 2)).data.toList (by rw [toList_len, ByteArray.size_extract]; omega)
    change numB (S.extract at_ (at_ + 2)) < 65536 at hdb
    change numB (S.extract (at_ + 2) (at_ + 2 + 2)) < 65536 at hnb
    obtain ⟨d, hd⟩ : ∃ d, numB (S.extract at_ (at_ + 2)) = d := ⟨_, rfl⟩
    obtain ⟨n, hn⟩ : ∃ n, numB (S.extract (at_ + 2) (at_ + 2 + 2)) = n := ⟨_, rfl⟩
    rw [hd, hn] at pa
    rw [hd] at hdb
    rw [hn] at hnb
    rw [hd, hn]
    by_cases c3 : at_ + 2 + 2 + n ≤ S.size
    rotate_left
    · skip
      ((first | refine V.CallW.out ?_ | refine V.CallW.outP ?_); (conv => arg 3; dsimp only [EV.val, List.toList_toArray, List.nil_append, List.append_nil, List.cons_append]); (with_reducible refine V.PureF.useW (Take_short S (at_ + 2 + 2) n (by omega) (by omega) (by omega)) fun w hx => ?_); try (have hp := hp.call hx); conv => whnf)
      (refine hp.kstA TTok rfl 0 rfl rfl (oneC_of rfl) (by rfl) fun w hp => ?_; try simp only [List.set_cons_zero, List.set_cons_succ, EV.val] at hp; conv => whnf)
      (refine hKq _ _ _ (.refl _) ?_; clear hKq Kq; conv => whnf)
      (refine VSeq.mk fun Kq hKq => ?_; conv => whnf)
      refine V.CallP.out ?_
      conv => arg 3; dsimp only [EV.val, List.toList_toArray, List.nil_append, List.append_nil, List.cons_append]
      refine V.CallP.use (must_fb (by decide)) ?_
      rintro _ w ⟨rfl, hx⟩
      refine Or.inr ⟨_, rfl, ?_⟩
      try (have hp := hp.call hx)
      conv => whnf
      exact .inr (fin (pa.trans (if_neg (by omega))) _ hp.extM)
    ((first | refine V.CallW.out ?_ | refine V.CallW.outP ?_); (conv => arg 3; dsimp only [EV.val, List.toList_toArray, List.nil_append, List.append_nil, List.cons_append]); (with_reducible refine V.PureF.useW (Take_ok S (at_ + 2 + 2) n (by omega) (by omega)) fun w hx => ?_); try (have hp := hp.call hx); conv => whnf)
    (refine hp.kstA TTok rfl 0 rfl rfl (oneC_of rfl) (by rfl) fun w hp => ?_; try simp only [List.set_cons_zero, List.set_cons_succ, EV.val] at hp; conv => whnf)
    (refine hKq _ _ _ (.refl _) ?_; clear hKq Kq; conv => whnf)
    (refine VSeq.mk fun Kq hKq => ?_; conv => whnf)
    ((first | refine V.CallW.out ?_ | refine V.CallW.outP ?_); (conv => arg 3; dsimp only [EV.val, List.toList_toArray, List.nil_append, List.append_nil, List.cons_append]); (with_reducible refine V.PureF.useW (must_tb (by decide)) fun w hx => ?_); try (have hp := hp.call hx); conv => whnf)
    (refine hKq _ _ _ (.refl _) ?_; clear hKq Kq; conv => whnf)
    (refine VSeq.mk fun Kq hKq => ?_; conv => whnf)
    (refine ⟨_, _, Blk.ldV (vs := [_, _]) (hp.get (i := 0) rfl) TTok rfl rfl rfl, ?_⟩; conv => whnf)
    (refine Or.inl (And.intro (by first | omega | decide) ?_); conv => whnf)
    refine ⟨_, _, and3_raw _ _ _ (by omega) _, ?_⟩
    conv => whnf
    by_cases c4 : at_ + 2 + 2 + n + padN n ≤ S.size
    rotate_left
    · skip
      ((first | refine V.CallW.out ?_ | refine V.CallW.outP ?_); (conv => arg 3; dsimp only [EV.val, List.toList_toArray, List.nil_append, List.append_nil, List.cons_append]); (with_reducible refine V.PureF.useW (Take_short S (at_ + 2 + 2 + n) (padN n) (by omega) (by omega) (by omega)) fun w hx => ?_); try (have hp := hp.call hx); conv => whnf)
      (refine hp.kstA TTok rfl 0 rfl rfl (oneC_of rfl) (by rfl) fun w hp => ?_; try simp only [List.set_cons_zero, List.set_cons_succ, EV.val] at hp; conv => whnf)
      (refine hKq _ _ _ (.refl _) ?_; clear hKq Kq; conv => whnf)
      (refine VSeq.mk fun Kq hKq => ?_; conv => whnf)
      (refine VSeq.mk fun Kq hKq => ?_; conv => whnf)
      (refine hKq _ _ _ (.refl _) ?_; clear hKq Kq; conv => whnf)
      (refine And.intro (fun h => absurd (of_decide_eq_true h) (by first | (intro h2; exact absurd rfl h2) | omega | decide)) (fun _ => ?_); conv => whnf)
      refine V.CallP.out ?_
      conv => arg 3; dsimp only [EV.val, List.toList_toArray, List.nil_append, List.append_nil, List.cons_append]
      refine V.CallP.use (must_fb (by decide)) ?_
      rintro _ w ⟨rfl, hx⟩
      refine Or.inr ⟨_, rfl, ?_⟩
      try (have hp := hp.call hx)
      conv => whnf
      exact .inr (fin (pa.trans (if_neg (by omega))) _ hp.extM)
    ((first | refine V.CallW.out ?_ | refine V.CallW.outP ?_); (conv => arg 3; dsimp only [EV.val, List.toList_toArray, List.nil_append, List.append_nil, List.cons_append]); (with_reducible refine V.PureF.useW (Take_ok S (at_ + 2 + 2 + n) (padN n) (by omega) (by omega)) fun w hx => ?_); try (have hp := hp.call hx); conv => whnf)
    (refine hp.kstA TTok rfl 0 rfl rfl (oneC_of rfl) (by rfl) fun w hp => ?_; try simp only [List.set_cons_zero, List.set_cons_succ, EV.val] at hp; conv => whnf)
    (refine hKq _ _ _ (.refl _) ?_; clear hKq Kq; conv => whnf)
    (refine VSeq.mk fun Kq hKq => ?_; conv => whnf)
    (refine VSeq.mk fun Kq hKq => ?_; conv => whnf)
    (refine hKq _ _ _ (.refl _) ?_; clear hKq Kq; conv => whnf)
    (refine And.intro (fun _ => ?_) (fun h => absurd (by first | rfl | assumption | omega | decide) (of_decide_eq_false h)); conv => whnf)
    ((first | refine V.CallW.out ?_ | refine V.CallW.outP ?_); (conv => arg 3; dsimp only [EV.val, List.toList_toArray, List.nil_append, List.append_nil, List.cons_append]); (with_reducible refine V.PureF.useW (Trim_p _ (by rw [ByteArray.size_extract] <;> omega)) fun w hx => ?_); try (have hp := hp.call hx); conv => whnf)
    by_cases c5 : trimB (S.extract (at_ + 2 + 2 + n) (at_ + 2 + 2 + n + padN n)) = ⟨#[]⟩
    rotate_left
    · skip
      refine V.CallP.out ?_
      conv => arg 3; dsimp only [EV.val, List.toList_toArray, List.nil_append, List.append_nil, List.cons_append]
      refine V.CallP.use (must_fb (decide_eq_false c5)) ?_
      rintro _ w ⟨rfl, hx⟩
      refine Or.inr ⟨_, rfl, ?_⟩
      try (have hp := hp.call hx)
      conv => whnf
      exact .inr (fin (pa.trans (if_neg (fun h => c5 h.2))) _ hp.extM)
    refine V.CallP.out ?_
    conv => arg 3; dsimp only [EV.val, List.toList_toArray, List.nil_append, List.append_nil, List.cons_append]
    refine V.CallP.use (must_tb (decide_eq_true c5) _) ?_
    rintro _ w ⟨rfl, hx⟩
    refine Or.inl ⟨_, rfl, ?_⟩
    try (have hp := hp.call hx)
    conv => whnf
    refine hKq _ _ _ (.refl _) ?_
    clear hKq Kq
    conv => whnf
    refine VSeq.mk fun Kq hKq => ?_
    conv => whnf
    refine VSeq.mk fun Kq hKq => ?_
    conv => whnf
    (refine ⟨_, _, bld54_0_1 _ _ _, ?_⟩; conv => whnf)
    have hps := pa.trans (if_pos ⟨by omega, c5⟩)
    have hpc := parse_some hps
    rw [hpar] at hpc
    simp only [Prod.mk.injEq] at hpc
    have hlen := congrArg List.length hpc.1
    rw [List.length_drop, List.length_cons] at hlen
    have hkl : k < A.length := by omega
    rw [List.drop_eq_getElem_cons hkl, List.cons.injEq] at hpc
    have hget : A.getD k (0, ⟨#[]⟩) = (((d : Nat) : Int), S.extract (at_ + 4) (at_ + 4 + n)) := by
      rw [List.getD_eq_getElem?_getD, List.getElem?_eq_getElem hkl, ← hpc.1.1]; rfl
    have hap := hp.apart
    have hap1 := fun h => (List.pairwise_cons.1 hap).1 (blk q [.string S, .int .i64 at_] 126) (by simp) al126 rfl h
    have hap2 := fun h => (List.pairwise_cons.1 hap).1 (blk bs [.string S] 9) (by simp) al126 rfl h
    have e1 : al126 ≠ q := fun e => hap1 (congrArg some e.symm)
    have e2 : al126 ≠ bs := fun e => hap2 (congrArg some e.symm)
    have hlo := hp.lo _ List.mem_cons_self al126 rfl
    have hj1 := hJ k [q, bs] _ w [al126, q, bs] hj hp.extM (fun b hb => by
      rcases List.mem_cons.1 hb with rfl | hb
      · rcases hlo.1 with h | h
        · exact .inl h
        · exact .inr ⟨h, hlo.2⟩
      · exact .inl hb) (by simp [e1, e2, hqb]) hp.extM.size
    have hy := hY k _ _ hj1 (fun h => by omega) (fun c h => by omega)
    rw [hget] at hy
    refine y_mono hy ?_
    rintro e w' (⟨rfl, hj2, hkp⟩ | ⟨rfl, hx2⟩)
    · refine ⟨_, rfl, ?_⟩
      have B0 : Blk w' al126 [.string S, .int .i64 (at_ + 2 + 2 + n + padN n : Nat)] 126 := Blk.same (hp.get (i := 0) rfl) (hkp al126 (by simp))
      have B1 : Blk w' q [.string S, .int .i64 at_] 126 := Blk.same (hp.get (i := 1) rfl) (hkp q (by simp))
      have B2 : Blk w' bs [.string S] 9 := Blk.same (hp.get (i := 2) rfl) (hkp bs (by simp))
      clear hp hx
      repeat clear hp
      have hp := (((HpM.nil0 [al126, q, bs] w').take B2 (by simp) (by simp)).take B1 (by simp) (by simp [blk, Ne.symm hqb])).take B0 (by simp) (by simp [blk, Ne.symm e1, Ne.symm e2])
      conv => whnf
      refine hKq _ _ _ (.refl _) ?_
      clear hKq Kq
      conv => whnf
      (refine And.intro (fun h => absurd h (by decide)) (fun _ => ?_); conv => whnf)
      (refine hKq _ _ _ (.refl _) ?_; clear hKq Kq; conv => whnf)
      (refine ⟨_, _, Blk.ldV (vs := [_, _]) (hp.get (i := 0) rfl) TTok rfl rfl rfl, ?_⟩; conv => whnf)
      (refine hp.kstA TTok rfl 1 rfl rfl (oneC_of rfl) (by rfl) fun w hp => ?_; try simp only [List.set_cons_zero, List.set_cons_succ, EV.val] at hp; conv => whnf)
      (refine hKq _ _ _ (.refl _) ?_; clear hKq Kq; conv => whnf)
      (refine VSeq.mk fun Kq hKq => ?_; conv => whnf)
      (refine ⟨_, _, Blk.ldV (vs := [_, _]) (hp.get (i := 1) rfl) TTok rfl rfl rfl, ?_⟩; conv => whnf)
      (refine hKq _ _ _ (.refl _) ?_; clear hKq Kq; conv => whnf)
      (refine hp.kalloc z126 fun al126 w hp hx => ?_; conv => whnf)
      (refine hp.kstA TTok rfl 0 rfl rfl (oneC_of rfl) (by rfl) fun w hp => ?_; try simp only [List.set_cons_zero, List.set_cons_succ, EV.val] at hp; conv => whnf)
      have hap := hp.apart
      have hap2 := fun h => (List.pairwise_cons.1 hap).1 (blk bs [.string S] 9) (by simp) al126 rfl h
      have e3 : al126 ≠ bs := fun e => hap2 (congrArg some e.symm)
      have hlo := hp.lo _ List.mem_cons_self al126 rfl
      refine ⟨mm - (4 + n + padN n), _, by omega, ⟨k + 1, at_ + 2 + 2 + n + padN n, al126, by omega, Prod.ext hpc.1.2.symm hpc.2.symm, hkl, e3, rfl, hJ (k + 1) _ w' w [al126, bs] hj2 hp.extM (fun b hb => ?_) (hnd e3) hp.extM.size, hp.get (i := 0) rfl, hp.get (i := 3) rfl⟩, sub_cons rfl (sub_cons rfl (sub_cons rfl sub_nil))⟩
      rcases List.mem_cons.1 hb with rfl | hb
      · rcases hlo.1 with h | h
        · exact .inl h
        · exact .inr ⟨h, hlo.2⟩
      · exact .inl (by simp at hb; simp [hb])
    · refine ⟨_, rfl, ?_⟩
      conv => whnf
      refine hKq _ _ _ (.refl _) ?_
      clear hKq Kq
      conv => whnf
      (refine And.intro (fun _ => ?_) (fun h => absurd h (by decide)); conv => whnf)
      exact .inl ⟨⟨_, rfl⟩, .inr ⟨_, _, hx2⟩⟩
  · have hlt := of_decide_eq_false hlt
    conv => whnf
    have hd : L.drop at_ = [] := List.drop_of_length_le (by rw [← hL, hl]; omega)
    rw [hd, parse_nil] at hpar
    simp only [Prod.mk.injEq] at hpar
    have h2 := congrArg List.length hpar.1
    rw [List.length_drop, List.length_nil] at h2
    exact .inl ⟨⟨_, rfl⟩, .inl ⟨k, _, ⟨by omega, hpar.2.symm⟩, hj⟩⟩
set_option maxHeartbeats 16000000
theorem parseF_le : ∀ (f : Nat) (l : List UInt8), (parseF f l).1.length ≤ f
  | 0, _ => Nat.le_refl _
  | f + 1, [] => Nat.zero_le _
  | f + 1, x :: l => by
    unfold parseF
    cases hp : pstep (x :: l) with
    | none => exact Nat.zero_le _
    | some y => dsimp only; rw [List.length_cons]; have := parseF_le f y.2; omega
theorem parse_le (l : List UInt8) : (parse l).1.length ≤ l.length := parseF_le _ _
theorem takeA_snoc (A : List At2) (k : Nat) (h : k < A.length) : A.take (k + 1) = A.take k ++ [A.getD k (0, ⟨#[]⟩)] := by
  rw [List.take_add_one, List.getD_eq_getElem?_getD, List.getElem?_eq_getElem h]; rfl
theorem appSeq_c {W : World} (S : ByteArray) (hS : S.size ≤ 10000) (bs : Nat) (hb : Blk W bs [.string S] 9) :
    Calls Tryz.prog 119 #[.slice none 0 0, .func (.func 120) #[] #[.pointer (some ⟨bs, 0, none⟩)]] W fun e w' =>
      ((parse S.data.toList).2 = true ∧ ∃ v, e = .returned v ∧ HpM [bs] W w' [row 54 2 v (parse S.data.toList).1.length (flatC (parse S.data.toList).1)]) ∨ ((parse S.data.toList).2 = false ∧ e = .panicked mal ∧ HpM [bs] W w' []) := by
  have hlt : bs < W.heap.size := hb.lt
  have hpl := parse_le S.data.toList
  rw [toList_len] at hpl
  have it := attrs_iter S hS bs 20000
  obtain ⟨A, ok, hA⟩ : ∃ A ok, parse S.data.toList = (A, ok) := ⟨_, _, rfl⟩
  rw [hA] at it hpl ⊢
  dsimp only at it hpl ⊢
  refine v_fnD (args := [.slice none 0 0, .func (.func 120) #[] #[.pointer (some ⟨bs, 0, none⟩)]]) TTok FFok Tryz.func119 rfl (Nat.le_of_ble_eq_true rfl) ?_
  have hp := (HpM.nil0 [bs] W).take hb (by simp) (by simp)
  conv => whnf
  refine VSeq.mk fun Kq hKq => ?_
  conv => whnf
  refine hp.kbox1 rfl fun q w hp hx => ?_
  conv => whnf
  refine hKq _ _ _ (.refl _) ?_
  clear hKq Kq
  conv => whnf
  refine VSeq.mk fun Kq hKq => ?_
  conv => whnf
  refine VSeq.mk fun Kq hKq => ?_
  conv => whnf
  refine hKq _ _ _ (.refl _) ?_
  clear hKq Kq
  conv => whnf
  skip
  have hp := hp.knil 54 2
  refine v_range2P TTok FFok it rfl rfl (by kernel_rfl) rfl (fun _ => rfl)
    (fun k X B => k ≤ A.length ∧ ∃ v, HpM [bs] W B (row 54 2 v k (flatC (A.take k)) :: blk q [v] 22 :: X))
    (fun e X B => False)
    (fun t => ⟨fun X B h x hx => by obtain ⟨_, v, h⟩ := h; exact h.holds x (by simp [hx]), fun X X' B C r h => by obtain ⟨h1, v, h⟩ := h; exact ⟨h1, v, h.reframeAt 2 rfl r⟩⟩)
    (fun e => ⟨fun X B h => h.elim, fun X X' B C r h => h.elim⟩)
    (fun t X B h => by have := h.1; omega) [blk bs [.string S] 9] (hp.pick [2] (by decide)) rfl
    (fun B hx => (hp.get (i := 2) rfl : Blk _ _ _ _).ext hx) ⟨Nat.zero_le _, _, hp⟩ ?_ ?_ ?_ ?_ ?_
  · rintro k X B ⟨hk, v, hp⟩ hnt hnb
    clear it
    have hkl : k < A.length := by
      rcases Nat.lt_or_ge k A.length with h | h
      · exact h
      · exfalso
        cases ok with
        | true => exact hnt ⟨by omega, rfl⟩
        | false => exact hnb mal ⟨by omega, rfl, rfl⟩
    obtain ⟨a, ha⟩ : ∃ a, A.getD k (0, ⟨#[]⟩) = a := ⟨_, rfl⟩
    rw [ha]
    unfold atV
    obtain ⟨pp, cp, rfl⟩ := row_shape (hp.get (i := 0) rfl)
    conv => whnf
    (refine hp.kalloc z54 fun al54 w hp hx => ?_; conv => whnf)
    (refine hp.kstA TTok rfl 0 rfl rfl (oneC_of rfl) (by rfl) fun w hp => ?_; try simp only [List.set_cons_zero, List.set_cons_succ, EV.val] at hp; conv => whnf)
    refine ⟨fun x hx => hp.holds x (by simp [hx]), fun X' B' r => ?_⟩
    have hp := hp.reframeAt 3 rfl r
    simp only [List.take_succ_cons, List.take_zero, List.cons_append, List.nil_append] at hp
    clear hx
    conv => whnf
    (refine ⟨_, _, Blk.ld (hp.get (i := 2) rfl) TTok rfl rfl, ?_⟩; conv => whnf)
    (refine ⟨_, _, Blk.ldV (vs := [_, _]) (hp.get (i := 0) rfl) TTok rfl rfl rfl, ?_⟩; conv => whnf)
    (refine hp.kmade _ _ (fun b => .slice (some ⟨b, 0, none⟩) 1 1) (mks22_1_0 _ _ _) fun q w hp hx => ?_; conv => whnf)
    refine hp.kapp sl22 2 rfl (Blk.src TTok (hp.get (i := 0) rfl) rfl (m := 1) rfl (oneC_of rfl)) (by omega) (by unfold maxLen; omega) fun v' w hp => ?_
    simp only [List.set_cons_zero, List.set_cons_succ] at hp
    obtain ⟨p1, c1, rfl⟩ := row_shape (hp.get (i := 2) rfl)
    conv => whnf
    refine hp.kst1 (off := 0) TTok (by rfl) 3 (by rfl) (by rfl) (by rfl) (Nat.le_of_ble_eq_true rfl) fun w hp => ?_
    try simp only [List.set_cons_zero, List.set_cons_succ, EV.val] at hp
    conv => whnf
    refine And.intro (by omega) ?_
    conv => whnf
    refine ⟨.slice p1 (k + 1) c1, ?_⟩
    have hp := hp.sub (List.drop_sublist 2 _)
    simp only [List.drop_succ_cons, List.drop_zero] at hp
    rw [takeA_snoc A k hkl, ha, flatC_app]
    exact hp
  · rintro D k X B ⟨rfl, rfl⟩ ⟨_, v, hp⟩
    rw [List.take_of_length_le (Nat.le_refl _)] at hp
    obtain ⟨pp, cp, rfl⟩ := row_shape (hp.get (i := 0) rfl)
    conv => whnf
    refine hKq _ _ _ (.refl _) ?_
    clear hKq Kq
    conv => whnf
    refine VSeq.mk fun Kq hKq => ?_
    conv => whnf
    (refine ⟨_, _, Blk.ld (hp.get (i := 1) rfl) TTok rfl rfl, ?_⟩; conv => whnf)
    (refine hKq _ _ _ (.refl _) ?_; clear hKq Kq; conv => whnf)
    refine ⟨⟨fun h => (by cases h), hp.get (i := 2) rfl⟩, ?_⟩
    conv => whnf
    exact .inl ⟨rfl, _, rfl, (hp.shut (i := 2) (o' := .deferred none) rfl).pick [0] (by decide)⟩
  · exact fun _ _ _ h => h.elim
  · exact fun _ _ _ _ h => h.elim
  · rintro D k c X B ⟨rfl, rfl, rfl⟩ ⟨_, v, hp⟩
    conv => whnf
    refine ⟨⟨fun h => (by cases h), hp.get (i := 2) rfl⟩, ?_⟩
    show _ ∨ _
    exact .inr ⟨rfl, rfl, (hp.shut (i := 2) (o' := .deferred none) rfl).sub (List.nil_sublist _)⟩
open Go.RowKit
namespace V
theorem HpM.perm {M : List Nat} {w0 w : World} {H H' : List It} (h : HpM M w0 w H) (hp : H.Perm H') : HpM M w0 w H' :=
  ⟨h.extM, fun x hx => h.ok x (hp.mem_iff.2 hx), fun x hx => h.holds x (hp.mem_iff.2 hx), fun x hx => h.lo x (hp.mem_iff.2 hx),
    (hp.pairwise_iff (fun {x y} hxy b hb hy => hxy b hy hb)).1 h.apart⟩
end V
set_option maxHeartbeats 8000000
theorem Collect_c {W : World} (S : ByteArray) (hS : S.size ≤ 10000) (bs : Nat) (hb : Blk W bs [.string S] 9) :
    Calls Tryz.prog 71 #[.func (.func 120) #[] #[.pointer (some ⟨bs, 0, none⟩)]] W fun e w' =>
      ((parse S.data.toList).2 = true ∧ ∃ v, e = .returned v ∧ HpM [bs] W w' [row 54 2 v (parse S.data.toList).1.length (flatC (parse S.data.toList).1)]) ∨ ((parse S.data.toList).2 = false ∧ e = .panicked mal ∧ HpM [bs] W w' []) := by
  refine v_fnD (args := [.func (.func 120) #[] #[.pointer (some ⟨bs, 0, none⟩)]]) TTok FFok Tryz.func71 rfl (Nat.le_of_ble_eq_true rfl) ?_
  conv => whnf
  refine VSeq.mk fun Kq hKq => ?_
  conv => whnf
  refine hKq _ _ _ (.refl _) ?_
  clear hKq Kq
  conv => whnf
  refine VSeq.mk fun Kq hKq => ?_
  conv => whnf
  refine V.CallP.out ?_
  conv => arg 3; dsimp only [EV.val, List.toList_toArray, List.nil_append, List.append_nil, List.cons_append]
  refine V.CallP.use (appSeq_c S hS bs hb) ?_
  rintro _ w (⟨ho, v, rfl, hp⟩ | ⟨ho, rfl, hp⟩)
  · obtain ⟨p, c, rfl⟩ := row_shape (hp.get (i := 0) rfl)
    refine Or.inl ⟨_, rfl, ?_⟩
    conv => whnf
    refine hKq _ _ _ (.refl _) ?_
    clear hKq Kq
    conv => whnf
    refine Or.inl (And.intro (by omega) ?_)
    conv => whnf
    first | exact .inl ⟨ho, _, rfl, hp⟩ | exact ⟨_, rfl, hp⟩
  · refine Or.inr ⟨_, rfl, ?_⟩
    conv => whnf
    exact .inr ⟨ho, rfl, hp⟩
theorem attributes_c {w : World} (s : ByteArray) :
    Calls Tryz.prog 72 #[.string s] w fun e w' => ∃ q, e = .returned (.func (.func 120) #[] #[.pointer (some ⟨q, 0, none⟩)]) ∧ HpM [] w w' [blk q [.string s] 9] := by
  refine (v_fn (R := fun v w' => ∃ q, v = .func (.func 120) #[] #[.pointer (some ⟨q, 0, none⟩)] ∧ HpM [] w w' [blk q [.string s] 9]) (args := [.string s]) TTok FFok Tryz.func72 rfl (Nat.le_of_ble_eq_true rfl) ?_).mono (fun e w' ⟨v, h1, q, h2, h3⟩ => ⟨q, by rw [h1, h2], h3⟩)
  have hp := Hp.nil w
  conv => whnf
  refine VSeq.mk fun Kq hKq => ?_
  conv => whnf
  refine hp.kbox1 rfl fun q w hp hx => ?_
  conv => whnf
  refine hKq _ _ _ (.refl _) ?_
  clear hKq Kq
  conv => whnf
  refine VSeq.mk fun Kq hKq => ?_
  conv => whnf
  refine hKq _ _ _ (.refl _) ?_
  clear hKq Kq
  conv => whnf
  skip
  exact ⟨q, rfl, hp⟩
theorem HpM.swap {M : List Nat} {w0 A B : World} {b e : Nat} {cs : List Value} {H X : List It} (hp : HpM M w0 A (blk b cs e :: H)) (hr : HpM [b] A B X) : HpM M w0 B (H ++ X) := by
  have h1 : HpM M w0 A (H ++ [blk b cs e]) := hp.perm (List.perm_append_comm (l₁ := [blk b cs e]))
  refine h1.reframe ⟨hr.extM, hr.ok, hr.holds, fun x hx c hc => ?_, hr.apart⟩
  exact hr.lo x hx c hc
theorem HpM.ext1 {A B C : World} {b : Nat} {X : List It} (hr : HpM [b] B C X) (hx : Ext A B) (hb : A.heap.size ≤ b) : Ext A C := by
  have h := (ExtM.of_ext (M := [b]) hx).trans' hr.extM
  exact ⟨h.os, h.tape, h.output, h.size, fun k hk => h.block k hk (by simp; omega)⟩
theorem number_c {W : World} (s : ByteArray) (hs : s.size ≤ 100000) (bs : Nat) (hb : Blk W bs [.string s] 9) (i k : Nat) (h1 : 1 ≤ k) (h7 : k ≤ 7) (hk : i + k ≤ s.size) :
    Calls Tryz.prog 68 #[.int .i64 i, .int .i64 (i + k : Nat), .pointer (some ⟨bs, 0, none⟩)] W fun e w' => e = .returned (.int .i64 (numB (s.extract i (i + k)))) ∧ Ext W w' := by
  have hsz : (s.extract i (i + k)).size = k := by rw [ByteArray.size_extract]; omega
  refine v_reads (args := [.int .i64 i, .int .i64 (i + k : Nat), .pointer (some ⟨bs, 0, none⟩)]) TTok FFok Tryz.func68 rfl rfl ?_
  have hp := Hp.nil W
  conv => whnf
  refine VSeq.mk fun Kq hKq => ?_
  conv => whnf
  refine hKq _ _ _ (.refl _) ?_
  clear hKq Kq
  conv => whnf
  refine VSeq.mk fun Kq hKq => ?_
  conv => whnf
  skip
  refine ⟨_, _, hb.ld TTok rfl rfl, ?_⟩
  conv => whnf
  (refine ⟨_, _, ⟨rfl, rfl, by omega, by omega⟩, ?_⟩; conv => whnf)
  (refine ⟨_, _, bld126_0 _ _, ?_⟩; conv => whnf)
  (refine Or.inl (And.intro (by first | omega | decide) ?_); conv => whnf)
  rw [show ((i + k : Nat) : Int) - (i : Int) = ((k : Nat) : Int) by omega]
  (refine V.CallW.out ?_; (conv => arg 3; dsimp only [EV.val, List.toList_toArray, List.nil_append, List.append_nil, List.cons_append]); (with_reducible refine V.PureF.useW (Uint_ok (s.extract i (i + k)) 0 k (by omega) (by omega) (by omega) (by omega)) fun w hx => ?_); try (have hp := hp.call hx); conv => whnf)
  (refine hp.kalloc z126 fun al126 w hp hx => ?_; conv => whnf)
  (refine hp.kstA TTok rfl 0 rfl rfl (oneC_of rfl) (by rfl) fun w hp => ?_; try simp only [List.set_cons_zero, List.set_cons_succ, EV.val] at hp; conv => whnf)
  (refine hKq _ _ _ (.refl _) ?_; clear hKq Kq; conv => whnf)
  (refine VSeq.mk fun Kq hKq => ?_; conv => whnf)
  (refine hKq _ _ _ (.refl _) ?_; clear hKq Kq; conv => whnf)
  rw [ext_ext, Nat.add_zero, Nat.zero_add, Nat.min_self]
  exact ⟨rfl, hp.ext⟩
theorem def_idle {w : World} (qm qe : Nat) :
    DefC Tryz.prog 67 #[.pointer (some ⟨qm, 0, none⟩), .pointer (some ⟨qe, 0, none⟩)] .returning w fun e u' w' => u' = .returning ∧ ∃ x, e = .returned x ∧ w' = w := by
  refine v_deferred (args := [.pointer (some ⟨qm, 0, none⟩), .pointer (some ⟨qe, 0, none⟩)]) TTok FFok Tryz.func67 rfl (Nat.le_of_ble_eq_true rfl) (fun ρ w => rfl) rfl rfl rfl rfl ?_
  conv => whnf
  refine VSeq.mk fun Kq hKq => ?_
  conv => whnf
  refine ⟨.bool false, w, by kernel_rfl, ?_⟩
  conv => whnf
  refine hKq _ _ _ (.refl _) ?_
  clear hKq Kq
  conv => whnf
  (refine And.intro (fun h => absurd h (by decide)) (fun _ => ?_); conv => whnf)
  exact ⟨rfl, rfl⟩
theorem def_caught {M : List Nat} {w0 w : World} {H : List It} {qm qe : Nat} {mc : List Value} {ec : Value} (hp : HpM M w0 w (blk qe [ec] 36 :: blk qm mc 24 :: H)) (hm : mc.length = 4) :
    DefC Tryz.prog 67 #[.pointer (some ⟨qm, 0, none⟩), .pointer (some ⟨qe, 0, none⟩)] (.panicking mal) w fun e u' w' => u' = .panicking [{ v := .iface 123 (.agg #[]), recovered := true }] ∧ ∃ x, e = .returned x ∧ HpM M w0 w' (blk qe [.int .i64 5] 36 :: blk qm [.int .i64 0, .int .i64 0, .string ⟨#[]⟩, .slice none 0 0] 24 :: H) := by
  refine v_deferred (args := [.pointer (some ⟨qm, 0, none⟩), .pointer (some ⟨qe, 0, none⟩)]) TTok FFok Tryz.func67 rfl (Nat.le_of_ble_eq_true rfl) (fun ρ w => rfl) rfl rfl rfl rfl ?_
  conv => whnf
  refine VSeq.mk fun Kq hKq => ?_
  conv => whnf
  refine ⟨.bool true, w, by kernel_rfl, ?_⟩
  conv => whnf
  refine hKq _ _ _ (.refl _) ?_
  clear hKq Kq
  conv => whnf
  (refine And.intro (fun _ => ?_) (fun h => absurd h (by decide)); conv => whnf)
  (refine VSeq.mk fun Kq hKq => ?_; conv => whnf)
  (refine VSeq.mk fun Kq hKq => ?_; conv => whnf)
  refine ⟨.tuple #[.agg #[], .bool true], w, by kernel_rfl, ?_⟩
  conv => whnf
  (refine hp.kalloc z123 fun al123 w hp hx => ?_; conv => whnf)
  (refine hp.kstA TTok rfl 0 rfl rfl (oneC_of rfl) (by rfl) fun w hp => ?_; try simp only [List.set_cons_zero, List.set_cons_succ, EV.val] at hp; conv => whnf)
  (refine hKq _ _ _ (.refl _) ?_; clear hKq Kq; conv => whnf)
  (refine VSeq.mk fun Kq hKq => ?_; conv => whnf)
  (refine hKq _ _ _ (.refl _) ?_; clear hKq Kq; conv => whnf)
  (refine And.intro (fun h => absurd h (by decide)) (fun _ => ?_); conv => whnf)
  (refine hKq _ _ _ (.refl _) ?_; clear hKq Kq; conv => whnf)
  (refine ⟨_, _, bld24_ _, ?_⟩; conv => whnf)
  refine hp.kstA TTok rfl 2 rfl (rfl) (oneC_of rfl) (hm) fun w hp => ?_
  try simp only [List.set_cons_zero, List.set_cons_succ, EV.val] at hp
  conv => whnf
  (refine hp.kst1 TTok (by rfl) 1 (by rfl) (by rfl) (by rfl) (Nat.le_of_ble_eq_true rfl) fun w hp => ?_; try simp only [List.set_cons_zero, List.set_cons_succ, EV.val] at hp; conv => whnf)
  exact ⟨rfl, hp.tail⟩
set_option maxHeartbeats 16000000
def hdT (s : ByteArray) : Nat := numB (s.extract 0 2)
def decA (s : ByteArray) : List At2 × Bool := parse (s.extract 20 s.size).data.toList
def okD (s : ByteArray) : Bool := decide (hdT s < 16384) && (decide (numB (s.extract 4 8) = 554869826) && decide (s.size = 20 + numB (s.extract 2 4)))
def decC (s : ByteArray) : Nat :=
  if 1200 < s.size then 3 else if s.size < 20 then 7 else if s.size < 20 + numB (s.extract 2 4) then 7 else
  if okD s = true ∧ (decA s).2 = true ∧ stunB (clsN (hdT s)) (mthN (hdT s)) (s.extract 8 20) (decA s).1 = true then 0 else 5
theorem Decode_c {W : World} (s : ByteArray) (hs : s.size ≤ maxLen) :
    Calls Tryz.prog 19 #[.string s] W fun e w' =>
      (decC s = 0 ∧ ∃ v, e = .returned (.tuple #[.agg #[.int .i64 (clsN (hdT s)), .int .i64 (mthN (hdT s)), .string (s.extract 8 20), v], .int .i64 0]) ∧ HpM [] W w' [row 54 2 v (decA s).1.length (flatC (decA s).1)]) ∨
      (decC s ≠ 0 ∧ e = .returned (.tuple #[zStun, .int .i64 (decC s)]) ∧ Ext W w') := by
  unfold maxLen at hs
  have hD : decC s = if 1200 < s.size then 3 else if s.size < 20 then 7 else if s.size < 20 + numB (s.extract 2 4) then 7 else if okD s = true ∧ (decA s).2 = true ∧ stunB (clsN (hdT s)) (mthN (hdT s)) (s.extract 8 20) (decA s).1 = true then 0 else 5 := rfl
  obtain ⟨D, hDD⟩ : ∃ D, decC s = D := ⟨_, rfl⟩
  rw [hDD] at hD ⊢
  refine v_fnD (args := [.string s]) TTok FFok Tryz.func19 rfl (Nat.le_of_ble_eq_true rfl) ?_
  have hp := Hp.nil W
  conv => whnf
  refine VSeq.mk fun Kq hKq => ?_
  conv => whnf
  refine hp.kbox1 rfl fun q1 w hp hx => ?_
  conv => whnf
  (refine hp.kalloc z24 fun al24 w hp hx => ?_; conv => whnf)
  (refine hp.kalloc z36 fun al36 w hp hx => ?_; conv => whnf)
  (refine hKq _ _ _ (.refl _) ?_; clear hKq Kq; conv => whnf)
  (refine VSeq.mk fun Kq hKq => ?_; conv => whnf)
  (refine VSeq.mk fun Kq hKq => ?_; conv => whnf)
  (refine ⟨_, _, Blk.ld (hp.get (i := 2) rfl) TTok rfl rfl, ?_⟩; conv => whnf)
  (refine hKq _ _ _ (.refl _) ?_; clear hKq Kq; conv => whnf)
  refine ⟨fun h1 => ?_, fun h1 => ?_⟩
  · have h1 := of_decide_eq_true h1
    conv => whnf
    refine VSeq.mk fun Kq hKq => ?_
    conv => whnf
    rw [if_pos (by omega)] at hD
    (refine ⟨_, _, Blk.ldV (vs := [_, _, _, _]) (hp.get (i := 1) rfl) TTok rfl rfl rfl, ?_⟩; conv => whnf)
    (refine hp.kstA TTok rfl 1 rfl rfl (oneC_of rfl) (by rfl) fun w hp => ?_; try simp only [List.set_cons_zero, List.set_cons_succ, EV.val] at hp; conv => whnf)
    (refine hp.kst1 TTok (by rfl) 0 (by rfl) (by rfl) (by rfl) (Nat.le_of_ble_eq_true rfl) fun w hp => ?_; try simp only [List.set_cons_zero, List.set_cons_succ, EV.val] at hp; conv => whnf)
    (refine hKq _ _ _ (.refl _) ?_; clear hKq Kq; conv => whnf)
    (refine ⟨_, Blk.lvN (hp.get (i := 1) rfl) TTok rfl rfl, ?_⟩; conv => whnf)
    (refine ⟨_, Blk.lv (hp.get (i := 0) rfl) TTok rfl rfl, ?_⟩; conv => whnf)
    subst hD
    exact .inr ⟨by decide, rfl, hp.ext⟩
  · have h1 := of_decide_eq_false h1
    conv => whnf
    refine VSeq.mk fun Kq hKq => ?_
    conv => whnf
    rw [if_neg (by omega)] at hD
    (refine ⟨_, _, Blk.ld (hp.get (i := 2) rfl) TTok rfl rfl, ?_⟩; conv => whnf)
    (refine hKq _ _ _ (.refl _) ?_; clear hKq Kq; conv => whnf)
    refine ⟨fun h2 => ?_, fun h2 => ?_⟩
    · have h2 := of_decide_eq_true h2
      conv => whnf
      refine VSeq.mk fun Kq hKq => ?_
      conv => whnf
      rw [if_pos (by omega)] at hD
      (refine ⟨_, _, Blk.ldV (vs := [_, _, _, _]) (hp.get (i := 1) rfl) TTok rfl rfl rfl, ?_⟩; conv => whnf)
      (refine hp.kstA TTok rfl 1 rfl rfl (oneC_of rfl) (by rfl) fun w hp => ?_; try simp only [List.set_cons_zero, List.set_cons_succ, EV.val] at hp; conv => whnf)
      (refine hp.kst1 TTok (by rfl) 0 (by rfl) (by rfl) (by rfl) (Nat.le_of_ble_eq_true rfl) fun w hp => ?_; try simp only [List.set_cons_zero, List.set_cons_succ, EV.val] at hp; conv => whnf)
      (refine hKq _ _ _ (.refl _) ?_; clear hKq Kq; conv => whnf)
      (refine ⟨_, Blk.lvN (hp.get (i := 1) rfl) TTok rfl rfl, ?_⟩; conv => whnf)
      (refine ⟨_, Blk.lv (hp.get (i := 0) rfl) TTok rfl rfl, ?_⟩; conv => whnf)
      subst hD
      exact .inr ⟨by decide, rfl, hp.ext⟩
    · have h2 := of_decide_eq_false h2
      conv => whnf
      refine hKq _ _ _ (.refl _) ?_
      clear hKq Kq
      conv => whnf
      refine VSeq.mk fun Kq hKq => ?_
      conv => whnf
      refine hKq _ _ _ (.refl _) ?_
      clear hKq Kq
      conv => whnf
      refine VSeq.mk fun Kq hKq => ?_
      conv => whnf
      refine hKq _ _ _ (.refl _) ?_
      clear hKq Kq
      conv => whnf
      refine VSeq.mk fun Kq hKq => ?_
      conv => whnf
      rw [if_neg (by omega)] at hD
      skip
      refine V.CallP.out ?_
      conv => arg 3; dsimp only [EV.val, List.toList_toArray, List.nil_append, List.append_nil, List.cons_append]
      refine V.CallP.use (number_c s (by omega) q1 (hp.get (i := 2) rfl) 2 2 (by decide) (by decide) (by omega)) ?_
      rintro _ w ⟨rfl, hx⟩
      refine Or.inl ⟨_, rfl, ?_⟩
      try (have hp := hp.call hx)
      conv => whnf
      refine hKq _ _ _ (.refl _) ?_
      clear hKq Kq
      conv => whnf
      refine VSeq.mk fun Kq hKq => ?_
      conv => whnf
      refine VSeq.mk fun Kq hKq => ?_
      conv => whnf
      (refine ⟨_, _, Blk.ld (hp.get (i := 2) rfl) TTok rfl rfl, ?_⟩; conv => whnf)
      have hn2 := numL_lt 2 (s.extract 2 (2 + 2)).data.toList (by rw [toList_len, ByteArray.size_extract]; omega)
      change numB (s.extract 2 (2 + 2)) < 65536 at hn2
      obtain ⟨N, hN⟩ : ∃ N, numB (s.extract 2 (2 + 2)) = N := ⟨_, rfl⟩
      have hN' : numB (s.extract 2 4) = N := hN
      rw [hN] at hn2
      rw [hN'] at hD
      rw [hN]
      (refine Or.inl (And.intro (by first | omega | decide) ?_); conv => whnf)
      (refine hKq _ _ _ (.refl _) ?_; clear hKq Kq; conv => whnf)
      refine ⟨fun h3 => ?_, fun h3 => ?_⟩
      · have h3 := of_decide_eq_true h3
        conv => whnf
        refine VSeq.mk fun Kq hKq => ?_
        conv => whnf
        rw [if_pos (by omega)] at hD
        (refine ⟨_, _, Blk.ldV (vs := [_, _, _, _]) (hp.get (i := 1) rfl) TTok rfl rfl rfl, ?_⟩; conv => whnf)
        (refine hp.kstA TTok rfl 1 rfl rfl (oneC_of rfl) (by rfl) fun w hp => ?_; try simp only [List.set_cons_zero, List.set_cons_succ, EV.val] at hp; conv => whnf)
        (refine hp.kst1 TTok (by rfl) 0 (by rfl) (by rfl) (by rfl) (Nat.le_of_ble_eq_true rfl) fun w hp => ?_; try simp only [List.set_cons_zero, List.set_cons_succ, EV.val] at hp; conv => whnf)
        (refine hKq _ _ _ (.refl _) ?_; clear hKq Kq; conv => whnf)
        refine ⟨⟨fun h => (by cases h), rfl⟩, CallsDIn.mono (def_idle _ _) ?_⟩
        rintro e u' w' ⟨rfl, x, rfl, rfl⟩
        conv => whnf
        (refine ⟨_, Blk.lvN (hp.get (i := 1) rfl) TTok rfl rfl, ?_⟩; conv => whnf)
        (refine ⟨_, Blk.lv (hp.get (i := 0) rfl) TTok rfl rfl, ?_⟩; conv => whnf)
        subst hD
        exact .inr ⟨by decide, rfl, hp.ext⟩
      · have h3 := of_decide_eq_false h3
        conv => whnf
        refine hKq _ _ _ (.refl _) ?_
        clear hKq Kq
        conv => whnf
        refine VSeq.mk fun Kq hKq => ?_
        conv => whnf
        rw [if_neg (by omega)] at hD
        skip
        refine V.CallP.out ?_
        conv => arg 3; dsimp only [EV.val, List.toList_toArray, List.nil_append, List.append_nil, List.cons_append]
        refine V.CallP.use (number_c s (by omega) q1 (hp.get (i := 2) rfl) 0 2 (by decide) (by decide) (by omega)) ?_
        rintro _ w ⟨rfl, hx⟩
        refine Or.inl ⟨_, rfl, ?_⟩
        try (have hp := hp.call hx)
        conv => whnf
        refine hKq _ _ _ (.refl _) ?_
        clear hKq Kq
        conv => whnf
        refine VSeq.mk fun Kq hKq => ?_
        conv => whnf
        refine VSeq.mk fun Kq hKq => ?_
        conv => whnf
        refine hKq _ _ _ (.refl _) ?_
        clear hKq Kq
        conv => whnf
        refine VSeq.mk fun Kq hKq => ?_
        conv => whnf
        have ht2 := numL_lt 2 (s.extract 0 (0 + 2)).data.toList (by rw [toList_len, ByteArray.size_extract]; omega)
        change numB (s.extract 0 (0 + 2)) < 65536 at ht2
        obtain ⟨T, hT⟩ : ∃ T, numB (s.extract 0 (0 + 2)) = T := ⟨_, rfl⟩
        have hT' : hdT s = T := hT
        rw [hT] at ht2
        rw [hT'] at hD
        rw [hT, hT']
        have hok : okD s = (decide (T < 16384) && (decide (numB (s.extract 4 8) = 554869826) && decide (s.size = 20 + N))) := by unfold okD; rw [hT', hN']
        rw [hok] at hD
        clear hok
        skip
        refine ⟨fun h4 => ?_, fun h4 => ?_⟩
        · have h4 := of_decide_eq_true h4
          conv => whnf
          skip
          refine V.CallP.out ?_
          conv => arg 3; dsimp only [EV.val, List.toList_toArray, List.nil_append, List.append_nil, List.cons_append]
          refine V.CallP.use (number_c s (by omega) q1 (hp.get (i := 2) rfl) 4 4 (by decide) (by decide) (by omega)) ?_
          rintro _ w ⟨rfl, hx⟩
          refine Or.inl ⟨_, rfl, ?_⟩
          try (have hp := hp.call hx)
          conv => whnf
          refine hKq _ _ _ (.refl _) ?_
          clear hKq Kq
          conv => whnf
          obtain ⟨G, hG⟩ : ∃ G, numB (s.extract 4 (4 + 4)) = G := ⟨_, rfl⟩
          have hG' : numB (s.extract 4 8) = G := hG
          rw [hG]
          rw [hG'] at hD
          skip
          refine ⟨fun h5 => ?_, fun h5 => ?_⟩
          · have h5 := of_decide_eq_true h5
            conv => whnf
            (refine ⟨_, _, Blk.ld (hp.get (i := 2) rfl) TTok rfl rfl, ?_⟩; conv => whnf)
            (refine Or.inl (And.intro (by first | omega | decide) ?_); conv => whnf)
            by_cases h6 : s.size = 20 + N
            rotate_left
            · skip
              refine V.CallP.out ?_
              conv => arg 3; dsimp only [EV.val, List.toList_toArray, List.nil_append, List.append_nil, List.cons_append]
              refine V.CallP.use (must_fb (decide_eq_false (by omega))) ?_
              rintro _ w ⟨rfl, hx⟩
              refine Or.inr ⟨_, rfl, ?_⟩
              try (have hp := hp.call hx)
              conv => whnf
              refine ⟨⟨fun h => (by cases h), rfl⟩, CallsDIn.mono (def_caught hp rfl) ?_⟩
              rintro _ _ w ⟨rfl, x, rfl, hp⟩
              conv => whnf
              (refine ⟨_, Blk.lvN (hp.get (i := 1) rfl) TTok rfl rfl, ?_⟩; conv => whnf)
              (refine ⟨_, Blk.lv (hp.get (i := 0) rfl) TTok rfl rfl, ?_⟩; conv => whnf)
              rw [if_neg (fun h => (by have := h.1; simp only [Bool.and_eq_true, decide_eq_true_eq] at this; omega))] at hD
              subst hD
              exact .inr ⟨by decide, rfl, hp.ext⟩
            refine V.CallP.out ?_
            conv => arg 3; dsimp only [EV.val, List.toList_toArray, List.nil_append, List.append_nil, List.cons_append]
            refine V.CallP.use (must_tb (decide_eq_true (by omega)) _) ?_
            rintro _ w ⟨rfl, hx⟩
            refine Or.inl ⟨_, rfl, ?_⟩
            try (have hp := hp.call hx)
            conv => whnf
            refine hKq _ _ _ (.refl _) ?_
            clear hKq Kq
            conv => whnf
            refine VSeq.mk fun Kq hKq => ?_
            conv => whnf
            have a1 : (T / 16) &&& 1 ≤ 1 := Nat.and_le_right
            have a2 : (T / 128) &&& 2 ≤ 2 := Nat.and_le_right
            have a3 : T &&& 15 ≤ 15 := Nat.and_le_right
            have a4 : (T / 2) &&& 112 ≤ 112 := Nat.and_le_right
            have a5 : (T / 4) &&& 3968 ≤ 3968 := Nat.and_le_right
            have a6 : (T &&& 15 ||| (T / 2) &&& 112) < 128 := Nat.or_lt_two_pow (n := 7) (by omega) (by omega)
            have hc : clsN T = (T / 16) &&& 1 ||| (T / 128) &&& 2 := rfl
            have hm : mthN T = T &&& 15 ||| (T / 2) &&& 112 ||| (T / 4) &&& 3968 := rfl
            obtain ⟨A1, hA1⟩ : ∃ A, (T / 16) &&& 1 = A := ⟨_, rfl⟩
            obtain ⟨A2, hA2⟩ : ∃ A, (T / 128) &&& 2 = A := ⟨_, rfl⟩
            obtain ⟨A3, hA3⟩ : ∃ A, T &&& 15 = A := ⟨_, rfl⟩
            obtain ⟨A4, hA4⟩ : ∃ A, (T / 2) &&& 112 = A := ⟨_, rfl⟩
            obtain ⟨A5, hA5⟩ : ∃ A, (T / 4) &&& 3968 = A := ⟨_, rfl⟩
            rw [hA1] at a1 hc
            rw [hA2] at a2 hc
            rw [hA3] at a3 a6 hm
            rw [hA4] at a4 a6 hm
            rw [hA5] at a5 hm
            refine v_mtBP TTok FFok mixed [24] (.q 0 (.q 1 (.q 2 (.q 3 (.q 4 (.q 5 (.q 6 (.q 7 (.q 8 (.q 9 (.q 10 (.q 11 (.q 12 (.q 13 (.q 14 (.q 15 (.q 16 (.q 17 (.q 18 (.q 19 (.q 20 (.m 21 (.m 22 (.q 23 (.m 24 .nil))))))))))))))))))))))))) (by kernel_rfl) (by rfl) ?_
            conv => whnf
            refine ⟨4, ⟨by first | rfl | omega, by omega⟩, ?_⟩
            conv => whnf
            refine ⟨T / 16, 1, A1, ⟨by first | rfl | omega, by first | rfl | omega, by omega, by omega⟩, by (dsimp only; exact hA1), ?_⟩
            conv => whnf
            refine ⟨7, ⟨by first | rfl | omega, by omega⟩, ?_⟩
            conv => whnf
            refine ⟨T / 128, 2, A2, ⟨by first | rfl | omega, by first | rfl | omega, by omega, by omega⟩, by (dsimp only; exact hA2), ?_⟩
            conv => whnf
            refine ⟨A1, A2, _, ⟨by first | rfl | omega, by first | rfl | omega, by omega, by omega⟩, rfl, ?_⟩
            conv => whnf
            refine ⟨T, 15, A3, ⟨by first | rfl | omega, by first | rfl | omega, by omega, by omega⟩, by (dsimp only; exact hA3), ?_⟩
            conv => whnf
            refine ⟨1, ⟨by first | rfl | omega, by omega⟩, ?_⟩
            conv => whnf
            refine ⟨T / 2, 112, A4, ⟨by first | rfl | omega, by first | rfl | omega, by omega, by omega⟩, by (dsimp only; exact hA4), ?_⟩
            conv => whnf
            refine ⟨A3, A4, _, ⟨by first | rfl | omega, by first | rfl | omega, by omega, by omega⟩, rfl, ?_⟩
            conv => whnf
            refine ⟨2, ⟨by first | rfl | omega, by omega⟩, ?_⟩
            conv => whnf
            refine ⟨T / 4, 3968, A5, ⟨by first | rfl | omega, by first | rfl | omega, by omega, by omega⟩, by (dsimp only; exact hA5), ?_⟩
            conv => whnf
            refine ⟨A3 ||| A4, A5, _, ⟨by first | rfl | omega, by first | rfl | omega, by omega, by omega⟩, rfl, ?_⟩
            conv => whnf
            have hS20 : (s.extract 20 s.size).size ≤ 10000 := by rw [ByteArray.size_extract]; omega
            (refine ⟨_, fun w' hx' => Blk.ld (Blk.ext (hp.get (i := 2) rfl) hx') TTok rfl rfl, ?_⟩; conv => whnf)
            refine ⟨8, 20, ⟨rfl, rfl, by omega, by omega⟩, ?_⟩
            conv => whnf
            (refine ⟨_, fun w' hx' => Blk.ld (Blk.ext (hp.get (i := 2) rfl) hx') TTok rfl rfl, ?_⟩; conv => whnf)
            refine ⟨20, ⟨by first | rfl | omega, by omega⟩, ?_⟩
            conv => whnf
            intro wa hxa
            have hp := hp.call hxa
            conv => whnf
            refine V.CallP.out ?_
            conv => arg 3; dsimp only [EV.val, List.toList_toArray, List.nil_append, List.append_nil, List.cons_append]
            refine V.CallP.use (attributes_c (s.extract 20 s.size)) ?_
            rintro _ w ⟨q2, rfl, hq⟩
            refine Or.inl ⟨_, rfl, ?_⟩
            have hB : _ ≤ q2 := Nat.le_trans hxa.size (by
              rcases (hq.lo _ List.mem_cons_self q2 rfl).1 with h | h
              · cases h
              · exact h)
            have hp := hp.join hq
            conv => whnf
            refine And.intro (fun h => h.trans hq.ext) ?_
            simp only [List.cons_append, List.nil_append] at hp
            conv => whnf
            intro wb hxb
            have hp := hp.call hxb
            conv => whnf
            refine V.CallP.out ?_
            conv => arg 3; dsimp only [EV.val, List.toList_toArray, List.nil_append, List.append_nil, List.cons_append]
            refine V.CallP.use (Collect_c (s.extract 20 s.size) hS20 q2 (hp.get (i := 0) rfl)) ?_
            rintro _ w (⟨ho, v, rfl, hr⟩ | ⟨ho, rfl, hr⟩)
            · have hp := HpM.swap hp hr
              simp only [List.cons_append, List.nil_append] at hp
              obtain ⟨pv, cv, rfl⟩ := row_shape (hr.get (i := 0) rfl)
              refine Or.inl ⟨_, rfl, ?_⟩
              conv => whnf
              refine And.intro (fun h => HpM.ext1 hr h hB) ?_
              clear hr hq
              conv => whnf
              (refine ⟨_, fun w' hx' => bld24_0_1_2_3 w' _ _ _ _ _ _, ?_⟩; conv => whnf)
              (intro w hx; try (have hp := hp.call hx); conv => whnf)
              (refine hp.kstA TTok rfl 1 rfl rfl (oneC_of rfl) (by rfl) fun w hp => ?_; try simp only [List.set_cons_zero, List.set_cons_succ, EV.val] at hp; conv => whnf)
              (intro w hx; try (have hp := hp.call hx); conv => whnf)
              (refine hKq _ _ _ (.refl _) ?_; clear hKq Kq; conv => whnf)
              (refine VSeq.mk fun Kq hKq => ?_; conv => whnf)
              (refine ⟨_, _, Blk.ldV (vs := [_, _, _, _]) (hp.get (i := 1) rfl) TTok rfl rfl rfl, ?_⟩; conv => whnf)
              refine V.CallP.out ?_
              conv => arg 3; dsimp only [EV.val, List.toList_toArray, List.nil_append, List.append_nil, List.cons_append]
              refine V.CallP.use (Check_c _ _ _ (SA.of_row (hp.get (i := 3) rfl))) ?_
              rintro _ w ⟨rfl, hx⟩
              refine Or.inl ⟨_, rfl, ?_⟩
              try (have hp := hp.call hx)
              conv => whnf
              skip
              by_cases hst : stunB ((A1 ||| A2 : Nat) : Int) ((A3 ||| A4 ||| A5 : Nat) : Int) (s.extract 8 20) (decA s).1 = true
              · have hck : chkN ((A1 ||| A2 : Nat) : Int) ((A3 ||| A4 ||| A5 : Nat) : Int) (s.extract 8 20) (decA s).1 = 0 := by unfold chkN; rw [if_pos hst]
                refine V.CallP.out ?_
                conv => arg 3; dsimp only [EV.val, List.toList_toArray, List.nil_append, List.append_nil, List.cons_append]
                refine V.CallP.use (must_tb (decide_eq_true (by exact_mod_cast hck)) _) ?_
                rintro _ w ⟨rfl, hx⟩
                refine Or.inl ⟨_, rfl, ?_⟩
                try (have hp := hp.call hx)
                conv => whnf
                refine hKq _ _ _ (.refl _) ?_
                clear hKq Kq
                conv => whnf
                refine VSeq.mk fun Kq hKq => ?_
                conv => whnf
                (refine ⟨_, _, Blk.ldV (vs := [_, _, _, _]) (hp.get (i := 1) rfl) TTok rfl rfl rfl, ?_⟩; conv => whnf)
                (refine hp.kstA TTok rfl 1 rfl rfl (oneC_of rfl) (by rfl) fun w hp => ?_; try simp only [List.set_cons_zero, List.set_cons_succ, EV.val] at hp; conv => whnf)
                (refine hp.kst1 TTok (by rfl) 0 (by rfl) (by rfl) (by rfl) (Nat.le_of_ble_eq_true rfl) fun w hp => ?_; try simp only [List.set_cons_zero, List.set_cons_succ, EV.val] at hp; conv => whnf)
                (refine hKq _ _ _ (.refl _) ?_; clear hKq Kq; conv => whnf)
                refine ⟨⟨fun h => (by cases h), rfl⟩, CallsDIn.mono (def_idle _ _) ?_⟩
                rintro e u' w' ⟨rfl, x, rfl, rfl⟩
                conv => whnf
                (refine ⟨_, Blk.lvN (hp.get (i := 1) rfl) TTok rfl rfl, ?_⟩; conv => whnf)
                (refine ⟨_, Blk.lv (hp.get (i := 0) rfl) TTok rfl rfl, ?_⟩; conv => whnf)
                rw [hc, hm] at hD
                rw [if_pos ⟨by simp only [Bool.and_eq_true, decide_eq_true_eq]; omega, ho, hst⟩] at hD
                subst hD
                refine .inl ⟨rfl, _, ?_, hp.pick [3] (by decide)⟩
                rw [hT', hc, hm]
                rfl
              · have hck : chkN ((A1 ||| A2 : Nat) : Int) ((A3 ||| A4 ||| A5 : Nat) : Int) (s.extract 8 20) (decA s).1 = 80 := by unfold chkN; rw [if_neg hst]
                refine V.CallP.out ?_
                conv => arg 3; dsimp only [EV.val, List.toList_toArray, List.nil_append, List.append_nil, List.cons_append]
                refine V.CallP.use (must_fb (decide_eq_false (by intro h; have h2 : chkN ((A1 ||| A2 : Nat) : Int) ((A3 ||| A4 ||| A5 : Nat) : Int) (s.extract 8 20) (decA s).1 = 0 := (by exact_mod_cast h); omega))) ?_
                rintro _ w ⟨rfl, hx⟩
                refine Or.inr ⟨_, rfl, ?_⟩
                try (have hp := hp.call hx)
                conv => whnf
                rw [hc, hm] at hD
                refine ⟨⟨fun h => (by cases h), rfl⟩, CallsDIn.mono (def_caught hp rfl) ?_⟩
                rintro _ _ w ⟨rfl, x, rfl, hp⟩
                conv => whnf
                (refine ⟨_, Blk.lvN (hp.get (i := 1) rfl) TTok rfl rfl, ?_⟩; conv => whnf)
                (refine ⟨_, Blk.lv (hp.get (i := 0) rfl) TTok rfl rfl, ?_⟩; conv => whnf)
                rw [if_neg (fun h => hst h.2.2)] at hD
                subst hD
                exact .inr ⟨by decide, rfl, hp.ext⟩
            · have hp := HpM.swap hp hr
              simp only [List.cons_append, List.nil_append, List.append_nil] at hp
              refine Or.inr ⟨_, rfl, ?_⟩
              conv => whnf
              refine ⟨⟨fun h => (by cases h), rfl⟩, CallsDIn.mono (def_caught hp rfl) ?_⟩
              rintro _ _ w ⟨rfl, x, rfl, hp⟩
              conv => whnf
              (refine ⟨_, Blk.lvN (hp.get (i := 1) rfl) TTok rfl rfl, ?_⟩; conv => whnf)
              (refine ⟨_, Blk.lv (hp.get (i := 0) rfl) TTok rfl rfl, ?_⟩; conv => whnf)
              rw [if_neg (fun h => (by have := h.2.1; rw [show (decA s).2 = false from ho] at this; cases this))] at hD
              subst hD
              exact .inr ⟨by decide, rfl, hp.ext⟩
          · have h5 := of_decide_eq_false h5
            conv => whnf
            skip
            refine V.CallP.out ?_
            conv => arg 3; dsimp only [EV.val, List.toList_toArray, List.nil_append, List.append_nil, List.cons_append]
            refine V.CallP.use (must_fb rfl) ?_
            rintro _ w ⟨rfl, hx⟩
            refine Or.inr ⟨_, rfl, ?_⟩
            try (have hp := hp.call hx)
            conv => whnf
            refine ⟨⟨fun h => (by cases h), rfl⟩, CallsDIn.mono (def_caught hp rfl) ?_⟩
            rintro _ _ w ⟨rfl, x, rfl, hp⟩
            conv => whnf
            (refine ⟨_, Blk.lvN (hp.get (i := 1) rfl) TTok rfl rfl, ?_⟩; conv => whnf)
            (refine ⟨_, Blk.lv (hp.get (i := 0) rfl) TTok rfl rfl, ?_⟩; conv => whnf)
            rw [if_neg (fun h => (by have := h.1; simp only [Bool.and_eq_true, decide_eq_true_eq] at this; omega))] at hD
            subst hD
            exact .inr ⟨by decide, rfl, hp.ext⟩
        · have h4 := of_decide_eq_false h4
          conv => whnf
          refine hKq _ _ _ (.refl _) ?_
          clear hKq Kq
          conv => whnf
          skip
          refine V.CallP.out ?_
          conv => arg 3; dsimp only [EV.val, List.toList_toArray, List.nil_append, List.append_nil, List.cons_append]
          refine V.CallP.use (must_fb rfl) ?_
          rintro _ w ⟨rfl, hx⟩
          refine Or.inr ⟨_, rfl, ?_⟩
          try (have hp := hp.call hx)
          conv => whnf
          refine ⟨⟨fun h => (by cases h), rfl⟩, CallsDIn.mono (def_caught hp rfl) ?_⟩
          rintro _ _ w ⟨rfl, x, rfl, hp⟩
          conv => whnf
          (refine ⟨_, Blk.lvN (hp.get (i := 1) rfl) TTok rfl rfl, ?_⟩; conv => whnf)
          (refine ⟨_, Blk.lv (hp.get (i := 0) rfl) TTok rfl rfl, ?_⟩; conv => whnf)
          rw [if_neg (fun h => (by have := h.1; simp only [Bool.and_eq_true, decide_eq_true_eq] at this; omega))] at hD
          subst hD
          exact .inr ⟨by decide, rfl, hp.ext⟩
set_option maxHeartbeats 4000000
theorem beL_snoc (n v c : Nat) (h : c < 256) : beL (n + 1) (v * 256 + c) = beL n v ++ [UInt8.ofNat c] := by
  unfold beL
  rw [List.range_succ, List.map_append, List.map_cons, List.map_nil]
  congr 1
  · apply List.map_congr_left
    intro i hi
    have hi := List.mem_range.1 hi
    rw [show 8 * (n + 1 - 1 - i) = 8 * (n - 1 - i) + 8 by omega, Nat.pow_add, Nat.mul_comm (2 ^ (8 * (n - 1 - i))), ← Nat.div_div_eq_div_mul]
    congr 2
    omega
  · rw [show 8 * (n + 1 - 1 - n) = 0 by omega, Nat.pow_zero, Nat.div_one]
    congr 1
    apply UInt8.toNat_inj.1
    rw [UInt8.toNat_ofNat', UInt8.toNat_ofNat']
    omega
theorem numL_beL : ∀ (n v : Nat), v < 2 ^ (8 * n) → numL (beL n v) = v := by
  intro n
  induction n with
  | zero =>
    intro v h
    have : v = 0 := by simp at h; exact h
    subst this
    rfl
  | succ n ih =>
    intro v h
    have e : v = v / 256 * 256 + v % 256 := by omega
    rw [e, beL_snoc n _ _ (by omega), numL_snoc, ih (v / 256) (by
      rw [show 8 * (n + 1) = 8 * n + 8 by omega, Nat.pow_add] at h
      omega)]
    rw [UInt8.toNat_ofNat']
    omega
/-- octets in five pieces -/
theorem five (s : ByteArray) (h : 20 ≤ s.size) : s.data.toList = (s.extract 0 2).data.toList ++ ((s.extract 2 4).data.toList ++ ((s.extract 4 8).data.toList ++ ((s.extract 8 20).data.toList ++ (s.extract 20 s.size).data.toList))) := by
  have hl := toList_len s
  simp only [ext_toList]
  obtain ⟨L, hL⟩ : ∃ L, s.data.toList = L := ⟨_, rfl⟩
  rw [hL] at hl ⊢
  have g : ∀ a b, a ≤ b → L.drop a = (L.take b).drop a ++ L.drop b := fun a b hab => by
    conv => lhs; rw [← List.take_append_drop b L]
    rw [List.drop_append]
    congr 1
    rw [List.length_take]
    by_cases hb : b ≤ L.length
    · rw [Nat.min_eq_left hb, Nat.sub_eq_zero_of_le hab, List.drop_zero]
    · rw [List.drop_of_length_le (by omega : L.length ≤ b), List.drop_nil]
  rw [← hl, List.take_length, ← g 8 20 (by omega), ← g 4 8 (by omega), ← g 2 4 (by omega), ← g 0 2 (by omega), List.drop_zero]
theorem okD_iff (s : ByteArray) : okD s = true ↔ hdT s < 16384 ∧ numB (s.extract 4 8) = 554869826 ∧ s.size = 20 + numB (s.extract 2 4) := by
  unfold okD
  simp only [Bool.and_eq_true, decide_eq_true_eq]
theorem decC_iff (s : ByteArray) : decC s = 0 ↔ s.size ≤ 1200 ∧ 20 ≤ s.size ∧ okD s = true ∧ (decA s).2 = true ∧ stunB (clsN (hdT s)) (mthN (hdT s)) (s.extract 8 20) (decA s).1 = true := by
  unfold decC
  by_cases h1 : 1200 < s.size
  · rw [if_pos h1]; exact ⟨fun h => (by cases h), fun h => by omega⟩
  · rw [if_neg h1]
    by_cases h2 : s.size < 20
    · rw [if_pos h2]; exact ⟨fun h => (by cases h), fun h => by omega⟩
    · rw [if_neg h2]
      by_cases h3 : s.size < 20 + numB (s.extract 2 4)
      · rw [if_pos h3]; exact ⟨fun h => (by cases h), fun h => by have := ((okD_iff s).1 h.2.2.1).2.2; omega⟩
      · rw [if_neg h3]
        by_cases h4 : okD s = true ∧ (decA s).2 = true ∧ stunB (clsN (hdT s)) (mthN (hdT s)) (s.extract 8 20) (decA s).1 = true
        · rw [if_pos h4]; exact ⟨fun _ => ⟨by omega, by omega, h4⟩, fun _ => rfl⟩
        · rw [if_neg h4]; exact ⟨fun h => (by cases h), fun h => absurd h.2.2 h4⟩
/-- what is written is read -/
theorem dec_of {c m : Nat} {id : ByteArray} {al : List At2} (h : stunB c m id al = true) :
    decC (wrB c m id al 0) = 0 ∧ clsN (hdT (wrB c m id al 0)) = c ∧ mthN (hdT (wrB c m id al 0)) = m ∧ (wrB c m id al 0).extract 8 20 = id ∧ (decA (wrB c m id al 0)).1 = al := by
  obtain ⟨b1, b2, b3, b4, b5, b6, b7, b8⟩ := stunB_t h
  have hc : c < 4 := by omega
  have hm : m < 4096 := by omega
  have hk := kindN_bd c m
  obtain ⟨k1, k2⟩ := kind_inv hc hm
  have hsz := wrB_size c m id al 0
  obtain ⟨s, hs⟩ : ∃ s, wrB c m id al 0 = s := ⟨_, rfl⟩
  rw [hs] at hsz ⊢
  have hL : s.data.toList = beL 2 (kindN c m) ++ (beL 2 (sizeN al) ++ (beL 4 554869826 ++ (id.data.toList ++ attrsL al))) := by
    rw [← hs]; unfold wrB headL
    rw [mk_toList, Nat.add_zero]
    simp only [List.append_assoc]
  have hf := five s (by omega)
  rw [hL] at hf
  have hid := toList_len id
  have i0 := List.append_inj hf (by rw [beL_len, toList_len, ByteArray.size_extract]; omega)
  have i1 := List.append_inj i0.2 (by rw [beL_len, toList_len, ByteArray.size_extract]; omega)
  have i2 := List.append_inj i1.2 (by rw [beL_len, toList_len, ByteArray.size_extract]; omega)
  have i3 := List.append_inj i2.2 (by rw [toList_len, toList_len, ByteArray.size_extract]; omega)
  have t0 : hdT s = kindN c m := by unfold hdT numB; rw [← i0.1]; exact numL_beL 2 _ (by omega)
  have t1 : numB (s.extract 2 4) = sizeN al := by unfold numB; rw [← i1.1]; exact numL_beL 2 _ (by omega)
  have t2 : numB (s.extract 4 8) = 554869826 := by unfold numB; rw [← i2.1]; exact numL_beL 4 _ (by decide)
  have t3 : s.extract 8 20 = id := ba_eq i3.1.symm
  have t4 : decA s = (al, true) := by unfold decA; rw [← i3.2]; exact parse_attrs al fun a ha => fitA_of (b7 a ha)
  refine ⟨(decC_iff s).2 ⟨by omega, by omega, (okD_iff s).2 ⟨by omega, t2, by omega⟩, by rw [t4], ?_⟩, by rw [t0, k1], by rw [t0, k2], t3, by rw [t4]⟩
  rw [t0, t3, t4, k1, k2]
  exact h

set_option maxHeartbeats 1600000
/-! hexadecimal text -/
def hexD : List UInt8 := [48, 49, 50, 51, 52, 53, 54, 55, 56, 57, 97, 98, 99, 100, 101, 102]
theorem digits_p : PureF Tryz.prog 139 #[] (.agg (bytesV hexD).toArray) := by
  first | refine v_pure TTok FFok Tryz.func139 rfl rfl fun w0 => ?_ | refine v_pure (args := []) TTok FFok Tryz.func139 rfl rfl fun w0 => ?_
  conv => whnf
  refine VSeq.mk fun Kq hKq => ?_
  conv => whnf
  have hp := Hp.nil w0
  refine hp.kalloc z212 fun o w hp hx => ?_
  conv => whnf
  refine hKq _ _ _ (.refl _) ?_
  clear hKq Kq
  conv => whnf
  refine VSeq.mk fun Kq hKq => ?_
  conv => whnf
  refine hp.kmade (bytesV hexD) 5 (fun b => .slice (some ⟨b, 0, none⟩) 16 16) (by kernel_rfl) fun tb w hp hx => ?_
  conv => whnf
  refine hp.kfz TTok rfl rfl 0 rfl fun w hp => ?_
  conv => whnf
  refine ⟨_, _, run_arr TTok rfl (Nat.le_refl _), ?_⟩
  conv => whnf
  refine ⟨_, _, Blk.ldN (hp.get (i := 0) rfl) TTok rfl (by rfl), ?_⟩
  conv => whnf
  refine hp.kstA TTok rfl 1 rfl (by rfl) (one_bytes _) (by simp) fun w hp => ?_
  try simp only [List.set_cons_zero, List.set_cons_succ, EV.val] at hp
  conv => whnf
  refine hKq _ _ _ (.refl _) ?_
  clear hKq Kq
  conv => whnf
  exact ⟨_, Blk.lvN (hp.get (i := 1) rfl) TTok rfl (by rfl), rfl, hp.ext⟩
/-- hexadecimal digits -/
def hexL (s : List UInt8) : List UInt8 := s.flatMap fun x => [hexD.getD (x.toNat / 16) 0, hexD.getD (x.toNat % 16) 0]
theorem hexL_take (s : List UInt8) (j : Nat) (h : j < s.length) : hexL (s.take (j + 1)) = hexL (s.take j) ++ [hexD.getD (s[j].toNat / 16) 0, hexD.getD (s[j].toNat % 16) 0] := by
  rw [List.take_succ_eq_append_getElem h]; unfold hexL; rw [List.flatMap_append]; rfl
theorem hexD_get (i : Nat) (h : i < 16) : (bytesV hexD)[i]? = some (.int .u8 ((hexD.getD i 0).toNat : Nat)) := by
  refine bytesV_get ?_
  rw [List.getD_eq_getElem?_getD, List.getElem?_eq_getElem (by simpa [hexD] using h)]; rfl
theorem Hex_p (s : ByteArray) (hs : s.size ≤ 1000000) : PureF Tryz.prog 112 #[.string s] (.string ⟨(hexL s.data.toList).toArray⟩) := by
  have hsl : s.data.toList.length = s.size := by simp
  first | refine v_pure TTok FFok Tryz.func112 rfl rfl fun w0 => ?_ | refine v_pure (args := []) TTok FFok Tryz.func112 rfl rfl fun w0 => ?_
  conv => whnf
  refine VSeq.mk fun Kq hKq => ?_
  conv => whnf
  refine hKq _ _ _ (.refl _) ?_
  clear hKq Kq
  conv => whnf
  refine VSeq.mk fun Kq hKq => ?_
  conv => whnf
  have hp := Hp.nil w0
  refine PureF.use (digits_p) fun w hx => ?_
  try (have hp := hp.call hx)
  conv => whnf
  refine hp.kalloc z212 fun o w hp hx => ?_
  conv => whnf
  refine hp.kstA TTok rfl 0 rfl (by rfl) (one_bytes _) (by simp) fun w hp => ?_
  try simp only [List.set_cons_zero, List.set_cons_succ, EV.val] at hp
  conv => whnf
  refine hKq _ _ _ (.refl _) ?_
  clear hKq Kq
  conv => whnf
  refine VSeq.mk fun Kq hKq => ?_
  conv => whnf
  refine hKq _ _ _ (.refl _) ?_
  clear hKq Kq
  conv => whnf
  refine VSeq.mk fun Kq hKq => ?_
  conv => whnf
  refine VSeq.mk fun Kq hKq => ?_
  conv => whnf
  refine hKq _ _ _ (.refl _) ?_
  clear hKq Kq
  conv => whnf
  have hp := hp.knil 5 1
  clear hx
  refine ⟨fun m l w => ∃ (j : Nat) (v : Value), m + j = s.size ∧ l = [(0, .v (.string s)), (3, .v (.pointer (some ⟨o, 0, none⟩))), (4, .v v), (8, .v (.int .i64 s.size)), (9, .v (.int .i64 j))] ∧
      Hp w0 w [row 5 1 v (2 * j) (bytesV (hexL (s.data.toList.take j))), blk o (bytesV hexD) 212],
    ⟨s.size, _, ⟨0, _, by omega, rfl, hp⟩, sub_cons rfl (sub_cons rfl (sub_cons rfl (sub_cons rfl (sub_cons rfl sub_nil))))⟩, ?_⟩
  clear hp
  repeat clear hp
  rintro m _ w ⟨j, v, hm, rfl, hp⟩
  conv => whnf
  refine VSeq.mk fun Kq hKq => ?_
  conv => whnf
  refine hKq _ _ _ (.refl _) ?_
  clear hKq Kq
  conv => whnf
  refine VSeq.mk fun Kq hKq => ?_
  conv => whnf
  refine ⟨fun hlt => ?_, fun hlt => ?_⟩
  · have hlt := of_decide_eq_true hlt
    conv => whnf
    refine hKq _ _ _ (.refl _) ?_
    clear hKq Kq
    conv => whnf
    refine VSeq.mk fun Kq hKq => ?_
    conv => whnf
    refine VSeq.mk fun Kq hKq => ?_
    conv => whnf
    refine hKq _ _ _ (.refl _) ?_
    clear hKq Kq
    conv => whnf
    have hj : j < s.size := by omega
    have hjl : j < s.data.toList.length := by rw [hsl]; exact hj
    have hS : byt s j = (s.data.toList[j]).toNat := by unfold byt; simp [List.getD_eq_getElem?_getD, hj]
    have hX := s.data.toList[j].toNat_lt
    have htk := hexL_take s.data.toList j hjl
    generalize s.data.toList[j] = x at *
    have hand : byt s j &&& 15 = byt s j % 16 := Nat.and_two_pow_sub_one_eq_mod _ 4
    refine v_mix TTok FFok mixed 14 [(0, false), (1, false), (2, false), (3, false), (4, false), (5, false), (6, false), (7, false), (8, false), (9, false), (10, false), (11, false), (12, false), (13, true)] (by kernel_rfl) ?_
    conv => whnf
    refine ⟨j, ⟨by first | rfl | omega, by omega⟩, ?_⟩
    conv => whnf
    refine ⟨4, ⟨by first | rfl | omega, by omega⟩, ?_⟩
    conv => whnf
    refine ⟨x.toNat / 16, ⟨by first | rfl | omega, by omega⟩, ?_⟩
    conv => whnf
    refine ⟨_, fun w' hx' => Blk.ld (Blk.ext (hp.get (i := 1) rfl) hx') TTok rfl (hexD_get (x.toNat / 16) (by omega)), ?_⟩
    conv => whnf
    refine ⟨j, ⟨by first | rfl | omega, by omega⟩, ?_⟩
    conv => whnf
    refine ⟨byt s j, 15, x.toNat % 16, ⟨by first | rfl | omega, by first | rfl | omega, by omega, by omega⟩, by (dsimp only; rw [hand, hS]), ?_⟩
    conv => whnf
    refine ⟨x.toNat % 16, ⟨by first | rfl | omega, by omega⟩, ?_⟩
    conv => whnf
    refine ⟨_, fun w' hx' => Blk.ld (Blk.ext (hp.get (i := 1) rfl) hx') TTok rfl (hexD_get (x.toNat % 16) (by omega)), ?_⟩
    conv => whnf
    intro w hx
    try (have hp := hp.call hx)
    conv => whnf
    refine hp.kmade (bytesV [hexD.getD (x.toNat / 16) 0, hexD.getD (x.toNat % 16) 0]) 5 (fun b => .slice (some ⟨b, 0, none⟩) 2 2) (by kernel_rfl) fun tb w hp hx => ?_
    conv => whnf
    refine And.intro hx ?_
    conv => whnf
    intro w hx
    try (have hp := hp.call hx)
    conv => whnf
    refine hp.kapp (by kernel_rfl : slOk Tryz.prog 88 5 1 1 = true) 1 rfl (Blk.src TTok (hp.get (i := 0) rfl) rfl rfl (one_bytes _)) (by omega) (by unfold maxLen; omega) fun v' w hp => ?_
    simp only [List.set_cons_zero, List.set_cons_succ] at hp
    conv => whnf
    refine hKq _ _ _ (.refl _) ?_
    clear hKq Kq
    conv => whnf
    refine Or.inl (And.intro (by omega) ?_)
    conv => whnf
    refine ⟨m - 1, _, by omega, ⟨j + 1, v', by omega, rfl, ?_⟩, sub_cons rfl (sub_cons rfl (sub_cons rfl (sub_cons rfl (sub_cons rfl sub_nil))))⟩
    rw [htk, bytesV_app]; exact hp.tail
  · have hlt := of_decide_eq_false hlt
    conv => whnf
    clear hKq Kq
    refine hKq _ _ _ (.refl _) ?_
    clear hKq Kq
    conv => whnf
    refine VSeq.mk fun Kq hKq => ?_
    conv => whnf
    obtain rfl : j = s.size := by omega
    rw [List.take_of_length_le (by rw [hsl]; omega)] at hp
    refine ⟨_, _, row_str (hp.get (i := 0) rfl) TTok rfl rfl rfl, ?_⟩
    conv => whnf
    refine hKq _ _ _ (.refl _) ?_
    clear hKq Kq
    conv => whnf
    exact ⟨rfl, hp.ext⟩
set_option maxHeartbeats 3200000
set_option maxHeartbeats 6400000
end Go.Proofs.YtmlmfmdmomegpaaGreatDoor
