/- Chapter 27: lists of strings, copied, joined. -/
import Derived.Test.YtpiilfamfinieaaDoorC27D
import Derived.Test.YtpiilfamfinieaaDoorOB
namespace Go.Proofs.YtpiilfamfinieaaDoor
set_option linter.unusedSimpArgs false
set_option linter.unusedVariables false
open Go.RowKit V
theorem CloneS_c {W : World} {v : Value} (L : List ByteArray) (hv : SLv W v (sw L)) (hl : L.length ≤ 1000) :
    Calls Tryd.prog 12 #[v] W fun e w' => ∃ u, e = .returned u ∧ ∃ v', u = v' ∧ HpM [] W w' [row 9 1 v' L.length (sw L)] := by
  obtain ⟨p, c, rfl⟩ := hv.shape
  rw [sw_len] at hv ⊢
  refine v_fn (args := [.slice p L.length c]) TTok FFok (f := 12) rfl rfl (Nat.le_of_ble_eq_true rfl) ?_
  have hp := Hp.nil W
  conv => whnf
  refine VSeq.mk fun Kq hKq => ?_
  conv => whnf
  refine hKq _ _ _ (V.Sub.refl _) ?_
  clear hKq Kq
  conv => whnf
  refine VSeq.mk fun Kq hKq => ?_
  conv => whnf
  refine VSeq.mk fun Kq hKq => ?_
  conv => whnf
  cases p with
  | none =>
    refine ⟨.bool true, W, by kernel_rfl, ?_⟩
    conv => whnf
    refine hKq _ _ _ (V.Sub.refl _) ?_
    clear hKq Kq
    conv => whnf
    refine And.intro (fun _ => ?_) (fun h => by cases h)
    conv => whnf
    refine VSeq.mk fun Kq hKq => ?_
    conv => whnf
    refine hKq _ _ _ (V.Sub.refl _) ?_
    clear hKq Kq
    conv => whnf
    have hL : L = [] := by
      rcases hv with ⟨h, _⟩ | ⟨g, off, c', h, _⟩
      · cases L with
        | nil => rfl
        | cons _ _ => simp [sw] at h
      · simp at h
    subst hL
    exact ⟨_, rfl, hp.knil 9 1⟩
  | some a =>
    refine ⟨.bool false, W, by kernel_rfl, ?_⟩
    conv => whnf
    refine hKq _ _ _ (V.Sub.refl _) ?_
    clear hKq Kq
    conv => whnf
    refine And.intro (fun h => by cases h) (fun _ => ?_)
    conv => whnf
    refine hKq _ _ _ (V.Sub.refl _) ?_
    clear hKq Kq
    conv => whnf
    refine VSeq.mk fun Kq hKq => ?_
    conv => whnf
    refine hp.kmadeR [] 9 1 0 rfl (by decide) (by kernel_rfl) fun b w hp hx => ?_
    conv => whnf
    refine hp.kappE sl22 (SLv.src TTok (tx := 22) rfl (hv.ext hx) (sw_one _)) (by rw [sw_len]; omega) (by rw [sw_len]; unfold maxLen; omega) fun v' w hp _ => ?_
    rw [sw_len, Nat.zero_add, List.nil_append] at hp
    obtain ⟨p1, c1, rfl⟩ := row_shape (hp.get (i := 0) rfl)
    conv => whnf
    refine hKq _ _ _ (V.Sub.refl _) ?_
    clear hKq Kq
    conv => whnf
    exact ⟨_, rfl, hp⟩
theorem row_none {w : World} {e n : Nat} {p : Option Addr} {c : Nat} {xs : List Value} (h : (row e 1 (.slice p n c) n xs).holds w) : (row e 1 (.slice p 0 c) 0 []).holds w := by
  obtain ⟨h1, h2⟩ : w.ownsRow 0 e 1 (.slice p n c) n xs := h
  refine ⟨rfl, ?_⟩
  rcases h2 with ⟨hv, h0⟩ | ⟨g, cap, cur, hv, hb, hg, hn, hm, hs, ht⟩
  · simp only [Value.slice.injEq] at hv
    obtain ⟨rfl, rfl, rfl⟩ := hv
    exact .inl ⟨rfl, rfl⟩
  · simp only [Value.slice.injEq] at hv
    obtain ⟨rfl, _, rfl⟩ := hv
    exact .inr ⟨g, c, cur, rfl, hb, hg, Nat.zero_le _, hm, hs, by simp⟩
theorem GrowS_c {W : World} (n : Nat) (hn : n ≤ 1000) :
    Calls Tryd.prog 63 #[.slice none 0 0, .int .i64 n] W fun e w' => ∃ u, e = .returned u ∧ ∃ v', u = v' ∧ HpM [] W w' [row 9 1 v' 0 []] := by
  refine v_fn (args := [.slice none 0 0, .int .i64 n]) TTok FFok (f := 63) rfl rfl (Nat.le_of_ble_eq_true rfl) ?_
  have hp := (Hp.nil W).knil 9 1
  conv => whnf
  refine VSeq.mk fun Kq hKq => ?_
  conv => whnf
  refine hKq _ _ _ (V.Sub.refl _) ?_
  clear hKq Kq
  conv => whnf
  refine VSeq.mk fun Kq hKq => ?_
  conv => whnf
  refine VSeq.mk fun Kq hKq => ?_
  conv => whnf
  refine hKq _ _ _ (V.Sub.refl _) ?_
  clear hKq Kq
  conv => whnf
  refine And.intro (fun h => absurd (of_decide_eq_true h) ((by omega))) (fun _ => ?_)
  conv => whnf
  refine hKq _ _ _ (V.Sub.refl _) ?_
  clear hKq Kq
  conv => whnf
  refine VSeq.mk fun Kq hKq => ?_
  conv => whnf
  refine VSeq.mk fun Kq hKq => ?_
  conv => whnf
  refine ⟨.int .i64 0, W, by kernel_rfl, ?_⟩
  conv => whnf
  refine And.intro (by omega) ?_
  conv => whnf
  refine And.intro (by omega) ?_
  conv => whnf
  refine hKq _ _ _ (V.Sub.refl _) ?_
  clear hKq Kq
  conv => whnf
  refine VSeq.mk fun Kq hKq => ?_
  conv => whnf
  refine hKq _ _ _ (V.Sub.refl _) ?_
  clear hKq Kq
  conv => whnf
  rw [show ((n : Int) - (0 - ((0 : Nat) : Int))) = (n : Int) by simp]
  conv => whnf
  refine ⟨fun h0 => ?_, fun h0 => ?_⟩
  · have h0 := of_decide_eq_true h0
    conv => whnf
    refine ⟨.int .i64 0, W, by kernel_rfl, ?_⟩
    conv => whnf
    refine ⟨.slice none 0 0, W, by kernel_rfl, ?_⟩
    conv => whnf
    refine hp.kappZ sl22 z9 rfl 0 rfl (tab_int TTok rfl) (by omega) (by unfold maxLen; omega) (by omega) fun g gc w hp => ?_
    conv => whnf
    refine ⟨_, _, run_slice_hi TTok rfl rfl 0 (Nat.zero_le _), ?_⟩
    conv => whnf
    refine hKq _ _ _ (V.Sub.refl _) ?_
    clear hKq Kq
    conv => whnf
    refine VSeq.mk fun Kq hKq => ?_
    conv => whnf
    refine hKq _ _ _ (V.Sub.refl _) ?_
    clear hKq Kq
    conv => whnf
    have hr := row_none (hp.get (i := 0) rfl : (row _ 1 _ _ _).holds w)
    exact ⟨_, rfl, hp.upd (i := 0) rfl (ExtM.grownO (ExtM.refl _ _)) (row_ok _ _ _ _ _) hr (fun b hb => .inl hb)⟩
  · have h0 := of_decide_eq_false h0
    conv => whnf
    refine hKq _ _ _ (V.Sub.refl _) ?_
    clear hKq Kq
    conv => whnf
    refine VSeq.mk fun Kq hKq => ?_
    conv => whnf
    refine hKq _ _ _ (V.Sub.refl _) ?_
    clear hKq Kq
    conv => whnf
    exact ⟨_, rfl, hp⟩
theorem flat_take (Ls : List (List ByteArray)) (i : Nat) (L : List ByteArray) (h : Ls[i]? = some L) : (Ls.take (i + 1)).flatten = (Ls.take i).flatten ++ L := by
  rw [take_snoc h]; simp
theorem flat_le (Ls : List (List ByteArray)) (i : Nat) : (Ls.take i).flatten.length ≤ Ls.flatten.length := by
  have : Ls.flatten = (Ls.take i).flatten ++ (Ls.drop i).flatten := by rw [← List.flatten_append, List.take_append_drop]
  rw [this, List.length_append]; omega
theorem ConcatS_c {W : World} {V : Value} (Vs : List Value) (Ls : List (List ByteArray)) (hV : SLv W V Vs) (hn : Vs.length = Ls.length) (hh : ∀ (i : Nat) (v : Value), Vs[i]? = some v → ∃ L, Ls[i]? = some L ∧ SLv W v (sw L)) (hl : Ls.flatten.length ≤ 1000) (hl2 : Ls.length ≤ 1000) :
    Calls Tryd.prog 44 #[V] W fun e w' => ∃ u, e = .returned u ∧ ∃ v', u = v' ∧ HpM [] W w' [row 9 1 v' Ls.flatten.length (sw Ls.flatten)] := by
  obtain ⟨p, c, rfl⟩ := hV.shape
  refine v_fn (args := [.slice p Vs.length c]) TTok FFok (f := 44) rfl rfl (Nat.le_of_ble_eq_true rfl) ?_
  have hp := Hp.nil W
  conv => whnf
  refine VSeq.mk fun Kq hKq => ?_
  conv => whnf
  refine hKq _ _ _ (V.Sub.refl _) ?_
  clear hKq Kq
  conv => whnf
  refine VSeq.mk fun Kq hKq => ?_
  conv => whnf
  refine hKq _ _ _ (V.Sub.refl _) ?_
  clear hKq Kq
  conv => whnf
  refine VSeq.mk fun Kq hKq => ?_
  conv => whnf
  refine VSeq.mk fun Kq hKq => ?_
  conv => whnf
  refine hKq _ _ _ (V.Sub.refl _) ?_
  clear hKq Kq
  conv => whnf
  refine ⟨fun m l w => ∃ k : Nat, m + k = Vs.length ∧ l = [(0, .v (.slice p Vs.length c)), (3, .v (.int .i64 ((Ls.take k).flatten.length : Nat))), (9, .v (.slice p Vs.length c)), (10, .v (.int .i64 Vs.length)), (11, .v (.int .i64 k))] ∧ HpM [] W w [],
    ⟨Vs.length, _, ⟨0, rfl, rfl, hp⟩, sub_cons rfl (sub_cons (look_int rfl (by simp)) (sub_cons rfl (sub_cons rfl (sub_cons rfl sub_nil))))⟩, ?_⟩
  clear hp
  repeat clear hp
  rintro m _ w ⟨k, hm, rfl, hp⟩
  conv => whnf
  refine VSeq.mk fun Kq hKq => ?_
  conv => whnf
  refine hKq _ _ _ (V.Sub.refl _) ?_
  clear hKq Kq
  conv => whnf
  refine VSeq.mk fun Kq hKq => ?_
  conv => whnf
  have hle := flat_le Ls k
  refine ⟨fun hlt => ?_, fun hlt => ?_⟩
  · have hlt := of_decide_eq_true hlt
    conv => whnf
    refine hKq _ _ _ (V.Sub.refl _) ?_
    clear hKq Kq
    conv => whnf
    refine VSeq.mk fun Kq hKq => ?_
    conv => whnf
    refine VSeq.mk fun Kq hKq => ?_
    conv => whnf
    have hk : k < Vs.length := by omega
    have hxi : Vs[k]? = some Vs[k] := List.getElem?_eq_getElem hk
    obtain ⟨L, hL, hv⟩ := hh k _ hxi
    have hft := flat_take Ls k L hL
    have hle2 := flat_le Ls (k + 1)
    rw [hft, List.length_append] at hle2
    generalize Vs[k] = x at hxi hv
    obtain ⟨g, off, rfl, hcell⟩ := hV.at hxi
    obtain ⟨p1, c1, rfl⟩ := hv.shape
    rw [sw_len] at hv hxi hcell
    refine ⟨k, ⟨by first | rfl | omega, by omega⟩, ?_⟩
    conv => whnf
    refine ⟨_, _, run_ld TTok rfl (by rw [addM_eq, Nat.mul_one]; exact Ext.cell hp.ext hcell), ?_⟩
    conv => whnf
    refine hKq _ _ _ (V.Sub.refl _) ?_
    clear hKq Kq
    conv => whnf
    refine VSeq.mk fun Kq hKq => ?_
    conv => whnf
    refine And.intro (by omega) ?_
    conv => whnf
    refine hKq _ _ _ (V.Sub.refl _) ?_
    clear hKq Kq
    conv => whnf
    refine VSeq.mk fun Kq hKq => ?_
    conv => whnf
    refine hKq _ _ _ (V.Sub.refl _) ?_
    clear hKq Kq
    conv => whnf
    refine And.intro (fun h => absurd (of_decide_eq_true h) ((by omega))) (fun _ => ?_)
    conv => whnf
    refine hKq _ _ _ (V.Sub.refl _) ?_
    clear hKq Kq
    conv => whnf
    refine And.intro (by omega) ?_
    conv => whnf
    exact ⟨m - 1, _, by omega, ⟨k + 1, by omega, rfl, hp⟩, sub_cons rfl (sub_cons (look_int rfl (by rw [hft, List.length_append]; omega)) (sub_cons rfl (sub_cons rfl (sub_cons rfl sub_nil))))⟩
  · have hlt := of_decide_eq_false hlt
    conv => whnf
    clear hKq Kq
    refine hKq _ _ _ (V.Sub.refl _) ?_
    clear hKq Kq
    conv => whnf
    refine VSeq.mk fun Kq hKq => ?_
    conv => whnf
    obtain rfl : k = Vs.length := by omega
    have hall : Ls.take Vs.length = Ls := by rw [hn]; exact List.take_length
    rw [hall]
    clear hlt hm
    refine (GrowS_c Ls.flatten.length hl).mono ?_
    rintro e w ⟨u, rfl, v1, rfl, hq⟩
    refine ⟨_, rfl, ?_⟩
    have hp := hp.join hq
    obtain ⟨p2, c2, rfl⟩ := row_shape (hp.get (i := 0) rfl)
    conv => whnf
    refine hKq _ _ _ (V.Sub.refl _) ?_
    clear hKq Kq
    conv => whnf
    refine VSeq.mk fun Kq hKq => ?_
    conv => whnf
    refine VSeq.mk fun Kq hKq => ?_
    conv => whnf
    refine hKq _ _ _ (V.Sub.refl _) ?_
    clear hKq Kq
    conv => whnf
    refine ⟨fun m l w => ∃ (k : Nat) (rv : Value), m + k = Vs.length ∧ l = [(6, .v rv), (25, .v (.slice p Vs.length c)), (26, .v (.int .i64 Vs.length)), (27, .v (.int .i64 k))] ∧ HpM [] W w [row 9 1 rv (Ls.take k).flatten.length (sw (Ls.take k).flatten)],
      ⟨Vs.length, _, ⟨0, _, rfl, rfl, hp⟩, sub_cons rfl (sub_cons rfl (sub_cons rfl (sub_cons rfl sub_nil)))⟩, ?_⟩
    clear hp
    repeat clear hp
    rintro m _ w ⟨k, rv, hm, rfl, hp⟩
    conv => whnf
    refine VSeq.mk fun Kq hKq => ?_
    conv => whnf
    refine hKq _ _ _ (V.Sub.refl _) ?_
    clear hKq Kq
    conv => whnf
    refine VSeq.mk fun Kq hKq => ?_
    conv => whnf
    have hle := flat_le Ls k
    refine ⟨fun hlt2 => ?_, fun hlt2 => ?_⟩
    · have hlt2 := of_decide_eq_true hlt2
      conv => whnf
      refine hKq _ _ _ (V.Sub.refl _) ?_
      clear hKq Kq
      conv => whnf
      refine VSeq.mk fun Kq hKq => ?_
      conv => whnf
      refine VSeq.mk fun Kq hKq => ?_
      conv => whnf
      have hk : k < Vs.length := by omega
      have hxi : Vs[k]? = some Vs[k] := List.getElem?_eq_getElem hk
      obtain ⟨L, hL, hv⟩ := hh k _ hxi
      have hft := flat_take Ls k L hL
      have hle2 := flat_le Ls (k + 1)
      rw [hft, List.length_append] at hle2
      generalize Vs[k] = x at hxi hv
      obtain ⟨g, off, rfl, hcell⟩ := hV.at hxi
      obtain ⟨p1, c1, rfl⟩ := hv.shape
      rw [sw_len] at hv hxi hcell
      refine ⟨k, ⟨by first | rfl | omega, by omega⟩, ?_⟩
      conv => whnf
      refine ⟨_, _, run_ld TTok rfl (by rw [addM_eq, Nat.mul_one]; exact Ext.cell hp.ext hcell), ?_⟩
      conv => whnf
      refine hKq _ _ _ (V.Sub.refl _) ?_
      clear hKq Kq
      conv => whnf
      refine hp.kapp sl22 0 rfl (SLv.src TTok (tx := 22) rfl (hv.ext hp.ext) (sw_one _)) (by rw [sw_len]; omega) (by rw [sw_len]; unfold maxLen; omega) fun v3 w hp => ?_
      simp only [List.set_cons_zero] at hp
      rw [sw_len, ← List.length_append, ← sw_app, ← hft] at hp
      conv => whnf
      refine hKq _ _ _ (V.Sub.refl _) ?_
      clear hKq Kq
      conv => whnf
      refine And.intro (by omega) ?_
      conv => whnf
      exact ⟨m - 1, _, by omega, ⟨k + 1, v3, by omega, rfl, hp⟩, sub_cons rfl (sub_cons rfl (sub_cons rfl (sub_cons rfl sub_nil)))⟩
    · have hlt2 := of_decide_eq_false hlt2
      conv => whnf
      clear hKq Kq
      refine hKq _ _ _ (V.Sub.refl _) ?_
      clear hKq Kq
      conv => whnf
      refine VSeq.mk fun Kq hKq => ?_
      conv => whnf
      refine hKq _ _ _ (V.Sub.refl _) ?_
      clear hKq Kq
      conv => whnf
      obtain rfl : k = Vs.length := by omega
      rw [hall] at hp
      exact ⟨_, rfl, hp⟩
end Go.Proofs.YtpiilfamfinieaaDoor
