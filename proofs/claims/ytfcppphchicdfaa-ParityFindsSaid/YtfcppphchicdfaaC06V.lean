/- Chapter 06: Xor agrees with the reference. -/
import Derived.Test.YtfcppphchicdfaaC06W
import Derived.Test.YtfcppphchicdfaaX2
namespace Go.Proofs.Ytfcppphchicdfaa
set_option linter.unusedSimpArgs false
set_option linter.unusedVariables false
open Go.RowKit V

theorem cutX_p (s : ByteArray) : PureF Try.prog 11 #[.string s] (.string (cutn s 200)) := by
  first | refine v_pure TTok FFok Try.func11 rfl rfl fun w0 => ?_ | refine v_pure (args := []) TTok FFok Try.func11 rfl rfl fun w0 => ?_
  conv => whnf
  repeat (first | (refine VSeq.mk fun Kq hKq => ?_; conv => whnf) | (refine hKq _ _ _ (V.Sub.refl _) ?_; clear hKq Kq; conv => whnf) | (clear hKq Kq; refine hKq _ _ _ (V.Sub.refl _) ?_; clear hKq Kq; conv => whnf) | (clear hKq Kq; clear hKq Kq; refine hKq _ _ _ (V.Sub.refl _) ?_; clear hKq Kq; conv => whnf) | (clear hKq Kq; clear hKq Kq; clear hKq Kq; refine hKq _ _ _ (V.Sub.refl _) ?_; clear hKq Kq; conv => whnf) | (clear hKq Kq; clear hKq Kq; clear hKq Kq; clear hKq Kq; refine hKq _ _ _ (V.Sub.refl _) ?_; clear hKq Kq; conv => whnf) | (clear hKq Kq; clear hKq Kq; clear hKq Kq; clear hKq Kq; clear hKq Kq; refine hKq _ _ _ (V.Sub.refl _) ?_; clear hKq Kq; conv => whnf) | (refine And.intro (by omega) ?_; conv => whnf))
  refine ⟨min s.size 200, ⟨by first | rfl | omega, by omega⟩, ?_⟩
  conv => whnf
  repeat (first | (refine VSeq.mk fun Kq hKq => ?_; conv => whnf) | (refine hKq _ _ _ (V.Sub.refl _) ?_; clear hKq Kq; conv => whnf) | (clear hKq Kq; refine hKq _ _ _ (V.Sub.refl _) ?_; clear hKq Kq; conv => whnf) | (clear hKq Kq; clear hKq Kq; refine hKq _ _ _ (V.Sub.refl _) ?_; clear hKq Kq; conv => whnf) | (clear hKq Kq; clear hKq Kq; clear hKq Kq; refine hKq _ _ _ (V.Sub.refl _) ?_; clear hKq Kq; conv => whnf) | (clear hKq Kq; clear hKq Kq; clear hKq Kq; clear hKq Kq; refine hKq _ _ _ (V.Sub.refl _) ?_; clear hKq Kq; conv => whnf) | (clear hKq Kq; clear hKq Kq; clear hKq Kq; clear hKq Kq; clear hKq Kq; refine hKq _ _ _ (V.Sub.refl _) ?_; clear hKq Kq; conv => whnf) | (refine And.intro (by omega) ?_; conv => whnf))
  exact ⟨rfl, Ext.refl _⟩
theorem sw_take (L : List ByteArray) (n : Nat) : (sw L).take n = sw (L.take n) := by simp [sw, List.map_take]
theorem sw_drop (L : List ByteArray) (n : Nat) : (sw L).drop n = sw (L.drop n) := by simp [sw, List.map_drop]
/-- a list that is changed place by place, as far as i -/
def chg {α : Type} (f : α → α) (L : List α) (i : Nat) : List α := (L.take i).map f ++ L.drop i
theorem chg_len {α : Type} (f : α → α) (L : List α) (i : Nat) : (chg f L i).length = L.length := by simp [chg]; omega
theorem chg_get {α : Type} (f : α → α) (L : List α) (i : Nat) {x : α} (h : L[i]? = some x) : (chg f L i)[i]? = some x := by
  have hi := (List.getElem?_eq_some_iff.1 h).1
  unfold chg
  rw [List.getElem?_append_right (by simp; omega), List.getElem?_drop]
  simp only [List.length_map, List.length_take]
  rw [show i + (i - min i L.length) = i by omega]; exact h
theorem chg_set {α : Type} (f : α → α) (L : List α) (i : Nat) {x : α} (h : L[i]? = some x) : (chg f L i).set i (f x) = chg f L (i + 1) := by
  have hi := (List.getElem?_eq_some_iff.1 h).1
  unfold chg
  rw [take_snoc h, List.map_append, List.set_append_right _ _ (by simp; omega)]
  have : i - ((L.take i).map f).length = 0 := by simp; omega
  rw [this, List.drop_eq_getElem_cons hi]
  simp only [List.set_cons_zero, List.append_assoc, List.cons_append, List.nil_append, List.map_cons, List.map_nil]
theorem chg_all {α : Type} (f : α → α) (L : List α) : chg f L L.length = L.map f := by simp [chg]
theorem two_at (u v : Value) (hu : u.oneCell' = true) (hv : v.oneCell' = true) (j : Nat) (hj : j < 2) : ∃ x, (x = u ∨ x = v) ∧
    ∀ w, (Instr.index 44 (.agg #[u, v]) (.int .i64 (j : Nat))).run Try.prog w = .ok x w := by
  rcases (by omega : j = 0 ∨ j = 1) with rfl | rfl
  · exact ⟨u, .inl rfl, fun w => by kernel_rfl⟩
  · exact ⟨v, .inr rfl, fun w => by kernel_rfl⟩
def noF (Q : List ByteArray) (i : Nat) : Int := if (decide (64 < Q.length) || (Q.take i).any fun x => decide (1200 < x.size)) = true then 3 else 0
theorem noF_all (Q : List ByteArray) : noF Q Q.length = if tooL Q = true then 3 else 0 := by unfold noF tooL; rw [List.take_length]
theorem noF_snoc (Q : List ByteArray) (i : Nat) {x : ByteArray} (h : Q[i]? = some x) : noF Q (i + 1) = if 1200 < x.size then 3 else noF Q i := by
  unfold noF
  rw [take_snoc h, List.any_append]
  by_cases hx : 1200 < x.size
  · simp [hx]
  · simp [hx]
set_option maxHeartbeats 8000000 in
theorem xors_law {W : World} {v : Value} (L : List ByteArray) (hv : SLv W v (sw L)) (n at_ : Nat) (hn : n < 65536) (ha : at_ < 256) :
    Calls Try.prog 5 #[v, .int .u16 n, .int .u8 at_] W fun e w' => e = .returned (.bool true) ∧ Ext W w' := by
  obtain ⟨v', hrun, hv'⟩ := SLv.hi TTok (t := 29) rfl rfl hv (min L.length 66) (by rw [sw_len]; omega)
  obtain ⟨p, c, rfl⟩ := hv.shape
  rw [sw_len] at hrun ⊢
  have hmin : min (L.length : Int) 66 = ((min L.length 66 : Nat) : Int) := by omega
  rw [sw_take] at hv'
  have hMl : (L.take (min L.length 66)).length ≤ 66 := by rw [List.length_take]; omega
  generalize L.take (min L.length 66) = M at hv' hMl
  refine v_reads TTok FFok Try.func5 rfl rfl ?_
  conv => whnf
  repeat (first | (refine VSeq.mk fun Kq hKq => ?_; conv => whnf) | (refine hKq _ _ _ (V.Sub.refl _) ?_; clear hKq Kq; conv => whnf) | (clear hKq Kq; refine hKq _ _ _ (V.Sub.refl _) ?_; clear hKq Kq; conv => whnf) | (clear hKq Kq; clear hKq Kq; refine hKq _ _ _ (V.Sub.refl _) ?_; clear hKq Kq; conv => whnf) | (clear hKq Kq; clear hKq Kq; clear hKq Kq; refine hKq _ _ _ (V.Sub.refl _) ?_; clear hKq Kq; conv => whnf) | (clear hKq Kq; clear hKq Kq; clear hKq Kq; clear hKq Kq; refine hKq _ _ _ (V.Sub.refl _) ?_; clear hKq Kq; conv => whnf) | (clear hKq Kq; clear hKq Kq; clear hKq Kq; clear hKq Kq; clear hKq Kq; refine hKq _ _ _ (V.Sub.refl _) ?_; clear hKq Kq; conv => whnf) | (refine And.intro (by omega) ?_; conv => whnf))
  have hp := Hp.nil W
  refine PureF.use (works_p) fun w hx => ?_
  try (have hp := hp.call hx)
  conv => whnf
  repeat (first | (refine VSeq.mk fun Kq hKq => ?_; conv => whnf) | (refine hKq _ _ _ (V.Sub.refl _) ?_; clear hKq Kq; conv => whnf) | (clear hKq Kq; refine hKq _ _ _ (V.Sub.refl _) ?_; clear hKq Kq; conv => whnf) | (clear hKq Kq; clear hKq Kq; refine hKq _ _ _ (V.Sub.refl _) ?_; clear hKq Kq; conv => whnf) | (clear hKq Kq; clear hKq Kq; clear hKq Kq; refine hKq _ _ _ (V.Sub.refl _) ?_; clear hKq Kq; conv => whnf) | (clear hKq Kq; clear hKq Kq; clear hKq Kq; clear hKq Kq; refine hKq _ _ _ (V.Sub.refl _) ?_; clear hKq Kq; conv => whnf) | (clear hKq Kq; clear hKq Kq; clear hKq Kq; clear hKq Kq; clear hKq Kq; refine hKq _ _ _ (V.Sub.refl _) ?_; clear hKq Kq; conv => whnf) | (refine And.intro (by omega) ?_; conv => whnf))
  refine And.intro (fun h => by cases h) (fun _ => ?_)
  conv => whnf
  repeat (first | (refine VSeq.mk fun Kq hKq => ?_; conv => whnf) | (refine hKq _ _ _ (V.Sub.refl _) ?_; clear hKq Kq; conv => whnf) | (clear hKq Kq; refine hKq _ _ _ (V.Sub.refl _) ?_; clear hKq Kq; conv => whnf) | (clear hKq Kq; clear hKq Kq; refine hKq _ _ _ (V.Sub.refl _) ?_; clear hKq Kq; conv => whnf) | (clear hKq Kq; clear hKq Kq; clear hKq Kq; refine hKq _ _ _ (V.Sub.refl _) ?_; clear hKq Kq; conv => whnf) | (clear hKq Kq; clear hKq Kq; clear hKq Kq; clear hKq Kq; refine hKq _ _ _ (V.Sub.refl _) ?_; clear hKq Kq; conv => whnf) | (clear hKq Kq; clear hKq Kq; clear hKq Kq; clear hKq Kq; clear hKq Kq; refine hKq _ _ _ (V.Sub.refl _) ?_; clear hKq Kq; conv => whnf) | (refine And.intro (by omega) ?_; conv => whnf))
  refine hp.kmadeR [] 9 1 0 rfl (by decide) (by kernel_rfl) fun b w hp hx => ?_
  conv => whnf
  repeat (first | (refine VSeq.mk fun Kq hKq => ?_; conv => whnf) | (refine hKq _ _ _ (V.Sub.refl _) ?_; clear hKq Kq; conv => whnf) | (clear hKq Kq; refine hKq _ _ _ (V.Sub.refl _) ?_; clear hKq Kq; conv => whnf) | (clear hKq Kq; clear hKq Kq; refine hKq _ _ _ (V.Sub.refl _) ?_; clear hKq Kq; conv => whnf) | (clear hKq Kq; clear hKq Kq; clear hKq Kq; refine hKq _ _ _ (V.Sub.refl _) ?_; clear hKq Kq; conv => whnf) | (clear hKq Kq; clear hKq Kq; clear hKq Kq; clear hKq Kq; refine hKq _ _ _ (V.Sub.refl _) ?_; clear hKq Kq; conv => whnf) | (clear hKq Kq; clear hKq Kq; clear hKq Kq; clear hKq Kq; clear hKq Kq; refine hKq _ _ _ (V.Sub.refl _) ?_; clear hKq Kq; conv => whnf) | (refine And.intro (by omega) ?_; conv => whnf))
  rw [hmin]
  refine ⟨_, _, hrun _ _, ?_⟩
  conv => whnf
  repeat (first | (refine VSeq.mk fun Kq hKq => ?_; conv => whnf) | (refine hKq _ _ _ (V.Sub.refl _) ?_; clear hKq Kq; conv => whnf) | (clear hKq Kq; refine hKq _ _ _ (V.Sub.refl _) ?_; clear hKq Kq; conv => whnf) | (clear hKq Kq; clear hKq Kq; refine hKq _ _ _ (V.Sub.refl _) ?_; clear hKq Kq; conv => whnf) | (clear hKq Kq; clear hKq Kq; clear hKq Kq; refine hKq _ _ _ (V.Sub.refl _) ?_; clear hKq Kq; conv => whnf) | (clear hKq Kq; clear hKq Kq; clear hKq Kq; clear hKq Kq; refine hKq _ _ _ (V.Sub.refl _) ?_; clear hKq Kq; conv => whnf) | (clear hKq Kq; clear hKq Kq; clear hKq Kq; clear hKq Kq; clear hKq Kq; refine hKq _ _ _ (V.Sub.refl _) ?_; clear hKq Kq; conv => whnf) | (refine And.intro (by omega) ?_; conv => whnf))
  refine hp.kapp sl29 0 rfl (SLv.src TTok (tx := 29) rfl (hv'.ext hp.ext) (sw_one _)) (by rw [sw_len]; omega) (by rw [sw_len]; unfold maxLen; omega) fun u w hp => ?_
  simp only [List.set_cons_zero, sw_len, Nat.zero_add, List.nil_append] at hp
  obtain ⟨up, uc, rfl⟩ := row_shape (hp.get (i := 0) rfl)
  conv => whnf
  repeat (first | (refine VSeq.mk fun Kq hKq => ?_; conv => whnf) | (refine hKq _ _ _ (V.Sub.refl _) ?_; clear hKq Kq; conv => whnf) | (clear hKq Kq; refine hKq _ _ _ (V.Sub.refl _) ?_; clear hKq Kq; conv => whnf) | (clear hKq Kq; clear hKq Kq; refine hKq _ _ _ (V.Sub.refl _) ?_; clear hKq Kq; conv => whnf) | (clear hKq Kq; clear hKq Kq; clear hKq Kq; refine hKq _ _ _ (V.Sub.refl _) ?_; clear hKq Kq; conv => whnf) | (clear hKq Kq; clear hKq Kq; clear hKq Kq; clear hKq Kq; refine hKq _ _ _ (V.Sub.refl _) ?_; clear hKq Kq; conv => whnf) | (clear hKq Kq; clear hKq Kq; clear hKq Kq; clear hKq Kq; clear hKq Kq; refine hKq _ _ _ (V.Sub.refl _) ?_; clear hKq Kq; conv => whnf) | (refine And.intro (by omega) ?_; conv => whnf))
  refine ⟨fun m l w => ∃ (i : Nat), m + i = M.length ∧ l = [(0, .v (.slice up M.length uc)), (1, .v (.int .u16 n)), (2, .v (.int .u8 at_)), (27, .v (.int .i64 M.length)), (28, .v (.int .i64 i))] ∧ Hp W w [row 9 1 (.slice up M.length uc) M.length (sw (chg (cutn · 200) M i))],
    ⟨M.length, _, ⟨0, by omega, rfl, by simpa [chg] using hp⟩, sub_cons rfl (sub_cons rfl (sub_cons rfl (sub_cons rfl (sub_cons rfl sub_nil))))⟩, ?_⟩
  clear hp
  repeat clear hp
  rintro m _ w ⟨i, hm, rfl, hp⟩
  conv => whnf
  repeat (first | (refine VSeq.mk fun Kq hKq => ?_; conv => whnf) | (refine hKq _ _ _ (V.Sub.refl _) ?_; clear hKq Kq; conv => whnf) | (clear hKq Kq; refine hKq _ _ _ (V.Sub.refl _) ?_; clear hKq Kq; conv => whnf) | (clear hKq Kq; clear hKq Kq; refine hKq _ _ _ (V.Sub.refl _) ?_; clear hKq Kq; conv => whnf) | (clear hKq Kq; clear hKq Kq; clear hKq Kq; refine hKq _ _ _ (V.Sub.refl _) ?_; clear hKq Kq; conv => whnf) | (clear hKq Kq; clear hKq Kq; clear hKq Kq; clear hKq Kq; refine hKq _ _ _ (V.Sub.refl _) ?_; clear hKq Kq; conv => whnf) | (clear hKq Kq; clear hKq Kq; clear hKq Kq; clear hKq Kq; clear hKq Kq; refine hKq _ _ _ (V.Sub.refl _) ?_; clear hKq Kq; conv => whnf) | (refine And.intro (by omega) ?_; conv => whnf))
  refine ⟨fun hlt => ?_, fun hlt => ?_⟩
  · have hlt := of_decide_eq_true hlt
    conv => whnf
    repeat (first | (refine VSeq.mk fun Kq hKq => ?_; conv => whnf) | (refine hKq _ _ _ (V.Sub.refl _) ?_; clear hKq Kq; conv => whnf) | (clear hKq Kq; refine hKq _ _ _ (V.Sub.refl _) ?_; clear hKq Kq; conv => whnf) | (clear hKq Kq; clear hKq Kq; refine hKq _ _ _ (V.Sub.refl _) ?_; clear hKq Kq; conv => whnf) | (clear hKq Kq; clear hKq Kq; clear hKq Kq; refine hKq _ _ _ (V.Sub.refl _) ?_; clear hKq Kq; conv => whnf) | (clear hKq Kq; clear hKq Kq; clear hKq Kq; clear hKq Kq; refine hKq _ _ _ (V.Sub.refl _) ?_; clear hKq Kq; conv => whnf) | (clear hKq Kq; clear hKq Kq; clear hKq Kq; clear hKq Kq; clear hKq Kq; refine hKq _ _ _ (V.Sub.refl _) ?_; clear hKq Kq; conv => whnf) | (refine And.intro (by omega) ?_; conv => whnf))
    have hi : i < M.length := by omega
    have hxi : M[i]? = some M[i] := List.getElem?_eq_getElem hi
    generalize M[i] = x at hxi
    obtain ⟨g, uc', hu⟩ := row_form (hp.get (i := 0) rfl) (by omega)
    simp only [Value.slice.injEq, true_and] at hu
    obtain ⟨rfl, rfl⟩ := hu
    refine ⟨i, ⟨by first | rfl | omega, by omega⟩, ?_⟩
    conv => whnf
    repeat (first | (refine VSeq.mk fun Kq hKq => ?_; conv => whnf) | (refine hKq _ _ _ (V.Sub.refl _) ?_; clear hKq Kq; conv => whnf) | (clear hKq Kq; refine hKq _ _ _ (V.Sub.refl _) ?_; clear hKq Kq; conv => whnf) | (clear hKq Kq; clear hKq Kq; refine hKq _ _ _ (V.Sub.refl _) ?_; clear hKq Kq; conv => whnf) | (clear hKq Kq; clear hKq Kq; clear hKq Kq; refine hKq _ _ _ (V.Sub.refl _) ?_; clear hKq Kq; conv => whnf) | (clear hKq Kq; clear hKq Kq; clear hKq Kq; clear hKq Kq; refine hKq _ _ _ (V.Sub.refl _) ?_; clear hKq Kq; conv => whnf) | (clear hKq Kq; clear hKq Kq; clear hKq Kq; clear hKq Kq; clear hKq Kq; refine hKq _ _ _ (V.Sub.refl _) ?_; clear hKq Kq; conv => whnf) | (refine And.intro (by omega) ?_; conv => whnf))
    refine ⟨_, _, run_ld TTok rfl (by rw [addM_eq, Nat.mul_one, Nat.zero_add]; exact row_cell (hp.get (i := 0) rfl) (sw_get (chg_get _ _ _ hxi))), ?_⟩
    conv => whnf
    repeat (first | (refine VSeq.mk fun Kq hKq => ?_; conv => whnf) | (refine hKq _ _ _ (V.Sub.refl _) ?_; clear hKq Kq; conv => whnf) | (clear hKq Kq; refine hKq _ _ _ (V.Sub.refl _) ?_; clear hKq Kq; conv => whnf) | (clear hKq Kq; clear hKq Kq; refine hKq _ _ _ (V.Sub.refl _) ?_; clear hKq Kq; conv => whnf) | (clear hKq Kq; clear hKq Kq; clear hKq Kq; refine hKq _ _ _ (V.Sub.refl _) ?_; clear hKq Kq; conv => whnf) | (clear hKq Kq; clear hKq Kq; clear hKq Kq; clear hKq Kq; refine hKq _ _ _ (V.Sub.refl _) ?_; clear hKq Kq; conv => whnf) | (clear hKq Kq; clear hKq Kq; clear hKq Kq; clear hKq Kq; clear hKq Kq; refine hKq _ _ _ (V.Sub.refl _) ?_; clear hKq Kq; conv => whnf) | (refine And.intro (by omega) ?_; conv => whnf))
    refine PureF.use (cutX_p x) fun w hx => ?_
    try (have hp := hp.call hx)
    conv => whnf
    repeat (first | (refine VSeq.mk fun Kq hKq => ?_; conv => whnf) | (refine hKq _ _ _ (V.Sub.refl _) ?_; clear hKq Kq; conv => whnf) | (clear hKq Kq; refine hKq _ _ _ (V.Sub.refl _) ?_; clear hKq Kq; conv => whnf) | (clear hKq Kq; clear hKq Kq; refine hKq _ _ _ (V.Sub.refl _) ?_; clear hKq Kq; conv => whnf) | (clear hKq Kq; clear hKq Kq; clear hKq Kq; refine hKq _ _ _ (V.Sub.refl _) ?_; clear hKq Kq; conv => whnf) | (clear hKq Kq; clear hKq Kq; clear hKq Kq; clear hKq Kq; refine hKq _ _ _ (V.Sub.refl _) ?_; clear hKq Kq; conv => whnf) | (clear hKq Kq; clear hKq Kq; clear hKq Kq; clear hKq Kq; clear hKq Kq; refine hKq _ _ _ (V.Sub.refl _) ?_; clear hKq Kq; conv => whnf) | (refine And.intro (by omega) ?_; conv => whnf))
    refine ⟨i, ⟨by first | rfl | omega, by omega⟩, ?_⟩
    conv => whnf
    repeat (first | (refine VSeq.mk fun Kq hKq => ?_; conv => whnf) | (refine hKq _ _ _ (V.Sub.refl _) ?_; clear hKq Kq; conv => whnf) | (clear hKq Kq; refine hKq _ _ _ (V.Sub.refl _) ?_; clear hKq Kq; conv => whnf) | (clear hKq Kq; clear hKq Kq; refine hKq _ _ _ (V.Sub.refl _) ?_; clear hKq Kq; conv => whnf) | (clear hKq Kq; clear hKq Kq; clear hKq Kq; refine hKq _ _ _ (V.Sub.refl _) ?_; clear hKq Kq; conv => whnf) | (clear hKq Kq; clear hKq Kq; clear hKq Kq; clear hKq Kq; refine hKq _ _ _ (V.Sub.refl _) ?_; clear hKq Kq; conv => whnf) | (clear hKq Kq; clear hKq Kq; clear hKq Kq; clear hKq Kq; clear hKq Kq; refine hKq _ _ _ (V.Sub.refl _) ?_; clear hKq Kq; conv => whnf) | (refine And.intro (by omega) ?_; conv => whnf))
    refine hp.kstR TTok rfl 0 rfl (off := addM 0 i 1) (by rw [addM_eq]; omega) rfl rfl fun w1 hp => ?_
    simp only [List.set_cons_zero] at hp
    rw [addM_eq, Nat.mul_one, Nat.zero_add, sw_set, chg_set _ _ _ hxi] at hp
    conv => whnf
    repeat (first | (refine VSeq.mk fun Kq hKq => ?_; conv => whnf) | (refine hKq _ _ _ (V.Sub.refl _) ?_; clear hKq Kq; conv => whnf) | (clear hKq Kq; refine hKq _ _ _ (V.Sub.refl _) ?_; clear hKq Kq; conv => whnf) | (clear hKq Kq; clear hKq Kq; refine hKq _ _ _ (V.Sub.refl _) ?_; clear hKq Kq; conv => whnf) | (clear hKq Kq; clear hKq Kq; clear hKq Kq; refine hKq _ _ _ (V.Sub.refl _) ?_; clear hKq Kq; conv => whnf) | (clear hKq Kq; clear hKq Kq; clear hKq Kq; clear hKq Kq; refine hKq _ _ _ (V.Sub.refl _) ?_; clear hKq Kq; conv => whnf) | (clear hKq Kq; clear hKq Kq; clear hKq Kq; clear hKq Kq; clear hKq Kq; refine hKq _ _ _ (V.Sub.refl _) ?_; clear hKq Kq; conv => whnf) | (refine And.intro (by omega) ?_; conv => whnf))
    exact ⟨m - 1, _, by omega, ⟨i + 1, by omega, rfl, hp⟩, sub_cons rfl (sub_cons rfl (sub_cons rfl (sub_cons rfl (sub_cons rfl sub_nil))))⟩
  · have hlt := of_decide_eq_false hlt
    conv => whnf
    repeat (first | (refine VSeq.mk fun Kq hKq => ?_; conv => whnf) | (refine hKq _ _ _ (V.Sub.refl _) ?_; clear hKq Kq; conv => whnf) | (clear hKq Kq; refine hKq _ _ _ (V.Sub.refl _) ?_; clear hKq Kq; conv => whnf) | (clear hKq Kq; clear hKq Kq; refine hKq _ _ _ (V.Sub.refl _) ?_; clear hKq Kq; conv => whnf) | (clear hKq Kq; clear hKq Kq; clear hKq Kq; refine hKq _ _ _ (V.Sub.refl _) ?_; clear hKq Kq; conv => whnf) | (clear hKq Kq; clear hKq Kq; clear hKq Kq; clear hKq Kq; refine hKq _ _ _ (V.Sub.refl _) ?_; clear hKq Kq; conv => whnf) | (clear hKq Kq; clear hKq Kq; clear hKq Kq; clear hKq Kq; clear hKq Kq; refine hKq _ _ _ (V.Sub.refl _) ?_; clear hKq Kq; conv => whnf) | (refine And.intro (by omega) ?_; conv => whnf))
    obtain rfl : i = M.length := by omega
    rw [chg_all] at hp
    have hCl : (M.map (cutn · 200)).length = M.length := by simp
    have hCs : ∀ y ∈ M.map (cutn · 200), y.size ≤ 200 := by
      intro y hy
      obtain ⟨z, _, rfl⟩ := List.mem_map.1 hy
      exact cutn_size _ _
    rw [← hCl] at hMl hp ⊢
    generalize M.map (cutn · 200) = C at *
    clear hCl
    refine hp.kmadeR [] 9 1 0 rfl (by decide) (by kernel_rfl) fun b2 w hp hx => ?_
    conv => whnf
    repeat (first | (refine VSeq.mk fun Kq hKq => ?_; conv => whnf) | (refine hKq _ _ _ (V.Sub.refl _) ?_; clear hKq Kq; conv => whnf) | (clear hKq Kq; refine hKq _ _ _ (V.Sub.refl _) ?_; clear hKq Kq; conv => whnf) | (clear hKq Kq; clear hKq Kq; refine hKq _ _ _ (V.Sub.refl _) ?_; clear hKq Kq; conv => whnf) | (clear hKq Kq; clear hKq Kq; clear hKq Kq; refine hKq _ _ _ (V.Sub.refl _) ?_; clear hKq Kq; conv => whnf) | (clear hKq Kq; clear hKq Kq; clear hKq Kq; clear hKq Kq; refine hKq _ _ _ (V.Sub.refl _) ?_; clear hKq Kq; conv => whnf) | (clear hKq Kq; clear hKq Kq; clear hKq Kq; clear hKq Kq; clear hKq Kq; refine hKq _ _ _ (V.Sub.refl _) ?_; clear hKq Kq; conv => whnf) | (refine And.intro (by omega) ?_; conv => whnf))
    refine hp.kapp sl29 0 rfl (SLv.src TTok (tx := 29) rfl (SLv.of_row (hp.get (i := 1) rfl)) (sw_one _)) (by rw [sw_len]; omega) (by rw [sw_len]; unfold maxLen; omega) fun u w hp => ?_
    simp only [List.set_cons_zero, sw_len, Nat.zero_add, List.nil_append] at hp
    obtain ⟨up2, uc2, rfl⟩ := row_shape (hp.get (i := 0) rfl)
    conv => whnf
    refine hKq _ _ _ (V.Sub.refl _) ?_; clear hKq Kq; conv => whnf
    refine VSeq.mk fun K1 hK1 => ?_
    have key : ∀ (N : List ByteArray) (l : Env) (w : World), N.length = C.length → (∀ x ∈ N, x.size ≤ 2000) → V.Sub [(0, .v (.slice up C.length uc)), (8, .v (.slice up2 C.length uc2))] l →
        Hp W w [row 9 1 (.slice up2 C.length uc2) C.length (sw N), row 9 1 (.slice up C.length uc) C.length (sw C)] → K1 l w := by
      clear hp
      repeat clear hp
      intro N l w hNl hNs hs hp
      refine hK1 _ _ _ hs ?_
      clear hK1
      conv => whnf
      repeat (first | (refine VSeq.mk fun Kq hKq => ?_; conv => whnf) | (refine hKq _ _ _ (V.Sub.refl _) ?_; clear hKq Kq; conv => whnf) | (clear hKq Kq; refine hKq _ _ _ (V.Sub.refl _) ?_; clear hKq Kq; conv => whnf) | (clear hKq Kq; clear hKq Kq; refine hKq _ _ _ (V.Sub.refl _) ?_; clear hKq Kq; conv => whnf) | (clear hKq Kq; clear hKq Kq; clear hKq Kq; refine hKq _ _ _ (V.Sub.refl _) ?_; clear hKq Kq; conv => whnf) | (clear hKq Kq; clear hKq Kq; clear hKq Kq; clear hKq Kq; refine hKq _ _ _ (V.Sub.refl _) ?_; clear hKq Kq; conv => whnf) | (clear hKq Kq; clear hKq Kq; clear hKq Kq; clear hKq Kq; clear hKq Kq; refine hKq _ _ _ (V.Sub.refl _) ?_; clear hKq Kq; conv => whnf) | (refine And.intro (by omega) ?_; conv => whnf))
      first | refine ⟨.agg #[.slice up C.length uc, .slice up2 C.length uc2], w, by kernel_rfl, ?_⟩ | refine ⟨.agg #[.slice up C.length uc, .slice up2 C.length uc2], w0, by kernel_rfl, ?_⟩
      conv => whnf
      repeat (first | (refine VSeq.mk fun Kq hKq => ?_; conv => whnf) | (refine hKq _ _ _ (V.Sub.refl _) ?_; clear hKq Kq; conv => whnf) | (clear hKq Kq; refine hKq _ _ _ (V.Sub.refl _) ?_; clear hKq Kq; conv => whnf) | (clear hKq Kq; clear hKq Kq; refine hKq _ _ _ (V.Sub.refl _) ?_; clear hKq Kq; conv => whnf) | (clear hKq Kq; clear hKq Kq; clear hKq Kq; refine hKq _ _ _ (V.Sub.refl _) ?_; clear hKq Kq; conv => whnf) | (clear hKq Kq; clear hKq Kq; clear hKq Kq; clear hKq Kq; refine hKq _ _ _ (V.Sub.refl _) ?_; clear hKq Kq; conv => whnf) | (clear hKq Kq; clear hKq Kq; clear hKq Kq; clear hKq Kq; clear hKq Kq; refine hKq _ _ _ (V.Sub.refl _) ?_; clear hKq Kq; conv => whnf) | (refine And.intro (by omega) ?_; conv => whnf))
      have hsel := two_at (.slice up C.length uc) (.slice up2 C.length uc2) rfl rfl
      obtain ⟨Ag, hAg⟩ : ∃ Ag : Array Value, #[.slice up C.length uc, .slice up2 C.length uc2] = Ag := ⟨_, rfl⟩
      rw [hAg] at hsel ⊢
      refine ⟨fun m l w => ∃ (j : Nat), m + j = 2 ∧ l = [(73, .v (.agg Ag)), (74, .v (.int .i64 j))] ∧ Hp W w [row 9 1 (.slice up2 C.length uc2) C.length (sw N), row 9 1 (.slice up C.length uc) C.length (sw C)],
        ⟨2, _, ⟨0, by omega, rfl, hp⟩, sub_cons rfl (sub_cons rfl sub_nil)⟩, ?_⟩
      clear hp
      repeat clear hp
      rintro m _ w ⟨j, hm, rfl, hp⟩
      conv => whnf
      repeat (first | (refine VSeq.mk fun Kq hKq => ?_; conv => whnf) | (refine hKq _ _ _ (V.Sub.refl _) ?_; clear hKq Kq; conv => whnf) | (clear hKq Kq; refine hKq _ _ _ (V.Sub.refl _) ?_; clear hKq Kq; conv => whnf) | (clear hKq Kq; clear hKq Kq; refine hKq _ _ _ (V.Sub.refl _) ?_; clear hKq Kq; conv => whnf) | (clear hKq Kq; clear hKq Kq; clear hKq Kq; refine hKq _ _ _ (V.Sub.refl _) ?_; clear hKq Kq; conv => whnf) | (clear hKq Kq; clear hKq Kq; clear hKq Kq; clear hKq Kq; refine hKq _ _ _ (V.Sub.refl _) ?_; clear hKq Kq; conv => whnf) | (clear hKq Kq; clear hKq Kq; clear hKq Kq; clear hKq Kq; clear hKq Kq; refine hKq _ _ _ (V.Sub.refl _) ?_; clear hKq Kq; conv => whnf) | (refine And.intro (by omega) ?_; conv => whnf))
      refine ⟨fun hlt => ?_, fun hlt => ?_⟩
      · have hlt := of_decide_eq_true hlt
        conv => whnf
        repeat (first | (refine VSeq.mk fun Kq hKq => ?_; conv => whnf) | (refine hKq _ _ _ (V.Sub.refl _) ?_; clear hKq Kq; conv => whnf) | (clear hKq Kq; refine hKq _ _ _ (V.Sub.refl _) ?_; clear hKq Kq; conv => whnf) | (clear hKq Kq; clear hKq Kq; refine hKq _ _ _ (V.Sub.refl _) ?_; clear hKq Kq; conv => whnf) | (clear hKq Kq; clear hKq Kq; clear hKq Kq; refine hKq _ _ _ (V.Sub.refl _) ?_; clear hKq Kq; conv => whnf) | (clear hKq Kq; clear hKq Kq; clear hKq Kq; clear hKq Kq; refine hKq _ _ _ (V.Sub.refl _) ?_; clear hKq Kq; conv => whnf) | (clear hKq Kq; clear hKq Kq; clear hKq Kq; clear hKq Kq; clear hKq Kq; refine hKq _ _ _ (V.Sub.refl _) ?_; clear hKq Kq; conv => whnf) | (refine And.intro (by omega) ?_; conv => whnf))
        obtain ⟨x, hx2, hri⟩ := hsel j (by omega)
        obtain ⟨Q, hQ, hQl, hQs⟩ : ∃ Q, SLv w x (sw Q) ∧ Q.length ≤ 66 ∧ ∀ y ∈ Q, y.size ≤ 2000 := by
          rcases hx2 with rfl | rfl
          · exact ⟨C, SLv.of_row (hp.get (i := 1) rfl), hMl, fun y hy => by have := hCs y hy; omega⟩
          · exact ⟨N, SLv.of_row (hp.get (i := 0) rfl), by omega, hNs⟩
        clear hx2
        obtain ⟨p3, c3, rfl⟩ := hQ.shape
        rw [sw_len] at hQ hri
        refine ⟨_, _, hri w, ?_⟩
        conv => whnf
        repeat (first | (refine VSeq.mk fun Kq hKq => ?_; conv => whnf) | (refine hKq _ _ _ (V.Sub.refl _) ?_; clear hKq Kq; conv => whnf) | (clear hKq Kq; refine hKq _ _ _ (V.Sub.refl _) ?_; clear hKq Kq; conv => whnf) | (clear hKq Kq; clear hKq Kq; refine hKq _ _ _ (V.Sub.refl _) ?_; clear hKq Kq; conv => whnf) | (clear hKq Kq; clear hKq Kq; clear hKq Kq; refine hKq _ _ _ (V.Sub.refl _) ?_; clear hKq Kq; conv => whnf) | (clear hKq Kq; clear hKq Kq; clear hKq Kq; clear hKq Kq; refine hKq _ _ _ (V.Sub.refl _) ?_; clear hKq Kq; conv => whnf) | (clear hKq Kq; clear hKq Kq; clear hKq Kq; clear hKq Kq; clear hKq Kq; refine hKq _ _ _ (V.Sub.refl _) ?_; clear hKq Kq; conv => whnf) | (refine And.intro (by omega) ?_; conv => whnf))
        by_cases hT : tooL Q = true
        · refine V.CallsUse (Xor_yes Q hQ hT) fun w hx => ?_
          have hp := hp.call hx
          conv => whnf
          refine hKq _ _ _ (V.Sub.refl _) ?_; clear hKq Kq; conv => whnf
          refine VSeq.mk fun Kq hKq => ?_; conv => whnf
          refine hKq _ _ _ (V.Sub.refl _) ?_; clear hKq Kq; conv => whnf
          refine VSeq.mk fun K2 hK2 => ?_
          have key2 : ∀ (l : Env), V.Sub [(73, .v (.agg Ag)), (74, .v (.int .i64 j)), (11, .v (.slice p3 Q.length c3)), (12, .v (.string ⟨#[]⟩)), (13, .v (.int .i64 3)), (14, .v (.int .i64 (noF Q 0)))] l → K2 l w := by
            intro l hs
            refine hK2 _ _ _ hs ?_
            clear hK2
            have hQ := hQ.ext hx
            have hno : noF Q Q.length = 3 := by rw [noF_all, hT]; rfl
            conv => whnf
            repeat (first | (refine VSeq.mk fun Kq hKq => ?_; conv => whnf) | (refine hKq _ _ _ (V.Sub.refl _) ?_; clear hKq Kq; conv => whnf) | (clear hKq Kq; refine hKq _ _ _ (V.Sub.refl _) ?_; clear hKq Kq; conv => whnf) | (clear hKq Kq; clear hKq Kq; refine hKq _ _ _ (V.Sub.refl _) ?_; clear hKq Kq; conv => whnf) | (clear hKq Kq; clear hKq Kq; clear hKq Kq; refine hKq _ _ _ (V.Sub.refl _) ?_; clear hKq Kq; conv => whnf) | (clear hKq Kq; clear hKq Kq; clear hKq Kq; clear hKq Kq; refine hKq _ _ _ (V.Sub.refl _) ?_; clear hKq Kq; conv => whnf) | (clear hKq Kq; clear hKq Kq; clear hKq Kq; clear hKq Kq; clear hKq Kq; refine hKq _ _ _ (V.Sub.refl _) ?_; clear hKq Kq; conv => whnf) | (refine And.intro (by omega) ?_; conv => whnf))
            refine ⟨fun m l w1 => ∃ (q : Nat), m + q = Q.length ∧ l = [(73, .v (.agg Ag)), (74, .v (.int .i64 j)), (11, .v (.slice p3 Q.length c3)), (12, .v (.string ⟨#[]⟩)), (13, .v (.int .i64 3)), (14, .v (.int .i64 (noF Q q))), (85, .v (.slice p3 Q.length c3)), (86, .v (.int .i64 Q.length)), (87, .v (.int .i64 q))] ∧ w = w1,
              ⟨Q.length, _, ⟨0, by omega, rfl, rfl⟩, sub_cons rfl (sub_cons rfl (sub_cons rfl (sub_cons rfl (sub_cons rfl (sub_cons rfl (sub_cons rfl (sub_cons rfl (sub_cons rfl sub_nil))))))))⟩, ?_⟩
            rintro m2 _ _ ⟨q, hm2, rfl, rfl⟩
            conv => whnf
            repeat (first | (refine VSeq.mk fun Kq hKq => ?_; conv => whnf) | (refine hKq _ _ _ (V.Sub.refl _) ?_; clear hKq Kq; conv => whnf) | (clear hKq Kq; refine hKq _ _ _ (V.Sub.refl _) ?_; clear hKq Kq; conv => whnf) | (clear hKq Kq; clear hKq Kq; refine hKq _ _ _ (V.Sub.refl _) ?_; clear hKq Kq; conv => whnf) | (clear hKq Kq; clear hKq Kq; clear hKq Kq; refine hKq _ _ _ (V.Sub.refl _) ?_; clear hKq Kq; conv => whnf) | (clear hKq Kq; clear hKq Kq; clear hKq Kq; clear hKq Kq; refine hKq _ _ _ (V.Sub.refl _) ?_; clear hKq Kq; conv => whnf) | (clear hKq Kq; clear hKq Kq; clear hKq Kq; clear hKq Kq; clear hKq Kq; refine hKq _ _ _ (V.Sub.refl _) ?_; clear hKq Kq; conv => whnf) | (refine And.intro (by omega) ?_; conv => whnf))
            refine ⟨fun hlt2 => ?_, fun hlt2 => ?_⟩
            · have hlt2 := of_decide_eq_true hlt2
              conv => whnf
              repeat (first | (refine VSeq.mk fun Kq hKq => ?_; conv => whnf) | (refine hKq _ _ _ (V.Sub.refl _) ?_; clear hKq Kq; conv => whnf) | (clear hKq Kq; refine hKq _ _ _ (V.Sub.refl _) ?_; clear hKq Kq; conv => whnf) | (clear hKq Kq; clear hKq Kq; refine hKq _ _ _ (V.Sub.refl _) ?_; clear hKq Kq; conv => whnf) | (clear hKq Kq; clear hKq Kq; clear hKq Kq; refine hKq _ _ _ (V.Sub.refl _) ?_; clear hKq Kq; conv => whnf) | (clear hKq Kq; clear hKq Kq; clear hKq Kq; clear hKq Kq; refine hKq _ _ _ (V.Sub.refl _) ?_; clear hKq Kq; conv => whnf) | (clear hKq Kq; clear hKq Kq; clear hKq Kq; clear hKq Kq; clear hKq Kq; refine hKq _ _ _ (V.Sub.refl _) ?_; clear hKq Kq; conv => whnf) | (refine And.intro (by omega) ?_; conv => whnf))
              have hi : q < Q.length := by omega
              have hxi : Q[q]? = some Q[q] := List.getElem?_eq_getElem hi
              generalize Q[q] = x at hxi
              have hsn := noF_snoc Q q hxi
              obtain ⟨g, off, rfl, hcell⟩ := hQ.at (sw_get hxi)
              refine ⟨q, ⟨by first | rfl | omega, by omega⟩, ?_⟩
              conv => whnf
              repeat (first | (refine VSeq.mk fun Kq hKq => ?_; conv => whnf) | (refine hKq _ _ _ (V.Sub.refl _) ?_; clear hKq Kq; conv => whnf) | (clear hKq Kq; refine hKq _ _ _ (V.Sub.refl _) ?_; clear hKq Kq; conv => whnf) | (clear hKq Kq; clear hKq Kq; refine hKq _ _ _ (V.Sub.refl _) ?_; clear hKq Kq; conv => whnf) | (clear hKq Kq; clear hKq Kq; clear hKq Kq; refine hKq _ _ _ (V.Sub.refl _) ?_; clear hKq Kq; conv => whnf) | (clear hKq Kq; clear hKq Kq; clear hKq Kq; clear hKq Kq; refine hKq _ _ _ (V.Sub.refl _) ?_; clear hKq Kq; conv => whnf) | (clear hKq Kq; clear hKq Kq; clear hKq Kq; clear hKq Kq; clear hKq Kq; refine hKq _ _ _ (V.Sub.refl _) ?_; clear hKq Kq; conv => whnf) | (refine And.intro (by omega) ?_; conv => whnf))
              refine ⟨_, _, run_ld TTok rfl (by rw [addM_eq, Nat.mul_one]; exact hcell), ?_⟩
              conv => whnf
              repeat (first | (refine VSeq.mk fun Kq hKq => ?_; conv => whnf) | (refine hKq _ _ _ (V.Sub.refl _) ?_; clear hKq Kq; conv => whnf) | (clear hKq Kq; refine hKq _ _ _ (V.Sub.refl _) ?_; clear hKq Kq; conv => whnf) | (clear hKq Kq; clear hKq Kq; refine hKq _ _ _ (V.Sub.refl _) ?_; clear hKq Kq; conv => whnf) | (clear hKq Kq; clear hKq Kq; clear hKq Kq; refine hKq _ _ _ (V.Sub.refl _) ?_; clear hKq Kq; conv => whnf) | (clear hKq Kq; clear hKq Kq; clear hKq Kq; clear hKq Kq; refine hKq _ _ _ (V.Sub.refl _) ?_; clear hKq Kq; conv => whnf) | (clear hKq Kq; clear hKq Kq; clear hKq Kq; clear hKq Kq; clear hKq Kq; refine hKq _ _ _ (V.Sub.refl _) ?_; clear hKq Kq; conv => whnf) | (refine And.intro (by omega) ?_; conv => whnf))
              refine ⟨fun h12 => ?_, fun h12 => ?_⟩
              · have h12 := of_decide_eq_true h12
                conv => whnf
                repeat (first | (refine VSeq.mk fun Kq hKq => ?_; conv => whnf) | (refine hKq _ _ _ (V.Sub.refl _) ?_; clear hKq Kq; conv => whnf) | (clear hKq Kq; refine hKq _ _ _ (V.Sub.refl _) ?_; clear hKq Kq; conv => whnf) | (clear hKq Kq; clear hKq Kq; refine hKq _ _ _ (V.Sub.refl _) ?_; clear hKq Kq; conv => whnf) | (clear hKq Kq; clear hKq Kq; clear hKq Kq; refine hKq _ _ _ (V.Sub.refl _) ?_; clear hKq Kq; conv => whnf) | (clear hKq Kq; clear hKq Kq; clear hKq Kq; clear hKq Kq; refine hKq _ _ _ (V.Sub.refl _) ?_; clear hKq Kq; conv => whnf) | (clear hKq Kq; clear hKq Kq; clear hKq Kq; clear hKq Kq; clear hKq Kq; refine hKq _ _ _ (V.Sub.refl _) ?_; clear hKq Kq; conv => whnf) | (refine And.intro (by omega) ?_; conv => whnf))
                exact ⟨m2 - 1, _, by omega, ⟨q + 1, by omega, rfl, rfl⟩, sub_cons rfl (sub_cons rfl (sub_cons rfl (sub_cons rfl (sub_cons rfl (sub_cons (look_int rfl (by rw [hsn, if_pos (by omega)])) (sub_cons rfl (sub_cons rfl (sub_cons rfl sub_nil))))))))⟩
              · have h12 := of_decide_eq_false h12
                conv => whnf
                repeat (first | (refine VSeq.mk fun Kq hKq => ?_; conv => whnf) | (refine hKq _ _ _ (V.Sub.refl _) ?_; clear hKq Kq; conv => whnf) | (clear hKq Kq; refine hKq _ _ _ (V.Sub.refl _) ?_; clear hKq Kq; conv => whnf) | (clear hKq Kq; clear hKq Kq; refine hKq _ _ _ (V.Sub.refl _) ?_; clear hKq Kq; conv => whnf) | (clear hKq Kq; clear hKq Kq; clear hKq Kq; refine hKq _ _ _ (V.Sub.refl _) ?_; clear hKq Kq; conv => whnf) | (clear hKq Kq; clear hKq Kq; clear hKq Kq; clear hKq Kq; refine hKq _ _ _ (V.Sub.refl _) ?_; clear hKq Kq; conv => whnf) | (clear hKq Kq; clear hKq Kq; clear hKq Kq; clear hKq Kq; clear hKq Kq; refine hKq _ _ _ (V.Sub.refl _) ?_; clear hKq Kq; conv => whnf) | (refine And.intro (by omega) ?_; conv => whnf))
                exact ⟨m2 - 1, _, by omega, ⟨q + 1, by omega, rfl, rfl⟩, sub_cons rfl (sub_cons rfl (sub_cons rfl (sub_cons rfl (sub_cons rfl (sub_cons (look_int rfl (by rw [hsn, if_neg (by omega)])) (sub_cons rfl (sub_cons rfl (sub_cons rfl sub_nil))))))))⟩
            · have hlt2 := of_decide_eq_false hlt2
              conv => whnf
              repeat (first | (refine VSeq.mk fun Kq hKq => ?_; conv => whnf) | (refine hKq _ _ _ (V.Sub.refl _) ?_; clear hKq Kq; conv => whnf) | (clear hKq Kq; refine hKq _ _ _ (V.Sub.refl _) ?_; clear hKq Kq; conv => whnf) | (clear hKq Kq; clear hKq Kq; refine hKq _ _ _ (V.Sub.refl _) ?_; clear hKq Kq; conv => whnf) | (clear hKq Kq; clear hKq Kq; clear hKq Kq; refine hKq _ _ _ (V.Sub.refl _) ?_; clear hKq Kq; conv => whnf) | (clear hKq Kq; clear hKq Kq; clear hKq Kq; clear hKq Kq; refine hKq _ _ _ (V.Sub.refl _) ?_; clear hKq Kq; conv => whnf) | (clear hKq Kq; clear hKq Kq; clear hKq Kq; clear hKq Kq; clear hKq Kq; refine hKq _ _ _ (V.Sub.refl _) ?_; clear hKq Kq; conv => whnf) | (refine And.intro (by omega) ?_; conv => whnf))
              obtain rfl : q = Q.length := by omega
              rw [hno]
              refine And.intro (fun _ => ?_) (fun h => absurd ((by decide)) (of_decide_eq_false h))
              conv => whnf
              repeat (first | (refine VSeq.mk fun Kq hKq => ?_; conv => whnf) | (refine hKq _ _ _ (V.Sub.refl _) ?_; clear hKq Kq; conv => whnf) | (clear hKq Kq; refine hKq _ _ _ (V.Sub.refl _) ?_; clear hKq Kq; conv => whnf) | (clear hKq Kq; clear hKq Kq; refine hKq _ _ _ (V.Sub.refl _) ?_; clear hKq Kq; conv => whnf) | (clear hKq Kq; clear hKq Kq; clear hKq Kq; refine hKq _ _ _ (V.Sub.refl _) ?_; clear hKq Kq; conv => whnf) | (clear hKq Kq; clear hKq Kq; clear hKq Kq; clear hKq Kq; refine hKq _ _ _ (V.Sub.refl _) ?_; clear hKq Kq; conv => whnf) | (clear hKq Kq; clear hKq Kq; clear hKq Kq; clear hKq Kq; clear hKq Kq; refine hKq _ _ _ (V.Sub.refl _) ?_; clear hKq Kq; conv => whnf) | (refine And.intro (by omega) ?_; conv => whnf))
              refine And.intro (fun h => absurd (of_decide_eq_true h) ((fun h => h rfl))) (fun _ => ?_)
              conv => whnf
              repeat (first | (refine VSeq.mk fun Kq hKq => ?_; conv => whnf) | (refine hKq _ _ _ (V.Sub.refl _) ?_; clear hKq Kq; conv => whnf) | (clear hKq Kq; refine hKq _ _ _ (V.Sub.refl _) ?_; clear hKq Kq; conv => whnf) | (clear hKq Kq; clear hKq Kq; refine hKq _ _ _ (V.Sub.refl _) ?_; clear hKq Kq; conv => whnf) | (clear hKq Kq; clear hKq Kq; clear hKq Kq; refine hKq _ _ _ (V.Sub.refl _) ?_; clear hKq Kq; conv => whnf) | (clear hKq Kq; clear hKq Kq; clear hKq Kq; clear hKq Kq; refine hKq _ _ _ (V.Sub.refl _) ?_; clear hKq Kq; conv => whnf) | (clear hKq Kq; clear hKq Kq; clear hKq Kq; clear hKq Kq; clear hKq Kq; refine hKq _ _ _ (V.Sub.refl _) ?_; clear hKq Kq; conv => whnf) | (refine And.intro (by omega) ?_; conv => whnf))
              refine And.intro (fun h => absurd (of_decide_eq_true h) ((by decide))) (fun _ => ?_)
              conv => whnf
              repeat (first | (refine VSeq.mk fun Kq hKq => ?_; conv => whnf) | (refine hKq _ _ _ (V.Sub.refl _) ?_; clear hKq Kq; conv => whnf) | (clear hKq Kq; refine hKq _ _ _ (V.Sub.refl _) ?_; clear hKq Kq; conv => whnf) | (clear hKq Kq; clear hKq Kq; refine hKq _ _ _ (V.Sub.refl _) ?_; clear hKq Kq; conv => whnf) | (clear hKq Kq; clear hKq Kq; clear hKq Kq; refine hKq _ _ _ (V.Sub.refl _) ?_; clear hKq Kq; conv => whnf) | (clear hKq Kq; clear hKq Kq; clear hKq Kq; clear hKq Kq; refine hKq _ _ _ (V.Sub.refl _) ?_; clear hKq Kq; conv => whnf) | (clear hKq Kq; clear hKq Kq; clear hKq Kq; clear hKq Kq; clear hKq Kq; refine hKq _ _ _ (V.Sub.refl _) ?_; clear hKq Kq; conv => whnf) | (refine And.intro (by omega) ?_; conv => whnf))
              refine And.intro (fun h => absurd (of_decide_eq_true h) ((by decide))) (fun _ => ?_)
              conv => whnf
              repeat (first | (refine VSeq.mk fun Kq hKq => ?_; conv => whnf) | (refine hKq _ _ _ (V.Sub.refl _) ?_; clear hKq Kq; conv => whnf) | (clear hKq Kq; refine hKq _ _ _ (V.Sub.refl _) ?_; clear hKq Kq; conv => whnf) | (clear hKq Kq; clear hKq Kq; refine hKq _ _ _ (V.Sub.refl _) ?_; clear hKq Kq; conv => whnf) | (clear hKq Kq; clear hKq Kq; clear hKq Kq; refine hKq _ _ _ (V.Sub.refl _) ?_; clear hKq Kq; conv => whnf) | (clear hKq Kq; clear hKq Kq; clear hKq Kq; clear hKq Kq; refine hKq _ _ _ (V.Sub.refl _) ?_; clear hKq Kq; conv => whnf) | (clear hKq Kq; clear hKq Kq; clear hKq Kq; clear hKq Kq; clear hKq Kq; refine hKq _ _ _ (V.Sub.refl _) ?_; clear hKq Kq; conv => whnf) | (refine And.intro (by omega) ?_; conv => whnf))
              exact ⟨m - 1, _, by omega, ⟨j + 1, by omega, rfl, hp⟩, sub_cons rfl (sub_cons rfl sub_nil)⟩
          conv => whnf
          repeat (first | (refine VSeq.mk fun Kq hKq => ?_; conv => whnf) | (refine hKq _ _ _ (V.Sub.refl _) ?_; clear hKq Kq; conv => whnf) | (clear hKq Kq; refine hKq _ _ _ (V.Sub.refl _) ?_; clear hKq Kq; conv => whnf) | (clear hKq Kq; clear hKq Kq; refine hKq _ _ _ (V.Sub.refl _) ?_; clear hKq Kq; conv => whnf) | (clear hKq Kq; clear hKq Kq; clear hKq Kq; refine hKq _ _ _ (V.Sub.refl _) ?_; clear hKq Kq; conv => whnf) | (clear hKq Kq; clear hKq Kq; clear hKq Kq; clear hKq Kq; refine hKq _ _ _ (V.Sub.refl _) ?_; clear hKq Kq; conv => whnf) | (clear hKq Kq; clear hKq Kq; clear hKq Kq; clear hKq Kq; clear hKq Kq; refine hKq _ _ _ (V.Sub.refl _) ?_; clear hKq Kq; conv => whnf) | (refine And.intro (by omega) ?_; conv => whnf))
          refine ⟨fun h64 => ?_, fun h64 => ?_⟩
          · have h64 := of_decide_eq_true h64
            conv => whnf
            repeat (first | (refine VSeq.mk fun Kq hKq => ?_; conv => whnf) | (refine hKq _ _ _ (V.Sub.refl _) ?_; clear hKq Kq; conv => whnf) | (clear hKq Kq; refine hKq _ _ _ (V.Sub.refl _) ?_; clear hKq Kq; conv => whnf) | (clear hKq Kq; clear hKq Kq; refine hKq _ _ _ (V.Sub.refl _) ?_; clear hKq Kq; conv => whnf) | (clear hKq Kq; clear hKq Kq; clear hKq Kq; refine hKq _ _ _ (V.Sub.refl _) ?_; clear hKq Kq; conv => whnf) | (clear hKq Kq; clear hKq Kq; clear hKq Kq; clear hKq Kq; refine hKq _ _ _ (V.Sub.refl _) ?_; clear hKq Kq; conv => whnf) | (clear hKq Kq; clear hKq Kq; clear hKq Kq; clear hKq Kq; clear hKq Kq; refine hKq _ _ _ (V.Sub.refl _) ?_; clear hKq Kq; conv => whnf) | (refine And.intro (by omega) ?_; conv => whnf))
            exact key2 _ (sub_cons rfl (sub_cons rfl (sub_cons rfl (sub_cons rfl (sub_cons rfl (sub_cons (look_int rfl (by unfold noF; rw [decide_eq_true (by omega)]; rfl)) sub_nil))))))
          · have h64 := of_decide_eq_false h64
            conv => whnf
            repeat (first | (refine VSeq.mk fun Kq hKq => ?_; conv => whnf) | (refine hKq _ _ _ (V.Sub.refl _) ?_; clear hKq Kq; conv => whnf) | (clear hKq Kq; refine hKq _ _ _ (V.Sub.refl _) ?_; clear hKq Kq; conv => whnf) | (clear hKq Kq; clear hKq Kq; refine hKq _ _ _ (V.Sub.refl _) ?_; clear hKq Kq; conv => whnf) | (clear hKq Kq; clear hKq Kq; clear hKq Kq; refine hKq _ _ _ (V.Sub.refl _) ?_; clear hKq Kq; conv => whnf) | (clear hKq Kq; clear hKq Kq; clear hKq Kq; clear hKq Kq; refine hKq _ _ _ (V.Sub.refl _) ?_; clear hKq Kq; conv => whnf) | (clear hKq Kq; clear hKq Kq; clear hKq Kq; clear hKq Kq; clear hKq Kq; refine hKq _ _ _ (V.Sub.refl _) ?_; clear hKq Kq; conv => whnf) | (refine And.intro (by omega) ?_; conv => whnf))
            exact key2 _ (sub_cons rfl (sub_cons rfl (sub_cons rfl (sub_cons rfl (sub_cons rfl (sub_cons (look_int rfl (by unfold noF; rw [decide_eq_false (by omega)]; rfl)) sub_nil))))))
        · have hT : tooL Q = false := by simpa using hT
          refine V.CallsUse (Xor_no Q hQ hT) fun w hx => ?_
          have hp := hp.call hx
          conv => whnf
          refine hKq _ _ _ (V.Sub.refl _) ?_; clear hKq Kq; conv => whnf
          refine VSeq.mk fun Kq hKq => ?_; conv => whnf
          refine hKq _ _ _ (V.Sub.refl _) ?_; clear hKq Kq; conv => whnf
          refine VSeq.mk fun K2 hK2 => ?_
          have key2 : ∀ (l : Env), V.Sub [(73, .v (.agg Ag)), (74, .v (.int .i64 j)), (11, .v (.slice p3 Q.length c3)), (12, .v (.string (parB Q))), (13, .v (.int .i64 0)), (14, .v (.int .i64 (noF Q 0)))] l → K2 l w := by
            intro l hs
            refine hK2 _ _ _ hs ?_
            clear hK2
            have hQ := hQ.ext hx
            have hno : noF Q Q.length = 0 := by rw [noF_all, hT]; rfl
            conv => whnf
            repeat (first | (refine VSeq.mk fun Kq hKq => ?_; conv => whnf) | (refine hKq _ _ _ (V.Sub.refl _) ?_; clear hKq Kq; conv => whnf) | (clear hKq Kq; refine hKq _ _ _ (V.Sub.refl _) ?_; clear hKq Kq; conv => whnf) | (clear hKq Kq; clear hKq Kq; refine hKq _ _ _ (V.Sub.refl _) ?_; clear hKq Kq; conv => whnf) | (clear hKq Kq; clear hKq Kq; clear hKq Kq; refine hKq _ _ _ (V.Sub.refl _) ?_; clear hKq Kq; conv => whnf) | (clear hKq Kq; clear hKq Kq; clear hKq Kq; clear hKq Kq; refine hKq _ _ _ (V.Sub.refl _) ?_; clear hKq Kq; conv => whnf) | (clear hKq Kq; clear hKq Kq; clear hKq Kq; clear hKq Kq; clear hKq Kq; refine hKq _ _ _ (V.Sub.refl _) ?_; clear hKq Kq; conv => whnf) | (refine And.intro (by omega) ?_; conv => whnf))
            refine ⟨fun m l w1 => ∃ (q : Nat), m + q = Q.length ∧ l = [(73, .v (.agg Ag)), (74, .v (.int .i64 j)), (11, .v (.slice p3 Q.length c3)), (12, .v (.string (parB Q))), (13, .v (.int .i64 0)), (14, .v (.int .i64 (noF Q q))), (85, .v (.slice p3 Q.length c3)), (86, .v (.int .i64 Q.length)), (87, .v (.int .i64 q))] ∧ w = w1,
              ⟨Q.length, _, ⟨0, by omega, rfl, rfl⟩, sub_cons rfl (sub_cons rfl (sub_cons rfl (sub_cons rfl (sub_cons rfl (sub_cons rfl (sub_cons rfl (sub_cons rfl (sub_cons rfl sub_nil))))))))⟩, ?_⟩
            rintro m2 _ _ ⟨q, hm2, rfl, rfl⟩
            conv => whnf
            repeat (first | (refine VSeq.mk fun Kq hKq => ?_; conv => whnf) | (refine hKq _ _ _ (V.Sub.refl _) ?_; clear hKq Kq; conv => whnf) | (clear hKq Kq; refine hKq _ _ _ (V.Sub.refl _) ?_; clear hKq Kq; conv => whnf) | (clear hKq Kq; clear hKq Kq; refine hKq _ _ _ (V.Sub.refl _) ?_; clear hKq Kq; conv => whnf) | (clear hKq Kq; clear hKq Kq; clear hKq Kq; refine hKq _ _ _ (V.Sub.refl _) ?_; clear hKq Kq; conv => whnf) | (clear hKq Kq; clear hKq Kq; clear hKq Kq; clear hKq Kq; refine hKq _ _ _ (V.Sub.refl _) ?_; clear hKq Kq; conv => whnf) | (clear hKq Kq; clear hKq Kq; clear hKq Kq; clear hKq Kq; clear hKq Kq; refine hKq _ _ _ (V.Sub.refl _) ?_; clear hKq Kq; conv => whnf) | (refine And.intro (by omega) ?_; conv => whnf))
            refine ⟨fun hlt2 => ?_, fun hlt2 => ?_⟩
            · have hlt2 := of_decide_eq_true hlt2
              conv => whnf
              repeat (first | (refine VSeq.mk fun Kq hKq => ?_; conv => whnf) | (refine hKq _ _ _ (V.Sub.refl _) ?_; clear hKq Kq; conv => whnf) | (clear hKq Kq; refine hKq _ _ _ (V.Sub.refl _) ?_; clear hKq Kq; conv => whnf) | (clear hKq Kq; clear hKq Kq; refine hKq _ _ _ (V.Sub.refl _) ?_; clear hKq Kq; conv => whnf) | (clear hKq Kq; clear hKq Kq; clear hKq Kq; refine hKq _ _ _ (V.Sub.refl _) ?_; clear hKq Kq; conv => whnf) | (clear hKq Kq; clear hKq Kq; clear hKq Kq; clear hKq Kq; refine hKq _ _ _ (V.Sub.refl _) ?_; clear hKq Kq; conv => whnf) | (clear hKq Kq; clear hKq Kq; clear hKq Kq; clear hKq Kq; clear hKq Kq; refine hKq _ _ _ (V.Sub.refl _) ?_; clear hKq Kq; conv => whnf) | (refine And.intro (by omega) ?_; conv => whnf))
              have hi : q < Q.length := by omega
              have hxi : Q[q]? = some Q[q] := List.getElem?_eq_getElem hi
              generalize Q[q] = x at hxi
              have hsn := noF_snoc Q q hxi
              obtain ⟨g, off, rfl, hcell⟩ := hQ.at (sw_get hxi)
              refine ⟨q, ⟨by first | rfl | omega, by omega⟩, ?_⟩
              conv => whnf
              repeat (first | (refine VSeq.mk fun Kq hKq => ?_; conv => whnf) | (refine hKq _ _ _ (V.Sub.refl _) ?_; clear hKq Kq; conv => whnf) | (clear hKq Kq; refine hKq _ _ _ (V.Sub.refl _) ?_; clear hKq Kq; conv => whnf) | (clear hKq Kq; clear hKq Kq; refine hKq _ _ _ (V.Sub.refl _) ?_; clear hKq Kq; conv => whnf) | (clear hKq Kq; clear hKq Kq; clear hKq Kq; refine hKq _ _ _ (V.Sub.refl _) ?_; clear hKq Kq; conv => whnf) | (clear hKq Kq; clear hKq Kq; clear hKq Kq; clear hKq Kq; refine hKq _ _ _ (V.Sub.refl _) ?_; clear hKq Kq; conv => whnf) | (clear hKq Kq; clear hKq Kq; clear hKq Kq; clear hKq Kq; clear hKq Kq; refine hKq _ _ _ (V.Sub.refl _) ?_; clear hKq Kq; conv => whnf) | (refine And.intro (by omega) ?_; conv => whnf))
              refine ⟨_, _, run_ld TTok rfl (by rw [addM_eq, Nat.mul_one]; exact hcell), ?_⟩
              conv => whnf
              repeat (first | (refine VSeq.mk fun Kq hKq => ?_; conv => whnf) | (refine hKq _ _ _ (V.Sub.refl _) ?_; clear hKq Kq; conv => whnf) | (clear hKq Kq; refine hKq _ _ _ (V.Sub.refl _) ?_; clear hKq Kq; conv => whnf) | (clear hKq Kq; clear hKq Kq; refine hKq _ _ _ (V.Sub.refl _) ?_; clear hKq Kq; conv => whnf) | (clear hKq Kq; clear hKq Kq; clear hKq Kq; refine hKq _ _ _ (V.Sub.refl _) ?_; clear hKq Kq; conv => whnf) | (clear hKq Kq; clear hKq Kq; clear hKq Kq; clear hKq Kq; refine hKq _ _ _ (V.Sub.refl _) ?_; clear hKq Kq; conv => whnf) | (clear hKq Kq; clear hKq Kq; clear hKq Kq; clear hKq Kq; clear hKq Kq; refine hKq _ _ _ (V.Sub.refl _) ?_; clear hKq Kq; conv => whnf) | (refine And.intro (by omega) ?_; conv => whnf))
              refine ⟨fun h12 => ?_, fun h12 => ?_⟩
              · have h12 := of_decide_eq_true h12
                conv => whnf
                repeat (first | (refine VSeq.mk fun Kq hKq => ?_; conv => whnf) | (refine hKq _ _ _ (V.Sub.refl _) ?_; clear hKq Kq; conv => whnf) | (clear hKq Kq; refine hKq _ _ _ (V.Sub.refl _) ?_; clear hKq Kq; conv => whnf) | (clear hKq Kq; clear hKq Kq; refine hKq _ _ _ (V.Sub.refl _) ?_; clear hKq Kq; conv => whnf) | (clear hKq Kq; clear hKq Kq; clear hKq Kq; refine hKq _ _ _ (V.Sub.refl _) ?_; clear hKq Kq; conv => whnf) | (clear hKq Kq; clear hKq Kq; clear hKq Kq; clear hKq Kq; refine hKq _ _ _ (V.Sub.refl _) ?_; clear hKq Kq; conv => whnf) | (clear hKq Kq; clear hKq Kq; clear hKq Kq; clear hKq Kq; clear hKq Kq; refine hKq _ _ _ (V.Sub.refl _) ?_; clear hKq Kq; conv => whnf) | (refine And.intro (by omega) ?_; conv => whnf))
                exact ⟨m2 - 1, _, by omega, ⟨q + 1, by omega, rfl, rfl⟩, sub_cons rfl (sub_cons rfl (sub_cons rfl (sub_cons rfl (sub_cons rfl (sub_cons (look_int rfl (by rw [hsn, if_pos (by omega)])) (sub_cons rfl (sub_cons rfl (sub_cons rfl sub_nil))))))))⟩
              · have h12 := of_decide_eq_false h12
                conv => whnf
                repeat (first | (refine VSeq.mk fun Kq hKq => ?_; conv => whnf) | (refine hKq _ _ _ (V.Sub.refl _) ?_; clear hKq Kq; conv => whnf) | (clear hKq Kq; refine hKq _ _ _ (V.Sub.refl _) ?_; clear hKq Kq; conv => whnf) | (clear hKq Kq; clear hKq Kq; refine hKq _ _ _ (V.Sub.refl _) ?_; clear hKq Kq; conv => whnf) | (clear hKq Kq; clear hKq Kq; clear hKq Kq; refine hKq _ _ _ (V.Sub.refl _) ?_; clear hKq Kq; conv => whnf) | (clear hKq Kq; clear hKq Kq; clear hKq Kq; clear hKq Kq; refine hKq _ _ _ (V.Sub.refl _) ?_; clear hKq Kq; conv => whnf) | (clear hKq Kq; clear hKq Kq; clear hKq Kq; clear hKq Kq; clear hKq Kq; refine hKq _ _ _ (V.Sub.refl _) ?_; clear hKq Kq; conv => whnf) | (refine And.intro (by omega) ?_; conv => whnf))
                exact ⟨m2 - 1, _, by omega, ⟨q + 1, by omega, rfl, rfl⟩, sub_cons rfl (sub_cons rfl (sub_cons rfl (sub_cons rfl (sub_cons rfl (sub_cons (look_int rfl (by rw [hsn, if_neg (by omega)])) (sub_cons rfl (sub_cons rfl (sub_cons rfl sub_nil))))))))⟩
            · have hlt2 := of_decide_eq_false hlt2
              conv => whnf
              repeat (first | (refine VSeq.mk fun Kq hKq => ?_; conv => whnf) | (refine hKq _ _ _ (V.Sub.refl _) ?_; clear hKq Kq; conv => whnf) | (clear hKq Kq; refine hKq _ _ _ (V.Sub.refl _) ?_; clear hKq Kq; conv => whnf) | (clear hKq Kq; clear hKq Kq; refine hKq _ _ _ (V.Sub.refl _) ?_; clear hKq Kq; conv => whnf) | (clear hKq Kq; clear hKq Kq; clear hKq Kq; refine hKq _ _ _ (V.Sub.refl _) ?_; clear hKq Kq; conv => whnf) | (clear hKq Kq; clear hKq Kq; clear hKq Kq; clear hKq Kq; refine hKq _ _ _ (V.Sub.refl _) ?_; clear hKq Kq; conv => whnf) | (clear hKq Kq; clear hKq Kq; clear hKq Kq; clear hKq Kq; clear hKq Kq; refine hKq _ _ _ (V.Sub.refl _) ?_; clear hKq Kq; conv => whnf) | (refine And.intro (by omega) ?_; conv => whnf))
              obtain rfl : q = Q.length := by omega
              rw [hno]
              refine And.intro (fun h => absurd (of_decide_eq_true h) ((by decide))) (fun _ => ?_)
              conv => whnf
              repeat (first | (refine VSeq.mk fun Kq hKq => ?_; conv => whnf) | (refine hKq _ _ _ (V.Sub.refl _) ?_; clear hKq Kq; conv => whnf) | (clear hKq Kq; refine hKq _ _ _ (V.Sub.refl _) ?_; clear hKq Kq; conv => whnf) | (clear hKq Kq; clear hKq Kq; refine hKq _ _ _ (V.Sub.refl _) ?_; clear hKq Kq; conv => whnf) | (clear hKq Kq; clear hKq Kq; clear hKq Kq; refine hKq _ _ _ (V.Sub.refl _) ?_; clear hKq Kq; conv => whnf) | (clear hKq Kq; clear hKq Kq; clear hKq Kq; clear hKq Kq; refine hKq _ _ _ (V.Sub.refl _) ?_; clear hKq Kq; conv => whnf) | (clear hKq Kq; clear hKq Kq; clear hKq Kq; clear hKq Kq; clear hKq Kq; refine hKq _ _ _ (V.Sub.refl _) ?_; clear hKq Kq; conv => whnf) | (refine And.intro (by omega) ?_; conv => whnf))
              refine And.intro (fun _ => ?_) (fun h => absurd (rfl) (of_decide_eq_false h))
              conv => whnf
              repeat (first | (refine VSeq.mk fun Kq hKq => ?_; conv => whnf) | (refine hKq _ _ _ (V.Sub.refl _) ?_; clear hKq Kq; conv => whnf) | (clear hKq Kq; refine hKq _ _ _ (V.Sub.refl _) ?_; clear hKq Kq; conv => whnf) | (clear hKq Kq; clear hKq Kq; refine hKq _ _ _ (V.Sub.refl _) ?_; clear hKq Kq; conv => whnf) | (clear hKq Kq; clear hKq Kq; clear hKq Kq; refine hKq _ _ _ (V.Sub.refl _) ?_; clear hKq Kq; conv => whnf) | (clear hKq Kq; clear hKq Kq; clear hKq Kq; clear hKq Kq; refine hKq _ _ _ (V.Sub.refl _) ?_; clear hKq Kq; conv => whnf) | (clear hKq Kq; clear hKq Kq; clear hKq Kq; clear hKq Kq; clear hKq Kq; refine hKq _ _ _ (V.Sub.refl _) ?_; clear hKq Kq; conv => whnf) | (refine And.intro (by omega) ?_; conv => whnf))
              refine V.CallsUse (rXor_c Q hQ (by omega) (fun y hy => by have := hQs y hy; omega)) fun w hx => ?_
              try (have hp := hp.call hx)
              conv => whnf
              repeat (first | (refine VSeq.mk fun Kq hKq => ?_; conv => whnf) | (refine hKq _ _ _ (V.Sub.refl _) ?_; clear hKq Kq; conv => whnf) | (clear hKq Kq; refine hKq _ _ _ (V.Sub.refl _) ?_; clear hKq Kq; conv => whnf) | (clear hKq Kq; clear hKq Kq; refine hKq _ _ _ (V.Sub.refl _) ?_; clear hKq Kq; conv => whnf) | (clear hKq Kq; clear hKq Kq; clear hKq Kq; refine hKq _ _ _ (V.Sub.refl _) ?_; clear hKq Kq; conv => whnf) | (clear hKq Kq; clear hKq Kq; clear hKq Kq; clear hKq Kq; refine hKq _ _ _ (V.Sub.refl _) ?_; clear hKq Kq; conv => whnf) | (clear hKq Kq; clear hKq Kq; clear hKq Kq; clear hKq Kq; clear hKq Kq; refine hKq _ _ _ (V.Sub.refl _) ?_; clear hKq Kq; conv => whnf) | (refine And.intro (by omega) ?_; conv => whnf))
              refine And.intro (fun h => absurd (of_decide_eq_true h) ((fun h => h rfl))) (fun _ => ?_)
              conv => whnf
              repeat (first | (refine VSeq.mk fun Kq hKq => ?_; conv => whnf) | (refine hKq _ _ _ (V.Sub.refl _) ?_; clear hKq Kq; conv => whnf) | (clear hKq Kq; refine hKq _ _ _ (V.Sub.refl _) ?_; clear hKq Kq; conv => whnf) | (clear hKq Kq; clear hKq Kq; refine hKq _ _ _ (V.Sub.refl _) ?_; clear hKq Kq; conv => whnf) | (clear hKq Kq; clear hKq Kq; clear hKq Kq; refine hKq _ _ _ (V.Sub.refl _) ?_; clear hKq Kq; conv => whnf) | (clear hKq Kq; clear hKq Kq; clear hKq Kq; clear hKq Kq; refine hKq _ _ _ (V.Sub.refl _) ?_; clear hKq Kq; conv => whnf) | (clear hKq Kq; clear hKq Kq; clear hKq Kq; clear hKq Kq; clear hKq Kq; refine hKq _ _ _ (V.Sub.refl _) ?_; clear hKq Kq; conv => whnf) | (refine And.intro (by omega) ?_; conv => whnf))
              refine And.intro (fun h => absurd (of_decide_eq_true h) ((by decide))) (fun _ => ?_)
              conv => whnf
              repeat (first | (refine VSeq.mk fun Kq hKq => ?_; conv => whnf) | (refine hKq _ _ _ (V.Sub.refl _) ?_; clear hKq Kq; conv => whnf) | (clear hKq Kq; refine hKq _ _ _ (V.Sub.refl _) ?_; clear hKq Kq; conv => whnf) | (clear hKq Kq; clear hKq Kq; refine hKq _ _ _ (V.Sub.refl _) ?_; clear hKq Kq; conv => whnf) | (clear hKq Kq; clear hKq Kq; clear hKq Kq; refine hKq _ _ _ (V.Sub.refl _) ?_; clear hKq Kq; conv => whnf) | (clear hKq Kq; clear hKq Kq; clear hKq Kq; clear hKq Kq; refine hKq _ _ _ (V.Sub.refl _) ?_; clear hKq Kq; conv => whnf) | (clear hKq Kq; clear hKq Kq; clear hKq Kq; clear hKq Kq; clear hKq Kq; refine hKq _ _ _ (V.Sub.refl _) ?_; clear hKq Kq; conv => whnf) | (refine And.intro (by omega) ?_; conv => whnf))
              exact ⟨m - 1, _, by omega, ⟨j + 1, by omega, rfl, hp⟩, sub_cons rfl (sub_cons rfl sub_nil)⟩
          conv => whnf
          repeat (first | (refine VSeq.mk fun Kq hKq => ?_; conv => whnf) | (refine hKq _ _ _ (V.Sub.refl _) ?_; clear hKq Kq; conv => whnf) | (clear hKq Kq; refine hKq _ _ _ (V.Sub.refl _) ?_; clear hKq Kq; conv => whnf) | (clear hKq Kq; clear hKq Kq; refine hKq _ _ _ (V.Sub.refl _) ?_; clear hKq Kq; conv => whnf) | (clear hKq Kq; clear hKq Kq; clear hKq Kq; refine hKq _ _ _ (V.Sub.refl _) ?_; clear hKq Kq; conv => whnf) | (clear hKq Kq; clear hKq Kq; clear hKq Kq; clear hKq Kq; refine hKq _ _ _ (V.Sub.refl _) ?_; clear hKq Kq; conv => whnf) | (clear hKq Kq; clear hKq Kq; clear hKq Kq; clear hKq Kq; clear hKq Kq; refine hKq _ _ _ (V.Sub.refl _) ?_; clear hKq Kq; conv => whnf) | (refine And.intro (by omega) ?_; conv => whnf))
          refine ⟨fun h64 => ?_, fun h64 => ?_⟩
          · have h64 := of_decide_eq_true h64
            conv => whnf
            repeat (first | (refine VSeq.mk fun Kq hKq => ?_; conv => whnf) | (refine hKq _ _ _ (V.Sub.refl _) ?_; clear hKq Kq; conv => whnf) | (clear hKq Kq; refine hKq _ _ _ (V.Sub.refl _) ?_; clear hKq Kq; conv => whnf) | (clear hKq Kq; clear hKq Kq; refine hKq _ _ _ (V.Sub.refl _) ?_; clear hKq Kq; conv => whnf) | (clear hKq Kq; clear hKq Kq; clear hKq Kq; refine hKq _ _ _ (V.Sub.refl _) ?_; clear hKq Kq; conv => whnf) | (clear hKq Kq; clear hKq Kq; clear hKq Kq; clear hKq Kq; refine hKq _ _ _ (V.Sub.refl _) ?_; clear hKq Kq; conv => whnf) | (clear hKq Kq; clear hKq Kq; clear hKq Kq; clear hKq Kq; clear hKq Kq; refine hKq _ _ _ (V.Sub.refl _) ?_; clear hKq Kq; conv => whnf) | (refine And.intro (by omega) ?_; conv => whnf))
            exact key2 _ (sub_cons rfl (sub_cons rfl (sub_cons rfl (sub_cons rfl (sub_cons rfl (sub_cons (look_int rfl (by unfold noF; rw [decide_eq_true (by omega)]; rfl)) sub_nil))))))
          · have h64 := of_decide_eq_false h64
            conv => whnf
            repeat (first | (refine VSeq.mk fun Kq hKq => ?_; conv => whnf) | (refine hKq _ _ _ (V.Sub.refl _) ?_; clear hKq Kq; conv => whnf) | (clear hKq Kq; refine hKq _ _ _ (V.Sub.refl _) ?_; clear hKq Kq; conv => whnf) | (clear hKq Kq; clear hKq Kq; refine hKq _ _ _ (V.Sub.refl _) ?_; clear hKq Kq; conv => whnf) | (clear hKq Kq; clear hKq Kq; clear hKq Kq; refine hKq _ _ _ (V.Sub.refl _) ?_; clear hKq Kq; conv => whnf) | (clear hKq Kq; clear hKq Kq; clear hKq Kq; clear hKq Kq; refine hKq _ _ _ (V.Sub.refl _) ?_; clear hKq Kq; conv => whnf) | (clear hKq Kq; clear hKq Kq; clear hKq Kq; clear hKq Kq; clear hKq Kq; refine hKq _ _ _ (V.Sub.refl _) ?_; clear hKq Kq; conv => whnf) | (refine And.intro (by omega) ?_; conv => whnf))
            exact key2 _ (sub_cons rfl (sub_cons rfl (sub_cons rfl (sub_cons rfl (sub_cons rfl (sub_cons (look_int rfl (by unfold noF; rw [decide_eq_false (by omega)]; rfl)) sub_nil))))))
      · have hlt := of_decide_eq_false hlt
        conv => whnf
        repeat (first | (refine VSeq.mk fun Kq hKq => ?_; conv => whnf) | (refine hKq _ _ _ (V.Sub.refl _) ?_; clear hKq Kq; conv => whnf) | (clear hKq Kq; refine hKq _ _ _ (V.Sub.refl _) ?_; clear hKq Kq; conv => whnf) | (clear hKq Kq; clear hKq Kq; refine hKq _ _ _ (V.Sub.refl _) ?_; clear hKq Kq; conv => whnf) | (clear hKq Kq; clear hKq Kq; clear hKq Kq; refine hKq _ _ _ (V.Sub.refl _) ?_; clear hKq Kq; conv => whnf) | (clear hKq Kq; clear hKq Kq; clear hKq Kq; clear hKq Kq; refine hKq _ _ _ (V.Sub.refl _) ?_; clear hKq Kq; conv => whnf) | (clear hKq Kq; clear hKq Kq; clear hKq Kq; clear hKq Kq; clear hKq Kq; refine hKq _ _ _ (V.Sub.refl _) ?_; clear hKq Kq; conv => whnf) | (refine And.intro (by omega) ?_; conv => whnf))
        exact ⟨rfl, hp.ext⟩
    conv => whnf
    repeat (first | (refine VSeq.mk fun Kq hKq => ?_; conv => whnf) | (refine hKq _ _ _ (V.Sub.refl _) ?_; clear hKq Kq; conv => whnf) | (clear hKq Kq; refine hKq _ _ _ (V.Sub.refl _) ?_; clear hKq Kq; conv => whnf) | (clear hKq Kq; clear hKq Kq; refine hKq _ _ _ (V.Sub.refl _) ?_; clear hKq Kq; conv => whnf) | (clear hKq Kq; clear hKq Kq; clear hKq Kq; refine hKq _ _ _ (V.Sub.refl _) ?_; clear hKq Kq; conv => whnf) | (clear hKq Kq; clear hKq Kq; clear hKq Kq; clear hKq Kq; refine hKq _ _ _ (V.Sub.refl _) ?_; clear hKq Kq; conv => whnf) | (clear hKq Kq; clear hKq Kq; clear hKq Kq; clear hKq Kq; clear hKq Kq; refine hKq _ _ _ (V.Sub.refl _) ?_; clear hKq Kq; conv => whnf) | (refine And.intro (by omega) ?_; conv => whnf))
    refine ⟨fun h8 => ?_, fun h8 => ?_⟩
    · have h8 := of_decide_eq_true h8
      conv => whnf
      repeat (first | (refine VSeq.mk fun Kq hKq => ?_; conv => whnf) | (refine hKq _ _ _ (V.Sub.refl _) ?_; clear hKq Kq; conv => whnf) | (clear hKq Kq; refine hKq _ _ _ (V.Sub.refl _) ?_; clear hKq Kq; conv => whnf) | (clear hKq Kq; clear hKq Kq; refine hKq _ _ _ (V.Sub.refl _) ?_; clear hKq Kq; conv => whnf) | (clear hKq Kq; clear hKq Kq; clear hKq Kq; refine hKq _ _ _ (V.Sub.refl _) ?_; clear hKq Kq; conv => whnf) | (clear hKq Kq; clear hKq Kq; clear hKq Kq; clear hKq Kq; refine hKq _ _ _ (V.Sub.refl _) ?_; clear hKq Kq; conv => whnf) | (clear hKq Kq; clear hKq Kq; clear hKq Kq; clear hKq Kq; clear hKq Kq; refine hKq _ _ _ (V.Sub.refl _) ?_; clear hKq Kq; conv => whnf) | (refine And.intro (by omega) ?_; conv => whnf))
      have hidx : at_ % C.length < C.length := Nat.mod_lt _ (by omega)
      have hie : ((at_ : Int) % (C.length : Int)) = ((at_ % C.length : Nat) : Int) := by omega
      generalize at_ % C.length = ix at hidx hie
      have hxi : C[ix]? = some C[ix] := List.getElem?_eq_getElem hidx
      have hxs := hCs _ (List.getElem_mem hidx)
      generalize C[ix] = x at hxi hxs
      obtain ⟨g2, uc2', hu⟩ := row_form (hp.get (i := 0) rfl) (by omega)
      simp only [Value.slice.injEq, true_and] at hu
      obtain ⟨rfl, rfl⟩ := hu
      rw [hie]
      refine ⟨ix, ⟨by first | rfl | omega, by omega⟩, ?_⟩
      conv => whnf
      repeat (first | (refine VSeq.mk fun Kq hKq => ?_; conv => whnf) | (refine hKq _ _ _ (V.Sub.refl _) ?_; clear hKq Kq; conv => whnf) | (clear hKq Kq; refine hKq _ _ _ (V.Sub.refl _) ?_; clear hKq Kq; conv => whnf) | (clear hKq Kq; clear hKq Kq; refine hKq _ _ _ (V.Sub.refl _) ?_; clear hKq Kq; conv => whnf) | (clear hKq Kq; clear hKq Kq; clear hKq Kq; refine hKq _ _ _ (V.Sub.refl _) ?_; clear hKq Kq; conv => whnf) | (clear hKq Kq; clear hKq Kq; clear hKq Kq; clear hKq Kq; refine hKq _ _ _ (V.Sub.refl _) ?_; clear hKq Kq; conv => whnf) | (clear hKq Kq; clear hKq Kq; clear hKq Kq; clear hKq Kq; clear hKq Kq; refine hKq _ _ _ (V.Sub.refl _) ?_; clear hKq Kq; conv => whnf) | (refine And.intro (by omega) ?_; conv => whnf))
      refine ⟨_, _, run_ld TTok rfl (by rw [addM_eq, Nat.mul_one, Nat.zero_add]; exact row_cell (hp.get (i := 0) rfl) (sw_get hxi)), ?_⟩
      conv => whnf
      repeat (first | (refine VSeq.mk fun Kq hKq => ?_; conv => whnf) | (refine hKq _ _ _ (V.Sub.refl _) ?_; clear hKq Kq; conv => whnf) | (clear hKq Kq; refine hKq _ _ _ (V.Sub.refl _) ?_; clear hKq Kq; conv => whnf) | (clear hKq Kq; clear hKq Kq; refine hKq _ _ _ (V.Sub.refl _) ?_; clear hKq Kq; conv => whnf) | (clear hKq Kq; clear hKq Kq; clear hKq Kq; refine hKq _ _ _ (V.Sub.refl _) ?_; clear hKq Kq; conv => whnf) | (clear hKq Kq; clear hKq Kq; clear hKq Kq; clear hKq Kq; refine hKq _ _ _ (V.Sub.refl _) ?_; clear hKq Kq; conv => whnf) | (clear hKq Kq; clear hKq Kq; clear hKq Kq; clear hKq Kq; clear hKq Kq; refine hKq _ _ _ (V.Sub.refl _) ?_; clear hKq Kq; conv => whnf) | (refine And.intro (by omega) ?_; conv => whnf))
      refine And.intro (by rw [show ((⟨#[121]⟩ : ByteArray)).size = 1 from rfl]; omega) ?_
      conv => whnf
      repeat (first | (refine VSeq.mk fun Kq hKq => ?_; conv => whnf) | (refine hKq _ _ _ (V.Sub.refl _) ?_; clear hKq Kq; conv => whnf) | (clear hKq Kq; refine hKq _ _ _ (V.Sub.refl _) ?_; clear hKq Kq; conv => whnf) | (clear hKq Kq; clear hKq Kq; refine hKq _ _ _ (V.Sub.refl _) ?_; clear hKq Kq; conv => whnf) | (clear hKq Kq; clear hKq Kq; clear hKq Kq; refine hKq _ _ _ (V.Sub.refl _) ?_; clear hKq Kq; conv => whnf) | (clear hKq Kq; clear hKq Kq; clear hKq Kq; clear hKq Kq; refine hKq _ _ _ (V.Sub.refl _) ?_; clear hKq Kq; conv => whnf) | (clear hKq Kq; clear hKq Kq; clear hKq Kq; clear hKq Kq; clear hKq Kq; refine hKq _ _ _ (V.Sub.refl _) ?_; clear hKq Kq; conv => whnf) | (refine And.intro (by omega) ?_; conv => whnf))
      have hSy : (x ++ (⟨#[121]⟩ : ByteArray)).size = x.size + 1 := by rw [ByteArray.size_append]; rfl
      generalize x ++ (⟨#[121]⟩ : ByteArray) = y at hSy ⊢
      refine v_mix TTok FFok mixed 16 [(0, false), (1, false), (2, false), (3, false), (4, false), (5, false), (6, false), (7, false), (8, false), (9, false), (10, false), (11, false), (12, false), (13, false), (14, false), (15, false)] (by kernel_rfl) ?_
      conv => whnf
      repeat (first | (refine VSeq.mk fun Kq hKq => ?_; conv => whnf) | (refine hKq _ _ _ (V.Sub.refl _) ?_; clear hKq Kq; conv => whnf) | (clear hKq Kq; refine hKq _ _ _ (V.Sub.refl _) ?_; clear hKq Kq; conv => whnf) | (clear hKq Kq; clear hKq Kq; refine hKq _ _ _ (V.Sub.refl _) ?_; clear hKq Kq; conv => whnf) | (clear hKq Kq; clear hKq Kq; clear hKq Kq; refine hKq _ _ _ (V.Sub.refl _) ?_; clear hKq Kq; conv => whnf) | (clear hKq Kq; clear hKq Kq; clear hKq Kq; clear hKq Kq; refine hKq _ _ _ (V.Sub.refl _) ?_; clear hKq Kq; conv => whnf) | (clear hKq Kq; clear hKq Kq; clear hKq Kq; clear hKq Kq; clear hKq Kq; refine hKq _ _ _ (V.Sub.refl _) ?_; clear hKq Kq; conv => whnf) | (refine And.intro (by omega) ?_; conv => whnf))
      obtain ⟨q, hq⟩ : ∃ q, n % 1300 / y.size + 1 = q := ⟨_, rfl⟩
      have hq1 : q * y.size ≤ 1299 + y.size := by
        have := Nat.div_mul_le_self (n % 1300) y.size
        rw [← hq, Nat.add_mul]; omega
      have hq2 : q ≤ 1301 := by rw [← hq]; have := Nat.div_le_self (n % 1300) y.size; omega
      have hqe : ((n : Int) % 1300 / (y.size : Int) + 1) = (q : Int) := by rw [← hq]; simp
      rw [hqe, hie]
      refine And.intro (by omega) ?_
      conv => whnf
      repeat (first | (refine VSeq.mk fun Kq hKq => ?_; conv => whnf) | (refine hKq _ _ _ (V.Sub.refl _) ?_; clear hKq Kq; conv => whnf) | (clear hKq Kq; refine hKq _ _ _ (V.Sub.refl _) ?_; clear hKq Kq; conv => whnf) | (clear hKq Kq; clear hKq Kq; refine hKq _ _ _ (V.Sub.refl _) ?_; clear hKq Kq; conv => whnf) | (clear hKq Kq; clear hKq Kq; clear hKq Kq; refine hKq _ _ _ (V.Sub.refl _) ?_; clear hKq Kq; conv => whnf) | (clear hKq Kq; clear hKq Kq; clear hKq Kq; clear hKq Kq; refine hKq _ _ _ (V.Sub.refl _) ?_; clear hKq Kq; conv => whnf) | (clear hKq Kq; clear hKq Kq; clear hKq Kq; clear hKq Kq; clear hKq Kq; refine hKq _ _ _ (V.Sub.refl _) ?_; clear hKq Kq; conv => whnf) | (refine And.intro (by omega) ?_; conv => whnf))
      first | refine PureF.quiet (Repeat_p y q (by rw [Nat.mul_comm]; omega) (by omega)) ?_ | refine PureF.quietE (Repeat_p y q (by rw [Nat.mul_comm]; omega) (by omega)) ?_
      conv => whnf
      repeat (first | (refine VSeq.mk fun Kq hKq => ?_; conv => whnf) | (refine hKq _ _ _ (V.Sub.refl _) ?_; clear hKq Kq; conv => whnf) | (clear hKq Kq; refine hKq _ _ _ (V.Sub.refl _) ?_; clear hKq Kq; conv => whnf) | (clear hKq Kq; clear hKq Kq; refine hKq _ _ _ (V.Sub.refl _) ?_; clear hKq Kq; conv => whnf) | (clear hKq Kq; clear hKq Kq; clear hKq Kq; refine hKq _ _ _ (V.Sub.refl _) ?_; clear hKq Kq; conv => whnf) | (clear hKq Kq; clear hKq Kq; clear hKq Kq; clear hKq Kq; refine hKq _ _ _ (V.Sub.refl _) ?_; clear hKq Kq; conv => whnf) | (clear hKq Kq; clear hKq Kq; clear hKq Kq; clear hKq Kq; clear hKq Kq; refine hKq _ _ _ (V.Sub.refl _) ?_; clear hKq Kq; conv => whnf) | (refine And.intro (by omega) ?_; conv => whnf))
      refine ⟨ix, ⟨by first | rfl | omega, by omega⟩, ?_⟩
      conv => whnf
      repeat (first | (refine VSeq.mk fun Kq hKq => ?_; conv => whnf) | (refine hKq _ _ _ (V.Sub.refl _) ?_; clear hKq Kq; conv => whnf) | (clear hKq Kq; refine hKq _ _ _ (V.Sub.refl _) ?_; clear hKq Kq; conv => whnf) | (clear hKq Kq; clear hKq Kq; refine hKq _ _ _ (V.Sub.refl _) ?_; clear hKq Kq; conv => whnf) | (clear hKq Kq; clear hKq Kq; clear hKq Kq; refine hKq _ _ _ (V.Sub.refl _) ?_; clear hKq Kq; conv => whnf) | (clear hKq Kq; clear hKq Kq; clear hKq Kq; clear hKq Kq; refine hKq _ _ _ (V.Sub.refl _) ?_; clear hKq Kq; conv => whnf) | (clear hKq Kq; clear hKq Kq; clear hKq Kq; clear hKq Kq; clear hKq Kq; refine hKq _ _ _ (V.Sub.refl _) ?_; clear hKq Kq; conv => whnf) | (refine And.intro (by omega) ?_; conv => whnf))
      intro w hx
      try (have hp := hp.call hx)
      conv => whnf
      repeat (first | (refine VSeq.mk fun Kq hKq => ?_; conv => whnf) | (refine hKq _ _ _ (V.Sub.refl _) ?_; clear hKq Kq; conv => whnf) | (clear hKq Kq; refine hKq _ _ _ (V.Sub.refl _) ?_; clear hKq Kq; conv => whnf) | (clear hKq Kq; clear hKq Kq; refine hKq _ _ _ (V.Sub.refl _) ?_; clear hKq Kq; conv => whnf) | (clear hKq Kq; clear hKq Kq; clear hKq Kq; refine hKq _ _ _ (V.Sub.refl _) ?_; clear hKq Kq; conv => whnf) | (clear hKq Kq; clear hKq Kq; clear hKq Kq; clear hKq Kq; refine hKq _ _ _ (V.Sub.refl _) ?_; clear hKq Kq; conv => whnf) | (clear hKq Kq; clear hKq Kq; clear hKq Kq; clear hKq Kq; clear hKq Kq; refine hKq _ _ _ (V.Sub.refl _) ?_; clear hKq Kq; conv => whnf) | (refine And.intro (by omega) ?_; conv => whnf))
      refine hp.kstR TTok rfl 0 rfl (off := addM 0 ix 1) (by rw [addM_eq]; omega) rfl rfl fun w1 hp => ?_
      simp only [List.set_cons_zero] at hp
      rw [addM_eq, Nat.mul_one, Nat.zero_add] at hp
      change HpM _ _ w1 [row 9 1 _ _ ((sw C).set ix (.string (repS y q))), _] at hp
      rw [sw_set] at hp
      conv => whnf
      repeat (first | (refine VSeq.mk fun Kq hKq => ?_; conv => whnf) | (refine hKq _ _ _ (V.Sub.refl _) ?_; clear hKq Kq; conv => whnf) | (clear hKq Kq; refine hKq _ _ _ (V.Sub.refl _) ?_; clear hKq Kq; conv => whnf) | (clear hKq Kq; clear hKq Kq; refine hKq _ _ _ (V.Sub.refl _) ?_; clear hKq Kq; conv => whnf) | (clear hKq Kq; clear hKq Kq; clear hKq Kq; refine hKq _ _ _ (V.Sub.refl _) ?_; clear hKq Kq; conv => whnf) | (clear hKq Kq; clear hKq Kq; clear hKq Kq; clear hKq Kq; refine hKq _ _ _ (V.Sub.refl _) ?_; clear hKq Kq; conv => whnf) | (clear hKq Kq; clear hKq Kq; clear hKq Kq; clear hKq Kq; clear hKq Kq; refine hKq _ _ _ (V.Sub.refl _) ?_; clear hKq Kq; conv => whnf) | (refine And.intro (by omega) ?_; conv => whnf))
      refine key (C.set ix (repS y q)) _ _ (by rw [List.length_set]) (fun z hz => ?_) (sub_cons rfl (sub_cons rfl sub_nil)) hp
      rcases List.mem_or_eq_of_mem_set hz with h | h
      · have := hCs z h; omega
      · rw [h, repS_size]; omega
    · have h8 := of_decide_eq_false h8
      conv => whnf
      repeat (first | (refine VSeq.mk fun Kq hKq => ?_; conv => whnf) | (refine hKq _ _ _ (V.Sub.refl _) ?_; clear hKq Kq; conv => whnf) | (clear hKq Kq; refine hKq _ _ _ (V.Sub.refl _) ?_; clear hKq Kq; conv => whnf) | (clear hKq Kq; clear hKq Kq; refine hKq _ _ _ (V.Sub.refl _) ?_; clear hKq Kq; conv => whnf) | (clear hKq Kq; clear hKq Kq; clear hKq Kq; refine hKq _ _ _ (V.Sub.refl _) ?_; clear hKq Kq; conv => whnf) | (clear hKq Kq; clear hKq Kq; clear hKq Kq; clear hKq Kq; refine hKq _ _ _ (V.Sub.refl _) ?_; clear hKq Kq; conv => whnf) | (clear hKq Kq; clear hKq Kq; clear hKq Kq; clear hKq Kq; clear hKq Kq; refine hKq _ _ _ (V.Sub.refl _) ?_; clear hKq Kq; conv => whnf) | (refine And.intro (by omega) ?_; conv => whnf))
      exact key C _ _ rfl (fun y hy => by have := hCs y hy; omega) (sub_cons rfl (sub_cons rfl sub_nil)) hp
theorem xors_at {W : World} {v : Value} (L : List ByteArray) (hv : SLv W v (sw L)) (a1 a2 : Int) (w1 : (Lit.int .u16 a1).wf = true) (w2 : (Lit.int .u8 a2).wf = true) :
    Calls Try.prog 5 #[v, .int .u16 a1, .int .u8 a2] W fun e w' => e = .returned (.bool true) ∧ Ext W w' := by
  obtain ⟨n, rfl, hn⟩ := nat_of_u w1 rfl
  obtain ⟨d, rfl, hd⟩ := nat_of_u w2 rfl
  exact xors_law L hv n d hn hd
end Go.Proofs.Ytfcppphchicdfaa
