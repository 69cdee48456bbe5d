/- Chapter 02: lists of hashes. -/
import Derived.Test.YtebmmfeegjgbeaaC02PA
namespace Go.Proofs.Ytebmmfeegjgbeaa
set_option linter.unusedSimpArgs false
set_option linter.unusedVariables false
open Go.RowKit V
set_option maxRecDepth 100000
abbrev HX3 : Type := List Nat × ByteArray × Int
def hX (x : HX3) : List Value := hC x.1 x.2.1 x.2.2
def hXs (l : List HX3) : List Value := l.flatMap hX
def HOk (x : HX3) : Prop := W8 x.1 ∧ x.2.1.size ≤ 70 ∧ (-9223372036854775808 ≤ x.2.2 ∧ x.2.2 ≤ 9223372036854775807)
theorem hX_len (x : HX3) (h : HOk x) : (hX x).length = 10 := by unfold hX; rw [hC_len, h.1.1]
theorem hXs_len : ∀ (l : List HX3), (∀ x ∈ l, HOk x) → (hXs l).length = l.length * 10
  | [], _ => rfl
  | x :: l, h => by
    show (hX x ++ hXs l).length = _
    rw [List.length_append, hX_len x (h x List.mem_cons_self), hXs_len l fun y hy => h y (List.mem_cons_of_mem _ hy), List.length_cons]
    omega
theorem hXs_at : ∀ (l : List HX3), (∀ x ∈ l, HOk x) → ∀ (i : Nat) (x : HX3), l[i]? = some x → ((hXs l).drop (i * 10)).take 10 = hX x
  | [], _, i, x, hx => by simp at hx
  | y :: l, h, 0, x, hx => by
    have e : y = x := by simpa using hx
    subst e
    show ((hX y ++ hXs l).drop 0).take 10 = _
    rw [List.drop_zero, List.take_append_of_le_length (by rw [hX_len y (h y List.mem_cons_self)]; exact Nat.le_refl _), List.take_of_length_le (by rw [hX_len y (h y List.mem_cons_self)]; exact Nat.le_refl _)]
  | y :: l, h, i + 1, x, hx => by
    have hx2 : l[i]? = some x := by simpa using hx
    have ih := hXs_at l (fun z hz => h z (List.mem_cons_of_mem _ hz)) i x hx2
    show ((hX y ++ hXs l).drop ((i + 1) * 10)).take 10 = _
    have hl := hX_len y (h y List.mem_cons_self)
    rw [show (i + 1) * 10 = (hX y).length + i * 10 by omega, ← List.drop_drop, List.drop_left]
    exact ih
theorem hC_set8 (h : List Nat) (t s : ByteArray) (c : Int) (h8 : h.length = 8) : (hC h t c).set 8 (.string s) = hC h s c := by
  unfold hC
  rw [List.set_append_right _ _ (by rw [kw_len]; omega), kw_len, h8]
  rfl
theorem psw_take (L : List ByteArray) (n : Nat) : (sw L).take n = sw (L.take n) := by simp [sw, List.map_take]
theorem pB_tail (a : List UInt8) : (stB a)[8]? = some (.string ⟨(rest a).toArray⟩) := hC_tail _ _ _ (mixA_W8 KL SL_W8 a).1
theorem pB_cnt (a : List UInt8) : (stB a)[9]? = some (.int .i64 ((a.length : Nat) : Int)) := hC_cnt _ _ _ (mixA_W8 KL SL_W8 a).1
theorem pB_one (a : List UInt8) : ∀ u ∈ stB a, u.oneCell' = true := hC_one _ _ _
theorem mix0 : mixA KL SL [] = SL := rfl
theorem len8 {h : List Nat} (hl : h.length = 8) : ∃ a b c d e f g i, h = [a, b, c, d, e, f, g, i] := by
  match h, hl with
  | [a, b, c, d, e, f, g, i], _ => exact ⟨a, b, c, d, e, f, g, i, rfl⟩
theorem build1 (x : HX3) (hx : HOk x) (w : World) : (Instr.buildSlice 62 1 #[(0, .agg (hX x).toArray)]).run Try.prog w = .ok (.slice (some ⟨w.heap.size, 0, none⟩) 1 1) (w.alloc (.cells (hXs [x]).toArray 27)) := by
  obtain ⟨h, t, c⟩ := x
  obtain ⟨a1, a2, a3, a4, a5, a6, a7, a8, rfl⟩ := len8 hx.1.1
  kernel_rfl
theorem build3 (x y z : HX3) (hx : HOk x) (hy : HOk y) (hz : HOk z) (w : World) : (Instr.buildSlice 62 3 #[(0, .agg (hX x).toArray), (1, .agg (hX y).toArray), (2, .agg (hX z).toArray)]).run Try.prog w = .ok (.slice (some ⟨w.heap.size, 0, none⟩) 3 3) (w.alloc (.cells (hXs [x, y, z]).toArray 27)) := by
  obtain ⟨h, t, c⟩ := x
  obtain ⟨a1, a2, a3, a4, a5, a6, a7, a8, rfl⟩ := len8 hx.1.1
  obtain ⟨h, t, c⟩ := y
  obtain ⟨a1, a2, a3, a4, a5, a6, a7, a8, rfl⟩ := len8 hy.1.1
  obtain ⟨h, t, c⟩ := z
  obtain ⟨a1, a2, a3, a4, a5, a6, a7, a8, rfl⟩ := len8 hz.1.1
  kernel_rfl
def hSt (a : List UInt8) : HX3 := (mixA KL SL a, ⟨(rest a).toArray⟩, ((a.length : Nat) : Int))
theorem hSt_eq (a : List UInt8) : hX (hSt a) = stB a := rfl
theorem hSt_ok (a : List UInt8) (ha : a.length ≤ 100000) : HOk (hSt a) := ⟨mixA_W8 KL SL_W8 a, by show (rest a).length ≤ 70; rw [rest_len]; omega, ⟨by show -9223372036854775808 ≤ ((a.length : Nat) : Int); omega, by show ((a.length : Nat) : Int) ≤ _; omega⟩⟩
end Go.Proofs.Ytebmmfeegjgbeaa
