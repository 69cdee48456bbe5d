/- octets.Unhex on a text of hexadecimal digits (for any seat). -/
import Derived.Test.YtejphmgpndgliaaHX
namespace Go.Proofs.Ytejphmgpndgliaa
set_option linter.unusedSimpArgs false
set_option linter.unusedVariables false
open Go.RowKit V
def nib (x : UInt8) : Nat := hexD.idxOf x
def unh : List UInt8 → List UInt8
  | [] => []
  | [a] => [UInt8.ofNat (16 * nib a)]
  | a :: b :: r => UInt8.ofNat (16 * nib a + nib b) :: unh r
theorem unh_len : ∀ l : List UInt8, (unh l).length = (l.length + 1) / 2
  | [] => rfl
  | [_] => by simp [unh]
  | a :: b :: r => by
    rw [unh, List.length_cons, unh_len r]
    simp only [List.length_cons]
    omega
theorem unh_even : ∀ (l : List UInt8) (x : UInt8), l.length % 2 = 0 → unh (l ++ [x]) = unh l ++ [UInt8.ofNat (16 * nib x)]
  | [], x, _ => rfl
  | [a], x, h => by simp at h
  | a :: b :: r, x, h => by
    have := unh_even r x (by simp only [List.length_cons] at h; omega)
    rw [List.cons_append, List.cons_append, unh, this, unh, List.cons_append]
theorem unh_odd : ∀ (l : List UInt8) (x : UInt8), l.length % 2 = 1 → (∀ y ∈ l, nib y < 16) → nib x < 16 →
    (unh l).length = l.length / 2 + 1 ∧ unh (l ++ [x]) = (unh l).set (l.length / 2) (UInt8.ofNat (((unh l).getD (l.length / 2) 0).toNat ||| nib x))
  | [], x, h, _, _ => by simp at h
  | [a], x, _, hl, hx => by
    refine ⟨by simp [unh], ?_⟩
    have ha := hl a (by simp)
    have e1 : unh [a] = [UInt8.ofNat (16 * nib a)] := by simp [unh]
    have e2 : unh ([a] ++ [x]) = [UInt8.ofNat (16 * nib a + nib x)] := by simp [unh]
    rw [e1, e2]
    rw [show ([a].length / 2) = 0 by simp, List.set_cons_zero, show ([UInt8.ofNat (16 * nib a)].getD 0 0) = UInt8.ofNat (16 * nib a) from rfl]
    rw [UInt8.toNat_ofNat_of_lt' (by show 16 * nib a < 256; omega)]
    have e : 16 * nib a ||| nib x = 16 * nib a + nib x := by
      have := Nat.two_pow_add_eq_or_of_lt (i := 4) hx (nib a)
      rw [show (2 : Nat) ^ 4 = 16 from rfl] at this
      exact this.symm
    rw [e]
  | a :: b :: r, x, h, hl, hx => by
    have hr : r.length % 2 = 1 := by simp only [List.length_cons] at h; omega
    obtain ⟨i1, i2⟩ := unh_odd r x hr (fun y hy => hl y (by simp [hy])) hx
    have e : (a :: b :: r).length / 2 = r.length / 2 + 1 := by simp only [List.length_cons]; omega
    rw [e]
    refine ⟨by rw [unh, List.length_cons, i1], ?_⟩
    rw [List.cons_append, List.cons_append, unh, i2, unh, List.set_cons_succ]
    rfl
theorem nib_find (x : UInt8) : ∀ i, i < 16 → nib x < 16 → (hexD.getD i 0 = x ↔ i = nib x) := by
  intro i hi hx
  unfold nib at *
  have hl : hexD.length = 16 := rfl
  have hg := List.getElem_idxOf (xs := hexD) (x := x) (by rw [hl]; exact hx)
  rw [List.getD_eq_getElem?_getD, List.getElem?_eq_getElem (by rw [hl]; exact hi), Option.getD_some]
  constructor
  · intro h
    have hn : hexD.Nodup := by decide
    exact (List.getElem_inj hn).1 (h.trans hg.symm)
  · rintro rfl; exact hg
end Go.Proofs.Ytejphmgpndgliaa
