/- Chapter 27: what the listed tables give. -/
import Derived.Test.YtpiilfamfinieaaDoorRows
import Derived.Test.YtpiilfamfinieaaDoorC27C
import Derived.ProofKit
import Derived.LaidMore
import Derived.OpenShut
namespace Go.Proofs.YtpiilfamfinieaaDoor
set_option linter.unusedVariables false
open Go.ChangeShapes Go.WideShapes Go.ChangeAt Go.RowKit V
def laid2 : List (String × DataW Unit) := [("math/bits.deBruijn32tab", Rows.laid_math_bits_deBruijn32tab), ("math/bits.deBruijn64tab", Rows.laid_math_bits_deBruijn64tab)]
theorem g64 : Tryd.prog.globalNamed "math/bits.deBruijn64tab" = some 1 := by kernel_rfl
theorem t64 : ((Tryd.prog.globals[1]?).map (·.type)).bind Tryd.prog.underlying = some (.array 64 5) := by kernel_rfl
theorem laid64 : (Rows.laid_math_bits_deBruijn64tab : DataW Unit) = .agg (tzT.map fun (n : Nat) => .lit (.int .u8 n)) := rfl
theorem laid_get (i : Nat) (d : DataW Unit) (h : (tzT.map fun (n : Nat) => (DataW.lit (.int .u8 n) : DataW Unit))[i]? = some d) : ∃ n : Nat, tzT[i]? = some n ∧ d = .lit (.int .u8 n) := by
  rw [List.getElem?_map, Option.map_eq_some_iff] at h
  obtain ⟨n, h1, h2⟩ := h
  exact ⟨n, h1, h2.symm⟩
set_option maxRecDepth 100000 in
theorem of_laid {W : World} (h : laidMetH Tryd.prog laid2 W) : Good W := by
  rw [MakeChecks.laidMetH_plain _ _ _ (by kernel_rfl)] at h
  obtain ⟨ps, ⟨g0, t0, cs0, f0, p0, q0, hg0, ht0, hv0, hd0, ⟨g1, t1, cs1, f1, p1, q1, hg1, ht1, hv1, hd1, _, _⟩, _⟩, _, _⟩ := h
  obtain rfl := Option.some.inj (g64.symm.trans hg1)
  have hu := t64
  rw [ht1] at hu
  obtain ⟨xs, m1, rfl, hx1, hlen, hn3, hel⟩ := DataW.trod_array hu hd1
  simp only [Prod.mk.injEq] at hx1
  rw [laid64, DataW.agg.injEq] at hx1
  have c8 : Tryd.prog.cellsOf 5 = 1 := by kernel_rfl
  intro i v hv
  have hi : i < 64 := (List.getElem?_eq_some_iff.1 hv).1
  have hxi : xs[i]? = some xs[i] := List.getElem?_eq_getElem (by omega)
  have he := hel i hi
  rw [hxi] at he
  obtain ⟨k, e1, e2, _⟩ := DataW.trod_int Tryd.underlying5 he
  have hd : (tzT.map fun (n : Nat) => (DataW.lit (.int .u8 n) : DataW Unit))[i]? = some (.lit (.int .u8 k)) := by
    rw [hx1.1, List.getElem?_map, hxi, e2]; rfl
  obtain ⟨n, hn, hk⟩ := laid_get i _ hd
  have hvn : v = .int .u8 n := by
    have : (kw .u8 tzT)[i]? = some (.int .u8 n) := by
      unfold kw
      rw [List.getElem?_map, hn]; rfl
    rw [this] at hv
    exact (Option.some.inj hv).symm
  simp only [DataW.lit.injEq, Lit.int.injEq, true_and] at hk
  rw [World.var?_cell hg1 hv1 i, hvn, ← hk]
  rw [c8, Nat.mul_one] at e1
  have := congrArg (fun l => l[0]?) e1
  simp at this
  obtain ⟨l⟩ := cs1
  simpa using this
set_option maxRecDepth 100000 in
theorem door_met (os : Os) (args : Array Value) : laidMetH Tryd.prog laid2 ((World.doorLaid Tryd.prog 400 os).forCall (fun _ _ => 0) ⟨#[], args, []⟩).memory :=
  laidMetH_of_parts3 (fuel := 8) (laidMet_of_run' 8 (by kernel_rfl) (by kernel_rfl)) (by kernel_rfl) (by kernel_rfl)
end Go.Proofs.YtpiilfamfinieaaDoor
