/- Chapter 27: drafts, losses and lists of changes that come in. -/
import Derived.Test.YtpiilfamfinieaaDoorC27Z
import Derived.Test.YtpiilfamfinieaaDoorC27V
import Derived.Test.YtpiilfamfinieaaDoorA
namespace Go.Proofs.YtpiilfamfinieaaDoor
set_option linter.unusedSimpArgs false
set_option linter.unusedVariables false
open Go.RowKit V
theorem draft_rd {w : World} {c : Array Value} (h : Rd w (.cons (.int .u8) (.cons (.int .u8) (.cons (.sl .str) .nil))) c.toList) :
    ∃ (a b : Nat) (v : Value) (D : List ByteArray), c = #[.int .u8 a, .int .u8 b, v] ∧ a < 256 ∧ b < 256 ∧ SLv w v (sw D) ∧ ∀ x ∈ D, x.size ≤ maxLen := by
  obtain ⟨x1, y1, e1, ⟨a, rfl, ha⟩, x2, y2, rfl, ⟨b, rfl, hb⟩, x3, y3, rfl, ⟨v, xs, rfl, hs, hx⟩, (rfl : y3 = [])⟩ := h
  obtain ⟨a, rfl, ha1⟩ := nat_of_u ha rfl
  obtain ⟨b, rfl, hb1⟩ := nat_of_u hb rfl
  obtain ⟨L, hs, hl⟩ := SLn.strs hs hx
  exact ⟨a, b, v, L, Array.toList_inj.1 e1, ha1, hb1, hs, hl⟩
theorem loss_rd {w : World} {c : Array Value} (h : Rd w (.cons (.int .u64) (.cons (.int .u64) (.cons (.int .u64) .nil))) c.toList) :
    ∃ (x y z : Nat), c = #[.int .u64 x, .int .u64 y, .int .u64 z] ∧ x < 18446744073709551616 ∧ y < 18446744073709551616 ∧ z < 18446744073709551616 := by
  obtain ⟨x1, y1, e1, ⟨a, rfl, ha⟩, x2, y2, rfl, ⟨b, rfl, hb⟩, x3, y3, rfl, ⟨d, rfl, hd⟩, (rfl : y3 = [])⟩ := h
  obtain ⟨a, rfl, ha1⟩ := nat_of_u ha rfl
  obtain ⟨b, rfl, hb1⟩ := nat_of_u hb rfl
  obtain ⟨d, rfl, hd1⟩ := nat_of_u hd rfl
  exact ⟨a, b, d, Array.toList_inj.1 e1, ha1, hb1, hd1⟩
end Go.Proofs.YtpiilfamfinieaaDoor
