/- Repeated strings. Own work, over the kit's contract. -/
import Derived.Test.YtejphmgpndgliaaQ
import Derived.Test.YtejphmgpndgliaaT
import Derived.Test.YtejphmgpndgliaaL
namespace Go.Proofs.Ytejphmgpndgliaa
set_option linter.unusedSimpArgs false
set_option linter.unusedVariables false
open Go.RowKit V
def repS (s : ByteArray) (c : Nat) : ByteArray := ⟨(Lib.repeatL s.data.toList c).toArray⟩
theorem repS_size (s : ByteArray) (c : Nat) : (repS s c).size = c * s.size := by unfold repS; rw [bA_size, Lib.repeatL_length, toList_len]
theorem Repeat_p (s : ByteArray) (c : Nat) (hc : s.size * c ≤ 140737488355328) (hc2 : c ≤ 9223372036854775807) : PureF Try.prog 18 #[.string s, .int .i64 c] (.string (repS s c)) := fun w =>
  Any.strings_Repeat lays105 extra105 s c w hc2 hc
theorem repeatL_one_get (x : UInt8) : ∀ (n i : Nat), i < n → (Lib.repeatL [x] n).getD i 0 = x
  | 0, i, h => by omega
  | n + 1, 0, h => rfl
  | n + 1, i + 1, h => by have := repeatL_one_get x n i (by omega); simpa [Lib.repeatL] using this
theorem repeatL_one (x : UInt8) : ∀ n, Lib.repeatL [x] n = List.replicate n x
  | 0 => rfl
  | n + 1 => by rw [Lib.repeatL, repeatL_one x n]; rfl
end Go.Proofs.Ytejphmgpndgliaa
