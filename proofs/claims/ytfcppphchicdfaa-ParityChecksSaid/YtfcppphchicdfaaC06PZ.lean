/- Chapter 06: ParityChecks, at its arguments. -/
import Derived.Test.YtfcppphchicdfaaC06P
namespace Go.Proofs.Ytfcppphchicdfaa
set_option linter.unusedSimpArgs false
set_option linter.unusedVariables false
open Go.RowKit V
theorem checks_at (a0 a1 : Int) (a2 : ByteArray) (a3 a4 : Int) (w0 : (Lit.int .i64 a0).wf = true) (w1 : (Lit.int .i64 a1).wf = true) (w3 : (Lit.int .u16 a3).wf = true) (w4 : (Lit.int .u32 a4).wf = true) :
    PureF Try.prog 3 #[.int .i64 a0, .int .i64 a1, .string a2, .int .u16 a3, .int .u32 a4] (.bool true) := by
  obtain ⟨n, rfl, hn⟩ := nat_of_u w3 rfl
  obtain ⟨d, rfl, hd⟩ := nat_of_u w4 rfl
  exact checks_law a0 a1 a2 n d (wf_i64 w0) (wf_i64 w1) hn hd
end Go.Proofs.Ytfcppphchicdfaa
