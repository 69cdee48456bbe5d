/- Chapter 06: ParityJoins, at its arguments. -/
import Derived.Test.YtfcppphchicdfaaC06R
namespace Go.Proofs.Ytfcppphchicdfaa
set_option linter.unusedSimpArgs false
set_option linter.unusedVariables false
open Go.RowKit V
theorem joins_at (a0 a1 a2 a3 : Int) (a4 a5 : ByteArray) (a6 a7 a8 : Int) (w0 : (Lit.int .i64 a0).wf = true) (w1 : (Lit.int .i64 a1).wf = true) (w2 : (Lit.int .i64 a2).wf = true) (w3 : (Lit.int .i64 a3).wf = true) (w6 : (Lit.int .u32 a6).wf = true) (w7 : (Lit.int .u32 a7).wf = true) (w8 : (Lit.int .u16 a8).wf = true) :
    PureF Try.prog 4 #[.int .i64 a0, .int .i64 a1, .int .i64 a2, .int .i64 a3, .string a4, .string a5, .int .u32 a6, .int .u32 a7, .int .u16 a8] (.bool true) := by
  obtain ⟨c, rfl, hc⟩ := nat_of_u w6 rfl
  obtain ⟨d, rfl, hd⟩ := nat_of_u w7 rfl
  obtain ⟨k, rfl, hk⟩ := nat_of_u w8 rfl
  exact joins_law a0 a1 a2 a3 a4 a5 c d k (wf_i64 w0) (wf_i64 w1) (wf_i64 w2) (wf_i64 w3) hc hd hk
end Go.Proofs.Ytfcppphchicdfaa
