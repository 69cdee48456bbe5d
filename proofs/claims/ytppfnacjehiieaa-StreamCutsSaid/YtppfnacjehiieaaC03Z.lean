/- Chapter 03: the laws at arguments as they come. -/
import Derived.Test.YtppfnacjehiieaaP
import Derived.Test.YtppfnacjehiieaaC03U
namespace Go.Proofs.Ytppfnacjehiieaa
set_option linter.unusedSimpArgs false
set_option linter.unusedVariables false
open Go.RowKit V
theorem undoes_at (k n s : ByteArray) (a : Int) (h : (Lit.int .u32 a).wf = true) : PureF Try.prog 5 #[.string k, .string n, .int .u32 a, .string s] (.bool true) := by
  obtain ⟨m, rfl, hm⟩ := nat_of_u h rfl
  exact undoes_law k n s m hm
theorem cuts_at (k n s : ByteArray) (a b : Int) (h : (Lit.int .u32 a).wf = true) (h2 : (Lit.int .u16 b).wf = true) : PureF Try.prog 6 #[.string k, .string n, .int .u32 a, .string s, .int .u16 b] (.bool true) := by
  obtain ⟨m, rfl, hm⟩ := nat_of_u h rfl
  obtain ⟨q, rfl, hq⟩ := nat_of_u h2 rfl
  exact cuts_law k n s m hm q hq
end Go.Proofs.Ytppfnacjehiieaa
