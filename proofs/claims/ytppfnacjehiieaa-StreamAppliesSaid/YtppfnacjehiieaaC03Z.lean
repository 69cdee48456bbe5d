/- Chapter 03: the laws at arguments as they come. -/
import Derived.Test.YtppfnacjehiieaaP
import Derived.Test.YtppfnacjehiieaaC03V
namespace Go.Proofs.Ytppfnacjehiieaa
set_option linter.unusedSimpArgs false
set_option linter.unusedVariables false
open Go.RowKit V
theorem undoes_at (k n s : ByteArray) (a : Int) (h : (Lit.int .u32 a).wf = true) : PureF Try.prog 5 #[.string k, .string n, .int .u32 a, .string s] (.bool true) := by
  obtain ⟨m, rfl, hm⟩ := nat_of_u h rfl
  exact undoes_law k n s m hm
theorem cuts_at (k n s : ByteArray) (a b : Int) (h : (Lit.int .u32 a).wf = true) (h2 : (Lit.int .u16 b).wf = true) : PureF Try.prog 6 #[.string k, .string n, .int .u32 a, .string s, .int .u16 b] (.bool true) := by
  obtain ⟨m, rfl, hm⟩ := nat_of_u h rfl
  obtain ⟨q, rfl, hq⟩ := nat_of_u h2 rfl
  exact cuts_law k n s m hm q hq
theorem applies_at (k n s : ByteArray) (c d q : Int) (hc : (Lit.int .i64 c).wf = true) (hd : (Lit.int .u32 d).wf = true) (hq : (Lit.int .u16 q).wf = true) : PureF Try.prog 4 #[.string k, .string n, .int .i64 c, .int .u32 d, .string s, .int .u16 q] (.bool true) := by
  obtain ⟨q, rfl, hq2⟩ := nat_of_u hq rfl
  exact applies_law k n s c d q (wf_i64 hc) (wf_u hd rfl).1 (wf_u hd rfl).2 hq2
end Go.Proofs.Ytppfnacjehiieaa
