/- Chapter 05: two secrets in either order. -/
import Derived.Test.YtejphmgpndgliaaC05GH
import Derived.Test.YtejphmgpndgliaaC05ZE
import Derived.Test.YtejphmgpndgliaaC05CL
namespace Go.Proofs.Ytejphmgpndgliaa
set_option linter.unusedSimpArgs false
set_option linter.unusedVariables false
set_option maxRecDepth 100000
open Go.RowKit V
def outB (n : Nat) : ByteArray := ⟨(le32 n).toArray⟩
theorem nine_N9 : uN ⟨nineL.toArray⟩ % PP = 9 := by decide +kernel
theorem clamp_bits (s : ByteArray) (h : s.size = 32) : ∃ ts : List Bool, ts.length = 251 ∧ bitsD (clampB s) = true :: (ts ++ [false, false, false]) := by
  obtain ⟨ts, ht⟩ := bits_clamp s h
  refine ⟨ts, ?_, ht⟩
  have := congrArg List.length ht
  rw [bitsD_len, List.length_cons, List.length_append] at this
  have e : [false, false, false].length = 3 := rfl
  omega
theorem outB_size (n : Nat) : (outB n).size = 32 := by show (List.toArray _).size = 32; rw [List.size_toArray, le32_len]
theorem outB_N {n : Nat} (h : n < PP) : uN (outB n) % PP = n := by
  have e : (outB n).data.toList = le32 n := rfl
  unfold uN
  rw [e, bytes_le32 n (Nat.lt_trans h (by decide)), Nat.mod_eq_of_lt (Nat.lt_trans h (by decide)), Nat.mod_eq_of_lt h]
theorem resO_lt (s p : ByteArray) : resO s p < PP := Nat.mod_lt _ (by decide)
theorem order_O (a b u : ByteArray) (ha : a.size = 32) (hb : b.size = 32) : (resO a u = 0 ↔ resO b u = 0) ∧ (resO a u ≠ 0 → resO b (outB (resO a u)) ≠ 0 ∧ resO b (outB (resO a u)) = resO a (outB (resO b u))) := by
  obtain ⟨ts, ht, hta⟩ := clamp_bits a ha
  obtain ⟨ss, hs, hsb⟩ := clamp_bits b hb
  have h := GA.order_ok ts ss ht hs (uN u % PP) (Nat.mod_lt _ (by decide))
  rw [← hta, ← hsb, ← resO_S, ← resO_S] at h
  rw [resO_S b (outB (resO a u)), resO_S a (outB (resO b u)), outB_N (resO_lt a u), outB_N (resO_lt b u)]
  exact h
theorem nine_O (a : ByteArray) (ha : a.size = 32) : resO a ⟨nineL.toArray⟩ ≠ 0 := by
  obtain ⟨ts, ht, hta⟩ := clamp_bits a ha
  have h := GA.base_ok ts ht
  rw [← hta] at h
  rw [resO_S, nine_N9]
  exact h
theorem Shared_z {s p : ByteArray} (h : s.size = 32) (hp : p.size = 32) (hz : resO s p = 0) : PureF Try.prog 14 #[.string s, .string p] (.tuple #[.string ⟨#[]⟩, .int .i64 2]) := by
  have h1 := Shared_ok s p h hp
  rwa [if_pos hz] at h1
theorem Shared_n {s p : ByteArray} (h : s.size = 32) (hp : p.size = 32) (hz : resO s p ≠ 0) : PureF Try.prog 14 #[.string s, .string p] (.tuple #[.string (outB (resO s p)), .int .i64 0]) := by
  have h1 := Shared_ok s p h hp
  rwa [if_neg hz] at h1
theorem Public_o (s : ByteArray) (h : s.size = 32) : PureF Try.prog 21 #[.string s] (.tuple #[.string (outB (resO s ⟨nineL.toArray⟩)), .int .i64 0]) := Public_ok s h
end Go.Proofs.Ytejphmgpndgliaa
