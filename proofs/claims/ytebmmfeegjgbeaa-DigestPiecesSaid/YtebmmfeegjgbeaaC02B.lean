/- Chapter 02: small functions, walked: Mul64, RotateLeft32 to the left, Clone, HasPrefix. -/
import Derived.Test.YtebmmfeegjgbeaaX6
import Derived.Test.YtebmmfeegjgbeaaX5
import Derived.Test.YtebmmfeegjgbeaaQR
import Derived.Test.YtebmmfeegjgbeaaE
import Derived.Test.YtebmmfeegjgbeaaC02M
import Derived.Lib.UnsafeStr
namespace Go.Proofs.Ytebmmfeegjgbeaa
set_option linter.unusedSimpArgs false
set_option linter.unusedVariables false
open Go.RowKit V
theorem Mul64_p (x y : Nat) (hx : x < 18446744073709551616) (hy : y < 18446744073709551616) : PureF Try.prog 60 #[.int .u64 x, .int .u64 y] (.tuple #[.int .u64 (x * y / 18446744073709551616 : Nat), .int .u64 (x * y % 18446744073709551616 : Nat)]) := fun w =>
  (Any.bits_Mul64 lays264 x y hx hy w).mono fun e w' ⟨h1, h2⟩ => ⟨h1, by rw [h2]; exact Ext.refl _⟩
def TR : V.Tab := TT.filter fun x => !Nat.beq x.1 84
theorem TRok : V.tabOk Try.prog TR = true := by kernel_rfl
theorem conv_neg (k : Nat) (h1 : 1 ≤ k) (h2 : k ≤ 31) (w : World) : (convert 3 84 (.int .i64 (-(k : Int)))).run Try.prog w = .ok (.int .u64 (18446744073709551616 - k : Nat)) w := by
  have e : IntKind.u64.wrap (-(k : Int)) = ((18446744073709551616 - k : Nat) : Int) := by
    show (-(k : Int)) % 18446744073709551616 = _
    omega
  rw [← e]
  simp only [convert, Sem.run_bind, V.run_underlying (tab_int TTok (t := 3) rfl), V.run_underlying (tab_int TTok (t := 84) rfl), Result.andThen]
  rfl
theorem rotN_p (x k : Nat) (hx : x < 4294967296) (h1 : 1 ≤ k) (h2 : k ≤ 31) : PureF Try.prog 73 #[.int .u32 x, .int .i64 (-(k : Int))] (.int .u32 (rotl x (32 - k) : Nat)) := by
  have hor : (x * 2 ^ (32 - k) % 4294967296) ||| (x / 2 ^ k) = rotl x (32 - k) := by
    unfold rotl
    rw [show 32 - (32 - k) = k by omega]
    refine nat_join (32 - k) _ _ ?_ ?_
    · rw [show 4294967296 = 2 ^ (32 - k) * 2 ^ k by rw [← Nat.pow_add, show (32 - k) + k = 32 by omega], Nat.mul_comm x, Nat.mul_mod_mul_left, Nat.mul_mod_right]
    · refine Nat.div_lt_of_lt_mul ?_
      rw [← Nat.pow_add, show k + (32 - k) = 32 by omega]; exact hx
  have hdv : x / 2 ^ k ≤ x := Nat.div_le_self _ _
  have hand : (18446744073709551616 - k) &&& 31 = 32 - k := by
    have := Nat.and_two_pow_sub_one_eq_mod (18446744073709551616 - k) 5
    rw [show 2 ^ 5 - 1 = 31 from rfl, show (2 : Nat) ^ 5 = 32 from rfl] at this
    rw [this]; omega
  refine v_pure (T := TR) TRok FFok Try.func73 rfl rfl fun w0 => ?_
  conv => whnf
  repeat (first | (refine VSeq.mk fun Kq hKq => ?_; conv => whnf) | (refine hKq _ _ _ (V.Sub.refl _) ?_; clear hKq Kq; conv => whnf) | (clear hKq Kq; refine hKq _ _ _ (V.Sub.refl _) ?_; clear hKq Kq; conv => whnf) | (clear hKq Kq; clear hKq Kq; refine hKq _ _ _ (V.Sub.refl _) ?_; clear hKq Kq; conv => whnf) | (clear hKq Kq; clear hKq Kq; clear hKq Kq; refine hKq _ _ _ (V.Sub.refl _) ?_; clear hKq Kq; conv => whnf) | (clear hKq Kq; clear hKq Kq; clear hKq Kq; clear hKq Kq; refine hKq _ _ _ (V.Sub.refl _) ?_; clear hKq Kq; conv => whnf) | (clear hKq Kq; clear hKq Kq; clear hKq Kq; clear hKq Kq; clear hKq Kq; refine hKq _ _ _ (V.Sub.refl _) ?_; clear hKq Kq; conv => whnf) | (refine And.intro (by omega) ?_; conv => whnf))
  refine ⟨.int .u64 (18446744073709551616 - k : Nat), w0, conv_neg k h1 h2 w0, ?_⟩
  conv => whnf
  repeat (first | (refine VSeq.mk fun Kq hKq => ?_; conv => whnf) | (refine hKq _ _ _ (V.Sub.refl _) ?_; clear hKq Kq; conv => whnf) | (clear hKq Kq; refine hKq _ _ _ (V.Sub.refl _) ?_; clear hKq Kq; conv => whnf) | (clear hKq Kq; clear hKq Kq; refine hKq _ _ _ (V.Sub.refl _) ?_; clear hKq Kq; conv => whnf) | (clear hKq Kq; clear hKq Kq; clear hKq Kq; refine hKq _ _ _ (V.Sub.refl _) ?_; clear hKq Kq; conv => whnf) | (clear hKq Kq; clear hKq Kq; clear hKq Kq; clear hKq Kq; refine hKq _ _ _ (V.Sub.refl _) ?_; clear hKq Kq; conv => whnf) | (clear hKq Kq; clear hKq Kq; clear hKq Kq; clear hKq Kq; clear hKq Kq; refine hKq _ _ _ (V.Sub.refl _) ?_; clear hKq Kq; conv => whnf) | (refine And.intro (by omega) ?_; conv => whnf))
  refine ⟨18446744073709551616 - k, 31, 32 - k, ⟨by first | rfl | omega, by first | rfl | omega, by omega, by omega⟩, by (dsimp only; exact hand), ?_⟩
  conv => whnf
  repeat (first | (refine VSeq.mk fun Kq hKq => ?_; conv => whnf) | (refine hKq _ _ _ (V.Sub.refl _) ?_; clear hKq Kq; conv => whnf) | (clear hKq Kq; refine hKq _ _ _ (V.Sub.refl _) ?_; clear hKq Kq; conv => whnf) | (clear hKq Kq; clear hKq Kq; refine hKq _ _ _ (V.Sub.refl _) ?_; clear hKq Kq; conv => whnf) | (clear hKq Kq; clear hKq Kq; clear hKq Kq; refine hKq _ _ _ (V.Sub.refl _) ?_; clear hKq Kq; conv => whnf) | (clear hKq Kq; clear hKq Kq; clear hKq Kq; clear hKq Kq; refine hKq _ _ _ (V.Sub.refl _) ?_; clear hKq Kq; conv => whnf) | (clear hKq Kq; clear hKq Kq; clear hKq Kq; clear hKq Kq; clear hKq Kq; refine hKq _ _ _ (V.Sub.refl _) ?_; clear hKq Kq; conv => whnf) | (refine And.intro (by omega) ?_; conv => whnf))
  refine ⟨32 - k, ⟨by first | rfl | omega, by omega⟩, ?_⟩
  conv => whnf
  repeat (first | (refine VSeq.mk fun Kq hKq => ?_; conv => whnf) | (refine hKq _ _ _ (V.Sub.refl _) ?_; clear hKq Kq; conv => whnf) | (clear hKq Kq; refine hKq _ _ _ (V.Sub.refl _) ?_; clear hKq Kq; conv => whnf) | (clear hKq Kq; clear hKq Kq; refine hKq _ _ _ (V.Sub.refl _) ?_; clear hKq Kq; conv => whnf) | (clear hKq Kq; clear hKq Kq; clear hKq Kq; refine hKq _ _ _ (V.Sub.refl _) ?_; clear hKq Kq; conv => whnf) | (clear hKq Kq; clear hKq Kq; clear hKq Kq; clear hKq Kq; refine hKq _ _ _ (V.Sub.refl _) ?_; clear hKq Kq; conv => whnf) | (clear hKq Kq; clear hKq Kq; clear hKq Kq; clear hKq Kq; clear hKq Kq; refine hKq _ _ _ (V.Sub.refl _) ?_; clear hKq Kq; conv => whnf) | (refine And.intro (by omega) ?_; conv => whnf))
  refine ⟨k, ⟨by first | rfl | omega, by omega⟩, ?_⟩
  conv => whnf
  repeat (first | (refine VSeq.mk fun Kq hKq => ?_; conv => whnf) | (refine hKq _ _ _ (V.Sub.refl _) ?_; clear hKq Kq; conv => whnf) | (clear hKq Kq; refine hKq _ _ _ (V.Sub.refl _) ?_; clear hKq Kq; conv => whnf) | (clear hKq Kq; clear hKq Kq; refine hKq _ _ _ (V.Sub.refl _) ?_; clear hKq Kq; conv => whnf) | (clear hKq Kq; clear hKq Kq; clear hKq Kq; refine hKq _ _ _ (V.Sub.refl _) ?_; clear hKq Kq; conv => whnf) | (clear hKq Kq; clear hKq Kq; clear hKq Kq; clear hKq Kq; refine hKq _ _ _ (V.Sub.refl _) ?_; clear hKq Kq; conv => whnf) | (clear hKq Kq; clear hKq Kq; clear hKq Kq; clear hKq Kq; clear hKq Kq; refine hKq _ _ _ (V.Sub.refl _) ?_; clear hKq Kq; conv => whnf) | (refine And.intro (by omega) ?_; conv => whnf))
  refine ⟨x * 2 ^ (32 - k) % 4294967296, x / 2 ^ k, rotl x (32 - k), ⟨by first | rfl | omega, by first | rfl | omega, by omega, by omega⟩, by (dsimp only; exact hor), ?_⟩
  conv => whnf
  repeat (first | (refine VSeq.mk fun Kq hKq => ?_; conv => whnf) | (refine hKq _ _ _ (V.Sub.refl _) ?_; clear hKq Kq; conv => whnf) | (clear hKq Kq; refine hKq _ _ _ (V.Sub.refl _) ?_; clear hKq Kq; conv => whnf) | (clear hKq Kq; clear hKq Kq; refine hKq _ _ _ (V.Sub.refl _) ?_; clear hKq Kq; conv => whnf) | (clear hKq Kq; clear hKq Kq; clear hKq Kq; refine hKq _ _ _ (V.Sub.refl _) ?_; clear hKq Kq; conv => whnf) | (clear hKq Kq; clear hKq Kq; clear hKq Kq; clear hKq Kq; refine hKq _ _ _ (V.Sub.refl _) ?_; clear hKq Kq; conv => whnf) | (clear hKq Kq; clear hKq Kq; clear hKq Kq; clear hKq Kq; clear hKq Kq; refine hKq _ _ _ (V.Sub.refl _) ?_; clear hKq Kq; conv => whnf) | (refine And.intro (by omega) ?_; conv => whnf))
  exact ⟨rfl, Ext.refl _⟩
theorem Ext_freeze {a w : World} (h : Ext a w) (g n : Nat) (hg : a.heap.size ≤ g) : Ext a (w.freeze ⟨g, 0, none⟩ n) := by
  unfold World.freeze
  split
  · exact h
  · exact Below.trans (show Below a.heap.size a w from h) ⟨rfl, rfl, rfl, by simp, fun k hk => by
      simp only [Array.getElem?_modify]
      rw [if_neg (by omega)]⟩
theorem clone_p (s : ByteArray) (hs : s.size ≤ 1000000) : PureF Try.prog 74 #[.string s] (.string s) := by
  have hsl : s.data.toList.length = s.size := by simp
  first | refine v_pure TTok FFok Try.func74 rfl rfl fun w0 => ?_ | refine v_pure (args := []) TTok FFok Try.func74 rfl rfl fun w0 => ?_
  conv => whnf
  repeat (first | (refine VSeq.mk fun Kq hKq => ?_; conv => whnf) | (refine hKq _ _ _ (V.Sub.refl _) ?_; clear hKq Kq; conv => whnf) | (clear hKq Kq; refine hKq _ _ _ (V.Sub.refl _) ?_; clear hKq Kq; conv => whnf) | (clear hKq Kq; clear hKq Kq; refine hKq _ _ _ (V.Sub.refl _) ?_; clear hKq Kq; conv => whnf) | (clear hKq Kq; clear hKq Kq; clear hKq Kq; refine hKq _ _ _ (V.Sub.refl _) ?_; clear hKq Kq; conv => whnf) | (clear hKq Kq; clear hKq Kq; clear hKq Kq; clear hKq Kq; refine hKq _ _ _ (V.Sub.refl _) ?_; clear hKq Kq; conv => whnf) | (clear hKq Kq; clear hKq Kq; clear hKq Kq; clear hKq Kq; clear hKq Kq; refine hKq _ _ _ (V.Sub.refl _) ?_; clear hKq Kq; conv => whnf) | (refine And.intro (by omega) ?_; conv => whnf))
  have hp := Hp.nil w0
  refine ⟨fun h0 => ?_, fun h0 => ?_⟩
  · have h0 := of_decide_eq_true h0
    conv => whnf
    repeat (first | (refine VSeq.mk fun Kq hKq => ?_; conv => whnf) | (refine hKq _ _ _ (V.Sub.refl _) ?_; clear hKq Kq; conv => whnf) | (clear hKq Kq; refine hKq _ _ _ (V.Sub.refl _) ?_; clear hKq Kq; conv => whnf) | (clear hKq Kq; clear hKq Kq; refine hKq _ _ _ (V.Sub.refl _) ?_; clear hKq Kq; conv => whnf) | (clear hKq Kq; clear hKq Kq; clear hKq Kq; refine hKq _ _ _ (V.Sub.refl _) ?_; clear hKq Kq; conv => whnf) | (clear hKq Kq; clear hKq Kq; clear hKq Kq; clear hKq Kq; refine hKq _ _ _ (V.Sub.refl _) ?_; clear hKq Kq; conv => whnf) | (clear hKq Kq; clear hKq Kq; clear hKq Kq; clear hKq Kq; clear hKq Kq; refine hKq _ _ _ (V.Sub.refl _) ?_; clear hKq Kq; conv => whnf) | (refine And.intro (by omega) ?_; conv => whnf))
    refine ⟨?_, hp.ext⟩
    have : s = ⟨#[]⟩ := by
      apply ba_eq
      exact List.eq_nil_of_length_eq_zero (by omega)
    rw [this]; rfl
  · have h0 := of_decide_eq_false h0
    conv => whnf
    repeat (first | (refine VSeq.mk fun Kq hKq => ?_; conv => whnf) | (refine hKq _ _ _ (V.Sub.refl _) ?_; clear hKq Kq; conv => whnf) | (clear hKq Kq; refine hKq _ _ _ (V.Sub.refl _) ?_; clear hKq Kq; conv => whnf) | (clear hKq Kq; clear hKq Kq; refine hKq _ _ _ (V.Sub.refl _) ?_; clear hKq Kq; conv => whnf) | (clear hKq Kq; clear hKq Kq; clear hKq Kq; refine hKq _ _ _ (V.Sub.refl _) ?_; clear hKq Kq; conv => whnf) | (clear hKq Kq; clear hKq Kq; clear hKq Kq; clear hKq Kq; refine hKq _ _ _ (V.Sub.refl _) ?_; clear hKq Kq; conv => whnf) | (clear hKq Kq; clear hKq Kq; clear hKq Kq; clear hKq Kq; clear hKq Kq; refine hKq _ _ _ (V.Sub.refl _) ?_; clear hKq Kq; conv => whnf) | (refine And.intro (by omega) ?_; conv => whnf))
    refine hp.kmkS sl41 z5 s.size (by omega) (by unfold maxLen; omega) fun b w hp hx => ?_
    conv => whnf
    repeat (first | (refine VSeq.mk fun Kq hKq => ?_; conv => whnf) | (refine hKq _ _ _ (V.Sub.refl _) ?_; clear hKq Kq; conv => whnf) | (clear hKq Kq; refine hKq _ _ _ (V.Sub.refl _) ?_; clear hKq Kq; conv => whnf) | (clear hKq Kq; clear hKq Kq; refine hKq _ _ _ (V.Sub.refl _) ?_; clear hKq Kq; conv => whnf) | (clear hKq Kq; clear hKq Kq; clear hKq Kq; refine hKq _ _ _ (V.Sub.refl _) ?_; clear hKq Kq; conv => whnf) | (clear hKq Kq; clear hKq Kq; clear hKq Kq; clear hKq Kq; refine hKq _ _ _ (V.Sub.refl _) ?_; clear hKq Kq; conv => whnf) | (clear hKq Kq; clear hKq Kq; clear hKq Kq; clear hKq Kq; clear hKq Kq; refine hKq _ _ _ (V.Sub.refl _) ?_; clear hKq Kq; conv => whnf) | (refine And.intro (by omega) ?_; conv => whnf))
    refine hp.kcopyS sl41 0 rfl s (bytesV s.data.toList) (by rw [List.take_of_length_le (by omega)]) (by rw [bytesV_len, List.length_replicate]; omega) fun w hp => ?_
    simp only [List.set_cons_zero] at hp
    rw [List.drop_eq_nil_of_le (by rw [bytesV_len, List.length_replicate]; omega), List.append_nil] at hp
    conv => whnf
    repeat (first | (refine VSeq.mk fun Kq hKq => ?_; conv => whnf) | (refine hKq _ _ _ (V.Sub.refl _) ?_; clear hKq Kq; conv => whnf) | (clear hKq Kq; refine hKq _ _ _ (V.Sub.refl _) ?_; clear hKq Kq; conv => whnf) | (clear hKq Kq; clear hKq Kq; refine hKq _ _ _ (V.Sub.refl _) ?_; clear hKq Kq; conv => whnf) | (clear hKq Kq; clear hKq Kq; clear hKq Kq; refine hKq _ _ _ (V.Sub.refl _) ?_; clear hKq Kq; conv => whnf) | (clear hKq Kq; clear hKq Kq; clear hKq Kq; clear hKq Kq; refine hKq _ _ _ (V.Sub.refl _) ?_; clear hKq Kq; conv => whnf) | (clear hKq Kq; clear hKq Kq; clear hKq Kq; clear hKq Kq; clear hKq Kq; refine hKq _ _ _ (V.Sub.refl _) ?_; clear hKq Kq; conv => whnf) | (refine And.intro (by omega) ?_; conv => whnf))
    refine ⟨0, ⟨by first | rfl | omega, by omega⟩, ?_⟩
    conv => whnf
    repeat (first | (refine VSeq.mk fun Kq hKq => ?_; conv => whnf) | (refine hKq _ _ _ (V.Sub.refl _) ?_; clear hKq Kq; conv => whnf) | (clear hKq Kq; refine hKq _ _ _ (V.Sub.refl _) ?_; clear hKq Kq; conv => whnf) | (clear hKq Kq; clear hKq Kq; refine hKq _ _ _ (V.Sub.refl _) ?_; clear hKq Kq; conv => whnf) | (clear hKq Kq; clear hKq Kq; clear hKq Kq; refine hKq _ _ _ (V.Sub.refl _) ?_; clear hKq Kq; conv => whnf) | (clear hKq Kq; clear hKq Kq; clear hKq Kq; clear hKq Kq; refine hKq _ _ _ (V.Sub.refl _) ?_; clear hKq Kq; conv => whnf) | (clear hKq Kq; clear hKq Kq; clear hKq Kq; clear hKq Kq; clear hKq Kq; refine hKq _ _ _ (V.Sub.refl _) ?_; clear hKq Kq; conv => whnf) | (refine And.intro (by omega) ?_; conv => whnf))
    have hl0 : s.data.toList ≠ [] := fun h => by rw [h] at hsl; simp at hsl; omega
    have hb : Blk w b (bytesV s.data.toList) 5 := hp.get (i := 0) rfl
    have hu := Go.Lib.run_unsafeString_row (P := Try.prog) (w := w) 111 3 9 5 (by kernel_rfl) (by kernel_rfl) b s.size (by obtain ⟨f, hf, hh⟩ := hb; simp [World.shape?, hh, bytesV_len, hsl]) s.data.toList hl0 (by omega) (by omega) (fun j x hj => by rw [add_none, Nat.zero_add, hb.cell]; exact bytesV_get hj)
    rw [hsl] at hu
    refine ⟨_, _, hu, ?_⟩
    conv => whnf
    repeat (first | (refine VSeq.mk fun Kq hKq => ?_; conv => whnf) | (refine hKq _ _ _ (V.Sub.refl _) ?_; clear hKq Kq; conv => whnf) | (clear hKq Kq; refine hKq _ _ _ (V.Sub.refl _) ?_; clear hKq Kq; conv => whnf) | (clear hKq Kq; clear hKq Kq; refine hKq _ _ _ (V.Sub.refl _) ?_; clear hKq Kq; conv => whnf) | (clear hKq Kq; clear hKq Kq; clear hKq Kq; refine hKq _ _ _ (V.Sub.refl _) ?_; clear hKq Kq; conv => whnf) | (clear hKq Kq; clear hKq Kq; clear hKq Kq; clear hKq Kq; refine hKq _ _ _ (V.Sub.refl _) ?_; clear hKq Kq; conv => whnf) | (clear hKq Kq; clear hKq Kq; clear hKq Kq; clear hKq Kq; clear hKq Kq; refine hKq _ _ _ (V.Sub.refl _) ?_; clear hKq Kq; conv => whnf) | (refine And.intro (by omega) ?_; conv => whnf))
    refine ⟨rfl, Ext_freeze hp.ext b _ ?_⟩
    have := (hp.lo _ (List.mem_cons_self) b rfl).1
    rcases this with h | h
    · cases h
    · exact h
theorem Clone_p (s : ByteArray) (hs : s.size ≤ 1000000) : PureF Try.prog 63 #[.string s] (.string s) := by
  first | refine v_pure TTok FFok Try.func63 rfl rfl fun w0 => ?_ | refine v_pure (args := []) TTok FFok Try.func63 rfl rfl fun w0 => ?_
  conv => whnf
  repeat (first | (refine VSeq.mk fun Kq hKq => ?_; conv => whnf) | (refine hKq _ _ _ (V.Sub.refl _) ?_; clear hKq Kq; conv => whnf) | (clear hKq Kq; refine hKq _ _ _ (V.Sub.refl _) ?_; clear hKq Kq; conv => whnf) | (clear hKq Kq; clear hKq Kq; refine hKq _ _ _ (V.Sub.refl _) ?_; clear hKq Kq; conv => whnf) | (clear hKq Kq; clear hKq Kq; clear hKq Kq; refine hKq _ _ _ (V.Sub.refl _) ?_; clear hKq Kq; conv => whnf) | (clear hKq Kq; clear hKq Kq; clear hKq Kq; clear hKq Kq; refine hKq _ _ _ (V.Sub.refl _) ?_; clear hKq Kq; conv => whnf) | (clear hKq Kq; clear hKq Kq; clear hKq Kq; clear hKq Kq; clear hKq Kq; refine hKq _ _ _ (V.Sub.refl _) ?_; clear hKq Kq; conv => whnf) | (refine And.intro (by omega) ?_; conv => whnf))
  have hp := Hp.nil w0
  refine PureF.use (clone_p s hs) fun w hx => ?_
  try (have hp := hp.call hx)
  conv => whnf
  repeat (first | (refine VSeq.mk fun Kq hKq => ?_; conv => whnf) | (refine hKq _ _ _ (V.Sub.refl _) ?_; clear hKq Kq; conv => whnf) | (clear hKq Kq; refine hKq _ _ _ (V.Sub.refl _) ?_; clear hKq Kq; conv => whnf) | (clear hKq Kq; clear hKq Kq; refine hKq _ _ _ (V.Sub.refl _) ?_; clear hKq Kq; conv => whnf) | (clear hKq Kq; clear hKq Kq; clear hKq Kq; refine hKq _ _ _ (V.Sub.refl _) ?_; clear hKq Kq; conv => whnf) | (clear hKq Kq; clear hKq Kq; clear hKq Kq; clear hKq Kq; refine hKq _ _ _ (V.Sub.refl _) ?_; clear hKq Kq; conv => whnf) | (clear hKq Kq; clear hKq Kq; clear hKq Kq; clear hKq Kq; clear hKq Kq; refine hKq _ _ _ (V.Sub.refl _) ?_; clear hKq Kq; conv => whnf) | (refine And.intro (by omega) ?_; conv => whnf))
  exact ⟨rfl, hp.ext⟩
end Go.Proofs.Ytebmmfeegjgbeaa
