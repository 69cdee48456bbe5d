/- Chapter 27: counting, shapes, lines. -/
import Derived.Test.YtpiilfamfinieaaDoorC27M
import Derived.Test.YtpiilfamfinieaaDoorT
import Derived.Test.YtpiilfamfinieaaDoorX2
namespace Go.Proofs.YtpiilfamfinieaaDoor
set_option linter.unusedSimpArgs false
set_option linter.unusedVariables false
open Go.RowKit V

theorem r55 : rep8 85 8 = 6148914691236517205 := by decide
theorem r33 : rep8 51 8 = 3689348814741910323 := by decide
theorem r0f : rep8 15 8 = 1085102592571150095 := by decide
theorem and127 (v : Nat) : v &&& 127 = v % 128 := Nat.and_two_pow_sub_one_eq_mod v 7
theorem OnesCount64_p (x : Nat) (hx : x < 18446744073709551616) : PureF Tryd.prog 49 #[.int .u64 x] (.int .i64 (popN x 64 : Nat)) := by
  first | refine v_pure TTok FFok Tryd.func49 rfl rfl fun w0 => ?_ | refine v_pure (args := []) TTok FFok Tryd.func49 rfl rfl fun w0 => ?_
  conv => whnf
  refine VSeq.mk fun Kq hKq => ?_
  conv => whnf
  refine hKq _ _ _ (V.Sub.refl _) ?_
  clear hKq Kq
  conv => whnf
  refine VSeq.mk fun Kq hKq => ?_
  conv => whnf
  refine ⟨1, ⟨by first | rfl | omega, by omega⟩, ?_⟩
  conv => whnf
  have h1 : (x / 2 &&& rep8 85 8) ≤ 6148914691236517205 := Nat.le_trans Nat.and_le_right (Nat.le_of_eq r55)
  have h2 : (x &&& rep8 85 8) ≤ 6148914691236517205 := Nat.le_trans Nat.and_le_right (Nat.le_of_eq r55)
  refine ⟨x / 2, 6148914691236517205, x / 2 &&& rep8 85 8, ⟨by first | rfl | omega, by first | rfl | omega, by omega, by omega⟩, by (dsimp only; rw [r55]), ?_⟩
  conv => whnf
  refine ⟨x, 6148914691236517205, x &&& rep8 85 8, ⟨by first | rfl | omega, by first | rfl | omega, by omega, by omega⟩, by (dsimp only; rw [r55]), ?_⟩
  conv => whnf
  refine hKq _ _ _ (V.Sub.refl _) ?_
  clear hKq Kq
  conv => whnf
  refine VSeq.mk fun Kq hKq => ?_
  conv => whnf
  obtain ⟨y, hy⟩ : ∃ y, g1 8 x = y := ⟨_, rfl⟩
  have e1 : (((x / 2 &&& rep8 85 8 : Nat) : Int) + ((x &&& rep8 85 8 : Nat) : Int)) % 18446744073709551616 = (y : Int) := by rw [← hy]; unfold g1; omega
  rw [e1]
  have hyl : y < 18446744073709551616 := by rw [← hy]; unfold g1; omega
  clear e1 h1 h2
  refine ⟨2, ⟨by first | rfl | omega, by omega⟩, ?_⟩
  conv => whnf
  have h1 : (y / 4 &&& rep8 51 8) ≤ 3689348814741910323 := Nat.le_trans Nat.and_le_right (Nat.le_of_eq r33)
  have h2 : (y &&& rep8 51 8) ≤ 3689348814741910323 := Nat.le_trans Nat.and_le_right (Nat.le_of_eq r33)
  refine ⟨y / 4, 3689348814741910323, y / 4 &&& rep8 51 8, ⟨by first | rfl | omega, by first | rfl | omega, by omega, by omega⟩, by (dsimp only; rw [r33]), ?_⟩
  conv => whnf
  refine ⟨y, 3689348814741910323, y &&& rep8 51 8, ⟨by first | rfl | omega, by first | rfl | omega, by omega, by omega⟩, by (dsimp only; rw [r33]), ?_⟩
  conv => whnf
  refine hKq _ _ _ (V.Sub.refl _) ?_
  clear hKq Kq
  conv => whnf
  refine VSeq.mk fun Kq hKq => ?_
  conv => whnf
  obtain ⟨z, hz⟩ : ∃ z, g2 8 y = z := ⟨_, rfl⟩
  have e1 : (((y / 4 &&& rep8 51 8 : Nat) : Int) + ((y &&& rep8 51 8 : Nat) : Int)) % 18446744073709551616 = (z : Int) := by rw [← hz]; unfold g2; omega
  rw [e1]
  have hzl : z ≤ 7378697629483820646 := by rw [← hz]; unfold g2; omega
  clear e1 h1 h2
  refine ⟨4, ⟨by first | rfl | omega, by omega⟩, ?_⟩
  conv => whnf
  have e1 : ((z : Int) / 2 ^ 4 + (z : Int)) % 18446744073709551616 = ((z / 16 + z : Nat) : Int) := by omega
  rw [e1]
  obtain ⟨s, hs⟩ : ∃ s, g3 8 z = s := ⟨_, rfl⟩
  refine ⟨z / 16 + z, 1085102592571150095, s, ⟨by first | rfl | omega, by first | rfl | omega, by omega, by omega⟩, by (dsimp only; (rw [← hs]; unfold g3; rw [r0f])), ?_⟩
  conv => whnf
  refine hKq _ _ _ (V.Sub.refl _) ?_
  clear hKq Kq
  conv => whnf
  refine VSeq.mk fun Kq hKq => ?_
  conv => whnf
  clear e1
  have hsl : s ≤ 1085102592571150095 := by rw [← hs]; unfold g3; exact Nat.le_trans Nat.and_le_right (Nat.le_of_eq r0f)
  have hall : s = sum8 x 8 := by rw [← hs, ← hz, ← hy]; exact g_all 8 x
  obtain ⟨t, ht⟩ : ∃ t, t = s + s / 256 := ⟨_, rfl⟩
  obtain ⟨u, hu⟩ : ∃ u, u = t + t / 65536 := ⟨_, rfl⟩
  obtain ⟨v, hv⟩ : ∃ v, v = u + u / 4294967296 := ⟨_, rfl⟩
  obtain ⟨hp1, hp2, hp3, hp4⟩ := pop_sum x s t u v hall ht hu hv
  have hple := popN_le x 64
  clear hall hs hz hy
  refine ⟨8, ⟨by first | rfl | omega, by omega⟩, ?_⟩
  conv => whnf
  refine hKq _ _ _ (V.Sub.refl _) ?_
  clear hKq Kq
  conv => whnf
  refine VSeq.mk fun Kq hKq => ?_
  conv => whnf
  have e1 : ((s : Int) + (s : Int) / 2 ^ 8) % 18446744073709551616 = (t : Int) := by omega
  rw [e1]
  refine ⟨16, ⟨by first | rfl | omega, by omega⟩, ?_⟩
  conv => whnf
  refine hKq _ _ _ (V.Sub.refl _) ?_
  clear hKq Kq
  conv => whnf
  refine VSeq.mk fun Kq hKq => ?_
  conv => whnf
  have e1 : ((t : Int) + (t : Int) / 2 ^ 16) % 18446744073709551616 = (u : Int) := by omega
  rw [e1]
  refine ⟨32, ⟨by first | rfl | omega, by omega⟩, ?_⟩
  conv => whnf
  refine hKq _ _ _ (V.Sub.refl _) ?_
  clear hKq Kq
  conv => whnf
  refine VSeq.mk fun Kq hKq => ?_
  conv => whnf
  refine And.intro (by omega) ?_
  conv => whnf
  have e1 : ((u : Int) + (u : Int) / 2 ^ 32) % 18446744073709551616 = (v : Int) := by omega
  rw [e1]
  conv => whnf
  refine ⟨v, 127, popN x 64, ⟨by first | rfl | omega, by first | rfl | omega, by omega, by omega⟩, by (dsimp only; (rw [and127]; omega)), ?_⟩
  conv => whnf
  refine hKq _ _ _ (V.Sub.refl _) ?_
  clear hKq Kq
  conv => whnf
  exact ⟨rfl, Ext.refl _⟩
theorem OnesCount_p (x : Nat) (hx : x < 18446744073709551616) : PureF Tryd.prog 30 #[.int .u64 x] (.int .i64 (popN x 64 : Nat)) := by
  first | refine v_pure TTok FFok Tryd.func30 rfl rfl fun w0 => ?_ | refine v_pure (args := []) TTok FFok Tryd.func30 rfl rfl fun w0 => ?_
  conv => whnf
  refine VSeq.mk fun Kq hKq => ?_
  conv => whnf
  refine hKq _ _ _ (V.Sub.refl _) ?_
  clear hKq Kq
  conv => whnf
  refine VSeq.mk fun Kq hKq => ?_
  conv => whnf
  refine hKq _ _ _ (V.Sub.refl _) ?_
  clear hKq Kq
  conv => whnf
  refine VSeq.mk fun Kq hKq => ?_
  conv => whnf
  refine PureF.use (OnesCount64_p x hx) fun w hx => ?_
  try (have hp := hp.call hx)
  conv => whnf
  refine hKq _ _ _ (V.Sub.refl _) ?_
  clear hKq Kq
  conv => whnf
  exact ⟨rfl, by assumption⟩
end Go.Proofs.YtpiilfamfinieaaDoor
