/- Chapter 27: a string of a list is changed. -/
import Derived.Test.YtpiilfamfinieaaDoorC27CO
namespace Go.Proofs.YtpiilfamfinieaaDoor
set_option linter.unusedSimpArgs false
set_option linter.unusedVariables false
open Go.RowKit V
set_option maxHeartbeats 8000000 in
theorem Bend_c {W : World} {v : Value} (a b : Nat) (t : ByteArray) (ha : a < 256) (hb : b < 256) (L : List ByteArray) (hv : SLv W v (sw L)) (hl : L.length ≤ 100) (B : Nat) (hB : B ≤ 100000) (hs : ∀ x ∈ L, x.size ≤ B) :
    Calls Tryd.prog 26 #[.agg #[.int .u8 a, .int .u8 b, .string t], v] W fun e w' => ∃ u, e = .returned u ∧ ∃ v' L2, u = v' ∧ HpM [] W w' [row 9 1 v' L2.length (sw L2)] ∧ L2.length = L.length ∧ ∀ x ∈ L2, x.size ≤ B + 8 := by
  obtain ⟨p, cc, rfl⟩ := hv.shape
  simp only [sw_len] at hv ⊢
  refine v_fn (args := [.agg #[.int .u8 a, .int .u8 b, .string t], .slice p L.length cc]) TTok FFok (f := 26) rfl rfl (Nat.le_of_ble_eq_true rfl) ?_
  conv => whnf
  refine VSeq.mk fun Kq hKq => ?_
  conv => whnf
  have hp := Hp.nil W
  refine hp.kbox ([.int .u8 a, .int .u8 b, .string t]) rfl fun tb w hp hx => ?_
  conv => whnf
  refine hKq _ _ _ (V.Sub.refl _) ?_
  clear hKq Kq
  conv => whnf
  refine VSeq.mk fun Kq hKq => ?_
  conv => whnf
  refine (CloneS_c L (hv.ext hp.ext) (by omega)).mono ?_
  rintro e w ⟨u, rfl, v3, rfl, hq⟩
  refine ⟨_, rfl, ?_⟩
  have hp := hp.join hq
  obtain ⟨p3, c3, rfl⟩ := row_shape (hp.get (i := 0) rfl)
  clear hq
  conv => whnf
  refine hKq _ _ _ (V.Sub.refl _) ?_
  clear hKq Kq
  conv => whnf
  refine VSeq.mk fun Kq hKq => ?_
  conv => whnf
  refine VSeq.mk fun Kq hKq => ?_
  conv => whnf
  refine hKq _ _ _ (V.Sub.refl _) ?_
  clear hKq Kq
  conv => whnf
  refine ⟨fun hlt => ?_, fun hlt => ?_⟩
  · have hlt := of_decide_eq_true hlt
    conv => whnf
    refine VSeq.mk fun Kq hKq => ?_
    conv => whnf
    have hpos : 0 < L.length := by omega
    obtain ⟨k, hk⟩ : ∃ k, a % L.length = k := ⟨_, rfl⟩
    have hkl : k < L.length := by rw [← hk]; exact Nat.mod_lt _ hpos
    have hki : ((a : Int) % (L.length : Int)) = (k : Int) := by rw [← hk]; simp
    have hLk : L[k]? = some L[k] := List.getElem?_eq_getElem hkl
    have hks : L[k].size ≤ B := hs _ (List.getElem_mem hkl)
    generalize L[k] = s at hLk hks
    obtain ⟨g3, c3', e5⟩ := row_form (hp.get (i := 0) rfl) hpos
    simp only [Value.slice.injEq, true_and] at e5
    obtain ⟨rfl, rfl⟩ := e5
    have hcell := row_cell (hp.get (i := 0) rfl) (sw_get hLk)
    refine ⟨_, _, Blk.ld (off := 0) (hp.get (i := 1) rfl) TTok rfl rfl, ?_⟩
    conv => whnf
    refine And.intro (by omega) ?_
    conv => whnf
    refine And.intro (by omega) ?_
    conv => whnf
    refine ⟨k, ⟨hki, by omega⟩, ?_⟩
    conv => whnf
    rw [show addM 0 k 1 = k by rw [addM_eq]; omega]
    refine ⟨_, _, run_ld TTok rfl hcell, ?_⟩
    conv => whnf
    refine hKq _ _ _ (V.Sub.refl _) ?_
    clear hKq Kq
    conv => whnf
    refine VSeq.mk fun Kq hKq => ?_
    conv => whnf
    refine ⟨_, _, Blk.ld (off := 1) (hp.get (i := 1) rfl) TTok rfl rfl, ?_⟩
    conv => whnf
    refine And.intro (by omega) ?_
    conv => whnf
    refine hKq _ _ _ (V.Sub.refl _) ?_
    clear hKq Kq
    conv => whnf
    refine v_mix TTok FFok mixed 27 [(0, false), (1, false), (2, false), (3, false), (4, false), (5, false), (6, false), (7, false), (8, false), (9, false), (10, false), (11, false), (12, false), (13, false), (14, false), (15, false), (16, false), (17, false), (18, false), (19, false), (20, false), (21, false), (22, false), (23, false), (24, false), (25, false), (26, false)] (by kernel_rfl) ?_
    conv => whnf
    refine ⟨_, fun w' hx' => Blk.ld (off := 0) (Blk.ext (hp.get (i := 1) rfl) hx') TTok rfl rfl, ?_⟩
    conv => whnf
    refine And.intro (by omega) ?_
    conv => whnf
    refine And.intro (by omega) ?_
    conv => whnf
    refine ⟨min b s.size, ⟨by first | rfl | omega, by omega⟩, ?_⟩
    conv => whnf
    refine ⟨_, fun w' hx' => Blk.ld (off := 2) (Blk.ext (hp.get (i := 1) rfl) hx') TTok rfl rfl, ?_⟩
    conv => whnf
    refine ⟨_, fun w' hx' => Blk.ld (off := 2) (Blk.ext (hp.get (i := 1) rfl) hx') TTok rfl rfl, ?_⟩
    conv => whnf
    refine ⟨min t.size 8, ⟨by first | rfl | omega, by omega⟩, ?_⟩
    conv => whnf
    have z1 : (s.extract 0 (min b s.size)).size = min b s.size := by rw [ByteArray.size_extract]; omega
    have z2 : (t.extract 0 (min t.size 8)).size = min t.size 8 := by rw [ByteArray.size_extract]; omega
    refine And.intro (by rw [z1, z2]; omega) ?_
    conv => whnf
    refine And.intro (by omega) ?_
    conv => whnf
    refine ⟨min (min b s.size + 1) s.size, ⟨by first | rfl | omega, by omega⟩, ?_⟩
    conv => whnf
    have z3 : (s.extract (min (min b s.size + 1) s.size) s.size).size = s.size - min (min b s.size + 1) s.size := by rw [ByteArray.size_extract]; omega
    have z4 : (s.extract 0 (min b s.size) ++ t.extract 0 (min t.size 8)).size = min b s.size + min t.size 8 := by rw [ByteArray.size_append, z1, z2]
    refine And.intro (by rw [z4, z3]; omega) ?_
    have z5 : (s.extract 0 (min b s.size) ++ t.extract 0 (min t.size 8) ++ s.extract (min (min b s.size + 1) s.size) s.size).size ≤ B + 8 := by rw [ByteArray.size_append, z4, z3]; omega
    obtain ⟨nw, hnw⟩ : ∃ nw, s.extract 0 (min b s.size) ++ t.extract 0 (min t.size 8) ++ s.extract (min (min b s.size + 1) s.size) s.size = nw := ⟨_, rfl⟩
    rw [hnw] at z5 ⊢
    conv => whnf
    refine ⟨k, ⟨hki, by omega⟩, ?_⟩
    conv => whnf
    intro w hx
    try (have hp := hp.call hx)
    conv => whnf
    rw [show addM 0 k 1 = k by rw [addM_eq]; omega]
    refine hp.kstR (t := 9) TTok rfl 0 rfl (off := k) (v := .string nw) (by omega) rfl rfl fun w hp => ?_
    change HpM [] W w (row 9 1 (.slice (some ⟨g3, 0, none⟩) L.length c3) L.length ((sw L).set k (.string nw)) :: _) at hp
    rw [sw_set] at hp
    conv => whnf
    refine hKq _ _ _ (V.Sub.refl _) ?_
    clear hKq Kq
    conv => whnf
    refine VSeq.mk fun Kq hKq => ?_
    conv => whnf
    refine hKq _ _ _ (V.Sub.refl _) ?_
    clear hKq Kq
    conv => whnf
    exact ⟨_, L.set k nw, rfl, by rw [List.length_set]; exact hp.pick [0] (by decide), List.length_set, fun y hy => by
      rcases List.mem_or_eq_of_mem_set hy with h | rfl
      · have := hs y h; omega
      · exact z5⟩
  · have hlt := of_decide_eq_false hlt
    conv => whnf
    refine hKq _ _ _ (V.Sub.refl _) ?_
    clear hKq Kq
    conv => whnf
    refine VSeq.mk fun Kq hKq => ?_
    conv => whnf
    refine hKq _ _ _ (V.Sub.refl _) ?_
    clear hKq Kq
    conv => whnf
    exact ⟨_, L, rfl, hp.pick [0] (by decide), rfl, fun x hx => by have := hs x hx; omega⟩
end Go.Proofs.YtpiilfamfinieaaDoor
