/- Chapter 05: the reference's small functions: Sized, Prime, Nine, Clamp. -/
import Derived.Test.YtejphmgpndgliaaC05W
import Derived.Test.YtejphmgpndgliaaX5
namespace Go.Proofs.Ytejphmgpndgliaa
set_option linter.unusedSimpArgs false
set_option linter.unusedVariables false
set_option maxRecDepth 100000
open Go.RowKit V
def sizL (l : List UInt8) : List UInt8 := l.take 32 ++ List.replicate (32 - l.length) 0
def sizB (s : ByteArray) : ByteArray := ⟨(sizL s.data.toList).toArray⟩
theorem sizL_len (l : List UInt8) : (sizL l).length = 32 := by
  unfold sizL; rw [List.length_append, List.length_take, List.length_replicate]; omega
theorem sizB_size (s : ByteArray) : (sizB s).size = 32 := by
  show (sizL s.data.toList).toArray.size = 32
  rw [List.size_toArray, sizL_len]
theorem bytesV_drop (b : List UInt8) (m : Nat) : (bytesV b).drop m = bytesV (b.drop m) := by simp [bytesV, List.map_drop]
theorem bytesV_rep (n : Nat) : List.replicate n (Value.int .u8 0) = bytesV (List.replicate n 0) := by
  unfold bytesV; rw [List.map_replicate]; rfl
theorem Sized_p (s : ByteArray) : PureF Try.prog 12 #[.string s] (.string (sizB s)) := by
  first | refine v_pure TTok FFok Try.func12 rfl rfl fun w0 => ?_ | refine v_pure (args := []) TTok FFok Try.func12 rfl rfl fun w0 => ?_
  conv => whnf
  refine VSeq.mk fun Kq hKq => ?_
  conv => whnf
  refine hKq _ _ _ (V.Sub.refl _) ?_
  clear hKq Kq
  conv => whnf
  refine VSeq.mk fun Kq hKq => ?_
  conv => whnf
  have hp := Hp.nil w0
  refine hp.kmkS sl29 z5 32 (by decide) (by unfold maxLen; decide) fun b w hp hx => ?_
  conv => whnf
  refine hKq _ _ _ (V.Sub.refl _) ?_
  clear hKq Kq
  conv => whnf
  refine VSeq.mk fun Kq hKq => ?_
  conv => whnf
  refine hp.kcopyS sl29 0 rfl s (bytesV (s.data.toList.take 32)) rfl (by rw [bytesV_len, List.length_take, List.length_replicate]; omega) fun w hp => ?_
  simp only [List.set_cons_zero] at hp
  rw [bytesV_rep, bytesV_drop, ← bytesV_app, bytesV_len, List.drop_replicate, show List.take 32 s.data.toList ++ List.replicate (32 - (List.take 32 s.data.toList).length) 0 = sizL s.data.toList from by unfold sizL; rw [List.length_take]; congr 2; omega] at hp
  conv => whnf
  refine hKq _ _ _ (V.Sub.refl _) ?_
  clear hKq Kq
  conv => whnf
  refine VSeq.mk fun Kq hKq => ?_
  conv => whnf
  refine ⟨_, _, Blk.str (l := sizL s.data.toList) (hp.get (i := 0) rfl) TTok rfl rfl rfl rfl (sizL_len _), ?_⟩
  conv => whnf
  refine hKq _ _ _ (V.Sub.refl _) ?_
  clear hKq Kq
  conv => whnf
  exact ⟨rfl, hp.ext⟩
def primL (k : Nat) : List UInt8 := UInt8.ofNat k :: (List.replicate 30 255 ++ [127])
def primB (k : Nat) : ByteArray := ⟨(primL k).toArray⟩
theorem rep_set (i : Nat) (h : i < 32) : (List.replicate i (255 : UInt8) ++ List.replicate (32 - i) 0).set i 255 = List.replicate (i + 1) 255 ++ List.replicate (32 - (i + 1)) 0 := by
  revert i; decide +kernel
theorem Prime_p (n : Int) (k : Nat) (h : 237 + n = k) (hk : k < 256) : PureF Try.prog 19 #[.int .i64 n] (.string (primB k)) := by
  obtain rfl : n = (k : Int) - 237 := by omega
  first | refine v_pure TTok FFok Try.func19 rfl rfl fun w0 => ?_ | refine v_pure (args := []) TTok FFok Try.func19 rfl rfl fun w0 => ?_
  conv => whnf
  refine VSeq.mk fun Kq hKq => ?_
  conv => whnf
  refine hKq _ _ _ (V.Sub.refl _) ?_
  clear hKq Kq
  conv => whnf
  refine VSeq.mk fun Kq hKq => ?_
  conv => whnf
  have hp := Hp.nil w0
  refine hp.kmkS sl29 z5 32 (by decide) (by unfold maxLen; decide) fun b w hp hx => ?_
  rw [bytesV_rep] at hp
  conv => whnf
  refine hKq _ _ _ (V.Sub.refl _) ?_
  clear hKq Kq
  conv => whnf
  refine VSeq.mk fun Kq hKq => ?_
  conv => whnf
  refine VSeq.mk fun Kq hKq => ?_
  conv => whnf
  refine hKq _ _ _ (V.Sub.refl _) ?_
  clear hKq Kq
  conv => whnf
  refine ⟨fun m e w => ∃ (i : Nat), m + i = 32 ∧ e = [(0, .v (.int .i64 ((k : Int) - 237))), (3, .v (.slice (some ⟨b, 0, none⟩) 32 32)), (4, .v (.int .i64 i))] ∧
      HpM [] w0 w [blk b (bytesV (List.replicate i 255 ++ List.replicate (32 - i) 0)) 5],
    ⟨32, _, ⟨0, by omega, rfl, hp⟩, sub_cons rfl (sub_cons rfl (sub_cons rfl sub_nil))⟩, ?_⟩
  clear hp hx
  repeat clear hp
  rintro m _ w ⟨i, hm, rfl, hp⟩
  conv => whnf
  refine VSeq.mk fun Kq hKq => ?_
  conv => whnf
  refine VSeq.mk fun Kq hKq => ?_
  conv => whnf
  refine hKq _ _ _ (V.Sub.refl _) ?_
  clear hKq Kq
  conv => whnf
  refine ⟨fun hlt => ?_, fun hlt => ?_⟩
  · have hlt := of_decide_eq_true hlt
    conv => whnf
    refine hKq _ _ _ (V.Sub.refl _) ?_
    clear hKq Kq
    conv => whnf
    refine VSeq.mk fun Kq hKq => ?_
    conv => whnf
    refine ⟨i, ⟨by first | rfl | omega, by omega⟩, ?_⟩
    conv => whnf
    refine hp.kst1 (off := i) TTok (by rfl) 0 (by rfl) (by rfl) (by rfl) (by rw [bytesV_len]; simp; omega) fun w hp => ?_
    try simp only [List.set_cons_zero, List.set_cons_succ, EV.val] at hp
    conv => whnf
    refine hKq _ _ _ (V.Sub.refl _) ?_
    clear hKq Kq
    conv => whnf
    refine And.intro (by omega) ?_
    conv => whnf
    have hp : HpM [] w0 w [blk b ((bytesV (List.replicate i 255 ++ List.replicate (32 - i) 0)).set i (.int .u8 ((255 : Nat) : Int))) 5] := hp
    rw [bytesV_setD (List.replicate i (255 : UInt8) ++ List.replicate (32 - i) 0) i 255 (by rw [List.length_append, List.length_replicate, List.length_replicate]; omega) 255 rfl, rep_set i (by omega)] at hp
    refine ⟨m - 1, _, by omega, ⟨i + 1, by omega, rfl, hp⟩, sub_cons rfl (sub_cons rfl (sub_cons rfl sub_nil))⟩
  · have hlt := of_decide_eq_false hlt
    conv => whnf
    clear hKq Kq
    refine hKq _ _ _ (V.Sub.refl _) ?_
    clear hKq Kq
    conv => whnf
    refine VSeq.mk fun Kq hKq => ?_
    conv => whnf
    refine And.intro (by omega) ?_
    conv => whnf
    obtain rfl : i = 32 := by omega
    clear hlt
    refine ⟨0, ⟨by first | rfl | omega, by omega⟩, ?_⟩
    conv => whnf
    refine hp.kst1 (off := 0) TTok (by rfl) 0 (by rfl) (by rfl) (by rfl) (by decide) fun w hp => ?_
    try simp only [List.set_cons_zero, List.set_cons_succ, EV.val] at hp
    conv => whnf
    refine hKq _ _ _ (V.Sub.refl _) ?_
    clear hKq Kq
    conv => whnf
    refine VSeq.mk fun Kq hKq => ?_
    conv => whnf
    rw [show (237 + ((k : Int) - 237)) % 256 = (((UInt8.ofNat k).toNat : Nat) : Int) by rw [UInt8.toNat_ofNat_of_lt' (by simpa using hk)]; omega, bytesV_setD _ 0 (UInt8.ofNat k) (by decide) _ rfl] at hp
    obtain ⟨L, hL⟩ : ∃ L : List UInt8, (List.replicate 32 (255 : UInt8) ++ List.replicate (32 - 32) 0).set 0 (UInt8.ofNat k) = L := ⟨_, rfl⟩
    have hl : L.length = 32 := by rw [← hL, List.length_set]; rfl
    rw [hL] at hp
    refine ⟨31, ⟨by first | rfl | omega, by omega⟩, ?_⟩
    conv => whnf
    refine hp.kst1 (off := 31) TTok (by rfl) 0 (by rfl) (by rfl) (by rfl) (by rw [bytesV_len, hl]; decide) fun w hp => ?_
    try simp only [List.set_cons_zero, List.set_cons_succ, EV.val] at hp
    conv => whnf
    refine hKq _ _ _ (V.Sub.refl _) ?_
    clear hKq Kq
    conv => whnf
    refine VSeq.mk fun Kq hKq => ?_
    conv => whnf
    have hp : HpM [] w0 w [blk b ((bytesV L).set 31 (.int .u8 ((127 : Nat) : Int))) 5] := hp
    rw [bytesV_setD L 31 127 (by omega) 127 rfl, ← hL] at hp
    have hp : HpM [] w0 w [blk b (bytesV (primL k)) 5] := hp
    refine ⟨_, _, Blk.str (l := primL k) (hp.get (i := 0) rfl) TTok rfl rfl rfl rfl rfl, ?_⟩
    conv => whnf
    refine hKq _ _ _ (V.Sub.refl _) ?_
    clear hKq Kq
    conv => whnf
    exact ⟨rfl, hp.ext⟩
theorem nine_app : (⟨#[9]⟩ : ByteArray) ++ ⟨(List.replicate 31 (0 : UInt8)).toArray⟩ = ⟨nineL.toArray⟩ := by decide +kernel
theorem Nine_p : PureF Try.prog 22 #[] (.string ⟨nineL.toArray⟩) := by
  first | refine v_pure TTok FFok Try.func22 rfl rfl fun w0 => ?_ | refine v_pure (args := []) TTok FFok Try.func22 rfl rfl fun w0 => ?_
  conv => whnf
  refine VSeq.mk fun Kq hKq => ?_
  conv => whnf
  refine hKq _ _ _ (V.Sub.refl _) ?_
  clear hKq Kq
  conv => whnf
  refine VSeq.mk fun Kq hKq => ?_
  conv => whnf
  have hp := Hp.nil w0
  refine v_mtA TTok FFok mixed (.br 0 2 (.q 1 (.m 2 (.q 3 (.q 4 (.q 5 .nil))))) (.q 3 (.m 0 (.q 1 (.q 4 (.q 5 .nil)))))) (by kernel_rfl) ?_
  conv => whnf
  refine And.intro ?_ ?_
  · intro w hx
    try (have hp := hp.call hx)
    conv => whnf
    refine hp.kmade (bytesV [9]) 5 (fun b => .slice (some ⟨b, 0, none⟩) 1 1) (by kernel_rfl) fun qb w hp hx => ?_
    conv => whnf
    refine And.intro hx ?_
    conv => whnf
    refine ⟨_, fun w1 hx' => Blk.str (l := [9]) (Blk.ext (hp.get (i := 0) rfl) hx') TTok rfl rfl rfl rfl rfl, ?_⟩
    conv => whnf
    intro w hx
    try (have hp := hp.call hx)
    conv => whnf
    refine hp.kmkS sl29 z5 31 (by decide) (by unfold maxLen; decide) fun b w hp hx => ?_
    rw [bytesV_rep] at hp
    conv => whnf
    refine And.intro hx ?_
    conv => whnf
    refine ⟨_, fun w1 hx' => Blk.str (l := List.replicate 31 0) (Blk.ext (hp.get (i := 0) rfl) hx') TTok rfl rfl rfl rfl rfl, ?_⟩
    conv => whnf
    refine And.intro (by decide) ?_
    conv => whnf
    intro w hx
    try (have hp := hp.call hx)
    conv => whnf
    refine hKq _ _ _ (V.Sub.refl _) ?_
    clear hKq Kq
    conv => whnf
    exact ⟨congrArg Value.string nine_app, hp.ext⟩
  · intro w hx
    try (have hp := hp.call hx)
    conv => whnf
    refine hp.kmkS sl29 z5 31 (by decide) (by unfold maxLen; decide) fun b w hp hx => ?_
    rw [bytesV_rep] at hp
    conv => whnf
    refine And.intro hx ?_
    conv => whnf
    refine ⟨_, fun w1 hx' => Blk.str (l := List.replicate 31 0) (Blk.ext (hp.get (i := 0) rfl) hx') TTok rfl rfl rfl rfl rfl, ?_⟩
    conv => whnf
    intro w hx
    try (have hp := hp.call hx)
    conv => whnf
    refine hp.kmade (bytesV [9]) 5 (fun b => .slice (some ⟨b, 0, none⟩) 1 1) (by kernel_rfl) fun qb w hp hx => ?_
    conv => whnf
    refine And.intro hx ?_
    conv => whnf
    refine ⟨_, fun w1 hx' => Blk.str (l := [9]) (Blk.ext (hp.get (i := 0) rfl) hx') TTok rfl rfl rfl rfl rfl, ?_⟩
    conv => whnf
    refine And.intro (by decide) ?_
    conv => whnf
    intro w hx
    try (have hp := hp.call hx)
    conv => whnf
    refine hKq _ _ _ (V.Sub.refl _) ?_
    clear hKq Kq
    conv => whnf
    exact ⟨congrArg Value.string nine_app, hp.ext⟩
theorem and248 (x : UInt8) : x.toNat / 8 * 8 = (x &&& 248).toNat := by
  have h : ∀ n : Nat, n < 256 → n / 8 * 8 = (UInt8.ofNat n &&& 248).toNat := by decide +kernel
  have := h x.toNat x.toNat_lt
  rwa [UInt8.ofNat_toNat] at this
theorem or64 (x : UInt8) : x.toNat % 64 + 64 = (x &&& 127 ||| 64).toNat := by
  have h : ∀ n : Nat, n < 256 → n % 64 + 64 = (UInt8.ofNat n &&& 127 ||| 64).toNat := by decide +kernel
  have := h x.toNat x.toNat_lt
  rwa [UInt8.ofNat_toNat] at this
theorem refClamp_p (s : ByteArray) (h : s.size = 32) : PureF Try.prog 20 #[.string s] (.string (clampB s)) := by
  have hl : s.data.toList.length = 32 := by rw [Array.length_toList]; exact h
  unfold clampB
  obtain ⟨L, hL⟩ : ∃ L, s.data.toList = L := ⟨_, rfl⟩
  rw [hL] at hl ⊢
  unfold clampL
  first | refine v_pure TTok FFok Try.func20 rfl rfl fun w0 => ?_ | refine v_pure (args := []) TTok FFok Try.func20 rfl rfl fun w0 => ?_
  conv => whnf
  refine VSeq.mk fun Kq hKq => ?_
  conv => whnf
  refine hKq _ _ _ (V.Sub.refl _) ?_
  clear hKq Kq
  conv => whnf
  refine VSeq.mk fun Kq hKq => ?_
  conv => whnf
  have hp := Hp.nil w0
  refine hp.kbytes TTok rfl rfl rfl fun b zs cap w hp hx => ?_
  rw [hL] at hp
  have hp : HpM [] w0 w [blk b (bytesV L ++ zs) 5] := hp
  conv => whnf
  refine hKq _ _ _ (V.Sub.refl _) ?_
  clear hKq Kq
  conv => whnf
  refine VSeq.mk fun Kq hKq => ?_
  conv => whnf
  refine ⟨0, ⟨by first | rfl | omega, by omega⟩, ?_⟩
  conv => whnf
  have h1 := bytesV_getD L 0 (by omega)
  have u1 := (L.getD 0 0).toNat_lt
  have h1 : (bytesV L ++ zs)[0]? = some (.int .u8 ((L.getD 0 0).toNat : Nat)) := by rw [List.getElem?_append_left (by rw [bytesV_len]; omega)]; exact h1
  refine ⟨_, _, Blk.ld (hp.get (i := 0) rfl) TTok rfl (h1), ?_⟩
  conv => whnf
  refine And.intro (by omega) ?_
  conv => whnf
  have e0 := and248 (L.getD 0 0)
  have v0 := (L.getD 0 0 &&& 248).toNat_lt
  refine ⟨0, ⟨by first | rfl | omega, by omega⟩, ?_⟩
  conv => whnf
  refine hp.kst1 (off := 0) TTok (by rfl) 0 (by rfl) (by rfl) (by rfl) (by rw [List.length_append, bytesV_len]; omega) fun w hp => ?_
  try simp only [List.set_cons_zero, List.set_cons_succ, EV.val] at hp
  conv => whnf
  refine hKq _ _ _ (V.Sub.refl _) ?_
  clear hKq Kq
  conv => whnf
  refine VSeq.mk fun Kq hKq => ?_
  conv => whnf
  rw [show ((L.getD 0 0).toNat : Int) / 8 * 8 % 256 = (((L.getD 0 0 &&& 248).toNat : Nat) : Int) by omega, List.set_append_left _ _ (by rw [bytesV_len]; omega), bytesV_setD L 0 (L.getD 0 0 &&& 248) (by omega) _ rfl] at hp
  obtain ⟨L1, hL1⟩ : ∃ L1, L.set 0 (L.getD 0 0 &&& 248) = L1 := ⟨_, rfl⟩
  have hl1 : L1.length = 32 := by rw [← hL1, List.length_set, hl]
  have e31 : L1.getD 31 0 = L.getD 31 0 := by
    rw [← hL1, List.getD_eq_getElem?_getD, List.getElem?_set_ne (by decide), ← List.getD_eq_getElem?_getD]
  rw [hL1] at hp ⊢
  rw [← e31]
  have h31 := bytesV_getD L1 31 (by omega)
  have h31 : (bytesV L1 ++ zs)[31]? = some (.int .u8 ((L1.getD 31 0).toNat : Nat)) := by rw [List.getElem?_append_left (by rw [bytesV_len]; omega)]; exact h31
  have e1 := or64 (L1.getD 31 0)
  have v1 := (L1.getD 31 0 &&& 127 ||| 64).toNat_lt
  have u31 := (L1.getD 31 0).toNat_lt
  refine ⟨31, ⟨by first | rfl | omega, by omega⟩, ?_⟩
  conv => whnf
  refine ⟨_, _, Blk.ld (hp.get (i := 0) rfl) TTok rfl (h31), ?_⟩
  conv => whnf
  refine And.intro (by omega) ?_
  conv => whnf
  refine ⟨31, ⟨by first | rfl | omega, by omega⟩, ?_⟩
  conv => whnf
  refine hp.kst1 (off := 31) TTok (by rfl) 0 (by rfl) (by rfl) (by rfl) (by rw [List.length_append, bytesV_len]; omega) fun w hp => ?_
  try simp only [List.set_cons_zero, List.set_cons_succ, EV.val] at hp
  conv => whnf
  refine hKq _ _ _ (V.Sub.refl _) ?_
  clear hKq Kq
  conv => whnf
  refine VSeq.mk fun Kq hKq => ?_
  conv => whnf
  rw [show (((L1.getD 31 0).toNat : Int) % 64 + 64) % 256 = (((L1.getD 31 0 &&& 127 ||| 64).toNat : Nat) : Int) by omega, List.set_append_left _ _ (by rw [bytesV_len]; omega), bytesV_setD L1 31 _ (by omega) _ rfl] at hp
  refine ⟨_, _, Blk.str' (l := L1.set 31 (L1.getD 31 0 &&& 127 ||| 64)) (hp.get (i := 0) rfl) TTok rfl rfl rfl rfl (by rw [List.length_set, hl1, h]), ?_⟩
  conv => whnf
  refine hKq _ _ _ (V.Sub.refl _) ?_
  clear hKq Kq
  conv => whnf
  exact ⟨by rw [hL1, ← e31]; rfl, hp.ext⟩
end Go.Proofs.Ytejphmgpndgliaa
