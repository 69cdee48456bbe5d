/- Chapter 27: what stays lost is the greatest set. -/
import Derived.Test.YtpiilfamfinieaaDoorC27PM
namespace Go.Proofs.YtpiilfamfinieaaDoor
set_option linter.unusedSimpArgs false
set_option linter.unusedVariables false
open Go.RowKit V
theorem of_sets (r c x y z : Nat) : setsB r c (x % 2 ^ (r * c)) (y % 2 ^ r) (z % 2 ^ c) = true :=
  decide_eq_true ⟨Nat.mod_lt _ (Nat.two_pow_pos _), Nat.mod_lt _ (Nat.two_pow_pos _), Nat.mod_lt _ (Nat.two_pow_pos _)⟩
theorem bit_iff (x i : Nat) : (x / 2 ^ i % 2 = 1) ↔ x.testBit i = true := by rw [div_bit]; split <;> simp [*]
set_option maxHeartbeats 4000000 in
theorem greatest_c {W : World} (hg : Good W) (a b x y z other : Nat) (v : Value) (D : List ByteArray) (ha : a < 256) (hb : b < 256) (h1 : x < 18446744073709551616) (hy : y < 18446744073709551616) (hz : z < 18446744073709551616) (ho : other < 18446744073709551616) (hv : SLv W v (sw D)) :
    Calls Tryd.prog 7 #[.agg #[.int .u8 a, .int .u8 b, v], .agg #[.int .u64 x, .int .u64 y, .int .u64 z], .int .u64 other] W fun e w' => e = .returned (.bool true) ∧ Ext W w' := by
  obtain ⟨p, cc, rfl⟩ := hv.shape
  simp only [sw_len] at hv ⊢
  refine v_reads TTok FFok Tryd.func7 rfl rfl ?_
  conv => whnf
  refine VSeq.mk fun Kq hKq => ?_
  conv => whnf
  have hp := Hp.nil W
  refine hp.kbox ([.int .u8 a, .int .u8 b, .slice p D.length cc]) rfl fun db w hp hx => ?_
  conv => whnf
  refine hp.kbox ([.int .u64 x, .int .u64 y, .int .u64 z]) rfl fun xb w hp hx => ?_
  conv => whnf
  refine hKq _ _ _ (V.Sub.refl _) ?_
  clear hKq Kq
  conv => whnf
  refine VSeq.mk fun Kq hKq => ?_
  conv => whnf
  refine VSeq.mk fun Kq hKq => ?_
  conv => whnf
  refine V.CallsUse (works_c (hg.ext hp.ext)) fun w hx => ?_
  try (have hp := hp.call hx)
  conv => whnf
  refine hKq _ _ _ (V.Sub.refl _) ?_
  clear hKq Kq
  conv => whnf
  refine And.intro (fun h => by cases h) (fun _ => ?_)
  conv => whnf
  refine hKq _ _ _ (V.Sub.refl _) ?_
  clear hKq Kq
  conv => whnf
  refine VSeq.mk fun Kq hKq => ?_
  conv => whnf
  refine ⟨_, _, Blk.ldN (hp.get (i := 1) rfl) TTok rfl (rfl), ?_⟩
  conv => whnf
  refine PureF.use (dShape_p a b ha hb p D.length cc) fun w hx => ?_
  try (have hp := hp.call hx)
  conv => whnf
  refine hKq _ _ _ (V.Sub.refl _) ?_
  clear hKq Kq
  conv => whnf
  refine VSeq.mk fun Kq hKq => ?_
  conv => whnf
  have hsh := draft_shp a b
  obtain ⟨r, hrd⟩ : ∃ r, 1 + a % 6 = r := ⟨_, rfl⟩
  obtain ⟨c, hcd⟩ : ∃ c, 1 + b % 8 = c := ⟨_, rfl⟩
  have hrr : r ≤ 6 := by omega
  have hcc : c ≤ 8 := by omega
  rw [hrd] at hsh ⊢
  rw [hcd] at hsh ⊢
  have hlo := lossOf_p x y z h1 hy hz r c hsh
  have hset := of_sets r c x y z
  have hrc : r * c ≤ 6 * 8 := Nat.mul_le_mul (by omega) (by omega)
  have hrc2 : ((r : Int) * (c : Int)) = ((r * c : Nat) : Int) := by simp
  refine ⟨_, _, Blk.ldN (hp.get (i := 0) rfl) TTok rfl (rfl), ?_⟩
  conv => whnf
  refine PureF.use (hlo) fun w hx => ?_
  try (have hp := hp.call hx)
  conv => whnf
  have hl : x % 2 ^ (r * c) < 2 ^ (r * c) := Nat.mod_lt _ (Nat.two_pow_pos _)
  have hkr : y % 2 ^ r < 18446744073709551616 := Nat.lt_of_le_of_lt (Nat.mod_le _ _) hy
  have hkc : z % 2 ^ c < 18446744073709551616 := Nat.lt_of_le_of_lt (Nat.mod_le _ _) hz
  have hlx : x % 2 ^ (r * c) < 18446744073709551616 := Nat.lt_of_le_of_lt (Nat.mod_le _ _) h1
  clear hlo
  obtain ⟨lost, hlost⟩ : ∃ l, x % 2 ^ (r * c) = l := ⟨_, rfl⟩
  obtain ⟨kr, hkrd⟩ : ∃ l, y % 2 ^ r = l := ⟨_, rfl⟩
  obtain ⟨kc, hkcd⟩ : ∃ l, z % 2 ^ c = l := ⟨_, rfl⟩
  rw [hlost, hkrd, hkcd] at hset
  rw [hlost] at hl hlx
  rw [hkrd] at hkr
  rw [hkcd] at hkc
  rw [hlost, hkrd, hkcd]
  clear hlost hkrd hkcd hrd hcd
  obtain ⟨st1, st2, st3⟩ := planL_stuck r c lost kr kc (by omega) hlx
  have hgr := peel_great r c lost kr kc other hsh hl ho
  have hal := fun set (hs : set < 18446744073709551616) i (hi : i < r * c) => alone_p r c lost kr kc set i hsh hlx hkr hkc hs hi
  have hSc := fun w (hg : Good w) => @Stuck_c w hg r c lost kr kc hsh hset
  generalize (planL r c lost kr kc).2 = left at st1 st2 st3 hgr hSc
  have hsub0 := subB_andNot st3 hlx st2
  refine hp.kalloc z42 fun qb w hp hx => ?_
  conv => whnf
  refine hp.kstA TTok rfl 0 rfl (by rfl) (by simp [Value.oneCell']) (by rfl) fun w hp => ?_
  try simp only [List.set_cons_zero, List.set_cons_succ, EV.val] at hp
  conv => whnf
  refine hKq _ _ _ (V.Sub.refl _) ?_
  clear hKq Kq
  conv => whnf
  refine VSeq.mk fun Kq hKq => ?_
  conv => whnf
  refine ⟨_, _, Blk.ld (off := 0) (hp.get (i := 0) rfl) TTok rfl rfl, ?_⟩
  conv => whnf
  refine ⟨_, _, Blk.ld (off := 1) (hp.get (i := 0) rfl) TTok rfl rfl, ?_⟩
  conv => whnf
  refine ⟨_, _, Blk.ld (off := 2) (hp.get (i := 0) rfl) TTok rfl rfl, ?_⟩
  conv => whnf
  refine V.CallsUse (hSc _ (hg.ext hp.ext)) fun w hx => ?_
  try (have hp := hp.call hx)
  conv => whnf
  refine hKq _ _ _ (V.Sub.refl _) ?_
  clear hKq Kq
  conv => whnf
  refine VSeq.mk fun Kq hKq => ?_
  conv => whnf
  refine VSeq.mk fun Kq hKq => ?_
  conv => whnf
  refine VSeq.mk fun Kq hKq => ?_
  conv => whnf
  refine hKq _ _ _ (V.Sub.refl _) ?_
  clear hKq Kq
  conv => whnf
  refine And.intro (fun h => absurd (of_decide_eq_true h) ((by omega))) (fun _ => ?_)
  conv => whnf
  refine ⟨_, _, Blk.ld (off := 0) (hp.get (i := 0) rfl) TTok rfl rfl, ?_⟩
  conv => whnf
  refine ⟨left, lost, 0, ⟨by first | rfl | omega, by first | rfl | omega, by omega, by omega⟩, by (dsimp only; exact hsub0), ?_⟩
  conv => whnf
  refine hKq _ _ _ (V.Sub.refl _) ?_
  clear hKq Kq
  conv => whnf
  refine And.intro (fun h => absurd (of_decide_eq_true h) ((by omega))) (fun _ => ?_)
  conv => whnf
  refine hKq _ _ _ (V.Sub.refl _) ?_
  clear hKq Kq
  conv => whnf
  refine VSeq.mk fun Kq hKq => ?_
  conv => whnf
  refine VSeq.mk fun Kq hKq => ?_
  conv => whnf
  refine And.intro (by omega) ?_
  conv => whnf
  refine hKq _ _ _ (V.Sub.refl _) ?_
  clear hKq Kq
  conv => whnf
  rw [hrc2]
  refine ⟨fun m l w => ∃ (k : Nat), m + k = r * c ∧ l = [(2, .v (.int .u64 other)), (7, .v (.int .i64 r)), (8, .v (.int .i64 c)), (9, .v (.pointer (some ⟨qb, 0, none⟩))), (10, .v (.int .u64 left)), (49, .v (.int .i64 (r * c : Nat))), (50, .v (.int .i64 k))] ∧ HpM [] W w [blk qb [.int .u64 lost, .int .u64 kr, .int .u64 kc] 42],
    ⟨r * c, _, ⟨0, by omega, rfl, hp.pick [0] (by decide)⟩, sub_cons rfl (sub_cons rfl (sub_cons rfl (sub_cons rfl (sub_cons rfl (sub_cons rfl (sub_cons rfl sub_nil))))))⟩, ?_⟩
  clear hp hx
  repeat clear hp
  rintro m _ w ⟨k, hm, rfl, hp⟩
  conv => whnf
  refine VSeq.mk fun Kq hKq => ?_
  conv => whnf
  refine hKq _ _ _ (V.Sub.refl _) ?_
  clear hKq Kq
  conv => whnf
  refine VSeq.mk fun Kq hKq => ?_
  conv => whnf
  refine ⟨fun hlt => ?_, fun hlt => ?_⟩
  · have hlt := of_decide_eq_true hlt
    conv => whnf
    refine hKq _ _ _ (V.Sub.refl _) ?_
    clear hKq Kq
    conv => whnf
    refine VSeq.mk fun Kq hKq => ?_
    conv => whnf
    refine VSeq.mk fun Kq hKq => ?_
    conv => whnf
    refine hKq _ _ _ (V.Sub.refl _) ?_
    clear hKq Kq
    conv => whnf
    refine VSeq.mk fun Kq hKq => ?_
    conv => whnf
    refine VSeq.mk fun Kq hKq => ?_
    conv => whnf
    have hk : k < r * c := by omega
    have hd1 : left / 2 ^ k < 18446744073709551616 := Nat.lt_of_le_of_lt (Nat.div_le_self _ _) st3
    have hb1 := bit_iff left k
    refine ⟨k, ⟨by first | rfl | omega, by omega⟩, ?_⟩
    conv => whnf
    rw [shr_cast]
    refine ⟨left / 2 ^ k, 1, left / 2 ^ k % 2, ⟨by first | rfl | omega, by first | rfl | omega, by omega, by omega⟩, by (dsimp only; exact Nat.and_one_is_mod _), ?_⟩
    conv => whnf
    refine hKq _ _ _ (V.Sub.refl _) ?_
    clear hKq Kq
    conv => whnf
    refine ⟨fun q1 => ?_, fun q1 => ?_⟩
    · have q1 := of_decide_eq_true q1
      conv => whnf
      have hal1 := hal left st3 k hk
      rw [show aloneB r c kr kc left k = false from by
        cases hq : aloneB r c kr kc left k with
        | false => rfl
        | true => exact absurd ((alone_iff r c kr kc left k hsh hk).1 hq) (st1 k)] at hal1
      refine ⟨_, _, Blk.ldN (hp.get (i := 0) rfl) TTok rfl (rfl), ?_⟩
      conv => whnf
      refine PureF.use (hal1) fun w hx => ?_
      try (have hp := hp.call hx)
      conv => whnf
      refine hKq _ _ _ (V.Sub.refl _) ?_
      clear hKq Kq
      conv => whnf
      refine And.intro (fun h => by cases h) (fun _ => ?_)
      conv => whnf
      refine hKq _ _ _ (V.Sub.refl _) ?_
      clear hKq Kq
      conv => whnf
      refine And.intro (by omega) ?_
      conv => whnf
      exact ⟨m - 1, _, by omega, ⟨k + 1, by omega, rfl, hp⟩, sub_cons rfl (sub_cons rfl (sub_cons rfl (sub_cons rfl (sub_cons rfl (sub_cons rfl (sub_cons rfl sub_nil))))))⟩
    · have q1 := of_decide_eq_false q1
      conv => whnf
      refine hKq _ _ _ (V.Sub.refl _) ?_
      clear hKq Kq
      conv => whnf
      refine hKq _ _ _ (V.Sub.refl _) ?_
      clear hKq Kq
      conv => whnf
      refine And.intro (by omega) ?_
      conv => whnf
      exact ⟨m - 1, _, by omega, ⟨k + 1, by omega, rfl, hp⟩, sub_cons rfl (sub_cons rfl (sub_cons rfl (sub_cons rfl (sub_cons rfl (sub_cons rfl (sub_cons rfl sub_nil))))))⟩
  · have hlt := of_decide_eq_false hlt
    conv => whnf
    clear hKq Kq
    refine hKq _ _ _ (V.Sub.refl _) ?_
    clear hKq Kq
    conv => whnf
    refine VSeq.mk fun Kq hKq => ?_
    conv => whnf
    clear hlt hm
    refine ⟨_, _, Blk.ld (off := 0) (hp.get (i := 0) rfl) TTok rfl rfl, ?_⟩
    conv => whnf
    refine ⟨other, lost, other &&& lost, ⟨by first | rfl | omega, by first | rfl | omega, by omega, by omega⟩, rfl, ?_⟩
    conv => whnf
    refine hKq _ _ _ (V.Sub.refl _) ?_
    clear hKq Kq
    conv => whnf
    refine VSeq.mk fun Kq hKq => ?_
    conv => whnf
    refine VSeq.mk fun Kq hKq => ?_
    conv => whnf
    refine And.intro (by omega) ?_
    conv => whnf
    refine hKq _ _ _ (V.Sub.refl _) ?_
    clear hKq Kq
    conv => whnf
    have hax : other &&& lost < 18446744073709551616 := Nat.lt_of_le_of_lt Nat.and_le_right hlx
    obtain ⟨G, hG⟩ : ∃ G, peelR r c kr kc (r * c) (other &&& lost) = G := ⟨_, rfl⟩
    rw [hG] at hgr
    obtain ⟨s0, hs0⟩ : ∃ s0, other &&& lost = s0 := ⟨_, rfl⟩
    rw [hs0] at hG hax ⊢
    rw [hrc2]
    refine ⟨fun m l w => ∃ (k set : Nat), m + k = r * c ∧ l = [(7, .v (.int .i64 r)), (8, .v (.int .i64 c)), (9, .v (.pointer (some ⟨qb, 0, none⟩))), (10, .v (.int .u64 left)), (73, .v (.int .i64 (r * c : Nat))), (74, .v (.int .i64 k)), (13, .v (.int .u64 set))] ∧ set < 18446744073709551616 ∧ peelR r c kr kc m set = G ∧ HpM [] W w [blk qb [.int .u64 lost, .int .u64 kr, .int .u64 kc] 42],
      ⟨r * c, _, ⟨0, s0, by omega, rfl, hax, hG, hp⟩, sub_cons rfl (sub_cons rfl (sub_cons rfl (sub_cons rfl (sub_cons rfl (sub_cons rfl (sub_cons rfl sub_nil))))))⟩, ?_⟩
    clear hp hG hax
    repeat clear hp
    rintro m _ w ⟨k, set, hm, rfl, hsx, hG, hp⟩
    conv => whnf
    refine VSeq.mk fun Kq hKq => ?_
    conv => whnf
    refine hKq _ _ _ (V.Sub.refl _) ?_
    clear hKq Kq
    conv => whnf
    refine VSeq.mk fun Kq hKq => ?_
    conv => whnf
    refine ⟨fun hlt => ?_, fun hlt => ?_⟩
    · have hlt := of_decide_eq_true hlt
      conv => whnf
      refine hKq _ _ _ (V.Sub.refl _) ?_
      clear hKq Kq
      conv => whnf
      refine VSeq.mk fun Kq hKq => ?_
      conv => whnf
      refine VSeq.mk fun Kq hKq => ?_
      conv => whnf
      refine And.intro (by omega) ?_
      conv => whnf
      refine And.intro (by omega) ?_
      conv => whnf
      refine hKq _ _ _ (V.Sub.refl _) ?_
      clear hKq Kq
      conv => whnf
      obtain ⟨m, rfl⟩ : ∃ m', m = m' + 1 := ⟨m - 1, by omega⟩
      rw [peelR] at hG
      refine ⟨fun n l w => ∃ (set2 : Nat), n ≤ r * c ∧ l = [(7, .v (.int .i64 r)), (8, .v (.int .i64 c)), (9, .v (.pointer (some ⟨qb, 0, none⟩))), (10, .v (.int .u64 left)), (73, .v (.int .i64 (r * c : Nat))), (74, .v (.int .i64 k)), (13, .v (.int .u64 set2)), (14, .v (.int .i64 ((n : Int) - 1)))] ∧ set2 < 18446744073709551616 ∧ peelR r c kr kc m (peelN r c kr kc n set2) = G ∧ HpM [] W w [blk qb [.int .u64 lost, .int .u64 kr, .int .u64 kc] 42],
        ⟨r * c, _, ⟨set, by omega, rfl, hsx, hG, hp⟩, sub_cons rfl (sub_cons rfl (sub_cons rfl (sub_cons rfl (sub_cons rfl (sub_cons rfl (sub_cons rfl (sub_cons (by rw [hrc2]; rfl) sub_nil)))))))⟩, ?_⟩
      clear hp hG hsx set
      repeat clear hp
      rintro n _ w ⟨set, hn, rfl, hsx, hG, hp⟩
      conv => whnf
      refine VSeq.mk fun Kq hKq => ?_
      conv => whnf
      refine VSeq.mk fun Kq hKq => ?_
      conv => whnf
      refine hKq _ _ _ (V.Sub.refl _) ?_
      clear hKq Kq
      conv => whnf
      refine ⟨fun hlt2 => ?_, fun hlt2 => ?_⟩
      · have hlt2 := of_decide_eq_true hlt2
        conv => whnf
        refine hKq _ _ _ (V.Sub.refl _) ?_
        clear hKq Kq
        conv => whnf
        refine VSeq.mk fun Kq hKq => ?_
        conv => whnf
        refine VSeq.mk fun Kq hKq => ?_
        conv => whnf
        refine VSeq.mk fun Kq hKq => ?_
        conv => whnf
        obtain ⟨n, rfl⟩ : ∃ n', n = n' + 1 := ⟨n - 1, by omega⟩
        rw [peelN] at hG
        have hd1 : set / 2 ^ n < 18446744073709551616 := Nat.lt_of_le_of_lt (Nat.div_le_self _ _) hsx
        have hb1 := bit_iff set n
        have hal1 := hal set hsx n (by omega)
        rw [show (((n + 1 : Nat) : Int) - 1) = (n : Int) by omega]
        refine ⟨n, ⟨by first | rfl | omega, by omega⟩, ?_⟩
        conv => whnf
        rw [shr_cast]
        refine ⟨set / 2 ^ n, 1, set / 2 ^ n % 2, ⟨by first | rfl | omega, by first | rfl | omega, by omega, by omega⟩, by (dsimp only; exact Nat.and_one_is_mod _), ?_⟩
        conv => whnf
        refine hKq _ _ _ (V.Sub.refl _) ?_
        clear hKq Kq
        conv => whnf
        refine ⟨fun q1 => ?_, fun q1 => ?_⟩
        · have q1 := of_decide_eq_true q1
          conv => whnf
          refine ⟨_, _, Blk.ldN (hp.get (i := 0) rfl) TTok rfl (rfl), ?_⟩
          conv => whnf
          refine PureF.use (hal1) fun w hx => ?_
          try (have hp := hp.call hx)
          conv => whnf
          refine hKq _ _ _ (V.Sub.refl _) ?_
          clear hKq Kq
          conv => whnf
          cases hq : aloneB r c kr kc set n with
          | true =>
            refine And.intro (fun _ => ?_) (fun h => by cases h)
            conv => whnf
            unfold peel1 at hG
            rw [if_pos (by rw [Bool.and_eq_true]; exact ⟨hb1.1 (by omega), hq⟩)] at hG
            refine ⟨n, ⟨by first | rfl | omega, by omega⟩, ?_⟩
            conv => whnf
            rw [shl_one n (by omega)]
            have hpn := pow_lt64 n (by omega)
            refine ⟨set, 2 ^ n, clr set n, ⟨by first | rfl | omega, by first | rfl | omega, by omega, by omega⟩, rfl, ?_⟩
            conv => whnf
            refine hKq _ _ _ (V.Sub.refl _) ?_
            clear hKq Kq
            conv => whnf
            refine And.intro (by omega) ?_
            conv => whnf
            exact ⟨n, _, by omega, ⟨_, by omega, rfl, clr_lt _ _ hsx, hG, hp⟩, sub_cons rfl (sub_cons rfl (sub_cons rfl (sub_cons rfl (sub_cons rfl (sub_cons rfl (sub_cons rfl (sub_cons rfl sub_nil)))))))⟩
          | false =>
            refine And.intro (fun h => by cases h) (fun _ => ?_)
            conv => whnf
            refine hKq _ _ _ (V.Sub.refl _) ?_
            clear hKq Kq
            conv => whnf
            refine And.intro (by omega) ?_
            conv => whnf
            unfold peel1 at hG
            rw [if_neg (by rw [Bool.and_eq_true, hq]; simp)] at hG
            exact ⟨n, _, by omega, ⟨_, by omega, rfl, hsx, hG, hp⟩, sub_cons rfl (sub_cons rfl (sub_cons rfl (sub_cons rfl (sub_cons rfl (sub_cons rfl (sub_cons rfl (sub_cons rfl sub_nil)))))))⟩
        · have q1 := of_decide_eq_false q1
          conv => whnf
          refine hKq _ _ _ (V.Sub.refl _) ?_
          clear hKq Kq
          conv => whnf
          refine hKq _ _ _ (V.Sub.refl _) ?_
          clear hKq Kq
          conv => whnf
          refine And.intro (by omega) ?_
          conv => whnf
          unfold peel1 at hG
          rw [if_neg (by rw [Bool.and_eq_true]; exact fun h => q1 (by have := hb1.2 h.1; omega))] at hG
          exact ⟨n, _, by omega, ⟨_, by omega, rfl, hsx, hG, hp⟩, sub_cons rfl (sub_cons rfl (sub_cons rfl (sub_cons rfl (sub_cons rfl (sub_cons rfl (sub_cons rfl (sub_cons rfl sub_nil)))))))⟩
      · have hlt2 := of_decide_eq_false hlt2
        conv => whnf
        clear hKq Kq
        refine hKq _ _ _ (V.Sub.refl _) ?_
        clear hKq Kq
        conv => whnf
        refine And.intro (by omega) ?_
        conv => whnf
        obtain rfl : n = 0 := by omega
        rw [peelN] at hG
        exact ⟨m, _, by omega, ⟨k + 1, set, by omega, rfl, hsx, hG, hp⟩, sub_cons rfl (sub_cons rfl (sub_cons rfl (sub_cons rfl (sub_cons rfl (sub_cons rfl (sub_cons rfl sub_nil))))))⟩
    · have hlt := of_decide_eq_false hlt
      conv => whnf
      clear hKq Kq
      refine hKq _ _ _ (V.Sub.refl _) ?_
      clear hKq Kq
      conv => whnf
      refine VSeq.mk fun Kq hKq => ?_
      conv => whnf
      obtain rfl : m = 0 := by omega
      rw [peelR] at hG
      subst hG
      refine ⟨set, left, 0, ⟨by first | rfl | omega, by first | rfl | omega, by omega, by omega⟩, by (dsimp only; exact hgr), ?_⟩
      conv => whnf
      refine hKq _ _ _ (V.Sub.refl _) ?_
      clear hKq Kq
      conv => whnf
      exact ⟨congrArg Value.bool (decide_eq_true (by omega)), hp.ext⟩
theorem greatest_at {W : World} (hg : Good W) (c0 c1 : Array Value) (a2 : Int) (e0 : Rd W (.cons (.int .u8) (.cons (.int .u8) (.cons (.sl .str) .nil))) c0.toList) (e1 : Rd W (.cons (.int .u64) (.cons (.int .u64) (.cons (.int .u64) .nil))) c1.toList) (w2 : (Lit.int .u64 a2).wf = true) :
    Calls Tryd.prog 7 #[.agg c0, .agg c1, .int .u64 a2] W fun e w' => e = .returned (.bool true) ∧ Ext W w' := by
  obtain ⟨a, b, v, D, rfl, ha, hb, hv, _⟩ := draft_rd e0
  obtain ⟨x, y, z, rfl, hx, hy, hz⟩ := loss_rd e1
  obtain ⟨o, rfl, ho⟩ := nat_of_u w2 rfl
  exact greatest_c hg a b x y z o v D ha hb hx hy hz ho hv
end Go.Proofs.YtpiilfamfinieaaDoor
