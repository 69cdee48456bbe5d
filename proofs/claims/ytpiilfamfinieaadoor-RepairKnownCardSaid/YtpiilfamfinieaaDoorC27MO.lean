/- Chapter 27: plans have as many steps as places that are repaired; more covers. -/
import Derived.Test.YtpiilfamfinieaaDoorC27GR
namespace Go.Proofs.YtpiilfamfinieaaDoor
set_option linter.unusedSimpArgs false
set_option linter.unusedVariables false
open Go.RowKit V
theorem known_or (r kr kc a b l : Nat) (h : knownL r kr kc l = true) : knownL r (kr ||| a) (kc ||| b) l = true := by
  unfold knownL at h ⊢
  split
  · rename_i hl; rw [if_pos hl] at h; rw [Nat.testBit_or, h]; rfl
  · rename_i hl; rw [if_neg hl] at h; rw [Nat.testBit_or, h]; rfl
theorem subB_minus (a b : Nat) (ha : a < 18446744073709551616) (hb : b < 18446744073709551616) : subB (a &&& (18446744073709551615 - b)) a := fun j hj => by
  rw [andNot_bit a b j ha hb] at hj
  simp at hj; exact hj.1
set_option maxHeartbeats 8000000 in
theorem more_c {W : World} (hg : Good W) (a b x y z x2 y2 z2 : Nat) (v : Value) (D : List ByteArray) (ha : a < 256) (hb : b < 256) (h1 : x < 18446744073709551616) (hy : y < 18446744073709551616) (hz : z < 18446744073709551616) (hx2 : x2 < 18446744073709551616) (hy2 : y2 < 18446744073709551616) (hz2 : z2 < 18446744073709551616) (hv : SLv W v (sw D)) :
    Calls Tryd.prog 8 #[.agg #[.int .u8 a, .int .u8 b, v], .agg #[.int .u64 x, .int .u64 y, .int .u64 z], .agg #[.int .u64 x2, .int .u64 y2, .int .u64 z2]] W fun e w' => e = .returned (.bool true) ∧ Ext W w' := by
  obtain ⟨p, cc, rfl⟩ := hv.shape
  simp only [sw_len] at hv ⊢
  refine v_reads TTok FFok Tryd.func8 rfl rfl ?_
  conv => whnf
  refine VSeq.mk fun Kq hKq => ?_
  conv => whnf
  have hp := Hp.nil W
  refine hp.kbox ([.int .u8 a, .int .u8 b, .slice p D.length cc]) rfl fun db w hp hx => ?_
  conv => whnf
  refine hp.kbox ([.int .u64 x, .int .u64 y, .int .u64 z]) rfl fun xb w hp hx => ?_
  conv => whnf
  refine hp.kbox ([.int .u64 x2, .int .u64 y2, .int .u64 z2]) rfl fun mb w hp hx => ?_
  conv => whnf
  refine hKq _ _ _ (V.Sub.refl _) ?_
  clear hKq Kq
  conv => whnf
  refine VSeq.mk fun Kq hKq => ?_
  conv => whnf
  refine VSeq.mk fun Kq hKq => ?_
  conv => whnf
  refine V.CallsUse (works_c (hg.ext hp.ext)) fun w hx => ?_
  try (have hp := hp.call hx)
  conv => whnf
  refine hKq _ _ _ (V.Sub.refl _) ?_
  clear hKq Kq
  conv => whnf
  refine And.intro (fun h => by cases h) (fun _ => ?_)
  conv => whnf
  refine hKq _ _ _ (V.Sub.refl _) ?_
  clear hKq Kq
  conv => whnf
  refine VSeq.mk fun Kq hKq => ?_
  conv => whnf
  refine ⟨_, _, Blk.ldN (hp.get (i := 2) rfl) TTok rfl (rfl), ?_⟩
  conv => whnf
  refine PureF.use (dShape_p a b ha hb p D.length cc) fun w hx => ?_
  try (have hp := hp.call hx)
  conv => whnf
  refine hKq _ _ _ (V.Sub.refl _) ?_
  clear hKq Kq
  conv => whnf
  refine VSeq.mk fun Kq hKq => ?_
  conv => whnf
  have hsh := draft_shp a b
  obtain ⟨r, hrd⟩ : ∃ r, 1 + a % 6 = r := ⟨_, rfl⟩
  obtain ⟨c, hcd⟩ : ∃ c, 1 + b % 8 = c := ⟨_, rfl⟩
  have hrr : r ≤ 6 := by omega
  have hcc : c ≤ 8 := by omega
  rw [hrd] at hsh ⊢
  rw [hcd] at hsh ⊢
  have hlo := lossOf_p x y z h1 hy hz r c hsh
  have hlo2 := lossOf_p x2 y2 z2 hx2 hy2 hz2 r c hsh
  have hset := of_sets r c x y z
  have hset2 := of_sets r c x2 y2 z2
  have hrc : r * c ≤ 6 * 8 := Nat.mul_le_mul (by omega) (by omega)
  have hrc2 : ((r : Int) * (c : Int)) = ((r * c : Nat) : Int) := by simp
  refine ⟨_, _, Blk.ldN (hp.get (i := 1) rfl) TTok rfl (rfl), ?_⟩
  conv => whnf
  refine PureF.use (hlo) fun w hx => ?_
  try (have hp := hp.call hx)
  conv => whnf
  have hl : x % 2 ^ (r * c) < 2 ^ (r * c) := Nat.mod_lt _ (Nat.two_pow_pos _)
  have hkr : y % 2 ^ r < 18446744073709551616 := Nat.lt_of_le_of_lt (Nat.mod_le _ _) hy
  have hkc : z % 2 ^ c < 18446744073709551616 := Nat.lt_of_le_of_lt (Nat.mod_le _ _) hz
  have hlx : x % 2 ^ (r * c) < 18446744073709551616 := Nat.lt_of_le_of_lt (Nat.mod_le _ _) h1
  have hkr2 : y2 % 2 ^ r < 18446744073709551616 := Nat.lt_of_le_of_lt (Nat.mod_le _ _) hy2
  have hkc2 : z2 % 2 ^ c < 18446744073709551616 := Nat.lt_of_le_of_lt (Nat.mod_le _ _) hz2
  clear hlo
  obtain ⟨lost, hlost⟩ : ∃ l, x % 2 ^ (r * c) = l := ⟨_, rfl⟩
  obtain ⟨kr, hkrd⟩ : ∃ l, y % 2 ^ r = l := ⟨_, rfl⟩
  obtain ⟨kc, hkcd⟩ : ∃ l, z % 2 ^ c = l := ⟨_, rfl⟩
  obtain ⟨jr, hjr⟩ : ∃ l, y2 % 2 ^ r = l := ⟨_, rfl⟩
  obtain ⟨jc, hjc⟩ : ∃ l, z2 % 2 ^ c = l := ⟨_, rfl⟩
  rw [hlost, hkrd, hkcd] at hset
  rw [hjr, hjc] at hset2 hlo2
  rw [hlost] at hl hlx
  rw [hkrd] at hkr
  rw [hkcd] at hkc
  rw [hjr] at hkr2
  rw [hjc] at hkc2
  rw [hlost, hkrd, hkcd]
  clear hlost hkrd hkcd hrd hcd hjr hjc
  have hlx3 : lost &&& (18446744073709551615 - x2) < 18446744073709551616 := Nat.lt_of_le_of_lt Nat.and_le_left hlx
  have hset3 : setsB r c (lost &&& (18446744073709551615 - x2)) (kr ||| jr) (kc ||| jc) = true := by
    obtain ⟨s1, s2, s3⟩ := of_decide_eq_true hset
    obtain ⟨t1, t2, t3⟩ := of_decide_eq_true hset2
    exact decide_eq_true ⟨Nat.lt_of_le_of_lt Nat.and_le_left s1, Nat.or_lt_two_pow s2 t2, Nat.or_lt_two_pow s3 t3⟩
  have hmore := planL_more r c lost kr kc (lost &&& (18446744073709551615 - x2)) (kr ||| jr) (kc ||| jc) (by omega) hlx hlx3 (subB_minus lost x2 hlx hx2) (fun l h => known_or r kr kc jr jc l h)
  obtain ⟨st1, st2, st3⟩ := planL_stuck r c lost kr kc (by omega) hlx
  obtain ⟨tt1, tt2, tt3⟩ := planL_stuck r c (lost &&& (18446744073709551615 - x2)) (kr ||| jr) (kc ||| jc) (by omega) hlx3
  have hcount := planL_count r c lost kr kc (by omega) hlx
  have hpl := hplen r c lost kr kc (by omega)
  have hpf : ∃ f, planL r c lost kr kc = planF r c kr kc f lost := ⟨_, rfl⟩
  have hal := fun set (hs : set < 18446744073709551616) i (hi : i < r * c) => alone_p r c lost kr kc set i hsh hlx hkr hkc hs hi
  have hPc := fun w (hg : Good w) => @Plan_c w hg r c lost kr kc hsh hset
  have hSc := fun w (hg : Good w) => @Stuck_c w hg r c lost kr kc hsh hset
  have hSc2 := fun w (hg : Good w) => @Stuck_c w hg r c _ _ _ hsh hset3
  generalize (planL r c (lost &&& (18446744073709551615 - x2)) (kr ||| jr) (kc ||| jc)).2 = left2 at tt1 tt2 tt3 hmore hSc2
  generalize planL r c lost kr kc = pl at st1 st2 st3 hmore hcount hpl hpf hSc hPc
  obtain ⟨ps, left⟩ := pl
  have hsubM := subB_andNot tt3 st3 hmore
  refine hp.kalloc z42 fun qb w hp hx => ?_
  conv => whnf
  refine hp.kstA TTok rfl 0 rfl (by rfl) (by simp [Value.oneCell']) (by rfl) fun w hp => ?_
  try simp only [List.set_cons_zero, List.set_cons_succ, EV.val] at hp
  conv => whnf
  refine hKq _ _ _ (V.Sub.refl _) ?_
  clear hKq Kq
  conv => whnf
  refine VSeq.mk fun Kq hKq => ?_
  conv => whnf
  refine v_mix TTok FFok mixed 23 [(0, false), (1, false), (2, false), (3, false), (4, false), (5, false), (6, false), (7, false), (8, false), (9, false), (10, false), (11, false), (12, false), (13, false), (14, false), (15, false), (16, false), (17, false), (18, false), (19, false), (20, false), (21, false), (22, true)] (by kernel_rfl) ?_
  conv => whnf
  refine ⟨_, fun w' hx' => Blk.ld (off := 0) (Blk.ext (hp.get (i := 0) rfl) hx') TTok rfl rfl, ?_⟩
  conv => whnf
  refine ⟨_, fun w' hx' => Blk.ld (off := 0) (Blk.ext (hp.get (i := 1) rfl) hx') TTok rfl rfl, ?_⟩
  conv => whnf
  refine ⟨lost, x2, lost &&& (18446744073709551615 - x2), ⟨by first | rfl | omega, by first | rfl | omega, by omega, by omega⟩, rfl, ?_⟩
  conv => whnf
  refine ⟨_, fun w' hx' => Blk.ld (off := 1) (Blk.ext (hp.get (i := 0) rfl) hx') TTok rfl rfl, ?_⟩
  conv => whnf
  refine ⟨_, fun w' hx' => Blk.ldN (Blk.ext (hp.get (i := 1) rfl) hx') TTok rfl (rfl), ?_⟩
  conv => whnf
  first | refine PureF.quiet (hlo2) ?_ | refine PureF.quietE (hlo2) ?_
  conv => whnf
  refine ⟨.int .u64 jr, fun w' hx' => by kernel_rfl, ?_⟩
  conv => whnf
  refine ⟨kr, jr, kr ||| jr, ⟨by first | rfl | omega, by first | rfl | omega, by omega, by omega⟩, rfl, ?_⟩
  conv => whnf
  refine ⟨_, fun w' hx' => Blk.ld (off := 2) (Blk.ext (hp.get (i := 0) rfl) hx') TTok rfl rfl, ?_⟩
  conv => whnf
  refine ⟨_, fun w' hx' => Blk.ldN (Blk.ext (hp.get (i := 1) rfl) hx') TTok rfl (rfl), ?_⟩
  conv => whnf
  first | refine PureF.quiet (hlo2) ?_ | refine PureF.quietE (hlo2) ?_
  conv => whnf
  refine ⟨.int .u64 jc, fun w' hx' => by kernel_rfl, ?_⟩
  conv => whnf
  refine ⟨kc, jc, kc ||| jc, ⟨by first | rfl | omega, by first | rfl | omega, by omega, by omega⟩, rfl, ?_⟩
  conv => whnf
  refine ⟨.agg #[.int .u64 (lost &&& (18446744073709551615 - x2) : Nat), .int .u64 (kr ||| jr : Nat), .int .u64 (kc ||| jc : Nat)], fun w' hx' => by kernel_rfl, ?_⟩
  conv => whnf
  intro w hx
  try (have hp := hp.call hx)
  conv => whnf
  refine hp.kalloc z42 fun qc w hp hx => ?_
  conv => whnf
  refine And.intro hx ?_
  conv => whnf
  intro w hx
  try (have hp := hp.call hx)
  conv => whnf
  refine hp.kstA TTok rfl 0 rfl (by rfl) (by simp [Value.oneCell']) (by rfl) fun w hp => ?_
  try simp only [List.set_cons_zero, List.set_cons_succ, EV.val] at hp
  conv => whnf
  refine hKq _ _ _ (V.Sub.refl _) ?_
  clear hKq Kq
  conv => whnf
  refine VSeq.mk fun Kq hKq => ?_
  conv => whnf
  refine ⟨_, _, Blk.ld (off := 0) (hp.get (i := 1) rfl) TTok rfl rfl, ?_⟩
  conv => whnf
  refine ⟨_, _, Blk.ld (off := 1) (hp.get (i := 1) rfl) TTok rfl rfl, ?_⟩
  conv => whnf
  refine ⟨_, _, Blk.ld (off := 2) (hp.get (i := 1) rfl) TTok rfl rfl, ?_⟩
  conv => whnf
  refine (hPc _ (hg.ext hp.ext)).mono ?_
  rintro e w ⟨u, rfl, vp, rfl, hq⟩
  refine ⟨_, rfl, ?_⟩
  have hp := hp.join hq
  obtain ⟨pp, cp, rfl⟩ := row_shape (hp.get (i := 0) rfl)
  clear hq
  conv => whnf
  refine hKq _ _ _ (V.Sub.refl _) ?_
  clear hKq Kq
  conv => whnf
  refine VSeq.mk fun Kq hKq => ?_
  conv => whnf
  refine ⟨_, _, Blk.ld (off := 0) (hp.get (i := 2) rfl) TTok rfl rfl, ?_⟩
  conv => whnf
  refine ⟨_, _, Blk.ld (off := 1) (hp.get (i := 2) rfl) TTok rfl rfl, ?_⟩
  conv => whnf
  refine ⟨_, _, Blk.ld (off := 2) (hp.get (i := 2) rfl) TTok rfl rfl, ?_⟩
  conv => whnf
  refine V.CallsUse (hSc _ (hg.ext hp.ext)) fun w hx => ?_
  try (have hp := hp.call hx)
  conv => whnf
  refine hKq _ _ _ (V.Sub.refl _) ?_
  clear hKq Kq
  conv => whnf
  refine VSeq.mk fun Kq hKq => ?_
  conv => whnf
  refine ⟨_, _, Blk.ld (off := 0) (hp.get (i := 1) rfl) TTok rfl rfl, ?_⟩
  conv => whnf
  refine ⟨_, _, Blk.ld (off := 1) (hp.get (i := 1) rfl) TTok rfl rfl, ?_⟩
  conv => whnf
  refine ⟨_, _, Blk.ld (off := 2) (hp.get (i := 1) rfl) TTok rfl rfl, ?_⟩
  conv => whnf
  refine V.CallsUse (hSc2 _ (hg.ext hp.ext)) fun w hx => ?_
  try (have hp := hp.call hx)
  conv => whnf
  refine hKq _ _ _ (V.Sub.refl _) ?_
  clear hKq Kq
  conv => whnf
  refine VSeq.mk fun Kq hKq => ?_
  conv => whnf
  refine VSeq.mk fun Kq hKq => ?_
  conv => whnf
  refine VSeq.mk fun Kq hKq => ?_
  conv => whnf
  refine hKq _ _ _ (V.Sub.refl _) ?_
  clear hKq Kq
  conv => whnf
  refine VSeq.mk fun Kq hKq => ?_
  conv => whnf
  refine And.intro (fun h => absurd (of_decide_eq_true h) ((by omega))) (fun _ => ?_)
  conv => whnf
  refine hKq _ _ _ (V.Sub.refl _) ?_
  clear hKq Kq
  conv => whnf
  refine VSeq.mk fun Kq hKq => ?_
  conv => whnf
  refine And.intro (fun h => absurd (of_decide_eq_true h) ((by omega))) (fun _ => ?_)
  conv => whnf
  refine hKq _ _ _ (V.Sub.refl _) ?_
  clear hKq Kq
  conv => whnf
  refine VSeq.mk fun Kq hKq => ?_
  conv => whnf
  refine And.intro (fun h => absurd (of_decide_eq_true h) ((by omega))) (fun _ => ?_)
  conv => whnf
  refine ⟨_, _, Blk.ld (off := 0) (hp.get (i := 2) rfl) TTok rfl rfl, ?_⟩
  conv => whnf
  refine ⟨lost, left, lost &&& (18446744073709551615 - left), ⟨by first | rfl | omega, by first | rfl | omega, by omega, by omega⟩, rfl, ?_⟩
  conv => whnf
  have hOC := OnesCount_p (lost &&& (18446744073709551615 - left)) (Nat.lt_of_le_of_lt Nat.and_le_left hlx)
  have hcount : ps.length = popN (lost &&& (18446744073709551615 - left)) 64 := hcount
  rw [← hcount] at hOC
  refine PureF.use (hOC) fun w hx => ?_
  try (have hp := hp.call hx)
  conv => whnf
  refine hKq _ _ _ (V.Sub.refl _) ?_
  clear hKq Kq
  conv => whnf
  refine And.intro (fun h => absurd (of_decide_eq_true h) ((by dsimp only; omega))) (fun _ => ?_)
  conv => whnf
  refine ⟨left2, left, 0, ⟨by first | rfl | omega, by first | rfl | omega, by omega, by omega⟩, by (dsimp only; exact hsubM), ?_⟩
  conv => whnf
  refine hKq _ _ _ (V.Sub.refl _) ?_
  clear hKq Kq
  conv => whnf
  refine And.intro (fun h => absurd (of_decide_eq_true h) ((by omega))) (fun _ => ?_)
  conv => whnf
  refine hKq _ _ _ (V.Sub.refl _) ?_
  clear hKq Kq
  conv => whnf
  refine VSeq.mk fun Kq hKq => ?_
  conv => whnf
  refine ⟨_, _, Blk.ld (off := 0) (hp.get (i := 2) rfl) TTok rfl rfl, ?_⟩
  conv => whnf
  refine hKq _ _ _ (V.Sub.refl _) ?_
  clear hKq Kq
  conv => whnf
  refine VSeq.mk fun Kq hKq => ?_
  conv => whnf
  refine VSeq.mk fun Kq hKq => ?_
  conv => whnf
  refine hKq _ _ _ (V.Sub.refl _) ?_
  clear hKq Kq
  conv => whnf
  have hmem0 := planF_mem r c kr kc
  obtain ⟨f0, hpf⟩ := hpf
  have hpl : ps.length ≤ 48 := hpl
  refine ⟨fun m l w => ∃ (i cur f : Nat), m + i = ps.length ∧ l = [(7, .v (.int .i64 r)), (8, .v (.int .i64 c)), (9, .v (.pointer (some ⟨qb, 0, none⟩))), (13, .v (.int .u64 left)), (119, .v (.slice pp ps.length cp)), (120, .v (.int .i64 ps.length)), (121, .v (.int .i64 i)), (17, .v (.int .u64 cur))] ∧ cur < 18446744073709551616 ∧ (ps.drop i, left) = planF r c kr kc f cur ∧
      HpM [] W w [row 55 2 (.slice pp ps.length cp) ps.length (pw ps), blk qb [.int .u64 lost, .int .u64 kr, .int .u64 kc] 42],
    ⟨ps.length, _, ⟨0, lost, f0, by omega, rfl, hlx, hpf, hp.pick [0, 2] (by decide)⟩, sub_cons rfl (sub_cons rfl (sub_cons rfl (sub_cons rfl (sub_cons rfl (sub_cons rfl (sub_cons rfl (sub_cons rfl sub_nil)))))))⟩, ?_⟩
  clear hp hpf hx
  repeat clear hp
  rintro m _ w ⟨i, cur, f, hm, rfl, hcx, hpf, hp⟩
  conv => whnf
  refine VSeq.mk fun Kq hKq => ?_
  conv => whnf
  refine hKq _ _ _ (V.Sub.refl _) ?_
  clear hKq Kq
  conv => whnf
  refine VSeq.mk fun Kq hKq => ?_
  conv => whnf
  refine ⟨fun hlt => ?_, fun hlt => ?_⟩
  · have hlt := of_decide_eq_true hlt
    conv => whnf
    refine hKq _ _ _ (V.Sub.refl _) ?_
    clear hKq Kq
    conv => whnf
    refine VSeq.mk fun Kq hKq => ?_
    conv => whnf
    refine VSeq.mk fun Kq hKq => ?_
    conv => whnf
    have hi : i < ps.length := by omega
    have hxi : ps[i]? = some ps[i] := List.getElem?_eq_getElem hi
    rw [List.drop_eq_getElem_cons hi] at hpf
    generalize ps[i] = xq at hxi hpf
    obtain ⟨li, pi⟩ := xq
    obtain ⟨hw0, hw1⟩ := pw_get ps i _ hxi
    obtain ⟨f, rfl, hfst, hnx⟩ : ∃ f', f = f' + 1 ∧ firstL r c kr kc cur 0 = some (li, pi) ∧ (ps.drop (i + 1), left) = planF r c kr kc f' (clr cur pi) := by
      cases f with
      | zero => simp [planF] at hpf
      | succ f =>
        rw [planF] at hpf
        cases hf : firstL r c kr kc cur 0 with
        | none => rw [hf] at hpf; simp at hpf
        | some q =>
          obtain ⟨l2, i2⟩ := q
          rw [hf] at hpf
          simp only [Prod.mk.injEq, List.cons.injEq] at hpf
          obtain ⟨⟨⟨rfl, rfl⟩, e1⟩, e2⟩ := hpf
          exact ⟨f, rfl, rfl, by rw [e1, e2]⟩
    obtain ⟨hl1, hkn, hh⟩ := firstL_some hfst
    obtain ⟨k1, k2, k3⟩ := mem_hits.1 (by rw [hh]; simp : pi ∈ hits r c cur li)
    have hal1 := hal cur hcx pi k1
    rw [(alone_iff r c kr kc cur pi hsh k1).2 ⟨li, hl1, hkn, hh⟩] at hal1
    obtain ⟨g5, c5', e5⟩ := row_form (hp.get (i := 0) rfl) (by omega)
    simp only [Value.slice.injEq, true_and] at e5
    obtain ⟨rfl, rfl⟩ := e5
    have hc0 := row_cell (hp.get (i := 0) rfl) hw0
    have hc1 := row_cell (hp.get (i := 0) rfl) hw1
    have hd1 : cur / 2 ^ pi < 18446744073709551616 := Nat.lt_of_le_of_lt (Nat.div_le_self _ _) hcx
    have hb1 := bit_iff cur pi
    have hone : cur / 2 ^ pi % 2 = 1 := hb1.2 k2
    have hon : (li < r ∧ (pi : Int) / (c : Int) = (li : Int)) ∨ (r ≤ li ∧ (r : Int) + (pi : Int) % (c : Int) = (li : Int)) := by
      have hdk : ((pi : Int) / (c : Int)) = ((pi / c : Nat) : Int) := by simp
      have hmk : ((pi : Int) % (c : Int)) = ((pi % c : Nat) : Int) := by simp
      unfold onL at k3
      rw [hdk, hmk]
      split at k3
      · rw [beq_iff_eq] at k3; exact .inl ⟨by omega, by omega⟩
      · rw [beq_iff_eq] at k3; exact .inr ⟨by omega, by omega⟩
    refine ⟨i, ⟨by first | rfl | omega, by omega⟩, ?_⟩
    conv => whnf
    rw [show addM 0 i 2 = i * 2 by rw [addM_eq]; omega]
    refine ⟨_, _, run_ldN TTok (vs := [.int .i64 li, .int .i64 pi]) rfl rfl (fun q u hq => by
      match q, hq with
      | 0, hq => simp at hq; subst hq; exact hc0
      | 1, hq => simp at hq; subst hq; exact hc1
      | q + 2, hq => simp at hq), ?_⟩
    conv => whnf
    refine hp.kalloc z55 fun xq w hp hx => ?_
    conv => whnf
    refine hp.kstA TTok rfl 0 rfl (by rfl) (by simp [Value.oneCell']) (by rfl) fun w hp => ?_
    try simp only [List.set_cons_zero, List.set_cons_succ, EV.val] at hp
    conv => whnf
    refine hKq _ _ _ (V.Sub.refl _) ?_
    clear hKq Kq
    conv => whnf
    refine VSeq.mk fun Kq hKq => ?_
    conv => whnf
    refine v_mixA TTok FFok mixed [(0, false), (1, false), (2, false), (3, false), (4, false), (5, false)] (by kernel_rfl) ?_
    conv => whnf
    refine ⟨0, ⟨by first | rfl | omega, by omega⟩, ?_⟩
    conv => whnf
    refine ⟨_, fun w' hx' => Blk.ld (Blk.ext (hp.get (i := 0) rfl) hx') TTok rfl (rfl), ?_⟩
    conv => whnf
    refine ⟨1, ⟨by first | rfl | omega, by omega⟩, ?_⟩
    conv => whnf
    refine ⟨_, fun w' hx' => Blk.ld (Blk.ext (hp.get (i := 0) rfl) hx') TTok rfl (rfl), ?_⟩
    conv => whnf
    intro w hx
    try (have hp := hp.call hx)
    conv => whnf
    refine hKq _ _ _ (V.Sub.refl _) ?_
    clear hKq Kq
    conv => whnf
    refine VSeq.mk fun Kq hKq => ?_
    conv => whnf
    refine VSeq.mk fun Kq hKq => ?_
    conv => whnf
    refine VSeq.mk fun Kq hKq => ?_
    conv => whnf
    refine hKq _ _ _ (V.Sub.refl _) ?_
    clear hKq Kq
    conv => whnf
    refine VSeq.mk fun Kq hKq => ?_
    conv => whnf
    refine And.intro (fun h => absurd (of_decide_eq_true h) ((by omega))) (fun _ => ?_)
    conv => whnf
    refine And.intro (by omega) ?_
    conv => whnf
    refine hKq _ _ _ (V.Sub.refl _) ?_
    clear hKq Kq
    conv => whnf
    refine VSeq.mk fun Kq hKq => ?_
    conv => whnf
    refine And.intro (fun h => absurd (of_decide_eq_true h) ((by rw [hrc2]; omega))) (fun _ => ?_)
    conv => whnf
    refine ⟨pi, ⟨by first | rfl | omega, by omega⟩, ?_⟩
    conv => whnf
    rw [shr_cast]
    refine ⟨cur / 2 ^ pi, 1, cur / 2 ^ pi % 2, ⟨by first | rfl | omega, by first | rfl | omega, by omega, by omega⟩, by (dsimp only; exact Nat.and_one_is_mod _), ?_⟩
    conv => whnf
    refine hKq _ _ _ (V.Sub.refl _) ?_
    clear hKq Kq
    conv => whnf
    refine VSeq.mk fun Kq hKq => ?_
    conv => whnf
    refine And.intro (fun h => absurd (of_decide_eq_true h) ((by omega))) (fun _ => ?_)
    conv => whnf
    refine ⟨_, _, Blk.ldN (hp.get (i := 2) rfl) TTok rfl (rfl), ?_⟩
    conv => whnf
    refine PureF.use (hal1) fun w hx => ?_
    try (have hp := hp.call hx)
    conv => whnf
    refine hKq _ _ _ (V.Sub.refl _) ?_
    clear hKq Kq
    conv => whnf
    refine And.intro (fun h => by cases h) (fun _ => ?_)
    conv => whnf
    have hc1 : 1 ≤ c := by unfold Shp at hsh; omega
    have hr1 : 1 ≤ r := by unfold Shp at hsh; omega
    refine And.intro (by omega) ?_
    conv => whnf
    refine ⟨fun q5 => ?_, fun q5 => ?_⟩
    · have q5 := of_decide_eq_true q5
      conv => whnf
      refine And.intro (by omega) ?_
      conv => whnf
      refine And.intro (by omega) ?_
      conv => whnf
      refine hKq _ _ _ (V.Sub.refl _) ?_
      clear hKq Kq
      conv => whnf
      refine And.intro (fun h => absurd (of_decide_eq_true h) ((by omega))) (fun _ => ?_)
      conv => whnf
      refine hKq _ _ _ (V.Sub.refl _) ?_
      clear hKq Kq
      conv => whnf
      refine ⟨pi, ⟨by first | rfl | omega, by omega⟩, ?_⟩
      conv => whnf
      rw [shl_one pi (by omega)]
      have hpn := pow_lt64 pi (by omega)
      refine ⟨cur, 2 ^ pi, clr cur pi, ⟨by first | rfl | omega, by first | rfl | omega, by omega, by omega⟩, rfl, ?_⟩
      conv => whnf
      refine hKq _ _ _ (V.Sub.refl _) ?_
      clear hKq Kq
      conv => whnf
      refine And.intro (by omega) ?_
      conv => whnf
      exact ⟨m - 1, _, by omega, ⟨i + 1, clr cur pi, f, by omega, rfl, clr_lt _ _ hcx, hnx, hp.pick [1, 2] (by decide)⟩, sub_cons rfl (sub_cons rfl (sub_cons rfl (sub_cons rfl (sub_cons rfl (sub_cons rfl (sub_cons rfl (sub_cons rfl sub_nil)))))))⟩
    · have q5 := of_decide_eq_false q5
      conv => whnf
      refine hKq _ _ _ (V.Sub.refl _) ?_
      clear hKq Kq
      conv => whnf
      refine hKq _ _ _ (V.Sub.refl _) ?_
      clear hKq Kq
      conv => whnf
      refine ⟨pi, ⟨by first | rfl | omega, by omega⟩, ?_⟩
      conv => whnf
      rw [shl_one pi (by omega)]
      have hpn := pow_lt64 pi (by omega)
      refine ⟨cur, 2 ^ pi, clr cur pi, ⟨by first | rfl | omega, by first | rfl | omega, by omega, by omega⟩, rfl, ?_⟩
      conv => whnf
      refine hKq _ _ _ (V.Sub.refl _) ?_
      clear hKq Kq
      conv => whnf
      refine And.intro (by omega) ?_
      conv => whnf
      exact ⟨m - 1, _, by omega, ⟨i + 1, clr cur pi, f, by omega, rfl, clr_lt _ _ hcx, hnx, hp.pick [1, 2] (by decide)⟩, sub_cons rfl (sub_cons rfl (sub_cons rfl (sub_cons rfl (sub_cons rfl (sub_cons rfl (sub_cons rfl (sub_cons rfl sub_nil)))))))⟩
  · have hlt := of_decide_eq_false hlt
    conv => whnf
    clear hKq Kq
    refine hKq _ _ _ (V.Sub.refl _) ?_
    clear hKq Kq
    conv => whnf
    refine VSeq.mk fun Kq hKq => ?_
    conv => whnf
    refine hKq _ _ _ (V.Sub.refl _) ?_
    clear hKq Kq
    conv => whnf
    obtain rfl : i = ps.length := by omega
    rw [List.drop_eq_nil_of_le (Nat.le_refl _)] at hpf
    have : cur = left := by
      cases f with
      | zero => simp [planF] at hpf; exact hpf.symm
      | succ f =>
        rw [planF] at hpf
        cases hf : firstL r c kr kc cur 0 with
        | none => rw [hf] at hpf; simp at hpf; exact hpf.symm
        | some q => obtain ⟨l2, i2⟩ := q; rw [hf] at hpf; simp at hpf
    exact ⟨congrArg Value.bool (decide_eq_true (by omega)), hp.ext⟩
theorem more_at {W : World} (hg : Good W) (c0 c1 c2 : Array Value) (e0 : Rd W (.cons (.int .u8) (.cons (.int .u8) (.cons (.sl .str) .nil))) c0.toList) (e1 : Rd W (.cons (.int .u64) (.cons (.int .u64) (.cons (.int .u64) .nil))) c1.toList) (e2 : Rd W (.cons (.int .u64) (.cons (.int .u64) (.cons (.int .u64) .nil))) c2.toList) :
    Calls Tryd.prog 8 #[.agg c0, .agg c1, .agg c2] W fun e w' => e = .returned (.bool true) ∧ Ext W w' := by
  obtain ⟨a, b, v, D, rfl, ha, hb, hv, _⟩ := draft_rd e0
  obtain ⟨x, y, z, rfl, hx, hy, hz⟩ := loss_rd e1
  obtain ⟨x2, y2, z2, rfl, hx2, hy2, hz2⟩ := loss_rd e2
  exact more_c hg a b x y z x2 y2 z2 v D ha hb hx hy hz hx2 hy2 hz2 hv
end Go.Proofs.YtpiilfamfinieaaDoor
