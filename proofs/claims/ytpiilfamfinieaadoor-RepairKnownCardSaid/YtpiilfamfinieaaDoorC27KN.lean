/- Chapter 27: the closed statement. -/
import Derived.Test.YtpiilfamfinieaaDoorC27TR
import Derived.Test.YtpiilfamfinieaaDoorQR
namespace Go.Proofs.YtpiilfamfinieaaDoor
set_option linter.unusedSimpArgs false
set_option linter.unusedVariables false
open Go.RowKit V
def bigS (i : Nat) : ByteArray := repS ⟨#[UInt8.ofNat (65 + i)]⟩ (1100 - i % 3)
def bigL (k : Nat) : List ByteArray := (List.range k).map bigS
theorem bigL_len (k : Nat) : (bigL k).length = k := by simp [bigL]
theorem bigL_succ (k : Nat) : bigL (k + 1) = bigL k ++ [bigS k] := by unfold bigL; rw [List.range_succ, List.map_append]; rfl
theorem bigS_size (i : Nat) : (bigS i).size ≤ 1100 := by
  unfold bigS
  rw [repS_size]
  show (1100 - i % 3) * 1 ≤ 1100
  omega
theorem bigL_size (k : Nat) : ∀ x ∈ bigL k, x.size ≤ 1100 := fun x hx => by
  obtain ⟨i, _, rfl⟩ := List.mem_map.1 hx
  exact bigS_size i
theorem chr_enc : ∀ i < 48, Utf8.encode ((65 + i : Nat) : Int) = ⟨#[UInt8.ofNat (65 + i)]⟩ := by decide +kernel
theorem chr_run (i : Nat) (h : i < 48) (w : World) : (convert 21 9 (.int .i32 (65 + (i : Int)))).run Tryd.prog w = .ok (.string ⟨#[UInt8.ofNat (65 + i)]⟩) w := by
  rw [← chr_enc i h, show ((65 + i : Nat) : Int) = 65 + (i : Int) by omega]
  kernel_rfl
theorem shp68 : Shp ((6 : Nat) : Int) ((8 : Nat) : Int) := by unfold Shp; omega
theorem shp12 : Shp ((1 : Nat) : Int) ((2 : Nat) : Int) := by unfold Shp; omega
theorem shp11 : Shp ((1 : Nat) : Int) ((1 : Nat) : Int) := by unfold Shp; omega
theorem big_left : (planL 6 8 35253226045953 63 0).2 = 0 := by decide +kernel
theorem big_stuck : (planL 6 8 281474976710655 63 255).2 = 281474976710655 := by decide +kernel
theorem lostL_none (L : List ByteArray) (k : Nat) : lostL 0 L k = L := by
  apply List.ext_getElem?
  intro i
  by_cases h : i < L.length
  · rw [lostL_get _ _ _ _ h, List.getD_eq_getElem?_getD, List.getElem?_eq_getElem h]; simp
  · rw [List.getElem?_eq_none (by rw [lostL_len]; omega), List.getElem?_eq_none (by omega)]
theorem big_rep : repF 6 8 ((coversB 6 8 (bigL 48)).take 6 ++ (coversB 6 8 (bigL 48)).drop 6) (planL 6 8 35253226045953 63 0).1 (lostL 35253226045953 (bigL 48) (bigL 48).length) = some (bigL 48) := by
  have h := repF_true 6 8 63 0 (by decide) (bigL 48) (coversB 6 8 (bigL 48)) (bigL_len 48) (bigL_size 48) (fun l hl _ => by rw [List.getD_eq_getElem?_getD, coversB_get 6 8 l _ hl]; rfl) (6 * 8) 35253226045953 (lostL 35253226045953 (bigL 48) (bigL 48).length) (by decide) (by rw [lostL_len, bigL_len]) (fun j hj => by
    have hj' : j < (bigL 48).length := by rw [bigL_len]; exact hj
    rw [List.getD_eq_getElem?_getD, lostL_get _ _ _ _ hj', decide_eq_true hj', Bool.true_and]; rfl)
  have e := big_left
  unfold planL at e
  rw [e, lostL_none] at h
  rw [List.take_append_drop]
  exact h
def okC (C : ByteArray) : Bool := (unfL (px C.data.toList [0, 1, 120])).isSome
theorem cov12 : covN 1 2 0 0 [⟨#[]⟩, (⟨#[120]⟩ : ByteArray)] 2 = [0, 1, 120] := by decide +kernel
theorem plan12 : planL 1 2 1 1 0 = ([(0, 0)], 0) := by decide +kernel
theorem lost12 : lostL 1 [⟨#[]⟩, (⟨#[120]⟩ : ByteArray)] 2 = [⟨#[]⟩, (⟨#[120]⟩ : ByteArray)] := by decide +kernel
theorem rep12 (C : ByteArray) : (repF 1 2 ([C] ++ [⟨#[]⟩, ⟨#[]⟩]) (planL 1 2 1 1 0).1 (lostL 1 [⟨#[]⟩, (⟨#[120]⟩ : ByteArray)] 2)).isSome = okC C := by
  rw [plan12, lost12]
  show (match stepL 1 2 0 0 [⟨#[]⟩, (⟨#[120]⟩ : ByteArray)] [C, ⟨#[]⟩, ⟨#[]⟩] with | none => none | some s => repF 1 2 [C, ⟨#[]⟩, ⟨#[]⟩] [] _).isSome = _
  unfold stepL
  show (match unfL (px C.data.toList (covN 1 2 0 0 [⟨#[]⟩, (⟨#[120]⟩ : ByteArray)] 2)) with | none => none | some s => repF 1 2 [C, ⟨#[]⟩, ⟨#[]⟩] [] _).isSome = _
  rw [cov12]
  unfold okC
  cases unfL (px C.data.toList [0, 1, 120]) <;> rfl
theorem block12 : blockB (1 * 2) [⟨#[]⟩, (⟨#[120]⟩ : ByteArray)] = true := by decide +kernel
set_option maxHeartbeats 4000000 in
theorem repaired_c {W : World} (hg : Good W) (C : ByteArray) (hC : C.size ≤ 2000) : Calls Tryd.prog 32 #[.string C] W fun e w' => e = .returned (.int .i64 (if okC C = true then 0 else 5)) ∧ Ext W w' := by
  refine v_reads TTok FFok Tryd.func32 rfl rfl ?_
  conv => whnf
  refine VSeq.mk fun Kq hKq => ?_
  conv => whnf
  refine hKq _ _ _ (V.Sub.refl _) ?_
  clear hKq Kq
  conv => whnf
  refine VSeq.mk fun Kq hKq => ?_
  conv => whnf
  have hp := Hp.nil W
  refine hp.kmadeR (sw [⟨#[]⟩, (⟨#[120]⟩ : ByteArray)]) 9 1 2 rfl (by decide) (by kernel_rfl) fun q1 w hp hx => ?_
  conv => whnf
  refine hp.kmadeR (sw [C]) 9 1 1 rfl (by decide) (by kernel_rfl) fun q2 w hp hx => ?_
  conv => whnf
  refine hp.kmadeR (sw [⟨#[]⟩, ⟨#[]⟩]) 9 1 2 rfl (by decide) (by kernel_rfl) fun q3 w hp hx => ?_
  conv => whnf
  have hrp := Repair_c (hg.ext hp.ext) 1 2 1 1 0 shp12 (by decide) _ _ _ [⟨#[]⟩, (⟨#[120]⟩ : ByteArray)] [C] [⟨#[]⟩, ⟨#[]⟩] (SLv.of_row (hp.get (i := 2) rfl)) (SLv.of_row (hp.get (i := 1) rfl)) (SLv.of_row (hp.get (i := 0) rfl)) block12 rfl rfl (fun q hq => by simp at hq; rcases hq with rfl | rfl <;> first | omega | decide)
  have hok := rep12 C
  rw [show [⟨#[]⟩, (⟨#[120]⟩ : ByteArray)].length = 2 from rfl] at hrp
  cases hrf : repF 1 2 ([C] ++ [⟨#[]⟩, ⟨#[]⟩]) (planL 1 2 1 1 0).1 (lostL 1 [⟨#[]⟩, (⟨#[120]⟩ : ByteArray)] 2) with
  | none =>
    rw [hrf] at hrp hok
    have hok : okC C = false := hok.symm
    refine hrp.mono ?_
    rintro e w ⟨u, rfl, rfl, hx2⟩
    refine ⟨_, rfl, ?_⟩
    have hp := hp.call hx2
    conv => whnf
    refine hKq _ _ _ (V.Sub.refl _) ?_
    clear hKq Kq
    conv => whnf
    refine VSeq.mk fun Kq hKq => ?_
    conv => whnf
    refine VSeq.mk fun Kq hKq => ?_
    conv => whnf
    refine VSeq.mk fun Kq hKq => ?_
    conv => whnf
    refine hKq _ _ _ (V.Sub.refl _) ?_
    clear hKq Kq
    conv => whnf
    refine And.intro (fun _ => ?_) (fun h => absurd ((by omega)) (of_decide_eq_false h))
    conv => whnf
    refine And.intro (fun h => absurd (of_decide_eq_true h) ((by omega))) (fun _ => ?_)
    conv => whnf
    refine hKq _ _ _ (V.Sub.refl _) ?_
    clear hKq Kq
    conv => whnf
    refine And.intro (fun h => absurd (of_decide_eq_true h) ((by omega))) (fun _ => ?_)
    conv => whnf
    refine hKq _ _ _ (V.Sub.refl _) ?_
    clear hKq Kq
    conv => whnf
    refine VSeq.mk fun Kq hKq => ?_
    conv => whnf
    refine hKq _ _ _ (V.Sub.refl _) ?_
    clear hKq Kq
    conv => whnf
    exact ⟨by rw [hok]; rfl, hp.ext⟩
  | some L2 =>
    rw [hrf] at hrp hok
    have hok : okC C = true := hok.symm
    refine hrp.mono ?_
    rintro e w ⟨u, rfl, v2, rfl, hq⟩
    refine ⟨_, rfl, ?_⟩
    have hp := hp.join hq
    clear hq
    conv => whnf
    refine hKq _ _ _ (V.Sub.refl _) ?_
    clear hKq Kq
    conv => whnf
    refine VSeq.mk fun Kq hKq => ?_
    conv => whnf
    refine VSeq.mk fun Kq hKq => ?_
    conv => whnf
    refine VSeq.mk fun Kq hKq => ?_
    conv => whnf
    refine hKq _ _ _ (V.Sub.refl _) ?_
    clear hKq Kq
    conv => whnf
    refine And.intro (fun h => absurd (of_decide_eq_true h) ((by omega))) (fun _ => ?_)
    conv => whnf
    refine hKq _ _ _ (V.Sub.refl _) ?_
    clear hKq Kq
    conv => whnf
    refine hKq _ _ _ (V.Sub.refl _) ?_
    clear hKq Kq
    conv => whnf
    refine VSeq.mk fun Kq hKq => ?_
    conv => whnf
    refine hKq _ _ _ (V.Sub.refl _) ?_
    clear hKq Kq
    conv => whnf
    exact ⟨by rw [hok]; rfl, hp.ext⟩
theorem ok_long (n : Nat) (a b : UInt8) (L : List UInt8) (hn : 256 * a.toNat + b.toNat = n ^^^ 1) (hL : L.length = n) (h1 : 1 ≤ L.length) (h2 : (b ^^^ 1).toNat + 256 * a.toNat = n) : (unfL (px (a :: b :: L) [0, 1, 120])).isSome = decide (n ≤ 1100) := by
  have hg0 : (px (a :: b :: L) [0, 1, 120]).getD 0 0 = a := by rw [px_getD]; show a ^^^ 0 = a; simp
  have hg1 : (px (a :: b :: L) [0, 1, 120]).getD 1 0 = b ^^^ 1 := by rw [px_getD]; rfl
  have hl : (px (a :: b :: L) [0, 1, 120]).length = n + 2 := by
    rw [px_len]
    show max (L.length + 1 + 1) 3 = n + 2
    omega
  unfold unfL
  rw [hg0, hg1, hl, if_neg (by omega)]
  dsimp only
  have hN : 256 * a.toNat + (b ^^^ 1).toNat = n := by omega
  rw [hN]
  by_cases hle : n ≤ 1100
  · rw [decide_eq_true hle, if_neg]
    · rfl
    · rintro (h | h | h)
      · omega
      · omega
      · rw [List.drop_eq_nil_of_le (by rw [hl]; exact Nat.le_refl _)] at h; cases h
  · rw [decide_eq_false hle, if_pos (.inl (by omega))]; rfl
theorem ok1 : okC (⟨#[0, 1, 120]⟩ : ByteArray) = true := by decide +kernel
theorem ok2 : okC (⟨#[0, 5]⟩ : ByteArray) = false := by decide +kernel
theorem ok3 : okC (⟨#[0, 0, 120]⟩ : ByteArray) = true := by decide +kernel
theorem ok4 : okC (⟨#[0, 0, 121]⟩ : ByteArray) = true := by decide +kernel
theorem ok5 : okC (⟨#[0, 0, 121, 1]⟩ : ByteArray) = false := by decide +kernel
theorem ok6 : okC ⟨#[]⟩ = true := by decide +kernel
theorem ok7 : okC (⟨#[0, 2, 121, 1, 2, 0, 0]⟩ : ByteArray) = true := by decide +kernel
theorem ok8 : okC (⟨#[0, 2, 121, 1, 2, 0, 1]⟩ : ByteArray) = false := by decide +kernel
theorem ok9 : okC ((⟨#[4, 77]⟩ : ByteArray) ++ repS (⟨#[121]⟩ : ByteArray) 1100) = true := by
  have h := ok_long 1100 4 77 (repS (⟨#[121]⟩ : ByteArray) 1100).data.toList (by decide) (by rw [toList_len, repS_size]; rfl) (by rw [toList_len, repS_size]; decide) (by decide)
  unfold okC
  rw [show ((⟨#[4, 77]⟩ : ByteArray) ++ repS (⟨#[121]⟩ : ByteArray) 1100).data.toList = 4 :: 77 :: (repS (⟨#[121]⟩ : ByteArray) 1100).data.toList from by simp, h]
  rfl
theorem ok10 : okC ((⟨#[4, 76]⟩ : ByteArray) ++ repS (⟨#[121]⟩ : ByteArray) 1101) = false := by
  have h := ok_long 1101 4 76 (repS (⟨#[121]⟩ : ByteArray) 1101).data.toList (by decide) (by rw [toList_len, repS_size]; rfl) (by rw [toList_len, repS_size]; decide) (by decide)
  unfold okC
  rw [show ((⟨#[4, 76]⟩ : ByteArray) ++ repS (⟨#[121]⟩ : ByteArray) 1101).data.toList = 4 :: 76 :: (repS (⟨#[121]⟩ : ByteArray) 1101).data.toList from by simp, h]
  rfl
theorem rep1101 : blockB (1 * 1) [repS (⟨#[122]⟩ : ByteArray) 1101] = false := by
  unfold blockB big
  simp [repS_size]
  decide
theorem fits11 (lost kr kc : Nat) (h : setsB 1 1 lost kr kc = false) : PureF Tryd.prog 40 #[.agg #[.int .i64 1, .int .i64 1], .int .u64 lost, .int .u64 kr, .int .u64 kc] (.bool false) := by
  have h2 := fits_ok 1 1 lost kr kc shp11
  rw [h] at h2
  exact h2
theorem rep_y {W : World} (hg : Good W) (C : ByteArray) (hC : C.size ≤ 2000) (h : okC C = true) : Calls Tryd.prog 32 #[.string C] W fun e w' => e = .returned (.int .i64 0) ∧ Ext W w' := by
  have := repaired_c hg C hC
  rw [h] at this; exact this
theorem rep_n {W : World} (hg : Good W) (C : ByteArray) (hC : C.size ≤ 2000) (h : okC C = false) : Calls Tryd.prog 32 #[.string C] W fun e w' => e = .returned (.int .i64 5) ∧ Ext W w' := by
  have := repaired_c hg C hC
  rw [h] at this; exact this
set_option maxHeartbeats 8000000 in
theorem known_c {W : World} (hg : Good W) : Calls Tryd.prog 9 #[] W fun e w' => e = .returned (.bool true) ∧ Ext W w' := by
  refine v_reads (args := []) TTok FFok Tryd.func9 rfl rfl ?_
  have hp := Hp.nil W
  conv => whnf
  refine VSeq.mk fun Kq hKq => ?_
  conv => whnf
  refine hKq _ _ _ (V.Sub.refl _) ?_
  clear hKq Kq
  conv => whnf
  refine VSeq.mk fun Kq hKq => ?_
  conv => whnf
  refine hKq _ _ _ (V.Sub.refl _) ?_
  clear hKq Kq
  conv => whnf
  refine VSeq.mk fun Kq hKq => ?_
  conv => whnf
  refine VSeq.mk fun Kq hKq => ?_
  conv => whnf
  refine hKq _ _ _ (V.Sub.refl _) ?_
  clear hKq Kq
  conv => whnf
  have hp := hp.knil 9 1
  refine ⟨fun m l w => ∃ (i : Nat) (u : Value), m + i = 48 ∧ l = [(1, .v u), (33, .v (.int .i64 i))] ∧ HpM [] W w [row 9 1 u i (sw (bigL i))],
    ⟨48, _, ⟨0, _, rfl, rfl, hp⟩, sub_cons rfl (sub_cons rfl sub_nil)⟩, ?_⟩
  clear hp
  repeat clear hp
  rintro m _ w ⟨i, u, hm, rfl, hp⟩
  conv => whnf
  refine VSeq.mk fun Kq hKq => ?_
  conv => whnf
  refine hKq _ _ _ (V.Sub.refl _) ?_
  clear hKq Kq
  conv => whnf
  refine VSeq.mk fun Kq hKq => ?_
  conv => whnf
  refine ⟨fun hlt => ?_, fun hlt => ?_⟩
  · have hlt := of_decide_eq_true hlt
    conv => whnf
    refine hKq _ _ _ (V.Sub.refl _) ?_
    clear hKq Kq
    conv => whnf
    refine VSeq.mk fun Kq hKq => ?_
    conv => whnf
    refine VSeq.mk fun Kq hKq => ?_
    conv => whnf
    refine hKq _ _ _ (V.Sub.refl _) ?_
    clear hKq Kq
    conv => whnf
    refine And.intro (by omega) ?_
    conv => whnf
    refine And.intro (by omega) ?_
    conv => whnf
    refine ⟨.string ⟨#[UInt8.ofNat (65 + i)]⟩, w, chr_run i (by omega) w, ?_⟩
    conv => whnf
    refine And.intro (by omega) ?_
    conv => whnf
    refine And.intro (by omega) ?_
    conv => whnf
    rw [show (1100 - (i : Int) % 3) = ((1100 - i % 3 : Nat) : Int) by omega]
    refine PureF.use (Repeat_p ⟨#[UInt8.ofNat (65 + i)]⟩ (1100 - i % 3) (by show 1 * _ ≤ _; omega) (by omega)) fun w hx => ?_
    try (have hp := hp.call hx)
    conv => whnf
    rw [show repS ⟨#[UInt8.ofNat (65 + i)]⟩ (1100 - i % 3) = bigS i from rfl]
    refine hp.kmade ([.string (bigS i)]) 9 (fun b => .slice (some ⟨b, 0, none⟩) 1 1) (by kernel_rfl) fun tb w hp hx => ?_
    conv => whnf
    refine hp.kapp sl22 1 rfl (Blk.src TTok (hp.get (i := 0) rfl) rfl rfl (by intro u hu; simp at hu; subst hu; rfl)) (by omega) (by unfold maxLen; omega) fun v3 w hp => ?_
    simp only [List.set_cons_zero, List.set_cons_succ] at hp
    have hp := hp.tail
    change HpM [] W w (row 9 1 v3 (i + 1) (sw (bigL i) ++ sw [bigS i]) :: _) at hp
    rw [← sw_app, ← bigL_succ] at hp
    conv => whnf
    refine hKq _ _ _ (V.Sub.refl _) ?_
    clear hKq Kq
    conv => whnf
    refine And.intro (by omega) ?_
    conv => whnf
    exact ⟨m - 1, _, by omega, ⟨i + 1, v3, by omega, rfl, hp⟩, sub_cons rfl (sub_cons rfl sub_nil)⟩
  · have hlt := of_decide_eq_false hlt
    conv => whnf
    clear hKq Kq
    refine hKq _ _ _ (V.Sub.refl _) ?_
    clear hKq Kq
    conv => whnf
    refine VSeq.mk fun Kq hKq => ?_
    conv => whnf
    have h48 : i = 48 := by omega
    clear hlt hm
    obtain ⟨g1, c1, rfl⟩ := row_form (hp.get (i := 0) rfl) (by omega)
    rw [show bigL i = bigL 48 by rw [h48]] at hp
    have hbl := bigL_len 48
    have hbs := bigL_size 48
    have hrep := big_rep
    have hbk : blockB (6 * 8) (bigL 48) = true := block_of hbl hbs
    have hcl := coversB_len 6 8 (bigL 48)
    have hcz := coversB_size 6 8 (bigL 48) hbs
    generalize bigL 48 = big at hbl hbs hrep hbk hcl hcz hp
    obtain rfl : i = big.length := by omega
    refine (Cover_c 6 8 shp68 big (SLv.of_row (hp.get (i := 0) rfl)) hbk).mono ?_
    rintro e w ⟨u, rfl, va, vb, rfl, hq⟩
    refine ⟨_, rfl, ?_⟩
    have hp := hp.join hq
    clear hq
    obtain ⟨pa, ca, rfl⟩ := row_shape (hp.get (i := 0) rfl)
    obtain ⟨pb, cb, rfl⟩ := row_shape (hp.get (i := 1) rfl)
    have hsa : SLv w (.slice pa 6 ca) (sw ((coversB 6 8 big).take 6)) := SLv.of_row (hp.get (i := 0) rfl)
    have hsb : SLv w (.slice pb 8 cb) (sw ((coversB 6 8 big).drop 6)) := SLv.of_row (hp.get (i := 1) rfl)
    have hsz : ∀ q ∈ (coversB 6 8 big).take 6 ++ (coversB 6 8 big).drop 6, q.size ≤ 1048576 := by
      rw [List.take_append_drop]
      exact fun q hq => by have := hcz q hq; omega
    have hrp := Repair_c (hg.ext hp.ext) 6 8 35253226045953 63 0 shp68 (by decide) _ _ _ big _ _ (SLv.of_row (hp.get (i := 2) rfl)) hsa hsb hbk (by rw [List.length_take]; omega) (by rw [List.length_drop]; omega) hsz
    rw [hrep] at hrp
    conv => whnf
    refine hKq _ _ _ (V.Sub.refl _) ?_
    clear hKq Kq
    conv => whnf
    refine VSeq.mk fun Kq hKq => ?_
    conv => whnf
    refine hKq _ _ _ (V.Sub.refl _) ?_
    clear hKq Kq
    conv => whnf
    refine VSeq.mk fun Kq hKq => ?_
    conv => whnf
    refine hrp.mono ?_
    rintro e w ⟨u, rfl, v2, rfl, hq⟩
    refine ⟨_, rfl, ?_⟩
    have hp := hp.join hq
    clear hq hrp hsa hsb
    obtain ⟨p2, c2, rfl⟩ := row_shape (hp.get (i := 0) rfl)
    rw [big_left]
    conv => whnf
    refine hKq _ _ _ (V.Sub.refl _) ?_
    clear hKq Kq
    conv => whnf
    refine VSeq.mk fun Kq hKq => ?_
    conv => whnf
    have hst := Stuck_c (hg.ext hp.ext) 6 8 281474976710655 63 255 shp68 (by decide)
    rw [big_stuck] at hst
    refine V.CallsUse (hst) fun w hx => ?_
    try (have hp := hp.call hx)
    conv => whnf
    refine hKq _ _ _ (V.Sub.refl _) ?_
    clear hKq Kq
    conv => whnf
    refine VSeq.mk fun Kq hKq => ?_
    conv => whnf
    refine VSeq.mk fun Kq hKq => ?_
    conv => whnf
    refine VSeq.mk fun Kq hKq => ?_
    conv => whnf
    refine hKq _ _ _ (V.Sub.refl _) ?_
    clear hKq Kq
    conv => whnf
    refine VSeq.mk fun Kq hKq => ?_
    conv => whnf
    refine And.intro (fun h => absurd (of_decide_eq_true h) ((by omega))) (fun _ => ?_)
    conv => whnf
    refine hKq _ _ _ (V.Sub.refl _) ?_
    clear hKq Kq
    conv => whnf
    refine VSeq.mk fun Kq hKq => ?_
    conv => whnf
    refine And.intro (fun h => absurd (of_decide_eq_true h) ((by omega))) (fun _ => ?_)
    conv => whnf
    refine hKq _ _ _ (V.Sub.refl _) ?_
    clear hKq Kq
    conv => whnf
    refine VSeq.mk fun Kq hKq => ?_
    conv => whnf
    refine And.intro (fun h => absurd (of_decide_eq_true h) ((by omega))) (fun _ => ?_)
    conv => whnf
    have hsm := Same_c big big (SLv.of_row (hp.get (i := 0) rfl)) (SLv.of_row (hp.get (i := 3) rfl)) (by omega) (by omega)
    rw [decide_eq_true rfl] at hsm
    refine V.CallsUse (hsm) fun w hx => ?_
    try (have hp := hp.call hx)
    conv => whnf
    refine hKq _ _ _ (V.Sub.refl _) ?_
    clear hKq Kq
    conv => whnf
    refine VSeq.mk fun Kq hKq => ?_
    conv => whnf
    clear hsm hst
    refine And.intro (fun h => by cases h) (fun _ => ?_)
    conv => whnf
    refine hKq _ _ _ (V.Sub.refl _) ?_
    clear hKq Kq
    conv => whnf
    refine And.intro (fun h => absurd (of_decide_eq_true h) ((by omega))) (fun _ => ?_)
    conv => whnf
    refine hKq _ _ _ (V.Sub.refl _) ?_
    clear hKq Kq
    conv => whnf
    refine And.intro (fun h => absurd (of_decide_eq_true h) ((by omega))) (fun _ => ?_)
    conv => whnf
    refine hKq _ _ _ (V.Sub.refl _) ?_
    clear hKq Kq
    conv => whnf
    refine VSeq.mk fun Kq hKq => ?_
    conv => whnf
    refine hKq _ _ _ (V.Sub.refl _) ?_
    clear hKq Kq
    conv => whnf
    refine VSeq.mk fun Kq hKq => ?_
    conv => whnf
    refine VSeq.mk fun Kq hKq => ?_
    conv => whnf
    refine V.CallsUse (rep_y (hg.ext hp.ext) _ (by decide) ok1) fun w hx => ?_
    try (have hp := hp.call hx)
    conv => whnf
    refine hKq _ _ _ (V.Sub.refl _) ?_
    clear hKq Kq
    conv => whnf
    refine VSeq.mk fun Kq hKq => ?_
    conv => whnf
    refine And.intro (fun _ => ?_) (fun h => absurd ((by omega)) (of_decide_eq_false h))
    conv => whnf
    refine V.CallsUse (rep_n (hg.ext hp.ext) _ (by decide) ok2) fun w hx => ?_
    try (have hp := hp.call hx)
    conv => whnf
    refine hKq _ _ _ (V.Sub.refl _) ?_
    clear hKq Kq
    conv => whnf
    refine VSeq.mk fun Kq hKq => ?_
    conv => whnf
    refine And.intro (fun _ => ?_) (fun h => absurd ((by omega)) (of_decide_eq_false h))
    conv => whnf
    refine V.CallsUse (rep_y (hg.ext hp.ext) _ (by decide) ok3) fun w hx => ?_
    try (have hp := hp.call hx)
    conv => whnf
    refine hKq _ _ _ (V.Sub.refl _) ?_
    clear hKq Kq
    conv => whnf
    refine VSeq.mk fun Kq hKq => ?_
    conv => whnf
    refine And.intro (fun _ => ?_) (fun h => absurd ((by omega)) (of_decide_eq_false h))
    conv => whnf
    refine V.CallsUse (rep_y (hg.ext hp.ext) _ (by decide) ok4) fun w hx => ?_
    try (have hp := hp.call hx)
    conv => whnf
    refine hKq _ _ _ (V.Sub.refl _) ?_
    clear hKq Kq
    conv => whnf
    refine VSeq.mk fun Kq hKq => ?_
    conv => whnf
    refine And.intro (fun _ => ?_) (fun h => absurd ((by omega)) (of_decide_eq_false h))
    conv => whnf
    refine V.CallsUse (rep_n (hg.ext hp.ext) _ (by decide) ok5) fun w hx => ?_
    try (have hp := hp.call hx)
    conv => whnf
    refine hKq _ _ _ (V.Sub.refl _) ?_
    clear hKq Kq
    conv => whnf
    refine VSeq.mk fun Kq hKq => ?_
    conv => whnf
    refine And.intro (fun _ => ?_) (fun h => absurd ((by omega)) (of_decide_eq_false h))
    conv => whnf
    refine V.CallsUse (rep_y (hg.ext hp.ext) _ (by decide) ok6) fun w hx => ?_
    try (have hp := hp.call hx)
    conv => whnf
    refine hKq _ _ _ (V.Sub.refl _) ?_
    clear hKq Kq
    conv => whnf
    refine VSeq.mk fun Kq hKq => ?_
    conv => whnf
    refine And.intro (fun _ => ?_) (fun h => absurd ((by omega)) (of_decide_eq_false h))
    conv => whnf
    refine V.CallsUse (rep_y (hg.ext hp.ext) _ (by decide) ok7) fun w hx => ?_
    try (have hp := hp.call hx)
    conv => whnf
    refine hKq _ _ _ (V.Sub.refl _) ?_
    clear hKq Kq
    conv => whnf
    refine VSeq.mk fun Kq hKq => ?_
    conv => whnf
    refine And.intro (fun _ => ?_) (fun h => absurd ((by omega)) (of_decide_eq_false h))
    conv => whnf
    refine V.CallsUse (rep_n (hg.ext hp.ext) _ (by decide) ok8) fun w hx => ?_
    try (have hp := hp.call hx)
    conv => whnf
    refine hKq _ _ _ (V.Sub.refl _) ?_
    clear hKq Kq
    conv => whnf
    refine VSeq.mk fun Kq hKq => ?_
    conv => whnf
    refine And.intro (fun _ => ?_) (fun h => absurd ((by omega)) (of_decide_eq_false h))
    conv => whnf
    refine PureF.use (Repeat_p (⟨#[121]⟩ : ByteArray) 1100 (by decide) (by decide)) fun w hx => ?_
    try (have hp := hp.call hx)
    conv => whnf
    refine And.intro (by rw [repS_size]; decide) ?_
    conv => whnf
    refine V.CallsUse (rep_y (hg.ext hp.ext) _ (by rw [ByteArray.size_append, repS_size]; decide) ok9) fun w hx => ?_
    try (have hp := hp.call hx)
    conv => whnf
    refine hKq _ _ _ (V.Sub.refl _) ?_
    clear hKq Kq
    conv => whnf
    refine And.intro (fun _ => ?_) (fun h => absurd ((by omega)) (of_decide_eq_false h))
    conv => whnf
    refine PureF.use (Repeat_p (⟨#[121]⟩ : ByteArray) 1101 (by decide) (by decide)) fun w hx => ?_
    try (have hp := hp.call hx)
    conv => whnf
    refine And.intro (by rw [repS_size]; decide) ?_
    conv => whnf
    refine V.CallsUse (rep_n (hg.ext hp.ext) _ (by rw [ByteArray.size_append, repS_size]; decide) ok10) fun w hx => ?_
    try (have hp := hp.call hx)
    conv => whnf
    refine hKq _ _ _ (V.Sub.refl _) ?_
    clear hKq Kq
    conv => whnf
    refine VSeq.mk fun Kq hKq => ?_
    conv => whnf
    refine V.CallsUse (Cover_arg 0 1 (by unfold Shp; omega) [] SLv.nil) fun w hx => ?_
    try (have hp := hp.call hx)
    conv => whnf
    refine hKq _ _ _ (V.Sub.refl _) ?_
    clear hKq Kq
    conv => whnf
    refine VSeq.mk fun Kq hKq => ?_
    conv => whnf
    refine V.CallsUse (Cover_arg 1 9 (by unfold Shp; omega) [] SLv.nil) fun w hx => ?_
    try (have hp := hp.call hx)
    conv => whnf
    refine hKq _ _ _ (V.Sub.refl _) ?_
    clear hKq Kq
    conv => whnf
    refine VSeq.mk fun Kq hKq => ?_
    conv => whnf
    refine PureF.use (Repeat_p (⟨#[122]⟩ : ByteArray) 1101 (by decide) (by decide)) fun w hx => ?_
    try (have hp := hp.call hx)
    conv => whnf
    refine hp.kmadeR (sw [repS (⟨#[122]⟩ : ByteArray) 1101]) 9 1 1 rfl (by decide) (by kernel_rfl) fun q1 w hp hx => ?_
    conv => whnf
    refine V.CallsUse (Cover_grid 1 1 shp11 [repS (⟨#[122]⟩ : ByteArray) 1101] (SLv.of_row (hp.get (i := 0) rfl)) rep1101) fun w hx => ?_
    try (have hp := hp.call hx)
    conv => whnf
    refine hKq _ _ _ (V.Sub.refl _) ?_
    clear hKq Kq
    conv => whnf
    refine VSeq.mk fun Kq hKq => ?_
    conv => whnf
    refine V.CallsUse (Stuck_no 1 1 1 1 0 2 0 (of_ok 1 1 shp11) (fits11 0 2 0 (by decide))) fun w hx => ?_
    try (have hp := hp.call hx)
    conv => whnf
    refine hKq _ _ _ (V.Sub.refl _) ?_
    clear hKq Kq
    conv => whnf
    refine VSeq.mk fun Kq hKq => ?_
    conv => whnf
    refine V.CallsUse (Stuck_no 1 1 1 1 0 0 2 (of_ok 1 1 shp11) (fits11 0 0 2 (by decide))) fun w hx => ?_
    try (have hp := hp.call hx)
    conv => whnf
    refine hKq _ _ _ (V.Sub.refl _) ?_
    clear hKq Kq
    conv => whnf
    refine VSeq.mk fun Kq hKq => ?_
    conv => whnf
    refine V.CallsUse (Repair_arg 1 1 1 1 2 0 0 _ _ _ ⟨_, _, _, rfl⟩ ⟨_, _, _, rfl⟩ ⟨_, _, _, rfl⟩ (of_ok 1 1 shp11) (fits11 2 0 0 (by decide))) fun w hx => ?_
    try (have hp := hp.call hx)
    conv => whnf
    refine hKq _ _ _ (V.Sub.refl _) ?_
    clear hKq Kq
    conv => whnf
    refine VSeq.mk fun Kq hKq => ?_
    conv => whnf
    refine hp.kmadeR (sw [⟨#[]⟩]) 9 1 1 rfl (by decide) (by kernel_rfl) fun q2 w hp hx => ?_
    conv => whnf
    refine hp.kmadeR (sw [⟨#[]⟩]) 9 1 1 rfl (by decide) (by kernel_rfl) fun q3 w hp hx => ?_
    conv => whnf
    refine V.CallsUse (Repair_grid 1 1 1 0 0 shp11 (by decide) _ _ _ [⟨#[]⟩] [] [⟨#[]⟩] (SLv.of_row (hp.get (i := 1) rfl)) SLv.nil (SLv.of_row (hp.get (i := 0) rfl)) (by decide) (by decide) (by decide)) fun w hx => ?_
    try (have hp := hp.call hx)
    conv => whnf
    refine hKq _ _ _ (V.Sub.refl _) ?_
    clear hKq Kq
    conv => whnf
    refine VSeq.mk fun Kq hKq => ?_
    conv => whnf
    refine VSeq.mk fun Kq hKq => ?_
    conv => whnf
    refine hKq _ _ _ (V.Sub.refl _) ?_
    clear hKq Kq
    conv => whnf
    refine VSeq.mk fun Kq hKq => ?_
    conv => whnf
    refine V.CallsUse (works_c (hg.ext hp.ext)) fun w hx => ?_
    try (have hp := hp.call hx)
    conv => whnf
    refine hKq _ _ _ (V.Sub.refl _) ?_
    clear hKq Kq
    conv => whnf
    refine VSeq.mk fun Kq hKq => ?_
    conv => whnf
    refine And.intro (fun _ => ?_) (fun h => by cases h)
    conv => whnf
    refine hKq _ _ _ (V.Sub.refl _) ?_
    clear hKq Kq
    conv => whnf
    refine VSeq.mk fun Kq hKq => ?_
    conv => whnf
    refine And.intro (fun _ => ?_) (fun h => absurd ((by omega)) (of_decide_eq_false h))
    conv => whnf
    refine hKq _ _ _ (V.Sub.refl _) ?_
    clear hKq Kq
    conv => whnf
    refine VSeq.mk fun Kq hKq => ?_
    conv => whnf
    refine And.intro (fun _ => ?_) (fun h => absurd ((by omega)) (of_decide_eq_false h))
    conv => whnf
    refine hKq _ _ _ (V.Sub.refl _) ?_
    clear hKq Kq
    conv => whnf
    refine VSeq.mk fun Kq hKq => ?_
    conv => whnf
    refine And.intro (fun _ => ?_) (fun h => absurd ((by omega)) (of_decide_eq_false h))
    conv => whnf
    refine hKq _ _ _ (V.Sub.refl _) ?_
    clear hKq Kq
    conv => whnf
    refine VSeq.mk fun Kq hKq => ?_
    conv => whnf
    refine And.intro (fun _ => ?_) (fun h => absurd ((by omega)) (of_decide_eq_false h))
    conv => whnf
    refine hKq _ _ _ (V.Sub.refl _) ?_
    clear hKq Kq
    conv => whnf
    refine VSeq.mk fun Kq hKq => ?_
    conv => whnf
    refine And.intro (fun _ => ?_) (fun h => absurd ((by omega)) (of_decide_eq_false h))
    conv => whnf
    refine hKq _ _ _ (V.Sub.refl _) ?_
    clear hKq Kq
    conv => whnf
    refine VSeq.mk fun Kq hKq => ?_
    conv => whnf
    refine And.intro (fun _ => ?_) (fun h => absurd ((by omega)) (of_decide_eq_false h))
    conv => whnf
    refine hKq _ _ _ (V.Sub.refl _) ?_
    clear hKq Kq
    conv => whnf
    refine And.intro (fun _ => ?_) (fun h => absurd ((by omega)) (of_decide_eq_false h))
    conv => whnf
    refine hKq _ _ _ (V.Sub.refl _) ?_
    clear hKq Kq
    conv => whnf
    exact ⟨rfl, hp.ext⟩
end Go.Proofs.YtpiilfamfinieaaDoor
