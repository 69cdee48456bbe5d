/- Chapter 12: plain laws of what stays. -/
/- Chapter 12: slices.Contains over numbers. -/
/- Chapter 12: tools for the laws over events: slices cut, results. -/
/- Chapter 12: plain laws of how a watch ends. -/
/- Chapter 12: a block that is written while lists of older worlds are read. -/
/- Chapter 12: the layer does something. -/
/- Chapter 12: the layer does something, walked. -/
import Derived.Test.YtgkhcgiggjijlaaGreatGX12
import Derived.Test.YtgkhcgiggjijlaaGreatGX08
import Derived.Test.YtgkhcgiggjijlaaGreatGX09
namespace Go.Proofs.YtgkhcgiggjijlaaGreat
set_option linter.unusedSimpArgs false
set_option linter.unusedVariables false
set_option maxRecDepth 100000
open Go.RowKit V
set_option maxHeartbeats 1600000
theorem hearW_til (x : Wt) (now : Int) (h : Hop3) : (hearW x now h).1.til = x.til ∨ (h.2.2.k = 2 ∧ h.2.2.id ∈ x.asked ∧ (hearW x now h).1.til = now + 30000) := by
  obtain ⟨_, _, _, _, h5, _⟩ := atW_same x now
  unfold hearW
  dsimp only
  split
  · exact .inl h5
  · rename_i hg
    split
    · exact .inl h5
    · split
      · rename_i hk
        split
        · rename_i r hr
          refine .inr ⟨hk, ?_, rfl⟩
          have := (afterL_sub hr).2
          have hl := atW_live (x := x) (now := now) (by cases hq : (atW x now).gone with
            | false => rfl
            | true => exact absurd hq hg)
          rw [hl.1] at this
          exact this
        · exact .inl h5
      · exact .inl h5
theorem timeW_same (x : Wt) (now : Int) : (timeW x now).1.now = now ∧ (timeW x now).1.til = x.til ∧ (timeW x now).1.noise = x.noise ∧ (timeW x now).1.gone = (x.gone || decide (x.til ≤ now)) ∧ ((timeW x now).1.ser = x.ser ∨ (timeW x now).1.ser = x.ser + 1) := by
  obtain ⟨_, _, h3, _, h5, h6, h7, _, h9⟩ := atW_same x now
  unfold timeW
  split
  · exact ⟨h3, h5, h7, h9, .inr (congrArg (· + 1) h6)⟩
  · exact ⟨h3, h5, h7, h9, .inl h6⟩
theorem timeW_out (x : Wt) (now : Int) : (timeW x now).2.length ≤ 1 ∧ ((timeW x now).1.gone = true → (timeW x now).2 = []) := by
  unfold timeW
  split
  · rename_i h
    refine ⟨Nat.le_refl 1, fun hg => ?_⟩
    unfold asksB at h
    have hg : (atW x now).gone = true := hg
    rw [hg, Bool.not_true, Bool.false_and] at h
    cases h
  · exact ⟨Nat.zero_le _, fun _ => rfl⟩
/-- a watch of the law ConsentStays behind i steps -/
structure Sy (i : Nat) (y : Wt) : Prop where
  v : Wv y
  s : Ws y
  now : y.now ≤ 300000 + 9000 * (i : Int)
theorem Sy.ok {i : Nat} {y : Wt} (h : Sy i y) : y.Ok := h.s.ok h.v
theorem Dr.sy {B : Nat} {y : Wt} (h : Dr B y) (hB : B ≤ 30) : Sy 0 y := ⟨h.v, h.s, by have := h.now; omega⟩
theorem Sy.more {i j : Nat} {y : Wt} (h : Sy i y) (hj : i ≤ j) : Sy j y := ⟨h.v, h.s, by have := h.now; omega⟩
/-- what a step that is no error does -/
structure StayR (i : Nat) (y v : Wt) (t : Int) (o : List Hop3) (lg : Prop) : Prop where
  sy : Sy (i + 1) v
  now : v.now = t
  ser : v.ser = y.ser ∨ v.ser = y.ser + 1
  gone : v.gone = (y.gone || decide (y.til ≤ t))
  noise : v.noise = y.noise
  len : o.length ≤ 1
  til : v.til = y.til ∨ (lg ∧ v.til = t + 30000)
  out : v.gone = true → o = []
section
variable {i : Nat} {y : Wt} {now : Int} (h : Sy i y) (hi : i ≤ 1000) (h1 : y.now ≤ now) (h2 : now ≤ y.now + 8999)
include h hi h1 h2
theorem Sy.le : now ≤ 1099511627776 := by have := h.now; omega
theorem Sy.st : startN y now = 0 := startN_of (wtB_iff.2 h.v) (inB_of h1 (h.le hi h1 h2))
theorem Sy.time : ∃ v o, timeE y now = (v, o, 0) ∧ StayR i y v now o False := by
  have hn := h.now
  obtain ⟨e1, e2, e3, e4, e5⟩ := timeW_same y now
  obtain ⟨k1, k2⟩ := timeW_out y now
  refine ⟨_, _, by unfold timeE; rw [if_pos (h.st hi h1 h2)], ⟨⟨timeW_v h.v h1 (h.le hi h1 h2), timeW_s h.s, by rw [e1]; omega⟩, e1, e5, e4, e3, k1, .inl e2, k2⟩⟩
theorem Sy.rest (s : ByteArray) (hs : SzS s) : ∃ v e, restE y now s = (v, e) ∧ ((e = 0 ∧ StayR i y v now [] False) ∨ (e ≠ 0 ∧ v.Ok ∧ (e = 8 → y.til ≤ now ∨ y.gone = true))) := by
  have hn := h.now
  have hok := restE_ok h.ok now hs
  refine ⟨(restE y now s).1, (restE y now s).2, rfl, ?_⟩
  unfold restE at hok ⊢
  rw [if_pos (h.st hi h1 h2)] at hok ⊢
  by_cases he : (restW y now s).2 = 0
  · obtain ⟨e1, _, e3, e4, e5, e6⟩ := restW_same he
    exact .inl ⟨he, ⟨restW_v h.v h1 (h.le hi h1 h2) he, restW_s h.s hs, by rw [e1]; omega⟩, e1, .inl e3, e5, e4, Nat.zero_le _, .inl e6, fun _ => rfl⟩
  · refine .inr ⟨he, hok, fun h8 => ?_⟩
    unfold restW at h8
    dsimp only at h8
    split at h8
    · rename_i hg
      rw [(atW_same y now).2.2.2.2.2.2.2.2] at hg
      rcases Bool.or_eq_true_iff.1 hg with hg | hg
      · exact .inr hg
      · exact .inl (of_decide_eq_true hg)
    · split at h8
      · cases h8
      · cases h8
theorem Sy.sw (a b : Ad) (ha : a.Ok) (hb : b.Ok) : ∃ v e, swE y now a b = (v, e) ∧ ((e = 0 ∧ StayR i y v now [] True ∧ v.til = now + 30000) ∨ (e ≠ 0 ∧ v.Ok ∧ (e = 8 → y.til ≤ now ∨ y.gone = true))) := by
  have hn := h.now
  have hok := swE_ok h.ok now ha hb
  refine ⟨(swE y now a b).1, (swE y now a b).2, rfl, ?_⟩
  unfold swE at hok ⊢
  rw [if_pos (h.st hi h1 h2)] at hok ⊢
  by_cases he : (swW y now a b).2 = 0
  · obtain ⟨e1, _, e3, e4, e5, e6⟩ := swW_same he
    exact .inl ⟨he, ⟨⟨swW_v h.v h1 (h.le hi h1 h2) he, swW_s h.s ha hb, by rw [e1]; omega⟩, e1, .inl e3, e5, e4, Nat.zero_le _, .inr ⟨trivial, e6⟩, fun _ => rfl⟩, e6⟩
  · refine .inr ⟨he, hok, fun h8 => ?_⟩
    unfold swW at h8
    dsimp only at h8
    split at h8
    · rename_i hg
      rw [(atW_same y now).2.2.2.2.2.2.2.2] at hg
      rcases Bool.or_eq_true_iff.1 hg with hg | hg
      · exact .inr hg
      · exact .inl (of_decide_eq_true hg)
    · split at h8
      · cases h8
      · cases h8
end
set_option maxHeartbeats 1600000
theorem idxJ_mem {k : Int} {al : List Int} : 0 ≤ idxJ k al ↔ k ∈ al := by
  unfold idxJ
  cases h : al.findIdx? (isB k) with
  | none =>
    constructor
    · intro h1; exact absurd h1 (by decide)
    · intro hm
      have := List.findIdx?_eq_none_iff.1 h k hm
      unfold isB at this
      rw [decide_eq_true rfl] at this
      cases this
  | some i =>
    constructor
    · intro _
      obtain ⟨hlt, hb, _⟩ := List.findIdx?_eq_some_iff_getElem.1 h
      have := of_decide_eq_true hb
      rw [← this]; exact List.getElem_mem hlt
    · intro _; exact Int.natCast_nonneg i
theorem Idx_c {W : World} {v : Value} {al : List Int} (k : Int) (hml : al.length ≤ maxLen) (hv : SLv W v (iv al)) :
    Calls Tryz.prog 55 #[v, .int .i64 k] W fun e w' => e = .returned (.int .i64 (idxJ k al)) ∧ Ext W w' := by
  have hsl : (iv al).length = al.length := List.length_map _
  unfold maxLen at hml
  obtain ⟨p, c, rfl⟩ := hv.shape
  rw [hsl] at hv ⊢
  refine v_reads (args := [.slice p al.length c, .int .i64 k]) TTok FFok Tryz.func55 rfl rfl ?_
  conv => whnf
  refine VSeq.mk fun Kq hKq => ?_
  conv => whnf
  refine hKq _ _ _ (.refl _) ?_
  clear hKq Kq
  conv => whnf
  refine VSeq.mk fun Kq hKq => ?_
  conv => whnf
  refine VSeq.mk fun Kq hKq => ?_
  conv => whnf
  refine hKq _ _ _ (.refl _) ?_
  clear hKq Kq
  conv => whnf
  have hp := Hp.nil W
  skip
  refine ⟨fun mm e w' => ∃ (i : Nat), mm + i = al.length ∧ e = [(0, .v (.slice p al.length c)), (1, .v (.int .i64 k)), (7, .v (.int .i64 al.length)), (8, .v (.int .i64 i))] ∧ (∀ b ∈ al.take i, isB k b = false) ∧ HpM [] W w' [],
    ⟨al.length, _, ⟨0, by omega, rfl, by simp, hp⟩, sub_cons rfl (sub_cons rfl (sub_cons rfl (sub_cons rfl sub_nil)))⟩, ?_⟩
  clear hp
  repeat clear hp
  rintro mm _ w ⟨i, hmm, rfl, hn, hp⟩
  conv => whnf
  refine VSeq.mk fun Kq hKq => ?_
  conv => whnf
  refine hKq _ _ _ (.refl _) ?_
  clear hKq Kq
  conv => whnf
  refine VSeq.mk fun Kq hKq => ?_
  conv => whnf
  skip
  refine ⟨fun hlt => ?_, fun hlt => ?_⟩
  · have hlt := of_decide_eq_true hlt
    conv => whnf
    refine hKq _ _ _ (.refl _) ?_
    clear hKq Kq
    conv => whnf
    refine VSeq.mk fun Kq hKq => ?_
    conv => whnf
    refine VSeq.mk fun Kq hKq => ?_
    conv => whnf
    refine hKq _ _ _ (.refl _) ?_
    clear hKq Kq
    conv => whnf
    refine VSeq.mk fun Kq hKq => ?_
    conv => whnf
    obtain ⟨a, ha⟩ : ∃ a, al[i]? = some a := ⟨al[i]'(by omega), List.getElem?_eq_getElem (by omega)⟩
    obtain ⟨g, off, rfl, hld⟩ := (hv.ext hp.ext).at (j := i) (x := .int .i64 a) (by rw [List.getElem?_map, ha]; rfl)
    rw [Nat.add_comm] at hld
    skip
    refine ⟨i, ⟨by first | rfl | omega, by show i < al.length; omega⟩, ?_⟩
    conv => whnf
    refine ⟨_, _, run_ld TTok rfl hld, ?_⟩
    conv => whnf
    refine hKq _ _ _ (.refl _) ?_
    clear hKq Kq
    conv => whnf
    skip
    refine ⟨fun hq => ?_, fun hq => ?_⟩
    · have hq := of_decide_eq_true hq
      conv => whnf
      refine VSeq.mk fun Kq hKq => ?_
      conv => whnf
      refine hKq _ _ _ (.refl _) ?_
      clear hKq Kq
      conv => whnf
      have hb : isB k a = true := decide_eq_true hq.symm
      have hI := idxJ_hit ha hb hn
      skip
      exact ⟨by rw [hI]; rfl, hp.ext⟩
    · have hq := of_decide_eq_false hq
      conv => whnf
      refine hKq _ _ _ (.refl _) ?_
      clear hKq Kq
      conv => whnf
      refine Or.inl (And.intro (by omega) ?_)
      conv => whnf
      have hb : isB k a = false := decide_eq_false (fun e => hq e.symm)
      skip
      refine ⟨mm - 1, _, by omega, ⟨i + 1, by omega, rfl, fun b hbm => ?_, hp⟩, sub_cons rfl (sub_cons rfl (sub_cons rfl (sub_cons rfl sub_nil)))⟩
      rw [List.take_add_one, ha] at hbm
      rcases List.mem_append.1 hbm with h | h
      · exact hn b h
      · have : b = a := by simpa using h
        rw [this]; exact hb
  · have hlt := of_decide_eq_false hlt
    conv => whnf
    clear hKq Kq
    refine hKq _ _ _ (.refl _) ?_
    clear hKq Kq
    conv => whnf
    refine VSeq.mk fun Kq hKq => ?_
    conv => whnf
    refine hKq _ _ _ (.refl _) ?_
    clear hKq Kq
    conv => whnf
    obtain rfl : i = al.length := by omega
    rw [List.take_of_length_le (Nat.le_refl _)] at hn
    have hI := idxJ_miss hn
    skip
    exact ⟨by rw [hI]; rfl, hp.ext⟩
theorem Contains_c {W : World} {v : Value} {al : List Int} (k : Int) (hml : al.length ≤ maxLen) (hv : SLv W v (iv al)) :
    Calls Tryz.prog 31 #[v, .int .i64 k] W fun e w' => e = .returned (.bool (decide (k ∈ al))) ∧ Ext W w' := by
  have s1 := fun {W : World} hv => Idx_c (W := W) (v := v) k hml hv
  have hm := @idxJ_mem k al
  obtain ⟨p, c, rfl⟩ := hv.shape
  obtain ⟨J, hJ⟩ : ∃ J, idxJ k al = J := ⟨_, rfl⟩
  rw [hJ] at s1 hm
  clear hJ
  have e : decide (k ∈ al) = decide (0 ≤ J) := by
    by_cases h : k ∈ al
    · rw [decide_eq_true h, decide_eq_true (hm.2 h)]
    · rw [decide_eq_false h, decide_eq_false (fun h2 => h (hm.1 h2))]
  rw [e]
  clear hm e
  refine v_reads (args := [.slice p (iv al).length c, .int .i64 k]) TTok FFok Tryz.func31 rfl rfl ?_
  conv => whnf
  refine VSeq.mk fun Kq hKq => ?_
  conv => whnf
  refine hKq _ _ _ (.refl _) ?_
  clear hKq Kq
  conv => whnf
  refine VSeq.mk fun Kq hKq => ?_
  conv => whnf
  have hp := Hp.nil W
  skip
  refine V.CallsUse (s1 (hv.ext hp.ext)) fun w hx => ?_
  have hp := hp.call hx
  conv => whnf
  (refine hKq _ _ _ (.refl _) ?_; clear hKq Kq; conv => whnf)
  exact ⟨rfl, hp.ext⟩
set_option maxHeartbeats 1600000
theorem ResW.monoW {f : Nat} {args : Array Value} {W : World} {x : Wt} {r : Int} {Q : Ending → World → Prop} (h : Calls Tryz.prog f args W (fun e w' => ∃ u, e = .returned u ∧ ResW W w' u x r))
    (k : ∀ (w' : World) (p : Option Addr) (c : Nat), Ext W w' → SLw W w' (.slice p (iv x.asked).length c) (iv x.asked) → Q (.returned (.tuple #[.agg #[.string x.a.h, .int .i64 x.a.p, .string x.b.h, .int .i64 x.b.p, .int .i64 x.now, .int .i64 x.nxt, .int .i64 x.til, .int .i64 x.ser, .bool x.gone, .string x.noise, .string x.word, .string x.fresh, .slice p (iv x.asked).length c], .int .i64 r])) w') : Calls Tryz.prog f args W Q := by
  refine Calls.mono h ?_
  rintro _ w ⟨_, rfl, v1, rfl, hx, hs1⟩
  obtain ⟨p1, c1, rfl⟩ := hs1.shape
  exact k w p1 c1 hx hs1
theorem ResE.monoW {f : Nat} {args : Array Value} {W : World} {x : Wt} {o : List Hop3} {r : Int} {Q : Ending → World → Prop} (h : Calls Tryz.prog f args W (fun e w' => ∃ u, e = .returned u ∧ ResE W w' u (x, o, r)))
    (k : ∀ (w' : World) (p : Option Addr) (c : Nat) (p2 : Option Addr) (c2 : Nat), Ext W w' → SLw W w' (.slice p (iv x.asked).length c) (iv x.asked) → HRw W w' (.slice p2 o.length c2) o → Q (.returned (.tuple #[.agg #[.string x.a.h, .int .i64 x.a.p, .string x.b.h, .int .i64 x.b.p, .int .i64 x.now, .int .i64 x.nxt, .int .i64 x.til, .int .i64 x.ser, .bool x.gone, .string x.noise, .string x.word, .string x.fresh, .slice p (iv x.asked).length c], .slice p2 o.length c2, .int .i64 r])) w') : Calls Tryz.prog f args W Q := by
  refine Calls.mono h ?_
  rintro _ w ⟨_, rfl, v1, r1, rfl, hx, hs1, hr1⟩
  obtain ⟨p1, c1, rfl⟩ := hs1.shape
  obtain ⟨p2, c2, rfl⟩ := hr1.s.shape
  exact k w p1 c1 p2 c2 hx hs1 hr1
theorem StayR.lg {i : Nat} {y v : Wt} {t : Int} {o : List Hop3} {P Q : Prop} (h : StayR i y v t o P) (hq : P → Q) : StayR i y v t o Q :=
  ⟨h.sy, h.now, h.ser, h.gone, h.noise, h.len, h.til.imp id (fun k => ⟨hq k.1, k.2⟩), h.out⟩
theorem chkW_of {v : Wt} (h : Wv v) : chkW v = 0 := by unfold chkW; rw [wtB_iff.2 h]; rfl
set_option maxHeartbeats 1600000
theorem drafL_til (p : Nat) {s : ByteArray} (h : s.size ≤ 64) (l : List Ev) (hl : l.length ≤ 1000000) : (drafL p s l).til ≤ (drafL p s l).now + 30000 := by
  have step : ∀ {B : Nat} {x : Ev} {y : Wt}, Dr B y → B ≤ 1000000 → y.til ≤ y.now + 30000 → (stepW x y).til ≤ (stepW x y).now + 30000 := by
    intro B x y h hB ht
    have hn := h.now
    have hv0 := h.v.now
    have hm : x.after % 7000 < 7000 := Nat.mod_lt _ (by decide)
    have h1 : y.now ≤ x.now y := by unfold Ev.now; omega
    have h3 : x.now y ≤ 1099511627776 := by unfold Ev.now; omega
    have hst : startN y (x.now y) = 0 := startN_of (wtB_iff.2 h.v) (inB_of h1 h3)
    unfold stepW
    split
    · rename_i he
      unfold stepR at he ⊢
      by_cases c1 : x.what % 8 = 3 ∨ x.what % 8 = 4 ∨ x.what % 8 = 5
      · rw [if_pos c1] at he ⊢
        dsimp only at he ⊢
        have : hearE y (x.now y) (hopE x y) = ((hearW y (x.now y) (hopE x y)).1, (hearW y (x.now y) (hopE x y)).2, 0) := by
          unfold hearE at he ⊢
          rw [if_neg (fun k => k hst)] at he ⊢
          split at he
          · exact absurd he (by decide)
          · rename_i k1
            rw [if_neg k1]
            split at he
            · exact absurd he (by decide)
            · rename_i k2
              rw [if_neg k2]
        rw [this]
        dsimp only
        rw [(hearW_same y (x.now y) (hopE x y)).1]
        rcases hearW_til y (x.now y) (hopE x y) with h5 | ⟨_, _, h5⟩ <;> omega
      · rw [if_neg c1] at he ⊢
        by_cases c2 : x.what % 8 = 6
        · rw [if_pos c2] at he ⊢
          unfold restE at he ⊢
          rw [if_pos hst] at he ⊢
          obtain ⟨e1, _, _, _, _, e6⟩ := restW_same he
          rw [e1, e6]; omega
        · rw [if_neg c2] at he ⊢
          by_cases c3 : x.what % 8 = 7
          · rw [if_pos c3] at he ⊢
            unfold swE at he ⊢
            rw [if_pos hst] at he ⊢
            obtain ⟨e1, _, _, _, _, e6⟩ := swW_same he
            rw [e1, e6]; omega
          · rw [if_neg c3] at he ⊢
            unfold timeE
            rw [if_pos hst]
            dsimp only
            obtain ⟨e1, e2, _⟩ := timeW_same y (x.now y)
            rw [e1, e2]; omega
    · exact ht
  have key : ∀ (l : List Ev) (B : Nat) (y : Wt), B + l.length ≤ 1000000 → Dr B y → y.til ≤ y.now + 30000 → (l.foldl (fun y x => stepW x y) y).til ≤ (l.foldl (fun y x => stepW x y) y).now + 30000 := by
    intro l
    induction l with
    | nil => exact fun B y _ _ h => h
    | cons x l ih =>
      intro B y hB hd ht
      rw [List.length_cons] at hB
      exact ih (B + 1) (stepW x y) (by omega) (stepW_dr hd (by omega)) (step hd (by omega) ht)
  refine key l 0 (drafS p s) (by omega) (drafS_dr p h) ?_
  have hz := nzB_size h
  have hb : newB (endA p) (endB p) (⟨#[119, 120, 121, 122]⟩ : ByteArray) (nzB s) 0 = true := by
    rw [newB_eq, ends_path, wxyz_ok, inB_of (by decide) (by decide), inB_of (by omega) (by omega)]; rfl
  have he : drafS p s = newW (endA p) (endB p) (⟨#[119, 120, 121, 122]⟩ : ByteArray) (nzB s) 0 := by unfold drafS newE; rw [if_pos hb]
  rw [he]
  exact Int.le_refl (0 + 30000)
theorem afterL_not {k : Int} {l r : List Int} (hp : l.Pairwise (· < ·)) (h : afterL k l = some r) : k ∉ r := by
  unfold afterL at h
  cases hi : l.findIdx? (isB k) with
  | none => rw [hi] at h; cases h
  | some i =>
    rw [hi] at h
    have h' : l.drop (i + 1) = r := by simpa using h
    subst h'
    obtain ⟨hlt, hb, _⟩ := List.findIdx?_eq_some_iff_getElem.1 hi
    have hk := of_decide_eq_true hb
    have hd : l.drop i = l[i] :: l.drop (i + 1) := List.drop_eq_getElem_cons hlt
    have hp2 := hp.sublist (List.drop_sublist i l)
    rw [hd, List.pairwise_cons] at hp2
    intro hm
    have := hp2.1 k hm
    omega
theorem afterL_some {k : Int} {l : List Int} (h : k ∈ l) : ∃ r, afterL k l = some r := by
  unfold afterL
  cases hi : l.findIdx? (isB k) with
  | none =>
    have := List.findIdx?_eq_none_iff.1 hi k h
    unfold isB at this
    rw [decide_eq_true rfl] at this
    cases this
  | some i => exact ⟨_, rfl⟩
theorem hear_answer {v : Wt} {t k : Int} {f g m : Ad} (hv : Wv v) (hl : v.gone = false) (h : t < v.til) (hk : k ∈ v.asked) :
    ∃ r, hearW v t (f, g, p2 k m) = ({ v with now := t, asked := r, til := t + 30000 }, []) ∧ k ∉ r := by
  obtain ⟨r, hr⟩ := afterL_some hk
  have hat : atW v t = { v with now := t } := atW_f (by unfold goesB; rw [decide_eq_false (by omega)]; rfl)
  refine ⟨r, ?_, afterL_not hv.asc hr⟩
  unfold hearW
  rw [hat]
  dsimp only
  rw [hl, if_neg (by decide), if_neg (show ¬ (p2 k m).k = 1 from (by show ¬ (2 : Int) = 1; decide)), if_pos (show (p2 k m).k = 2 from rfl)]
  show (match afterL k v.asked with | some r => _ | none => _) = _
  rw [hr]
/-- a watch of the law ConsentEnds behind i rounds -/
structure En (q : Bool) (U N0 : Int) (i : Nat) (y : Wt) (last lid : Int) : Prop where
  v : Wv y
  s : Ws y
  live : y.gone = false
  now : y.now ≤ 300000 + 7000 * (i : Int)
  ser : y.ser ≤ 30 + (i : Int)
  nxt : y.nxt < y.now + 6000
  lid : lid < y.ser ∧ -1 ≤ lid
  last : last = -1 ∨ (0 ≤ last ∧ last + 4000 ≤ y.nxt ∧ y.nxt < last + 6000 ∧ y.now ≤ last + 255)
  sil : q = true → y.til = U ∧ U ≤ N0 + 30000 ∧ N0 ≤ y.now ∧ (0 < i → N0 + 4000 * (i : Int) ≤ y.nxt) ∧ i ≤ 8
  non : q = false → y.til = y.now + 30000
theorem En.ok {s : Bool} {U N0 : Int} {i : Nat} {y : Wt} {last lid : Int} (h : En s U N0 i y last lid) : y.Ok := h.s.ok h.v
theorem En.begin {B : Nat} {y : Wt} (h : Dr B y) (hB : B ≤ 30) (hl : y.gone = false) (ht : y.til ≤ y.now + 30000) : En true y.til y.now 0 y (-1) (-1) := by
  have hn := h.now
  have hs := h.ser
  have h0 := h.v.ser
  exact ⟨h.v, h.s, hl, by omega, by omega, h.nxt, ⟨by omega, by decide⟩, .inl rfl, fun _ => ⟨rfl, ht, Int.le_refl _, fun h => absurd h (by decide), by decide⟩, fun h => by cases h⟩
theorem En.beginN {B : Nat} {y : Wt} (U : Int) (h : Dr B y) (hB : B ≤ 30) (hl : y.gone = false) : ∃ x, swE y y.now y.a y.b = (x, 0) ∧ x.Ok ∧ x.til = y.now + 30000 ∧ En false U y.now 0 x (-1) (-1) := by
  have hn := h.now
  have hs := h.ser
  have h0 := h.v.ser
  have h1 := h.v.now
  have hx := h.nxt
  have hlv := h.v.live hl
  have hst : startN y y.now = 0 := startN_of (wtB_iff.2 h.v) (inB_of (Int.le_refl _) h1.2)
  have hat : atW y y.now = y := by
    have : atW y y.now = { y with now := y.now } := atW_f (by unfold goesB; rw [decide_eq_false (by omega)]; rfl)
    rw [this]
  have he : (swW y y.now y.a y.b).2 = 0 := by
    unfold swW
    rw [hat]
    dsimp only
    rw [hl, if_neg (by decide), if_pos h.v.path]
  obtain ⟨e1, e2, e3, e4, e5, e6⟩ := swW_same he
  have hv := swW_v h.v (Int.le_refl _) h1.2 he
  have hs' := swW_s (x := y) (now := y.now) h.s h.s.a h.s.b
  refine ⟨(swW y y.now y.a y.b).1, ?_, hs'.ok hv, e6, ⟨hv, hs', by rw [e5, hl, decide_eq_false (by omega)]; rfl, by rw [e1]; omega, by rw [e3]; omega, by rw [e1, e2]; omega, ⟨by rw [e3]; omega, by decide⟩, .inl rfl, fun h => (by cases h), fun _ => by rw [e1, e6]⟩⟩
  unfold swE
  rw [if_pos hst]
  exact Prod.ext rfl he
theorem askW_mem (y : Wt) (t : Int) : y.ser ∈ (askW y t).asked := by
  show y.ser ∈ trim8 (y.asked ++ [y.ser])
  unfold trim8
  rw [List.length_append, List.length_singleton, List.drop_append]
  exact List.mem_append.2 (.inr (by rw [show y.asked.length + 1 - 8 - y.asked.length = 0 by omega]; exact List.mem_singleton.2 rfl))
/-- the time of the next round -/
abbrev nextT (y : Wt) : Int := max y.now (min y.nxt y.til)
section
variable {s : Bool} {U N0 : Int} {i : Nat} {y : Wt} {last lid : Int} (h : En s U N0 i y last lid) (hi : i < 20)
include h hi
theorem En.wake : wakeW y = (nextT y, 0) := by
  have _ := hi
  unfold wakeW
  rw [wtB_iff.2 h.v, if_pos rfl, h.live, if_neg (by decide)]
theorem En.bounds : y.now ≤ nextT y ∧ nextT y ≤ 1000000 ∧ 0 ≤ nextT y := by
  have := h.now
  have := h.nxt
  have := h.v.now
  unfold nextT
  omega
theorem En.st : startN y (nextT y) = 0 := by
  have := h.bounds hi
  exact startN_of (wtB_iff.2 h.v) (inB_of this.1 (by omega))
theorem En.timeEq : timeE y (nextT y) = ((timeW y (nextT y)).1, (timeW y (nextT y)).2, 0) := by
  unfold timeE
  rw [if_pos (h.st hi)]
theorem En.val : Wv (timeW y (nextT y)).1 ∧ Ws (timeW y (nextT y)).1 := by
  have := h.bounds hi
  exact ⟨timeW_v h.v this.1 (by omega), timeW_s h.s⟩
/-- the watch is gone -/
theorem En.gone (hg : (timeW y (nextT y)).1.gone = true) : s = true ∧ nextT y = max U y.now ∧ (timeW y (nextT y)).2 = [] ∧ wakeW (timeW y (nextT y)).1 = (0, 4) ∧ ∀ w, (restE (timeW y (nextT y)).1 (nextT y) w) = (zW, 8) := by
  obtain ⟨e1, e2, e3, e4, e5⟩ := timeW_same y (nextT y)
  have hv := (h.val hi).1
  have hlv := h.v.live h.live
  have hb := h.bounds hi
  have hx := h.nxt
  have ht : y.til ≤ nextT y := by
    rw [e4, h.live, Bool.false_or] at hg
    exact of_decide_eq_true hg
  refine ⟨?_, ?_, (timeW_out y (nextT y)).2 hg, ?_, fun w => ?_⟩
  · cases hs : s with
    | true => rfl
    | false =>
      have := h.non hs
      unfold nextT at ht
      omega
  · cases hs : s with
    | true =>
      have := (h.sil hs).1
      unfold nextT at ht ⊢
      omega
    | false =>
      have := h.non hs
      unfold nextT at ht
      omega
  · unfold wakeW
    rw [wtB_iff.2 hv, if_pos rfl, hg, if_pos rfl]
  · have hst : startN (timeW y (nextT y)).1 (nextT y) = 0 := startN_of (wtB_iff.2 hv) (inB_of (by rw [e1]; exact Int.le_refl _) (by omega))
    unfold restE
    rw [if_pos hst]
    unfold restW
    dsimp only
    rw [if_pos (by rw [(atW_same _ _).2.2.2.2.2.2.2.2, hg, Bool.true_or])]
/-- the watch lives on -/
theorem En.round (hg : (timeW y (nextT y)).1.gone = false) :
    (s = true → nextT y < U) ∧ (timeW y (nextT y)).2 = [(y.a, y.b, askP y.ser)] ∧ (timeW y (nextT y)).1.a = y.a ∧ (timeW y (nextT y)).1.b = y.b ∧ (timeW y (nextT y)).1.ser = y.ser + 1 ∧
    (0 ≤ last → 4000 ≤ nextT y - last ∧ nextT y - last < 6000) ∧ (s = true → En s U N0 (i + 1) (timeW y (nextT y)).1 (nextT y) y.ser) ∧
    (s = false → ∀ n : Nat, n ≤ 255 → ∃ x, hearE (timeW y (nextT y)).1 (nextT y + n) (y.b, y.a, p2 y.ser y.a) = (x, [], 0) ∧ x.Ok ∧ x.til = nextT y + n + 30000 ∧ y.ser ∉ x.asked ∧ En s U N0 (i + 1) x (nextT y) y.ser) := by
  obtain ⟨e1, e2, e3, e4, e5⟩ := timeW_same y (nextT y)
  obtain ⟨hv, hs'⟩ := h.val hi
  have hlv := h.v.live h.live
  have hb := h.bounds hi
  have hx := h.nxt
  have hser := h.ser
  have hser0 := h.v.ser
  have hnow := h.now
  have hnow0 := h.v.now
  have ht : nextT y < y.til := by
    rw [e4, h.live, Bool.false_or] at hg
    have := of_decide_eq_false hg
    omega
  have hn : y.nxt ≤ nextT y := by unfold nextT at ht ⊢; omega
  have hn2 : nextT y = max y.now y.nxt := by unfold nextT at ht ⊢; omega
  have hat : atW y (nextT y) = { y with now := nextT y } := atW_f (by unfold goesB; rw [decide_eq_false (by omega)]; rfl)
  have hask : asksB (atW y (nextT y)) (nextT y) = true := by
    unfold asksB
    rw [hat]
    dsimp only
    rw [h.live, decide_eq_true hn, decide_eq_true (show y.ser < 1099511627776 by omega)]
    rfl
  have hT : timeW y (nextT y) = (askW (atW y (nextT y)) (nextT y), [(y.a, y.b, askP y.ser)]) := by unfold timeW; rw [if_pos hask]
  have hgap := gapN_le (atW y (nextT y)).noise ((atW y (nextT y)).ser + 1).toNat
  have hnx : (timeW y (nextT y)).1.nxt = nextT y + (gapN (atW y (nextT y)).noise ((atW y (nextT y)).ser + 1).toNat : Int) := by rw [hT]; rfl
  have hsr : (timeW y (nextT y)).1.ser = y.ser + 1 := by rw [hT]; show (atW y (nextT y)).ser + 1 = _; rw [hat]
  have ha : (timeW y (nextT y)).1.a = y.a := by rw [hT]; show (atW y (nextT y)).a = _; rw [hat]
  have hbb : (timeW y (nextT y)).1.b = y.b := by rw [hT]; show (atW y (nextT y)).b = _; rw [hat]
  have hmem : y.ser ∈ (timeW y (nextT y)).1.asked := by
    rw [hT]
    have := askW_mem (atW y (nextT y)) (nextT y)
    rw [show (atW y (nextT y)).ser = y.ser by rw [hat]] at this
    exact this
  have hlast := h.last
  refine ⟨fun hs => by rw [← (h.sil hs).1]; exact ht, by rw [hT], ha, hbb, hsr, fun h0 => ?_, fun hs => ?_, fun hs n hn255 => ?_⟩
  · rcases hlast with h5 | ⟨h5, h6, h7, h8⟩
    · omega
    · omega
  · obtain ⟨s1, s2, s3, s4, s5⟩ := h.sil hs
    have hi8 : i ≤ 7 := by
      rcases Nat.eq_zero_or_pos i with h0 | h0
      · omega
      · have := s4 h0; omega
    refine ⟨hv, hs', hg, by rw [e1]; omega, by rw [hsr]; omega, by rw [hnx, e1]; omega, ⟨by rw [hsr]; omega, by omega⟩, .inr ⟨hb.2.2, by rw [hnx]; omega, by rw [hnx]; omega, by rw [e1]; omega⟩, fun _ => ⟨by rw [e2, s1], s2, by rw [e1]; omega, fun _ => ?_, by omega⟩, fun h9 => by rw [hs] at h9; cases h9⟩
    rw [hnx]
    rcases Nat.eq_zero_or_pos i with h0 | h0
    · subst h0; omega
    · have := s4 h0; omega
  · have hnon := h.non hs
    have hlt : nextT y + n < (timeW y (nextT y)).1.til := by rw [e2]; omega
    obtain ⟨r, hr, hnr⟩ := hear_answer (f := y.b) (g := y.a) (m := y.a) hv hg hlt hmem
    have hst : startN (timeW y (nextT y)).1 (nextT y + n) = 0 := startN_of (wtB_iff.2 hv) (inB_of (by rw [e1]; omega) (by omega))
    have hus : usB y.a.h y.a.p = true := by
      have := h.v.path
      cases hc : usB y.a.h y.a.p with
      | true => rfl
      | false => rw [pathB_1 hc] at this; cases this
    have hpb : probeB (p2 y.ser y.a) = true := p2_valid (inB_of (by omega) (by omega)) hus
    have hE : hearE (timeW y (nextT y)).1 (nextT y + n) (y.b, y.a, p2 y.ser y.a) = ((hearW (timeW y (nextT y)).1 (nextT y + n) (y.b, y.a, p2 y.ser y.a)).1, (hearW (timeW y (nextT y)).1 (nextT y + n) (y.b, y.a, p2 y.ser y.a)).2, 0) := by
      unfold hearE
      rw [if_neg (fun k => k hst), if_neg (by show ¬ probeB (p2 y.ser y.a) = false; rw [hpb]; decide), if_neg (fun k => k ⟨ha.symm, hbb.symm⟩)]
    have hv2 := hearW_v (p := (y.b, y.a, p2 y.ser y.a)) hv (show (timeW y (nextT y)).1.now ≤ nextT y + n by rw [e1]; omega) (by omega)
    have hs2 := hearW_s (now := nextT y + n) (p := (y.b, y.a, p2 y.ser y.a)) hs'
    rw [hr] at hE hv2 hs2
    refine ⟨_, hE, hs2.ok hv2, rfl, hnr, ⟨hv2, hs2, hg, by show nextT y + n ≤ _; omega, by show (timeW y (nextT y)).1.ser ≤ _; rw [hsr]; omega, by show (timeW y (nextT y)).1.nxt < nextT y + n + 6000; rw [hnx]; omega, ⟨by show _ < (timeW y (nextT y)).1.ser; rw [hsr]; omega, by omega⟩, .inr ⟨hb.2.2, by show _ ≤ (timeW y (nextT y)).1.nxt; rw [hnx]; omega, by show (timeW y (nextT y)).1.nxt < _; rw [hnx]; omega, by show nextT y + n ≤ _; omega⟩, fun h9 => (by rw [hs] at h9; cases h9), fun _ => rfl⟩⟩
end
set_option maxHeartbeats 1600000
theorem hpM_only {M : List Nat} {w0 w : World} {q e : Nat} {c : List Value} {H : List It} (h : HpM M w0 w (blk q c e :: H)) : HpM [q] w w [blk q c e] :=
  ⟨ExtM.refl _ _, fun x hx => h.ok x (by rw [List.mem_singleton] at hx; subst hx; exact List.mem_cons_self), fun x hx => h.holds x (by rw [List.mem_singleton] at hx; subst hx; exact List.mem_cons_self),
    fun x hx b hb => by
      rw [List.mem_singleton] at hx; subst hx
      have hq : q = b := by injection hb
      subst hq
      exact ⟨.inl List.mem_cons_self, (h.lo _ List.mem_cons_self _ rfl).2⟩, List.pairwise_singleton _ _⟩
theorem hpM_ext {w0 w w' : World} {q : Nat} (h : ExtM [] w0 w) (hq0 : w0.heap.size ≤ q) (k : ExtM [q] w w') : ExtM [] w0 w' :=
  ⟨k.os.trans h.os, k.tape.trans h.tape, k.output.trans h.output, Nat.le_trans h.size k.size, fun i hi hm => by
    refine (k.block i (Nat.lt_of_lt_of_le hi h.size) fun x => ?_).trans (h.block i hi hm)
    rw [List.mem_singleton] at x
    omega⟩
theorem hpM_base {w0 w w' : World} {q e : Nat} {c : List Value} {H H' : List It} (h : HpM [] w0 w (blk q c e :: H)) (k : HpM [q] w w' H') : HpM [] w0 w' H' := by
  have hq0 : w0.heap.size ≤ q := ((h.lo _ List.mem_cons_self q rfl).1).resolve_left (fun x => nomatch x)
  refine ⟨hpM_ext h.extM hq0 k.extM, k.ok, k.holds, fun x hx b hb => ?_, k.apart⟩
  have := k.lo x hx b hb
  refine ⟨.inr ?_, this.2⟩
  rcases this.1 with h1 | h1
  · rw [List.mem_singleton] at h1; omega
  · exact Nat.le_trans h.extM.size h1
theorem hpM_step {w0 w w' : World} {q e : Nat} {c c' : List Value} {H : List It} (h : HpM [] w0 w (blk q c e :: H)) (k : HpM [q] w w' [blk q c' e]) : HpM [] w0 w' (blk q c' e :: H) := by
  have hq := h.lo _ List.mem_cons_self q rfl
  have hq0 : w0.heap.size ≤ q := hq.1.resolve_left (fun x => nomatch x)
  have hap := List.pairwise_cons.1 h.apart
  refine ⟨hpM_ext h.extM hq0 k.extM, ?_, ?_, ?_, ?_⟩
  · intro x hx
    rcases List.mem_cons.1 hx with rfl | hx2
    · exact blk_ok _ _ _
    · exact h.ok x (List.mem_cons_of_mem _ hx2)
  · intro x hx
    rcases List.mem_cons.1 hx with rfl | hx2
    · exact k.holds _ List.mem_cons_self
    · refine h.ok x (List.mem_cons_of_mem _ hx2) w w' k.extM.size (fun b hb => ?_) (h.holds x (List.mem_cons_of_mem _ hx2))
      refine k.extM.block b (h.lo x (List.mem_cons_of_mem _ hx2) b hb).2 fun y => ?_
      rw [List.mem_singleton] at y
      subst y
      exact hap.1 x hx2 b rfl hb
  · intro x hx b hb
    rcases List.mem_cons.1 hx with rfl | hx2
    · have hq2 : q = b := by injection hb
      subst hq2
      exact ⟨.inr hq0, Nat.lt_of_lt_of_le hq.2 k.extM.size⟩
    · have := h.lo x (List.mem_cons_of_mem _ hx2) b hb
      exact ⟨this.1, Nat.lt_of_lt_of_le this.2 k.extM.size⟩
  · exact List.pairwise_cons.2 ⟨hap.1, hap.2⟩
theorem cell_n {w w' : World} {q g j : Nat} {v : Value} (h : w.cell? ⟨g, j, none⟩ = some v) (k : ExtM [q] w w') (hne : g ≠ q) : w'.cell? ⟨g, j, none⟩ = some v := by
  have hlt : g < w.heap.size := by
    rcases Nat.lt_or_ge g w.heap.size with h1 | h1
    · exact h1
    · have : w.heap[g]? = none := Array.getElem?_eq_none h1
      simp [World.cell?, this] at h
  have hb := k.block g hlt (by rw [List.mem_singleton]; exact hne)
  simp only [World.cell?, hb] at h ⊢
  exact h
theorem slv_n {w w' : World} {q : Nat} {v : Value} {xs : List Value} (h : SLv w v xs) (k : ExtM [q] w w') (hne : ∀ a n c, v = .slice (some a) n c → a.block ≠ q) : SLv w' v xs := by
  rcases h with h | ⟨g, off, c, rfl, hl, hc⟩
  · exact .inl h
  · exact .inr ⟨g, off, c, rfl, hl, fun j x hj => cell_n (hc j x hj) k (hne _ _ _ rfl)⟩
theorem HR_get {w : World} {p : Option Addr} {n c : Nat} {h : Hop3} (hr : HR w (.slice p n c) [h]) : ∃ g, p = some ⟨g, 0, none⟩ ∧ ∀ j v, (hopF h)[j]? = some v → w.cell? ⟨g, j, none⟩ = some v := by
  rcases hr with ⟨hx, _⟩ | ⟨h1, g, c1, e1, e2, hc⟩
  · cases hx
  · obtain rfl : h = h1 := by simpa using e1
    simp only [Value.slice.injEq] at e2
    exact ⟨g, e2.1, hc⟩
theorem ad_nn (a : Ad) (ha : a.Ok) (w : World) (xo yo : Operand) : (do eqGuard .neq 27 xo yo (.agg a.c.toArray) (.agg a.c.toArray); binOp .neq 27 (.agg a.c.toArray) (.agg a.c.toArray) : Sem Value).run Tryz.prog w = .ok (.bool false) w := by
  have := (ad_eq w a a ha ha xo yo).2
  rw [decide_eq_true rfl] at this
  exact this
set_option maxHeartbeats 8000000
def adW (k : UInt8) : Ad := ⟨⟨#[10, 0, 0, k]⟩, 1⟩
def wk1 : Wt := ⟨adW 1, adW 2, 0, 4000, 30000, 0, false, ⟨#[0, 128]⟩, (⟨#[97, 98, 99, 100]⟩ : ByteArray), ⟨#[]⟩, []⟩
def wk3 : Wt := ⟨adW 1, adW 2, 4000, 9000, 30000, 1, false, ⟨#[0, 128]⟩, (⟨#[97, 98, 99, 100]⟩ : ByteArray), ⟨#[]⟩, [0]⟩
def wk4 : Wt := ⟨adW 1, adW 2, 4100, 9000, 34100, 1, false, ⟨#[0, 128]⟩, (⟨#[97, 98, 99, 100]⟩ : ByteArray), ⟨#[]⟩, []⟩
def wk5 : Wt := ⟨adW 1, adW 2, 10, 4000, 30000, 0, false, ⟨#[0, 128]⟩, (⟨#[97, 98, 99, 100]⟩ : ByteArray), (⟨#[101, 102, 103, 104]⟩ : ByteArray), []⟩
def wk6 : Wt := ⟨adW 3, adW 2, 20, 4000, 30020, 0, false, ⟨#[0, 128]⟩, (⟨#[101, 102, 103, 104]⟩ : ByteArray), ⟨#[]⟩, []⟩
theorem wk_new : newE (adW 1) (adW 2) (⟨#[97, 98, 99, 100]⟩ : ByteArray) ⟨#[0, 128]⟩ 0 = (wk1, 0) := by kernel_rfl
theorem wk_wake : wakeW wk1 = (4000, 0) := by kernel_rfl
theorem wk_time : timeE wk1 4000 = (wk3, [(adW 1, adW 2, askP 0)], 0) := by kernel_rfl
theorem wk_hear : hearE wk3 4100 (adW 2, adW 1, p2 0 (adW 1)) = (wk4, [], 0) := by kernel_rfl
theorem wk_rest : restE wk1 10 (⟨#[101, 102, 103, 104]⟩ : ByteArray) = (wk5, 0) := by kernel_rfl
theorem wk_sw : swE wk5 20 (adW 3) (adW 2) = (wk6, 0) := by kernel_rfl
theorem wk_chk : chkW wk1 = 0 := by kernel_rfl
theorem wk_chk0 : chkW zW = 120 := by kernel_rfl
theorem adW_ok (k : UInt8) : (adW k).Ok := end_ok _ _ (Nat.le_refl 4) (by decide)
theorem addr_1 : PureF Tryz.prog 33 #[.int .u8 1] (.agg #[.string ⟨#[10, 0, 0, 1]⟩, .int .i64 1]) := addr_p 1
theorem addr_2 : PureF Tryz.prog 33 #[.int .u8 2] (.agg #[.string ⟨#[10, 0, 0, 2]⟩, .int .i64 1]) := addr_p 2
theorem addr_3 : PureF Tryz.prog 33 #[.int .u8 3] (.agg #[.string ⟨#[10, 0, 0, 3]⟩, .int .i64 1]) := addr_p 3
theorem sample_p : PureF Tryz.prog 32 #[] (.tuple #[.agg (wk1.c (.slice none 0 0)).toArray, .int .i64 0]) := by
  have hN := fun {W : World} => New_c (W := W) (adW 1).h (adW 2).h (adW 1).p (adW 2).p (⟨#[97, 98, 99, 100]⟩ : ByteArray) ⟨#[0, 128]⟩ 0 (adW_ok 1) (adW_ok 2) (by unfold SzS maxLen; decide) (by unfold SzS maxLen; decide)
  have e : newE ⟨(adW 1).h, (adW 1).p⟩ ⟨(adW 2).h, (adW 2).p⟩ (⟨#[97, 98, 99, 100]⟩ : ByteArray) ⟨#[0, 128]⟩ 0 = (wk1, 0) := wk_new
  rw [e] at hN
  first | refine v_pure TTok FFok Tryz.func32 rfl rfl fun w0 => ?_ | refine v_pure (args := []) TTok FFok Tryz.func32 rfl rfl fun w0 => ?_
  conv => whnf
  refine VSeq.mk fun Kq hKq => ?_
  conv => whnf
  have hp := Hp.nil w0
  (refine hp.kalloc z34 fun al34 w hp hx => ?_; conv => whnf)
  (refine hKq _ _ _ (.refl _) ?_; clear hKq Kq; conv => whnf)
  (refine VSeq.mk fun Kq hKq => ?_; conv => whnf)
  (refine V.CallW.out ?_; (conv => arg 3; dsimp only [EV.val, List.toList_toArray, List.nil_append, List.append_nil, List.cons_append]); refine V.PureF.useW (addr_1) fun w hx => ?_; try (have hp := hp.call hx); conv => whnf)
  (refine V.CallW.out ?_; (conv => arg 3; dsimp only [EV.val, List.toList_toArray, List.nil_append, List.append_nil, List.cons_append]); refine V.PureF.useW (addr_2) fun w hx => ?_; try (have hp := hp.call hx); conv => whnf)
  (refine ⟨_, _, bld31_0_1 _ _ _ _ _, ?_⟩; conv => whnf)
  refine V.CallsUse hN fun w hx => ?_
  have hp := hp.call hx
  conv => whnf
  clear hN
  (refine hp.kstA TTok rfl 0 rfl rfl (oneC_of rfl) (by rfl) fun w hp => ?_; try simp only [List.set_cons_zero, List.set_cons_succ, EV.val] at hp; conv => whnf)
  (refine hKq _ _ _ (.refl _) ?_; clear hKq Kq; conv => whnf)
  (refine ⟨_, Blk.lvN (hp.get (i := 0) rfl) TTok rfl rfl, ?_⟩; conv => whnf)
  (exact ⟨rfl, hp.ext⟩)
theorem HEq_c {W : World} {v u : Value} (h : Hop3) (hh : h.1.Ok ∧ h.2.1.Ok ∧ h.2.2.Ok) (hv : HR W v [h]) (hu : HR W u [h]) :
    Calls Tryz.prog 34 #[v, u] W fun e w' => e = .returned (.bool true) ∧ Ext W w' := by
  rcases hv with ⟨hx, _⟩ | ⟨h1, g, c, e1, rfl, hc⟩
  · simp at hx
  · rcases hu with ⟨hx, _⟩ | ⟨h2, g2, c2, e2, rfl, hc2⟩
    · simp at hx
    · obtain rfl : h = h1 := by simpa using e1
      obtain rfl : h = h2 := by simpa using e2
      have pe := fun w xo yo => hop_eq w h hh xo yo
      refine v_reads (args := [.slice (some ⟨g, 0, none⟩) 1 c, .slice (some ⟨g2, 0, none⟩) 1 c2]) TTok FFok Tryz.func34 rfl rfl ?_
      conv => whnf
      refine VSeq.mk fun Kq hKq => ?_
      conv => whnf
      refine hKq _ _ _ (.refl _) ?_
      clear hKq Kq
      conv => whnf
      refine VSeq.mk fun Kq hKq => ?_
      conv => whnf
      refine VSeq.mk fun Kq hKq => ?_
      conv => whnf
      refine hKq _ _ _ (.refl _) ?_
      clear hKq Kq
      conv => whnf
      have hp := Hp.nil W
      (refine And.intro (fun h => absurd (of_decide_eq_true h) (by first | (intro h2; exact absurd rfl h2) | omega | decide)) (fun _ => ?_); conv => whnf)
      (refine hKq _ _ _ (.refl _) ?_; clear hKq Kq; conv => whnf)
      (refine VSeq.mk fun Kq hKq => ?_; conv => whnf)
      (refine VSeq.mk fun Kq hKq => ?_; conv => whnf)
      (refine hKq _ _ _ (.refl _) ?_; clear hKq Kq; conv => whnf)
      refine ⟨fun mm e w' => ∃ (i : Nat), mm + i = 1 ∧ e = [(0, .v (.slice (some ⟨g, 0, none⟩) 1 c)), (1, .v (.slice (some ⟨g2, 0, none⟩) 1 c2)), (12, .v (.int .i64 1)), (13, .v (.int .i64 i))] ∧ HpM [] W w' [], ⟨1, _, ⟨0, rfl, rfl, hp⟩, sub_cons rfl (sub_cons rfl (sub_cons rfl (sub_cons rfl sub_nil)))⟩, ?_⟩
      rintro mm _ w ⟨i, hmm, rfl, hp⟩
      conv => whnf
      refine VSeq.mk fun Kq hKq => ?_
      conv => whnf
      refine hKq _ _ _ (.refl _) ?_
      clear hKq Kq
      conv => whnf
      refine VSeq.mk fun Kq hKq => ?_
      conv => whnf
      refine ⟨fun hlt => ?_, fun hlt => ?_⟩
      · have hlt := of_decide_eq_true hlt
        conv => whnf
        refine hKq _ _ _ (.refl _) ?_
        clear hKq Kq
        conv => whnf
        refine VSeq.mk fun Kq hKq => ?_
        conv => whnf
        refine VSeq.mk fun Kq hKq => ?_
        conv => whnf
        refine hKq _ _ _ (.refl _) ?_
        clear hKq Kq
        conv => whnf
        refine VSeq.mk fun Kq hKq => ?_
        conv => whnf
        obtain rfl : i = 0 := by omega
        skip
        refine v_mixA TTok FFok mixed [(0, false), (1, false), (2, false), (3, false), (4, false), (5, false), (6, false), (7, false), (8, false)] (by kernel_rfl) ?_
        conv => whnf
        (refine ⟨_, ⟨rfl, by omega⟩, ?_⟩; conv => whnf)
        refine ⟨_, fun w' hx' => run_ldN TTok rfl (n := 12) rfl fun j v hj => (by rw [show addM 0 0 12 + j = j by simp [addM]]; exact (hp.ext.trans hx').cell (hc j v hj)), ?_⟩
        conv => whnf
        (refine ⟨_, ⟨rfl, by omega⟩, ?_⟩; conv => whnf)
        refine ⟨_, fun w' hx' => run_ldN TTok rfl (n := 12) rfl fun j v hj => (by rw [show addM 0 0 12 + j = j by simp [addM]]; exact (hp.ext.trans hx').cell (hc2 j v hj)), ?_⟩
        conv => whnf
        skip
        refine ⟨_, fun w' _ => pe w' _ _, ?_⟩
        conv => whnf
        (intro w hx; try (have hp := hp.call hx); conv => whnf)
        (refine hKq _ _ _ (.refl _) ?_; clear hKq Kq; conv => whnf)
        (refine And.intro (fun h => absurd h (by decide)) (fun _ => ?_); conv => whnf)
        (refine hKq _ _ _ (.refl _) ?_; clear hKq Kq; conv => whnf)
        (refine Or.inl (And.intro (by first | omega | decide) ?_); conv => whnf)
        exact ⟨mm - 1, _, by omega, ⟨1, by omega, rfl, hp⟩, sub_cons rfl (sub_cons rfl (sub_cons rfl (sub_cons rfl sub_nil)))⟩
      · have hlt := of_decide_eq_false hlt
        conv => whnf
        clear hKq Kq
        refine hKq _ _ _ (.refl _) ?_
        clear hKq Kq
        conv => whnf
        refine VSeq.mk fun Kq hKq => ?_
        conv => whnf
        refine hKq _ _ _ (.refl _) ?_
        clear hKq Kq
        conv => whnf
        (exact ⟨rfl, hp.ext⟩)
set_option maxHeartbeats 16000000
theorem wakes_p : PureF Tryz.prog 9 #[] (.bool true) := by
  have o1 : wk1.Ok := by have := newE_ok (adW_ok 1) (adW_ok 2) (word := (⟨#[97, 98, 99, 100]⟩ : ByteArray)) (noise := ⟨#[0, 128]⟩) (now := 0) (by unfold SzS maxLen; decide) (by unfold SzS maxLen; decide); rw [wk_new] at this; exact this
  have o3 : wk3.Ok := by have := timeE_ok o1 4000; rw [wk_time] at this; exact this
  have o5 : wk5.Ok := by have := restE_ok o1 10 (s := (⟨#[101, 102, 103, 104]⟩ : ByteArray)) (by unfold SzS maxLen; decide); rw [wk_rest] at this; exact this
  have hA : Prb.Ok (p2 0 (adW 1)) := p2_ok ⟨by decide, by decide⟩ (adW_ok 1)
  have s2 := fun {W : World} {v : Value} hv => Wake12_c (W := W) (v := v) wk1 o1 hv
  have s3 := fun {W : World} {v : Value} hv => TimeE_c (W := W) (v := v) wk1 o1 hv 4000
  have s4 := fun {W : World} {v : Value} hv => HearE_c (W := W) (v := v) wk3 o3 hv 4100 (adW 2, adW 1, p2 0 (adW 1)) ⟨adW_ok 2, adW_ok 1, hA⟩
  have s5 := fun {W : World} {v : Value} hv => RestE_c (W := W) (v := v) wk1 o1 hv 10 (⟨#[101, 102, 103, 104]⟩ : ByteArray) (by unfold SzS maxLen; decide)
  have s6 := fun {W : World} {v : Value} hv => SwE_c (W := W) (v := v) wk5 o5 hv 20 (adW 3).h (adW 2).h (adW 3).p (adW 2).p (adW_ok 3) (adW_ok 2)
  have s7 := fun {W : World} {v : Value} hv => Check12_c (W := W) (v := v) wk1 o1 hv
  have s8 := fun {W : World} {v : Value} hv => Check12_c (W := W) (v := v) zW zW_ok hv
  have s9 := fun {W : World} {v u : Value} hv hu => HEq_c (W := W) (v := v) (u := u) (adW 1, adW 2, askP 0) ⟨adW_ok 1, adW_ok 2, ⟨⟨by decide, by decide⟩, ⟨by decide, by decide⟩, ⟨by decide, by decide⟩, ⟨by decide, by decide⟩, Ad.z_ok⟩⟩ hv hu
  have e6 : swE wk5 20 ⟨(adW 3).h, (adW 3).p⟩ ⟨(adW 2).h, (adW 2).p⟩ = (wk6, 0) := wk_sw
  rw [wk_wake] at s2
  rw [wk_time] at s3
  rw [wk_hear] at s4
  rw [wk_rest] at s5
  rw [e6] at s6
  rw [wk_chk] at s7
  rw [wk_chk0] at s8
  clear e6 o1 o3 o5 hA
  dsimp only [ResE, ResW, Wt.c, hopF, hopC, wk1, wk3, wk4, wk5, wk6, adW, p2, Ad.z, zW, iv, List.map] at s2 s3 s4 s5 s6 s7 s8
  first | refine v_pure TTok FFok Tryz.func9 rfl rfl fun w0 => ?_ | refine v_pure (args := []) TTok FFok Tryz.func9 rfl rfl fun w0 => ?_
  conv => whnf
  refine VSeq.mk fun Kq hKq => ?_
  conv => whnf
  refine hKq _ _ _ (.refl _) ?_
  clear hKq Kq
  conv => whnf
  refine VSeq.mk fun Kq hKq => ?_
  conv => whnf
  have hp := Hp.nil w0
  (refine V.CallW.out ?_; (conv => arg 3; dsimp only [EV.val, List.toList_toArray, List.nil_append, List.append_nil, List.cons_append]); (with_reducible refine V.PureF.useW (sample_p) fun w hx => ?_); try (have hp := hp.call hx); conv => whnf)
  (refine hp.kalloc z34 fun al34 w hp hx => ?_; conv => whnf)
  (refine hp.kstA TTok rfl 0 rfl rfl (oneC_of rfl) (by rfl) fun w hp => ?_; try simp only [List.set_cons_zero, List.set_cons_succ, EV.val] at hp; conv => whnf)
  (refine hKq _ _ _ (.refl _) ?_; clear hKq Kq; conv => whnf)
  (refine VSeq.mk fun Kq hKq => ?_; conv => whnf)
  (refine ⟨_, _, Blk.ldV (vs := [_, _, _, _, _, _, _, _, _, _, _, _, _]) (hp.get (i := 0) rfl) TTok rfl rfl rfl, ?_⟩; conv => whnf)
  dsimp only [Wt.c, wk1, adW] at hp
  refine V.CallsUse (s2 SLv.nil) fun w hx => ?_
  have hp := hp.call hx
  conv => whnf
  clear s2
  (refine hKq _ _ _ (.refl _) ?_; clear hKq Kq; conv => whnf)
  (refine VSeq.mk fun Kq hKq => ?_; conv => whnf)
  (refine ⟨_, _, Blk.ldV (vs := [_, _, _, _, _, _, _, _, _, _, _, _, _]) (hp.get (i := 0) rfl) TTok rfl rfl rfl, ?_⟩; conv => whnf)
  refine Calls.mono (s3 SLv.nil) ?_
  rintro _ w ⟨_, rfl, v3, r3, rfl, hx, hs3, hr3⟩
  refine ⟨_, rfl, ?_⟩
  have hpO := hp.call hx
  have hB : Blk w _ _ _ := hpO.get (i := 0) rfl
  obtain ⟨p3, c3, rfl⟩ := hs3.shape
  obtain ⟨q3, d3, rfl⟩ := hr3.s.shape
  have hv3 := hs3.s
  have hr3 := hr3.s
  clear s3 hs3 hp
  repeat clear hp
  have hpN := Hp.nil w
  have hp := hpN
  conv => whnf
  (refine hp.kalloc z34 fun al34 w hp hx => ?_; conv => whnf)
  (refine hp.kstA TTok rfl 0 rfl rfl (oneC_of rfl) (by rfl) fun w hp => ?_; try simp only [List.set_cons_zero, List.set_cons_succ, EV.val] at hp; conv => whnf)
  (refine hKq _ _ _ (.refl _) ?_; clear hKq Kq; conv => whnf)
  (refine VSeq.mk fun Kq hKq => ?_; conv => whnf)
  have hcls := hp.pick [0] (by decide)
  simp only [List.filterMap_cons, List.filterMap_nil, List.getElem?_cons_zero, List.getElem?_cons_succ] at hcls
  refine v_mtC TTok FFok mixed _ hcls [] (.q 0 (.q 1 (.q 2 (.q 3 (.q 4 (.q 5 (.br 6 11 (.q 7 (.q 8 (.q 9 (.q 10 (.m 11 (.m 12 (.q 13 (.q 14 .nil)))))))) (.m 6 (.q 7 (.q 8 (.q 9 (.q 10 (.m 12 (.q 13 (.q 14 .nil))))))))))))))) (by kernel_rfl) ?_
  clear hcls
  conv => whnf
  (refine ⟨_, fun w' hc => Blk.ldV (vs := [_, _, _, _, _, _, _, _, _, _, _, _, _]) (hc.get (i := 0) rfl) TTok rfl rfl rfl, ?_⟩; conv => whnf)
  (refine V.QCallC.out ?_; (conv => arg 3; dsimp only [EV.val, List.toList_toArray, List.nil_append, List.append_nil, List.cons_append]); refine V.PureF.quietC (addr_2) ?_; conv => whnf)
  (refine V.QCallC.out ?_; (conv => arg 3; dsimp only [EV.val, List.toList_toArray, List.nil_append, List.append_nil, List.cons_append]); refine V.PureF.quietC (addr_1) ?_; conv => whnf)
  (refine V.QCallC.out ?_; (conv => arg 3; dsimp only [EV.val, List.toList_toArray, List.nil_append, List.append_nil, List.cons_append]); refine V.PureF.quietC (addr_1) ?_; conv => whnf)
  (refine ⟨_, fun w' hx' => bld61_0_6 w' _ _ _, ?_⟩; conv => whnf)
  (refine ⟨_, fun w' hx' => bld63_0_1_2 w' _ _ _ _ _ _ _ _ _ _ _ _, ?_⟩; conv => whnf)
  refine And.intro ?_ ?_
  all_goals
    conv => whnf
    first | ((intro w hx; try (have hp := hp.call hx); conv => whnf); (refine hp.kalloc z34 fun al34 w hp hx => ?_; conv => whnf); (refine And.intro (fun hc => hc.call hx) ?_; conv => whnf); (intro w hx; try (have hp := hp.call hx); conv => whnf)) | ((intro w hx; try (have hp := hp.call hx); conv => whnf))
    refine Calls.mono (s4 (hv3.ext hp.ext)) ?_
    rintro _ w ⟨_, rfl, v4, r4, rfl, hx, hs4, hr4⟩
    refine ⟨_, rfl, ?_⟩
    have hp := hp.call hx
    obtain ⟨p4, c4, rfl⟩ := hs4.shape
    obtain ⟨q4, d4, rfl⟩ := hr4.s.shape
    clear hs4 hr4
    conv => whnf
    first | ((refine And.intro (fun hc => hc.call hx) ?_; conv => whnf); (intro w hx; try (have hp := hp.call hx); conv => whnf); (refine hp.kalloc z34 fun al34 w hp hx => ?_; conv => whnf); (refine And.intro (fun hc => hc.call hx) ?_; conv => whnf); (intro w hx; try (have hp := hp.call hx); conv => whnf); (refine hp.kstA TTok rfl 0 rfl rfl (oneC_of rfl) (by rfl) fun w hp => ?_; try simp only [List.set_cons_zero, List.set_cons_succ, EV.val] at hp; conv => whnf); (refine And.intro (fun _ => hp.pick [1] (by decide)) ?_; conv => whnf); (intro w hx; try (have hp := hp.call hx); conv => whnf); (refine hKq _ _ _ (.refl _) ?_; clear hKq Kq; conv => whnf); (refine VSeq.mk fun Kq hKq => ?_; conv => whnf); (refine ⟨_, _, Blk.ldN (Blk.ext hB hp.ext) TTok rfl rfl, ?_⟩; conv => whnf)) | ((refine And.intro (fun hc => hc.call hx) ?_; conv => whnf); (intro w hx; try (have hp := hp.call hx); conv => whnf); (refine hp.kstA TTok rfl 0 rfl rfl (oneC_of rfl) (by rfl) fun w hp => ?_; try simp only [List.set_cons_zero, List.set_cons_succ, EV.val] at hp; conv => whnf); (refine And.intro (fun _ => hp.pick [1] (by decide)) ?_; conv => whnf); (intro w hx; try (have hp := hp.call hx); conv => whnf); (refine hKq _ _ _ (.refl _) ?_; clear hKq Kq; conv => whnf); (refine VSeq.mk fun Kq hKq => ?_; conv => whnf); (refine ⟨_, _, Blk.ldN (Blk.ext hB hp.ext) TTok rfl rfl, ?_⟩; conv => whnf))
    refine Calls.mono (s5 SLv.nil) ?_
    rintro _ w ⟨_, rfl, v5, rfl, hx, hs5⟩
    refine ⟨_, rfl, ?_⟩
    have hp := hp.call hx
    obtain ⟨p5, c5, rfl⟩ := hs5.shape
    clear hs5
    conv => whnf
    (refine hp.kalloc z34 fun al34 w hp hx => ?_; conv => whnf)
    (refine hp.kstA TTok rfl 0 rfl rfl (oneC_of rfl) (by rfl) fun w hp => ?_; try simp only [List.set_cons_zero, List.set_cons_succ, EV.val] at hp; conv => whnf)
    (refine hKq _ _ _ (.refl _) ?_; clear hKq Kq; conv => whnf)
    (refine VSeq.mk fun Kq hKq => ?_; conv => whnf)
    have hcls := hp.pick [0] (by decide)
    simp only [List.filterMap_cons, List.filterMap_nil, List.getElem?_cons_zero, List.getElem?_cons_succ] at hcls
    refine v_mtC TTok FFok mixed _ hcls [] (.q 0 (.q 1 (.q 2 (.q 3 (.br 4 8 (.q 5 (.q 6 (.q 7 (.m 8 (.m 9 (.q 10 .nil)))))) (.m 4 (.q 5 (.q 6 (.q 7 (.m 9 (.q 10 .nil))))))))))) (by kernel_rfl) ?_
    clear hcls
    conv => whnf
    (refine ⟨_, fun w' hc => Blk.ldV (vs := [_, _, _, _, _, _, _, _, _, _, _, _, _]) (hc.get (i := 0) rfl) TTok rfl rfl rfl, ?_⟩; conv => whnf)
    (refine V.QCallC.out ?_; (conv => arg 3; dsimp only [EV.val, List.toList_toArray, List.nil_append, List.append_nil, List.cons_append]); refine V.PureF.quietC (addr_3) ?_; conv => whnf)
    (refine V.QCallC.out ?_; (conv => arg 3; dsimp only [EV.val, List.toList_toArray, List.nil_append, List.append_nil, List.cons_append]); refine V.PureF.quietC (addr_2) ?_; conv => whnf)
    (refine ⟨_, fun w' hx' => bld31_0_1 w' _ _ _ _, ?_⟩; conv => whnf)
    refine And.intro ?_ ?_
    all_goals
      conv => whnf
      first | ((intro w hx; try (have hp := hp.call hx); conv => whnf); (refine hp.kalloc z34 fun al34 w hp hx => ?_; conv => whnf); (refine And.intro (fun hc => hc.call hx) ?_; conv => whnf); (intro w hx; try (have hp := hp.call hx); conv => whnf)) | ((intro w hx; try (have hp := hp.call hx); conv => whnf))
      refine Calls.mono (s6 (.inl ⟨rfl, _, _, rfl⟩)) ?_
      rintro _ w ⟨_, rfl, v6, rfl, hx, hs6⟩
      refine ⟨_, rfl, ?_⟩
      have hp := hp.call hx
      obtain ⟨p6, c6, rfl⟩ := hs6.shape
      clear hs6
      conv => whnf
      first | ((refine And.intro (fun hc => hc.call hx) ?_; conv => whnf); (intro w hx; try (have hp := hp.call hx); conv => whnf); (refine hp.kalloc z34 fun al34 w hp hx => ?_; conv => whnf); (refine And.intro (fun hc => hc.call hx) ?_; conv => whnf); (intro w hx; try (have hp := hp.call hx); conv => whnf); (refine hp.kstA TTok rfl 0 rfl rfl (oneC_of rfl) (by rfl) fun w hp => ?_; try simp only [List.set_cons_zero, List.set_cons_succ, EV.val] at hp; conv => whnf); (refine And.intro (fun _ => hp.pick [1] (by decide)) ?_; conv => whnf); (intro w hx; try (have hp := hp.call hx); conv => whnf); (refine hKq _ _ _ (.refl _) ?_; clear hKq Kq; conv => whnf); (refine VSeq.mk fun Kq hKq => ?_; conv => whnf); (refine VSeq.mk fun Kq hKq => ?_; conv => whnf); (refine hKq _ _ _ (.refl _) ?_; clear hKq Kq; conv => whnf); (refine VSeq.mk fun Kq hKq => ?_; conv => whnf); (refine And.intro (fun _ => ?_) (fun h => absurd (by first | rfl | assumption | omega | decide) (of_decide_eq_false h)); conv => whnf); (refine hKq _ _ _ (.refl _) ?_; clear hKq Kq; conv => whnf); (refine VSeq.mk fun Kq hKq => ?_; conv => whnf); (refine And.intro (fun _ => ?_) (fun h => absurd (by first | rfl | assumption | omega | decide) (of_decide_eq_false h)); conv => whnf); (refine hKq _ _ _ (.refl _) ?_; clear hKq Kq; conv => whnf); (refine VSeq.mk fun Kq hKq => ?_; conv => whnf); (refine And.intro (fun _ => ?_) (fun h => absurd (by first | rfl | assumption | omega | decide) (of_decide_eq_false h)); conv => whnf); (refine hKq _ _ _ (.refl _) ?_; clear hKq Kq; conv => whnf); (refine VSeq.mk fun Kq hKq => ?_; conv => whnf); (refine And.intro (fun _ => ?_) (fun h => absurd (by first | rfl | assumption | omega | decide) (of_decide_eq_false h)); conv => whnf); (refine ⟨_, _, Blk.ld (hp.get (i := 3) rfl) TTok rfl rfl, ?_⟩; conv => whnf); (refine hKq _ _ _ (.refl _) ?_; clear hKq Kq; conv => whnf); (refine VSeq.mk fun Kq hKq => ?_; conv => whnf); (refine And.intro (fun _ => ?_) (fun h => absurd (by first | rfl | assumption | omega | decide) (of_decide_eq_false h)); conv => whnf); (refine V.CallW.out ?_; (conv => arg 3; dsimp only [EV.val, List.toList_toArray, List.nil_append, List.append_nil, List.cons_append]); refine V.PureF.useW (addr_1) fun w hx => ?_; try (have hp := hp.call hx); conv => whnf); (refine V.CallW.out ?_; (conv => arg 3; dsimp only [EV.val, List.toList_toArray, List.nil_append, List.append_nil, List.cons_append]); refine V.PureF.useW (addr_2) fun w hx => ?_; try (have hp := hp.call hx); conv => whnf); (refine ⟨_, _, bld61_0_2 _ _ _, ?_⟩; conv => whnf); (refine ⟨_, _, bld63_0_1_2 _ _ _ _ _ _ _ _ _ _ _ _ _, ?_⟩; conv => whnf); (refine hp.kmade _ _ (fun b => .slice (some ⟨b, 0, none⟩) 1 1) (mks55_1_0 _ _ _ _ _ _ _ _ _ _ _ _ _) fun q w hp hx => ?_; conv => whnf)) | ((refine And.intro (fun hc => hc.call hx) ?_; conv => whnf); (intro w hx; try (have hp := hp.call hx); conv => whnf); (refine hp.kstA TTok rfl 0 rfl rfl (oneC_of rfl) (by rfl) fun w hp => ?_; try simp only [List.set_cons_zero, List.set_cons_succ, EV.val] at hp; conv => whnf); (refine And.intro (fun _ => hp.pick [1] (by decide)) ?_; conv => whnf); (intro w hx; try (have hp := hp.call hx); conv => whnf); (refine hKq _ _ _ (.refl _) ?_; clear hKq Kq; conv => whnf); (refine VSeq.mk fun Kq hKq => ?_; conv => whnf); (refine VSeq.mk fun Kq hKq => ?_; conv => whnf); (refine hKq _ _ _ (.refl _) ?_; clear hKq Kq; conv => whnf); (refine VSeq.mk fun Kq hKq => ?_; conv => whnf); (refine And.intro (fun _ => ?_) (fun h => absurd (by first | rfl | assumption | omega | decide) (of_decide_eq_false h)); conv => whnf); (refine hKq _ _ _ (.refl _) ?_; clear hKq Kq; conv => whnf); (refine VSeq.mk fun Kq hKq => ?_; conv => whnf); (refine And.intro (fun _ => ?_) (fun h => absurd (by first | rfl | assumption | omega | decide) (of_decide_eq_false h)); conv => whnf); (refine hKq _ _ _ (.refl _) ?_; clear hKq Kq; conv => whnf); (refine VSeq.mk fun Kq hKq => ?_; conv => whnf); (refine And.intro (fun _ => ?_) (fun h => absurd (by first | rfl | assumption | omega | decide) (of_decide_eq_false h)); conv => whnf); (refine hKq _ _ _ (.refl _) ?_; clear hKq Kq; conv => whnf); (refine VSeq.mk fun Kq hKq => ?_; conv => whnf); (refine And.intro (fun _ => ?_) (fun h => absurd (by first | rfl | assumption | omega | decide) (of_decide_eq_false h)); conv => whnf); (refine ⟨_, _, Blk.ld (hp.get (i := 3) rfl) TTok rfl rfl, ?_⟩; conv => whnf); (refine hKq _ _ _ (.refl _) ?_; clear hKq Kq; conv => whnf); (refine VSeq.mk fun Kq hKq => ?_; conv => whnf); (refine And.intro (fun _ => ?_) (fun h => absurd (by first | rfl | assumption | omega | decide) (of_decide_eq_false h)); conv => whnf); (refine V.CallW.out ?_; (conv => arg 3; dsimp only [EV.val, List.toList_toArray, List.nil_append, List.append_nil, List.cons_append]); refine V.PureF.useW (addr_1) fun w hx => ?_; try (have hp := hp.call hx); conv => whnf); (refine V.CallW.out ?_; (conv => arg 3; dsimp only [EV.val, List.toList_toArray, List.nil_append, List.append_nil, List.cons_append]); refine V.PureF.useW (addr_2) fun w hx => ?_; try (have hp := hp.call hx); conv => whnf); (refine ⟨_, _, bld61_0_2 _ _ _, ?_⟩; conv => whnf); (refine ⟨_, _, bld63_0_1_2 _ _ _ _ _ _ _ _ _ _ _ _ _, ?_⟩; conv => whnf); (refine hp.kmade _ _ (fun b => .slice (some ⟨b, 0, none⟩) 1 1) (mks55_1_0 _ _ _ _ _ _ _ _ _ _ _ _ _) fun q w hp hx => ?_; conv => whnf))
      refine V.CallsUse (s9 (hr3.ext hp.ext) (HR.blk (hp.get (i := 0) rfl))) fun w hx => ?_
      have hp := hp.call hx
      conv => whnf
      (refine hKq _ _ _ (.refl _) ?_; clear hKq Kq; conv => whnf)
      (refine VSeq.mk fun Kq hKq => ?_; conv => whnf)
      (refine And.intro (fun _ => ?_) (fun h => absurd h (by decide)); conv => whnf)
      (refine hKq _ _ _ (.refl _) ?_; clear hKq Kq; conv => whnf)
      (refine VSeq.mk fun Kq hKq => ?_; conv => whnf)
      (refine And.intro (fun _ => ?_) (fun h => absurd (by first | rfl | assumption | omega | decide) (of_decide_eq_false h)); conv => whnf)
      (refine hKq _ _ _ (.refl _) ?_; clear hKq Kq; conv => whnf)
      (refine VSeq.mk fun Kq hKq => ?_; conv => whnf)
      (refine And.intro (fun _ => ?_) (fun h => absurd (by first | rfl | assumption | omega | decide) (of_decide_eq_false h)); conv => whnf)
      (refine ⟨_, _, Blk.ld (hp.get (i := 3) rfl) TTok rfl rfl, ?_⟩; conv => whnf)
      (refine hKq _ _ _ (.refl _) ?_; clear hKq Kq; conv => whnf)
      (refine VSeq.mk fun Kq hKq => ?_; conv => whnf)
      (refine And.intro (fun _ => ?_) (fun h => absurd (by first | rfl | assumption | omega | decide) (of_decide_eq_false h)); conv => whnf)
      (refine ⟨_, _, Blk.ld (hp.get (i := 3) rfl) TTok rfl rfl, ?_⟩; conv => whnf)
      (refine hKq _ _ _ (.refl _) ?_; clear hKq Kq; conv => whnf)
      (refine VSeq.mk fun Kq hKq => ?_; conv => whnf)
      (refine And.intro (fun _ => ?_) (fun h => absurd (by first | rfl | assumption | omega | decide) (of_decide_eq_false h)); conv => whnf)
      (refine hKq _ _ _ (.refl _) ?_; clear hKq Kq; conv => whnf)
      (refine VSeq.mk fun Kq hKq => ?_; conv => whnf)
      (refine And.intro (fun _ => ?_) (fun h => absurd (by first | rfl | assumption | omega | decide) (of_decide_eq_false h)); conv => whnf)
      (refine ⟨_, _, Blk.ld (hp.get (i := 2) rfl) TTok rfl rfl, ?_⟩; conv => whnf)
      (refine hKq _ _ _ (.refl _) ?_; clear hKq Kq; conv => whnf)
      (refine VSeq.mk fun Kq hKq => ?_; conv => whnf)
      (refine And.intro (fun _ => ?_) (fun h => absurd (by first | rfl | assumption | omega | decide) (of_decide_eq_false h)); conv => whnf)
      (refine hKq _ _ _ (.refl _) ?_; clear hKq Kq; conv => whnf)
      (refine VSeq.mk fun Kq hKq => ?_; conv => whnf)
      (refine And.intro (fun _ => ?_) (fun h => absurd (by first | rfl | assumption | omega | decide) (of_decide_eq_false h)); conv => whnf)
      (refine ⟨_, _, Blk.ld (hp.get (i := 1) rfl) TTok rfl rfl, ?_⟩; conv => whnf)
      (refine hKq _ _ _ (.refl _) ?_; clear hKq Kq; conv => whnf)
      (refine VSeq.mk fun Kq hKq => ?_; conv => whnf)
      (refine And.intro (fun _ => ?_) (fun h => absurd (by first | rfl | assumption | omega | decide) (of_decide_eq_false h)); conv => whnf)
      (refine ⟨_, _, Blk.ld (hp.get (i := 1) rfl) TTok rfl rfl, ?_⟩; conv => whnf)
      (refine hKq _ _ _ (.refl _) ?_; clear hKq Kq; conv => whnf)
      (refine VSeq.mk fun Kq hKq => ?_; conv => whnf)
      (refine And.intro (fun _ => ?_) (fun h => absurd (by first | rfl | assumption | omega | decide) (of_decide_eq_false h)); conv => whnf)
      (refine ⟨_, _, Blk.ldN (Blk.ext hB hp.ext) TTok rfl rfl, ?_⟩; conv => whnf)
      refine V.CallsUse (s7 SLv.nil) fun w hx => ?_
      have hp := hp.call hx
      conv => whnf
      (refine hKq _ _ _ (.refl _) ?_; clear hKq Kq; conv => whnf)
      (refine And.intro (fun _ => ?_) (fun h => absurd (by first | rfl | assumption | omega | decide) (of_decide_eq_false h)); conv => whnf)
      (refine ⟨_, _, bld34_ _, ?_⟩; conv => whnf)
      refine V.CallsUse (s8 SLv.nil) fun w hx => ?_
      have hp := hp.call hx
      conv => whnf
      (refine hKq _ _ _ (.refl _) ?_; clear hKq Kq; conv => whnf)
      exact ⟨rfl, (hpO.join hp).ext⟩
end Go.Proofs.YtgkhcgiggjijlaaGreat
