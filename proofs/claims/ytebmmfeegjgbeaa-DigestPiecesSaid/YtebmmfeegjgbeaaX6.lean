/- Drawn regions as trees, where stores may come between (late loads): pending quiet operations are quiet in all worlds that have grown out of the region's first; barriers are operations that wait for all of these. Own work. No program is named here. -/
import Derived.Test.YtebmmfeegjgbeaaX4
namespace Go.Proofs.Ytebmmfeegjgbeaa
set_option linter.unusedSimpArgs false
set_option linter.unusedVariables false
open Go.RowKit
namespace V
section
variable {P : Program} {md : Region.Mode} {ops : Array Oper}
def waits2 (md : Region.Mode) (ops : Array Oper) (j i : Nat) : Bool :=
  Region.waitsFor md ops j i || (List.range ops.size).any fun k => Region.waitsFor md ops j k && Region.waitsFor md ops k i
theorem waitsFor_on {j i : Nat} (h : Region.waitsFor md ops j i = true) : ∃ oj, ops[j]? = some oj ∧ ∃ e ∈ oj.after, Region.binds md e = true ∧ e.on = i := by
  unfold Region.waitsFor at h
  cases hj : ops[j]? with
  | none => simp only [hj] at h; cases h
  | some oj =>
    simp only [hj, Array.any_eq_true'] at h
    obtain ⟨e, he, h2⟩ := h
    simp only [Bool.and_eq_true, beq_iff_eq] at h2
    exact ⟨oj, rfl, e, he, h2.1, h2.2⟩
theorem not_waits2 {i j n : Nat} {done : Array Bool} (inv : HeadInv md ops n done) (hu : done.getD i true = false) (hr : j ∈ Region.ready md ops done) : waits2 md ops j i = false := by
  obtain ⟨_, o, ho, hall⟩ := mem_ready.1 hr
  have hu' := getD_both hu
  have h1 : Region.waitsFor md ops j i = false := by
    cases h : Region.waitsFor md ops j i with
    | false => rfl
    | true =>
      obtain ⟨oj, hoj, e, he, hb, rfl⟩ := waitsFor_on h
      obtain rfl : o = oj := Option.some.inj (ho.symm.trans hoj)
      rw [hall e he hb] at hu'; cases hu'
  unfold waits2
  rw [h1, Bool.false_or, List.any_eq_false]
  intro k _ h
  rw [Bool.and_eq_true] at h
  obtain ⟨oj, hoj, e, he, hb, rfl⟩ := waitsFor_on h.1
  obtain rfl : o = oj := Option.some.inj (ho.symm.trans hoj)
  have hk := hall e he hb
  obtain ⟨ok, hok, e2, he2, hb2, rfl⟩ := waitsFor_on h.2
  rw [inv.closed _ ok hok hk e2 he2 hb2] at hu'; cases hu'
def headB (P : Program) (md : Region.Mode) (ops : Array Oper) (bars : List Nat) (wB : World) (L : Array Bool → Act → World → Prop) : Nat → Array Bool → Act → World → Prop
  | 0, done, a, w => ∀ w1, Ext w w1 → L done a w1
  | f + 1, done, a, w => ∀ w1, Ext w w1 → Region.ready md ops done ≠ [] ∧ ∀ i ∈ Region.ready md ops done, okOp P ops i (fun a' w2 => (bars.contains i = false → Ext wB w1 → Ext wB w2) ∧ headB P md ops bars wB L f (done.setIfInBounds i true) a' w2) a w1
theorem headB_mono {bars : List Nat} {wB : World} {L : Array Bool → Act → World → Prop} {w w' : World} (hx : Ext w w') : ∀ {f : Nat} {done : Array Bool} {a : Act}, headB P md ops bars wB L f done a w → headB P md ops bars wB L f done a w'
  | 0, _, _, h => fun w1 h1 => h w1 (hx.trans h1)
  | _ + 1, _, _, h => fun w1 h1 => h w1 (hx.trans h1)
theorem any_of_headB {g : Nat} {bars : List Nat} {wB : World} {L : Array Bool → Act → World → Prop} {Q : Exit → Act → World → Prop} (hL : ∀ done a w, L done a w → wpAny P md ops Q g done a w) :
    ∀ (f : Nat) (done : Array Bool) (a : Act) (w : World), headB P md ops bars wB L f done a w → wpAny P md ops Q (f + g) done a w := by
  intro f
  induction f with
  | zero => intro done a w h; rw [Nat.zero_add]; exact hL _ _ _ (h w (Ext.refl w))
  | succ f ih =>
    intro done a w h
    rw [show f + 1 + g = (f + g) + 1 by omega]
    have h := h w (Ext.refl w)
    exact ⟨fun h0 => absurd h0 h.1, fun i hi => wpOp_of_ok (fun a' w' h' => ih _ a' w' h'.2) (h.2 i hi)⟩
theorem headB_take {bars : List Nat} {wB : World} {i : Nat} {oi : Oper} {v : Value} {L : Array Bool → Act → World → Prop} (hi : ops[i]? = some oi) (hsel : ∀ (j : Nat) (o : Oper) cs b, ops[j]? = some o → o.op ≠ .select cs b)
    (hbar : ∀ j, bars.contains j = true → waits2 md ops j i = true) (hdone : ∀ done a w, L done a w → Region.ready md ops done = []) :
    ∀ (f : Nat) (done : Array Bool) (a : Act) (w : World), HeadInv md ops ops.size done → Ext wB w →
      (∀ j oj, ops[j]? = some oj → j ≠ i → done.getD j true = false → (∀ e ∈ oj.after, Region.binds md e = true → e.on ≠ i) → oi.apart ops oj = true) →
      i ∈ Region.ready md ops done → YG P ops oi v a wB →
      headB P md ops bars wB L f (done.setIfInBounds i true) (a.put oi.dst v) w → headB P md ops bars wB L (f + 1) done a w := by
  have hsz : i < ops.size := (Array.getElem?_eq_some_iff.1 hi).1
  intro f
  induction f with
  | zero =>
    intro done a w inv hxB _ hr hy H w1 hx
    refine ⟨List.ne_nil_of_mem hr, fun j hj => ?_⟩
    by_cases e : j = i
    · subst e; exact hy.ok hi (hxB.trans hx) fun w2 h2 => ⟨fun _ h => h.trans h2, headB_mono (hx.trans h2) H⟩
    · have h1 := hdone _ _ _ (H w1 hx)
      have h2 := ready_mono (md := md) (ops := ops) hj e
      rw [h1] at h2; cases h2
  | succ f ih =>
    intro done a w inv hxB hfree hr hy H w1 hx
    have hun := (mem_ready.1 hr).1
    refine ⟨List.ne_nil_of_mem hr, fun j hj => ?_⟩
    by_cases e : j = i
    · subst e; exact hy.ok hi (hxB.trans hx) fun w2 h2 => ⟨fun _ h => h.trans h2, headB_mono (hx.trans h2) H⟩
    · obtain ⟨hjun, oj, hoj, hall⟩ := mem_ready.1 hj
      have hjsz : j < ops.size := (Array.getElem?_eq_some_iff.1 hoj).1
      have hnot : ∀ e ∈ oj.after, Region.binds md e = true → e.on ≠ i := fun e he hb heq => by
        have := hall e he hb; rw [heq, getD_both hun] at this; cases this
      have hjb : bars.contains j = false := by
        cases hb : bars.contains j with
        | false => rfl
        | true => have := hbar j hb; rw [not_waits2 inv hun hj] at this; cases this
      have key := okOp_put hoj (hfree j oj hoj e hjun hnot) (fun cs b => hsel i oi cs b hi) (fun cs b => hsel j oj cs b hoj) hy ((H w1 hx).2 j (ready_mono hj e))
      refine okOp_mono (fun a' w2 h3 => ⟨fun hb => h3.2.1 hb, ih (done.setIfInBounds j true) a' w2 (inv.set hj hjsz) (h3.2.1 hjb (hxB.trans hx)) ?_ (ready_mono hr (Ne.symm e)) h3.1 ?_⟩) key
      · intro k ok hk hki hu hno
        refine hfree k ok hk hki ?_ hno
        by_cases hjk : j = k
        · subst hjk; exact hjun
        · rwa [getD_set_ne true hjk] at hu
      · rw [Array.setIfInBounds_comm _ _ e]; exact h3.2.2
def barOk (md : Region.Mode) (ops : Array Oper) (bars : List Nat) (i : Nat) : Bool := bars.all fun j => waits2 md ops j i
theorem barOk_spec {bars : List Nat} {i : Nat} (h : barOk md ops bars i = true) (j : Nat) (hj : bars.contains j = true) : waits2 md ops j i = true := by
  unfold barOk at h
  rw [List.all_eq_true] at h
  exact h j (by simpa using hj)
/-- f: no barrier has come yet -/
def mbB (md : Region.Mode) (ops : Array Oper) (bars : List Nat) : Bool → MT → Array Bool → Bool
  | _, .nil, done => (Region.ready md ops done).isEmpty
  | f, .q i r, done => f && (Region.ready md ops done).contains i && Region.free md ops done i && barOk md ops bars i && mbB md ops bars f r (done.setIfInBounds i true)
  | f, .m i r, done => decide (Region.ready md ops done = [i]) && mbB md ops bars (f && !bars.contains i) r (done.setIfInBounds i true)
  | f, .br i j r s, done => decide (Region.ready md ops done = [i, j]) && Nat.beq r.len s.len && mbB md ops bars (f && !bars.contains i) r (done.setIfInBounds i true) && mbB md ops bars (f && !bars.contains j) s (done.setIfInBounds j true)
  | f, .br3 i j k r s t, done => decide (Region.ready md ops done = [i, j, k]) && Nat.beq r.len s.len && Nat.beq r.len t.len && mbB md ops bars (f && !bars.contains i) r (done.setIfInBounds i true) && mbB md ops bars (f && !bars.contains j) s (done.setIfInBounds j true) && mbB md ops bars (f && !bars.contains k) t (done.setIfInBounds k true)
  | f, .br4 i j k m r s t u, done => decide (Region.ready md ops done = [i, j, k, m]) && Nat.beq r.len s.len && Nat.beq r.len t.len && Nat.beq r.len u.len && mbB md ops bars (f && !bars.contains i) r (done.setIfInBounds i true) && mbB md ops bars (f && !bars.contains j) s (done.setIfInBounds j true) && mbB md ops bars (f && !bars.contains k) t (done.setIfInBounds k true) && mbB md ops bars (f && !bars.contains m) u (done.setIfInBounds m true)
def obl (b : Bool) (wB w1 w : World) (p : Prop) : Prop := match b with
  | true => p
  | false => (Ext wB w1 → Ext wB w) ∧ p
theorem obl_spec {b : Bool} {wB w1 w : World} {p : Prop} (h : obl b wB w1 w p) : (b = false → Ext wB w1 → Ext wB w) ∧ p := by
  cases b with
  | true => exact ⟨fun hc => (by cases hc), h⟩
  | false => exact ⟨fun _ => h.1, h.2⟩
def stepB (P : Program) (ops : Array Oper) (bars : List Nat) (wB : World) (i : Nat) (k : Act → World → Prop) (a : Act) (w : World) : Prop :=
  ∀ w1, Ext w w1 → okOp P ops i (fun a' w2 => obl (bars.contains i) wB w1 w2 (k a' w2)) a w1
def actMB (P : Program) (ops : Array Oper) (bars : List Nat) (wB : World) (Lq : Act → World → Prop) : MT → Act → World → Prop
  | .nil, a, w => ∀ w1, Ext w w1 → Lq a w1
  | .q i r, a, w => ∃ o, ops[i]? = some o ∧ ∃ v, YG P ops o v a wB ∧ actMB P ops bars wB Lq r (a.put o.dst v) w
  | .m i r, a, w => stepB P ops bars wB i (actMB P ops bars wB Lq r) a w
  | .br i j r s, a, w => stepB P ops bars wB i (actMB P ops bars wB Lq r) a w ∧ stepB P ops bars wB j (actMB P ops bars wB Lq s) a w
  | .br3 i j k r s t, a, w => stepB P ops bars wB i (actMB P ops bars wB Lq r) a w ∧ stepB P ops bars wB j (actMB P ops bars wB Lq s) a w ∧ stepB P ops bars wB k (actMB P ops bars wB Lq t) a w
  | .br4 i j k m r s t u, a, w => stepB P ops bars wB i (actMB P ops bars wB Lq r) a w ∧ stepB P ops bars wB j (actMB P ops bars wB Lq s) a w ∧ stepB P ops bars wB k (actMB P ops bars wB Lq t) a w ∧ stepB P ops bars wB m (actMB P ops bars wB Lq u) a w
theorem headB_step {bars : List Nat} {wB : World} {f : Bool} {i : Nat} {L : Array Bool → Act → World → Prop} {k : Act → World → Prop} {g : Nat} {done : Array Bool} {a : Act} {w w1 : World} (hx : Ext w w1) (hB : f = true → Ext wB w)
    (h : stepB P ops bars wB i k a w) (hk : ∀ a' w2, ((f && !bars.contains i) = true → Ext wB w2) → k a' w2 → headB P md ops bars wB L g (done.setIfInBounds i true) a' w2) :
    okOp P ops i (fun a' w2 => (bars.contains i = false → Ext wB w1 → Ext wB w2) ∧ headB P md ops bars wB L g (done.setIfInBounds i true) a' w2) a w1 := by
  refine okOp_mono (fun a' w2 h2 => ?_) (h w1 hx)
  obtain ⟨h3, h4⟩ := obl_spec h2
  exact ⟨h3, hk a' w2 (fun hf => by
    rw [Bool.and_eq_true] at hf
    exact h3 (by simpa using hf.2) ((hB hf.1).trans hx)) h4⟩
theorem headB_mt {bars : List Nat} {wB : World} {Lq : Act → World → Prop} (hsel : Region.noSelect ops = true) :
    ∀ (r : MT) (f : Bool) (done : Array Bool) (a : Act) (w : World), HeadInv md ops ops.size done → (f = true → Ext wB w) → mbB md ops bars f r done = true → actMB P ops bars wB Lq r a w →
      headB P md ops bars wB (fun done a w => Region.ready md ops done = [] ∧ Lq a w) r.len done a w
  | .nil, f, done, a, w, _, _, hB, h => fun w1 hx => ⟨List.isEmpty_iff.1 hB, h w1 hx⟩
  | .q i r, f, done, a, w, inv, hxB, hB, h => by
    simp only [mbB, Bool.and_eq_true] at hB
    obtain ⟨⟨⟨⟨hf, hr⟩, hfr⟩, hb⟩, hB'⟩ := hB
    obtain ⟨o, ho, v, hy, hk⟩ := h
    have hr' : i ∈ Region.ready md ops done := by simpa using hr
    exact headB_take ho (Region.noSelect_spec hsel) (barOk_spec hb) (fun done a w hL => hL.1) r.len done a w inv (hxB hf) (Region.free_spec ho hfr) hr' hy
      (headB_mt hsel r f _ _ _ (inv.set hr' (Array.getElem?_eq_some_iff.1 ho).1) hxB hB' hk)
  | .m i r, f, done, a, w, inv, hxB, hB, h => by
    simp only [mbB, Bool.and_eq_true, decide_eq_true_eq] at hB
    obtain ⟨hr, hB'⟩ := hB
    intro w1 hx
    have hri : i ∈ Region.ready md ops done := by rw [hr]; simp
    have hlt : ∀ q ∈ Region.ready md ops done, q < ops.size := fun q hq => (Array.getElem?_eq_some_iff.1 (mem_ready.1 hq).2.choose_spec.1).1
    refine ⟨by rw [hr]; simp, fun j hj => ?_⟩
    rw [hr] at hj
    obtain rfl : j = i := by simpa using hj
    exact headB_step hx hxB h fun a' w2 hb hk => headB_mt hsel r _ _ _ _ (inv.set hri (hlt _ hri)) hb hB' hk
  | .br i j r s, f, done, a, w, inv, hxB, hB, h => by
    simp only [mbB, Bool.and_eq_true, decide_eq_true_eq] at hB
    obtain ⟨⟨⟨hr, hl⟩, hB1⟩, hB2⟩ := hB
    have hl : r.len = s.len := by simpa using hl
    intro w1 hx
    have hlt : ∀ q ∈ Region.ready md ops done, q < ops.size := fun q hq => (Array.getElem?_eq_some_iff.1 (mem_ready.1 hq).2.choose_spec.1).1
    have hri : i ∈ Region.ready md ops done := by rw [hr]; simp
    have hrj : j ∈ Region.ready md ops done := by rw [hr]; simp
    refine ⟨by rw [hr]; simp, fun k hk => ?_⟩
    rw [hr] at hk
    have hk : k = i ∨ k = j := by simpa using hk
    rcases hk with rfl | rfl
    · exact headB_step hx hxB h.1 fun a' w2 hb hk => headB_mt hsel r _ _ _ _ (inv.set hri (hlt _ hri)) hb hB1 hk
    · exact headB_step hx hxB h.2 fun a' w2 hb hk => by
        have := headB_mt (Lq := Lq) hsel s _ _ _ _ (inv.set hrj (hlt _ hrj)) hb hB2 hk
        show headB P md ops bars wB _ r.len _ a' w2
        rw [hl]; exact this
  | .br3 i j k r s t, f, done, a, w, inv, hxB, hB, h => by
    simp only [mbB, Bool.and_eq_true, decide_eq_true_eq] at hB
    obtain ⟨⟨⟨⟨⟨hr, hl⟩, hl2⟩, hB1⟩, hB2⟩, hB3⟩ := hB
    have hl : r.len = s.len := by simpa using hl
    have hl2 : r.len = t.len := by simpa using hl2
    intro w1 hx
    have hlt : ∀ q ∈ Region.ready md ops done, q < ops.size := fun q hq => (Array.getElem?_eq_some_iff.1 (mem_ready.1 hq).2.choose_spec.1).1
    have hri : i ∈ Region.ready md ops done := by rw [hr]; simp
    have hrj : j ∈ Region.ready md ops done := by rw [hr]; simp
    have hrk : k ∈ Region.ready md ops done := by rw [hr]; simp
    refine ⟨by rw [hr]; simp, fun q hq => ?_⟩
    rw [hr] at hq
    have hq : q = i ∨ q = j ∨ q = k := by simpa using hq
    rcases hq with rfl | rfl | rfl
    · exact headB_step hx hxB h.1 fun a' w2 hb hk => headB_mt hsel r _ _ _ _ (inv.set hri (hlt _ hri)) hb hB1 hk
    · exact headB_step hx hxB h.2.1 fun a' w2 hb hk => by
        have := headB_mt (Lq := Lq) hsel s _ _ _ _ (inv.set hrj (hlt _ hrj)) hb hB2 hk
        show headB P md ops bars wB _ r.len _ a' w2
        rw [hl]; exact this
    · exact headB_step hx hxB h.2.2 fun a' w2 hb hk => by
        have := headB_mt (Lq := Lq) hsel t _ _ _ _ (inv.set hrk (hlt _ hrk)) hb hB3 hk
        show headB P md ops bars wB _ r.len _ a' w2
        rw [hl2]; exact this
  | .br4 i j k m r s t u, f, done, a, w, inv, hxB, hB, h => by
    simp only [mbB, Bool.and_eq_true, decide_eq_true_eq] at hB
    obtain ⟨⟨⟨⟨⟨⟨⟨hr, hl⟩, hl2⟩, hl3⟩, hB1⟩, hB2⟩, hB3⟩, hB4⟩ := hB
    have hl : r.len = s.len := by simpa using hl
    have hl2 : r.len = t.len := by simpa using hl2
    have hl3 : r.len = u.len := by simpa using hl3
    intro w1 hx
    have hlt : ∀ q ∈ Region.ready md ops done, q < ops.size := fun q hq => (Array.getElem?_eq_some_iff.1 (mem_ready.1 hq).2.choose_spec.1).1
    have hri : i ∈ Region.ready md ops done := by rw [hr]; simp
    have hrj : j ∈ Region.ready md ops done := by rw [hr]; simp
    have hrk : k ∈ Region.ready md ops done := by rw [hr]; simp
    have hrm : m ∈ Region.ready md ops done := by rw [hr]; simp
    refine ⟨by rw [hr]; simp, fun q hq => ?_⟩
    rw [hr] at hq
    have hq : q = i ∨ q = j ∨ q = k ∨ q = m := by simpa using hq
    rcases hq with rfl | rfl | rfl | rfl
    · exact headB_step hx hxB h.1 fun a' w2 hb hk => headB_mt hsel r _ _ _ _ (inv.set hri (hlt _ hri)) hb hB1 hk
    · exact headB_step hx hxB h.2.1 fun a' w2 hb hk => by
        have := headB_mt (Lq := Lq) hsel s _ _ _ _ (inv.set hrj (hlt _ hrj)) hb hB2 hk
        show headB P md ops bars wB _ r.len _ a' w2
        rw [hl]; exact this
    · exact headB_step hx hxB h.2.2.1 fun a' w2 hb hk => by
        have := headB_mt (Lq := Lq) hsel t _ _ _ _ (inv.set hrk (hlt _ hrk)) hb hB3 hk
        show headB P md ops bars wB _ r.len _ a' w2
        rw [hl2]; exact this
    · exact headB_step hx hxB h.2.2.2 fun a' w2 hb hk => by
        have := headB_mt (Lq := Lq) hsel u _ _ _ _ (inv.set hrm (hlt _ hrm)) hb hB4 hk
        show headB P md ops bars wB _ r.len _ a' w2
        rw [hl3]; exact this
theorem actMB_ext {bars : List Nat} {wB : World} {Lq : Act → World → Prop} : ∀ (r : MT) (a : Act) (w w' : World), Ext w w' → actMB P ops bars wB Lq r a w → actMB P ops bars wB Lq r a w'
  | .nil, _, _, _, hx, h => fun w1 h1 => h w1 (hx.trans h1)
  | .q _ r, _, _, _, hx, ⟨o, ho, v, hy, hk⟩ => ⟨o, ho, v, hy, actMB_ext r _ _ _ hx hk⟩
  | .m _ _, _, _, _, hx, h => fun w1 h1 => h w1 (hx.trans h1)
  | .br _ _ _ _, _, _, _, hx, h => ⟨fun w1 h1 => h.1 w1 (hx.trans h1), fun w1 h1 => h.2 w1 (hx.trans h1)⟩
  | .br3 _ _ _ _ _ _, _, _, _, hx, h => ⟨fun w1 h1 => h.1 w1 (hx.trans h1), fun w1 h1 => h.2.1 w1 (hx.trans h1), fun w1 h1 => h.2.2 w1 (hx.trans h1)⟩
  | .br4 _ _ _ _ _ _ _ _, _, _, _, hx, h => ⟨fun w1 h1 => h.1 w1 (hx.trans h1), fun w1 h1 => h.2.1 w1 (hx.trans h1), fun w1 h1 => h.2.2.1 w1 (hx.trans h1), fun w1 h1 => h.2.2.2 w1 (hx.trans h1)⟩
def mbA (ops : Array Oper) (bars : List Nat) (r : MT) : Bool := Region.noSelect ops && mbB .any ops bars true r (Array.replicate ops.size false)
theorem region_mbA {Q : Exit → Act → World → Prop} {a : Act} {w : World} {l : List Oper} (bars : List Nat) (r : MT) (hm : P.follows .mixedOrders = true) (hB : (mbA l.toArray bars r && Nat.beq r.len l.length) = true)
    (h : actMB P l.toArray bars w (fun a' w' => Q .normal a' w') r a w) (t : Nat) :
    wpOps P l.toArray Q (Region.schedule (P.follows .mixedOrders) l.toArray t) a { w with drawn := w.drawn + 1 } := by
  simp only [mbA, Bool.and_eq_true] at hB
  obtain ⟨⟨hsel, hmix⟩, hlen⟩ := hB
  have hlen : r.len = l.length := by simpa using hlen
  have inv0 : HeadInv .any l.toArray l.toArray.size (Array.replicate l.toArray.size false) :=
    ⟨by simp, fun j oj _ hl => (by rw [getD_replicate_false] at hl; cases hl), fun t h1 h2 => absurd h2 (by omega)⟩
  have H := headB_mt (P := P) (md := .any) hsel r true _ a { w with drawn := w.drawn + 1 } inv0 (fun _ => (Ext.refl w).drew) hmix (actMB_ext r a w _ (Ext.refl w).drew h)
  refine any_ops hm ?_ t
  have key := any_of_headB (Q := Q) (g := 0) (fun done a' w' hL => ⟨hL.1, hL.2⟩) r.len _ a _ H
  have e2 : r.len + 0 = l.toArray.size := by rw [hlen]; simp
  rwa [e2] at key
end
section
variable (P : Program) (T : Tab) (FS : List Nat) (n : Nat) (all : List Oper) (bars : List Nat) (wB : World)
abbrev mStepB (i : Nat) (k : Env → World → Prop) (l : Env) (w : World) : Prop := match all[i]? with
  | none => False
  | some o => ∀ w1, Ext w w1 → vops T FS (nrmH0 P) n all [o] l w1 fun l w2 => obl (bars.contains i) wB w1 w2 (k l w2)
abbrev vmtB (K : Env → World → Prop) : MT → Env → World → Prop
  | .nil, l, w => ∀ w1, Ext w w1 → K l w1
  | .q i r, l, w => match all[i]? with
    | none => False
    | some o => vops T FS (quiE P wB) n all [o] l () fun l _ => vmtB K r l w
  | .m i r, l, w => mStepB P T FS n all bars wB i (fun l w => vmtB K r l w) l w
  | .br i j r s, l, w => mStepB P T FS n all bars wB i (fun l w => vmtB K r l w) l w ∧ mStepB P T FS n all bars wB j (fun l w => vmtB K s l w) l w
  | .br3 i j k r s t, l, w => mStepB P T FS n all bars wB i (fun l w => vmtB K r l w) l w ∧ mStepB P T FS n all bars wB j (fun l w => vmtB K s l w) l w ∧ mStepB P T FS n all bars wB k (fun l w => vmtB K t l w) l w
  | .br4 i j k m r s t u, l, w => mStepB P T FS n all bars wB i (fun l w => vmtB K r l w) l w ∧ mStepB P T FS n all bars wB j (fun l w => vmtB K s l w) l w ∧ mStepB P T FS n all bars wB k (fun l w => vmtB K t l w) l w ∧ mStepB P T FS n all bars wB m (fun l w => vmtB K u l w) l w
end
section
variable {P : Program} {T : Tab} {FS : List Nat} (hT : tabOk P T = true) (hF : ∀ f, memB f FS = true → Enters P f)
include hT hF
theorem mStepB_act {n : Nat} {all : List Oper} {bars : List Nat} {wB : World} {i : Nat} {k : Env → World → Prop} {q : Act → World → Prop} (hk : ∀ l a w, At n l a → k l w → q a w) {l : Env} {a : Act} {w : World} (ha : At n l a) (h : mStepB P T FS n all bars wB i k l w) :
    stepB P all.toArray bars wB i q a w := by
  have ho : ∀ (b : Bool) (w1 w : World) (p p' : Prop), (p → p') → obl b wB w1 w p → obl b wB w1 w p' := fun b w1 w p p' hp h => by
    cases b with
    | true => exact hp h
    | false => exact ⟨h.1, hp h.2⟩
  unfold mStepB at h
  cases hi : all[i]? with
  | none => simp only [hi] at h
  | some o =>
    simp only [hi] at h
    intro w1 hx
    unfold okOp
    rw [show all.toArray[i]? = some o by simpa using hi]
    rcases vops_one hT hF (nrm_laws0 P) ha (h w1 hx) with ⟨hw, l', ha', hq⟩ | ⟨hw, l', ha', hk'⟩
    · simp only [hw, if_true]
      refine hq o a _ QF fun e w' hk' => ?_
      obtain ⟨l2, ha2, hk'⟩ := vdst_put ha' hk'
      exact ho _ _ _ _ _ (hk _ _ _ ha2) hk'
    · simp only [hw, Bool.false_eq_true, if_false]
      obtain ⟨l2, ha2, hk'⟩ := vdst_put ha' hk'
      exact ho _ _ _ _ _ (hk _ _ _ ha2) hk'
theorem vmtB_act {n : Nat} {all : List Oper} {bars : List Nat} {wB : World} {K : Env → World → Prop} {Lq : Act → World → Prop} (hK : ∀ l a w, At n l a → K l w → Lq a w) :
    ∀ {r : MT} {l : Env} {a : Act} {w : World}, At n l a → vmtB P T FS n all bars wB K r l w → actMB P all.toArray bars wB Lq r a w
  | .nil, l, a, w, ha, h => fun w1 hx => hK _ _ _ ha (h w1 hx)
  | .q i r, l, a, w, ha, h => by
    simp only [vmtB] at h
    cases hi : all[i]? with
    | none => simp only [hi] at h
    | some o =>
      simp only [hi] at h
      refine ⟨o, by simpa using hi, ?_⟩
      rcases vops_one hT hF (quiE_laws P wB) ha h with ⟨hw, l', ha', e, hq, hk⟩ | ⟨hw, l', ha', hk⟩
      · obtain ⟨l2, ha2, hk⟩ := vdst_put ha' hk
        exact ⟨e.val, .inl ⟨hw, hq⟩, vmtB_act hK ha2 hk⟩
      · obtain ⟨l2, ha2, hk⟩ := vdst_put ha' hk
        exact ⟨undef, .inr ⟨hw, rfl⟩, vmtB_act hK ha2 hk⟩
  | .m i r, l, a, w, ha, h => mStepB_act hT hF (k := fun l w => vmtB P T FS n all bars wB K r l w) (q := fun a w => actMB P all.toArray bars wB Lq r a w) (fun _ _ _ ha2 hk => vmtB_act hK ha2 hk) ha h
  | .br i j r s, l, a, w, ha, h => ⟨mStepB_act hT hF (k := fun l w => vmtB P T FS n all bars wB K r l w) (q := fun a w => actMB P all.toArray bars wB Lq r a w) (fun _ _ _ ha2 hk => vmtB_act hK ha2 hk) ha h.1, mStepB_act hT hF (k := fun l w => vmtB P T FS n all bars wB K s l w) (q := fun a w => actMB P all.toArray bars wB Lq s a w) (fun _ _ _ ha2 hk => vmtB_act hK ha2 hk) ha h.2⟩
  | .br3 i j k r s t, l, a, w, ha, h => ⟨mStepB_act hT hF (k := fun l w => vmtB P T FS n all bars wB K r l w) (q := fun a w => actMB P all.toArray bars wB Lq r a w) (fun _ _ _ ha2 hk => vmtB_act hK ha2 hk) ha h.1, mStepB_act hT hF (k := fun l w => vmtB P T FS n all bars wB K s l w) (q := fun a w => actMB P all.toArray bars wB Lq s a w) (fun _ _ _ ha2 hk => vmtB_act hK ha2 hk) ha h.2.1, mStepB_act hT hF (k := fun l w => vmtB P T FS n all bars wB K t l w) (q := fun a w => actMB P all.toArray bars wB Lq t a w) (fun _ _ _ ha2 hk => vmtB_act hK ha2 hk) ha h.2.2⟩
  | .br4 i j k m r s t u, l, a, w, ha, h => ⟨mStepB_act hT hF (k := fun l w => vmtB P T FS n all bars wB K r l w) (q := fun a w => actMB P all.toArray bars wB Lq r a w) (fun _ _ _ ha2 hk => vmtB_act hK ha2 hk) ha h.1, mStepB_act hT hF (k := fun l w => vmtB P T FS n all bars wB K s l w) (q := fun a w => actMB P all.toArray bars wB Lq s a w) (fun _ _ _ ha2 hk => vmtB_act hK ha2 hk) ha h.2.1, mStepB_act hT hF (k := fun l w => vmtB P T FS n all bars wB K t l w) (q := fun a w => actMB P all.toArray bars wB Lq t a w) (fun _ _ _ ha2 hk => vmtB_act hK ha2 hk) ha h.2.2.1, mStepB_act hT hF (k := fun l w => vmtB P T FS n all bars wB K u l w) (q := fun a w => actMB P all.toArray bars wB Lq u a w) (fun _ _ _ ha2 hk => vmtB_act hK ha2 hk) ha h.2.2.2⟩
theorem v_mtB {n : Nat} {ops : List Oper} {l : Env} {w : World} {K : Env → World → Prop} (hm : P.follows .mixedOrders = true) (bars : List Nat) (r : MT) (hB : (mbA ops.toArray bars r && Nat.beq r.len ops.length && noDefer ops) = true)
    (h : vmtB P T FS n ops bars w K r l w) : VDraw P n ops l w K := by
  have hB' := hB
  rw [Bool.and_eq_true] at hB'
  refine VDraw.ofPlain (fun a Q ha hK => ?_) hB'.2
  refine region_mbA bars r hm hB'.1 ?_
  exact vmtB_act hT hF (fun l a w ha h => hK l a w ha h) ha h
end
end V
end Go.Proofs.Ytebmmfeegjgbeaa
