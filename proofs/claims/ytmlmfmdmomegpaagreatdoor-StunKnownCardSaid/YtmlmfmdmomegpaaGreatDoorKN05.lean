/- Drawn regions as trees, where stores may come between (late loads): pending quiet operations are quiet in all worlds that have grown out of the region's first; barriers are operations that wait for all of these. Own work. No program is named here. -/
/- Copy of a string's bytes into a block of the call's own. Own work. -/
/- Ranges over functions: what an iterator owes, and the rule for the caller's loop. Own work. -/
/- Plain facts on bytes, strings, lists as cells. Own work. -/
import Derived.Test.YtmlmfmdmomegpaaGreatDoorKN04
import Derived.Test.YtmlmfmdmomegpaaGreatDoorKN03
namespace Go.Proofs.YtmlmfmdmomegpaaGreatDoor
set_option linter.unusedSimpArgs false
set_option linter.unusedVariables false
open Go.RowKit
namespace V
section
variable {P : Program} {md : Region.Mode} {ops : Array Oper}
def waits2 (md : Region.Mode) (ops : Array Oper) (j i : Nat) : Bool :=
  Region.waitsFor md ops j i || (List.range ops.size).any fun k => Region.waitsFor md ops j k && Region.waitsFor md ops k i
theorem waitsFor_on {j i : Nat} (h : Region.waitsFor md ops j i = true) : ∃ oj, ops[j]? = some oj ∧ ∃ e ∈ oj.after, Region.binds md e = true ∧ e.on = i := by
  unfold Region.waitsFor at h
  cases hj : ops[j]? with
  | none => simp only [hj] at h; cases h
  | some oj =>
    simp only [hj, Array.any_eq_true'] at h
    obtain ⟨e, he, h2⟩ := h
    simp only [Bool.and_eq_true, beq_iff_eq] at h2
    exact ⟨oj, rfl, e, he, h2.1, h2.2⟩
theorem not_waits2 {i j n : Nat} {done : Array Bool} (inv : HeadInv md ops n done) (hu : done.getD i true = false) (hr : j ∈ Region.ready md ops done) : waits2 md ops j i = false := by
  obtain ⟨_, o, ho, hall⟩ := mem_ready.1 hr
  have hu' := getD_both hu
  have h1 : Region.waitsFor md ops j i = false := by
    cases h : Region.waitsFor md ops j i with
    | false => rfl
    | true =>
      obtain ⟨oj, hoj, e, he, hb, rfl⟩ := waitsFor_on h
      obtain rfl : o = oj := Option.some.inj (ho.symm.trans hoj)
      rw [hall e he hb] at hu'; cases hu'
  unfold waits2
  rw [h1, Bool.false_or, List.any_eq_false]
  intro k _ h
  rw [Bool.and_eq_true] at h
  obtain ⟨oj, hoj, e, he, hb, rfl⟩ := waitsFor_on h.1
  obtain rfl : o = oj := Option.some.inj (ho.symm.trans hoj)
  have hk := hall e he hb
  obtain ⟨ok, hok, e2, he2, hb2, rfl⟩ := waitsFor_on h.2
  rw [inv.closed _ ok hok hk e2 he2 hb2] at hu'; cases hu'
def headB (P : Program) (md : Region.Mode) (ops : Array Oper) (bars : List Nat) (wB : World) (L : Array Bool → Act → World → Prop) : Nat → Array Bool → Act → World → Prop
  | 0, done, a, w => ∀ w1, Ext w w1 → L done a w1
  | f + 1, done, a, w => ∀ w1, Ext w w1 → Region.ready md ops done ≠ [] ∧ ∀ i ∈ Region.ready md ops done, okOp P ops i (fun a' w2 => (bars.contains i = false → Ext wB w1 → Ext wB w2) ∧ headB P md ops bars wB L f (done.setIfInBounds i true) a' w2) a w1
theorem headB_mono {bars : List Nat} {wB : World} {L : Array Bool → Act → World → Prop} {w w' : World} (hx : Ext w w') : ∀ {f : Nat} {done : Array Bool} {a : Act}, headB P md ops bars wB L f done a w → headB P md ops bars wB L f done a w'
  | 0, _, _, h => fun w1 h1 => h w1 (hx.trans h1)
  | _ + 1, _, _, h => fun w1 h1 => h w1 (hx.trans h1)
theorem any_of_headB {g : Nat} {bars : List Nat} {wB : World} {L : Array Bool → Act → World → Prop} {Q : Exit → Act → World → Prop} (hL : ∀ done a w, L done a w → wpAny P md ops Q g done a w) :
    ∀ (f : Nat) (done : Array Bool) (a : Act) (w : World), headB P md ops bars wB L f done a w → wpAny P md ops Q (f + g) done a w := by
  intro f
  induction f with
  | zero => intro done a w h; rw [Nat.zero_add]; exact hL _ _ _ (h w (Ext.refl w))
  | succ f ih =>
    intro done a w h
    rw [show f + 1 + g = (f + g) + 1 by omega]
    have h := h w (Ext.refl w)
    exact ⟨fun h0 => absurd h0 h.1, fun i hi => wpOp_of_ok (fun a' w' h' => ih _ a' w' h'.2) (h.2 i hi)⟩
theorem headB_take {bars : List Nat} {wB : World} {i : Nat} {oi : Oper} {v : Value} {L : Array Bool → Act → World → Prop} (hi : ops[i]? = some oi) (hsel : ∀ (j : Nat) (o : Oper) cs b, ops[j]? = some o → o.op ≠ .select cs b)
    (hbar : ∀ j, bars.contains j = true → waits2 md ops j i = true) (hdone : ∀ done a w, L done a w → Region.ready md ops done = []) :
    ∀ (f : Nat) (done : Array Bool) (a : Act) (w : World), HeadInv md ops ops.size done → Ext wB w →
      (∀ j oj, ops[j]? = some oj → j ≠ i → done.getD j true = false → (∀ e ∈ oj.after, Region.binds md e = true → e.on ≠ i) → oi.apart ops oj = true) →
      i ∈ Region.ready md ops done → YG P ops oi v a wB →
      headB P md ops bars wB L f (done.setIfInBounds i true) (a.put oi.dst v) w → headB P md ops bars wB L (f + 1) done a w := by
  have hsz : i < ops.size := (Array.getElem?_eq_some_iff.1 hi).1
  intro f
  induction f with
  | zero =>
    intro done a w inv hxB _ hr hy H w1 hx
    refine ⟨List.ne_nil_of_mem hr, fun j hj => ?_⟩
    by_cases e : j = i
    · subst e; exact hy.ok hi (hxB.trans hx) fun w2 h2 => ⟨fun _ h => h.trans h2, headB_mono (hx.trans h2) H⟩
    · have h1 := hdone _ _ _ (H w1 hx)
      have h2 := ready_mono (md := md) (ops := ops) hj e
      rw [h1] at h2; cases h2
  | succ f ih =>
    intro done a w inv hxB hfree hr hy H w1 hx
    have hun := (mem_ready.1 hr).1
    refine ⟨List.ne_nil_of_mem hr, fun j hj => ?_⟩
    by_cases e : j = i
    · subst e; exact hy.ok hi (hxB.trans hx) fun w2 h2 => ⟨fun _ h => h.trans h2, headB_mono (hx.trans h2) H⟩
    · obtain ⟨hjun, oj, hoj, hall⟩ := mem_ready.1 hj
      have hjsz : j < ops.size := (Array.getElem?_eq_some_iff.1 hoj).1
      have hnot : ∀ e ∈ oj.after, Region.binds md e = true → e.on ≠ i := fun e he hb heq => by
        have := hall e he hb; rw [heq, getD_both hun] at this; cases this
      have hjb : bars.contains j = false := by
        cases hb : bars.contains j with
        | false => rfl
        | true => have := hbar j hb; rw [not_waits2 inv hun hj] at this; cases this
      have key := okOp_put hoj (hfree j oj hoj e hjun hnot) (fun cs b => hsel i oi cs b hi) (fun cs b => hsel j oj cs b hoj) hy ((H w1 hx).2 j (ready_mono hj e))
      refine okOp_mono (fun a' w2 h3 => ⟨fun hb => h3.2.1 hb, ih (done.setIfInBounds j true) a' w2 (inv.set hj hjsz) (h3.2.1 hjb (hxB.trans hx)) ?_ (ready_mono hr (Ne.symm e)) h3.1 ?_⟩) key
      · intro k ok hk hki hu hno
        refine hfree k ok hk hki ?_ hno
        by_cases hjk : j = k
        · subst hjk; exact hjun
        · rwa [getD_set_ne true hjk] at hu
      · rw [Array.setIfInBounds_comm _ _ e]; exact h3.2.2
def barOk (md : Region.Mode) (ops : Array Oper) (bars : List Nat) (i : Nat) : Bool := bars.all fun j => waits2 md ops j i
theorem barOk_spec {bars : List Nat} {i : Nat} (h : barOk md ops bars i = true) (j : Nat) (hj : bars.contains j = true) : waits2 md ops j i = true := by
  unfold barOk at h
  rw [List.all_eq_true] at h
  exact h j (by simpa using hj)
/-- f: no barrier has come yet -/
def mbB (md : Region.Mode) (ops : Array Oper) (bars : List Nat) : Bool → MT → Array Bool → Bool
  | _, .nil, done => (Region.ready md ops done).isEmpty
  | f, .q i r, done => f && (Region.ready md ops done).contains i && Region.free md ops done i && barOk md ops bars i && mbB md ops bars f r (done.setIfInBounds i true)
  | f, .m i r, done => decide (Region.ready md ops done = [i]) && mbB md ops bars (f && !bars.contains i) r (done.setIfInBounds i true)
  | f, .br i j r s, done => decide (Region.ready md ops done = [i, j]) && Nat.beq r.len s.len && mbB md ops bars (f && !bars.contains i) r (done.setIfInBounds i true) && mbB md ops bars (f && !bars.contains j) s (done.setIfInBounds j true)
  | f, .br3 i j k r s t, done => decide (Region.ready md ops done = [i, j, k]) && Nat.beq r.len s.len && Nat.beq r.len t.len && mbB md ops bars (f && !bars.contains i) r (done.setIfInBounds i true) && mbB md ops bars (f && !bars.contains j) s (done.setIfInBounds j true) && mbB md ops bars (f && !bars.contains k) t (done.setIfInBounds k true)
  | f, .br4 i j k m r s t u, done => decide (Region.ready md ops done = [i, j, k, m]) && Nat.beq r.len s.len && Nat.beq r.len t.len && Nat.beq r.len u.len && mbB md ops bars (f && !bars.contains i) r (done.setIfInBounds i true) && mbB md ops bars (f && !bars.contains j) s (done.setIfInBounds j true) && mbB md ops bars (f && !bars.contains k) t (done.setIfInBounds k true) && mbB md ops bars (f && !bars.contains m) u (done.setIfInBounds m true)
def obl (b : Bool) (wB w1 w : World) (p : Prop) : Prop := match b with
  | true => p
  | false => (Ext wB w1 → Ext wB w) ∧ p
theorem obl_spec {b : Bool} {wB w1 w : World} {p : Prop} (h : obl b wB w1 w p) : (b = false → Ext wB w1 → Ext wB w) ∧ p := by
  cases b with
  | true => exact ⟨fun hc => (by cases hc), h⟩
  | false => exact ⟨fun _ => h.1, h.2⟩
def stepB (P : Program) (ops : Array Oper) (bars : List Nat) (wB : World) (i : Nat) (k : Act → World → Prop) (a : Act) (w : World) : Prop :=
  ∀ w1, Ext w w1 → okOp P ops i (fun a' w2 => obl (bars.contains i) wB w1 w2 (k a' w2)) a w1
def actMB (P : Program) (ops : Array Oper) (bars : List Nat) (wB : World) (Lq : Act → World → Prop) : MT → Act → World → Prop
  | .nil, a, w => ∀ w1, Ext w w1 → Lq a w1
  | .q i r, a, w => ∃ o, ops[i]? = some o ∧ ∃ v, YG P ops o v a wB ∧ actMB P ops bars wB Lq r (a.put o.dst v) w
  | .m i r, a, w => stepB P ops bars wB i (actMB P ops bars wB Lq r) a w
  | .br i j r s, a, w => stepB P ops bars wB i (actMB P ops bars wB Lq r) a w ∧ stepB P ops bars wB j (actMB P ops bars wB Lq s) a w
  | .br3 i j k r s t, a, w => stepB P ops bars wB i (actMB P ops bars wB Lq r) a w ∧ stepB P ops bars wB j (actMB P ops bars wB Lq s) a w ∧ stepB P ops bars wB k (actMB P ops bars wB Lq t) a w
  | .br4 i j k m r s t u, a, w => stepB P ops bars wB i (actMB P ops bars wB Lq r) a w ∧ stepB P ops bars wB j (actMB P ops bars wB Lq s) a w ∧ stepB P ops bars wB k (actMB P ops bars wB Lq t) a w ∧ stepB P ops bars wB m (actMB P ops bars wB Lq u) a w
theorem headB_step {bars : List Nat} {wB : World} {f : Bool} {i : Nat} {L : Array Bool → Act → World → Prop} {k : Act → World → Prop} {g : Nat} {done : Array Bool} {a : Act} {w w1 : World} (hx : Ext w w1) (hB : f = true → Ext wB w)
    (h : stepB P ops bars wB i k a w) (hk : ∀ a' w2, ((f && !bars.contains i) = true → Ext wB w2) → k a' w2 → headB P md ops bars wB L g (done.setIfInBounds i true) a' w2) :
    okOp P ops i (fun a' w2 => (bars.contains i = false → Ext wB w1 → Ext wB w2) ∧ headB P md ops bars wB L g (done.setIfInBounds i true) a' w2) a w1 := by
  refine okOp_mono (fun a' w2 h2 => ?_) (h w1 hx)
  obtain ⟨h3, h4⟩ := obl_spec h2
  exact ⟨h3, hk a' w2 (fun hf => by
    rw [Bool.and_eq_true] at hf
    exact h3 (by simpa using hf.2) ((hB hf.1).trans hx)) h4⟩
theorem headB_mt {bars : List Nat} {wB : World} {Lq : Act → World → Prop} (hsel : Region.noSelect ops = true) :
    ∀ (r : MT) (f : Bool) (done : Array Bool) (a : Act) (w : World), HeadInv md ops ops.size done → (f = true → Ext wB w) → mbB md ops bars f r done = true → actMB P ops bars wB Lq r a w →
      headB P md ops bars wB (fun done a w => Region.ready md ops done = [] ∧ Lq a w) r.len done a w
  | .nil, f, done, a, w, _, _, hB, h => fun w1 hx => ⟨List.isEmpty_iff.1 hB, h w1 hx⟩
  | .q i r, f, done, a, w, inv, hxB, hB, h => by
    simp only [mbB, Bool.and_eq_true] at hB
    obtain ⟨⟨⟨⟨hf, hr⟩, hfr⟩, hb⟩, hB'⟩ := hB
    obtain ⟨o, ho, v, hy, hk⟩ := h
    have hr' : i ∈ Region.ready md ops done := by simpa using hr
    exact headB_take ho (Region.noSelect_spec hsel) (barOk_spec hb) (fun done a w hL => hL.1) r.len done a w inv (hxB hf) (Region.free_spec ho hfr) hr' hy
      (headB_mt hsel r f _ _ _ (inv.set hr' (Array.getElem?_eq_some_iff.1 ho).1) hxB hB' hk)
  | .m i r, f, done, a, w, inv, hxB, hB, h => by
    simp only [mbB, Bool.and_eq_true, decide_eq_true_eq] at hB
    obtain ⟨hr, hB'⟩ := hB
    intro w1 hx
    have hri : i ∈ Region.ready md ops done := by rw [hr]; simp
    have hlt : ∀ q ∈ Region.ready md ops done, q < ops.size := fun q hq => (Array.getElem?_eq_some_iff.1 (mem_ready.1 hq).2.choose_spec.1).1
    refine ⟨by rw [hr]; simp, fun j hj => ?_⟩
    rw [hr] at hj
    obtain rfl : j = i := by simpa using hj
    exact headB_step hx hxB h fun a' w2 hb hk => headB_mt hsel r _ _ _ _ (inv.set hri (hlt _ hri)) hb hB' hk
  | .br i j r s, f, done, a, w, inv, hxB, hB, h => by
    simp only [mbB, Bool.and_eq_true, decide_eq_true_eq] at hB
    obtain ⟨⟨⟨hr, hl⟩, hB1⟩, hB2⟩ := hB
    have hl : r.len = s.len := by simpa using hl
    intro w1 hx
    have hlt : ∀ q ∈ Region.ready md ops done, q < ops.size := fun q hq => (Array.getElem?_eq_some_iff.1 (mem_ready.1 hq).2.choose_spec.1).1
    have hri : i ∈ Region.ready md ops done := by rw [hr]; simp
    have hrj : j ∈ Region.ready md ops done := by rw [hr]; simp
    refine ⟨by rw [hr]; simp, fun k hk => ?_⟩
    rw [hr] at hk
    have hk : k = i ∨ k = j := by simpa using hk
    rcases hk with rfl | rfl
    · exact headB_step hx hxB h.1 fun a' w2 hb hk => headB_mt hsel r _ _ _ _ (inv.set hri (hlt _ hri)) hb hB1 hk
    · exact headB_step hx hxB h.2 fun a' w2 hb hk => by
        have := headB_mt (Lq := Lq) hsel s _ _ _ _ (inv.set hrj (hlt _ hrj)) hb hB2 hk
        show headB P md ops bars wB _ r.len _ a' w2
        rw [hl]; exact this
  | .br3 i j k r s t, f, done, a, w, inv, hxB, hB, h => by
    simp only [mbB, Bool.and_eq_true, decide_eq_true_eq] at hB
    obtain ⟨⟨⟨⟨⟨hr, hl⟩, hl2⟩, hB1⟩, hB2⟩, hB3⟩ := hB
    have hl : r.len = s.len := by simpa using hl
    have hl2 : r.len = t.len := by simpa using hl2
    intro w1 hx
    have hlt : ∀ q ∈ Region.ready md ops done, q < ops.size := fun q hq => (Array.getElem?_eq_some_iff.1 (mem_ready.1 hq).2.choose_spec.1).1
    have hri : i ∈ Region.ready md ops done := by rw [hr]; simp
    have hrj : j ∈ Region.ready md ops done := by rw [hr]; simp
    have hrk : k ∈ Region.ready md ops done := by rw [hr]; simp
    refine ⟨by rw [hr]; simp, fun q hq => ?_⟩
    rw [hr] at hq
    have hq : q = i ∨ q = j ∨ q = k := by simpa using hq
    rcases hq with rfl | rfl | rfl
    · exact headB_step hx hxB h.1 fun a' w2 hb hk => headB_mt hsel r _ _ _ _ (inv.set hri (hlt _ hri)) hb hB1 hk
    · exact headB_step hx hxB h.2.1 fun a' w2 hb hk => by
        have := headB_mt (Lq := Lq) hsel s _ _ _ _ (inv.set hrj (hlt _ hrj)) hb hB2 hk
        show headB P md ops bars wB _ r.len _ a' w2
        rw [hl]; exact this
    · exact headB_step hx hxB h.2.2 fun a' w2 hb hk => by
        have := headB_mt (Lq := Lq) hsel t _ _ _ _ (inv.set hrk (hlt _ hrk)) hb hB3 hk
        show headB P md ops bars wB _ r.len _ a' w2
        rw [hl2]; exact this
  | .br4 i j k m r s t u, f, done, a, w, inv, hxB, hB, h => by
    simp only [mbB, Bool.and_eq_true, decide_eq_true_eq] at hB
    obtain ⟨⟨⟨⟨⟨⟨⟨hr, hl⟩, hl2⟩, hl3⟩, hB1⟩, hB2⟩, hB3⟩, hB4⟩ := hB
    have hl : r.len = s.len := by simpa using hl
    have hl2 : r.len = t.len := by simpa using hl2
    have hl3 : r.len = u.len := by simpa using hl3
    intro w1 hx
    have hlt : ∀ q ∈ Region.ready md ops done, q < ops.size := fun q hq => (Array.getElem?_eq_some_iff.1 (mem_ready.1 hq).2.choose_spec.1).1
    have hri : i ∈ Region.ready md ops done := by rw [hr]; simp
    have hrj : j ∈ Region.ready md ops done := by rw [hr]; simp
    have hrk : k ∈ Region.ready md ops done := by rw [hr]; simp
    have hrm : m ∈ Region.ready md ops done := by rw [hr]; simp
    refine ⟨by rw [hr]; simp, fun q hq => ?_⟩
    rw [hr] at hq
    have hq : q = i ∨ q = j ∨ q = k ∨ q = m := by simpa using hq
    rcases hq with rfl | rfl | rfl | rfl
    · exact headB_step hx hxB h.1 fun a' w2 hb hk => headB_mt hsel r _ _ _ _ (inv.set hri (hlt _ hri)) hb hB1 hk
    · exact headB_step hx hxB h.2.1 fun a' w2 hb hk => by
        have := headB_mt (Lq := Lq) hsel s _ _ _ _ (inv.set hrj (hlt _ hrj)) hb hB2 hk
        show headB P md ops bars wB _ r.len _ a' w2
        rw [hl]; exact this
    · exact headB_step hx hxB h.2.2.1 fun a' w2 hb hk => by
        have := headB_mt (Lq := Lq) hsel t _ _ _ _ (inv.set hrk (hlt _ hrk)) hb hB3 hk
        show headB P md ops bars wB _ r.len _ a' w2
        rw [hl2]; exact this
    · exact headB_step hx hxB h.2.2.2 fun a' w2 hb hk => by
        have := headB_mt (Lq := Lq) hsel u _ _ _ _ (inv.set hrm (hlt _ hrm)) hb hB4 hk
        show headB P md ops bars wB _ r.len _ a' w2
        rw [hl3]; exact this
theorem actMB_ext {bars : List Nat} {wB : World} {Lq : Act → World → Prop} : ∀ (r : MT) (a : Act) (w w' : World), Ext w w' → actMB P ops bars wB Lq r a w → actMB P ops bars wB Lq r a w'
  | .nil, _, _, _, hx, h => fun w1 h1 => h w1 (hx.trans h1)
  | .q _ r, _, _, _, hx, ⟨o, ho, v, hy, hk⟩ => ⟨o, ho, v, hy, actMB_ext r _ _ _ hx hk⟩
  | .m _ _, _, _, _, hx, h => fun w1 h1 => h w1 (hx.trans h1)
  | .br _ _ _ _, _, _, _, hx, h => ⟨fun w1 h1 => h.1 w1 (hx.trans h1), fun w1 h1 => h.2 w1 (hx.trans h1)⟩
  | .br3 _ _ _ _ _ _, _, _, _, hx, h => ⟨fun w1 h1 => h.1 w1 (hx.trans h1), fun w1 h1 => h.2.1 w1 (hx.trans h1), fun w1 h1 => h.2.2 w1 (hx.trans h1)⟩
  | .br4 _ _ _ _ _ _ _ _, _, _, _, hx, h => ⟨fun w1 h1 => h.1 w1 (hx.trans h1), fun w1 h1 => h.2.1 w1 (hx.trans h1), fun w1 h1 => h.2.2.1 w1 (hx.trans h1), fun w1 h1 => h.2.2.2 w1 (hx.trans h1)⟩
def mbA (ops : Array Oper) (bars : List Nat) (r : MT) : Bool := Region.noSelect ops && mbB .any ops bars true r (Array.replicate ops.size false)
theorem region_mbA {Q : Exit → Act → World → Prop} {a : Act} {w : World} {l : List Oper} (bars : List Nat) (r : MT) (hm : P.follows .mixedOrders = true) (hB : (mbA l.toArray bars r && Nat.beq r.len l.length) = true)
    (h : actMB P l.toArray bars w (fun a' w' => Q .normal a' w') r a w) (t : Nat) :
    wpOps P l.toArray Q (Region.schedule (P.follows .mixedOrders) l.toArray t) a { w with drawn := w.drawn + 1 } := by
  simp only [mbA, Bool.and_eq_true] at hB
  obtain ⟨⟨hsel, hmix⟩, hlen⟩ := hB
  have hlen : r.len = l.length := by simpa using hlen
  have inv0 : HeadInv .any l.toArray l.toArray.size (Array.replicate l.toArray.size false) :=
    ⟨by simp, fun j oj _ hl => (by rw [getD_replicate_false] at hl; cases hl), fun t h1 h2 => absurd h2 (by omega)⟩
  have H := headB_mt (P := P) (md := .any) hsel r true _ a { w with drawn := w.drawn + 1 } inv0 (fun _ => (Ext.refl w).drew) hmix (actMB_ext r a w _ (Ext.refl w).drew h)
  refine any_ops hm ?_ t
  have key := any_of_headB (Q := Q) (g := 0) (fun done a' w' hL => ⟨hL.1, hL.2⟩) r.len _ a _ H
  have e2 : r.len + 0 = l.toArray.size := by rw [hlen]; simp
  rwa [e2] at key
end
section
variable (P : Program) (T : Tab) (Fs : List Nat) (n : Nat) (all : List Oper) (bars : List Nat) (wB : World)
abbrev mStepB (i : Nat) (k : Env → World → Prop) (l : Env) (w : World) : Prop := match all[i]? with
  | none => False
  | some o => ∀ w1, Ext w w1 → vops T Fs (nrmH0 P) n all [o] l w1 fun l w2 => obl (bars.contains i) wB w1 w2 (k l w2)
abbrev vmtB (K : Env → World → Prop) : MT → Env → World → Prop
  | .nil, l, w => ∀ w1, Ext w w1 → K l w1
  | .q i r, l, w => match all[i]? with
    | none => False
    | some o => vops T Fs (quiE P wB) n all [o] l () fun l _ => vmtB K r l w
  | .m i r, l, w => mStepB P T Fs n all bars wB i (fun l w => vmtB K r l w) l w
  | .br i j r s, l, w => mStepB P T Fs n all bars wB i (fun l w => vmtB K r l w) l w ∧ mStepB P T Fs n all bars wB j (fun l w => vmtB K s l w) l w
  | .br3 i j k r s t, l, w => mStepB P T Fs n all bars wB i (fun l w => vmtB K r l w) l w ∧ mStepB P T Fs n all bars wB j (fun l w => vmtB K s l w) l w ∧ mStepB P T Fs n all bars wB k (fun l w => vmtB K t l w) l w
  | .br4 i j k m r s t u, l, w => mStepB P T Fs n all bars wB i (fun l w => vmtB K r l w) l w ∧ mStepB P T Fs n all bars wB j (fun l w => vmtB K s l w) l w ∧ mStepB P T Fs n all bars wB k (fun l w => vmtB K t l w) l w ∧ mStepB P T Fs n all bars wB m (fun l w => vmtB K u l w) l w
end
section
variable {P : Program} {T : Tab} {Fs : List Nat} (hT : tabOk P T = true) (hF : ∀ f, memB f Fs = true → Enters P f)
include hT hF
theorem mStepB_act {n : Nat} {all : List Oper} {bars : List Nat} {wB : World} {i : Nat} {k : Env → World → Prop} {q : Act → World → Prop} (hk : ∀ l a w, At n l a → k l w → q a w) {l : Env} {a : Act} {w : World} (ha : At n l a) (h : mStepB P T Fs n all bars wB i k l w) :
    stepB P all.toArray bars wB i q a w := by
  have ho : ∀ (b : Bool) (w1 w : World) (p p' : Prop), (p → p') → obl b wB w1 w p → obl b wB w1 w p' := fun b w1 w p p' hp h => by
    cases b with
    | true => exact hp h
    | false => exact ⟨h.1, hp h.2⟩
  unfold mStepB at h
  cases hi : all[i]? with
  | none => simp only [hi] at h
  | some o =>
    simp only [hi] at h
    intro w1 hx
    unfold okOp
    rw [show all.toArray[i]? = some o by simpa using hi]
    rcases vops_one hT hF (nrm_laws0 P) ha (h w1 hx) with ⟨hw, l', ha', hq⟩ | ⟨hw, l', ha', hk'⟩
    · simp only [hw, if_true]
      refine hq o a _ QF fun e w' hk' => ?_
      obtain ⟨l2, ha2, hk'⟩ := vdst_put ha' hk'
      exact ho _ _ _ _ _ (hk _ _ _ ha2) hk'
    · simp only [hw, Bool.false_eq_true, if_false]
      obtain ⟨l2, ha2, hk'⟩ := vdst_put ha' hk'
      exact ho _ _ _ _ _ (hk _ _ _ ha2) hk'
theorem vmtB_act {n : Nat} {all : List Oper} {bars : List Nat} {wB : World} {K : Env → World → Prop} {Lq : Act → World → Prop} (hK : ∀ l a w, At n l a → K l w → Lq a w) :
    ∀ {r : MT} {l : Env} {a : Act} {w : World}, At n l a → vmtB P T Fs n all bars wB K r l w → actMB P all.toArray bars wB Lq r a w
  | .nil, l, a, w, ha, h => fun w1 hx => hK _ _ _ ha (h w1 hx)
  | .q i r, l, a, w, ha, h => by
    simp only [vmtB] at h
    cases hi : all[i]? with
    | none => simp only [hi] at h
    | some o =>
      simp only [hi] at h
      refine ⟨o, by simpa using hi, ?_⟩
      rcases vops_one hT hF (quiE_laws P wB) ha h with ⟨hw, l', ha', e, hq, hk⟩ | ⟨hw, l', ha', hk⟩
      · obtain ⟨l2, ha2, hk⟩ := vdst_put ha' hk
        exact ⟨e.val, .inl ⟨hw, hq⟩, vmtB_act hK ha2 hk⟩
      · obtain ⟨l2, ha2, hk⟩ := vdst_put ha' hk
        exact ⟨undef, .inr ⟨hw, rfl⟩, vmtB_act hK ha2 hk⟩
  | .m i r, l, a, w, ha, h => mStepB_act hT hF (k := fun l w => vmtB P T Fs n all bars wB K r l w) (q := fun a w => actMB P all.toArray bars wB Lq r a w) (fun _ _ _ ha2 hk => vmtB_act hK ha2 hk) ha h
  | .br i j r s, l, a, w, ha, h => ⟨mStepB_act hT hF (k := fun l w => vmtB P T Fs n all bars wB K r l w) (q := fun a w => actMB P all.toArray bars wB Lq r a w) (fun _ _ _ ha2 hk => vmtB_act hK ha2 hk) ha h.1, mStepB_act hT hF (k := fun l w => vmtB P T Fs n all bars wB K s l w) (q := fun a w => actMB P all.toArray bars wB Lq s a w) (fun _ _ _ ha2 hk => vmtB_act hK ha2 hk) ha h.2⟩
  | .br3 i j k r s t, l, a, w, ha, h => ⟨mStepB_act hT hF (k := fun l w => vmtB P T Fs n all bars wB K r l w) (q := fun a w => actMB P all.toArray bars wB Lq r a w) (fun _ _ _ ha2 hk => vmtB_act hK ha2 hk) ha h.1, mStepB_act hT hF (k := fun l w => vmtB P T Fs n all bars wB K s l w) (q := fun a w => actMB P all.toArray bars wB Lq s a w) (fun _ _ _ ha2 hk => vmtB_act hK ha2 hk) ha h.2.1, mStepB_act hT hF (k := fun l w => vmtB P T Fs n all bars wB K t l w) (q := fun a w => actMB P all.toArray bars wB Lq t a w) (fun _ _ _ ha2 hk => vmtB_act hK ha2 hk) ha h.2.2⟩
  | .br4 i j k m r s t u, l, a, w, ha, h => ⟨mStepB_act hT hF (k := fun l w => vmtB P T Fs n all bars wB K r l w) (q := fun a w => actMB P all.toArray bars wB Lq r a w) (fun _ _ _ ha2 hk => vmtB_act hK ha2 hk) ha h.1, mStepB_act hT hF (k := fun l w => vmtB P T Fs n all bars wB K s l w) (q := fun a w => actMB P all.toArray bars wB Lq s a w) (fun _ _ _ ha2 hk => vmtB_act hK ha2 hk) ha h.2.1, mStepB_act hT hF (k := fun l w => vmtB P T Fs n all bars wB K t l w) (q := fun a w => actMB P all.toArray bars wB Lq t a w) (fun _ _ _ ha2 hk => vmtB_act hK ha2 hk) ha h.2.2.1, mStepB_act hT hF (k := fun l w => vmtB P T Fs n all bars wB K u l w) (q := fun a w => actMB P all.toArray bars wB Lq u a w) (fun _ _ _ ha2 hk => vmtB_act hK ha2 hk) ha h.2.2.2⟩
theorem v_mtB {n : Nat} {ops : List Oper} {l : Env} {w : World} {K : Env → World → Prop} (hm : P.follows .mixedOrders = true) (bars : List Nat) (r : MT) (hB : (mbA ops.toArray bars r && Nat.beq r.len ops.length && noDefer ops) = true)
    (h : vmtB P T Fs n ops bars w K r l w) : VDraw P n ops l w K := by
  have hB' := hB
  rw [Bool.and_eq_true] at hB'
  refine VDraw.ofPlain (fun a Q ha hK => ?_) hB'.2
  refine region_mbA bars r hm hB'.1 ?_
  exact vmtB_act hT hF (fun l a w ha h => hK l a w ha h) ha h
end
end V
namespace V
theorem HpM.kcopyS {P : Program} {M : List Nat} {w0 w : World} {H : List It} (h : HpM M w0 w H) {dT sT ty e bytes : Nat} (hs : slOk P dT e 1 bytes = true) (i : Nat) {b : Nat} {cs0 : List Value} {el : Nat} (hi : H[i]? = some (blk b cs0 el))
    {dLen dCap : Nat} (s : ByteArray) (cs : List Value) (hcs : cs = bytesV (s.data.toList.take dLen)) (hfit : cs.length ≤ cs0.length) {K : Value → World → Prop}
    (hk : ∀ w', HpM M w0 w' (H.set i (blk b (cs ++ cs0.drop cs.length) el)) → K (.int .i64 (cs.length : Nat)) w') :
    ∃ u w', (Builtin.copy_ #[dT, sT] ty #[.slice (some ⟨b, 0, none⟩) dLen dCap, .string s]).run P w = .ok u w' ∧ K u w' := by
  obtain ⟨hu, ⟨inf, z, hinf, hsz, rfl, hz, hzs⟩, _⟩ := slOk_spec hs
  have hb : Blk w b cs0 el := h.get hi
  obtain ⟨f, hf, hb⟩ := hb
  have h1 : ∀ v ∈ cs, v.oneCell' = true := fun v hv => by rw [hcs] at hv; simp only [bytesV, List.mem_map] at hv; obtain ⟨x, _, rfl⟩ := hv; rfl
  have hst := storeF (P := P) b 0 el f cs 0 cs0.toArray w hb (by simpa using hf) (by simpa using hfit) h1
  simp only [Nat.add_zero] at hst
  have hr : (Builtin.copy_ #[dT, sT] ty #[.slice (some ⟨b, 0, none⟩) dLen dCap, .string s]).run P w =
      .ok (goInt cs.length) (w.setRow b (cs0.toArray.toList.take 0 ++ cs ++ cs0.toArray.toList.drop (0 + cs.length)).toArray) := by
    simp [Builtin.copy_, Go.Proofs.YtmlmfmdmomegpaaGreatDoor.V.run_underlying hu, Builtin.lenOf, Builtin.firstCells, sizeOf, typeInfo, hinf, hsz, hst, Result.andThen]
    have e : List.take (s.size.min dLen) (List.map (fun b => Value.int IntKind.u8 (b.toNat : Nat)) s.data.toList) = cs := by
      rw [hcs, bytesV, List.map_take]
      rcases Nat.le_total s.size dLen with h | h
      · rw [show s.size.min dLen = s.size from Nat.min_eq_left h, List.take_of_length_le (by simp), List.take_of_length_le (by simpa using h)]
      · rw [show s.size.min dLen = dLen from Nat.min_eq_right h]
    have e2 : s.size.min dLen = cs.length := by rw [← e]; simp
    rw [e, hst, e2]
    simp
  refine ⟨_, _, hr, ?_⟩
  have := hk _ (h.upd hi (grownBy_setRow w b (cs0.toArray.toList.take 0 ++ cs ++ cs0.toArray.toList.drop (0 + cs.length)).toArray) (blk_ok _ _ _) ⟨f, hf.imp_right (fun h => by simp; omega), by simpa using setRow_heap w b cs0.toArray _ el f hb⟩ (fun b' hb' => .inl hb'))
  exact this
end V
namespace V

/-- A row of the heap, whatever it is. -/
def raw (b : Nat) (o : Obj) : It := ⟨some b, fun w => w.heap[b]? = some o⟩
theorem raw_ok (b : Nat) (o : Obj) : (raw b o).Ok := fun _ _ _ h hh => (h b rfl).trans hh
/-- The row stands as it stood in A. -/
def asIn (A : World) (b : Nat) : It := ⟨some b, fun w => w.heap[b]? = A.heap[b]?⟩
theorem asIn_ok (A : World) (b : Nat) : (asIn A b).Ok := fun _ _ _ h hh => (h b rfl).trans hh
def owners (X : List It) : List Nat := X.filterMap It.own
theorem mem_owners {X : List It} {b : Nat} : b ∈ owners X ↔ ∃ x ∈ X, x.own = some b := by simp [owners]

theorem ExtM.trans' {M : List Nat} {a b c : World} (h : ExtM M a b) (k : ExtM M b c) : ExtM M a c :=
  ⟨k.os.trans h.os, k.tape.trans h.tape, k.output.trans h.output, Nat.le_trans h.size k.size, fun i hi hm => (k.block i (Nat.lt_of_lt_of_le hi h.size) hm).trans (h.block i hi hm)⟩
theorem ExtM.of_ext {M : List Nat} {a b : World} (h : Ext a b) : ExtM M a b := (ExtM.refl M a).trans h
theorem ExtM.putObj {M : List Nat} {w : World} {b : Nat} (hb : b ∈ M) (o : Obj) : ExtM M w (w.putObj b o) :=
  ⟨rfl, rfl, rfl, by simp, fun k _ hm => World.putObj_heap_other (fun e => hm (e ▸ hb))⟩
theorem ExtM.mono {M M' : List Nat} {a b : World} (h : ExtM M a b) (hM : ∀ x ∈ M, x ∈ M') : ExtM M' a b :=
  ⟨h.os, h.tape, h.output, h.size, fun i hi hm => h.block i hi (fun hx => hm (hM i hx))⟩

/-- The things X of world A have turned into the things X' of world B; all else stands. -/
structure Reframe (X X' : List It) (A B : World) : Prop where
  ext : ExtM (owners X) A B
  ok : ∀ x ∈ X', x.Ok
  holds : ∀ x ∈ X', x.holds B
  lo : ∀ x ∈ X', ∀ b, x.own = some b → (b ∈ owners X ∨ A.heap.size ≤ b) ∧ b < B.heap.size
  apart : X'.Pairwise fun x y => ∀ b, x.own = some b → y.own ≠ some b

theorem HpM.reframe {M : List Nat} {w0 A B : World} {H X X' : List It} (h : HpM M w0 A (H ++ X)) (r : Reframe X X' A B) : HpM M w0 B (H ++ X') := by
  have hap := List.pairwise_append.1 h.apart
  have notX : ∀ x ∈ H, ∀ b, x.own = some b → b ∉ owners X := fun x hx b hb hm => by
    obtain ⟨y, hy, e⟩ := mem_owners.1 hm
    exact hap.2.2 x hx y hy b hb e
  refine ⟨⟨r.ext.os.trans h.extM.os, r.ext.tape.trans h.extM.tape, r.ext.output.trans h.extM.output, Nat.le_trans h.extM.size r.ext.size, fun k hk hm => ?_⟩, ?_, ?_, ?_, ?_⟩
  · refine (r.ext.block k (Nat.lt_of_lt_of_le hk h.extM.size) fun hx => ?_).trans (h.extM.block k hk hm)
    obtain ⟨y, hy, e⟩ := mem_owners.1 hx
    rcases (h.lo y (List.mem_append_right _ hy) k e).1 with h1 | h1
    · exact hm h1
    · omega
  · intro x hx
    rcases List.mem_append.1 hx with hx | hx
    · exact h.ok x (List.mem_append_left _ hx)
    · exact r.ok x hx
  · intro x hx
    rcases List.mem_append.1 hx with hx | hx
    · exact h.ok x (List.mem_append_left _ hx) A B r.ext.size (fun b hb => r.ext.block b (h.lo x (List.mem_append_left _ hx) b hb).2 (notX x hx b hb)) (h.holds x (List.mem_append_left _ hx))
    · exact r.holds x hx
  · intro x hx b hb
    rcases List.mem_append.1 hx with hx | hx
    · exact ⟨(h.lo x (List.mem_append_left _ hx) b hb).1, Nat.lt_of_lt_of_le (h.lo x (List.mem_append_left _ hx) b hb).2 r.ext.size⟩
    · refine ⟨?_, (r.lo x hx b hb).2⟩
      rcases (r.lo x hx b hb).1 with h1 | h1
      · obtain ⟨y, hy, e⟩ := mem_owners.1 h1
        exact (h.lo y (List.mem_append_right _ hy) b e).1
      · exact .inr (Nat.le_trans h.extM.size h1)
  · refine List.pairwise_append.2 ⟨hap.1, r.apart, fun x hx y hy b hb e => ?_⟩
    rcases (r.lo y hy b e).1 with h1 | h1
    · exact notX x hx b hb h1
    · have := (h.lo x (List.mem_append_left _ hx) b hb).2; omega
theorem HpM.reframeAt {M : List Nat} {w0 A B : World} {L X X' : List It} (h : HpM M w0 A L) (i : Nat) (hL : L.drop i = X) (r : Reframe X X' A B) : HpM M w0 B (L.take i ++ X') :=
  HpM.reframe (by rw [← hL, List.take_append_drop]; exact h) r
/-- The mark's block is shut at the function's end. -/
theorem HpM.shut {M : List Nat} {w0 w : World} {H : List It} (h : HpM M w0 w H) {i D : Nat} {o o' : Obj} (hi : H[i]? = some (raw D o)) : HpM M w0 (w.putObj D o') (H.set i (raw D o')) :=
  h.upd hi (grownBy_putObj' w D o') (raw_ok _ _) (World.putObj_heap_same (Array.getElem?_eq_some_iff.1 (h.get hi)).1) (fun b hb => .inl hb)

theorem y_mono {m : Nat} {P : Program} {l : Nat} {args : Array Value} {W : World} {R R' : Ending → World → Prop} (h : YieldAt Fence.wide m P l args W R) (hr : ∀ e w', R e w' → R' e w') : YieldAt Fence.wide m P l args W R' :=
  let ⟨fn, tm, asn, bd, h1, h2⟩ := h
  ⟨fn, tm, asn, bd, h1, h2.mono hr⟩
/-- What an iterator owes: it hands xs 0, xs 1, .. to yield, till its end or till yield says no. It may write the blocks own. -/
def Iter (P : Program) (gf : Nat) (lb : List Value) (own : List Nat) (Cap : World → Prop) (xs : Nat → List Value) (tot : Nat → Prop) (N : Nat) : Prop :=
  ∀ (l : Nat) (J Jx : Nat → World → Prop) (W : World), Cap W → (∀ k A, J k A → k < N) →
    (∀ k A B, J k A → ExtM own A B → J k B) → (∀ k A B, Jx k A → ExtM own A B → Jx k B) →
    (∀ k A, J k A → ¬ tot k → YieldAt Fence.wide 0 P l (xs k).toArray A fun e B => (e = .returned (.bool true) ∧ J (k + 1) B ∧ ∀ b ∈ own, B.heap[b]? = A.heap[b]?) ∨ (e = .returned (.bool false) ∧ Jx k B)) →
    J 0 W → Calls P gf (.func (.yield l) #[] #[] :: lb).toArray W fun e B => (∃ v, e = .returned v) ∧ ((∃ k, tot k ∧ J k B) ∨ ∃ k, Jx k B)

/-- An invariant that may be framed. -/
structure Framed (I : List It → World → Prop) : Prop where
  holds : ∀ X A, I X A → ∀ x ∈ X, x.holds A
  turn : ∀ X X' A B, Reframe X X' A B → I X A → I X' B

def zipE : List Nat → List Value → Env → Env
  | p :: ps, v :: vs, l => zipE ps vs ((p, .v v) :: l)
  | _, _, l => l
theorem zipE_at {n : Nat} : ∀ (ps : List Nat) (vs : List Value) (l : Env) (t : Array Value), (ps.all fun p => Nat.blt p n) = true → At n l { tmps := t, defers := [] } →
    At n (zipE ps vs l) { tmps := (ps.zip vs).foldl (fun t (p, v) => t.setIfInBounds p v) t, defers := [] }
  | [], _, l, t, _, h => by simpa [zipE] using h
  | p :: ps, [], l, t, _, h => by simpa [zipE] using h
  | p :: ps, v :: vs, l, t, hp, h => by
    simp only [List.all_cons, Bool.and_eq_true] at hp
    have := h.put hp.1 (.v v)
    exact zipE_at ps vs _ _ hp.2 (by simpa [Act.put] using this)

section
variable {P : Program} {T : Tab} {Fs : List Nat} (hT : tabOk P T = true) (hF : ∀ f, memB f Fs = true → Enters P f)
include hT hF
theorem v_rangeG {n : Nat} {f : Operand} {ps : Array Tmp} {assign body : Code} {l : Env} {w : World} {K : KK} {gf : Nat} {lb : List Value} {own : List Nat} {Cap : World → Prop} {xs : Nat → List Value} {tot : Nat → Prop} {N : Nat}
    (it : Iter P gf lb own Cap xs tot N) (hf : opd l f = some (.v (.func (.func gf) #[] lb.toArray))) (hg : memB gf Fs = true) (hfl : (flat assign && flat body && ps.toList.all (fun p => Nat.blt p n)) = true)
    (l1 : Env) (hl1 : SubL l1 l) (hml : marks l1 = []) (hps : ∀ k, (xs k).length = ps.size) (I : Nat → List It → World → Prop) (E : Code → List It → World → Prop) (hI : ∀ k, Framed (I k)) (hE : ∀ c, Framed (E c))
    (hN : ∀ k X A, I k X A → k < N) {M : List Nat} {w0 : World} (X0 : List It) (hX0 : HpM M w0 w X0) (hown : owners X0 = own) (hcap : ∀ B, Ext w B → Cap B) (h0 : I 0 X0 w)
    (hbody : ∀ k X A, I k X A → ¬ tot k → vgo P T Fs n assign (zipE ps.toList (xs k) l1) A { nrm := fun l' B => (∀ x ∈ X, x.holds B) ∧ ∀ X' B', Reframe X X' B B' → vgo P T Fs n body l' B' { nrm := fun _ C => I (k + 1) X' C, ret := fun _ C => E .ret X' C, ex := fun i _ C => E (.exit i) X' C, go := fun i _ C => E (.goto i) X' C }, ret := fun _ _ => False, ex := fun _ _ _ => False })
    (hdone : ∀ D k X W, tot k → I k (raw D (.deferred (some [])) :: X) W → K.nrm ((n, .m D) :: l) W)
    (hret : ∀ D X W, E .ret (raw D (.deferred (some [])) :: X) W → K.ret ((n, .m D) :: l) W)
    (hex : ∀ i D X W, E (.exit i) (raw D (.deferred (some [])) :: X) W → K.ex i ((n, .m D) :: l) W)
    (hgo : ∀ i D X W, E (.goto i) (raw D (.deferred (some [])) :: X) W → K.go i ((n, .m D) :: l) W) : VRange P n f ps assign body l w K := by
  simp only [Bool.and_eq_true] at hfl
  refine ⟨fun a ha => wpIn_rangeFunc (F := Fence.wide) fun fn hfn => ?_⟩
  obtain ⟨rec, hrec⟩ : ∃ rec : LoopState → Option Code → Loop, rec = fun st pe => { state := st, pending := pe, fn, tmps := a.tmps, params := ps, assign, body, defers := w.heap.size } := ⟨_, rfl⟩
  obtain ⟨W1, hW1⟩ : ∃ W1, (w.alloc (.deferred (some []))).alloc (.loop (rec .ready none)) = W1 := ⟨_, rfl⟩
  have hx1 : Ext w W1 := by rw [← hW1]; exact ((Ext.refl w).alloc _).alloc _
  have hL1 : W1.heap[w.heap.size + 1]? = some (.loop (rec .ready none)) := by
    rw [← hW1]; have := World.alloc_heap_new (w.alloc (.deferred (some []))) (.loop (rec .ready none)); rwa [World.size_alloc] at this
  have hD1 : W1.heap[w.heap.size]? = some (.deferred (some [])) := by
    rw [← hW1]; exact (Below.heap_alloc _ _ _ (by simp)).trans (World.alloc_heap_new w _)
  have hlt : ∀ b ∈ own, b < w.heap.size := fun b hb => by
    rw [← hown] at hb
    obtain ⟨x, hx, e⟩ := mem_owners.1 hb
    exact (hX0.lo x hx b e).2
  have hnd : own.Pairwise (fun x y => x ≠ y) := by
    rw [← hown]
    refine List.pairwise_filterMap.2 (hX0.apart.imp fun {x y} h b hb c hc e => ?_)
    subst e; exact h b hb hc
  -- the frame at a world
  obtain ⟨Fr, hFr⟩ : ∃ Fr : Obj → World → List It, Fr = fun o A => raw w.heap.size (.deferred (some [])) :: raw (w.heap.size + 1) o :: own.map (asIn A) := ⟨_, rfl⟩
  have howF : ∀ o A b, b ∈ owners (Fr o A) ↔ b = w.heap.size ∨ b = w.heap.size + 1 ∨ b ∈ own := fun o A b => by
    rw [hFr, mem_owners]
    refine ⟨?_, ?_⟩
    · rintro ⟨x, hx, e⟩
      rcases List.mem_cons.1 hx with rfl | hx
      · simp only [raw, Option.some.injEq] at e; exact .inl e.symm
      · rcases List.mem_cons.1 hx with rfl | hx
        · simp only [raw, Option.some.injEq] at e; exact .inr (.inl e.symm)
        · obtain ⟨b', hb', rfl⟩ := List.mem_map.1 hx
          simp only [asIn, Option.some.injEq] at e; subst e; exact .inr (.inr hb')
    · rintro (rfl | rfl | hb)
      · exact ⟨_, List.mem_cons_self, rfl⟩
      · exact ⟨_, List.mem_cons_of_mem _ List.mem_cons_self, rfl⟩
      · exact ⟨asIn A b, List.mem_cons_of_mem _ (List.mem_cons_of_mem _ (List.mem_map.2 ⟨b, hb, rfl⟩)), rfl⟩
  have frame : ∀ {o o' : Obj} {X : List It} {A B : World}, ExtM (owners X) A B → (∀ b ∈ own, b ∈ owners X) → (w.heap.size ∈ owners X ∨ A.heap.size ≤ w.heap.size) → (w.heap.size + 1 ∈ owners X ∨ A.heap.size ≤ w.heap.size + 1) → B.heap[w.heap.size]? = some (.deferred (some [])) → B.heap[w.heap.size + 1]? = some o' → Reframe X (Fr o' B) A B := by
    intro o o' X A B hx h1 h2 h3 hd hl
    have hs1 : w.heap.size + 1 < B.heap.size := (Array.getElem?_eq_some_iff.1 hl).1
    have mem : ∀ x ∈ Fr o' B, x = raw w.heap.size (.deferred (some [])) ∨ x = raw (w.heap.size + 1) o' ∨ ∃ b ∈ own, x = asIn B b := by
      intro x hx; rw [hFr] at hx; simpa [eq_comm] using hx
    refine ⟨hx, fun x hx => ?_, fun x hx => ?_, fun x hx b hb => ?_, ?_⟩
    · rcases mem x hx with rfl | rfl | ⟨b, _, rfl⟩
      · exact raw_ok _ _
      · exact raw_ok _ _
      · exact asIn_ok _ _
    · rcases mem x hx with rfl | rfl | ⟨b, _, rfl⟩
      · exact hd
      · exact hl
      · rfl
    · rcases mem x hx with rfl | rfl | ⟨b', hb', rfl⟩
      · simp only [raw, Option.some.injEq] at hb; subst hb; exact ⟨h2, by omega⟩
      · simp only [raw, Option.some.injEq] at hb; subst hb; exact ⟨h3, hs1⟩
      · simp only [asIn, Option.some.injEq] at hb; subst hb; exact ⟨.inl (h1 _ hb'), by have := hlt _ hb'; omega⟩
    · rw [hFr]
      refine List.pairwise_cons.2 ⟨fun y hy b hb e => ?_, List.pairwise_cons.2 ⟨fun y hy b hb e => ?_, ?_⟩⟩
      · simp only [raw, Option.some.injEq] at hb; subst hb
        rcases List.mem_cons.1 hy with rfl | hy
        · simp [raw] at e
        · obtain ⟨b', hb', rfl⟩ := List.mem_map.1 hy
          simp only [asIn, Option.some.injEq] at e; have := hlt _ hb'; omega
      · simp only [raw, Option.some.injEq] at hb; subst hb
        obtain ⟨b', hb', rfl⟩ := List.mem_map.1 hy
        simp only [asIn, Option.some.injEq] at e; have := hlt _ hb'; omega
      · refine List.pairwise_map.2 (hnd.imp fun {x y} h b hb e => ?_)
        simp only [asIn, Option.some.injEq] at hb e
        exact h (hb.trans e.symm)
  refine ⟨w.heap.size + 1, [{ target := .collected w.heap.size, args := #[] }], W1, { target := .fn (.func gf) lb.toArray, args := #[.func (.yield (w.heap.size + 1)) #[] #[]] }, W1, gf,
    #[.func (.yield (w.heap.size + 1)) #[] #[]] ++ lb.toArray, W1, ?_, ?_, fun _ _ => trivial, ?_, fun h => by simp [Fence.wide] at h, (callsIn_wide (n := 0 - 1)).2 ?_⟩
  · rw [← hW1, hrec]; exact run_enterLoop_outer _ _ _ _ _
  · simp only [resolve, opd_eval ha hf]
    simp [go_sem]
  · simp [invoke, go_sem, hF gf hg]
    try exact hF gf hg _ _
  · have key := it (w.heap.size + 1) (fun k A => I k (Fr (.loop (rec .ready none)) A) A) (fun k A => ∃ c, (c = Code.ret ∨ (∃ i, c = Code.exit i) ∨ ∃ i, c = Code.goto i) ∧ E c (Fr (.loop (rec .done (some c))) A) A) W1 (hcap W1 hx1) (fun k A h => hN k _ A h) ?_ ?_ ?_ ?_
    · have e : (Value.func (.yield (w.heap.size + 1)) #[] #[] :: lb).toArray = #[.func (.yield (w.heap.size + 1)) #[] #[]] ++ lb.toArray := by simp
      rw [← e]
      refine key.mono ?_
      rintro e W2 ⟨⟨v, rfl⟩, (⟨k, ht, hi⟩ | ⟨k, c, hc, hi⟩)⟩
      · have hl := (hI k).holds _ _ hi (raw (w.heap.size + 1) (.loop (rec .ready none))) (by rw [hFr]; simp)
        have hd := (hI k).holds _ _ hi (raw w.heap.size (.deferred (some []))) (by rw [hFr]; simp)
        have hs1 : w.heap.size + 1 < W2.heap.size := (Array.getElem?_eq_some_iff.1 hl).1
        refine ⟨none, W2.putObj (w.heap.size + 1) (.loop (rec .exhausted none)), by have := run_endLoop (P := P) hl (by rw [hrec]; simp); rw [hrec] at this ⊢; exact this, ?_⟩
        have hi' := (hI k).turn _ (Fr (.loop (rec .exhausted none)) (W2.putObj (w.heap.size + 1) (.loop (rec .exhausted none)))) _ (W2.putObj (w.heap.size + 1) (.loop (rec .exhausted none)))
          (frame (o := .loop (rec .ready none)) (ExtM.putObj ((howF _ _ _).2 (.inr (.inl rfl))) _) (fun b hb => (howF _ _ _).2 (.inr (.inr hb))) (.inl ((howF _ _ _).2 (.inl rfl))) (.inl ((howF _ _ _).2 (.inr (.inl rfl)))) ((World.putObj_heap_other (by omega)).trans hd) (World.putObj_heap_same hs1)) hi
        rw [hFr] at hi'
        exact ⟨_, ⟨by rw [ha.defers]; simp [marks, mk1], ha.size, fun t x hx => by
          simp only [look] at hx
          by_cases e : n = t
          · subst e; simp at hx; subst hx; simp [Array.getD, ha.size]
          · rw [beqF e] at hx; exact ha.holds t x hx⟩, hdone _ k _ _ ht hi'⟩
      · have hl := (hE c).holds _ _ hi (raw (w.heap.size + 1) (.loop (rec .done (some c)))) (by rw [hFr]; simp)
        have hd := (hE c).holds _ _ hi (raw w.heap.size (.deferred (some []))) (by rw [hFr]; simp)
        have hs1 : w.heap.size + 1 < W2.heap.size := (Array.getElem?_eq_some_iff.1 hl).1
        refine ⟨some c, W2.putObj (w.heap.size + 1) (.loop (rec .exhausted (some c))), by have := run_endLoop (P := P) hl (by rw [hrec]; simp); rw [hrec] at this ⊢; exact this, ?_⟩
        have hi' := (hE c).turn _ (Fr (.loop (rec .exhausted (some c))) (W2.putObj (w.heap.size + 1) (.loop (rec .exhausted (some c))))) _ (W2.putObj (w.heap.size + 1) (.loop (rec .exhausted (some c))))
          (frame (o := .loop (rec .done (some c))) (ExtM.putObj ((howF _ _ _).2 (.inr (.inl rfl))) _) (fun b hb => (howF _ _ _).2 (.inr (.inr hb))) (.inl ((howF _ _ _).2 (.inl rfl))) (.inl ((howF _ _ _).2 (.inr (.inl rfl)))) ((World.putObj_heap_other (by omega)).trans hd) (World.putObj_heap_same hs1)) hi
        rw [hFr] at hi'
        have hat : At n ((n, .m w.heap.size) :: l) { tmps := a.tmps, defers := [{ target := .collected w.heap.size, args := #[] }] ++ a.defers } := ⟨by rw [ha.defers]; simp [marks, mk1], ha.size, fun t x hx => by
          simp only [look] at hx
          by_cases e : n = t
          · subst e; simp at hx; subst hx; simp [Array.getD, ha.size]
          · rw [beqF e] at hx; exact ha.holds t x hx⟩
        rcases hc with rfl | ⟨i, rfl⟩ | ⟨i, rfl⟩
        · exact wpIn_ret ⟨_, hat, hret _ _ _ hi'⟩
        · exact wpIn_exit ⟨_, hat, hex _ _ _ _ hi'⟩
        · exact wpIn_goto ⟨_, hat, hgo _ _ _ _ hi'⟩
    · intro k A B hi hx
      have hl := (hI k).holds _ _ hi (raw (w.heap.size + 1) (.loop (rec .ready none))) (by rw [hFr]; simp)
      have hd := (hI k).holds _ _ hi (raw w.heap.size (.deferred (some []))) (by rw [hFr]; simp)
      have hs1 : w.heap.size + 1 < A.heap.size := (Array.getElem?_eq_some_iff.1 hl).1
      exact (hI k).turn _ _ _ _ (frame (o := .loop (rec .ready none)) (hx.mono fun b hb => (howF _ _ _).2 (.inr (.inr hb))) (fun b hb => (howF _ _ _).2 (.inr (.inr hb))) (.inl ((howF _ _ _).2 (.inl rfl))) (.inl ((howF _ _ _).2 (.inr (.inl rfl))))
        ((hx.block _ (by omega) (fun h => by have := hlt _ h; omega)).trans hd) ((hx.block _ hs1 (fun h => by have := hlt _ h; omega)).trans hl)) hi
    · rintro k A B ⟨c, hc, hi⟩ hx
      have hl := (hE c).holds _ _ hi (raw (w.heap.size + 1) (.loop (rec .done (some c)))) (by rw [hFr]; simp)
      have hd := (hE c).holds _ _ hi (raw w.heap.size (.deferred (some []))) (by rw [hFr]; simp)
      have hs1 : w.heap.size + 1 < A.heap.size := (Array.getElem?_eq_some_iff.1 hl).1
      exact ⟨c, hc, (hE c).turn _ _ _ _ (frame (o := .loop (rec .done (some c))) (hx.mono fun b hb => (howF _ _ _).2 (.inr (.inr hb))) (fun b hb => (howF _ _ _).2 (.inr (.inr hb))) (.inl ((howF _ _ _).2 (.inl rfl))) (.inl ((howF _ _ _).2 (.inr (.inl rfl))))
        ((hx.block _ (by omega) (fun h => by have := hlt _ h; omega)).trans hd) ((hx.block _ hs1 (fun h => by have := hlt _ h; omega)).trans hl)) hi⟩
    · -- a round
      intro k A hi ht
      have hl := (hI k).holds _ _ hi (raw (w.heap.size + 1) (.loop (rec .ready none))) (by rw [hFr]; simp)
      have hd := (hI k).holds _ _ hi (raw w.heap.size (.deferred (some []))) (by rw [hFr]; simp)
      have hs1 : w.heap.size + 1 < A.heap.size := (Array.getElem?_eq_some_iff.1 hl).1
      have hy := run_yield (P := P) (args := (xs k).toArray) hl (by rw [hrec]; simpa using hps k)
      refine ⟨rec .ready none |>.fn, _, rec .ready none |>.assign, rec .ready none |>.body, hy, roundIn_of_wpIn trivial ?_⟩
      have hat : At n (zipE ps.toList (xs k) l1) { tmps := (ps.zip (xs k).toArray).foldl (fun t (p, v) => t.setIfInBounds p v) a.tmps, defers := [] } := by
        have := zipE_at (n := n) ps.toList (xs k) l1 a.tmps hfl.2 ⟨by rw [hml], ha.size, fun t x h => ha.holds t x (hl1 t x h)⟩
        rw [← Array.foldl_toList]
        simpa using this
      rw [hrec]
      refine wpIn_mono (vgo_sound hT hF (some (w.heap.size + 1)) 0 assign (.inr ⟨hfl.1.1, rfl⟩) hat (hbody k _ A hi ht)) ?_
      rintro e a1 B hq
      cases e with
      | normal =>
        obtain ⟨l', hat', hXB, hb⟩ := hq
        have hlB := hXB (raw (w.heap.size + 1) (.loop (rec .ready none))) (by rw [hFr]; simp)
        have hdB := hXB (raw w.heap.size (.deferred (some []))) (by rw [hFr]; simp)
        have hoB : ∀ b ∈ own, B.heap[b]? = A.heap[b]? := fun b hb => hXB (asIn A b) (by rw [hFr]; exact List.mem_cons_of_mem _ (List.mem_cons_of_mem _ (List.mem_map.2 ⟨b, hb, rfl⟩)))
        have hsB : w.heap.size + 1 < B.heap.size := (Array.getElem?_eq_some_iff.1 hlB).1
        have hb2 := hb (Fr (.loop (rec .busy none)) (B.putObj (w.heap.size + 1) (.loop (rec .busy none)))) (B.putObj (w.heap.size + 1) (.loop (rec .busy none)))
          (frame (o := .loop (rec .ready none)) (ExtM.putObj ((howF _ _ _).2 (.inr (.inl rfl))) _) (fun b hb => (howF _ _ _).2 (.inr (.inr hb))) (.inl ((howF _ _ _).2 (.inl rfl))) (.inl ((howF _ _ _).2 (.inr (.inl rfl)))) ((World.putObj_heap_other (by omega)).trans hdB) (World.putObj_heap_same hsB))
        refine ⟨B.putObj (w.heap.size + 1) (.loop (rec .busy none)), by have := run_beginRound (P := P) hlB (by rw [hrec]); rw [hrec] at this ⊢; exact this, ?_⟩
        have fin : ∀ (jump : Option Code) (C : World) (I' : List It → World → Prop), Framed I' → I' (Fr (.loop (rec .busy none)) (B.putObj (w.heap.size + 1) (.loop (rec .busy none)))) C →
            ∃ C', (Instr.endRound (w.heap.size + 1) jump).run P C = .ok (.bool jump.isNone) C' ∧ I' (Fr (.loop (rec (if jump.isNone then .ready else .done) jump)) C') C' ∧ ∀ b ∈ own, C'.heap[b]? = A.heap[b]? := by
          intro jump C I' hI' hi'
          have hlC := hI'.holds _ _ hi' (raw (w.heap.size + 1) (.loop (rec .busy none))) (by rw [hFr]; simp)
          have hdC := hI'.holds _ _ hi' (raw w.heap.size (.deferred (some []))) (by rw [hFr]; simp)
          have hoC : ∀ b ∈ own, C.heap[b]? = (B.putObj (w.heap.size + 1) (.loop (rec .busy none))).heap[b]? := fun b hb => hI'.holds _ _ hi' (asIn (B.putObj (w.heap.size + 1) (.loop (rec .busy none))) b) (by rw [hFr]; exact List.mem_cons_of_mem _ (List.mem_cons_of_mem _ (List.mem_map.2 ⟨b, hb, rfl⟩)))
          have hsC : w.heap.size + 1 < C.heap.size := (Array.getElem?_eq_some_iff.1 hlC).1
          refine ⟨C.putObj (w.heap.size + 1) (.loop (rec (if jump.isNone then .ready else .done) jump)), by have := run_endRound (P := P) jump hlC; rw [hrec] at this ⊢; exact this, ?_, fun b hb => ?_⟩
          · exact hI'.turn _ _ _ _ (frame (o := .loop (rec .busy none)) (ExtM.putObj ((howF _ _ _).2 (.inr (.inl rfl))) _) (fun b hb => (howF _ _ _).2 (.inr (.inr hb))) (.inl ((howF _ _ _).2 (.inl rfl))) (.inl ((howF _ _ _).2 (.inr (.inl rfl)))) ((World.putObj_heap_other (by omega)).trans hdC) (World.putObj_heap_same hsC)) hi'
          · have := hlt b hb
            exact (World.putObj_heap_other (by omega)).trans ((hoC b hb).trans ((World.putObj_heap_other (by omega)).trans (hoB b hb)))
        refine wpIn_mono (vgo_sound hT hF (some (w.heap.size + 1)) 0 body (.inr ⟨hfl.1.2, rfl⟩) hat' hb2) ?_
        rintro e a2 C hq
        cases e with
        | normal =>
          obtain ⟨_, _, hi'⟩ := hq
          obtain ⟨C', hr, hi2, ho⟩ := fin none C _ (hI (k + 1)) hi'
          exact ⟨_, C', hr, .inl ⟨rfl, by rw [hrec] at hi2; exact hi2, ho⟩⟩
        | ret =>
          obtain ⟨_, _, hi'⟩ := hq
          obtain ⟨C', hr, hi2, ho⟩ := fin (some .ret) C _ (hE .ret) hi'
          exact ⟨_, C', hr, .inr ⟨rfl, .ret, .inl rfl, by rw [hrec] at hi2; exact hi2⟩⟩
        | exit i =>
          obtain ⟨_, _, hi'⟩ := hq
          obtain ⟨C', hr, hi2, ho⟩ := fin (some (.exit i)) C _ (hE (.exit i)) hi'
          exact ⟨_, C', hr, .inr ⟨rfl, .exit i, .inr (.inl ⟨i, rfl⟩), by rw [hrec] at hi2; exact hi2⟩⟩
        | goto i =>
          obtain ⟨_, _, hi'⟩ := hq
          obtain ⟨C', hr, hi2, ho⟩ := fin (some (.goto i)) C _ (hE (.goto i)) hi'
          exact ⟨_, C', hr, .inr ⟨rfl, .goto i, .inr (.inr ⟨i, rfl⟩), by rw [hrec] at hi2; exact hi2⟩⟩
        | panic c => exact hq.elim
        | outgrown => exact hq.elim
      | ret => obtain ⟨_, _, h⟩ := hq; exact h.elim
      | exit i => obtain ⟨_, _, h⟩ := hq; exact h.elim
      | goto i => obtain ⟨_, _, h⟩ := hq; exact h.elim
      | panic c => exact hq.elim
      | outgrown => exact hq.elim
    · exact (hI 0).turn _ _ _ _ (frame (o := .loop (rec .ready none)) ((ExtM.refl _ w).trans hx1) (fun b hb => by rw [hown]; exact hb) (.inr (Nat.le_refl _)) (.inr (by omega)) hD1 hL1) h0
/-- as E, but by no jump -/
def noGo (E : Code → List It → World → Prop) : Code → List It → World → Prop
  | .goto _ => fun _ _ => False
  | c => E c
omit hT hF in
theorem noGo_framed {E : Code → List It → World → Prop} (hE : ∀ c, Framed (E c)) : ∀ c, Framed (noGo E c) := fun c => by
  cases c <;> first | exact hE _ | exact ⟨fun _ _ h => h.elim, fun _ _ _ _ _ h => h.elim⟩
theorem v_range {n : Nat} {f : Operand} {ps : Array Tmp} {assign body : Code} {l : Env} {w : World} {K : KK} {gf : Nat} {lb : List Value} {own : List Nat} {Cap : World → Prop} {xs : Nat → List Value} {tot : Nat → Prop} {N : Nat}
    (it : Iter P gf lb own Cap xs tot N) (hf : opd l f = some (.v (.func (.func gf) #[] lb.toArray))) (hg : memB gf Fs = true) (hfl : (flat assign && flat body && ps.toList.all (fun p => Nat.blt p n)) = true)
    (hml : marks l = []) (hps : ∀ k, (xs k).length = ps.size) (I : Nat → List It → World → Prop) (E : Code → List It → World → Prop) (hI : ∀ k, Framed (I k)) (hE : ∀ c, Framed (E c))
    (hN : ∀ k X A, I k X A → k < N) {M : List Nat} {w0 : World} (X0 : List It) (hX0 : HpM M w0 w X0) (hown : owners X0 = own) (hcap : ∀ B, Ext w B → Cap B) (h0 : I 0 X0 w)
    (hbody : ∀ k X A, I k X A → ¬ tot k → vgo P T Fs n assign (zipE ps.toList (xs k) l) A { nrm := fun l' B => (∀ x ∈ X, x.holds B) ∧ ∀ X' B', Reframe X X' B B' → vgo P T Fs n body l' B' { nrm := fun _ C => I (k + 1) X' C, ret := fun _ C => E .ret X' C, ex := fun i _ C => E (.exit i) X' C }, ret := fun _ _ => False, ex := fun _ _ _ => False })
    (hdone : ∀ D k X W, tot k → I k (raw D (.deferred (some [])) :: X) W → K.nrm ((n, .m D) :: l) W)
    (hret : ∀ D X W, E .ret (raw D (.deferred (some [])) :: X) W → K.ret ((n, .m D) :: l) W)
    (hex : ∀ i D X W, E (.exit i) (raw D (.deferred (some [])) :: X) W → K.ex i ((n, .m D) :: l) W) : VRange P n f ps assign body l w K :=
  v_rangeG hT hF it hf hg hfl l (fun _ _ h => h) hml hps I (noGo E) hI (noGo_framed hE) hN X0 hX0 hown hcap h0 hbody hdone hret hex (fun _ _ _ _ h => h.elim)
/-- The same, of an iterator that may panic: at a place k that is bad, with a chain. -/
def Iter2P (P : Program) (gf : Nat) (lb : List Value) (own : List Nat) (Cap : World → Prop) (xs : Nat → List Value) (tot : Nat → Prop) (bad : Nat → List PanicEntry → Prop) (N : Nat) : Prop :=
  ∀ (l : Nat) (J Jx : Nat → List Nat → World → Prop) (W : World), Cap W → (∀ k Z A, J k Z A → k < N) →
    (∀ k Z A B Z', J k Z A → ExtM Z A B → (∀ b ∈ Z', b ∈ Z ∨ (A.heap.size ≤ b ∧ b < B.heap.size)) → Z'.Pairwise (fun x y => x ≠ y) → A.heap.size ≤ B.heap.size → J k Z' B) → (∀ k Z A B, Jx k Z A → ExtM Z A B → Jx k Z B) →
    (∀ k Z A, J k Z A → ¬ tot k → (∀ c, ¬ bad k c) → YieldAt Fence.wide 0 P l (xs k).toArray A fun e B => (e = .returned (.bool true) ∧ J (k + 1) Z B ∧ ∀ b ∈ Z, B.heap[b]? = A.heap[b]?) ∨ (e = .returned (.bool false) ∧ Jx k Z B)) →
    J 0 own W → Calls P gf (.func (.yield l) #[] #[] :: lb).toArray W fun e B => ((∃ v, e = .returned v) ∧ ((∃ k Z, tot k ∧ J k Z B) ∨ ∃ k Z, Jx k Z B)) ∨ ∃ c k Z, e = .panicked c ∧ bad k c ∧ J k Z B
theorem v_range2P {n : Nat} {f : Operand} {ps : Array Tmp} {assign body : Code} {l : Env} {w : World} {K : KK} {gf : Nat} {lb : List Value} {own : List Nat} {Cap : World → Prop} {xs : Nat → List Value} {tot : Nat → Prop} {bad : Nat → List PanicEntry → Prop} {N : Nat}
    (it : Iter2P P gf lb own Cap xs tot bad N) (hf : opd l f = some (.v (.func (.func gf) #[] lb.toArray))) (hg : memB gf Fs = true) (hfl : (flat assign && flat body && ps.toList.all (fun p => Nat.blt p n)) = true)
    (hml : marks l = []) (hps : ∀ k, (xs k).length = ps.size) (I : Nat → List It → World → Prop) (E : Code → List It → World → Prop) (hI : ∀ k, Framed (I k)) (hE : ∀ c, Framed (E c))
    (hN : ∀ k X A, I k X A → k < N) {M : List Nat} {w0 : World} (X0 : List It) (hX0 : HpM M w0 w X0) (hown : owners X0 = own) (hcap : ∀ B, Ext w B → Cap B) (h0 : I 0 X0 w)
    (hbody : ∀ k X A, I k X A → ¬ tot k → (∀ c, ¬ bad k c) → vgo P T Fs n assign (zipE ps.toList (xs k) l) A { nrm := fun l' B => (∀ x ∈ X, x.holds B) ∧ ∀ X' B', Reframe X X' B B' → vgo P T Fs n body l' B' { nrm := fun _ C => I (k + 1) X' C, ret := fun _ C => E .ret X' C, ex := fun i _ C => E (.exit i) X' C }, ret := fun _ _ => False, ex := fun _ _ _ => False })
    (hdone : ∀ D k X W, tot k → I k (raw D (.deferred (some [])) :: X) W → K.nrm ((n, .m D) :: l) W)
    (hret : ∀ D X W, E .ret (raw D (.deferred (some [])) :: X) W → K.ret ((n, .m D) :: l) W)
    (hex : ∀ i D X W, E (.exit i) (raw D (.deferred (some [])) :: X) W → K.ex i ((n, .m D) :: l) W)
    (hpan : ∀ D k c X W, bad k c → I k (raw D (.deferred (some [])) :: X) W → match K.pan with | none => False | some kp => kp c ((n, .m D) :: l) W) : VRange P n f ps assign body l w K := by
  simp only [Bool.and_eq_true] at hfl
  refine ⟨fun a ha => wpIn_rangeFunc (F := Fence.wide) fun fn hfn => ?_⟩
  obtain ⟨rec, hrec⟩ : ∃ rec : LoopState → Option Code → Loop, rec = fun st pe => { state := st, pending := pe, fn, tmps := a.tmps, params := ps, assign, body, defers := w.heap.size } := ⟨_, rfl⟩
  obtain ⟨W1, hW1⟩ : ∃ W1, (w.alloc (.deferred (some []))).alloc (.loop (rec .ready none)) = W1 := ⟨_, rfl⟩
  have hx1 : Ext w W1 := by rw [← hW1]; exact ((Ext.refl w).alloc _).alloc _
  have hL1 : W1.heap[w.heap.size + 1]? = some (.loop (rec .ready none)) := by
    rw [← hW1]; have := World.alloc_heap_new (w.alloc (.deferred (some []))) (.loop (rec .ready none)); rwa [World.size_alloc] at this
  have hD1 : W1.heap[w.heap.size]? = some (.deferred (some [])) := by
    rw [← hW1]; exact (Below.heap_alloc _ _ _ (by simp)).trans (World.alloc_heap_new w _)
  have hd0 : a.defers = [] := by rw [ha.defers, hml]
  have hlt : ∀ b ∈ own, b < w.heap.size := fun b hb => by
    rw [← hown] at hb
    obtain ⟨x, hx, e⟩ := mem_owners.1 hb
    exact (hX0.lo x hx b e).2
  have hnd : own.Pairwise (fun x y => x ≠ y) := by
    rw [← hown]
    refine List.pairwise_filterMap.2 (hX0.apart.imp fun {x y} h b hb c hc e => ?_)
    subst e; exact h b hb hc
  -- the frame at a world
  obtain ⟨Good, hGood⟩ : ∃ Good : List Nat → World → Prop, Good = fun Z A => Z.Pairwise (fun x y => x ≠ y) ∧ ∀ b ∈ Z, b ≠ w.heap.size ∧ b ≠ w.heap.size + 1 ∧ b < A.heap.size := ⟨_, rfl⟩
  obtain ⟨Fr, hFr⟩ : ∃ Fr : Obj → List Nat → World → List It, Fr = fun o Z A => raw w.heap.size (.deferred (some [])) :: raw (w.heap.size + 1) o :: Z.map (asIn A) := ⟨_, rfl⟩
  have hG0 : Good own W1 := by
    rw [hGood]
    exact ⟨hnd, fun b hb => by have := hlt b hb; have := hx1.size; omega⟩
  have hGm : ∀ {Z : List Nat} {A B : World}, Good Z A → A.heap.size ≤ B.heap.size → Good Z B := fun {Z A B} h hs => by
    rw [hGood] at h ⊢
    exact ⟨h.1, fun b hb => by have := h.2 b hb; omega⟩
  have howF : ∀ o Z A b, b ∈ owners (Fr o Z A) ↔ b = w.heap.size ∨ b = w.heap.size + 1 ∨ b ∈ Z := fun o Z A b => by
    rw [hFr, mem_owners]
    refine ⟨?_, ?_⟩
    · rintro ⟨x, hx, e⟩
      rcases List.mem_cons.1 hx with rfl | hx
      · simp only [raw, Option.some.injEq] at e; exact .inl e.symm
      · rcases List.mem_cons.1 hx with rfl | hx
        · simp only [raw, Option.some.injEq] at e; exact .inr (.inl e.symm)
        · obtain ⟨b', hb', rfl⟩ := List.mem_map.1 hx
          simp only [asIn, Option.some.injEq] at e; subst e; exact .inr (.inr hb')
    · rintro (rfl | rfl | hb)
      · exact ⟨_, List.mem_cons_self, rfl⟩
      · exact ⟨_, List.mem_cons_of_mem _ List.mem_cons_self, rfl⟩
      · exact ⟨asIn A b, List.mem_cons_of_mem _ (List.mem_cons_of_mem _ (List.mem_map.2 ⟨b, hb, rfl⟩)), rfl⟩
  have frame : ∀ {o o' : Obj} {X : List It} {A B : World} {Z : List Nat}, ExtM (owners X) A B → Good Z B → (∀ b ∈ Z, b ∈ owners X ∨ A.heap.size ≤ b) → (w.heap.size ∈ owners X ∨ A.heap.size ≤ w.heap.size) → (w.heap.size + 1 ∈ owners X ∨ A.heap.size ≤ w.heap.size + 1) → B.heap[w.heap.size]? = some (.deferred (some [])) → B.heap[w.heap.size + 1]? = some o' → Reframe X (Fr o' Z B) A B := by
    intro o o' X A B Z hx hG h1 h2 h3 hd hl
    rw [hGood] at hG
    have hs1 : w.heap.size + 1 < B.heap.size := (Array.getElem?_eq_some_iff.1 hl).1
    have mem : ∀ x ∈ Fr o' Z B, x = raw w.heap.size (.deferred (some [])) ∨ x = raw (w.heap.size + 1) o' ∨ ∃ b ∈ Z, x = asIn B b := by
      intro x hx; rw [hFr] at hx; simpa [eq_comm] using hx
    refine ⟨hx, fun x hx => ?_, fun x hx => ?_, fun x hx b hb => ?_, ?_⟩
    · rcases mem x hx with rfl | rfl | ⟨b, _, rfl⟩
      · exact raw_ok _ _
      · exact raw_ok _ _
      · exact asIn_ok _ _
    · rcases mem x hx with rfl | rfl | ⟨b, _, rfl⟩
      · exact hd
      · exact hl
      · rfl
    · rcases mem x hx with rfl | rfl | ⟨b', hb', rfl⟩
      · simp only [raw, Option.some.injEq] at hb; subst hb; exact ⟨h2, by omega⟩
      · simp only [raw, Option.some.injEq] at hb; subst hb; exact ⟨h3, hs1⟩
      · simp only [asIn, Option.some.injEq] at hb; subst hb; exact ⟨h1 _ hb', (hG.2 _ hb').2.2⟩
    · rw [hFr]
      refine List.pairwise_cons.2 ⟨fun y hy b hb e => ?_, List.pairwise_cons.2 ⟨fun y hy b hb e => ?_, ?_⟩⟩
      · simp only [raw, Option.some.injEq] at hb; subst hb
        rcases List.mem_cons.1 hy with rfl | hy
        · simp [raw] at e
        · obtain ⟨b', hb', rfl⟩ := List.mem_map.1 hy
          simp only [asIn, Option.some.injEq] at e; have := hG.2 _ hb'; omega
      · simp only [raw, Option.some.injEq] at hb; subst hb
        obtain ⟨b', hb', rfl⟩ := List.mem_map.1 hy
        simp only [asIn, Option.some.injEq] at e; have := hG.2 _ hb'; omega
      · refine List.pairwise_map.2 (hG.1.imp fun {x y} h b hb e => ?_)
        simp only [asIn, Option.some.injEq] at hb e
        exact h (hb.trans e.symm)
  refine ⟨w.heap.size + 1, [{ target := .collected w.heap.size, args := #[] }], W1, { target := .fn (.func gf) lb.toArray, args := #[.func (.yield (w.heap.size + 1)) #[] #[]] }, W1, gf,
    #[.func (.yield (w.heap.size + 1)) #[] #[]] ++ lb.toArray, W1, ?_, ?_, fun _ _ => trivial, ?_, fun h => by simp [Fence.wide] at h, (callsIn_wide (n := 0 - 1)).2 ?_⟩
  · rw [← hW1, hrec]; exact run_enterLoop_outer _ _ _ _ _
  · simp only [resolve, opd_eval ha hf]
    simp [go_sem]
  · simp [invoke, go_sem, hF gf hg]
    try exact hF gf hg _ _
  · have key := it (w.heap.size + 1) (fun k Z A => Good Z A ∧ I k (Fr (.loop (rec .ready none)) Z A) A) (fun k Z A => ∃ c, (c = Code.ret ∨ ∃ i, c = Code.exit i) ∧ Good Z A ∧ E c (Fr (.loop (rec .done (some c))) Z A) A) W1 (hcap W1 hx1) (fun k Z A h => hN k _ A h.2) ?_ ?_ ?_ ?_
    · have e : (Value.func (.yield (w.heap.size + 1)) #[] #[] :: lb).toArray = #[.func (.yield (w.heap.size + 1)) #[] #[]] ++ lb.toArray := by simp
      rw [← e]
      refine key.mono ?_
      rintro e W2 (⟨⟨v, rfl⟩, (⟨k, Z, ht, hG, hi⟩ | ⟨k, Z, c, hc, hG, hi⟩)⟩ | ⟨ch, k, Z, rfl, hbad, hG, hi⟩)
      · have hl := (hI k).holds _ _ hi (raw (w.heap.size + 1) (.loop (rec .ready none))) (by rw [hFr]; simp)
        have hd := (hI k).holds _ _ hi (raw w.heap.size (.deferred (some []))) (by rw [hFr]; simp)
        have hs1 : w.heap.size + 1 < W2.heap.size := (Array.getElem?_eq_some_iff.1 hl).1
        refine ⟨none, W2.putObj (w.heap.size + 1) (.loop (rec .exhausted none)), by have := run_endLoop (P := P) hl (by rw [hrec]; simp); rw [hrec] at this ⊢; exact this, ?_⟩
        have hi' := (hI k).turn _ (Fr (.loop (rec .exhausted none)) Z (W2.putObj (w.heap.size + 1) (.loop (rec .exhausted none)))) _ (W2.putObj (w.heap.size + 1) (.loop (rec .exhausted none)))
          (frame (o := .loop (rec .ready none)) (ExtM.putObj ((howF _ _ _ _).2 (.inr (.inl rfl))) _) (hGm hG (by simp)) (fun b hb => .inl ((howF _ _ _ _).2 (.inr (.inr hb)))) (.inl ((howF _ _ _ _).2 (.inl rfl))) (.inl ((howF _ _ _ _).2 (.inr (.inl rfl)))) ((World.putObj_heap_other (by omega)).trans hd) (World.putObj_heap_same hs1)) hi
        rw [hFr] at hi'
        exact ⟨_, ⟨by rw [hd0]; simp [marks, hml, mk1], ha.size, fun t x hx => by
          simp only [look] at hx
          by_cases e : n = t
          · subst e; simp at hx; subst hx; simp [Array.getD, ha.size]
          · rw [beqF e] at hx; exact ha.holds t x hx⟩, hdone _ k _ _ ht hi'⟩
      · have hl := (hE c).holds _ _ hi (raw (w.heap.size + 1) (.loop (rec .done (some c)))) (by rw [hFr]; simp)
        have hd := (hE c).holds _ _ hi (raw w.heap.size (.deferred (some []))) (by rw [hFr]; simp)
        have hs1 : w.heap.size + 1 < W2.heap.size := (Array.getElem?_eq_some_iff.1 hl).1
        refine ⟨some c, W2.putObj (w.heap.size + 1) (.loop (rec .exhausted (some c))), by have := run_endLoop (P := P) hl (by rw [hrec]; simp); rw [hrec] at this ⊢; exact this, ?_⟩
        have hi' := (hE c).turn _ (Fr (.loop (rec .exhausted (some c))) Z (W2.putObj (w.heap.size + 1) (.loop (rec .exhausted (some c))))) _ (W2.putObj (w.heap.size + 1) (.loop (rec .exhausted (some c))))
          (frame (o := .loop (rec .done (some c))) (ExtM.putObj ((howF _ _ _ _).2 (.inr (.inl rfl))) _) (hGm hG (by simp)) (fun b hb => .inl ((howF _ _ _ _).2 (.inr (.inr hb)))) (.inl ((howF _ _ _ _).2 (.inl rfl))) (.inl ((howF _ _ _ _).2 (.inr (.inl rfl)))) ((World.putObj_heap_other (by omega)).trans hd) (World.putObj_heap_same hs1)) hi
        rw [hFr] at hi'
        have hat : At n ((n, .m w.heap.size) :: l) { tmps := a.tmps, defers := [{ target := .collected w.heap.size, args := #[] }] ++ a.defers } := ⟨by rw [hd0]; simp [marks, hml, mk1], ha.size, fun t x hx => by
          simp only [look] at hx
          by_cases e : n = t
          · subst e; simp at hx; subst hx; simp [Array.getD, ha.size]
          · rw [beqF e] at hx; exact ha.holds t x hx⟩
        rcases hc with rfl | ⟨i, rfl⟩
        · exact wpIn_ret ⟨_, hat, hret _ _ _ hi'⟩
        · exact wpIn_exit ⟨_, hat, hex _ _ _ _ hi'⟩
      · have hat : At n ((n, .m w.heap.size) :: l) { tmps := a.tmps, defers := [{ target := .collected w.heap.size, args := #[] }] ++ a.defers } := ⟨by rw [hd0]; simp [marks, hml, mk1], ha.size, fun t x hx => by
          simp only [look] at hx
          by_cases e : n = t
          · subst e; simp at hx; subst hx; simp [Array.getD, ha.size]
          · rw [beqF e] at hx; exact ha.holds t x hx⟩
        rw [hFr] at hi
        have := hpan _ _ _ _ _ hbad hi
        simp only [rangePost, QK]
        split at this
        · exact this.elim
        · rename_i kp hkp
          simp only [hkp]
          exact ⟨_, hat, this⟩
    · rintro k Z A B Z' ⟨hG, hi⟩ hx hZ hnd' hsz
      have hl := (hI k).holds _ _ hi (raw (w.heap.size + 1) (.loop (rec .ready none))) (by rw [hFr]; simp)
      have hd := (hI k).holds _ _ hi (raw w.heap.size (.deferred (some []))) (by rw [hFr]; simp)
      have hs1 : w.heap.size + 1 < A.heap.size := (Array.getElem?_eq_some_iff.1 hl).1
      have hG' : Good Z' B := by
        rw [hGood] at hG ⊢
        refine ⟨hnd', fun b hb => ?_⟩
        rcases hZ b hb with h | h
        · have := hG.2 b h; have := hx.size; omega
        · omega
      have hnot : ∀ q, q = w.heap.size ∨ q = w.heap.size + 1 → q ∉ Z := fun q hq hm => by rw [hGood] at hG; have := hG.2 q hm; omega
      exact ⟨hG', (hI k).turn _ _ _ _ (frame (o := .loop (rec .ready none)) (hx.mono fun b hb => (howF _ _ _ _).2 (.inr (.inr hb))) hG' (fun b hb => (hZ b hb).imp (fun h => (howF _ _ _ _).2 (.inr (.inr h))) (fun h => h.1)) (.inl ((howF _ _ _ _).2 (.inl rfl))) (.inl ((howF _ _ _ _).2 (.inr (.inl rfl))))
        ((hx.block _ (by omega) (hnot _ (.inl rfl))).trans hd) ((hx.block _ hs1 (hnot _ (.inr rfl))).trans hl)) hi⟩
    · rintro k Z A B ⟨c, hc, hG, hi⟩ hx
      have hl := (hE c).holds _ _ hi (raw (w.heap.size + 1) (.loop (rec .done (some c)))) (by rw [hFr]; simp)
      have hd := (hE c).holds _ _ hi (raw w.heap.size (.deferred (some []))) (by rw [hFr]; simp)
      have hs1 : w.heap.size + 1 < A.heap.size := (Array.getElem?_eq_some_iff.1 hl).1
      have hnot : ∀ q, q = w.heap.size ∨ q = w.heap.size + 1 → q ∉ Z := fun q hq hm => by rw [hGood] at hG; have := hG.2 q hm; omega
      exact ⟨c, hc, hGm hG hx.size, (hE c).turn _ _ _ _ (frame (o := .loop (rec .done (some c))) (hx.mono fun b hb => (howF _ _ _ _).2 (.inr (.inr hb))) (hGm hG hx.size) (fun b hb => .inl ((howF _ _ _ _).2 (.inr (.inr hb)))) (.inl ((howF _ _ _ _).2 (.inl rfl))) (.inl ((howF _ _ _ _).2 (.inr (.inl rfl))))
        ((hx.block _ (by omega) (hnot _ (.inl rfl))).trans hd) ((hx.block _ hs1 (hnot _ (.inr rfl))).trans hl)) hi⟩
    · -- a round
      rintro k Z A ⟨hG, hi⟩ ht hbd
      have hl := (hI k).holds _ _ hi (raw (w.heap.size + 1) (.loop (rec .ready none))) (by rw [hFr]; simp)
      have hd := (hI k).holds _ _ hi (raw w.heap.size (.deferred (some []))) (by rw [hFr]; simp)
      have hs1 : w.heap.size + 1 < A.heap.size := (Array.getElem?_eq_some_iff.1 hl).1
      have hy := run_yield (P := P) (args := (xs k).toArray) hl (by rw [hrec]; simpa using hps k)
      refine ⟨rec .ready none |>.fn, _, rec .ready none |>.assign, rec .ready none |>.body, hy, roundIn_of_wpIn trivial ?_⟩
      have hat : At n (zipE ps.toList (xs k) l) { tmps := (ps.zip (xs k).toArray).foldl (fun t (p, v) => t.setIfInBounds p v) a.tmps, defers := [] } := by
        have := zipE_at (n := n) ps.toList (xs k) l a.tmps hfl.2 ⟨by rw [hml], ha.size, ha.holds⟩
        rw [← Array.foldl_toList]
        simpa using this
      rw [hrec]
      refine wpIn_mono (vgo_sound hT hF (some (w.heap.size + 1)) 0 assign (.inr ⟨hfl.1.1, rfl⟩) hat (hbody k _ A hi ht hbd)) ?_
      rintro e a1 B hq
      cases e with
      | normal =>
        obtain ⟨l', hat', hXB, hb⟩ := hq
        have hlB := hXB (raw (w.heap.size + 1) (.loop (rec .ready none))) (by rw [hFr]; simp)
        have hdB := hXB (raw w.heap.size (.deferred (some []))) (by rw [hFr]; simp)
        have hoB : ∀ b ∈ Z, B.heap[b]? = A.heap[b]? := fun b hb => hXB (asIn A b) (by rw [hFr]; exact List.mem_cons_of_mem _ (List.mem_cons_of_mem _ (List.mem_map.2 ⟨b, hb, rfl⟩)))
        have hsB : w.heap.size + 1 < B.heap.size := (Array.getElem?_eq_some_iff.1 hlB).1
        have hGB : Good Z B := by
          rw [hGood] at hG ⊢
          refine ⟨hG.1, fun b hb => ?_⟩
          have h1 := hG.2 b hb
          have h2 := hoB b hb
          rw [Array.getElem?_eq_getElem h1.2.2] at h2
          exact ⟨h1.1, h1.2.1, (Array.getElem?_eq_some_iff.1 h2).1⟩
        have hb2 := hb (Fr (.loop (rec .busy none)) Z (B.putObj (w.heap.size + 1) (.loop (rec .busy none)))) (B.putObj (w.heap.size + 1) (.loop (rec .busy none)))
          (frame (o := .loop (rec .ready none)) (ExtM.putObj ((howF _ _ _ _).2 (.inr (.inl rfl))) _) (hGm hGB (by simp)) (fun b hb => .inl ((howF _ _ _ _).2 (.inr (.inr hb)))) (.inl ((howF _ _ _ _).2 (.inl rfl))) (.inl ((howF _ _ _ _).2 (.inr (.inl rfl)))) ((World.putObj_heap_other (by omega)).trans hdB) (World.putObj_heap_same hsB))
        refine ⟨B.putObj (w.heap.size + 1) (.loop (rec .busy none)), by have := run_beginRound (P := P) hlB (by rw [hrec]); rw [hrec] at this ⊢; exact this, ?_⟩
        have fin : ∀ (jump : Option Code) (C : World) (I' : List It → World → Prop), Framed I' → I' (Fr (.loop (rec .busy none)) Z (B.putObj (w.heap.size + 1) (.loop (rec .busy none)))) C →
            ∃ C', (Instr.endRound (w.heap.size + 1) jump).run P C = .ok (.bool jump.isNone) C' ∧ I' (Fr (.loop (rec (if jump.isNone then .ready else .done) jump)) Z C') C' ∧ Good Z C' ∧ ∀ b ∈ Z, C'.heap[b]? = A.heap[b]? := by
          intro jump C I' hI' hi'
          have hlC := hI'.holds _ _ hi' (raw (w.heap.size + 1) (.loop (rec .busy none))) (by rw [hFr]; simp)
          have hdC := hI'.holds _ _ hi' (raw w.heap.size (.deferred (some []))) (by rw [hFr]; simp)
          have hoC : ∀ b ∈ Z, C.heap[b]? = (B.putObj (w.heap.size + 1) (.loop (rec .busy none))).heap[b]? := fun b hb => hI'.holds _ _ hi' (asIn (B.putObj (w.heap.size + 1) (.loop (rec .busy none))) b) (by rw [hFr]; exact List.mem_cons_of_mem _ (List.mem_cons_of_mem _ (List.mem_map.2 ⟨b, hb, rfl⟩)))
          have hsC : w.heap.size + 1 < C.heap.size := (Array.getElem?_eq_some_iff.1 hlC).1
          have hGC : Good Z C := by
            rw [hGood] at hGB ⊢
            refine ⟨hGB.1, fun b hb => ?_⟩
            have h1 := hGB.2 b hb
            have h2 := hoC b hb
            have h3 : b < (B.putObj (w.heap.size + 1) (.loop (rec .busy none))).heap.size := by simpa using h1.2.2
            rw [Array.getElem?_eq_getElem h3] at h2
            exact ⟨h1.1, h1.2.1, (Array.getElem?_eq_some_iff.1 h2).1⟩
          refine ⟨C.putObj (w.heap.size + 1) (.loop (rec (if jump.isNone then .ready else .done) jump)), by have := run_endRound (P := P) jump hlC; rw [hrec] at this ⊢; exact this, ?_, hGm hGC (by simp), fun b hb => ?_⟩
          · exact hI'.turn _ _ _ _ (frame (o := .loop (rec .busy none)) (ExtM.putObj ((howF _ _ _ _).2 (.inr (.inl rfl))) _) (hGm hGC (by simp)) (fun b hb => .inl ((howF _ _ _ _).2 (.inr (.inr hb)))) (.inl ((howF _ _ _ _).2 (.inl rfl))) (.inl ((howF _ _ _ _).2 (.inr (.inl rfl)))) ((World.putObj_heap_other (by omega)).trans hdC) (World.putObj_heap_same hsC)) hi'
          · have hq : b ≠ w.heap.size + 1 := by rw [hGood] at hG; exact (hG.2 b hb).2.1
            exact (World.putObj_heap_other (by omega)).trans ((hoC b hb).trans ((World.putObj_heap_other (by omega)).trans (hoB b hb)))
        refine wpIn_mono (vgo_sound hT hF (some (w.heap.size + 1)) 0 body (.inr ⟨hfl.1.2, rfl⟩) hat' hb2) ?_
        rintro e a2 C hq
        cases e with
        | normal =>
          obtain ⟨_, _, hi'⟩ := hq
          obtain ⟨C', hr, hi2, hG2, ho⟩ := fin none C _ (hI (k + 1)) hi'
          exact ⟨_, C', hr, .inl ⟨rfl, ⟨hG2, by rw [hrec] at hi2; exact hi2⟩, ho⟩⟩
        | ret =>
          obtain ⟨_, _, hi'⟩ := hq
          obtain ⟨C', hr, hi2, hG2, ho⟩ := fin (some .ret) C _ (hE .ret) hi'
          exact ⟨_, C', hr, .inr ⟨rfl, .ret, .inl rfl, hG2, by rw [hrec] at hi2; exact hi2⟩⟩
        | exit i =>
          obtain ⟨_, _, hi'⟩ := hq
          obtain ⟨C', hr, hi2, hG2, ho⟩ := fin (some (.exit i)) C _ (hE (.exit i)) hi'
          exact ⟨_, C', hr, .inr ⟨rfl, .exit i, .inr ⟨i, rfl⟩, hG2, by rw [hrec] at hi2; exact hi2⟩⟩
        | goto t => obtain ⟨_, _, h⟩ := hq; exact h.elim
        | panic c => exact hq.elim
        | outgrown => exact hq.elim
      | ret => obtain ⟨_, _, h⟩ := hq; exact h.elim
      | exit i => obtain ⟨_, _, h⟩ := hq; exact h.elim
      | goto t => obtain ⟨_, _, h⟩ := hq; exact h.elim
      | panic c => exact hq.elim
      | outgrown => exact hq.elim
    · exact ⟨hG0, (hI 0).turn _ _ _ _ (frame (o := .loop (rec .ready none)) ((ExtM.refl _ w).trans hx1) hG0 (fun b hb => .inl (by rw [hown]; exact hb)) (.inr (Nat.le_refl _)) (.inr (by omega)) hD1 hL1) h0⟩
end
end V
open Go.RowKit V

theorem bytesV_len (l : List UInt8) : (bytesV l).length = l.length := by simp [bytesV]
theorem bytesV_get {l : List UInt8} {i : Nat} {b : UInt8} (h : l[i]? = some b) : (bytesV l)[i]? = some (.int .u8 (b.toNat : Nat)) := by simp [bytesV, h]
theorem bytesV_app (a b : List UInt8) : bytesV (a ++ b) = bytesV a ++ bytesV b := by simp [bytesV]
theorem bytesV_set (l : List UInt8) (zs : List Value) (i : Nat) (b : UInt8) (h : i < l.length) : (bytesV l ++ zs).set i (.int .u8 (b.toNat : Nat)) = bytesV (l.set i b) ++ zs := by
  rw [List.set_append_left _ _ (by rw [bytesV_len]; exact h)]
  simp [bytesV, List.map_set]
theorem one_bytes (l : List UInt8) : ∀ u ∈ bytesV l, u.oneCell' = true := by intro u hu; obtain ⟨x, _, rfl⟩ := List.mem_map.1 hu; rfl
theorem mk_toList (l : List UInt8) : (⟨l.toArray⟩ : ByteArray).data.toList = l := by simp
theorem bA_size (l : List UInt8) : (⟨l.toArray⟩ : ByteArray).size = l.length := rfl
theorem toList_len (s : ByteArray) : s.data.toList.length = s.size := by simp
theorem ext_toList (s : ByteArray) (a b : Nat) : (s.extract a b).data.toList = (s.data.toList.take b).drop a := by
  rw [ByteArray.data_extract, Array.toList_extract, List.extract_eq_take_drop, List.drop_take]
theorem ba_eq {s t : ByteArray} (h : s.data.toList = t.data.toList) : s = t := by
  cases s; cases t; simp at h; simp [h]
theorem byt_at (s : ByteArray) (i : Nat) (h : i < s.data.toList.length) : byt s i = (s.data.toList[i]).toNat := by
  show (s.data.toList.getD i 0).toNat = _
  rw [List.getD_eq_getElem?_getD, List.getElem?_eq_getElem h]; rfl
/-- numbers as cells, of a kind -/
def kw (k : IntKind) (ws : List Nat) : List Value := ws.map fun x => .int k (x : Nat)
theorem kw_len (k : IntKind) (ws : List Nat) : (kw k ws).length = ws.length := by simp [kw]
theorem kw_get {k : IntKind} {ws : List Nat} {i x : Nat} (h : ws[i]? = some x) : (kw k ws)[i]? = some (.int k (x : Nat)) := by simp [kw, h]
theorem kw_set (k : IntKind) (ws : List Nat) (i x : Nat) : (kw k ws).set i (.int k (x : Nat)) = kw k (ws.set i x) := by simp [kw, List.map_set]
theorem kw_one (k : IntKind) (ws : List Nat) : ∀ u ∈ kw k ws, u.oneCell' = true := by intro u hu; obtain ⟨x, _, rfl⟩ := List.mem_map.1 hu; rfl
/-- strings as cells -/
def sw (ws : List ByteArray) : List Value := ws.map .string
theorem sw_len (ws : List ByteArray) : (sw ws).length = ws.length := by simp [sw]
theorem sw_get {ws : List ByteArray} {i : Nat} {x : ByteArray} (h : ws[i]? = some x) : (sw ws)[i]? = some (.string x) := by simp [sw, h]
theorem sw_app (a b : List ByteArray) : sw (a ++ b) = sw a ++ sw b := by simp [sw]
theorem sw_one (ws : List ByteArray) : ∀ u ∈ sw ws, u.oneCell' = true := by intro u hu; obtain ⟨x, _, rfl⟩ := List.mem_map.1 hu; rfl
theorem take_snoc {α : Type} {l : List α} {j : Nat} {x : α} (h : l[j]? = some x) : l.take (j + 1) = l.take j ++ [x] := by rw [List.take_add_one, h]; rfl
end Go.Proofs.YtmlmfmdmomegpaaGreatDoor
