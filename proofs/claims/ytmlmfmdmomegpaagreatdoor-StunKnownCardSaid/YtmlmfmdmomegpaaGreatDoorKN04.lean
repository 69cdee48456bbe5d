/- A region that draws its order, in an order that is given: quiet operations, and such as lay things of their own. Own work. -/
/- More rules on memory: rows that are made, slices as arguments. Own work. No program is named here. -/
/- Drawn regions where two operations that make things may come in either order. Own work. No program is named here. -/
/- A drawn region with moves that nothing awaits: they are taken first. Own work. -/
import Derived.Test.YtmlmfmdmomegpaaGreatDoorKN03
namespace Go.Proofs.YtmlmfmdmomegpaaGreatDoor
set_option linter.unusedSimpArgs false
set_option linter.unusedVariables false
open Go.RowKit
namespace V
def QF : Exit → Act → World → Prop := fun _ _ _ => False
section
variable {P : Program} {md : Region.Mode} {ops : Array Oper}

def okOp (P : Program) (ops : Array Oper) (i : Nat) (K : Act → World → Prop) (a : Act) (w : World) : Prop :=
  match ops[i]? with
  | none => False
  | some o => if Region.wanted o (yielded ops a.tmps) then o.wp P a w K QF else K (a.put o.dst undef) w
theorem QF_out {p : Prop} (h : LetsOut QF) : p := by
  obtain ⟨_, _, h⟩ := h; exact h.elim
theorem wp_of_ok {o : Oper} {a : Act} {w : World} {K K' : Act → World → Prop} {Q : Exit → Act → World → Prop} (h : ∀ a w, K a w → K' a w) (hh : o.wp P a w K QF) : o.wp P a w K' Q := by
  unfold Oper.wp at *
  generalize (execOp a.eval o).run P w = r at *
  cases r with
  | ok n w' =>
    cases n <;> simp only [Oper.upon] at hh ⊢ <;>
      first
        | exact h _ _ hh
        | exact Calls.mono hh (fun e w'' he => by cases e <;> first | exact h _ _ he | exact he.elim | exact QF_out he)
        | exact Rows.mono hh (fun _ _ he => h _ _ he)
        | exact hh.elim
  | halt x w' => cases x <;> simp only [Oper.upon] at hh ⊢ <;> first | exact hh | exact hh.elim
theorem wpOp_of_ok {i : Nat} {a : Act} {w : World} {K K' : Act → World → Prop} {Q : Exit → Act → World → Prop} (h : ∀ a w, K a w → K' a w) (hh : okOp P ops i K a w) : wpOp P ops Q i K' a w := by
  unfold okOp at hh
  unfold wpOp
  cases ho : ops[i]? with
  | none => simp only [ho] at hh
  | some o =>
    simp only [ho] at hh ⊢
    split
    · rename_i hw; simp only [hw, if_true] at hh; exact .inl (wp_of_ok h hh)
    · rename_i hw; simp only [hw] at hh; exact h _ _ hh
theorem okOp_mono {i : Nat} {a : Act} {w : World} {K K' : Act → World → Prop} (h : ∀ a w, K a w → K' a w) (hh : okOp P ops i K a w) : okOp P ops i K' a w := by
  unfold okOp at *
  cases ho : ops[i]? with
  | none => simp only [ho] at hh
  | some o =>
    simp only [ho] at hh ⊢
    split
    · rename_i hw; simp only [hw, if_true] at hh; exact wp_of_ok h hh
    · rename_i hw; simp only [hw] at hh; exact h _ _ hh

/-- In every world that has grown out of this one the operation yields v, and grows the world at most. -/
def YG (P : Program) (ops : Array Oper) (o : Oper) (v : Value) (a : Act) (w : World) : Prop :=
  (Region.wanted o (yielded ops a.tmps) = true ∧ ∀ w1, Ext w w1 → o.quietAt P a (Ext w1) w1 v) ∨ (Region.wanted o (yielded ops a.tmps) = false ∧ v = undef)
theorem YG.of_same {o : Oper} {v : Value} {a a' : Act} {w : World} (hy : YG P ops o v a w) (he : execOp a'.eval o = execOp a.eval o) (hw : Region.wanted o (yielded ops a'.tmps) = Region.wanted o (yielded ops a.tmps)) : YG P ops o v a' w := by
  unfold YG Oper.quietAt at *
  rw [he, hw]
  exact hy
theorem YG.mono {o : Oper} {v : Value} {a : Act} {w w' : World} (hy : YG P ops o v a w) (hx : Ext w w') : YG P ops o v a w' :=
  hy.imp (fun h => ⟨h.1, fun w1 h1 => h.2 w1 (hx.trans h1)⟩) id
theorem YG.ok {i : Nat} {o : Oper} {v : Value} {a : Act} {w w1 : World} (hi : ops[i]? = some o) (hy : YG P ops o v a w) (hx : Ext w w1) {K : Act → World → Prop} (h : ∀ w2, Ext w1 w2 → K (a.put o.dst v) w2) : okOp P ops i K a w1 := by
  unfold okOp
  simp only [hi]
  rcases hy with ⟨hw, hv⟩ | ⟨hw, rfl⟩
  · simp only [hw, if_true]
    have h3 := hv w1 hx
    unfold Oper.quietAt at h3
    unfold Oper.wp
    generalize (execOp a.eval o).run P w1 = r at *
    cases r with
    | ok n w' =>
      cases n <;> simp only [Oper.quietUpon] at h3 <;> simp only [Oper.upon]
      case value u =>
        obtain ⟨e1, e2⟩ := h3
        rw [e1, e2]
        exact h _ (Ext.refl _)
      case skip =>
        obtain ⟨e1, e2⟩ := h3
        rw [e1, ← e2]
        exact h _ (Ext.refl _)
      case enter f args =>
        obtain ⟨e1, hc⟩ := h3
        rw [e1]
        exact hc.mono fun e w'' ⟨he, hw''⟩ => by subst he; exact h _ hw''
    | halt x w' => simp only [Oper.quietUpon] at h3
  · simp only [hw, Bool.false_eq_true, if_false]; exact h _ (Ext.refl _)
theorem okOp_put {j : Nat} {oi oj : Oper} {v : Value} {w w1 : World} (hj : ops[j]? = some oj) (hap : oi.apart ops oj = true)
    (hsi : ∀ cs b, oi.op ≠ .select cs b) (hsj : ∀ cs b, oj.op ≠ .select cs b) {K : Act → World → Prop} {a : Act}
    (hy : YG P ops oi v a w) (h : okOp P ops j K (a.put oi.dst v) w1) :
    okOp P ops j (fun a' w2 => YG P ops oi v a' w ∧ K (a'.put oi.dst v) w2) a w1 := by
  obtain ⟨h1, h2, h3⟩ := Oper.apart_spec hap
  have keep : ∀ (u : Value), YG P ops oi v (a.put oj.dst u) w := fun u =>
    hy.of_same (execOp_put oi hsi a oj.dst u h3) (wanted_put oi a oj.dst u h3)
  unfold okOp at *
  simp only [hj] at *
  rw [wanted_put oj a oi.dst v h1] at h
  split
  · rename_i hw
    simp only [hw, if_true] at h
    unfold Oper.wp at *
    rw [execOp_put oj hsj a oi.dst v h1] at h
    generalize (execOp a.eval oj).run P w1 = r at *
    have put : ∀ (u : Value) (w2 : World), K ((a.put oi.dst v).put oj.dst u) w2 → YG P ops oi v (a.put oj.dst u) w ∧ K ((a.put oj.dst u).put oi.dst v) w2 := fun u w2 hk =>
      ⟨keep u, by rw [← Act.put_comm a v u h2]; exact hk⟩
    have putd : ∀ (x : Deferred) (w2 : World), K ({ tmps := (a.put oi.dst v).tmps, defers := x :: (a.put oi.dst v).defers : Act }.put oj.dst undef) w2 →
        YG P ops oi v ({ tmps := a.tmps, defers := x :: a.defers : Act }.put oj.dst undef) w ∧ K (({ tmps := a.tmps, defers := x :: a.defers : Act }.put oj.dst undef).put oi.dst v) w2 := fun x w2 hk => by
      have e : ({ tmps := (a.put oi.dst v).tmps, defers := x :: (a.put oi.dst v).defers } : Act) = ({ tmps := a.tmps, defers := x :: a.defers } : Act).put oi.dst v := by cases oi.dst <;> rfl
      have hy0 : YG P ops oi v { tmps := a.tmps, defers := x :: a.defers } w := hy.of_same rfl rfl
      refine ⟨hy0.of_same (execOp_put oi hsi _ oj.dst _ h3) (wanted_put oi _ oj.dst _ h3), ?_⟩
      rw [← Act.put_comm _ v undef h2, ← e]; exact hk
    cases r with
    | ok n w' =>
      cases n <;> simp only [Oper.upon] at h ⊢ <;>
        first
          | exact put _ _ h
          | exact Calls.mono h (fun e w'' he => by cases e <;> first | exact put _ _ he | exact he.elim | exact QF_out he)
          | exact Rows.mono h (fun _ _ he => put _ _ he)
          | exact putd _ _ h
          | exact h.elim
    | halt x w' => cases x <;> simp only [Oper.upon] at h ⊢ <;> first | exact h.elim | exact h
  · rename_i hw
    simp only [hw] at h
    exact ⟨keep _, by rw [← Act.put_comm a v undef h2]; exact h⟩

/-- f operations of the head (numbers below n) are still to come, in any order; behind them L; the world may grow meanwhile. -/
def headG (P : Program) (md : Region.Mode) (ops : Array Oper) (n : Nat) (L : Array Bool → Act → World → Prop) : Nat → Array Bool → Act → World → Prop
  | 0, done, a, w => ∀ w1, Ext w w1 → L done a w1
  | f + 1, done, a, w => ∀ w1, Ext w w1 → Region.ready md ops done ≠ [] ∧ ∀ i ∈ Region.ready md ops done, i < n ∧ okOp P ops i (fun a' w2 => Ext w1 w2 ∧ headG P md ops n L f (done.setIfInBounds i true) a' w2) a w1
theorem headG_mono {n : Nat} {L : Array Bool → Act → World → Prop} {w w' : World} (hx : Ext w w') : ∀ {f : Nat} {done : Array Bool} {a : Act}, headG P md ops n L f done a w → headG P md ops n L f done a w'
  | 0, _, _, h => fun w1 h1 => h w1 (hx.trans h1)
  | _ + 1, _, _, h => fun w1 h1 => h w1 (hx.trans h1)
theorem any_of_headG {n g : Nat} {L : Array Bool → Act → World → Prop} {Q : Exit → Act → World → Prop} (hL : ∀ done a w, L done a w → wpAny P md ops Q g done a w) :
    ∀ (f : Nat) (done : Array Bool) (a : Act) (w : World), headG P md ops n L f done a w → wpAny P md ops Q (f + g) done a w := by
  intro f
  induction f with
  | zero => intro done a w h; rw [Nat.zero_add]; exact hL _ _ _ (h w (Ext.refl w))
  | succ f ih =>
    intro done a w h
    rw [show f + 1 + g = (f + g) + 1 by omega]
    have h := h w (Ext.refl w)
    exact ⟨fun h0 => absurd h0 h.1, fun i hi => wpOp_of_ok (fun a' w' h' => ih _ a' w' h'.2) (h.2 i hi).2⟩

theorem headG_take {n i : Nat} {oi : Oper} {v : Value} {L : Array Bool → Act → World → Prop} {Inv : Array Bool → Prop} (hi : ops[i]? = some oi) (hsel : ∀ (j : Nat) (o : Oper) cs b, ops[j]? = some o → o.op ≠ .select cs b)
    (hW : ∀ done i, Inv done → i < n → done.getD i true = false → ∀ j ∈ Region.ready md ops done, j < n) (hI : ∀ done i, Inv done → i ∈ Region.ready md ops done → i < n → Inv (done.setIfInBounds i true))
    (hin : i < n) (hdone : ∀ done a w, L done a w → ∀ j ∈ Region.ready md ops done, n ≤ j) :
    ∀ (f : Nat) (done : Array Bool) (a : Act) (w : World), Inv done →
      (∀ j oj, ops[j]? = some oj → j ≠ i → done.getD j true = false → (∀ e ∈ oj.after, Region.binds md e = true → e.on ≠ i) → oi.apart ops oj = true) →
      i ∈ Region.ready md ops done → YG P ops oi v a w →
      headG P md ops n L f (done.setIfInBounds i true) (a.put oi.dst v) w → headG P md ops n L (f + 1) done a w := by
  intro f
  induction f with
  | zero =>
    intro done a w inv _ hr hy H w1 hx
    refine ⟨List.ne_nil_of_mem hr, fun j hj => ?_⟩
    have hlt : j < n := hW done i inv hin (mem_ready.1 hr).1 j hj
    refine ⟨hlt, ?_⟩
    by_cases e : j = i
    · subst e; exact hy.ok hi hx fun w2 h2 => ⟨h2, headG_mono (hx.trans h2) H⟩
    · have := hdone _ _ _ (H w1 hx) j (ready_mono hj e); omega
  | succ f ih =>
    intro done a w inv hfree hr hy H w1 hx
    have hun := (mem_ready.1 hr).1
    refine ⟨List.ne_nil_of_mem hr, fun j hj => ?_⟩
    have hlt : j < n := hW done i inv hin hun j hj
    refine ⟨hlt, ?_⟩
    by_cases e : j = i
    · subst e; exact hy.ok hi hx fun w2 h2 => ⟨h2, headG_mono (hx.trans h2) H⟩
    · obtain ⟨hjun, oj, hoj, hall⟩ := mem_ready.1 hj
      have hnot : ∀ e ∈ oj.after, Region.binds md e = true → e.on ≠ i := fun e he hb heq => by
        have := hall e he hb; rw [heq, getD_both hun] at this; cases this
      have key := okOp_put hoj (hfree j oj hoj e hjun hnot) (fun cs b => hsel i oi cs b hi) (fun cs b => hsel j oj cs b hoj) hy ((H w1 hx).2 j (ready_mono hj e)).2
      refine okOp_mono (fun a' w2 h3 => ⟨h3.2.1, ih (done.setIfInBounds j true) a' w2 (hI _ _ inv hj hlt) ?_ (ready_mono hr (Ne.symm e)) (h3.1.mono (hx.trans h3.2.1)) ?_⟩) key
      · intro k ok hk hki hu hno
        refine hfree k ok hk hki ?_ hno
        by_cases hjk : j = k
        · subst hjk; exact hjun
        · rwa [getD_set_ne true hjk] at hu
      · rw [Array.setIfInBounds_comm _ _ e]; exact h3.2.2

/-- The head's operations in an order that is given; 'true': one that makes things. -/
def mixB (md : Region.Mode) (ops : Array Oper) (n : Nat) (base : Array Bool → Bool) : List (Nat × Bool) → Array Bool → Bool
  | [], done => base done
  | (i, false) :: r, done => decide (i < n) && (Region.ready md ops done).contains i && Region.free md ops done i && mixB md ops n base r (done.setIfInBounds i true)
  | (i, true) :: r, done => decide (i < n) && decide (Region.ready md ops done = [i]) && mixB md ops n base r (done.setIfInBounds i true)
def actMix (P : Program) (ops : Array Oper) (Lq : Act → World → Prop) : List (Nat × Bool) → Act → World → Prop
  | [], a, w => ∀ w1, Ext w w1 → Lq a w1
  | (i, false) :: r, a, w => ∃ o, ops[i]? = some o ∧ ∃ v, YG P ops o v a w ∧ actMix P ops Lq r (a.put o.dst v) w
  | (i, true) :: r, a, w => ∀ w1, Ext w w1 → okOp P ops i (fun a' w2 => Ext w1 w2 ∧ actMix P ops Lq r a' w2) a w1
theorem headG_mix {n : Nat} {base : Array Bool → Bool} {Lq : Act → World → Prop} {Inv : Array Bool → Prop} (hsel : Region.noSelect ops = true)
    (hW : ∀ done i, Inv done → i < n → done.getD i true = false → ∀ j ∈ Region.ready md ops done, j < n) (hI : ∀ done i, Inv done → i ∈ Region.ready md ops done → i < n → Inv (done.setIfInBounds i true))
    (hbase : ∀ done, base done = true → ∀ j ∈ Region.ready md ops done, n ≤ j) :
    ∀ (r : List (Nat × Bool)) (done : Array Bool) (a : Act) (w : World), Inv done → mixB md ops n base r done = true → actMix P ops Lq r a w →
      headG P md ops n (fun done a w => base done = true ∧ Lq a w) r.length done a w
  | [], done, a, w, _, hB, h => fun w1 hx => ⟨hB, h w1 hx⟩
  | (i, false) :: r, done, a, w, inv, hB, h => by
    simp only [mixB, Bool.and_eq_true, decide_eq_true_eq] at hB
    obtain ⟨⟨⟨hin, hr⟩, hf⟩, hB'⟩ := hB
    obtain ⟨o, ho, v, hy, hk⟩ := h
    have hr' : i ∈ Region.ready md ops done := by simpa using hr
    exact headG_take ho (Region.noSelect_spec hsel) hW hI hin (fun done a w hL => hbase done hL.1) r.length done a w inv (Region.free_spec ho hf) hr' hy
      (headG_mix hsel hW hI hbase r _ _ _ (hI _ _ inv hr' hin) hB' hk)
  | (i, true) :: r, done, a, w, inv, hB, h => by
    simp only [mixB, Bool.and_eq_true, decide_eq_true_eq] at hB
    obtain ⟨⟨hin, hr⟩, hB'⟩ := hB
    intro w1 hx
    have hri : i ∈ Region.ready md ops done := by rw [hr]; simp
    refine ⟨by rw [hr]; simp, fun j hj => ?_⟩
    rw [hr] at hj
    obtain rfl : j = i := by simpa using hj
    exact ⟨hin, okOp_mono (fun a' w2 h2 => ⟨h2.1, headG_mix hsel hW hI hbase r _ _ _ (hI _ _ inv hri hin) hB' h2.2⟩) (h w1 hx)⟩

/-- the check, with a tail behind the first n operations; without one -/
def mixT (ops : Array Oper) (n : Nat) (r : List (Nat × Bool)) : Bool :=
  Region.noSelect ops && decide (n < ops.size) && Region.sinkB .any ops n && Region.chainB .any ops n && mixB .any ops n (Region.seqB .any ops (ops.size - n) n) r (Array.replicate ops.size false) && Nat.beq r.length n
def mixA (ops : Array Oper) (r : List (Nat × Bool)) : Bool :=
  Region.noSelect ops && mixB .any ops ops.size (fun done => (Region.ready .any ops done).isEmpty) r (Array.replicate ops.size false)
theorem region_mixT {Q : Exit → Act → World → Prop} {a : Act} {w : World} {l : List Oper} (n : Nat) (r : List (Nat × Bool)) (hm : P.follows .mixedOrders = true) (hB : mixT l.toArray n r = true)
    (h : actMix P l.toArray (fun a' w' => wpList P l.toArray Q (l.drop n) a' w') r a w) (t : Nat) :
    wpOps P l.toArray Q (Region.schedule (P.follows .mixedOrders) l.toArray t) a { w with drawn := w.drawn + 1 } := by
  simp only [mixT, Bool.and_eq_true, decide_eq_true_eq] at hB
  obtain ⟨⟨⟨⟨⟨hsel, hn⟩, hs⟩, hc⟩, hmix⟩, hlen⟩ := hB
  have hlen : r.length = n := by simpa using hlen
  have hn' : n < l.length := by simpa using hn
  have inv0 : HeadInv .any l.toArray n (Array.replicate l.toArray.size false) :=
    ⟨by simp, fun j oj _ hl => (by rw [getD_replicate_false] at hl; cases hl), fun t _ ht => getD_in (by simpa using ht) (getD_replicate_false _ _)⟩
  have H := headG_mix (P := P) (md := .any) (Inv := HeadInv .any l.toArray n) hsel
    (fun done i inv hin hun j hj => Nat.lt_of_not_le fun h => absurd hj (tail_waits hs hc hn inv _ i rfl hin hun j h))
    (fun done i inv hi hin => inv.set hi hin) (fun done hb => seqB_ready hb) r _ a { w with drawn := w.drawn + 1 } inv0 hmix (by
      have : ∀ r a w w', Ext w w' → actMix P l.toArray (fun a' w' => wpList P l.toArray Q (l.drop n) a' w') r a w → actMix P l.toArray (fun a' w' => wpList P l.toArray Q (l.drop n) a' w') r a w' := by
        intro r
        induction r with
        | nil => intro a w w' hx h w1 h1; exact h w1 (hx.trans h1)
        | cons x r ih =>
          obtain ⟨i, b⟩ := x
          cases b with
          | false => rintro a w w' hx ⟨o, ho, v, hy, hk⟩; exact ⟨o, ho, v, hy.mono hx, ih _ _ _ hx hk⟩
          | true => intro a w w' hx h w1 h1; exact h w1 (hx.trans h1)
      exact this r a w _ (Ext.refl w).drew h)
  refine any_ops hm ?_ t
  have key := any_of_headG (Q := Q) (g := l.toArray.size - n) (fun done a' w' hL => by
    have e : (l.drop n).length = l.toArray.size - n := by simp
    have := wpAny_of_seq (P := P) (md := .any) (ops := l.toArray) (Q' := Q) (l.drop n) n done a' w' (fun j => by simp) (by rw [e]; exact hL.1) hL.2
    rwa [e] at this) r.length _ a _ H
  have e2 : r.length + (l.toArray.size - n) = l.toArray.size := by rw [hlen]; simp; omega
  rwa [e2] at key
theorem region_mixA {Q : Exit → Act → World → Prop} {a : Act} {w : World} {l : List Oper} (r : List (Nat × Bool)) (hm : P.follows .mixedOrders = true) (hB : (mixA l.toArray r && Nat.beq r.length l.length) = true)
    (h : actMix P l.toArray (fun a' w' => Q .normal a' w') r a w) (t : Nat) :
    wpOps P l.toArray Q (Region.schedule (P.follows .mixedOrders) l.toArray t) a { w with drawn := w.drawn + 1 } := by
  simp only [mixA, Bool.and_eq_true] at hB
  obtain ⟨⟨hsel, hmix⟩, hlen⟩ := hB
  have hlen : r.length = l.length := by simpa using hlen
  have H := headG_mix (P := P) (md := .any) (Inv := fun _ => True) hsel
    (fun done i _ _ _ j hj => (Array.getElem?_eq_some_iff.1 (mem_ready.1 hj).2.choose_spec.1).1)
    (fun _ _ _ _ _ => trivial) (fun done hb j hj => by rw [List.isEmpty_iff.1 hb] at hj; cases hj) r _ a { w with drawn := w.drawn + 1 } trivial hmix (by
      have : ∀ r a w w', Ext w w' → actMix P l.toArray (fun a' w' => Q .normal a' w') r a w → actMix P l.toArray (fun a' w' => Q .normal a' w') r a w' := by
        intro r
        induction r with
        | nil => intro a w w' hx h w1 h1; exact h w1 (hx.trans h1)
        | cons x r ih =>
          obtain ⟨i, b⟩ := x
          cases b with
          | false => rintro a w w' hx ⟨o, ho, v, hy, hk⟩; exact ⟨o, ho, v, hy.mono hx, ih _ _ _ hx hk⟩
          | true => intro a w w' hx h w1 h1; exact h w1 (hx.trans h1)
      exact this r a w _ (Ext.refl w).drew h)
  refine any_ops hm ?_ t
  have key := any_of_headG (Q := Q) (g := 0) (fun done a' w' hL => ⟨List.isEmpty_iff.1 hL.1, hL.2⟩) r.length _ a _ H
  have e2 : r.length + 0 = l.toArray.size := by rw [hlen]; simp
  rwa [e2] at key
end

/-! ### over environments -/
def quiE (P : Program) (w : World) : Hand Unit where
  run := fun s _ K => ∃ v, (∀ w1, Ext w w1 → s.run P w1 = .ok v w1) ∧ K v ()
  call := fun f args _ K => ∃ v, (∀ w1, Ext w w1 → Calls P f args w1 fun e w' => e = .returned v ∧ Ext w1 w') ∧ K v ()
  yield := fun _ _ _ _ => False
  ext := extP P
def ME (P : Program) (w : World) (x : Sem Next) (_ : Unit) (K : EV → Unit → Prop) : Prop :=
  ∃ e, (∀ w1, Ext w w1 → Oper.quietUpon P (Ext w1) w1 e.val (x.run P w1)) ∧ K e ()
theorem quiE_laws (P : Program) (w : World) : Laws P (quiE P w) (ME P w) where
  congr := fun h ⟨e, hw, hk⟩ => ⟨e, fun w hc => by rw [h]; exact hw w hc, hk⟩
  pure := fun {e s K} hk => ⟨e, fun w _ => ⟨rfl, rfl⟩, hk⟩
  run := fun {x s K} h => by
    obtain ⟨v, hr, hk⟩ := h
    refine ⟨.v v, fun w hc => ?_, hk⟩
    rw [Sem.run_bind, hr w hc]
    exact ⟨rfl, rfl⟩
  runU := fun {x s K} h => by
    obtain ⟨v, hr, hk⟩ := h
    refine ⟨.v v, fun w hc => ?_, hk⟩
    have hr := hr w hc
    rw [Sem.run_bind] at hr ⊢
    cases hx : x.run P w with
    | ok u w2 =>
      rw [hx] at hr
      simp only [Result.andThen, Sem.run_pure, Result.ok.injEq] at hr
      obtain ⟨rfl, rfl⟩ := hr
      exact ⟨rfl, rfl⟩
    | halt h w2 => rw [hx] at hr; simp [Result.andThen] at hr
  call := fun {f args s K} he h => by
    obtain ⟨v, hr, hk⟩ := h
    refine ⟨.v v, fun w hc => ?_, hk⟩
    rw [he]
    exact ⟨rfl, hr w hc⟩
  yield := fun h => h.elim
  ext := fun h => h

section
variable (P : Program) (T : Tab) (Fs : List Nat) (n : Nat) (all : List Oper)
abbrev vmix (K : Env → World → Prop) : List (Nat × Bool) → Env → World → Prop
  | [], l, w => ∀ w1, Ext w w1 → K l w1
  | (i, false) :: r, l, w => match all[i]? with
    | none => False
    | some o => vops T Fs (quiE P w) n all [o] l () fun l _ => vmix K r l w
  | (i, true) :: r, l, w => match all[i]? with
    | none => False
    | some o => ∀ w1, Ext w w1 → vops T Fs (nrmH0 P) n all [o] l w1 fun l w2 => Ext w1 w2 ∧ vmix K r l w2
end
section
variable {P : Program} {T : Tab} {Fs : List Nat} (hT : tabOk P T = true) (hF : ∀ f, memB f Fs = true → Enters P f)
include hT hF
/-- One operation: what its run and what its being passed over ask. -/
theorem vops_one {σ : Type} {H : Hand σ} {M : Sem Next → σ → (EV → σ → Prop) → Prop} (L : Laws P H M) {n : Nat} {all : List Oper} {o : Oper} {l : Env} {a : Act} {s : σ} {K : Env → σ → Prop} (ha : At n l a) (h : vops T Fs H n all [o] l s K) :
    (Region.wanted o (yielded all.toArray a.tmps) = true ∧ ∃ l', At n l' a ∧ M (execOp a.eval o) s (vdst n o l' K)) ∨
    (Region.wanted o (yielded all.toArray a.tmps) = false ∧ ∃ l', At n l' a ∧ vdst n o l' K (.v undef) s) := by
  have run : ∀ {l : Env}, At n l a → Region.wanted o (yielded all.toArray a.tmps) = true → vop T Fs H l o.op o.type s (vdst n o l (fun l s => vops T Fs H n all [] l s K)) →
      ∃ l', At n l' a ∧ M (execOp a.eval o) s (vdst n o l' K) := by
    intro l ha hw h
    exact ⟨l, ha, vop_sound hT hF L ha h⟩
  simp only [vops] at h
  split at h
  · rename_i hg
    have hw : Region.wanted o (yielded all.toArray a.tmps) = true := by simp [Region.wanted, hg]
    exact .inl ⟨hw, run ha hw h⟩
  · rename_i j want hg
    split at h <;> try exact h.elim
    rename_i d hj
    have lit : ∀ {b : Bool}, look l d = some (.v (.bool b)) → ∀ e : EV, e.isM = false → e.val = .bool b → At n ((d, e) :: l) a := fun {b} hl e hm he =>
      ⟨by rw [marks_cons hm]; exact ha.defers, ha.size, fun t x hx => by
        simp only [look] at hx
        by_cases hd : d = t
        · subst hd; simp at hx; subst hx; rw [ha.holds d _ hl, he]
        · rw [beqF hd] at hx; exact ha.holds t x hx⟩
    split at h
    · rename_i hl
      have hy := yielded_of ha hj hl
      cases want with
      | true =>
        have hw : Region.wanted o (yielded all.toArray a.tmps) = true := by simp [Region.wanted, hg, hy]
        exact .inl ⟨hw, run ha hw h⟩
      | false => exact .inr ⟨by simp [Region.wanted, hg, hy], l, ha, h⟩
    · rename_i hl
      have hy := yielded_of ha hj hl
      cases want with
      | true => exact .inr ⟨by simp [Region.wanted, hg, hy], l, ha, h⟩
      | false =>
        have hw : Region.wanted o (yielded all.toArray a.tmps) = true := by simp [Region.wanted, hg, hy]
        exact .inl ⟨hw, run ha hw h⟩
    · rename_i b hl
      have hy := yielded_of ha hj hl
      cases want with
      | true =>
        cases b with
        | true =>
          have hw : Region.wanted o (yielded all.toArray a.tmps) = true := by simp [Region.wanted, hg, hy]
          exact .inl ⟨hw, run (lit hl .tt rfl rfl) hw (h.1 rfl)⟩
        | false => exact .inr ⟨by simp [Region.wanted, hg, hy], _, lit hl .ff rfl rfl, h.2 rfl⟩
      | false =>
        cases b with
        | true => exact .inr ⟨by simp [Region.wanted, hg, hy], _, lit hl .tt rfl rfl, h.1 rfl⟩
        | false =>
          have hw : Region.wanted o (yielded all.toArray a.tmps) = true := by simp [Region.wanted, hg, hy]
          exact .inl ⟨hw, run (lit hl .ff rfl rfl) hw (h.2 rfl)⟩
    · rename_i vs hl
      have hy := yielded_of ha hj hl
      exact .inr ⟨by simp [Region.wanted, hg, hy], l, ha, h⟩
    · exact h.elim
omit hT hF in
theorem vdst_put {σ : Type} {n : Nat} {o : Oper} {l : Env} {a : Act} {e : EV} {s : σ} {K : Env → σ → Prop} (ha : At n l a) (h : vdst n o l K e s) : ∃ l', At n l' (a.put o.dst e.val) ∧ K l' s := by
  unfold vdst at h
  split at h
  · rename_i d hd
    split at h
    · rename_i hb
      split at h
      · rename_i hm
        rw [hd]
        exact ⟨_, ha.put hb e hm, h⟩
      · exact h.elim
    · exact h.elim
  · rename_i hd
    rw [hd]
    exact ⟨l, ha, h⟩
theorem vmix_act {n : Nat} {all : List Oper} {K : Env → World → Prop} {Lq : Act → World → Prop} (hK : ∀ l a w, At n l a → K l w → Lq a w) :
    ∀ {r : List (Nat × Bool)} {l : Env} {a : Act} {w : World}, At n l a → vmix P T Fs n all K r l w → actMix P all.toArray Lq r a w
  | [], l, a, w, ha, h => fun w1 hx => hK _ _ _ ha (h w1 hx)
  | (i, false) :: r, l, a, w, ha, h => by
    simp only [vmix] at h
    cases hi : all[i]? with
    | none => simp only [hi] at h
    | some o =>
      simp only [hi] at h
      refine ⟨o, by simpa using hi, ?_⟩
      rcases vops_one hT hF (quiE_laws P w) ha h with ⟨hw, l', ha', e, hq, hk⟩ | ⟨hw, l', ha', hk⟩
      · obtain ⟨l2, ha2, hk⟩ := vdst_put ha' hk
        exact ⟨e.val, .inl ⟨hw, hq⟩, vmix_act hK ha2 hk⟩
      · obtain ⟨l2, ha2, hk⟩ := vdst_put ha' hk
        exact ⟨undef, .inr ⟨hw, rfl⟩, vmix_act hK ha2 hk⟩
  | (i, true) :: r, l, a, w, ha, h => by
    simp only [vmix] at h
    cases hi : all[i]? with
    | none => simp only [hi] at h
    | some o =>
      simp only [hi] at h
      intro w1 hx
      unfold okOp
      rw [show all.toArray[i]? = some o by simpa using hi]
      rcases vops_one hT hF (nrm_laws0 P) ha (h w1 hx) with ⟨hw, l', ha', hq⟩ | ⟨hw, l', ha', hk⟩
      · simp only [hw, if_true]
        refine hq o a _ QF fun e w' hk => ?_
        obtain ⟨l2, ha2, hk⟩ := vdst_put ha' hk
        exact ⟨hk.1, vmix_act hK ha2 hk.2⟩
      · simp only [hw, Bool.false_eq_true, if_false]
        obtain ⟨l2, ha2, hk⟩ := vdst_put ha' hk
        exact ⟨hk.1, vmix_act hK ha2 hk.2⟩
/-- The head in the order r, the tail in the text's. -/
theorem v_mix {n : Nat} {ops : List Oper} {l : Env} {w : World} {K : Env → World → Prop} (hm : P.follows .mixedOrders = true) (k : Nat) (r : List (Nat × Bool)) (hB : (mixT ops.toArray k r && noDefer ops) = true)
    (h : vmix P T Fs n ops (fun l w => vops T Fs (nrmH0 P) n ops (ops.drop k) l w K) r l w) : VDraw P n ops l w K := by
  simp only [Bool.and_eq_true] at hB
  refine VDraw.ofPlain (fun a Q ha hK => ?_) hB.2
  refine region_mixT k r hm hB.1 ?_
  exact vmix_act hT hF (K := fun l w => vops T Fs (nrmH0 P) n ops (ops.drop k) l w K) (fun l a w ha h => vops_sound0 hT hF (all := ops) (K := K) (fun l a w ha hk => hK l a w ha hk) ha h) ha h
/-- All of it in the order r. -/
theorem v_mixA {n : Nat} {ops : List Oper} {l : Env} {w : World} {K : Env → World → Prop} (hm : P.follows .mixedOrders = true) (r : List (Nat × Bool)) (hB : (mixA ops.toArray r && Nat.beq r.length ops.length && noDefer ops) = true)
    (h : vmix P T Fs n ops K r l w) : VDraw P n ops l w K := by
  have hB' := hB
  rw [Bool.and_eq_true] at hB'
  refine VDraw.ofPlain (fun a Q ha hK => ?_) hB'.2
  refine region_mixA r hm hB'.1 ?_
  exact vmix_act hT hF (fun l a w ha h => hK l a w ha h) ha h
omit hT hF in
theorem PureF.quietE {f : Nat} {args : Array Value} {v : Value} (h : PureF P f args v) {w0 : World} {K : Value → Unit → Prop} (hk : K v ()) :
    ∃ v, (∀ w1, Ext w0 w1 → Calls P f args w1 fun e w' => e = .returned v ∧ Ext w1 w') ∧ K v () := ⟨v, fun w _ => h w, hk⟩
end
theorem run_arr {P : Program} {T : Tab} (hT : tabOk P T = true) {arr e n sz : Nat} (h : tfind T arr = some ⟨.arr n e, sz⟩) {a : Option Addr} {len cap : Nat} (hn : n ≤ len) {w : World} : (Instr.arrayAt arr (.slice a len cap)).run P w = .ok (.pointer a) w := by
  simp [Instr.arrayAt, Go.Proofs.YtmlmfmdmomegpaaGreatDoor.V.run_underlying (tab_arr hT h), Nat.not_lt.2 hn, Result.andThen]
/-- a part of a block that is known, as an aggregate -/
theorem Blk.ldV {P : Program} {T : Tab} {w : World} {b : Nat} {cs : List Value} {e : Nat} (h : Blk w b cs e) (hT : tabOk P T = true) {t n off : Nat} (ht : aggT T t = some n) {vs : List Value} (hv : (cs.drop off).take n = vs) (hn : vs.length = n) :
    (Instr.loadAt t (.pointer (some ⟨b, off, none⟩))).run P w = .ok (.agg vs.toArray) w :=
  run_ldN hT ht hn fun j v hj => by
    rw [h.cell]
    rw [← hv, List.getElem?_take] at hj
    split at hj
    · rw [List.getElem?_drop] at hj; exact hj
    · cases hj
/-- append onto a slice that is full: a new row; what was there stays. -/
theorem HpM.kappF {P : Program} {M : List Nat} {w0 w : World} {H : List It} (h : HpM M w0 w H) {t e size bytes : Nat} (hs : slOk P t e size bytes = true) {b n : Nat} {cs : List Value} {el : Nat} (hb : Blk w b cs el) (hc : cs.length = n * size)
    {tx ty : Nat} {x : Value} {m : Nat} {news : List Value} (src : Src P size tx x m news w) (hby : (n + m) * bytes ≤ 140737488355328) (hml : n + m ≤ maxLen) (hm : 0 < m) {K : Value → World → Prop}
    (hk : ∀ g c w', HpM M w0 w' (row e size (.slice (some ⟨g, 0, none⟩) (n + m) c) (n + m) (cs ++ news) :: H) → Ext w w' → K (.slice (some ⟨g, 0, none⟩) (n + m) c) w') :
    ∃ u w', (Builtin.append_ #[t, tx] ty #[.slice (some ⟨b, 0, none⟩) n n, x]).run P w = .ok u w' ∧ K u w' := by
  obtain ⟨hu, ⟨inf, z, hinf, rfl, rfl, hz, hzs⟩, hpos⟩ := slOk_spec hs
  have hlen : (cs ++ news).length = (n + m) * inf.size := by rw [List.length_append, hc, src.newsLen, Nat.add_mul]
  have hf : (Builtin.firstCells inf.size n (.slice (some ⟨b, 0, none⟩) n n)).run P w.drew = .ok cs.toArray w.drew := by
    refine run_firstCells_some (P := P) w.drew inf.size n ⟨b, 0, none⟩ n n cs hc fun j u hj => ?_
    rw [add_none, Nat.zero_add]
    exact (hb.cell j).trans hj
  have hr := run_append_grow_src (P := P) w t tx ty e inf z hu hinf hz (some ⟨b, 0, none⟩) n n cs hf x m news src (by omega) (by unfold maxLen at hml; omega) (growslice_fits (by omega) hby)
  refine ⟨_, _, hr, hk w.heap.size _ _ (h.push (((Ext.refl w).drew).alloc _) (row_ok _ _ _ _ _) ?_ ?_) (((Ext.refl w).drew).alloc _)⟩
  · refine ⟨hlen, .inr ⟨w.heap.size, _, _, rfl, Nat.zero_le _, heap_alloc_new w.drew _, grownCap_ge _ _ _ _, grownCap_le_maxLen _ _ _ _ hml, ?_, ?_⟩⟩
    · have := grownCap_ge w (n + m) n e
      simp only [Array.size_append, List.size_toArray, size_zeroCells, hzs, hlen, ← Nat.add_mul]
      congr 1; omega
    · simp only [Array.toList_append]
      rw [← hlen]; exact List.take_left
  · intro b' hb'
    simp only [row, Value.ownBlock, Option.some.injEq] at hb'
    subst hb'
    exact ⟨Nat.le_refl _, by simp⟩
theorem row_shape {w : World} {e size n : Nat} {v : Value} {xs : List Value} (h : (row e size v n xs).holds w) : ∃ p c, v = .slice p n c := by
  obtain ⟨_, h2⟩ : w.ownsRow 0 e size v n xs := h
  rcases h2 with ⟨hv, h0⟩ | ⟨g, cap, _, hv, _⟩
  · exact ⟨none, 0, by rw [hv, h0]⟩
  · exact ⟨_, cap, hv⟩
/-- a slice that reads as a list, elements of one cell -/
def SLv (w : World) (v : Value) (xs : List Value) : Prop := (xs = [] ∧ ∃ a c, v = .slice a 0 c) ∨ ∃ g off c, v = .slice (some ⟨g, off, none⟩) xs.length c ∧ xs.length ≤ c ∧ ∀ (j : Nat) (x : Value), xs[j]? = some x → w.cell? ⟨g, off + j, none⟩ = some x
theorem SLv.ext {w w' : World} {v : Value} {xs : List Value} (h : SLv w v xs) (hx : Ext w w') : SLv w' v xs :=
  h.imp id fun ⟨g, off, c, hv, hl, hc⟩ => ⟨g, off, c, hv, hl, fun j x hj => Ext.cell hx (hc j x hj)⟩
theorem SLv.of_blk {w : World} {g n c e : Nat} {xs zs : List Value} (h : Blk w g (xs ++ zs) e) (hn : xs.length = n) (hc : n ≤ c := by first | decide | omega) : SLv w (.slice (some ⟨g, 0, none⟩) n c) xs :=
  .inr ⟨g, 0, c, by rw [hn], by omega, fun j x hj => by rw [Nat.zero_add, h.cell]; rw [List.getElem?_append_left (List.getElem?_eq_some_iff.1 hj).1]; exact hj⟩
theorem SLv.of_blk0 {w : World} {g n c e : Nat} {xs : List Value} (h : Blk w g xs e) (hn : xs.length = n) (hc : n ≤ c := by first | decide | omega) : SLv w (.slice (some ⟨g, 0, none⟩) n c) xs :=
  .inr ⟨g, 0, c, by rw [hn], by omega, fun j x hj => by rw [Nat.zero_add, h.cell]; exact hj⟩
theorem SLv.nil {w : World} : SLv w (.slice none 0 0) [] := .inl ⟨rfl, _, _, rfl⟩
theorem SLv.of_row {w : World} {e n : Nat} {v : Value} {xs : List Value} (h : (row e 1 v n xs).holds w) : SLv w v xs := by
  have h0 : w.ownsRow 0 e 1 v n xs := h
  have hl : xs.length = n := by have := h0.1; omega
  by_cases hn : n = 0
  · obtain ⟨_, h2⟩ := h0
    have hx : xs = [] := List.eq_nil_of_length_eq_zero (by omega)
    rcases h2 with ⟨hv, _⟩ | ⟨g, cap, cur, hv, _⟩
    · exact .inl ⟨hx, _, _, hv⟩
    · exact .inl ⟨hx, _, _, by rw [hv, hn]⟩
  · have hcap : ∃ g cap, v = .slice (some ⟨g, 0, none⟩) n cap ∧ n ≤ cap := by
      rcases h0.2 with ⟨_, h⟩ | ⟨g, cap, cur, hv, _, _, hle, _⟩
      · omega
      · exact ⟨g, cap, hv, hle⟩
    obtain ⟨g, c, rfl, hle⟩ := hcap
    exact .inr ⟨g, 0, c, by rw [hl], by omega, fun j x hj => by rw [Nat.zero_add]; exact row_cell h hj⟩
theorem SLv.get {w : World} {g off c n : Nat} {xs : List Value} (h : SLv w (.slice (some ⟨g, off, none⟩) n c) xs) {j : Nat} {x : Value} (hj : xs[j]? = some x) : w.cell? ⟨g, off + j, none⟩ = some x := by
  rcases h with ⟨h0, _⟩ | ⟨g', off', c', hv, _, hc⟩
  · rw [h0] at hj; simp at hj
  · simp only [Value.slice.injEq, Option.some.injEq, Addr.mk.injEq, and_true] at hv
    obtain ⟨⟨rfl, rfl⟩, _, rfl⟩ := hv
    exact hc j x hj
theorem SLv.shape {w : World} {v : Value} {xs : List Value} (h : SLv w v xs) : ∃ p c, v = .slice p xs.length c := by
  rcases h with ⟨h0, a, c, hv⟩ | ⟨g, off, c, hv, _⟩
  · exact ⟨a, c, by rw [hv, h0]; rfl⟩
  · exact ⟨_, c, hv⟩
theorem SLv.at {w : World} {p : Option Addr} {n c : Nat} {xs : List Value} (h : SLv w (.slice p n c) xs) {j : Nat} {x : Value} (hj : xs[j]? = some x) : ∃ g off, p = some ⟨g, off, none⟩ ∧ w.cell? ⟨g, off + j, none⟩ = some x := by
  rcases h with ⟨h0, _⟩ | ⟨g', off', c', hv, _, hc⟩
  · rw [h0] at hj; simp at hj
  · simp only [Value.slice.injEq] at hv
    exact ⟨g', off', hv.1, hc j x hj⟩
/-- 'l[:b]' -/
theorem SLv.hi {P : Program} {T : Tab} (hT : tabOk P T = true) {t el n1 : Nat} {kd : TK} (ht : tfind T t = some ⟨.slice el, n1⟩) (he : tfind T el = some ⟨kd, 1⟩) {w : World} {v : Value} {xs : List Value} (h : SLv w v xs) (b : Nat) (hb : b ≤ xs.length) :
    ∃ v', (∀ (k : IntKind) (w' : World), (Instr.sliceAt t v none (some (.int k (b : Int))) none).run P w' = .ok v' w') ∧ SLv w v' (xs.take b) := by
  rcases h with ⟨rfl, a, c, rfl⟩ | ⟨g, off, c, rfl, hle, hc⟩
  · have : b = 0 := by simpa using hb
    subst this
    refine ⟨.slice a 0 c, fun k w' => ?_, .inl ⟨rfl, _, _, rfl⟩⟩
    simp only [Instr.sliceAt, Instr.slice, Instr.sliceBounds, Sem.run_bind, Sem.run_pure, Go.Proofs.YtmlmfmdmomegpaaGreatDoor.V.run_underlying (tab_slice hT ht), Result.andThen]
    rw [run_bound (P := P) (Nat.zero_le _)]
    simp only [Result.andThen, Sem.run_pure, tab_size hT he]
    cases a <;> simp [Addr.add]
  · refine ⟨_, fun k w' => run_slice_hi hT ht he b (by omega), ?_⟩
    have hl : (xs.take b).length = b := by rw [List.length_take]; omega
    exact .inr ⟨g, off, c, by rw [hl], by omega, fun j x hj => hc j x (by
      have := (List.getElem?_eq_some_iff.1 hj).1
      rw [List.getElem?_take] at hj; split at hj
      · exact hj
      · cases hj)⟩
/-- 'l[a:]' -/
theorem SLv.lo {P : Program} {T : Tab} (hT : tabOk P T = true) {t el n1 : Nat} {kd : TK} (ht : tfind T t = some ⟨.slice el, n1⟩) (he : tfind T el = some ⟨kd, 1⟩) {w : World} {v : Value} {xs : List Value} (h : SLv w v xs) (b : Nat) (hb : b ≤ xs.length) :
    ∃ v', (∀ (k : IntKind) (w' : World), (Instr.sliceAt t v (some (.int k (b : Int))) none none).run P w' = .ok v' w') ∧ SLv w v' (xs.drop b) := by
  rcases h with ⟨rfl, a, c, rfl⟩ | ⟨g, off, c, rfl, hle, hc⟩
  · have : b = 0 := by simpa using hb
    subst this
    refine ⟨.slice a 0 c, fun k w' => ?_, .inl ⟨rfl, _, _, rfl⟩⟩
    simp only [Instr.sliceAt, Instr.slice, Instr.sliceBounds, Sem.run_bind, Sem.run_pure, Go.Proofs.YtmlmfmdmomegpaaGreatDoor.V.run_underlying (tab_slice hT ht), Result.andThen]
    rw [run_bound (P := P) (Nat.zero_le _)]
    simp only [Result.andThen, Sem.run_pure, tab_size hT he]
    cases a <;> simp [Addr.add]
  · refine ⟨_, fun k w' => run_slice_lo hT ht he b hb, ?_⟩
    by_cases hz : xs.length = b
    · exact .inl ⟨by rw [List.drop_eq_nil_iff]; omega, _, _, by rw [hz, Nat.sub_self]⟩
    · rw [if_neg (by omega)]
      exact .inr ⟨g, off + b, c - b, by rw [List.length_drop, Nat.mul_one], by rw [List.length_drop]; omega, fun j x hj => by
        rw [Nat.add_assoc]; exact hc (b + j) x (by rw [List.getElem?_drop] at hj; exact hj)⟩
/-- what an append reads of a slice -/
theorem SLv.src {P : Program} {T : Tab} (hT : tabOk P T = true) {tx el n1 : Nat} (ht : tfind T tx = some ⟨.slice el, n1⟩) {w : World} {v : Value} {xs : List Value} (h : SLv w v xs) (h1 : ∀ u ∈ xs, u.oneCell' = true) : Src P 1 tx v xs.length xs w := by
  rcases h with ⟨rfl, a, c, rfl⟩ | ⟨g, off, c, rfl, hle, hc⟩
  · cases a with
    | none => exact Src.ofNil w (tab_slice hT ht) c
    | some a => exact Src.ofSlice w (tab_slice hT ht) a 0 c [] rfl (by simp) (by simp)
  · exact Src.ofSlice w (tab_slice hT ht) ⟨g, off, none⟩ _ c xs (by omega) (fun j u hj => by rw [add_none]; exact hc j u hj) h1
/-- '[]byte("..")' of a literal: the row gets a mark behind its last cell. -/
theorem HpM.kfz {P : Program} {T : Tab} {M : List Nat} {w0 w : World} {H : List It} (h : HpM M w0 w H) (hT : tabOk P T = true) {t e n1 n2 : Nat} (ht : tfind T t = some ⟨.slice e, n1⟩) (he : tfind T e = some ⟨.int .u8, n2⟩) (i : Nat) {b : Nat} {cs : List Value} {el : Nat} (hi : H[i]? = some (blk b cs el)) {n c : Nat} {K : Value → World → Prop}
    (hk : ∀ w', HpM M w0 w' H → K (.slice (some ⟨b, 0, none⟩) n c) w') : ∃ v w', (convert t t (.slice (some ⟨b, 0, none⟩) n c)).run P w = .ok v w' ∧ K v w' := by
  have hb : Blk w b cs el := h.get hi
  obtain ⟨f, hf, hb⟩ := hb
  have hlt : b < w.heap.size := (Array.getElem?_eq_some_iff.1 hb).1
  have hsh : w.shape? b = some (el, cs.length) := by simp [World.shape?, hb]
  have hr : (convert t t (.slice (some ⟨b, 0, none⟩) n c)).run P w = .ok (.slice (some ⟨b, 0, none⟩) n c) (w.freeze ⟨b, cs.length, none⟩ 1) := by
    simp [convert, Go.Proofs.YtmlmfmdmomegpaaGreatDoor.V.run_underlying (tab_slice hT ht), Go.Proofs.YtmlmfmdmomegpaaGreatDoor.V.run_underlying (tab_int hT he), markStringish, hsh, Result.andThen]
  refine ⟨_, _, hr, hk _ ?_⟩
  have hg : w.grownBy (w.freeze ⟨b, cs.length, none⟩ 1) (some b) := by
    refine ⟨rfl, rfl, rfl, by simp [World.freeze], fun k hk hne => ?_⟩
    simp only [World.freeze, if_neg (show ¬ (1 = 0) by decide), Array.getElem?_modify]
    rw [if_neg (by rintro rfl; exact hne rfl)]
  have hnew : Blk (w.freeze ⟨b, cs.length, none⟩ 1) b cs el := by
    obtain ⟨lo, hi'⟩ := f
    refine ⟨if lo == hi' then (cs.length, cs.length + 1) else (min lo cs.length, max hi' (cs.length + 1)), ?_, ?_⟩
    · right
      split
      · exact Nat.le_refl _
      · rename_i hne
        simp at hne hf ⊢
        omega
    · simp only [World.freeze, if_neg (show ¬ (1 = 0) by decide), Array.getElem?_modify, if_true, hb, Option.map_some]
  have key := h.upd hi hg (blk_ok b cs el) hnew (fun b' hb' => .inl hb')
  have e : H.set i (blk b cs el) = H := by
    apply List.ext_getElem?
    intro j
    rw [List.getElem?_set]
    split
    · rename_i hij; subst hij; rw [hi]; simp [(List.getElem?_eq_some_iff.1 hi).1]
    · rfl
  rwa [e] at key
end V
namespace V
/-- '[]E{..}': a row of the call's own. -/
theorem HpM.kmadeR {P : Program} {M : List Nat} {w0 w : World} {H : List It} (h : HpM M w0 w H) {s : Sem Value} (cs : List Value) (e size n : Nat) (hn : cs.length = n * size) (hm : n ≤ maxLen) (hr : s.run P w = .ok (.slice (some ⟨w.heap.size, 0, none⟩) n n) (w.alloc (.cells cs.toArray e))) {K : Value → World → Prop}
    (hk : ∀ b w', HpM M w0 w' (row e size (.slice (some ⟨b, 0, none⟩) n n) n cs :: H) → Ext w w' → K (.slice (some ⟨b, 0, none⟩) n n) w') : ∃ v w', s.run P w = .ok v w' ∧ K v w' := by
  have hx : Ext w (w.alloc (.cells cs.toArray e)) := (Ext.refl w).alloc _
  refine ⟨_, _, hr, hk _ _ (h.push hx (row_ok _ _ _ _ _) ?_ ?_) hx⟩
  · exact ⟨hn, .inr ⟨w.heap.size, n, cs.toArray, rfl, Nat.zero_le _, heap_alloc_new w _, Nat.le_refl _, hm, by simpa using hn, by simp [← hn]⟩⟩
  · intro b hb
    simp only [row, Value.ownBlock, Option.some.injEq] at hb
    subst hb
    exact ⟨Nat.le_refl _, by simp⟩
/-- append onto a full row of the call's own (the list's head), whatever comes in. -/
theorem HpM.kappE {P : Program} {M : List Nat} {w0 w : World} {H : List It} {t e size bytes : Nat} (hs : slOk P t e size bytes = true) {b n : Nat} {cs : List Value} (h : HpM M w0 w (row e size (.slice (some ⟨b, 0, none⟩) n n) n cs :: H))
    {tx ty : Nat} {x : Value} {m : Nat} {news : List Value} (src : Src P size tx x m news w) (hby : (n + m) * bytes ≤ 140737488355328) (hml : n + m ≤ maxLen) {K : Value → World → Prop}
    (hk : ∀ v' w', HpM M w0 w' (row e size v' (n + m) (cs ++ news) :: H) → Ext w w' → K v' w') :
    ∃ u w', (Builtin.append_ #[t, tx] ty #[.slice (some ⟨b, 0, none⟩) n n, x]).run P w = .ok u w' ∧ K u w' := by
  have hown : w.ownsRow 0 e size (.slice (some ⟨b, 0, none⟩) n n) n cs := h.get (i := 0) rfl
  obtain ⟨hl, h2⟩ := hown
  rcases Nat.eq_zero_or_pos m with rfl | hm
  · obtain ⟨hu, ⟨inf, z, hinf, hsz, rfl, hz, hzs⟩, hpos⟩ := slOk_spec hs
    have hnews : news = [] := List.eq_nil_of_length_eq_zero (by have := src.newsLen; omega)
    subst hnews
    subst hsz
    have hr := run_append_room_src (P := P) w t tx ty e inf hu hinf b 0 n n x 0 [] src (by omega) (by simp) (by simp)
    refine ⟨_, _, hr, ?_⟩
    rw [show w.setCells b (0 + n * inf.size) [] = w from by first | rfl | simp [World.setCells]]
    exact hk _ _ (by simpa using h) (Ext.refl w)
  · rcases h2 with ⟨hv, _⟩ | ⟨g, cap, cur, hv, _, hg, hle, hcm, hcs, htake⟩
    · simp at hv
    · simp only [Value.slice.injEq, Option.some.injEq, Addr.mk.injEq, true_and, and_true] at hv
      obtain ⟨rfl, rfl⟩ := hv
      have hb : Blk w b cs e := ⟨(0, 0), .inl rfl, by
        rw [hg]; rw [← htake, List.take_of_length_le (by simp; omega)]⟩
      exact h.kappF hs hb hl src hby hml hm fun g c w' hp hx => hk _ _ (hp.sub (by simp)) hx
end V
namespace V
/-- q: a quiet operation; m: one that makes things; br: two such, in either order -/
inductive MT where
  | nil
  | q (i : Nat) (r : MT)
  | m (i : Nat) (r : MT)
  | br (i j : Nat) (r s : MT)
  | br3 (i j k : Nat) (r s t : MT)
  | br4 (i j k m : Nat) (r s t u : MT)
def MT.len : MT → Nat
  | .nil => 0
  | .q _ r => r.len + 1
  | .m _ r => r.len + 1
  | .br _ _ r _ => r.len + 1
  | .br3 _ _ _ r _ _ => r.len + 1
  | .br4 _ _ _ _ r _ _ _ => r.len + 1
section
variable {P : Program} {md : Region.Mode} {ops : Array Oper}
def mtB (md : Region.Mode) (ops : Array Oper) (n : Nat) (base : Array Bool → Bool) : MT → Array Bool → Bool
  | .nil, done => base done
  | .q i r, done => decide (i < n) && (Region.ready md ops done).contains i && Region.free md ops done i && mtB md ops n base r (done.setIfInBounds i true)
  | .m i r, done => decide (i < n) && decide (Region.ready md ops done = [i]) && mtB md ops n base r (done.setIfInBounds i true)
  | .br i j r s, done => decide (i < n) && decide (j < n) && decide (Region.ready md ops done = [i, j]) && Nat.beq r.len s.len && mtB md ops n base r (done.setIfInBounds i true) && mtB md ops n base s (done.setIfInBounds j true)
  | .br3 i j k r s t, done => decide (i < n) && decide (j < n) && decide (k < n) && decide (Region.ready md ops done = [i, j, k]) && Nat.beq r.len s.len && Nat.beq r.len t.len && mtB md ops n base r (done.setIfInBounds i true) && mtB md ops n base s (done.setIfInBounds j true) && mtB md ops n base t (done.setIfInBounds k true)
  | .br4 i j k m r s t u, done => decide (i < n) && decide (j < n) && decide (k < n) && decide (m < n) && decide (Region.ready md ops done = [i, j, k, m]) && Nat.beq r.len s.len && Nat.beq r.len t.len && Nat.beq r.len u.len && mtB md ops n base r (done.setIfInBounds i true) && mtB md ops n base s (done.setIfInBounds j true) && mtB md ops n base t (done.setIfInBounds k true) && mtB md ops n base u (done.setIfInBounds m true)
def actMt (P : Program) (ops : Array Oper) (Lq : Act → World → Prop) : MT → Act → World → Prop
  | .nil, a, w => ∀ w1, Ext w w1 → Lq a w1
  | .q i r, a, w => ∃ o, ops[i]? = some o ∧ ∃ v, YG P ops o v a w ∧ actMt P ops Lq r (a.put o.dst v) w
  | .m i r, a, w => ∀ w1, Ext w w1 → okOp P ops i (fun a' w2 => Ext w1 w2 ∧ actMt P ops Lq r a' w2) a w1
  | .br i j r s, a, w => (∀ w1, Ext w w1 → okOp P ops i (fun a' w2 => Ext w1 w2 ∧ actMt P ops Lq r a' w2) a w1) ∧ (∀ w1, Ext w w1 → okOp P ops j (fun a' w2 => Ext w1 w2 ∧ actMt P ops Lq s a' w2) a w1)
  | .br3 i j k r s t, a, w => (∀ w1, Ext w w1 → okOp P ops i (fun a' w2 => Ext w1 w2 ∧ actMt P ops Lq r a' w2) a w1) ∧ (∀ w1, Ext w w1 → okOp P ops j (fun a' w2 => Ext w1 w2 ∧ actMt P ops Lq s a' w2) a w1) ∧ (∀ w1, Ext w w1 → okOp P ops k (fun a' w2 => Ext w1 w2 ∧ actMt P ops Lq t a' w2) a w1)
  | .br4 i j k m r s t u, a, w => (∀ w1, Ext w w1 → okOp P ops i (fun a' w2 => Ext w1 w2 ∧ actMt P ops Lq r a' w2) a w1) ∧ (∀ w1, Ext w w1 → okOp P ops j (fun a' w2 => Ext w1 w2 ∧ actMt P ops Lq s a' w2) a w1) ∧ (∀ w1, Ext w w1 → okOp P ops k (fun a' w2 => Ext w1 w2 ∧ actMt P ops Lq t a' w2) a w1) ∧ (∀ w1, Ext w w1 → okOp P ops m (fun a' w2 => Ext w1 w2 ∧ actMt P ops Lq u a' w2) a w1)
theorem headG_mt {n : Nat} {base : Array Bool → Bool} {Lq : Act → World → Prop} {Inv : Array Bool → Prop} (hsel : Region.noSelect ops = true)
    (hW : ∀ done i, Inv done → i < n → done.getD i true = false → ∀ j ∈ Region.ready md ops done, j < n) (hI : ∀ done i, Inv done → i ∈ Region.ready md ops done → i < n → Inv (done.setIfInBounds i true))
    (hbase : ∀ done, base done = true → ∀ j ∈ Region.ready md ops done, n ≤ j) :
    ∀ (r : MT) (done : Array Bool) (a : Act) (w : World), Inv done → mtB md ops n base r done = true → actMt P ops Lq r a w →
      headG P md ops n (fun done a w => base done = true ∧ Lq a w) r.len done a w
  | .nil, done, a, w, _, hB, h => fun w1 hx => ⟨hB, h w1 hx⟩
  | .q i r, done, a, w, inv, hB, h => by
    simp only [mtB, Bool.and_eq_true, decide_eq_true_eq] at hB
    obtain ⟨⟨⟨hin, hr⟩, hf⟩, hB'⟩ := hB
    obtain ⟨o, ho, v, hy, hk⟩ := h
    have hr' : i ∈ Region.ready md ops done := by simpa using hr
    exact headG_take ho (Region.noSelect_spec hsel) hW hI hin (fun done a w hL => hbase done hL.1) r.len done a w inv (Region.free_spec ho hf) hr' hy
      (headG_mt hsel hW hI hbase r _ _ _ (hI _ _ inv hr' hin) hB' hk)
  | .m i r, done, a, w, inv, hB, h => by
    simp only [mtB, Bool.and_eq_true, decide_eq_true_eq] at hB
    obtain ⟨⟨hin, hr⟩, hB'⟩ := hB
    intro w1 hx
    have hri : i ∈ Region.ready md ops done := by rw [hr]; simp
    refine ⟨by rw [hr]; simp, fun j hj => ?_⟩
    rw [hr] at hj
    obtain rfl : j = i := by simpa using hj
    exact ⟨hin, okOp_mono (fun a' w2 h2 => ⟨h2.1, headG_mt hsel hW hI hbase r _ _ _ (hI _ _ inv hri hin) hB' h2.2⟩) (h w1 hx)⟩
  | .br i j r s, done, a, w, inv, hB, h => by
    simp only [mtB, Bool.and_eq_true, decide_eq_true_eq] at hB
    obtain ⟨⟨⟨⟨⟨hin, hjn⟩, hr⟩, hl⟩, hB1⟩, hB2⟩ := hB
    have hl : r.len = s.len := by simpa using hl
    intro w1 hx
    have hri : i ∈ Region.ready md ops done := by rw [hr]; simp
    have hrj : j ∈ Region.ready md ops done := by rw [hr]; simp
    refine ⟨by rw [hr]; simp, fun k hk => ?_⟩
    rw [hr] at hk
    have hk : k = i ∨ k = j := by simpa using hk
    rcases hk with rfl | rfl
    · exact ⟨hin, okOp_mono (fun a' w2 h2 => ⟨h2.1, headG_mt hsel hW hI hbase r _ _ _ (hI _ _ inv hri hin) hB1 h2.2⟩) (h.1 w1 hx)⟩
    · refine ⟨hjn, okOp_mono (fun a' w2 h2 => ⟨h2.1, ?_⟩) (h.2 w1 hx)⟩
      have := headG_mt hsel hW hI hbase s _ _ _ (hI _ _ inv hrj hjn) hB2 h2.2
      rw [hl]; exact this
  | .br3 i j k r s t, done, a, w, inv, hB, h => by
    simp only [mtB, Bool.and_eq_true, decide_eq_true_eq] at hB
    obtain ⟨⟨⟨⟨⟨⟨⟨⟨hin, hjn⟩, hkn⟩, hr⟩, hl⟩, hl2⟩, hB1⟩, hB2⟩, hB3⟩ := hB
    have hl : r.len = s.len := by simpa using hl
    have hl2 : r.len = t.len := by simpa using hl2
    intro w1 hx
    have hri : i ∈ Region.ready md ops done := by rw [hr]; simp
    have hrj : j ∈ Region.ready md ops done := by rw [hr]; simp
    have hrk : k ∈ Region.ready md ops done := by rw [hr]; simp
    refine ⟨by rw [hr]; simp, fun q hq => ?_⟩
    rw [hr] at hq
    have hq : q = i ∨ q = j ∨ q = k := by simpa using hq
    rcases hq with rfl | rfl | rfl
    · exact ⟨hin, okOp_mono (fun a' w2 h2 => ⟨h2.1, headG_mt hsel hW hI hbase r _ _ _ (hI _ _ inv hri hin) hB1 h2.2⟩) (h.1 w1 hx)⟩
    · refine ⟨hjn, okOp_mono (fun a' w2 h2 => ⟨h2.1, ?_⟩) (h.2.1 w1 hx)⟩
      have := headG_mt hsel hW hI hbase s _ _ _ (hI _ _ inv hrj hjn) hB2 h2.2
      rw [hl]; exact this
    · refine ⟨hkn, okOp_mono (fun a' w2 h2 => ⟨h2.1, ?_⟩) (h.2.2 w1 hx)⟩
      have := headG_mt hsel hW hI hbase t _ _ _ (hI _ _ inv hrk hkn) hB3 h2.2
      rw [hl2]; exact this
  | .br4 i j k m r s t u, done, a, w, inv, hB, h => by
    simp only [mtB, Bool.and_eq_true, decide_eq_true_eq] at hB
    obtain ⟨⟨⟨⟨⟨⟨⟨⟨⟨⟨⟨hin, hjn⟩, hkn⟩, hmn⟩, hr⟩, hl⟩, hl2⟩, hl3⟩, hB1⟩, hB2⟩, hB3⟩, hB4⟩ := hB
    have hl : r.len = s.len := by simpa using hl
    have hl2 : r.len = t.len := by simpa using hl2
    have hl3 : r.len = u.len := by simpa using hl3
    intro w1 hx
    have hri : i ∈ Region.ready md ops done := by rw [hr]; simp
    have hrj : j ∈ Region.ready md ops done := by rw [hr]; simp
    have hrk : k ∈ Region.ready md ops done := by rw [hr]; simp
    have hrm : m ∈ Region.ready md ops done := by rw [hr]; simp
    refine ⟨by rw [hr]; simp, fun q hq => ?_⟩
    rw [hr] at hq
    have hq : q = i ∨ q = j ∨ q = k ∨ q = m := by simpa using hq
    rcases hq with rfl | rfl | rfl | rfl
    · exact ⟨hin, okOp_mono (fun a' w2 h2 => ⟨h2.1, headG_mt hsel hW hI hbase r _ _ _ (hI _ _ inv hri hin) hB1 h2.2⟩) (h.1 w1 hx)⟩
    · refine ⟨hjn, okOp_mono (fun a' w2 h2 => ⟨h2.1, ?_⟩) (h.2.1 w1 hx)⟩
      have := headG_mt hsel hW hI hbase s _ _ _ (hI _ _ inv hrj hjn) hB2 h2.2
      rw [hl]; exact this
    · refine ⟨hkn, okOp_mono (fun a' w2 h2 => ⟨h2.1, ?_⟩) (h.2.2.1 w1 hx)⟩
      have := headG_mt hsel hW hI hbase t _ _ _ (hI _ _ inv hrk hkn) hB3 h2.2
      rw [hl2]; exact this
    · refine ⟨hmn, okOp_mono (fun a' w2 h2 => ⟨h2.1, ?_⟩) (h.2.2.2 w1 hx)⟩
      have := headG_mt hsel hW hI hbase u _ _ _ (hI _ _ inv hrm hmn) hB4 h2.2
      rw [hl3]; exact this
theorem actMt_ext {Lq : Act → World → Prop} : ∀ (r : MT) (a : Act) (w w' : World), Ext w w' → actMt P ops Lq r a w → actMt P ops Lq r a w'
  | .nil, _, _, _, hx, h => fun w1 h1 => h w1 (hx.trans h1)
  | .q _ r, _, _, _, hx, ⟨o, ho, v, hy, hk⟩ => ⟨o, ho, v, hy.mono hx, actMt_ext r _ _ _ hx hk⟩
  | .m _ _, _, _, _, hx, h => fun w1 h1 => h w1 (hx.trans h1)
  | .br _ _ _ _, _, _, _, hx, h => ⟨fun w1 h1 => h.1 w1 (hx.trans h1), fun w1 h1 => h.2 w1 (hx.trans h1)⟩
  | .br3 _ _ _ _ _ _, _, _, _, hx, h => ⟨fun w1 h1 => h.1 w1 (hx.trans h1), fun w1 h1 => h.2.1 w1 (hx.trans h1), fun w1 h1 => h.2.2 w1 (hx.trans h1)⟩
  | .br4 _ _ _ _ _ _ _ _, _, _, _, hx, h => ⟨fun w1 h1 => h.1 w1 (hx.trans h1), fun w1 h1 => h.2.1 w1 (hx.trans h1), fun w1 h1 => h.2.2.1 w1 (hx.trans h1), fun w1 h1 => h.2.2.2 w1 (hx.trans h1)⟩
def mtT (ops : Array Oper) (n : Nat) (r : MT) : Bool :=
  Region.noSelect ops && decide (n < ops.size) && Region.sinkB .any ops n && Region.chainB .any ops n && mtB .any ops n (Region.seqB .any ops (ops.size - n) n) r (Array.replicate ops.size false) && Nat.beq r.len n
theorem region_mtT {Q : Exit → Act → World → Prop} {a : Act} {w : World} {l : List Oper} (n : Nat) (r : MT) (hm : P.follows .mixedOrders = true) (hB : mtT l.toArray n r = true)
    (h : actMt P l.toArray (fun a' w' => wpList P l.toArray Q (l.drop n) a' w') r a w) (t : Nat) :
    wpOps P l.toArray Q (Region.schedule (P.follows .mixedOrders) l.toArray t) a { w with drawn := w.drawn + 1 } := by
  simp only [mtT, Bool.and_eq_true, decide_eq_true_eq] at hB
  obtain ⟨⟨⟨⟨⟨hsel, hn⟩, hs⟩, hc⟩, hmix⟩, hlen⟩ := hB
  have hlen : r.len = n := by simpa using hlen
  have hn' : n < l.length := by simpa using hn
  have inv0 : HeadInv .any l.toArray n (Array.replicate l.toArray.size false) :=
    ⟨by simp, fun j oj _ hl => (by rw [getD_replicate_false] at hl; cases hl), fun t _ ht => getD_in (by simpa using ht) (getD_replicate_false _ _)⟩
  have H := headG_mt (P := P) (md := .any) (Inv := HeadInv .any l.toArray n) hsel
    (fun done i inv hin hun j hj => Nat.lt_of_not_le fun h => absurd hj (tail_waits hs hc hn inv _ i rfl hin hun j h))
    (fun done i inv hi hin => inv.set hi hin) (fun done hb => seqB_ready hb) r _ a { w with drawn := w.drawn + 1 } inv0 hmix (actMt_ext r a w _ (Ext.refl w).drew h)
  refine any_ops hm ?_ t
  have key := any_of_headG (Q := Q) (g := l.toArray.size - n) (fun done a' w' hL => by
    have e : (l.drop n).length = l.toArray.size - n := by simp
    have := wpAny_of_seq (P := P) (md := .any) (ops := l.toArray) (Q' := Q) (l.drop n) n done a' w' (fun j => by simp) (by rw [e]; exact hL.1) hL.2
    rwa [e] at this) r.len _ a _ H
  have e2 : r.len + (l.toArray.size - n) = l.toArray.size := by rw [hlen]; simp; omega
  rwa [e2] at key
end
section
variable (P : Program) (T : Tab) (Fs : List Nat) (n : Nat) (all : List Oper)
abbrev mStep (i : Nat) (k : Env → World → Prop) (l : Env) (w : World) : Prop := match all[i]? with
  | none => False
  | some o => ∀ w1, Ext w w1 → vops T Fs (nrmH0 P) n all [o] l w1 fun l w2 => Ext w1 w2 ∧ k l w2
abbrev vmt (K : Env → World → Prop) : MT → Env → World → Prop
  | .nil, l, w => ∀ w1, Ext w w1 → K l w1
  | .q i r, l, w => match all[i]? with
    | none => False
    | some o => vops T Fs (quiE P w) n all [o] l () fun l _ => vmt K r l w
  | .m i r, l, w => mStep P T Fs n all i (fun l w => vmt K r l w) l w
  | .br i j r s, l, w => mStep P T Fs n all i (fun l w => vmt K r l w) l w ∧ mStep P T Fs n all j (fun l w => vmt K s l w) l w
  | .br3 i j k r s t, l, w => mStep P T Fs n all i (fun l w => vmt K r l w) l w ∧ mStep P T Fs n all j (fun l w => vmt K s l w) l w ∧ mStep P T Fs n all k (fun l w => vmt K t l w) l w
  | .br4 i j k m r s t u, l, w => mStep P T Fs n all i (fun l w => vmt K r l w) l w ∧ mStep P T Fs n all j (fun l w => vmt K s l w) l w ∧ mStep P T Fs n all k (fun l w => vmt K t l w) l w ∧ mStep P T Fs n all m (fun l w => vmt K u l w) l w
end
section
variable {P : Program} {T : Tab} {Fs : List Nat} (hT : tabOk P T = true) (hF : ∀ f, memB f Fs = true → Enters P f)
include hT hF
theorem mStep_act {n : Nat} {all : List Oper} {i : Nat} {k : Env → World → Prop} {q : Act → World → Prop} (hk : ∀ l a w, At n l a → k l w → q a w) {l : Env} {a : Act} {w : World} (ha : At n l a) (h : mStep P T Fs n all i k l w) :
    ∀ w1, Ext w w1 → okOp P all.toArray i (fun a' w2 => Ext w1 w2 ∧ q a' w2) a w1 := by
  unfold mStep at h
  cases hi : all[i]? with
  | none => simp only [hi] at h
  | some o =>
    simp only [hi] at h
    intro w1 hx
    unfold okOp
    rw [show all.toArray[i]? = some o by simpa using hi]
    rcases vops_one hT hF (nrm_laws0 P) ha (h w1 hx) with ⟨hw, l', ha', hq⟩ | ⟨hw, l', ha', hk'⟩
    · simp only [hw, if_true]
      refine hq o a _ QF fun e w' hk' => ?_
      obtain ⟨l2, ha2, hk'⟩ := vdst_put ha' hk'
      exact ⟨hk'.1, hk _ _ _ ha2 hk'.2⟩
    · simp only [hw, Bool.false_eq_true, if_false]
      obtain ⟨l2, ha2, hk'⟩ := vdst_put ha' hk'
      exact ⟨hk'.1, hk _ _ _ ha2 hk'.2⟩
theorem vmt_act {n : Nat} {all : List Oper} {K : Env → World → Prop} {Lq : Act → World → Prop} (hK : ∀ l a w, At n l a → K l w → Lq a w) :
    ∀ {r : MT} {l : Env} {a : Act} {w : World}, At n l a → vmt P T Fs n all K r l w → actMt P all.toArray Lq r a w
  | .nil, l, a, w, ha, h => fun w1 hx => hK _ _ _ ha (h w1 hx)
  | .q i r, l, a, w, ha, h => by
    simp only [vmt] at h
    cases hi : all[i]? with
    | none => simp only [hi] at h
    | some o =>
      simp only [hi] at h
      refine ⟨o, by simpa using hi, ?_⟩
      rcases vops_one hT hF (quiE_laws P w) ha h with ⟨hw, l', ha', e, hq, hk⟩ | ⟨hw, l', ha', hk⟩
      · obtain ⟨l2, ha2, hk⟩ := vdst_put ha' hk
        exact ⟨e.val, .inl ⟨hw, hq⟩, vmt_act hK ha2 hk⟩
      · obtain ⟨l2, ha2, hk⟩ := vdst_put ha' hk
        exact ⟨undef, .inr ⟨hw, rfl⟩, vmt_act hK ha2 hk⟩
  | .m i r, l, a, w, ha, h => mStep_act hT hF (k := fun l w => vmt P T Fs n all K r l w) (q := fun a w => actMt P all.toArray Lq r a w) (fun _ _ _ ha2 hk => vmt_act hK ha2 hk) ha h
  | .br i j r s, l, a, w, ha, h => ⟨mStep_act hT hF (k := fun l w => vmt P T Fs n all K r l w) (q := fun a w => actMt P all.toArray Lq r a w) (fun _ _ _ ha2 hk => vmt_act hK ha2 hk) ha h.1, mStep_act hT hF (k := fun l w => vmt P T Fs n all K s l w) (q := fun a w => actMt P all.toArray Lq s a w) (fun _ _ _ ha2 hk => vmt_act hK ha2 hk) ha h.2⟩
  | .br3 i j k r s t, l, a, w, ha, h => ⟨mStep_act hT hF (k := fun l w => vmt P T Fs n all K r l w) (q := fun a w => actMt P all.toArray Lq r a w) (fun _ _ _ ha2 hk => vmt_act hK ha2 hk) ha h.1, mStep_act hT hF (k := fun l w => vmt P T Fs n all K s l w) (q := fun a w => actMt P all.toArray Lq s a w) (fun _ _ _ ha2 hk => vmt_act hK ha2 hk) ha h.2.1, mStep_act hT hF (k := fun l w => vmt P T Fs n all K t l w) (q := fun a w => actMt P all.toArray Lq t a w) (fun _ _ _ ha2 hk => vmt_act hK ha2 hk) ha h.2.2⟩
  | .br4 i j k m r s t u, l, a, w, ha, h => ⟨mStep_act hT hF (k := fun l w => vmt P T Fs n all K r l w) (q := fun a w => actMt P all.toArray Lq r a w) (fun _ _ _ ha2 hk => vmt_act hK ha2 hk) ha h.1, mStep_act hT hF (k := fun l w => vmt P T Fs n all K s l w) (q := fun a w => actMt P all.toArray Lq s a w) (fun _ _ _ ha2 hk => vmt_act hK ha2 hk) ha h.2.1, mStep_act hT hF (k := fun l w => vmt P T Fs n all K t l w) (q := fun a w => actMt P all.toArray Lq t a w) (fun _ _ _ ha2 hk => vmt_act hK ha2 hk) ha h.2.2.1, mStep_act hT hF (k := fun l w => vmt P T Fs n all K u l w) (q := fun a w => actMt P all.toArray Lq u a w) (fun _ _ _ ha2 hk => vmt_act hK ha2 hk) ha h.2.2.2⟩
theorem v_mt {n : Nat} {ops : List Oper} {l : Env} {w : World} {K : Env → World → Prop} (hm : P.follows .mixedOrders = true) (k : Nat) (r : MT) (hB : (mtT ops.toArray k r && noDefer ops) = true)
    (h : vmt P T Fs n ops (fun l w => vops T Fs (nrmH0 P) n ops (ops.drop k) l w K) r l w) : VDraw P n ops l w K := by
  simp only [Bool.and_eq_true] at hB
  refine VDraw.ofPlain (fun a Q ha hK => ?_) hB.2
  refine region_mtT k r hm hB.1 ?_
  exact vmt_act hT hF (K := fun l w => vops T Fs (nrmH0 P) n ops (ops.drop k) l w K) (fun l a w ha h => vops_sound0 hT hF (all := ops) (K := K) (fun l a w ha hk => hK l a w ha hk) ha h) ha h
end
end V
namespace V
section
variable {P : Program} {md : Region.Mode} {ops : Array Oper}
end
section
variable (P : Program) (T : Tab) (Fs : List Nat) (n : Nat) (all : List Oper)
end
section
variable {P : Program} {T : Tab} {Fs : List Nat} (hT : tabOk P T = true) (hF : ∀ f, memB f Fs = true → Enters P f)
include hT hF
end
end V
end Go.Proofs.YtmlmfmdmomegpaaGreatDoor
