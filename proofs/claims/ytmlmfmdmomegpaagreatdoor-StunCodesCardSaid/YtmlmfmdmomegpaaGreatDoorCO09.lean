/- Drawn regions as trees, of which a call may end in a panic (X6 with panics). Own work. No program is named here. -/
/- Calls in functions that may panic. Own work. No program is named here. -/
/- Chapter 08: what ends a reading; one attribute at a place of octets. -/
/- Chapter 08: the attributes of octets, yielded. -/
/- Chapter 08: attributes, collected. -/
/- Marks of ranges that were left by a jump. Own work. No program is named here. -/
/- Chapter 08: the closures of Decode. -/
/- Chapter 08: Decode. -/
/- Chapter 08: what is read from octets is what was written. -/
/- Chapter 08: plain laws of the reference: the type of a message bit by bit, values of errors. -/
import Derived.Test.YtmlmfmdmomegpaaGreatDoorCO03
import Derived.Test.YtmlmfmdmomegpaaGreatDoorCO08
import Derived.Test.YtmlmfmdmomegpaaGreatDoorCO05
import Derived.Test.YtmlmfmdmomegpaaGreatDoorCO07
namespace Go.Proofs.YtmlmfmdmomegpaaGreatDoor
set_option linter.unusedSimpArgs false
set_option linter.unusedVariables false
open Go.RowKit
namespace V
theorem put_defers (a : Act) (dst : Option Nat) (v : Value) : (a.put dst v).defers = a.defers := by cases dst <;> rfl
def QPn (qp : List PanicEntry → World → Prop) : Exit → Act → World → Prop := fun e _ w => match e with
  | .panic c => qp c w
  | _ => False
/-- The operations' slots are none of the slots that are known. -/
def freeOps (l : Env) : List Oper → Bool
  | [] => true
  | o :: r => (match o.dst with
    | none => true
    | some d => (look l d).isNone) && freeOps l r
theorem freeOps_spec {l : Env} : ∀ {ops : List Oper}, freeOps l ops = true → ∀ o ∈ ops, ∀ d, o.dst = some d → look l d = none
  | [], _, o, ho => by cases ho
  | x :: r, h, o, ho => by
    simp only [freeOps, Bool.and_eq_true] at h
    rcases List.mem_cons.1 ho with rfl | ho
    · intro d hd
      have h1 := h.1
      rw [hd] at h1
      simpa using h1
    · exact freeOps_spec h.2 o ho
def nrmH0X (P : Program) (qp : List PanicEntry → World → Prop) : Hand World where
  run := fun s w K => ∃ v w', s.run P w = .ok v w' ∧ K v w'
  call := fun f args w K => Calls P f args w fun e w' => (∃ v, e = .returned v ∧ K v w') ∨ ∃ c, e = .panicked c ∧ qp c w'
  yield := fun _ _ _ _ => False
  ext := extP P
def Mn0X (P : Program) (qp : List PanicEntry → World → Prop) (x : Sem Next) (w : World) (K : EV → World → Prop) : Prop :=
  ∀ (o : Oper) (a : Act) (next : Act → World → Prop) (Q : Exit → Act → World → Prop), (∀ e w', K e w' → next (a.put o.dst e.val) w') → (∀ c w', qp c w' → Q (.panic c) a w') → o.upon P a next Q (x.run P w)
theorem nrm_laws0X (P : Program) (qp : List PanicEntry → World → Prop) : Laws P (nrmH0X P qp) (Mn0X P qp) where
  congr := fun h hm o a next Q hk hp => by rw [h]; exact hm o a next Q hk hp
  pure := fun hk o a next Q hn _ => by simp only [Sem.run_pure, Oper.upon_value]; exact hn _ _ hk
  run := fun {x s K} h o a next Q hn _ => by
    obtain ⟨v, w', hr, hk⟩ := h
    simp only [Sem.run_bind, hr, Result.andThen, Sem.run_pure, Oper.upon_value]
    exact hn _ _ hk
  runU := fun {x s K} h o a next Q hn _ => by
    obtain ⟨v, w', hr, hk⟩ := h
    rw [Sem.run_bind] at hr ⊢
    cases hx : x.run P s with
    | ok u w2 =>
      rw [hx] at hr
      simp only [Result.andThen, Sem.run_pure, Result.ok.injEq] at hr
      obtain ⟨rfl, rfl⟩ := hr
      simp only [Result.andThen, Sem.run_pure, Oper.upon_skip]
      exact hn _ _ hk
    | halt h w2 => rw [hx] at hr; simp [Result.andThen] at hr
  call := fun {f args s K} he h o a next Q hn hp => by
    rw [he, Oper.upon_enter]
    refine Calls.mono h ?_
    rintro e w' (⟨v, rfl, hk⟩ | ⟨c, rfl, hk⟩)
    · exact hn _ _ hk
    · exact hp _ _ hk
  yield := fun h => h.elim
  ext := fun h => h
section
variable {P : Program} {md : Region.Mode} {ops : Array Oper} {qp : List PanicEntry → World → Prop}
theorem QPn_out {p : Prop} (h : LetsOut (QPn qp)) : p := by
  obtain ⟨_, _, h⟩ := h; exact h.elim
theorem wp_of_okP {o : Oper} {a : Act} {w : World} {K K' : Act → World → Prop} {Q : Exit → Act → World → Prop} (hQ : ∀ c w, qp c w → Q (.panic c) a w) (h : ∀ a w, K a w → K' a w) (hh : o.wp P a w K (QPn qp)) : o.wp P a w K' Q := by
  unfold Oper.wp at *
  generalize (execOp a.eval o).run P w = r at *
  cases r with
  | ok n w' =>
    cases n <;> simp only [Oper.upon] at hh ⊢ <;>
      first
        | exact h _ _ hh
        | exact Calls.mono hh (fun e w'' he => by cases e <;> first | exact h _ _ he | exact hQ _ _ he | exact QPn_out he)
        | exact Rows.mono hh (fun _ _ he => h _ _ he)
        | exact hh.elim
  | halt x w' => cases x <;> simp only [Oper.upon] at hh ⊢ <;> first | exact hQ _ _ hh | exact hh | exact hh.elim
def okOpP (P : Program) (ops : Array Oper) (qp : List PanicEntry → World → Prop) (i : Nat) (K : Act → World → Prop) (a : Act) (w : World) : Prop :=
  match ops[i]? with
  | none => False
  | some o => if Region.wanted o (yielded ops a.tmps) then o.wp P a w K (QPn qp) else K (a.put o.dst undef) w
theorem wpOp_of_okP {i : Nat} {a : Act} {w : World} {K K' : Act → World → Prop} {Q : Exit → Act → World → Prop} (hQ : ∀ c w, qp c w → Q (.panic c) a w) (h : ∀ a w, K a w → K' a w) (hh : okOpP P ops qp i K a w) : wpOp P ops Q i K' a w := by
  unfold okOpP at hh
  unfold wpOp
  cases ho : ops[i]? with
  | none => simp only [ho] at hh
  | some o =>
    simp only [ho] at hh ⊢
    split
    · rename_i hw; simp only [hw, if_true] at hh; exact .inl (wp_of_okP hQ h hh)
    · rename_i hw; simp only [hw] at hh; exact h _ _ hh
theorem okOpP_mono {i : Nat} {a : Act} {w : World} {K K' : Act → World → Prop} (h : ∀ a w, K a w → K' a w) (hh : okOpP P ops qp i K a w) : okOpP P ops qp i K' a w := by
  unfold okOpP at *
  cases ho : ops[i]? with
  | none => simp only [ho] at hh
  | some o =>
    simp only [ho] at hh ⊢
    split
    · rename_i hw; simp only [hw, if_true] at hh; exact wp_of_okP (fun _ _ h => h) h hh
    · rename_i hw; simp only [hw] at hh; exact h _ _ hh
theorem YG.okP {i : Nat} {o : Oper} {v : Value} {a : Act} {w w1 : World} (hi : ops[i]? = some o) (hy : YG P ops o v a w) (hx : Ext w w1) {K : Act → World → Prop} (h : ∀ w2, Ext w1 w2 → K (a.put o.dst v) w2) : okOpP P ops qp i K a w1 := by
  have h1 := YG.ok hi hy hx h
  unfold okOp at h1
  unfold okOpP
  simp only [hi] at h1 ⊢
  split
  · rename_i hw
    simp only [hw, if_true] at h1
    exact wp_of_ok (fun _ _ h => h) h1
  · rename_i hw
    simp only [hw] at h1
    exact h1
theorem okOp_putP {j : Nat} {oi oj : Oper} {v : Value} {w w1 : World} (hj : ops[j]? = some oj) (hap : oi.apart ops oj = true)
    (hsi : ∀ cs b, oi.op ≠ .select cs b) (hsj : ∀ cs b, oj.op ≠ .select cs b) {K : Act → World → Prop} {a : Act}
    (hy : YG P ops oi v a w) (h : okOpP P ops qp j K (a.put oi.dst v) w1) :
    okOpP P ops qp j (fun a' w2 => YG P ops oi v a' w ∧ K (a'.put oi.dst v) w2) a w1 := by
  obtain ⟨h1, h2, h3⟩ := Oper.apart_spec hap
  have keep : ∀ (u : Value), YG P ops oi v (a.put oj.dst u) w := fun u =>
    hy.of_same (execOp_put oi hsi a oj.dst u h3) (wanted_put oi a oj.dst u h3)
  unfold okOpP at *
  simp only [hj] at *
  rw [wanted_put oj a oi.dst v h1] at h
  split
  · rename_i hw
    simp only [hw, if_true] at h
    unfold Oper.wp at *
    rw [execOp_put oj hsj a oi.dst v h1] at h
    generalize (execOp a.eval oj).run P w1 = r at *
    have put : ∀ (u : Value) (w2 : World), K ((a.put oi.dst v).put oj.dst u) w2 → YG P ops oi v (a.put oj.dst u) w ∧ K ((a.put oj.dst u).put oi.dst v) w2 := fun u w2 hk =>
      ⟨keep u, by rw [← Act.put_comm a v u h2]; exact hk⟩
    have putd : ∀ (x : Deferred) (w2 : World), K ({ tmps := (a.put oi.dst v).tmps, defers := x :: (a.put oi.dst v).defers : Act }.put oj.dst undef) w2 →
        YG P ops oi v ({ tmps := a.tmps, defers := x :: a.defers : Act }.put oj.dst undef) w ∧ K (({ tmps := a.tmps, defers := x :: a.defers : Act }.put oj.dst undef).put oi.dst v) w2 := fun x w2 hk => by
      have e : ({ tmps := (a.put oi.dst v).tmps, defers := x :: (a.put oi.dst v).defers } : Act) = ({ tmps := a.tmps, defers := x :: a.defers } : Act).put oi.dst v := by cases oi.dst <;> rfl
      have hy0 : YG P ops oi v { tmps := a.tmps, defers := x :: a.defers } w := hy.of_same rfl rfl
      refine ⟨hy0.of_same (execOp_put oi hsi _ oj.dst _ h3) (wanted_put oi _ oj.dst _ h3), ?_⟩
      rw [← Act.put_comm _ v undef h2, ← e]; exact hk
    cases r with
    | ok n w' =>
      cases n <;> simp only [Oper.upon] at h ⊢ <;>
        first
          | exact put _ _ h
          | exact Calls.mono h (fun e w'' he => by cases e <;> first | exact put _ _ he | exact he | exact QPn_out he)
          | exact Rows.mono h (fun _ _ he => put _ _ he)
          | exact putd _ _ h
          | exact h.elim
    | halt x w' => cases x <;> simp only [Oper.upon] at h ⊢ <;> first | exact h.elim | exact h
  · rename_i hw
    simp only [hw] at h
    exact ⟨keep _, by rw [← Act.put_comm a v undef h2]; exact h⟩
/-- What is known ahead of a region is known where it panics: of the slots. -/
structure AtS (n : Nat) (l : Env) (a : Act) : Prop where
  size : a.tmps.size = n
  holds : ∀ t x, look l t = some x → a.tmps.getD t undef = x.val
theorem AtS.free {n : Nat} {l : Env} {a : Act} (ha : AtS n l a) {dst : Option Nat} (hd : ∀ d, dst = some d → look l d = none) (v : Value) (ds : List Deferred) : AtS n l ({ a with defers := ds }.put dst v) := by
  cases dst with
  | none => exact ⟨ha.size, ha.holds⟩
  | some d =>
    refine ⟨by simpa [Act.put] using ha.size, fun t x hx => ?_⟩
    have hne : d ≠ t := fun e => by subst e; rw [hd d rfl] at hx; cases hx
    have := ha.holds t x hx
    simpa [Act.put, Array.getD_eq_getD_getElem?, Array.getElem?_setIfInBounds_ne hne] using this
theorem wpOps_at {n : Nat} {l : Env} {Q Q' : Exit → Act → World → Prop} (hfree : ∀ (i : Nat) (o : Oper), ops[i]? = some o → ∀ d, o.dst = some d → look l d = none) (hout : ∀ a w, ¬ Q' .outgrown a w)
    (hQ : ∀ e a w, AtS n l a → Q' e a w → Q e a w) : ∀ (s : List Nat) (a : Act) (w : World), AtS n l a → wpOps P ops Q' s a w → wpOps P ops Q s a w
  | [], a, w, ha, h => hQ _ _ _ ha h
  | i :: rest, a, w, ha, h => by
    unfold wpOps at h ⊢
    cases ho : ops[i]? with
    | none => simp only [ho] at h ⊢; exact wpOps_at hfree hout hQ rest a w ha h
    | some o =>
      simp only [ho] at h ⊢
      have nx : ∀ (v : Value) (ds : List Deferred) (w' : World), wpOps P ops Q' rest ({ a with defers := ds }.put o.dst v) w' → wpOps P ops Q rest ({ a with defers := ds }.put o.dst v) w' := fun v ds w' h =>
        wpOps_at hfree hout hQ rest _ w' (ha.free (hfree i o ho) v ds) h
      split
      · rename_i hw
        simp only [hw, if_true] at h
        have lo : LetsOut Q' → LetsOut Q := fun ⟨a0, w0, h⟩ => absurd h (hout a0 w0)
        rcases h with h | ⟨h1, h2⟩
        · refine .inl ?_
          unfold Oper.wp at h ⊢
          generalize (execOp a.eval o).run P w = r at *
          cases r with
          | ok n w' =>
            cases n <;> simp only [Oper.upon] at h ⊢ <;>
              first
                | exact nx _ a.defers _ h
                | exact Calls.mono h (fun e w'' he => by cases e <;> first | exact nx _ a.defers _ he | exact hQ _ _ _ ha he | exact lo he)
                | exact Rows.mono h (fun _ _ he => nx _ a.defers _ he)
                | exact nx _ _ _ h
                | exact h.elim
          | halt x w' => cases x <;> simp only [Oper.upon] at h ⊢ <;> first | exact hQ _ _ _ ha h | exact h.elim
        · exact .inr ⟨h1, lo h2⟩
      · rename_i hw
        simp only [hw] at h
        exact nx _ a.defers _ h
def headBP (P : Program) (md : Region.Mode) (ops : Array Oper) (qp : List PanicEntry → World → Prop) (bars : List Nat) (wB : World) (L : Array Bool → Act → World → Prop) : Nat → Array Bool → Act → World → Prop
  | 0, done, a, w => ∀ w1, Ext w w1 → L done a w1
  | f + 1, done, a, w => ∀ w1, Ext w w1 → Region.ready md ops done ≠ [] ∧ ∀ i ∈ Region.ready md ops done, okOpP P ops qp i (fun a' w2 => a'.defers = a.defers ∧ (bars.contains i = false → Ext wB w1 → Ext wB w2) ∧ headBP P md ops qp bars wB L f (done.setIfInBounds i true) a' w2) a w1
theorem headBP_mono {bars : List Nat} {wB : World} {L : Array Bool → Act → World → Prop} {w w' : World} (hx : Ext w w') : ∀ {f : Nat} {done : Array Bool} {a : Act}, headBP P md ops qp bars wB L f done a w → headBP P md ops qp bars wB L f done a w'
  | 0, _, _, h => fun w1 h1 => h w1 (hx.trans h1)
  | _ + 1, _, _, h => fun w1 h1 => h w1 (hx.trans h1)
theorem any_of_headBP {g : Nat} {bars : List Nat} {wB : World} {L : Array Bool → Act → World → Prop} {Q : Exit → Act → World → Prop} {D0 : List Deferred} (hQ : ∀ c a w, a.defers = D0 → qp c w → Q (.panic c) a w) (hL : ∀ done a w, L done a w → wpAny P md ops Q g done a w) :
    ∀ (f : Nat) (done : Array Bool) (a : Act) (w : World), a.defers = D0 → headBP P md ops qp bars wB L f done a w → wpAny P md ops Q (f + g) done a w := by
  intro f
  induction f with
  | zero => intro done a w _ h; rw [Nat.zero_add]; exact hL _ _ _ (h w (Ext.refl w))
  | succ f ih =>
    intro done a w hd h
    rw [show f + 1 + g = (f + g) + 1 by omega]
    have h := h w (Ext.refl w)
    exact ⟨fun h0 => absurd h0 h.1, fun i hi => wpOp_of_okP (fun c w => hQ c a w hd) (fun a' w' h' => ih _ a' w' (h'.1.trans hd) h'.2.2) (h.2 i hi)⟩
theorem headBP_take {bars : List Nat} {wB : World} {i : Nat} {oi : Oper} {v : Value} {L : Array Bool → Act → World → Prop} (hi : ops[i]? = some oi) (hsel : ∀ (j : Nat) (o : Oper) cs b, ops[j]? = some o → o.op ≠ .select cs b)
    (hbar : ∀ j, bars.contains j = true → waits2 md ops j i = true) (hdone : ∀ done a w, L done a w → Region.ready md ops done = []) :
    ∀ (f : Nat) (done : Array Bool) (a : Act) (w : World), HeadInv md ops ops.size done → Ext wB w →
      (∀ j oj, ops[j]? = some oj → j ≠ i → done.getD j true = false → (∀ e ∈ oj.after, Region.binds md e = true → e.on ≠ i) → oi.apart ops oj = true) →
      i ∈ Region.ready md ops done → YG P ops oi v a wB →
      headBP P md ops qp bars wB L f (done.setIfInBounds i true) (a.put oi.dst v) w → headBP P md ops qp bars wB L (f + 1) done a w := by
  have hsz : i < ops.size := (Array.getElem?_eq_some_iff.1 hi).1
  intro f
  induction f with
  | zero =>
    intro done a w inv hxB _ hr hy H w1 hx
    refine ⟨List.ne_nil_of_mem hr, fun j hj => ?_⟩
    by_cases e : j = i
    · subst e; exact hy.okP hi (hxB.trans hx) fun w2 h2 => ⟨by cases oi.dst <;> rfl, fun _ h => h.trans h2, headBP_mono (hx.trans h2) H⟩
    · have h1 := hdone _ _ _ (H w1 hx)
      have h2 := ready_mono (md := md) (ops := ops) hj e
      rw [h1] at h2; cases h2
  | succ f ih =>
    intro done a w inv hxB hfree hr hy H w1 hx
    have hun := (mem_ready.1 hr).1
    refine ⟨List.ne_nil_of_mem hr, fun j hj => ?_⟩
    by_cases e : j = i
    · subst e; exact hy.okP hi (hxB.trans hx) fun w2 h2 => ⟨by cases oi.dst <;> rfl, fun _ h => h.trans h2, headBP_mono (hx.trans h2) H⟩
    · obtain ⟨hjun, oj, hoj, hall⟩ := mem_ready.1 hj
      have hjsz : j < ops.size := (Array.getElem?_eq_some_iff.1 hoj).1
      have hnot : ∀ e ∈ oj.after, Region.binds md e = true → e.on ≠ i := fun e he hb heq => by
        have := hall e he hb; rw [heq, getD_both hun] at this; cases this
      have hjb : bars.contains j = false := by
        cases hb : bars.contains j with
        | false => rfl
        | true => have := hbar j hb; rw [not_waits2 inv hun hj] at this; cases this
      have key := okOp_putP hoj (hfree j oj hoj e hjun hnot) (fun cs b => hsel i oi cs b hi) (fun cs b => hsel j oj cs b hoj) hy ((H w1 hx).2 j (ready_mono hj e))
      refine okOpP_mono (fun a' w2 h3 => ⟨by have h4 := h3.2.1; rwa [put_defers, put_defers] at h4, fun hb => h3.2.2.1 hb, ih (done.setIfInBounds j true) a' w2 (inv.set hj hjsz) (h3.2.2.1 hjb (hxB.trans hx)) ?_ (ready_mono hr (Ne.symm e)) h3.1 ?_⟩) key
      · intro k ok hk hki hu hno
        refine hfree k ok hk hki ?_ hno
        by_cases hjk : j = k
        · subst hjk; exact hjun
        · rwa [getD_set_ne true hjk] at hu
      · rw [Array.setIfInBounds_comm _ _ e]; exact h3.2.2.2
def stepBP (P : Program) (ops : Array Oper) (qp : List PanicEntry → World → Prop) (bars : List Nat) (wB : World) (i : Nat) (k : Act → World → Prop) (a : Act) (w : World) : Prop :=
  ∀ w1, Ext w w1 → okOpP P ops qp i (fun a' w2 => a'.defers = a.defers ∧ obl (bars.contains i) wB w1 w2 (k a' w2)) a w1
def actMBP (P : Program) (ops : Array Oper) (qp : List PanicEntry → World → Prop) (bars : List Nat) (wB : World) (Lq : Act → World → Prop) : MT → Act → World → Prop
  | .nil, a, w => ∀ w1, Ext w w1 → Lq a w1
  | .q i r, a, w => ∃ o, ops[i]? = some o ∧ ∃ v, YG P ops o v a wB ∧ actMBP P ops qp bars wB Lq r (a.put o.dst v) w
  | .m i r, a, w => stepBP P ops qp bars wB i (actMBP P ops qp bars wB Lq r) a w
  | .br i j r s, a, w => stepBP P ops qp bars wB i (actMBP P ops qp bars wB Lq r) a w ∧ stepBP P ops qp bars wB j (actMBP P ops qp bars wB Lq s) a w
  | .br3 i j k r s t, a, w => stepBP P ops qp bars wB i (actMBP P ops qp bars wB Lq r) a w ∧ stepBP P ops qp bars wB j (actMBP P ops qp bars wB Lq s) a w ∧ stepBP P ops qp bars wB k (actMBP P ops qp bars wB Lq t) a w
  | .br4 i j k m r s t u, a, w => stepBP P ops qp bars wB i (actMBP P ops qp bars wB Lq r) a w ∧ stepBP P ops qp bars wB j (actMBP P ops qp bars wB Lq s) a w ∧ stepBP P ops qp bars wB k (actMBP P ops qp bars wB Lq t) a w ∧ stepBP P ops qp bars wB m (actMBP P ops qp bars wB Lq u) a w
theorem headBP_step {bars : List Nat} {wB : World} {f : Bool} {i : Nat} {L : Array Bool → Act → World → Prop} {k : Act → World → Prop} {g : Nat} {done : Array Bool} {a : Act} {w w1 : World} (hx : Ext w w1) (hB : f = true → Ext wB w)
    (h : stepBP P ops qp bars wB i k a w) (hk : ∀ a' w2, ((f && !bars.contains i) = true → Ext wB w2) → k a' w2 → headBP P md ops qp bars wB L g (done.setIfInBounds i true) a' w2) :
    okOpP P ops qp i (fun a' w2 => a'.defers = a.defers ∧ (bars.contains i = false → Ext wB w1 → Ext wB w2) ∧ headBP P md ops qp bars wB L g (done.setIfInBounds i true) a' w2) a w1 := by
  refine okOpP_mono (fun a' w2 h2 => ?_) (h w1 hx)
  obtain ⟨h0, h2⟩ := h2
  obtain ⟨h3, h4⟩ := obl_spec h2
  exact ⟨h0, h3, hk a' w2 (fun hf => by
    rw [Bool.and_eq_true] at hf
    exact h3 (by simpa using hf.2) ((hB hf.1).trans hx)) h4⟩
theorem headBP_mt {bars : List Nat} {wB : World} {Lq : Act → World → Prop} (hsel : Region.noSelect ops = true) :
    ∀ (r : MT) (f : Bool) (done : Array Bool) (a : Act) (w : World), HeadInv md ops ops.size done → (f = true → Ext wB w) → mbB md ops bars f r done = true → actMBP P ops qp bars wB Lq r a w →
      headBP P md ops qp bars wB (fun done a w => Region.ready md ops done = [] ∧ Lq a w) r.len done a w
  | .nil, f, done, a, w, _, _, hB, h => fun w1 hx => ⟨List.isEmpty_iff.1 hB, h w1 hx⟩
  | .q i r, f, done, a, w, inv, hxB, hB, h => by
    simp only [mbB, Bool.and_eq_true] at hB
    obtain ⟨⟨⟨⟨hf, hr⟩, hfr⟩, hb⟩, hB'⟩ := hB
    obtain ⟨o, ho, v, hy, hk⟩ := h
    have hr' : i ∈ Region.ready md ops done := by simpa using hr
    exact headBP_take ho (Region.noSelect_spec hsel) (barOk_spec hb) (fun done a w hL => hL.1) r.len done a w inv (hxB hf) (Region.free_spec ho hfr) hr' hy
      (headBP_mt hsel r f _ _ _ (inv.set hr' (Array.getElem?_eq_some_iff.1 ho).1) hxB hB' hk)
  | .m i r, f, done, a, w, inv, hxB, hB, h => by
    simp only [mbB, Bool.and_eq_true, decide_eq_true_eq] at hB
    obtain ⟨hr, hB'⟩ := hB
    intro w1 hx
    have hri : i ∈ Region.ready md ops done := by rw [hr]; simp
    have hlt : ∀ q ∈ Region.ready md ops done, q < ops.size := fun q hq => (Array.getElem?_eq_some_iff.1 (mem_ready.1 hq).2.choose_spec.1).1
    refine ⟨by rw [hr]; simp, fun j hj => ?_⟩
    rw [hr] at hj
    obtain rfl : j = i := by simpa using hj
    exact headBP_step hx hxB h fun a' w2 hb hk => headBP_mt hsel r _ _ _ _ (inv.set hri (hlt _ hri)) hb hB' hk
  | .br i j r s, f, done, a, w, inv, hxB, hB, h => by
    simp only [mbB, Bool.and_eq_true, decide_eq_true_eq] at hB
    obtain ⟨⟨⟨hr, hl⟩, hB1⟩, hB2⟩ := hB
    have hl : r.len = s.len := by simpa using hl
    intro w1 hx
    have hlt : ∀ q ∈ Region.ready md ops done, q < ops.size := fun q hq => (Array.getElem?_eq_some_iff.1 (mem_ready.1 hq).2.choose_spec.1).1
    have hri : i ∈ Region.ready md ops done := by rw [hr]; simp
    have hrj : j ∈ Region.ready md ops done := by rw [hr]; simp
    refine ⟨by rw [hr]; simp, fun k hk => ?_⟩
    rw [hr] at hk
    have hk : k = i ∨ k = j := by simpa using hk
    rcases hk with rfl | rfl
    · exact headBP_step hx hxB h.1 fun a' w2 hb hk => headBP_mt hsel r _ _ _ _ (inv.set hri (hlt _ hri)) hb hB1 hk
    · exact headBP_step hx hxB h.2 fun a' w2 hb hk => by
        have := headBP_mt (Lq := Lq) hsel s _ _ _ _ (inv.set hrj (hlt _ hrj)) hb hB2 hk
        show headBP P md ops qp bars wB _ r.len _ a' w2
        rw [hl]; exact this
  | .br3 i j k r s t, f, done, a, w, inv, hxB, hB, h => by
    simp only [mbB, Bool.and_eq_true, decide_eq_true_eq] at hB
    obtain ⟨⟨⟨⟨⟨hr, hl⟩, hl2⟩, hB1⟩, hB2⟩, hB3⟩ := hB
    have hl : r.len = s.len := by simpa using hl
    have hl2 : r.len = t.len := by simpa using hl2
    intro w1 hx
    have hlt : ∀ q ∈ Region.ready md ops done, q < ops.size := fun q hq => (Array.getElem?_eq_some_iff.1 (mem_ready.1 hq).2.choose_spec.1).1
    have hri : i ∈ Region.ready md ops done := by rw [hr]; simp
    have hrj : j ∈ Region.ready md ops done := by rw [hr]; simp
    have hrk : k ∈ Region.ready md ops done := by rw [hr]; simp
    refine ⟨by rw [hr]; simp, fun q hq => ?_⟩
    rw [hr] at hq
    have hq : q = i ∨ q = j ∨ q = k := by simpa using hq
    rcases hq with rfl | rfl | rfl
    · exact headBP_step hx hxB h.1 fun a' w2 hb hk => headBP_mt hsel r _ _ _ _ (inv.set hri (hlt _ hri)) hb hB1 hk
    · exact headBP_step hx hxB h.2.1 fun a' w2 hb hk => by
        have := headBP_mt (Lq := Lq) hsel s _ _ _ _ (inv.set hrj (hlt _ hrj)) hb hB2 hk
        show headBP P md ops qp bars wB _ r.len _ a' w2
        rw [hl]; exact this
    · exact headBP_step hx hxB h.2.2 fun a' w2 hb hk => by
        have := headBP_mt (Lq := Lq) hsel t _ _ _ _ (inv.set hrk (hlt _ hrk)) hb hB3 hk
        show headBP P md ops qp bars wB _ r.len _ a' w2
        rw [hl2]; exact this
  | .br4 i j k m r s t u, f, done, a, w, inv, hxB, hB, h => by
    simp only [mbB, Bool.and_eq_true, decide_eq_true_eq] at hB
    obtain ⟨⟨⟨⟨⟨⟨⟨hr, hl⟩, hl2⟩, hl3⟩, hB1⟩, hB2⟩, hB3⟩, hB4⟩ := hB
    have hl : r.len = s.len := by simpa using hl
    have hl2 : r.len = t.len := by simpa using hl2
    have hl3 : r.len = u.len := by simpa using hl3
    intro w1 hx
    have hlt : ∀ q ∈ Region.ready md ops done, q < ops.size := fun q hq => (Array.getElem?_eq_some_iff.1 (mem_ready.1 hq).2.choose_spec.1).1
    have hri : i ∈ Region.ready md ops done := by rw [hr]; simp
    have hrj : j ∈ Region.ready md ops done := by rw [hr]; simp
    have hrk : k ∈ Region.ready md ops done := by rw [hr]; simp
    have hrm : m ∈ Region.ready md ops done := by rw [hr]; simp
    refine ⟨by rw [hr]; simp, fun q hq => ?_⟩
    rw [hr] at hq
    have hq : q = i ∨ q = j ∨ q = k ∨ q = m := by simpa using hq
    rcases hq with rfl | rfl | rfl | rfl
    · exact headBP_step hx hxB h.1 fun a' w2 hb hk => headBP_mt hsel r _ _ _ _ (inv.set hri (hlt _ hri)) hb hB1 hk
    · exact headBP_step hx hxB h.2.1 fun a' w2 hb hk => by
        have := headBP_mt (Lq := Lq) hsel s _ _ _ _ (inv.set hrj (hlt _ hrj)) hb hB2 hk
        show headBP P md ops qp bars wB _ r.len _ a' w2
        rw [hl]; exact this
    · exact headBP_step hx hxB h.2.2.1 fun a' w2 hb hk => by
        have := headBP_mt (Lq := Lq) hsel t _ _ _ _ (inv.set hrk (hlt _ hrk)) hb hB3 hk
        show headBP P md ops qp bars wB _ r.len _ a' w2
        rw [hl2]; exact this
    · exact headBP_step hx hxB h.2.2.2 fun a' w2 hb hk => by
        have := headBP_mt (Lq := Lq) hsel u _ _ _ _ (inv.set hrm (hlt _ hrm)) hb hB4 hk
        show headBP P md ops qp bars wB _ r.len _ a' w2
        rw [hl3]; exact this
theorem actMBP_ext {bars : List Nat} {wB : World} {Lq : Act → World → Prop} : ∀ (r : MT) (a : Act) (w w' : World), Ext w w' → actMBP P ops qp bars wB Lq r a w → actMBP P ops qp bars wB Lq r a w'
  | .nil, _, _, _, hx, h => fun w1 h1 => h w1 (hx.trans h1)
  | .q _ r, _, _, _, hx, ⟨o, ho, v, hy, hk⟩ => ⟨o, ho, v, hy, actMBP_ext r _ _ _ hx hk⟩
  | .m _ _, _, _, _, hx, h => fun w1 h1 => h w1 (hx.trans h1)
  | .br _ _ _ _, _, _, _, hx, h => ⟨fun w1 h1 => h.1 w1 (hx.trans h1), fun w1 h1 => h.2 w1 (hx.trans h1)⟩
  | .br3 _ _ _ _ _ _, _, _, _, hx, h => ⟨fun w1 h1 => h.1 w1 (hx.trans h1), fun w1 h1 => h.2.1 w1 (hx.trans h1), fun w1 h1 => h.2.2 w1 (hx.trans h1)⟩
  | .br4 _ _ _ _ _ _ _ _, _, _, _, hx, h => ⟨fun w1 h1 => h.1 w1 (hx.trans h1), fun w1 h1 => h.2.1 w1 (hx.trans h1), fun w1 h1 => h.2.2.1 w1 (hx.trans h1), fun w1 h1 => h.2.2.2 w1 (hx.trans h1)⟩
theorem region_mbAP {Q : Exit → Act → World → Prop} {a : Act} (hQ : ∀ c a' w, a'.defers = a.defers → qp c w → Q (.panic c) a' w) {w : World} {l : List Oper} (bars : List Nat) (r : MT) (hm : P.follows .mixedOrders = true) (hB : (mbA l.toArray bars r && Nat.beq r.len l.length) = true)
    (h : actMBP P l.toArray qp bars w (fun a' w' => Q .normal a' w') r a w) (t : Nat) :
    wpOps P l.toArray Q (Region.schedule (P.follows .mixedOrders) l.toArray t) a { w with drawn := w.drawn + 1 } := by
  simp only [mbA, Bool.and_eq_true] at hB
  obtain ⟨⟨hsel, hmix⟩, hlen⟩ := hB
  have hlen : r.len = l.length := by simpa using hlen
  have inv0 : HeadInv .any l.toArray l.toArray.size (Array.replicate l.toArray.size false) :=
    ⟨by simp, fun j oj _ hl => (by rw [getD_replicate_false] at hl; cases hl), fun t h1 h2 => absurd h2 (by omega)⟩
  have H := headBP_mt (P := P) (md := .any) hsel r true _ a { w with drawn := w.drawn + 1 } inv0 (fun _ => (Ext.refl w).drew) hmix (actMBP_ext r a w _ (Ext.refl w).drew h)
  refine any_ops hm ?_ t
  have key := any_of_headBP (qp := qp) (Q := Q) (g := 0) hQ (fun done a' w' hL => ⟨hL.1, hL.2⟩) r.len _ a _ rfl H
  have e2 : r.len + 0 = l.toArray.size := by rw [hlen]; simp
  rwa [e2] at key
end
section
variable (P : Program) (T : Tab) (Fs : List Nat) (n : Nat) (all : List Oper) (bars : List Nat) (wB : World) (qp : List PanicEntry → World → Prop)
abbrev mStepBP (i : Nat) (k : Env → World → Prop) (l : Env) (w : World) : Prop := match all[i]? with
  | none => False
  | some o => ∀ w1, Ext w w1 → vops T Fs (nrmH0X P qp) n all [o] l w1 fun l w2 => obl (bars.contains i) wB w1 w2 (k l w2)
abbrev vmtBP (K : Env → World → Prop) : MT → Env → World → Prop
  | .nil, l, w => ∀ w1, Ext w w1 → K l w1
  | .q i r, l, w => match all[i]? with
    | none => False
    | some o => vops T Fs (quiE P wB) n all [o] l () fun l _ => vmtBP K r l w
  | .m i r, l, w => mStepBP P T Fs n all bars wB qp i (fun l w => vmtBP K r l w) l w
  | .br i j r s, l, w => mStepBP P T Fs n all bars wB qp i (fun l w => vmtBP K r l w) l w ∧ mStepBP P T Fs n all bars wB qp j (fun l w => vmtBP K s l w) l w
  | .br3 i j k r s t, l, w => mStepBP P T Fs n all bars wB qp i (fun l w => vmtBP K r l w) l w ∧ mStepBP P T Fs n all bars wB qp j (fun l w => vmtBP K s l w) l w ∧ mStepBP P T Fs n all bars wB qp k (fun l w => vmtBP K t l w) l w
  | .br4 i j k m r s t u, l, w => mStepBP P T Fs n all bars wB qp i (fun l w => vmtBP K r l w) l w ∧ mStepBP P T Fs n all bars wB qp j (fun l w => vmtBP K s l w) l w ∧ mStepBP P T Fs n all bars wB qp k (fun l w => vmtBP K t l w) l w ∧ mStepBP P T Fs n all bars wB qp m (fun l w => vmtBP K u l w) l w
end
section
variable {P : Program} {T : Tab} {Fs : List Nat} (hT : tabOk P T = true) (hF : ∀ f, memB f Fs = true → Enters P f)
include hT hF
theorem mStepBP_act {qp : List PanicEntry → World → Prop} {n : Nat} {all : List Oper} {bars : List Nat} {wB : World} {i : Nat} {k : Env → World → Prop} {q : Act → World → Prop} (hk : ∀ l a w, At n l a → k l w → q a w) {l : Env} {a : Act} {w : World} (ha : At n l a) (h : mStepBP P T Fs n all bars wB qp i k l w) :
    stepBP P all.toArray qp bars wB i q a w := by
  have ho : ∀ (b : Bool) (w1 w : World) (p p' : Prop), (p → p') → obl b wB w1 w p → obl b wB w1 w p' := fun b w1 w p p' hp h => by
    cases b with
    | true => exact hp h
    | false => exact ⟨h.1, hp h.2⟩
  unfold mStepBP at h
  cases hi : all[i]? with
  | none => simp only [hi] at h
  | some o =>
    simp only [hi] at h
    intro w1 hx
    unfold okOpP
    rw [show all.toArray[i]? = some o by simpa using hi]
    rcases vops_one hT hF (nrm_laws0X P qp) ha (h w1 hx) with ⟨hw, l', ha', hq⟩ | ⟨hw, l', ha', hk'⟩
    · simp only [hw, if_true]
      refine hq o a _ (QPn qp) (fun e w' hk' => ?_) (fun c w' hc => hc)
      obtain ⟨l2, ha2, hk'⟩ := vdst_put ha' hk'
      exact ⟨put_defers _ _ _, ho _ _ _ _ _ (hk _ _ _ ha2) hk'⟩
    · simp only [hw, Bool.false_eq_true, if_false]
      obtain ⟨l2, ha2, hk'⟩ := vdst_put ha' hk'
      exact ⟨put_defers _ _ _, ho _ _ _ _ _ (hk _ _ _ ha2) hk'⟩
theorem vmtBP_act {qp : List PanicEntry → World → Prop} {n : Nat} {all : List Oper} {bars : List Nat} {wB : World} {K : Env → World → Prop} {Lq : Act → World → Prop} (hK : ∀ l a w, At n l a → K l w → Lq a w) :
    ∀ {r : MT} {l : Env} {a : Act} {w : World}, At n l a → vmtBP P T Fs n all bars wB qp K r l w → actMBP P all.toArray qp bars wB Lq r a w
  | .nil, l, a, w, ha, h => fun w1 hx => hK _ _ _ ha (h w1 hx)
  | .q i r, l, a, w, ha, h => by
    simp only [vmtBP] at h
    cases hi : all[i]? with
    | none => simp only [hi] at h
    | some o =>
      simp only [hi] at h
      refine ⟨o, by simpa using hi, ?_⟩
      rcases vops_one hT hF (quiE_laws P wB) ha h with ⟨hw, l', ha', e, hq, hk⟩ | ⟨hw, l', ha', hk⟩
      · obtain ⟨l2, ha2, hk⟩ := vdst_put ha' hk
        exact ⟨e.val, .inl ⟨hw, hq⟩, vmtBP_act hK ha2 hk⟩
      · obtain ⟨l2, ha2, hk⟩ := vdst_put ha' hk
        exact ⟨undef, .inr ⟨hw, rfl⟩, vmtBP_act hK ha2 hk⟩
  | .m i r, l, a, w, ha, h => mStepBP_act hT hF (k := fun l w => vmtBP P T Fs n all bars wB qp K r l w) (q := fun a w => actMBP P all.toArray qp bars wB Lq r a w) (fun _ _ _ ha2 hk => vmtBP_act hK ha2 hk) ha h
  | .br i j r s, l, a, w, ha, h => ⟨mStepBP_act hT hF (k := fun l w => vmtBP P T Fs n all bars wB qp K r l w) (q := fun a w => actMBP P all.toArray qp bars wB Lq r a w) (fun _ _ _ ha2 hk => vmtBP_act hK ha2 hk) ha h.1, mStepBP_act hT hF (k := fun l w => vmtBP P T Fs n all bars wB qp K s l w) (q := fun a w => actMBP P all.toArray qp bars wB Lq s a w) (fun _ _ _ ha2 hk => vmtBP_act hK ha2 hk) ha h.2⟩
  | .br3 i j k r s t, l, a, w, ha, h => ⟨mStepBP_act hT hF (k := fun l w => vmtBP P T Fs n all bars wB qp K r l w) (q := fun a w => actMBP P all.toArray qp bars wB Lq r a w) (fun _ _ _ ha2 hk => vmtBP_act hK ha2 hk) ha h.1, mStepBP_act hT hF (k := fun l w => vmtBP P T Fs n all bars wB qp K s l w) (q := fun a w => actMBP P all.toArray qp bars wB Lq s a w) (fun _ _ _ ha2 hk => vmtBP_act hK ha2 hk) ha h.2.1, mStepBP_act hT hF (k := fun l w => vmtBP P T Fs n all bars wB qp K t l w) (q := fun a w => actMBP P all.toArray qp bars wB Lq t a w) (fun _ _ _ ha2 hk => vmtBP_act hK ha2 hk) ha h.2.2⟩
  | .br4 i j k m r s t u, l, a, w, ha, h => ⟨mStepBP_act hT hF (k := fun l w => vmtBP P T Fs n all bars wB qp K r l w) (q := fun a w => actMBP P all.toArray qp bars wB Lq r a w) (fun _ _ _ ha2 hk => vmtBP_act hK ha2 hk) ha h.1, mStepBP_act hT hF (k := fun l w => vmtBP P T Fs n all bars wB qp K s l w) (q := fun a w => actMBP P all.toArray qp bars wB Lq s a w) (fun _ _ _ ha2 hk => vmtBP_act hK ha2 hk) ha h.2.1, mStepBP_act hT hF (k := fun l w => vmtBP P T Fs n all bars wB qp K t l w) (q := fun a w => actMBP P all.toArray qp bars wB Lq t a w) (fun _ _ _ ha2 hk => vmtBP_act hK ha2 hk) ha h.2.2.1, mStepBP_act hT hF (k := fun l w => vmtBP P T Fs n all bars wB qp K u l w) (q := fun a w => actMBP P all.toArray qp bars wB Lq u a w) (fun _ _ _ ha2 hk => vmtBP_act hK ha2 hk) ha h.2.2.2⟩
theorem v_mtBP {n : Nat} {ops : List Oper} {l : Env} {w : World} {K : Env → World → Prop} {kp : List PanicEntry → Env → World → Prop} (hm : P.follows .mixedOrders = true) (bars : List Nat) (r : MT) (hB : (mbA ops.toArray bars r && Nat.beq r.len ops.length && noDefer ops) = true)
    (hfree : freeOps l ops = true) (h : vmtBP P T Fs n ops bars w (fun c w => kp c l w) K r l w) : VDrawP P n ops l w K kp := by
  have hB' := hB
  rw [Bool.and_eq_true] at hB'
  refine ⟨fun r' m a Q hQ ha hK hP t => lift_ops hQ (fun i o ho c => noDefer_spec hB'.2 o (by have := Array.mem_of_getElem? ho; simpa using this) c) _ _ _ ?_, hB'.2⟩
  refine wpOps_at (n := n) (l := l) (Q' := fun e a' w => match e with | .normal => Q .normal a' w | .panic c => kp c l w ∧ a'.defers = a.defers | _ => False) (fun i o ho => freeOps_spec hfree o (by have := Array.mem_of_getElem? ho; simpa using this)) (fun _ _ h => h) (fun e a' w hs hq => ?_) _ _ _ ⟨ha.size, ha.holds⟩ ?_
  · cases e with
    | normal => exact hq
    | panic c => exact hP c l a' w ⟨hq.2.trans ha.defers, hs.size, hs.holds⟩ hq.1
    | _ => exact False.elim hq
  · refine region_mbAP (qp := fun c w => kp c l w) (fun c a' w hd h => ⟨h, hd⟩) bars r hm hB'.1 ?_ t
    exact vmtBP_act hT hF (fun l a w ha h => hK l a w ha h) ha h
end
end V
namespace V
section
variable {P : Program} {w : World} {K : Value → World → Prop} {kp : List PanicEntry → World → Prop}
theorem CallW.outP {f : Nat} {args : Array Value} (h : CallW P f args w K) : Calls P f args w fun e w' => (∃ v, e = .returned v ∧ K v w') ∨ ∃ c, e = .panicked c ∧ kp c w' := h.out.mono fun _ _ h => .inl h
/-- A call that may panic, shut. -/
structure CallP (P : Program) (f : Nat) (args : Array Value) (w : World) (K : Value → World → Prop) (kp : List PanicEntry → World → Prop) : Prop where
  out : Calls P f args w fun e w' => (∃ v, e = .returned v ∧ K v w') ∨ ∃ c, e = .panicked c ∧ kp c w'
theorem CallP.use {f : Nat} {args : Array Value} {R : Ending → World → Prop} (h : Calls P f args w R) (hk : ∀ e w', R e w' → (∃ v, e = .returned v ∧ K v w') ∨ ∃ c, e = .panicked c ∧ kp c w') : CallP P f args w K kp := ⟨h.mono hk⟩
end
end V
set_option maxRecDepth 100000
open Go.RowKit V
set_option maxHeartbeats 4000000
def mal : List PanicEntry := [{ v := .iface 123 (.agg #[]), recovered := false }]
theorem must_t : PureF Tryz.prog 70 #[.bool true] (.tuple #[]) := by
  first | refine v_pure TTok FFok Tryz.func70 rfl rfl fun w0 => ?_ | refine v_pure (args := []) TTok FFok Tryz.func70 rfl rfl fun w0 => ?_
  conv => whnf
  refine VSeq.mk fun Kq hKq => ?_
  conv => whnf
  refine hKq _ _ _ (.refl _) ?_
  clear hKq Kq
  conv => whnf
  have hp := Hp.nil w0
  (refine And.intro (fun h => absurd h (by decide)) (fun _ => ?_); conv => whnf)
  (exact ⟨rfl, hp.ext⟩)
theorem must_f {W : World} : Calls Tryz.prog 70 #[.bool false] W fun e w' => e = .panicked mal ∧ Ext W w' := by
  refine v_fnD (args := [.bool false]) TTok FFok Tryz.func70 rfl (Nat.le_of_ble_eq_true rfl) ?_
  have hp := Hp.nil W
  conv => whnf
  refine VSeq.mk fun Kq hKq => ?_
  conv => whnf
  refine hKq _ _ _ (.refl _) ?_
  clear hKq Kq
  conv => whnf
  (refine And.intro (fun _ => ?_) (fun h => absurd h (by decide)); conv => whnf)
  (refine ⟨_, _, bld123_ _, ?_⟩; conv => whnf)
  refine ⟨.iface 123 (.agg #[]), W, by kernel_rfl, ?_⟩
  conv => whnf
  exact ⟨⟨_, _, rfl⟩, rfl, Ext.refl W⟩
theorem must_tb {b : Bool} (h : b = true) : PureF Tryz.prog 70 #[.bool b] (.tuple #[]) := by subst h; exact must_t
theorem must_fb {b : Bool} {W : World} (h : b = false) : Calls Tryz.prog 70 #[.bool b] W fun e w' => e = .panicked mal ∧ Ext W w' := by subst h; exact must_f
theorem lss_raw (xo yo : Operand) (a b : Int) (w : World) : (do eqGuard .lss 3 xo yo (.int .i64 a) (.int .i64 b); binOp .lss 3 (.int .i64 a) (.int .i64 b) : Sem Value).run Tryz.prog w = .ok (.bool (decide (a < b))) w := by
  rw [Sem.run_bind, run_eqGuard_int]
  simp [binOp, Op.intCmp, Result.andThen]
theorem and3_raw (xo yo : Operand) (n : Nat) (hn : n ≤ 1000000) (w : World) : (do eqGuard .and 3 xo yo (.int .i64 (0 - (n : Int))) (.int .i64 3); binOp .and 3 (.int .i64 (0 - (n : Int))) (.int .i64 3) : Sem Value).run Tryz.prog w = .ok (.int .i64 (padN n)) w := by
  have e : (BitVec.ofInt IntKind.i64.bits (0 - (n : Int)) &&& BitVec.ofInt IntKind.i64.bits 3).toNat = padN n := by
    rw [BitVec.toNat_and]
    have h1 : (BitVec.ofInt IntKind.i64.bits 3).toNat = 2 ^ 2 - 1 := rfl
    have h2 : (BitVec.ofInt IntKind.i64.bits (0 - (n : Int))).toNat = ((0 - (n : Int)) % 18446744073709551616).toNat := by
      rw [BitVec.toNat_ofInt]; rfl
    rw [h1, Nat.and_two_pow_sub_one_eq_mod, h2]
    unfold padN
    omega
  rw [Sem.run_bind, run_eqGuard_int]
  simp only [Result.andThen, binOp, Op.intBits, e, ne_eq, not_true_eq_false, if_false]
  rw [IntWalk.i64_in _ (by unfold padN; omega)]
  rfl
theorem drop4 {l : List UInt8} {k : Nat} (h : k + 4 ≤ l.length) : l.drop k = l.getD k 0 :: l.getD (k + 1) 0 :: l.getD (k + 2) 0 :: l.getD (k + 3) 0 :: l.drop (k + 4) := by
  have g : ∀ j, j < l.length → l.drop j = l.getD j 0 :: l.drop (j + 1) := fun j hj => by
    rw [List.drop_eq_getElem_cons hj, List.getD_eq_getElem?_getD, List.getElem?_eq_getElem hj]; rfl
  rw [g k (by omega), g (k + 1) (by omega), g (k + 2) (by omega), g (k + 3) (by omega)]
theorem ext2 (S : ByteArray) (k : Nat) (h : k + 2 ≤ S.size) : numB (S.extract k (k + 2)) = u2 (S.data.toList.getD k 0) (S.data.toList.getD (k + 1) 0) := by
  have hl := toList_len S
  unfold numB
  rw [ext_toList]
  have e : (S.data.toList.take (k + 2)).drop k = [S.data.toList.getD k 0, S.data.toList.getD (k + 1) 0] := by
    rw [List.drop_take, Nat.add_sub_cancel_left]
    have g : ∀ j, j < S.data.toList.length → S.data.toList.drop j = S.data.toList.getD j 0 :: S.data.toList.drop (j + 1) := fun j hj => by
      rw [List.drop_eq_getElem_cons hj, List.getD_eq_getElem?_getD, List.getElem?_eq_getElem hj]; rfl
    rw [g k (by omega), g (k + 1) (by omega)]
    rfl
  rw [e]
  unfold numL u2
  simp
theorem pstep_short {S : ByteArray} {k : Nat} (h : S.size < k + 4) : pstep (S.data.toList.drop k) = none := by
  have hl := toList_len S
  have : (S.data.toList.drop k).length < 4 := by rw [List.length_drop]; omega
  generalize S.data.toList.drop k = l at this
  unfold pstep
  split
  · simp only [List.length_cons] at this; omega
  · rfl
theorem zeros_iff (S : ByteArray) (j n : Nat) (h : j + n ≤ S.size) : trimB (S.extract j (j + n)) = ⟨#[]⟩ ↔ (S.data.toList.drop j).take n = List.replicate n 0 := by
  have hl := toList_len S
  have hsz : (S.extract j (j + n)).size = n := by rw [ByteArray.size_extract]; omega
  have e : (S.extract j (j + n)).data.toList = (S.data.toList.drop j).take n := by rw [ext_toList, List.drop_take, Nat.add_sub_cancel_left]
  rw [trimB_iff, hsz, List.eq_replicate_iff]
  have hlen : ((S.data.toList.drop j).take n).length = n := by rw [List.length_take, List.length_drop]; omega
  unfold byt
  rw [e]
  generalize (S.data.toList.drop j).take n = l at hlen
  constructor
  · intro hz
    refine ⟨hlen, fun b hb => ?_⟩
    obtain ⟨i, hi, rfl⟩ := List.getElem_of_mem hb
    have := hz i (by omega)
    rw [List.getD_eq_getElem?_getD, List.getElem?_eq_getElem hi] at this
    exact UInt8.toNat_inj.1 this
  · intro hz i hi
    rw [List.getD_eq_getElem?_getD, List.getElem?_eq_getElem (by omega)]
    have := hz.2 l[i] (List.getElem_mem _)
    simp [this]
theorem pstep_at {S : ByteArray} {k n d : Nat} (h : k + 4 ≤ S.size) (hn : numB (S.extract (k + 2) (k + 2 + 2)) = n) (hd : numB (S.extract k (k + 2)) = d) :
    pstep (S.data.toList.drop k) = if k + 4 + n + padN n ≤ S.size ∧ trimB (S.extract (k + 4 + n) (k + 4 + n + padN n)) = ⟨#[]⟩ then some ((((d : Nat) : Int), S.extract (k + 4) (k + 4 + n)), S.data.toList.drop (k + 4 + n + padN n)) else none := by
  have hl := toList_len S
  rw [ext2 S (k + 2) (by omega)] at hn
  rw [ext2 S k (by omega)] at hd
  rw [drop4 (by omega)]
  unfold pstep
  dsimp only
  rw [hn, hd, List.length_drop, List.drop_drop, List.drop_drop]
  by_cases hc : k + 4 + n + padN n ≤ S.size
  · have hz := zeros_iff S (k + 4 + n) (padN n) hc
    by_cases ht : trimB (S.extract (k + 4 + n) (k + 4 + n + padN n)) = ⟨#[]⟩
    · rw [if_pos ⟨by omega, by rw [← hz.1 ht]⟩, if_pos ⟨hc, ht⟩]
      simp only [Option.some.injEq, Prod.mk.injEq, true_and]
      refine ⟨?_, by rw [Nat.add_assoc (k + 4)]⟩
      apply ba_eq
      rw [ext_toList, List.drop_take, Nat.add_sub_cancel_left]
    · rw [if_neg (fun h => ht (hz.2 h.2)), if_neg (fun h => ht h.2)]
  · rw [if_neg (fun h => hc (by omega)), if_neg (fun h => hc h.1)]
set_option maxHeartbeats 16000000
def TRi : V.Tab := TT.map fun x => match Nat.beq x.1 3 with | true => (x.1, ⟨.other, 1⟩) | false => x
theorem TRiok : V.tabOk Tryz.prog TRi = true := by kernel_rfl
def atV (a : At2) : Value := .agg #[.int .i64 a.1, .string a.2]
theorem attrs_iter (S : ByteArray) (hS : S.size ≤ 10000) (bs : Nat) (N : Nat) :
    Iter2P Tryz.prog 120 [.pointer (some ⟨bs, 0, none⟩)] [bs] (fun W => Blk W bs [.string S] 9)
      (fun k => [atV ((parse S.data.toList).1.getD k (0, ⟨#[]⟩))]) (fun k => k = (parse S.data.toList).1.length ∧ (parse S.data.toList).2 = true) (fun k c => k = (parse S.data.toList).1.length ∧ (parse S.data.toList).2 = false ∧ c = mal) N := by
  intro l J Jx W hcap hN hJ hJx hY h0
  have hl := toList_len S
  obtain ⟨L, hL⟩ : ∃ L, S.data.toList = L := ⟨_, rfl⟩
  obtain ⟨A, ok, hA⟩ : ∃ A ok, parse L = (A, ok) := ⟨_, _, rfl⟩
  rw [hL, hA] at hY ⊢
  dsimp only at hY ⊢
  refine v_fnD (args := [.func (.yield l) #[] #[], .pointer (some ⟨bs, 0, none⟩)]) TRiok FFok Tryz.func120 rfl (Nat.le_of_ble_eq_true rfl) ?_
  have hlt : bs < W.heap.size := hcap.lt
  have hp := HpM.nil0 [] W
  conv => whnf
  refine VSeq.mk fun Kq hKq => ?_
  conv => whnf
  refine ⟨_, _, hcap.ld TTok rfl rfl, ?_⟩
  conv => whnf
  refine ⟨.agg #[.string S, .int .i64 0], W, by kernel_rfl, ?_⟩
  conv => whnf
  refine hp.kalloc z126 fun q w hp hx => ?_
  conv => whnf
  refine hp.kstA TTok rfl 0 rfl (rfl) (oneC_of rfl) (rfl) fun w hp => ?_
  try simp only [List.set_cons_zero, List.set_cons_succ, EV.val] at hp
  conv => whnf
  refine hKq _ _ _ (.refl _) ?_
  clear hKq Kq
  conv => whnf
  have hlo := hp.lo _ List.mem_cons_self q rfl
  have hqW : W.heap.size ≤ q := by rcases hlo.1 with h | h; · simp at h
                                   · exact h
  have hnd : ∀ {q : Nat}, q ≠ bs → [q, bs].Pairwise (fun x y => x ≠ y) := fun h => by simp [h]
  have hj0 := hJ 0 [bs] W w [q, bs] h0 (hp.extM.mono (by simp)) (by
    intro b hb
    rcases List.mem_cons.1 hb with rfl | hb
    · exact .inr ⟨hqW, hlo.2⟩
    · exact .inl hb) (hnd (by omega)) hp.extM.size
  have hq0 : Blk w q [.string S, .int .i64 ((0 : Nat) : Int)] 126 := hp.get (i := 0) rfl
  have hb0 := hcap.ext hp.ext
  have hne : q ≠ bs := by omega
  clear hx hlo h0 hp
  repeat clear hp
  refine ⟨fun m l' w => ∃ (k at_ q : Nat), m + at_ = S.size ∧ parse (L.drop at_) = (A.drop k, ok) ∧ k ≤ A.length ∧ q ≠ bs ∧ l' = [(0, .v (.func (.yield l) #[] #[])), (1, .v (.pointer (some ⟨bs, 0, none⟩))), (3, .v (.pointer (some ⟨q, 0, none⟩)))] ∧ J k [q, bs] w ∧ Blk w q [.string S, .int .i64 at_] 126 ∧ Blk w bs [.string S] 9,
    ⟨S.size, _, ⟨0, 0, q, by omega, hA, Nat.zero_le _, hne, rfl, hj0, hq0, hb0⟩, sub_cons rfl (sub_cons rfl (sub_cons rfl sub_nil))⟩, ?_⟩
  clear hj0 hq0 hb0 hne hqW
  clear q hcap hlt
  rintro mm _ w ⟨k, at_, q, hmm, hpar, hk, hqb, rfl, hj, hq, hbs⟩
  have hp := ((HpM.nil0 [q, bs] w).take hbs (by simp) (by simp)).take hq (by simp) (by simp [blk, Ne.symm hqb])
  conv => whnf
  refine VSeq.mk fun Kq hKq => ?_
  conv => whnf
  refine VSeq.mk fun Kq hKq => ?_
  conv => whnf
  (refine ⟨_, _, Blk.ld (hp.get (i := 0) rfl) TTok rfl rfl, ?_⟩; conv => whnf)
  (refine ⟨_, _, Blk.ld (hp.get (i := 1) rfl) TTok rfl rfl, ?_⟩; conv => whnf)
  refine ⟨_, _, lss_raw _ _ _ _ _, ?_⟩
  conv => whnf
  refine hKq _ _ _ (.refl _) ?_
  clear hKq Kq
  conv => whnf
  skip
  refine ⟨fun hlt => ?_, fun hlt => ?_⟩
  · have hlt := of_decide_eq_true hlt
    conv => whnf
    refine hKq _ _ _ (.refl _) ?_
    clear hKq Kq
    conv => whnf
    refine VSeq.mk fun Kq hKq => ?_
    conv => whnf
    refine VSeq.mk fun Kq hKq => ?_
    conv => whnf
    have hdl : (L.drop at_) ≠ [] := fun e => by
      have := congrArg List.length e
      rw [List.length_drop, ← hL, hl, List.length_nil] at this
      omega
    have fin : pstep (L.drop at_) = none → ∀ (w' : World), ExtM [q, bs] w w' → ∃ c k Z, Ending.panicked mal = Ending.panicked c ∧ (k = A.length ∧ ok = false ∧ c = mal) ∧ J k Z w' := fun hn w' hx => by
      have h1 := parse_none hdl hn
      rw [hpar] at h1
      simp only [Prod.mk.injEq] at h1
      have h2 := congrArg List.length h1.1
      rw [List.length_drop, List.length_nil] at h2
      exact ⟨mal, k, [q, bs], rfl, ⟨by omega, h1.2, rfl⟩, hJ k _ w w' [q, bs] hj hx (fun b hb => .inl hb) (hnd hqb) hx.size⟩
    have ps := @pstep_short S at_
    have pa := @pstep_at S at_
    rw [hL] at ps pa
    by_cases c1 : at_ + 2 ≤ S.size
    rotate_left
    · skip
      (refine ⟨_, _, Blk.ldV (vs := [_, _]) (hp.get (i := 0) rfl) TTok rfl rfl rfl, ?_⟩; conv => whnf)
      ((first | refine V.CallW.out ?_ | refine V.CallW.outP ?_); (conv => arg 3; dsimp only [EV.val, List.toList_toArray, List.nil_append, List.append_nil, List.cons_append]); refine V.PureF.useW (Uint_short S at_ 2 (by omega) (by omega) (by decide) (by decide) (by omega)) fun w hx => ?_; try (have hp := hp.call hx); conv => whnf)
      (refine hp.kalloc z126 fun al126 w hp hx => ?_; conv => whnf)
      (refine hp.kstA TTok rfl 0 rfl rfl (oneC_of rfl) (by rfl) fun w hp => ?_; try simp only [List.set_cons_zero, List.set_cons_succ, EV.val] at hp; conv => whnf)
      (refine hKq _ _ _ (.refl _) ?_; clear hKq Kq; conv => whnf)
      (refine VSeq.mk fun Kq hKq => ?_; conv => whnf)
      refine V.CallP.out ?_
      conv => arg 3; dsimp only [EV.val, List.toList_toArray, List.nil_append, List.append_nil, List.cons_append]
      refine V.CallP.use (must_fb (by decide)) ?_
      rintro _ w ⟨rfl, hx⟩
      refine Or.inr ⟨_, rfl, ?_⟩
      try (have hp := hp.call hx)
      conv => whnf
      exact .inr (fin (ps (by omega)) _ hp.extM)
    (refine ⟨_, _, Blk.ldV (vs := [_, _]) (hp.get (i := 0) rfl) TTok rfl rfl rfl, ?_⟩; conv => whnf)
    ((first | refine V.CallW.out ?_ | refine V.CallW.outP ?_); (conv => arg 3; dsimp only [EV.val, List.toList_toArray, List.nil_append, List.append_nil, List.cons_append]); refine V.PureF.useW (Uint_ok S at_ 2 (by decide) (by decide) (by omega) (by omega)) fun w hx => ?_; try (have hp := hp.call hx); conv => whnf)
    (refine hp.kalloc z126 fun al126 w hp hx => ?_; conv => whnf)
    (refine hp.kstA TTok rfl 0 rfl rfl (oneC_of rfl) (by rfl) fun w hp => ?_; try simp only [List.set_cons_zero, List.set_cons_succ, EV.val] at hp; conv => whnf)
    (refine hKq _ _ _ (.refl _) ?_; clear hKq Kq; conv => whnf)
    (refine VSeq.mk fun Kq hKq => ?_; conv => whnf)
    ((first | refine V.CallW.out ?_ | refine V.CallW.outP ?_); (conv => arg 3; dsimp only [EV.val, List.toList_toArray, List.nil_append, List.append_nil, List.cons_append]); (with_reducible refine V.PureF.useW (must_tb (by decide)) fun w hx => ?_); try (have hp := hp.call hx); conv => whnf)
    (refine hKq _ _ _ (.refl _) ?_; clear hKq Kq; conv => whnf)
    (refine VSeq.mk fun Kq hKq => ?_; conv => whnf)
    (refine ⟨_, _, Blk.ldV (vs := [_, _]) (hp.get (i := 0) rfl) TTok rfl rfl rfl, ?_⟩; conv => whnf)
    by_cases c2 : at_ + 2 + 2 ≤ S.size
    rotate_left
    · skip
      ((first | refine V.CallW.out ?_ | refine V.CallW.outP ?_); (conv => arg 3; dsimp only [EV.val, List.toList_toArray, List.nil_append, List.append_nil, List.cons_append]); refine V.PureF.useW (Uint_short S (at_ + 2) 2 (by omega) (by omega) (by decide) (by decide) (by omega)) fun w hx => ?_; try (have hp := hp.call hx); conv => whnf)
      (refine hp.kstA TTok rfl 0 rfl rfl (oneC_of rfl) (by rfl) fun w hp => ?_; try simp only [List.set_cons_zero, List.set_cons_succ, EV.val] at hp; conv => whnf)
      (refine hKq _ _ _ (.refl _) ?_; clear hKq Kq; conv => whnf)
      (refine VSeq.mk fun Kq hKq => ?_; conv => whnf)
      refine V.CallP.out ?_
      conv => arg 3; dsimp only [EV.val, List.toList_toArray, List.nil_append, List.append_nil, List.cons_append]
      refine V.CallP.use (must_fb (by decide)) ?_
      rintro _ w ⟨rfl, hx⟩
      refine Or.inr ⟨_, rfl, ?_⟩
      try (have hp := hp.call hx)
      conv => whnf
      exact .inr (fin (ps (by omega)) _ hp.extM)
    ((first | refine V.CallW.out ?_ | refine V.CallW.outP ?_); (conv => arg 3; dsimp only [EV.val, List.toList_toArray, List.nil_append, List.append_nil, List.cons_append]); refine V.PureF.useW (Uint_ok S (at_ + 2) 2 (by decide) (by decide) (by omega) (by omega)) fun w hx => ?_; try (have hp := hp.call hx); conv => whnf)
    (refine hp.kstA TTok rfl 0 rfl rfl (oneC_of rfl) (by rfl) fun w hp => ?_; try simp only [List.set_cons_zero, List.set_cons_succ, EV.val] at hp; conv => whnf)
    (refine hKq _ _ _ (.refl _) ?_; clear hKq Kq; conv => whnf)
    (refine VSeq.mk fun Kq hKq => ?_; conv => whnf)
    ((first | refine V.CallW.out ?_ | refine V.CallW.outP ?_); (conv => arg 3; dsimp only [EV.val, List.toList_toArray, List.nil_append, List.append_nil, List.cons_append]); (with_reducible refine V.PureF.useW (must_tb (by decide)) fun w hx => ?_); try (have hp := hp.call hx); conv => whnf)
    (refine hKq _ _ _ (.refl _) ?_; clear hKq Kq; conv => whnf)
    (refine VSeq.mk fun Kq hKq => ?_; conv => whnf)
    (refine ⟨_, _, Blk.ldV (vs := [_, _]) (hp.get (i := 0) rfl) TTok rfl rfl rfl, ?_⟩; conv => whnf)
    have pa := pa (by omega) rfl rfl
    have hdb := numL_lt 2 (S.extract at_ (at_ + 2)).data.toList (by rw [toList_len, ByteArray.size_extract]; omega)
    have hnb := numL_lt 2 (S.extract (at_ + 2) (at_ + 2 + 2)).data.toList (by rw [toList_len, ByteArray.size_extract]; omega)
    change numB (S.extract at_ (at_ + 2)) < 65536 at hdb
    change numB (S.extract (at_ + 2) (at_ + 2 + 2)) < 65536 at hnb
    obtain ⟨d, hd⟩ : ∃ d, numB (S.extract at_ (at_ + 2)) = d := ⟨_, rfl⟩
    obtain ⟨n, hn⟩ : ∃ n, numB (S.extract (at_ + 2) (at_ + 2 + 2)) = n := ⟨_, rfl⟩
    rw [hd, hn] at pa
    rw [hd] at hdb
    rw [hn] at hnb
    rw [hd, hn]
    by_cases c3 : at_ + 2 + 2 + n ≤ S.size
    rotate_left
    · skip
      ((first | refine V.CallW.out ?_ | refine V.CallW.outP ?_); (conv => arg 3; dsimp only [EV.val, List.toList_toArray, List.nil_append, List.append_nil, List.cons_append]); (with_reducible refine V.PureF.useW (Take_short S (at_ + 2 + 2) n (by omega) (by omega) (by omega)) fun w hx => ?_); try (have hp := hp.call hx); conv => whnf)
      (refine hp.kstA TTok rfl 0 rfl rfl (oneC_of rfl) (by rfl) fun w hp => ?_; try simp only [List.set_cons_zero, List.set_cons_succ, EV.val] at hp; conv => whnf)
      (refine hKq _ _ _ (.refl _) ?_; clear hKq Kq; conv => whnf)
      (refine VSeq.mk fun Kq hKq => ?_; conv => whnf)
      refine V.CallP.out ?_
      conv => arg 3; dsimp only [EV.val, List.toList_toArray, List.nil_append, List.append_nil, List.cons_append]
      refine V.CallP.use (must_fb (by decide)) ?_
      rintro _ w ⟨rfl, hx⟩
      refine Or.inr ⟨_, rfl, ?_⟩
      try (have hp := hp.call hx)
      conv => whnf
      exact .inr (fin (pa.trans (if_neg (by omega))) _ hp.extM)
    ((first | refine V.CallW.out ?_ | refine V.CallW.outP ?_); (conv => arg 3; dsimp only [EV.val, List.toList_toArray, List.nil_append, List.append_nil, List.cons_append]); (with_reducible refine V.PureF.useW (Take_ok S (at_ + 2 + 2) n (by omega) (by omega)) fun w hx => ?_); try (have hp := hp.call hx); conv => whnf)
    (refine hp.kstA TTok rfl 0 rfl rfl (oneC_of rfl) (by rfl) fun w hp => ?_; try simp only [List.set_cons_zero, List.set_cons_succ, EV.val] at hp; conv => whnf)
    (refine hKq _ _ _ (.refl _) ?_; clear hKq Kq; conv => whnf)
    (refine VSeq.mk fun Kq hKq => ?_; conv => whnf)
    ((first | refine V.CallW.out ?_ | refine V.CallW.outP ?_); (conv => arg 3; dsimp only [EV.val, List.toList_toArray, List.nil_append, List.append_nil, List.cons_append]); (with_reducible refine V.PureF.useW (must_tb (by decide)) fun w hx => ?_); try (have hp := hp.call hx); conv => whnf)
    (refine hKq _ _ _ (.refl _) ?_; clear hKq Kq; conv => whnf)
    (refine VSeq.mk fun Kq hKq => ?_; conv => whnf)
    (refine ⟨_, _, Blk.ldV (vs := [_, _]) (hp.get (i := 0) rfl) TTok rfl rfl rfl, ?_⟩; conv => whnf)
    (refine Or.inl (And.intro (by first | omega | decide) ?_); conv => whnf)
    refine ⟨_, _, and3_raw _ _ _ (by omega) _, ?_⟩
    conv => whnf
    by_cases c4 : at_ + 2 + 2 + n + padN n ≤ S.size
    rotate_left
    · skip
      ((first | refine V.CallW.out ?_ | refine V.CallW.outP ?_); (conv => arg 3; dsimp only [EV.val, List.toList_toArray, List.nil_append, List.append_nil, List.cons_append]); (with_reducible refine V.PureF.useW (Take_short S (at_ + 2 + 2 + n) (padN n) (by omega) (by omega) (by omega)) fun w hx => ?_); try (have hp := hp.call hx); conv => whnf)
      (refine hp.kstA TTok rfl 0 rfl rfl (oneC_of rfl) (by rfl) fun w hp => ?_; try simp only [List.set_cons_zero, List.set_cons_succ, EV.val] at hp; conv => whnf)
      (refine hKq _ _ _ (.refl _) ?_; clear hKq Kq; conv => whnf)
      (refine VSeq.mk fun Kq hKq => ?_; conv => whnf)
      (refine VSeq.mk fun Kq hKq => ?_; conv => whnf)
      (refine hKq _ _ _ (.refl _) ?_; clear hKq Kq; conv => whnf)
      (refine And.intro (fun h => absurd (of_decide_eq_true h) (by first | (intro h2; exact absurd rfl h2) | omega | decide)) (fun _ => ?_); conv => whnf)
      refine V.CallP.out ?_
      conv => arg 3; dsimp only [EV.val, List.toList_toArray, List.nil_append, List.append_nil, List.cons_append]
      refine V.CallP.use (must_fb (by decide)) ?_
      rintro _ w ⟨rfl, hx⟩
      refine Or.inr ⟨_, rfl, ?_⟩
      try (have hp := hp.call hx)
      conv => whnf
      exact .inr (fin (pa.trans (if_neg (by omega))) _ hp.extM)
    ((first | refine V.CallW.out ?_ | refine V.CallW.outP ?_); (conv => arg 3; dsimp only [EV.val, List.toList_toArray, List.nil_append, List.append_nil, List.cons_append]); (with_reducible refine V.PureF.useW (Take_ok S (at_ + 2 + 2 + n) (padN n) (by omega) (by omega)) fun w hx => ?_); try (have hp := hp.call hx); conv => whnf)
    (refine hp.kstA TTok rfl 0 rfl rfl (oneC_of rfl) (by rfl) fun w hp => ?_; try simp only [List.set_cons_zero, List.set_cons_succ, EV.val] at hp; conv => whnf)
    (refine hKq _ _ _ (.refl _) ?_; clear hKq Kq; conv => whnf)
    (refine VSeq.mk fun Kq hKq => ?_; conv => whnf)
    (refine VSeq.mk fun Kq hKq => ?_; conv => whnf)
    (refine hKq _ _ _ (.refl _) ?_; clear hKq Kq; conv => whnf)
    (refine And.intro (fun _ => ?_) (fun h => absurd (by first | rfl | assumption | omega | decide) (of_decide_eq_false h)); conv => whnf)
    ((first | refine V.CallW.out ?_ | refine V.CallW.outP ?_); (conv => arg 3; dsimp only [EV.val, List.toList_toArray, List.nil_append, List.append_nil, List.cons_append]); (with_reducible refine V.PureF.useW (Trim_p _ (by rw [ByteArray.size_extract] <;> omega)) fun w hx => ?_); try (have hp := hp.call hx); conv => whnf)
    by_cases c5 : trimB (S.extract (at_ + 2 + 2 + n) (at_ + 2 + 2 + n + padN n)) = ⟨#[]⟩
    rotate_left
    · skip
      refine V.CallP.out ?_
      conv => arg 3; dsimp only [EV.val, List.toList_toArray, List.nil_append, List.append_nil, List.cons_append]
      refine V.CallP.use (must_fb (decide_eq_false c5)) ?_
      rintro _ w ⟨rfl, hx⟩
      refine Or.inr ⟨_, rfl, ?_⟩
      try (have hp := hp.call hx)
      conv => whnf
      exact .inr (fin (pa.trans (if_neg (fun h => c5 h.2))) _ hp.extM)
    refine V.CallP.out ?_
    conv => arg 3; dsimp only [EV.val, List.toList_toArray, List.nil_append, List.append_nil, List.cons_append]
    refine V.CallP.use (must_tb (decide_eq_true c5) _) ?_
    rintro _ w ⟨rfl, hx⟩
    refine Or.inl ⟨_, rfl, ?_⟩
    try (have hp := hp.call hx)
    conv => whnf
    refine hKq _ _ _ (.refl _) ?_
    clear hKq Kq
    conv => whnf
    refine VSeq.mk fun Kq hKq => ?_
    conv => whnf
    refine VSeq.mk fun Kq hKq => ?_
    conv => whnf
    (refine ⟨_, _, bld54_0_1 _ _ _, ?_⟩; conv => whnf)
    have hps := pa.trans (if_pos ⟨by omega, c5⟩)
    have hpc := parse_some hps
    rw [hpar] at hpc
    simp only [Prod.mk.injEq] at hpc
    have hlen := congrArg List.length hpc.1
    rw [List.length_drop, List.length_cons] at hlen
    have hkl : k < A.length := by omega
    rw [List.drop_eq_getElem_cons hkl, List.cons.injEq] at hpc
    have hget : A.getD k (0, ⟨#[]⟩) = (((d : Nat) : Int), S.extract (at_ + 4) (at_ + 4 + n)) := by
      rw [List.getD_eq_getElem?_getD, List.getElem?_eq_getElem hkl, ← hpc.1.1]; rfl
    have hap := hp.apart
    have hap1 := fun h => (List.pairwise_cons.1 hap).1 (blk q [.string S, .int .i64 at_] 126) (by simp) al126 rfl h
    have hap2 := fun h => (List.pairwise_cons.1 hap).1 (blk bs [.string S] 9) (by simp) al126 rfl h
    have e1 : al126 ≠ q := fun e => hap1 (congrArg some e.symm)
    have e2 : al126 ≠ bs := fun e => hap2 (congrArg some e.symm)
    have hlo := hp.lo _ List.mem_cons_self al126 rfl
    have hj1 := hJ k [q, bs] _ w [al126, q, bs] hj hp.extM (fun b hb => by
      rcases List.mem_cons.1 hb with rfl | hb
      · rcases hlo.1 with h | h
        · exact .inl h
        · exact .inr ⟨h, hlo.2⟩
      · exact .inl hb) (by simp [e1, e2, hqb]) hp.extM.size
    have hy := hY k _ _ hj1 (fun h => by omega) (fun c h => by omega)
    rw [hget] at hy
    refine y_mono hy ?_
    rintro e w' (⟨rfl, hj2, hkp⟩ | ⟨rfl, hx2⟩)
    · refine ⟨_, rfl, ?_⟩
      have B0 : Blk w' al126 [.string S, .int .i64 (at_ + 2 + 2 + n + padN n : Nat)] 126 := Blk.same (hp.get (i := 0) rfl) (hkp al126 (by simp))
      have B1 : Blk w' q [.string S, .int .i64 at_] 126 := Blk.same (hp.get (i := 1) rfl) (hkp q (by simp))
      have B2 : Blk w' bs [.string S] 9 := Blk.same (hp.get (i := 2) rfl) (hkp bs (by simp))
      clear hp hx
      repeat clear hp
      have hp := (((HpM.nil0 [al126, q, bs] w').take B2 (by simp) (by simp)).take B1 (by simp) (by simp [blk, Ne.symm hqb])).take B0 (by simp) (by simp [blk, Ne.symm e1, Ne.symm e2])
      conv => whnf
      refine hKq _ _ _ (.refl _) ?_
      clear hKq Kq
      conv => whnf
      (refine And.intro (fun h => absurd h (by decide)) (fun _ => ?_); conv => whnf)
      (refine hKq _ _ _ (.refl _) ?_; clear hKq Kq; conv => whnf)
      (refine ⟨_, _, Blk.ldV (vs := [_, _]) (hp.get (i := 0) rfl) TTok rfl rfl rfl, ?_⟩; conv => whnf)
      (refine hp.kstA TTok rfl 1 rfl rfl (oneC_of rfl) (by rfl) fun w hp => ?_; try simp only [List.set_cons_zero, List.set_cons_succ, EV.val] at hp; conv => whnf)
      (refine hKq _ _ _ (.refl _) ?_; clear hKq Kq; conv => whnf)
      (refine VSeq.mk fun Kq hKq => ?_; conv => whnf)
      (refine ⟨_, _, Blk.ldV (vs := [_, _]) (hp.get (i := 1) rfl) TTok rfl rfl rfl, ?_⟩; conv => whnf)
      (refine hKq _ _ _ (.refl _) ?_; clear hKq Kq; conv => whnf)
      (refine hp.kalloc z126 fun al126 w hp hx => ?_; conv => whnf)
      (refine hp.kstA TTok rfl 0 rfl rfl (oneC_of rfl) (by rfl) fun w hp => ?_; try simp only [List.set_cons_zero, List.set_cons_succ, EV.val] at hp; conv => whnf)
      have hap := hp.apart
      have hap2 := fun h => (List.pairwise_cons.1 hap).1 (blk bs [.string S] 9) (by simp) al126 rfl h
      have e3 : al126 ≠ bs := fun e => hap2 (congrArg some e.symm)
      have hlo := hp.lo _ List.mem_cons_self al126 rfl
      refine ⟨mm - (4 + n + padN n), _, by omega, ⟨k + 1, at_ + 2 + 2 + n + padN n, al126, by omega, Prod.ext hpc.1.2.symm hpc.2.symm, hkl, e3, rfl, hJ (k + 1) _ w' w [al126, bs] hj2 hp.extM (fun b hb => ?_) (hnd e3) hp.extM.size, hp.get (i := 0) rfl, hp.get (i := 3) rfl⟩, sub_cons rfl (sub_cons rfl (sub_cons rfl sub_nil))⟩
      rcases List.mem_cons.1 hb with rfl | hb
      · rcases hlo.1 with h | h
        · exact .inl h
        · exact .inr ⟨h, hlo.2⟩
      · exact .inl (by simp at hb; simp [hb])
    · refine ⟨_, rfl, ?_⟩
      conv => whnf
      refine hKq _ _ _ (.refl _) ?_
      clear hKq Kq
      conv => whnf
      (refine And.intro (fun _ => ?_) (fun h => absurd h (by decide)); conv => whnf)
      exact .inl ⟨⟨_, rfl⟩, .inr ⟨_, _, hx2⟩⟩
  · have hlt := of_decide_eq_false hlt
    conv => whnf
    have hd : L.drop at_ = [] := List.drop_of_length_le (by rw [← hL, hl]; omega)
    rw [hd, parse_nil] at hpar
    simp only [Prod.mk.injEq] at hpar
    have h2 := congrArg List.length hpar.1
    rw [List.length_drop, List.length_nil] at h2
    exact .inl ⟨⟨_, rfl⟩, .inl ⟨k, _, ⟨by omega, hpar.2.symm⟩, hj⟩⟩
set_option maxHeartbeats 16000000
theorem parseF_le : ∀ (f : Nat) (l : List UInt8), (parseF f l).1.length ≤ f
  | 0, _ => Nat.le_refl _
  | f + 1, [] => Nat.zero_le _
  | f + 1, x :: l => by
    unfold parseF
    cases hp : pstep (x :: l) with
    | none => exact Nat.zero_le _
    | some y => dsimp only; rw [List.length_cons]; have := parseF_le f y.2; omega
theorem parse_le (l : List UInt8) : (parse l).1.length ≤ l.length := parseF_le _ _
theorem takeA_snoc (A : List At2) (k : Nat) (h : k < A.length) : A.take (k + 1) = A.take k ++ [A.getD k (0, ⟨#[]⟩)] := by
  rw [List.take_add_one, List.getD_eq_getElem?_getD, List.getElem?_eq_getElem h]; rfl
theorem appSeq_c {W : World} (S : ByteArray) (hS : S.size ≤ 10000) (bs : Nat) (hb : Blk W bs [.string S] 9) :
    Calls Tryz.prog 119 #[.slice none 0 0, .func (.func 120) #[] #[.pointer (some ⟨bs, 0, none⟩)]] W fun e w' =>
      ((parse S.data.toList).2 = true ∧ ∃ v, e = .returned v ∧ HpM [bs] W w' [row 54 2 v (parse S.data.toList).1.length (flatC (parse S.data.toList).1)]) ∨ ((parse S.data.toList).2 = false ∧ e = .panicked mal ∧ HpM [bs] W w' []) := by
  have hlt : bs < W.heap.size := hb.lt
  have hpl := parse_le S.data.toList
  rw [toList_len] at hpl
  have it := attrs_iter S hS bs 20000
  obtain ⟨A, ok, hA⟩ : ∃ A ok, parse S.data.toList = (A, ok) := ⟨_, _, rfl⟩
  rw [hA] at it hpl ⊢
  dsimp only at it hpl ⊢
  refine v_fnD (args := [.slice none 0 0, .func (.func 120) #[] #[.pointer (some ⟨bs, 0, none⟩)]]) TTok FFok Tryz.func119 rfl (Nat.le_of_ble_eq_true rfl) ?_
  have hp := (HpM.nil0 [bs] W).take hb (by simp) (by simp)
  conv => whnf
  refine VSeq.mk fun Kq hKq => ?_
  conv => whnf
  refine hp.kbox1 rfl fun q w hp hx => ?_
  conv => whnf
  refine hKq _ _ _ (.refl _) ?_
  clear hKq Kq
  conv => whnf
  refine VSeq.mk fun Kq hKq => ?_
  conv => whnf
  refine VSeq.mk fun Kq hKq => ?_
  conv => whnf
  refine hKq _ _ _ (.refl _) ?_
  clear hKq Kq
  conv => whnf
  skip
  have hp := hp.knil 54 2
  refine v_range2P TTok FFok it rfl rfl (by kernel_rfl) rfl (fun _ => rfl)
    (fun k X B => k ≤ A.length ∧ ∃ v, HpM [bs] W B (row 54 2 v k (flatC (A.take k)) :: blk q [v] 22 :: X))
    (fun e X B => False)
    (fun t => ⟨fun X B h x hx => by obtain ⟨_, v, h⟩ := h; exact h.holds x (by simp [hx]), fun X X' B C r h => by obtain ⟨h1, v, h⟩ := h; exact ⟨h1, v, h.reframeAt 2 rfl r⟩⟩)
    (fun e => ⟨fun X B h => h.elim, fun X X' B C r h => h.elim⟩)
    (fun t X B h => by have := h.1; omega) [blk bs [.string S] 9] (hp.pick [2] (by decide)) rfl
    (fun B hx => (hp.get (i := 2) rfl : Blk _ _ _ _).ext hx) ⟨Nat.zero_le _, _, hp⟩ ?_ ?_ ?_ ?_ ?_
  · rintro k X B ⟨hk, v, hp⟩ hnt hnb
    clear it
    have hkl : k < A.length := by
      rcases Nat.lt_or_ge k A.length with h | h
      · exact h
      · exfalso
        cases ok with
        | true => exact hnt ⟨by omega, rfl⟩
        | false => exact hnb mal ⟨by omega, rfl, rfl⟩
    obtain ⟨a, ha⟩ : ∃ a, A.getD k (0, ⟨#[]⟩) = a := ⟨_, rfl⟩
    rw [ha]
    unfold atV
    obtain ⟨pp, cp, rfl⟩ := row_shape (hp.get (i := 0) rfl)
    conv => whnf
    (refine hp.kalloc z54 fun al54 w hp hx => ?_; conv => whnf)
    (refine hp.kstA TTok rfl 0 rfl rfl (oneC_of rfl) (by rfl) fun w hp => ?_; try simp only [List.set_cons_zero, List.set_cons_succ, EV.val] at hp; conv => whnf)
    refine ⟨fun x hx => hp.holds x (by simp [hx]), fun X' B' r => ?_⟩
    have hp := hp.reframeAt 3 rfl r
    simp only [List.take_succ_cons, List.take_zero, List.cons_append, List.nil_append] at hp
    clear hx
    conv => whnf
    (refine ⟨_, _, Blk.ld (hp.get (i := 2) rfl) TTok rfl rfl, ?_⟩; conv => whnf)
    (refine ⟨_, _, Blk.ldV (vs := [_, _]) (hp.get (i := 0) rfl) TTok rfl rfl rfl, ?_⟩; conv => whnf)
    (refine hp.kmade _ _ (fun b => .slice (some ⟨b, 0, none⟩) 1 1) (mks22_1_0 _ _ _) fun q w hp hx => ?_; conv => whnf)
    refine hp.kapp sl22 2 rfl (Blk.src TTok (hp.get (i := 0) rfl) rfl (m := 1) rfl (oneC_of rfl)) (by omega) (by unfold maxLen; omega) fun v' w hp => ?_
    simp only [List.set_cons_zero, List.set_cons_succ] at hp
    obtain ⟨p1, c1, rfl⟩ := row_shape (hp.get (i := 2) rfl)
    conv => whnf
    refine hp.kst1 (off := 0) TTok (by rfl) 3 (by rfl) (by rfl) (by rfl) (Nat.le_of_ble_eq_true rfl) fun w hp => ?_
    try simp only [List.set_cons_zero, List.set_cons_succ, EV.val] at hp
    conv => whnf
    refine And.intro (by omega) ?_
    conv => whnf
    refine ⟨.slice p1 (k + 1) c1, ?_⟩
    have hp := hp.sub (List.drop_sublist 2 _)
    simp only [List.drop_succ_cons, List.drop_zero] at hp
    rw [takeA_snoc A k hkl, ha, flatC_app]
    exact hp
  · rintro D k X B ⟨rfl, rfl⟩ ⟨_, v, hp⟩
    rw [List.take_of_length_le (Nat.le_refl _)] at hp
    obtain ⟨pp, cp, rfl⟩ := row_shape (hp.get (i := 0) rfl)
    conv => whnf
    refine hKq _ _ _ (.refl _) ?_
    clear hKq Kq
    conv => whnf
    refine VSeq.mk fun Kq hKq => ?_
    conv => whnf
    (refine ⟨_, _, Blk.ld (hp.get (i := 1) rfl) TTok rfl rfl, ?_⟩; conv => whnf)
    (refine hKq _ _ _ (.refl _) ?_; clear hKq Kq; conv => whnf)
    refine ⟨⟨fun h => (by cases h), hp.get (i := 2) rfl⟩, ?_⟩
    conv => whnf
    exact .inl ⟨rfl, _, rfl, (hp.shut (i := 2) (o' := .deferred none) rfl).pick [0] (by decide)⟩
  · exact fun _ _ _ h => h.elim
  · exact fun _ _ _ _ h => h.elim
  · rintro D k c X B ⟨rfl, rfl, rfl⟩ ⟨_, v, hp⟩
    conv => whnf
    refine ⟨⟨fun h => (by cases h), hp.get (i := 2) rfl⟩, ?_⟩
    show _ ∨ _
    exact .inr ⟨rfl, rfl, (hp.shut (i := 2) (o' := .deferred none) rfl).sub (List.nil_sublist _)⟩
namespace V
theorem HpM.perm {M : List Nat} {w0 w : World} {H H' : List It} (h : HpM M w0 w H) (hp : H.Perm H') : HpM M w0 w H' :=
  ⟨h.extM, fun x hx => h.ok x (hp.mem_iff.2 hx), fun x hx => h.holds x (hp.mem_iff.2 hx), fun x hx => h.lo x (hp.mem_iff.2 hx),
    (hp.pairwise_iff (fun {x y} hxy b hb hy => hxy b hy hb)).1 h.apart⟩
end V
set_option maxHeartbeats 8000000
theorem Collect_c {W : World} (S : ByteArray) (hS : S.size ≤ 10000) (bs : Nat) (hb : Blk W bs [.string S] 9) :
    Calls Tryz.prog 71 #[.func (.func 120) #[] #[.pointer (some ⟨bs, 0, none⟩)]] W fun e w' =>
      ((parse S.data.toList).2 = true ∧ ∃ v, e = .returned v ∧ HpM [bs] W w' [row 54 2 v (parse S.data.toList).1.length (flatC (parse S.data.toList).1)]) ∨ ((parse S.data.toList).2 = false ∧ e = .panicked mal ∧ HpM [bs] W w' []) := by
  refine v_fnD (args := [.func (.func 120) #[] #[.pointer (some ⟨bs, 0, none⟩)]]) TTok FFok Tryz.func71 rfl (Nat.le_of_ble_eq_true rfl) ?_
  conv => whnf
  refine VSeq.mk fun Kq hKq => ?_
  conv => whnf
  refine hKq _ _ _ (.refl _) ?_
  clear hKq Kq
  conv => whnf
  refine VSeq.mk fun Kq hKq => ?_
  conv => whnf
  refine V.CallP.out ?_
  conv => arg 3; dsimp only [EV.val, List.toList_toArray, List.nil_append, List.append_nil, List.cons_append]
  refine V.CallP.use (appSeq_c S hS bs hb) ?_
  rintro _ w (⟨ho, v, rfl, hp⟩ | ⟨ho, rfl, hp⟩)
  · obtain ⟨p, c, rfl⟩ := row_shape (hp.get (i := 0) rfl)
    refine Or.inl ⟨_, rfl, ?_⟩
    conv => whnf
    refine hKq _ _ _ (.refl _) ?_
    clear hKq Kq
    conv => whnf
    refine Or.inl (And.intro (by omega) ?_)
    conv => whnf
    first | exact .inl ⟨ho, _, rfl, hp⟩ | exact ⟨_, rfl, hp⟩
  · refine Or.inr ⟨_, rfl, ?_⟩
    conv => whnf
    exact .inr ⟨ho, rfl, hp⟩
theorem attributes_c {w : World} (s : ByteArray) :
    Calls Tryz.prog 72 #[.string s] w fun e w' => ∃ q, e = .returned (.func (.func 120) #[] #[.pointer (some ⟨q, 0, none⟩)]) ∧ HpM [] w w' [blk q [.string s] 9] := by
  refine (v_fn (R := fun v w' => ∃ q, v = .func (.func 120) #[] #[.pointer (some ⟨q, 0, none⟩)] ∧ HpM [] w w' [blk q [.string s] 9]) (args := [.string s]) TTok FFok Tryz.func72 rfl (Nat.le_of_ble_eq_true rfl) ?_).mono (fun e w' ⟨v, h1, q, h2, h3⟩ => ⟨q, by rw [h1, h2], h3⟩)
  have hp := Hp.nil w
  conv => whnf
  refine VSeq.mk fun Kq hKq => ?_
  conv => whnf
  refine hp.kbox1 rfl fun q w hp hx => ?_
  conv => whnf
  refine hKq _ _ _ (.refl _) ?_
  clear hKq Kq
  conv => whnf
  refine VSeq.mk fun Kq hKq => ?_
  conv => whnf
  refine hKq _ _ _ (.refl _) ?_
  clear hKq Kq
  conv => whnf
  skip
  exact ⟨q, rfl, hp⟩
theorem HpM.swap {M : List Nat} {w0 A B : World} {b e : Nat} {cs : List Value} {H X : List It} (hp : HpM M w0 A (blk b cs e :: H)) (hr : HpM [b] A B X) : HpM M w0 B (H ++ X) := by
  have h1 : HpM M w0 A (H ++ [blk b cs e]) := hp.perm (List.perm_append_comm (l₁ := [blk b cs e]))
  refine h1.reframe ⟨hr.extM, hr.ok, hr.holds, fun x hx c hc => ?_, hr.apart⟩
  exact hr.lo x hx c hc
theorem HpM.ext1 {A B C : World} {b : Nat} {X : List It} (hr : HpM [b] B C X) (hx : Ext A B) (hb : A.heap.size ≤ b) : Ext A C := by
  have h := (ExtM.of_ext (M := [b]) hx).trans' hr.extM
  exact ⟨h.os, h.tape, h.output, h.size, fun k hk => h.block k hk (by simp; omega)⟩
theorem number_c {W : World} (s : ByteArray) (hs : s.size ≤ 100000) (bs : Nat) (hb : Blk W bs [.string s] 9) (i k : Nat) (h1 : 1 ≤ k) (h7 : k ≤ 7) (hk : i + k ≤ s.size) :
    Calls Tryz.prog 68 #[.int .i64 i, .int .i64 (i + k : Nat), .pointer (some ⟨bs, 0, none⟩)] W fun e w' => e = .returned (.int .i64 (numB (s.extract i (i + k)))) ∧ Ext W w' := by
  have hsz : (s.extract i (i + k)).size = k := by rw [ByteArray.size_extract]; omega
  refine v_reads (args := [.int .i64 i, .int .i64 (i + k : Nat), .pointer (some ⟨bs, 0, none⟩)]) TTok FFok Tryz.func68 rfl rfl ?_
  have hp := Hp.nil W
  conv => whnf
  refine VSeq.mk fun Kq hKq => ?_
  conv => whnf
  refine hKq _ _ _ (.refl _) ?_
  clear hKq Kq
  conv => whnf
  refine VSeq.mk fun Kq hKq => ?_
  conv => whnf
  skip
  refine ⟨_, _, hb.ld TTok rfl rfl, ?_⟩
  conv => whnf
  (refine ⟨_, _, ⟨rfl, rfl, by omega, by omega⟩, ?_⟩; conv => whnf)
  (refine ⟨_, _, bld126_0 _ _, ?_⟩; conv => whnf)
  (refine Or.inl (And.intro (by first | omega | decide) ?_); conv => whnf)
  rw [show ((i + k : Nat) : Int) - (i : Int) = ((k : Nat) : Int) by omega]
  (refine V.CallW.out ?_; (conv => arg 3; dsimp only [EV.val, List.toList_toArray, List.nil_append, List.append_nil, List.cons_append]); (with_reducible refine V.PureF.useW (Uint_ok (s.extract i (i + k)) 0 k (by omega) (by omega) (by omega) (by omega)) fun w hx => ?_); try (have hp := hp.call hx); conv => whnf)
  (refine hp.kalloc z126 fun al126 w hp hx => ?_; conv => whnf)
  (refine hp.kstA TTok rfl 0 rfl rfl (oneC_of rfl) (by rfl) fun w hp => ?_; try simp only [List.set_cons_zero, List.set_cons_succ, EV.val] at hp; conv => whnf)
  (refine hKq _ _ _ (.refl _) ?_; clear hKq Kq; conv => whnf)
  (refine VSeq.mk fun Kq hKq => ?_; conv => whnf)
  (refine hKq _ _ _ (.refl _) ?_; clear hKq Kq; conv => whnf)
  rw [ext_ext, Nat.add_zero, Nat.zero_add, Nat.min_self]
  exact ⟨rfl, hp.ext⟩
theorem def_idle {w : World} (qm qe : Nat) :
    DefC Tryz.prog 67 #[.pointer (some ⟨qm, 0, none⟩), .pointer (some ⟨qe, 0, none⟩)] .returning w fun e u' w' => u' = .returning ∧ ∃ x, e = .returned x ∧ w' = w := by
  refine v_deferred (args := [.pointer (some ⟨qm, 0, none⟩), .pointer (some ⟨qe, 0, none⟩)]) TTok FFok Tryz.func67 rfl (Nat.le_of_ble_eq_true rfl) (fun ρ w => rfl) rfl rfl rfl rfl ?_
  conv => whnf
  refine VSeq.mk fun Kq hKq => ?_
  conv => whnf
  refine ⟨.bool false, w, by kernel_rfl, ?_⟩
  conv => whnf
  refine hKq _ _ _ (.refl _) ?_
  clear hKq Kq
  conv => whnf
  (refine And.intro (fun h => absurd h (by decide)) (fun _ => ?_); conv => whnf)
  exact ⟨rfl, rfl⟩
theorem def_caught {M : List Nat} {w0 w : World} {H : List It} {qm qe : Nat} {mc : List Value} {ec : Value} (hp : HpM M w0 w (blk qe [ec] 36 :: blk qm mc 24 :: H)) (hm : mc.length = 4) :
    DefC Tryz.prog 67 #[.pointer (some ⟨qm, 0, none⟩), .pointer (some ⟨qe, 0, none⟩)] (.panicking mal) w fun e u' w' => u' = .panicking [{ v := .iface 123 (.agg #[]), recovered := true }] ∧ ∃ x, e = .returned x ∧ HpM M w0 w' (blk qe [.int .i64 5] 36 :: blk qm [.int .i64 0, .int .i64 0, .string ⟨#[]⟩, .slice none 0 0] 24 :: H) := by
  refine v_deferred (args := [.pointer (some ⟨qm, 0, none⟩), .pointer (some ⟨qe, 0, none⟩)]) TTok FFok Tryz.func67 rfl (Nat.le_of_ble_eq_true rfl) (fun ρ w => rfl) rfl rfl rfl rfl ?_
  conv => whnf
  refine VSeq.mk fun Kq hKq => ?_
  conv => whnf
  refine ⟨.bool true, w, by kernel_rfl, ?_⟩
  conv => whnf
  refine hKq _ _ _ (.refl _) ?_
  clear hKq Kq
  conv => whnf
  (refine And.intro (fun _ => ?_) (fun h => absurd h (by decide)); conv => whnf)
  (refine VSeq.mk fun Kq hKq => ?_; conv => whnf)
  (refine VSeq.mk fun Kq hKq => ?_; conv => whnf)
  refine ⟨.tuple #[.agg #[], .bool true], w, by kernel_rfl, ?_⟩
  conv => whnf
  (refine hp.kalloc z123 fun al123 w hp hx => ?_; conv => whnf)
  (refine hp.kstA TTok rfl 0 rfl rfl (oneC_of rfl) (by rfl) fun w hp => ?_; try simp only [List.set_cons_zero, List.set_cons_succ, EV.val] at hp; conv => whnf)
  (refine hKq _ _ _ (.refl _) ?_; clear hKq Kq; conv => whnf)
  (refine VSeq.mk fun Kq hKq => ?_; conv => whnf)
  (refine hKq _ _ _ (.refl _) ?_; clear hKq Kq; conv => whnf)
  (refine And.intro (fun h => absurd h (by decide)) (fun _ => ?_); conv => whnf)
  (refine hKq _ _ _ (.refl _) ?_; clear hKq Kq; conv => whnf)
  (refine ⟨_, _, bld24_ _, ?_⟩; conv => whnf)
  refine hp.kstA TTok rfl 2 rfl (rfl) (oneC_of rfl) (hm) fun w hp => ?_
  try simp only [List.set_cons_zero, List.set_cons_succ, EV.val] at hp
  conv => whnf
  (refine hp.kst1 TTok (by rfl) 1 (by rfl) (by rfl) (by rfl) (Nat.le_of_ble_eq_true rfl) fun w hp => ?_; try simp only [List.set_cons_zero, List.set_cons_succ, EV.val] at hp; conv => whnf)
  exact ⟨rfl, hp.tail⟩
set_option maxHeartbeats 16000000
def hdT (s : ByteArray) : Nat := numB (s.extract 0 2)
def decA (s : ByteArray) : List At2 × Bool := parse (s.extract 20 s.size).data.toList
def okD (s : ByteArray) : Bool := decide (hdT s < 16384) && (decide (numB (s.extract 4 8) = 554869826) && decide (s.size = 20 + numB (s.extract 2 4)))
def decC (s : ByteArray) : Nat :=
  if 1200 < s.size then 3 else if s.size < 20 then 7 else if s.size < 20 + numB (s.extract 2 4) then 7 else
  if okD s = true ∧ (decA s).2 = true ∧ stunB (clsN (hdT s)) (mthN (hdT s)) (s.extract 8 20) (decA s).1 = true then 0 else 5
theorem Decode_c {W : World} (s : ByteArray) (hs : s.size ≤ maxLen) :
    Calls Tryz.prog 19 #[.string s] W fun e w' =>
      (decC s = 0 ∧ ∃ v, e = .returned (.tuple #[.agg #[.int .i64 (clsN (hdT s)), .int .i64 (mthN (hdT s)), .string (s.extract 8 20), v], .int .i64 0]) ∧ HpM [] W w' [row 54 2 v (decA s).1.length (flatC (decA s).1)]) ∨
      (decC s ≠ 0 ∧ e = .returned (.tuple #[zStun, .int .i64 (decC s)]) ∧ Ext W w') := by
  unfold maxLen at hs
  have hD : decC s = if 1200 < s.size then 3 else if s.size < 20 then 7 else if s.size < 20 + numB (s.extract 2 4) then 7 else if okD s = true ∧ (decA s).2 = true ∧ stunB (clsN (hdT s)) (mthN (hdT s)) (s.extract 8 20) (decA s).1 = true then 0 else 5 := rfl
  obtain ⟨D, hDD⟩ : ∃ D, decC s = D := ⟨_, rfl⟩
  rw [hDD] at hD ⊢
  refine v_fnD (args := [.string s]) TTok FFok Tryz.func19 rfl (Nat.le_of_ble_eq_true rfl) ?_
  have hp := Hp.nil W
  conv => whnf
  refine VSeq.mk fun Kq hKq => ?_
  conv => whnf
  refine hp.kbox1 rfl fun q1 w hp hx => ?_
  conv => whnf
  (refine hp.kalloc z24 fun al24 w hp hx => ?_; conv => whnf)
  (refine hp.kalloc z36 fun al36 w hp hx => ?_; conv => whnf)
  (refine hKq _ _ _ (.refl _) ?_; clear hKq Kq; conv => whnf)
  (refine VSeq.mk fun Kq hKq => ?_; conv => whnf)
  (refine VSeq.mk fun Kq hKq => ?_; conv => whnf)
  (refine ⟨_, _, Blk.ld (hp.get (i := 2) rfl) TTok rfl rfl, ?_⟩; conv => whnf)
  (refine hKq _ _ _ (.refl _) ?_; clear hKq Kq; conv => whnf)
  refine ⟨fun h1 => ?_, fun h1 => ?_⟩
  · have h1 := of_decide_eq_true h1
    conv => whnf
    refine VSeq.mk fun Kq hKq => ?_
    conv => whnf
    rw [if_pos (by omega)] at hD
    (refine ⟨_, _, Blk.ldV (vs := [_, _, _, _]) (hp.get (i := 1) rfl) TTok rfl rfl rfl, ?_⟩; conv => whnf)
    (refine hp.kstA TTok rfl 1 rfl rfl (oneC_of rfl) (by rfl) fun w hp => ?_; try simp only [List.set_cons_zero, List.set_cons_succ, EV.val] at hp; conv => whnf)
    (refine hp.kst1 TTok (by rfl) 0 (by rfl) (by rfl) (by rfl) (Nat.le_of_ble_eq_true rfl) fun w hp => ?_; try simp only [List.set_cons_zero, List.set_cons_succ, EV.val] at hp; conv => whnf)
    (refine hKq _ _ _ (.refl _) ?_; clear hKq Kq; conv => whnf)
    (refine ⟨_, Blk.lvN (hp.get (i := 1) rfl) TTok rfl rfl, ?_⟩; conv => whnf)
    (refine ⟨_, Blk.lv (hp.get (i := 0) rfl) TTok rfl rfl, ?_⟩; conv => whnf)
    subst hD
    exact .inr ⟨by decide, rfl, hp.ext⟩
  · have h1 := of_decide_eq_false h1
    conv => whnf
    refine VSeq.mk fun Kq hKq => ?_
    conv => whnf
    rw [if_neg (by omega)] at hD
    (refine ⟨_, _, Blk.ld (hp.get (i := 2) rfl) TTok rfl rfl, ?_⟩; conv => whnf)
    (refine hKq _ _ _ (.refl _) ?_; clear hKq Kq; conv => whnf)
    refine ⟨fun h2 => ?_, fun h2 => ?_⟩
    · have h2 := of_decide_eq_true h2
      conv => whnf
      refine VSeq.mk fun Kq hKq => ?_
      conv => whnf
      rw [if_pos (by omega)] at hD
      (refine ⟨_, _, Blk.ldV (vs := [_, _, _, _]) (hp.get (i := 1) rfl) TTok rfl rfl rfl, ?_⟩; conv => whnf)
      (refine hp.kstA TTok rfl 1 rfl rfl (oneC_of rfl) (by rfl) fun w hp => ?_; try simp only [List.set_cons_zero, List.set_cons_succ, EV.val] at hp; conv => whnf)
      (refine hp.kst1 TTok (by rfl) 0 (by rfl) (by rfl) (by rfl) (Nat.le_of_ble_eq_true rfl) fun w hp => ?_; try simp only [List.set_cons_zero, List.set_cons_succ, EV.val] at hp; conv => whnf)
      (refine hKq _ _ _ (.refl _) ?_; clear hKq Kq; conv => whnf)
      (refine ⟨_, Blk.lvN (hp.get (i := 1) rfl) TTok rfl rfl, ?_⟩; conv => whnf)
      (refine ⟨_, Blk.lv (hp.get (i := 0) rfl) TTok rfl rfl, ?_⟩; conv => whnf)
      subst hD
      exact .inr ⟨by decide, rfl, hp.ext⟩
    · have h2 := of_decide_eq_false h2
      conv => whnf
      refine hKq _ _ _ (.refl _) ?_
      clear hKq Kq
      conv => whnf
      refine VSeq.mk fun Kq hKq => ?_
      conv => whnf
      refine hKq _ _ _ (.refl _) ?_
      clear hKq Kq
      conv => whnf
      refine VSeq.mk fun Kq hKq => ?_
      conv => whnf
      refine hKq _ _ _ (.refl _) ?_
      clear hKq Kq
      conv => whnf
      refine VSeq.mk fun Kq hKq => ?_
      conv => whnf
      rw [if_neg (by omega)] at hD
      skip
      refine V.CallP.out ?_
      conv => arg 3; dsimp only [EV.val, List.toList_toArray, List.nil_append, List.append_nil, List.cons_append]
      refine V.CallP.use (number_c s (by omega) q1 (hp.get (i := 2) rfl) 2 2 (by decide) (by decide) (by omega)) ?_
      rintro _ w ⟨rfl, hx⟩
      refine Or.inl ⟨_, rfl, ?_⟩
      try (have hp := hp.call hx)
      conv => whnf
      refine hKq _ _ _ (.refl _) ?_
      clear hKq Kq
      conv => whnf
      refine VSeq.mk fun Kq hKq => ?_
      conv => whnf
      refine VSeq.mk fun Kq hKq => ?_
      conv => whnf
      (refine ⟨_, _, Blk.ld (hp.get (i := 2) rfl) TTok rfl rfl, ?_⟩; conv => whnf)
      have hn2 := numL_lt 2 (s.extract 2 (2 + 2)).data.toList (by rw [toList_len, ByteArray.size_extract]; omega)
      change numB (s.extract 2 (2 + 2)) < 65536 at hn2
      obtain ⟨N, hN⟩ : ∃ N, numB (s.extract 2 (2 + 2)) = N := ⟨_, rfl⟩
      have hN' : numB (s.extract 2 4) = N := hN
      rw [hN] at hn2
      rw [hN'] at hD
      rw [hN]
      (refine Or.inl (And.intro (by first | omega | decide) ?_); conv => whnf)
      (refine hKq _ _ _ (.refl _) ?_; clear hKq Kq; conv => whnf)
      refine ⟨fun h3 => ?_, fun h3 => ?_⟩
      · have h3 := of_decide_eq_true h3
        conv => whnf
        refine VSeq.mk fun Kq hKq => ?_
        conv => whnf
        rw [if_pos (by omega)] at hD
        (refine ⟨_, _, Blk.ldV (vs := [_, _, _, _]) (hp.get (i := 1) rfl) TTok rfl rfl rfl, ?_⟩; conv => whnf)
        (refine hp.kstA TTok rfl 1 rfl rfl (oneC_of rfl) (by rfl) fun w hp => ?_; try simp only [List.set_cons_zero, List.set_cons_succ, EV.val] at hp; conv => whnf)
        (refine hp.kst1 TTok (by rfl) 0 (by rfl) (by rfl) (by rfl) (Nat.le_of_ble_eq_true rfl) fun w hp => ?_; try simp only [List.set_cons_zero, List.set_cons_succ, EV.val] at hp; conv => whnf)
        (refine hKq _ _ _ (.refl _) ?_; clear hKq Kq; conv => whnf)
        refine ⟨⟨fun h => (by cases h), rfl⟩, CallsDIn.mono (def_idle _ _) ?_⟩
        rintro e u' w' ⟨rfl, x, rfl, rfl⟩
        conv => whnf
        (refine ⟨_, Blk.lvN (hp.get (i := 1) rfl) TTok rfl rfl, ?_⟩; conv => whnf)
        (refine ⟨_, Blk.lv (hp.get (i := 0) rfl) TTok rfl rfl, ?_⟩; conv => whnf)
        subst hD
        exact .inr ⟨by decide, rfl, hp.ext⟩
      · have h3 := of_decide_eq_false h3
        conv => whnf
        refine hKq _ _ _ (.refl _) ?_
        clear hKq Kq
        conv => whnf
        refine VSeq.mk fun Kq hKq => ?_
        conv => whnf
        rw [if_neg (by omega)] at hD
        skip
        refine V.CallP.out ?_
        conv => arg 3; dsimp only [EV.val, List.toList_toArray, List.nil_append, List.append_nil, List.cons_append]
        refine V.CallP.use (number_c s (by omega) q1 (hp.get (i := 2) rfl) 0 2 (by decide) (by decide) (by omega)) ?_
        rintro _ w ⟨rfl, hx⟩
        refine Or.inl ⟨_, rfl, ?_⟩
        try (have hp := hp.call hx)
        conv => whnf
        refine hKq _ _ _ (.refl _) ?_
        clear hKq Kq
        conv => whnf
        refine VSeq.mk fun Kq hKq => ?_
        conv => whnf
        refine VSeq.mk fun Kq hKq => ?_
        conv => whnf
        refine hKq _ _ _ (.refl _) ?_
        clear hKq Kq
        conv => whnf
        refine VSeq.mk fun Kq hKq => ?_
        conv => whnf
        have ht2 := numL_lt 2 (s.extract 0 (0 + 2)).data.toList (by rw [toList_len, ByteArray.size_extract]; omega)
        change numB (s.extract 0 (0 + 2)) < 65536 at ht2
        obtain ⟨T, hT⟩ : ∃ T, numB (s.extract 0 (0 + 2)) = T := ⟨_, rfl⟩
        have hT' : hdT s = T := hT
        rw [hT] at ht2
        rw [hT'] at hD
        rw [hT, hT']
        have hok : okD s = (decide (T < 16384) && (decide (numB (s.extract 4 8) = 554869826) && decide (s.size = 20 + N))) := by unfold okD; rw [hT', hN']
        rw [hok] at hD
        clear hok
        skip
        refine ⟨fun h4 => ?_, fun h4 => ?_⟩
        · have h4 := of_decide_eq_true h4
          conv => whnf
          skip
          refine V.CallP.out ?_
          conv => arg 3; dsimp only [EV.val, List.toList_toArray, List.nil_append, List.append_nil, List.cons_append]
          refine V.CallP.use (number_c s (by omega) q1 (hp.get (i := 2) rfl) 4 4 (by decide) (by decide) (by omega)) ?_
          rintro _ w ⟨rfl, hx⟩
          refine Or.inl ⟨_, rfl, ?_⟩
          try (have hp := hp.call hx)
          conv => whnf
          refine hKq _ _ _ (.refl _) ?_
          clear hKq Kq
          conv => whnf
          obtain ⟨G, hG⟩ : ∃ G, numB (s.extract 4 (4 + 4)) = G := ⟨_, rfl⟩
          have hG' : numB (s.extract 4 8) = G := hG
          rw [hG]
          rw [hG'] at hD
          skip
          refine ⟨fun h5 => ?_, fun h5 => ?_⟩
          · have h5 := of_decide_eq_true h5
            conv => whnf
            (refine ⟨_, _, Blk.ld (hp.get (i := 2) rfl) TTok rfl rfl, ?_⟩; conv => whnf)
            (refine Or.inl (And.intro (by first | omega | decide) ?_); conv => whnf)
            by_cases h6 : s.size = 20 + N
            rotate_left
            · skip
              refine V.CallP.out ?_
              conv => arg 3; dsimp only [EV.val, List.toList_toArray, List.nil_append, List.append_nil, List.cons_append]
              refine V.CallP.use (must_fb (decide_eq_false (by omega))) ?_
              rintro _ w ⟨rfl, hx⟩
              refine Or.inr ⟨_, rfl, ?_⟩
              try (have hp := hp.call hx)
              conv => whnf
              refine ⟨⟨fun h => (by cases h), rfl⟩, CallsDIn.mono (def_caught hp rfl) ?_⟩
              rintro _ _ w ⟨rfl, x, rfl, hp⟩
              conv => whnf
              (refine ⟨_, Blk.lvN (hp.get (i := 1) rfl) TTok rfl rfl, ?_⟩; conv => whnf)
              (refine ⟨_, Blk.lv (hp.get (i := 0) rfl) TTok rfl rfl, ?_⟩; conv => whnf)
              rw [if_neg (fun h => (by have := h.1; simp only [Bool.and_eq_true, decide_eq_true_eq] at this; omega))] at hD
              subst hD
              exact .inr ⟨by decide, rfl, hp.ext⟩
            refine V.CallP.out ?_
            conv => arg 3; dsimp only [EV.val, List.toList_toArray, List.nil_append, List.append_nil, List.cons_append]
            refine V.CallP.use (must_tb (decide_eq_true (by omega)) _) ?_
            rintro _ w ⟨rfl, hx⟩
            refine Or.inl ⟨_, rfl, ?_⟩
            try (have hp := hp.call hx)
            conv => whnf
            refine hKq _ _ _ (.refl _) ?_
            clear hKq Kq
            conv => whnf
            refine VSeq.mk fun Kq hKq => ?_
            conv => whnf
            have a1 : (T / 16) &&& 1 ≤ 1 := Nat.and_le_right
            have a2 : (T / 128) &&& 2 ≤ 2 := Nat.and_le_right
            have a3 : T &&& 15 ≤ 15 := Nat.and_le_right
            have a4 : (T / 2) &&& 112 ≤ 112 := Nat.and_le_right
            have a5 : (T / 4) &&& 3968 ≤ 3968 := Nat.and_le_right
            have a6 : (T &&& 15 ||| (T / 2) &&& 112) < 128 := Nat.or_lt_two_pow (n := 7) (by omega) (by omega)
            have hc : clsN T = (T / 16) &&& 1 ||| (T / 128) &&& 2 := rfl
            have hm : mthN T = T &&& 15 ||| (T / 2) &&& 112 ||| (T / 4) &&& 3968 := rfl
            obtain ⟨A1, hA1⟩ : ∃ A, (T / 16) &&& 1 = A := ⟨_, rfl⟩
            obtain ⟨A2, hA2⟩ : ∃ A, (T / 128) &&& 2 = A := ⟨_, rfl⟩
            obtain ⟨A3, hA3⟩ : ∃ A, T &&& 15 = A := ⟨_, rfl⟩
            obtain ⟨A4, hA4⟩ : ∃ A, (T / 2) &&& 112 = A := ⟨_, rfl⟩
            obtain ⟨A5, hA5⟩ : ∃ A, (T / 4) &&& 3968 = A := ⟨_, rfl⟩
            rw [hA1] at a1 hc
            rw [hA2] at a2 hc
            rw [hA3] at a3 a6 hm
            rw [hA4] at a4 a6 hm
            rw [hA5] at a5 hm
            refine v_mtBP TTok FFok mixed [24] (.q 0 (.q 1 (.q 2 (.q 3 (.q 4 (.q 5 (.q 6 (.q 7 (.q 8 (.q 9 (.q 10 (.q 11 (.q 12 (.q 13 (.q 14 (.q 15 (.q 16 (.q 17 (.q 18 (.q 19 (.q 20 (.m 21 (.m 22 (.q 23 (.m 24 .nil))))))))))))))))))))))))) (by kernel_rfl) (by rfl) ?_
            conv => whnf
            refine ⟨4, ⟨by first | rfl | omega, by omega⟩, ?_⟩
            conv => whnf
            refine ⟨T / 16, 1, A1, ⟨by first | rfl | omega, by first | rfl | omega, by omega, by omega⟩, by (dsimp only; exact hA1), ?_⟩
            conv => whnf
            refine ⟨7, ⟨by first | rfl | omega, by omega⟩, ?_⟩
            conv => whnf
            refine ⟨T / 128, 2, A2, ⟨by first | rfl | omega, by first | rfl | omega, by omega, by omega⟩, by (dsimp only; exact hA2), ?_⟩
            conv => whnf
            refine ⟨A1, A2, _, ⟨by first | rfl | omega, by first | rfl | omega, by omega, by omega⟩, rfl, ?_⟩
            conv => whnf
            refine ⟨T, 15, A3, ⟨by first | rfl | omega, by first | rfl | omega, by omega, by omega⟩, by (dsimp only; exact hA3), ?_⟩
            conv => whnf
            refine ⟨1, ⟨by first | rfl | omega, by omega⟩, ?_⟩
            conv => whnf
            refine ⟨T / 2, 112, A4, ⟨by first | rfl | omega, by first | rfl | omega, by omega, by omega⟩, by (dsimp only; exact hA4), ?_⟩
            conv => whnf
            refine ⟨A3, A4, _, ⟨by first | rfl | omega, by first | rfl | omega, by omega, by omega⟩, rfl, ?_⟩
            conv => whnf
            refine ⟨2, ⟨by first | rfl | omega, by omega⟩, ?_⟩
            conv => whnf
            refine ⟨T / 4, 3968, A5, ⟨by first | rfl | omega, by first | rfl | omega, by omega, by omega⟩, by (dsimp only; exact hA5), ?_⟩
            conv => whnf
            refine ⟨A3 ||| A4, A5, _, ⟨by first | rfl | omega, by first | rfl | omega, by omega, by omega⟩, rfl, ?_⟩
            conv => whnf
            have hS20 : (s.extract 20 s.size).size ≤ 10000 := by rw [ByteArray.size_extract]; omega
            (refine ⟨_, fun w' hx' => Blk.ld (Blk.ext (hp.get (i := 2) rfl) hx') TTok rfl rfl, ?_⟩; conv => whnf)
            refine ⟨8, 20, ⟨rfl, rfl, by omega, by omega⟩, ?_⟩
            conv => whnf
            (refine ⟨_, fun w' hx' => Blk.ld (Blk.ext (hp.get (i := 2) rfl) hx') TTok rfl rfl, ?_⟩; conv => whnf)
            refine ⟨20, ⟨by first | rfl | omega, by omega⟩, ?_⟩
            conv => whnf
            intro wa hxa
            have hp := hp.call hxa
            conv => whnf
            refine V.CallP.out ?_
            conv => arg 3; dsimp only [EV.val, List.toList_toArray, List.nil_append, List.append_nil, List.cons_append]
            refine V.CallP.use (attributes_c (s.extract 20 s.size)) ?_
            rintro _ w ⟨q2, rfl, hq⟩
            refine Or.inl ⟨_, rfl, ?_⟩
            have hB : _ ≤ q2 := Nat.le_trans hxa.size (by
              rcases (hq.lo _ List.mem_cons_self q2 rfl).1 with h | h
              · cases h
              · exact h)
            have hp := hp.join hq
            conv => whnf
            refine And.intro (fun h => h.trans hq.ext) ?_
            simp only [List.cons_append, List.nil_append] at hp
            conv => whnf
            intro wb hxb
            have hp := hp.call hxb
            conv => whnf
            refine V.CallP.out ?_
            conv => arg 3; dsimp only [EV.val, List.toList_toArray, List.nil_append, List.append_nil, List.cons_append]
            refine V.CallP.use (Collect_c (s.extract 20 s.size) hS20 q2 (hp.get (i := 0) rfl)) ?_
            rintro _ w (⟨ho, v, rfl, hr⟩ | ⟨ho, rfl, hr⟩)
            · have hp := HpM.swap hp hr
              simp only [List.cons_append, List.nil_append] at hp
              obtain ⟨pv, cv, rfl⟩ := row_shape (hr.get (i := 0) rfl)
              refine Or.inl ⟨_, rfl, ?_⟩
              conv => whnf
              refine And.intro (fun h => HpM.ext1 hr h hB) ?_
              clear hr hq
              conv => whnf
              (refine ⟨_, fun w' hx' => bld24_0_1_2_3 w' _ _ _ _ _ _, ?_⟩; conv => whnf)
              (intro w hx; try (have hp := hp.call hx); conv => whnf)
              (refine hp.kstA TTok rfl 1 rfl rfl (oneC_of rfl) (by rfl) fun w hp => ?_; try simp only [List.set_cons_zero, List.set_cons_succ, EV.val] at hp; conv => whnf)
              (intro w hx; try (have hp := hp.call hx); conv => whnf)
              (refine hKq _ _ _ (.refl _) ?_; clear hKq Kq; conv => whnf)
              (refine VSeq.mk fun Kq hKq => ?_; conv => whnf)
              (refine ⟨_, _, Blk.ldV (vs := [_, _, _, _]) (hp.get (i := 1) rfl) TTok rfl rfl rfl, ?_⟩; conv => whnf)
              refine V.CallP.out ?_
              conv => arg 3; dsimp only [EV.val, List.toList_toArray, List.nil_append, List.append_nil, List.cons_append]
              refine V.CallP.use (Check_c _ _ _ (SA.of_row (hp.get (i := 3) rfl))) ?_
              rintro _ w ⟨rfl, hx⟩
              refine Or.inl ⟨_, rfl, ?_⟩
              try (have hp := hp.call hx)
              conv => whnf
              skip
              by_cases hst : stunB ((A1 ||| A2 : Nat) : Int) ((A3 ||| A4 ||| A5 : Nat) : Int) (s.extract 8 20) (decA s).1 = true
              · have hck : chkN ((A1 ||| A2 : Nat) : Int) ((A3 ||| A4 ||| A5 : Nat) : Int) (s.extract 8 20) (decA s).1 = 0 := by unfold chkN; rw [if_pos hst]
                refine V.CallP.out ?_
                conv => arg 3; dsimp only [EV.val, List.toList_toArray, List.nil_append, List.append_nil, List.cons_append]
                refine V.CallP.use (must_tb (decide_eq_true (by exact_mod_cast hck)) _) ?_
                rintro _ w ⟨rfl, hx⟩
                refine Or.inl ⟨_, rfl, ?_⟩
                try (have hp := hp.call hx)
                conv => whnf
                refine hKq _ _ _ (.refl _) ?_
                clear hKq Kq
                conv => whnf
                refine VSeq.mk fun Kq hKq => ?_
                conv => whnf
                (refine ⟨_, _, Blk.ldV (vs := [_, _, _, _]) (hp.get (i := 1) rfl) TTok rfl rfl rfl, ?_⟩; conv => whnf)
                (refine hp.kstA TTok rfl 1 rfl rfl (oneC_of rfl) (by rfl) fun w hp => ?_; try simp only [List.set_cons_zero, List.set_cons_succ, EV.val] at hp; conv => whnf)
                (refine hp.kst1 TTok (by rfl) 0 (by rfl) (by rfl) (by rfl) (Nat.le_of_ble_eq_true rfl) fun w hp => ?_; try simp only [List.set_cons_zero, List.set_cons_succ, EV.val] at hp; conv => whnf)
                (refine hKq _ _ _ (.refl _) ?_; clear hKq Kq; conv => whnf)
                refine ⟨⟨fun h => (by cases h), rfl⟩, CallsDIn.mono (def_idle _ _) ?_⟩
                rintro e u' w' ⟨rfl, x, rfl, rfl⟩
                conv => whnf
                (refine ⟨_, Blk.lvN (hp.get (i := 1) rfl) TTok rfl rfl, ?_⟩; conv => whnf)
                (refine ⟨_, Blk.lv (hp.get (i := 0) rfl) TTok rfl rfl, ?_⟩; conv => whnf)
                rw [hc, hm] at hD
                rw [if_pos ⟨by simp only [Bool.and_eq_true, decide_eq_true_eq]; omega, ho, hst⟩] at hD
                subst hD
                refine .inl ⟨rfl, _, ?_, hp.pick [3] (by decide)⟩
                rw [hT', hc, hm]
                rfl
              · have hck : chkN ((A1 ||| A2 : Nat) : Int) ((A3 ||| A4 ||| A5 : Nat) : Int) (s.extract 8 20) (decA s).1 = 80 := by unfold chkN; rw [if_neg hst]
                refine V.CallP.out ?_
                conv => arg 3; dsimp only [EV.val, List.toList_toArray, List.nil_append, List.append_nil, List.cons_append]
                refine V.CallP.use (must_fb (decide_eq_false (by intro h; have h2 : chkN ((A1 ||| A2 : Nat) : Int) ((A3 ||| A4 ||| A5 : Nat) : Int) (s.extract 8 20) (decA s).1 = 0 := (by exact_mod_cast h); omega))) ?_
                rintro _ w ⟨rfl, hx⟩
                refine Or.inr ⟨_, rfl, ?_⟩
                try (have hp := hp.call hx)
                conv => whnf
                rw [hc, hm] at hD
                refine ⟨⟨fun h => (by cases h), rfl⟩, CallsDIn.mono (def_caught hp rfl) ?_⟩
                rintro _ _ w ⟨rfl, x, rfl, hp⟩
                conv => whnf
                (refine ⟨_, Blk.lvN (hp.get (i := 1) rfl) TTok rfl rfl, ?_⟩; conv => whnf)
                (refine ⟨_, Blk.lv (hp.get (i := 0) rfl) TTok rfl rfl, ?_⟩; conv => whnf)
                rw [if_neg (fun h => hst h.2.2)] at hD
                subst hD
                exact .inr ⟨by decide, rfl, hp.ext⟩
            · have hp := HpM.swap hp hr
              simp only [List.cons_append, List.nil_append, List.append_nil] at hp
              refine Or.inr ⟨_, rfl, ?_⟩
              conv => whnf
              refine ⟨⟨fun h => (by cases h), rfl⟩, CallsDIn.mono (def_caught hp rfl) ?_⟩
              rintro _ _ w ⟨rfl, x, rfl, hp⟩
              conv => whnf
              (refine ⟨_, Blk.lvN (hp.get (i := 1) rfl) TTok rfl rfl, ?_⟩; conv => whnf)
              (refine ⟨_, Blk.lv (hp.get (i := 0) rfl) TTok rfl rfl, ?_⟩; conv => whnf)
              rw [if_neg (fun h => (by have := h.2.1; rw [show (decA s).2 = false from ho] at this; cases this))] at hD
              subst hD
              exact .inr ⟨by decide, rfl, hp.ext⟩
          · have h5 := of_decide_eq_false h5
            conv => whnf
            skip
            refine V.CallP.out ?_
            conv => arg 3; dsimp only [EV.val, List.toList_toArray, List.nil_append, List.append_nil, List.cons_append]
            refine V.CallP.use (must_fb rfl) ?_
            rintro _ w ⟨rfl, hx⟩
            refine Or.inr ⟨_, rfl, ?_⟩
            try (have hp := hp.call hx)
            conv => whnf
            refine ⟨⟨fun h => (by cases h), rfl⟩, CallsDIn.mono (def_caught hp rfl) ?_⟩
            rintro _ _ w ⟨rfl, x, rfl, hp⟩
            conv => whnf
            (refine ⟨_, Blk.lvN (hp.get (i := 1) rfl) TTok rfl rfl, ?_⟩; conv => whnf)
            (refine ⟨_, Blk.lv (hp.get (i := 0) rfl) TTok rfl rfl, ?_⟩; conv => whnf)
            rw [if_neg (fun h => (by have := h.1; simp only [Bool.and_eq_true, decide_eq_true_eq] at this; omega))] at hD
            subst hD
            exact .inr ⟨by decide, rfl, hp.ext⟩
        · have h4 := of_decide_eq_false h4
          conv => whnf
          refine hKq _ _ _ (.refl _) ?_
          clear hKq Kq
          conv => whnf
          skip
          refine V.CallP.out ?_
          conv => arg 3; dsimp only [EV.val, List.toList_toArray, List.nil_append, List.append_nil, List.cons_append]
          refine V.CallP.use (must_fb rfl) ?_
          rintro _ w ⟨rfl, hx⟩
          refine Or.inr ⟨_, rfl, ?_⟩
          try (have hp := hp.call hx)
          conv => whnf
          refine ⟨⟨fun h => (by cases h), rfl⟩, CallsDIn.mono (def_caught hp rfl) ?_⟩
          rintro _ _ w ⟨rfl, x, rfl, hp⟩
          conv => whnf
          (refine ⟨_, Blk.lvN (hp.get (i := 1) rfl) TTok rfl rfl, ?_⟩; conv => whnf)
          (refine ⟨_, Blk.lv (hp.get (i := 0) rfl) TTok rfl rfl, ?_⟩; conv => whnf)
          rw [if_neg (fun h => (by have := h.1; simp only [Bool.and_eq_true, decide_eq_true_eq] at this; omega))] at hD
          subst hD
          exact .inr ⟨by decide, rfl, hp.ext⟩
set_option maxHeartbeats 4000000
theorem beL_snoc (n v c : Nat) (h : c < 256) : beL (n + 1) (v * 256 + c) = beL n v ++ [UInt8.ofNat c] := by
  unfold beL
  rw [List.range_succ, List.map_append, List.map_cons, List.map_nil]
  congr 1
  · apply List.map_congr_left
    intro i hi
    have hi := List.mem_range.1 hi
    rw [show 8 * (n + 1 - 1 - i) = 8 * (n - 1 - i) + 8 by omega, Nat.pow_add, Nat.mul_comm (2 ^ (8 * (n - 1 - i))), ← Nat.div_div_eq_div_mul]
    congr 2
    omega
  · rw [show 8 * (n + 1 - 1 - n) = 0 by omega, Nat.pow_zero, Nat.div_one]
    congr 1
    apply UInt8.toNat_inj.1
    rw [UInt8.toNat_ofNat', UInt8.toNat_ofNat']
    omega
theorem beL_numL : ∀ (n : Nat) (l : List UInt8), l.length = n → beL n (numL l) = l := by
  intro n
  induction n with
  | zero => intro l h; rw [List.eq_nil_of_length_eq_zero h]; rfl
  | succ n ih =>
    intro l h
    obtain ⟨m, c, rfl⟩ : ∃ m c, l = m ++ [c] := ⟨l.dropLast, l.getLast (by intro e; rw [e] at h; cases h), (List.dropLast_concat_getLast _).symm⟩
    rw [numL_snoc, beL_snoc n _ _ c.toNat_lt, ih m (by rw [List.length_append] at h; simp at h; exact h)]
    simp
theorem numL_beL : ∀ (n v : Nat), v < 2 ^ (8 * n) → numL (beL n v) = v := by
  intro n
  induction n with
  | zero => intro v h; have : v = 0 := by simp at h; exact h
            subst this; rfl
  | succ n ih =>
    intro v h
    have e : v = v / 256 * 256 + v % 256 := by omega
    rw [e, beL_snoc n _ _ (by omega), numL_snoc, ih (v / 256) (by
      rw [show 8 * (n + 1) = 8 * n + 8 by omega, Nat.pow_add] at h
      omega)]
    rw [UInt8.toNat_ofNat']
    omega
/-- octets in five pieces -/
theorem five (s : ByteArray) (h : 20 ≤ s.size) : s.data.toList = (s.extract 0 2).data.toList ++ ((s.extract 2 4).data.toList ++ ((s.extract 4 8).data.toList ++ ((s.extract 8 20).data.toList ++ (s.extract 20 s.size).data.toList))) := by
  have hl := toList_len s
  simp only [ext_toList]
  obtain ⟨L, hL⟩ : ∃ L, s.data.toList = L := ⟨_, rfl⟩
  rw [hL] at hl ⊢
  have g : ∀ a b, a ≤ b → L.drop a = (L.take b).drop a ++ L.drop b := fun a b hab => by
    conv => lhs; rw [← List.take_append_drop b L]
    rw [List.drop_append]
    congr 1
    rw [List.length_take]
    by_cases hb : b ≤ L.length
    · rw [Nat.min_eq_left hb, Nat.sub_eq_zero_of_le hab, List.drop_zero]
    · rw [List.drop_of_length_le (by omega : L.length ≤ b), List.drop_nil]
  rw [← hl, List.take_length, ← g 8 20 (by omega), ← g 4 8 (by omega), ← g 2 4 (by omega), ← g 0 2 (by omega), List.drop_zero]
theorem okD_iff (s : ByteArray) : okD s = true ↔ hdT s < 16384 ∧ numB (s.extract 4 8) = 554869826 ∧ s.size = 20 + numB (s.extract 2 4) := by
  unfold okD
  simp only [Bool.and_eq_true, decide_eq_true_eq]
theorem decC_iff (s : ByteArray) : decC s = 0 ↔ s.size ≤ 1200 ∧ 20 ≤ s.size ∧ okD s = true ∧ (decA s).2 = true ∧ stunB (clsN (hdT s)) (mthN (hdT s)) (s.extract 8 20) (decA s).1 = true := by
  unfold decC
  by_cases h1 : 1200 < s.size
  · rw [if_pos h1]; exact ⟨fun h => (by cases h), fun h => by omega⟩
  · rw [if_neg h1]
    by_cases h2 : s.size < 20
    · rw [if_pos h2]; exact ⟨fun h => (by cases h), fun h => by omega⟩
    · rw [if_neg h2]
      by_cases h3 : s.size < 20 + numB (s.extract 2 4)
      · rw [if_pos h3]; exact ⟨fun h => (by cases h), fun h => by have := ((okD_iff s).1 h.2.2.1).2.2; omega⟩
      · rw [if_neg h3]
        by_cases h4 : okD s = true ∧ (decA s).2 = true ∧ stunB (clsN (hdT s)) (mthN (hdT s)) (s.extract 8 20) (decA s).1 = true
        · rw [if_pos h4]; exact ⟨fun _ => ⟨by omega, by omega, h4⟩, fun _ => rfl⟩
        · rw [if_neg h4]; exact ⟨fun h => (by cases h), fun h => absurd h.2.2 h4⟩
/-- what is read was written -/
theorem of_dec {s : ByteArray} (h : decC s = 0) : s = wrB (clsN (hdT s)) (mthN (hdT s)) (s.extract 8 20) (decA s).1 0 ∧ stunB (clsN (hdT s)) (mthN (hdT s)) (s.extract 8 20) (decA s).1 = true := by
  obtain ⟨h1, h2, h3, h4, h5⟩ := (decC_iff s).1 h
  refine ⟨?_, h5⟩
  obtain ⟨o1, o2, o3⟩ := (okD_iff s).1 h3
  obtain ⟨k1, k2, k3⟩ := head_t o1
  obtain ⟨a1, a2⟩ := attrs_parse h4
  change (s.extract 20 s.size).data.toList = attrsL (decA s).1 at a1
  have hsz : sizeN (decA s).1 = numB (s.extract 2 4) := by
    have := congrArg List.length a1
    rw [toList_len, ByteArray.size_extract, attrsL_len] at this
    omega
  apply ba_eq
  unfold wrB headL
  rw [mk_toList, k3, Nat.add_zero, hsz]
  conv => lhs; rw [five s h2]
  have e0 : beL 2 (hdT s) = (s.extract 0 2).data.toList := beL_numL 2 _ (by rw [toList_len, ByteArray.size_extract]; omega)
  have e1 : beL 2 (numB (s.extract 2 4)) = (s.extract 2 4).data.toList := beL_numL 2 _ (by rw [toList_len, ByteArray.size_extract]; omega)
  have e2 : beL 4 554869826 = (s.extract 4 8).data.toList := by rw [← o2]; exact beL_numL 4 _ (by rw [toList_len, ByteArray.size_extract]; omega)
  rw [e0, e1, e2, a1]
  simp only [List.append_assoc]
/-- what is written is read -/
theorem dec_of {c m : Nat} {id : ByteArray} {al : List At2} (h : stunB c m id al = true) :
    decC (wrB c m id al 0) = 0 ∧ clsN (hdT (wrB c m id al 0)) = c ∧ mthN (hdT (wrB c m id al 0)) = m ∧ (wrB c m id al 0).extract 8 20 = id ∧ (decA (wrB c m id al 0)).1 = al := by
  obtain ⟨b1, b2, b3, b4, b5, b6, b7, b8⟩ := stunB_t h
  have hc : c < 4 := by omega
  have hm : m < 4096 := by omega
  have hk := kindN_bd c m
  obtain ⟨k1, k2⟩ := kind_inv hc hm
  have hsz := wrB_size c m id al 0
  obtain ⟨s, hs⟩ : ∃ s, wrB c m id al 0 = s := ⟨_, rfl⟩
  rw [hs] at hsz ⊢
  have hL : s.data.toList = beL 2 (kindN c m) ++ (beL 2 (sizeN al) ++ (beL 4 554869826 ++ (id.data.toList ++ attrsL al))) := by
    rw [← hs]; unfold wrB headL
    rw [mk_toList, Nat.add_zero]
    simp only [List.append_assoc]
  have hf := five s (by omega)
  rw [hL] at hf
  have hid := toList_len id
  have i0 := List.append_inj hf (by rw [beL_len, toList_len, ByteArray.size_extract]; omega)
  have i1 := List.append_inj i0.2 (by rw [beL_len, toList_len, ByteArray.size_extract]; omega)
  have i2 := List.append_inj i1.2 (by rw [beL_len, toList_len, ByteArray.size_extract]; omega)
  have i3 := List.append_inj i2.2 (by rw [toList_len, toList_len, ByteArray.size_extract]; omega)
  have t0 : hdT s = kindN c m := by unfold hdT numB; rw [← i0.1]; exact numL_beL 2 _ (by omega)
  have t1 : numB (s.extract 2 4) = sizeN al := by unfold numB; rw [← i1.1]; exact numL_beL 2 _ (by omega)
  have t2 : numB (s.extract 4 8) = 554869826 := by unfold numB; rw [← i2.1]; exact numL_beL 4 _ (by decide)
  have t3 : s.extract 8 20 = id := ba_eq i3.1.symm
  have t4 : decA s = (al, true) := by unfold decA; rw [← i3.2]; exact parse_attrs al fun a ha => fitA_of (b7 a ha)
  refine ⟨(decC_iff s).2 ⟨by omega, by omega, (okD_iff s).2 ⟨by omega, t2, by omega⟩, by rw [t4], ?_⟩, by rw [t0, k1], by rw [t0, k2], t3, by rw [t4]⟩
  rw [t0, t3, t4, k1, k2]
  exact h
def kadj (c i n : Nat) : Nat := if i = 7 then 2 * n + c / 2 else if i = 4 then 2 * n + c % 2 else n
def kindR (c m : Nat) : Nat → Nat → Nat
  | 0, n => n
  | i + 1, n => kindR c m i (kadj c i (2 * n + m / 2 ^ i % 2))
theorem kadj_le (c i n : Nat) : n ≤ kadj c i n := by unfold kadj; split <;> (try split) <;> omega
theorem kindR_le (c m : Nat) : ∀ i n, n ≤ kindR c m i n
  | 0, n => Nat.le_refl n
  | i + 1, n => Nat.le_trans (by have := kadj_le c i (2 * n + m / 2 ^ i % 2); omega) (kindR_le c m i _)
def kadjB (c i n : Nat) : Nat := match Nat.beq i 7 with
  | true => Nat.add (Nat.mul 2 n) (Nat.div c 2)
  | false => match Nat.beq i 4 with
    | true => Nat.add (Nat.mul 2 n) (Nat.mod c 2)
    | false => n
def kindRB (c m : Nat) (n : Nat) : Nat :=
  let f := fun i n => kadjB c i (Nat.add (Nat.mul 2 n) (Nat.mod (Nat.shiftRight m i) 2))
  f 0 (f 1 (f 2 (f 3 (f 4 (f 5 (f 6 (f 7 (f 8 (f 9 (f 10 (f 11 n)))))))))))
theorem kadjB_eq (c i n : Nat) : kadjB c i n = kadj c i n := by
  unfold kadjB kadj
  by_cases h : i = 7
  · subst h; rfl
  · rw [show Nat.beq i 7 = false from beqF h, if_neg h]
    dsimp only
    by_cases h4 : i = 4
    · subst h4; rfl
    · rw [show Nat.beq i 4 = false from beqF h4, if_neg h4]
theorem kindRB_eq (c m n : Nat) : kindRB c m n = kindR c m 12 n := by
  have hs : ∀ i n, kadjB c i (Nat.add (Nat.mul 2 n) (Nat.mod (Nat.shiftRight m i) 2)) = kadj c i (2 * n + m / 2 ^ i % 2) := fun i n => by
    rw [kadjB_eq]
    show kadj c i (2 * n + (m >>> i) % 2) = _
    rw [Nat.shiftRight_eq_div_pow]
  unfold kindRB
  simp only [hs]
  rfl
theorem kindR_all : (List.range 16384).all (fun x => Nat.beq (kindRB (x / 4096) (x % 4096) 0) (kindN (x / 4096) (x % 4096))) = true := by decide +kernel
theorem kindR_eq {c m : Nat} (hc : c < 4) (hm : m < 4096) : kindR c m 12 0 = kindN c m := by
  have := List.all_eq_true.1 kindR_all (c * 4096 + m) (List.mem_range.2 (by omega))
  rw [show (c * 4096 + m) / 4096 = c by omega, show (c * 4096 + m) % 4096 = m by omega, kindRB_eq] at this
  exact Nat.eq_of_beq_eq_true this
end Go.Proofs.YtmlmfmdmomegpaaGreatDoor
