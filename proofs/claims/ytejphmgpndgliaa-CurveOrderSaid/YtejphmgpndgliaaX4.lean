/- A drawn region with moves that nothing awaits: they are taken first. Own work. -/
import Derived.Test.YtejphmgpndgliaaX3
namespace Go.Proofs.Ytejphmgpndgliaa
set_option linter.unusedSimpArgs false
set_option linter.unusedVariables false
open Go.RowKit
namespace V
section
variable {P : Program} {md : Region.Mode} {ops : Array Oper}
theorem wpAny_post {Q Q' : Exit → Act → World → Prop} (hn : ∀ a w, Q' .normal a w → Q .normal a w) (hp : ∀ c a w, ¬ Q' (.panic c) a w) (ho : ∀ a w, ¬ Q' .outgrown a w) :
    ∀ (f : Nat) (done : Array Bool) (a : Act) (w : World), wpAny P md ops Q' f done a w → wpAny P md ops Q f done a w := by
  have op : ∀ {i : Nat} {K : Act → World → Prop} {a : Act} {w : World}, wpOp P ops Q' i K a w → wpOp P ops Q i K a w := by
    intro i K a w hh
    unfold wpOp at *
    cases h0 : ops[i]? with
    | none => simp only [h0] at hh ⊢; exact hh
    | some o =>
      simp only [h0] at hh ⊢
      split
      · rename_i hw
        simp only [hw, if_true] at hh
        rcases hh with hh | ⟨_, _, _, hl⟩
        · refine .inl ?_
          unfold Oper.wp at *
          generalize (execOp a.eval o).run P w = r at *
          cases r with
          | ok n w' =>
            cases n <;> simp only [Oper.upon] at hh ⊢ <;>
              first
                | exact hh
                | exact Calls.mono hh (fun e w'' he => by cases e <;> first | exact he | exact (hp _ _ _ he).elim | exact (by obtain ⟨_, _, h⟩ := he; exact (ho _ _ h).elim))
          | halt x w' => cases x <;> simp only [Oper.upon] at hh ⊢ <;> first | exact hh | exact (hp _ _ _ hh).elim | exact hh.elim
        · exact (ho _ _ hl).elim
      · rename_i hw; simp only [hw] at hh; exact hh
  intro f
  induction f with
  | zero => intro done a w h; exact ⟨h.1, hn _ _ h.2⟩
  | succ f ih => intro done a w h; exact ⟨fun h0 => hn _ _ (h.1 h0), fun i hi => wpOp_mono (fun a' w' h' => ih _ a' w' h') (op (h.2 i hi))⟩

def moveB (ops : Array Oper) (i : Nat) : Bool := match ops[i]? with
  | some o => (match o.op with
    | .move _ | .assign _ => true
    | _ => false)
  | none => false
/-- the moves fl come first; then k -/
def flB (md : Region.Mode) (ops : Array Oper) (n : Nat) (k : Array Bool → Bool) : List Nat → Array Bool → Bool
  | [], d => k d
  | i :: r, d => decide (i < n) && (Region.ready md ops d).contains i && Region.free md ops d i && flB md ops n k r (d.setIfInBounds i true)
def sinkF (md : Region.Mode) (ops : Array Oper) (n : Nat) (fl : List Nat) : Bool :=
  (List.range n).all fun i => fl.contains i || (List.range (n + 1)).any fun j => decide (i < j) && Region.waitsFor md ops j i
theorem tail_waitsF {n : Nat} {fl : List Nat} {listed : Array Bool} (hs : sinkF md ops n fl = true) (hc : Region.chainB md ops n = true) (hn : n < ops.size) (inv : HeadInv md ops n listed) (hfl : ∀ i ∈ fl, listed.getD i true = true) :
    ∀ (d i : Nat), n - i = d → i < n → listed.getD i true = false → ∀ t, n ≤ t → t ∉ Region.ready md ops listed := by
  intro d
  induction d using Nat.strongRecOn with
  | _ d ih =>
    intro i hd hi hun t ht hr
    obtain ⟨_, ot, hot, hall⟩ := mem_ready.1 hr
    have htlt : t < ops.size := (Array.getElem?_eq_some_iff.1 hot).1
    by_cases htn : t = n
    · subst htn
      have h1 := List.all_eq_true.1 hs i (List.mem_range.2 hi)
      simp only [Bool.or_eq_true] at h1
      rcases h1 with h1 | h1
      · have := hfl i (by simpa using h1); rw [hun] at this; cases this
      obtain ⟨j, hj, hj2⟩ := List.any_eq_true.1 h1
      simp only [Bool.and_eq_true, decide_eq_true_eq] at hj2
      obtain ⟨oj, hoj, e, he, hb, hon⟩ := Region.waitsFor_spec hj2.2
      have hjle : j ≤ t := by have := List.mem_range.1 hj; omega
      by_cases hjt : j = t
      · subst hjt
        have : oj = ot := Option.some.inj (hoj.symm.trans hot)
        subst this
        have h2 := hall e he hb
        rw [hon, getD_both hun] at h2
        cases h2
      · cases hl : listed.getD j false with
        | true =>
          have h2 := inv.closed j oj hoj hl e he hb
          rw [hon, getD_both hun] at h2
          cases h2
        | false =>
          have hjs : j < listed.size := by rw [inv.size]; omega
          exact ih (t - j) (by omega) j rfl (by omega) (getD_in hjs hl) t (Nat.le_refl _) hr
    · have h1 := List.all_eq_true.1 hc t (List.mem_range.2 htlt)
      simp only [Bool.or_eq_true, decide_eq_true_eq] at h1
      rcases h1 with h1 | h1
      · omega
      · obtain ⟨o', ho', e, he, hb, hon⟩ := Region.waitsFor_spec h1
        have : o' = ot := Option.some.inj (ho'.symm.trans hot)
        subst this
        have h2 := hall e he hb
        rw [hon, getD_both (inv.tail (t - 1) (by omega) (by omega))] at h2
        cases h2
def actFl (P : Program) (ops : Array Oper) (K : Act → Prop) : List Nat → Act → Prop
  | [], a => K a
  | i :: r, a => ∃ o, ops[i]? = some o ∧ ∃ v, Yields P ops o v a ∧ actFl P ops K r (a.put o.dst v)
theorem any_of_fl {n : Nat} {k : Array Bool → Bool} {Q : Exit → Act → World → Prop} (hp : ∀ c a w, ¬ Q (.panic c) a w) (hsel : Region.noSelect ops = true) {fuel : Nat} {w : World} {K : Act → Prop} {fl0 : List Nat}
    (hk : ∀ done a, HeadInv md ops n done → (∀ i ∈ fl0, done.getD i true = true) → k done = true → K a → wpAny P md ops Q fuel done a w) :
    ∀ (fl : List Nat) (done : Array Bool) (a : Act), HeadInv md ops n done → (∀ i ∈ fl0, i ∈ fl ∨ done.getD i true = true) → flB md ops n k fl done = true → actFl P ops K fl a → wpAny P md ops Q (fuel + fl.length) done a w
  | [], done, a, inv, hd, hB, h => hk done a inv (fun i hi => (hd i hi).resolve_left (by simp)) hB h
  | i :: r, done, a, inv, hd, hB, ⟨o, ho, v, hy, h⟩ => by
    simp only [flB, Bool.and_eq_true, decide_eq_true_eq] at hB
    obtain ⟨⟨⟨hin, hr⟩, hf⟩, hB'⟩ := hB
    refine wpAny_take (fuel := fuel + r.length) ho hsel hf hr (fun c a w h => absurd h (hp c _ w)) hy ?_
    refine any_of_fl hp hsel hk r _ _ (inv.set (by simpa using hr) hin) (fun j hj => ?_) hB' h
    rcases hd j hj with h1 | h1
    · rcases List.mem_cons.1 h1 with rfl | h2
      · right
        have hsz : j < done.size := by rw [inv.size]; exact (Array.getElem?_eq_some_iff.1 ho).1
        simp [Array.getD, hsz]
      · exact .inl h2
    · right
      by_cases hji : i = j
      · subst hji
        have hsz : i < done.size := by rw [inv.size]; exact (Array.getElem?_eq_some_iff.1 ho).1
        simp [Array.getD, hsz]
      · rw [getD_set_ne true hji]; exact h1
def mixTF (ops : Array Oper) (n : Nat) (fl : List Nat) (r : List (Nat × Bool)) : Bool :=
  Region.noSelect ops && decide (n < ops.size) && sinkF .any ops n fl && Region.chainB .any ops n && flB .any ops n (fun d => mixB .any ops n (Region.seqB .any ops (ops.size - n) n) r d) fl (Array.replicate ops.size false) && Nat.beq (r.length + fl.length) n
theorem region_mixTF {Q : Exit → Act → World → Prop} {a : Act} {w : World} {l : List Oper} (n : Nat) (fl : List Nat) (r : List (Nat × Bool)) (hm : P.follows .mixedOrders = true) (hB : mixTF l.toArray n fl r = true)
    (h : actFl P l.toArray (fun a => actMix P l.toArray (fun a' w' => wpList P l.toArray (fun e a w => e = .normal ∧ Q .normal a w) (l.drop n) a' w') r a w) fl a) (t : Nat) :
    wpOps P l.toArray Q (Region.schedule (P.follows .mixedOrders) l.toArray t) a { w with drawn := w.drawn + 1 } := by
  simp only [mixTF, Bool.and_eq_true, decide_eq_true_eq] at hB
  obtain ⟨⟨⟨⟨⟨hsel, hn⟩, hs⟩, hc⟩, hmix⟩, hlen⟩ := hB
  have hlen : r.length + fl.length = n := by simpa using hlen
  have hn' : n < l.length := by simpa using hn
  have inv0 : HeadInv .any l.toArray n (Array.replicate l.toArray.size false) :=
    ⟨by simp, fun j oj _ hl => (by rw [getD_replicate_false] at hl; cases hl), fun t _ ht => getD_in (by simpa using ht) (getD_replicate_false _ _)⟩
  refine any_ops hm ?_ t
  refine wpAny_post (Q' := fun e a w => e = .normal ∧ Q .normal a w) (fun a w h => h.2) (fun c a w h => by cases h.1) (fun a w h => by cases h.1) _ _ _ _ ?_
  have e3 : l.toArray.size = (r.length + (l.toArray.size - n)) + fl.length := by simp; omega
  rw [show wpAny P .any l.toArray (fun e a w => e = .normal ∧ Q .normal a w) l.toArray.size = wpAny P .any l.toArray (fun e a w => e = .normal ∧ Q .normal a w) ((r.length + (l.toArray.size - n)) + fl.length) by rw [← e3]]
  refine any_of_fl (fl0 := fl) (fun c a w h => by cases h.1) hsel (K := fun a => actMix P l.toArray (fun a' w' => wpList P l.toArray (fun e a w => e = .normal ∧ Q .normal a w) (l.drop n) a' w') r a w) ?_ fl _ _ inv0 (fun i hi => .inl hi) hmix h
  intro done a inv hfl hB h
  have H := headG_mix (P := P) (md := .any) (Inv := fun d => HeadInv .any l.toArray n d ∧ ∀ i ∈ fl, d.getD i true = true) hsel
    (fun done i inv hin hun j hj => Nat.lt_of_not_le fun h => absurd hj (tail_waitsF hs hc hn inv.1 inv.2 _ i rfl hin hun j h))
    (fun done i inv hi hin => ⟨inv.1.set hi hin, fun j hj => by
      by_cases hji : i = j
      · subst hji; have := (mem_ready.1 hi).1; rw [inv.2 i hj] at this; cases this
      · rw [getD_set_ne true hji]; exact inv.2 j hj⟩) (fun done hb => seqB_ready hb) r _ a { w with drawn := w.drawn + 1 } ⟨inv, hfl⟩ hB (by
      have : ∀ r a w w', Ext w w' → actMix P l.toArray (fun a' w' => wpList P l.toArray (fun e a w => e = .normal ∧ Q .normal a w) (l.drop n) a' w') r a w → actMix P l.toArray (fun a' w' => wpList P l.toArray (fun e a w => e = .normal ∧ Q .normal a w) (l.drop n) a' w') r a w' := by
        intro r
        induction r with
        | nil => intro a w w' hx h w1 h1; exact h w1 (hx.trans h1)
        | cons x r ih =>
          obtain ⟨i, b⟩ := x
          cases b with
          | false => rintro a w w' hx ⟨o, ho, v, hy, hk⟩; exact ⟨o, ho, v, hy.mono hx, ih _ _ _ hx hk⟩
          | true => intro a w w' hx h w1 h1; exact h w1 (hx.trans h1)
      exact this r a w _ (Ext.refl w).drew h)
  exact any_of_headG (g := l.toArray.size - n) (fun done a' w' hL => by
    have e : (l.drop n).length = l.toArray.size - n := by simp
    have := wpAny_of_seq (P := P) (md := .any) (ops := l.toArray) (l.drop n) n done a' w' (fun j => by simp) (by rw [e]; exact hL.1) hL.2
    rwa [e] at this) r.length _ a _ H
end
section
variable (P : Program) (T : Tab) (FS : List Nat) (n : Nat) (all : List Oper)
abbrev vfl (K : Env → Prop) : List Nat → Env → Prop
  | [], l => K l
  | i :: r, l => match all[i]? with
    | none => False
    | some o => vops T FS (qui P fun _ => True) n all [o] l () fun l _ => vfl K r l
end
section
variable {P : Program} {T : Tab} {FS : List Nat} (hT : tabOk P T = true) (hF : ∀ f, memB f FS = true → Enters P f)
include hT hF
theorem vfl_act {n : Nat} {all : List Oper} {K : Env → Prop} {Lq : Act → Prop} (hK : ∀ l a, At n l a → K l → Lq a) :
    ∀ {r : List Nat} {l : Env} {a : Act}, (r.all (moveB all.toArray) = true) → At n l a → vfl P T FS n all K r l → actFl P all.toArray Lq r a
  | [], l, a, _, ha, h => hK _ _ ha h
  | i :: r, l, a, hm, ha, h => by
    simp only [List.all_cons, Bool.and_eq_true] at hm
    simp only [vfl] at h
    cases hi : all[i]? with
    | none => simp only [hi] at h
    | some o =>
      simp only [hi] at h
      refine ⟨o, by simpa using hi, ?_⟩
      have hmv := hm.1
      unfold moveB at hmv
      rw [show all.toArray[i]? = some o by simpa using hi] at hmv
      have hex : ∃ u, execOp a.eval o = pure (.value u) := by
        cases ho : o.op with
        | move x => exact ⟨a.eval x, by simp only [execOp, ho]⟩
        | assign x => exact ⟨a.eval x, by simp only [execOp, ho]⟩
        | _ => simp only [ho] at hmv; cases hmv
      rcases vops_one hT hF (qui_laws P fun _ => True) ha h with ⟨hw, l', ha', e, hq, hk⟩ | ⟨hw, l', ha', hk⟩
      · obtain ⟨l2, ha2, hk⟩ := vdst_put ha' hk
        obtain ⟨u, hu⟩ := hex
        refine ⟨e.val, .inl ⟨hw, fun w => ?_⟩, vfl_act hK hm.2 ha2 hk⟩
        have := hq w trivial
        rw [hu] at this ⊢
        simp only [Sem.run_pure, Oper.quietUpon] at this ⊢
        rw [this.2]
      · obtain ⟨l2, ha2, hk⟩ := vdst_put ha' hk
        exact ⟨undef, .inr ⟨hw, rfl⟩, vfl_act hK hm.2 ha2 hk⟩
/-- The moves fl first, then the head in the order r, the tail in the text's. -/
theorem v_mixF {n : Nat} {ops : List Oper} {l : Env} {w : World} {K : Env → World → Prop} (hm : P.follows .mixedOrders = true) (k : Nat) (fl : List Nat) (r : List (Nat × Bool)) (hB : (mixTF ops.toArray k fl r && fl.all (moveB ops.toArray) && noDefer ops) = true)
    (h : vfl P T FS n ops (fun l => vmix P T FS n ops (fun l w => vops T FS (nrmH0 P) n ops (ops.drop k) l w K) r l w) fl l) : VDraw P n ops l w K := by
  simp only [Bool.and_eq_true] at hB
  refine VDraw.ofPlain (fun a Q ha hK => ?_) hB.2
  refine region_mixTF k fl r hm hB.1.1 ?_
  exact vfl_act hT hF (K := fun l => vmix P T FS n ops (fun l w => vops T FS (nrmH0 P) n ops (ops.drop k) l w K) r l w)
    (fun l a ha h => vmix_act hT hF (K := fun l w => vops T FS (nrmH0 P) n ops (ops.drop k) l w K) (fun l a w ha h => vops_sound0 hT hF (all := ops) (K := K) (fun l a w ha hk => ⟨rfl, hK l a w ha hk⟩) ha h) ha h) hB.1.2 ha h
end
end V
end Go.Proofs.Ytejphmgpndgliaa
