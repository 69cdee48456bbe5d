/- A drawn region with moves that nothing awaits: they are taken first. Own work. -/
/- Drawn regions as trees, where stores may come between (late loads): pending quiet operations are quiet in all worlds that have grown out of the region's first; barriers are operations that wait for all of these. Own work. No program is named here. -/
/- Copy of a string's bytes into a block of the call's own. Own work. -/
/- Ranges over functions: what an iterator owes, and the rule for the caller's loop. Own work. -/
/- Plain facts on bytes, strings, lists as cells. Own work. -/
/- Written by a program of mine off the seat's translation: the types' table, the functions that have a body. -/
/- Numbers of the library's functions in this seat's translation; written by a program of mine off the translation. -/
/- Repeated strings. Own work, over the kit's contract. -/
/- The last step of a law: from a contract to the given row. Own work, but for one lemma of the guide's that is meant to be copied (post_of_below). -/
/- Data that come in: read by a shape. Own work. No program is named here. -/
/- Structs and arrays that are compared. Own work, over the kit's law for deep keys. No program is named here. -/
/- Plain mathematics: numbers, bits, octets. No program. -/
import Derived.Test.YtefjgoeabfgkmaaKN02
import Derived.Test.YtefjgoeabfgkmaaProg
import Derived.Shelf.Bits.Mul64
import Derived.Shelf.Strings.Repeat
import Derived.Lib.Repeat
import Derived.Below
import Derived.ChangeSame
import Derived.OpenShut
import Derived.ChangeSlices
import Derived.DeepKeys
import Derived.Laws.StructEq
namespace Go.Proofs.Ytefjgoeabfgkmaa
set_option linter.unusedSimpArgs false
set_option linter.unusedVariables false
open Go.RowKit
namespace V
section
variable {P : Program} {md : Region.Mode} {ops : Array Oper}
theorem wpAny_post {Q Q' : Exit → Act → World → Prop} (hn : ∀ a w, Q' .normal a w → Q .normal a w) (hp : ∀ c a w, ¬ Q' (.panic c) a w) (ho : ∀ a w, ¬ Q' .outgrown a w) :
  ∀ (f : Nat) (done : Array Bool) (a : Act) (w : World), wpAny P md ops Q' f done a w → wpAny P md ops Q f done a w := by
 have op : ∀ {i : Nat} {K : Act → World → Prop} {a : Act} {w : World}, wpOp P ops Q' i K a w → wpOp P ops Q i K a w := by
  intro i K a w hh
  unfold wpOp at *
  cases h0 : ops[i]? with
  | none => simp only [h0] at hh ⊢; exact hh
  | some o =>
   simp only [h0] at hh ⊢
   split
   ·rename_i hw
    simp only [hw, if_true] at hh
    rcases hh with hh | ⟨_, _, _, hl⟩
    ·refine .inl ?_
     unfold Oper.wp at *
     generalize (execOp a.eval o).run P w = r at *
     cases r with
     | ok n w' =>
      cases n <;> simp only [Oper.upon] at hh ⊢ <;>
       first
        | exact hh
        | exact Calls.mono hh (fun e w'' he => by cases e <;> first | exact he | exact (hp _ _ _ he).elim | exact (by obtain ⟨_, _, h⟩ := he; exact (ho _ _ h).elim))
     | halt x w' => cases x <;> simp only [Oper.upon] at hh ⊢ <;> first | exact hh | exact (hp _ _ _ hh).elim | exact hh.elim
    ·exact (ho _ _ hl).elim
   ·rename_i hw; simp only [hw] at hh; exact hh
 intro f
 induction f with
 | zero => intro done a w h; exact ⟨h.1, hn _ _ h.2⟩
 | succ f ih => intro done a w h; exact ⟨fun h0 => hn _ _ (h.1 h0), fun i hi => wpOp_mono (fun a' w' h' => ih _ a' w' h') (op (h.2 i hi))⟩

def moveB (ops : Array Oper) (i : Nat) : Bool := match ops[i]? with
 | some o => (match o.op with
  | .move _ | .assign _ => true
  | _ => false)
 | none => false
/-- the moves fl come first; then k -/
def flB (md : Region.Mode) (ops : Array Oper) (n : Nat) (k : Array Bool → Bool) : List Nat → Array Bool → Bool
 | [], d => k d
 | i :: r, d => decide (i < n) && (Region.ready md ops d).contains i && Region.free md ops d i && flB md ops n k r (d.setIfInBounds i true)
def sinkF (md : Region.Mode) (ops : Array Oper) (n : Nat) (fl : List Nat) : Bool :=
 (List.range n).all fun i => fl.contains i || (List.range (n + 1)).any fun j => decide (i < j) && Region.waitsFor md ops j i
theorem tail_waitsF {n : Nat} {fl : List Nat} {listed : Array Bool} (hs : sinkF md ops n fl = true) (hc : Region.chainB md ops n = true) (hn : n < ops.size) (inv : HeadInv md ops n listed) (hfl : ∀ i ∈ fl, listed.getD i true = true) :
  ∀ (d i : Nat), n - i = d → i < n → listed.getD i true = false → ∀ t, n ≤ t → t ∉ Region.ready md ops listed := by
 intro d
 induction d using Nat.strongRecOn with
 | _ d ih =>
  intro i hd hi hun t ht hr
  obtain ⟨_, ot, hot, hall⟩ := mem_ready.1 hr
  have htlt : t < ops.size := (Array.getElem?_eq_some_iff.1 hot).1
  by_cases htn : t = n
  ·subst htn
   have h1 := List.all_eq_true.1 hs i (List.mem_range.2 hi)
   simp only [Bool.or_eq_true] at h1
   rcases h1 with h1 | h1
   ·have := hfl i (by simpa using h1); rw [hun] at this; cases this
   obtain ⟨j, hj, hj2⟩ := List.any_eq_true.1 h1
   simp only [Bool.and_eq_true, decide_eq_true_eq] at hj2
   obtain ⟨oj, hoj, e, he, hb, hon⟩ := Region.waitsFor_spec hj2.2
   have hjle : j ≤ t := by have := List.mem_range.1 hj; omega
   by_cases hjt : j = t
   ·subst hjt
    have : oj = ot := Option.some.inj (hoj.symm.trans hot)
    subst this
    have h2 := hall e he hb
    rw [hon, getD_both hun] at h2
    cases h2
   ·cases hl : listed.getD j false with
    | true =>
     have h2 := inv.closed j oj hoj hl e he hb
     rw [hon, getD_both hun] at h2
     cases h2
    | false =>
     have hjs : j < listed.size := by rw [inv.size]; omega
     exact ih (t - j) (by omega) j rfl (by omega) (getD_in hjs hl) t (Nat.le_refl _) hr
  ·have h1 := List.all_eq_true.1 hc t (List.mem_range.2 htlt)
   simp only [Bool.or_eq_true, decide_eq_true_eq] at h1
   rcases h1 with h1 | h1
   ·omega
   ·obtain ⟨o', ho', e, he, hb, hon⟩ := Region.waitsFor_spec h1
    have : o' = ot := Option.some.inj (ho'.symm.trans hot)
    subst this
    have h2 := hall e he hb
    rw [hon, getD_both (inv.tail (t - 1) (by omega) (by omega))] at h2
    cases h2
def actFl (P : Program) (ops : Array Oper) (K : Act → Prop) : List Nat → Act → Prop
 | [], a => K a
 | i :: r, a => ∃ o, ops[i]? = some o ∧ ∃ v, Yields P ops o v a ∧ actFl P ops K r (a.put o.dst v)
theorem any_of_fl {n : Nat} {k : Array Bool → Bool} {Q : Exit → Act → World → Prop} (hp : ∀ c a w, ¬ Q (.panic c) a w) (hsel : Region.noSelect ops = true) {fuel : Nat} {w : World} {K : Act → Prop} {fl0 : List Nat}
  (hk : ∀ done a, HeadInv md ops n done → (∀ i ∈ fl0, done.getD i true = true) → k done = true → K a → wpAny P md ops Q fuel done a w) :
  ∀ (fl : List Nat) (done : Array Bool) (a : Act), HeadInv md ops n done → (∀ i ∈ fl0, i ∈ fl ∨ done.getD i true = true) → flB md ops n k fl done = true → actFl P ops K fl a → wpAny P md ops Q (fuel + fl.length) done a w
 | [], done, a, inv, hd, hB, h => hk done a inv (fun i hi => (hd i hi).resolve_left (by simp)) hB h
 | i :: r, done, a, inv, hd, hB, ⟨o, ho, v, hy, h⟩ => by
  simp only [flB, Bool.and_eq_true, decide_eq_true_eq] at hB
  obtain ⟨⟨⟨hin, hr⟩, hf⟩, hB'⟩ := hB
  refine wpAny_take (fuel := fuel + r.length) ho hsel hf hr (fun c a w h => absurd h (hp c _ w)) hy ?_
  refine any_of_fl hp hsel hk r _ _ (inv.set (by simpa using hr) hin) (fun j hj => ?_) hB' h
  rcases hd j hj with h1 | h1
  ·rcases List.mem_cons.1 h1 with rfl | h2
   ·right
    have hsz : j < done.size := by rw [inv.size]; exact (Array.getElem?_eq_some_iff.1 ho).1
    simp [Array.getD, hsz]
   ·exact .inl h2
  ·right
   by_cases hji : i = j
   ·subst hji
    have hsz : i < done.size := by rw [inv.size]; exact (Array.getElem?_eq_some_iff.1 ho).1
    simp [Array.getD, hsz]
   ·rw [getD_set_ne true hji]; exact h1
def mixTF (ops : Array Oper) (n : Nat) (fl : List Nat) (r : List (Nat × Bool)) : Bool :=
 Region.noSelect ops && decide (n < ops.size) && sinkF .any ops n fl && Region.chainB .any ops n && flB .any ops n (fun d => mixB .any ops n (Region.seqB .any ops (ops.size - n) n) r d) fl (Array.replicate ops.size false) && Nat.beq (r.length + fl.length) n
theorem region_mixTF {Q : Exit → Act → World → Prop} {a : Act} {w : World} {l : List Oper} (n : Nat) (fl : List Nat) (r : List (Nat × Bool)) (hm : P.follows .mixedOrders = true) (hB : mixTF l.toArray n fl r = true)
  (h : actFl P l.toArray (fun a => actMix P l.toArray (fun a' w' => wpList P l.toArray (fun e a w => e = .normal ∧ Q .normal a w) (l.drop n) a' w') r a w) fl a) (t : Nat) :
  wpOps P l.toArray Q (Region.schedule (P.follows .mixedOrders) l.toArray t) a { w with drawn := w.drawn + 1 } := by
 simp only [mixTF, Bool.and_eq_true, decide_eq_true_eq] at hB
 obtain ⟨⟨⟨⟨⟨hsel, hn⟩, hs⟩, hc⟩, hmix⟩, hlen⟩ := hB
 have hlen : r.length + fl.length = n := by simpa using hlen
 have hn' : n < l.length := by simpa using hn
 have inv0 : HeadInv .any l.toArray n (Array.replicate l.toArray.size false) :=
  ⟨by simp, fun j oj _ hl => (by rw [getD_replicate_false] at hl; cases hl), fun t _ ht => getD_in (by simpa using ht) (getD_replicate_false _ _)⟩
 refine any_ops hm ?_ t
 refine wpAny_post (Q' := fun e a w => e = .normal ∧ Q .normal a w) (fun a w h => h.2) (fun c a w h => by cases h.1) (fun a w h => by cases h.1) _ _ _ _ ?_
 have e3 : l.toArray.size = (r.length + (l.toArray.size - n)) + fl.length := by simp; omega
 rw [show wpAny P .any l.toArray (fun e a w => e = .normal ∧ Q .normal a w) l.toArray.size = wpAny P .any l.toArray (fun e a w => e = .normal ∧ Q .normal a w) ((r.length + (l.toArray.size - n)) + fl.length) by rw [← e3]]
 refine any_of_fl (fl0 := fl) (fun c a w h => by cases h.1) hsel (K := fun a => actMix P l.toArray (fun a' w' => wpList P l.toArray (fun e a w => e = .normal ∧ Q .normal a w) (l.drop n) a' w') r a w) ?_ fl _ _ inv0 (fun i hi => .inl hi) hmix h
 intro done a inv hfl hB h
 have H := headG_mix (P := P) (md := .any) (Inv := fun d => HeadInv .any l.toArray n d ∧ ∀ i ∈ fl, d.getD i true = true) hsel
  (fun done i inv hin hun j hj => Nat.lt_of_not_le fun h => absurd hj (tail_waitsF hs hc hn inv.1 inv.2 _ i rfl hin hun j h))
  (fun done i inv hi hin => ⟨inv.1.set hi hin, fun j hj => by
   by_cases hji : i = j
   ·subst hji; have := (mem_ready.1 hi).1; rw [inv.2 i hj] at this; cases this
   ·rw [getD_set_ne true hji]; exact inv.2 j hj⟩) (fun done hb => seqB_ready hb) r _ a { w with drawn := w.drawn + 1 } ⟨inv, hfl⟩ hB (by
   have : ∀ r a w w', Ext w w' → actMix P l.toArray (fun a' w' => wpList P l.toArray (fun e a w => e = .normal ∧ Q .normal a w) (l.drop n) a' w') r a w → actMix P l.toArray (fun a' w' => wpList P l.toArray (fun e a w => e = .normal ∧ Q .normal a w) (l.drop n) a' w') r a w' := by
    intro r
    induction r with
    | nil => intro a w w' hx h w1 h1; exact h w1 (hx.trans h1)
    | cons x r ih =>
     obtain ⟨i, b⟩ := x
     cases b with
     | false => rintro a w w' hx ⟨o, ho, v, hy, hk⟩; exact ⟨o, ho, v, hy.mono hx, ih _ _ _ hx hk⟩
     | true => intro a w w' hx h w1 h1; exact h w1 (hx.trans h1)
   exact this r a w _ (Ext.refl w).drew h)
 exact any_of_headG (g := l.toArray.size - n) (fun done a' w' hL => by
  have e : (l.drop n).length = l.toArray.size - n := by simp
  have := wpAny_of_seq (P := P) (md := .any) (ops := l.toArray) (l.drop n) n done a' w' (fun j => by simp) (by rw [e]; exact hL.1) hL.2
  rwa [e] at this) r.length _ a _ H
end
section
variable (P : Program) (T : Tab) (Fs : List Nat) (n : Nat) (all : List Oper)
abbrev vfl (K : Env → Prop) : List Nat → Env → Prop
 | [], l => K l
 | i :: r, l => match all[i]? with
  | none => False
  | some o => vops T Fs (qui P fun _ => True) n all [o] l () fun l _ => vfl K r l
end
section
variable {P : Program} {T : Tab} {Fs : List Nat} (hT : tabOk P T = true) (hF : ∀ f, memB f Fs = true → Enters P f)
include hT hF
theorem vfl_act {n : Nat} {all : List Oper} {K : Env → Prop} {Lq : Act → Prop} (hK : ∀ l a, At n l a → K l → Lq a) :
  ∀ {r : List Nat} {l : Env} {a : Act}, (r.all (moveB all.toArray) = true) → At n l a → vfl P T Fs n all K r l → actFl P all.toArray Lq r a
 | [], l, a, _, ha, h => hK _ _ ha h
 | i :: r, l, a, hm, ha, h => by
  simp only [List.all_cons, Bool.and_eq_true] at hm
  simp only [vfl] at h
  cases hi : all[i]? with
  | none => simp only [hi] at h
  | some o =>
   simp only [hi] at h
   refine ⟨o, by simpa using hi, ?_⟩
   have hmv := hm.1
   unfold moveB at hmv
   rw [show all.toArray[i]? = some o by simpa using hi] at hmv
   have hex : ∃ u, execOp a.eval o = pure (.value u) := by
    cases ho : o.op with
    | move x => exact ⟨a.eval x, by simp only [execOp, ho]⟩
    | assign x => exact ⟨a.eval x, by simp only [execOp, ho]⟩
    | _ => simp only [ho] at hmv; cases hmv
   rcases vops_one hT hF (qui_laws P fun _ => True) ha h with ⟨hw, l', ha', e, hq, hk⟩ | ⟨hw, l', ha', hk⟩
   ·obtain ⟨l2, ha2, hk⟩ := vdst_put ha' hk
    obtain ⟨u, hu⟩ := hex
    refine ⟨e.val, .inl ⟨hw, fun w => ?_⟩, vfl_act hK hm.2 ha2 hk⟩
    have := hq w trivial
    rw [hu] at this ⊢
    simp only [Sem.run_pure, Oper.quietUpon] at this ⊢
    rw [this.2]
   ·obtain ⟨l2, ha2, hk⟩ := vdst_put ha' hk
    exact ⟨undef, .inr ⟨hw, rfl⟩, vfl_act hK hm.2 ha2 hk⟩
/-- The moves fl first, then the head in the order r, the tail in the text's. -/
theorem v_mixF {n : Nat} {ops : List Oper} {l : Env} {w : World} {K : Env → World → Prop} (hm : P.follows .mixedOrders = true) (k : Nat) (fl : List Nat) (r : List (Nat × Bool)) (hB : (mixTF ops.toArray k fl r && fl.all (moveB ops.toArray) && noDefer ops) = true)
  (h : vfl P T Fs n ops (fun l => vmix P T Fs n ops (fun l w => vops T Fs (nrmH0 P) n ops (ops.drop k) l w K) r l w) fl l) : VDraw P n ops l w K := by
 simp only [Bool.and_eq_true] at hB
 refine VDraw.ofPlain (fun a Q ha hK => ?_) hB.2
 refine region_mixTF k fl r hm hB.1.1 ?_
 exact vfl_act hT hF (K := fun l => vmix P T Fs n ops (fun l w => vops T Fs (nrmH0 P) n ops (ops.drop k) l w K) r l w)
  (fun l a ha h => vmix_act hT hF (K := fun l w => vops T Fs (nrmH0 P) n ops (ops.drop k) l w K) (fun l a w ha h => vops_sound0 hT hF (all := ops) (K := K) (fun l a w ha hk => ⟨rfl, hK l a w ha hk⟩) ha h) ha h) hB.1.2 ha h
end
end V
namespace V
section
variable {P : Program} {md : Region.Mode} {ops : Array Oper}
def waits2 (md : Region.Mode) (ops : Array Oper) (j i : Nat) : Bool :=
 Region.waitsFor md ops j i || (List.range ops.size).any fun k => Region.waitsFor md ops j k && Region.waitsFor md ops k i
theorem waitsFor_on {j i : Nat} (h : Region.waitsFor md ops j i = true) : ∃ oj, ops[j]? = some oj ∧ ∃ e ∈ oj.after, Region.binds md e = true ∧ e.on = i := by
 unfold Region.waitsFor at h
 cases hj : ops[j]? with
 | none => simp only [hj] at h; cases h
 | some oj =>
  simp only [hj, Array.any_eq_true'] at h
  obtain ⟨e, he, h2⟩ := h
  simp only [Bool.and_eq_true, beq_iff_eq] at h2
  exact ⟨oj, rfl, e, he, h2.1, h2.2⟩
theorem not_waits2 {i j n : Nat} {done : Array Bool} (inv : HeadInv md ops n done) (hu : done.getD i true = false) (hr : j ∈ Region.ready md ops done) : waits2 md ops j i = false := by
 obtain ⟨_, o, ho, hall⟩ := mem_ready.1 hr
 have hu' := getD_both hu
 have h1 : Region.waitsFor md ops j i = false := by
  cases h : Region.waitsFor md ops j i with
  | false => rfl
  | true =>
   obtain ⟨oj, hoj, e, he, hb, rfl⟩ := waitsFor_on h
   obtain rfl : o = oj := Option.some.inj (ho.symm.trans hoj)
   rw [hall e he hb] at hu'; cases hu'
 unfold waits2
 rw [h1, Bool.false_or, List.any_eq_false]
 intro k _ h
 rw [Bool.and_eq_true] at h
 obtain ⟨oj, hoj, e, he, hb, rfl⟩ := waitsFor_on h.1
 obtain rfl : o = oj := Option.some.inj (ho.symm.trans hoj)
 have hk := hall e he hb
 obtain ⟨ok, hok, e2, he2, hb2, rfl⟩ := waitsFor_on h.2
 rw [inv.closed _ ok hok hk e2 he2 hb2] at hu'; cases hu'
def headB (P : Program) (md : Region.Mode) (ops : Array Oper) (bars : List Nat) (wB : World) (L : Array Bool → Act → World → Prop) : Nat → Array Bool → Act → World → Prop
 | 0, done, a, w => ∀ w1, Ext w w1 → L done a w1
 | f + 1, done, a, w => ∀ w1, Ext w w1 → Region.ready md ops done ≠ [] ∧ ∀ i ∈ Region.ready md ops done, okOp P ops i (fun a' w2 => (bars.contains i = false → Ext wB w1 → Ext wB w2) ∧ headB P md ops bars wB L f (done.setIfInBounds i true) a' w2) a w1
theorem headB_mono {bars : List Nat} {wB : World} {L : Array Bool → Act → World → Prop} {w w' : World} (hx : Ext w w') : ∀ {f : Nat} {done : Array Bool} {a : Act}, headB P md ops bars wB L f done a w → headB P md ops bars wB L f done a w'
 | 0, _, _, h => fun w1 h1 => h w1 (hx.trans h1)
 | _ + 1, _, _, h => fun w1 h1 => h w1 (hx.trans h1)
theorem any_of_headB {g : Nat} {bars : List Nat} {wB : World} {L : Array Bool → Act → World → Prop} {Q : Exit → Act → World → Prop} (hL : ∀ done a w, L done a w → wpAny P md ops Q g done a w) :
  ∀ (f : Nat) (done : Array Bool) (a : Act) (w : World), headB P md ops bars wB L f done a w → wpAny P md ops Q (f + g) done a w := by
 intro f
 induction f with
 | zero => intro done a w h; rw [Nat.zero_add]; exact hL _ _ _ (h w (Ext.refl w))
 | succ f ih =>
  intro done a w h
  rw [show f + 1 + g = (f + g) + 1 by omega]
  have h := h w (Ext.refl w)
  exact ⟨fun h0 => absurd h0 h.1, fun i hi => wpOp_of_ok (fun a' w' h' => ih _ a' w' h'.2) (h.2 i hi)⟩
theorem headB_take {bars : List Nat} {wB : World} {i : Nat} {oi : Oper} {v : Value} {L : Array Bool → Act → World → Prop} (hi : ops[i]? = some oi) (hsel : ∀ (j : Nat) (o : Oper) cs b, ops[j]? = some o → o.op ≠ .select cs b)
  (hbar : ∀ j, bars.contains j = true → waits2 md ops j i = true) (hdone : ∀ done a w, L done a w → Region.ready md ops done = []) :
  ∀ (f : Nat) (done : Array Bool) (a : Act) (w : World), HeadInv md ops ops.size done → Ext wB w →
   (∀ j oj, ops[j]? = some oj → j ≠ i → done.getD j true = false → (∀ e ∈ oj.after, Region.binds md e = true → e.on ≠ i) → oi.apart ops oj = true) →
   i ∈ Region.ready md ops done → YG P ops oi v a wB →
   headB P md ops bars wB L f (done.setIfInBounds i true) (a.put oi.dst v) w → headB P md ops bars wB L (f + 1) done a w := by
 have hsz : i < ops.size := (Array.getElem?_eq_some_iff.1 hi).1
 intro f
 induction f with
 | zero =>
  intro done a w inv hxB _ hr hy H w1 hx
  refine ⟨List.ne_nil_of_mem hr, fun j hj => ?_⟩
  by_cases e : j = i
  ·subst e; exact hy.ok hi (hxB.trans hx) fun w2 h2 => ⟨fun _ h => h.trans h2, headB_mono (hx.trans h2) H⟩
  ·have h1 := hdone _ _ _ (H w1 hx)
   have h2 := ready_mono (md := md) (ops := ops) hj e
   rw [h1] at h2; cases h2
 | succ f ih =>
  intro done a w inv hxB hfree hr hy H w1 hx
  have hun := (mem_ready.1 hr).1
  refine ⟨List.ne_nil_of_mem hr, fun j hj => ?_⟩
  by_cases e : j = i
  ·subst e; exact hy.ok hi (hxB.trans hx) fun w2 h2 => ⟨fun _ h => h.trans h2, headB_mono (hx.trans h2) H⟩
  ·obtain ⟨hjun, oj, hoj, hall⟩ := mem_ready.1 hj
   have hjsz : j < ops.size := (Array.getElem?_eq_some_iff.1 hoj).1
   have hnot : ∀ e ∈ oj.after, Region.binds md e = true → e.on ≠ i := fun e he hb heq => by
    have := hall e he hb; rw [heq, getD_both hun] at this; cases this
   have hjb : bars.contains j = false := by
    cases hb : bars.contains j with
    | false => rfl
    | true => have := hbar j hb; rw [not_waits2 inv hun hj] at this; cases this
   have key := okOp_put hoj (hfree j oj hoj e hjun hnot) (fun cs b => hsel i oi cs b hi) (fun cs b => hsel j oj cs b hoj) hy ((H w1 hx).2 j (ready_mono hj e))
   refine okOp_mono (fun a' w2 h3 => ⟨fun hb => h3.2.1 hb, ih (done.setIfInBounds j true) a' w2 (inv.set hj hjsz) (h3.2.1 hjb (hxB.trans hx)) ?_ (ready_mono hr (Ne.symm e)) h3.1 ?_⟩) key
   ·intro k ok hk hki hu hno
    refine hfree k ok hk hki ?_ hno
    by_cases hjk : j = k
    ·subst hjk; exact hjun
    ·rwa [getD_set_ne true hjk] at hu
   ·rw [Array.setIfInBounds_comm _ _ e]; exact h3.2.2
def barOk (md : Region.Mode) (ops : Array Oper) (bars : List Nat) (i : Nat) : Bool := bars.all fun j => waits2 md ops j i
theorem barOk_spec {bars : List Nat} {i : Nat} (h : barOk md ops bars i = true) (j : Nat) (hj : bars.contains j = true) : waits2 md ops j i = true := by
 unfold barOk at h
 rw [List.all_eq_true] at h
 exact h j (by simpa using hj)
/-- f: no barrier has come yet -/
def mbB (md : Region.Mode) (ops : Array Oper) (bars : List Nat) : Bool → MT → Array Bool → Bool
 | _, .nil, done => (Region.ready md ops done).isEmpty
 | f, .q i r, done => f && (Region.ready md ops done).contains i && Region.free md ops done i && barOk md ops bars i && mbB md ops bars f r (done.setIfInBounds i true)
 | f, .m i r, done => decide (Region.ready md ops done = [i]) && mbB md ops bars (f && !bars.contains i) r (done.setIfInBounds i true)
 | f, .br i j r s, done => decide (Region.ready md ops done = [i, j]) && Nat.beq r.len s.len && mbB md ops bars (f && !bars.contains i) r (done.setIfInBounds i true) && mbB md ops bars (f && !bars.contains j) s (done.setIfInBounds j true)
 | f, .br3 i j k r s t, done => decide (Region.ready md ops done = [i, j, k]) && Nat.beq r.len s.len && Nat.beq r.len t.len && mbB md ops bars (f && !bars.contains i) r (done.setIfInBounds i true) && mbB md ops bars (f && !bars.contains j) s (done.setIfInBounds j true) && mbB md ops bars (f && !bars.contains k) t (done.setIfInBounds k true)
 | f, .br4 i j k m r s t u, done => decide (Region.ready md ops done = [i, j, k, m]) && Nat.beq r.len s.len && Nat.beq r.len t.len && Nat.beq r.len u.len && mbB md ops bars (f && !bars.contains i) r (done.setIfInBounds i true) && mbB md ops bars (f && !bars.contains j) s (done.setIfInBounds j true) && mbB md ops bars (f && !bars.contains k) t (done.setIfInBounds k true) && mbB md ops bars (f && !bars.contains m) u (done.setIfInBounds m true)
def obl (b : Bool) (wB w1 w : World) (p : Prop) : Prop := match b with
 | true => p
 | false => (Ext wB w1 → Ext wB w) ∧ p
theorem obl_spec {b : Bool} {wB w1 w : World} {p : Prop} (h : obl b wB w1 w p) : (b = false → Ext wB w1 → Ext wB w) ∧ p := by
 cases b with
 | true => exact ⟨fun hc => (by cases hc), h⟩
 | false => exact ⟨fun _ => h.1, h.2⟩
def stepB (P : Program) (ops : Array Oper) (bars : List Nat) (wB : World) (i : Nat) (k : Act → World → Prop) (a : Act) (w : World) : Prop :=
 ∀ w1, Ext w w1 → okOp P ops i (fun a' w2 => obl (bars.contains i) wB w1 w2 (k a' w2)) a w1
def actMB (P : Program) (ops : Array Oper) (bars : List Nat) (wB : World) (Lq : Act → World → Prop) : MT → Act → World → Prop
 | .nil, a, w => ∀ w1, Ext w w1 → Lq a w1
 | .q i r, a, w => ∃ o, ops[i]? = some o ∧ ∃ v, YG P ops o v a wB ∧ actMB P ops bars wB Lq r (a.put o.dst v) w
 | .m i r, a, w => stepB P ops bars wB i (actMB P ops bars wB Lq r) a w
 | .br i j r s, a, w => stepB P ops bars wB i (actMB P ops bars wB Lq r) a w ∧ stepB P ops bars wB j (actMB P ops bars wB Lq s) a w
 | .br3 i j k r s t, a, w => stepB P ops bars wB i (actMB P ops bars wB Lq r) a w ∧ stepB P ops bars wB j (actMB P ops bars wB Lq s) a w ∧ stepB P ops bars wB k (actMB P ops bars wB Lq t) a w
 | .br4 i j k m r s t u, a, w => stepB P ops bars wB i (actMB P ops bars wB Lq r) a w ∧ stepB P ops bars wB j (actMB P ops bars wB Lq s) a w ∧ stepB P ops bars wB k (actMB P ops bars wB Lq t) a w ∧ stepB P ops bars wB m (actMB P ops bars wB Lq u) a w
theorem headB_step {bars : List Nat} {wB : World} {f : Bool} {i : Nat} {L : Array Bool → Act → World → Prop} {k : Act → World → Prop} {g : Nat} {done : Array Bool} {a : Act} {w w1 : World} (hx : Ext w w1) (hB : f = true → Ext wB w)
  (h : stepB P ops bars wB i k a w) (hk : ∀ a' w2, ((f && !bars.contains i) = true → Ext wB w2) → k a' w2 → headB P md ops bars wB L g (done.setIfInBounds i true) a' w2) :
  okOp P ops i (fun a' w2 => (bars.contains i = false → Ext wB w1 → Ext wB w2) ∧ headB P md ops bars wB L g (done.setIfInBounds i true) a' w2) a w1 := by
 refine okOp_mono (fun a' w2 h2 => ?_) (h w1 hx)
 obtain ⟨h3, h4⟩ := obl_spec h2
 exact ⟨h3, hk a' w2 (fun hf => by
  rw [Bool.and_eq_true] at hf
  exact h3 (by simpa using hf.2) ((hB hf.1).trans hx)) h4⟩
theorem headB_mt {bars : List Nat} {wB : World} {Lq : Act → World → Prop} (hsel : Region.noSelect ops = true) :
  ∀ (r : MT) (f : Bool) (done : Array Bool) (a : Act) (w : World), HeadInv md ops ops.size done → (f = true → Ext wB w) → mbB md ops bars f r done = true → actMB P ops bars wB Lq r a w →
   headB P md ops bars wB (fun done a w => Region.ready md ops done = [] ∧ Lq a w) r.len done a w
 | .nil, f, done, a, w, _, _, hB, h => fun w1 hx => ⟨List.isEmpty_iff.1 hB, h w1 hx⟩
 | .q i r, f, done, a, w, inv, hxB, hB, h => by
  simp only [mbB, Bool.and_eq_true] at hB
  obtain ⟨⟨⟨⟨hf, hr⟩, hfr⟩, hb⟩, hB'⟩ := hB
  obtain ⟨o, ho, v, hy, hk⟩ := h
  have hr' : i ∈ Region.ready md ops done := by simpa using hr
  exact headB_take ho (Region.noSelect_spec hsel) (barOk_spec hb) (fun done a w hL => hL.1) r.len done a w inv (hxB hf) (Region.free_spec ho hfr) hr' hy
   (headB_mt hsel r f _ _ _ (inv.set hr' (Array.getElem?_eq_some_iff.1 ho).1) hxB hB' hk)
 | .m i r, f, done, a, w, inv, hxB, hB, h => by
  simp only [mbB, Bool.and_eq_true, decide_eq_true_eq] at hB
  obtain ⟨hr, hB'⟩ := hB
  intro w1 hx
  have hri : i ∈ Region.ready md ops done := by rw [hr]; simp
  have hlt : ∀ q ∈ Region.ready md ops done, q < ops.size := fun q hq => (Array.getElem?_eq_some_iff.1 (mem_ready.1 hq).2.choose_spec.1).1
  refine ⟨by rw [hr]; simp, fun j hj => ?_⟩
  rw [hr] at hj
  obtain rfl : j = i := by simpa using hj
  exact headB_step hx hxB h fun a' w2 hb hk => headB_mt hsel r _ _ _ _ (inv.set hri (hlt _ hri)) hb hB' hk
 | .br i j r s, f, done, a, w, inv, hxB, hB, h => by
  simp only [mbB, Bool.and_eq_true, decide_eq_true_eq] at hB
  obtain ⟨⟨⟨hr, hl⟩, hB1⟩, hB2⟩ := hB
  have hl : r.len = s.len := by simpa using hl
  intro w1 hx
  have hlt : ∀ q ∈ Region.ready md ops done, q < ops.size := fun q hq => (Array.getElem?_eq_some_iff.1 (mem_ready.1 hq).2.choose_spec.1).1
  have hri : i ∈ Region.ready md ops done := by rw [hr]; simp
  have hrj : j ∈ Region.ready md ops done := by rw [hr]; simp
  refine ⟨by rw [hr]; simp, fun k hk => ?_⟩
  rw [hr] at hk
  have hk : k = i ∨ k = j := by simpa using hk
  rcases hk with rfl | rfl
  ·exact headB_step hx hxB h.1 fun a' w2 hb hk => headB_mt hsel r _ _ _ _ (inv.set hri (hlt _ hri)) hb hB1 hk
  ·exact headB_step hx hxB h.2 fun a' w2 hb hk => by
    have := headB_mt (Lq := Lq) hsel s _ _ _ _ (inv.set hrj (hlt _ hrj)) hb hB2 hk
    show headB P md ops bars wB _ r.len _ a' w2
    rw [hl]; exact this
 | .br3 i j k r s t, f, done, a, w, inv, hxB, hB, h => by
  simp only [mbB, Bool.and_eq_true, decide_eq_true_eq] at hB
  obtain ⟨⟨⟨⟨⟨hr, hl⟩, hl2⟩, hB1⟩, hB2⟩, hB3⟩ := hB
  have hl : r.len = s.len := by simpa using hl
  have hl2 : r.len = t.len := by simpa using hl2
  intro w1 hx
  have hlt : ∀ q ∈ Region.ready md ops done, q < ops.size := fun q hq => (Array.getElem?_eq_some_iff.1 (mem_ready.1 hq).2.choose_spec.1).1
  have hri : i ∈ Region.ready md ops done := by rw [hr]; simp
  have hrj : j ∈ Region.ready md ops done := by rw [hr]; simp
  have hrk : k ∈ Region.ready md ops done := by rw [hr]; simp
  refine ⟨by rw [hr]; simp, fun q hq => ?_⟩
  rw [hr] at hq
  have hq : q = i ∨ q = j ∨ q = k := by simpa using hq
  rcases hq with rfl | rfl | rfl
  ·exact headB_step hx hxB h.1 fun a' w2 hb hk => headB_mt hsel r _ _ _ _ (inv.set hri (hlt _ hri)) hb hB1 hk
  ·exact headB_step hx hxB h.2.1 fun a' w2 hb hk => by
    have := headB_mt (Lq := Lq) hsel s _ _ _ _ (inv.set hrj (hlt _ hrj)) hb hB2 hk
    show headB P md ops bars wB _ r.len _ a' w2
    rw [hl]; exact this
  ·exact headB_step hx hxB h.2.2 fun a' w2 hb hk => by
    have := headB_mt (Lq := Lq) hsel t _ _ _ _ (inv.set hrk (hlt _ hrk)) hb hB3 hk
    show headB P md ops bars wB _ r.len _ a' w2
    rw [hl2]; exact this
 | .br4 i j k m r s t u, f, done, a, w, inv, hxB, hB, h => by
  simp only [mbB, Bool.and_eq_true, decide_eq_true_eq] at hB
  obtain ⟨⟨⟨⟨⟨⟨⟨hr, hl⟩, hl2⟩, hl3⟩, hB1⟩, hB2⟩, hB3⟩, hB4⟩ := hB
  have hl : r.len = s.len := by simpa using hl
  have hl2 : r.len = t.len := by simpa using hl2
  have hl3 : r.len = u.len := by simpa using hl3
  intro w1 hx
  have hlt : ∀ q ∈ Region.ready md ops done, q < ops.size := fun q hq => (Array.getElem?_eq_some_iff.1 (mem_ready.1 hq).2.choose_spec.1).1
  have hri : i ∈ Region.ready md ops done := by rw [hr]; simp
  have hrj : j ∈ Region.ready md ops done := by rw [hr]; simp
  have hrk : k ∈ Region.ready md ops done := by rw [hr]; simp
  have hrm : m ∈ Region.ready md ops done := by rw [hr]; simp
  refine ⟨by rw [hr]; simp, fun q hq => ?_⟩
  rw [hr] at hq
  have hq : q = i ∨ q = j ∨ q = k ∨ q = m := by simpa using hq
  rcases hq with rfl | rfl | rfl | rfl
  ·exact headB_step hx hxB h.1 fun a' w2 hb hk => headB_mt hsel r _ _ _ _ (inv.set hri (hlt _ hri)) hb hB1 hk
  ·exact headB_step hx hxB h.2.1 fun a' w2 hb hk => by
    have := headB_mt (Lq := Lq) hsel s _ _ _ _ (inv.set hrj (hlt _ hrj)) hb hB2 hk
    show headB P md ops bars wB _ r.len _ a' w2
    rw [hl]; exact this
  ·exact headB_step hx hxB h.2.2.1 fun a' w2 hb hk => by
    have := headB_mt (Lq := Lq) hsel t _ _ _ _ (inv.set hrk (hlt _ hrk)) hb hB3 hk
    show headB P md ops bars wB _ r.len _ a' w2
    rw [hl2]; exact this
  ·exact headB_step hx hxB h.2.2.2 fun a' w2 hb hk => by
    have := headB_mt (Lq := Lq) hsel u _ _ _ _ (inv.set hrm (hlt _ hrm)) hb hB4 hk
    show headB P md ops bars wB _ r.len _ a' w2
    rw [hl3]; exact this
theorem actMB_ext {bars : List Nat} {wB : World} {Lq : Act → World → Prop} : ∀ (r : MT) (a : Act) (w w' : World), Ext w w' → actMB P ops bars wB Lq r a w → actMB P ops bars wB Lq r a w'
 | .nil, _, _, _, hx, h => fun w1 h1 => h w1 (hx.trans h1)
 | .q _ r, _, _, _, hx, ⟨o, ho, v, hy, hk⟩ => ⟨o, ho, v, hy, actMB_ext r _ _ _ hx hk⟩
 | .m _ _, _, _, _, hx, h => fun w1 h1 => h w1 (hx.trans h1)
 | .br _ _ _ _, _, _, _, hx, h => ⟨fun w1 h1 => h.1 w1 (hx.trans h1), fun w1 h1 => h.2 w1 (hx.trans h1)⟩
 | .br3 _ _ _ _ _ _, _, _, _, hx, h => ⟨fun w1 h1 => h.1 w1 (hx.trans h1), fun w1 h1 => h.2.1 w1 (hx.trans h1), fun w1 h1 => h.2.2 w1 (hx.trans h1)⟩
 | .br4 _ _ _ _ _ _ _ _, _, _, _, hx, h => ⟨fun w1 h1 => h.1 w1 (hx.trans h1), fun w1 h1 => h.2.1 w1 (hx.trans h1), fun w1 h1 => h.2.2.1 w1 (hx.trans h1), fun w1 h1 => h.2.2.2 w1 (hx.trans h1)⟩
def mbA (ops : Array Oper) (bars : List Nat) (r : MT) : Bool := Region.noSelect ops && mbB .any ops bars true r (Array.replicate ops.size false)
theorem region_mbA {Q : Exit → Act → World → Prop} {a : Act} {w : World} {l : List Oper} (bars : List Nat) (r : MT) (hm : P.follows .mixedOrders = true) (hB : (mbA l.toArray bars r && Nat.beq r.len l.length) = true)
  (h : actMB P l.toArray bars w (fun a' w' => Q .normal a' w') r a w) (t : Nat) :
  wpOps P l.toArray Q (Region.schedule (P.follows .mixedOrders) l.toArray t) a { w with drawn := w.drawn + 1 } := by
 simp only [mbA, Bool.and_eq_true] at hB
 obtain ⟨⟨hsel, hmix⟩, hlen⟩ := hB
 have hlen : r.len = l.length := by simpa using hlen
 have inv0 : HeadInv .any l.toArray l.toArray.size (Array.replicate l.toArray.size false) :=
  ⟨by simp, fun j oj _ hl => (by rw [getD_replicate_false] at hl; cases hl), fun t h1 h2 => absurd h2 (by omega)⟩
 have H := headB_mt (P := P) (md := .any) hsel r true _ a { w with drawn := w.drawn + 1 } inv0 (fun _ => (Ext.refl w).drew) hmix (actMB_ext r a w _ (Ext.refl w).drew h)
 refine any_ops hm ?_ t
 have key := any_of_headB (Q := Q) (g := 0) (fun done a' w' hL => ⟨hL.1, hL.2⟩) r.len _ a _ H
 have e2 : r.len + 0 = l.toArray.size := by rw [hlen]; simp
 rwa [e2] at key
end
section
variable (P : Program) (T : Tab) (Fs : List Nat) (n : Nat) (all : List Oper) (bars : List Nat) (wB : World)
abbrev mStepB (i : Nat) (k : Env → World → Prop) (l : Env) (w : World) : Prop := match all[i]? with
 | none => False
 | some o => ∀ w1, Ext w w1 → vops T Fs (nrmH0 P) n all [o] l w1 fun l w2 => obl (bars.contains i) wB w1 w2 (k l w2)
abbrev vmtB (K : Env → World → Prop) : MT → Env → World → Prop
 | .nil, l, w => ∀ w1, Ext w w1 → K l w1
 | .q i r, l, w => match all[i]? with
  | none => False
  | some o => vops T Fs (quiE P wB) n all [o] l () fun l _ => vmtB K r l w
 | .m i r, l, w => mStepB P T Fs n all bars wB i (fun l w => vmtB K r l w) l w
 | .br i j r s, l, w => mStepB P T Fs n all bars wB i (fun l w => vmtB K r l w) l w ∧ mStepB P T Fs n all bars wB j (fun l w => vmtB K s l w) l w
 | .br3 i j k r s t, l, w => mStepB P T Fs n all bars wB i (fun l w => vmtB K r l w) l w ∧ mStepB P T Fs n all bars wB j (fun l w => vmtB K s l w) l w ∧ mStepB P T Fs n all bars wB k (fun l w => vmtB K t l w) l w
 | .br4 i j k m r s t u, l, w => mStepB P T Fs n all bars wB i (fun l w => vmtB K r l w) l w ∧ mStepB P T Fs n all bars wB j (fun l w => vmtB K s l w) l w ∧ mStepB P T Fs n all bars wB k (fun l w => vmtB K t l w) l w ∧ mStepB P T Fs n all bars wB m (fun l w => vmtB K u l w) l w
end
section
variable {P : Program} {T : Tab} {Fs : List Nat} (hT : tabOk P T = true) (hF : ∀ f, memB f Fs = true → Enters P f)
include hT hF
theorem mStepB_act {n : Nat} {all : List Oper} {bars : List Nat} {wB : World} {i : Nat} {k : Env → World → Prop} {q : Act → World → Prop} (hk : ∀ l a w, At n l a → k l w → q a w) {l : Env} {a : Act} {w : World} (ha : At n l a) (h : mStepB P T Fs n all bars wB i k l w) :
  stepB P all.toArray bars wB i q a w := by
 have ho : ∀ (b : Bool) (w1 w : World) (p p' : Prop), (p → p') → obl b wB w1 w p → obl b wB w1 w p' := fun b w1 w p p' hp h => by
  cases b with
  | true => exact hp h
  | false => exact ⟨h.1, hp h.2⟩
 unfold mStepB at h
 cases hi : all[i]? with
 | none => simp only [hi] at h
 | some o =>
  simp only [hi] at h
  intro w1 hx
  unfold okOp
  rw [show all.toArray[i]? = some o by simpa using hi]
  rcases vops_one hT hF (nrm_laws0 P) ha (h w1 hx) with ⟨hw, l', ha', hq⟩ | ⟨hw, l', ha', hk'⟩
  ·simp only [hw, if_true]
   refine hq o a _ QF fun e w' hk' => ?_
   obtain ⟨l2, ha2, hk'⟩ := vdst_put ha' hk'
   exact ho _ _ _ _ _ (hk _ _ _ ha2) hk'
  ·simp only [hw, Bool.false_eq_true, if_false]
   obtain ⟨l2, ha2, hk'⟩ := vdst_put ha' hk'
   exact ho _ _ _ _ _ (hk _ _ _ ha2) hk'
theorem vmtB_act {n : Nat} {all : List Oper} {bars : List Nat} {wB : World} {K : Env → World → Prop} {Lq : Act → World → Prop} (hK : ∀ l a w, At n l a → K l w → Lq a w) :
  ∀ {r : MT} {l : Env} {a : Act} {w : World}, At n l a → vmtB P T Fs n all bars wB K r l w → actMB P all.toArray bars wB Lq r a w
 | .nil, l, a, w, ha, h => fun w1 hx => hK _ _ _ ha (h w1 hx)
 | .q i r, l, a, w, ha, h => by
  simp only [vmtB] at h
  cases hi : all[i]? with
  | none => simp only [hi] at h
  | some o =>
   simp only [hi] at h
   refine ⟨o, by simpa using hi, ?_⟩
   rcases vops_one hT hF (quiE_laws P wB) ha h with ⟨hw, l', ha', e, hq, hk⟩ | ⟨hw, l', ha', hk⟩
   ·obtain ⟨l2, ha2, hk⟩ := vdst_put ha' hk
    exact ⟨e.val, .inl ⟨hw, hq⟩, vmtB_act hK ha2 hk⟩
   ·obtain ⟨l2, ha2, hk⟩ := vdst_put ha' hk
    exact ⟨undef, .inr ⟨hw, rfl⟩, vmtB_act hK ha2 hk⟩
 | .m i r, l, a, w, ha, h => mStepB_act hT hF (k := fun l w => vmtB P T Fs n all bars wB K r l w) (q := fun a w => actMB P all.toArray bars wB Lq r a w) (fun _ _ _ ha2 hk => vmtB_act hK ha2 hk) ha h
 | .br i j r s, l, a, w, ha, h => ⟨mStepB_act hT hF (k := fun l w => vmtB P T Fs n all bars wB K r l w) (q := fun a w => actMB P all.toArray bars wB Lq r a w) (fun _ _ _ ha2 hk => vmtB_act hK ha2 hk) ha h.1, mStepB_act hT hF (k := fun l w => vmtB P T Fs n all bars wB K s l w) (q := fun a w => actMB P all.toArray bars wB Lq s a w) (fun _ _ _ ha2 hk => vmtB_act hK ha2 hk) ha h.2⟩
 | .br3 i j k r s t, l, a, w, ha, h => ⟨mStepB_act hT hF (k := fun l w => vmtB P T Fs n all bars wB K r l w) (q := fun a w => actMB P all.toArray bars wB Lq r a w) (fun _ _ _ ha2 hk => vmtB_act hK ha2 hk) ha h.1, mStepB_act hT hF (k := fun l w => vmtB P T Fs n all bars wB K s l w) (q := fun a w => actMB P all.toArray bars wB Lq s a w) (fun _ _ _ ha2 hk => vmtB_act hK ha2 hk) ha h.2.1, mStepB_act hT hF (k := fun l w => vmtB P T Fs n all bars wB K t l w) (q := fun a w => actMB P all.toArray bars wB Lq t a w) (fun _ _ _ ha2 hk => vmtB_act hK ha2 hk) ha h.2.2⟩
 | .br4 i j k m r s t u, l, a, w, ha, h => ⟨mStepB_act hT hF (k := fun l w => vmtB P T Fs n all bars wB K r l w) (q := fun a w => actMB P all.toArray bars wB Lq r a w) (fun _ _ _ ha2 hk => vmtB_act hK ha2 hk) ha h.1, mStepB_act hT hF (k := fun l w => vmtB P T Fs n all bars wB K s l w) (q := fun a w => actMB P all.toArray bars wB Lq s a w) (fun _ _ _ ha2 hk => vmtB_act hK ha2 hk) ha h.2.1, mStepB_act hT hF (k := fun l w => vmtB P T Fs n all bars wB K t l w) (q := fun a w => actMB P all.toArray bars wB Lq t a w) (fun _ _ _ ha2 hk => vmtB_act hK ha2 hk) ha h.2.2.1, mStepB_act hT hF (k := fun l w => vmtB P T Fs n all bars wB K u l w) (q := fun a w => actMB P all.toArray bars wB Lq u a w) (fun _ _ _ ha2 hk => vmtB_act hK ha2 hk) ha h.2.2.2⟩
theorem v_mtB {n : Nat} {ops : List Oper} {l : Env} {w : World} {K : Env → World → Prop} (hm : P.follows .mixedOrders = true) (bars : List Nat) (r : MT) (hB : (mbA ops.toArray bars r && Nat.beq r.len ops.length && noDefer ops) = true)
  (h : vmtB P T Fs n ops bars w K r l w) : VDraw P n ops l w K := by
 have hB' := hB
 rw [Bool.and_eq_true] at hB'
 refine VDraw.ofPlain (fun a Q ha hK => ?_) hB'.2
 refine region_mbA bars r hm hB'.1 ?_
 exact vmtB_act hT hF (fun l a w ha h => hK l a w ha h) ha h
end
end V
namespace V
theorem HpM.kcopyS {P : Program} {M : List Nat} {w0 w : World} {H : List It} (h : HpM M w0 w H) {dT sT ty e bytes : Nat} (hs : slOk P dT e 1 bytes = true) (i : Nat) {b : Nat} {cs0 : List Value} {el : Nat} (hi : H[i]? = some (blk b cs0 el))
  {dLen dCap : Nat} (s : ByteArray) (cs : List Value) (hcs : cs = bytesV (s.data.toList.take dLen)) (hfit : cs.length ≤ cs0.length) {K : Value → World → Prop}
  (hk : ∀ w', HpM M w0 w' (H.set i (blk b (cs ++ cs0.drop cs.length) el)) → K (.int .i64 (cs.length : Nat)) w') :
  ∃ u w', (Builtin.copy_ #[dT, sT] ty #[.slice (some ⟨b, 0, none⟩) dLen dCap, .string s]).run P w = .ok u w' ∧ K u w' := by
 obtain ⟨hu, ⟨inf, z, hinf, hsz, rfl, hz, hzs⟩, _⟩ := slOk_spec hs
 have hb : Blk w b cs0 el := h.get hi
 obtain ⟨f, hf, hb⟩ := hb
 have h1 : ∀ v ∈ cs, v.oneCell' = true := fun v hv => by rw [hcs] at hv; simp only [bytesV, List.mem_map] at hv; obtain ⟨x, _, rfl⟩ := hv; rfl
 have hst := storeF (P := P) b 0 el f cs 0 cs0.toArray w hb (by simpa using hf) (by simpa using hfit) h1
 simp only [Nat.add_zero] at hst
 have hr : (Builtin.copy_ #[dT, sT] ty #[.slice (some ⟨b, 0, none⟩) dLen dCap, .string s]).run P w =
   .ok (goInt cs.length) (w.setRow b (cs0.toArray.toList.take 0 ++ cs ++ cs0.toArray.toList.drop (0 + cs.length)).toArray) := by
  simp [Builtin.copy_, Go.Proofs.Ytefjgoeabfgkmaa.V.run_underlying hu, Builtin.lenOf, Builtin.firstCells, sizeOf, typeInfo, hinf, hsz, hst, Result.andThen]
  have e : List.take (s.size.min dLen) (List.map (fun b => Value.int IntKind.u8 (b.toNat : Nat)) s.data.toList) = cs := by
   rw [hcs, bytesV, List.map_take]
   rcases Nat.le_total s.size dLen with h | h
   ·rw [show s.size.min dLen = s.size from Nat.min_eq_left h, List.take_of_length_le (by simp), List.take_of_length_le (by simpa using h)]
   ·rw [show s.size.min dLen = dLen from Nat.min_eq_right h]
  have e2 : s.size.min dLen = cs.length := by rw [← e]; simp
  rw [e, hst, e2]
  simp
 refine ⟨_, _, hr, ?_⟩
 have := hk _ (h.upd hi (grownBy_setRow w b (cs0.toArray.toList.take 0 ++ cs ++ cs0.toArray.toList.drop (0 + cs.length)).toArray) (blk_ok _ _ _) ⟨f, hf.imp_right (fun h => by simp; omega), by simpa using setRow_heap w b cs0.toArray _ el f hb⟩ (fun b' hb' => .inl hb'))
 exact this
end V
namespace V

/-- A row of the heap, whatever it is. -/
def raw (b : Nat) (o : Obj) : It := ⟨some b, fun w => w.heap[b]? = some o⟩
theorem raw_ok (b : Nat) (o : Obj) : (raw b o).Ok := fun _ _ _ h hh => (h b rfl).trans hh
/-- The row stands as it stood in A. -/
def asIn (A : World) (b : Nat) : It := ⟨some b, fun w => w.heap[b]? = A.heap[b]?⟩
theorem asIn_ok (A : World) (b : Nat) : (asIn A b).Ok := fun _ _ _ h hh => (h b rfl).trans hh
def owners (X : List It) : List Nat := X.filterMap It.own
theorem mem_owners {X : List It} {b : Nat} : b ∈ owners X ↔ ∃ x ∈ X, x.own = some b := by simp [owners]

theorem ExtM.putObj {M : List Nat} {w : World} {b : Nat} (hb : b ∈ M) (o : Obj) : ExtM M w (w.putObj b o) :=
 ⟨rfl, rfl, rfl, by simp, fun k _ hm => World.putObj_heap_other (fun e => hm (e ▸ hb))⟩
theorem ExtM.mono {M M' : List Nat} {a b : World} (h : ExtM M a b) (hM : ∀ x ∈ M, x ∈ M') : ExtM M' a b :=
 ⟨h.os, h.tape, h.output, h.size, fun i hi hm => h.block i hi (fun hx => hm (hM i hx))⟩

/-- The things X of world A have turned into the things X' of world B; all else stands. -/
structure Reframe (X X' : List It) (A B : World) : Prop where
 ext : ExtM (owners X) A B
 ok : ∀ x ∈ X', x.Ok
 holds : ∀ x ∈ X', x.holds B
 lo : ∀ x ∈ X', ∀ b, x.own = some b → (b ∈ owners X ∨ A.heap.size ≤ b) ∧ b < B.heap.size
 apart : X'.Pairwise fun x y => ∀ b, x.own = some b → y.own ≠ some b

theorem HpM.reframe {M : List Nat} {w0 A B : World} {H X X' : List It} (h : HpM M w0 A (H ++ X)) (r : Reframe X X' A B) : HpM M w0 B (H ++ X') := by
 have hap := List.pairwise_append.1 h.apart
 have notX : ∀ x ∈ H, ∀ b, x.own = some b → b ∉ owners X := fun x hx b hb hm => by
  obtain ⟨y, hy, e⟩ := mem_owners.1 hm
  exact hap.2.2 x hx y hy b hb e
 refine ⟨⟨r.ext.os.trans h.extM.os, r.ext.tape.trans h.extM.tape, r.ext.output.trans h.extM.output, Nat.le_trans h.extM.size r.ext.size, fun k hk hm => ?_⟩, ?_, ?_, ?_, ?_⟩
 ·refine (r.ext.block k (Nat.lt_of_lt_of_le hk h.extM.size) fun hx => ?_).trans (h.extM.block k hk hm)
  obtain ⟨y, hy, e⟩ := mem_owners.1 hx
  rcases (h.lo y (List.mem_append_right _ hy) k e).1 with h1 | h1
  ·exact hm h1
  ·omega
 ·intro x hx
  rcases List.mem_append.1 hx with hx | hx
  ·exact h.ok x (List.mem_append_left _ hx)
  ·exact r.ok x hx
 ·intro x hx
  rcases List.mem_append.1 hx with hx | hx
  ·exact h.ok x (List.mem_append_left _ hx) A B r.ext.size (fun b hb => r.ext.block b (h.lo x (List.mem_append_left _ hx) b hb).2 (notX x hx b hb)) (h.holds x (List.mem_append_left _ hx))
  ·exact r.holds x hx
 ·intro x hx b hb
  rcases List.mem_append.1 hx with hx | hx
  ·exact ⟨(h.lo x (List.mem_append_left _ hx) b hb).1, Nat.lt_of_lt_of_le (h.lo x (List.mem_append_left _ hx) b hb).2 r.ext.size⟩
  ·refine ⟨?_, (r.lo x hx b hb).2⟩
   rcases (r.lo x hx b hb).1 with h1 | h1
   ·obtain ⟨y, hy, e⟩ := mem_owners.1 h1
    exact (h.lo y (List.mem_append_right _ hy) b e).1
   ·exact .inr (Nat.le_trans h.extM.size h1)
 ·refine List.pairwise_append.2 ⟨hap.1, r.apart, fun x hx y hy b hb e => ?_⟩
  rcases (r.lo y hy b e).1 with h1 | h1
  ·exact notX x hx b hb h1
  ·have := (h.lo x (List.mem_append_left _ hx) b hb).2; omega
theorem HpM.reframeAt {M : List Nat} {w0 A B : World} {L X X' : List It} (h : HpM M w0 A L) (i : Nat) (hL : L.drop i = X) (r : Reframe X X' A B) : HpM M w0 B (L.take i ++ X') :=
 HpM.reframe (by rw [← hL, List.take_append_drop]; exact h) r
/-- The mark's block is shut at the function's end. -/
theorem HpM.shut {M : List Nat} {w0 w : World} {H : List It} (h : HpM M w0 w H) {i D : Nat} {o o' : Obj} (hi : H[i]? = some (raw D o)) : HpM M w0 (w.putObj D o') (H.set i (raw D o')) :=
 h.upd hi (grownBy_putObj' w D o') (raw_ok _ _) (World.putObj_heap_same (Array.getElem?_eq_some_iff.1 (h.get hi)).1) (fun b hb => .inl hb)

theorem y_mono {m : Nat} {P : Program} {l : Nat} {args : Array Value} {W : World} {R R' : Ending → World → Prop} (h : YieldAt Fence.wide m P l args W R) (hr : ∀ e w', R e w' → R' e w') : YieldAt Fence.wide m P l args W R' :=
 let ⟨fn, tm, asn, bd, h1, h2⟩ := h
 ⟨fn, tm, asn, bd, h1, h2.mono hr⟩
/-- What an iterator owes: it hands xs 0, xs 1, .. to yield, till its end or till yield says no. It may write the blocks own. -/
def Iter (P : Program) (gf : Nat) (lb : List Value) (own : List Nat) (Cap : World → Prop) (xs : Nat → List Value) (tot : Nat → Prop) (N : Nat) : Prop :=
 ∀ (l : Nat) (J Jx : Nat → World → Prop) (W : World), Cap W → (∀ k A, J k A → k < N) →
  (∀ k A B, J k A → ExtM own A B → J k B) → (∀ k A B, Jx k A → ExtM own A B → Jx k B) →
  (∀ k A, J k A → ¬ tot k → YieldAt Fence.wide 0 P l (xs k).toArray A fun e B => (e = .returned (.bool true) ∧ J (k + 1) B ∧ ∀ b ∈ own, B.heap[b]? = A.heap[b]?) ∨ (e = .returned (.bool false) ∧ Jx k B)) →
  J 0 W → Calls P gf (.func (.yield l) #[] #[] :: lb).toArray W fun e B => (∃ v, e = .returned v) ∧ ((∃ k, tot k ∧ J k B) ∨ ∃ k, Jx k B)

/-- An invariant that may be framed. -/
structure Framed (I : List It → World → Prop) : Prop where
 holds : ∀ X A, I X A → ∀ x ∈ X, x.holds A
 turn : ∀ X X' A B, Reframe X X' A B → I X A → I X' B

def zipE : List Nat → List Value → Env → Env
 | p :: ps, v :: vs, l => zipE ps vs ((p, .v v) :: l)
 | _, _, l => l
theorem zipE_at {n : Nat} : ∀ (ps : List Nat) (vs : List Value) (l : Env) (t : Array Value), (ps.all fun p => Nat.blt p n) = true → At n l { tmps := t, defers := [] } →
  At n (zipE ps vs l) { tmps := (ps.zip vs).foldl (fun t (p, v) => t.setIfInBounds p v) t, defers := [] }
 | [], _, l, t, _, h => by simpa [zipE] using h
 | p :: ps, [], l, t, _, h => by simpa [zipE] using h
 | p :: ps, v :: vs, l, t, hp, h => by
  simp only [List.all_cons, Bool.and_eq_true] at hp
  have := h.put hp.1 (.v v)
  exact zipE_at ps vs _ _ hp.2 (by simpa [Act.put] using this)

section
variable {P : Program} {T : Tab} {Fs : List Nat} (hT : tabOk P T = true) (hF : ∀ f, memB f Fs = true → Enters P f)
include hT hF
theorem v_rangeG {n : Nat} {f : Operand} {ps : Array Tmp} {assign body : Code} {l : Env} {w : World} {K : KK} {gf : Nat} {lb : List Value} {own : List Nat} {Cap : World → Prop} {xs : Nat → List Value} {tot : Nat → Prop} {N : Nat}
  (it : Iter P gf lb own Cap xs tot N) (hf : opd l f = some (.v (.func (.func gf) #[] lb.toArray))) (hg : memB gf Fs = true) (hfl : (flat assign && flat body && ps.toList.all (fun p => Nat.blt p n)) = true)
  (l1 : Env) (hl1 : SubL l1 l) (hml : marks l1 = []) (hps : ∀ k, (xs k).length = ps.size) (I : Nat → List It → World → Prop) (E : Code → List It → World → Prop) (hI : ∀ k, Framed (I k)) (hE : ∀ c, Framed (E c))
  (hN : ∀ k X A, I k X A → k < N) {M : List Nat} {w0 : World} (X0 : List It) (hX0 : HpM M w0 w X0) (hown : owners X0 = own) (hcap : ∀ B, Ext w B → Cap B) (h0 : I 0 X0 w)
  (hbody : ∀ k X A, I k X A → ¬ tot k → vgo P T Fs n assign (zipE ps.toList (xs k) l1) A { nrm := fun l' B => (∀ x ∈ X, x.holds B) ∧ ∀ X' B', Reframe X X' B B' → vgo P T Fs n body l' B' { nrm := fun _ C => I (k + 1) X' C, ret := fun _ C => E .ret X' C, ex := fun i _ C => E (.exit i) X' C, go := fun i _ C => E (.goto i) X' C }, ret := fun _ _ => False, ex := fun _ _ _ => False })
  (hdone : ∀ D k X W, tot k → I k (raw D (.deferred (some [])) :: X) W → K.nrm ((n, .m D) :: l) W)
  (hret : ∀ D X W, E .ret (raw D (.deferred (some [])) :: X) W → K.ret ((n, .m D) :: l) W)
  (hex : ∀ i D X W, E (.exit i) (raw D (.deferred (some [])) :: X) W → K.ex i ((n, .m D) :: l) W)
  (hgo : ∀ i D X W, E (.goto i) (raw D (.deferred (some [])) :: X) W → K.go i ((n, .m D) :: l) W) : VRange P n f ps assign body l w K := by
 simp only [Bool.and_eq_true] at hfl
 refine ⟨fun a ha => wpIn_rangeFunc (F := Fence.wide) fun fn hfn => ?_⟩
 obtain ⟨rec, hrec⟩ : ∃ rec : LoopState → Option Code → Loop, rec = fun st pe => { state := st, pending := pe, fn, tmps := a.tmps, params := ps, assign, body, defers := w.heap.size } := ⟨_, rfl⟩
 obtain ⟨W1, hW1⟩ : ∃ W1, (w.alloc (.deferred (some []))).alloc (.loop (rec .ready none)) = W1 := ⟨_, rfl⟩
 have hx1 : Ext w W1 := by rw [← hW1]; exact ((Ext.refl w).alloc _).alloc _
 have hL1 : W1.heap[w.heap.size + 1]? = some (.loop (rec .ready none)) := by
  rw [← hW1]; have := World.alloc_heap_new (w.alloc (.deferred (some []))) (.loop (rec .ready none)); rwa [World.size_alloc] at this
 have hD1 : W1.heap[w.heap.size]? = some (.deferred (some [])) := by
  rw [← hW1]; exact (Below.heap_alloc _ _ _ (by simp)).trans (World.alloc_heap_new w _)
 have hlt : ∀ b ∈ own, b < w.heap.size := fun b hb => by
  rw [← hown] at hb
  obtain ⟨x, hx, e⟩ := mem_owners.1 hb
  exact (hX0.lo x hx b e).2
 have hnd : own.Pairwise (fun x y => x ≠ y) := by
  rw [← hown]
  refine List.pairwise_filterMap.2 (hX0.apart.imp fun {x y} h b hb c hc e => ?_)
  subst e; exact h b hb hc
 -- the frame at a world
 obtain ⟨Fr, hFr⟩ : ∃ Fr : Obj → World → List It, Fr = fun o A => raw w.heap.size (.deferred (some [])) :: raw (w.heap.size + 1) o :: own.map (asIn A) := ⟨_, rfl⟩
 have howF : ∀ o A b, b ∈ owners (Fr o A) ↔ b = w.heap.size ∨ b = w.heap.size + 1 ∨ b ∈ own := fun o A b => by
  rw [hFr, mem_owners]
  refine ⟨?_, ?_⟩
  ·rintro ⟨x, hx, e⟩
   rcases List.mem_cons.1 hx with rfl | hx
   ·simp only [raw, Option.some.injEq] at e; exact .inl e.symm
   ·rcases List.mem_cons.1 hx with rfl | hx
    ·simp only [raw, Option.some.injEq] at e; exact .inr (.inl e.symm)
    ·obtain ⟨b', hb', rfl⟩ := List.mem_map.1 hx
     simp only [asIn, Option.some.injEq] at e; subst e; exact .inr (.inr hb')
  ·rintro (rfl | rfl | hb)
   ·exact ⟨_, List.mem_cons_self, rfl⟩
   ·exact ⟨_, List.mem_cons_of_mem _ List.mem_cons_self, rfl⟩
   ·exact ⟨asIn A b, List.mem_cons_of_mem _ (List.mem_cons_of_mem _ (List.mem_map.2 ⟨b, hb, rfl⟩)), rfl⟩
 have frame : ∀ {o o' : Obj} {X : List It} {A B : World}, ExtM (owners X) A B → (∀ b ∈ own, b ∈ owners X) → (w.heap.size ∈ owners X ∨ A.heap.size ≤ w.heap.size) → (w.heap.size + 1 ∈ owners X ∨ A.heap.size ≤ w.heap.size + 1) → B.heap[w.heap.size]? = some (.deferred (some [])) → B.heap[w.heap.size + 1]? = some o' → Reframe X (Fr o' B) A B := by
  intro o o' X A B hx h1 h2 h3 hd hl
  have hs1 : w.heap.size + 1 < B.heap.size := (Array.getElem?_eq_some_iff.1 hl).1
  have mem : ∀ x ∈ Fr o' B, x = raw w.heap.size (.deferred (some [])) ∨ x = raw (w.heap.size + 1) o' ∨ ∃ b ∈ own, x = asIn B b := by
   intro x hx; rw [hFr] at hx; simpa [eq_comm] using hx
  refine ⟨hx, fun x hx => ?_, fun x hx => ?_, fun x hx b hb => ?_, ?_⟩
  ·rcases mem x hx with rfl | rfl | ⟨b, _, rfl⟩
   ·exact raw_ok _ _
   ·exact raw_ok _ _
   ·exact asIn_ok _ _
  ·rcases mem x hx with rfl | rfl | ⟨b, _, rfl⟩
   ·exact hd
   ·exact hl
   ·rfl
  ·rcases mem x hx with rfl | rfl | ⟨b', hb', rfl⟩
   ·simp only [raw, Option.some.injEq] at hb; subst hb; exact ⟨h2, by omega⟩
   ·simp only [raw, Option.some.injEq] at hb; subst hb; exact ⟨h3, hs1⟩
   ·simp only [asIn, Option.some.injEq] at hb; subst hb; exact ⟨.inl (h1 _ hb'), by have := hlt _ hb'; omega⟩
  ·rw [hFr]
   refine List.pairwise_cons.2 ⟨fun y hy b hb e => ?_, List.pairwise_cons.2 ⟨fun y hy b hb e => ?_, ?_⟩⟩
   ·simp only [raw, Option.some.injEq] at hb; subst hb
    rcases List.mem_cons.1 hy with rfl | hy
    ·simp [raw] at e
    ·obtain ⟨b', hb', rfl⟩ := List.mem_map.1 hy
     simp only [asIn, Option.some.injEq] at e; have := hlt _ hb'; omega
   ·simp only [raw, Option.some.injEq] at hb; subst hb
    obtain ⟨b', hb', rfl⟩ := List.mem_map.1 hy
    simp only [asIn, Option.some.injEq] at e; have := hlt _ hb'; omega
   ·refine List.pairwise_map.2 (hnd.imp fun {x y} h b hb e => ?_)
    simp only [asIn, Option.some.injEq] at hb e
    exact h (hb.trans e.symm)
 refine ⟨w.heap.size + 1, [{ target := .collected w.heap.size, args := #[] }], W1, { target := .fn (.func gf) lb.toArray, args := #[.func (.yield (w.heap.size + 1)) #[] #[]] }, W1, gf,
  #[.func (.yield (w.heap.size + 1)) #[] #[]] ++ lb.toArray, W1, ?_, ?_, fun _ _ => trivial, ?_, fun h => by simp [Fence.wide] at h, (callsIn_wide (n := 0 - 1)).2 ?_⟩
 ·rw [← hW1, hrec]; exact run_enterLoop_outer _ _ _ _ _
 ·simp only [resolve, opd_eval ha hf]
  simp [go_sem]
 ·simp [invoke, go_sem, hF gf hg]
  try exact hF gf hg _ _
 ·have key := it (w.heap.size + 1) (fun k A => I k (Fr (.loop (rec .ready none)) A) A) (fun k A => ∃ c, (c = Code.ret ∨ (∃ i, c = Code.exit i) ∨ ∃ i, c = Code.goto i) ∧ E c (Fr (.loop (rec .done (some c))) A) A) W1 (hcap W1 hx1) (fun k A h => hN k _ A h) ?_ ?_ ?_ ?_
  ·have e : (Value.func (.yield (w.heap.size + 1)) #[] #[] :: lb).toArray = #[.func (.yield (w.heap.size + 1)) #[] #[]] ++ lb.toArray := by simp
   rw [← e]
   refine key.mono ?_
   rintro e W2 ⟨⟨v, rfl⟩, (⟨k, ht, hi⟩ | ⟨k, c, hc, hi⟩)⟩
   ·have hl := (hI k).holds _ _ hi (raw (w.heap.size + 1) (.loop (rec .ready none))) (by rw [hFr]; simp)
    have hd := (hI k).holds _ _ hi (raw w.heap.size (.deferred (some []))) (by rw [hFr]; simp)
    have hs1 : w.heap.size + 1 < W2.heap.size := (Array.getElem?_eq_some_iff.1 hl).1
    refine ⟨none, W2.putObj (w.heap.size + 1) (.loop (rec .exhausted none)), by have := run_endLoop (P := P) hl (by rw [hrec]; simp); rw [hrec] at this ⊢; exact this, ?_⟩
    have hi' := (hI k).turn _ (Fr (.loop (rec .exhausted none)) (W2.putObj (w.heap.size + 1) (.loop (rec .exhausted none)))) _ (W2.putObj (w.heap.size + 1) (.loop (rec .exhausted none)))
     (frame (o := .loop (rec .ready none)) (ExtM.putObj ((howF _ _ _).2 (.inr (.inl rfl))) _) (fun b hb => (howF _ _ _).2 (.inr (.inr hb))) (.inl ((howF _ _ _).2 (.inl rfl))) (.inl ((howF _ _ _).2 (.inr (.inl rfl)))) ((World.putObj_heap_other (by omega)).trans hd) (World.putObj_heap_same hs1)) hi
    rw [hFr] at hi'
    exact ⟨_, ⟨by rw [ha.defers]; simp [marks, mk1], ha.size, fun t x hx => by
     simp only [look] at hx
     by_cases e : n = t
     ·subst e; simp at hx; subst hx; simp [Array.getD, ha.size]
     ·rw [beqF e] at hx; exact ha.holds t x hx⟩, hdone _ k _ _ ht hi'⟩
   ·have hl := (hE c).holds _ _ hi (raw (w.heap.size + 1) (.loop (rec .done (some c)))) (by rw [hFr]; simp)
    have hd := (hE c).holds _ _ hi (raw w.heap.size (.deferred (some []))) (by rw [hFr]; simp)
    have hs1 : w.heap.size + 1 < W2.heap.size := (Array.getElem?_eq_some_iff.1 hl).1
    refine ⟨some c, W2.putObj (w.heap.size + 1) (.loop (rec .exhausted (some c))), by have := run_endLoop (P := P) hl (by rw [hrec]; simp); rw [hrec] at this ⊢; exact this, ?_⟩
    have hi' := (hE c).turn _ (Fr (.loop (rec .exhausted (some c))) (W2.putObj (w.heap.size + 1) (.loop (rec .exhausted (some c))))) _ (W2.putObj (w.heap.size + 1) (.loop (rec .exhausted (some c))))
     (frame (o := .loop (rec .done (some c))) (ExtM.putObj ((howF _ _ _).2 (.inr (.inl rfl))) _) (fun b hb => (howF _ _ _).2 (.inr (.inr hb))) (.inl ((howF _ _ _).2 (.inl rfl))) (.inl ((howF _ _ _).2 (.inr (.inl rfl)))) ((World.putObj_heap_other (by omega)).trans hd) (World.putObj_heap_same hs1)) hi
    rw [hFr] at hi'
    have hat : At n ((n, .m w.heap.size) :: l) { tmps := a.tmps, defers := [{ target := .collected w.heap.size, args := #[] }] ++ a.defers } := ⟨by rw [ha.defers]; simp [marks, mk1], ha.size, fun t x hx => by
     simp only [look] at hx
     by_cases e : n = t
     ·subst e; simp at hx; subst hx; simp [Array.getD, ha.size]
     ·rw [beqF e] at hx; exact ha.holds t x hx⟩
    rcases hc with rfl | ⟨i, rfl⟩ | ⟨i, rfl⟩
    ·exact wpIn_ret ⟨_, hat, hret _ _ _ hi'⟩
    ·exact wpIn_exit ⟨_, hat, hex _ _ _ _ hi'⟩
    ·exact wpIn_goto ⟨_, hat, hgo _ _ _ _ hi'⟩
  ·intro k A B hi hx
   have hl := (hI k).holds _ _ hi (raw (w.heap.size + 1) (.loop (rec .ready none))) (by rw [hFr]; simp)
   have hd := (hI k).holds _ _ hi (raw w.heap.size (.deferred (some []))) (by rw [hFr]; simp)
   have hs1 : w.heap.size + 1 < A.heap.size := (Array.getElem?_eq_some_iff.1 hl).1
   exact (hI k).turn _ _ _ _ (frame (o := .loop (rec .ready none)) (hx.mono fun b hb => (howF _ _ _).2 (.inr (.inr hb))) (fun b hb => (howF _ _ _).2 (.inr (.inr hb))) (.inl ((howF _ _ _).2 (.inl rfl))) (.inl ((howF _ _ _).2 (.inr (.inl rfl))))
    ((hx.block _ (by omega) (fun h => by have := hlt _ h; omega)).trans hd) ((hx.block _ hs1 (fun h => by have := hlt _ h; omega)).trans hl)) hi
  ·rintro k A B ⟨c, hc, hi⟩ hx
   have hl := (hE c).holds _ _ hi (raw (w.heap.size + 1) (.loop (rec .done (some c)))) (by rw [hFr]; simp)
   have hd := (hE c).holds _ _ hi (raw w.heap.size (.deferred (some []))) (by rw [hFr]; simp)
   have hs1 : w.heap.size + 1 < A.heap.size := (Array.getElem?_eq_some_iff.1 hl).1
   exact ⟨c, hc, (hE c).turn _ _ _ _ (frame (o := .loop (rec .done (some c))) (hx.mono fun b hb => (howF _ _ _).2 (.inr (.inr hb))) (fun b hb => (howF _ _ _).2 (.inr (.inr hb))) (.inl ((howF _ _ _).2 (.inl rfl))) (.inl ((howF _ _ _).2 (.inr (.inl rfl))))
    ((hx.block _ (by omega) (fun h => by have := hlt _ h; omega)).trans hd) ((hx.block _ hs1 (fun h => by have := hlt _ h; omega)).trans hl)) hi⟩
  ·-- a round
   intro k A hi ht
   have hl := (hI k).holds _ _ hi (raw (w.heap.size + 1) (.loop (rec .ready none))) (by rw [hFr]; simp)
   have hd := (hI k).holds _ _ hi (raw w.heap.size (.deferred (some []))) (by rw [hFr]; simp)
   have hs1 : w.heap.size + 1 < A.heap.size := (Array.getElem?_eq_some_iff.1 hl).1
   have hy := run_yield (P := P) (args := (xs k).toArray) hl (by rw [hrec]; simpa using hps k)
   refine ⟨rec .ready none |>.fn, _, rec .ready none |>.assign, rec .ready none |>.body, hy, roundIn_of_wpIn trivial ?_⟩
   have hat : At n (zipE ps.toList (xs k) l1) { tmps := (ps.zip (xs k).toArray).foldl (fun t (p, v) => t.setIfInBounds p v) a.tmps, defers := [] } := by
    have := zipE_at (n := n) ps.toList (xs k) l1 a.tmps hfl.2 ⟨by rw [hml], ha.size, fun t x h => ha.holds t x (hl1 t x h)⟩
    rw [← Array.foldl_toList]
    simpa using this
   rw [hrec]
   refine wpIn_mono (vgo_sound hT hF (some (w.heap.size + 1)) 0 assign (.inr ⟨hfl.1.1, rfl⟩) hat (hbody k _ A hi ht)) ?_
   rintro e a1 B hq
   cases e with
   | normal =>
    obtain ⟨l', hat', hXB, hb⟩ := hq
    have hlB := hXB (raw (w.heap.size + 1) (.loop (rec .ready none))) (by rw [hFr]; simp)
    have hdB := hXB (raw w.heap.size (.deferred (some []))) (by rw [hFr]; simp)
    have hoB : ∀ b ∈ own, B.heap[b]? = A.heap[b]? := fun b hb => hXB (asIn A b) (by rw [hFr]; exact List.mem_cons_of_mem _ (List.mem_cons_of_mem _ (List.mem_map.2 ⟨b, hb, rfl⟩)))
    have hsB : w.heap.size + 1 < B.heap.size := (Array.getElem?_eq_some_iff.1 hlB).1
    have hb2 := hb (Fr (.loop (rec .busy none)) (B.putObj (w.heap.size + 1) (.loop (rec .busy none)))) (B.putObj (w.heap.size + 1) (.loop (rec .busy none)))
     (frame (o := .loop (rec .ready none)) (ExtM.putObj ((howF _ _ _).2 (.inr (.inl rfl))) _) (fun b hb => (howF _ _ _).2 (.inr (.inr hb))) (.inl ((howF _ _ _).2 (.inl rfl))) (.inl ((howF _ _ _).2 (.inr (.inl rfl)))) ((World.putObj_heap_other (by omega)).trans hdB) (World.putObj_heap_same hsB))
    refine ⟨B.putObj (w.heap.size + 1) (.loop (rec .busy none)), by have := run_beginRound (P := P) hlB (by rw [hrec]); rw [hrec] at this ⊢; exact this, ?_⟩
    have fin : ∀ (jump : Option Code) (C : World) (I' : List It → World → Prop), Framed I' → I' (Fr (.loop (rec .busy none)) (B.putObj (w.heap.size + 1) (.loop (rec .busy none)))) C →
      ∃ C', (Instr.endRound (w.heap.size + 1) jump).run P C = .ok (.bool jump.isNone) C' ∧ I' (Fr (.loop (rec (if jump.isNone then .ready else .done) jump)) C') C' ∧ ∀ b ∈ own, C'.heap[b]? = A.heap[b]? := by
     intro jump C I' hI' hi'
     have hlC := hI'.holds _ _ hi' (raw (w.heap.size + 1) (.loop (rec .busy none))) (by rw [hFr]; simp)
     have hdC := hI'.holds _ _ hi' (raw w.heap.size (.deferred (some []))) (by rw [hFr]; simp)
     have hoC : ∀ b ∈ own, C.heap[b]? = (B.putObj (w.heap.size + 1) (.loop (rec .busy none))).heap[b]? := fun b hb => hI'.holds _ _ hi' (asIn (B.putObj (w.heap.size + 1) (.loop (rec .busy none))) b) (by rw [hFr]; exact List.mem_cons_of_mem _ (List.mem_cons_of_mem _ (List.mem_map.2 ⟨b, hb, rfl⟩)))
     have hsC : w.heap.size + 1 < C.heap.size := (Array.getElem?_eq_some_iff.1 hlC).1
     refine ⟨C.putObj (w.heap.size + 1) (.loop (rec (if jump.isNone then .ready else .done) jump)), by have := run_endRound (P := P) jump hlC; rw [hrec] at this ⊢; exact this, ?_, fun b hb => ?_⟩
     ·exact hI'.turn _ _ _ _ (frame (o := .loop (rec .busy none)) (ExtM.putObj ((howF _ _ _).2 (.inr (.inl rfl))) _) (fun b hb => (howF _ _ _).2 (.inr (.inr hb))) (.inl ((howF _ _ _).2 (.inl rfl))) (.inl ((howF _ _ _).2 (.inr (.inl rfl)))) ((World.putObj_heap_other (by omega)).trans hdC) (World.putObj_heap_same hsC)) hi'
     ·have := hlt b hb
      exact (World.putObj_heap_other (by omega)).trans ((hoC b hb).trans ((World.putObj_heap_other (by omega)).trans (hoB b hb)))
    refine wpIn_mono (vgo_sound hT hF (some (w.heap.size + 1)) 0 body (.inr ⟨hfl.1.2, rfl⟩) hat' hb2) ?_
    rintro e a2 C hq
    cases e with
    | normal =>
     obtain ⟨_, _, hi'⟩ := hq
     obtain ⟨C', hr, hi2, ho⟩ := fin none C _ (hI (k + 1)) hi'
     exact ⟨_, C', hr, .inl ⟨rfl, by rw [hrec] at hi2; exact hi2, ho⟩⟩
    | ret =>
     obtain ⟨_, _, hi'⟩ := hq
     obtain ⟨C', hr, hi2, ho⟩ := fin (some .ret) C _ (hE .ret) hi'
     exact ⟨_, C', hr, .inr ⟨rfl, .ret, .inl rfl, by rw [hrec] at hi2; exact hi2⟩⟩
    | exit i =>
     obtain ⟨_, _, hi'⟩ := hq
     obtain ⟨C', hr, hi2, ho⟩ := fin (some (.exit i)) C _ (hE (.exit i)) hi'
     exact ⟨_, C', hr, .inr ⟨rfl, .exit i, .inr (.inl ⟨i, rfl⟩), by rw [hrec] at hi2; exact hi2⟩⟩
    | goto i =>
     obtain ⟨_, _, hi'⟩ := hq
     obtain ⟨C', hr, hi2, ho⟩ := fin (some (.goto i)) C _ (hE (.goto i)) hi'
     exact ⟨_, C', hr, .inr ⟨rfl, .goto i, .inr (.inr ⟨i, rfl⟩), by rw [hrec] at hi2; exact hi2⟩⟩
    | panic c => exact hq.elim
    | outgrown => exact hq.elim
   | ret => obtain ⟨_, _, h⟩ := hq; exact h.elim
   | exit i => obtain ⟨_, _, h⟩ := hq; exact h.elim
   | goto i => obtain ⟨_, _, h⟩ := hq; exact h.elim
   | panic c => exact hq.elim
   | outgrown => exact hq.elim
  ·exact (hI 0).turn _ _ _ _ (frame (o := .loop (rec .ready none)) ((ExtM.refl _ w).trans hx1) (fun b hb => by rw [hown]; exact hb) (.inr (Nat.le_refl _)) (.inr (by omega)) hD1 hL1) h0
/-- as E, but by no jump -/
def noGo (E : Code → List It → World → Prop) : Code → List It → World → Prop
 | .goto _ => fun _ _ => False
 | c => E c
omit hT hF in
theorem noGo_framed {E : Code → List It → World → Prop} (hE : ∀ c, Framed (E c)) : ∀ c, Framed (noGo E c) := fun c => by
 cases c <;> first | exact hE _ | exact ⟨fun _ _ h => h.elim, fun _ _ _ _ _ h => h.elim⟩
theorem v_range {n : Nat} {f : Operand} {ps : Array Tmp} {assign body : Code} {l : Env} {w : World} {K : KK} {gf : Nat} {lb : List Value} {own : List Nat} {Cap : World → Prop} {xs : Nat → List Value} {tot : Nat → Prop} {N : Nat}
  (it : Iter P gf lb own Cap xs tot N) (hf : opd l f = some (.v (.func (.func gf) #[] lb.toArray))) (hg : memB gf Fs = true) (hfl : (flat assign && flat body && ps.toList.all (fun p => Nat.blt p n)) = true)
  (hml : marks l = []) (hps : ∀ k, (xs k).length = ps.size) (I : Nat → List It → World → Prop) (E : Code → List It → World → Prop) (hI : ∀ k, Framed (I k)) (hE : ∀ c, Framed (E c))
  (hN : ∀ k X A, I k X A → k < N) {M : List Nat} {w0 : World} (X0 : List It) (hX0 : HpM M w0 w X0) (hown : owners X0 = own) (hcap : ∀ B, Ext w B → Cap B) (h0 : I 0 X0 w)
  (hbody : ∀ k X A, I k X A → ¬ tot k → vgo P T Fs n assign (zipE ps.toList (xs k) l) A { nrm := fun l' B => (∀ x ∈ X, x.holds B) ∧ ∀ X' B', Reframe X X' B B' → vgo P T Fs n body l' B' { nrm := fun _ C => I (k + 1) X' C, ret := fun _ C => E .ret X' C, ex := fun i _ C => E (.exit i) X' C }, ret := fun _ _ => False, ex := fun _ _ _ => False })
  (hdone : ∀ D k X W, tot k → I k (raw D (.deferred (some [])) :: X) W → K.nrm ((n, .m D) :: l) W)
  (hret : ∀ D X W, E .ret (raw D (.deferred (some [])) :: X) W → K.ret ((n, .m D) :: l) W)
  (hex : ∀ i D X W, E (.exit i) (raw D (.deferred (some [])) :: X) W → K.ex i ((n, .m D) :: l) W) : VRange P n f ps assign body l w K :=
 v_rangeG hT hF it hf hg hfl l (fun _ _ h => h) hml hps I (noGo E) hI (noGo_framed hE) hN X0 hX0 hown hcap h0 hbody hdone hret hex (fun _ _ _ _ h => h.elim)
end
end V
open Go.RowKit V

theorem bytesV_len (l : List UInt8) : (bytesV l).length = l.length := by simp [bytesV]
theorem bytesV_get {l : List UInt8} {i : Nat} {b : UInt8} (h : l[i]? = some b) : (bytesV l)[i]? = some (.int .u8 (b.toNat : Nat)) := by simp [bytesV, h]
theorem bytesV_app (a b : List UInt8) : bytesV (a ++ b) = bytesV a ++ bytesV b := by simp [bytesV]
theorem bytesV_set (l : List UInt8) (zs : List Value) (i : Nat) (b : UInt8) (h : i < l.length) : (bytesV l ++ zs).set i (.int .u8 (b.toNat : Nat)) = bytesV (l.set i b) ++ zs := by
 rw [List.set_append_left _ _ (by rw [bytesV_len]; exact h)]
 simp [bytesV, List.map_set]
theorem one_bytes (l : List UInt8) : ∀ u ∈ bytesV l, u.oneCell' = true := by intro u hu; obtain ⟨x, _, rfl⟩ := List.mem_map.1 hu; rfl
theorem bA_size (l : List UInt8) : (⟨l.toArray⟩ : ByteArray).size = l.length := rfl
theorem toList_len (s : ByteArray) : s.data.toList.length = s.size := by simp
theorem ba_eq {s t : ByteArray} (h : s.data.toList = t.data.toList) : s = t := by
 cases s; cases t; simp at h; simp [h]
/-- numbers as cells, of a kind -/
def kw (k : IntKind) (ws : List Nat) : List Value := ws.map fun x => .int k (x : Nat)
theorem kw_len (k : IntKind) (ws : List Nat) : (kw k ws).length = ws.length := by simp [kw]
theorem kw_get {k : IntKind} {ws : List Nat} {i x : Nat} (h : ws[i]? = some x) : (kw k ws)[i]? = some (.int k (x : Nat)) := by simp [kw, h]
theorem kw_set (k : IntKind) (ws : List Nat) (i x : Nat) : (kw k ws).set i (.int k (x : Nat)) = kw k (ws.set i x) := by simp [kw, List.map_set]
theorem kw_one (k : IntKind) (ws : List Nat) : ∀ u ∈ kw k ws, u.oneCell' = true := by intro u hu; obtain ⟨x, _, rfl⟩ := List.mem_map.1 hu; rfl
/-- strings as cells -/
def sw (ws : List ByteArray) : List Value := ws.map .string
theorem sw_len (ws : List ByteArray) : (sw ws).length = ws.length := by simp [sw]
theorem sw_get {ws : List ByteArray} {i : Nat} {x : ByteArray} (h : ws[i]? = some x) : (sw ws)[i]? = some (.string x) := by simp [sw, h]
theorem sw_app (a b : List ByteArray) : sw (a ++ b) = sw a ++ sw b := by simp [sw]
theorem sw_one (ws : List ByteArray) : ∀ u ∈ sw ws, u.oneCell' = true := by intro u hu; obtain ⟨x, _, rfl⟩ := List.mem_map.1 hu; rfl
theorem take_snoc {α : Type} {l : List α} {j : Nat} {x : α} (h : l[j]? = some x) : l.take (j + 1) = l.take j ++ [x] := by rw [List.take_add_one, h]; rfl
def TT : V.Tab := [
 (0, ⟨.other, 1⟩),
 (1, ⟨.other, 1⟩),
 (2, ⟨.int .i64, 1⟩),
 (3, ⟨.int .i64, 1⟩),
 (4, ⟨.bool, 1⟩),
 (5, ⟨.int .u8, 1⟩),
 (6, ⟨.int .u8, 1⟩),
 (7, ⟨.struct [(0, 2), (1, 3), (2, 4), (3, 6)], 4⟩),
 (8, ⟨.struct [(0, 2), (1, 3), (2, 4), (3, 6)], 4⟩),
 (9, ⟨.str, 1⟩),
 (10, ⟨.str, 1⟩),
 (11, ⟨.str, 1⟩),
 (12, ⟨.int .u64, 1⟩),
 (13, ⟨.struct [(0, 9), (1, 12)], 2⟩),
 (14, ⟨.struct [(0, 9), (1, 12)], 2⟩),
 (15, ⟨.ptr 173, 1⟩),
 (16, ⟨.ptr 176, 1⟩),
 (17, ⟨.ptr 183, 1⟩),
 (18, ⟨.struct [(0, 17)], 1⟩),
 (19, ⟨.struct [(0, 17)], 1⟩),
 (20, ⟨.other, 1⟩),
 (21, ⟨.int .i32, 1⟩),
 (22, ⟨.other, 1⟩),
 (23, ⟨.struct [(0, 9), (1, 3)], 2⟩),
 (24, ⟨.struct [(0, 9), (1, 3)], 2⟩),
 (25, ⟨.arr 2 24, 4⟩),
 (26, ⟨.slice 3, 1⟩),
 (27, ⟨.struct [(0, 25), (4, 3), (5, 3), (6, 3), (7, 3), (8, 4), (9, 9), (10, 9), (11, 9), (12, 26)], 13⟩),
 (28, ⟨.struct [(0, 25), (4, 3), (5, 3), (6, 3), (7, 3), (8, 4), (9, 9), (10, 9), (11, 9), (12, 26)], 13⟩),
 (29, ⟨.int .i64, 1⟩),
 (30, ⟨.other, 1⟩),
 (31, ⟨.other, 1⟩),
 (32, ⟨.slice 40, 1⟩),
 (33, ⟨.other, 1⟩),
 (34, ⟨.other, 1⟩),
 (35, ⟨.other, 1⟩),
 (36, ⟨.other, 1⟩),
 (37, ⟨.struct [(0, 3), (1, 3), (2, 3), (3, 4), (4, 3), (5, 4), (6, 24)], 8⟩),
 (38, ⟨.struct [(0, 3), (1, 3), (2, 3), (3, 4), (4, 3), (5, 4), (6, 24)], 8⟩),
 (39, ⟨.struct [(0, 24), (2, 24), (4, 38)], 12⟩),
 (40, ⟨.struct [(0, 24), (2, 24), (4, 38)], 12⟩),
 (41, ⟨.other, 1⟩),
 (42, ⟨.other, 1⟩),
 (43, ⟨.other, 1⟩),
 (44, ⟨.other, 1⟩),
 (45, ⟨.struct [(0, 5), (1, 5), (2, 3), (3, 9), (4, 24)], 6⟩),
 (46, ⟨.struct [(0, 5), (1, 5), (2, 3), (3, 9), (4, 24)], 6⟩),
 (47, ⟨.slice 46, 1⟩),
 (48, ⟨.other, 1⟩),
 (49, ⟨.other, 1⟩),
 (50, ⟨.other, 1⟩),
 (51, ⟨.other, 1⟩),
 (52, ⟨.other, 1⟩),
 (53, ⟨.other, 1⟩),
 (54, ⟨.other, 1⟩),
 (55, ⟨.ptr 60, 1⟩),
 (56, ⟨.other, 1⟩),
 (57, ⟨.other, 1⟩),
 (58, ⟨.other, 1⟩),
 (59, ⟨.struct [(0, 28), (13, 32)], 14⟩),
 (60, ⟨.struct [(0, 28), (13, 32)], 14⟩),
 (61, ⟨.other, 1⟩),
 (62, ⟨.other, 1⟩),
 (63, ⟨.other, 1⟩),
 (64, ⟨.other, 1⟩),
 (65, ⟨.other, 1⟩),
 (66, ⟨.other, 1⟩),
 (67, ⟨.slice 5, 1⟩),
 (68, ⟨.other, 1⟩),
 (69, ⟨.other, 1⟩),
 (70, ⟨.int .u64, 1⟩),
 (71, ⟨.other, 1⟩),
 (72, ⟨.other, 1⟩),
 (73, ⟨.other, 1⟩),
 (74, ⟨.ptr 76, 1⟩),
 (75, ⟨.struct [(0, 74), (1, 67)], 2⟩),
 (76, ⟨.struct [(0, 74), (1, 67)], 2⟩),
 (77, ⟨.other, 1⟩),
 (78, ⟨.other, 1⟩),
 (79, ⟨.other, 1⟩),
 (80, ⟨.other, 1⟩),
 (81, ⟨.other, 1⟩),
 (82, ⟨.other, 1⟩),
 (83, ⟨.other, 1⟩),
 (84, ⟨.other, 1⟩),
 (85, ⟨.other, 1⟩),
 (86, ⟨.other, 1⟩),
 (87, ⟨.other, 1⟩),
 (88, ⟨.other, 1⟩),
 (89, ⟨.other, 1⟩),
 (90, ⟨.other, 1⟩),
 (91, ⟨.other, 1⟩),
 (92, ⟨.int .u32, 1⟩),
 (93, ⟨.other, 1⟩),
 (94, ⟨.other, 1⟩),
 (95, ⟨.int .u64, 1⟩),
 (96, ⟨.other, 1⟩),
 (97, ⟨.other, 1⟩),
 (98, ⟨.ptr 5, 1⟩),
 (99, ⟨.other, 1⟩),
 (100, ⟨.slice 118, 1⟩),
 (101, ⟨.struct [(0, 3), (1, 3), (2, 9), (3, 100)], 4⟩),
 (102, ⟨.struct [(0, 3), (1, 3), (2, 9), (3, 100)], 4⟩),
 (103, ⟨.other, 1⟩),
 (104, ⟨.other, 1⟩),
 (105, ⟨.other, 1⟩),
 (106, ⟨.other, 1⟩),
 (107, ⟨.other, 1⟩),
 (108, ⟨.other, 1⟩),
 (109, ⟨.other, 1⟩),
 (110, ⟨.other, 1⟩),
 (111, ⟨.other, 1⟩),
 (112, ⟨.other, 1⟩),
 (113, ⟨.other, 1⟩),
 (114, ⟨.other, 1⟩),
 (115, ⟨.other, 1⟩),
 (116, ⟨.other, 1⟩),
 (117, ⟨.struct [(0, 3), (1, 9)], 2⟩),
 (118, ⟨.struct [(0, 3), (1, 9)], 2⟩),
 (119, ⟨.other, 1⟩),
 (120, ⟨.other, 1⟩),
 (121, ⟨.other, 1⟩),
 (122, ⟨.other, 1⟩),
 (123, ⟨.other, 1⟩),
 (124, ⟨.struct [(0, 9)], 1⟩),
 (125, ⟨.struct [(0, 9)], 1⟩),
 (126, ⟨.other, 1⟩),
 (127, ⟨.other, 1⟩),
 (128, ⟨.other, 1⟩),
 (129, ⟨.other, 1⟩),
 (130, ⟨.other, 1⟩),
 (131, ⟨.other, 1⟩),
 (132, ⟨.other, 1⟩),
 (133, ⟨.other, 1⟩),
 (134, ⟨.other, 1⟩),
 (135, ⟨.other, 1⟩),
 (136, ⟨.other, 1⟩),
 (137, ⟨.struct [(0, 76)], 2⟩),
 (138, ⟨.struct [(0, 76)], 2⟩),
 (139, ⟨.other, 1⟩),
 (140, ⟨.other, 1⟩),
 (141, ⟨.other, 1⟩),
 (142, ⟨.other, 1⟩),
 (143, ⟨.other, 1⟩),
 (144, ⟨.arr 8 92, 8⟩),
 (145, ⟨.arr 64 92, 64⟩),
 (146, ⟨.struct [(0, 144), (8, 145)], 72⟩),
 (147, ⟨.struct [(0, 144), (8, 145)], 72⟩),
 (148, ⟨.other, 1⟩),
 (149, ⟨.other, 1⟩),
 (150, ⟨.ptr 138, 1⟩),
 (151, ⟨.slice 9, 1⟩),
 (152, ⟨.other, 1⟩),
 (153, ⟨.other, 1⟩),
 (154, ⟨.other, 1⟩),
 (155, ⟨.other, 1⟩),
 (156, ⟨.other, 1⟩),
 (157, ⟨.other, 1⟩),
 (158, ⟨.other, 1⟩),
 (159, ⟨.struct [(0, 144), (8, 9), (9, 3)], 10⟩),
 (160, ⟨.struct [(0, 144), (8, 9), (9, 3)], 10⟩),
 (161, ⟨.struct [(0, 160)], 10⟩),
 (162, ⟨.struct [(0, 160)], 10⟩),
 (163, ⟨.other, 1⟩),
 (164, ⟨.other, 1⟩),
 (165, ⟨.other, 1⟩),
 (166, ⟨.other, 1⟩),
 (167, ⟨.ptr 162, 1⟩),
 (168, ⟨.other, 1⟩),
 (169, ⟨.other, 1⟩),
 (170, ⟨.other, 1⟩),
 (171, ⟨.other, 1⟩),
 (172, ⟨.struct [(0, 17), (1, 17), (2, 17), (3, 9)], 4⟩),
 (173, ⟨.struct [(0, 17), (1, 17), (2, 17), (3, 9)], 4⟩),
 (174, ⟨.arr 0 16, 0⟩),
 (175, ⟨.struct [(0, 174)], 0⟩),
 (176, ⟨.struct [(0, 174)], 0⟩),
 (177, ⟨.int .u8, 1⟩),
 (178, ⟨.int .u8, 1⟩),
 (179, ⟨.other, 1⟩),
 (180, ⟨.int .i32, 1⟩),
 (181, ⟨.int .i32, 1⟩),
 (182, ⟨.struct [(0, 12), (1, 12), (2, 92), (3, 177), (4, 5), (5, 5), (6, 178), (7, 179), (8, 98), (9, 180), (10, 181)], 11⟩),
 (183, ⟨.struct [(0, 12), (1, 12), (2, 92), (3, 177), (4, 5), (5, 5), (6, 178), (7, 179), (8, 98), (9, 180), (10, 181)], 11⟩)]
theorem TTok : V.tabOk Try.prog TT = true := by kernel_rfl
def FF : List Nat := [2, 3, 4, 5, 6, 7, 8, 9, 10, 11, 12, 13, 14, 15, 16, 17, 18, 19, 20, 21, 22, 23, 24, 25, 26, 27, 28, 29, 30, 31, 32, 33, 34, 35, 36, 37, 38, 39, 40, 41, 42, 43, 44, 45, 46, 47, 48, 49, 50, 51, 52, 55, 56, 57, 58, 59, 60, 61, 62, 63, 64, 65, 66, 67, 68, 69, 70, 71, 72, 73, 74, 75, 76, 77, 78, 79, 80, 81, 82, 83, 84, 85, 86, 87, 88, 89, 90, 91, 92, 93, 94, 95, 96, 97, 98, 99, 100, 101]
theorem en2 : Enters Try.prog 2 := enters_of Try.func2 (by kernel_rfl) rfl
theorem en3 : Enters Try.prog 3 := enters_of Try.func3 (by kernel_rfl) rfl
theorem en4 : Enters Try.prog 4 := enters_of Try.func4 (by kernel_rfl) rfl
theorem en5 : Enters Try.prog 5 := enters_of Try.func5 (by kernel_rfl) rfl
theorem en6 : Enters Try.prog 6 := enters_of Try.func6 (by kernel_rfl) rfl
theorem en7 : Enters Try.prog 7 := enters_of Try.func7 (by kernel_rfl) rfl
theorem en8 : Enters Try.prog 8 := enters_of Try.func8 (by kernel_rfl) rfl
theorem en9 : Enters Try.prog 9 := enters_of Try.func9 (by kernel_rfl) rfl
theorem en10 : Enters Try.prog 10 := enters_of Try.func10 (by kernel_rfl) rfl
theorem en11 : Enters Try.prog 11 := enters_of Try.func11 (by kernel_rfl) rfl
theorem en12 : Enters Try.prog 12 := enters_of Try.func12 (by kernel_rfl) rfl
theorem en13 : Enters Try.prog 13 := enters_of Try.func13 (by kernel_rfl) rfl
theorem en14 : Enters Try.prog 14 := enters_of Try.func14 (by kernel_rfl) rfl
theorem en15 : Enters Try.prog 15 := enters_of Try.func15 (by kernel_rfl) rfl
theorem en16 : Enters Try.prog 16 := enters_of Try.func16 (by kernel_rfl) rfl
theorem en17 : Enters Try.prog 17 := enters_of Try.func17 (by kernel_rfl) rfl
theorem en18 : Enters Try.prog 18 := enters_of Try.func18 (by kernel_rfl) rfl
theorem en19 : Enters Try.prog 19 := enters_of Try.func19 (by kernel_rfl) rfl
theorem en20 : Enters Try.prog 20 := enters_of Try.func20 (by kernel_rfl) rfl
theorem en21 : Enters Try.prog 21 := enters_of Try.func21 (by kernel_rfl) rfl
theorem en22 : Enters Try.prog 22 := enters_of Try.func22 (by kernel_rfl) rfl
theorem en23 : Enters Try.prog 23 := enters_of Try.func23 (by kernel_rfl) rfl
theorem en24 : Enters Try.prog 24 := enters_of Try.func24 (by kernel_rfl) rfl
theorem en25 : Enters Try.prog 25 := enters_of Try.func25 (by kernel_rfl) rfl
theorem en26 : Enters Try.prog 26 := enters_of Try.func26 (by kernel_rfl) rfl
theorem en27 : Enters Try.prog 27 := enters_of Try.func27 (by kernel_rfl) rfl
theorem en28 : Enters Try.prog 28 := enters_of Try.func28 (by kernel_rfl) rfl
theorem en29 : Enters Try.prog 29 := enters_of Try.func29 (by kernel_rfl) rfl
theorem en30 : Enters Try.prog 30 := enters_of Try.func30 (by kernel_rfl) rfl
theorem en31 : Enters Try.prog 31 := enters_of Try.func31 (by kernel_rfl) rfl
theorem en32 : Enters Try.prog 32 := enters_of Try.func32 (by kernel_rfl) rfl
theorem en33 : Enters Try.prog 33 := enters_of Try.func33 (by kernel_rfl) rfl
theorem en34 : Enters Try.prog 34 := enters_of Try.func34 (by kernel_rfl) rfl
theorem en35 : Enters Try.prog 35 := enters_of Try.func35 (by kernel_rfl) rfl
theorem en36 : Enters Try.prog 36 := enters_of Try.func36 (by kernel_rfl) rfl
theorem en37 : Enters Try.prog 37 := enters_of Try.func37 (by kernel_rfl) rfl
theorem en38 : Enters Try.prog 38 := enters_of Try.func38 (by kernel_rfl) rfl
theorem en39 : Enters Try.prog 39 := enters_of Try.func39 (by kernel_rfl) rfl
theorem en40 : Enters Try.prog 40 := enters_of Try.func40 (by kernel_rfl) rfl
theorem en41 : Enters Try.prog 41 := enters_of Try.func41 (by kernel_rfl) rfl
theorem en42 : Enters Try.prog 42 := enters_of Try.func42 (by kernel_rfl) rfl
theorem en43 : Enters Try.prog 43 := enters_of Try.func43 (by kernel_rfl) rfl
theorem en44 : Enters Try.prog 44 := enters_of Try.func44 (by kernel_rfl) rfl
theorem en45 : Enters Try.prog 45 := enters_of Try.func45 (by kernel_rfl) rfl
theorem en46 : Enters Try.prog 46 := enters_of Try.func46 (by kernel_rfl) rfl
theorem en47 : Enters Try.prog 47 := enters_of Try.func47 (by kernel_rfl) rfl
theorem en48 : Enters Try.prog 48 := enters_of Try.func48 (by kernel_rfl) rfl
theorem en49 : Enters Try.prog 49 := enters_of Try.func49 (by kernel_rfl) rfl
theorem en50 : Enters Try.prog 50 := enters_of Try.func50 (by kernel_rfl) rfl
theorem en51 : Enters Try.prog 51 := enters_of Try.func51 (by kernel_rfl) rfl
theorem en52 : Enters Try.prog 52 := enters_of Try.func52 (by kernel_rfl) rfl
theorem en55 : Enters Try.prog 55 := enters_of Try.func55 (by kernel_rfl) rfl
theorem en56 : Enters Try.prog 56 := enters_of Try.func56 (by kernel_rfl) rfl
theorem en57 : Enters Try.prog 57 := enters_of Try.func57 (by kernel_rfl) rfl
theorem en58 : Enters Try.prog 58 := enters_of Try.func58 (by kernel_rfl) rfl
theorem en59 : Enters Try.prog 59 := enters_of Try.func59 (by kernel_rfl) rfl
theorem en60 : Enters Try.prog 60 := enters_of Try.func60 (by kernel_rfl) rfl
theorem en61 : Enters Try.prog 61 := enters_of Try.func61 (by kernel_rfl) rfl
theorem en62 : Enters Try.prog 62 := enters_of Try.func62 (by kernel_rfl) rfl
theorem en63 : Enters Try.prog 63 := enters_of Try.func63 (by kernel_rfl) rfl
theorem en64 : Enters Try.prog 64 := enters_of Try.func64 (by kernel_rfl) rfl
theorem en65 : Enters Try.prog 65 := enters_of Try.func65 (by kernel_rfl) rfl
theorem en66 : Enters Try.prog 66 := enters_of Try.func66 (by kernel_rfl) rfl
theorem en67 : Enters Try.prog 67 := enters_of Try.func67 (by kernel_rfl) rfl
theorem en68 : Enters Try.prog 68 := enters_of Try.func68 (by kernel_rfl) rfl
theorem en69 : Enters Try.prog 69 := enters_of Try.func69 (by kernel_rfl) rfl
theorem en70 : Enters Try.prog 70 := enters_of Try.func70 (by kernel_rfl) rfl
theorem en71 : Enters Try.prog 71 := enters_of Try.func71 (by kernel_rfl) rfl
theorem en72 : Enters Try.prog 72 := enters_of Try.func72 (by kernel_rfl) rfl
theorem en73 : Enters Try.prog 73 := enters_of Try.func73 (by kernel_rfl) rfl
theorem en74 : Enters Try.prog 74 := enters_of Try.func74 (by kernel_rfl) rfl
theorem en75 : Enters Try.prog 75 := enters_of Try.func75 (by kernel_rfl) rfl
theorem en76 : Enters Try.prog 76 := enters_of Try.func76 (by kernel_rfl) rfl
theorem en77 : Enters Try.prog 77 := enters_of Try.func77 (by kernel_rfl) rfl
theorem en78 : Enters Try.prog 78 := enters_of Try.func78 (by kernel_rfl) rfl
theorem en79 : Enters Try.prog 79 := enters_of Try.func79 (by kernel_rfl) rfl
theorem en80 : Enters Try.prog 80 := enters_of Try.func80 (by kernel_rfl) rfl
theorem en81 : Enters Try.prog 81 := enters_of Try.func81 (by kernel_rfl) rfl
theorem en82 : Enters Try.prog 82 := enters_of Try.func82 (by kernel_rfl) rfl
theorem en83 : Enters Try.prog 83 := enters_of Try.func83 (by kernel_rfl) rfl
theorem en84 : Enters Try.prog 84 := enters_of Try.func84 (by kernel_rfl) rfl
theorem en85 : Enters Try.prog 85 := enters_of Try.func85 (by kernel_rfl) rfl
theorem en86 : Enters Try.prog 86 := enters_of Try.func86 (by kernel_rfl) rfl
theorem en87 : Enters Try.prog 87 := enters_of Try.func87 (by kernel_rfl) rfl
theorem en88 : Enters Try.prog 88 := enters_of Try.func88 (by kernel_rfl) rfl
theorem en89 : Enters Try.prog 89 := enters_of Try.func89 (by kernel_rfl) rfl
theorem en90 : Enters Try.prog 90 := enters_of Try.func90 (by kernel_rfl) rfl
theorem en91 : Enters Try.prog 91 := enters_of Try.func91 (by kernel_rfl) rfl
theorem en92 : Enters Try.prog 92 := enters_of Try.func92 (by kernel_rfl) rfl
theorem en93 : Enters Try.prog 93 := enters_of Try.func93 (by kernel_rfl) rfl
theorem en94 : Enters Try.prog 94 := enters_of Try.func94 (by kernel_rfl) rfl
theorem en95 : Enters Try.prog 95 := enters_of Try.func95 (by kernel_rfl) rfl
theorem en96 : Enters Try.prog 96 := enters_of Try.func96 (by kernel_rfl) rfl
theorem en97 : Enters Try.prog 97 := enters_of Try.func97 (by kernel_rfl) rfl
theorem en98 : Enters Try.prog 98 := enters_of Try.func98 (by kernel_rfl) rfl
theorem en99 : Enters Try.prog 99 := enters_of Try.func99 (by kernel_rfl) rfl
theorem en100 : Enters Try.prog 100 := enters_of Try.func100 (by kernel_rfl) rfl
theorem en101 : Enters Try.prog 101 := enters_of Try.func101 (by kernel_rfl) rfl
theorem FFok : ∀ f, V.memB f FF = true → Enters Try.prog f :=
 V.memB_cons en2 <| V.memB_cons en3 <| V.memB_cons en4 <| V.memB_cons en5 <| V.memB_cons en6 <| V.memB_cons en7 <| V.memB_cons en8 <| V.memB_cons en9 <| V.memB_cons en10 <| V.memB_cons en11 <| V.memB_cons en12 <| V.memB_cons en13 <| V.memB_cons en14 <| V.memB_cons en15 <| V.memB_cons en16 <| V.memB_cons en17 <| V.memB_cons en18 <| V.memB_cons en19 <| V.memB_cons en20 <| V.memB_cons en21 <| V.memB_cons en22 <| V.memB_cons en23 <| V.memB_cons en24 <| V.memB_cons en25 <| V.memB_cons en26 <| V.memB_cons en27 <| V.memB_cons en28 <| V.memB_cons en29 <| V.memB_cons en30 <| V.memB_cons en31 <| V.memB_cons en32 <| V.memB_cons en33 <| V.memB_cons en34 <| V.memB_cons en35 <| V.memB_cons en36 <| V.memB_cons en37 <| V.memB_cons en38 <| V.memB_cons en39 <| V.memB_cons en40 <| V.memB_cons en41 <| V.memB_cons en42 <| V.memB_cons en43 <| V.memB_cons en44 <| V.memB_cons en45 <| V.memB_cons en46 <| V.memB_cons en47 <| V.memB_cons en48 <| V.memB_cons en49 <| V.memB_cons en50 <| V.memB_cons en51 <| V.memB_cons en52 <| V.memB_cons en55 <| V.memB_cons en56 <| V.memB_cons en57 <| V.memB_cons en58 <| V.memB_cons en59 <| V.memB_cons en60 <| V.memB_cons en61 <| V.memB_cons en62 <| V.memB_cons en63 <| V.memB_cons en64 <| V.memB_cons en65 <| V.memB_cons en66 <| V.memB_cons en67 <| V.memB_cons en68 <| V.memB_cons en69 <| V.memB_cons en70 <| V.memB_cons en71 <| V.memB_cons en72 <| V.memB_cons en73 <| V.memB_cons en74 <| V.memB_cons en75 <| V.memB_cons en76 <| V.memB_cons en77 <| V.memB_cons en78 <| V.memB_cons en79 <| V.memB_cons en80 <| V.memB_cons en81 <| V.memB_cons en82 <| V.memB_cons en83 <| V.memB_cons en84 <| V.memB_cons en85 <| V.memB_cons en86 <| V.memB_cons en87 <| V.memB_cons en88 <| V.memB_cons en89 <| V.memB_cons en90 <| V.memB_cons en91 <| V.memB_cons en92 <| V.memB_cons en93 <| V.memB_cons en94 <| V.memB_cons en95 <| V.memB_cons en96 <| V.memB_cons en97 <| V.memB_cons en98 <| V.memB_cons en99 <| V.memB_cons en100 <| V.memB_cons en101 <| V.memB_nil
theorem z1 : V.zeroC Try.prog 1 = some [.nilFunc] := by kernel_rfl
theorem z2 : V.zeroC Try.prog 2 = some [.int .i64 0] := by kernel_rfl
theorem z3 : V.zeroC Try.prog 3 = some [.int .i64 0] := by kernel_rfl
theorem z4 : V.zeroC Try.prog 4 = some [.bool false] := by kernel_rfl
theorem z5 : V.zeroC Try.prog 5 = some [.int .u8 0] := by kernel_rfl
theorem z9 : V.zeroC Try.prog 9 = some [.string ⟨#[]⟩] := by kernel_rfl
theorem z20 : V.zeroC Try.prog 20 = some [.nilIface] := by kernel_rfl
theorem z24 : V.zeroC Try.prog 24 = some [.string ⟨#[]⟩, .int .i64 0] := by kernel_rfl
theorem z28 : V.zeroC Try.prog 28 = some [.string ⟨#[]⟩, .int .i64 0, .string ⟨#[]⟩, .int .i64 0, .int .i64 0, .int .i64 0, .int .i64 0, .int .i64 0, .bool false, .string ⟨#[]⟩, .string ⟨#[]⟩, .string ⟨#[]⟩, .slice none 0 0] := by kernel_rfl
theorem z37 : V.zeroC Try.prog 37 = some [.int .i64 0, .int .i64 0, .int .i64 0, .bool false, .int .i64 0, .bool false, .string ⟨#[]⟩, .int .i64 0] := by kernel_rfl
theorem z46 : V.zeroC Try.prog 46 = some [.int .u8 0, .int .u8 0, .int .i64 0, .string ⟨#[]⟩, .string ⟨#[]⟩, .int .i64 0] := by kernel_rfl
theorem z51 : V.zeroC Try.prog 51 = some [.nilFunc] := by kernel_rfl
theorem z70 : V.zeroC Try.prog 70 = some [.int .u64 0] := by kernel_rfl
theorem z72 : V.zeroC Try.prog 72 = some [.nilFunc] := by kernel_rfl
theorem z75 : V.zeroC Try.prog 75 = some [.pointer none, .slice none 0 0] := by kernel_rfl
theorem z76 : V.zeroC Try.prog 76 = some [.pointer none, .slice none 0 0] := by kernel_rfl
theorem z95 : V.zeroC Try.prog 95 = some [.int .u64 0] := by kernel_rfl
theorem z102 : V.zeroC Try.prog 102 = some [.int .i64 0, .int .i64 0, .string ⟨#[]⟩, .slice none 0 0] := by kernel_rfl
theorem z109 : V.zeroC Try.prog 109 = some [.pointer none] := by kernel_rfl
theorem z118 : V.zeroC Try.prog 118 = some [.int .i64 0, .string ⟨#[]⟩] := by kernel_rfl
theorem z125 : V.zeroC Try.prog 125 = some [.string ⟨#[]⟩] := by kernel_rfl
theorem z127 : V.zeroC Try.prog 127 = some [.nilFunc] := by kernel_rfl
theorem z138 : V.zeroC Try.prog 138 = some [.pointer none, .slice none 0 0] := by kernel_rfl
theorem z144 : V.zeroC Try.prog 144 = some [.int .u32 0, .int .u32 0, .int .u32 0, .int .u32 0, .int .u32 0, .int .u32 0, .int .u32 0, .int .u32 0] := by kernel_rfl
theorem z145 : V.zeroC Try.prog 145 = some (List.replicate 64 (.int .u32 0)) := by kernel_rfl
theorem z146 : V.zeroC Try.prog 146 = some (List.replicate 72 (.int .u32 0)) := by kernel_rfl
theorem z147 : V.zeroC Try.prog 147 = some (List.replicate 72 (.int .u32 0)) := by kernel_rfl
theorem z148 : V.zeroC Try.prog 148 = some [.nilFunc] := by kernel_rfl
theorem z162 : V.zeroC Try.prog 162 = some [.int .u32 0, .int .u32 0, .int .u32 0, .int .u32 0, .int .u32 0, .int .u32 0, .int .u32 0, .int .u32 0, .string ⟨#[]⟩, .int .i64 0] := by kernel_rfl
theorem z164 : V.zeroC Try.prog 164 = some [.nilFunc] := by kernel_rfl
theorem sl26 : V.slOk Try.prog 26 3 1 8 = true := by kernel_rfl
theorem sl32 : V.slOk Try.prog 32 40 12 120 = true := by kernel_rfl
theorem sl67 : V.slOk Try.prog 67 5 1 1 = true := by kernel_rfl
theorem sl100 : V.slOk Try.prog 100 118 2 24 = true := by kernel_rfl
theorem sl151 : V.slOk Try.prog 151 9 1 16 = true := by kernel_rfl
theorem mixed : Try.prog.follows .mixedOrders = true := by kernel_rfl
end Go.Proofs.Ytefjgoeabfgkmaa
namespace Go.Proofs.Ytefjgoeabfgkmaa
open Go.Shelf Go.RowKit
def ren264 : Ren := ⟨fun | 264 => 42 | n => n,
 fun | 53 => 95 | 46 => 70 | n => n,
 fun n => n⟩
theorem lays264 : Go.Proofs.Lays.n264 Try.prog ren264 where
 mixed := by kernel_rfl
 f264 := Try.func42.trans (congrArg some (by kernel_rfl))
 t46 := Try.underlying70
 a46 := Try.isAgg70
 z46 := Try.sizeOf70
 v46 := Try.zeroValue70
 t53 := Try.underlying95
 a53 := Try.isAgg95
 z53 := Try.sizeOf95
 v53 := Try.zeroValue95
def ren105 : Ren := ⟨fun | 105 => 11 | 212 => 29 | 99 => 30 | 165 => 31 | 166 => 32 | 170 => 33 | 169 => 34 | 263 => 41 | 264 => 42 | 206 => 43 | 240 => 44 | 241 => 45 | 276 => 53 | 277 => 54 | n => n,
 fun | 9 => 9 | 3 => 3 | 4 => 4 | 20 => 20 | 0 => 0 | 46 => 70 | 109 => 71 | 5 => 5 | 72 => 76 | 76 => 79 | 51 => 92 | 146 => 93 | 53 => 95 | 148 => 96 | 70 => 74 | 37 => 67 | 75 => 78 | 127 => 98 | 164 => 109 | 80 => 82 | n => n,
 fun n => n⟩
theorem lays105 : Go.Proofs.Lays.n105 Try.prog ren105 where
 mixed := by kernel_rfl
 f99 := Try.func30.trans (congrArg some (by kernel_rfl))
 f105 := Try.func11.trans (congrArg some (by kernel_rfl))
 f165 := Try.func31.trans (congrArg some (by kernel_rfl))
 f166 := Try.func32.trans (congrArg some (by kernel_rfl))
 f169 := Try.func34.trans (congrArg some (by kernel_rfl))
 f170 := Try.func33.trans (congrArg some (by kernel_rfl))
 f206 := Try.func43.trans (congrArg some (by kernel_rfl))
 f212 := Try.func29.trans (congrArg some (by kernel_rfl))
 f240 := Try.func44.trans (congrArg some (by kernel_rfl))
 f241 := Try.func45.trans (congrArg some (by kernel_rfl))
 f263 := Try.func41.trans (congrArg some (by kernel_rfl))
 f264 := Try.func42.trans (congrArg some (by kernel_rfl))
 f276 := Try.func53.trans (congrArg some (by kernel_rfl))
 f277 := Try.func54.trans (congrArg some (by kernel_rfl))
 t0 := Try.underlying0
 a0 := Try.isAgg0
 z0 := Try.sizeOf0
 v0 := Try.zeroValue0
 t3 := Try.underlying3
 a3 := Try.isAgg3
 z3 := Try.sizeOf3
 v3 := Try.zeroValue3
 t4 := Try.underlying4
 a4 := Try.isAgg4
 z4 := Try.sizeOf4
 v4 := Try.zeroValue4
 t5 := Try.underlying5
 a5 := Try.isAgg5
 z5 := Try.sizeOf5
 v5 := Try.zeroValue5
 t9 := Try.underlying9
 a9 := Try.isAgg9
 z9 := Try.sizeOf9
 v9 := Try.zeroValue9
 t20 := Try.underlying20
 a20 := Try.isAgg20
 z20 := Try.sizeOf20
 v20 := Try.zeroValue20
 t37 := Try.underlying67
 a37 := Try.isAgg67
 z37 := Try.sizeOf67
 v37 := Try.zeroValue67
 t46 := Try.underlying70
 a46 := Try.isAgg70
 z46 := Try.sizeOf70
 v46 := Try.zeroValue70
 t51 := Try.underlying92
 a51 := Try.isAgg92
 z51 := Try.sizeOf92
 v51 := Try.zeroValue92
 t53 := Try.underlying95
 a53 := Try.isAgg95
 z53 := Try.sizeOf95
 v53 := Try.zeroValue95
 t70 := Try.underlying74
 a70 := Try.isAgg74
 z70 := Try.sizeOf74
 v70 := Try.zeroValue74
 t72 := Try.underlying76
 a72 := Try.isAgg76
 z72 := Try.sizeOf76
 v72 := Try.zeroValue76
 t75 := Try.underlying78
 a75 := Try.isAgg78
 z75 := Try.sizeOf78
 v75 := Try.zeroValue78
 t76 := Try.underlying79
 a76 := Try.isAgg79
 z76 := Try.sizeOf79
 v76 := Try.zeroValue79
 t109 := Try.underlying71
 a109 := Try.isAgg71
 z109 := Try.sizeOf71
 v109 := Try.zeroValue71
 t127 := Try.underlying98
 a127 := Try.isAgg98
 z127 := Try.sizeOf98
 v127 := Try.zeroValue98
 t146 := Try.underlying93
 a146 := Try.isAgg93
 z146 := Try.sizeOf93
 v146 := Try.zeroValue93
 t148 := Try.underlying96
 a148 := Try.isAgg96
 z148 := Try.sizeOf96
 v148 := Try.zeroValue96
 t164 := Try.underlying109
 a164 := Try.isAgg109
 z164 := Try.sizeOf109
 v164 := Try.zeroValue109
theorem extra105 : Builder.Extra Try.prog ren105 where
 sizeBuilder := by kernel_rfl
 liesBuilder := by kernel_rfl
 t5 := Try.underlying5
 a5 := Try.isAgg5
 z5 := Try.sizeOf5
 v5 := Try.zeroValue5
 infoByte := by kernel_rfl
 cellsByte := by kernel_rfl
 sizeByte := by kernel_rfl
 neB5 := by decide
end Go.Proofs.Ytefjgoeabfgkmaa
namespace Go.Proofs.Ytefjgoeabfgkmaa
set_option linter.unusedSimpArgs false
set_option linter.unusedVariables false
open Go.RowKit V
def repS (s : ByteArray) (c : Nat) : ByteArray := ⟨(Lib.repeatL s.data.toList c).toArray⟩
theorem repS_size (s : ByteArray) (c : Nat) : (repS s c).size = c * s.size := by unfold repS; rw [bA_size, Lib.repeatL_length, toList_len]
theorem Repeat_p (s : ByteArray) (c : Nat) (hc : s.size * c ≤ 140737488355328) (hc2 : c ≤ 9223372036854775807) : PureF Try.prog 11 #[.string s, .int .i64 c] (.string (repS s c)) := fun w =>
 Any.strings_Repeat lays105 extra105 s c w hc2 hc
end Go.Proofs.Ytefjgoeabfgkmaa
namespace Go.Proofs.Ytefjgoeabfgkmaa
set_option linter.unusedSimpArgs false
set_option linter.unusedVariables false
open Go.RowKit Go.WideShapes Go.ChangeShapes
namespace V
section
variable {H : Type} {enc : TypeId × Value → H} {P : Program}
theorem post_of_below {f : Func} {s : ChangeSpec} {apart fresh handsOn again : Bool} {W W' : World} {args : Array Value} {v : Value} {ds gs : List (DataW H)} {before pa pv : List MemPlace}
  (hW : DataW.Whole enc P f.params.toList s.vars apart W args.toList ds gs before)
  (hres : ∀ (b : Nat) (sp : Nat → Bool) (hd : Bool), DataW.TrodAll enc P W' b sp hd f.resultTypes.toList (v.resultList f.resultTypes.size) (s.fn H (ds ++ gs)).results [])
  (hargs : ∀ sp : Nat → Bool, (∀ p ∈ before, sp p.block = true) → DataW.TrodAll enc P W' 0 sp true f.params.toList args.toList (s.fn H (ds ++ gs)).args pa)
  (hvars : ∀ sp : Nat → Bool, (∀ p ∈ before, sp p.block = true) → DataW.TrodVars enc P W' sp s.vars (s.fn H (ds ++ gs)).vars pv)
  (hps : before = pa ++ pv) (hb : Ext W W')
  (hok : ∀ (j : Nat) (t : TypeId) (r : Value), f.resultTypes[j]? = some t → (v.resultList f.resultTypes.size)[j]? = some r → Value.okWide P W' .any 0 t r) :
  s.post enc P f apart fresh handsOn again W args v W' := by
 have hlt : ∀ p ∈ before, p.block < W.heap.size := fun p hp => hW.lt p hp
 have hold : ∀ p ∈ before, (fun b => decide (b < W.heap.size)) p.block = true := fun p hp => by simpa using hlt p hp
 refine ⟨ds, gs, before, [], pa, pv, hW, hres _ _ _, hargs _ hold, hvars _ hold, World.keptBut_mono (fun p hp => ⟨hp, ?_⟩) (Below.frame hb (· ∈ before)), fun _ => ?_⟩
 ·rw [hps, List.mem_append] at hp
  exact Or.inr hp
 ·obtain ⟨_, _, _, _, _, hz, hn⟩ := hW
  refine ⟨hok, _, _, ([] ++ pa) ++ pv, ⟨[] ++ pa, pv, trodAll_append (hargs _ (fun _ _ => rfl)) (hres _ _ _), hvars _ (fun _ _ => rfl), rfl, ?_, ?_⟩, ?_⟩
  ·intro b off hp
   have hin : MemPlace.cell b off ∈ before := by rw [hps]; simpa using hp
   rw [Below.frozen hb (hlt _ hin)]
   exact hz b off hin
  ·intro ha
   have := hn ha
   rw [hps] at this
   simpa using this
  ·intro p hp _
   rw [hps]
   simpa using hp
end
end V
end Go.Proofs.Ytefjgoeabfgkmaa
namespace Go.Proofs.Ytefjgoeabfgkmaa
set_option linter.unusedSimpArgs false
set_option linter.unusedVariables false
open Go.RowKit Go.WideShapes Go.ChangeShapes
namespace V
/-- The shape of a datum: what its cells hold. 'ag': a struct or an array, by 'nil' and 'cons'. -/
inductive Sh where
 | bool | int (k : IntKind) | str | sl (e : Sh) | ag (s : Sh) | nil | cons (a b : Sh)
def Sh.n : Sh → Nat
 | .bool | .int _ | .str | .sl _ => 1
 | .ag s => s.n
 | .nil => 0
 | .cons a b => a.n + b.n
def Sh.isL : Sh → Bool
 | .nil | .cons _ _ => true
 | _ => false
/-- A slice that reads as a list of rows of so many cells. -/
def SLn (w : World) (size : Nat) (v : Value) (xs : List (List Value)) : Prop :=
 (v = .slice none 0 0 ∧ xs = []) ∨ (∃ a c, v = .slice a 0 c ∧ xs = []) ∨
 ∃ g off c, v = .slice (some ⟨g, off, none⟩) xs.length c ∧ xs.length ≤ c ∧ c ≤ maxLen ∧ ∀ (j : Nat) (x : List Value), xs[j]? = some x → x.length = size ∧ ∀ (i : Nat) (y : Value), x[i]? = some y → w.cell? ⟨g, off + (j * size + i), none⟩ = some y
def Rd (w : World) : Sh → List Value → Prop
 | .bool, cs => ∃ b, cs = [.bool b]
 | .int k, cs => ∃ n, cs = [.int k n] ∧ (Lit.int k n).wf = true
 | .str, cs => ∃ s : ByteArray, cs = [.string s] ∧ s.size ≤ maxLen
 | .sl e, cs => ∃ (v : Value) (xs : List (List Value)), cs = [v] ∧ SLn w e.n v xs ∧ ∀ x ∈ xs, Rd w e x
 | .ag s, cs => Rd w s cs
 | .nil, cs => cs = []
 | .cons a b, cs => ∃ x y, cs = x ++ y ∧ Rd w a x ∧ Rd w b y
theorem Rd.len {w : World} : ∀ (s : Sh) {cs : List Value}, Rd w s cs → cs.length = s.n
 | .bool, _, ⟨_, h⟩ => by rw [h]; rfl
 | .int _, _, ⟨_, h, _⟩ => by rw [h]; rfl
 | .str, _, ⟨_, h, _⟩ => by rw [h]; rfl
 | .sl _, _, ⟨_, _, h, _⟩ => by rw [h]; rfl
 | .ag s, _, h => by have h' : Rd w s _ := h; rw [Rd.len s h']; rfl
 | .nil, _, h => by have h' : _ = [] := h; rw [h']; rfl
 | .cons a b, _, ⟨x, y, h, h1, h2⟩ => by rw [h, List.length_append, Rd.len a h1, Rd.len b h2]; rfl
/-- The shape is the type's; for 'nil' and 'cons': the list's of places and types, from a place on. -/
def shOk (P : Program) : Sh → Nat → List (Nat × Nat) → Nat → Bool
 | .bool, t, _, _ => (match P.underlying t with | some .bool => true | _ => false)
 | .int k, t, _, _ => (match P.underlying t with | some (.int k') => decide (k = k') | _ => false)
 | .str, t, _, _ => (match P.underlying t with | some .string => true | _ => false)
 | .sl e, t, _, _ => (match P.underlying t with | some (.slice u) => Nat.beq (P.cellsOf u) e.n && Nat.blt 0 e.n && shOk P e u [] 0 | _ => false)
 | .ag s, t, _, _ => s.isL && Nat.beq (P.cellsOf t) s.n && (match P.underlying t with
  | some (.struct fs) => shOk P s 0 (fs.toList.map fun f => (f.offset, f.type)) 0
  | some (.array n e) => shOk P s 0 ((List.range n).map fun i => (i * P.cellsOf e, e)) 0
  | _ => false)
 | .nil, _, [], _ => true
 | .nil, _, _ :: _, _ => false
 | .cons _ _, _, [], _ => false
 | .cons a b, _, (o, t) :: r, off => Nat.beq o off && Nat.beq (P.cellsOf t) a.n && shOk P a t [] 0 && (b.isL && shOk P b 0 r (off + a.n))
section
variable {H : Type} {enc : TypeId × Value → H} {P : Program} {w : World}
end
end V
end Go.Proofs.Ytefjgoeabfgkmaa
namespace Go.Proofs.Ytefjgoeabfgkmaa
set_option linter.unusedSimpArgs false
set_option linter.unusedVariables false
open Go.RowKit Go.WideShapes Go.ChangeShapes
namespace V
def litOf : Value → Lit
 | .bool b => .bool b
 | .int k n => .int k n
 | .string s => .string s.data.toList
 | _ => .bool false
def Sh.noSl : Sh → Bool
 | .sl _ => false
 | .ag s => s.noSl
 | .cons a b => !a.isL && a.noSl && b.noSl
 | _ => true
def Sh.dep : Sh → Nat
 | .ag s => s.dep + 1
 | .cons a b => max a.dep b.dep
 | _ => 1
section
variable {P : Program} {w : World}
theorem lits_aux : ∀ (s : Sh), s.noSl = true →
  (∀ (t m D : Nat) (cs : List Value), shOk P s t [] 0 = true → s.isL = false → P.keyTypeAt m t = true → s.dep ≤ D → Rd w s cs → P.keyLits D t cs = some (cs.map litOf)) ∧
  (∀ (l : List (Nat × Nat)) (off m D : Nat) (cs : List Value), shOk P s 0 l off = true → s.isL = true → (∀ p ∈ l, P.keyTypeAt m p.2 = true) → s.dep ≤ D → Rd w s (cs.drop off) → off ≤ cs.length →
   ∃ LL : List (List Lit), l.mapM (fun p => P.keyLits D p.2 ((cs.drop p.1).take (P.cellsOf p.2))) = some LL ∧ LL.flatten = (cs.drop off).map litOf) := by
 intro s
 induction s with
 | bool =>
  refine fun _ => ⟨fun t m D cs h _ _ hD hr => ?_, fun _ _ _ _ _ _ h => by cases h⟩
  obtain ⟨b, rfl⟩ := hr
  obtain ⟨D, rfl⟩ : ∃ d, D = d + 1 := ⟨D - 1, by simp [Sh.dep] at hD; omega⟩
  simp only [shOk] at h
  split at h <;> try cases h
  rename_i ht
  simp [Program.keyLits, ht, litOf]
 | int k =>
  refine fun _ => ⟨fun t m D cs h _ _ hD hr => ?_, fun _ _ _ _ _ _ h => by cases h⟩
  obtain ⟨b, rfl, hw⟩ := hr
  obtain ⟨D, rfl⟩ : ∃ d, D = d + 1 := ⟨D - 1, by simp [Sh.dep] at hD; omega⟩
  simp only [shOk] at h
  split at h <;> try cases h
  rename_i k' ht
  have h := of_decide_eq_true h
  subst h
  simp [Program.keyLits, ht, litOf, hw]
 | str =>
  refine fun _ => ⟨fun t m D cs h _ _ hD hr => ?_, fun _ _ _ _ _ _ h => by cases h⟩
  obtain ⟨b, rfl, hw⟩ := hr
  obtain ⟨D, rfl⟩ : ∃ d, D = d + 1 := ⟨D - 1, by simp [Sh.dep] at hD; omega⟩
  simp only [shOk] at h
  split at h <;> try cases h
  rename_i ht
  simp [Program.keyLits, ht, litOf, hw]
 | sl e ih => intro h; cases h
 | ag s ih =>
  intro hn
  have ih := ih hn
  refine ⟨fun t m D cs h _ hk hD hr => ?_, fun _ _ _ _ _ _ h => by cases h⟩
  have hr : Rd w s cs := hr
  have hlen := Rd.len s hr
  obtain ⟨D, rfl⟩ : ∃ d, D = d + 1 := ⟨D - 1, by simp [Sh.dep] at hD; omega⟩
  have hD : s.dep ≤ D := by simp [Sh.dep] at hD; omega
  simp only [shOk, Bool.and_eq_true] at h
  obtain ⟨⟨hL, hc⟩, h⟩ := h
  have hc := Nat.eq_of_beq_eq_true hc
  cases m with
  | zero => simp [Program.keyTypeAt] at hk
  | succ m =>
   split at h
   ·rename_i fs ht
    simp only [Program.keyTypeAt, ht, Bool.and_eq_true, Array.all_eq_true'] at hk
    obtain ⟨⟨hall, _⟩, _⟩ := hk
    obtain ⟨LL, h1, h2⟩ := ih.2 _ 0 m D cs h hL (by
     intro p hp
     obtain ⟨f, hf, rfl⟩ := List.mem_map.1 hp
     exact (hall f (by simpa using hf)).2) hD (by simpa using hr) (Nat.zero_le _)
    rw [List.mapM_map] at h1
    have hnm : fs.all (·.name != "_") = true := by rw [Array.all_eq_true']; intro f hf; exact (hall f hf).1
    simp only [Program.keyLits, ht]
    rw [if_pos ⟨by omega, hnm⟩]
    simp only [Function.comp_def] at h1
    rw [h1]
    simpa using h2
   ·rename_i n e ht
    simp only [Program.keyTypeAt, ht] at hk
    obtain ⟨LL, h1, h2⟩ := ih.2 _ 0 m D cs h hL (by
     intro p hp
     obtain ⟨i, _, rfl⟩ := List.mem_map.1 hp
     exact hk) hD (by simpa using hr) (Nat.zero_le _)
    rw [List.mapM_map] at h1
    simp only [Program.keyLits, ht]
    rw [if_pos (by omega)]
    simp only [Function.comp_def] at h1
    rw [h1]
    simpa using h2
   ·cases h
 | nil =>
  refine fun _ => ⟨fun _ _ _ _ _ h => (by cases h), fun l off m D cs h _ _ _ hr _ => ?_⟩
  cases l with
  | nil =>
   have hr : cs.drop off = [] := hr
   exact ⟨[], by simp, by rw [hr]; rfl⟩
  | cons => simp [shOk] at h
 | cons a b iha ihb =>
  intro hn
  simp only [Sh.noSl, Bool.and_eq_true] at hn
  have haL : a.isL = false := by simpa using hn.1.1
  have iha := iha hn.1.2
  have ihb := ihb hn.2
  refine ⟨fun _ _ _ _ _ h => (by cases h), fun l off m D cs h _ hk hD hr ho => ?_⟩
  cases l with
  | nil => simp [shOk] at h
  | cons p r =>
   obtain ⟨o, t⟩ := p
   simp only [shOk, Bool.and_eq_true] at h
   obtain ⟨⟨⟨ho', hc⟩, ha⟩, hL, hb⟩ := h
   have ho' := Nat.eq_of_beq_eq_true ho'
   have hc := Nat.eq_of_beq_eq_true hc
   subst ho'
   simp only [Sh.dep] at hD
   obtain ⟨x, y, hxy, hx, hy⟩ := hr
   have hxl := Rd.len a hx
   have hcl : cs.length = o + (x.length + y.length) := by
    have := congrArg List.length hxy
    rw [List.length_drop, List.length_append] at this; omega
   have hdr : cs.drop (o + a.n) = y := by rw [← List.drop_drop, hxy, ← hxl, List.drop_left]
   obtain ⟨LL, h1, h2⟩ := ihb.2 r (o + a.n) m D cs hb hL (fun p hp => hk p (List.mem_cons_of_mem _ hp)) (by omega) (by rw [hdr]; exact hy) (by omega)
   have hlit := iha.1 t m D x ha haL (hk (o, t) List.mem_cons_self) (by omega) hx
   refine ⟨x.map litOf :: LL, ?_, ?_⟩
   ·rw [List.mapM_cons]
    have e : (cs.drop o).take (P.cellsOf t) = x := by rw [hxy, hc, ← hxl, List.take_left]
    simp only [e, hlit, h1]
    rfl
   ·rw [List.flatten_cons, h2, hdr, hxy, List.map_append]
theorem litOf_inj {w w' : World} : ∀ (s : Sh), s.noSl = true → ∀ (cs ds : List Value), Rd w s cs → Rd w' s ds → cs.map litOf = ds.map litOf → cs = ds := by
 intro s
 induction s with
 | bool => rintro _ _ _ ⟨a, rfl⟩ ⟨b, rfl⟩ h; simpa [litOf] using h
 | int k => rintro _ _ _ ⟨a, rfl, _⟩ ⟨b, rfl, _⟩ h; simpa [litOf] using h
 | str =>
  rintro _ _ _ ⟨a, rfl, _⟩ ⟨b, rfl, _⟩ h
  simp [litOf] at h
  have : a = b := by cases a; cases b; simp at h; subst h; rfl
  rw [this]
 | sl e ih => intro h; cases h
 | ag s ih => intro h cs ds hc hd he; exact ih h cs ds hc hd he
 | nil => intro _ cs ds hc hd _; exact Eq.trans hc (Eq.symm hd)
 | cons a b iha ihb =>
  rintro hn _ _ ⟨x, y, rfl, hx, hy⟩ ⟨x', y', rfl, hx', hy'⟩ he
  simp only [Sh.noSl, Bool.and_eq_true] at hn
  rw [List.map_append, List.map_append] at he
  have hl : (x.map litOf).length = (x'.map litOf).length := by simp [Rd.len a hx, Rd.len a hx']
  obtain ⟨h1, h2⟩ := List.append_inj he hl
  rw [iha hn.1.2 x x' hx hx' h1, ihb hn.2 y y' hy hy' h2]
/-- the check of a type that may be compared so -/
def cmpOk (P : Program) (t m : Nat) (s : Sh) : Bool := shOk P (.ag s) t [] 0 && P.keyTypeAt m t && Nat.ble m 10000 && s.noSl && !P.eqGuardType P.depth t
theorem run_eq_agg {t m : Nat} {s : Sh} (hk : cmpOk P t m s = true) {w0 w1 : World} {cs ds : List Value} (hc : Rd w0 s cs) (hd : Rd w1 s ds) (xo yo : Operand) :
  ∃ r : Bool, (r = true ↔ cs = ds) ∧ (∀ w, (do eqGuard .eql t xo yo (.agg cs.toArray) (.agg ds.toArray); binOp .eql t (.agg cs.toArray) (.agg ds.toArray) : Sem Value).run P w = .ok (.bool r) w) ∧
   (∀ w, (do eqGuard .neq t xo yo (.agg cs.toArray) (.agg ds.toArray); binOp .neq t (.agg cs.toArray) (.agg ds.toArray) : Sem Value).run P w = .ok (.bool (!r)) w) := by
 classical
 simp only [cmpOk, Bool.and_eq_true, Bool.not_eq_true'] at hk
 obtain ⟨⟨⟨⟨hs, hkt⟩, hm⟩, hn⟩, hg⟩ := hk
 have hm : m ≤ 10000 := Nat.le_of_ble_eq_true hm
 have form : ∀ zs : List Value, Rd w0 s zs ∨ Rd w1 s zs → (Value.agg zs.toArray).formed P t = true := by
  intro zs hz
  have hl : zs.length = s.n := by rcases hz with h | h <;> exact Rd.len s h
  simp only [shOk, Bool.and_eq_true] at hs
  obtain ⟨⟨_, hcn⟩, hu⟩ := hs
  have hcn := Nat.eq_of_beq_eq_true hcn
  unfold Value.formed
  split at hu
  ·rename_i fs ht; simp [ht, hl, hcn]
  ·rename_i n e ht; simp [ht, hl, hcn]
  ·cases hu
 have l1 := (lits_aux (P := P) (w := w0) (.ag s) hn).1 t m (Sh.ag s).dep cs hs rfl hkt (Nat.le_refl _) hc
 have l2 := (lits_aux (P := P) (w := w1) (.ag s) hn).1 t m (Sh.ag s).dep ds hs rfl hkt (Nat.le_refl _) hd
 have key := fun w => run_equalIn_deep (P := P) (10000 - m) m t hkt w _ _ (.agg cs.toArray) (.agg ds.toArray) _ _ (form cs (.inl hc)) (form ds (.inr hd)) (by simpa [Value.cells] using l1) (by simpa [Value.cells] using l2)
 rw [show 10000 - m + m = 10000 by omega] at key
 refine ⟨decide (cs.map litOf = ds.map litOf), ?_, fun w => ?_, fun w => ?_⟩
 ·rw [decide_eq_true_iff]
  exact ⟨litOf_inj s hn cs ds hc hd, fun h => by rw [h]⟩
 ·obtain ⟨r, hr, hri⟩ := key w
  have : r = decide (cs.map litOf = ds.map litOf) := by rw [Bool.eq_iff_iff, hri, decide_eq_true_iff]
  rw [Sem.run_bind, run_eqGuard_agg _ _ _ _ _ _ _ hg]
  simp only [Result.andThen]
  rw [run_eql_struct, hr, this]
  rfl
 ·obtain ⟨r, hr, hri⟩ := key w
  have : r = decide (cs.map litOf = ds.map litOf) := by rw [Bool.eq_iff_iff, hri, decide_eq_true_iff]
  rw [Sem.run_bind, run_eqGuard_agg _ _ _ _ _ _ _ hg]
  simp only [Result.andThen]
  rw [run_neq_struct, hr, this]
  rfl
end
end V
end Go.Proofs.Ytefjgoeabfgkmaa
namespace Go.Proofs.Ytefjgoeabfgkmaa
set_option linter.unusedSimpArgs false
set_option linter.unusedVariables false
open Go.RowKit V

/-- a word turned up by one, by k -/
def rot1 (x : Nat) : Nat := if 2 * x ≥ 4294967296 then 2 * x - 4294967296 + 1 else 2 * x
def rotk : Nat → Nat → Nat
 | x, 0 => x
 | x, k+1 => rot1 (rotk x k)
theorem rot1_lt (x : Nat) (h : x < 4294967296) : rot1 x < 4294967296 := by unfold rot1; split <;> omega
theorem rotk_lt (x k : Nat) (h : x < 4294967296) : rotk x k < 4294967296 := by
 induction k with
 | zero => exact h
 | succ k ih => exact rot1_lt _ ih
def rotl (x k : Nat) : Nat := x * 2 ^ k % 4294967296 + x / 2 ^ (32 - k)
theorem rot_step (A C x : Nat) (hAC : A * C = 2147483648) (hx : x < 4294967296) :
  rot1 (x * A % 4294967296 + x / (2 * C)) = x * (2 * A) % 4294967296 + x / C := by
 have hC : 0 < C := Nat.pos_of_ne_zero (by rintro rfl; simp at hAC)
 have hA : 0 < A := Nat.pos_of_ne_zero (by rintro rfl; simp at hAC)
 obtain ⟨q, hq⟩ : ∃ q, x / (2 * C) = q := ⟨_, rfl⟩
 obtain ⟨r, hr⟩ : ∃ r, x % (2 * C) = r := ⟨_, rfl⟩
 have hxe : x = 2 * C * q + r := by rw [← hq, ← hr]; exact (Nat.div_add_mod _ _).symm
 have hr2 : r < 2 * C := by rw [← hr]; exact Nat.mod_lt _ (by omega)
 obtain ⟨b, hb⟩ : ∃ b, r / C = b := ⟨_, rfl⟩
 obtain ⟨s, hs⟩ : ∃ s, r % C = s := ⟨_, rfl⟩
 have hre : r = C * b + s := by rw [← hb, ← hs]; exact (Nat.div_add_mod _ _).symm
 have hs2 : s < C := by rw [← hs]; exact Nat.mod_lt _ hC
 have hb2 : b < 2 := by rw [← hb]; exact Nat.div_lt_of_lt_mul (by rw [Nat.mul_comm]; exact hr2)
 have hxC : x / C = 2 * q + b := by
  rw [hxe, hre, show 2 * C * q + (C * b + s) = s + C * (2 * q + b) by rw [Nat.mul_add, ← Nat.mul_assoc, Nat.mul_comm C 2]; omega, Nat.add_mul_div_left _ _ hC, Nat.div_eq_of_lt hs2]; omega
 have hCA : C * A = 2147483648 := by rw [Nat.mul_comm]; exact hAC
 have e1 : x * A = 4294967296 * q + (2147483648 * b + s * A) := by
  have h1 : 2 * C * q * A = 4294967296 * q := by
   rw [show 2 * C * q * A = 2 * (C * A) * q by rw [Nat.mul_assoc, Nat.mul_comm q A, ← Nat.mul_assoc, Nat.mul_assoc 2 C A], hCA]
  have h2 : C * b * A = 2147483648 * b := by rw [Nat.mul_assoc, Nat.mul_comm b A, ← Nat.mul_assoc, hCA]
  rw [hxe, hre, Nat.add_mul, Nat.add_mul, h1, h2]
 have hsA : s * A + A ≤ 2147483648 := by
  rw [← hCA, ← Nat.succ_mul]; exact Nat.mul_le_mul_right _ hs2
 have hqA : q < A := by
  by_cases h : q < A
  ·exact h
  ·exfalso
   have : 2 * C * A ≤ 2 * C * q := Nat.mul_le_mul_left _ (by omega)
   rw [Nat.mul_assoc, hCA] at this; omega
 have e2 : x * (2 * A) = 2 * (x * A) := by rw [Nat.mul_left_comm]
 rw [hxC, e2, e1, hq]
 generalize s * A = u at *
 unfold rot1
 rcases (show b = 0 ∨ b = 1 by omega) with rfl | rfl
 ·rw [if_neg (by omega)]; omega
 ·rw [if_pos (by omega)]; omega
theorem rotk_eq (x : Nat) (h : x < 4294967296) : ∀ k, k ≤ 31 → rotk x k = rotl x k
 | 0, _ => by simp only [rotk, rotl]; omega
 | k+1, hk => by
  rw [rotk, rotk_eq x h k (by omega)]
  have := rot_step (2 ^ k) (2 ^ (31 - k)) x (by rw [← Nat.pow_add, show k + (31 - k) = 31 by omega]) h
  rw [show 2 * 2 ^ (31 - k) = 2 ^ (32 - k) by rw [← Nat.pow_succ', show (31 - k).succ = 32 - k by omega]] at this
  unfold rotl
  rw [this, Nat.pow_succ', show 32 - (k + 1) = 31 - k by omega]
theorem rotl_lt (x k : Nat) (h : x < 4294967296) (hk : k ≤ 31) : rotl x k < 4294967296 := by rw [← rotk_eq x h k hk]; exact rotk_lt _ _ h

/-! the quarter round, on lists of words -/
def gw (ws : List Nat) (i : Nat) : Nat := ws.getD i 0
def Words (ws : List Nat) : Prop := ws.length = 16 ∧ ∀ x ∈ ws, x < 4294967296
theorem Words.get {ws : List Nat} (h : Words ws) (i : Nat) : gw ws i < 4294967296 := by
 unfold gw
 rw [List.getD_eq_getElem?_getD]
 cases hi : ws[i]? with
 | none => simp
 | some x => exact h.2 x (List.mem_of_getElem? hi)
theorem Words.set {ws : List Nat} (h : Words ws) (i x : Nat) (hx : x < 4294967296) : Words (ws.set i x) :=
 ⟨by simpa using h.1, fun y hy => by
  rcases List.mem_or_eq_of_mem_set hy with h1 | h1
  ·exact h.2 y h1
  ·omega⟩
end Go.Proofs.Ytefjgoeabfgkmaa
