/- Drawn regions where two operations that make things may come in either order. Own work. No program is named here. -/
import Derived.Test.YtejphmgpndgliaaX2
namespace Go.Proofs.Ytejphmgpndgliaa
set_option linter.unusedSimpArgs false
set_option linter.unusedVariables false
open Go.RowKit
namespace V
/-- q: a quiet operation; m: one that makes things; br: two such, in either order -/
inductive MT where
  | nil
  | q (i : Nat) (r : MT)
  | m (i : Nat) (r : MT)
  | br (i j : Nat) (r s : MT)
  | br3 (i j k : Nat) (r s t : MT)
  | br4 (i j k m : Nat) (r s t u : MT)
def MT.len : MT → Nat
  | .nil => 0
  | .q _ r => r.len + 1
  | .m _ r => r.len + 1
  | .br _ _ r _ => r.len + 1
  | .br3 _ _ _ r _ _ => r.len + 1
  | .br4 _ _ _ _ r _ _ _ => r.len + 1
section
variable {P : Program} {md : Region.Mode} {ops : Array Oper}
def mtB (md : Region.Mode) (ops : Array Oper) (n : Nat) (base : Array Bool → Bool) : MT → Array Bool → Bool
  | .nil, done => base done
  | .q i r, done => decide (i < n) && (Region.ready md ops done).contains i && Region.free md ops done i && mtB md ops n base r (done.setIfInBounds i true)
  | .m i r, done => decide (i < n) && decide (Region.ready md ops done = [i]) && mtB md ops n base r (done.setIfInBounds i true)
  | .br i j r s, done => decide (i < n) && decide (j < n) && decide (Region.ready md ops done = [i, j]) && Nat.beq r.len s.len && mtB md ops n base r (done.setIfInBounds i true) && mtB md ops n base s (done.setIfInBounds j true)
  | .br3 i j k r s t, done => decide (i < n) && decide (j < n) && decide (k < n) && decide (Region.ready md ops done = [i, j, k]) && Nat.beq r.len s.len && Nat.beq r.len t.len && mtB md ops n base r (done.setIfInBounds i true) && mtB md ops n base s (done.setIfInBounds j true) && mtB md ops n base t (done.setIfInBounds k true)
  | .br4 i j k m r s t u, done => decide (i < n) && decide (j < n) && decide (k < n) && decide (m < n) && decide (Region.ready md ops done = [i, j, k, m]) && Nat.beq r.len s.len && Nat.beq r.len t.len && Nat.beq r.len u.len && mtB md ops n base r (done.setIfInBounds i true) && mtB md ops n base s (done.setIfInBounds j true) && mtB md ops n base t (done.setIfInBounds k true) && mtB md ops n base u (done.setIfInBounds m true)
def actMt (P : Program) (ops : Array Oper) (Lq : Act → World → Prop) : MT → Act → World → Prop
  | .nil, a, w => ∀ w1, Ext w w1 → Lq a w1
  | .q i r, a, w => ∃ o, ops[i]? = some o ∧ ∃ v, YG P ops o v a w ∧ actMt P ops Lq r (a.put o.dst v) w
  | .m i r, a, w => ∀ w1, Ext w w1 → okOp P ops i (fun a' w2 => Ext w1 w2 ∧ actMt P ops Lq r a' w2) a w1
  | .br i j r s, a, w => (∀ w1, Ext w w1 → okOp P ops i (fun a' w2 => Ext w1 w2 ∧ actMt P ops Lq r a' w2) a w1) ∧ (∀ w1, Ext w w1 → okOp P ops j (fun a' w2 => Ext w1 w2 ∧ actMt P ops Lq s a' w2) a w1)
  | .br3 i j k r s t, a, w => (∀ w1, Ext w w1 → okOp P ops i (fun a' w2 => Ext w1 w2 ∧ actMt P ops Lq r a' w2) a w1) ∧ (∀ w1, Ext w w1 → okOp P ops j (fun a' w2 => Ext w1 w2 ∧ actMt P ops Lq s a' w2) a w1) ∧ (∀ w1, Ext w w1 → okOp P ops k (fun a' w2 => Ext w1 w2 ∧ actMt P ops Lq t a' w2) a w1)
  | .br4 i j k m r s t u, a, w => (∀ w1, Ext w w1 → okOp P ops i (fun a' w2 => Ext w1 w2 ∧ actMt P ops Lq r a' w2) a w1) ∧ (∀ w1, Ext w w1 → okOp P ops j (fun a' w2 => Ext w1 w2 ∧ actMt P ops Lq s a' w2) a w1) ∧ (∀ w1, Ext w w1 → okOp P ops k (fun a' w2 => Ext w1 w2 ∧ actMt P ops Lq t a' w2) a w1) ∧ (∀ w1, Ext w w1 → okOp P ops m (fun a' w2 => Ext w1 w2 ∧ actMt P ops Lq u a' w2) a w1)
theorem headG_mt {n : Nat} {base : Array Bool → Bool} {Lq : Act → World → Prop} {Inv : Array Bool → Prop} (hsel : Region.noSelect ops = true)
    (hW : ∀ done i, Inv done → i < n → done.getD i true = false → ∀ j ∈ Region.ready md ops done, j < n) (hI : ∀ done i, Inv done → i ∈ Region.ready md ops done → i < n → Inv (done.setIfInBounds i true))
    (hbase : ∀ done, base done = true → ∀ j ∈ Region.ready md ops done, n ≤ j) :
    ∀ (r : MT) (done : Array Bool) (a : Act) (w : World), Inv done → mtB md ops n base r done = true → actMt P ops Lq r a w →
      headG P md ops n (fun done a w => base done = true ∧ Lq a w) r.len done a w
  | .nil, done, a, w, _, hB, h => fun w1 hx => ⟨hB, h w1 hx⟩
  | .q i r, done, a, w, inv, hB, h => by
    simp only [mtB, Bool.and_eq_true, decide_eq_true_eq] at hB
    obtain ⟨⟨⟨hin, hr⟩, hf⟩, hB'⟩ := hB
    obtain ⟨o, ho, v, hy, hk⟩ := h
    have hr' : i ∈ Region.ready md ops done := by simpa using hr
    exact headG_take ho (Region.noSelect_spec hsel) hW hI hin (fun done a w hL => hbase done hL.1) r.len done a w inv (Region.free_spec ho hf) hr' hy
      (headG_mt hsel hW hI hbase r _ _ _ (hI _ _ inv hr' hin) hB' hk)
  | .m i r, done, a, w, inv, hB, h => by
    simp only [mtB, Bool.and_eq_true, decide_eq_true_eq] at hB
    obtain ⟨⟨hin, hr⟩, hB'⟩ := hB
    intro w1 hx
    have hri : i ∈ Region.ready md ops done := by rw [hr]; simp
    refine ⟨by rw [hr]; simp, fun j hj => ?_⟩
    rw [hr] at hj
    obtain rfl : j = i := by simpa using hj
    exact ⟨hin, okOp_mono (fun a' w2 h2 => ⟨h2.1, headG_mt hsel hW hI hbase r _ _ _ (hI _ _ inv hri hin) hB' h2.2⟩) (h w1 hx)⟩
  | .br i j r s, done, a, w, inv, hB, h => by
    simp only [mtB, Bool.and_eq_true, decide_eq_true_eq] at hB
    obtain ⟨⟨⟨⟨⟨hin, hjn⟩, hr⟩, hl⟩, hB1⟩, hB2⟩ := hB
    have hl : r.len = s.len := by simpa using hl
    intro w1 hx
    have hri : i ∈ Region.ready md ops done := by rw [hr]; simp
    have hrj : j ∈ Region.ready md ops done := by rw [hr]; simp
    refine ⟨by rw [hr]; simp, fun k hk => ?_⟩
    rw [hr] at hk
    have hk : k = i ∨ k = j := by simpa using hk
    rcases hk with rfl | rfl
    · exact ⟨hin, okOp_mono (fun a' w2 h2 => ⟨h2.1, headG_mt hsel hW hI hbase r _ _ _ (hI _ _ inv hri hin) hB1 h2.2⟩) (h.1 w1 hx)⟩
    · refine ⟨hjn, okOp_mono (fun a' w2 h2 => ⟨h2.1, ?_⟩) (h.2 w1 hx)⟩
      have := headG_mt hsel hW hI hbase s _ _ _ (hI _ _ inv hrj hjn) hB2 h2.2
      rw [hl]; exact this
  | .br3 i j k r s t, done, a, w, inv, hB, h => by
    simp only [mtB, Bool.and_eq_true, decide_eq_true_eq] at hB
    obtain ⟨⟨⟨⟨⟨⟨⟨⟨hin, hjn⟩, hkn⟩, hr⟩, hl⟩, hl2⟩, hB1⟩, hB2⟩, hB3⟩ := hB
    have hl : r.len = s.len := by simpa using hl
    have hl2 : r.len = t.len := by simpa using hl2
    intro w1 hx
    have hri : i ∈ Region.ready md ops done := by rw [hr]; simp
    have hrj : j ∈ Region.ready md ops done := by rw [hr]; simp
    have hrk : k ∈ Region.ready md ops done := by rw [hr]; simp
    refine ⟨by rw [hr]; simp, fun q hq => ?_⟩
    rw [hr] at hq
    have hq : q = i ∨ q = j ∨ q = k := by simpa using hq
    rcases hq with rfl | rfl | rfl
    · exact ⟨hin, okOp_mono (fun a' w2 h2 => ⟨h2.1, headG_mt hsel hW hI hbase r _ _ _ (hI _ _ inv hri hin) hB1 h2.2⟩) (h.1 w1 hx)⟩
    · refine ⟨hjn, okOp_mono (fun a' w2 h2 => ⟨h2.1, ?_⟩) (h.2.1 w1 hx)⟩
      have := headG_mt hsel hW hI hbase s _ _ _ (hI _ _ inv hrj hjn) hB2 h2.2
      rw [hl]; exact this
    · refine ⟨hkn, okOp_mono (fun a' w2 h2 => ⟨h2.1, ?_⟩) (h.2.2 w1 hx)⟩
      have := headG_mt hsel hW hI hbase t _ _ _ (hI _ _ inv hrk hkn) hB3 h2.2
      rw [hl2]; exact this
  | .br4 i j k m r s t u, done, a, w, inv, hB, h => by
    simp only [mtB, Bool.and_eq_true, decide_eq_true_eq] at hB
    obtain ⟨⟨⟨⟨⟨⟨⟨⟨⟨⟨⟨hin, hjn⟩, hkn⟩, hmn⟩, hr⟩, hl⟩, hl2⟩, hl3⟩, hB1⟩, hB2⟩, hB3⟩, hB4⟩ := hB
    have hl : r.len = s.len := by simpa using hl
    have hl2 : r.len = t.len := by simpa using hl2
    have hl3 : r.len = u.len := by simpa using hl3
    intro w1 hx
    have hri : i ∈ Region.ready md ops done := by rw [hr]; simp
    have hrj : j ∈ Region.ready md ops done := by rw [hr]; simp
    have hrk : k ∈ Region.ready md ops done := by rw [hr]; simp
    have hrm : m ∈ Region.ready md ops done := by rw [hr]; simp
    refine ⟨by rw [hr]; simp, fun q hq => ?_⟩
    rw [hr] at hq
    have hq : q = i ∨ q = j ∨ q = k ∨ q = m := by simpa using hq
    rcases hq with rfl | rfl | rfl | rfl
    · exact ⟨hin, okOp_mono (fun a' w2 h2 => ⟨h2.1, headG_mt hsel hW hI hbase r _ _ _ (hI _ _ inv hri hin) hB1 h2.2⟩) (h.1 w1 hx)⟩
    · refine ⟨hjn, okOp_mono (fun a' w2 h2 => ⟨h2.1, ?_⟩) (h.2.1 w1 hx)⟩
      have := headG_mt hsel hW hI hbase s _ _ _ (hI _ _ inv hrj hjn) hB2 h2.2
      rw [hl]; exact this
    · refine ⟨hkn, okOp_mono (fun a' w2 h2 => ⟨h2.1, ?_⟩) (h.2.2.1 w1 hx)⟩
      have := headG_mt hsel hW hI hbase t _ _ _ (hI _ _ inv hrk hkn) hB3 h2.2
      rw [hl2]; exact this
    · refine ⟨hmn, okOp_mono (fun a' w2 h2 => ⟨h2.1, ?_⟩) (h.2.2.2 w1 hx)⟩
      have := headG_mt hsel hW hI hbase u _ _ _ (hI _ _ inv hrm hmn) hB4 h2.2
      rw [hl3]; exact this
theorem actMt_ext {Lq : Act → World → Prop} : ∀ (r : MT) (a : Act) (w w' : World), Ext w w' → actMt P ops Lq r a w → actMt P ops Lq r a w'
  | .nil, _, _, _, hx, h => fun w1 h1 => h w1 (hx.trans h1)
  | .q _ r, _, _, _, hx, ⟨o, ho, v, hy, hk⟩ => ⟨o, ho, v, hy.mono hx, actMt_ext r _ _ _ hx hk⟩
  | .m _ _, _, _, _, hx, h => fun w1 h1 => h w1 (hx.trans h1)
  | .br _ _ _ _, _, _, _, hx, h => ⟨fun w1 h1 => h.1 w1 (hx.trans h1), fun w1 h1 => h.2 w1 (hx.trans h1)⟩
  | .br3 _ _ _ _ _ _, _, _, _, hx, h => ⟨fun w1 h1 => h.1 w1 (hx.trans h1), fun w1 h1 => h.2.1 w1 (hx.trans h1), fun w1 h1 => h.2.2 w1 (hx.trans h1)⟩
  | .br4 _ _ _ _ _ _ _ _, _, _, _, hx, h => ⟨fun w1 h1 => h.1 w1 (hx.trans h1), fun w1 h1 => h.2.1 w1 (hx.trans h1), fun w1 h1 => h.2.2.1 w1 (hx.trans h1), fun w1 h1 => h.2.2.2 w1 (hx.trans h1)⟩
def mtT (ops : Array Oper) (n : Nat) (r : MT) : Bool :=
  Region.noSelect ops && decide (n < ops.size) && Region.sinkB .any ops n && Region.chainB .any ops n && mtB .any ops n (Region.seqB .any ops (ops.size - n) n) r (Array.replicate ops.size false) && Nat.beq r.len n
def mtA (ops : Array Oper) (r : MT) : Bool :=
  Region.noSelect ops && mtB .any ops ops.size (fun done => (Region.ready .any ops done).isEmpty) r (Array.replicate ops.size false)
theorem region_mtT {Q : Exit → Act → World → Prop} {a : Act} {w : World} {l : List Oper} (n : Nat) (r : MT) (hm : P.follows .mixedOrders = true) (hB : mtT l.toArray n r = true)
    (h : actMt P l.toArray (fun a' w' => wpList P l.toArray Q (l.drop n) a' w') r a w) (t : Nat) :
    wpOps P l.toArray Q (Region.schedule (P.follows .mixedOrders) l.toArray t) a { w with drawn := w.drawn + 1 } := by
  simp only [mtT, Bool.and_eq_true, decide_eq_true_eq] at hB
  obtain ⟨⟨⟨⟨⟨hsel, hn⟩, hs⟩, hc⟩, hmix⟩, hlen⟩ := hB
  have hlen : r.len = n := by simpa using hlen
  have hn' : n < l.length := by simpa using hn
  have inv0 : HeadInv .any l.toArray n (Array.replicate l.toArray.size false) :=
    ⟨by simp, fun j oj _ hl => (by rw [getD_replicate_false] at hl; cases hl), fun t _ ht => getD_in (by simpa using ht) (getD_replicate_false _ _)⟩
  have H := headG_mt (P := P) (md := .any) (Inv := HeadInv .any l.toArray n) hsel
    (fun done i inv hin hun j hj => Nat.lt_of_not_le fun h => absurd hj (tail_waits hs hc hn inv _ i rfl hin hun j h))
    (fun done i inv hi hin => inv.set hi hin) (fun done hb => seqB_ready hb) r _ a { w with drawn := w.drawn + 1 } inv0 hmix (actMt_ext r a w _ (Ext.refl w).drew h)
  refine any_ops hm ?_ t
  have key := any_of_headG (Q := Q) (g := l.toArray.size - n) (fun done a' w' hL => by
    have e : (l.drop n).length = l.toArray.size - n := by simp
    have := wpAny_of_seq (P := P) (md := .any) (ops := l.toArray) (Q' := Q) (l.drop n) n done a' w' (fun j => by simp) (by rw [e]; exact hL.1) hL.2
    rwa [e] at this) r.len _ a _ H
  have e2 : r.len + (l.toArray.size - n) = l.toArray.size := by rw [hlen]; simp; omega
  rwa [e2] at key
theorem region_mtA {Q : Exit → Act → World → Prop} {a : Act} {w : World} {l : List Oper} (r : MT) (hm : P.follows .mixedOrders = true) (hB : (mtA l.toArray r && Nat.beq r.len l.length) = true)
    (h : actMt P l.toArray (fun a' w' => Q .normal a' w') r a w) (t : Nat) :
    wpOps P l.toArray Q (Region.schedule (P.follows .mixedOrders) l.toArray t) a { w with drawn := w.drawn + 1 } := by
  simp only [mtA, Bool.and_eq_true] at hB
  obtain ⟨⟨hsel, hmix⟩, hlen⟩ := hB
  have hlen : r.len = l.length := by simpa using hlen
  have H := headG_mt (P := P) (md := .any) (Inv := fun _ => True) hsel
    (fun done i _ _ _ j hj => (Array.getElem?_eq_some_iff.1 (mem_ready.1 hj).2.choose_spec.1).1)
    (fun _ _ _ _ _ => trivial) (fun done hb j hj => by rw [List.isEmpty_iff.1 hb] at hj; cases hj) r _ a { w with drawn := w.drawn + 1 } trivial hmix (actMt_ext r a w _ (Ext.refl w).drew h)
  refine any_ops hm ?_ t
  have key := any_of_headG (Q := Q) (g := 0) (fun done a' w' hL => ⟨List.isEmpty_iff.1 hL.1, hL.2⟩) r.len _ a _ H
  have e2 : r.len + 0 = l.toArray.size := by rw [hlen]; simp
  rwa [e2] at key
end
section
variable (P : Program) (T : Tab) (FS : List Nat) (n : Nat) (all : List Oper)
abbrev mStep (i : Nat) (k : Env → World → Prop) (l : Env) (w : World) : Prop := match all[i]? with
  | none => False
  | some o => ∀ w1, Ext w w1 → vops T FS (nrmH0 P) n all [o] l w1 fun l w2 => Ext w1 w2 ∧ k l w2
abbrev vmt (K : Env → World → Prop) : MT → Env → World → Prop
  | .nil, l, w => ∀ w1, Ext w w1 → K l w1
  | .q i r, l, w => match all[i]? with
    | none => False
    | some o => vops T FS (quiE P w) n all [o] l () fun l _ => vmt K r l w
  | .m i r, l, w => mStep P T FS n all i (fun l w => vmt K r l w) l w
  | .br i j r s, l, w => mStep P T FS n all i (fun l w => vmt K r l w) l w ∧ mStep P T FS n all j (fun l w => vmt K s l w) l w
  | .br3 i j k r s t, l, w => mStep P T FS n all i (fun l w => vmt K r l w) l w ∧ mStep P T FS n all j (fun l w => vmt K s l w) l w ∧ mStep P T FS n all k (fun l w => vmt K t l w) l w
  | .br4 i j k m r s t u, l, w => mStep P T FS n all i (fun l w => vmt K r l w) l w ∧ mStep P T FS n all j (fun l w => vmt K s l w) l w ∧ mStep P T FS n all k (fun l w => vmt K t l w) l w ∧ mStep P T FS n all m (fun l w => vmt K u l w) l w
end
section
variable {P : Program} {T : Tab} {FS : List Nat} (hT : tabOk P T = true) (hF : ∀ f, memB f FS = true → Enters P f)
include hT hF
theorem mStep_act {n : Nat} {all : List Oper} {i : Nat} {k : Env → World → Prop} {q : Act → World → Prop} (hk : ∀ l a w, At n l a → k l w → q a w) {l : Env} {a : Act} {w : World} (ha : At n l a) (h : mStep P T FS n all i k l w) :
    ∀ w1, Ext w w1 → okOp P all.toArray i (fun a' w2 => Ext w1 w2 ∧ q a' w2) a w1 := by
  unfold mStep at h
  cases hi : all[i]? with
  | none => simp only [hi] at h
  | some o =>
    simp only [hi] at h
    intro w1 hx
    unfold okOp
    rw [show all.toArray[i]? = some o by simpa using hi]
    rcases vops_one hT hF (nrm_laws0 P) ha (h w1 hx) with ⟨hw, l', ha', hq⟩ | ⟨hw, l', ha', hk'⟩
    · simp only [hw, if_true]
      refine hq o a _ QF fun e w' hk' => ?_
      obtain ⟨l2, ha2, hk'⟩ := vdst_put ha' hk'
      exact ⟨hk'.1, hk _ _ _ ha2 hk'.2⟩
    · simp only [hw, Bool.false_eq_true, if_false]
      obtain ⟨l2, ha2, hk'⟩ := vdst_put ha' hk'
      exact ⟨hk'.1, hk _ _ _ ha2 hk'.2⟩
theorem vmt_act {n : Nat} {all : List Oper} {K : Env → World → Prop} {Lq : Act → World → Prop} (hK : ∀ l a w, At n l a → K l w → Lq a w) :
    ∀ {r : MT} {l : Env} {a : Act} {w : World}, At n l a → vmt P T FS n all K r l w → actMt P all.toArray Lq r a w
  | .nil, l, a, w, ha, h => fun w1 hx => hK _ _ _ ha (h w1 hx)
  | .q i r, l, a, w, ha, h => by
    simp only [vmt] at h
    cases hi : all[i]? with
    | none => simp only [hi] at h
    | some o =>
      simp only [hi] at h
      refine ⟨o, by simpa using hi, ?_⟩
      rcases vops_one hT hF (quiE_laws P w) ha h with ⟨hw, l', ha', e, hq, hk⟩ | ⟨hw, l', ha', hk⟩
      · obtain ⟨l2, ha2, hk⟩ := vdst_put ha' hk
        exact ⟨e.val, .inl ⟨hw, hq⟩, vmt_act hK ha2 hk⟩
      · obtain ⟨l2, ha2, hk⟩ := vdst_put ha' hk
        exact ⟨undef, .inr ⟨hw, rfl⟩, vmt_act hK ha2 hk⟩
  | .m i r, l, a, w, ha, h => mStep_act hT hF (k := fun l w => vmt P T FS n all K r l w) (q := fun a w => actMt P all.toArray Lq r a w) (fun _ _ _ ha2 hk => vmt_act hK ha2 hk) ha h
  | .br i j r s, l, a, w, ha, h => ⟨mStep_act hT hF (k := fun l w => vmt P T FS n all K r l w) (q := fun a w => actMt P all.toArray Lq r a w) (fun _ _ _ ha2 hk => vmt_act hK ha2 hk) ha h.1, mStep_act hT hF (k := fun l w => vmt P T FS n all K s l w) (q := fun a w => actMt P all.toArray Lq s a w) (fun _ _ _ ha2 hk => vmt_act hK ha2 hk) ha h.2⟩
  | .br3 i j k r s t, l, a, w, ha, h => ⟨mStep_act hT hF (k := fun l w => vmt P T FS n all K r l w) (q := fun a w => actMt P all.toArray Lq r a w) (fun _ _ _ ha2 hk => vmt_act hK ha2 hk) ha h.1, mStep_act hT hF (k := fun l w => vmt P T FS n all K s l w) (q := fun a w => actMt P all.toArray Lq s a w) (fun _ _ _ ha2 hk => vmt_act hK ha2 hk) ha h.2.1, mStep_act hT hF (k := fun l w => vmt P T FS n all K t l w) (q := fun a w => actMt P all.toArray Lq t a w) (fun _ _ _ ha2 hk => vmt_act hK ha2 hk) ha h.2.2⟩
  | .br4 i j k m r s t u, l, a, w, ha, h => ⟨mStep_act hT hF (k := fun l w => vmt P T FS n all K r l w) (q := fun a w => actMt P all.toArray Lq r a w) (fun _ _ _ ha2 hk => vmt_act hK ha2 hk) ha h.1, mStep_act hT hF (k := fun l w => vmt P T FS n all K s l w) (q := fun a w => actMt P all.toArray Lq s a w) (fun _ _ _ ha2 hk => vmt_act hK ha2 hk) ha h.2.1, mStep_act hT hF (k := fun l w => vmt P T FS n all K t l w) (q := fun a w => actMt P all.toArray Lq t a w) (fun _ _ _ ha2 hk => vmt_act hK ha2 hk) ha h.2.2.1, mStep_act hT hF (k := fun l w => vmt P T FS n all K u l w) (q := fun a w => actMt P all.toArray Lq u a w) (fun _ _ _ ha2 hk => vmt_act hK ha2 hk) ha h.2.2.2⟩
theorem v_mt {n : Nat} {ops : List Oper} {l : Env} {w : World} {K : Env → World → Prop} (hm : P.follows .mixedOrders = true) (k : Nat) (r : MT) (hB : (mtT ops.toArray k r && noDefer ops) = true)
    (h : vmt P T FS n ops (fun l w => vops T FS (nrmH0 P) n ops (ops.drop k) l w K) r l w) : VDraw P n ops l w K := by
  simp only [Bool.and_eq_true] at hB
  refine VDraw.ofPlain (fun a Q ha hK => ?_) hB.2
  refine region_mtT k r hm hB.1 ?_
  exact vmt_act hT hF (K := fun l w => vops T FS (nrmH0 P) n ops (ops.drop k) l w K) (fun l a w ha h => vops_sound0 hT hF (all := ops) (K := K) (fun l a w ha hk => hK l a w ha hk) ha h) ha h
theorem v_mtA {n : Nat} {ops : List Oper} {l : Env} {w : World} {K : Env → World → Prop} (hm : P.follows .mixedOrders = true) (r : MT) (hB : (mtA ops.toArray r && Nat.beq r.len ops.length && noDefer ops) = true)
    (h : vmt P T FS n ops K r l w) : VDraw P n ops l w K := by
  have hB' := hB
  rw [Bool.and_eq_true] at hB'
  refine VDraw.ofPlain (fun a Q ha hK => ?_) hB'.2
  refine region_mtA r hm hB'.1 ?_
  exact vmt_act hT hF (fun l a w ha h => hK l a w ha h) ha h
end
end V
end Go.Proofs.Ytejphmgpndgliaa
