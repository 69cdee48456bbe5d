/- Ranges over functions: what an iterator owes, and the rule for the caller's loop. Own work. -/
import Derived.Test.YtejphmgpndgliaaD
namespace Go.Proofs.Ytejphmgpndgliaa
set_option linter.unusedSimpArgs false
set_option linter.unusedVariables false
open Go.RowKit
namespace V

/-- A row of the heap, whatever it is. -/
def raw (b : Nat) (o : Obj) : It := ⟨some b, fun w => w.heap[b]? = some o⟩
theorem raw_ok (b : Nat) (o : Obj) : (raw b o).Ok := fun _ _ _ h hh => (h b rfl).trans hh
/-- The row stands as it stood in A. -/
def asIn (A : World) (b : Nat) : It := ⟨some b, fun w => w.heap[b]? = A.heap[b]?⟩
theorem asIn_ok (A : World) (b : Nat) : (asIn A b).Ok := fun _ _ _ h hh => (h b rfl).trans hh
def owners (X : List It) : List Nat := X.filterMap It.own
theorem mem_owners {X : List It} {b : Nat} : b ∈ owners X ↔ ∃ x ∈ X, x.own = some b := by simp [owners]

theorem ExtM.trans' {M : List Nat} {a b c : World} (h : ExtM M a b) (k : ExtM M b c) : ExtM M a c :=
  ⟨k.os.trans h.os, k.tape.trans h.tape, k.output.trans h.output, Nat.le_trans h.size k.size, fun i hi hm => (k.block i (Nat.lt_of_lt_of_le hi h.size) hm).trans (h.block i hi hm)⟩
theorem ExtM.of_ext {M : List Nat} {a b : World} (h : Ext a b) : ExtM M a b := (ExtM.refl M a).trans h
theorem ExtM.putObj {M : List Nat} {w : World} {b : Nat} (hb : b ∈ M) (o : Obj) : ExtM M w (w.putObj b o) :=
  ⟨rfl, rfl, rfl, by simp, fun k _ hm => World.putObj_heap_other (fun e => hm (e ▸ hb))⟩
theorem ExtM.mono {M M' : List Nat} {a b : World} (h : ExtM M a b) (hM : ∀ x ∈ M, x ∈ M') : ExtM M' a b :=
  ⟨h.os, h.tape, h.output, h.size, fun i hi hm => h.block i hi (fun hx => hm (hM i hx))⟩

/-- The things X of world A have turned into the things X' of world B; all else stands. -/
structure Reframe (X X' : List It) (A B : World) : Prop where
  ext : ExtM (owners X) A B
  ok : ∀ x ∈ X', x.Ok
  holds : ∀ x ∈ X', x.holds B
  lo : ∀ x ∈ X', ∀ b, x.own = some b → (b ∈ owners X ∨ A.heap.size ≤ b) ∧ b < B.heap.size
  apart : X'.Pairwise fun x y => ∀ b, x.own = some b → y.own ≠ some b

theorem HpM.reframe {M : List Nat} {w0 A B : World} {H X X' : List It} (h : HpM M w0 A (H ++ X)) (r : Reframe X X' A B) : HpM M w0 B (H ++ X') := by
  have hap := List.pairwise_append.1 h.apart
  have notX : ∀ x ∈ H, ∀ b, x.own = some b → b ∉ owners X := fun x hx b hb hm => by
    obtain ⟨y, hy, e⟩ := mem_owners.1 hm
    exact hap.2.2 x hx y hy b hb e
  refine ⟨⟨r.ext.os.trans h.extM.os, r.ext.tape.trans h.extM.tape, r.ext.output.trans h.extM.output, Nat.le_trans h.extM.size r.ext.size, fun k hk hm => ?_⟩, ?_, ?_, ?_, ?_⟩
  · refine (r.ext.block k (Nat.lt_of_lt_of_le hk h.extM.size) fun hx => ?_).trans (h.extM.block k hk hm)
    obtain ⟨y, hy, e⟩ := mem_owners.1 hx
    rcases (h.lo y (List.mem_append_right _ hy) k e).1 with h1 | h1
    · exact hm h1
    · omega
  · intro x hx
    rcases List.mem_append.1 hx with hx | hx
    · exact h.ok x (List.mem_append_left _ hx)
    · exact r.ok x hx
  · intro x hx
    rcases List.mem_append.1 hx with hx | hx
    · exact h.ok x (List.mem_append_left _ hx) A B r.ext.size (fun b hb => r.ext.block b (h.lo x (List.mem_append_left _ hx) b hb).2 (notX x hx b hb)) (h.holds x (List.mem_append_left _ hx))
    · exact r.holds x hx
  · intro x hx b hb
    rcases List.mem_append.1 hx with hx | hx
    · exact ⟨(h.lo x (List.mem_append_left _ hx) b hb).1, Nat.lt_of_lt_of_le (h.lo x (List.mem_append_left _ hx) b hb).2 r.ext.size⟩
    · refine ⟨?_, (r.lo x hx b hb).2⟩
      rcases (r.lo x hx b hb).1 with h1 | h1
      · obtain ⟨y, hy, e⟩ := mem_owners.1 h1
        exact (h.lo y (List.mem_append_right _ hy) b e).1
      · exact .inr (Nat.le_trans h.extM.size h1)
  · refine List.pairwise_append.2 ⟨hap.1, r.apart, fun x hx y hy b hb e => ?_⟩
    rcases (r.lo y hy b e).1 with h1 | h1
    · exact notX x hx b hb h1
    · have := (h.lo x (List.mem_append_left _ hx) b hb).2; omega
theorem HpM.reframeAt {M : List Nat} {w0 A B : World} {L X X' : List It} (h : HpM M w0 A L) (i : Nat) (hL : L.drop i = X) (r : Reframe X X' A B) : HpM M w0 B (L.take i ++ X') :=
  HpM.reframe (by rw [← hL, List.take_append_drop]; exact h) r
/-- The mark's block is shut at the function's end. -/
theorem HpM.shut {M : List Nat} {w0 w : World} {H : List It} (h : HpM M w0 w H) {i D : Nat} {o o' : Obj} (hi : H[i]? = some (raw D o)) : HpM M w0 (w.putObj D o') (H.set i (raw D o')) :=
  h.upd hi (grownBy_putObj' w D o') (raw_ok _ _) (World.putObj_heap_same (Array.getElem?_eq_some_iff.1 (h.get hi)).1) (fun b hb => .inl hb)

theorem y_mono {m : Nat} {P : Program} {l : Nat} {args : Array Value} {W : World} {R R' : Ending → World → Prop} (h : YieldAt Fence.wide m P l args W R) (hr : ∀ e w', R e w' → R' e w') : YieldAt Fence.wide m P l args W R' :=
  let ⟨fn, tm, asn, bd, h1, h2⟩ := h
  ⟨fn, tm, asn, bd, h1, h2.mono hr⟩
/-- What an iterator owes: it hands xs 0, xs 1, .. to yield, till its end or till yield says no. It may write the blocks own. -/
def Iter (P : Program) (gf : Nat) (lb : List Value) (own : List Nat) (Cap : World → Prop) (xs : Nat → List Value) (tot : Nat → Prop) (N : Nat) : Prop :=
  ∀ (l : Nat) (J Jx : Nat → World → Prop) (W : World), Cap W → (∀ k A, J k A → k < N) →
    (∀ k A B, J k A → ExtM own A B → J k B) → (∀ k A B, Jx k A → ExtM own A B → Jx k B) →
    (∀ k A, J k A → ¬ tot k → YieldAt Fence.wide 0 P l (xs k).toArray A fun e B => (e = .returned (.bool true) ∧ J (k + 1) B ∧ ∀ b ∈ own, B.heap[b]? = A.heap[b]?) ∨ (e = .returned (.bool false) ∧ Jx k B)) →
    J 0 W → Calls P gf (.func (.yield l) #[] #[] :: lb).toArray W fun e B => (∃ v, e = .returned v) ∧ ((∃ k, tot k ∧ J k B) ∨ ∃ k, Jx k B)

/-- An invariant that may be framed. -/
structure Framed (I : List It → World → Prop) : Prop where
  holds : ∀ X A, I X A → ∀ x ∈ X, x.holds A
  turn : ∀ X X' A B, Reframe X X' A B → I X A → I X' B

def zipE : List Nat → List Value → Env → Env
  | p :: ps, v :: vs, l => zipE ps vs ((p, .v v) :: l)
  | _, _, l => l
theorem zipE_at {n : Nat} : ∀ (ps : List Nat) (vs : List Value) (l : Env) (t : Array Value), (ps.all fun p => Nat.blt p n) = true → At n l { tmps := t, defers := [] } →
    At n (zipE ps vs l) { tmps := (ps.zip vs).foldl (fun t (p, v) => t.setIfInBounds p v) t, defers := [] }
  | [], _, l, t, _, h => by simpa [zipE] using h
  | p :: ps, [], l, t, _, h => by simpa [zipE] using h
  | p :: ps, v :: vs, l, t, hp, h => by
    simp only [List.all_cons, Bool.and_eq_true] at hp
    have := h.put hp.1 (.v v)
    exact zipE_at ps vs _ _ hp.2 (by simpa [Act.put] using this)

section
variable {P : Program} {T : Tab} {FS : List Nat} (hT : tabOk P T = true) (hF : ∀ f, memB f FS = true → Enters P f)
include hT hF
theorem v_rangeG {n : Nat} {f : Operand} {ps : Array Tmp} {assign body : Code} {l : Env} {w : World} {K : KK} {gf : Nat} {lb : List Value} {own : List Nat} {Cap : World → Prop} {xs : Nat → List Value} {tot : Nat → Prop} {N : Nat}
    (it : Iter P gf lb own Cap xs tot N) (hf : opd l f = some (.v (.func (.func gf) #[] lb.toArray))) (hg : memB gf FS = true) (hfl : (flat assign && flat body && ps.toList.all (fun p => Nat.blt p n)) = true)
    (l1 : Env) (hl1 : SubL l1 l) (hml : marks l1 = []) (hps : ∀ k, (xs k).length = ps.size) (I : Nat → List It → World → Prop) (E : Code → List It → World → Prop) (hI : ∀ k, Framed (I k)) (hE : ∀ c, Framed (E c))
    (hN : ∀ k X A, I k X A → k < N) {M : List Nat} {w0 : World} (X0 : List It) (hX0 : HpM M w0 w X0) (hown : owners X0 = own) (hcap : ∀ B, Ext w B → Cap B) (h0 : I 0 X0 w)
    (hbody : ∀ k X A, I k X A → ¬ tot k → vgo P T FS n assign (zipE ps.toList (xs k) l1) A { nrm := fun l' B => (∀ x ∈ X, x.holds B) ∧ ∀ X' B', Reframe X X' B B' → vgo P T FS n body l' B' { nrm := fun _ C => I (k + 1) X' C, ret := fun _ C => E .ret X' C, ex := fun i _ C => E (.exit i) X' C, go := fun i _ C => E (.goto i) X' C }, ret := fun _ _ => False, ex := fun _ _ _ => False })
    (hdone : ∀ D k X W, tot k → I k (raw D (.deferred (some [])) :: X) W → K.nrm ((n, .m D) :: l) W)
    (hret : ∀ D X W, E .ret (raw D (.deferred (some [])) :: X) W → K.ret ((n, .m D) :: l) W)
    (hex : ∀ i D X W, E (.exit i) (raw D (.deferred (some [])) :: X) W → K.ex i ((n, .m D) :: l) W)
    (hgo : ∀ i D X W, E (.goto i) (raw D (.deferred (some [])) :: X) W → K.go i ((n, .m D) :: l) W) : VRange P n f ps assign body l w K := by
  simp only [Bool.and_eq_true] at hfl
  refine ⟨fun a ha => wpIn_rangeFunc (F := Fence.wide) fun fn hfn => ?_⟩
  obtain ⟨rec, hrec⟩ : ∃ rec : LoopState → Option Code → Loop, rec = fun st pe => { state := st, pending := pe, fn, tmps := a.tmps, params := ps, assign, body, defers := w.heap.size } := ⟨_, rfl⟩
  obtain ⟨W1, hW1⟩ : ∃ W1, (w.alloc (.deferred (some []))).alloc (.loop (rec .ready none)) = W1 := ⟨_, rfl⟩
  have hx1 : Ext w W1 := by rw [← hW1]; exact ((Ext.refl w).alloc _).alloc _
  have hL1 : W1.heap[w.heap.size + 1]? = some (.loop (rec .ready none)) := by
    rw [← hW1]; have := World.alloc_heap_new (w.alloc (.deferred (some []))) (.loop (rec .ready none)); rwa [World.size_alloc] at this
  have hD1 : W1.heap[w.heap.size]? = some (.deferred (some [])) := by
    rw [← hW1]; exact (Below.heap_alloc _ _ _ (by simp)).trans (World.alloc_heap_new w _)
  have hlt : ∀ b ∈ own, b < w.heap.size := fun b hb => by
    rw [← hown] at hb
    obtain ⟨x, hx, e⟩ := mem_owners.1 hb
    exact (hX0.lo x hx b e).2
  have hnd : own.Pairwise (fun x y => x ≠ y) := by
    rw [← hown]
    refine List.pairwise_filterMap.2 (hX0.apart.imp fun {x y} h b hb c hc e => ?_)
    subst e; exact h b hb hc
  -- the frame at a world
  obtain ⟨Fr, hFr⟩ : ∃ Fr : Obj → World → List It, Fr = fun o A => raw w.heap.size (.deferred (some [])) :: raw (w.heap.size + 1) o :: own.map (asIn A) := ⟨_, rfl⟩
  have howF : ∀ o A b, b ∈ owners (Fr o A) ↔ b = w.heap.size ∨ b = w.heap.size + 1 ∨ b ∈ own := fun o A b => by
    rw [hFr, mem_owners]
    refine ⟨?_, ?_⟩
    · rintro ⟨x, hx, e⟩
      rcases List.mem_cons.1 hx with rfl | hx
      · simp only [raw, Option.some.injEq] at e; exact .inl e.symm
      · rcases List.mem_cons.1 hx with rfl | hx
        · simp only [raw, Option.some.injEq] at e; exact .inr (.inl e.symm)
        · obtain ⟨b', hb', rfl⟩ := List.mem_map.1 hx
          simp only [asIn, Option.some.injEq] at e; subst e; exact .inr (.inr hb')
    · rintro (rfl | rfl | hb)
      · exact ⟨_, List.mem_cons_self, rfl⟩
      · exact ⟨_, List.mem_cons_of_mem _ List.mem_cons_self, rfl⟩
      · exact ⟨asIn A b, List.mem_cons_of_mem _ (List.mem_cons_of_mem _ (List.mem_map.2 ⟨b, hb, rfl⟩)), rfl⟩
  have frame : ∀ {o o' : Obj} {X : List It} {A B : World}, ExtM (owners X) A B → (∀ b ∈ own, b ∈ owners X) → (w.heap.size ∈ owners X ∨ A.heap.size ≤ w.heap.size) → (w.heap.size + 1 ∈ owners X ∨ A.heap.size ≤ w.heap.size + 1) → B.heap[w.heap.size]? = some (.deferred (some [])) → B.heap[w.heap.size + 1]? = some o' → Reframe X (Fr o' B) A B := by
    intro o o' X A B hx h1 h2 h3 hd hl
    have hs1 : w.heap.size + 1 < B.heap.size := (Array.getElem?_eq_some_iff.1 hl).1
    have mem : ∀ x ∈ Fr o' B, x = raw w.heap.size (.deferred (some [])) ∨ x = raw (w.heap.size + 1) o' ∨ ∃ b ∈ own, x = asIn B b := by
      intro x hx; rw [hFr] at hx; simpa [eq_comm] using hx
    refine ⟨hx, fun x hx => ?_, fun x hx => ?_, fun x hx b hb => ?_, ?_⟩
    · rcases mem x hx with rfl | rfl | ⟨b, _, rfl⟩
      · exact raw_ok _ _
      · exact raw_ok _ _
      · exact asIn_ok _ _
    · rcases mem x hx with rfl | rfl | ⟨b, _, rfl⟩
      · exact hd
      · exact hl
      · rfl
    · rcases mem x hx with rfl | rfl | ⟨b', hb', rfl⟩
      · simp only [raw, Option.some.injEq] at hb; subst hb; exact ⟨h2, by omega⟩
      · simp only [raw, Option.some.injEq] at hb; subst hb; exact ⟨h3, hs1⟩
      · simp only [asIn, Option.some.injEq] at hb; subst hb; exact ⟨.inl (h1 _ hb'), by have := hlt _ hb'; omega⟩
    · rw [hFr]
      refine List.pairwise_cons.2 ⟨fun y hy b hb e => ?_, List.pairwise_cons.2 ⟨fun y hy b hb e => ?_, ?_⟩⟩
      · simp only [raw, Option.some.injEq] at hb; subst hb
        rcases List.mem_cons.1 hy with rfl | hy
        · simp [raw] at e
        · obtain ⟨b', hb', rfl⟩ := List.mem_map.1 hy
          simp only [asIn, Option.some.injEq] at e; have := hlt _ hb'; omega
      · simp only [raw, Option.some.injEq] at hb; subst hb
        obtain ⟨b', hb', rfl⟩ := List.mem_map.1 hy
        simp only [asIn, Option.some.injEq] at e; have := hlt _ hb'; omega
      · refine List.pairwise_map.2 (hnd.imp fun {x y} h b hb e => ?_)
        simp only [asIn, Option.some.injEq] at hb e
        exact h (hb.trans e.symm)
  refine ⟨w.heap.size + 1, [{ target := .collected w.heap.size, args := #[] }], W1, { target := .fn (.func gf) lb.toArray, args := #[.func (.yield (w.heap.size + 1)) #[] #[]] }, W1, gf,
    #[.func (.yield (w.heap.size + 1)) #[] #[]] ++ lb.toArray, W1, ?_, ?_, fun _ _ => trivial, ?_, fun h => by simp [Fence.wide] at h, (callsIn_wide (n := 0 - 1)).2 ?_⟩
  · rw [← hW1, hrec]; exact run_enterLoop_outer _ _ _ _ _
  · simp only [resolve, opd_eval ha hf]
    simp [go_sem]
  · simp [invoke, go_sem, hF gf hg]
    try exact hF gf hg _ _
  · have key := it (w.heap.size + 1) (fun k A => I k (Fr (.loop (rec .ready none)) A) A) (fun k A => ∃ c, (c = Code.ret ∨ (∃ i, c = Code.exit i) ∨ ∃ i, c = Code.goto i) ∧ E c (Fr (.loop (rec .done (some c))) A) A) W1 (hcap W1 hx1) (fun k A h => hN k _ A h) ?_ ?_ ?_ ?_
    · have e : (Value.func (.yield (w.heap.size + 1)) #[] #[] :: lb).toArray = #[.func (.yield (w.heap.size + 1)) #[] #[]] ++ lb.toArray := by simp
      rw [← e]
      refine key.mono ?_
      rintro e W2 ⟨⟨v, rfl⟩, (⟨k, ht, hi⟩ | ⟨k, c, hc, hi⟩)⟩
      · have hl := (hI k).holds _ _ hi (raw (w.heap.size + 1) (.loop (rec .ready none))) (by rw [hFr]; simp)
        have hd := (hI k).holds _ _ hi (raw w.heap.size (.deferred (some []))) (by rw [hFr]; simp)
        have hs1 : w.heap.size + 1 < W2.heap.size := (Array.getElem?_eq_some_iff.1 hl).1
        refine ⟨none, W2.putObj (w.heap.size + 1) (.loop (rec .exhausted none)), by have := run_endLoop (P := P) hl (by rw [hrec]; simp); rw [hrec] at this ⊢; exact this, ?_⟩
        have hi' := (hI k).turn _ (Fr (.loop (rec .exhausted none)) (W2.putObj (w.heap.size + 1) (.loop (rec .exhausted none)))) _ (W2.putObj (w.heap.size + 1) (.loop (rec .exhausted none)))
          (frame (o := .loop (rec .ready none)) (ExtM.putObj ((howF _ _ _).2 (.inr (.inl rfl))) _) (fun b hb => (howF _ _ _).2 (.inr (.inr hb))) (.inl ((howF _ _ _).2 (.inl rfl))) (.inl ((howF _ _ _).2 (.inr (.inl rfl)))) ((World.putObj_heap_other (by omega)).trans hd) (World.putObj_heap_same hs1)) hi
        rw [hFr] at hi'
        exact ⟨_, ⟨by rw [ha.defers]; simp [marks, mk1], ha.size, fun t x hx => by
          simp only [look] at hx
          by_cases e : n = t
          · subst e; simp at hx; subst hx; simp [Array.getD, ha.size]
          · rw [beqF e] at hx; exact ha.holds t x hx⟩, hdone _ k _ _ ht hi'⟩
      · have hl := (hE c).holds _ _ hi (raw (w.heap.size + 1) (.loop (rec .done (some c)))) (by rw [hFr]; simp)
        have hd := (hE c).holds _ _ hi (raw w.heap.size (.deferred (some []))) (by rw [hFr]; simp)
        have hs1 : w.heap.size + 1 < W2.heap.size := (Array.getElem?_eq_some_iff.1 hl).1
        refine ⟨some c, W2.putObj (w.heap.size + 1) (.loop (rec .exhausted (some c))), by have := run_endLoop (P := P) hl (by rw [hrec]; simp); rw [hrec] at this ⊢; exact this, ?_⟩
        have hi' := (hE c).turn _ (Fr (.loop (rec .exhausted (some c))) (W2.putObj (w.heap.size + 1) (.loop (rec .exhausted (some c))))) _ (W2.putObj (w.heap.size + 1) (.loop (rec .exhausted (some c))))
          (frame (o := .loop (rec .done (some c))) (ExtM.putObj ((howF _ _ _).2 (.inr (.inl rfl))) _) (fun b hb => (howF _ _ _).2 (.inr (.inr hb))) (.inl ((howF _ _ _).2 (.inl rfl))) (.inl ((howF _ _ _).2 (.inr (.inl rfl)))) ((World.putObj_heap_other (by omega)).trans hd) (World.putObj_heap_same hs1)) hi
        rw [hFr] at hi'
        have hat : At n ((n, .m w.heap.size) :: l) { tmps := a.tmps, defers := [{ target := .collected w.heap.size, args := #[] }] ++ a.defers } := ⟨by rw [ha.defers]; simp [marks, mk1], ha.size, fun t x hx => by
          simp only [look] at hx
          by_cases e : n = t
          · subst e; simp at hx; subst hx; simp [Array.getD, ha.size]
          · rw [beqF e] at hx; exact ha.holds t x hx⟩
        rcases hc with rfl | ⟨i, rfl⟩ | ⟨i, rfl⟩
        · exact wpIn_ret ⟨_, hat, hret _ _ _ hi'⟩
        · exact wpIn_exit ⟨_, hat, hex _ _ _ _ hi'⟩
        · exact wpIn_goto ⟨_, hat, hgo _ _ _ _ hi'⟩
    · intro k A B hi hx
      have hl := (hI k).holds _ _ hi (raw (w.heap.size + 1) (.loop (rec .ready none))) (by rw [hFr]; simp)
      have hd := (hI k).holds _ _ hi (raw w.heap.size (.deferred (some []))) (by rw [hFr]; simp)
      have hs1 : w.heap.size + 1 < A.heap.size := (Array.getElem?_eq_some_iff.1 hl).1
      exact (hI k).turn _ _ _ _ (frame (o := .loop (rec .ready none)) (hx.mono fun b hb => (howF _ _ _).2 (.inr (.inr hb))) (fun b hb => (howF _ _ _).2 (.inr (.inr hb))) (.inl ((howF _ _ _).2 (.inl rfl))) (.inl ((howF _ _ _).2 (.inr (.inl rfl))))
        ((hx.block _ (by omega) (fun h => by have := hlt _ h; omega)).trans hd) ((hx.block _ hs1 (fun h => by have := hlt _ h; omega)).trans hl)) hi
    · rintro k A B ⟨c, hc, hi⟩ hx
      have hl := (hE c).holds _ _ hi (raw (w.heap.size + 1) (.loop (rec .done (some c)))) (by rw [hFr]; simp)
      have hd := (hE c).holds _ _ hi (raw w.heap.size (.deferred (some []))) (by rw [hFr]; simp)
      have hs1 : w.heap.size + 1 < A.heap.size := (Array.getElem?_eq_some_iff.1 hl).1
      exact ⟨c, hc, (hE c).turn _ _ _ _ (frame (o := .loop (rec .done (some c))) (hx.mono fun b hb => (howF _ _ _).2 (.inr (.inr hb))) (fun b hb => (howF _ _ _).2 (.inr (.inr hb))) (.inl ((howF _ _ _).2 (.inl rfl))) (.inl ((howF _ _ _).2 (.inr (.inl rfl))))
        ((hx.block _ (by omega) (fun h => by have := hlt _ h; omega)).trans hd) ((hx.block _ hs1 (fun h => by have := hlt _ h; omega)).trans hl)) hi⟩
    · -- a round
      intro k A hi ht
      have hl := (hI k).holds _ _ hi (raw (w.heap.size + 1) (.loop (rec .ready none))) (by rw [hFr]; simp)
      have hd := (hI k).holds _ _ hi (raw w.heap.size (.deferred (some []))) (by rw [hFr]; simp)
      have hs1 : w.heap.size + 1 < A.heap.size := (Array.getElem?_eq_some_iff.1 hl).1
      have hy := run_yield (P := P) (args := (xs k).toArray) hl (by rw [hrec]; simpa using hps k)
      refine ⟨rec .ready none |>.fn, _, rec .ready none |>.assign, rec .ready none |>.body, hy, roundIn_of_wpIn trivial ?_⟩
      have hat : At n (zipE ps.toList (xs k) l1) { tmps := (ps.zip (xs k).toArray).foldl (fun t (p, v) => t.setIfInBounds p v) a.tmps, defers := [] } := by
        have := zipE_at (n := n) ps.toList (xs k) l1 a.tmps hfl.2 ⟨by rw [hml]; rfl, ha.size, fun t x h => ha.holds t x (hl1 t x h)⟩
        rw [← Array.foldl_toList]
        simpa using this
      rw [hrec]
      refine wpIn_mono (vgo_sound hT hF (some (w.heap.size + 1)) 0 assign (.inr hfl.1.1) hat (hbody k _ A hi ht)) ?_
      rintro e a1 B hq
      cases e with
      | normal =>
        obtain ⟨l', hat', hXB, hb⟩ := hq
        have hlB := hXB (raw (w.heap.size + 1) (.loop (rec .ready none))) (by rw [hFr]; simp)
        have hdB := hXB (raw w.heap.size (.deferred (some []))) (by rw [hFr]; simp)
        have hoB : ∀ b ∈ own, B.heap[b]? = A.heap[b]? := fun b hb => hXB (asIn A b) (by rw [hFr]; exact List.mem_cons_of_mem _ (List.mem_cons_of_mem _ (List.mem_map.2 ⟨b, hb, rfl⟩)))
        have hsB : w.heap.size + 1 < B.heap.size := (Array.getElem?_eq_some_iff.1 hlB).1
        have hb2 := hb (Fr (.loop (rec .busy none)) (B.putObj (w.heap.size + 1) (.loop (rec .busy none)))) (B.putObj (w.heap.size + 1) (.loop (rec .busy none)))
          (frame (o := .loop (rec .ready none)) (ExtM.putObj ((howF _ _ _).2 (.inr (.inl rfl))) _) (fun b hb => (howF _ _ _).2 (.inr (.inr hb))) (.inl ((howF _ _ _).2 (.inl rfl))) (.inl ((howF _ _ _).2 (.inr (.inl rfl)))) ((World.putObj_heap_other (by omega)).trans hdB) (World.putObj_heap_same hsB))
        refine ⟨B.putObj (w.heap.size + 1) (.loop (rec .busy none)), by have := run_beginRound (P := P) hlB (by rw [hrec]); rw [hrec] at this ⊢; exact this, ?_⟩
        have fin : ∀ (jump : Option Code) (C : World) (I' : List It → World → Prop), Framed I' → I' (Fr (.loop (rec .busy none)) (B.putObj (w.heap.size + 1) (.loop (rec .busy none)))) C →
            ∃ C', (Instr.endRound (w.heap.size + 1) jump).run P C = .ok (.bool jump.isNone) C' ∧ I' (Fr (.loop (rec (if jump.isNone then .ready else .done) jump)) C') C' ∧ ∀ b ∈ own, C'.heap[b]? = A.heap[b]? := by
          intro jump C I' hI' hi'
          have hlC := hI'.holds _ _ hi' (raw (w.heap.size + 1) (.loop (rec .busy none))) (by rw [hFr]; simp)
          have hdC := hI'.holds _ _ hi' (raw w.heap.size (.deferred (some []))) (by rw [hFr]; simp)
          have hoC : ∀ b ∈ own, C.heap[b]? = (B.putObj (w.heap.size + 1) (.loop (rec .busy none))).heap[b]? := fun b hb => hI'.holds _ _ hi' (asIn (B.putObj (w.heap.size + 1) (.loop (rec .busy none))) b) (by rw [hFr]; exact List.mem_cons_of_mem _ (List.mem_cons_of_mem _ (List.mem_map.2 ⟨b, hb, rfl⟩)))
          have hsC : w.heap.size + 1 < C.heap.size := (Array.getElem?_eq_some_iff.1 hlC).1
          refine ⟨C.putObj (w.heap.size + 1) (.loop (rec (if jump.isNone then .ready else .done) jump)), by have := run_endRound (P := P) jump hlC; rw [hrec] at this ⊢; exact this, ?_, fun b hb => ?_⟩
          · exact hI'.turn _ _ _ _ (frame (o := .loop (rec .busy none)) (ExtM.putObj ((howF _ _ _).2 (.inr (.inl rfl))) _) (fun b hb => (howF _ _ _).2 (.inr (.inr hb))) (.inl ((howF _ _ _).2 (.inl rfl))) (.inl ((howF _ _ _).2 (.inr (.inl rfl)))) ((World.putObj_heap_other (by omega)).trans hdC) (World.putObj_heap_same hsC)) hi'
          · have := hlt b hb
            exact (World.putObj_heap_other (by omega)).trans ((hoC b hb).trans ((World.putObj_heap_other (by omega)).trans (hoB b hb)))
        refine wpIn_mono (vgo_sound hT hF (some (w.heap.size + 1)) 0 body (.inr hfl.1.2) hat' hb2) ?_
        rintro e a2 C hq
        cases e with
        | normal =>
          obtain ⟨_, _, hi'⟩ := hq
          obtain ⟨C', hr, hi2, ho⟩ := fin none C _ (hI (k + 1)) hi'
          exact ⟨_, C', hr, .inl ⟨rfl, by rw [hrec] at hi2; exact hi2, ho⟩⟩
        | ret =>
          obtain ⟨_, _, hi'⟩ := hq
          obtain ⟨C', hr, hi2, ho⟩ := fin (some .ret) C _ (hE .ret) hi'
          exact ⟨_, C', hr, .inr ⟨rfl, .ret, .inl rfl, by rw [hrec] at hi2; exact hi2⟩⟩
        | exit i =>
          obtain ⟨_, _, hi'⟩ := hq
          obtain ⟨C', hr, hi2, ho⟩ := fin (some (.exit i)) C _ (hE (.exit i)) hi'
          exact ⟨_, C', hr, .inr ⟨rfl, .exit i, .inr (.inl ⟨i, rfl⟩), by rw [hrec] at hi2; exact hi2⟩⟩
        | goto i =>
          obtain ⟨_, _, hi'⟩ := hq
          obtain ⟨C', hr, hi2, ho⟩ := fin (some (.goto i)) C _ (hE (.goto i)) hi'
          exact ⟨_, C', hr, .inr ⟨rfl, .goto i, .inr (.inr ⟨i, rfl⟩), by rw [hrec] at hi2; exact hi2⟩⟩
        | panic c => exact hq.elim
        | outgrown => exact hq.elim
      | ret => obtain ⟨_, _, h⟩ := hq; exact h.elim
      | exit i => obtain ⟨_, _, h⟩ := hq; exact h.elim
      | goto i => obtain ⟨_, _, h⟩ := hq; exact h.elim
      | panic c => exact hq.elim
      | outgrown => exact hq.elim
    · exact (hI 0).turn _ _ _ _ (frame (o := .loop (rec .ready none)) ((ExtM.refl _ w).trans hx1) (fun b hb => by rw [hown]; exact hb) (.inr (Nat.le_refl _)) (.inr (by omega)) hD1 hL1) h0
/-- as E, but by no jump -/
def noGo (E : Code → List It → World → Prop) : Code → List It → World → Prop
  | .goto _ => fun _ _ => False
  | c => E c
omit hT hF in
theorem noGo_framed {E : Code → List It → World → Prop} (hE : ∀ c, Framed (E c)) : ∀ c, Framed (noGo E c) := fun c => by
  cases c <;> first | exact hE _ | exact ⟨fun _ _ h => h.elim, fun _ _ _ _ _ h => h.elim⟩
theorem v_range {n : Nat} {f : Operand} {ps : Array Tmp} {assign body : Code} {l : Env} {w : World} {K : KK} {gf : Nat} {lb : List Value} {own : List Nat} {Cap : World → Prop} {xs : Nat → List Value} {tot : Nat → Prop} {N : Nat}
    (it : Iter P gf lb own Cap xs tot N) (hf : opd l f = some (.v (.func (.func gf) #[] lb.toArray))) (hg : memB gf FS = true) (hfl : (flat assign && flat body && ps.toList.all (fun p => Nat.blt p n)) = true)
    (hml : marks l = []) (hps : ∀ k, (xs k).length = ps.size) (I : Nat → List It → World → Prop) (E : Code → List It → World → Prop) (hI : ∀ k, Framed (I k)) (hE : ∀ c, Framed (E c))
    (hN : ∀ k X A, I k X A → k < N) {M : List Nat} {w0 : World} (X0 : List It) (hX0 : HpM M w0 w X0) (hown : owners X0 = own) (hcap : ∀ B, Ext w B → Cap B) (h0 : I 0 X0 w)
    (hbody : ∀ k X A, I k X A → ¬ tot k → vgo P T FS n assign (zipE ps.toList (xs k) l) A { nrm := fun l' B => (∀ x ∈ X, x.holds B) ∧ ∀ X' B', Reframe X X' B B' → vgo P T FS n body l' B' { nrm := fun _ C => I (k + 1) X' C, ret := fun _ C => E .ret X' C, ex := fun i _ C => E (.exit i) X' C }, ret := fun _ _ => False, ex := fun _ _ _ => False })
    (hdone : ∀ D k X W, tot k → I k (raw D (.deferred (some [])) :: X) W → K.nrm ((n, .m D) :: l) W)
    (hret : ∀ D X W, E .ret (raw D (.deferred (some [])) :: X) W → K.ret ((n, .m D) :: l) W)
    (hex : ∀ i D X W, E (.exit i) (raw D (.deferred (some [])) :: X) W → K.ex i ((n, .m D) :: l) W) : VRange P n f ps assign body l w K :=
  v_rangeG hT hF it hf hg hfl l (fun _ _ h => h) hml hps I (noGo E) hI (noGo_framed hE) hN X0 hX0 hown hcap h0 hbody hdone hret hex (fun _ _ _ _ h => h.elim)
/-- The same, of an iterator that has things of its own (Z, which may grow): they are kept while yield is out. -/
def Iter2 (P : Program) (gf : Nat) (lb : List Value) (own : List Nat) (Cap : World → Prop) (xs : Nat → List Value) (tot : Nat → Prop) (N : Nat) : Prop :=
  ∀ (l : Nat) (J Jx : Nat → List Nat → World → Prop) (W : World), Cap W → (∀ k Z A, J k Z A → k < N) →
    (∀ k Z A B Z', J k Z A → ExtM Z A B → (∀ b ∈ Z', b ∈ Z ∨ (A.heap.size ≤ b ∧ b < B.heap.size)) → Z'.Pairwise (fun x y => x ≠ y) → A.heap.size ≤ B.heap.size → J k Z' B) → (∀ k Z A B, Jx k Z A → ExtM Z A B → Jx k Z B) →
    (∀ k Z A, J k Z A → ¬ tot k → YieldAt Fence.wide 0 P l (xs k).toArray A fun e B => (e = .returned (.bool true) ∧ J (k + 1) Z B ∧ ∀ b ∈ Z, B.heap[b]? = A.heap[b]?) ∨ (e = .returned (.bool false) ∧ Jx k Z B)) →
    J 0 own W → Calls P gf (.func (.yield l) #[] #[] :: lb).toArray W fun e B => (∃ v, e = .returned v) ∧ ((∃ k Z, tot k ∧ J k Z B) ∨ ∃ k Z, Jx k Z B)
theorem v_range2 {n : Nat} {f : Operand} {ps : Array Tmp} {assign body : Code} {l : Env} {w : World} {K : KK} {gf : Nat} {lb : List Value} {own : List Nat} {Cap : World → Prop} {xs : Nat → List Value} {tot : Nat → Prop} {N : Nat}
    (it : Iter2 P gf lb own Cap xs tot N) (hf : opd l f = some (.v (.func (.func gf) #[] lb.toArray))) (hg : memB gf FS = true) (hfl : (flat assign && flat body && ps.toList.all (fun p => Nat.blt p n)) = true)
    (hml : marks l = []) (hps : ∀ k, (xs k).length = ps.size) (I : Nat → List It → World → Prop) (E : Code → List It → World → Prop) (hI : ∀ k, Framed (I k)) (hE : ∀ c, Framed (E c))
    (hN : ∀ k X A, I k X A → k < N) {M : List Nat} {w0 : World} (X0 : List It) (hX0 : HpM M w0 w X0) (hown : owners X0 = own) (hcap : ∀ B, Ext w B → Cap B) (h0 : I 0 X0 w)
    (hbody : ∀ k X A, I k X A → ¬ tot k → vgo P T FS n assign (zipE ps.toList (xs k) l) A { nrm := fun l' B => (∀ x ∈ X, x.holds B) ∧ ∀ X' B', Reframe X X' B B' → vgo P T FS n body l' B' { nrm := fun _ C => I (k + 1) X' C, ret := fun _ C => E .ret X' C, ex := fun i _ C => E (.exit i) X' C }, ret := fun _ _ => False, ex := fun _ _ _ => False })
    (hdone : ∀ D k X W, tot k → I k (raw D (.deferred (some [])) :: X) W → K.nrm ((n, .m D) :: l) W)
    (hret : ∀ D X W, E .ret (raw D (.deferred (some [])) :: X) W → K.ret ((n, .m D) :: l) W)
    (hex : ∀ i D X W, E (.exit i) (raw D (.deferred (some [])) :: X) W → K.ex i ((n, .m D) :: l) W) : VRange P n f ps assign body l w K := by
  simp only [Bool.and_eq_true] at hfl
  refine ⟨fun a ha => wpIn_rangeFunc (F := Fence.wide) fun fn hfn => ?_⟩
  obtain ⟨rec, hrec⟩ : ∃ rec : LoopState → Option Code → Loop, rec = fun st pe => { state := st, pending := pe, fn, tmps := a.tmps, params := ps, assign, body, defers := w.heap.size } := ⟨_, rfl⟩
  obtain ⟨W1, hW1⟩ : ∃ W1, (w.alloc (.deferred (some []))).alloc (.loop (rec .ready none)) = W1 := ⟨_, rfl⟩
  have hx1 : Ext w W1 := by rw [← hW1]; exact ((Ext.refl w).alloc _).alloc _
  have hL1 : W1.heap[w.heap.size + 1]? = some (.loop (rec .ready none)) := by
    rw [← hW1]; have := World.alloc_heap_new (w.alloc (.deferred (some []))) (.loop (rec .ready none)); rwa [World.size_alloc] at this
  have hD1 : W1.heap[w.heap.size]? = some (.deferred (some [])) := by
    rw [← hW1]; exact (Below.heap_alloc _ _ _ (by simp)).trans (World.alloc_heap_new w _)
  have hd0 : a.defers = [] := by rw [ha.defers, hml]; rfl
  have hlt : ∀ b ∈ own, b < w.heap.size := fun b hb => by
    rw [← hown] at hb
    obtain ⟨x, hx, e⟩ := mem_owners.1 hb
    exact (hX0.lo x hx b e).2
  have hnd : own.Pairwise (fun x y => x ≠ y) := by
    rw [← hown]
    refine List.pairwise_filterMap.2 (hX0.apart.imp fun {x y} h b hb c hc e => ?_)
    subst e; exact h b hb hc
  -- the frame at a world
  obtain ⟨Good, hGood⟩ : ∃ Good : List Nat → World → Prop, Good = fun Z A => Z.Pairwise (fun x y => x ≠ y) ∧ ∀ b ∈ Z, b ≠ w.heap.size ∧ b ≠ w.heap.size + 1 ∧ b < A.heap.size := ⟨_, rfl⟩
  obtain ⟨Fr, hFr⟩ : ∃ Fr : Obj → List Nat → World → List It, Fr = fun o Z A => raw w.heap.size (.deferred (some [])) :: raw (w.heap.size + 1) o :: Z.map (asIn A) := ⟨_, rfl⟩
  have hG0 : Good own W1 := by
    rw [hGood]
    exact ⟨hnd, fun b hb => by have := hlt b hb; have := hx1.size; omega⟩
  have hGm : ∀ {Z : List Nat} {A B : World}, Good Z A → A.heap.size ≤ B.heap.size → Good Z B := fun {Z A B} h hs => by
    rw [hGood] at h ⊢
    exact ⟨h.1, fun b hb => by have := h.2 b hb; omega⟩
  have howF : ∀ o Z A b, b ∈ owners (Fr o Z A) ↔ b = w.heap.size ∨ b = w.heap.size + 1 ∨ b ∈ Z := fun o Z A b => by
    rw [hFr, mem_owners]
    refine ⟨?_, ?_⟩
    · rintro ⟨x, hx, e⟩
      rcases List.mem_cons.1 hx with rfl | hx
      · simp only [raw, Option.some.injEq] at e; exact .inl e.symm
      · rcases List.mem_cons.1 hx with rfl | hx
        · simp only [raw, Option.some.injEq] at e; exact .inr (.inl e.symm)
        · obtain ⟨b', hb', rfl⟩ := List.mem_map.1 hx
          simp only [asIn, Option.some.injEq] at e; subst e; exact .inr (.inr hb')
    · rintro (rfl | rfl | hb)
      · exact ⟨_, List.mem_cons_self, rfl⟩
      · exact ⟨_, List.mem_cons_of_mem _ List.mem_cons_self, rfl⟩
      · exact ⟨asIn A b, List.mem_cons_of_mem _ (List.mem_cons_of_mem _ (List.mem_map.2 ⟨b, hb, rfl⟩)), rfl⟩
  have frame : ∀ {o o' : Obj} {X : List It} {A B : World} {Z : List Nat}, ExtM (owners X) A B → Good Z B → (∀ b ∈ Z, b ∈ owners X ∨ A.heap.size ≤ b) → (w.heap.size ∈ owners X ∨ A.heap.size ≤ w.heap.size) → (w.heap.size + 1 ∈ owners X ∨ A.heap.size ≤ w.heap.size + 1) → B.heap[w.heap.size]? = some (.deferred (some [])) → B.heap[w.heap.size + 1]? = some o' → Reframe X (Fr o' Z B) A B := by
    intro o o' X A B Z hx hG h1 h2 h3 hd hl
    rw [hGood] at hG
    have hs1 : w.heap.size + 1 < B.heap.size := (Array.getElem?_eq_some_iff.1 hl).1
    have mem : ∀ x ∈ Fr o' Z B, x = raw w.heap.size (.deferred (some [])) ∨ x = raw (w.heap.size + 1) o' ∨ ∃ b ∈ Z, x = asIn B b := by
      intro x hx; rw [hFr] at hx; simpa [eq_comm] using hx
    refine ⟨hx, fun x hx => ?_, fun x hx => ?_, fun x hx b hb => ?_, ?_⟩
    · rcases mem x hx with rfl | rfl | ⟨b, _, rfl⟩
      · exact raw_ok _ _
      · exact raw_ok _ _
      · exact asIn_ok _ _
    · rcases mem x hx with rfl | rfl | ⟨b, _, rfl⟩
      · exact hd
      · exact hl
      · rfl
    · rcases mem x hx with rfl | rfl | ⟨b', hb', rfl⟩
      · simp only [raw, Option.some.injEq] at hb; subst hb; exact ⟨h2, by omega⟩
      · simp only [raw, Option.some.injEq] at hb; subst hb; exact ⟨h3, hs1⟩
      · simp only [asIn, Option.some.injEq] at hb; subst hb; exact ⟨h1 _ hb', (hG.2 _ hb').2.2⟩
    · rw [hFr]
      refine List.pairwise_cons.2 ⟨fun y hy b hb e => ?_, List.pairwise_cons.2 ⟨fun y hy b hb e => ?_, ?_⟩⟩
      · simp only [raw, Option.some.injEq] at hb; subst hb
        rcases List.mem_cons.1 hy with rfl | hy
        · simp [raw] at e
        · obtain ⟨b', hb', rfl⟩ := List.mem_map.1 hy
          simp only [asIn, Option.some.injEq] at e; have := hG.2 _ hb'; omega
      · simp only [raw, Option.some.injEq] at hb; subst hb
        obtain ⟨b', hb', rfl⟩ := List.mem_map.1 hy
        simp only [asIn, Option.some.injEq] at e; have := hG.2 _ hb'; omega
      · refine List.pairwise_map.2 (hG.1.imp fun {x y} h b hb e => ?_)
        simp only [asIn, Option.some.injEq] at hb e
        exact h (hb.trans e.symm)
  refine ⟨w.heap.size + 1, [{ target := .collected w.heap.size, args := #[] }], W1, { target := .fn (.func gf) lb.toArray, args := #[.func (.yield (w.heap.size + 1)) #[] #[]] }, W1, gf,
    #[.func (.yield (w.heap.size + 1)) #[] #[]] ++ lb.toArray, W1, ?_, ?_, fun _ _ => trivial, ?_, fun h => by simp [Fence.wide] at h, (callsIn_wide (n := 0 - 1)).2 ?_⟩
  · rw [← hW1, hrec]; exact run_enterLoop_outer _ _ _ _ _
  · simp only [resolve, opd_eval ha hf]
    simp [go_sem]
  · simp [invoke, go_sem, hF gf hg]
    try exact hF gf hg _ _
  · have key := it (w.heap.size + 1) (fun k Z A => Good Z A ∧ I k (Fr (.loop (rec .ready none)) Z A) A) (fun k Z A => ∃ c, (c = Code.ret ∨ ∃ i, c = Code.exit i) ∧ Good Z A ∧ E c (Fr (.loop (rec .done (some c))) Z A) A) W1 (hcap W1 hx1) (fun k Z A h => hN k _ A h.2) ?_ ?_ ?_ ?_
    · have e : (Value.func (.yield (w.heap.size + 1)) #[] #[] :: lb).toArray = #[.func (.yield (w.heap.size + 1)) #[] #[]] ++ lb.toArray := by simp
      rw [← e]
      refine key.mono ?_
      rintro e W2 ⟨⟨v, rfl⟩, (⟨k, Z, ht, hG, hi⟩ | ⟨k, Z, c, hc, hG, hi⟩)⟩
      · have hl := (hI k).holds _ _ hi (raw (w.heap.size + 1) (.loop (rec .ready none))) (by rw [hFr]; simp)
        have hd := (hI k).holds _ _ hi (raw w.heap.size (.deferred (some []))) (by rw [hFr]; simp)
        have hs1 : w.heap.size + 1 < W2.heap.size := (Array.getElem?_eq_some_iff.1 hl).1
        refine ⟨none, W2.putObj (w.heap.size + 1) (.loop (rec .exhausted none)), by have := run_endLoop (P := P) hl (by rw [hrec]; simp); rw [hrec] at this ⊢; exact this, ?_⟩
        have hi' := (hI k).turn _ (Fr (.loop (rec .exhausted none)) Z (W2.putObj (w.heap.size + 1) (.loop (rec .exhausted none)))) _ (W2.putObj (w.heap.size + 1) (.loop (rec .exhausted none)))
          (frame (o := .loop (rec .ready none)) (ExtM.putObj ((howF _ _ _ _).2 (.inr (.inl rfl))) _) (hGm hG (by simp)) (fun b hb => .inl ((howF _ _ _ _).2 (.inr (.inr hb)))) (.inl ((howF _ _ _ _).2 (.inl rfl))) (.inl ((howF _ _ _ _).2 (.inr (.inl rfl)))) ((World.putObj_heap_other (by omega)).trans hd) (World.putObj_heap_same hs1)) hi
        rw [hFr] at hi'
        exact ⟨_, ⟨by rw [hd0]; simp [marks, hml, mk1], ha.size, fun t x hx => by
          simp only [look] at hx
          by_cases e : n = t
          · subst e; simp at hx; subst hx; simp [Array.getD, ha.size]
          · rw [beqF e] at hx; exact ha.holds t x hx⟩, hdone _ k _ _ ht hi'⟩
      · have hl := (hE c).holds _ _ hi (raw (w.heap.size + 1) (.loop (rec .done (some c)))) (by rw [hFr]; simp)
        have hd := (hE c).holds _ _ hi (raw w.heap.size (.deferred (some []))) (by rw [hFr]; simp)
        have hs1 : w.heap.size + 1 < W2.heap.size := (Array.getElem?_eq_some_iff.1 hl).1
        refine ⟨some c, W2.putObj (w.heap.size + 1) (.loop (rec .exhausted (some c))), by have := run_endLoop (P := P) hl (by rw [hrec]; simp); rw [hrec] at this ⊢; exact this, ?_⟩
        have hi' := (hE c).turn _ (Fr (.loop (rec .exhausted (some c))) Z (W2.putObj (w.heap.size + 1) (.loop (rec .exhausted (some c))))) _ (W2.putObj (w.heap.size + 1) (.loop (rec .exhausted (some c))))
          (frame (o := .loop (rec .done (some c))) (ExtM.putObj ((howF _ _ _ _).2 (.inr (.inl rfl))) _) (hGm hG (by simp)) (fun b hb => .inl ((howF _ _ _ _).2 (.inr (.inr hb)))) (.inl ((howF _ _ _ _).2 (.inl rfl))) (.inl ((howF _ _ _ _).2 (.inr (.inl rfl)))) ((World.putObj_heap_other (by omega)).trans hd) (World.putObj_heap_same hs1)) hi
        rw [hFr] at hi'
        have hat : At n ((n, .m w.heap.size) :: l) { tmps := a.tmps, defers := [{ target := .collected w.heap.size, args := #[] }] ++ a.defers } := ⟨by rw [hd0]; simp [marks, hml, mk1], ha.size, fun t x hx => by
          simp only [look] at hx
          by_cases e : n = t
          · subst e; simp at hx; subst hx; simp [Array.getD, ha.size]
          · rw [beqF e] at hx; exact ha.holds t x hx⟩
        rcases hc with rfl | ⟨i, rfl⟩
        · exact wpIn_ret ⟨_, hat, hret _ _ _ hi'⟩
        · exact wpIn_exit ⟨_, hat, hex _ _ _ _ hi'⟩
    · rintro k Z A B Z' ⟨hG, hi⟩ hx hZ hnd' hsz
      have hl := (hI k).holds _ _ hi (raw (w.heap.size + 1) (.loop (rec .ready none))) (by rw [hFr]; simp)
      have hd := (hI k).holds _ _ hi (raw w.heap.size (.deferred (some []))) (by rw [hFr]; simp)
      have hs1 : w.heap.size + 1 < A.heap.size := (Array.getElem?_eq_some_iff.1 hl).1
      have hG' : Good Z' B := by
        rw [hGood] at hG ⊢
        refine ⟨hnd', fun b hb => ?_⟩
        rcases hZ b hb with h | h
        · have := hG.2 b h; have := hx.size; omega
        · omega
      have hnot : ∀ q, q = w.heap.size ∨ q = w.heap.size + 1 → q ∉ Z := fun q hq hm => by rw [hGood] at hG; have := hG.2 q hm; omega
      exact ⟨hG', (hI k).turn _ _ _ _ (frame (o := .loop (rec .ready none)) (hx.mono fun b hb => (howF _ _ _ _).2 (.inr (.inr hb))) hG' (fun b hb => (hZ b hb).imp (fun h => (howF _ _ _ _).2 (.inr (.inr h))) (fun h => h.1)) (.inl ((howF _ _ _ _).2 (.inl rfl))) (.inl ((howF _ _ _ _).2 (.inr (.inl rfl))))
        ((hx.block _ (by omega) (hnot _ (.inl rfl))).trans hd) ((hx.block _ hs1 (hnot _ (.inr rfl))).trans hl)) hi⟩
    · rintro k Z A B ⟨c, hc, hG, hi⟩ hx
      have hl := (hE c).holds _ _ hi (raw (w.heap.size + 1) (.loop (rec .done (some c)))) (by rw [hFr]; simp)
      have hd := (hE c).holds _ _ hi (raw w.heap.size (.deferred (some []))) (by rw [hFr]; simp)
      have hs1 : w.heap.size + 1 < A.heap.size := (Array.getElem?_eq_some_iff.1 hl).1
      have hnot : ∀ q, q = w.heap.size ∨ q = w.heap.size + 1 → q ∉ Z := fun q hq hm => by rw [hGood] at hG; have := hG.2 q hm; omega
      exact ⟨c, hc, hGm hG hx.size, (hE c).turn _ _ _ _ (frame (o := .loop (rec .done (some c))) (hx.mono fun b hb => (howF _ _ _ _).2 (.inr (.inr hb))) (hGm hG hx.size) (fun b hb => .inl ((howF _ _ _ _).2 (.inr (.inr hb)))) (.inl ((howF _ _ _ _).2 (.inl rfl))) (.inl ((howF _ _ _ _).2 (.inr (.inl rfl))))
        ((hx.block _ (by omega) (hnot _ (.inl rfl))).trans hd) ((hx.block _ hs1 (hnot _ (.inr rfl))).trans hl)) hi⟩
    · -- a round
      rintro k Z A ⟨hG, hi⟩ ht
      have hl := (hI k).holds _ _ hi (raw (w.heap.size + 1) (.loop (rec .ready none))) (by rw [hFr]; simp)
      have hd := (hI k).holds _ _ hi (raw w.heap.size (.deferred (some []))) (by rw [hFr]; simp)
      have hs1 : w.heap.size + 1 < A.heap.size := (Array.getElem?_eq_some_iff.1 hl).1
      have hy := run_yield (P := P) (args := (xs k).toArray) hl (by rw [hrec]; simpa using hps k)
      refine ⟨rec .ready none |>.fn, _, rec .ready none |>.assign, rec .ready none |>.body, hy, roundIn_of_wpIn trivial ?_⟩
      have hat : At n (zipE ps.toList (xs k) l) { tmps := (ps.zip (xs k).toArray).foldl (fun t (p, v) => t.setIfInBounds p v) a.tmps, defers := [] } := by
        have := zipE_at (n := n) ps.toList (xs k) l a.tmps hfl.2 ⟨by rw [hml]; rfl, ha.size, ha.holds⟩
        rw [← Array.foldl_toList]
        simpa using this
      rw [hrec]
      refine wpIn_mono (vgo_sound hT hF (some (w.heap.size + 1)) 0 assign (.inr hfl.1.1) hat (hbody k _ A hi ht)) ?_
      rintro e a1 B hq
      cases e with
      | normal =>
        obtain ⟨l', hat', hXB, hb⟩ := hq
        have hlB := hXB (raw (w.heap.size + 1) (.loop (rec .ready none))) (by rw [hFr]; simp)
        have hdB := hXB (raw w.heap.size (.deferred (some []))) (by rw [hFr]; simp)
        have hoB : ∀ b ∈ Z, B.heap[b]? = A.heap[b]? := fun b hb => hXB (asIn A b) (by rw [hFr]; exact List.mem_cons_of_mem _ (List.mem_cons_of_mem _ (List.mem_map.2 ⟨b, hb, rfl⟩)))
        have hsB : w.heap.size + 1 < B.heap.size := (Array.getElem?_eq_some_iff.1 hlB).1
        have hGB : Good Z B := by
          rw [hGood] at hG ⊢
          refine ⟨hG.1, fun b hb => ?_⟩
          have h1 := hG.2 b hb
          have h2 := hoB b hb
          rw [Array.getElem?_eq_getElem h1.2.2] at h2
          exact ⟨h1.1, h1.2.1, (Array.getElem?_eq_some_iff.1 h2).1⟩
        have hb2 := hb (Fr (.loop (rec .busy none)) Z (B.putObj (w.heap.size + 1) (.loop (rec .busy none)))) (B.putObj (w.heap.size + 1) (.loop (rec .busy none)))
          (frame (o := .loop (rec .ready none)) (ExtM.putObj ((howF _ _ _ _).2 (.inr (.inl rfl))) _) (hGm hGB (by simp)) (fun b hb => .inl ((howF _ _ _ _).2 (.inr (.inr hb)))) (.inl ((howF _ _ _ _).2 (.inl rfl))) (.inl ((howF _ _ _ _).2 (.inr (.inl rfl)))) ((World.putObj_heap_other (by omega)).trans hdB) (World.putObj_heap_same hsB))
        refine ⟨B.putObj (w.heap.size + 1) (.loop (rec .busy none)), by have := run_beginRound (P := P) hlB (by rw [hrec]); rw [hrec] at this ⊢; exact this, ?_⟩
        have fin : ∀ (jump : Option Code) (C : World) (I' : List It → World → Prop), Framed I' → I' (Fr (.loop (rec .busy none)) Z (B.putObj (w.heap.size + 1) (.loop (rec .busy none)))) C →
            ∃ C', (Instr.endRound (w.heap.size + 1) jump).run P C = .ok (.bool jump.isNone) C' ∧ I' (Fr (.loop (rec (if jump.isNone then .ready else .done) jump)) Z C') C' ∧ Good Z C' ∧ ∀ b ∈ Z, C'.heap[b]? = A.heap[b]? := by
          intro jump C I' hI' hi'
          have hlC := hI'.holds _ _ hi' (raw (w.heap.size + 1) (.loop (rec .busy none))) (by rw [hFr]; simp)
          have hdC := hI'.holds _ _ hi' (raw w.heap.size (.deferred (some []))) (by rw [hFr]; simp)
          have hoC : ∀ b ∈ Z, C.heap[b]? = (B.putObj (w.heap.size + 1) (.loop (rec .busy none))).heap[b]? := fun b hb => hI'.holds _ _ hi' (asIn (B.putObj (w.heap.size + 1) (.loop (rec .busy none))) b) (by rw [hFr]; exact List.mem_cons_of_mem _ (List.mem_cons_of_mem _ (List.mem_map.2 ⟨b, hb, rfl⟩)))
          have hsC : w.heap.size + 1 < C.heap.size := (Array.getElem?_eq_some_iff.1 hlC).1
          have hGC : Good Z C := by
            rw [hGood] at hGB ⊢
            refine ⟨hGB.1, fun b hb => ?_⟩
            have h1 := hGB.2 b hb
            have h2 := hoC b hb
            have h3 : b < (B.putObj (w.heap.size + 1) (.loop (rec .busy none))).heap.size := by simpa using h1.2.2
            rw [Array.getElem?_eq_getElem h3] at h2
            exact ⟨h1.1, h1.2.1, (Array.getElem?_eq_some_iff.1 h2).1⟩
          refine ⟨C.putObj (w.heap.size + 1) (.loop (rec (if jump.isNone then .ready else .done) jump)), by have := run_endRound (P := P) jump hlC; rw [hrec] at this ⊢; exact this, ?_, hGm hGC (by simp), fun b hb => ?_⟩
          · exact hI'.turn _ _ _ _ (frame (o := .loop (rec .busy none)) (ExtM.putObj ((howF _ _ _ _).2 (.inr (.inl rfl))) _) (hGm hGC (by simp)) (fun b hb => .inl ((howF _ _ _ _).2 (.inr (.inr hb)))) (.inl ((howF _ _ _ _).2 (.inl rfl))) (.inl ((howF _ _ _ _).2 (.inr (.inl rfl)))) ((World.putObj_heap_other (by omega)).trans hdC) (World.putObj_heap_same hsC)) hi'
          · have hq : b ≠ w.heap.size + 1 := by rw [hGood] at hG; exact (hG.2 b hb).2.1
            exact (World.putObj_heap_other (by omega)).trans ((hoC b hb).trans ((World.putObj_heap_other (by omega)).trans (hoB b hb)))
        refine wpIn_mono (vgo_sound hT hF (some (w.heap.size + 1)) 0 body (.inr hfl.1.2) hat' hb2) ?_
        rintro e a2 C hq
        cases e with
        | normal =>
          obtain ⟨_, _, hi'⟩ := hq
          obtain ⟨C', hr, hi2, hG2, ho⟩ := fin none C _ (hI (k + 1)) hi'
          exact ⟨_, C', hr, .inl ⟨rfl, ⟨hG2, by rw [hrec] at hi2; exact hi2⟩, ho⟩⟩
        | ret =>
          obtain ⟨_, _, hi'⟩ := hq
          obtain ⟨C', hr, hi2, hG2, ho⟩ := fin (some .ret) C _ (hE .ret) hi'
          exact ⟨_, C', hr, .inr ⟨rfl, .ret, .inl rfl, hG2, by rw [hrec] at hi2; exact hi2⟩⟩
        | exit i =>
          obtain ⟨_, _, hi'⟩ := hq
          obtain ⟨C', hr, hi2, hG2, ho⟩ := fin (some (.exit i)) C _ (hE (.exit i)) hi'
          exact ⟨_, C', hr, .inr ⟨rfl, .exit i, .inr ⟨i, rfl⟩, hG2, by rw [hrec] at hi2; exact hi2⟩⟩
        | goto t => obtain ⟨_, _, h⟩ := hq; exact h.elim
        | panic c => exact hq.elim
        | outgrown => exact hq.elim
      | ret => obtain ⟨_, _, h⟩ := hq; exact h.elim
      | exit i => obtain ⟨_, _, h⟩ := hq; exact h.elim
      | goto t => obtain ⟨_, _, h⟩ := hq; exact h.elim
      | panic c => exact hq.elim
      | outgrown => exact hq.elim
    · exact ⟨hG0, (hI 0).turn _ _ _ _ (frame (o := .loop (rec .ready none)) ((ExtM.refl _ w).trans hx1) hG0 (fun b hb => .inl (by rw [hown]; exact hb)) (.inr (Nat.le_refl _)) (.inr (by omega)) hD1 hL1) h0⟩
end
end V
end Go.Proofs.Ytejphmgpndgliaa
