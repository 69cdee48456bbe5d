/- Own slices, elements of one cell, whatever marks their rows bear. Own work. No program is named here. -/
import Derived.Test.YtejphmgpndgliaaX2
namespace Go.Proofs.Ytejphmgpndgliaa
set_option linter.unusedSimpArgs false
set_option linter.unusedVariables false
open Go.RowKit
namespace V
theorem take_snoc' {α : Type} {l : List α} {i : Nat} {x : α} (h : l[i]? = some x) : l.take (i + 1) = l.take i ++ [x] := by
  rw [List.take_add_one, h]; rfl
def OB (w : World) (e : Nat) (v : Value) (xs : List Value) : Prop :=
  (v = .slice none 0 0 ∧ xs = []) ∨ ∃ g zs, v = .slice (some ⟨g, 0, none⟩) xs.length (xs.length + zs.length) ∧ xs.length + zs.length ≤ maxLen ∧ Blk w g (xs ++ zs) e
def ob (e : Nat) (v : Value) (xs : List Value) : It := ⟨v.ownBlock, fun w => OB w e v xs⟩
theorem ob_ok (e : Nat) (v : Value) (xs : List Value) : (ob e v xs).Ok := fun w w' _ h hh => by
  rcases hh with hh | ⟨g, zs, rfl, hm, hb⟩
  · exact .inl hh
  · exact .inr ⟨g, zs, rfl, hm, Blk.same hb (h g rfl)⟩
section
variable {P : Program} {T : Tab} {M : List Nat} {w0 w : World} {H : List It} {K : Value → World → Prop}
theorem HpM.knilO (h : HpM M w0 w H) (e : Nat) : HpM M w0 w (ob e (.slice none 0 0) [] :: H) :=
  h.push (Ext.refl w) (ob_ok _ _ _) (.inl ⟨rfl, rfl⟩) (fun b hb => by simp [ob, Value.ownBlock] at hb)
theorem OB.shape {e : Nat} {v : Value} {xs : List Value} (h : OB w e v xs) : ∃ p c, v = .slice p xs.length c := by
  rcases h with ⟨rfl, rfl⟩ | ⟨g, zs, rfl, _, _⟩
  · exact ⟨_, _, rfl⟩
  · exact ⟨_, _, rfl⟩
theorem OB.at {e : Nat} {p : Option Addr} {n c : Nat} {xs : List Value} (h : OB w e (.slice p n c) xs) {j : Nat} {x : Value} (hj : xs[j]? = some x) : ∃ g, p = some ⟨g, 0, none⟩ ∧ w.cell? ⟨g, j, none⟩ = some x := by
  rcases h with ⟨_, rfl⟩ | ⟨g, zs, hv, _, hb⟩
  · simp at hj
  · simp only [Value.slice.injEq] at hv
    exact ⟨g, hv.1, by rw [hb.cell, List.getElem?_append_left (List.getElem?_eq_some_iff.1 hj).1]; exact hj⟩
theorem OB.slv {e : Nat} {v : Value} {xs : List Value} (h : OB w e v xs) : SLv w v xs := by
  rcases h with ⟨rfl, rfl⟩ | ⟨g, zs, rfl, _, hb⟩
  · exact .inl ⟨rfl, _, _, rfl⟩
  · exact .inr ⟨g, 0, _, rfl, by omega, fun j x hj => by rw [Nat.zero_add, hb.cell, List.getElem?_append_left (List.getElem?_eq_some_iff.1 hj).1]; exact hj⟩
/-- '[]byte(s)' -/
theorem HpM.kbytesO (h : HpM M w0 w H) (hT : tabOk P T = true) {src dst e n1 n2 n3 : Nat} (hs : tfind T src = some ⟨.str, n1⟩) (hd : tfind T dst = some ⟨.slice e, n2⟩) (he : tfind T e = some ⟨.int .u8, n3⟩) {s : ByteArray} (hsm : s.size ≤ maxLen)
    (hk : ∀ v w', HpM M w0 w' (ob e v (bytesV s.data.toList) :: H) → Ext w w' → K v w') :
    ∃ v w', (convert src dst (.string s)).run P w = .ok v w' ∧ K v w' := by
  have hr := run_bytes_of_string (P := P) w src dst e s (tab_str hT hs) (tab_slice hT hd) (tab_int hT he)
  have hx : Ext w (w.drew.alloc (.cells (bytesRow s (grownCap w s.size 0 e)) e ((bytesRow s (grownCap w s.size 0 e)).size, (bytesRow s (grownCap w s.size 0 e)).size + 1))) := ((Ext.refl w).drew).alloc _
  have hn : ∀ o : Obj, (w.drew.alloc o).heap[w.heap.size]? = some o := fun o => by
    show (w.heap.push o)[w.heap.size]? = some o
    simp
  have hge := grownCap_ge w s.size 0 e
  have hle := grownCap_le_maxLen w s.size 0 e hsm
  have hl : (bytesV s.data.toList).length = s.size := by simp [bytesV]
  have hcap : (bytesV s.data.toList).length + (List.replicate (grownCap w s.size 0 e - s.size) (Value.int .u8 0)).length = grownCap w s.size 0 e := by rw [hl, List.length_replicate]; omega
  refine ⟨_, _, hr, hk _ _ (h.push hx (ob_ok _ _ _) (.inr ⟨w.heap.size, List.replicate (grownCap w s.size 0 e - s.size) (.int .u8 0), by rw [hl]; exact congrArg (Value.slice _ _) (by rw [List.length_replicate]; omega), by rw [hcap]; exact hle, ⟨((bytesRow s (grownCap w s.size 0 e)).size, (bytesRow s (grownCap w s.size 0 e)).size + 1), .inr (by simp [bytesRow, bytesV]), ?_⟩⟩) ?_) hx⟩
  · rw [hn]
    refine congrArg (fun c => some (Obj.cells c e _)) ?_
    apply Array.ext'
    simp [bytesRow, bytesV]
  · intro b hb
    simp only [ob, Value.ownBlock, Option.some.injEq] at hb
    subst hb
    exact ⟨Nat.le_refl _, by rw [World.size_alloc]; exact Nat.lt_succ_self _⟩
/-- append of m zeros -/
theorem HpM.kappZO (h : HpM M w0 w H) {t e bytes : Nat} (hs : slOk P t e 1 bytes = true) {z : Value} (hz1 : zeroC P e = some [z]) (hone : z.oneCell' = true) (i : Nat) {v : Value} {xs : List Value} (hi : H[i]? = some (ob e v xs))
    {tx ty : Nat} {k : IntKind} (htx : P.underlying tx = some (.int k)) {m : Nat} {kx : IntKind} (hb : (xs.length + m) * bytes ≤ 140737488355328) (hml : xs.length + m ≤ maxLen)
    (hk : ∀ v' w', HpM M w0 w' (H.set i (ob e v' (xs ++ List.replicate m z))) → K v' w') :
    ∃ u w', (Builtin.append_ #[t, tx] ty #[v, .int kx (m : Int)]).run P w = .ok u w' ∧ K u w' := by
  obtain ⟨hu, ⟨inf, z', hinf, hsz, rfl, hz, hzs⟩, hpos⟩ := slOk_spec hs
  have hzc : z'.cells.toList = [z] := by
    have h2 := hz1
    simp only [zeroC, hinf, hz, Option.bind_some, Option.map_some, Option.some.injEq] at h2
    exact h2
  have hzc' : z'.cells = #[z] := Array.ext' hzc
  have hzs' : z'.cells.size = 1 := by rw [hzc']; rfl
  have hrep : ∀ q : Nat, Builtin.zeroCells z'.cells q = (List.replicate q z).toArray := fun q => by
    apply Array.ext'
    apply List.ext_getElem
    · simp [size_zeroCells, hzs']
    · intro j h1 h2
      simp [Builtin.zeroCells, hzc', Nat.mod_one]
  obtain ⟨n, hn⟩ : ∃ n, xs.length = n := ⟨_, rfl⟩
  rw [hn] at hb hml
  have hown : OB w e v xs := h.get hi
  have hml' : ((n + m : Nat) : Int) ≤ 9223372036854775807 := by unfold maxLen at hml; omega
  have hb2 : ¬ (281474976710656 < (m : Int) * inf.bytes) := by
    have h1 : m * inf.bytes ≤ (n + m) * inf.bytes := Nat.mul_le_mul_right _ (by omega)
    have h2 : m * inf.bytes ≤ 140737488355328 := Nat.le_trans h1 hb
    intro h3
    rw [← Int.natCast_mul] at h3; omega
  have hw : IntKind.i64.wrap (m : Int) = m := IntWalk.i64_in _ (by omega)
  have hm1 : ¬ ((m : Int) < 0) := by omega
  by_cases hm0 : m = 0
  · -- nothing is added
    subst hm0
    have hr : (Builtin.append_ #[t, tx] ty #[v, .int kx ((0 : Nat) : Int)]).run P w = .ok v w := by
      rcases hown with ⟨rfl, rfl⟩ | ⟨g, zs, rfl, hm, hbk⟩
      · simp [Builtin.append_, Go.Proofs.Ytejphmgpndgliaa.V.run_underlying hu, Go.Proofs.Ytejphmgpndgliaa.V.run_underlying htx, sizeOf, typeInfo, hinf, hsz, asInt, asIntOf, Result.andThen]
        simp [IntWalk.i64_in]
      · simp [Builtin.append_, Go.Proofs.Ytejphmgpndgliaa.V.run_underlying hu, Go.Proofs.Ytejphmgpndgliaa.V.run_underlying htx, sizeOf, typeInfo, hinf, hsz, asInt, asIntOf, Result.andThen]
        simp [IntWalk.i64_in, storeCells]
    refine ⟨_, _, hr, hk v w ?_⟩
    have e : H.set i (ob e v (xs ++ List.replicate 0 z)) = H := by
      rw [List.replicate_zero, List.append_nil]
      obtain ⟨hil, hie⟩ := List.getElem?_eq_some_iff.1 hi
      rw [← hie, List.set_getElem_self]
    rw [e]; exact h
  have hmz : m ≠ 0 := hm0
  have grow : ∀ (old : Nat), old < n + m → ∀ (base : Option Addr), v = .slice base n old → (Builtin.firstCells 1 n (.slice base n old)).run P w.drew = .ok xs.toArray w.drew →
      ∃ u w', (Builtin.append_ #[t, tx] ty #[v, .int kx (m : Int)]).run P w = .ok u w' ∧ K u w' := by
    intro old ho base hv hf
    have hn' : ¬ (n + m ≤ old) := by omega
    have h63' : ¬ (9223372036854775807 < ((n : Int) + (m : Int))) := by omega
    have hfit := growslice_fits ho hb
    have h48' : ¬ (281474976710656 < Builtin.nextslicecap (n + m) old * inf.bytes) := by omega
    have hr : (Builtin.append_ #[t, tx] ty #[v, .int kx (m : Int)]).run P w =
        .ok (.slice (some ⟨w.heap.size, 0, none⟩) (n + m) (grownCap w (n + m) old e)) (w.drew.alloc (.cells (((xs ++ List.replicate m z) ++ List.replicate (grownCap w (n + m) old e - (n + m)) z).toArray) e)) := by
      subst hv
      simp [Builtin.append_, Go.Proofs.Ytejphmgpndgliaa.V.run_underlying hu, Go.Proofs.Ytejphmgpndgliaa.V.run_underlying htx, sizeOf, typeInfo, zeroValue, hinf, hz, hsz, asInt, asIntOf, hw, hm1, hb2, hn', h63', h48', hmz, Question.forced, hf, newRow, grownCap, hrep, Result.andThen]
      congr 2
      apply Array.ext'
      simp
    rw [hr]
    have hge := grownCap_ge w (n + m) old e
    have hle := grownCap_le_maxLen w (n + m) old e hml
    have hl1 : (xs ++ List.replicate m z).length = n + m := by rw [List.length_append, List.length_replicate, hn]
    have hl2 : (xs ++ List.replicate m z).length + (List.replicate (grownCap w (n + m) old e - (n + m)) z).length = grownCap w (n + m) old e := by rw [hl1, List.length_replicate]; omega
    refine ⟨_, _, rfl, hk _ _ (h.upd hi ?_ (ob_ok _ _ _) (.inr ⟨w.heap.size, List.replicate (grownCap w (n + m) old e - (n + m)) z, by rw [hl2, hl1], by rw [hl2]; exact hle, ⟨(0, 0), .inl rfl, heap_alloc_new w.drew _⟩⟩) ?_)⟩
    · exact ⟨rfl, rfl, rfl, by simp, fun k hk _ => heap_alloc_old w.drew _ hk⟩
    · intro b hb'
      simp only [ob, Value.ownBlock, Option.some.injEq] at hb'
      subst hb'
      exact .inr ⟨Nat.le_refl _, by simp⟩
  rcases hown with ⟨rfl, rfl⟩ | ⟨g, zs, rfl, hmx, hbk⟩
  · have : n = 0 := by rw [← hn]; rfl
    subst this
    exact grow 0 (by omega) none rfl (by simp [Builtin.firstCells])
  · rw [hn] at grow ⊢
    by_cases hroom : n + m ≤ n + zs.length
    · obtain ⟨f, hf, hg⟩ := hbk
      have hst := storeF (P := P) g n e f (List.replicate m z) 0 (xs ++ zs).toArray w hg (by simpa using hf) (by simp; omega) (fun u hu => by rw [List.eq_of_mem_replicate hu]; exact hone)
      simp only [Nat.add_zero] at hst
      have hr : (Builtin.append_ #[t, tx] ty #[.slice (some ⟨g, 0, none⟩) n (n + zs.length), .int kx (m : Int)]).run P w =
          .ok (.slice (some ⟨g, 0, none⟩) (n + m) (n + zs.length)) (w.setRow g ((xs ++ zs).toArray.toList.take n ++ List.replicate m z ++ (xs ++ zs).toArray.toList.drop (n + (List.replicate m z).length)).toArray) := by
        have hroom' : m ≤ zs.length := by omega
        simp [Builtin.append_, Go.Proofs.Ytejphmgpndgliaa.V.run_underlying hu, Go.Proofs.Ytejphmgpndgliaa.V.run_underlying htx, sizeOf, typeInfo, zeroValue, hinf, hz, hsz, asInt, asIntOf, hw, hm1, hb2, hroom', hmz, hrep, Addr.add_lit, Result.andThen]
        simp at hst
        rw [hst]
      rw [hr]
      have hcells : ((xs ++ zs).toArray.toList.take n ++ List.replicate m z ++ (xs ++ zs).toArray.toList.drop (n + (List.replicate m z).length)) = (xs ++ List.replicate m z) ++ zs.drop m := by
        simp only [List.toList_toArray, List.length_replicate]
        rw [← hn, List.take_left, ← List.drop_drop, List.drop_left]
      have hl1 : (xs ++ List.replicate m z).length = n + m := by rw [List.length_append, List.length_replicate, hn]
      have hl2 : (xs ++ List.replicate m z).length + (zs.drop m).length = n + zs.length := by rw [hl1, List.length_drop]; omega
      rw [hcells]
      refine ⟨_, _, rfl, hk _ _ (h.upd hi (grownBy_setRow w g _) (ob_ok _ _ _) (.inr ⟨g, zs.drop m, by rw [hl2, hl1], by rw [hl2, ← hn]; exact hmx, ⟨f, ?_, setRow_heap w g _ _ e f hg⟩⟩) (fun b hb => .inl hb))⟩
      rw [List.length_append, hl2, ← hn, ← List.length_append]; exact hf
    · have holds : ∀ j u, xs[j]? = some u → w.drew.cell? ((⟨g, 0, none⟩ : Addr).add j) = some u := fun j u hj => by
        have := hbk.cell j
        rw [List.getElem?_append_left (List.getElem?_eq_some_iff.1 hj).1, hj] at this
        rw [add_none, Nat.zero_add]; exact this
      exact grow (n + zs.length) (by omega) (some ⟨g, 0, none⟩) rfl (run_firstCells_some (P := P) w.drew 1 n ⟨g, 0, none⟩ n (n + zs.length) xs (by omega) holds)
/-- an element is stored -/
theorem HpM.kstO (h : HpM M w0 w H) (hT : tabOk P T = true) {t : Nat} {kd : TK} (ht : tfind T t = some ⟨kd, 1⟩) (i : Nat) {e g n c : Nat} {xs : List Value} (hi : H[i]? = some (ob e (.slice (some ⟨g, 0, none⟩) n c) xs)) {off : Nat} (ho : off < xs.length) {v : Value}
    (hv : v.cells = #[v]) (h1 : v.oneCell' = true) (hk : ∀ w', HpM M w0 w' (H.set i (ob e (.slice (some ⟨g, 0, none⟩) n c) (xs.set off v))) → K undef w') :
    ∃ u w', (do Instr.storeAt t (.pointer (some ⟨g, off, none⟩)) v; Pure.pure undef : Sem Value).run P w = .ok u w' ∧ K u w' := by
  have hown : OB w e (.slice (some ⟨g, 0, none⟩) n c) xs := h.get hi
  rcases hown with ⟨hv0, _⟩ | ⟨g', zs, hv', hmx, hbk⟩
  · simp at hv0
  · simp only [Value.slice.injEq, Option.some.injEq, Addr.mk.injEq, and_true] at hv'
    obtain ⟨⟨rfl, _⟩, rfl, rfl⟩ := hv'
    have hb2 : HpM [g] w w [blk g (xs ++ zs) e] := by
      have := (HpM.nil0 [g] w).take hbk (by simp) (by simp)
      exact this
    obtain ⟨w', hr, hh⟩ := hb2.st1 hT ht (i := 0) rfl (v := v) hv h1 (off := off) (by rw [List.length_append]; omega)
    refine ⟨_, w', hr, hk w' (h.upd hi (ExtM.grownBy hh.extM) (ob_ok _ _ _) (.inr ⟨g, zs, by rw [List.length_set], by rw [List.length_set]; exact hmx, ?_⟩) (fun b hb => .inl hb))⟩
    have := hh.get (i := 0) rfl
    rw [List.set_append_left _ _ ho] at this
    exact this
/-- the bytes of such a slice, as a string -/
theorem OB.str {e : Nat} {v : Value} {l : List UInt8} (h : OB w e v (bytesV l)) (hT : tabOk P T = true) {src dst n1 n2 n3 : Nat} (hs : tfind T src = some ⟨.slice e, n1⟩) (he : tfind T e = some ⟨.int .u8, n2⟩) (hd : tfind T dst = some ⟨.str, n3⟩) :
    (convert src dst v).run P w = .ok (.string ⟨l.toArray⟩) w := by
  rcases h with ⟨rfl, h0⟩ | ⟨g, zs, rfl, _, hb⟩
  · have : l = [] := by cases l with
      | nil => rfl
      | cons _ _ => simp [bytesV] at h0
    subst this
    exact conv_nil (hT := hT) hs he hd
  · exact Blk.str' hb hT hs he hd rfl (by simp [bytesV])
/-- A call that takes a thing over and hands it back, turned. -/
def TakesF (P : Program) (f : Nat) (args : Array Value) (x : It) (R : Value → It) : Prop := ∀ w, x.holds w → (∀ b, x.own = some b → b < w.heap.size) → Calls P f args w fun e w' => ∃ v, e = .returned v ∧ HpM x.own.toList w w' [R v]
theorem ExtM.grownO {w w' : World} {o : Option Nat} (h : ExtM o.toList w w') : w.grownBy w' o :=
  ⟨h.os, h.tape, h.output, h.size, fun k hk hne => h.block k hk (fun e => hne (by simp at e; exact e.symm))⟩
theorem TakesF.use {f : Nat} {args : Array Value} {x : It} {R : Value → It} (h : TakesF P f args x R) (hp : HpM M w0 w H) (i : Nat) (hi : H[i]? = some x) (hk : ∀ v w', HpM M w0 w' (H.set i (R v)) → K v w') :
    Calls P f args w fun e w' => ∃ v, e = .returned v ∧ K v w' := by
  refine (h w (hp.get hi) (fun b hb => (hp.lo x (List.mem_of_getElem? hi) b hb).2)).mono ?_
  rintro e w' ⟨v, rfl, hq⟩
  refine ⟨v, rfl, hk v w' (hp.upd hi hq.extM.grownO (hq.ok _ (by simp)) (hq.holds _ (by simp)) (fun b hb => ?_))⟩
  have := hq.lo _ (by simp) b hb
  rcases this.1 with h1 | h1
  · exact .inl (by simpa using h1)
  · exact .inr ⟨h1, this.2⟩
/-- The thing that is taken over, at the call's beginning. -/
theorem HpM.took {x : It} (hok : x.Ok) (hh : x.holds w) (hl : ∀ b, x.own = some b → b < w.heap.size) : HpM x.own.toList w w [x] :=
  ⟨ExtM.refl _ _, by simpa using hok, by simpa using hh, by
    intro y hy b hb
    simp at hy; subst hy
    exact ⟨.inl (by simp [hb]), hl b hb⟩, by simp⟩
theorem Blk.lv {w : World} {b : Nat} {cs : List Value} {e : Nat} (h : Blk w b cs e) (hT : tabOk P T = true) {t off : Nat} {v : Value} (ht : plainT T t = true) (hc : cs[off]? = some v) : (loadVar t ⟨b, off, none⟩).run P w = .ok v w :=
  run_loadVar1 hT ht ((h.cell off).trans hc)
/-- some of the things, in a new order -/
theorem HpM.pick (h : HpM M w0 w H) (ns : List Nat) (hn : ns.Nodup) : HpM M w0 w (ns.filterMap fun i => H[i]?) := by
  have hm : ∀ x ∈ ns.filterMap (fun i => H[i]?), x ∈ H := fun x hx => by
    obtain ⟨i, _, hi⟩ := List.mem_filterMap.1 hx
    exact List.mem_of_getElem? hi
  refine ⟨h.extM, fun x hx => h.ok x (hm x hx), fun x hx => h.holds x (hm x hx), fun x hx => h.lo x (hm x hx), ?_⟩
  rw [List.pairwise_filterMap]
  refine hn.imp fun {i j} hij x hx y hy b hb hyb => ?_
  obtain ⟨hil, rfl⟩ := List.getElem?_eq_some_iff.1 hx
  obtain ⟨hjl, rfl⟩ := List.getElem?_eq_some_iff.1 hy
  have hap := List.pairwise_iff_getElem.1 h.apart
  rcases Nat.lt_or_gt_of_ne hij with hlt | hlt
  · exact hap i j hil hjl hlt b hb hyb
  · exact hap j i hjl hil hlt b hyb hb
/-- a store of what is there -/
theorem Blk.stSame {w : World} {b : Nat} {cs : List Value} {e : Nat} (h : Blk w b cs e) (hT : tabOk P T = true) {t : Nat} {kd : TK} (ht : tfind T t = some ⟨kd, 1⟩) {off : Nat} {v : Value} (hv : v.cells = #[v]) (h1 : v.oneCell' = true) (hc : cs[off]? = some v) :
    (do Instr.storeAt t (.pointer (some ⟨b, off, none⟩)) v; Pure.pure undef : Sem Value).run P w = .ok undef w := by
  obtain ⟨f, hf, hb⟩ := h
  have ho : off < cs.length := (List.getElem?_eq_some_iff.1 hc).1
  have hst := storeF (P := P) b off e f [v] 0 cs.toArray w hb (by simpa using hf) (by simp; omega) (fun u hu => by simp at hu; subst hu; exact h1)
  have hs : (cs.toArray.toList.take (off + 0) ++ [v] ++ cs.toArray.toList.drop (off + 0 + [v].length)).toArray = cs.toArray := by
    simp only [List.toList_toArray, Nat.add_zero, List.length_singleton]
    rw [← take_snoc' hc, List.take_append_drop]
  simp only [Nat.add_zero] at hst hs
  rw [hs, setRow_self w b _ e f hb] at hst
  simp only [Instr.storeAt, Instr.sureAddr, storeVar, Sem.run_bind, Sem.run_pure, Result.andThen, tab_size hT ht, hv, List.size_toArray, List.length_singleton, ne_eq, not_true_eq_false, if_false, hst]
end
end V
end Go.Proofs.Ytejphmgpndgliaa
