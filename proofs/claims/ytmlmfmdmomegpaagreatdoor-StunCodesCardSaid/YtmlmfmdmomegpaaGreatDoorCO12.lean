/- Chapter 08: the four messages of a law. -/
/- Chapter 08: StunFinds. -/
/- Chapter 08: the attributes of written octets, by places. -/
/- Chapter 08: the reference's Decode. -/
/- Chapter 08: StunCodes. -/
/- The Go function StunCodes answers true for every input: Check, Encode and Decode agree with the reference, for arbitrary, drafted and changed messages and octets. -/
import Derived.Test.YtmlmfmdmomegpaaGreatDoorCO11
import Derived.Test.YtmlmfmdmomegpaaGreatDoorCO07
import Derived.Test.YtmlmfmdmomegpaaGreatDoorCO09
import Derived.Test.YtmlmfmdmomegpaaGreatDoorCO10
import Derived.Test.YtmlmfmdmomegpaaGreatDoorCards
import Derived.Test.YtmlmfmdmomegpaaGreatDoorTie
import Derived.SevenTiedAt
import Derived.Stop.Joined
import Derived.LaidMore
import Derived.Lay
import Derived.MakeChecks
import Derived.Test.YtmlmfmdmomegpaaGreatDoorRows
import Derived.WalkKit
import Derived.ProofKit
import Derived.OpenShut
import Derived.SizedLaws
import Derived.ShutString
import Derived.ChangeOld
import Derived.Below
import Derived.Test.YtmlmfmdmomegpaaGreatDoorCO04
namespace Go.Proofs.YtmlmfmdmomegpaaGreatDoor
set_option linter.unusedSimpArgs false
set_option linter.unusedVariables false
set_option maxRecDepth 100000
open Go.RowKit V
set_option maxHeartbeats 25600000
theorem ix34_0 (w : World) (c0 m0 c1 m1 c2 m2 c3 m3 : Int) (i0 i1 i2 i3 : ByteArray) (p0 p1 p2 p3 : Option Addr) (n0 n1 n2 n3 k0 k1 k2 k3 : Nat) : (Instr.index 34 (.agg #[.int .i64 c0, .int .i64 m0, .string i0, .slice p0 n0 k0, .int .i64 c1, .int .i64 m1, .string i1, .slice p1 n1 k1, .int .i64 c2, .int .i64 m2, .string i2, .slice p2 n2 k2, .int .i64 c3, .int .i64 m3, .string i3, .slice p3 n3 k3]) (.int .i64 0)).run Tryz.prog w = .ok (.agg #[.int .i64 c0, .int .i64 m0, .string i0, .slice p0 n0 k0]) w := by kernel_rfl
theorem ix34_1 (w : World) (c0 m0 c1 m1 c2 m2 c3 m3 : Int) (i0 i1 i2 i3 : ByteArray) (p0 p1 p2 p3 : Option Addr) (n0 n1 n2 n3 k0 k1 k2 k3 : Nat) : (Instr.index 34 (.agg #[.int .i64 c0, .int .i64 m0, .string i0, .slice p0 n0 k0, .int .i64 c1, .int .i64 m1, .string i1, .slice p1 n1 k1, .int .i64 c2, .int .i64 m2, .string i2, .slice p2 n2 k2, .int .i64 c3, .int .i64 m3, .string i3, .slice p3 n3 k3]) (.int .i64 1)).run Tryz.prog w = .ok (.agg #[.int .i64 c1, .int .i64 m1, .string i1, .slice p1 n1 k1]) w := by kernel_rfl
theorem ix34_2 (w : World) (c0 m0 c1 m1 c2 m2 c3 m3 : Int) (i0 i1 i2 i3 : ByteArray) (p0 p1 p2 p3 : Option Addr) (n0 n1 n2 n3 k0 k1 k2 k3 : Nat) : (Instr.index 34 (.agg #[.int .i64 c0, .int .i64 m0, .string i0, .slice p0 n0 k0, .int .i64 c1, .int .i64 m1, .string i1, .slice p1 n1 k1, .int .i64 c2, .int .i64 m2, .string i2, .slice p2 n2 k2, .int .i64 c3, .int .i64 m3, .string i3, .slice p3 n3 k3]) (.int .i64 2)).run Tryz.prog w = .ok (.agg #[.int .i64 c2, .int .i64 m2, .string i2, .slice p2 n2 k2]) w := by kernel_rfl
theorem ix34_3 (w : World) (c0 m0 c1 m1 c2 m2 c3 m3 : Int) (i0 i1 i2 i3 : ByteArray) (p0 p1 p2 p3 : Option Addr) (n0 n1 n2 n3 k0 k1 k2 k3 : Nat) : (Instr.index 34 (.agg #[.int .i64 c0, .int .i64 m0, .string i0, .slice p0 n0 k0, .int .i64 c1, .int .i64 m1, .string i1, .slice p1 n1 k1, .int .i64 c2, .int .i64 m2, .string i2, .slice p2 n2 k2, .int .i64 c3, .int .i64 m3, .string i3, .slice p3 n3 k3]) (.int .i64 3)).run Tryz.prog w = .ok (.agg #[.int .i64 c3, .int .i64 m3, .string i3, .slice p3 n3 k3]) w := by kernel_rfl
structure MsOk (id : ByteArray) (al : List At2) : Prop where
  id : id.size ≤ maxLen
  len : al.length ≤ 100
  each : ∀ a ∈ al, AtOk a
/-- attributes that are only read, as a thing in memory -/
def saitem (p : Option Addr) (al : List At2) (cp : Nat) : It := ⟨if al.isEmpty then none else p.map (·.block), fun w => SA w (.slice p al.length cp) al⟩
theorem saitem_ok (p : Option Addr) (al : List At2) (cp : Nat) : (saitem p al cp).Ok := fun w w' _ hb h => by
  rcases h with h | h | ⟨g, off, c, hv, h1, h2, h3⟩
  · exact .inl h
  · exact .inr (.inl h)
  · refine .inr (.inr ⟨g, off, c, hv, h1, h2, fun j x hj => ⟨(h3 j x hj).1, fun i y hy => ?_⟩⟩)
    have hne : al.isEmpty = false := by
      cases al with
      | nil => simp at hj
      | cons _ _ => rfl
    simp only [Value.slice.injEq] at hv
    obtain ⟨rfl, -, -⟩ := hv
    have hs := hb g (by unfold saitem; rw [hne]; rfl)
    have h0 := (h3 j x hj).2 i y hy
    unfold World.cell? at h0 ⊢
    rw [hs]; exact h0
theorem pushS {M : List Nat} {w0 w w' : World} {H : List It} (hp : HpM M w0 w H) (hx : Ext w w') {p : Option Addr} {al : List At2} {cp : Nat} (hs : SA w' (.slice p al.length cp) al) (hf : ∀ g off, p = some ⟨g, off, none⟩ → w.heap.size ≤ g) : HpM M w0 w' (saitem p al cp :: H) := by
  refine hp.push hx (saitem_ok p al cp) hs fun b hb => ?_
  unfold saitem at hb
  cases al with
  | nil => cases hb
  | cons a l =>
    rcases hs with ⟨_, h⟩ | ⟨_, _, _, h⟩ | ⟨g, off, c, hv, h1, h2, h3⟩
    · simp at h
    · simp at h
    · simp only [Value.slice.injEq] at hv
      obtain ⟨rfl, -, -⟩ := hv
      have e : g = b := by simpa using hb
      subst e
      exact ⟨hf g off rfl, cell_lt ((h3 0 (atC a) rfl).2 0 _ rfl)⟩
/-- an array of four messages: what each index gives -/
def Four8 (w : World) (A : Value) : Prop := (∃ cs, A = .agg cs) ∧ ∀ k : Nat, k < 4 → ∃ (c m : Int) (id : ByteArray) (al : List At2) (p : Option Addr) (cp : Nat), MsOk id al ∧ SA w (.slice p al.length cp) al ∧ (k = 1 → ∃ c' m' : Nat, c = c' ∧ m = m' ∧ DrOk c' m' id al) ∧ ∀ w2, (Instr.index 34 A (.int .i64 k)).run Tryz.prog w2 = .ok (.agg #[.int .i64 c, .int .i64 m, .string id, .slice p al.length cp]) w2
theorem Four8.ext {w w' : World} {A : Value} (h : Four8 w A) (hx : Ext w w') : Four8 w' A := ⟨h.1, fun k hk =>
  let ⟨c, m, id, al, p, cp, h1, h2, h3, h4⟩ := h.2 k hk
  ⟨c, m, id, al, p, cp, h1, h2.ext hx, h3, h4⟩⟩
theorem DrOk.ms {c m : Nat} {id : ByteArray} {al : List At2} (h : DrOk c m id al) : MsOk id al := by
  have h1 := h.id
  have h2 := h.len
  refine ⟨by unfold maxLen; omega, by omega, fun a ha => ?_⟩
  have := h.each a ha
  exact ⟨⟨by omega, by omega⟩, by unfold maxLen; omega⟩
/-- an array of four messages, cell by cell -/
def Cells16 (w : World) (A : Value) : Prop := ∃ (c0 m0 c1 m1 c2 m2 c3 m3 : Int) (i0 i1 i2 i3 : ByteArray) (l0 l1 l2 l3 : List At2) (p0 p1 p2 p3 : Option Addr) (k0 k1 k2 k3 : Nat),
  A = .agg #[.int .i64 c0, .int .i64 m0, .string i0, .slice p0 l0.length k0, .int .i64 c1, .int .i64 m1, .string i1, .slice p1 l1.length k1, .int .i64 c2, .int .i64 m2, .string i2, .slice p2 l2.length k2, .int .i64 c3, .int .i64 m3, .string i3, .slice p3 l3.length k3] ∧
  (MsOk i0 l0 ∧ SA w (.slice p0 l0.length k0) l0) ∧ (MsOk i1 l1 ∧ SA w (.slice p1 l1.length k1) l1) ∧ (MsOk i2 l2 ∧ SA w (.slice p2 l2.length k2) l2) ∧ (MsOk i3 l3 ∧ SA w (.slice p3 l3.length k3) l3) ∧ ∃ c' m' : Nat, c1 = c' ∧ m1 = m' ∧ DrOk c' m' i1 l1
theorem Cells16.four {w : World} {A : Value} (h : Cells16 w A) : Four8 w A := by
  obtain ⟨c0, m0, c1, m1, c2, m2, c3, m3, i0, i1, i2, i3, l0, l1, l2, l3, p0, p1, p2, p3, k0, k1, k2, k3, rfl, h0, h1, h2, h3, hd⟩ := h
  refine ⟨⟨_, rfl⟩, fun k hk => ?_⟩
  have hk4 : k = 0 ∨ k = 1 ∨ k = 2 ∨ k = 3 := by omega
  rcases hk4 with rfl | rfl | rfl | rfl
  · exact ⟨c0, m0, i0, l0, p0, k0, h0.1, h0.2, (fun h => by cases h), fun w2 => ix34_0 w2 _ _ _ _ _ _ _ _ _ _ _ _ _ _ _ _ _ _ _ _ _ _ _ _⟩
  · exact ⟨c1, m1, i1, l1, p1, k1, h1.1, h1.2, (fun _ => hd), fun w2 => ix34_1 w2 _ _ _ _ _ _ _ _ _ _ _ _ _ _ _ _ _ _ _ _ _ _ _ _⟩
  · exact ⟨c2, m2, i2, l2, p2, k2, h2.1, h2.2, (fun h => by cases h), fun w2 => ix34_2 w2 _ _ _ _ _ _ _ _ _ _ _ _ _ _ _ _ _ _ _ _ _ _ _ _⟩
  · exact ⟨c3, m3, i3, l3, p3, k3, h3.1, h3.2, (fun h => by cases h), fun w2 => ix34_3 w2 _ _ _ _ _ _ _ _ _ _ _ _ _ _ _ _ _ _ _ _ _ _ _ _⟩
theorem messages16_c {W : World} {v0 v1 : Value} {rl : List At2} {ps : List Pc3} (rc rm : Int) (rid : ByteArray) (hv0 : SA W v0 rl) (hrid : rid.size ≤ maxLen) (hrl : ∀ a ∈ rl, AtOk a)
    (c8 m16 : Nat) (id0 : ByteArray) (hv : SPc W v1 ps) (hps : ∀ p ∈ ps, PcOk p) (hc8 : c8 < 256) (hm16 : m16 < 65536) (hid : id0.size ≤ maxLen)
    (wh at_ : Nat) (N : Int) (S : ByteArray) (hwh : wh < 256) (hat : at_ < 256) (hN : in8 N) (hS : S.size ≤ maxLen) (wh2 at2 : Nat) (N2 : Int) (S2 : ByteArray) (hwh2 : wh2 < 256) (hat2 : at2 < 256) (hN2 : in8 N2) (hS2 : S2.size ≤ maxLen) :
    Calls Tryz.prog 13 #[.agg #[.int .i64 rc, .int .i64 rm, .string rid, v0], .agg #[.int .u8 c8, .int .u16 m16, .string id0, v1], .agg #[.int .u8 wh, .int .u8 at_, .int .i64 N, .string S], .agg #[.int .u8 wh2, .int .u8 at2, .int .i64 N2, .string S2]] W fun e w' => ∃ A, e = .returned A ∧ Cells16 w' A ∧ Ext W w' := by
  have s1 := fun {w : World} (hx : Ext W w) => message_c (W := w) c8 m16 id0 (SLn.ext hv hx) hps hc8 hm16 hid
  have s2 := fun {w : World} (hx : Ext W w) => cut_c (W := w) rc rm rid (hv0.ext hx) hrid hrl
  have b1 := fun {w : World} {v : Value} {al : List At2} c m id h1 h2 h3 h4 => bend_c (W := w) (v := v) (al := al) wh at_ N S c m id hwh hat hN hS h1 h2 h3 h4
  have b2 := fun {w : World} {v : Value} {al : List At2} c m id h1 h2 h3 h4 => bend_c (W := w) (v := v) (al := al) wh2 at2 N2 S2 c m id hwh2 hat2 hN2 hS2 h1 h2 h3 h4
  have hcl : (cutL rl).length ≤ 32 := by unfold cutL; rw [List.length_map, List.length_take]; omega
  have hce : ∀ a ∈ cutL rl, AtOk a := by
    intro a ha
    unfold cutL at ha
    obtain ⟨b, hb, rfl⟩ := List.mem_map.1 ha
    have hbo := hrl b (List.mem_of_mem_take hb)
    have := hbo.2
    refine ⟨hbo.1, ?_⟩
    show (b.2.extract 0 (min b.2.size 800)).size ≤ maxLen
    rw [ByteArray.size_extract]; omega
  generalize cutL rl = cl at *
  have hri : (rid.extract 0 (min rid.size 20)).size ≤ maxLen := by rw [ByteArray.size_extract]; omega
  generalize rid.extract 0 (min rid.size 20) = ri at *
  obtain ⟨p0, cp0, rfl⟩ := hv0.shape
  obtain ⟨p1, cp1, rfl⟩ := SPc.shape hv
  refine v_fn (args := [.agg #[.int .i64 rc, .int .i64 rm, .string rid, .slice p0 rl.length cp0], .agg #[.int .u8 c8, .int .u16 m16, .string id0, .slice p1 ps.length cp1], .agg #[.int .u8 wh, .int .u8 at_, .int .i64 N, .string S], .agg #[.int .u8 wh2, .int .u8 at2, .int .i64 N2, .string S2]]) TTok FFok Tryz.func13 rfl (Nat.le_of_ble_eq_true rfl) ?_
  conv => whnf
  refine VSeq.mk fun Kq hKq => ?_
  conv => whnf
  have hp := Hp.nil W
  refine hp.kboxA fun q4 w hp hx => ?_
  conv => whnf
  refine hp.kboxA fun q5 w hp hx => ?_
  conv => whnf
  refine hp.kboxA fun q6 w hp hx => ?_
  conv => whnf
  refine hp.kboxA fun q7 w hp hx => ?_
  conv => whnf
  refine hp.kalloc z34 fun b8 w hp hx => ?_
  conv => whnf
  refine hKq _ _ _ (.refl _) ?_
  clear hKq Kq
  conv => whnf
  refine VSeq.mk fun Kq hKq => ?_
  conv => whnf
  (refine ⟨_, _, Blk.ldV (vs := [_, _, _, _]) (hp.get (i := 3) rfl) TTok rfl rfl rfl, ?_⟩; conv => whnf)
  refine Calls.mono (s1 hp.ext) ?_
  clear s1
  rintro _ w ⟨_, rfl, c, m, id, al, u, rfl, dA, hr⟩
  refine ⟨_, rfl, ?_⟩
  have hp := hp.join hr
  clear hr
  simp only [List.cons_append, List.nil_append] at hp
  obtain ⟨pu, cu, rfl⟩ := row_shape (hp.get (i := 0) rfl)
  conv => whnf
  (refine hp.kalloc z24 fun al24 w hp hx => ?_; conv => whnf)
  (refine hp.kstA TTok rfl 0 rfl rfl (oneC_of rfl) (by rfl) fun w hp => ?_; try simp only [List.set_cons_zero, List.set_cons_succ, EV.val] at hp; conv => whnf)
  (refine hKq _ _ _ (.refl _) ?_; clear hKq Kq; conv => whnf)
  (refine VSeq.mk fun Kq hKq => ?_; conv => whnf)
  obtain ⟨b9, rfl⟩ : ∃ q, q = al24 := ⟨al24, rfl⟩
  refine v_mix TTok FFok mixed 12 [(0, false), (2, false), (3, false), (4, false), (6, false), (7, false), (8, false), (1, true), (5, true), (9, true), (10, true), (11, false)] (by kernel_rfl) ?_
  conv => whnf
  (refine ⟨_, fun w' hx' => Blk.ldV (vs := [_, _, _, _]) (Blk.ext (hp.get (i := 6) rfl) hx') TTok rfl rfl rfl, ?_⟩; conv => whnf)
  (refine ⟨_, fun w' hx' => Blk.ldV (vs := [_, _, _, _]) (Blk.ext (hp.get (i := 0) rfl) hx') TTok rfl rfl rfl, ?_⟩; conv => whnf)
  (refine ⟨_, fun w' hx' => Blk.ldV (vs := [_, _, _, _]) (Blk.ext (hp.get (i := 4) rfl) hx') TTok rfl rfl rfl, ?_⟩; conv => whnf)
  (refine ⟨_, fun w' hx' => Blk.ldV (vs := [_, _, _, _]) (Blk.ext (hp.get (i := 0) rfl) hx') TTok rfl rfl rfl, ?_⟩; conv => whnf)
  (refine ⟨_, fun w' hx' => Blk.ldV (vs := [_, _, _, _]) (Blk.ext (hp.get (i := 3) rfl) hx') TTok rfl rfl rfl, ?_⟩; conv => whnf)
  (refine ⟨_, fun w' hx' => Blk.ldV (vs := [_, _, _, _]) (Blk.ext (hp.get (i := 4) rfl) hx') TTok rfl rfl rfl, ?_⟩; conv => whnf)
  (refine ⟨_, fun w' hx' => Blk.ldV (vs := [_, _, _, _]) (Blk.ext (hp.get (i := 0) rfl) hx') TTok rfl rfl rfl, ?_⟩; conv => whnf)
  (intro w hx; try (have hp := hp.call hx); conv => whnf)
  refine Calls.mono (s2 hp.ext) ?_
  clear s2
  rintro _ w ⟨_, rfl, u2, rfl, hr⟩
  refine ⟨_, rfl, ?_⟩
  have hx := hr.ext
  have hp := hp.join hr
  clear hr
  simp only [List.cons_append, List.nil_append] at hp
  obtain ⟨pr, kr, rfl⟩ := row_shape (hp.get (i := 0) rfl)
  conv => whnf
  refine And.intro hx ?_
  conv => whnf
  (intro w hx; try (have hp := hp.call hx); conv => whnf)
  have hAi : id.size ≤ maxLen := dA.ms.id
  have hAe := dA.ms.each
  have hAl := dA.len
  refine Calls.mono (b1 c m id hAi (SA.of_row (hp.get (i := 2) rfl)) hAe (by omega)) ?_
  rintro _ w ⟨_, rfl, c2, m2, i2, l2, p2, k2, rfl, o2, sa, hx, hf⟩
  refine ⟨_, rfl, ?_⟩
  have hp := pushS hp hx sa hf
  clear sa hf
  conv => whnf
  refine And.intro hx ?_
  conv => whnf
  (intro w hx; try (have hp := hp.call hx); conv => whnf)
  refine Calls.mono (b1 c m id hAi (SA.of_row (hp.get (i := 3) rfl)) hAe (by omega)) ?_
  rintro _ w ⟨_, rfl, c3, m3, i3, l3, p3, k3, rfl, o3, sa, hx, hf⟩
  refine ⟨_, rfl, ?_⟩
  have hp := pushS hp hx sa hf
  clear sa hf
  conv => whnf
  refine And.intro hx ?_
  conv => whnf
  have o2l := o2.len
  have o3l := o3.len
  (intro w hx; try (have hp := hp.call hx); conv => whnf)
  refine Calls.mono (b2 c3 m3 i3 o3.id (hp.get (i := 0) rfl) o3.each (by omega)) ?_
  rintro _ w ⟨_, rfl, c4, m4, i4, l4, p4, k4, rfl, o4, sa, hx, hf⟩
  refine ⟨_, rfl, ?_⟩
  have hp := pushS hp hx sa hf
  clear sa hf
  have o4l := o4.len
  conv => whnf
  refine And.intro hx ?_
  conv => whnf
  (refine ⟨_, fun w' hx' => bld34_0_1_2_3 w' _ _ _ _ _ _ _ _ _ _ _ _ _ _ _ _, ?_⟩; conv => whnf)
  (intro w hx; try (have hp := hp.call hx); conv => whnf)
  (refine hp.kstA TTok rfl 6 rfl rfl (oneC_of rfl) (by rfl) fun w hp => ?_; try simp only [List.set_cons_zero, List.set_cons_succ, EV.val] at hp; conv => whnf)
  (refine hKq _ _ _ (.refl _) ?_; clear hKq Kq; conv => whnf)
  (refine ⟨_, Blk.lvN (hp.get (i := 6) rfl) TTok rfl rfl, ?_⟩; conv => whnf)
  exact ⟨⟨rc, rm, c, m, c2, m2, c4, m4, ri, id, i2, i4, cl, al, l2, l4, pr, pu, p2, p4, kr, cu, k2, k4, rfl, ⟨⟨hri, by omega, hce⟩, SA.of_row (hp.get (i := 3) rfl)⟩, ⟨dA.ms, SA.of_row (hp.get (i := 5) rfl)⟩, ⟨⟨o2.id, by omega, o2.each⟩, hp.get (i := 2) rfl⟩, ⟨⟨o4.id, by omega, o4.each⟩, hp.get (i := 0) rfl⟩, c, m, rfl, rfl, dA⟩, hp.ext⟩
set_option maxHeartbeats 51200000
theorem at_rd {w : World} {cs : List Value} (h : Rd w (.ag sh8A) cs) : ∃ a : At2, AtOk a ∧ cs = atC a := by
  obtain ⟨_, _, rfl, ⟨k, rfl, hk⟩, _, _, rfl, ⟨s, rfl, hs⟩, h3⟩ := h
  obtain rfl : _ = [] := h3
  exact ⟨(k, s), ⟨wf_in8 hk, hs⟩, rfl⟩
def sh8R : Sh := .cons (.int .i64) (.cons (.int .i64) (.cons .str (.cons (.sl (.ag sh8A)) .nil)))
theorem raw_rd {w : World} {cs : List Value} (h : Rd w sh8R cs) : ∃ (c m : Int) (id : ByteArray) (v : Value) (al : List At2), id.size ≤ maxLen ∧ SA w v al ∧ (∀ a ∈ al, AtOk a) ∧ cs = [.int .i64 c, .int .i64 m, .string id, v] := by
  obtain ⟨_, _, rfl, ⟨c, rfl, hc⟩, _, _, rfl, ⟨m, rfl, hm⟩, _, _, rfl, ⟨s, rfl, hs⟩, _, _, rfl, ⟨v, xs, rfl, hv, hx⟩, h3⟩ := h
  obtain rfl : _ = [] := h3
  obtain ⟨al, rfl, ha⟩ := Rd.all (Q := AtOk) (f := atC) (fun cs h => at_rd h) hx
  exact ⟨c, m, s, v, al, hs, hv, ha, rfl⟩
def sh8B : Sh := .cons (.int .u8) (.cons (.int .u8) (.cons (.int .i64) (.cons .str .nil)))
theorem bend_rd {w : World} {cs : List Value} (h : Rd w sh8B cs) : ∃ (wh a : Nat) (N : Int) (S : ByteArray), wh < 256 ∧ a < 256 ∧ in8 N ∧ S.size ≤ maxLen ∧ cs = [.int .u8 wh, .int .u8 a, .int .i64 N, .string S] := by
  obtain ⟨_, _, rfl, h1, _, _, rfl, h2, _, _, rfl, ⟨N, rfl, hN⟩, _, _, rfl, ⟨S, rfl, hS⟩, h3⟩ := h
  obtain rfl : _ = [] := h3
  obtain ⟨wh, k1, rfl⟩ := u8_rd h1
  obtain ⟨a, k2, rfl⟩ := u8_rd h2
  exact ⟨wh, a, N, S, k1, k2, wf_in8 hN, hS, rfl⟩
set_option maxHeartbeats 4000000
theorem ext_mid {s : ByteArray} {p q r : List UInt8} {a b : Nat} (h : s.data.toList = p ++ (q ++ r)) (ha : p.length = a) (hb : a + q.length = b) : (s.extract a b).data.toList = q := by
  subst ha hb
  rw [ext_toList, h, ← List.append_assoc, List.take_left' (by rw [List.length_append]), List.drop_left' rfl]
theorem attrsL_at {l : List At2} {k : Nat} {a : At2} (h : l[k]? = some a) : attrsL l = attrsL (l.take k) ++ (attrL a ++ attrsL (l.drop (k + 1))) := by
  have hk : k < l.length := (List.getElem?_eq_some_iff.1 h).1
  have h1 : l = l.take k ++ (a :: l.drop (k + 1)) := by
    conv => lhs; rw [← List.take_append_drop k l, List.drop_eq_getElem_cons hk]
    rw [(List.getElem?_eq_some_iff.1 h).2]
  conv => lhs; rw [h1]
  unfold attrsL
  rw [List.flatMap_append, List.flatMap_cons]
theorem wr_at {c m : Nat} {id : ByteArray} {L : List At2} {k : Nat} {a : At2} (hid : id.size = 12) (h : L[k]? = some a) (hf : fitA a) (s : ByteArray) (hs : s = wrB c m id L 0) (at_ : Nat) (he : at_ = 20 + sizeN (L.take k)) :
    numB (s.extract at_ (at_ + 2)) = a.1.toNat ∧ numB (s.extract (at_ + 2) (at_ + 4)) = a.2.size ∧ s.extract (at_ + 4) (at_ + 4 + a.2.size) = a.2 ∧ at_ + 4 + a.2.size ≤ s.size := by
  have hl : s.data.toList = (headL c m id (sizeN L + 0) ++ attrsL (L.take k)) ++ (beL 2 a.1.toNat ++ (beL 2 a.2.size ++ (a.2.data.toList ++ (List.replicate (padN a.2.size) 0 ++ attrsL (L.drop (k + 1)))))) := by
    rw [hs]
    unfold wrB
    rw [mk_toList, attrsL_at h]
    unfold attrL
    rw [padB_list]
    simp only [List.append_assoc]
  have hp : (headL c m id (sizeN L + 0) ++ attrsL (L.take k)).length = at_ := by
    rw [List.length_append, headL_len, attrsL_len, he, hid]
  generalize headL c m id (sizeN L + 0) ++ attrsL (L.take k) = P at hl hp
  have h1 := ext_mid (b := at_ + 2) hl hp (by rw [beL_len])
  rw [← List.append_assoc] at hl
  have h2 := ext_mid (a := at_ + 2) (b := at_ + 4) hl (by rw [List.length_append, beL_len, hp]) (by rw [beL_len])
  rw [← List.append_assoc] at hl
  have h3 := ext_mid (a := at_ + 4) (b := at_ + 4 + a.2.size) hl (by rw [List.length_append, List.length_append, beL_len, beL_len, hp]) (by rw [toList_len])
  have h4 := congrArg List.length hl
  rw [toList_len, List.length_append, List.length_append, List.length_append, List.length_append, beL_len, beL_len, hp, toList_len] at h4
  obtain ⟨f0, f1, f2⟩ := hf
  refine ⟨?_, ?_, ba_eq h3, by omega⟩
  · unfold numB; rw [h1]; exact numL_beL 2 _ (by omega)
  · unfold numB; rw [h2]; exact numL_beL 2 _ (by omega)
/-- where octets are a message: what is at a place -/
theorem dec_at {s : ByteArray} (h0 : decC s = 0) {k at_ : Nat} (he : at_ = 20 + sizeN ((decA s).1.take k)) (hk : at_ + 4 ≤ s.size) :
    ∃ a : At2, (decA s).1[k]? = some a ∧ a.1 = (numB (s.extract at_ (at_ + 2)) : Nat) ∧ numB (s.extract (at_ + 2) (at_ + 4)) = a.2.size ∧ s.extract (at_ + 4) (at_ + 4 + a.2.size) = a.2 ∧ at_ + 4 + a.2.size ≤ s.size := by
  obtain ⟨h1, h2⟩ := of_dec h0
  have hz := stunB_t h2
  have hsz := congrArg ByteArray.size h1
  rw [wrB_size] at hsz
  obtain ⟨L, hL⟩ : ∃ L, (decA s).1 = L := ⟨_, rfl⟩
  rw [hL] at he h1 h2 hz hsz ⊢
  have hkl : k < L.length := by
    by_cases hh : k < L.length
    · exact hh
    · rw [List.take_of_length_le (by omega)] at he
      omega
  have ha : L[k]? = some L[k] := List.getElem?_eq_getElem hkl
  have hf := fitA_of (hz.2.2.2.2.2.2.1 L[k] (List.getElem_mem hkl))
  obtain ⟨g1, g2, g3, g4⟩ := wr_at hz.2.2.2.2.1 ha hf s h1 at_ he
  obtain ⟨f0, f1, f2⟩ := hf
  exact ⟨L[k], ha, by rw [g1]; omega, g2, g3, g4⟩
theorem dec_end {s : ByteArray} (h0 : decC s = 0) {k : Nat} (hk : ¬ 20 + sizeN ((decA s).1.take k) + 4 ≤ s.size) : (decA s).1.take k = (decA s).1 := by
  obtain ⟨h1, h2⟩ := of_dec h0
  have hz := stunB_t h2
  have hsz := congrArg ByteArray.size h1
  rw [wrB_size] at hsz
  obtain ⟨L, hL⟩ : ∃ L, (decA s).1 = L := ⟨_, rfl⟩
  rw [hL] at hk h1 h2 hz hsz ⊢
  by_cases hh : k < L.length
  · have ha : L[k]? = some L[k] := List.getElem?_eq_getElem hh
    have h3 := sizeN_take ha
    have h4 := sizeN_tk L (k + 1)
    unfold atN at h3
    omega
  · exact List.take_of_length_le (by omega)
/-- the answer, where it is one of form -/
theorem decC_form {s : ByteArray} (h1 : ¬ 1200 < s.size) (h2 : ¬ s.size < 20) (h3 : ¬ s.size < 20 + numB (s.extract 2 4)) : decC s = 0 ∨ decC s = 5 := by
  unfold decC
  rw [if_neg h1, if_neg h2, if_neg h3]
  split
  · exact .inl rfl
  · exact .inr rfl
/-- the search for the type: what is found among the first pairs -/
def fdB (T i : Nat) : Bool := decide (T < 16384 ∧ clsN T * 4096 + mthN T < i)
def fdC (T i : Nat) : Nat := if fdB T i = true then clsN T else 0
def fdM (T i : Nat) : Nat := if fdB T i = true then mthN T else 0
theorem fd_hit {T k j : Nat} (hk : k < 4) (hj : j < 4096) (h : kindN k j = T) : fdB T (4096 * k + j + 1) = true ∧ clsN T = k ∧ mthN T = j := by
  have hb := kindN_bd k j
  obtain ⟨h1, h2⟩ := kind_inv hk hj
  rw [h] at h1 h2 hb
  refine ⟨decide_eq_true ⟨by omega, by rw [h1, h2]; omega⟩, h1, h2⟩
theorem fd_miss {T k j : Nat} (hk : k < 4) (hj : j < 4096) (h : ¬ kindN k j = T) : fdB T (4096 * k + j + 1) = fdB T (4096 * k + j) := by
  unfold fdB
  by_cases hT : T < 16384
  · obtain ⟨h1, h2, h3⟩ := head_t hT
    have hne : ¬ clsN T * 4096 + mthN T = 4096 * k + j := fun e => h (by
      have e1 : clsN T = k := by omega
      have e2 : mthN T = j := by omega
      rw [← h3, e1, e2])
    congr 1
    exact propext ⟨fun ⟨a, b⟩ => ⟨a, by omega⟩, fun ⟨a, b⟩ => ⟨a, by omega⟩⟩
  · rw [decide_eq_false fun h => hT h.1, decide_eq_false fun h => hT h.1]
theorem fd_end (T : Nat) : fdB T 16384 = decide (T < 16384) := by
  unfold fdB
  by_cases hT : T < 16384
  · obtain ⟨h1, h2, h3⟩ := head_t hT
    rw [decide_eq_true ⟨hT, by omega⟩, decide_eq_true hT]
  · rw [decide_eq_false fun h => hT h.1, decide_eq_false hT]
theorem fd_0 (T : Nat) : fdB T 0 = false := decide_eq_false fun h => by omega
set_option maxHeartbeats 25600000
/-- what is returned: the message of octets, or an error -/
def Dec8 (W : World) (s : ByteArray) (u : Value) (w' : World) : Prop :=
  (decC s = 0 ∧ ∃ v, u = .tuple #[.agg #[.int .i64 (clsN (hdT s)), .int .i64 (mthN (hdT s)), .string (s.extract 8 20), v], .int .i64 0] ∧ HpM [] W w' [row 54 2 v (decA s).1.length (flatC (decA s).1)]) ∨
  (decC s ≠ 0 ∧ u = .tuple #[zStun, .int .i64 (decC s)] ∧ Ext W w')
theorem Decode8_c {W : World} (s : ByteArray) (hs : s.size ≤ maxLen) :
    Calls Tryz.prog 20 #[.string s] W fun e w' => ∃ u, e = .returned u ∧ Dec8 W s u w' := by
  unfold maxLen at hs
  have hD : decC s = if 1200 < s.size then 3 else if s.size < 20 then 7 else if s.size < 20 + numB (s.extract 2 4) then 7 else if okD s = true ∧ (decA s).2 = true ∧ stunB (clsN (hdT s)) (mthN (hdT s)) (s.extract 8 20) (decA s).1 = true then 0 else 5 := rfl
  refine v_fn (args := [.string s]) TTok FFok Tryz.func20 rfl (Nat.le_of_ble_eq_true rfl) ?_
  have hp := Hp.nil W
  conv => whnf
  refine VSeq.mk fun Kq hKq => ?_
  conv => whnf
  (refine hp.kalloc z24 fun al24 w hp hx => ?_; conv => whnf)
  (refine hKq _ _ _ (.refl _) ?_; clear hKq Kq; conv => whnf)
  (refine VSeq.mk fun Kq hKq => ?_; conv => whnf)
  (refine VSeq.mk fun Kq hKq => ?_; conv => whnf)
  (refine hKq _ _ _ (.refl _) ?_; clear hKq Kq; conv => whnf)
  obtain ⟨b2, rfl⟩ : ∃ q, q = al24 := ⟨al24, rfl⟩
  have hp0 := hp
  refine ⟨fun h1 => ?_, fun h1 => ?_⟩
  · have h1 := of_decide_eq_true h1
    conv => whnf
    refine VSeq.mk fun Kq hKq => ?_
    conv => whnf
    rw [if_pos (by omega)] at hD
    (refine ⟨_, _, bld24_ _, ?_⟩; conv => whnf)
    (refine hp.kstA TTok rfl 0 rfl rfl (oneC_of rfl) (by rfl) fun w hp => ?_; try simp only [List.set_cons_zero, List.set_cons_succ, EV.val] at hp; conv => whnf)
    (refine hKq _ _ _ (.refl _) ?_; clear hKq Kq; conv => whnf)
    (refine ⟨_, Blk.lvN (hp.get (i := 0) rfl) TTok rfl rfl, ?_⟩; conv => whnf)
    exact .inr ⟨by omega, by rw [hD]; rfl, hp.ext⟩
  have h1 := of_decide_eq_false h1
  conv => whnf
  refine hKq _ _ _ (.refl _) ?_
  clear hKq Kq
  conv => whnf
  refine VSeq.mk fun Kq hKq => ?_
  conv => whnf
  refine VSeq.mk fun Kq hKq => ?_
  conv => whnf
  refine VSeq.mk fun Kq hKq => ?_
  conv => whnf
  refine hKq _ _ _ (.refl _) ?_
  clear hKq Kq
  conv => whnf
  rw [if_neg (by omega)] at hD
  refine ⟨fun h2 => ?_, fun h2 => ?_⟩
  · have h2 := of_decide_eq_true h2
    conv => whnf
    refine hKq _ _ _ (.refl _) ?_
    clear hKq Kq
    conv => whnf
    refine VSeq.mk fun Kq hKq => ?_
    conv => whnf
    rw [if_pos (by omega)] at hD
    (refine ⟨_, _, bld24_ _, ?_⟩; conv => whnf)
    (refine hp.kstA TTok rfl 0 rfl rfl (oneC_of rfl) (by rfl) fun w hp => ?_; try simp only [List.set_cons_zero, List.set_cons_succ, EV.val] at hp; conv => whnf)
    (refine hKq _ _ _ (.refl _) ?_; clear hKq Kq; conv => whnf)
    (refine ⟨_, Blk.lvN (hp.get (i := 0) rfl) TTok rfl rfl, ?_⟩; conv => whnf)
    exact .inr ⟨by omega, by rw [hD]; rfl, hp.ext⟩
  have h2 := of_decide_eq_false h2
  conv => whnf
  rw [if_neg (by omega)] at hD
  skip
  have zs24 := size_extract s 2 4 (by omega)
  have zs02 := size_extract s 0 2 (by omega)
  have hnb : numB (s.extract 2 4) < 65536 := numL_lt 2 _ (by rw [toList_len, zs24])
  refine ⟨2, 4, ⟨by first | rfl | omega, by first | rfl | omega, by omega, by omega⟩, ?_⟩
  conv => whnf
  refine PureF.use (number_p (s.extract 2 4) (by omega)) fun w hx => ?_
  try (have hp := hp.call hx)
  conv => whnf
  refine Or.inl (And.intro (by omega) ?_)
  conv => whnf
  refine hKq _ _ _ (.refl _) ?_
  clear hKq Kq
  conv => whnf
  skip
  refine ⟨fun h3 => ?_, fun h3 => ?_⟩
  · have h3 := of_decide_eq_true h3
    conv => whnf
    refine VSeq.mk fun Kq hKq => ?_
    conv => whnf
    rw [if_pos (by omega)] at hD
    (refine ⟨_, _, bld24_ _, ?_⟩; conv => whnf)
    (refine hp.kstA TTok rfl 0 rfl rfl (oneC_of rfl) (by rfl) fun w hp => ?_; try simp only [List.set_cons_zero, List.set_cons_succ, EV.val] at hp; conv => whnf)
    (refine hKq _ _ _ (.refl _) ?_; clear hKq Kq; conv => whnf)
    (refine ⟨_, Blk.lvN (hp.get (i := 0) rfl) TTok rfl rfl, ?_⟩; conv => whnf)
    exact .inr ⟨by omega, by rw [hD]; rfl, hp.ext⟩
  have h3 := of_decide_eq_false h3
  conv => whnf
  refine hKq _ _ _ (.refl _) ?_
  clear hKq Kq
  conv => whnf
  refine VSeq.mk fun Kq hKq => ?_
  conv => whnf
  have hD2 := decC_form (s := s) (by omega) (by omega) (by omega)
  clear hD
  refine ⟨8, 20, ⟨by first | rfl | omega, by first | rfl | omega, by omega, by omega⟩, ?_⟩
  conv => whnf
  (refine ⟨_, _, bld24_2 _ _, ?_⟩; conv => whnf)
  (refine hp.kalloc z24 fun al24 w hp hx => ?_; conv => whnf)
  (refine hp.kstA TTok rfl 0 rfl rfl (oneC_of rfl) (by rfl) fun w hp => ?_; try simp only [List.set_cons_zero, List.set_cons_succ, EV.val] at hp; conv => whnf)
  (refine hKq _ _ _ (.refl _) ?_; clear hKq Kq; conv => whnf)
  (refine VSeq.mk fun Kq hKq => ?_; conv => whnf)
  (refine hKq _ _ _ (.refl _) ?_; clear hKq Kq; conv => whnf)
  (refine VSeq.mk fun Kq hKq => ?_; conv => whnf)
  (refine VSeq.mk fun Kq hKq => ?_; conv => whnf)
  (refine hKq _ _ _ (.refl _) ?_; clear hKq Kq; conv => whnf)
  obtain ⟨b4, rfl⟩ : ∃ q, q = al24 := ⟨al24, rfl⟩
  obtain ⟨T, hT⟩ : ∃ T, hdT s = T := ⟨_, rfl⟩
  obtain ⟨id, hid⟩ : ∃ id, s.extract 8 20 = id := ⟨_, rfl⟩
  have h02 := number_p (s.extract 0 2) (by omega)
  change PureF _ _ _ (.int .i64 (hdT s : Nat)) at h02
  rw [hT] at h02
  rw [hid] at hp
  have hp : HpM [] W w [blk b4 [.int .i64 (fdC T 0), .int .i64 (fdM T 0), .string id, .slice none 0 0] 24, blk b2 [.int .i64 0, .int .i64 0, .string ⟨#[]⟩, .slice none 0 0] 24] := by
    unfold fdC fdM
    rw [fd_0]
    exact hp
  refine ⟨fun mm e w' => ∃ (k : Nat) (b : Bool), fdB T (4096 * k) = b ∧ mm + k = 4 ∧ e = [(0, .v (.string s)), (2, .v (.pointer (some ⟨b2, 0, none⟩))), (4, .v (.pointer (some ⟨b4, 0, none⟩))), (5, litE (.bool b)), (6, .v (.int .i64 k))] ∧ HpM [] W w' [blk b4 [.int .i64 (fdC T (4096 * k)), .int .i64 (fdM T (4096 * k)), .string id, .slice none 0 0] 24, blk b2 [.int .i64 0, .int .i64 0, .string ⟨#[]⟩, .slice none 0 0] 24],
    ⟨4, _, ⟨0, false, fd_0 T, by omega, rfl, hp⟩, sub_cons rfl (sub_cons rfl (sub_cons rfl (sub_cons rfl (sub_cons rfl sub_nil))))⟩, ?_⟩
  clear hp hx hp0
  repeat clear hp
  rintro mm _ w ⟨k, b, hb, hmm, rfl, hp⟩
  cases b with
  | false =>
    conv => whnf
    refine VSeq.mk fun Kq hKq => ?_
    conv => whnf
    refine VSeq.mk fun Kq hKq => ?_
    conv => whnf
    refine hKq _ _ _ (.refl _) ?_
    clear hKq Kq
    conv => whnf
    refine ⟨fun hlt => ?_, fun hlt => ?_⟩
    · have hlt := of_decide_eq_true hlt
      conv => whnf
      refine hKq _ _ _ (.refl _) ?_
      clear hKq Kq
      conv => whnf
      refine VSeq.mk fun Kq hKq => ?_
      conv => whnf
      refine VSeq.mk fun Kq hKq => ?_
      conv => whnf
      refine hKq _ _ _ (.refl _) ?_
      clear hKq Kq
      conv => whnf
      skip
      refine ⟨fun m2 e w' => ∃ (j : Nat) (b : Bool), fdB T (4096 * k + j) = b ∧ m2 + j = 4096 ∧ e = [(0, .v (.string s)), (2, .v (.pointer (some ⟨b2, 0, none⟩))), (4, .v (.pointer (some ⟨b4, 0, none⟩))), (5, litE (.bool b)), (6, .v (.int .i64 k)), (7, .v (.int .i64 j))] ∧ HpM [] W w' [blk b4 [.int .i64 (fdC T (4096 * k + j)), .int .i64 (fdM T (4096 * k + j)), .string id, .slice none 0 0] 24, blk b2 [.int .i64 0, .int .i64 0, .string ⟨#[]⟩, .slice none 0 0] 24],
        ⟨4096, _, ⟨0, false, hb, by omega, rfl, hp⟩, sub_cons rfl (sub_cons rfl (sub_cons rfl (sub_cons rfl (sub_cons rfl (sub_cons rfl sub_nil)))))⟩, ?_⟩
      clear hp
      repeat clear hp
      rintro m2 _ w ⟨j, b, hb, hm2, rfl, hp⟩
      cases b with
      | false =>
        conv => whnf
        refine VSeq.mk fun Kq hKq => ?_
        conv => whnf
        refine VSeq.mk fun Kq hKq => ?_
        conv => whnf
        refine hKq _ _ _ (.refl _) ?_
        clear hKq Kq
        conv => whnf
        refine ⟨fun hl2 => ?_, fun hl2 => ?_⟩
        · have hl2 := of_decide_eq_true hl2
          conv => whnf
          refine hKq _ _ _ (.refl _) ?_
          clear hKq Kq
          conv => whnf
          refine VSeq.mk fun Kq hKq => ?_
          conv => whnf
          refine VSeq.mk fun Kq hKq => ?_
          conv => whnf
          have hk8 := kind8_p k j (by omega) (by omega)
          refine v_mixA TTok FFok mixed [(0, false), (1, false), (2, false), (3, false), (4, false), (5, false), (6, false)] (by kernel_rfl) ?_
          conv => whnf
          first | refine PureF.quiet (hk8) ?_ | refine PureF.quietE (hk8) ?_
          conv => whnf
          refine ⟨2, ⟨by first | rfl | omega, by omega⟩, ?_⟩
          conv => whnf
          first | refine PureF.quiet (h02) ?_ | refine PureF.quietE (h02) ?_
          conv => whnf
          intro w hx
          try (have hp := hp.call hx)
          conv => whnf
          refine hKq _ _ _ (.refl _) ?_
          clear hKq Kq
          conv => whnf
          refine ⟨fun hq => ?_, fun hq => ?_⟩
          · have hq := of_decide_eq_true hq
            conv => whnf
            refine VSeq.mk fun Kq hKq => ?_
            conv => whnf
            obtain ⟨f1, f2, f3⟩ := fd_hit (T := T) (show k < 4 by omega) (show j < 4096 by omega) (by omega)
            have g1 : fdC T (4096 * k + j + 1) = k := by unfold fdC; rw [if_pos f1, f2]
            have g2 : fdM T (4096 * k + j + 1) = j := by unfold fdM; rw [if_pos f1, f3]
            (refine hp.kst1 TTok (by rfl) 0 (by rfl) (by rfl) (by rfl) (Nat.le_of_ble_eq_true rfl) fun w hp => ?_; try simp only [List.set_cons_zero, List.set_cons_succ, EV.val] at hp; conv => whnf)
            (refine hKq _ _ _ (.refl _) ?_; clear hKq Kq; conv => whnf)
            (refine VSeq.mk fun Kq hKq => ?_; conv => whnf)
            (refine hp.kst1 TTok (by rfl) 0 (by rfl) (by rfl) (by rfl) (Nat.le_of_ble_eq_true rfl) fun w hp => ?_; try simp only [List.set_cons_zero, List.set_cons_succ, EV.val] at hp; conv => whnf)
            (refine hKq _ _ _ (.refl _) ?_; clear hKq Kq; conv => whnf)
            (refine hKq _ _ _ (.refl _) ?_; clear hKq Kq; conv => whnf)
            (refine Or.inl (And.intro (by first | omega | decide) ?_); conv => whnf)
            exact ⟨m2 - 1, _, by omega, ⟨j + 1, true, f1, by omega, rfl, by rw [← Nat.add_assoc, g1, g2]; exact hp⟩, sub_cons rfl (sub_cons rfl (sub_cons rfl (sub_cons rfl (sub_cons rfl (sub_cons rfl sub_nil)))))⟩
          · have hq := of_decide_eq_false hq
            conv => whnf
            refine hKq _ _ _ (.refl _) ?_
            clear hKq Kq
            conv => whnf
            refine Or.inl (And.intro (by omega) ?_)
            conv => whnf
            have f1 := fd_miss (T := T) (show k < 4 by omega) (show j < 4096 by omega) (by omega)
            have g1 : fdC T (4096 * k + j + 1) = fdC T (4096 * k + j) := by unfold fdC; rw [f1]
            have g2 : fdM T (4096 * k + j + 1) = fdM T (4096 * k + j) := by unfold fdM; rw [f1]
            exact ⟨m2 - 1, _, by omega, ⟨j + 1, false, f1.trans hb, by omega, rfl, by rw [← Nat.add_assoc, g1, g2]; exact hp⟩, sub_cons rfl (sub_cons rfl (sub_cons rfl (sub_cons rfl (sub_cons rfl (sub_cons rfl sub_nil)))))⟩
        · have hl2 := of_decide_eq_false hl2
          conv => whnf
          clear hKq Kq
          refine hKq _ _ _ (.refl _) ?_
          clear hKq Kq
          conv => whnf
          refine Or.inl (And.intro (by omega) ?_)
          conv => whnf
          obtain rfl : j = 4096 := by omega
          exact ⟨mm - 1, _, by omega, ⟨k + 1, false, by rw [Nat.mul_add]; exact hb, by omega, rfl, by rw [Nat.mul_add]; exact hp⟩, sub_cons rfl (sub_cons rfl (sub_cons rfl (sub_cons rfl (sub_cons rfl sub_nil))))⟩
      | true =>
        conv => whnf
        refine VSeq.mk fun Kq hKq => ?_
        conv => whnf
        refine VSeq.mk fun Kq hKq => ?_
        conv => whnf
        refine hKq _ _ _ (.refl _) ?_
        clear hKq Kq
        conv => whnf
        refine ⟨fun hl2 => ?_, fun hl2 => ?_⟩
        · have hl2 := of_decide_eq_true hl2
          conv => whnf
          refine hKq _ _ _ (.refl _) ?_
          clear hKq Kq
          conv => whnf
          refine VSeq.mk fun Kq hKq => ?_
          conv => whnf
          refine VSeq.mk fun Kq hKq => ?_
          conv => whnf
          have hk8 := kind8_p k j (by omega) (by omega)
          refine v_mixA TTok FFok mixed [(0, false), (1, false), (2, false), (3, false), (4, false), (5, false), (6, false)] (by kernel_rfl) ?_
          conv => whnf
          first | refine PureF.quiet (hk8) ?_ | refine PureF.quietE (hk8) ?_
          conv => whnf
          refine ⟨2, ⟨by first | rfl | omega, by omega⟩, ?_⟩
          conv => whnf
          first | refine PureF.quiet (h02) ?_ | refine PureF.quietE (h02) ?_
          conv => whnf
          intro w hx
          try (have hp := hp.call hx)
          conv => whnf
          refine hKq _ _ _ (.refl _) ?_
          clear hKq Kq
          conv => whnf
          refine ⟨fun hq => ?_, fun hq => ?_⟩
          · have hq := of_decide_eq_true hq
            conv => whnf
            refine VSeq.mk fun Kq hKq => ?_
            conv => whnf
            obtain ⟨f1, f2, f3⟩ := fd_hit (T := T) (show k < 4 by omega) (show j < 4096 by omega) (by omega)
            have g1 : fdC T (4096 * k + j + 1) = k := by unfold fdC; rw [if_pos f1, f2]
            have g2 : fdM T (4096 * k + j + 1) = j := by unfold fdM; rw [if_pos f1, f3]
            (refine hp.kst1 TTok (by rfl) 0 (by rfl) (by rfl) (by rfl) (Nat.le_of_ble_eq_true rfl) fun w hp => ?_; try simp only [List.set_cons_zero, List.set_cons_succ, EV.val] at hp; conv => whnf)
            (refine hKq _ _ _ (.refl _) ?_; clear hKq Kq; conv => whnf)
            (refine VSeq.mk fun Kq hKq => ?_; conv => whnf)
            (refine hp.kst1 TTok (by rfl) 0 (by rfl) (by rfl) (by rfl) (Nat.le_of_ble_eq_true rfl) fun w hp => ?_; try simp only [List.set_cons_zero, List.set_cons_succ, EV.val] at hp; conv => whnf)
            (refine hKq _ _ _ (.refl _) ?_; clear hKq Kq; conv => whnf)
            (refine hKq _ _ _ (.refl _) ?_; clear hKq Kq; conv => whnf)
            (refine Or.inl (And.intro (by first | omega | decide) ?_); conv => whnf)
            exact ⟨m2 - 1, _, by omega, ⟨j + 1, true, f1, by omega, rfl, by rw [← Nat.add_assoc, g1, g2]; exact hp⟩, sub_cons rfl (sub_cons rfl (sub_cons rfl (sub_cons rfl (sub_cons rfl (sub_cons rfl sub_nil)))))⟩
          · have hq := of_decide_eq_false hq
            conv => whnf
            refine hKq _ _ _ (.refl _) ?_
            clear hKq Kq
            conv => whnf
            refine Or.inl (And.intro (by omega) ?_)
            conv => whnf
            have f1 := fd_miss (T := T) (show k < 4 by omega) (show j < 4096 by omega) (by omega)
            have g1 : fdC T (4096 * k + j + 1) = fdC T (4096 * k + j) := by unfold fdC; rw [f1]
            have g2 : fdM T (4096 * k + j + 1) = fdM T (4096 * k + j) := by unfold fdM; rw [f1]
            exact ⟨m2 - 1, _, by omega, ⟨j + 1, true, f1.trans hb, by omega, rfl, by rw [← Nat.add_assoc, g1, g2]; exact hp⟩, sub_cons rfl (sub_cons rfl (sub_cons rfl (sub_cons rfl (sub_cons rfl (sub_cons rfl sub_nil)))))⟩
        · have hl2 := of_decide_eq_false hl2
          conv => whnf
          clear hKq Kq
          refine hKq _ _ _ (.refl _) ?_
          clear hKq Kq
          conv => whnf
          refine Or.inl (And.intro (by omega) ?_)
          conv => whnf
          obtain rfl : j = 4096 := by omega
          exact ⟨mm - 1, _, by omega, ⟨k + 1, true, by rw [Nat.mul_add]; exact hb, by omega, rfl, by rw [Nat.mul_add]; exact hp⟩, sub_cons rfl (sub_cons rfl (sub_cons rfl (sub_cons rfl (sub_cons rfl sub_nil))))⟩
    · have hlt := of_decide_eq_false hlt
      conv => whnf
      clear hKq Kq
      refine hKq _ _ _ (.refl _) ?_
      clear hKq Kq
      conv => whnf
      refine VSeq.mk fun Kq hKq => ?_
      conv => whnf
      refine hKq _ _ _ (.refl _) ?_
      clear hKq Kq
      conv => whnf
      refine VSeq.mk fun Kq hKq => ?_
      conv => whnf
      obtain rfl : k = 4 := by omega
      clear h02
      have hT2 : ¬ T < 16384 := of_decide_eq_false ((fd_end T).symm.trans hb)
      have hD : decC s = 5 := hD2.resolve_left fun h => hT2 (by rw [← hT]; exact ((okD_iff s).1 ((decC_iff s).1 h).2.2.1).1)
      skip
      refine ⟨fun mm e w' => mm = 0 ∧ e = [(0, .v (.string s)), (2, .v (.pointer (some ⟨b2, 0, none⟩))), (4, .v (.pointer (some ⟨b4, 0, none⟩))), (5, litE (.bool false))] ∧ HpM [] W w' [blk b4 [.int .i64 (fdC T (4096 * 4)), .int .i64 (fdM T (4096 * 4)), .string id, .slice none 0 0] 24, blk b2 [.int .i64 0, .int .i64 0, .string ⟨#[]⟩, .slice none 0 0] 24], ⟨0, _, ⟨rfl, rfl, hp⟩, sub_cons rfl (sub_cons rfl (sub_cons rfl (sub_cons rfl sub_nil)))⟩, ?_⟩
      clear hp
      repeat clear hp
      rintro mm _ w ⟨-, rfl, hp⟩
      (refine VSeq.mk fun Kq hKq => ?_; conv => whnf)
      (refine VSeq.mk fun Kq hKq => ?_; conv => whnf)
      (refine VSeq.mk fun Kq hKq => ?_; conv => whnf)
      (refine hKq _ _ _ (.refl _) ?_; clear hKq Kq; conv => whnf)
      (refine hKq _ _ _ (.refl _) ?_; clear hKq Kq; conv => whnf)
      (clear hKq Kq; refine hKq _ _ _ (.refl _) ?_; clear hKq Kq; conv => whnf)
      (refine VSeq.mk fun Kq hKq => ?_; conv => whnf)
      (refine VSeq.mk fun Kq hKq => ?_; conv => whnf)
      (refine VSeq.mk fun Kq hKq => ?_; conv => whnf)
      (refine hKq _ _ _ (.refl _) ?_; clear hKq Kq; conv => whnf)
      (refine VSeq.mk fun Kq hKq => ?_; conv => whnf)
      (refine hKq _ _ _ (.refl _) ?_; clear hKq Kq; conv => whnf)
      (refine hKq _ _ _ (.refl _) ?_; clear hKq Kq; conv => whnf)
      (refine VSeq.mk fun Kq hKq => ?_; conv => whnf)
      (refine ⟨_, _, bld24_ _, ?_⟩; conv => whnf)
      (refine hp.kstA TTok rfl 1 rfl rfl (oneC_of rfl) (by rfl) fun w hp => ?_; try simp only [List.set_cons_zero, List.set_cons_succ, EV.val] at hp; conv => whnf)
      (refine hKq _ _ _ (.refl _) ?_; clear hKq Kq; conv => whnf)
      (refine ⟨_, Blk.lvN (hp.get (i := 1) rfl) TTok rfl rfl, ?_⟩; conv => whnf)
      exact .inr ⟨by omega, by rw [hD]; rfl, hp.ext⟩
  | true =>
    conv => whnf
    refine VSeq.mk fun Kq hKq => ?_
    conv => whnf
    refine VSeq.mk fun Kq hKq => ?_
    conv => whnf
    refine hKq _ _ _ (.refl _) ?_
    clear hKq Kq
    conv => whnf
    refine ⟨fun hlt => ?_, fun hlt => ?_⟩
    · have hlt := of_decide_eq_true hlt
      conv => whnf
      refine hKq _ _ _ (.refl _) ?_
      clear hKq Kq
      conv => whnf
      refine VSeq.mk fun Kq hKq => ?_
      conv => whnf
      refine VSeq.mk fun Kq hKq => ?_
      conv => whnf
      refine hKq _ _ _ (.refl _) ?_
      clear hKq Kq
      conv => whnf
      skip
      refine ⟨fun m2 e w' => ∃ (j : Nat) (b : Bool), fdB T (4096 * k + j) = b ∧ m2 + j = 4096 ∧ e = [(0, .v (.string s)), (2, .v (.pointer (some ⟨b2, 0, none⟩))), (4, .v (.pointer (some ⟨b4, 0, none⟩))), (5, litE (.bool b)), (6, .v (.int .i64 k)), (7, .v (.int .i64 j))] ∧ HpM [] W w' [blk b4 [.int .i64 (fdC T (4096 * k + j)), .int .i64 (fdM T (4096 * k + j)), .string id, .slice none 0 0] 24, blk b2 [.int .i64 0, .int .i64 0, .string ⟨#[]⟩, .slice none 0 0] 24],
        ⟨4096, _, ⟨0, true, hb, by omega, rfl, hp⟩, sub_cons rfl (sub_cons rfl (sub_cons rfl (sub_cons rfl (sub_cons rfl (sub_cons rfl sub_nil)))))⟩, ?_⟩
      clear hp
      repeat clear hp
      rintro m2 _ w ⟨j, b, hb, hm2, rfl, hp⟩
      cases b with
      | false =>
        conv => whnf
        refine VSeq.mk fun Kq hKq => ?_
        conv => whnf
        refine VSeq.mk fun Kq hKq => ?_
        conv => whnf
        refine hKq _ _ _ (.refl _) ?_
        clear hKq Kq
        conv => whnf
        refine ⟨fun hl2 => ?_, fun hl2 => ?_⟩
        · have hl2 := of_decide_eq_true hl2
          conv => whnf
          refine hKq _ _ _ (.refl _) ?_
          clear hKq Kq
          conv => whnf
          refine VSeq.mk fun Kq hKq => ?_
          conv => whnf
          refine VSeq.mk fun Kq hKq => ?_
          conv => whnf
          have hk8 := kind8_p k j (by omega) (by omega)
          refine v_mixA TTok FFok mixed [(0, false), (1, false), (2, false), (3, false), (4, false), (5, false), (6, false)] (by kernel_rfl) ?_
          conv => whnf
          first | refine PureF.quiet (hk8) ?_ | refine PureF.quietE (hk8) ?_
          conv => whnf
          refine ⟨2, ⟨by first | rfl | omega, by omega⟩, ?_⟩
          conv => whnf
          first | refine PureF.quiet (h02) ?_ | refine PureF.quietE (h02) ?_
          conv => whnf
          intro w hx
          try (have hp := hp.call hx)
          conv => whnf
          refine hKq _ _ _ (.refl _) ?_
          clear hKq Kq
          conv => whnf
          refine ⟨fun hq => ?_, fun hq => ?_⟩
          · have hq := of_decide_eq_true hq
            conv => whnf
            refine VSeq.mk fun Kq hKq => ?_
            conv => whnf
            obtain ⟨f1, f2, f3⟩ := fd_hit (T := T) (show k < 4 by omega) (show j < 4096 by omega) (by omega)
            have g1 : fdC T (4096 * k + j + 1) = k := by unfold fdC; rw [if_pos f1, f2]
            have g2 : fdM T (4096 * k + j + 1) = j := by unfold fdM; rw [if_pos f1, f3]
            (refine hp.kst1 TTok (by rfl) 0 (by rfl) (by rfl) (by rfl) (Nat.le_of_ble_eq_true rfl) fun w hp => ?_; try simp only [List.set_cons_zero, List.set_cons_succ, EV.val] at hp; conv => whnf)
            (refine hKq _ _ _ (.refl _) ?_; clear hKq Kq; conv => whnf)
            (refine VSeq.mk fun Kq hKq => ?_; conv => whnf)
            (refine hp.kst1 TTok (by rfl) 0 (by rfl) (by rfl) (by rfl) (Nat.le_of_ble_eq_true rfl) fun w hp => ?_; try simp only [List.set_cons_zero, List.set_cons_succ, EV.val] at hp; conv => whnf)
            (refine hKq _ _ _ (.refl _) ?_; clear hKq Kq; conv => whnf)
            (refine hKq _ _ _ (.refl _) ?_; clear hKq Kq; conv => whnf)
            (refine Or.inl (And.intro (by first | omega | decide) ?_); conv => whnf)
            exact ⟨m2 - 1, _, by omega, ⟨j + 1, true, f1, by omega, rfl, by rw [← Nat.add_assoc, g1, g2]; exact hp⟩, sub_cons rfl (sub_cons rfl (sub_cons rfl (sub_cons rfl (sub_cons rfl (sub_cons rfl sub_nil)))))⟩
          · have hq := of_decide_eq_false hq
            conv => whnf
            refine hKq _ _ _ (.refl _) ?_
            clear hKq Kq
            conv => whnf
            refine Or.inl (And.intro (by omega) ?_)
            conv => whnf
            have f1 := fd_miss (T := T) (show k < 4 by omega) (show j < 4096 by omega) (by omega)
            have g1 : fdC T (4096 * k + j + 1) = fdC T (4096 * k + j) := by unfold fdC; rw [f1]
            have g2 : fdM T (4096 * k + j + 1) = fdM T (4096 * k + j) := by unfold fdM; rw [f1]
            exact ⟨m2 - 1, _, by omega, ⟨j + 1, false, f1.trans hb, by omega, rfl, by rw [← Nat.add_assoc, g1, g2]; exact hp⟩, sub_cons rfl (sub_cons rfl (sub_cons rfl (sub_cons rfl (sub_cons rfl (sub_cons rfl sub_nil)))))⟩
        · have hl2 := of_decide_eq_false hl2
          conv => whnf
          clear hKq Kq
          refine hKq _ _ _ (.refl _) ?_
          clear hKq Kq
          conv => whnf
          refine Or.inl (And.intro (by omega) ?_)
          conv => whnf
          obtain rfl : j = 4096 := by omega
          exact ⟨mm - 1, _, by omega, ⟨k + 1, false, by rw [Nat.mul_add]; exact hb, by omega, rfl, by rw [Nat.mul_add]; exact hp⟩, sub_cons rfl (sub_cons rfl (sub_cons rfl (sub_cons rfl (sub_cons rfl sub_nil))))⟩
      | true =>
        conv => whnf
        refine VSeq.mk fun Kq hKq => ?_
        conv => whnf
        refine VSeq.mk fun Kq hKq => ?_
        conv => whnf
        refine hKq _ _ _ (.refl _) ?_
        clear hKq Kq
        conv => whnf
        refine ⟨fun hl2 => ?_, fun hl2 => ?_⟩
        · have hl2 := of_decide_eq_true hl2
          conv => whnf
          refine hKq _ _ _ (.refl _) ?_
          clear hKq Kq
          conv => whnf
          refine VSeq.mk fun Kq hKq => ?_
          conv => whnf
          refine VSeq.mk fun Kq hKq => ?_
          conv => whnf
          have hk8 := kind8_p k j (by omega) (by omega)
          refine v_mixA TTok FFok mixed [(0, false), (1, false), (2, false), (3, false), (4, false), (5, false), (6, false)] (by kernel_rfl) ?_
          conv => whnf
          first | refine PureF.quiet (hk8) ?_ | refine PureF.quietE (hk8) ?_
          conv => whnf
          refine ⟨2, ⟨by first | rfl | omega, by omega⟩, ?_⟩
          conv => whnf
          first | refine PureF.quiet (h02) ?_ | refine PureF.quietE (h02) ?_
          conv => whnf
          intro w hx
          try (have hp := hp.call hx)
          conv => whnf
          refine hKq _ _ _ (.refl _) ?_
          clear hKq Kq
          conv => whnf
          refine ⟨fun hq => ?_, fun hq => ?_⟩
          · have hq := of_decide_eq_true hq
            conv => whnf
            refine VSeq.mk fun Kq hKq => ?_
            conv => whnf
            obtain ⟨f1, f2, f3⟩ := fd_hit (T := T) (show k < 4 by omega) (show j < 4096 by omega) (by omega)
            have g1 : fdC T (4096 * k + j + 1) = k := by unfold fdC; rw [if_pos f1, f2]
            have g2 : fdM T (4096 * k + j + 1) = j := by unfold fdM; rw [if_pos f1, f3]
            (refine hp.kst1 TTok (by rfl) 0 (by rfl) (by rfl) (by rfl) (Nat.le_of_ble_eq_true rfl) fun w hp => ?_; try simp only [List.set_cons_zero, List.set_cons_succ, EV.val] at hp; conv => whnf)
            (refine hKq _ _ _ (.refl _) ?_; clear hKq Kq; conv => whnf)
            (refine VSeq.mk fun Kq hKq => ?_; conv => whnf)
            (refine hp.kst1 TTok (by rfl) 0 (by rfl) (by rfl) (by rfl) (Nat.le_of_ble_eq_true rfl) fun w hp => ?_; try simp only [List.set_cons_zero, List.set_cons_succ, EV.val] at hp; conv => whnf)
            (refine hKq _ _ _ (.refl _) ?_; clear hKq Kq; conv => whnf)
            (refine hKq _ _ _ (.refl _) ?_; clear hKq Kq; conv => whnf)
            (refine Or.inl (And.intro (by first | omega | decide) ?_); conv => whnf)
            exact ⟨m2 - 1, _, by omega, ⟨j + 1, true, f1, by omega, rfl, by rw [← Nat.add_assoc, g1, g2]; exact hp⟩, sub_cons rfl (sub_cons rfl (sub_cons rfl (sub_cons rfl (sub_cons rfl (sub_cons rfl sub_nil)))))⟩
          · have hq := of_decide_eq_false hq
            conv => whnf
            refine hKq _ _ _ (.refl _) ?_
            clear hKq Kq
            conv => whnf
            refine Or.inl (And.intro (by omega) ?_)
            conv => whnf
            have f1 := fd_miss (T := T) (show k < 4 by omega) (show j < 4096 by omega) (by omega)
            have g1 : fdC T (4096 * k + j + 1) = fdC T (4096 * k + j) := by unfold fdC; rw [f1]
            have g2 : fdM T (4096 * k + j + 1) = fdM T (4096 * k + j) := by unfold fdM; rw [f1]
            exact ⟨m2 - 1, _, by omega, ⟨j + 1, true, f1.trans hb, by omega, rfl, by rw [← Nat.add_assoc, g1, g2]; exact hp⟩, sub_cons rfl (sub_cons rfl (sub_cons rfl (sub_cons rfl (sub_cons rfl (sub_cons rfl sub_nil)))))⟩
        · have hl2 := of_decide_eq_false hl2
          conv => whnf
          clear hKq Kq
          refine hKq _ _ _ (.refl _) ?_
          clear hKq Kq
          conv => whnf
          refine Or.inl (And.intro (by omega) ?_)
          conv => whnf
          obtain rfl : j = 4096 := by omega
          exact ⟨mm - 1, _, by omega, ⟨k + 1, true, by rw [Nat.mul_add]; exact hb, by omega, rfl, by rw [Nat.mul_add]; exact hp⟩, sub_cons rfl (sub_cons rfl (sub_cons rfl (sub_cons rfl (sub_cons rfl sub_nil))))⟩
    · have hlt := of_decide_eq_false hlt
      conv => whnf
      clear hKq Kq
      refine hKq _ _ _ (.refl _) ?_
      clear hKq Kq
      conv => whnf
      refine VSeq.mk fun Kq hKq => ?_
      conv => whnf
      refine hKq _ _ _ (.refl _) ?_
      clear hKq Kq
      conv => whnf
      refine VSeq.mk fun Kq hKq => ?_
      conv => whnf
      obtain rfl : k = 4 := by omega
      clear h02
      have hT2 : T < 16384 := of_decide_eq_true ((fd_end T).symm.trans hb)
      have g1 : fdC T (4096 * 4) = clsN T := by unfold fdC; rw [if_pos hb]
      have g2 : fdM T (4096 * 4) = mthN T := by unfold fdM; rw [if_pos hb]
      rw [g1, g2] at hp
      obtain ⟨h4, h5, -⟩ := head_t hT2
      clear hb g1 g2 hT2
      have hp := hp.knil 54 2
      skip
      refine ⟨fun mm e w' => ∃ (al : List At2) (at_ : Nat) (p : Option Addr) (cp : Nat), mm + at_ = 1300 ∧ 20 ≤ at_ ∧ at_ ≤ 1203 ∧ 4 * al.length + 20 ≤ at_ ∧ (∀ a ∈ al, 0 ≤ a.1 ∧ a.1 ≤ 65535 ∧ a.2.size ≤ 1200) ∧ (decC s = 0 → al = (decA s).1.take al.length ∧ at_ = 20 + sizeN ((decA s).1.take al.length)) ∧ e = [(0, .v (.string s)), (2, .v (.pointer (some ⟨b2, 0, none⟩))), (4, .v (.pointer (some ⟨b4, 0, none⟩))), (5, litE (.bool true)), (8, .v (.int .i64 at_))] ∧ HpM [] W w' [row 54 2 (.slice p al.length cp) al.length (flatC al), blk b4 [.int .i64 (clsN T), .int .i64 (mthN T), .string id, .slice p al.length cp] 24, blk b2 [.int .i64 0, .int .i64 0, .string ⟨#[]⟩, .slice none 0 0] 24],
        ⟨1280, _, ⟨[], 20, none, 0, by omega, by omega, by omega, by simp, by simp, fun _ => ⟨by simp, by simp [sizeN]⟩, rfl, hp⟩, sub_cons rfl (sub_cons rfl (sub_cons rfl (sub_cons rfl (sub_cons rfl sub_nil))))⟩, ?_⟩
      clear hp
      repeat clear hp
      rintro mm _ w ⟨al, at_, p, cp, hmm, ha1, ha2, hal, hfit, hdec, rfl, hp⟩
      conv => whnf
      refine VSeq.mk fun Kq hKq => ?_
      conv => whnf
      refine VSeq.mk fun Kq hKq => ?_
      conv => whnf
      refine VSeq.mk fun Kq hKq => ?_
      conv => whnf
      refine hKq _ _ _ (.refl _) ?_
      clear hKq Kq
      conv => whnf
      refine Or.inl (And.intro (by omega) ?_)
      conv => whnf
      refine hKq _ _ _ (.refl _) ?_
      clear hKq Kq
      conv => whnf
      skip
      refine ⟨fun hl4 => ?_, fun hl4 => ?_⟩
      · have hl4 := of_decide_eq_true hl4
        conv => whnf
        refine hKq _ _ _ (.refl _) ?_
        clear hKq Kq
        conv => whnf
        refine VSeq.mk fun Kq hKq => ?_
        conv => whnf
        refine Or.inl (And.intro (by omega) ?_)
        conv => whnf
        refine Or.inl (And.intro (by omega) ?_)
        conv => whnf
        skip
        have zn2 := size_extract s at_ (at_ + 2) (by omega)
        have zn4 := size_extract s (at_ + 2) (at_ + 4) (by omega)
        have hn := numL_lt 2 (s.extract (at_ + 2) (at_ + 4)).data.toList (by rw [toList_len, zn4]; omega)
        change numB (s.extract (at_ + 2) (at_ + 4)) < 65536 at hn
        have hk := numL_lt 2 (s.extract at_ (at_ + 2)).data.toList (by rw [toList_len, zn2]; omega)
        change numB (s.extract at_ (at_ + 2)) < 65536 at hk
        refine ⟨at_ + 2, at_ + 4, ⟨by first | rfl | omega, by first | rfl | omega, by omega, by omega⟩, ?_⟩
        conv => whnf
        refine PureF.use (number_p (s.extract (at_ + 2) (at_ + 4)) (by omega)) fun w hx => ?_
        try (have hp := hp.call hx)
        conv => whnf
        refine hKq _ _ _ (.refl _) ?_
        clear hKq Kq
        conv => whnf
        refine VSeq.mk fun Kq hKq => ?_
        conv => whnf
        refine VSeq.mk fun Kq hKq => ?_
        conv => whnf
        refine Or.inl (And.intro (by omega) ?_)
        conv => whnf
        refine Or.inl (And.intro (by omega) ?_)
        conv => whnf
        refine hKq _ _ _ (.refl _) ?_
        clear hKq Kq
        conv => whnf
        obtain ⟨n, hne⟩ : ∃ n, numB (s.extract (at_ + 2) (at_ + 4)) = n := ⟨_, rfl⟩
        rw [hne] at hn ⊢
        skip
        refine ⟨fun h6 => ?_, fun h6 => ?_⟩
        · have h6 := of_decide_eq_true h6
          conv => whnf
          refine VSeq.mk fun Kq hKq => ?_
          conv => whnf
          have hD : decC s = 5 := hD2.resolve_left fun h => by
            obtain ⟨a, -, -, e2, -, e4⟩ := dec_at h (hdec h).2 (by omega)
            omega
          (refine ⟨_, _, bld24_ _, ?_⟩; conv => whnf)
          (refine hp.kstA TTok rfl 2 rfl rfl (oneC_of rfl) (by rfl) fun w hp => ?_; try simp only [List.set_cons_zero, List.set_cons_succ, EV.val] at hp; conv => whnf)
          (refine hKq _ _ _ (.refl _) ?_; clear hKq Kq; conv => whnf)
          (refine ⟨_, Blk.lvN (hp.get (i := 2) rfl) TTok rfl rfl, ?_⟩; conv => whnf)
          exact .inr ⟨by omega, by rw [hD]; rfl, hp.ext⟩
        · have h6 := of_decide_eq_false h6
          conv => whnf
          refine hKq _ _ _ (.refl _) ?_
          clear hKq Kq
          conv => whnf
          refine VSeq.mk fun Kq hKq => ?_
          conv => whnf
          have zv := size_extract s (at_ + 4) (at_ + 4 + n) (by omega)
          obtain ⟨kd, hkd⟩ : ∃ kd, numB (s.extract at_ (at_ + 2)) = kd := ⟨_, rfl⟩
          obtain ⟨vl, hvl⟩ : ∃ vl, s.extract (at_ + 4) (at_ + 4 + n) = vl := ⟨_, rfl⟩
          rw [hvl] at zv
          rw [hkd] at hk
          have hnu := number_p (s.extract at_ (at_ + 2)) (by omega)
          rw [hkd] at hnu
          have hup := up_p n (by omega)
          have hpn : padN n ≤ 3 := by unfold padN; omega
          refine v_mix TTok FFok mixed 18 [(0, false), (1, false), (2, false), (3, false), (4, false), (5, false), (6, false), (7, false), (8, false), (9, false), (10, false), (11, false), (12, false), (13, false), (14, false), (15, false), (16, false), (17, true)] (by kernel_rfl) ?_
          conv => whnf
          refine ⟨_, fun w' hx' => Blk.ld (off := 3) (Blk.ext (hp.get (i := 1) rfl) hx') TTok rfl rfl, ?_⟩
          conv => whnf
          refine Or.inl (And.intro (by omega) ?_)
          conv => whnf
          refine ⟨at_, at_ + 2, ⟨by first | rfl | omega, by first | rfl | omega, by omega, by omega⟩, ?_⟩
          conv => whnf
          first | refine PureF.quiet (hnu) ?_ | refine PureF.quietE (hnu) ?_
          conv => whnf
          refine Or.inl (And.intro (by omega) ?_)
          conv => whnf
          refine Or.inl (And.intro (by omega) ?_)
          conv => whnf
          refine Or.inl (And.intro (by omega) ?_)
          conv => whnf
          refine ⟨at_ + 4, at_ + 4 + n, ⟨by first | rfl | omega, by first | rfl | omega, by omega, by omega⟩, ?_⟩
          conv => whnf
          rw [hvl]
          (refine ⟨_, fun w' hx' => bld54_0_1 w' _ _, ?_⟩; conv => whnf)
          (intro w hx; try (have hp := hp.call hx); conv => whnf)
          (refine hp.kmade _ _ (fun b => .slice (some ⟨b, 0, none⟩) 1 1) (mks22_1_0 _ _ _) fun q w hp hx => ?_; conv => whnf)
          (with_reducible refine And.intro hx ?_; conv => whnf)
          (intro w hx; try (have hp := hp.call hx); conv => whnf)
          refine hp.kapp sl22 1 rfl (Blk.src TTok (hp.get (i := 0) rfl) rfl (m := 1) rfl (oneC_of rfl)) (by omega) (by unfold maxLen; omega) fun v' w hp => ?_
          simp only [List.set_cons_zero, List.set_cons_succ] at hp
          have hp : HpM [] W w [row 54 2 v' (al ++ [((kd : Int), vl)]).length (flatC (al ++ [((kd : Int), vl)])), blk b4 [.int .i64 (clsN T), .int .i64 (mthN T), .string id, .slice p al.length cp] 24, blk b2 [.int .i64 0, .int .i64 0, .string ⟨#[]⟩, .slice none 0 0] 24] := by
            rw [List.length_append, flatC_app]
            exact hp.pick [1, 2, 3] (by decide)
          obtain ⟨p1, c1, rfl⟩ := row_shape (hp.get (i := 0) rfl)
          conv => whnf
          (refine hp.kst1 TTok (by rfl) 1 (by rfl) (by rfl) (by rfl) (Nat.le_of_ble_eq_true rfl) fun w hp => ?_; try simp only [List.set_cons_zero, List.set_cons_succ, EV.val] at hp; conv => whnf)
          (refine hKq _ _ _ (.refl _) ?_; clear hKq Kq; conv => whnf)
          (refine Or.inl (And.intro (by first | omega | decide) ?_); conv => whnf)
          refine PureF.use (hup) fun w hx => ?_
          try (have hp := hp.call hx)
          conv => whnf
          refine Or.inl (And.intro (by omega) ?_)
          conv => whnf
          skip
          have hlen : (al ++ [((kd : Int), vl)]).length = al.length + 1 := by simp
          have hup2 := up_eq n
          refine ⟨mm - (4 + (n + padN n)), _, by omega, ⟨al ++ [((kd : Int), vl)], at_ + 4 + (n + padN n), p1, c1, by omega, by omega, by omega, by omega, fun a ha => ?_, fun h => ?_, rfl, hp⟩, sub_cons rfl (sub_cons rfl (sub_cons rfl (sub_cons rfl (sub_cons (look_int rfl (by omega)) sub_nil))))⟩
          · rcases List.mem_append.1 ha with h | h
            · exact hfit a h
            · obtain rfl := List.mem_singleton.1 h
              exact ⟨by simp only; omega, by simp only; omega, by simp only; omega⟩
          · obtain ⟨g1, g2⟩ := hdec h
            obtain ⟨a, e0, e1, e2, e3, e4⟩ := dec_at h g2 (by omega)
            rw [hne] at e2
            rw [← e2, hvl] at e3
            rw [hkd] at e1
            have ea : a = ((kd : Int), vl) := Prod.ext e1 e3.symm
            rw [hlen, List.take_add_one, e0, ← g1, ea]
            refine ⟨rfl, ?_⟩
            have e5 : [(some ((kd : Int), vl) : Option At2)].length = 1 := rfl
            show _ = 20 + sizeN (al ++ [((kd : Int), vl)])
            rw [sizeN_app]
            rw [← g1] at g2
            have e6 : sizeN [((kd : Int), vl)] = 4 + (n + padN n) := by
              show atN ((kd : Int), vl) + 0 = _
              unfold atN
              dsimp only
              omega
            omega
      · have hl4 := of_decide_eq_false hl4
        conv => whnf
        clear hKq Kq
        refine hKq _ _ _ (.refl _) ?_
        clear hKq Kq
        conv => whnf
        refine VSeq.mk fun Kq hKq => ?_
        conv => whnf
        refine VSeq.mk fun Kq hKq => ?_
        conv => whnf
        refine VSeq.mk fun Kq hKq => ?_
        conv => whnf
        refine hKq _ _ _ (.refl _) ?_
        clear hKq Kq
        conv => whnf
        refine VSeq.mk fun Kq hKq => ?_
        conv => whnf
        have oa : ∀ a ∈ al, AtOk a := fun a ha => by
          have := hfit a ha
          unfold AtOk in8 maxLen
          omega
        have sa := SA.of_row (hp.get (i := 0) rfl)
        have cR := right8_c (W := w) (clsN T) (mthN T) id sa
        have cE := fun {w : World} (hx : SA w (.slice p al.length cp) al) => encode8_c (W := w) (clsN T) (mthN T) id hx
        have hz : decC s = 0 → stunB (clsN T) (mthN T) id al = true ∧ wrB (clsN T) (mthN T) id al 0 = s ∧ al = (decA s).1 := fun h => by
          have e1 := (hdec h).1
          have e2 := (hdec h).2
          rw [dec_end h (by omega)] at e1
          obtain ⟨o1, o2⟩ := of_dec h
          rw [hT, hid, ← e1] at o1 o2
          exact ⟨o2, o1.symm, e1⟩
        have hz2 : stunB (clsN T) (mthN T) id al = true → wrB (clsN T) (mthN T) id al 0 = s → decC s = 0 := fun h1 h2 => by
          have := (dec_of h1).1
          rwa [h2] at this
        obtain ⟨B, hB⟩ : ∃ B, stunB (clsN T) (mthN T) id al = B := ⟨_, rfl⟩
        rw [hB] at cR
        cases B with
        | false =>
          have hD : decC s = 5 := hD2.resolve_left fun h => by rw [(hz h).1] at hB; cases hB
          (refine ⟨_, _, Blk.ldV (vs := [_, _, _, _]) (hp.get (i := 1) rfl) TTok rfl rfl rfl, ?_⟩; conv => whnf)
          refine V.CallsUse (cR) fun w hx => ?_
          try (have hp := hp.call hx)
          conv => whnf
          refine hKq _ _ _ (.refl _) ?_
          clear hKq Kq
          conv => whnf
          (refine And.intro (fun _ => ?_) (fun h => absurd h (by decide)); conv => whnf)
          (refine hKq _ _ _ (.refl _) ?_; clear hKq Kq; conv => whnf)
          (refine VSeq.mk fun Kq hKq => ?_; conv => whnf)
          (refine ⟨_, _, bld24_ _, ?_⟩; conv => whnf)
          (refine hp.kstA TTok rfl 2 rfl rfl (oneC_of rfl) (by rfl) fun w hp => ?_; try simp only [List.set_cons_zero, List.set_cons_succ, EV.val] at hp; conv => whnf)
          (refine hKq _ _ _ (.refl _) ?_; clear hKq Kq; conv => whnf)
          (refine ⟨_, Blk.lvN (hp.get (i := 2) rfl) TTok rfl rfl, ?_⟩; conv => whnf)
          exact .inr ⟨by omega, by rw [hD]; rfl, hp.ext⟩
        | true =>
          (refine ⟨_, _, Blk.ldV (vs := [_, _, _, _]) (hp.get (i := 1) rfl) TTok rfl rfl rfl, ?_⟩; conv => whnf)
          refine V.CallsUse (cR) fun w hx => ?_
          try (have hp := hp.call hx)
          conv => whnf
          refine hKq _ _ _ (.refl _) ?_
          clear hKq Kq
          conv => whnf
          (refine And.intro (fun h => absurd h (by decide)) (fun _ => ?_); conv => whnf)
          (refine ⟨_, _, Blk.ldV (vs := [_, _, _, _]) (hp.get (i := 1) rfl) TTok rfl rfl rfl, ?_⟩; conv => whnf)
          refine V.CallsUse (cE (SA.of_row (hp.get (i := 0) rfl)) hB) fun w hx => ?_
          try (have hp := hp.call hx)
          conv => whnf
          refine hKq _ _ _ (.refl _) ?_
          clear hKq Kq
          conv => whnf
          skip
          refine ⟨fun hq => ?_, fun hq => ?_⟩
          · have hq := of_decide_eq_true hq
            conv => whnf
            refine VSeq.mk fun Kq hKq => ?_
            conv => whnf
            have hD : decC s = 5 := hD2.resolve_left fun h => hq (hz h).2.1
            (refine ⟨_, _, bld24_ _, ?_⟩; conv => whnf)
            (refine hp.kstA TTok rfl 2 rfl rfl (oneC_of rfl) (by rfl) fun w hp => ?_; try simp only [List.set_cons_zero, List.set_cons_succ, EV.val] at hp; conv => whnf)
            (refine hKq _ _ _ (.refl _) ?_; clear hKq Kq; conv => whnf)
            (refine ⟨_, Blk.lvN (hp.get (i := 2) rfl) TTok rfl rfl, ?_⟩; conv => whnf)
            exact .inr ⟨by omega, by rw [hD]; rfl, hp.ext⟩
          · have hq := of_decide_eq_false hq
            conv => whnf
            refine hKq _ _ _ (.refl _) ?_
            clear hKq Kq
            conv => whnf
            refine VSeq.mk fun Kq hKq => ?_
            conv => whnf
            have hq : wrB (clsN T) (mthN T) id al 0 = s := Decidable.not_not.1 hq
            have h0 := hz2 hB hq
            obtain rfl := (hz h0).2.2
            (refine ⟨_, _, Blk.ldV (vs := [_, _, _, _]) (hp.get (i := 1) rfl) TTok rfl rfl rfl, ?_⟩; conv => whnf)
            (refine hp.kstA TTok rfl 2 rfl rfl (oneC_of rfl) (by rfl) fun w hp => ?_; try simp only [List.set_cons_zero, List.set_cons_succ, EV.val] at hp; conv => whnf)
            (refine hKq _ _ _ (.refl _) ?_; clear hKq Kq; conv => whnf)
            (refine ⟨_, Blk.lvN (hp.get (i := 2) rfl) TTok rfl rfl, ?_⟩; conv => whnf)
            (refine Or.inl (And.intro (by first | omega | decide) ?_); conv => whnf)
            refine ⟨_, ?_, hp.pick [0] (by decide)⟩
            rw [hT, hid]
            rfl
set_option maxHeartbeats 51200000
theorem edit_p (at_ less : Nat) (put s : ByteArray) (ha : at_ < 65536) (hl : less < 256) (hp : put.size ≤ maxLen) (hs : s.size ≤ 100000) :
    ∃ t : ByteArray, t.size ≤ s.size + 8 ∧ PureF Tryz.prog 18 #[.agg #[.int .u16 at_, .int .u8 less, .string put], .string s] (.string t) := by
  obtain ⟨m, hm, hle⟩ : ∃ m : Nat, (at_ : Int) % ((s.size : Int) + 1) = (m : Int) ∧ m ≤ s.size := by
    have h1 := Nat.mod_lt at_ (show 0 < s.size + 1 by omega)
    exact ⟨at_ % (s.size + 1), by rw [Int.natCast_emod]; rfl, by omega⟩
  obtain ⟨n, hn, hn2⟩ : ∃ n : Nat, min ((m : Int) + (less : Int) % 5) (s.size : Int) = (n : Int) ∧ n ≤ s.size := ⟨min (m + less % 5) s.size, by omega, by omega⟩
  have z1 := size_extract s 0 m hle
  have z2 := size_extract put 0 (min put.size 8) (by omega)
  have z3 := size_extract s n s.size (Nat.le_refl _)
  refine ⟨s.extract 0 m ++ put.extract 0 (min put.size 8) ++ s.extract n s.size, by rw [ByteArray.size_append, ByteArray.size_append]; omega, ?_⟩
  first | refine v_pure TTok FFok Tryz.func18 rfl rfl fun w0 => ?_ | refine v_pure (args := []) TTok FFok Tryz.func18 rfl rfl fun w0 => ?_
  conv => whnf
  refine VSeq.mk fun Kq hKq => ?_
  conv => whnf
  have hp := Hp.nil w0
  refine hp.kboxA fun q w hp hx => ?_
  conv => whnf
  refine hKq _ _ _ (.refl _) ?_
  clear hKq Kq
  conv => whnf
  refine VSeq.mk fun Kq hKq => ?_
  conv => whnf
  (refine ⟨_, _, Blk.ld (hp.get (i := 0) rfl) TTok rfl rfl, ?_⟩; conv => whnf)
  (refine Or.inl (And.intro (by first | omega | decide) ?_); conv => whnf)
  (refine Or.inl (And.intro (by first | omega | decide) ?_); conv => whnf)
  (refine And.intro (by first | omega | decide) ?_; conv => whnf)
  (refine hKq _ _ _ (.refl _) ?_; clear hKq Kq; conv => whnf)
  (refine VSeq.mk fun Kq hKq => ?_; conv => whnf)
  rw [hm]
  refine v_mixA TTok FFok mixed [(0, false), (1, false), (2, false), (3, false), (4, false), (5, false), (6, false), (7, false), (8, false), (9, false), (10, false), (11, false), (12, false), (13, false), (14, false), (15, false), (16, false), (17, false), (18, false), (19, false), (20, false), (21, false), (22, false), (23, false)] (by kernel_rfl) ?_
  conv => whnf
  refine ⟨m, ⟨by first | rfl | omega, by omega⟩, ?_⟩
  conv => whnf
  (refine ⟨_, fun w' hx' => Blk.ld (Blk.ext (hp.get (i := 0) rfl) hx') TTok rfl rfl, ?_⟩; conv => whnf)
  (refine ⟨_, fun w' hx' => Blk.ld (Blk.ext (hp.get (i := 0) rfl) hx') TTok rfl rfl, ?_⟩; conv => whnf)
  refine ⟨min put.size 8, ⟨by omega, by omega⟩, ?_⟩
  conv => whnf
  refine And.intro (by omega) ?_
  conv => whnf
  (refine ⟨_, fun w' hx' => Blk.ld (Blk.ext (hp.get (i := 0) rfl) hx') TTok rfl rfl, ?_⟩; conv => whnf)
  (refine And.intro (by first | omega | decide) ?_; conv => whnf)
  (refine Or.inl (And.intro (by first | omega | decide) ?_); conv => whnf)
  (refine Or.inl (And.intro (by first | omega | decide) ?_); conv => whnf)
  rw [hn]
  refine ⟨n, ⟨by first | rfl | omega, by omega⟩, ?_⟩
  conv => whnf
  refine And.intro (by rw [ByteArray.size_append]; omega) ?_
  conv => whnf
  intro w hx
  try (have hp := hp.call hx)
  conv => whnf
  refine hKq _ _ _ (.refl _) ?_
  clear hKq Kq
  conv => whnf
  exact ⟨rfl, hp.ext⟩
theorem ix43 (s0 s1 s2 s3 s4 : ByteArray) (k : Nat) (hk : k < 5) {b : Nat} (h0 : s0.size ≤ b) (h1 : s1.size ≤ b) (h2 : s2.size ≤ b) (h3 : s3.size ≤ b) (h4 : s4.size ≤ b) : ∃ t : ByteArray, t.size ≤ b ∧ ∀ w, (Instr.index 43 (.agg #[.string s0, .string s1, .string s2, .string s3, .string s4]) (.int .i64 k)).run Tryz.prog w = .ok (.string t) w := by
  have : k = 0 ∨ k = 1 ∨ k = 2 ∨ k = 3 ∨ k = 4 := by omega
  rcases this with rfl | rfl | rfl | rfl | rfl
  · exact ⟨s0, h0, fun w => by kernel_rfl⟩
  · exact ⟨s1, h1, fun w => by kernel_rfl⟩
  · exact ⟨s2, h2, fun w => by kernel_rfl⟩
  · exact ⟨s3, h3, fun w => by kernel_rfl⟩
  · exact ⟨s4, h4, fun w => by kernel_rfl⟩
theorem codes_c {W : World} {v0 v1 : Value} {rl : List At2} {ps : List Pc3} (rc rm : Int) (rid : ByteArray) (hv0 : SA W v0 rl) (hrid : rid.size ≤ maxLen) (hrl : ∀ a ∈ rl, AtOk a)
    (c8 m16 : Nat) (id0 : ByteArray) (hv : SPc W v1 ps) (hps : ∀ p ∈ ps, PcOk p) (hc8 : c8 < 256) (hm16 : m16 < 65536) (hid : id0.size ≤ maxLen)
    (wh at_ : Nat) (N : Int) (S : ByteArray) (hwh : wh < 256) (hat : at_ < 256) (hN : in8 N) (hS : S.size ≤ maxLen) (wh2 at2 : Nat) (N2 : Int) (S2 : ByteArray) (hwh2 : wh2 < 256) (hat2 : at2 < 256) (hN2 : in8 N2) (hS2 : S2.size ≤ maxLen)
    (s : ByteArray) (hs : s.size ≤ maxLen) (xa xl : Nat) (xp : ByteArray) (hxa : xa < 65536) (hxl : xl < 256) (hxp : xp.size ≤ maxLen) (ya yl : Nat) (yp : ByteArray) (hya : ya < 65536) (hyl : yl < 256) (hyp : yp.size ≤ maxLen) :
    Calls Tryz.prog 3 #[.agg #[.int .i64 rc, .int .i64 rm, .string rid, v0], .agg #[.int .u8 c8, .int .u16 m16, .string id0, v1], .agg #[.int .u8 wh, .int .u8 at_, .int .i64 N, .string S], .agg #[.int .u8 wh2, .int .u8 at2, .int .i64 N2, .string S2], .string s, .agg #[.int .u16 xa, .int .u8 xl, .string xp], .agg #[.int .u16 ya, .int .u8 yl, .string yp]] W fun e w' => e = .returned (.bool true) ∧ Ext W w' := by
  have ms := fun {w : World} (hx : Ext W w) => messages16_c (W := w) rc rm rid (hv0.ext hx) hrid hrl c8 m16 id0 (SLn.ext hv hx) hps hc8 hm16 hid wh at_ N S hwh hat hN hS wh2 at2 N2 S2 hwh2 hat2 hN2 hS2
  have sx := fun (s : ByteArray) (hs : s.size ≤ 100000) => edit_p xa xl xp s hxa hxl hxp hs
  have sy := fun (s : ByteArray) (hs : s.size ≤ 100000) => edit_p ya yl yp s hya hyl hyp hs
  obtain ⟨p0, cp0, rfl⟩ := hv0.shape
  obtain ⟨p1, cp1, rfl⟩ := SPc.shape hv
  refine v_reads (args := [.agg #[.int .i64 rc, .int .i64 rm, .string rid, .slice p0 rl.length cp0], .agg #[.int .u8 c8, .int .u16 m16, .string id0, .slice p1 ps.length cp1], .agg #[.int .u8 wh, .int .u8 at_, .int .i64 N, .string S], .agg #[.int .u8 wh2, .int .u8 at2, .int .i64 N2, .string S2], .string s, .agg #[.int .u16 xa, .int .u8 xl, .string xp], .agg #[.int .u16 ya, .int .u8 yl, .string yp]]) TTok FFok Tryz.func3 rfl rfl ?_
  conv => whnf
  refine VSeq.mk fun Kq hKq => ?_
  conv => whnf
  have hp := Hp.nil W
  refine hp.kboxA fun q7 w hp hx => ?_
  conv => whnf
  refine hp.kboxA fun q8 w hp hx => ?_
  conv => whnf
  refine hp.kboxA fun q9 w hp hx => ?_
  conv => whnf
  refine hp.kboxA fun q10 w hp hx => ?_
  conv => whnf
  refine hp.kboxA fun q12 w hp hx => ?_
  conv => whnf
  refine hp.kboxA fun q13 w hp hx => ?_
  conv => whnf
  refine hKq _ _ _ (.refl _) ?_
  clear hKq Kq
  conv => whnf
  refine VSeq.mk fun Kq hKq => ?_
  conv => whnf
  refine VSeq.mk fun Kq hKq => ?_
  conv => whnf
  refine PureF.use (works_p) fun w hx => ?_
  try (have hp := hp.call hx)
  conv => whnf
  refine hKq _ _ _ (.refl _) ?_
  clear hKq Kq
  conv => whnf
  refine And.intro (fun h => by cases h) (fun _ => ?_)
  conv => whnf
  refine hKq _ _ _ (.refl _) ?_
  clear hKq Kq
  conv => whnf
  refine VSeq.mk fun Kq hKq => ?_
  conv => whnf
  (refine ⟨_, _, Blk.ldV (vs := [_, _, _, _]) (hp.get (i := 5) rfl) TTok rfl rfl rfl, ?_⟩; conv => whnf)
  (refine ⟨_, _, Blk.ldV (vs := [_, _, _, _]) (hp.get (i := 4) rfl) TTok rfl rfl rfl, ?_⟩; conv => whnf)
  (refine ⟨_, _, Blk.ldV (vs := [_, _, _, _]) (hp.get (i := 3) rfl) TTok rfl rfl rfl, ?_⟩; conv => whnf)
  (refine ⟨_, _, Blk.ldV (vs := [_, _, _, _]) (hp.get (i := 2) rfl) TTok rfl rfl rfl, ?_⟩; conv => whnf)
  refine Calls.mono (ms hp.ext) ?_
  clear ms
  rintro _ wF ⟨A, rfl, hF, hx⟩
  refine ⟨_, rfl, ?_⟩
  have hp := hp.call hx
  clear hx hv0 hv
  have hF4 := hF.four
  obtain ⟨c0, m0, c1, m1, c2, m2, c3, m3, i0, i1, i2, i3, l0, l1, l2, l3, p0, p1, p2, p3, k0, k1, k2, k3, rfl, -, h1, -, -, dc, dm, rfl, rfl, hd⟩ := hF
  have hB13 : Blk wF q13 [.int .u16 ya, .int .u8 yl, .string yp] 32 := hp.get (i := 0) rfl
  have hB12 : Blk wF q12 [.int .u16 xa, .int .u8 xl, .string xp] 32 := hp.get (i := 1) rfl
  have hxF := hp.ext
  clear hp
  repeat clear hp
  have hp := Hp.nil wF
  conv => whnf
  (refine hp.kalloc z34 fun al34 w hp hx => ?_; conv => whnf)
  (refine hp.kstA TTok rfl 0 rfl rfl (oneC_of rfl) (by rfl) fun w hp => ?_; try simp only [List.set_cons_zero, List.set_cons_succ, EV.val] at hp; conv => whnf)
  (refine hKq _ _ _ (.refl _) ?_; clear hKq Kq; conv => whnf)
  (refine VSeq.mk fun Kq hKq => ?_; conv => whnf)
  (refine VSeq.mk fun Kq hKq => ?_; conv => whnf)
  (refine ⟨_, _, Blk.ldV (vs := [_, _, _, _, _, _, _, _, _, _, _, _, _, _, _, _]) (hp.get (i := 0) rfl) TTok rfl rfl rfl, ?_⟩; conv => whnf)
  (refine hKq _ _ _ (.refl _) ?_; clear hKq Kq; conv => whnf)
  obtain ⟨b15, rfl⟩ : ∃ q, q = al34 := ⟨al34, rfl⟩
  clear hx
  refine ⟨fun mm e w' => ∃ (k : Nat), mm + k = 4 ∧ e = [(4, .v (.string s)), (12, .v (.pointer (some ⟨q12, 0, none⟩))), (13, .v (.pointer (some ⟨q13, 0, none⟩))), (15, .v (.pointer (some ⟨b15, 0, none⟩))), (36, .v (.agg #[.int .i64 c0, .int .i64 m0, .string i0, .slice p0 l0.length k0, .int .i64 dc, .int .i64 dm, .string i1, .slice p1 l1.length k1, .int .i64 c2, .int .i64 m2, .string i2, .slice p2 l2.length k2, .int .i64 c3, .int .i64 m3, .string i3, .slice p3 l3.length k3])), (37, .v (.int .i64 k))] ∧ HpM [] wF w' [blk b15 [.int .i64 c0, .int .i64 m0, .string i0, .slice p0 l0.length k0, .int .i64 dc, .int .i64 dm, .string i1, .slice p1 l1.length k1, .int .i64 c2, .int .i64 m2, .string i2, .slice p2 l2.length k2, .int .i64 c3, .int .i64 m3, .string i3, .slice p3 l3.length k3] 34],
    ⟨4, _, ⟨0, by omega, rfl, hp⟩, sub_cons rfl (sub_cons rfl (sub_cons rfl (sub_cons rfl (sub_cons rfl (sub_cons rfl sub_nil)))))⟩, ?_⟩
  clear hp
  repeat clear hp
  rintro mm _ w ⟨k, hmm, rfl, hp⟩
  conv => whnf
  refine VSeq.mk fun Kq hKq => ?_
  conv => whnf
  refine hKq _ _ _ (.refl _) ?_
  clear hKq Kq
  conv => whnf
  refine VSeq.mk fun Kq hKq => ?_
  conv => whnf
  refine ⟨fun hlt => ?_, fun hlt => ?_⟩
  · have hlt := of_decide_eq_true hlt
    conv => whnf
    refine hKq _ _ _ (.refl _) ?_
    clear hKq Kq
    conv => whnf
    refine VSeq.mk fun Kq hKq => ?_
    conv => whnf
    refine VSeq.mk fun Kq hKq => ?_
    conv => whnf
    obtain ⟨c, m, id, al, p, cp, mo, sa, -, hix⟩ := hF4.2 k (by omega)
    refine ⟨_, _, hix _, ?_⟩
    conv => whnf
    (refine hp.kalloc z24 fun al24 w hp hx => ?_; conv => whnf)
    (refine hp.kstA TTok rfl 0 rfl rfl (oneC_of rfl) (by rfl) fun w hp => ?_; try simp only [List.set_cons_zero, List.set_cons_succ, EV.val] at hp; conv => whnf)
    (refine hKq _ _ _ (.refl _) ?_; clear hKq Kq; conv => whnf)
    (refine VSeq.mk fun Kq hKq => ?_; conv => whnf)
    (refine hKq _ _ _ (.refl _) ?_; clear hKq Kq; conv => whnf)
    (refine VSeq.mk fun Kq hKq => ?_; conv => whnf)
    (refine VSeq.mk fun Kq hKq => ?_; conv => whnf)
    (refine ⟨_, _, Blk.ldV (vs := [_, _, _, _]) (hp.get (i := 0) rfl) TTok rfl rfl rfl, ?_⟩; conv => whnf)
    have cR := fun {w : World} hx => right8_c (W := w) (v := .slice p al.length cp) (al := al) c m id hx
    have cC := fun {w : World} hx => Check_c (W := w) (v := .slice p al.length cp) (al := al) c m id hx
    unfold chkN at cC
    obtain ⟨B, hB⟩ : ∃ B, stunB c m id al = B := ⟨_, rfl⟩
    rw [hB] at cR cC
    refine V.CallsUse (cR (sa.ext hp.ext)) fun w hx => ?_
    try (have hp := hp.call hx)
    conv => whnf
    refine hKq _ _ _ (.refl _) ?_
    clear hKq Kq
    conv => whnf
    clear cR
    cases B with
    | true =>
      obtain ⟨C, rfl⟩ := Int.eq_ofNat_of_zero_le (stunB_t hB).1
      obtain ⟨M, rfl⟩ := Int.eq_ofNat_of_zero_le (stunB_t hB).2.2.1
      rw [if_pos rfl] at cC
      (refine And.intro (fun _ => ?_) (fun h => absurd h (by decide)); conv => whnf)
      (refine ⟨_, _, Blk.ldV (vs := [_, _, _, _]) (hp.get (i := 0) rfl) TTok rfl rfl rfl, ?_⟩; conv => whnf)
      refine V.CallsUse (encode8_c C M id (sa.ext hp.ext) hB) fun w hx => ?_
      try (have hp := hp.call hx)
      conv => whnf
      refine hKq _ _ _ (.refl _) ?_
      clear hKq Kq
      conv => whnf
      refine VSeq.mk fun Kq hKq => ?_
      conv => whnf
      (refine ⟨_, _, Blk.ldV (vs := [_, _, _, _]) (hp.get (i := 0) rfl) TTok rfl rfl rfl, ?_⟩; conv => whnf)
      refine V.CallsUse (Encode_ok C M id (sa.ext hp.ext) hB) fun w hx => ?_
      try (have hp := hp.call hx)
      conv => whnf
      refine hKq _ _ _ (.refl _) ?_
      clear hKq Kq
      conv => whnf
      refine VSeq.mk fun Kq hKq => ?_
      conv => whnf
      refine VSeq.mk fun Kq hKq => ?_
      conv => whnf
      (refine ⟨_, _, Blk.ldV (vs := [_, _, _, _]) (hp.get (i := 0) rfl) TTok rfl rfl rfl, ?_⟩; conv => whnf)
      refine V.CallsUse (cC (sa.ext hp.ext)) fun w hx => ?_
      try (have hp := hp.call hx)
      conv => whnf
      refine hKq _ _ _ (.refl _) ?_
      clear hKq Kq
      conv => whnf
      refine VSeq.mk fun Kq hKq => ?_
      conv => whnf
      (refine And.intro (fun h => absurd (of_decide_eq_true h) (by first | (intro h2; exact absurd rfl h2) | omega | decide)) (fun _ => ?_); conv => whnf)
      (refine hKq _ _ _ (.refl _) ?_; clear hKq Kq; conv => whnf)
      (refine And.intro (fun h => absurd (of_decide_eq_true h) (by first | (intro h2; exact absurd rfl h2) | omega | decide)) (fun _ => ?_); conv => whnf)
      (refine hKq _ _ _ (.refl _) ?_; clear hKq Kq; conv => whnf)
      (refine And.intro (fun h => absurd (of_decide_eq_true h) (by first | (intro h2; exact absurd rfl h2) | omega | decide)) (fun _ => ?_); conv => whnf)
      (refine hKq _ _ _ (.refl _) ?_; clear hKq Kq; conv => whnf)
      (refine Or.inl (And.intro (by first | omega | decide) ?_); conv => whnf)
      exact ⟨mm - 1, _, by omega, ⟨k + 1, by omega, rfl, hp.pick [1] (by decide)⟩, sub_cons rfl (sub_cons rfl (sub_cons rfl (sub_cons rfl (sub_cons rfl (sub_cons rfl sub_nil)))))⟩
    | false =>
      rw [if_neg (by decide)] at cC
      (refine And.intro (fun h => absurd h (by decide)) (fun _ => ?_); conv => whnf)
      (refine hKq _ _ _ (.refl _) ?_; clear hKq Kq; conv => whnf)
      (refine VSeq.mk fun Kq hKq => ?_; conv => whnf)
      (refine ⟨_, _, Blk.ldV (vs := [_, _, _, _]) (hp.get (i := 0) rfl) TTok rfl rfl rfl, ?_⟩; conv => whnf)
      refine V.CallsUse (Encode_bad c m id (sa.ext hp.ext) hB) fun w hx => ?_
      try (have hp := hp.call hx)
      conv => whnf
      refine hKq _ _ _ (.refl _) ?_
      clear hKq Kq
      conv => whnf
      refine VSeq.mk fun Kq hKq => ?_
      conv => whnf
      refine VSeq.mk fun Kq hKq => ?_
      conv => whnf
      (refine ⟨_, _, Blk.ldV (vs := [_, _, _, _]) (hp.get (i := 0) rfl) TTok rfl rfl rfl, ?_⟩; conv => whnf)
      refine V.CallsUse (cC (sa.ext hp.ext)) fun w hx => ?_
      try (have hp := hp.call hx)
      conv => whnf
      refine hKq _ _ _ (.refl _) ?_
      clear hKq Kq
      conv => whnf
      refine VSeq.mk fun Kq hKq => ?_
      conv => whnf
      (refine And.intro (fun h => absurd (of_decide_eq_true h) (by first | (intro h2; exact absurd rfl h2) | omega | decide)) (fun _ => ?_); conv => whnf)
      (refine hKq _ _ _ (.refl _) ?_; clear hKq Kq; conv => whnf)
      (refine And.intro (fun h => absurd (of_decide_eq_true h) (by first | (intro h2; exact absurd rfl h2) | omega | decide)) (fun _ => ?_); conv => whnf)
      (refine hKq _ _ _ (.refl _) ?_; clear hKq Kq; conv => whnf)
      (refine And.intro (fun h => absurd (of_decide_eq_true h) (by first | (intro h2; exact absurd rfl h2) | omega | decide)) (fun _ => ?_); conv => whnf)
      (refine hKq _ _ _ (.refl _) ?_; clear hKq Kq; conv => whnf)
      (refine Or.inl (And.intro (by first | omega | decide) ?_); conv => whnf)
      exact ⟨mm - 1, _, by omega, ⟨k + 1, by omega, rfl, hp.pick [1] (by decide)⟩, sub_cons rfl (sub_cons rfl (sub_cons rfl (sub_cons rfl (sub_cons rfl (sub_cons rfl sub_nil)))))⟩
  · have hlt := of_decide_eq_false hlt
    conv => whnf
    clear hKq Kq
    refine hKq _ _ _ (.refl _) ?_
    clear hKq Kq
    conv => whnf
    refine VSeq.mk fun Kq hKq => ?_
    conv => whnf
    clear hF4
    have hst := hd.stun
    have hds := stunB_t hst
    have zo := wrB_size dc dm i1 l1 0
    have cE := fun {w : World} (hx : SA w (.slice p1 l1.length k1) l1) => encode8_c (W := w) dc dm i1 hx hst
    obtain ⟨o, ho⟩ : ∃ o, wrB dc dm i1 l1 0 = o := ⟨_, rfl⟩
    rw [ho] at zo cE
    obtain ⟨ta, za, ca⟩ := sx o (by omega)
    obtain ⟨tb, zb, cb⟩ := sy ta (by omega)
    clear sx sy
    have z0 := size_extract s 0 (min s.size 1300) (by omega)
    have z4 := size_extract s 0 (min s.size 4) (by omega)
    have zz : (o ++ s.extract 0 (min s.size 4)).size ≤ 2000 := by rw [ByteArray.size_append]; omega
    (refine ⟨1, ⟨rfl, by decide⟩, ?_⟩; conv => whnf)
    (refine ⟨_, _, Blk.ldV (vs := [_, _, _, _]) (hp.get (i := 0) rfl) TTok rfl rfl rfl, ?_⟩; conv => whnf)
    refine V.CallsUse (cE (h1.2.ext hp.ext)) fun w hx => ?_
    try (have hp := hp.call hx)
    conv => whnf
    refine hKq _ _ _ (.refl _) ?_
    clear hKq Kq
    conv => whnf
    refine VSeq.mk fun Kq hKq => ?_
    conv => whnf
    refine VSeq.mk fun Kq hKq => ?_
    conv => whnf
    skip
    refine v_mixA TTok FFok mixed [(0, false), (1, false), (2, false), (3, false), (4, false), (5, false), (6, false), (7, false), (8, false), (9, false), (10, false), (11, false), (12, false), (13, false), (14, false), (15, false), (16, false), (17, false), (18, false), (19, false), (20, false), (21, false), (22, false)] (by kernel_rfl) ?_
    conv => whnf
    skip
    refine ⟨min s.size 1300, ⟨by omega, by omega⟩, ?_⟩
    conv => whnf
    skip
    refine ⟨_, fun w1 hx1 => Blk.ldN (hB12.ext (hp.ext.trans hx1)) TTok rfl rfl, ?_⟩
    conv => whnf
    skip
    first | refine PureF.quiet (ca) ?_ | refine PureF.quietE (ca) ?_
    conv => whnf
    refine ⟨_, fun w1 hx1 => Blk.ldN (hB13.ext (hp.ext.trans hx1)) TTok rfl rfl, ?_⟩
    conv => whnf
    refine ⟨_, fun w1 hx1 => Blk.ldN (hB12.ext (hp.ext.trans hx1)) TTok rfl rfl, ?_⟩
    conv => whnf
    skip
    first | refine PureF.quiet (ca) ?_ | refine PureF.quietE (ca) ?_
    conv => whnf
    first | refine PureF.quiet (cb) ?_ | refine PureF.quietE (cb) ?_
    conv => whnf
    skip
    refine ⟨min s.size 4, ⟨by omega, by omega⟩, ?_⟩
    conv => whnf
    refine And.intro (by omega) ?_
    conv => whnf
    (refine ⟨_, fun w' hx' => bld43_0_1_2_3_4 w' _ _ _ _ _, ?_⟩; conv => whnf)
    (intro w hx; try (have hp := hp.call hx); conv => whnf)
    (refine hKq _ _ _ (.refl _) ?_; clear hKq Kq; conv => whnf)
    have hix := fun (k : Nat) (hk : k < 5) => ix43 (s.extract 0 (min s.size 1300)) o ta tb (o ++ s.extract 0 (min s.size 4)) k hk (b := 2000) (by omega) (by omega) (by omega) (by omega) (by omega)
    have hxG := hxF.trans hp.ext
    clear hp hx hB12 hB13 h1 hst hds cE ca cb
    repeat clear hp
    obtain ⟨wG, hG⟩ : ∃ x, x = w := ⟨w, rfl⟩
    rw [← hG] at hxG ⊢
    clear hG
    have hp := Hp.nil wG
    refine ⟨fun mm e w' => ∃ (k : Nat), mm + k = 5 ∧ e = [(88, .v (.agg #[.string (s.extract 0 (min s.size 1300)), .string o, .string ta, .string tb, .string (o ++ s.extract 0 (min s.size 4))])), (89, .v (.int .i64 k))] ∧ HpM [] wG w' [],
      ⟨5, _, ⟨0, by omega, rfl, hp⟩, sub_cons rfl (sub_cons rfl sub_nil)⟩, ?_⟩
    clear hp
    repeat clear hp
    rintro mm _ w ⟨k, hmm, rfl, hp⟩
    conv => whnf
    refine VSeq.mk fun Kq hKq => ?_
    conv => whnf
    refine hKq _ _ _ (.refl _) ?_
    clear hKq Kq
    conv => whnf
    refine VSeq.mk fun Kq hKq => ?_
    conv => whnf
    refine ⟨fun hlt => ?_, fun hlt => ?_⟩
    · have hlt := of_decide_eq_true hlt
      conv => whnf
      refine hKq _ _ _ (.refl _) ?_
      clear hKq Kq
      conv => whnf
      refine VSeq.mk fun Kq hKq => ?_
      conv => whnf
      refine VSeq.mk fun Kq hKq => ?_
      conv => whnf
      obtain ⟨t, zt, ht⟩ := hix k (by omega)
      refine ⟨_, _, ht _, ?_⟩
      conv => whnf
      refine hKq _ _ _ (.refl _) ?_
      clear hKq Kq
      conv => whnf
      refine VSeq.mk fun Kq hKq => ?_
      conv => whnf
      skip
      refine Calls.mono (Decode_c t (by unfold maxLen; omega)) ?_
      rintro e w (⟨h0, v', rfl, hr⟩ | ⟨h0, rfl, hx⟩)
      · refine ⟨_, rfl, ?_⟩
        obtain ⟨-, hb⟩ := of_dec h0
        have oa : ∀ a ∈ (decA t).1, AtOk a := fun a ha => AtOk.of ((stunB_t hb).2.2.2.2.2.2.1 a ha)
        have hp := hp.join hr
        clear hr
        simp only [List.cons_append, List.nil_append] at hp
        obtain ⟨px, cx, rfl⟩ := row_shape (hp.get (i := 0) rfl)
        conv => whnf
        (refine hp.kalloc z24 fun al24 w hp hx => ?_; conv => whnf)
        (refine hp.kstA TTok rfl 0 rfl rfl (oneC_of rfl) (by rfl) fun w hp => ?_; try simp only [List.set_cons_zero, List.set_cons_succ, EV.val] at hp; conv => whnf)
        (refine hKq _ _ _ (.refl _) ?_; clear hKq Kq; conv => whnf)
        (refine VSeq.mk fun Kq hKq => ?_; conv => whnf)
        obtain ⟨b25, rfl⟩ : ∃ q, q = al24 := ⟨al24, rfl⟩
        refine Calls.mono (Decode8_c t (by unfold maxLen; omega)) ?_
        rintro _ w ⟨_, rfl, (⟨-, v2, rfl, hr⟩ | ⟨h9, -⟩)⟩
        rotate_left
        · exact absurd h0 h9
        refine ⟨_, rfl, ?_⟩
        have hp := hp.join hr
        clear hr
        simp only [List.cons_append, List.nil_append] at hp
        obtain ⟨py, cy, rfl⟩ := row_shape (hp.get (i := 0) rfl)
        conv => whnf
        (refine hp.kalloc z24 fun al24 w hp hx => ?_; conv => whnf)
        (refine hp.kstA TTok rfl 0 rfl rfl (oneC_of rfl) (by rfl) fun w hp => ?_; try simp only [List.set_cons_zero, List.set_cons_succ, EV.val] at hp; conv => whnf)
        (refine hKq _ _ _ (.refl _) ?_; clear hKq Kq; conv => whnf)
        (refine VSeq.mk fun Kq hKq => ?_; conv => whnf)
        (refine VSeq.mk fun Kq hKq => ?_; conv => whnf)
        (refine hKq _ _ _ (.refl _) ?_; clear hKq Kq; conv => whnf)
        (refine And.intro (fun h => absurd (of_decide_eq_true h) (by first | (intro h2; exact absurd rfl h2) | omega | decide)) (fun _ => ?_); conv => whnf)
        (refine ⟨_, _, Blk.ldV (vs := [_, _, _, _]) (hp.get (i := 2) rfl) TTok rfl rfl rfl, ?_⟩; conv => whnf)
        (refine ⟨_, _, Blk.ldV (vs := [_, _, _, _]) (hp.get (i := 0) rfl) TTok rfl rfl rfl, ?_⟩; conv => whnf)
        have sm := fun {w : World} hu hv => Same8_c (W := w) (v := .slice px (decA t).1.length cx) (u := .slice py (decA t).1.length cy) (clsN (hdT t)) (mthN (hdT t)) (t.extract 8 20) (clsN (hdT t)) (mthN (hdT t)) (t.extract 8 20) hu hv oa oa
        rw [sameB_t ⟨rfl, rfl, rfl, rfl⟩] at sm
        refine V.CallsUse (sm (SA.of_row (hp.get (i := 3) rfl)) (SA.of_row (hp.get (i := 1) rfl))) fun w hx => ?_
        try (have hp := hp.call hx)
        conv => whnf
        refine hKq _ _ _ (.refl _) ?_
        clear hKq Kq
        conv => whnf
        clear sm
        (refine And.intro (fun h => absurd h (by decide)) (fun _ => ?_); conv => whnf)
        (refine hKq _ _ _ (.refl _) ?_; clear hKq Kq; conv => whnf)
        (refine Or.inl (And.intro (by first | omega | decide) ?_); conv => whnf)
        exact ⟨mm - 1, _, by omega, ⟨k + 1, by omega, rfl, hp.sub (List.nil_sublist _)⟩, sub_cons rfl (sub_cons rfl sub_nil)⟩
      · refine ⟨_, rfl, ?_⟩
        have hp := hp.call hx
        unfold zStun
        conv => whnf
        (refine hp.kalloc z24 fun al24 w hp hx => ?_; conv => whnf)
        (refine hp.kstA TTok rfl 0 rfl rfl (oneC_of rfl) (by rfl) fun w hp => ?_; try simp only [List.set_cons_zero, List.set_cons_succ, EV.val] at hp; conv => whnf)
        (refine hKq _ _ _ (.refl _) ?_; clear hKq Kq; conv => whnf)
        (refine VSeq.mk fun Kq hKq => ?_; conv => whnf)
        obtain ⟨b25, rfl⟩ : ∃ q, q = al24 := ⟨al24, rfl⟩
        refine Calls.mono (Decode8_c t (by unfold maxLen; omega)) ?_
        rintro _ w ⟨_, rfl, (⟨h9, -⟩ | ⟨-, rfl, hx⟩)⟩
        · exact absurd h9 h0
        refine ⟨_, rfl, ?_⟩
        have hp := hp.call hx
        unfold zStun
        conv => whnf
        (refine hp.kalloc z24 fun al24 w hp hx => ?_; conv => whnf)
        (refine hp.kstA TTok rfl 0 rfl rfl (oneC_of rfl) (by rfl) fun w hp => ?_; try simp only [List.set_cons_zero, List.set_cons_succ, EV.val] at hp; conv => whnf)
        (refine hKq _ _ _ (.refl _) ?_; clear hKq Kq; conv => whnf)
        (refine VSeq.mk fun Kq hKq => ?_; conv => whnf)
        (refine VSeq.mk fun Kq hKq => ?_; conv => whnf)
        (refine hKq _ _ _ (.refl _) ?_; clear hKq Kq; conv => whnf)
        (refine And.intro (fun h => absurd (of_decide_eq_true h) (by first | (intro h2; exact absurd rfl h2) | omega | decide)) (fun _ => ?_); conv => whnf)
        (refine ⟨_, _, Blk.ldV (vs := [_, _, _, _]) (hp.get (i := 1) rfl) TTok rfl rfl rfl, ?_⟩; conv => whnf)
        (refine ⟨_, _, Blk.ldV (vs := [_, _, _, _]) (hp.get (i := 0) rfl) TTok rfl rfl rfl, ?_⟩; conv => whnf)
        have hz2 := fun (w : World) => Same8_c (W := w) 0 0 ⟨#[]⟩ 0 0 ⟨#[]⟩ SA.nil8 SA.nil8 (fun a ha => by cases ha) (fun a ha => by cases ha)
        rw [sameB_t ⟨rfl, rfl, rfl, rfl⟩] at hz2
        refine V.CallsUse (hz2 _) fun w hx => ?_
        try (have hp := hp.call hx)
        conv => whnf
        refine hKq _ _ _ (.refl _) ?_
        clear hKq Kq
        conv => whnf
        clear hz2
        (refine And.intro (fun h => absurd h (by decide)) (fun _ => ?_); conv => whnf)
        (refine hKq _ _ _ (.refl _) ?_; clear hKq Kq; conv => whnf)
        (refine Or.inl (And.intro (by first | omega | decide) ?_); conv => whnf)
        exact ⟨mm - 1, _, by omega, ⟨k + 1, by omega, rfl, hp.sub (List.nil_sublist _)⟩, sub_cons rfl (sub_cons rfl sub_nil)⟩
    · have hlt := of_decide_eq_false hlt
      conv => whnf
      clear hKq Kq
      refine hKq _ _ _ (.refl _) ?_
      clear hKq Kq
      conv => whnf
      refine VSeq.mk fun Kq hKq => ?_
      conv => whnf
      refine hKq _ _ _ (.refl _) ?_
      clear hKq Kq
      conv => whnf
      skip
      exact ⟨rfl, hxG.trans hp.ext⟩
theorem codes_at {W : World} {c0 c1 c2 c3 c5 c6 : Array Value} {s : ByteArray} (e0 : Rd W sh8R c0.toList) (e1 : Rd W sh8M c1.toList) (e2 : Rd W sh8B c2.toList) (e3 : Rd W sh8B c3.toList) (w4 : s.size ≤ maxLen) (e5 : Rd W sh8E c5.toList) (e6 : Rd W sh8E c6.toList) :
    Calls Tryz.prog 3 #[.agg c0, .agg c1, .agg c2, .agg c3, .string s, .agg c5, .agg c6] W fun e w' => e = .returned (.bool true) ∧ Ext W w' := by
  obtain ⟨rc, rm, rid, v0, rl, hrid, hv0, hrl, h0⟩ := raw_rd e0
  obtain ⟨c8, m16, id, v, ps, h1, h2, h3, hv, hps, h4⟩ := draft_rd e1
  obtain ⟨wh, at_, N, S, k1, k2, k3, k4, k0⟩ := bend_rd e2
  obtain ⟨wh2, at2, N2, S2, j1, j2, j3, j4, j0⟩ := bend_rd e3
  obtain ⟨xa, xl, xp, x1, x2, x3, x0⟩ := edit_rd e5
  obtain ⟨ya, yl, yp, y1, y2, y3, y0⟩ := edit_rd e6
  have h0 : c0 = #[.int .i64 rc, .int .i64 rm, .string rid, v0] := Array.ext' h0
  have h4 : c1 = #[.int .u8 c8, .int .u16 m16, .string id, v] := Array.ext' h4
  have k0 : c2 = #[.int .u8 wh, .int .u8 at_, .int .i64 N, .string S] := Array.ext' k0
  have j0 : c3 = #[.int .u8 wh2, .int .u8 at2, .int .i64 N2, .string S2] := Array.ext' j0
  have x0 : c5 = #[.int .u16 xa, .int .u8 xl, .string xp] := Array.ext' x0
  have y0 : c6 = #[.int .u16 ya, .int .u8 yl, .string yp] := Array.ext' y0
  subst h0 h4 k0 j0 x0 y0
  exact codes_c rc rm rid hv0 hrid hrl c8 m16 id hv hps h1 h2 h3 wh at_ N S k1 k2 k3 k4 wh2 at2 N2 S2 j1 j2 j3 j4 s w4 xa xl xp x1 x2 x3 ya yl yp y1 y2 y3
end Go.Proofs.YtmlmfmdmomegpaaGreatDoor
namespace Go.Proofs.YtmlmfmdmomegpaaGreatDoor.stunCodes
open Go.ChangeShapes Go.WideShapes Go.ChangeAt Go.RowKit
open Go.ChangeMaps (open_string shut_string)
set_option linter.unusedVariables false
theorem own : ownKnob Tryz.prog.godebug = none := by kernel_rfl
theorem laidOut : laidOutB Tryz.prog = true := by kernel_rfl
def laid2 : List (String × DataW Unit) := [("unicode/utf8.acceptRanges", Rows.laid_unicode_utf8_acceptRanges), ("unicode/utf8.first", Rows.laid_unicode_utf8_first)]
set_option maxRecDepth 100000 in
theorem lifted (os : Os) (started : os.Started) (H : Type) (enc : TypeId × Value → H) :
    ReturnsInHanded {} Tryz.checked os 3 .any (fun w args => (Rows.stunCodesSpec.pre enc Tryz.prog Tryz.f3 [] false w args ∧ laidMetH Tryz.prog laid2 w) ∧ sizedMet enc Tryz.prog Tryz.f3 (OpenSpec.ofChange Rows.stunCodesSpec) false w args) (Rows.stunCodesSpec.post enc Tryz.prog Tryz.f3 false true false false) := by
  refine returnsInHanded_of_change_and (C := Tryz.checked) (X := fun w _ => laidMetH Tryz.prog laid2 w) (fun _ _ _ hh h => h.of_heap hh) own started (by kernel_rfl) Tryz.func3
    (ChangeSpec.witness_shaped (enc := enc) (C := Tryz.checked) (os := os) (X := fun w _ => laidMetH Tryz.prog laid2 w) false (World.laidAll Tryz.prog os laid2) #[.agg #[.int .i64 0, .int .i64 0, .string ByteArray.empty, .slice none 0 0], .agg #[.int .u8 0, .int .u16 0, .string ByteArray.empty, .slice none 0 0], .agg #[.int .u8 0, .int .u8 0, .int .i64 0, .string ByteArray.empty], .agg #[.int .u8 0, .int .u8 0, .int .i64 0, .string ByteArray.empty], .string ByteArray.empty, .agg #[.int .u16 0, .int .u8 0, .string ByteArray.empty], .agg #[.int .u16 0, .int .u8 0, .string ByteArray.empty]] 8 (World.laidAll_os _ _ _) (World.shaped_of_ZipB (by kernel_rfl) (by kernel_rfl)) (by kernel_rfl) (by kernel_rfl) (by kernel_rfl) (by rw [MakeChecks.laidMetH_plain _ _ _ (by kernel_rfl)]; exact laidMet_laidAll _ (by kernel_rfl) (by kernel_rfl))) ?_
  intro W base args ds gs before hval0 hW hcnd hsz0 hL _
  have hval : ∀ (j : Nat) t v, Tryz.f3.params[j]? = some t → args[j]? = some v → Value.okWide Tryz.prog W .any base t v := hval0
  have hW' := hW
  obtain ⟨p, q, hA0, hV, rfl, hfz, hnd⟩ := hW
  have hA : DataW.TrodAll enc Tryz.prog W 0 (fun _ => true) true Tryz.f3.params.toList args.toList ds p := hA0
  rw [Tryz.params3] at hA hval
  obtain ⟨v0, vs0, d0, ds0, p0, q0, hargs, rfl, rfl, h0, r0⟩ := trodAll_cons hA
  obtain ⟨v1, vs1, d1, ds1, p1, q1, rfl, rfl, rfl, h1, r1⟩ := trodAll_cons r0
  obtain ⟨v2, vs2, d2, ds2, p2, q2, rfl, rfl, rfl, h2, r2⟩ := trodAll_cons r1
  obtain ⟨v3, vs3, d3, ds3, p3, q3, rfl, rfl, rfl, h3, r3⟩ := trodAll_cons r2
  obtain ⟨v4, vs4, d4, ds4, p4, q4, rfl, rfl, rfl, h4, r4⟩ := trodAll_cons r3
  obtain ⟨v5, vs5, d5, ds5, p5, q5, rfl, rfl, rfl, h5, r5⟩ := trodAll_cons r4
  obtain ⟨v6, vs6, d6, ds6, p6, q6, rfl, rfl, rfl, h6, r6⟩ := trodAll_cons r5
  obtain ⟨rfl, rfl, rfl⟩ := trodAll_nil r6
  obtain rfl : args = #[v0, v1, v2, v3, v4, v5, v6] := by cases args; simp_all
  obtain ⟨rfl, rfl⟩ := trodVars_none hV
  have k0 := h0
  have lt0 : ∀ x ∈ p0, x.block < W.heap.size := by obtain ⟨m, hm⟩ := k0; exact DataW.trod_lt m _ _ _ hm
  obtain ⟨c0, rfl, e0⟩ := V.rd_ag (s := (.cons (.int .i64) (.cons (.int .i64) (.cons .str (.cons (.sl (.ag (.cons (.int .i64) (.cons .str .nil)))) .nil))))) (by kernel_rfl) (hval 0 24 v0 rfl rfl) h0
  have k1 := h1
  have lt1 : ∀ x ∈ p1, x.block < W.heap.size := by obtain ⟨m, hm⟩ := k1; exact DataW.trod_lt m _ _ _ hm
  obtain ⟨c1, rfl, e1⟩ := V.rd_ag (s := (.cons (.int .u8) (.cons (.int .u16) (.cons .str (.cons (.sl (.ag (.cons (.int .u8) (.cons (.int .u16) (.cons .str .nil))))) .nil))))) (by kernel_rfl) (hval 1 28 v1 rfl rfl) h1
  have k2 := h2
  have lt2 : ∀ x ∈ p2, x.block < W.heap.size := by obtain ⟨m, hm⟩ := k2; exact DataW.trod_lt m _ _ _ hm
  obtain ⟨c2, rfl, e2⟩ := V.rd_ag (s := (.cons (.int .u8) (.cons (.int .u8) (.cons (.int .i64) (.cons .str .nil))))) (by kernel_rfl) (hval 2 30 v2 rfl rfl) h2
  have k3 := h3
  have lt3 : ∀ x ∈ p3, x.block < W.heap.size := by obtain ⟨m, hm⟩ := k3; exact DataW.trod_lt m _ _ _ hm
  obtain ⟨c3, rfl, e3⟩ := V.rd_ag (s := (.cons (.int .u8) (.cons (.int .u8) (.cons (.int .i64) (.cons .str .nil))))) (by kernel_rfl) (hval 3 30 v3 rfl rfl) h3
  have k4 := h4
  have lt4 : ∀ x ∈ p4, x.block < W.heap.size := by obtain ⟨m, hm⟩ := k4; exact DataW.trod_lt m _ _ _ hm
  obtain ⟨a4, rfl, rfl, rfl, w4⟩ := open_string Tryz.underlying9 (hval 4 9 v4 rfl rfl) h4
  have k5 := h5
  have lt5 : ∀ x ∈ p5, x.block < W.heap.size := by obtain ⟨m, hm⟩ := k5; exact DataW.trod_lt m _ _ _ hm
  obtain ⟨c5, rfl, e5⟩ := V.rd_ag (s := (.cons (.int .u16) (.cons (.int .u8) (.cons .str .nil)))) (by kernel_rfl) (hval 5 32 v5 rfl rfl) h5
  have k6 := h6
  have lt6 : ∀ x ∈ p6, x.block < W.heap.size := by obtain ⟨m, hm⟩ := k6; exact DataW.trod_lt m _ _ _ hm
  obtain ⟨c6, rfl, e6⟩ := V.rd_ag (s := (.cons (.int .u16) (.cons (.int .u8) (.cons .str .nil)))) (by kernel_rfl) (hval 6 32 v6 rfl rfl) h6
  clear hA0 hval0
  refine (codes_at e0 e1 e2 e3 w4 e5 e6).mono fun e W' ⟨he, bel⟩ => ?_
  have bel : Below W.heap.size W W' := bel
  subst he
  exact ⟨_, rfl, _, _, _, [], _, [], hW', trodAll_mk1 (shut_bool Tryz.underlying4 _), (trodAll_cons_mk (Below.trod laidOut (by kernel_rfl) (of_decide_eq_true (by kernel_rfl)) k0 bel lt0) (trodAll_cons_mk (Below.trod laidOut (by kernel_rfl) (of_decide_eq_true (by kernel_rfl)) k1 bel lt1) (trodAll_cons_mk (Below.trod laidOut (by kernel_rfl) (of_decide_eq_true (by kernel_rfl)) k2 bel lt2) (trodAll_cons_mk (Below.trod laidOut (by kernel_rfl) (of_decide_eq_true (by kernel_rfl)) k3 bel lt3) (trodAll_cons_mk (Below.trod laidOut (by kernel_rfl) (of_decide_eq_true (by kernel_rfl)) k4 bel lt4) (trodAll_cons_mk (Below.trod laidOut (by kernel_rfl) (of_decide_eq_true (by kernel_rfl)) k5 bel lt5) (trodAll_cons_mk (Below.trod laidOut (by kernel_rfl) (of_decide_eq_true (by kernel_rfl)) k6 bel lt6) trodAll_mk0))))))), rfl, bel.frame _, fun h => by cases h⟩

theorem over : Rows.stunCodesRow.holds Tryz.pinned (OpenSpec.ofChange Rows.stunCodesSpec) :=
  OpenClaim.holds_of_wide 3 Tryz.f3 rfl rfl rfl rfl rfl rfl rfl ⟨rfl, rfl, rfl, rfl, rfl⟩ rfl rfl rfl rfl rfl (by kernel_rfl) Tryz.func3 (by kernel_rfl)
    (of_decide_eq_true (by kernel_rfl)) (by unfold Func.isWrapper; first | (rw [if_pos (by decide +kernel)]; kernel_rfl) | (rw [if_neg (by decide +kernel)]; exact ⟨rfl, rfl⟩))
    (fun os started H enc _ => lifted os started H enc)

theorem proved : Rows.StunCodesCardSaid :=
  Claim7.holds_tied_plain_at .later [] [.data, .pinned] true (true, "5f27dd6ed70dca3cf563e9660767357bc6414374a73c6f1dd9ec93831559d27f") true
    over (fun _ h => by cases h) (by kernel_rfl) (fun _ h => by cases h) stunCodes_row_tie rfl ⟨rfl, rfl⟩ (by kernel_rfl) rfl
    (fun f fn hf hfn => by
      obtain rfl : f = 3 := Option.some.inj ((show Tryz.prog.funcNamed "tannoy/tannoylaw08.StunCodes" = some 3 by kernel_rfl).symm.trans hf) |>.symm
      obtain rfl : fn = Tryz.f3 := (Option.some.inj (Tryz.func3.symm.trans hfn)).symm
      exact ⟨by kernel_rfl, fun j t ht => by
        rw [Tryz.params3] at ht
        have hm : t ∈ [24, 28, 30, 30, 9, 32, 32] := by simpa using Array.mem_of_getElem? ht
        have hall : ([24, 28, 30, 30, 9, 32, 32].all fun u => !Tryz.prog.wantsStandIn u) = true := by kernel_rfl
        exact (show Tryz.prog.wantsStandIn t = false by simpa using List.all_eq_true.1 hall t hm)⟩)
    (by kernel_rfl)
#print axioms proved
end Go.Proofs.YtmlmfmdmomegpaaGreatDoor.stunCodes
