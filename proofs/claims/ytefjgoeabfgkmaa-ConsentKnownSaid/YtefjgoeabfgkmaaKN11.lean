/- Chapter 12: ConsentKnown. -/
/- ConsentKnown returns true: the examples, limits and errors of the package consent hold (a closed statement, without input). -/
import Derived.Test.YtefjgoeabfgkmaaKN10
import Derived.Test.YtefjgoeabfgkmaaRows
import Derived.WalkKit
import Derived.ProofKit
import Derived.OpenShut
import Derived.SizedLaws
import Derived.ShutString
import Derived.ChangeOld
import Derived.Below
import Derived.Test.YtefjgoeabfgkmaaKN03
namespace Go.Proofs.Ytefjgoeabfgkmaa
set_option linter.unusedSimpArgs false
set_option linter.unusedVariables false
set_option maxRecDepth 100000
open Go.RowKit V
set_option maxHeartbeats 64000000
/-- hops that are only read, as a thing in memory -/
def hitem (v : Value) (hs : List Hop3) : It := ⟨if hs.isEmpty then none else V.vblk v, fun w => HR w v hs⟩
theorem hitem_ok (v : Value) (hs : List Hop3) : (hitem v hs).Ok := fun w w' _ hb h => by
 rcases h with h | ⟨h1, g, c, rfl, rfl, hc⟩
 ·exact .inl h
 ·refine .inr ⟨h1, g, c, rfl, rfl, fun j x hj => ?_⟩
  have h2 := hb g rfl
  have h0 := hc j x hj
  unfold World.cell? at h0 ⊢
  rw [h2]; exact h0
theorem pushH {M : List Nat} {w0 w w' : World} {H : List It} (hp : HpM M w0 w H) (hx : Ext w w') {v : Value} {h : Hop3} (hs : HRw w w' v [h]) : HpM M w0 w' (hitem v [h] :: H) := by
 refine hp.push hx (hitem_ok v [h]) hs.s fun b hb => ?_
 rcases hs.s with ⟨h0, _⟩ | ⟨h1, g, c, e, rfl, hc⟩
 ·cases h0
 ·have h3 : g = b := by simpa [hitem, V.vblk] using hb
  subst h3
  exact ⟨hs.f _ _ _ rfl, cell_lt (hc 0 _ rfl)⟩
theorem useK {w0 w : World} {H : List It} (_ : HpM [] w0 w H) {Kq : Env → World → Prop} {G : Prop} (slots : Env) (rest : ∀ w, HpM [] w0 w H → ∀ l, V.Sub slots l → Kq l w) (k : (∀ w, HpM [] w0 w H → ∀ l, V.Sub slots l → Kq l w) → G) : G := k rest
theorem useK2 {w0 w : World} {H : List It} (_ : HpM [] w0 w H) (X : Nat → Option Addr → Nat → List It) {Kq : Env → World → Prop} {G : Prop} (slots : Nat → Option Addr → Nat → Env) (rest : ∀ b p c w, HpM [] w0 w (X b p c ++ H) → ∀ l, V.Sub (slots b p c) l → Kq l w) (k : (∀ b p c w, HpM [] w0 w (X b p c ++ H) → ∀ l, V.Sub (slots b p c) l → Kq l w) → G) : G := k rest
theorem useK3 {w0 w : World} {H : List It} (_ : HpM [] w0 w H) (X : Nat → Option Addr → Nat → Option Addr → Nat → List It) {Kq : Env → World → Prop} {G : Prop} (slots : Nat → Option Addr → Nat → Env) (rest : ∀ b p c p' c' w, HpM [] w0 w (X b p c p' c' ++ H) → ∀ l, V.Sub (slots b p c) l → Kq l w) (k : (∀ b p c p' c' w, HpM [] w0 w (X b p c p' c' ++ H) → ∀ l, V.Sub (slots b p c) l → Kq l w) → G) : G := k rest
theorem withHead {w0 w : World} {a : It} {H : List It} (hp : HpM [] w0 w (a :: H)) {G : Prop} (k : ∀ L, L = H → HpM [] w0 w (a :: L) → G) : G := k H rfl hp
theorem withHead2 {w0 w : World} {a b : It} {H : List It} (hp : HpM [] w0 w (a :: b :: H)) {G : Prop} (k : ∀ L, L = H → HpM [] w0 w (a :: b :: L) → G) : G := k H rfl hp
def bndsQ (q : ByteArray) : List Bn := [⟨0, 0, 0, ⟨#[]⟩, adW 2⟩, ⟨0, 0, 0, ⟨#[]⟩, Ad.z⟩, ⟨1, 0, -1, ⟨#[]⟩, Ad.z⟩, ⟨1, 0, 30000, ⟨#[]⟩, Ad.z⟩, ⟨2, 0, -1, ⟨#[]⟩, Ad.z⟩, ⟨2, 0, 1099511633777, ⟨#[]⟩, Ad.z⟩, ⟨3, 0, 4000, ⟨#[]⟩, Ad.z⟩, ⟨3, 0, 1099511657777, ⟨#[]⟩, Ad.z⟩, ⟨4, 0, 0, ⟨#[]⟩, Ad.z⟩, ⟨4, 0, 1099511627777, ⟨#[]⟩, Ad.z⟩, ⟨5, 0, 0, ⟨#[]⟩, Ad.z⟩, ⟨6, 0, 0, ⟨#[]⟩, Ad.z⟩, ⟨6, 0, 0, q, Ad.z⟩, ⟨7, 0, 0, (⟨#[97, 32, 98, 32, 99]⟩ : ByteArray), Ad.z⟩, ⟨8, 0, 0, (⟨#[97, 98, 99, 100]⟩ : ByteArray), Ad.z⟩, ⟨8, 0, 0, (⟨#[97, 98, 99]⟩ : ByteArray), Ad.z⟩, ⟨9, 0, 0, ⟨#[]⟩, Ad.z⟩, ⟨9, 0, 1, ⟨#[]⟩, Ad.z⟩, ⟨10, 0, -1, ⟨#[]⟩, Ad.z⟩]
theorem bflat_at {j : Nat} {v : Value} : ∀ (l : List Bn) (i : Nat) (x : Bn), l[i]? = some x → x.c[j]? = some v → (l.flatMap Bn.c)[i * 6 + j]? = some v
 | [], i, x, h, _ => by simp at h
 | b :: l, 0, x, h, hv => by
  obtain rfl : b = x := by simpa using h
  rw [List.flatMap_cons, Nat.zero_mul, Nat.zero_add, List.getElem?_append_left (List.getElem?_eq_some_iff.1 hv).1]; exact hv
 | b :: l, i + 1, x, h, hv => by
  rw [List.flatMap_cons, List.getElem?_append_right (by show 6 ≤ _; omega), show (i + 1) * 6 + j - b.c.length = i * 6 + j by show _ - 6 = _; omega]
  exact bflat_at l i x (by simpa using h) hv
theorem rows_ld {w : World} {b : Nat} {l : List Bn} (hB : Blk w b (l.flatMap Bn.c) 46) {i : Nat} {x : Bn} (hx : l[i]? = some x) :
  (Instr.loadAt 46 (.pointer (some ⟨b, addM 0 i 6, none⟩))).run Try.prog w = .ok (.agg x.c.toArray) w :=
 run_ldN TTok rfl (vs := x.c) rfl fun j v hj => by rw [addM_eq, Nat.zero_add, hB.cell]; exact bflat_at l i x hx hj
theorem Rep_p (b : UInt8) (n : Nat) (h : n ≤ 1000) : PureF Try.prog 11 #[.string ⟨#[b]⟩, .int .i64 n] (.string (rep b n)) := Repeat_p ⟨#[b]⟩ n (by show 1 * n ≤ _; omega) (by omega)
theorem known_p : PureF Try.prog 3 #[] (.bool true) := by
 have hA1 : Prb.Ok (p2 1 (adW 1)) := p2_ok ⟨by decide, by decide⟩ (adW_ok 1)
 have sx := fun {W : World} => TimeE_c (W := W) (v := .slice none 0 0) wk1 wk1_ok SLv.nil 4000
 have sy := fun {W : World} {v : Value} hv => HearE_c (W := W) (v := v) wk3 wk3_ok hv 4100 (adW 2, adW 1, p2 1 (adW 1)) ⟨adW_ok 2, adW_ok 1, hA1⟩
 rw [wk_time] at sx
 rw [k_hear] at sy
 dsimp only [ResE, Wt.c, hopF, hopC, wk1, wk3, wkY, adW, p2, Ad.z, iv, List.map] at sx sy
 have s6 := fun {W : World} => TimeE_c (W := W) (v := .slice none 0 0) wk1 wk1_ok SLv.nil (30000)
 have k6 := k_gone
 obtain ⟨⟨⟨⟨ah6, ap6⟩, ⟨bh6, bp6⟩, now6, nxt6, til6, ser6, gone6, noise6, word6, fresh6, asked6⟩, o6, e6⟩, hR⟩ : ∃ R, timeE wk1 (30000) = R := ⟨_, rfl⟩
 rw [hR] at s6 k6
 clear hR
 dsimp only [ResE, ResW, Wt.c, hopF, hopC, wk1, wk3, wkY, adW, p2, p3, Ad.z, iv, List.map] at s6
 dsimp only at k6
 obtain ⟨rfl, k6⟩ := k6
 simp only [Prod.mk.injEq] at k6
 obtain ⟨rfl, rfl⟩ := k6
 have s7 := fun {W : World} => TimeE_c (W := W) (v := .slice none 0 0) wk1 wk1_ok SLv.nil (29999)
 have k7 := k_still
 obtain ⟨⟨⟨⟨ah7, ap7⟩, ⟨bh7, bp7⟩, now7, nxt7, til7, ser7, gone7, noise7, word7, fresh7, asked7⟩, o7, e7⟩, hR⟩ : ∃ R, timeE wk1 (29999) = R := ⟨_, rfl⟩
 rw [hR] at s7 k7
 clear hR
 dsimp only [ResE, ResW, Wt.c, hopF, hopC, wk1, wk3, wkY, adW, p2, p3, Ad.z, iv, List.map] at s7
 dsimp only at k7
 obtain ⟨rfl, k7, rfl⟩ := k7
 have s16 := fun {W : World} => TimeE_c (W := W) (v := .slice none 0 0) wk1 wk1_ok SLv.nil (-1)
 have k16 := k_neg
 obtain ⟨⟨⟨⟨ah16, ap16⟩, ⟨bh16, bp16⟩, now16, nxt16, til16, ser16, gone16, noise16, word16, fresh16, asked16⟩, o16, e16⟩, hR⟩ : ∃ R, timeE wk1 (-1) = R := ⟨_, rfl⟩
 rw [hR] at s16 k16
 clear hR
 dsimp only [ResE, ResW, Wt.c, hopF, hopC, wk1, wk3, wkY, adW, p2, p3, Ad.z, iv, List.map] at s16
 dsimp only at k16
 subst k16
 have s8 := fun {W : World} => RestE_c (W := W) (v := .slice none 0 0) wk1 wk1_ok SLv.nil (10) (⟨#[97, 98, 99, 100]⟩ : ByteArray) (by unfold SzS maxLen; decide)
 have k8 : (restE wk1 (10) (⟨#[97, 98, 99, 100]⟩ : ByteArray)).2 = 2 := k_rest1
 obtain ⟨⟨⟨⟨ah8, ap8⟩, ⟨bh8, bp8⟩, now8, nxt8, til8, ser8, gone8, noise8, word8, fresh8, asked8⟩, e8⟩, hR⟩ : ∃ R, restE wk1 (10) (⟨#[97, 98, 99, 100]⟩ : ByteArray) = R := ⟨_, rfl⟩
 rw [hR] at s8 k8
 clear hR
 dsimp only [ResE, ResW, Wt.c, hopF, hopC, wk1, wk3, wkY, adW, p2, p3, Ad.z, iv, List.map] at s8
 dsimp only at k8
 subst k8
 have s9 := fun {W : World} => RestE_c (W := W) (v := .slice none 0 0) wk1 wk1_ok SLv.nil (30000) (⟨#[101, 102, 103, 104]⟩ : ByteArray) (by unfold SzS maxLen; decide)
 have k9 : (restE wk1 (30000) (⟨#[101, 102, 103, 104]⟩ : ByteArray)).2 = 8 := k_rest2
 obtain ⟨⟨⟨⟨ah9, ap9⟩, ⟨bh9, bp9⟩, now9, nxt9, til9, ser9, gone9, noise9, word9, fresh9, asked9⟩, e9⟩, hR⟩ : ∃ R, restE wk1 (30000) (⟨#[101, 102, 103, 104]⟩ : ByteArray) = R := ⟨_, rfl⟩
 rw [hR] at s9 k9
 clear hR
 dsimp only [ResE, ResW, Wt.c, hopF, hopC, wk1, wk3, wkY, adW, p2, p3, Ad.z, iv, List.map] at s9
 dsimp only at k9
 subst k9
 have s19 := fun {W : World} => SwE_c (W := W) (v := .slice none 0 0) wk1 wk1_ok SLv.nil (0) ⟨#[]⟩ ⟨#[]⟩ 0 0 Ad.z_ok Ad.z_ok
 have k19 : (swE wk1 (0) ⟨⟨#[]⟩, 0⟩ ⟨⟨#[]⟩, 0⟩).2 = 2 := k_sw1
 obtain ⟨⟨⟨⟨ah19, ap19⟩, ⟨bh19, bp19⟩, now19, nxt19, til19, ser19, gone19, noise19, word19, fresh19, asked19⟩, e19⟩, hR⟩ : ∃ R, swE wk1 (0) ⟨⟨#[]⟩, 0⟩ ⟨⟨#[]⟩, 0⟩ = R := ⟨_, rfl⟩
 rw [hR] at s19 k19
 clear hR
 dsimp only [ResE, ResW, Wt.c, hopF, hopC, wk1, wk3, wkY, adW, p2, p3, Ad.z, iv, List.map] at s19
 dsimp only at k19
 subst k19
 have s20 := fun {W : World} => SwE_c (W := W) (v := .slice none 0 0) wk1 wk1_ok SLv.nil (30000) ⟨#[]⟩ ⟨#[]⟩ 0 0 Ad.z_ok Ad.z_ok
 have k20 : (swE wk1 (30000) ⟨⟨#[]⟩, 0⟩ ⟨⟨#[]⟩, 0⟩).2 = 8 := k_sw2
 obtain ⟨⟨⟨⟨ah20, ap20⟩, ⟨bh20, bp20⟩, now20, nxt20, til20, ser20, gone20, noise20, word20, fresh20, asked20⟩, e20⟩, hR⟩ : ∃ R, swE wk1 (30000) ⟨⟨#[]⟩, 0⟩ ⟨⟨#[]⟩, 0⟩ = R := ⟨_, rfl⟩
 rw [hR] at s20 k20
 clear hR
 dsimp only [ResE, ResW, Wt.c, hopF, hopC, wk1, wk3, wkY, adW, p2, p3, Ad.z, iv, List.map] at s20
 dsimp only at k20
 subst k20
 have s10 := fun {W : World} => New_c (W := W) (adW 1).h (adW 2).h (adW 1).p (adW 2).p (⟨#[97, 98, 99, 100]⟩ : ByteArray) ⟨#[]⟩ 0 (adW_ok 1) (adW_ok 2) (by unfold SzS maxLen; decide) (by unfold SzS maxLen; decide)
 have k10 : (newE ⟨(adW 1).h, (adW 1).p⟩ ⟨(adW 2).h, (adW 2).p⟩ (⟨#[97, 98, 99, 100]⟩ : ByteArray) ⟨#[]⟩ 0).2 = 2 := k_new1
 obtain ⟨⟨⟨⟨ah10, ap10⟩, ⟨bh10, bp10⟩, now10, nxt10, til10, ser10, gone10, noise10, word10, fresh10, asked10⟩, e10⟩, hR⟩ : ∃ R, newE ⟨(adW 1).h, (adW 1).p⟩ ⟨(adW 2).h, (adW 2).p⟩ (⟨#[97, 98, 99, 100]⟩ : ByteArray) ⟨#[]⟩ 0 = R := ⟨_, rfl⟩
 rw [hR] at s10 k10
 clear hR
 dsimp only [ResE, ResW, Wt.c, hopF, hopC, wk1, wk3, wkY, adW, p2, p3, Ad.z, iv, List.map] at s10
 dsimp only at k10
 subst k10
 have s11 := fun {W : World} => New_c (W := W) (adW 1).h (adW 2).h (adW 1).p (adW 2).p (⟨#[97, 98, 99]⟩ : ByteArray) (⟨#[120]⟩ : ByteArray) 0 (adW_ok 1) (adW_ok 2) (by unfold SzS maxLen; decide) (by unfold SzS maxLen; decide)
 have k11 : (newE ⟨(adW 1).h, (adW 1).p⟩ ⟨(adW 2).h, (adW 2).p⟩ (⟨#[97, 98, 99]⟩ : ByteArray) (⟨#[120]⟩ : ByteArray) 0).2 = 2 := k_new2
 obtain ⟨⟨⟨⟨ah11, ap11⟩, ⟨bh11, bp11⟩, now11, nxt11, til11, ser11, gone11, noise11, word11, fresh11, asked11⟩, e11⟩, hR⟩ : ∃ R, newE ⟨(adW 1).h, (adW 1).p⟩ ⟨(adW 2).h, (adW 2).p⟩ (⟨#[97, 98, 99]⟩ : ByteArray) (⟨#[120]⟩ : ByteArray) 0 = R := ⟨_, rfl⟩
 rw [hR] at s11 k11
 clear hR
 dsimp only [ResE, ResW, Wt.c, hopF, hopC, wk1, wk3, wkY, adW, p2, p3, Ad.z, iv, List.map] at s11
 dsimp only at k11
 subst k11
 have s12 := fun {W : World} => New_c (W := W) (adW 1).h (adW 1).h (adW 1).p (adW 1).p (⟨#[97, 98, 99, 100]⟩ : ByteArray) (⟨#[120]⟩ : ByteArray) 0 (adW_ok 1) (adW_ok 1) (by unfold SzS maxLen; decide) (by unfold SzS maxLen; decide)
 have k12 : (newE ⟨(adW 1).h, (adW 1).p⟩ ⟨(adW 1).h, (adW 1).p⟩ (⟨#[97, 98, 99, 100]⟩ : ByteArray) (⟨#[120]⟩ : ByteArray) 0).2 = 2 := k_new3
 obtain ⟨⟨⟨⟨ah12, ap12⟩, ⟨bh12, bp12⟩, now12, nxt12, til12, ser12, gone12, noise12, word12, fresh12, asked12⟩, e12⟩, hR⟩ : ∃ R, newE ⟨(adW 1).h, (adW 1).p⟩ ⟨(adW 1).h, (adW 1).p⟩ (⟨#[97, 98, 99, 100]⟩ : ByteArray) (⟨#[120]⟩ : ByteArray) 0 = R := ⟨_, rfl⟩
 rw [hR] at s12 k12
 clear hR
 dsimp only [ResE, ResW, Wt.c, hopF, hopC, wk1, wk3, wkY, adW, p2, p3, Ad.z, iv, List.map] at s12
 dsimp only at k12
 subst k12
 have s13 := fun {W : World} => New_c (W := W) (adW 1).h (adW 2).h (adW 1).p (adW 2).p (⟨#[97, 98, 99, 100]⟩ : ByteArray) (rep 120 65) 0 (adW_ok 1) (adW_ok 2) (by unfold SzS maxLen; decide) (by show (repS _ _).size ≤ _; rw [repS_size]; decide)
 have k13 : (newE ⟨(adW 1).h, (adW 1).p⟩ ⟨(adW 2).h, (adW 2).p⟩ (⟨#[97, 98, 99, 100]⟩ : ByteArray) (rep 120 65) 0).2 = 2 := k_new4
 obtain ⟨⟨⟨⟨ah13, ap13⟩, ⟨bh13, bp13⟩, now13, nxt13, til13, ser13, gone13, noise13, word13, fresh13, asked13⟩, e13⟩, hR⟩ : ∃ R, newE ⟨(adW 1).h, (adW 1).p⟩ ⟨(adW 2).h, (adW 2).p⟩ (⟨#[97, 98, 99, 100]⟩ : ByteArray) (rep 120 65) 0 = R := ⟨_, rfl⟩
 rw [hR] at s13 k13
 clear hR
 dsimp only [ResE, ResW, Wt.c, hopF, hopC, wk1, wk3, wkY, adW, p2, p3, Ad.z, iv, List.map] at s13
 dsimp only at k13
 subst k13
 have s14 := fun {W : World} => New_c (W := W) (adW 1).h (adW 2).h (adW 1).p (adW 2).p (⟨#[97, 98, 99, 100]⟩ : ByteArray) (⟨#[120]⟩ : ByteArray) 1099511627777 (adW_ok 1) (adW_ok 2) (by unfold SzS maxLen; decide) (by unfold SzS maxLen; decide)
 have k14 : (newE ⟨(adW 1).h, (adW 1).p⟩ ⟨(adW 2).h, (adW 2).p⟩ (⟨#[97, 98, 99, 100]⟩ : ByteArray) (⟨#[120]⟩ : ByteArray) 1099511627777).2 = 2 := k_new5
 obtain ⟨⟨⟨⟨ah14, ap14⟩, ⟨bh14, bp14⟩, now14, nxt14, til14, ser14, gone14, noise14, word14, fresh14, asked14⟩, e14⟩, hR⟩ : ∃ R, newE ⟨(adW 1).h, (adW 1).p⟩ ⟨(adW 2).h, (adW 2).p⟩ (⟨#[97, 98, 99, 100]⟩ : ByteArray) (⟨#[120]⟩ : ByteArray) 1099511627777 = R := ⟨_, rfl⟩
 rw [hR] at s14 k14
 clear hR
 dsimp only [ResE, ResW, Wt.c, hopF, hopC, wk1, wk3, wkY, adW, p2, p3, Ad.z, iv, List.map] at s14
 dsimp only at k14
 subst k14
 have s15 := fun {W : World} => New_c (W := W) (adW 1).h (adW 2).h (adW 1).p (adW 2).p (rep 97 64) (rep 255 64) 1099511627776 (adW_ok 1) (adW_ok 2) (by show (repS _ _).size ≤ _; rw [repS_size]; decide) (by show (repS _ _).size ≤ _; rw [repS_size]; decide)
 have k15 : (newE ⟨(adW 1).h, (adW 1).p⟩ ⟨(adW 2).h, (adW 2).p⟩ (rep 97 64) (rep 255 64) 1099511627776).2 = 0 ∧ (newE ⟨(adW 1).h, (adW 1).p⟩ ⟨(adW 2).h, (adW 2).p⟩ (rep 97 64) (rep 255 64) 1099511627776).1.nxt = 1099511633768 := k_new6
 obtain ⟨⟨⟨⟨ah15, ap15⟩, ⟨bh15, bp15⟩, now15, nxt15, til15, ser15, gone15, noise15, word15, fresh15, asked15⟩, e15⟩, hR⟩ : ∃ R, newE ⟨(adW 1).h, (adW 1).p⟩ ⟨(adW 2).h, (adW 2).p⟩ (rep 97 64) (rep 255 64) 1099511627776 = R := ⟨_, rfl⟩
 rw [hR] at s15 k15
 clear hR
 dsimp only [ResE, ResW, Wt.c, hopF, hopC, wk1, wk3, wkY, adW, p2, p3, Ad.z, iv, List.map] at s15
 dsimp only at k15
 obtain ⟨rfl, rfl⟩ := k15
 have s17 := fun {W : World} => HearE_c (W := W) (v := .slice none 0 0) wk1 wk1_ok SLv.nil (0) (adW 2, adW 1, ⟨0, 0, 0, false, 0, false, Ad.z⟩) ⟨adW_ok 2, adW_ok 1, ⟨⟨by decide, by decide⟩, ⟨by decide, by decide⟩, ⟨by decide, by decide⟩, ⟨by decide, by decide⟩, Ad.z_ok⟩⟩
 have k17 := k_hear1
 obtain ⟨⟨⟨⟨ah17, ap17⟩, ⟨bh17, bp17⟩, now17, nxt17, til17, ser17, gone17, noise17, word17, fresh17, asked17⟩, o17, e17⟩, hR⟩ : ∃ R, hearE wk1 (0) (adW 2, adW 1, ⟨0, 0, 0, false, 0, false, Ad.z⟩) = R := ⟨_, rfl⟩
 rw [hR] at s17 k17
 clear hR
 dsimp only [ResE, ResW, Wt.c, hopF, hopC, wk1, wk3, wkY, adW, p2, p3, Ad.z, iv, List.map] at s17
 dsimp only at k17
 subst k17
 have s18 := fun {W : World} => HearE_c (W := W) (v := .slice none 0 0) wk1 wk1_ok SLv.nil (0) (adW 1, adW 2, p3 0) ⟨adW_ok 1, adW_ok 2, ⟨⟨by decide, by decide⟩, ⟨by decide, by decide⟩, ⟨by decide, by decide⟩, ⟨by decide, by decide⟩, Ad.z_ok⟩⟩
 have k18 := k_hear2
 obtain ⟨⟨⟨⟨ah18, ap18⟩, ⟨bh18, bp18⟩, now18, nxt18, til18, ser18, gone18, noise18, word18, fresh18, asked18⟩, o18, e18⟩, hR⟩ : ∃ R, hearE wk1 (0) (adW 1, adW 2, p3 0) = R := ⟨_, rfl⟩
 rw [hR] at s18 k18
 clear hR
 dsimp only [ResE, ResW, Wt.c, hopF, hopC, wk1, wk3, wkY, adW, p2, p3, Ad.z, iv, List.map] at s18
 dsimp only at k18
 subst k18
 have s21 := fun {W : World} => HearE_c (W := W) (v := .slice none 0 0) wk1 wk1_ok SLv.nil (7) (adW 2, adW 1, ⟨1, 9, 1, false, 3, false, Ad.z⟩) ⟨adW_ok 2, adW_ok 1, ⟨⟨by decide, by decide⟩, ⟨by decide, by decide⟩, ⟨by decide, by decide⟩, ⟨by decide, by decide⟩, Ad.z_ok⟩⟩
 have k21 := And.intro (congrArg (fun r => r.2) k_hear3) k_hear3n
 obtain ⟨⟨⟨⟨ah21, ap21⟩, ⟨bh21, bp21⟩, now21, nxt21, til21, ser21, gone21, noise21, word21, fresh21, asked21⟩, o21, e21⟩, hR⟩ : ∃ R, hearE wk1 (7) (adW 2, adW 1, ⟨1, 9, 1, false, 3, false, Ad.z⟩) = R := ⟨_, rfl⟩
 rw [hR] at s21 k21
 clear hR
 dsimp only [ResE, ResW, Wt.c, hopF, hopC, wk1, wk3, wkY, adW, p2, p3, Ad.z, iv, List.map] at s21
 dsimp only at k21
 obtain ⟨k21, rfl⟩ := k21
 simp only [Prod.mk.injEq] at k21
 obtain ⟨rfl, rfl⟩ := k21
 have hr1 := Rep_p 120 65 (by decide)
 have hr2 := Rep_p 97 64 (by decide)
 have hr3 := Rep_p 255 64 (by decide)
 have hbs : ∀ b ∈ bndsQ (rep 120 65), b.Ok ∧ chkW (bendW b wk3) = 120 := fun b hb => ⟨bnds_ok b hb, of_decide_eq_true (List.all_eq_true.1 bnds_bad b hb)⟩
 generalize rep 120 65 = q1 at hr1 s13 hbs
 generalize rep 97 64 = q2 at hr2 s15
 generalize rep 255 64 = q3 at hr3 s15
 first | refine v_pure TTok FFok Try.func3 rfl rfl fun w0 => ?_ | refine v_pure (args := []) TTok FFok Try.func3 rfl rfl fun w0 => ?_
 conv => whnf
 refine VSeq.mk fun Kq hKq => ?_
 conv => whnf
 refine hKq _ _ _ (.refl _) ?_
 clear hKq Kq
 conv => whnf
 refine VSeq.mk fun Kq hKq => ?_
 conv => whnf
 refine VSeq.mk fun Kq hKq => ?_
 conv => whnf
 have hp := Hp.nil w0
 (refine V.CallW.out ?_; (conv => arg 3; dsimp only [EV.val, List.toList_toArray, List.nil_append, List.append_nil, List.cons_append]); (with_reducible refine V.PureF.useW (wakes_p) fun w hx => ?_); try (have hp := hp.call hx); conv => whnf)
 (refine hKq _ _ _ (.refl _) ?_; clear hKq Kq; conv => whnf)
 (refine And.intro (fun h => absurd h (by decide)) (fun _ => ?_); conv => whnf)
 (refine hKq _ _ _ (.refl _) ?_; clear hKq Kq; conv => whnf)
 (refine VSeq.mk fun Kq hKq => ?_; conv => whnf)
 (refine V.CallW.out ?_; (conv => arg 3; dsimp only [EV.val, List.toList_toArray, List.nil_append, List.append_nil, List.cons_append]); (with_reducible refine V.PureF.useW (sample_p) fun w hx => ?_); try (have hp := hp.call hx); conv => whnf)
 (refine hp.kalloc z28 fun al28 w hp hx => ?_; conv => whnf)
 (refine hp.kstA TTok rfl 0 rfl rfl (oneC_of rfl) (by rfl) fun w hp => ?_; try simp only [List.set_cons_zero, List.set_cons_succ, EV.val] at hp; conv => whnf)
 (refine hKq _ _ _ (.refl _) ?_; clear hKq Kq; conv => whnf)
 (refine VSeq.mk fun Kq hKq => ?_; conv => whnf)
 (refine ⟨_, _, Blk.ldV (vs := [_, _, _, _, _, _, _, _, _, _, _, _, _]) (hp.get (i := 0) rfl) TTok rfl rfl rfl, ?_⟩; conv => whnf)
 try dsimp only [Wt.c, wk1, adW] at hp
 obtain ⟨b1, rfl⟩ : ∃ q, q = al28 := ⟨al28, rfl⟩
 refine Calls.mono sx ?_
 rintro _ w ⟨_, rfl, v3, r3, rfl, hx, hs3, hr3⟩
 refine ⟨_, rfl, ?_⟩
 clear sx
 obtain ⟨p3, c3, rfl⟩ := hs3.shape
 obtain ⟨q3, d3, rfl⟩ := hr3.s.shape
 have hp := hp.pushR hx hs3
 clear hs3 hr3
 conv => whnf
 (refine hp.kalloc z28 fun al28 w hp hx => ?_; conv => whnf)
 (refine hp.kstA TTok rfl 0 rfl rfl (oneC_of rfl) (by rfl) fun w hp => ?_; try simp only [List.set_cons_zero, List.set_cons_succ, EV.val] at hp; conv => whnf)
 (refine hKq _ _ _ (.refl _) ?_; clear hKq Kq; conv => whnf)
 (refine VSeq.mk fun Kq hKq => ?_; conv => whnf)
 obtain ⟨b3, rfl⟩ : ∃ q, q = al28 := ⟨al28, rfl⟩
 try simp only [List.length_cons, List.length_nil, Nat.zero_add] at hp
 have hK : ∀ (w : World) (b6 : Nat) (p4 : Option Addr) (c4 : Nat), HpM [] w0 w [blk b6 (wkY.c (.slice p4 1 c4)) 28, ritem (.slice p4 1 c4) [.int .i64 0], blk b3 (wk3.c (.slice p3 1 c3)) 28, ritem (.slice p3 1 c3) [.int .i64 0], blk b1 (wk1.c (.slice none 0 0)) 28] →
   ∀ l, V.Sub [(1, .v (.pointer (some ⟨b1, 0, none⟩))), (2, .v (.int .i64 0)), (3, .v (.pointer (some ⟨b3, 0, none⟩))), (5, .v (.int .i64 0)), (6, .v (.pointer (some ⟨b6, 0, none⟩))), (8, .v (.int .i64 0))] l → Kq l w := by
  intro w b6 p4 c4 hp l hs
  refine hKq _ _ _ hs ?_
  clear hKq Kq hs sy
  conv => whnf
  try dsimp only [Wt.c, wk1, wk3, wkY, adW] at hp
  (refine VSeq.mk fun Kq hKq => ?_; conv => whnf)
  (refine ⟨_, _, Blk.ldV (vs := [_, _, _, _, _, _, _, _, _, _, _, _, _]) (hp.get (i := 4) rfl) TTok rfl rfl rfl, ?_⟩; conv => whnf)
  refine Calls.mono (s6) ?_
  rintro _ w ⟨_, rfl, v, r, rfl, hx, hs, hr⟩
  refine ⟨_, rfl, ?_⟩
  obtain ⟨pa, ca, rfl⟩ := hs.shape
  obtain ⟨pb, cb, rfl⟩ := hr.s.shape
  have hp := hp.call hx
  clear hs hr
  conv => whnf
  (refine hp.kalloc z28 fun al28 w hp hx => ?_; conv => whnf)
  (refine hp.kstA TTok rfl 0 rfl rfl (oneC_of rfl) (by rfl) fun w hp => ?_; try simp only [List.set_cons_zero, List.set_cons_succ, EV.val] at hp; conv => whnf)
  (refine hKq _ _ _ (.refl _) ?_; clear hKq Kq; conv => whnf)
  (refine VSeq.mk fun Kq hKq => ?_; conv => whnf)
  (refine ⟨_, _, Blk.ldV (vs := [_, _, _, _, _, _, _, _, _, _, _, _, _]) (hp.get (i := 5) rfl) TTok rfl rfl rfl, ?_⟩; conv => whnf)
  obtain ⟨b9, rfl⟩ : ∃ q, q = al28 := ⟨al28, rfl⟩
  obtain ⟨pb9, cb9, rfl, rfl⟩ : ∃ p c, p = pb ∧ c = cb := ⟨_, _, rfl, rfl⟩
  refine Calls.mono (s7) ?_
  rintro _ w ⟨_, rfl, v, r, rfl, hx, hs, hr⟩
  refine ⟨_, rfl, ?_⟩
  obtain ⟨pa, ca, rfl⟩ := hs.shape
  obtain ⟨pb, cb, rfl⟩ := hr.s.shape
  have hp := hp.call hx
  clear hs hr
  conv => whnf
  (refine hp.kalloc z28 fun al28 w hp hx => ?_; conv => whnf)
  (refine hp.kstA TTok rfl 0 rfl rfl (oneC_of rfl) (by rfl) fun w hp => ?_; try simp only [List.set_cons_zero, List.set_cons_succ, EV.val] at hp; conv => whnf)
  (refine hKq _ _ _ (.refl _) ?_; clear hKq Kq; conv => whnf)
  (refine VSeq.mk fun Kq hKq => ?_; conv => whnf)
  (refine ⟨_, _, Blk.ldV (vs := [_, _, _, _, _, _, _, _, _, _, _, _, _]) (hp.get (i := 6) rfl) TTok rfl rfl rfl, ?_⟩; conv => whnf)
  obtain ⟨b12, rfl⟩ : ∃ q, q = al28 := ⟨al28, rfl⟩
  obtain ⟨pb13, cb13, rfl, rfl⟩ : ∃ p c, p = pb ∧ c = cb := ⟨_, _, rfl, rfl⟩
  refine Calls.mono (s8) ?_
  rintro _ w ⟨_, rfl, v, rfl, hx, hs⟩
  refine ⟨_, rfl, ?_⟩
  obtain ⟨pa, ca, rfl⟩ := hs.shape
  have hp := hp.call hx
  clear hs
  conv => whnf
  (refine hp.kalloc z28 fun al28 w hp hx => ?_; conv => whnf)
  (refine hp.kstA TTok rfl 0 rfl rfl (oneC_of rfl) (by rfl) fun w hp => ?_; try simp only [List.set_cons_zero, List.set_cons_succ, EV.val] at hp; conv => whnf)
  (refine hKq _ _ _ (.refl _) ?_; clear hKq Kq; conv => whnf)
  (refine VSeq.mk fun Kq hKq => ?_; conv => whnf)
  (refine ⟨_, _, Blk.ldV (vs := [_, _, _, _, _, _, _, _, _, _, _, _, _]) (hp.get (i := 7) rfl) TTok rfl rfl rfl, ?_⟩; conv => whnf)
  have hp := hp.sub (List.drop_sublist 1 _)
  simp only [List.drop_succ_cons, List.drop_zero] at hp
  skip
  refine Calls.mono (s9) ?_
  rintro _ w ⟨_, rfl, v, rfl, hx, hs⟩
  refine ⟨_, rfl, ?_⟩
  obtain ⟨pa, ca, rfl⟩ := hs.shape
  have hp := hp.call hx
  clear hs
  conv => whnf
  (refine hp.kalloc z28 fun al28 w hp hx => ?_; conv => whnf)
  (refine hp.kstA TTok rfl 0 rfl rfl (oneC_of rfl) (by rfl) fun w hp => ?_; try simp only [List.set_cons_zero, List.set_cons_succ, EV.val] at hp; conv => whnf)
  (refine hKq _ _ _ (.refl _) ?_; clear hKq Kq; conv => whnf)
  (refine VSeq.mk fun Kq hKq => ?_; conv => whnf)
  (refine ⟨_, _, Blk.ldV (vs := [_, _, _, _]) (hp.get (i := 7) rfl) TTok rfl rfl rfl, ?_⟩; conv => whnf)
  have hp := hp.sub (List.drop_sublist 1 _)
  simp only [List.drop_succ_cons, List.drop_zero] at hp
  skip
  refine V.CallsUse s10 fun w hx => ?_
  have hp := hp.call hx
  conv => whnf
  (refine hp.kalloc z28 fun al28 w hp hx => ?_; conv => whnf)
  (refine hp.kstA TTok rfl 0 rfl rfl (oneC_of rfl) (by rfl) fun w hp => ?_; try simp only [List.set_cons_zero, List.set_cons_succ, EV.val] at hp; conv => whnf)
  (refine hKq _ _ _ (.refl _) ?_; clear hKq Kq; conv => whnf)
  (refine VSeq.mk fun Kq hKq => ?_; conv => whnf)
  (refine ⟨_, _, Blk.ldV (vs := [_, _, _, _]) (hp.get (i := 7) rfl) TTok rfl rfl rfl, ?_⟩; conv => whnf)
  have hp := hp.sub (List.drop_sublist 1 _)
  simp only [List.drop_succ_cons, List.drop_zero] at hp
  skip
  refine V.CallsUse s11 fun w hx => ?_
  have hp := hp.call hx
  conv => whnf
  (refine hp.kalloc z28 fun al28 w hp hx => ?_; conv => whnf)
  (refine hp.kstA TTok rfl 0 rfl rfl (oneC_of rfl) (by rfl) fun w hp => ?_; try simp only [List.set_cons_zero, List.set_cons_succ, EV.val] at hp; conv => whnf)
  (refine hKq _ _ _ (.refl _) ?_; clear hKq Kq; conv => whnf)
  (refine VSeq.mk fun Kq hKq => ?_; conv => whnf)
  (refine V.CallW.out ?_; (conv => arg 3; dsimp only [EV.val, List.toList_toArray, List.nil_append, List.append_nil, List.cons_append]); refine V.PureF.useW (addr_1) fun w hx => ?_; try (have hp := hp.call hx); conv => whnf)
  (refine V.CallW.out ?_; (conv => arg 3; dsimp only [EV.val, List.toList_toArray, List.nil_append, List.append_nil, List.cons_append]); refine V.PureF.useW (addr_1) fun w hx => ?_; try (have hp := hp.call hx); conv => whnf)
  (refine ⟨_, _, bld25_0_1 _ _ _ _ _, ?_⟩; conv => whnf)
  have hp := hp.sub (List.drop_sublist 1 _)
  simp only [List.drop_succ_cons, List.drop_zero] at hp
  skip
  refine V.CallsUse s12 fun w hx => ?_
  have hp := hp.call hx
  conv => whnf
  (refine hp.kalloc z28 fun al28 w hp hx => ?_; conv => whnf)
  (refine hp.kstA TTok rfl 0 rfl rfl (oneC_of rfl) (by rfl) fun w hp => ?_; try simp only [List.set_cons_zero, List.set_cons_succ, EV.val] at hp; conv => whnf)
  (refine hKq _ _ _ (.refl _) ?_; clear hKq Kq; conv => whnf)
  (refine VSeq.mk fun Kq hKq => ?_; conv => whnf)
  have hp := hp.sub (List.drop_sublist 1 _)
  simp only [List.drop_succ_cons, List.drop_zero] at hp
  skip
  refine useK (Kq := Kq) hp [(1, .v (.pointer (some ⟨b1, 0, none⟩))), (2, .v (.int .i64 0)), (3, .v (.pointer (some ⟨b3, 0, none⟩))), (5, .v (.int .i64 0)), (6, .v (.pointer (some ⟨b6, 0, none⟩))), (8, .v (.int .i64 0)), (9, .v (.pointer (some ⟨b9, 0, none⟩))), (10, .v (.slice pb9 0 cb9)), (11, .v (.int .i64 0)), (12, .v (.pointer (some ⟨b12, 0, none⟩))), (13, .v (.slice pb13 o7.length cb13)), (14, .v (.int .i64 0)), (16, .v (.int .i64 2)), (18, .v (.int .i64 8)), (20, .v (.int .i64 2)), (22, .v (.int .i64 2)), (24, .v (.int .i64 2)), (26, .v (.int .i64 2))] (fun w hp l hs => ?_) (fun hK => ?_)
  rotate_left
  ·clear hKq
   have hB1 : Blk w b1 _ _ := hp.get (i := 6) rfl
   have hpO := hp
   clear hp
   repeat clear hp
   have hp := Hp.nil w
   refine v_mtB TTok FFok mixed [] (.q 0 (.q 1 (.q 2 (.br 3 7 (.q 4 (.q 5 (.q 6 (.m 7 (.m 8 (.q 9 .nil)))))) (.m 3 (.q 4 (.q 5 (.q 6 (.m 8 (.q 9 .nil)))))))))) (by kernel_rfl) ?_
   conv => whnf
   (refine ⟨_, fun w' hx' => Blk.ldV (vs := [_, _, _, _]) (Blk.ext hB1 (hp.ext.trans hx')) TTok rfl rfl rfl, ?_⟩; conv => whnf)
   (refine V.QCallW.out ?_; (conv => arg 3; dsimp only [EV.val, List.toList_toArray, List.nil_append, List.append_nil, List.cons_append]); refine V.PureF.quietW (hr1) ?_; conv => whnf)
   refine And.intro ?_ ?_
   ·conv => whnf
    intro w hx
    try (have hp := hp.call hx)
    conv => whnf
    refine V.CallsUse s13 fun w hx => ?_
    have hp := hp.call hx
    conv => whnf
    ((with_reducible show (Ext _ _ → Ext _ _) ∧ _); refine And.intro (fun _ => hp.ext) ?_; conv => whnf)
    (intro w hx; try (have hp := hp.call hx); conv => whnf)
    (refine hp.kalloc z28 fun al28 w hp hx => ?_; conv => whnf)
    ((with_reducible show (Ext _ _ → Ext _ _) ∧ _); refine And.intro (fun _ => hp.ext) ?_; conv => whnf)
    (intro w hx; try (have hp := hp.call hx); conv => whnf)
    (refine hp.kstA TTok rfl 0 rfl rfl (oneC_of rfl) (by rfl) fun w hp => ?_; try simp only [List.set_cons_zero, List.set_cons_succ, EV.val] at hp; conv => whnf)
    ((with_reducible show (Ext _ _ → Ext _ _) ∧ _); refine And.intro (fun _ => hp.ext) ?_; conv => whnf)
    (intro w hx; try (have hp := hp.call hx); conv => whnf)
    refine hK _ (hpO.call hp.ext) _ ?_
    exact sub_cons rfl (sub_cons rfl (sub_cons rfl (sub_cons rfl (sub_cons rfl (sub_cons rfl (sub_cons rfl (sub_cons rfl (sub_cons rfl (sub_cons rfl (sub_cons rfl (sub_cons rfl (sub_cons rfl (sub_cons rfl (sub_cons rfl (sub_cons rfl (sub_cons rfl (sub_cons rfl (sub_nil))))))))))))))))))
   ·conv => whnf
    (intro w hx; try (have hp := hp.call hx); conv => whnf)
    (refine hp.kalloc z28 fun al28 w hp hx => ?_; conv => whnf)
    ((with_reducible show (Ext _ _ → Ext _ _) ∧ _); refine And.intro (fun _ => hp.ext) ?_; conv => whnf)
    (intro w hx; try (have hp := hp.call hx); conv => whnf)
    refine V.CallsUse s13 fun w hx => ?_
    have hp := hp.call hx
    conv => whnf
    ((with_reducible show (Ext _ _ → Ext _ _) ∧ _); refine And.intro (fun _ => hp.ext) ?_; conv => whnf)
    (intro w hx; try (have hp := hp.call hx); conv => whnf)
    (refine hp.kstA TTok rfl 0 rfl rfl (oneC_of rfl) (by rfl) fun w hp => ?_; try simp only [List.set_cons_zero, List.set_cons_succ, EV.val] at hp; conv => whnf)
    ((with_reducible show (Ext _ _ → Ext _ _) ∧ _); refine And.intro (fun _ => hp.ext) ?_; conv => whnf)
    (intro w hx; try (have hp := hp.call hx); conv => whnf)
    refine hK _ (hpO.call hp.ext) _ ?_
    exact sub_cons rfl (sub_cons rfl (sub_cons rfl (sub_cons rfl (sub_cons rfl (sub_cons rfl (sub_cons rfl (sub_cons rfl (sub_cons rfl (sub_cons rfl (sub_cons rfl (sub_cons rfl (sub_cons rfl (sub_cons rfl (sub_cons rfl (sub_cons rfl (sub_cons rfl (sub_cons rfl (sub_nil))))))))))))))))))
  refine hKq _ _ _ hs ?_
  clear hKq Kq hs
  conv => whnf
  (refine VSeq.mk fun Kq hKq => ?_; conv => whnf)
  (refine ⟨_, _, Blk.ldV (vs := [_, _, _, _]) (hp.get (i := 6) rfl) TTok rfl rfl rfl, ?_⟩; conv => whnf)
  refine V.CallsUse s14 fun w hx => ?_
  have hp := hp.call hx
  conv => whnf
  (refine hp.kalloc z28 fun al28 w hp hx => ?_; conv => whnf)
  (refine hp.kstA TTok rfl 0 rfl rfl (oneC_of rfl) (by rfl) fun w hp => ?_; try simp only [List.set_cons_zero, List.set_cons_succ, EV.val] at hp; conv => whnf)
  (refine hKq _ _ _ (.refl _) ?_; clear hKq Kq; conv => whnf)
  (refine VSeq.mk fun Kq hKq => ?_; conv => whnf)
  have hp := hp.sub (List.drop_sublist 1 _)
  simp only [List.drop_succ_cons, List.drop_zero] at hp
  skip
  refine useK2 (Kq := Kq) hp (fun b29 p45 c45 => [blk b29 [.string ah15, .int .i64 ap15, .string bh15, .int .i64 bp15, .int .i64 now15, .int .i64 1099511633768, .int .i64 til15, .int .i64 ser15, .bool gone15, .string noise15, .string word15, .string fresh15, .slice none 0 0] 28]) (fun b29 p45 c45 => [(1, .v (.pointer (some ⟨b1, 0, none⟩))), (2, .v (.int .i64 0)), (3, .v (.pointer (some ⟨b3, 0, none⟩))), (5, .v (.int .i64 0)), (6, .v (.pointer (some ⟨b6, 0, none⟩))), (8, .v (.int .i64 0)), (9, .v (.pointer (some ⟨b9, 0, none⟩))), (10, .v (.slice pb9 0 cb9)), (11, .v (.int .i64 0)), (12, .v (.pointer (some ⟨b12, 0, none⟩))), (13, .v (.slice pb13 o7.length cb13)), (14, .v (.int .i64 0)), (16, .v (.int .i64 2)), (18, .v (.int .i64 8)), (20, .v (.int .i64 2)), (22, .v (.int .i64 2)), (24, .v (.int .i64 2)), (26, .v (.int .i64 2)), (28, .v (.int .i64 2)), (29, .v (.pointer (some ⟨b29, 0, none⟩))), (30, .v (.int .i64 0))]) (fun b29 p45 c45 w hp l hs => ?_) (fun hK => ?_)
  rotate_left
  ·clear hKq
   have hB1 : Blk w b1 _ _ := hp.get (i := 6) rfl
   have hpO := hp
   clear hp
   repeat clear hp
   have hp := Hp.nil w
   refine v_mtB TTok FFok mixed [] (.q 0 (.q 1 (.q 2 (.q 3 (.br 4 8 (.q 5 (.q 6 (.q 7 (.m 8 (.m 9 (.q 10 .nil)))))) (.m 4 (.q 5 (.q 6 (.q 7 (.m 9 (.q 10 .nil))))))))))) (by kernel_rfl) ?_
   conv => whnf
   refine ⟨_, fun w' hx' => Blk.ldV (vs := [_, _, _, _]) (Blk.ext hB1 (hp.ext.trans hx')) TTok rfl rfl rfl, ?_⟩
   conv => whnf
   first | refine PureF.quiet (hr2) ?_ | refine PureF.quietE (hr2) ?_
   conv => whnf
   first | refine PureF.quiet (hr3) ?_ | refine PureF.quietE (hr3) ?_
   conv => whnf
   refine And.intro ?_ ?_
   ·conv => whnf
    intro w hx
    try (have hp := hp.call hx)
    conv => whnf
    refine V.CallsUse s15 fun w hx => ?_
    have hp := hp.call hx
    conv => whnf
    ((with_reducible show (Ext _ _ → Ext _ _) ∧ _); refine And.intro (fun _ => hp.ext) ?_; conv => whnf)
    (intro w hx; try (have hp := hp.call hx); conv => whnf)
    (refine hp.kalloc z28 fun al28 w hp hx => ?_; conv => whnf)
    ((with_reducible show (Ext _ _ → Ext _ _) ∧ _); refine And.intro (fun _ => hp.ext) ?_; conv => whnf)
    (intro w hx; try (have hp := hp.call hx); conv => whnf)
    (refine hp.kstA TTok rfl 0 rfl rfl (oneC_of rfl) (by rfl) fun w hp => ?_; try simp only [List.set_cons_zero, List.set_cons_succ, EV.val] at hp; conv => whnf)
    ((with_reducible show (Ext _ _ → Ext _ _) ∧ _); refine And.intro (fun _ => hp.ext) ?_; conv => whnf)
    (intro w hx; try (have hp := hp.call hx); conv => whnf)
    refine hK _ none 0 _ ((hpO.join hp).pick [0, 1, 2, 3, 4, 5, 6, 7] (by decide)) _ ?_
    exact sub_cons rfl (sub_cons rfl (sub_cons rfl (sub_cons rfl (sub_cons rfl (sub_cons rfl (sub_cons rfl (sub_cons rfl (sub_cons rfl (sub_cons rfl (sub_cons rfl (sub_cons rfl (sub_cons rfl (sub_cons rfl (sub_cons rfl (sub_cons rfl (sub_cons rfl (sub_cons rfl (sub_cons rfl (sub_cons rfl (sub_cons rfl (sub_nil)))))))))))))))))))))
   ·conv => whnf
    (intro w hx; try (have hp := hp.call hx); conv => whnf)
    (refine hp.kalloc z28 fun al28 w hp hx => ?_; conv => whnf)
    ((with_reducible show (Ext _ _ → Ext _ _) ∧ _); refine And.intro (fun _ => hp.ext) ?_; conv => whnf)
    (intro w hx; try (have hp := hp.call hx); conv => whnf)
    refine V.CallsUse s15 fun w hx => ?_
    have hp := hp.call hx
    conv => whnf
    ((with_reducible show (Ext _ _ → Ext _ _) ∧ _); refine And.intro (fun _ => hp.ext) ?_; conv => whnf)
    (intro w hx; try (have hp := hp.call hx); conv => whnf)
    (refine hp.kstA TTok rfl 0 rfl rfl (oneC_of rfl) (by rfl) fun w hp => ?_; try simp only [List.set_cons_zero, List.set_cons_succ, EV.val] at hp; conv => whnf)
    ((with_reducible show (Ext _ _ → Ext _ _) ∧ _); refine And.intro (fun _ => hp.ext) ?_; conv => whnf)
    (intro w hx; try (have hp := hp.call hx); conv => whnf)
    refine hK _ none 0 _ ((hpO.join hp).pick [0, 1, 2, 3, 4, 5, 6, 7] (by decide)) _ ?_
    exact sub_cons rfl (sub_cons rfl (sub_cons rfl (sub_cons rfl (sub_cons rfl (sub_cons rfl (sub_cons rfl (sub_cons rfl (sub_cons rfl (sub_cons rfl (sub_cons rfl (sub_cons rfl (sub_cons rfl (sub_cons rfl (sub_cons rfl (sub_cons rfl (sub_cons rfl (sub_cons rfl (sub_cons rfl (sub_cons rfl (sub_cons rfl (sub_nil)))))))))))))))))))))
  refine hKq _ _ _ hs ?_
  clear hKq Kq hs
  conv => whnf
  simp only [List.cons_append, List.nil_append] at hp
  (refine VSeq.mk fun Kq hKq => ?_; conv => whnf)
  (refine ⟨_, _, Blk.ldV (vs := [_, _, _, _, _, _, _, _, _, _, _, _, _]) (hp.get (i := 7) rfl) TTok rfl rfl rfl, ?_⟩; conv => whnf)
  refine Calls.mono (s16) ?_
  rintro _ w ⟨_, rfl, v, r, rfl, hx, hs, hr⟩
  refine ⟨_, rfl, ?_⟩
  obtain ⟨pa, ca, rfl⟩ := hs.shape
  obtain ⟨pb, cb, rfl⟩ := hr.s.shape
  have hp := hp.call hx
  clear hs hr
  conv => whnf
  (refine hp.kalloc z28 fun al28 w hp hx => ?_; conv => whnf)
  (refine hp.kstA TTok rfl 0 rfl rfl (oneC_of rfl) (by rfl) fun w hp => ?_; try simp only [List.set_cons_zero, List.set_cons_succ, EV.val] at hp; conv => whnf)
  (refine hKq _ _ _ (.refl _) ?_; clear hKq Kq; conv => whnf)
  (refine VSeq.mk fun Kq hKq => ?_; conv => whnf)
  have hp := hp.sub (List.drop_sublist 1 _)
  simp only [List.drop_succ_cons, List.drop_zero] at hp
  skip
  refine useK (Kq := Kq) hp [(1, .v (.pointer (some ⟨b1, 0, none⟩))), (2, .v (.int .i64 0)), (3, .v (.pointer (some ⟨b3, 0, none⟩))), (5, .v (.int .i64 0)), (6, .v (.pointer (some ⟨b6, 0, none⟩))), (8, .v (.int .i64 0)), (9, .v (.pointer (some ⟨b9, 0, none⟩))), (10, .v (.slice pb9 0 cb9)), (11, .v (.int .i64 0)), (12, .v (.pointer (some ⟨b12, 0, none⟩))), (13, .v (.slice pb13 o7.length cb13)), (14, .v (.int .i64 0)), (16, .v (.int .i64 2)), (18, .v (.int .i64 8)), (20, .v (.int .i64 2)), (22, .v (.int .i64 2)), (24, .v (.int .i64 2)), (26, .v (.int .i64 2)), (28, .v (.int .i64 2)), (29, .v (.pointer (some ⟨b29, 0, none⟩))), (30, .v (.int .i64 0)), (33, .v (.int .i64 2)), (36, .v (.int .i64 110))] (fun w hp l hs => ?_) (fun hK => ?_)
  rotate_left
  ·clear hKq
   have hB1 : Blk w b1 _ _ := hp.get (i := 7) rfl
   have hpO := hp
   clear hp
   repeat clear hp
   have hp := Hp.nil w
   refine v_mtB TTok FFok mixed [] (.q 0 (.q 1 (.q 2 (.q 3 (.br 4 9 (.q 5 (.q 6 (.q 7 (.q 8 (.m 9 (.m 10 (.q 11 (.q 12 .nil)))))))) (.m 4 (.q 5 (.q 6 (.q 7 (.q 8 (.m 10 (.q 11 (.q 12 .nil))))))))))))) (by kernel_rfl) ?_
   conv => whnf
   (refine ⟨_, fun w' hx' => Blk.ldN (Blk.ext hB1 (hp.ext.trans hx')) TTok rfl rfl, ?_⟩; conv => whnf)
   (refine V.QCallW.out ?_; (conv => arg 3; dsimp only [EV.val, List.toList_toArray, List.nil_append, List.append_nil, List.cons_append]); refine V.PureF.quietW (addr_2) ?_; conv => whnf)
   (refine V.QCallW.out ?_; (conv => arg 3; dsimp only [EV.val, List.toList_toArray, List.nil_append, List.append_nil, List.cons_append]); refine V.PureF.quietW (addr_1) ?_; conv => whnf)
   (refine ⟨_, fun w' hx' => bld40_0_1 w' _ _ _ _, ?_⟩; conv => whnf)
   refine And.intro ?_ ?_
   ·conv => whnf
    intro w hx
    try (have hp := hp.call hx)
    conv => whnf
    refine Calls.mono (s17) ?_
    rintro _ w ⟨_, rfl, v, r, rfl, hx, hs, hr⟩
    refine ⟨_, rfl, ?_⟩
    obtain ⟨pa, ca, rfl⟩ := hs.shape
    obtain ⟨pb, cb, rfl⟩ := hr.s.shape
    have hp := hp.call hx
    clear hs hr
    conv => whnf
    ((with_reducible show (Ext _ _ → Ext _ _) ∧ _); refine And.intro (fun _ => hp.ext) ?_; conv => whnf)
    (intro w hx; try (have hp := hp.call hx); conv => whnf)
    (refine hp.kalloc z28 fun al28 w hp hx => ?_; conv => whnf)
    ((with_reducible show (Ext _ _ → Ext _ _) ∧ _); refine And.intro (fun _ => hp.ext) ?_; conv => whnf)
    (intro w hx; try (have hp := hp.call hx); conv => whnf)
    (refine hp.kstA TTok rfl 0 rfl rfl (oneC_of rfl) (by rfl) fun w hp => ?_; try simp only [List.set_cons_zero, List.set_cons_succ, EV.val] at hp; conv => whnf)
    ((with_reducible show (Ext _ _ → Ext _ _) ∧ _); refine And.intro (fun _ => hp.ext) ?_; conv => whnf)
    (intro w hx; try (have hp := hp.call hx); conv => whnf)
    refine hK _ (hpO.call hp.ext) _ ?_
    exact sub_cons rfl (sub_cons rfl (sub_cons rfl (sub_cons rfl (sub_cons rfl (sub_cons rfl (sub_cons rfl (sub_cons rfl (sub_cons rfl (sub_cons rfl (sub_cons rfl (sub_cons rfl (sub_cons rfl (sub_cons rfl (sub_cons rfl (sub_cons rfl (sub_cons rfl (sub_cons rfl (sub_cons rfl (sub_cons rfl (sub_cons rfl (sub_cons rfl (sub_cons rfl (sub_nil)))))))))))))))))))))))
   ·conv => whnf
    (intro w hx; try (have hp := hp.call hx); conv => whnf)
    (refine hp.kalloc z28 fun al28 w hp hx => ?_; conv => whnf)
    ((with_reducible show (Ext _ _ → Ext _ _) ∧ _); refine And.intro (fun _ => hp.ext) ?_; conv => whnf)
    (intro w hx; try (have hp := hp.call hx); conv => whnf)
    refine Calls.mono (s17) ?_
    rintro _ w ⟨_, rfl, v, r, rfl, hx, hs, hr⟩
    refine ⟨_, rfl, ?_⟩
    obtain ⟨pa, ca, rfl⟩ := hs.shape
    obtain ⟨pb, cb, rfl⟩ := hr.s.shape
    have hp := hp.call hx
    clear hs hr
    conv => whnf
    ((with_reducible show (Ext _ _ → Ext _ _) ∧ _); refine And.intro (fun _ => hp.ext) ?_; conv => whnf)
    (intro w hx; try (have hp := hp.call hx); conv => whnf)
    (refine hp.kstA TTok rfl 0 rfl rfl (oneC_of rfl) (by rfl) fun w hp => ?_; try simp only [List.set_cons_zero, List.set_cons_succ, EV.val] at hp; conv => whnf)
    ((with_reducible show (Ext _ _ → Ext _ _) ∧ _); refine And.intro (fun _ => hp.ext) ?_; conv => whnf)
    (intro w hx; try (have hp := hp.call hx); conv => whnf)
    refine hK _ (hpO.call hp.ext) _ ?_
    exact sub_cons rfl (sub_cons rfl (sub_cons rfl (sub_cons rfl (sub_cons rfl (sub_cons rfl (sub_cons rfl (sub_cons rfl (sub_cons rfl (sub_cons rfl (sub_cons rfl (sub_cons rfl (sub_cons rfl (sub_cons rfl (sub_cons rfl (sub_cons rfl (sub_cons rfl (sub_cons rfl (sub_cons rfl (sub_cons rfl (sub_cons rfl (sub_cons rfl (sub_cons rfl (sub_nil)))))))))))))))))))))))
  refine hKq _ _ _ hs ?_
  clear hKq Kq hs
  conv => whnf
  refine VSeq.mk fun Kq hKq => ?_
  conv => whnf
  refine useK (Kq := Kq) hp [(1, .v (.pointer (some ⟨b1, 0, none⟩))), (2, .v (.int .i64 0)), (3, .v (.pointer (some ⟨b3, 0, none⟩))), (5, .v (.int .i64 0)), (6, .v (.pointer (some ⟨b6, 0, none⟩))), (8, .v (.int .i64 0)), (9, .v (.pointer (some ⟨b9, 0, none⟩))), (10, .v (.slice pb9 0 cb9)), (11, .v (.int .i64 0)), (12, .v (.pointer (some ⟨b12, 0, none⟩))), (13, .v (.slice pb13 o7.length cb13)), (14, .v (.int .i64 0)), (16, .v (.int .i64 2)), (18, .v (.int .i64 8)), (20, .v (.int .i64 2)), (22, .v (.int .i64 2)), (24, .v (.int .i64 2)), (26, .v (.int .i64 2)), (28, .v (.int .i64 2)), (29, .v (.pointer (some ⟨b29, 0, none⟩))), (30, .v (.int .i64 0)), (33, .v (.int .i64 2)), (36, .v (.int .i64 110)), (39, .v (.int .i64 2))] (fun w hp l hs => ?_) (fun hK => ?_)
  rotate_left
  ·clear hKq
   have hB1 : Blk w b1 _ _ := hp.get (i := 7) rfl
   have hpO := hp
   clear hp
   repeat clear hp
   have hp := Hp.nil w
   refine v_mtB TTok FFok mixed [] (.q 0 (.q 1 (.q 2 (.q 3 (.q 4 (.br 5 10 (.q 6 (.q 7 (.q 8 (.q 9 (.m 10 (.m 11 (.q 12 (.q 13 .nil)))))))) (.m 5 (.q 6 (.q 7 (.q 8 (.q 9 (.m 11 (.q 12 (.q 13 .nil)))))))))))))) (by kernel_rfl) ?_
   conv => whnf
   (refine ⟨_, fun w' hx' => Blk.ldN (Blk.ext hB1 (hp.ext.trans hx')) TTok rfl rfl, ?_⟩; conv => whnf)
   (refine V.QCallW.out ?_; (conv => arg 3; dsimp only [EV.val, List.toList_toArray, List.nil_append, List.append_nil, List.cons_append]); refine V.PureF.quietW (addr_1) ?_; conv => whnf)
   (refine V.QCallW.out ?_; (conv => arg 3; dsimp only [EV.val, List.toList_toArray, List.nil_append, List.append_nil, List.cons_append]); refine V.PureF.quietW (addr_2) ?_; conv => whnf)
   (refine ⟨_, fun w' hx' => bld38_0 w' _, ?_⟩; conv => whnf)
   (refine ⟨_, fun w' hx' => bld40_0_1_2 w' _ _ _ _ _ _ _ _ _ _ _ _, ?_⟩; conv => whnf)
   refine And.intro ?_ ?_
   ·conv => whnf
    intro w hx
    try (have hp := hp.call hx)
    conv => whnf
    refine Calls.mono (s18) ?_
    rintro _ w ⟨_, rfl, v, r, rfl, hx, hs, hr⟩
    refine ⟨_, rfl, ?_⟩
    obtain ⟨pa, ca, rfl⟩ := hs.shape
    obtain ⟨pb, cb, rfl⟩ := hr.s.shape
    have hp := hp.call hx
    clear hs hr
    conv => whnf
    ((with_reducible show (Ext _ _ → Ext _ _) ∧ _); refine And.intro (fun _ => hp.ext) ?_; conv => whnf)
    (intro w hx; try (have hp := hp.call hx); conv => whnf)
    (refine hp.kalloc z28 fun al28 w hp hx => ?_; conv => whnf)
    ((with_reducible show (Ext _ _ → Ext _ _) ∧ _); refine And.intro (fun _ => hp.ext) ?_; conv => whnf)
    (intro w hx; try (have hp := hp.call hx); conv => whnf)
    (refine hp.kstA TTok rfl 0 rfl rfl (oneC_of rfl) (by rfl) fun w hp => ?_; try simp only [List.set_cons_zero, List.set_cons_succ, EV.val] at hp; conv => whnf)
    ((with_reducible show (Ext _ _ → Ext _ _) ∧ _); refine And.intro (fun _ => hp.ext) ?_; conv => whnf)
    (intro w hx; try (have hp := hp.call hx); conv => whnf)
    refine hK _ (hpO.call hp.ext) _ ?_
    exact sub_cons rfl (sub_cons rfl (sub_cons rfl (sub_cons rfl (sub_cons rfl (sub_cons rfl (sub_cons rfl (sub_cons rfl (sub_cons rfl (sub_cons rfl (sub_cons rfl (sub_cons rfl (sub_cons rfl (sub_cons rfl (sub_cons rfl (sub_cons rfl (sub_cons rfl (sub_cons rfl (sub_cons rfl (sub_cons rfl (sub_cons rfl (sub_cons rfl (sub_cons rfl (sub_cons rfl (sub_nil))))))))))))))))))))))))
   ·conv => whnf
    (intro w hx; try (have hp := hp.call hx); conv => whnf)
    (refine hp.kalloc z28 fun al28 w hp hx => ?_; conv => whnf)
    ((with_reducible show (Ext _ _ → Ext _ _) ∧ _); refine And.intro (fun _ => hp.ext) ?_; conv => whnf)
    (intro w hx; try (have hp := hp.call hx); conv => whnf)
    refine Calls.mono (s18) ?_
    rintro _ w ⟨_, rfl, v, r, rfl, hx, hs, hr⟩
    refine ⟨_, rfl, ?_⟩
    obtain ⟨pa, ca, rfl⟩ := hs.shape
    obtain ⟨pb, cb, rfl⟩ := hr.s.shape
    have hp := hp.call hx
    clear hs hr
    conv => whnf
    ((with_reducible show (Ext _ _ → Ext _ _) ∧ _); refine And.intro (fun _ => hp.ext) ?_; conv => whnf)
    (intro w hx; try (have hp := hp.call hx); conv => whnf)
    (refine hp.kstA TTok rfl 0 rfl rfl (oneC_of rfl) (by rfl) fun w hp => ?_; try simp only [List.set_cons_zero, List.set_cons_succ, EV.val] at hp; conv => whnf)
    ((with_reducible show (Ext _ _ → Ext _ _) ∧ _); refine And.intro (fun _ => hp.ext) ?_; conv => whnf)
    (intro w hx; try (have hp := hp.call hx); conv => whnf)
    refine hK _ (hpO.call hp.ext) _ ?_
    exact sub_cons rfl (sub_cons rfl (sub_cons rfl (sub_cons rfl (sub_cons rfl (sub_cons rfl (sub_cons rfl (sub_cons rfl (sub_cons rfl (sub_cons rfl (sub_cons rfl (sub_cons rfl (sub_cons rfl (sub_cons rfl (sub_cons rfl (sub_cons rfl (sub_cons rfl (sub_cons rfl (sub_cons rfl (sub_cons rfl (sub_cons rfl (sub_cons rfl (sub_cons rfl (sub_cons rfl (sub_nil))))))))))))))))))))))))
  refine hKq _ _ _ hs ?_
  clear hKq Kq hs
  conv => whnf
  (refine VSeq.mk fun Kq hKq => ?_; conv => whnf)
  (refine ⟨_, _, Blk.ldV (vs := [_, _, _, _, _, _, _, _, _, _, _, _, _]) (hp.get (i := 7) rfl) TTok rfl rfl rfl, ?_⟩; conv => whnf)
  (refine ⟨_, _, bld25_ _, ?_⟩; conv => whnf)
  refine Calls.mono (s19) ?_
  rintro _ w ⟨_, rfl, v, rfl, hx, hs⟩
  refine ⟨_, rfl, ?_⟩
  obtain ⟨pa, ca, rfl⟩ := hs.shape
  have hp := hp.call hx
  clear hs
  conv => whnf
  (refine hp.kalloc z28 fun al28 w hp hx => ?_; conv => whnf)
  (refine hp.kstA TTok rfl 0 rfl rfl (oneC_of rfl) (by rfl) fun w hp => ?_; try simp only [List.set_cons_zero, List.set_cons_succ, EV.val] at hp; conv => whnf)
  (refine hKq _ _ _ (.refl _) ?_; clear hKq Kq; conv => whnf)
  (refine VSeq.mk fun Kq hKq => ?_; conv => whnf)
  (refine ⟨_, _, Blk.ldV (vs := [_, _, _, _, _, _, _, _, _, _, _, _, _]) (hp.get (i := 8) rfl) TTok rfl rfl rfl, ?_⟩; conv => whnf)
  (refine ⟨_, _, bld25_ _, ?_⟩; conv => whnf)
  have hp := hp.sub (List.drop_sublist 1 _)
  simp only [List.drop_succ_cons, List.drop_zero] at hp
  skip
  refine Calls.mono (s20) ?_
  rintro _ w ⟨_, rfl, v, rfl, hx, hs⟩
  refine ⟨_, rfl, ?_⟩
  obtain ⟨pa, ca, rfl⟩ := hs.shape
  have hp := hp.call hx
  clear hs
  conv => whnf
  (refine hp.kalloc z28 fun al28 w hp hx => ?_; conv => whnf)
  (refine hp.kstA TTok rfl 0 rfl rfl (oneC_of rfl) (by rfl) fun w hp => ?_; try simp only [List.set_cons_zero, List.set_cons_succ, EV.val] at hp; conv => whnf)
  (refine hKq _ _ _ (.refl _) ?_; clear hKq Kq; conv => whnf)
  (refine VSeq.mk fun Kq hKq => ?_; conv => whnf)
  have hp := hp.sub (List.drop_sublist 1 _)
  simp only [List.drop_succ_cons, List.drop_zero] at hp
  skip
  refine useK3 (Kq := Kq) hp (fun b44 p45 c45 p46 c46 => [blk b44 [.string ah21, .int .i64 ap21, .string bh21, .int .i64 bp21, .int .i64 7, .int .i64 nxt21, .int .i64 til21, .int .i64 ser21, .bool gone21, .string noise21, .string word21, .string fresh21, .slice p46 asked21.length c46] 28, hitem (.slice p45 1 c45) [(adW 1, adW 2, p2 9 (adW 2))]]) (fun b44 p45 c45 => [(1, .v (.pointer (some ⟨b1, 0, none⟩))), (2, .v (.int .i64 0)), (3, .v (.pointer (some ⟨b3, 0, none⟩))), (5, .v (.int .i64 0)), (6, .v (.pointer (some ⟨b6, 0, none⟩))), (8, .v (.int .i64 0)), (9, .v (.pointer (some ⟨b9, 0, none⟩))), (10, .v (.slice pb9 0 cb9)), (11, .v (.int .i64 0)), (12, .v (.pointer (some ⟨b12, 0, none⟩))), (13, .v (.slice pb13 o7.length cb13)), (14, .v (.int .i64 0)), (16, .v (.int .i64 2)), (18, .v (.int .i64 8)), (20, .v (.int .i64 2)), (22, .v (.int .i64 2)), (24, .v (.int .i64 2)), (26, .v (.int .i64 2)), (28, .v (.int .i64 2)), (29, .v (.pointer (some ⟨b29, 0, none⟩))), (30, .v (.int .i64 0)), (33, .v (.int .i64 2)), (36, .v (.int .i64 110)), (39, .v (.int .i64 2)), (41, .v (.int .i64 2)), (43, .v (.int .i64 8)), (44, .v (.pointer (some ⟨b44, 0, none⟩))), (45, .v (.slice p45 1 c45)), (46, .v (.int .i64 0))]) (fun b44 p45 c45 p46 c46 w hp l hs => ?_) (fun hK => ?_)
  rotate_left
  ·clear hKq
   have hB1 : Blk w b1 _ _ := hp.get (i := 7) rfl
   have hpO := hp
   clear hp
   repeat clear hp
   have hp := Hp.nil w
   refine v_mtB TTok FFok mixed [] (.q 0 (.q 1 (.q 2 (.q 3 (.q 4 (.br 5 10 (.q 6 (.q 7 (.q 8 (.q 9 (.m 10 (.m 11 (.q 12 (.q 13 .nil)))))))) (.m 5 (.q 6 (.q 7 (.q 8 (.q 9 (.m 11 (.q 12 (.q 13 .nil)))))))))))))) (by kernel_rfl) ?_
   conv => whnf
   (refine ⟨_, fun w' hx' => Blk.ldN (Blk.ext hB1 (hp.ext.trans hx')) TTok rfl rfl, ?_⟩; conv => whnf)
   (refine V.QCallW.out ?_; (conv => arg 3; dsimp only [EV.val, List.toList_toArray, List.nil_append, List.append_nil, List.cons_append]); refine V.PureF.quietW (addr_2) ?_; conv => whnf)
   (refine V.QCallW.out ?_; (conv => arg 3; dsimp only [EV.val, List.toList_toArray, List.nil_append, List.append_nil, List.cons_append]); refine V.PureF.quietW (addr_1) ?_; conv => whnf)
   (refine ⟨_, fun w' hx' => bld38_0_1_2_4 w' _ _ _ _, ?_⟩; conv => whnf)
   (refine ⟨_, fun w' hx' => bld40_0_1_2 w' _ _ _ _ _ _ _ _ _ _ _ _, ?_⟩; conv => whnf)
   refine And.intro ?_ ?_
   ·conv => whnf
    intro w hx
    try (have hp := hp.call hx)
    conv => whnf
    refine Calls.mono s21 ?_
    rintro _ w ⟨_, rfl, v, r, rfl, hx, hs, hr⟩
    refine ⟨_, rfl, ?_⟩
    obtain ⟨pa, ca, rfl⟩ := hs.shape
    rw [show (iv asked21).length = asked21.length from List.length_map _]
    obtain ⟨pb, cb, rfl⟩ : ∃ p c, r = .slice p 1 c := hr.s.shape
    have hp := pushH hp hx hr
    clear hs hr
    conv => whnf
    ((with_reducible show (Ext _ _ → Ext _ _) ∧ _); refine And.intro (fun _ => hp.ext) ?_; conv => whnf)
    (intro w hx; try (have hp := hp.call hx); conv => whnf)
    (refine hp.kalloc z28 fun al28 w hp hx => ?_; conv => whnf)
    ((with_reducible show (Ext _ _ → Ext _ _) ∧ _); refine And.intro (fun _ => hp.ext) ?_; conv => whnf)
    (intro w hx; try (have hp := hp.call hx); conv => whnf)
    (refine hp.kstA TTok rfl 0 rfl rfl (oneC_of rfl) (by rfl) fun w hp => ?_; try simp only [List.set_cons_zero, List.set_cons_succ, EV.val] at hp; conv => whnf)
    ((with_reducible show (Ext _ _ → Ext _ _) ∧ _); refine And.intro (fun _ => hp.ext) ?_; conv => whnf)
    (intro w hx; try (have hp := hp.call hx); conv => whnf)
    refine hK _ _ _ _ _ _ ((hpO.join hp).pick [0, 1, 2, 3, 4, 5, 6, 7, 8, 9] (by decide)) _ ?_
    exact sub_cons rfl (sub_cons rfl (sub_cons rfl (sub_cons rfl (sub_cons rfl (sub_cons rfl (sub_cons rfl (sub_cons rfl (sub_cons rfl (sub_cons rfl (sub_cons rfl (sub_cons rfl (sub_cons rfl (sub_cons rfl (sub_cons rfl (sub_cons rfl (sub_cons rfl (sub_cons rfl (sub_cons rfl (sub_cons rfl (sub_cons rfl (sub_cons rfl (sub_cons rfl (sub_cons rfl (sub_cons rfl (sub_cons rfl (sub_cons rfl (sub_cons rfl (sub_cons rfl (sub_nil)))))))))))))))))))))))))))))
   ·conv => whnf
    (intro w hx; try (have hp := hp.call hx); conv => whnf)
    (refine hp.kalloc z28 fun al28 w hp hx => ?_; conv => whnf)
    ((with_reducible show (Ext _ _ → Ext _ _) ∧ _); refine And.intro (fun _ => hp.ext) ?_; conv => whnf)
    (intro w hx; try (have hp := hp.call hx); conv => whnf)
    refine Calls.mono s21 ?_
    rintro _ w ⟨_, rfl, v, r, rfl, hx, hs, hr⟩
    refine ⟨_, rfl, ?_⟩
    obtain ⟨pa, ca, rfl⟩ := hs.shape
    rw [show (iv asked21).length = asked21.length from List.length_map _]
    obtain ⟨pb, cb, rfl⟩ : ∃ p c, r = .slice p 1 c := hr.s.shape
    have hp := pushH hp hx hr
    clear hs hr
    conv => whnf
    ((with_reducible show (Ext _ _ → Ext _ _) ∧ _); refine And.intro (fun _ => hp.ext) ?_; conv => whnf)
    (intro w hx; try (have hp := hp.call hx); conv => whnf)
    (refine hp.kstA TTok rfl 1 rfl rfl (oneC_of rfl) (by rfl) fun w hp => ?_; try simp only [List.set_cons_zero, List.set_cons_succ, EV.val] at hp; conv => whnf)
    ((with_reducible show (Ext _ _ → Ext _ _) ∧ _); refine And.intro (fun _ => hp.ext) ?_; conv => whnf)
    (intro w hx; try (have hp := hp.call hx); conv => whnf)
    refine hK _ _ _ _ _ _ ((hpO.join hp).pick [1, 0, 2, 3, 4, 5, 6, 7, 8, 9] (by decide)) _ ?_
    exact sub_cons rfl (sub_cons rfl (sub_cons rfl (sub_cons rfl (sub_cons rfl (sub_cons rfl (sub_cons rfl (sub_cons rfl (sub_cons rfl (sub_cons rfl (sub_cons rfl (sub_cons rfl (sub_cons rfl (sub_cons rfl (sub_cons rfl (sub_cons rfl (sub_cons rfl (sub_cons rfl (sub_cons rfl (sub_cons rfl (sub_cons rfl (sub_cons rfl (sub_cons rfl (sub_cons rfl (sub_cons rfl (sub_cons rfl (sub_cons rfl (sub_cons rfl (sub_cons rfl (sub_nil)))))))))))))))))))))))))))))
  refine hKq _ _ _ hs ?_
  clear hKq Kq hs
  conv => whnf
  simp only [List.cons_append, List.nil_append] at hp
  (refine VSeq.mk fun Kq hKq => ?_; conv => whnf)
  (refine VSeq.mk fun Kq hKq => ?_; conv => whnf)
  (refine VSeq.mk fun Kq hKq => ?_; conv => whnf)
  (refine hKq _ _ _ (.refl _) ?_; clear hKq Kq; conv => whnf)
  (refine VSeq.mk fun Kq hKq => ?_; conv => whnf)
  (refine And.intro (fun h => absurd (of_decide_eq_true h) (by first | (intro h2; exact absurd rfl h2) | omega | decide)) (fun _ => ?_); conv => whnf)
  (refine hKq _ _ _ (.refl _) ?_; clear hKq Kq; conv => whnf)
  (refine And.intro (fun h => absurd (of_decide_eq_true h) (by first | (intro h2; exact absurd rfl h2) | omega | decide)) (fun _ => ?_); conv => whnf)
  (refine ⟨_, _, Blk.ld (hp.get (i := 7) rfl) TTok rfl rfl, ?_⟩; conv => whnf)
  (refine hKq _ _ _ (.refl _) ?_; clear hKq Kq; conv => whnf)
  (refine And.intro (fun h => absurd (of_decide_eq_true h) (by first | (intro h2; exact absurd rfl h2) | omega | decide)) (fun _ => ?_); conv => whnf)
  (refine hKq _ _ _ (.refl _) ?_; clear hKq Kq; conv => whnf)
  (refine VSeq.mk fun Kq hKq => ?_; conv => whnf)
  (refine VSeq.mk fun Kq hKq => ?_; conv => whnf)
  (refine V.CallW.out ?_; (conv => arg 3; dsimp only [EV.val, List.toList_toArray, List.nil_append, List.append_nil, List.cons_append]); refine V.PureF.useW (addr_2) fun w hx => ?_; try (have hp := hp.call hx); conv => whnf)
  (refine ⟨_, _, bld46_0_4 _ _ _ _, ?_⟩; conv => whnf)
  (refine ⟨_, _, bld46_0 _ _, ?_⟩; conv => whnf)
  (refine ⟨_, _, bld46_0_2 _ _ _, ?_⟩; conv => whnf)
  (refine ⟨_, _, bld46_0_2 _ _ _, ?_⟩; conv => whnf)
  (refine ⟨_, _, bld46_0_2 _ _ _, ?_⟩; conv => whnf)
  (refine ⟨_, _, bld46_0_2 _ _ _, ?_⟩; conv => whnf)
  (refine ⟨_, _, bld46_0_2 _ _ _, ?_⟩; conv => whnf)
  (refine ⟨_, _, bld46_0_2 _ _ _, ?_⟩; conv => whnf)
  (refine ⟨_, _, bld46_0_2 _ _ _, ?_⟩; conv => whnf)
  (refine ⟨_, _, bld46_0_2 _ _ _, ?_⟩; conv => whnf)
  (refine ⟨_, _, bld46_0 _ _, ?_⟩; conv => whnf)
  (refine ⟨_, _, bld46_0 _ _, ?_⟩; conv => whnf)
  refine PureF.use (hr1) fun w hx => ?_
  try (have hp := hp.call hx)
  conv => whnf
  (refine ⟨_, _, bld46_0_3 _ _ _, ?_⟩; conv => whnf)
  (refine ⟨_, _, bld46_0_3 _ _ _, ?_⟩; conv => whnf)
  (refine ⟨_, _, bld46_0_3 _ _ _, ?_⟩; conv => whnf)
  (refine ⟨_, _, bld46_0_3 _ _ _, ?_⟩; conv => whnf)
  (refine ⟨_, _, bld46_0_2 _ _ _, ?_⟩; conv => whnf)
  (refine ⟨_, _, bld46_0_2 _ _ _, ?_⟩; conv => whnf)
  (refine ⟨_, _, bld46_0_2 _ _ _, ?_⟩; conv => whnf)
  (refine hp.kmade _ _ (fun b => .slice (some ⟨b, 0, none⟩) 19 19) (mks47_19_0_1_2_3_4_5_6_7_8_9_10_11_12_13_14_15_16_17_18 _ _ _ _ _ _ _ _ _ _ _ _ _ _ _ _ _ _ _ _ _ _ _ _ _ _ _ _ _ _ _ _ _ _ _ _ _ _ _ _ _ _ _ _ _ _ _ _ _ _ _ _ _ _ _ _ _ _ _ _ _ _ _ _ _ _ _ _ _ _ _ _ _ _ _ _ _ _ _ _ _ _ _ _ _ _ _ _ _ _ _ _ _ _ _ _ _ _ _ _ _ _ _ _ _ _ _ _ _ _ _ _ _ _ _) fun q w hp hx => ?_; conv => whnf)
  (refine hKq _ _ _ (.refl _) ?_; clear hKq Kq; conv => whnf)
  refine withHead hp fun L hL hp => ?_
  have hpB : HpM [] w0 w (blk q ((bndsQ q1).flatMap Bn.c) 46 :: L) := hp
  clear hp
  repeat clear hp
  have hp := hpB
  clear hpB
  refine ⟨fun mm e w' => ∃ (i : Nat), mm + i = 19 ∧ e = [(1, .v (.pointer (some ⟨b1, 0, none⟩))), (2, .v (.int .i64 0)), (3, .v (.pointer (some ⟨b3, 0, none⟩))), (5, .v (.int .i64 0)), (6, .v (.pointer (some ⟨b6, 0, none⟩))), (8, .v (.int .i64 0)), (9, .v (.pointer (some ⟨b9, 0, none⟩))), (10, .v (.slice pb9 0 cb9)), (11, .v (.int .i64 0)), (12, .v (.pointer (some ⟨b12, 0, none⟩))), (13, .v (.slice pb13 o7.length cb13)), (14, .v (.int .i64 0)), (16, .v (.int .i64 2)), (18, .v (.int .i64 8)), (20, .v (.int .i64 2)), (22, .v (.int .i64 2)), (24, .v (.int .i64 2)), (26, .v (.int .i64 2)), (28, .v (.int .i64 2)), (29, .v (.pointer (some ⟨b29, 0, none⟩))), (30, .v (.int .i64 0)), (33, .v (.int .i64 2)), (36, .v (.int .i64 110)), (39, .v (.int .i64 2)), (41, .v (.int .i64 2)), (43, .v (.int .i64 8)), (44, .v (.pointer (some ⟨b44, 0, none⟩))), (45, .v (.slice p45 1 c45)), (46, .v (.int .i64 0)), (220, .v (.slice (some ⟨q, 0, none⟩) 19 19)), (221, .v (.int .i64 19)), (222, .v (.int .i64 i))] ∧ HpM [] w0 w' (blk q ((bndsQ q1).flatMap Bn.c) 46 :: L),
   ⟨19, _, ⟨0, rfl, rfl, hp⟩, sub_cons rfl (sub_cons rfl (sub_cons rfl (sub_cons rfl (sub_cons rfl (sub_cons rfl (sub_cons rfl (sub_cons rfl (sub_cons rfl (sub_cons rfl (sub_cons rfl (sub_cons rfl (sub_cons rfl (sub_cons rfl (sub_cons rfl (sub_cons rfl (sub_cons rfl (sub_cons rfl (sub_cons rfl (sub_cons rfl (sub_cons rfl (sub_cons rfl (sub_cons rfl (sub_cons rfl (sub_cons rfl (sub_cons rfl (sub_cons rfl (sub_cons rfl (sub_cons rfl (sub_cons rfl (sub_cons rfl (sub_cons rfl (sub_nil))))))))))))))))))))))))))))))))⟩, ?_⟩
  clear hp
  repeat clear hp
  rintro mm _ w ⟨i, hmm, rfl, hp⟩
  conv => whnf
  refine VSeq.mk fun Kq hKq => ?_
  conv => whnf
  refine hKq _ _ _ (.refl _) ?_
  clear hKq Kq
  conv => whnf
  refine VSeq.mk fun Kq hKq => ?_
  conv => whnf
  refine ⟨fun hlt => ?_, fun hlt => ?_⟩
  ·have hlt := of_decide_eq_true hlt
   conv => whnf
   refine hKq _ _ _ (.refl _) ?_
   clear hKq Kq
   conv => whnf
   refine VSeq.mk fun Kq hKq => ?_
   conv => whnf
   refine VSeq.mk fun Kq hKq => ?_
   conv => whnf
   have hi : i < 19 := by omega
   obtain ⟨b, hbi⟩ : ∃ b, (bndsQ q1)[i]? = some b := ⟨(bndsQ q1)[i]'hi, List.getElem?_eq_getElem hi⟩
   obtain ⟨bo, bc⟩ := hbs b (List.mem_of_getElem? hbi)
   have hld := rows_ld (hp.get (i := 0) rfl) hbi
   refine ⟨i, ⟨by first | rfl | omega, by omega⟩, ?_⟩
   conv => whnf
   refine ⟨_, _, hld, ?_⟩
   conv => whnf
   have hL2 := hL
   subst hL2
   (refine hp.kalloc z46 fun al46 w hp hx => ?_; conv => whnf)
   (refine hp.kstA TTok rfl 0 rfl rfl (oneC_of rfl) (by rfl) fun w hp => ?_; try simp only [List.set_cons_zero, List.set_cons_succ, EV.val] at hp; conv => whnf)
   (refine hKq _ _ _ (.refl _) ?_; clear hKq Kq; conv => whnf)
   (refine VSeq.mk fun Kq hKq => ?_; conv => whnf)
   (refine ⟨_, _, Blk.ldV (vs := [_, _, _, _, _, _]) (hp.get (i := 0) rfl) TTok rfl rfl rfl, ?_⟩; conv => whnf)
   (refine ⟨_, _, Blk.ldV (vs := [_, _, _, _, _, _, _, _, _, _, _, _, _]) (hp.get (i := 9) rfl) TTok rfl rfl rfl, ?_⟩; conv => whnf)
   have hS3 : SLv w (.slice p3 1 c3) (iv wk3.asked) := hp.get (i := 10) rfl
   refine Calls.mono (Bend12_c b bo wk3 (by decide) hS3) ?_
   rintro _ w ⟨_, rfl, v5, rfl, hx, hs5⟩
   refine ⟨_, rfl, ?_⟩
   have hp := hp.call hx
   conv => whnf
   skip
   refine V.CallsUse (Check12_c (bendW b wk3) (bendW_ok bo wk3_ok (by decide)) hs5.s) fun w hx => ?_
   try (have hp := hp.call hx)
   conv => whnf
   refine hKq _ _ _ (.refl _) ?_
   clear hKq Kq
   conv => whnf
   rw [bc]
   (refine And.intro (fun h => absurd (of_decide_eq_true h) (by first | (intro h2; exact absurd rfl h2) | omega | decide)) (fun _ => ?_); conv => whnf)
   (refine hKq _ _ _ (.refl _) ?_; clear hKq Kq; conv => whnf)
   (refine Or.inl (And.intro (by first | omega | decide) ?_); conv => whnf)
   exact ⟨mm - 1, _, by omega, ⟨i + 1, by omega, rfl, hp.tail⟩, sub_cons rfl (sub_cons rfl (sub_cons rfl (sub_cons rfl (sub_cons rfl (sub_cons rfl (sub_cons rfl (sub_cons rfl (sub_cons rfl (sub_cons rfl (sub_cons rfl (sub_cons rfl (sub_cons rfl (sub_cons rfl (sub_cons rfl (sub_cons rfl (sub_cons rfl (sub_cons rfl (sub_cons rfl (sub_cons rfl (sub_cons rfl (sub_cons rfl (sub_cons rfl (sub_cons rfl (sub_cons rfl (sub_cons rfl (sub_cons rfl (sub_cons rfl (sub_cons rfl (sub_cons rfl (sub_cons rfl (sub_cons rfl (sub_nil))))))))))))))))))))))))))))))))⟩
  ·have hlt := of_decide_eq_false hlt
   conv => whnf
   clear hKq Kq
   refine hKq _ _ _ (.refl _) ?_
   clear hKq Kq
   conv => whnf
   refine VSeq.mk fun Kq hKq => ?_
   conv => whnf
   subst hL
   have hp := hp.pick [10, 6, 7, 8, 9, 4, 5, 3, 1, 2] (by decide)
   conv => whnf
   refine ⟨_, _, Blk.ldN (hp.get (i := 3) rfl) TTok rfl rfl, ?_⟩
   conv => whnf
   refine hp.kalloc z28 fun b49 w hp hx => ?_
   conv => whnf
   (refine hp.kstA TTok rfl 0 rfl rfl (oneC_of rfl) (by rfl) fun w hp => ?_; try simp only [List.set_cons_zero, List.set_cons_succ, EV.val] at hp; conv => whnf)
   (refine hKq _ _ _ (.refl _) ?_; clear hKq Kq; conv => whnf)
   (refine VSeq.mk fun Kq hKq => ?_; conv => whnf)
   (refine hp.kst1 TTok (by rfl) 0 (by rfl) (by rfl) (by rfl) (Nat.le_of_ble_eq_true rfl) fun w hp => ?_; try simp only [List.set_cons_zero, List.set_cons_succ, EV.val] at hp; conv => whnf)
   (refine hKq _ _ _ (.refl _) ?_; clear hKq Kq; conv => whnf)
   (refine VSeq.mk fun Kq hKq => ?_; conv => whnf)
   (refine ⟨_, _, Blk.ldV (vs := [_, _, _, _, _, _, _, _, _, _, _, _, _]) (hp.get (i := 1) rfl) TTok rfl rfl rfl, ?_⟩; conv => whnf)
   (refine hp.kalloc z28 fun al28 w hp hx => ?_; conv => whnf)
   (refine hp.kstA TTok rfl 0 rfl rfl (oneC_of rfl) (by rfl) fun w hp => ?_; try simp only [List.set_cons_zero, List.set_cons_succ, EV.val] at hp; conv => whnf)
   (refine hKq _ _ _ (.refl _) ?_; clear hKq Kq; conv => whnf)
   (refine VSeq.mk fun Kq hKq => ?_; conv => whnf)
   (refine VSeq.mk fun Kq hKq => ?_; conv => whnf)
   (refine hKq _ _ _ (.refl _) ?_; clear hKq Kq; conv => whnf)
   obtain ⟨b50, rfl⟩ : ∃ q, q = al28 := ⟨_, rfl⟩
   have hp := hp.pushR (Ext.refl _) SLw.nil
   refine withHead2 hp fun L hL hp => ?_
   have hpB : HpM [] w0 w (ritem (.slice none 0 0) (iv (manyW 0).asked) :: blk b50 ((manyW 0).c (.slice none (manyW 0).asked.length 0)) 28 :: L) := hp
   clear hp
   repeat clear hp
   have hp := hpB
   clear hpB
   refine ⟨fun mm e w' => ∃ (k : Nat) (p : Option Addr) (c : Nat), mm + k = 9 ∧ e = [(1, .v (.pointer (some ⟨b1, 0, none⟩))), (2, .v (.int .i64 0)), (3, .v (.pointer (some ⟨b3, 0, none⟩))), (5, .v (.int .i64 0)), (6, .v (.pointer (some ⟨b6, 0, none⟩))), (8, .v (.int .i64 0)), (9, .v (.pointer (some ⟨b9, 0, none⟩))), (10, .v (.slice pb9 0 cb9)), (11, .v (.int .i64 0)), (12, .v (.pointer (some ⟨b12, 0, none⟩))), (13, .v (.slice pb13 o7.length cb13)), (14, .v (.int .i64 0)), (16, .v (.int .i64 2)), (18, .v (.int .i64 8)), (20, .v (.int .i64 2)), (22, .v (.int .i64 2)), (24, .v (.int .i64 2)), (26, .v (.int .i64 2)), (28, .v (.int .i64 2)), (29, .v (.pointer (some ⟨b29, 0, none⟩))), (30, .v (.int .i64 0)), (33, .v (.int .i64 2)), (36, .v (.int .i64 110)), (39, .v (.int .i64 2)), (41, .v (.int .i64 2)), (43, .v (.int .i64 8)), (44, .v (.pointer (some ⟨b44, 0, none⟩))), (45, .v (.slice p45 1 c45)), (46, .v (.int .i64 0)), (49, .v (.pointer (some ⟨b49, 0, none⟩))), (50, .v (.pointer (some ⟨b50, 0, none⟩))), (235, .v (.int .i64 k))] ∧ HpM [] w0 w' (ritem (.slice p (manyW k).asked.length c) (iv (manyW k).asked) :: blk b50 ((manyW k).c (.slice p (manyW k).asked.length c)) 28 :: L),
    ⟨9, _, ⟨0, _, _, rfl, rfl, hp⟩, sub_cons rfl (sub_cons rfl (sub_cons rfl (sub_cons rfl (sub_cons rfl (sub_cons rfl (sub_cons rfl (sub_cons rfl (sub_cons rfl (sub_cons rfl (sub_cons rfl (sub_cons rfl (sub_cons rfl (sub_cons rfl (sub_cons rfl (sub_cons rfl (sub_cons rfl (sub_cons rfl (sub_cons rfl (sub_cons rfl (sub_cons rfl (sub_cons rfl (sub_cons rfl (sub_cons rfl (sub_cons rfl (sub_cons rfl (sub_cons rfl (sub_cons rfl (sub_cons rfl (sub_cons rfl (sub_cons rfl (sub_cons rfl (sub_nil))))))))))))))))))))))))))))))))⟩, ?_⟩
   clear hp
   repeat clear hp
   rintro mm _ w ⟨k, p, c, hmm, rfl, hp⟩
   conv => whnf
   refine VSeq.mk fun Kq hKq => ?_
   conv => whnf
   refine hKq _ _ _ (.refl _) ?_
   clear hKq Kq
   conv => whnf
   refine VSeq.mk fun Kq hKq => ?_
   conv => whnf
   refine ⟨fun hlt => ?_, fun hlt => ?_⟩
   ·have hlt := of_decide_eq_true hlt
    conv => whnf
    refine hKq _ _ _ (.refl _) ?_
    clear hKq Kq
    conv => whnf
    refine VSeq.mk fun Kq hKq => ?_
    conv => whnf
    refine VSeq.mk fun Kq hKq => ?_
    conv => whnf
    refine hKq _ _ _ (.refl _) ?_
    clear hKq Kq
    conv => whnf
    refine VSeq.mk fun Kq hKq => ?_
    conv => whnf
    refine VSeq.mk fun Kq hKq => ?_
    conv => whnf
    have hk : k < 9 := by omega
    have eo := many_Ok k (by omega)
    have ee := many_err k hk
    have en := step_now k hk
    have es : manyW (k + 1) = stepM (manyW k) := rfl
    unfold stepM at es
    have sT := fun {W : World} {v : Value} hv => TimeE_c (W := W) (v := v) (manyW k) eo hv (manyW k).nxt
    obtain ⟨R, hR⟩ : ∃ R, timeE (manyW k) (manyW k).nxt = R := ⟨_, rfl⟩
    rw [hR] at ee en es sT
    obtain ⟨⟨⟨zah, zap⟩, ⟨zbh, zbp⟩, znow, znxt, ztil, zser, zgone, znoise, zword, zfresh, zasked⟩, zo, ze⟩ := R
    dsimp only at ee en es sT
    subst ee
    obtain ⟨y, hy⟩ : ∃ y, manyW k = y := ⟨_, rfl⟩
    rw [hy] at hp sT eo
    clear hy hR
    obtain ⟨⟨ah, ap⟩, ⟨bh, bp⟩, now, nxt, til, ser, gone, noise, word, fresh, asked⟩ := y
    dsimp only [ResE, Wt.c] at hp sT
    (refine ⟨_, _, Blk.ldV (vs := [_, _, _, _, _, _, _, _, _, _, _, _, _]) (hp.get (i := 1) rfl) TTok rfl rfl rfl, ?_⟩; conv => whnf)
    (refine ⟨_, _, Blk.ld (hp.get (i := 1) rfl) TTok rfl rfl, ?_⟩; conv => whnf)
    refine Calls.mono (sT (hp.get (i := 0) rfl)) ?_
    rintro _ w ⟨_, rfl, v6, r6, rfl, hx, hs6, hr6⟩
    refine ⟨_, rfl, ?_⟩
    obtain ⟨p6, c6, rfl⟩ := hs6.shape
    rw [show (iv zasked).length = zasked.length from List.length_map _] at hs6 ⊢
    obtain ⟨p7, c7, rfl⟩ := hr6.s.shape
    have hp := hp.pushR hx hs6
    clear hs6 hr6 sT
    conv => whnf
    (refine hp.kstA TTok rfl 2 rfl rfl (oneC_of rfl) (by rfl) fun w hp => ?_; try simp only [List.set_cons_zero, List.set_cons_succ, EV.val] at hp; conv => whnf)
    (refine hKq _ _ _ (.refl _) ?_; clear hKq Kq; conv => whnf)
    (refine VSeq.mk fun Kq hKq => ?_; conv => whnf)
    (refine hKq _ _ _ (.refl _) ?_; clear hKq Kq; conv => whnf)
    (refine And.intro (fun h => absurd (of_decide_eq_true h) (by first | (intro h2; exact absurd rfl h2) | omega | decide)) (fun _ => ?_); conv => whnf)
    (refine hKq _ _ _ (.refl _) ?_; clear hKq Kq; conv => whnf)
    (refine VSeq.mk fun Kq hKq => ?_; conv => whnf)
    (refine ⟨_, _, Blk.ld (hp.get (i := 2) rfl) TTok rfl rfl, ?_⟩; conv => whnf)
    (refine hKq _ _ _ (.refl _) ?_; clear hKq Kq; conv => whnf)
    refine ⟨fun h4 => ?_, fun h4 => ?_⟩
    ·have h4 := of_decide_eq_true h4
     conv => whnf
     rw [if_pos (by omega)] at es
     (refine ⟨_, _, Blk.ld (hp.get (i := 2) rfl) TTok rfl rfl, ?_⟩; conv => whnf)
     (refine Or.inl (And.intro (by first | omega | decide) ?_); conv => whnf)
     (refine hp.kst1 TTok (by rfl) 2 (by rfl) (by rfl) (by rfl) (Nat.le_of_ble_eq_true rfl) fun w hp => ?_; try simp only [List.set_cons_zero, List.set_cons_succ, EV.val] at hp; conv => whnf)
     (refine hKq _ _ _ (.refl _) ?_; clear hKq Kq; conv => whnf)
     (refine Or.inl (And.intro (by first | omega | decide) ?_); conv => whnf)
     exact ⟨mm - 1, _, by omega, ⟨k + 1, p6, c6, by omega, rfl, by rw [es]; exact hp.sub (List.Sublist.cons_cons _ (List.Sublist.cons _ (List.Sublist.refl _)))⟩, sub_cons rfl (sub_cons rfl (sub_cons rfl (sub_cons rfl (sub_cons rfl (sub_cons rfl (sub_cons rfl (sub_cons rfl (sub_cons rfl (sub_cons rfl (sub_cons rfl (sub_cons rfl (sub_cons rfl (sub_cons rfl (sub_cons rfl (sub_cons rfl (sub_cons rfl (sub_cons rfl (sub_cons rfl (sub_cons rfl (sub_cons rfl (sub_cons rfl (sub_cons rfl (sub_cons rfl (sub_cons rfl (sub_cons rfl (sub_cons rfl (sub_cons rfl (sub_cons rfl (sub_cons rfl (sub_cons rfl (sub_cons rfl (sub_nil))))))))))))))))))))))))))))))))⟩
    ·have h4 := of_decide_eq_false h4
     conv => whnf
     refine hKq _ _ _ (.refl _) ?_
     clear hKq Kq
     conv => whnf
     refine Or.inl (And.intro (by omega) ?_)
     conv => whnf
     rw [if_neg (by omega)] at es
     skip
     exact ⟨mm - 1, _, by omega, ⟨k + 1, p6, c6, by omega, rfl, by rw [es]; exact hp.sub (List.Sublist.cons_cons _ (List.Sublist.cons _ (List.Sublist.refl _)))⟩, sub_cons rfl (sub_cons rfl (sub_cons rfl (sub_cons rfl (sub_cons rfl (sub_cons rfl (sub_cons rfl (sub_cons rfl (sub_cons rfl (sub_cons rfl (sub_cons rfl (sub_cons rfl (sub_cons rfl (sub_cons rfl (sub_cons rfl (sub_cons rfl (sub_cons rfl (sub_cons rfl (sub_cons rfl (sub_cons rfl (sub_cons rfl (sub_cons rfl (sub_cons rfl (sub_cons rfl (sub_cons rfl (sub_cons rfl (sub_cons rfl (sub_cons rfl (sub_cons rfl (sub_cons rfl (sub_cons rfl (sub_cons rfl (sub_nil))))))))))))))))))))))))))))))))⟩
   ·have hlt := of_decide_eq_false hlt
    conv => whnf
    clear hKq Kq
    refine hKq _ _ _ (.refl _) ?_
    clear hKq Kq
    conv => whnf
    refine VSeq.mk fun Kq hKq => ?_
    conv => whnf
    refine VSeq.mk fun Kq hKq => ?_
    conv => whnf
    refine hKq _ _ _ (.refl _) ?_
    clear hKq Kq
    conv => whnf
    refine VSeq.mk fun Kq hKq => ?_
    conv => whnf
    obtain rfl : k = 9 := by omega
    subst hL
    have em := many_end
    obtain ⟨y, hy⟩ : ∃ y, manyW 9 = y := ⟨_, rfl⟩
    rw [hy] at hp em
    clear hy
    have hp := hp.pick [9, 8, 10, 11, 3, 6, 4, 2, 1, 12, 7, 5, 0] (by decide)
    obtain ⟨⟨ah, ap⟩, ⟨bh, bp⟩, now, nxt, til, ser, gone, noise, word, fresh, asked⟩ := y
    dsimp only at em
    subst em
    dsimp only [Wt.c, List.length_cons, List.length_nil] at hp
    (refine And.intro (fun _ => ?_) (fun h => absurd (by first | rfl | assumption | omega | decide) (of_decide_eq_false h)); conv => whnf)
    (refine hKq _ _ _ (.refl _) ?_; clear hKq Kq; conv => whnf)
    (refine VSeq.mk fun Kq hKq => ?_; conv => whnf)
    (refine And.intro (fun _ => ?_) (fun h => absurd (by first | rfl | assumption | omega | decide) (of_decide_eq_false h)); conv => whnf)
    (refine hKq _ _ _ (.refl _) ?_; clear hKq Kq; conv => whnf)
    (refine VSeq.mk fun Kq hKq => ?_; conv => whnf)
    (refine And.intro (fun _ => ?_) (fun h => absurd (by first | rfl | assumption | omega | decide) (of_decide_eq_false h)); conv => whnf)
    (refine hKq _ _ _ (.refl _) ?_; clear hKq Kq; conv => whnf)
    (refine VSeq.mk fun Kq hKq => ?_; conv => whnf)
    (refine And.intro (fun _ => ?_) (fun h => absurd (by first | rfl | assumption | omega | decide) (of_decide_eq_false h)); conv => whnf)
    (refine hKq _ _ _ (.refl _) ?_; clear hKq Kq; conv => whnf)
    (refine VSeq.mk fun Kq hKq => ?_; conv => whnf)
    (refine And.intro (fun _ => ?_) (fun h => absurd (by first | rfl | assumption | omega | decide) (of_decide_eq_false h)); conv => whnf)
    (refine hKq _ _ _ (.refl _) ?_; clear hKq Kq; conv => whnf)
    (refine VSeq.mk fun Kq hKq => ?_; conv => whnf)
    (refine And.intro (fun _ => ?_) (fun h => absurd (by first | rfl | assumption | omega | decide) (of_decide_eq_false h)); conv => whnf)
    (refine hKq _ _ _ (.refl _) ?_; clear hKq Kq; conv => whnf)
    (refine VSeq.mk fun Kq hKq => ?_; conv => whnf)
    (refine And.intro (fun _ => ?_) (fun h => absurd (by first | rfl | assumption | omega | decide) (of_decide_eq_false h)); conv => whnf)
    (refine hKq _ _ _ (.refl _) ?_; clear hKq Kq; conv => whnf)
    (refine VSeq.mk fun Kq hKq => ?_; conv => whnf)
    (refine And.intro (fun _ => ?_) (fun h => absurd (by first | rfl | assumption | omega | decide) (of_decide_eq_false h)); conv => whnf)
    (refine hKq _ _ _ (.refl _) ?_; clear hKq Kq; conv => whnf)
    (refine VSeq.mk fun Kq hKq => ?_; conv => whnf)
    (refine And.intro (fun _ => ?_) (fun h => absurd (by first | rfl | assumption | omega | decide) (of_decide_eq_false h)); conv => whnf)
    (refine hKq _ _ _ (.refl _) ?_; clear hKq Kq; conv => whnf)
    (refine VSeq.mk fun Kq hKq => ?_; conv => whnf)
    (refine And.intro (fun _ => ?_) (fun h => absurd (by first | rfl | assumption | omega | decide) (of_decide_eq_false h)); conv => whnf)
    (refine hKq _ _ _ (.refl _) ?_; clear hKq Kq; conv => whnf)
    (refine VSeq.mk fun Kq hKq => ?_; conv => whnf)
    (refine And.intro (fun _ => ?_) (fun h => absurd (by first | rfl | assumption | omega | decide) (of_decide_eq_false h)); conv => whnf)
    (refine hKq _ _ _ (.refl _) ?_; clear hKq Kq; conv => whnf)
    (refine And.intro (fun _ => ?_) (fun h => absurd (by first | rfl | assumption | omega | decide) (of_decide_eq_false h)); conv => whnf)
    (refine hKq _ _ _ (.refl _) ?_; clear hKq Kq; conv => whnf)
    (refine VSeq.mk fun Kq hKq => ?_; conv => whnf)
    (refine VSeq.mk fun Kq hKq => ?_; conv => whnf)
    (refine hKq _ _ _ (.refl _) ?_; clear hKq Kq; conv => whnf)
    (refine VSeq.mk fun Kq hKq => ?_; conv => whnf)
    (refine And.intro (fun _ => ?_) (fun h => absurd (by first | rfl | assumption | omega | decide) (of_decide_eq_false h)); conv => whnf)
    (refine ⟨_, _, Blk.ld (hp.get (i := 0) rfl) TTok rfl rfl, ?_⟩; conv => whnf)
    (refine hKq _ _ _ (.refl _) ?_; clear hKq Kq; conv => whnf)
    (refine VSeq.mk fun Kq hKq => ?_; conv => whnf)
    (refine And.intro (fun _ => ?_) (fun h => absurd h (by decide)); conv => whnf)
    (refine hKq _ _ _ (.refl _) ?_; clear hKq Kq; conv => whnf)
    (refine VSeq.mk fun Kq hKq => ?_; conv => whnf)
    (refine And.intro (fun _ => ?_) (fun h => absurd (by first | rfl | assumption | omega | decide) (of_decide_eq_false h)); conv => whnf)
    (refine hKq _ _ _ (.refl _) ?_; clear hKq Kq; conv => whnf)
    (refine VSeq.mk fun Kq hKq => ?_; conv => whnf)
    (refine And.intro (fun _ => ?_) (fun h => absurd (by first | rfl | assumption | omega | decide) (of_decide_eq_false h)); conv => whnf)
    (refine ⟨_, _, Blk.ld (hp.get (i := 1) rfl) TTok rfl rfl, ?_⟩; conv => whnf)
    (refine hKq _ _ _ (.refl _) ?_; clear hKq Kq; conv => whnf)
    (refine VSeq.mk fun Kq hKq => ?_; conv => whnf)
    (refine And.intro (fun _ => ?_) (fun h => absurd h (by decide)); conv => whnf)
    (refine hKq _ _ _ (.refl _) ?_; clear hKq Kq; conv => whnf)
    (refine And.intro (fun _ => ?_) (fun h => absurd (by first | rfl | assumption | omega | decide) (of_decide_eq_false h)); conv => whnf)
    (refine ⟨_, _, Blk.ld (hp.get (i := 2) rfl) TTok rfl rfl, ?_⟩; conv => whnf)
    (refine hKq _ _ _ (.refl _) ?_; clear hKq Kq; conv => whnf)
    (refine VSeq.mk fun Kq hKq => ?_; conv => whnf)
    (refine VSeq.mk fun Kq hKq => ?_; conv => whnf)
    (refine hKq _ _ _ (.refl _) ?_; clear hKq Kq; conv => whnf)
    (refine VSeq.mk fun Kq hKq => ?_; conv => whnf)
    (refine And.intro (fun _ => ?_) (fun h => absurd (by first | rfl | assumption | omega | decide) (of_decide_eq_false h)); conv => whnf)
    (refine ⟨_, _, Blk.ld (hp.get (i := 3) rfl) TTok rfl rfl, ?_⟩; conv => whnf)
    (refine hKq _ _ _ (.refl _) ?_; clear hKq Kq; conv => whnf)
    (refine And.intro (fun _ => ?_) (fun h => absurd (by first | rfl | assumption | omega | decide) (of_decide_eq_false h)); conv => whnf)
    (refine V.CallW.out ?_; (conv => arg 3; dsimp only [EV.val, List.toList_toArray, List.nil_append, List.append_nil, List.cons_append]); refine V.PureF.useW (addr_1) fun w hx => ?_; try (have hp := hp.call hx); conv => whnf)
    (refine V.CallW.out ?_; (conv => arg 3; dsimp only [EV.val, List.toList_toArray, List.nil_append, List.append_nil, List.cons_append]); refine V.PureF.useW (addr_2) fun w hx => ?_; try (have hp := hp.call hx); conv => whnf)
    (refine V.CallW.out ?_; (conv => arg 3; dsimp only [EV.val, List.toList_toArray, List.nil_append, List.append_nil, List.cons_append]); refine V.PureF.useW (addr_2) fun w hx => ?_; try (have hp := hp.call hx); conv => whnf)
    (refine ⟨_, _, bld38_0_1_6 _ _ _ _ _, ?_⟩; conv => whnf)
    (refine ⟨_, _, bld40_0_1_2 _ _ _ _ _ _ _ _ _ _ _ _ _, ?_⟩; conv => whnf)
    (refine hp.kmade _ _ (fun b => .slice (some ⟨b, 0, none⟩) 1 1) (mks32_1_0 _ _ _ _ _ _ _ _ _ _ _ _ _) fun q w hp hx => ?_; conv => whnf)
    refine V.CallsUse (HEq_c (adW 1, adW 2, p2 9 (adW 2)) ⟨adW_ok 1, adW_ok 2, p2_ok ⟨by decide, by decide⟩ (adW_ok 2)⟩ (hp.get (i := 10) rfl) (HR.blk (hp.get (i := 0) rfl))) fun w hx => ?_
    try (have hp := hp.call hx)
    conv => whnf
    refine hKq _ _ _ (.refl _) ?_
    clear hKq Kq
    conv => whnf
    refine VSeq.mk fun Kq hKq => ?_
    conv => whnf
    refine VSeq.mk fun Kq hKq => ?_
    conv => whnf
    refine hKq _ _ _ (.refl _) ?_
    clear hKq Kq
    conv => whnf
    refine VSeq.mk fun Kq hKq => ?_
    conv => whnf
    (refine And.intro (fun _ => ?_) (fun h => absurd (by first | rfl | assumption | omega | decide) (of_decide_eq_false h)); conv => whnf)
    (refine hKq _ _ _ (.refl _) ?_; clear hKq Kq; conv => whnf)
    (refine VSeq.mk fun Kq hKq => ?_; conv => whnf)
    (refine And.intro (fun _ => ?_) (fun h => absurd (by first | rfl | assumption | omega | decide) (of_decide_eq_false h)); conv => whnf)
    (refine hKq _ _ _ (.refl _) ?_; clear hKq Kq; conv => whnf)
    (refine VSeq.mk fun Kq hKq => ?_; conv => whnf)
    (refine And.intro (fun _ => ?_) (fun h => absurd h (by decide)); conv => whnf)
    (refine ⟨_, _, Blk.ld (hp.get (i := 5) rfl) TTok rfl rfl, ?_⟩; conv => whnf)
    (refine hKq _ _ _ (.refl _) ?_; clear hKq Kq; conv => whnf)
    (refine VSeq.mk fun Kq hKq => ?_; conv => whnf)
    (refine And.intro (fun _ => ?_) (fun h => absurd (by first | rfl | assumption | omega | decide) (of_decide_eq_false h)); conv => whnf)
    (refine ⟨_, _, Blk.ld (hp.get (i := 5) rfl) TTok rfl rfl, ?_⟩; conv => whnf)
    (refine hKq _ _ _ (.refl _) ?_; clear hKq Kq; conv => whnf)
    (refine VSeq.mk fun Kq hKq => ?_; conv => whnf)
    (refine And.intro (fun _ => ?_) (fun h => absurd (by first | rfl | assumption | omega | decide) (of_decide_eq_false h)); conv => whnf)
    (refine ⟨_, _, Blk.ld (hp.get (i := 6) rfl) TTok rfl rfl, ?_⟩; conv => whnf)
    (refine hp.kmade _ _ (fun b => .slice (some ⟨b, 0, none⟩) 1 1) (mks26_1_0 _ _) fun q w hp hx => ?_; conv => whnf)
    refine V.CallsUse (EqI_c [0] (by decide) (hp.get (i := 12) rfl) (SLv.of_blk0 (hp.get (i := 0) rfl) rfl)) fun w hx => ?_
    try (have hp := hp.call hx)
    conv => whnf
    refine hKq _ _ _ (.refl _) ?_
    clear hKq Kq
    conv => whnf
    refine VSeq.mk fun Kq hKq => ?_
    conv => whnf
    (refine And.intro (fun _ => ?_) (fun h => absurd h (by decide)); conv => whnf)
    (refine hKq _ _ _ (.refl _) ?_; clear hKq Kq; conv => whnf)
    (refine VSeq.mk fun Kq hKq => ?_; conv => whnf)
    (refine And.intro (fun _ => ?_) (fun h => absurd (by first | rfl | assumption | omega | decide) (of_decide_eq_false h)); conv => whnf)
    (refine ⟨_, _, Blk.ldV (vs := [_, _, _, _, _, _, _, _, _, _, _, _, _]) (hp.get (i := 8) rfl) TTok rfl rfl rfl, ?_⟩; conv => whnf)
    (refine ⟨_, _, Blk.ldV (vs := [_, _, _, _, _, _, _, _, _, _, _, _, _]) (hp.get (i := 9) rfl) TTok rfl rfl rfl, ?_⟩; conv => whnf)
    have hp := hp.tail.tail
    refine V.CallsUse (Same12_c wkY wkY_ok (hp.get (i := 11) rfl) (hp.get (i := 10) rfl)) fun w hx => ?_
    try (have hp := hp.call hx)
    conv => whnf
    refine hKq _ _ _ (.refl _) ?_
    clear hKq Kq
    conv => whnf
    (refine And.intro (fun _ => ?_) (fun h => absurd h (by decide)); conv => whnf)
    (refine ⟨_, _, Blk.ld (hp.get (i := 8) rfl) TTok rfl rfl, ?_⟩; conv => whnf)
    (refine hp.kmade _ _ (fun b => .slice (some ⟨b, 0, none⟩) 8 8) (mks26_8_0_1_2_3_4_5_6_7 _ _ _ _ _ _ _ _ _) fun q w hp hx => ?_; conv => whnf)
    refine V.CallsUse (EqI_c [1, 2, 3, 4, 5, 6, 7, 8] (by decide) (hp.get (i := 13) rfl) (SLv.of_blk0 (hp.get (i := 0) rfl) rfl)) fun w hx => ?_
    try (have hp := hp.call hx)
    conv => whnf
    refine hKq _ _ _ (.refl _) ?_
    clear hKq Kq
    conv => whnf
    skip
    exact ⟨rfl, hp.ext⟩
 clear hKq
 have hB3 : Blk w b3 _ _ := hp.get (i := 0) rfl
 have hS3 : SLv w _ _ := hp.get (i := 1) rfl
 have hpO := hp
 clear hp
 repeat clear hp
 have hp := Hp.nil w
 refine v_mtB TTok FFok mixed [] (.q 0 (.q 1 (.q 2 (.q 3 (.q 4 (.q 5 (.br 6 11 (.q 7 (.q 8 (.q 9 (.q 10 (.m 11 (.m 12 (.q 13 (.q 14 .nil)))))))) (.m 6 (.q 7 (.q 8 (.q 9 (.q 10 (.m 12 (.q 13 (.q 14 .nil))))))))))))))) (by kernel_rfl) ?_
 conv => whnf
 (refine ⟨_, fun w' hx' => Blk.ldN (Blk.ext hB3 (hp.ext.trans hx')) TTok rfl rfl, ?_⟩; conv => whnf)
 (refine V.QCallW.out ?_; (conv => arg 3; dsimp only [EV.val, List.toList_toArray, List.nil_append, List.append_nil, List.cons_append]); refine V.PureF.quietW (addr_2) ?_; conv => whnf)
 (refine V.QCallW.out ?_; (conv => arg 3; dsimp only [EV.val, List.toList_toArray, List.nil_append, List.append_nil, List.cons_append]); refine V.PureF.quietW (addr_1) ?_; conv => whnf)
 (refine V.QCallW.out ?_; (conv => arg 3; dsimp only [EV.val, List.toList_toArray, List.nil_append, List.append_nil, List.cons_append]); refine V.PureF.quietW (addr_1) ?_; conv => whnf)
 (refine ⟨_, fun w' hx' => bld38_0_1_6 w' _ _ _ _, ?_⟩; conv => whnf)
 (refine ⟨_, fun w' hx' => bld40_0_1_2 w' _ _ _ _ _ _ _ _ _ _ _ _, ?_⟩; conv => whnf)
 refine And.intro ?_ ?_
 ·conv => whnf
  intro w hx
  try (have hp := hp.call hx)
  conv => whnf
  refine Calls.mono (sy (hS3.ext hp.ext)) ?_
  rintro _ w ⟨_, rfl, v4, r4, rfl, hx, hs4, hr4⟩
  refine ⟨_, rfl, ?_⟩
  obtain ⟨p4, c4, rfl⟩ := hs4.shape
  obtain ⟨q4, d4, rfl⟩ := hr4.s.shape
  have hp := hp.pushR hx hs4
  conv => whnf
  refine And.intro (fun _ => hp.ext) ?_
  clear hs4 hr4
  conv => whnf
  (intro w hx; try (have hp := hp.call hx); conv => whnf)
  (refine hp.kalloc z28 fun al28 w hp hx => ?_; conv => whnf)
  ((with_reducible show (Ext _ _ → Ext _ _) ∧ _); refine And.intro (fun _ => hp.ext) ?_; conv => whnf)
  (intro w hx; try (have hp := hp.call hx); conv => whnf)
  (refine hp.kstA TTok rfl 0 rfl rfl (oneC_of rfl) (by rfl) fun w hp => ?_; try simp only [List.set_cons_zero, List.set_cons_succ, EV.val] at hp; conv => whnf)
  ((with_reducible show (Ext _ _ → Ext _ _) ∧ _); refine And.intro (fun _ => hp.ext) ?_; conv => whnf)
  (intro w hx; try (have hp := hp.call hx); conv => whnf)
  refine hK _ _ _ _ ((hpO.join hp).pick [0, 1, 2, 3, 4] (by decide)) _ ?_
  exact sub_cons rfl (sub_cons rfl (sub_cons rfl (sub_cons rfl (sub_cons rfl (sub_cons rfl (sub_nil))))))
 ·conv => whnf
  (intro w hx; try (have hp := hp.call hx); conv => whnf)
  (refine hp.kalloc z28 fun al28 w hp hx => ?_; conv => whnf)
  ((with_reducible show (Ext _ _ → Ext _ _) ∧ _); refine And.intro (fun _ => hp.ext) ?_; conv => whnf)
  (intro w hx; try (have hp := hp.call hx); conv => whnf)
  refine Calls.mono (sy (hS3.ext hp.ext)) ?_
  rintro _ w ⟨_, rfl, v4, r4, rfl, hx, hs4, hr4⟩
  refine ⟨_, rfl, ?_⟩
  obtain ⟨p4, c4, rfl⟩ := hs4.shape
  obtain ⟨q4, d4, rfl⟩ := hr4.s.shape
  have hp := hp.pushR hx hs4
  conv => whnf
  refine And.intro (fun _ => hp.ext) ?_
  clear hs4 hr4
  conv => whnf
  (intro w hx; try (have hp := hp.call hx); conv => whnf)
  (refine hp.kstA TTok rfl 1 rfl rfl (oneC_of rfl) (by rfl) fun w hp => ?_; try simp only [List.set_cons_zero, List.set_cons_succ, EV.val] at hp; conv => whnf)
  ((with_reducible show (Ext _ _ → Ext _ _) ∧ _); refine And.intro (fun _ => hp.ext) ?_; conv => whnf)
  (intro w hx; try (have hp := hp.call hx); conv => whnf)
  refine hK _ _ _ _ ((hpO.join hp).pick [1, 0, 2, 3, 4] (by decide)) _ ?_
  exact sub_cons rfl (sub_cons rfl (sub_cons rfl (sub_cons rfl (sub_cons rfl (sub_cons rfl (sub_nil))))))
end Go.Proofs.Ytefjgoeabfgkmaa
namespace Go.Proofs.Ytefjgoeabfgkmaa.consentKnown
open Go.ChangeShapes Go.WideShapes Go.ChangeAt Go.RowKit
open Go.ChangeMaps (open_string shut_string)
set_option linter.unusedVariables false
theorem own : ownKnob Try.prog.godebug = none := by kernel_rfl
theorem laidOut : laidOutB Try.prog = true := by kernel_rfl
set_option maxRecDepth 100000 in
theorem lifted (os : Os) (started : os.Started) (H : Type) (enc : TypeId × Value → H) :
  ReturnsInHanded {} Try.checked os 3 .any (Rows.consentKnownSpec.pre6 enc Try.prog Try.f3 Rows.consentKnownRow.domain false) (Rows.consentKnownSpec.post enc Try.prog Try.f3 false true false false) := by
 refine returnsInHanded_of_change (C := Try.checked) own started (by kernel_rfl) Try.func3
  (ChangeSpec.witness6 (enc := enc) (C := Try.checked) false ⟨#[], #[], []⟩ 8 (by kernel_rfl) (by kernel_rfl) (by kernel_rfl) (by kernel_rfl)) ?_
 intro W base args ds gs before hval0 hW hcnd _
 have hval : ∀ (j : Nat) t v, Try.f3.params[j]? = some t → args[j]? = some v → Value.okWide Try.prog W .any base t v := hval0
 have hW' := hW
 obtain ⟨p, q, hA0, hV, rfl, hfz, hnd⟩ := hW
 have hA : DataW.TrodAll enc Try.prog W 0 (fun _ => true) true Try.f3.params.toList args.toList ds p := hA0
 rw [Try.params3] at hA hval
 obtain ⟨rfl, rfl, rfl⟩ := trodAll_none hA
 obtain ⟨rfl, rfl⟩ := trodVars_none hV
 clear hA0 hval0
 refine ((known_p) W).mono fun e W' ⟨he, bel⟩ => ?_
 have bel : Below W.heap.size W W' := bel
 subst he
 exact ⟨_, rfl, _, _, _, [], _, [], hW', trodAll_mk1 (shut_bool Try.underlying4 _), rfl, rfl, bel.frame _, fun h => by cases h⟩

theorem over : Rows.consentKnownRow.holds Try.pinned (OpenSpec.ofChange Rows.consentKnownSpec) :=
 OpenClaim.holds_of_wide 3 Try.f3 rfl rfl rfl rfl rfl rfl rfl ⟨rfl, rfl, rfl, rfl, rfl⟩ rfl rfl rfl rfl rfl (by kernel_rfl) Try.func3 (by kernel_rfl)
  (of_decide_eq_true (by kernel_rfl)) (by unfold Func.isWrapper; first | (rw [if_pos (by decide +kernel)]; kernel_rfl) | (rw [if_neg (by decide +kernel)]; exact ⟨rfl, rfl⟩))
  (fun os started H enc _ => lifted os started H enc)

theorem proved : Rows.ConsentKnownSaid := over
#print axioms proved
end Go.Proofs.Ytefjgoeabfgkmaa.consentKnown
