/- Chapter 12: what the functions return for every watch, program and reference alike. -/
/- Slices of rows and of octets that come in: what is read of them. Own work. -/
/- Chapter 12: drafts: events, ends, words, probes. -/
/- Chapter 12: drafts: probes of events. -/
/- Chapter 12: drafts: what a step does to a watch. -/
/- A slice that is only read, as a thing in memory. Own work. -/
/- Chapter 12: drafts: what a step does, walked. -/
/- Chapter 12: drafts: the watch of a draft. -/
import Derived.Test.YtgkhcgiggjijlaaGreatGH11
import Derived.Test.YtgkhcgiggjijlaaGreatGH10
import Derived.Test.YtgkhcgiggjijlaaGreatGH03
import Derived.Test.YtgkhcgiggjijlaaGreatGH08
namespace Go.Proofs.YtgkhcgiggjijlaaGreat
set_option linter.unusedSimpArgs false
set_option linter.unusedVariables false
set_option maxRecDepth 100000
open Go.RowKit V
theorem zW_ok : zW.Ok := ⟨Ad.z_ok, Ad.z_ok, ⟨by decide, by decide⟩, ⟨by decide, by decide⟩, ⟨by decide, by decide⟩, ⟨by decide, by decide⟩, Ad.z_ok.s, Ad.z_ok.s, Ad.z_ok.s, fun i hi => (List.not_mem_nil hi).elim, Nat.zero_le _⟩
theorem startN_0 {x : Wt} {now : Int} (h : startN x now = 0) : wtB x = true ∧ inB now x.now 1099511627776 = true := by
 unfold startN at h
 cases hw : wtB x with
 | false => rw [hw, if_neg (by decide)] at h; exact absurd h (by decide)
 | true =>
  cases hi : inB now x.now 1099511627776 with
  | false => rw [hw, hi, if_pos rfl, if_neg (by decide)] at h; exact absurd h (by decide)
  | true => exact ⟨rfl, rfl⟩
theorem startN_of {x : Wt} {now : Int} (hw : wtB x = true) (hn : inB now x.now 1099511627776 = true) : startN x now = 0 := by unfold startN; rw [hw, hn]; rfl
def newE (a b : Ad) (word noise : ByteArray) (now : Int) : Wt × Int := if newB a b word noise now then (newW a b word noise now, 0) else (zW, 2)
theorem newE_nil (a b : Ad) (word noise : ByteArray) (now : Int) : (newE a b word noise now).1.asked = [] := by unfold newE; split <;> rfl
theorem newB_in {a b : Ad} {word noise : ByteArray} {now : Int} (h : newB a b word noise now = true) : inB now 0 1099511627776 = true ∧ wtB (nW a b word noise now) = true := by
 unfold newB at h
 exact Bool.and_eq_true_iff.1 h
theorem newE_ok {a b : Ad} {word noise : ByteArray} {now : Int} (ha : a.Ok) (hb : b.Ok) (hw : SzS word) (hn : SzS noise) : (newE a b word noise now).1.Ok := by
 unfold newE
 split
 ·rename_i h
  have h1 := inB_t (newB_in h).1
  have hg := gapN_le noise 0
  exact ⟨ha, hb, ⟨by show _ ≤ now; omega, by show now ≤ _; omega⟩, ⟨by show _ ≤ now + (gapN noise 0 : Int); omega, by show now + (gapN noise 0 : Int) ≤ _; omega⟩, ⟨by show _ ≤ now + 30000; omega, by show now + 30000 ≤ _; omega⟩, ⟨by show (_ : Int) ≤ 0; decide, by show (0 : Int) ≤ _; decide⟩, hn, hw, Ad.z_ok.s, fun i hi => (List.not_mem_nil hi).elim, Nat.zero_le _⟩
 ·exact zW_ok
theorem New_c {W : World} (ah bh : ByteArray) (ap bp : Int) (word noise : ByteArray) (now : Int) (ha : Ad.Ok ⟨ah, ap⟩) (hb : Ad.Ok ⟨bh, bp⟩) (hwd : SzS word) (hno : SzS noise) :
  Calls Tryz.prog 17 #[.agg #[.string ah, .int .i64 ap, .string bh, .int .i64 bp], .string word, .string noise, .int .i64 now] W fun e w' => e = .returned (.tuple #[.agg ((newE ⟨ah, ap⟩ ⟨bh, bp⟩ word noise now).1.c (.slice none 0 0)).toArray, .int .i64 (newE ⟨ah, ap⟩ ⟨bh, bp⟩ word noise now).2]) ∧ Ext W w' := by
 unfold newE
 cases h1 : inB now 0 1099511627776 with
 | false =>
  rw [if_neg (by unfold newB; rw [h1, Bool.false_and]; decide)]
  exact New_bad1 ah bh ap bp word noise now h1
 | true =>
  have h2 := inB_t h1
  have hok := nW_ok ha hb hwd hno (now := now) ⟨by omega, by omega⟩ ⟨by omega, by omega⟩
  cases h3 : wtB (nW ⟨ah, ap⟩ ⟨bh, bp⟩ word noise now) with
  | false =>
   rw [if_neg (by unfold newB; rw [h1, h3, Bool.and_false]; decide)]
   exact New_bad2 ah bh ap bp word noise now h1 hok h3
  | true =>
   rw [if_pos (by unfold newB; rw [h1, h3]; rfl)]
   exact New_ok ah bh ap bp word noise now h1 hok h3
theorem New12_c {W : World} (ah bh : ByteArray) (ap bp : Int) (word noise : ByteArray) (now : Int) (ha : Ad.Ok ⟨ah, ap⟩) (hb : Ad.Ok ⟨bh, bp⟩) (hwd : SzS word) (hno : SzS noise) :
  Calls Tryz.prog 18 #[.agg #[.string ah, .int .i64 ap, .string bh, .int .i64 bp], .string word, .string noise, .int .i64 now] W fun e w' => e = .returned (.tuple #[.agg ((newE ⟨ah, ap⟩ ⟨bh, bp⟩ word noise now).1.c (.slice none 0 0)).toArray, .int .i64 (newE ⟨ah, ap⟩ ⟨bh, bp⟩ word noise now).2]) ∧ Ext W w' := by
 unfold newE
 cases h : newB ⟨ah, ap⟩ ⟨bh, bp⟩ word noise now with
 | false => exact New12_bad ah bh ap bp word noise now ha hb hwd h
 | true => exact New12_ok ah bh ap bp word noise now ha hb hwd hno h
/-- a watch, what is sent, an error -/
abbrev Res3 := Wt × List Hop3 × Int
def ResE (W w' : World) (u : Value) (r : Res3) : Prop := ∃ v' o, u = .tuple #[.agg (r.1.c v').toArray, o, .int .i64 r.2.2] ∧ Ext W w' ∧ SLw W w' v' (iv r.1.asked) ∧ HRw W w' o r.2.1
def timeE (x : Wt) (now : Int) : Res3 := if startN x now = 0 then ((timeW x now).1, (timeW x now).2, 0) else (zW, [], startN x now)
def hearE (x : Wt) (now : Int) (h : Hop3) : Res3 :=
 if startN x now ≠ 0 then (zW, [], startN x now) else
 if probeB h.2.2 = false then (zW, [], 110) else
 if ¬ (h.2.1 = x.a ∧ h.1 = x.b) then (zW, [], 2) else ((hearW x now h).1, (hearW x now h).2, 0)
def restE (x : Wt) (now : Int) (s : ByteArray) : Wt × Int := if startN x now = 0 then restW x now s else (zW, startN x now)
def swE (x : Wt) (now : Int) (a b : Ad) : Wt × Int := if startN x now = 0 then swW x now a b else (zW, startN x now)
theorem TimeE_c {W : World} {v : Value} (x : Wt) (hok : x.Ok) (hv : SLv W v (iv x.asked)) (now : Int) :
  Calls Tryz.prog 20 #[.agg (x.c v).toArray, .int .i64 now] W fun e w' => ∃ u, e = .returned u ∧ ResE W w' u (timeE x now) := by
 unfold timeE
 by_cases h : startN x now = 0
 ·rw [if_pos h]
  exact Time_ok x hok hv now (startN_0 h).1 (startN_0 h).2
 ·rw [if_neg h]
  refine Calls.mono (Time_bad x hok hv now h) ?_
  rintro _ w ⟨rfl, hx⟩
  exact ⟨_, rfl, _, _, rfl, hx, .nil, .nil⟩
theorem TimeE12_c {W : World} {v : Value} (x : Wt) (hok : x.Ok) (hv : SLv W v (iv x.asked)) (now : Int) :
  Calls Tryz.prog 21 #[.agg (x.c v).toArray, .int .i64 now] W fun e w' => ∃ u, e = .returned u ∧ ResE W w' u (timeE x now) := by
 unfold timeE
 by_cases h : startN x now = 0
 ·rw [if_pos h]
  exact Time12_ok x hok hv now (startN_0 h).1 (startN_0 h).2
 ·rw [if_neg h]
  refine Calls.mono (Time12_bad x hok hv now h) ?_
  rintro _ w ⟨rfl, hx⟩
  exact ⟨_, rfl, _, _, rfl, hx, .nil, .nil⟩
theorem HearE_c {W : World} {v : Value} (x : Wt) (hok : x.Ok) (hv : SLv W v (iv x.asked)) (now : Int) (h : Hop3) (hho : h.Ok) :
  Calls Tryz.prog 24 #[.agg (x.c v).toArray, .int .i64 now, .agg (hopF h).toArray] W fun e w' => ∃ u, e = .returned u ∧ ResE W w' u (hearE x now h) := by
 unfold hearE
 by_cases h0 : startN x now = 0
 ·rw [if_neg (fun k => k h0)]
  obtain ⟨hw, hn⟩ := startN_0 h0
  cases hpb : probeB h.2.2 with
  | false =>
   rw [if_pos rfl]
   refine Calls.mono (Hear_bad1 x hok hv now h hho hw hn hpb) ?_
   rintro _ w ⟨rfl, hx⟩
   exact ⟨_, rfl, _, _, rfl, hx, .nil, .nil⟩
  | true =>
   rw [if_neg (by decide)]
   by_cases h2 : h.2.1 = x.a ∧ h.1 = x.b
   ·rw [if_neg (fun k => k h2)]
    exact Hear_ok x hok hv now h hho hw hn hpb h2
   ·rw [if_pos h2]
    refine Calls.mono (Hear_bad2 x hok hv now h hho hw hn hpb h2) ?_
    rintro _ w ⟨rfl, hx⟩
    exact ⟨_, rfl, _, _, rfl, hx, .nil, .nil⟩
 ·rw [if_pos h0]
  refine Calls.mono (Hear_bad0 x hok hv now h h0) ?_
  rintro _ w ⟨rfl, hx⟩
  exact ⟨_, rfl, _, _, rfl, hx, .nil, .nil⟩
theorem HearE12_c {W : World} {v : Value} (x : Wt) (hok : x.Ok) (hv : SLv W v (iv x.asked)) (now : Int) (h : Hop3) (hho : h.Ok) :
  Calls Tryz.prog 25 #[.agg (x.c v).toArray, .int .i64 now, .agg (hopF h).toArray] W fun e w' => ∃ u, e = .returned u ∧ ResE W w' u (hearE x now h) := by
 unfold hearE
 by_cases h0 : startN x now = 0
 ·rw [if_neg (fun k => k h0)]
  obtain ⟨hw, hn⟩ := startN_0 h0
  cases hpb : probeB h.2.2 with
  | false =>
   rw [if_pos rfl]
   refine Calls.mono (Hear12_bad1 x hok hv now h hho hw hn hpb) ?_
   rintro _ w ⟨rfl, hx⟩
   exact ⟨_, rfl, _, _, rfl, hx, .nil, .nil⟩
  | true =>
   rw [if_neg (by decide)]
   by_cases h2 : h.2.1 = x.a ∧ h.1 = x.b
   ·rw [if_neg (fun k => k h2)]
    exact Hear12_ok x hok hv now h hho hw hn hpb h2
   ·rw [if_pos h2]
    refine Calls.mono (Hear12_bad2 x hok hv now h hho hw hn hpb h2) ?_
    rintro _ w ⟨rfl, hx⟩
    exact ⟨_, rfl, _, _, rfl, hx, .nil, .nil⟩
 ·rw [if_pos h0]
  refine Calls.mono (Hear12_bad0 x hok hv now h h0) ?_
  rintro _ w ⟨rfl, hx⟩
  exact ⟨_, rfl, _, _, rfl, hx, .nil, .nil⟩
theorem RestE_c {W : World} {v : Value} (x : Wt) (hok : x.Ok) (hv : SLv W v (iv x.asked)) (now : Int) (s : ByteArray) (hs : SzS s) :
  Calls Tryz.prog 26 #[.agg (x.c v).toArray, .int .i64 now, .string s] W fun e w' => ∃ u, e = .returned u ∧ ResW W w' u (restE x now s).1 (restE x now s).2 := by
 unfold restE
 by_cases h : startN x now = 0
 ·rw [if_pos h]
  exact Restart_ok x hok hv now s hs (startN_0 h).1 (startN_0 h).2
 ·rw [if_neg h]
  refine Calls.mono (Restart_bad x hok hv now s h) ?_
  rintro _ w ⟨rfl, hx⟩
  exact ⟨_, rfl, _, rfl, hx, .nil⟩
theorem RestE12_c {W : World} {v : Value} (x : Wt) (hok : x.Ok) (hv : SLv W v (iv x.asked)) (now : Int) (s : ByteArray) (hs : SzS s) :
  Calls Tryz.prog 27 #[.agg (x.c v).toArray, .int .i64 now, .string s] W fun e w' => ∃ u, e = .returned u ∧ ResW W w' u (restE x now s).1 (restE x now s).2 := by
 unfold restE
 by_cases h : startN x now = 0
 ·rw [if_pos h]
  exact Restart12_ok x hok hv now s hs (startN_0 h).1 (startN_0 h).2
 ·rw [if_neg h]
  refine Calls.mono (Restart12_bad x hok hv now s h) ?_
  rintro _ w ⟨rfl, hx⟩
  exact ⟨_, rfl, _, rfl, hx, .nil⟩
theorem SwE_c {W : World} {v : Value} (x : Wt) (hok : x.Ok) (hv : SLv W v (iv x.asked)) (now : Int) (sh th : ByteArray) (sp tp : Int) (hs : Ad.Ok ⟨sh, sp⟩) (ht : Ad.Ok ⟨th, tp⟩) :
  Calls Tryz.prog 28 #[.agg (x.c v).toArray, .int .i64 now, .agg #[.string sh, .int .i64 sp, .string th, .int .i64 tp]] W fun e w' => ∃ u, e = .returned u ∧ ResW W w' u (swE x now ⟨sh, sp⟩ ⟨th, tp⟩).1 (swE x now ⟨sh, sp⟩ ⟨th, tp⟩).2 := by
 unfold swE
 by_cases h : startN x now = 0
 ·rw [if_pos h]
  exact Switch_ok x hok hv now sh th sp tp hs ht (startN_0 h).1 (startN_0 h).2
 ·rw [if_neg h]
  refine Calls.mono (Switch_bad x hok hv now sh th sp tp h) ?_
  rintro _ w ⟨rfl, hx⟩
  exact ⟨_, rfl, _, rfl, hx, .nil⟩
theorem SwE12_c {W : World} {v : Value} (x : Wt) (hok : x.Ok) (hv : SLv W v (iv x.asked)) (now : Int) (sh th : ByteArray) (sp tp : Int) (hs : Ad.Ok ⟨sh, sp⟩) (ht : Ad.Ok ⟨th, tp⟩) :
  Calls Tryz.prog 29 #[.agg (x.c v).toArray, .int .i64 now, .agg #[.string sh, .int .i64 sp, .string th, .int .i64 tp]] W fun e w' => ∃ u, e = .returned u ∧ ResW W w' u (swE x now ⟨sh, sp⟩ ⟨th, tp⟩).1 (swE x now ⟨sh, sp⟩ ⟨th, tp⟩).2 := by
 unfold swE
 by_cases h : startN x now = 0
 ·rw [if_pos h]
  exact Switch12_ok x hok hv now sh th sp tp hs ht (startN_0 h).1 (startN_0 h).2
 ·rw [if_neg h]
  refine Calls.mono (Switch12_bad x hok hv now sh th sp tp h) ?_
  rintro _ w ⟨rfl, hx⟩
  exact ⟨_, rfl, _, rfl, hx, .nil⟩
/-! ### the laws of watches -/
theorem ascB_iff {ser : Int} : ∀ {l : List Int} {last : Int}, ascB last ser l = true ↔ (∀ i ∈ l, last < i ∧ i < ser) ∧ l.Pairwise (· < ·)
 | [], last => by simp [ascB]
 | a :: l, last => by
  rw [ascB_cons, Bool.and_eq_true, Bool.and_eq_true, decide_eq_true_eq, decide_eq_true_eq, ascB_iff, List.pairwise_cons]
  constructor
  ·rintro ⟨h1, h2, h3, h4⟩
   refine ⟨fun i hi => ?_, fun i hi => (h3 i hi).1, h4⟩
   rcases List.mem_cons.1 hi with rfl | hi
   ·exact ⟨h1, h2⟩
   ·exact ⟨Int.lt_trans h1 (h3 i hi).1, (h3 i hi).2⟩
  ·rintro ⟨h1, h2, h3⟩
   exact ⟨(h1 a (by simp)).1, (h1 a (by simp)).2, fun i hi => ⟨h2 i hi, (h1 i (by simp [hi])).2⟩, h3⟩
/-- a valid watch -/
structure Wv (x : Wt) : Prop where
 path : pathB x.a x.b = true
 now : 0 ≤ x.now ∧ x.now ≤ 1099511627776
 nxt : 0 ≤ x.nxt ∧ x.nxt ≤ 1099511633776
 til : 0 ≤ x.til ∧ x.til ≤ 1099511657776
 ser : 0 ≤ x.ser ∧ x.ser ≤ 1099511627776
 noise : 1 ≤ (x.noise.size : Int) ∧ (x.noise.size : Int) ≤ 64
 len : x.asked.length ≤ 8
 word : wordB x.word = true
 fresh : x.fresh = ⟨#[]⟩ ∨ (wordB x.fresh = true ∧ ¬ x.fresh = x.word)
 mem : ∀ i ∈ x.asked, -1 < i ∧ i < x.ser
 asc : x.asked.Pairwise (· < ·)
 gone : x.gone = true → x.asked = [] ∧ x.fresh = ⟨#[]⟩
 live : x.gone = false → x.now < x.til
theorem wtB_iff {x : Wt} : wtB x = true ↔ Wv x := by
 constructor
 ·intro h
  obtain ⟨h1, ⟨a1, a2, a3, a4, a5, a6, a7, a8, a9, a10, a11⟩, h3, h4, h5, h6, h7⟩ := wtB_spec h
  obtain ⟨h8, h9⟩ := ascB_iff.1 h5
  exact ⟨h1, ⟨a1, a2⟩, ⟨a3, a4⟩, ⟨a5, a6⟩, ⟨a7, a8⟩, ⟨a9, a10⟩, by omega, h3, h4, h8, h9, fun hg => ⟨List.eq_nil_of_length_eq_zero (by have := (h6 hg).1; omega), (h6 hg).2⟩, h7⟩
 ·intro h
  rw [wtB_all h.path ⟨h.now.1, h.now.2, h.nxt.1, h.nxt.2, h.til.1, h.til.2, h.ser.1, h.ser.2, h.noise.1, h.noise.2, by have := h.len; omega⟩ h.word h.fresh, ascB_iff.2 ⟨h.mem, h.asc⟩]
  cases hg : x.gone with
  | true => rw [(h.gone hg).1, (h.gone hg).2]; rfl
  | false => exact decide_eq_true (h.live hg)
theorem Wv.ok {x : Wt} (h : Wv x) (ha : x.a.Ok) (hb : x.b.Ok) (h1 : SzS x.noise) (h2 : SzS x.word) (h3 : SzS x.fresh) : x.Ok := by
 have := h.now; have := h.nxt; have := h.til; have := h.ser
 exact ⟨ha, hb, ⟨by omega, by omega⟩, ⟨by omega, by omega⟩, ⟨by omega, by omega⟩, ⟨by omega, by omega⟩, h1, h2, h3, fun i hi => by have := h.mem i hi; exact ⟨by omega, by omega⟩, Nat.le_trans h.len (by decide)⟩
theorem atW_v {x : Wt} {now : Int} (h : Wv x) (h1 : x.now ≤ now) (h2 : now ≤ 1099511627776) : Wv (atW x now) := by
 have hn := h.now
 cases hg : goesB x now with
 | true =>
  rw [atW_t hg]
  exact ⟨h.path, ⟨by show 0 ≤ now; omega, h2⟩, h.nxt, h.til, h.ser, h.noise, Nat.zero_le _, h.word, .inl rfl, fun i hi => (List.not_mem_nil hi).elim, .nil, fun _ => ⟨rfl, rfl⟩, fun h => by cases h⟩
 | false =>
  rw [atW_f hg]
  refine ⟨h.path, ⟨by show 0 ≤ now; omega, h2⟩, h.nxt, h.til, h.ser, h.noise, h.len, h.word, h.fresh, h.mem, h.asc, h.gone, fun h3 => ?_⟩
  have h3' : x.gone = false := h3
  unfold goesB at hg
  rw [h3'] at hg
  have : ¬ x.til ≤ now := by simpa using hg
  show now < x.til
  omega
theorem goesB_iff {x : Wt} {now : Int} : goesB x now = true ↔ x.til ≤ now ∧ x.gone = false := by unfold goesB; simp
theorem atW_same (x : Wt) (now : Int) : (atW x now).a = x.a ∧ (atW x now).b = x.b ∧ (atW x now).now = now ∧ (atW x now).nxt = x.nxt ∧ (atW x now).til = x.til ∧ (atW x now).ser = x.ser ∧ (atW x now).noise = x.noise ∧ (atW x now).word = x.word ∧ (atW x now).gone = (x.gone || decide (x.til ≤ now)) := by
 cases hg : goesB x now with
 | true =>
  rw [atW_t hg]
  have := goesB_iff.1 hg
  exact ⟨rfl, rfl, rfl, rfl, rfl, rfl, rfl, rfl, by rw [decide_eq_true this.1, Bool.or_true]⟩
 | false =>
  rw [atW_f hg]
  refine ⟨rfl, rfl, rfl, rfl, rfl, rfl, rfl, rfl, ?_⟩
  unfold goesB at hg
  cases h1 : x.gone with
  | true => simp [h1]
  | false =>
   rw [h1] at hg
   have : ¬ x.til ≤ now := by simpa using hg
   rw [decide_eq_false this]
   simp [h1]
theorem trim8_len (l : List Int) : (trim8 l).length ≤ 8 := by unfold trim8; rw [List.length_drop]; omega
theorem askW_v {y : Wt} {now : Int} (h : Wv y) (hn : y.now = now) (ha : asksB y now = true) : Wv (askW y now) := by
 unfold asksB at ha
 simp only [Bool.and_eq_true, Bool.not_eq_true', decide_eq_true_eq] at ha
 obtain ⟨h1, h2, h3⟩ := ha
 have hnn := h.now
 have hs := h.ser
 have hg := gapN_le y.noise (y.ser + 1).toNat
 have hsub : (trim8 (y.asked ++ [y.ser])).Sublist (y.asked ++ [y.ser]) := List.drop_sublist _ _
 refine ⟨h.path, h.now, ⟨by show 0 ≤ now + (gapN y.noise (y.ser + 1).toNat : Int); omega, by show now + (gapN y.noise (y.ser + 1).toNat : Int) ≤ _; omega⟩, h.til, ⟨by show 0 ≤ y.ser + 1; omega, by show y.ser + 1 ≤ _; omega⟩, h.noise, trim8_len _, h.word, h.fresh, fun i hi => ?_, ?_, fun hgo => ?_, h.live⟩
 ·have := hsub.subset hi
  show -1 < i ∧ i < y.ser + 1
  rcases List.mem_append.1 this with h4 | h4
  ·have := h.mem i h4; omega
  ·simp only [List.mem_singleton] at h4; omega
 ·refine List.Pairwise.sublist hsub (List.pairwise_append.2 ⟨h.asc, List.pairwise_singleton _ _, fun a ha b hb => ?_⟩)
  simp only [List.mem_singleton] at hb
  rw [hb]; exact (h.mem a ha).2
 ·have : y.gone = true := hgo
  rw [h1] at this; cases this
theorem timeW_v {x : Wt} {now : Int} (h : Wv x) (h1 : x.now ≤ now) (h2 : now ≤ 1099511627776) : Wv (timeW x now).1 := by
 have hy := atW_v h h1 h2
 unfold timeW
 split
 ·exact askW_v hy (atW_same x now).2.2.1 (by assumption)
 ·exact hy
theorem afterL_sub {k : Int} {l r : List Int} (h : afterL k l = some r) : r.Sublist l ∧ k ∈ l := by
 unfold afterL at h
 cases hi : l.findIdx? (isB k) with
 | none => rw [hi] at h; cases h
 | some i =>
  rw [hi] at h
  have h' : l.drop (i + 1) = r := by simpa using h
  subst h'
  refine ⟨List.drop_sublist _ _, ?_⟩
  obtain ⟨hlt, hb, _⟩ := List.findIdx?_eq_some_iff_getElem.1 hi
  have := of_decide_eq_true hb
  rw [← this]; exact List.getElem_mem hlt
theorem hearW_v {x : Wt} {now : Int} {p : Hop3} (h : Wv x) (h1 : x.now ≤ now) (h2 : now ≤ 1099511627776) : Wv (hearW x now p).1 := by
 have hy := atW_v h h1 h2
 have hn := h.now
 have hnow := (atW_same x now).2.2.1
 unfold hearW
 dsimp only
 split
 ·exact hy
 ·rename_i hgo
  split
  ·exact hy
  ·split
   ·split
    ·rename_i r hr
     obtain ⟨hsub, _⟩ := afterL_sub hr
     exact ⟨hy.path, hy.now, hy.nxt, ⟨by show 0 ≤ now + 30000; omega, by show now + 30000 ≤ _; omega⟩, hy.ser, hy.noise, Nat.le_trans hsub.length_le hy.len, hy.word, hy.fresh, fun i hi => hy.mem i (hsub.subset hi), hy.asc.sublist hsub, fun hg => absurd hg hgo, fun _ => by show (atW x now).now < now + 30000; omega⟩
    ·exact hy
   ·exact hy
theorem restW_v {x : Wt} {now : Int} {s : ByteArray} (h : Wv x) (h1 : x.now ≤ now) (h2 : now ≤ 1099511627776) (he : (restW x now s).2 = 0) : Wv (restW x now s).1 := by
 have hy := atW_v h h1 h2
 unfold restW at he ⊢
 dsimp only at he ⊢
 split at he
 ·cases he
 ·rename_i hgo
  rw [if_neg hgo]
  split at he
  ·rename_i hs
   rw [if_pos hs]
   exact ⟨hy.path, hy.now, hy.nxt, hy.til, hy.ser, hy.noise, hy.len, hy.word, .inr hs, hy.mem, hy.asc, fun hg => absurd hg hgo, hy.live⟩
  ·cases he
theorem swW_v {x : Wt} {now : Int} {a b : Ad} (h : Wv x) (h1 : x.now ≤ now) (h2 : now ≤ 1099511627776) (he : (swW x now a b).2 = 0) : Wv (swW x now a b).1 := by
 have hy := atW_v h h1 h2
 have hn := h.now
 have hnow := (atW_same x now).2.2.1
 unfold swW at he ⊢
 dsimp only at he ⊢
 split at he
 ·cases he
 ·rename_i hgo
  rw [if_neg hgo]
  split at he
  ·rename_i hs
   rw [if_pos hs]
   refine ⟨hs, hy.now, hy.nxt, ⟨by show 0 ≤ now + 30000; omega, by show now + 30000 ≤ _; omega⟩, hy.ser, hy.noise, Nat.zero_le _, ?_, .inl rfl, fun i hi => (List.not_mem_nil hi).elim, .nil, fun hg => absurd hg hgo, fun _ => by show (atW x now).now < now + 30000; omega⟩
   show wordB (if (atW x now).fresh = ⟨#[]⟩ then (atW x now).word else (atW x now).fresh) = true
   split
   ·exact hy.word
   ·rcases hy.fresh with h3 | h3
    ·contradiction
    ·exact h3.1
  ·cases he
theorem newW_v {a b : Ad} {word noise : ByteArray} {now : Int} (h : newB a b word noise now = true) : Wv (newW a b word noise now) := by
 obtain ⟨h1, h2⟩ := newB_in h
 have h1 := inB_t h1
 have hy := wtB_iff.1 h2
 have hg := gapN_le noise 0
 exact ⟨hy.path, hy.now, ⟨by show 0 ≤ now + (gapN noise 0 : Int); omega, by show now + (gapN noise 0 : Int) ≤ _; omega⟩, hy.til, hy.ser, hy.noise, hy.len, hy.word, hy.fresh, hy.mem, hy.asc, hy.gone, hy.live⟩
/-- the strings of a watch are short enough -/
structure Ws (x : Wt) : Prop where
 a : x.a.Ok
 b : x.b.Ok
 noise : SzS x.noise
 word : SzS x.word
 fresh : SzS x.fresh
theorem Wt.Ok.ws {x : Wt} (h : x.Ok) : Ws x := ⟨h.a, h.b, h.noise, h.word, h.fresh⟩
theorem Ws.ok {x : Wt} (h : Ws x) (hv : Wv x) : x.Ok := hv.ok h.a h.b h.noise h.word h.fresh
theorem atW_s {x : Wt} {now : Int} (h : Ws x) : Ws (atW x now) := by
 cases hg : goesB x now with
 | true => rw [atW_t hg]; exact ⟨h.a, h.b, h.noise, h.word, Ad.z_ok.s⟩
 | false => rw [atW_f hg]; exact ⟨h.a, h.b, h.noise, h.word, h.fresh⟩
theorem timeW_s {x : Wt} {now : Int} (h : Ws x) : Ws (timeW x now).1 := by
 have hy := atW_s (now := now) h
 unfold timeW
 split
 ·exact ⟨hy.a, hy.b, hy.noise, hy.word, hy.fresh⟩
 ·exact hy
theorem hearW_s {x : Wt} {now : Int} {p : Hop3} (h : Ws x) : Ws (hearW x now p).1 := by
 have hy := atW_s (now := now) h
 unfold hearW
 dsimp only
 split
 ·exact hy
 ·split
  ·exact hy
  ·split
   ·split
    ·exact ⟨hy.a, hy.b, hy.noise, hy.word, hy.fresh⟩
    ·exact hy
   ·exact hy
theorem zW_s : Ws zW := zW_ok.ws
theorem restW_s {x : Wt} {now : Int} {s : ByteArray} (h : Ws x) (hs : SzS s) : Ws (restW x now s).1 := by
 have hy := atW_s (now := now) h
 unfold restW
 dsimp only
 split
 ·exact zW_s
 ·split
  ·exact ⟨hy.a, hy.b, hy.noise, hy.word, hs⟩
  ·exact zW_s
theorem swW_s {x : Wt} {now : Int} {a b : Ad} (h : Ws x) (ha : a.Ok) (hb : b.Ok) : Ws (swW x now a b).1 := by
 have hy := atW_s (now := now) h
 unfold swW
 dsimp only
 split
 ·exact zW_s
 ·split
  ·refine ⟨ha, hb, hy.noise, ?_, Ad.z_ok.s⟩
   show SzS (if (atW x now).fresh = ⟨#[]⟩ then (atW x now).word else (atW x now).fresh)
   split
   ·exact hy.word
   ·exact hy.fresh
  ·exact zW_s
/-! the results are good values -/
theorem timeE_ok {x : Wt} (hok : x.Ok) (now : Int) : (timeE x now).1.Ok := by
 unfold timeE
 split
 ·rename_i h
  obtain ⟨h1, h2⟩ := startN_0 h
  have h3 := inB_t h2
  exact (timeW_s hok.ws).ok (timeW_v (wtB_iff.1 h1) h3.1 h3.2)
 ·exact zW_ok
theorem hearE_ok {x : Wt} (hok : x.Ok) (now : Int) (p : Hop3) : (hearE x now p).1.Ok := by
 unfold hearE
 split
 ·exact zW_ok
 ·rename_i h
  obtain ⟨h1, h2⟩ := startN_0 (Classical.not_not.1 h)
  have h3 := inB_t h2
  split
  ·exact zW_ok
  ·split
   ·exact zW_ok
   ·exact (hearW_s hok.ws).ok (hearW_v (wtB_iff.1 h1) h3.1 h3.2)
theorem restE_ok {x : Wt} (hok : x.Ok) (now : Int) {s : ByteArray} (hs : SzS s) : (restE x now s).1.Ok := by
 unfold restE
 split
 ·rename_i h
  obtain ⟨h1, h2⟩ := startN_0 h
  have h3 := inB_t h2
  by_cases he : (restW x now s).2 = 0
  ·exact (restW_s hok.ws hs).ok (restW_v (wtB_iff.1 h1) h3.1 h3.2 he)
  ·have : (restW x now s).1 = zW := by
    unfold restW at he ⊢
    dsimp only at he ⊢
    split
    ·rfl
    ·rename_i hg
     rw [if_neg hg] at he
     split
     ·rename_i h5; rw [if_pos h5] at he; exact absurd rfl he
     ·rfl
   rw [this]; exact zW_ok
 ·exact zW_ok
theorem swE_ok {x : Wt} (hok : x.Ok) (now : Int) {a b : Ad} (ha : a.Ok) (hb : b.Ok) : (swE x now a b).1.Ok := by
 unfold swE
 split
 ·rename_i h
  obtain ⟨h1, h2⟩ := startN_0 h
  have h3 := inB_t h2
  by_cases he : (swW x now a b).2 = 0
  ·exact (swW_s hok.ws ha hb).ok (swW_v (wtB_iff.1 h1) h3.1 h3.2 he)
  ·have : (swW x now a b).1 = zW := by
    unfold swW at he ⊢
    dsimp only at he ⊢
    split
    ·rfl
    ·rename_i hg
     rw [if_neg hg] at he
     split
     ·rename_i h5; rw [if_pos h5] at he; exact absurd rfl he
     ·rfl
   rw [this]; exact zW_ok
 ·exact zW_ok
namespace V
theorem SLn.shape {w : World} {sz : Nat} {v : Value} {xs : List (List Value)} (h : SLn w sz v xs) : ∃ p c, v = .slice p xs.length c := by
 rcases h with ⟨rfl, rfl⟩ | ⟨a, c, rfl, rfl⟩ | ⟨g, off, c, rfl, _⟩
 ·exact ⟨_, _, rfl⟩
 ·exact ⟨_, _, rfl⟩
 ·exact ⟨_, _, rfl⟩
theorem SLn.len {w : World} {sz : Nat} {v : Value} {xs : List (List Value)} (h : SLn w sz v xs) : xs.length ≤ maxLen := by
 rcases h with ⟨_, rfl⟩ | ⟨a, c, _, rfl⟩ | ⟨g, off, c, _, h1, h2, _⟩
 ·exact Nat.zero_le _
 ·exact Nat.zero_le _
 ·omega
theorem SLn.ext {w w' : World} {sz : Nat} {v : Value} {xs : List (List Value)} (h : SLn w sz v xs) (hx : Ext w w') : SLn w' sz v xs := by
 rcases h with h | h | ⟨g, off, c, hv, h1, h2, h3⟩
 ·exact .inl h
 ·exact .inr (.inl h)
 ·exact .inr (.inr ⟨g, off, c, hv, h1, h2, fun j x hj => ⟨(h3 j x hj).1, fun i y hy => Ext.cell hx ((h3 j x hj).2 i y hy)⟩⟩)
theorem SLn.cells {w : World} {sz : Nat} {p : Option Addr} {n c : Nat} {xs : List (List Value)} (h : SLn w sz (.slice p n c) xs) {j : Nat} {x : List Value} (hj : xs[j]? = some x) :
  ∃ g off, p = some ⟨g, off, none⟩ ∧ x.length = sz ∧ ∀ i y, x[i]? = some y → w.cell? ⟨g, addM off j sz + i, none⟩ = some y := by
 rcases h with ⟨_, h⟩ | ⟨_, _, _, h⟩ | ⟨g, off, c', hv, _, _, h3⟩
 ·rw [h] at hj; simp at hj
 ·rw [h] at hj; simp at hj
 ·simp only [Value.slice.injEq] at hv
  refine ⟨g, off, hv.1, (h3 j x hj).1, fun i y hy => ?_⟩
  rw [addM_eq, Nat.add_assoc]
  exact (h3 j x hj).2 i y hy
theorem SLn.one {α : Type} {f : α → Value} {w : World} {v : Value} {l : List α} (h : SLn w 1 v (l.map fun a => [f a])) : SLv w v (l.map f) := by
 rcases h with ⟨rfl, h⟩ | ⟨a, c, rfl, h⟩ | ⟨g, off, c, rfl, hle, _, h⟩
 ·have : l = [] := List.map_eq_nil_iff.1 h
  subst this; exact .inl ⟨rfl, _, _, rfl⟩
 ·have : l = [] := List.map_eq_nil_iff.1 h
  subst this; exact .inl ⟨rfl, _, _, rfl⟩
 ·refine .inr ⟨g, off, c, by simp, by simpa using hle, fun j y hy => ?_⟩
  rw [List.getElem?_map, Option.map_eq_some_iff] at hy
  obtain ⟨s, hs, rfl⟩ := hy
  have := (h j [f s] (by simp [hs])).2 0 (f s) rfl
  simpa using this
theorem Rd.all {α : Type} {w : World} {s : Sh} {Q : α → Prop} {f : α → List Value} (h1 : ∀ cs, Rd w s cs → ∃ a, Q a ∧ cs = f a) :
  ∀ {xs : List (List Value)}, (∀ x ∈ xs, Rd w s x) → ∃ l : List α, xs = l.map f ∧ ∀ a ∈ l, Q a
 | [], _ => ⟨[], rfl, by simp⟩
 | x :: xs, h => by
  obtain ⟨a, ha, hx⟩ := h1 x (h x List.mem_cons_self)
  obtain ⟨l, hl, hq⟩ := Rd.all h1 (xs := xs) fun y hy => h y (List.mem_cons_of_mem _ hy)
  refine ⟨a :: l, by rw [List.map_cons, ← hx, ← hl], fun b hb => ?_⟩
  rcases List.mem_cons.1 hb with rfl | hb
  ·exact ha
  ·exact hq b hb
/-- []byte -/
theorem rd_bytes {w : World} {cs : List Value} (h : Rd w (.sl (.int .u8)) cs) : ∃ (v : Value) (l : List UInt8), cs = [v] ∧ SLv w v (bytesV l) ∧ l.length ≤ maxLen := by
 obtain ⟨v, xs, rfl, hs, hx⟩ := h
 obtain ⟨l, rfl, _⟩ := Rd.all (Q := fun _ : UInt8 => True) (f := fun b => [Value.int .u8 (b.toNat : Nat)]) (fun cs h => by
  obtain ⟨n, rfl, hn⟩ := h
  obtain ⟨m, rfl, hm⟩ := nat_of_u hn rfl
  have hm : m < 256 := hm
  exact ⟨UInt8.ofNat m, trivial, by rw [UInt8.toNat_ofNat', Nat.mod_eq_of_lt (by omega)]⟩) hx
 exact ⟨v, l, rfl, SLn.one hs, by have := hs.len; rwa [List.length_map] at this⟩
/-- []int -/
theorem rd_ints {w : World} {cs : List Value} (h : Rd w (.sl (.int .i64)) cs) : ∃ (v : Value) (l : List Int), cs = [v] ∧ SLv w v (l.map (Value.int .i64)) ∧ (∀ i ∈ l, (Lit.int .i64 i).wf = true) ∧ l.length ≤ maxLen := by
 obtain ⟨v, xs, rfl, hs, hx⟩ := h
 obtain ⟨l, rfl, hl⟩ := Rd.all (Q := fun i : Int => (Lit.int .i64 i).wf = true) (f := fun i => [Value.int .i64 i]) (fun cs h => by
  obtain ⟨n, rfl, hn⟩ := h
  exact ⟨n, hn, rfl⟩) hx
 exact ⟨v, l, rfl, SLn.one hs, hl, by have := hs.len; rwa [List.length_map] at this⟩
theorem conv_zero {P : Program} {T : Tab} (hT : tabOk P T = true) {src dst e n1 n2 n3 : Nat} (hs : tfind T src = some ⟨.slice e, n1⟩) (he : tfind T e = some ⟨.int .u8, n2⟩) (hd : tfind T dst = some ⟨.str, n3⟩) {w : World} {a : Option Addr} {cap : Nat} :
  (convert src dst (.slice a 0 cap)).run P w = .ok (.string ⟨#[]⟩) w := by
 cases a with
 | none => exact conv_nil (hT := hT) hs he hd
 | some a =>
  rw [run_convert_bytes_string w src dst e _ 0 cap (tab_slice hT hs) (tab_int hT he) (tab_str hT hd)]
  have hld := run_loadCells_list (P := P) w a [] (fun j v hj => by simp at hj)
  rw [run_bytesToString w _ 0 cap [] (by rw [show (0 : Nat) = ([] : List Value).length from rfl, hld]; rfl)]
  rfl
/-- the octets of a slice, as a string -/
theorem SLv.str {P : Program} {T : Tab} (hT : tabOk P T = true) {src dst e n1 n2 n3 : Nat} (hs : tfind T src = some ⟨.slice e, n1⟩) (he : tfind T e = some ⟨.int .u8, n2⟩) (hd : tfind T dst = some ⟨.str, n3⟩) {w : World} {v : Value} {l : List UInt8} (h : SLv w v (bytesV l)) :
  (convert src dst v).run P w = .ok (.string ⟨l.toArray⟩) w := by
 rcases h with ⟨h, a, c, rfl⟩ | ⟨g, off, c, rfl, _, hc⟩
 ·have : l = [] := List.map_eq_nil_iff.1 h
  subst this
  exact conv_zero hT hs he hd
 ·have hl : (bytesV l).length = l.length := by simp [bytesV]
  rw [hl]
  refine conv_bytes (hT := hT) hs he hd rfl fun j hj => ?_
  have hj' : j < (bytesV l).length := by omega
  rw [List.getElem?_eq_getElem hj']
  exact hc j _ (List.getElem?_eq_getElem hj')
/-- a slice is cut, wherever it reads the same -/
theorem hi_val {P : Program} {T : Tab} (hT : tabOk P T = true) {t el n1 : Nat} {kd : TK} (ht : tfind T t = some ⟨.slice el, n1⟩) (he : tfind T el = some ⟨kd, 1⟩) {w : World} {v : Value} {xs : List Value} (h : SLv w v xs) (b : Nat) (hb : b ≤ xs.length) :
  ∃ v', (∀ (k : IntKind) w', (Instr.sliceAt t v none (some (.int k (b : Int))) none).run P w' = .ok v' w') ∧ ∀ w2, SLv w2 v xs → SLv w2 v' (xs.take b) := by
 obtain ⟨v', h1, _⟩ := h.hi (P := P) hT ht he b hb
 refine ⟨v', h1, fun w2 h2 => ?_⟩
 obtain ⟨v2, h3, h4⟩ := h2.hi (P := P) hT ht he b hb
 have e := (h1 .i64 w2).symm.trans (h3 .i64 w2)
 have e : v' = v2 := by injection e
 rw [e]; exact h4
theorem u8_cell {n : Nat} (h : n < 256) : Value.int .u8 (n : Nat) = .int .u8 ((UInt8.ofNat n).toNat : Nat) := by
 rw [UInt8.toNat_ofNat', Nat.mod_eq_of_lt (by omega)]
theorem cellU8 {x : Int} {n : Nat} (h : x = n) (hn : n < 256) : Value.int .u8 x = .int .u8 ((UInt8.ofNat n).toNat : Nat) := by
 rw [h]; exact u8_cell hn
end V
set_option maxHeartbeats 4000000
structure Ev where
 what : Nat
 id : Nat
 path : Nat
 after : Nat
 word : Nat
abbrev Ev.c (x : Ev) : List Value := [.int .u8 x.what, .int .u8 x.id, .int .u8 x.path, .int .u16 x.after, .int .u8 x.word]
structure Ev.Ok (x : Ev) : Prop where
 what : x.what < 256
 id : x.id < 256
 path : x.path < 256
 after : x.after < 65536
 word : x.word < 256
def shE : Sh := .cons (.int .u8) (.cons (.int .u8) (.cons (.int .u8) (.cons (.int .u16) (.cons (.int .u8) .nil))))
theorem ev_rd {w : World} {cs : List Value} (h : Rd w (.ag shE) cs) : ∃ x : Ev, x.Ok ∧ cs = x.c := by
 obtain ⟨_, _, rfl, ⟨n1, rfl, h1⟩, _, _, rfl, ⟨n2, rfl, h2⟩, _, _, rfl, ⟨n3, rfl, h3⟩, _, _, rfl, ⟨n4, rfl, h4⟩, _, _, rfl, ⟨n5, rfl, h5⟩, h6⟩ := h
 obtain rfl : _ = [] := h6
 obtain ⟨m1, rfl, k1⟩ := nat_of_u h1 rfl
 obtain ⟨m2, rfl, k2⟩ := nat_of_u h2 rfl
 obtain ⟨m3, rfl, k3⟩ := nat_of_u h3 rfl
 obtain ⟨m4, rfl, k4⟩ := nat_of_u h4 rfl
 obtain ⟨m5, rfl, k5⟩ := nat_of_u h5 rfl
 exact ⟨⟨m1, m2, m3, m4, m5⟩, ⟨k1, k2, k3, k4, k5⟩, rfl⟩
theorem addr_p (b : UInt8) : PureF Tryz.prog 33 #[.int .u8 (b.toNat : Nat)] (.agg #[.string ⟨#[10, 0, 0, b]⟩, .int .i64 1]) := by
 first | refine v_pure TTok FFok Tryz.func33 rfl rfl fun w0 => ?_ | refine v_pure (args := []) TTok FFok Tryz.func33 rfl rfl fun w0 => ?_
 conv => whnf
 refine VSeq.mk fun Kq hKq => ?_
 conv => whnf
 have hp := Hp.nil w0
 (refine hp.kalloc z27 fun al27 w hp hx => ?_; conv => whnf)
 (refine hKq _ _ _ (.refl _) ?_; clear hKq Kq; conv => whnf)
 (refine VSeq.mk fun Kq hKq => ?_; conv => whnf)
 (refine hp.kmade _ _ (fun b => .slice (some ⟨b, 0, none⟩) 4 4) (mks22_4_0_1_2_3 _ _ _ _ _) fun q w hp hx => ?_; conv => whnf)
 refine ⟨_, _, Blk.str (l := [10, 0, 0, b]) (hp.get (i := 0) rfl) TTok rfl rfl rfl rfl rfl, ?_⟩
 conv => whnf
 (refine ⟨_, _, bld27_0_1 _ _ _, ?_⟩; conv => whnf)
 (refine hp.kstA TTok rfl 1 rfl rfl (oneC_of rfl) (by rfl) fun w hp => ?_; try simp only [List.set_cons_zero, List.set_cons_succ, EV.val] at hp; conv => whnf)
 (refine hKq _ _ _ (.refl _) ?_; clear hKq Kq; conv => whnf)
 (refine ⟨_, Blk.lvN (hp.get (i := 1) rfl) TTok rfl rfl, ?_⟩; conv => whnf)
 (exact ⟨rfl, hp.ext⟩)
def endA (k : Nat) : Ad := ⟨⟨#[10, 0, 0, UInt8.ofNat (1 + k % 3)]⟩, 1⟩
def endB (k : Nat) : Ad := ⟨⟨#[10, 0, 1, UInt8.ofNat (1 + k / 3 % 3)]⟩, 2⟩
theorem Ends_p (k : Nat) (hk : k < 256) : PureF Tryz.prog 15 #[.int .u8 k] (.agg #[.string (endA k).h, .int .i64 (endA k).p, .string (endB k).h, .int .i64 (endB k).p]) := by
 have h1 : k % 3 < 3 := Nat.mod_lt _ (by decide)
 have h2 : k / 3 % 3 < 3 := Nat.mod_lt _ (by decide)
 unfold endA endB
 first | refine v_pure TTok FFok Tryz.func15 rfl rfl fun w0 => ?_ | refine v_pure (args := []) TTok FFok Tryz.func15 rfl rfl fun w0 => ?_
 conv => whnf
 refine VSeq.mk fun Kq hKq => ?_
 conv => whnf
 have hp := Hp.nil w0
 (refine hp.kalloc z31 fun al31 w hp hx => ?_; conv => whnf)
 (refine hKq _ _ _ (.refl _) ?_; clear hKq Kq; conv => whnf)
 (refine VSeq.mk fun Kq hKq => ?_; conv => whnf)
 (refine And.intro (by first | omega | decide) ?_; conv => whnf)
 (refine hp.kmade _ _ (fun b => .slice (some ⟨b, 0, none⟩) 4 4) (mks22_4_0_1_2_3 _ _ _ _ _) fun q w hp hx => ?_; conv => whnf)
 refine ⟨_, _, Blk.str (l := [10, 0, 0, UInt8.ofNat (1 + k % 3)]) (hp.get (i := 0) rfl) TTok rfl rfl rfl (by rw [cellU8 (x := ((1 + ↑k % 3) % 256)) (n := 1 + k % 3) (by omega) (by omega)]; rfl) rfl, ?_⟩
 conv => whnf
 (refine ⟨_, _, bld27_0_1 _ _ _, ?_⟩; conv => whnf)
 (refine And.intro (by first | omega | decide) ?_; conv => whnf)
 (refine And.intro (by first | omega | decide) ?_; conv => whnf)
 (refine hp.kmade _ _ (fun b => .slice (some ⟨b, 0, none⟩) 4 4) (mks22_4_0_1_2_3 _ _ _ _ _) fun q w hp hx => ?_; conv => whnf)
 refine ⟨_, _, Blk.str (l := [10, 0, 1, UInt8.ofNat (1 + k / 3 % 3)]) (hp.get (i := 0) rfl) TTok rfl rfl rfl (by rw [cellU8 (x := ((1 + ↑k / 3 % 3) % 256)) (n := 1 + k / 3 % 3) (by omega) (by omega)]; rfl) rfl, ?_⟩
 conv => whnf
 (refine ⟨_, _, bld27_0_1 _ _ _, ?_⟩; conv => whnf)
 (refine ⟨_, _, bld31_0_1 _ _ _ _ _, ?_⟩; conv => whnf)
 (refine hp.kstA TTok rfl 2 rfl rfl (oneC_of rfl) (by rfl) fun w hp => ?_; try simp only [List.set_cons_zero, List.set_cons_succ, EV.val] at hp; conv => whnf)
 (refine hKq _ _ _ (.refl _) ?_; clear hKq Kq; conv => whnf)
 (refine ⟨_, Blk.lvN (hp.get (i := 2) rfl) TTok rfl rfl, ?_⟩; conv => whnf)
 (exact ⟨rfl, hp.ext⟩)
def wordsF (k : Nat) : ByteArray := if k % 5 = 0 then (⟨#[97, 98, 99, 100]⟩ : ByteArray) else if k % 5 = 1 then (⟨#[101, 102, 103, 104]⟩ : ByteArray) else if k % 5 = 2 then (⟨#[97, 98, 99]⟩ : ByteArray) else if k % 5 = 3 then (⟨#[48, 49, 50, 51, 52, 53, 54, 55, 56, 57, 43, 47]⟩ : ByteArray) else (⟨#[97, 98, 32, 100]⟩ : ByteArray)
theorem wordsF_s (k : Nat) : SzS (wordsF k) := by
 unfold wordsF SzS maxLen
 split
 ·decide
 ·split
  ·decide
  ·split
   ·decide
   ·split <;> decide
theorem words_ix0 (w : World) : (Instr.index 90 (.agg #[.string (⟨#[97, 98, 99, 100]⟩ : ByteArray), .string (⟨#[101, 102, 103, 104]⟩ : ByteArray), .string (⟨#[97, 98, 99]⟩ : ByteArray), .string (⟨#[48, 49, 50, 51, 52, 53, 54, 55, 56, 57, 43, 47]⟩ : ByteArray), .string (⟨#[97, 98, 32, 100]⟩ : ByteArray)]) (.int .u8 0)).run Tryz.prog w = .ok (.string (⟨#[97, 98, 99, 100]⟩ : ByteArray)) w := by kernel_rfl
theorem words_ix1 (w : World) : (Instr.index 90 (.agg #[.string (⟨#[97, 98, 99, 100]⟩ : ByteArray), .string (⟨#[101, 102, 103, 104]⟩ : ByteArray), .string (⟨#[97, 98, 99]⟩ : ByteArray), .string (⟨#[48, 49, 50, 51, 52, 53, 54, 55, 56, 57, 43, 47]⟩ : ByteArray), .string (⟨#[97, 98, 32, 100]⟩ : ByteArray)]) (.int .u8 1)).run Tryz.prog w = .ok (.string (⟨#[101, 102, 103, 104]⟩ : ByteArray)) w := by kernel_rfl
theorem words_ix2 (w : World) : (Instr.index 90 (.agg #[.string (⟨#[97, 98, 99, 100]⟩ : ByteArray), .string (⟨#[101, 102, 103, 104]⟩ : ByteArray), .string (⟨#[97, 98, 99]⟩ : ByteArray), .string (⟨#[48, 49, 50, 51, 52, 53, 54, 55, 56, 57, 43, 47]⟩ : ByteArray), .string (⟨#[97, 98, 32, 100]⟩ : ByteArray)]) (.int .u8 2)).run Tryz.prog w = .ok (.string (⟨#[97, 98, 99]⟩ : ByteArray)) w := by kernel_rfl
theorem words_ix3 (w : World) : (Instr.index 90 (.agg #[.string (⟨#[97, 98, 99, 100]⟩ : ByteArray), .string (⟨#[101, 102, 103, 104]⟩ : ByteArray), .string (⟨#[97, 98, 99]⟩ : ByteArray), .string (⟨#[48, 49, 50, 51, 52, 53, 54, 55, 56, 57, 43, 47]⟩ : ByteArray), .string (⟨#[97, 98, 32, 100]⟩ : ByteArray)]) (.int .u8 3)).run Tryz.prog w = .ok (.string (⟨#[48, 49, 50, 51, 52, 53, 54, 55, 56, 57, 43, 47]⟩ : ByteArray)) w := by kernel_rfl
theorem words_ix4 (w : World) : (Instr.index 90 (.agg #[.string (⟨#[97, 98, 99, 100]⟩ : ByteArray), .string (⟨#[101, 102, 103, 104]⟩ : ByteArray), .string (⟨#[97, 98, 99]⟩ : ByteArray), .string (⟨#[48, 49, 50, 51, 52, 53, 54, 55, 56, 57, 43, 47]⟩ : ByteArray), .string (⟨#[97, 98, 32, 100]⟩ : ByteArray)]) (.int .u8 4)).run Tryz.prog w = .ok (.string (⟨#[97, 98, 32, 100]⟩ : ByteArray)) w := by kernel_rfl
theorem words_ix (k : Nat) (w : World) : (Instr.index 90 (.agg #[.string (⟨#[97, 98, 99, 100]⟩ : ByteArray), .string (⟨#[101, 102, 103, 104]⟩ : ByteArray), .string (⟨#[97, 98, 99]⟩ : ByteArray), .string (⟨#[48, 49, 50, 51, 52, 53, 54, 55, 56, 57, 43, 47]⟩ : ByteArray), .string (⟨#[97, 98, 32, 100]⟩ : ByteArray)]) (.int .u8 ((k : Int) % 5))).run Tryz.prog w = .ok (.string (wordsF k)) w := by
 have : (k % 5 = 0 ∧ (k : Int) % 5 = 0) ∨ (k % 5 = 1 ∧ (k : Int) % 5 = 1) ∨ (k % 5 = 2 ∧ (k : Int) % 5 = 2) ∨ (k % 5 = 3 ∧ (k : Int) % 5 = 3) ∨ (k % 5 = 4 ∧ (k : Int) % 5 = 4) := by omega
 rcases this with ⟨h, h2⟩ | ⟨h, h2⟩ | ⟨h, h2⟩ | ⟨h, h2⟩ | ⟨h, h2⟩
 ·rw [h2, show wordsF k = (⟨#[97, 98, 99, 100]⟩ : ByteArray) by unfold wordsF; rw [if_pos h]]; exact words_ix0 w
 ·rw [h2, show wordsF k = (⟨#[101, 102, 103, 104]⟩ : ByteArray) by unfold wordsF; rw [if_neg (by omega), if_pos h]]; exact words_ix1 w
 ·rw [h2, show wordsF k = (⟨#[97, 98, 99]⟩ : ByteArray) by unfold wordsF; rw [if_neg (by omega), if_neg (by omega), if_pos h]]; exact words_ix2 w
 ·rw [h2, show wordsF k = (⟨#[48, 49, 50, 51, 52, 53, 54, 55, 56, 57, 43, 47]⟩ : ByteArray) by unfold wordsF; rw [if_neg (by omega), if_neg (by omega), if_neg (by omega), if_pos h]]; exact words_ix3 w
 ·rw [h2, show wordsF k = (⟨#[97, 98, 32, 100]⟩ : ByteArray) by unfold wordsF; rw [if_neg (by omega), if_neg (by omega), if_neg (by omega), if_neg (by omega)]]; exact words_ix4 w
theorem Words_p (k : Nat) (hk : k < 256) : PureF Tryz.prog 16 #[.int .u8 k] (.string (wordsF k)) := by
 have hi := words_ix k
 first | refine v_pure TTok FFok Tryz.func16 rfl rfl fun w0 => ?_ | refine v_pure (args := []) TTok FFok Tryz.func16 rfl rfl fun w0 => ?_
 conv => whnf
 refine VSeq.mk fun Kq hKq => ?_
 conv => whnf
 refine hKq _ _ _ (.refl _) ?_
 clear hKq Kq
 conv => whnf
 refine VSeq.mk fun Kq hKq => ?_
 conv => whnf
 have hp := Hp.nil w0
 (refine ⟨_, _, bld90_0_1_2_3_4 _ _ _ _ _ _, ?_⟩; conv => whnf)
 (refine And.intro (by first | omega | decide) ?_; conv => whnf)
 refine ⟨_, _, hi _, ?_⟩
 conv => whnf
 refine hKq _ _ _ (.refl _) ?_
 clear hKq Kq
 conv => whnf
 (exact ⟨rfl, hp.ext⟩)
set_option maxHeartbeats 1000000
def idE (x : Ev) (l : List Int) : Int := if 0 < l.length ∧ x.id < 200 then l.getD (x.id % l.length) 0 else x.id
def prE (x : Ev) (y : Wt) : Prb := if x.what / 8 % 4 = 0 then ⟨1, idE x y.asked, 1 + (x.word : Int), decide ((x.word : Int) % 2 = 1), x.id, false, Ad.z⟩ else if x.what / 8 % 4 = 1 then p3 (idE x y.asked) else p2 (idE x y.asked) y.a
theorem idE_mem {x : Ev} {l : List Int} : (0 < l.length ∧ idE x l ∈ l) ∨ idE x l = x.id := by
 unfold idE
 split
 ·rename_i h
  refine .inl ⟨h.1, ?_⟩
  have hlt : x.id % l.length < l.length := Nat.mod_lt _ h.1
  rw [List.getD_eq_getElem?_getD, List.getElem?_eq_getElem hlt]
  exact List.getElem_mem hlt
 ·exact .inr rfl
theorem Probe12_c {W : World} {v : Value} (x : Ev) (hx : x.Ok) (y : Wt) (hl : y.asked.length ≤ maxLen) (hv : SLv W v (iv y.asked)) :
  Calls Tryz.prog 23 #[.agg x.c.toArray, .agg (y.c v).toArray] W fun e w' => e = .returned (.agg (prE x y).c.toArray) ∧ Ext W w' := by
 unfold prE
 obtain ⟨what, id, path, after, word⟩ := x
 obtain ⟨x1, x2, x3, x4, x5⟩ := hx
 dsimp only at x1 x2 x3 x4 x5
 obtain ⟨⟨ah, ap⟩, ⟨bh, bp⟩, now, nxt, til, ser, gone, noise, word2, fresh, asked⟩ := y
 dsimp only [Wt.c, Ev.c] at hv hl ⊢
 have hsl : (iv asked).length = asked.length := List.length_map _
 obtain ⟨p, c, rfl⟩ := hv.shape
 rw [hsl] at hv ⊢
 have hlen : asked.length ≤ 9223372036854775807 := hl
 refine v_reads (args := [.agg #[.int .u8 what, .int .u8 id, .int .u8 path, .int .u16 after, .int .u8 word], .agg #[.string ah, .int .i64 ap, .string bh, .int .i64 bp, .int .i64 now, .int .i64 nxt, .int .i64 til, .int .i64 ser, .bool gone, .string noise, .string word2, .string fresh, .slice p asked.length c]]) TTok FFok Tryz.func23 rfl rfl ?_
 conv => whnf
 refine VSeq.mk fun Kq hKq => ?_
 conv => whnf
 have hp := Hp.nil W
 refine hp.kboxA fun q2 w hp hx => ?_
 conv => whnf
 refine hp.kboxA fun q3 w hp hx => ?_
 conv => whnf
 (refine hp.kalloc z61 fun al61 w hp hx => ?_; conv => whnf)
 (refine hKq _ _ _ (.refl _) ?_; clear hKq Kq; conv => whnf)
 (refine VSeq.mk fun Kq hKq => ?_; conv => whnf)
 (refine ⟨_, _, Blk.ld (hp.get (i := 2) rfl) TTok rfl rfl, ?_⟩; conv => whnf)
 (refine Or.inl (And.intro (by first | omega | decide) ?_); conv => whnf)
 (refine hKq _ _ _ (.refl _) ?_; clear hKq Kq; conv => whnf)
 (refine VSeq.mk fun Kq hKq => ?_; conv => whnf)
 (refine VSeq.mk fun Kq hKq => ?_; conv => whnf)
 (refine VSeq.mk fun Kq hKq => ?_; conv => whnf)
 (refine ⟨_, _, Blk.ld (hp.get (i := 1) rfl) TTok rfl rfl, ?_⟩; conv => whnf)
 (refine hKq _ _ _ (.refl _) ?_; clear hKq Kq; conv => whnf)
 rename_i K1 hK1
 have key2 : ∀ (i : Int) (l : Env) (w : World), idE ⟨what, id, path, after, word⟩ asked = i → V.Sub [(2, .v (.pointer (some ⟨q2, 0, none⟩))), (3, .v (.pointer (some ⟨q3, 0, none⟩))), (4, .v (.pointer (some ⟨al61, 0, none⟩))), (5, .v (.int .i64 i))] l → HpM [] W w [blk al61 [.int .i64 0, .int .i64 0, .int .i64 0, .bool false, .int .i64 0, .bool false, .string ⟨#[]⟩, .int .i64 0] 61, blk q3 [.string ah, .int .i64 ap, .string bh, .int .i64 bp, .int .i64 now, .int .i64 nxt, .int .i64 til, .int .i64 ser, .bool gone, .string noise, .string word2, .string fresh, .slice p asked.length c] 34, blk q2 [.int .u8 what, .int .u8 id, .int .u8 path, .int .u16 after, .int .u8 word] 65] → K1 l w := by
  intro i l w hid hs hp
  refine hK1 _ _ _ hs ?_
  clear hK1 hKq Kq
  conv => whnf
  refine VSeq.mk fun Kq hKq => ?_
  conv => whnf
  refine VSeq.mk fun Kq hKq => ?_
  conv => whnf
  (refine ⟨_, _, Blk.ld (hp.get (i := 2) rfl) TTok rfl rfl, ?_⟩; conv => whnf)
  (refine And.intro (by first | omega | decide) ?_; conv => whnf)
  (refine And.intro (by first | omega | decide) ?_; conv => whnf)
  (refine hKq _ _ _ (.refl _) ?_; clear hKq Kq; conv => whnf)
  (refine VSeq.mk fun Kq hKq => ?_; conv => whnf)
  (refine hKq _ _ _ (.refl _) ?_; clear hKq Kq; conv => whnf)
  refine ⟨fun h0 => ?_, fun h0 => ?_⟩
  ·conv => whnf
   (refine VSeq.mk fun Kq hKq => ?_; conv => whnf)
   (refine ⟨_, _, Blk.ld (hp.get (i := 2) rfl) TTok rfl rfl, ?_⟩; conv => whnf)
   (refine Or.inl (And.intro (by first | omega | decide) ?_); conv => whnf)
   (refine Or.inl (And.intro (by first | omega | decide) ?_); conv => whnf)
   (refine ⟨_, _, Blk.ld (hp.get (i := 2) rfl) TTok rfl rfl, ?_⟩; conv => whnf)
   (refine And.intro (by first | omega | decide) ?_; conv => whnf)
   (refine ⟨_, _, Blk.ld (hp.get (i := 2) rfl) TTok rfl rfl, ?_⟩; conv => whnf)
   (refine Or.inl (And.intro (by first | omega | decide) ?_); conv => whnf)
   (refine ⟨_, _, bld61_0_1_2_3_4 _ _ _ _ _ _, ?_⟩; conv => whnf)
   (refine hp.kstA TTok rfl 0 rfl rfl (oneC_of rfl) (by rfl) fun w hp => ?_; try simp only [List.set_cons_zero, List.set_cons_succ, EV.val] at hp; conv => whnf)
   (refine hKq _ _ _ (.refl _) ?_; clear hKq Kq; conv => whnf)
   (refine ⟨_, Blk.lvN (hp.get (i := 0) rfl) TTok rfl rfl, ?_⟩; conv => whnf)
   have e0 : what / 8 % 4 = 0 := by have := of_decide_eq_true h0; omega
   exact ⟨by rw [if_pos e0, hid]; rfl, hp.ext⟩
  ·conv => whnf
   (refine VSeq.mk fun Kq hKq => ?_; conv => whnf)
   (refine hKq _ _ _ (.refl _) ?_; clear hKq Kq; conv => whnf)
   refine ⟨fun h1 => ?_, fun h1 => ?_⟩
   ·conv => whnf
    (refine VSeq.mk fun Kq hKq => ?_; conv => whnf)
    (refine ⟨_, _, bld61_0_1 _ _ _, ?_⟩; conv => whnf)
    (refine hp.kstA TTok rfl 0 rfl rfl (oneC_of rfl) (by rfl) fun w hp => ?_; try simp only [List.set_cons_zero, List.set_cons_succ, EV.val] at hp; conv => whnf)
    (refine hKq _ _ _ (.refl _) ?_; clear hKq Kq; conv => whnf)
    (refine ⟨_, Blk.lvN (hp.get (i := 0) rfl) TTok rfl rfl, ?_⟩; conv => whnf)
    have e0 : ¬ what / 8 % 4 = 0 := by have := of_decide_eq_false h0; omega
    have e1 : what / 8 % 4 = 1 := by have := of_decide_eq_true h1; omega
    exact ⟨by rw [if_neg e0, if_pos e1, hid]; rfl, hp.ext⟩
   ·conv => whnf
    (refine hKq _ _ _ (.refl _) ?_; clear hKq Kq; conv => whnf)
    (refine VSeq.mk fun Kq hKq => ?_; conv => whnf)
    (refine ⟨0, ⟨rfl, by decide⟩, ?_⟩; conv => whnf)
    refine ⟨_, _, Blk.ldV (off := 0) (hp.get (i := 1) rfl) TTok rfl (vs := [.string ah, .int .i64 ap]) (by rfl) (by rfl), ?_⟩
    conv => whnf
    (refine ⟨_, _, bld61_0_1_6 _ _ _ _ _, ?_⟩; conv => whnf)
    (refine hp.kstA TTok rfl 0 rfl rfl (oneC_of rfl) (by rfl) fun w hp => ?_; try simp only [List.set_cons_zero, List.set_cons_succ, EV.val] at hp; conv => whnf)
    (refine hKq _ _ _ (.refl _) ?_; clear hKq Kq; conv => whnf)
    (refine ⟨_, Blk.lvN (hp.get (i := 0) rfl) TTok rfl rfl, ?_⟩; conv => whnf)
    have e0 : ¬ what / 8 % 4 = 0 := by have := of_decide_eq_false h0; omega
    have e1 : ¬ what / 8 % 4 = 1 := by have := of_decide_eq_false h1; omega
    exact ⟨by rw [if_neg e0, if_neg e1, hid]; rfl, hp.ext⟩
 clear hK1
 have hno : ¬ (0 < asked.length ∧ id < 200) → idE ⟨what, id, path, after, word⟩ asked = id := fun h => by
  unfold idE
  rw [if_neg h]
 refine ⟨fun h0 => ?_, fun h0 => ?_⟩
 ·have h0 := of_decide_eq_true h0
  conv => whnf
  (refine ⟨_, _, Blk.ld (hp.get (i := 2) rfl) TTok rfl rfl, ?_⟩; conv => whnf)
  (refine hKq _ _ _ (.refl _) ?_; clear hKq Kq; conv => whnf)
  refine ⟨fun h1 => ?_, fun h1 => ?_⟩
  ·have h1 := of_decide_eq_true h1
   conv => whnf
   have c1 : 0 < asked.length := by omega
   have c2 : id < 200 := by omega
   have hlt : id % asked.length < asked.length := Nat.mod_lt _ c1
   obtain ⟨a, ha⟩ : ∃ a, asked[id % asked.length]? = some a := ⟨asked[id % asked.length]'hlt, List.getElem?_eq_getElem hlt⟩
   have hid : idE ⟨what, id, path, after, word⟩ asked = a := by
    unfold idE
    rw [if_pos ⟨c1, c2⟩, List.getD_eq_getElem?_getD]
    show (asked[id % asked.length]?).getD 0 = a
    rw [ha]; rfl
   obtain ⟨g, off, rfl, hld⟩ := (hv.ext hp.ext).at (j := id % asked.length) (x := .int .i64 a) (by rw [List.getElem?_map, ha]; rfl)
   rw [Nat.add_comm] at hld
   refine v_mixA TTok FFok mixed [(0, false), (1, false), (2, false), (3, false), (4, false), (5, false), (6, false), (7, false), (8, false), (9, false), (10, false), (11, false)] (by kernel_rfl) ?_
   conv => whnf
   (refine ⟨_, fun w' hx' => Blk.ld (Blk.ext (hp.get (i := 1) rfl) hx') TTok rfl rfl, ?_⟩; conv => whnf)
   (refine ⟨_, fun w' hx' => Blk.ld (Blk.ext (hp.get (i := 2) rfl) hx') TTok rfl rfl, ?_⟩; conv => whnf)
   (refine Or.inl (And.intro (by first | omega | decide) ?_); conv => whnf)
   (refine ⟨_, fun w' hx' => Blk.ld (Blk.ext (hp.get (i := 1) rfl) hx') TTok rfl rfl, ?_⟩; conv => whnf)
   (refine And.intro (by first | omega | decide) ?_; conv => whnf)
   refine ⟨id % asked.length, ⟨by simp, hlt⟩, ?_⟩
   skip
   refine ⟨_, fun w' hx' => run_ld TTok rfl (hx'.cell hld), ?_⟩
   conv => whnf
   (intro w hx; try (have hp := hp.call hx); conv => whnf)
   exact key2 a _ _ hid (sub_cons rfl (sub_cons rfl (sub_cons rfl (sub_cons rfl sub_nil)))) hp
  ·have h1 := of_decide_eq_false h1
   conv => whnf
   skip
   exact key2 id _ _ (hno (by omega)) (sub_cons rfl (sub_cons rfl (sub_cons rfl (sub_cons rfl sub_nil)))) hp
 ·have h0 := of_decide_eq_false h0
  conv => whnf
  refine hKq _ _ _ (.refl _) ?_
  clear hKq Kq
  conv => whnf
  skip
  exact key2 id _ _ (hno (by omega)) (sub_cons rfl (sub_cons rfl (sub_cons rfl (sub_cons rfl sub_nil)))) hp
set_option maxHeartbeats 1600000
abbrev Ev.now (x : Ev) (y : Wt) : Int := y.now + (x.after : Int) % 7000
def hopE (x : Ev) (y : Wt) : Hop3 := (y.b, y.a, prE x y)
def stepR (x : Ev) (y : Wt) : Wt × Int :=
 if x.what % 8 = 3 ∨ x.what % 8 = 4 ∨ x.what % 8 = 5 then ((hearE y (x.now y) (hopE x y)).1, (hearE y (x.now y) (hopE x y)).2.2) else
 if x.what % 8 = 6 then restE y (x.now y) (wordsF x.word) else
 if x.what % 8 = 7 then swE y (x.now y) (endA x.path) (endB x.path) else
 ((timeE y (x.now y)).1, (timeE y (x.now y)).2.2)
def stepW (x : Ev) (y : Wt) : Wt := if (stepR x y).2 = 0 then (stepR x y).1 else y
theorem end_ok (h : ByteArray) (p : Int) (h1 : h.size ≤ 4) (h2 : 0 ≤ p ∧ p ≤ 2) : Ad.Ok ⟨h, p⟩ := ⟨by unfold SzS maxLen; show h.size ≤ _; omega, ⟨by show _ ≤ p; omega, by show p ≤ _; omega⟩⟩
theorem endA_ok (k : Nat) : (endA k).Ok := end_ok _ _ (Nat.le_refl 4) (by decide)
theorem endB_ok (k : Nat) : (endB k).Ok := end_ok _ _ (Nat.le_refl 4) (by decide)
theorem ends_path (k : Nat) : pathB (endA k) (endB k) = true := by
 unfold endA endB
 have h1 : k % 3 = 0 ∨ k % 3 = 1 ∨ k % 3 = 2 := by omega
 have h2 : k / 3 % 3 = 0 ∨ k / 3 % 3 = 1 ∨ k / 3 % 3 = 2 := by omega
 rcases h1 with h1 | h1 | h1 <;> rcases h2 with h2 | h2 | h2 <;> rw [h1, h2] <;> decide
theorem prE_ok {x : Ev} (hx : x.Ok) {y : Wt} (hok : y.Ok) : (prE x y).Ok := by
 obtain ⟨x1, x2, x3, x4, x5⟩ := hx
 have hid : In64 (idE x y.asked) := by
  rcases idE_mem (x := x) (l := y.asked) with h | h
  ·exact hok.asked _ h.2
  ·rw [h]; exact ⟨by omega, by omega⟩
 have h0 : In64 0 := ⟨by decide, by decide⟩
 unfold prE
 split
 ·exact ⟨(⟨by decide, by decide⟩ : In64 1), hid, ⟨by show _ ≤ 1 + (x.word : Int); omega, by show 1 + (x.word : Int) ≤ _; omega⟩, ⟨by show _ ≤ (x.id : Int); omega, by show (x.id : Int) ≤ _; omega⟩, Ad.z_ok⟩
 ·split
  ·exact p3_ok hid
  ·exact p2_ok hid hok.a
theorem hopE_ok {x : Ev} (hx : x.Ok) {y : Wt} (hok : y.Ok) : (hopE x y).Ok := ⟨hok.b, hok.a, prE_ok hx hok⟩
theorem inB_of {x lo hi : Int} (h1 : lo ≤ x) (h2 : x ≤ hi) : inB x lo hi = true := by unfold inB; rw [decide_eq_true h1, decide_eq_true h2]; rfl
theorem hearW_same (x : Wt) (now : Int) (h : Hop3) : (hearW x now h).1.now = now ∧ (hearW x now h).1.nxt = x.nxt ∧ (hearW x now h).1.ser = x.ser ∧ (hearW x now h).1.noise = x.noise ∧ (hearW x now h).1.gone = (x.gone || decide (x.til ≤ now)) := by
 obtain ⟨_, _, h3, h4, _, h6, h7, _, h9⟩ := atW_same x now
 unfold hearW
 dsimp only
 split
 ·exact ⟨h3, h4, h6, h7, h9⟩
 ·split
  ·exact ⟨h3, h4, h6, h7, h9⟩
  ·split
   ·split
    ·exact ⟨h3, h4, h6, h7, h9⟩
    ·exact ⟨h3, h4, h6, h7, h9⟩
   ·exact ⟨h3, h4, h6, h7, h9⟩
theorem restW_same {x : Wt} {now : Int} {s : ByteArray} (he : (restW x now s).2 = 0) : (restW x now s).1.now = now ∧ (restW x now s).1.nxt = x.nxt ∧ (restW x now s).1.ser = x.ser ∧ (restW x now s).1.noise = x.noise ∧ (restW x now s).1.gone = (x.gone || decide (x.til ≤ now)) ∧ (restW x now s).1.til = x.til := by
 obtain ⟨_, _, h3, h4, h5, h6, h7, _, h9⟩ := atW_same x now
 unfold restW at he ⊢
 dsimp only at he ⊢
 split at he
 ·cases he
 ·rename_i hg
  rw [if_neg hg]
  split at he
  ·rename_i hs
   rw [if_pos hs]
   exact ⟨h3, h4, h6, h7, h9, h5⟩
  ·cases he
theorem swW_same {x : Wt} {now : Int} {a b : Ad} (he : (swW x now a b).2 = 0) : (swW x now a b).1.now = now ∧ (swW x now a b).1.nxt = x.nxt ∧ (swW x now a b).1.ser = x.ser ∧ (swW x now a b).1.noise = x.noise ∧ (swW x now a b).1.gone = (x.gone || decide (x.til ≤ now)) ∧ (swW x now a b).1.til = now + 30000 := by
 obtain ⟨_, _, h3, h4, h5, h6, h7, _, h9⟩ := atW_same x now
 unfold swW at he ⊢
 dsimp only at he ⊢
 split at he
 ·cases he
 ·rename_i hg
  rw [if_neg hg]
  split at he
  ·rename_i hs
   rw [if_pos hs]
   exact ⟨h3, h4, h6, h7, h9, rfl⟩
  ·cases he
/-- a drafted watch -/
structure Dr (B : Nat) (y : Wt) : Prop where
 v : Wv y
 s : Ws y
 now : y.now ≤ 7000 * (B : Int)
 ser : y.ser ≤ (B : Int)
 nxt : y.nxt < y.now + 6000
theorem Dr.ok {B : Nat} {y : Wt} (h : Dr B y) : y.Ok := h.s.ok h.v
theorem timeW_dr {B : Nat} {y : Wt} {now : Int} (h : Dr B y) (h1 : y.now ≤ now) (h2 : now ≤ y.now + 6999) (hB : B ≤ 1000000) : Dr (B + 1) (timeW y now).1 := by
 have hn := h.now
 have hs := h.ser
 have hx := h.nxt
 obtain ⟨_, _, h3, h4, _, h6, h7, _, _⟩ := atW_same y now
 refine ⟨timeW_v h.v h1 (by omega), timeW_s h.s, ?_, ?_, ?_⟩ <;> unfold timeW <;> split
 ·show (atW y now).now ≤ _; rw [h3]; omega
 ·rw [h3]; omega
 ·show (atW y now).ser + 1 ≤ _; rw [h6]; omega
 ·rw [h6]; omega
 ·have hg := gapN_le (atW y now).noise ((atW y now).ser + 1).toNat
  show now + (gapN (atW y now).noise ((atW y now).ser + 1).toNat : Int) < (atW y now).now + 6000
  rw [h3]; omega
 ·rw [h3, h4]; omega
theorem stepW_dr {B : Nat} {x : Ev} {y : Wt} (h : Dr B y) (hB : B ≤ 1000000) : Dr (B + 1) (stepW x y) := by
 have hk : Dr (B + 1) y := ⟨h.v, h.s, by have := h.now; omega, by have := h.ser; omega, h.nxt⟩
 have hn := h.now
 have hs := h.ser
 have hx := h.nxt
 have hm : x.after % 7000 < 7000 := Nat.mod_lt _ (by decide)
 have hv0 := h.v.now
 have h1 : y.now ≤ x.now y := by unfold Ev.now; omega
 have h2 : x.now y ≤ y.now + 6999 := by unfold Ev.now; omega
 have h3 : x.now y ≤ 1099511627776 := by omega
 have hst : startN y (x.now y) = 0 := startN_of (wtB_iff.2 h.v) (inB_of h1 h3)
 unfold stepW
 split
 ·rename_i he
  unfold stepR at he ⊢
  by_cases c1 : x.what % 8 = 3 ∨ x.what % 8 = 4 ∨ x.what % 8 = 5
  ·rw [if_pos c1] at he ⊢
   dsimp only at he ⊢
   have : hearE y (x.now y) (hopE x y) = ((hearW y (x.now y) (hopE x y)).1, (hearW y (x.now y) (hopE x y)).2, 0) := by
    unfold hearE at he ⊢
    rw [if_neg (fun k => k hst)] at he ⊢
    split at he
    ·exact absurd he (by decide)
    ·rename_i k1
     rw [if_neg k1]
     split at he
     ·exact absurd he (by decide)
     ·rename_i k2
      rw [if_neg k2]
   rw [this]
   obtain ⟨e1, e2, e3, _, _⟩ := hearW_same y (x.now y) (hopE x y)
   exact ⟨hearW_v h.v h1 h3, hearW_s h.s, by dsimp only; rw [e1]; omega, by dsimp only; rw [e3]; omega, by dsimp only; rw [e1, e2]; omega⟩
  ·rw [if_neg c1] at he ⊢
   by_cases c2 : x.what % 8 = 6
   ·rw [if_pos c2] at he ⊢
    unfold restE at he ⊢
    rw [if_pos hst] at he ⊢
    obtain ⟨e1, e2, e3, _⟩ := restW_same he
    exact ⟨restW_v h.v h1 h3 he, restW_s h.s (wordsF_s _), by rw [e1]; omega, by rw [e3]; omega, by rw [e1, e2]; omega⟩
   ·rw [if_neg c2] at he ⊢
    by_cases c3 : x.what % 8 = 7
    ·rw [if_pos c3] at he ⊢
     unfold swE at he ⊢
     rw [if_pos hst] at he ⊢
     obtain ⟨e1, e2, e3, _⟩ := swW_same he
     exact ⟨swW_v h.v h1 h3 he, swW_s h.s (endA_ok _) (endB_ok _), by rw [e1]; omega, by rw [e3]; omega, by rw [e1, e2]; omega⟩
    ·rw [if_neg c3] at he ⊢
     unfold timeE
     rw [if_pos hst]
     exact timeW_dr h h1 h2 hB
 ·exact hk
def nzB (s : ByteArray) : ByteArray := if s = ⟨#[]⟩ then (⟨#[120]⟩ : ByteArray) else s
def drafS (p : Nat) (s : ByteArray) : Wt := (newE (endA p) (endB p) (⟨#[119, 120, 121, 122]⟩ : ByteArray) (nzB s) 0).1
def drafL (p : Nat) (s : ByteArray) (l : List Ev) : Wt := l.foldl (fun y x => stepW x y) (drafS p s)
theorem nzB_size {s : ByteArray} (h : s.size ≤ 64) : 1 ≤ (nzB s).size ∧ (nzB s).size ≤ 64 := by
 unfold nzB
 split
 ·decide
 ·rename_i hne
  refine ⟨?_, h⟩
  rcases Nat.eq_zero_or_pos s.size with h0 | h0
  ·exact absurd (ByteArray.ext (Array.eq_empty_of_size_eq_zero h0)) hne
  ·exact h0
theorem wxyz_ok : wordB (⟨#[119, 120, 121, 122]⟩ : ByteArray) = true := by decide
theorem drafS_dr (p : Nat) {s : ByteArray} (h : s.size ≤ 64) : Dr 0 (drafS p s) := by
 have hz := nzB_size h
 have hb : newB (endA p) (endB p) (⟨#[119, 120, 121, 122]⟩ : ByteArray) (nzB s) 0 = true := by
  rw [newB_eq, ends_path, wxyz_ok, inB_of (by decide) (by decide), inB_of (by omega) (by omega)]; rfl
 have he : drafS p s = newW (endA p) (endB p) (⟨#[119, 120, 121, 122]⟩ : ByteArray) (nzB s) 0 := by unfold drafS newE; rw [if_pos hb]
 rw [he]
 have hg := gapN_le (nzB s) 0
 refine ⟨newW_v hb, ⟨endA_ok p, endB_ok p, ?_, ?_, Ad.z_ok.s⟩, Int.le_refl _, Int.le_refl _, ?_⟩
 ·show SzS (nzB s); unfold SzS maxLen; omega
 ·show SzS (⟨#[119, 120, 121, 122]⟩ : ByteArray); unfold SzS maxLen; decide
 ·show 0 + (gapN (nzB s) 0 : Int) < 0 + 6000; omega
theorem drafL_dr (p : Nat) {s : ByteArray} (h : s.size ≤ 64) : ∀ (l : List Ev), l.length ≤ 1000000 → Dr l.length (drafL p s l) := by
 have key : ∀ (l : List Ev) (B : Nat) (y : Wt), B + l.length ≤ 1000000 → Dr B y → Dr (B + l.length) (l.foldl (fun y x => stepW x y) y) := by
  intro l
  induction l with
  | nil => exact fun B y _ h => h
  | cons x l ih =>
   intro B y hB hd
   rw [List.length_cons] at hB ⊢
   have := ih (B + 1) (stepW x y) (by omega) (stepW_dr hd (by omega))
   rw [List.foldl_cons, show B + (l.length + 1) = B + 1 + l.length by omega]
   exact this
 intro l hl
 have := key l 0 (drafS p s) (by omega) (drafS_dr p h)
 rwa [Nat.zero_add] at this
namespace V
def vblk : Value → Option Nat
 | .slice (some a) _ _ => some a.block
 | _ => none
/-- the slice v, which reads as the list xs; it hangs on its block, if it holds anything -/
def ritem (v : Value) (xs : List Value) : It := ⟨if xs.isEmpty then none else vblk v, fun w => SLv w v xs⟩
theorem ritem_ok (v : Value) (xs : List Value) : (ritem v xs).Ok := fun w w' _ hb h => by
 rcases h with h | ⟨g, off, c, rfl, hl, hc⟩
 ·exact .inl h
 ·refine .inr ⟨g, off, c, rfl, hl, fun j x hj => ?_⟩
  have hne : xs.isEmpty = false := by
   cases xs with
   | nil => simp at hj
   | cons => rfl
  have h1 := hb g (by unfold ritem; rw [hne]; rfl)
  have h0 := hc j x hj
  unfold World.cell? at h0 ⊢
  rw [h1]; exact h0
theorem SLv.blk_lt {w : World} {v : Value} {xs : List Value} (h : SLv w v xs) (hne : xs.isEmpty = false) {b : Nat} (hb : vblk v = some b) : b < w.heap.size := by
 rcases h with ⟨rfl, _⟩ | ⟨g, off, c, rfl, hl, hc⟩
 ·cases hne
 ·cases xs with
  | nil => cases hne
  | cons x xs =>
   have := cell_lt (hc 0 x rfl)
   simp only [vblk, Option.some.injEq] at hb
   rw [← hb]; exact this
theorem HpM.pushR {M : List Nat} {w0 w w' : World} {H : List It} (hp : HpM M w0 w H) (hx : Ext w w') {v : Value} {xs : List Value} (hs : SLw w w' v xs) : HpM M w0 w' (ritem v xs :: H) := by
 refine hp.push hx (ritem_ok v xs) hs.s fun b hb => ?_
 unfold ritem at hb
 dsimp only at hb
 split at hb
 ·cases hb
 ·rename_i hne
  have hne : xs.isEmpty = false := by simpa using hne
  refine ⟨?_, hs.s.blk_lt hne hb⟩
  unfold vblk at hb
  split at hb
  ·rename_i a n c
   have := hs.f a n c rfl
   simp only [Option.some.injEq] at hb
   rw [← hb]; exact this
  ·cases hb
theorem HpM.stepR {M : List Nat} {w0 w w' : World} {H : List It} {v v' : Value} {xs xs' : List Value} (hp : HpM M w0 w (ritem v xs :: H)) (hx : Ext w w') (hs : SLv w' v' xs') (hf : v' = v ∨ FreshV w v') : HpM M w0 w' (ritem v' xs' :: H) := by
 rcases hf with rfl | hf
 ·have h0 : SLv w v' xs := hp.get (i := 0) rfl
  obtain ⟨p, c, e1⟩ := h0.shape
  obtain ⟨p', c', e2⟩ := hs.shape
  have hl : xs.length = xs'.length := by
   rw [e1] at e2
   simp only [Value.slice.injEq] at e2
   exact e2.2.1
  have he : xs.isEmpty = xs'.isEmpty := by
   cases xs <;> cases xs' <;> simp at hl ⊢
  have hp' := hp.call hx
  refine ⟨hp'.extM, ?_, ?_, ?_, ?_⟩
  ·intro y hy
   rcases List.mem_cons.1 hy with rfl | hy
   ·exact ritem_ok _ _
   ·exact hp'.ok y (List.mem_cons_of_mem _ hy)
  ·intro y hy
   rcases List.mem_cons.1 hy with rfl | hy
   ·exact hs
   ·exact hp'.holds y (List.mem_cons_of_mem _ hy)
  ·intro y hy b hb
   rcases List.mem_cons.1 hy with rfl | hy
   ·exact hp'.lo (ritem v' xs) List.mem_cons_self b (by unfold ritem at hb ⊢; rw [he]; exact hb)
   ·exact hp'.lo y (List.mem_cons_of_mem _ hy) b hb
  ·have := List.pairwise_cons.1 hp'.apart
   refine List.pairwise_cons.2 ⟨fun y hy b hb => ?_, this.2⟩
   exact this.1 y hy b (by unfold ritem at hb ⊢; rw [he]; exact hb)
 ·exact hp.tail.pushR hx ⟨hs, hf⟩
end V
set_option maxHeartbeats 8000000
def ResV (W w' : World) (v : Value) (u : Value) (y : Wt) : Prop := ∃ v', u = .agg (y.c v').toArray ∧ Ext W w' ∧ SLv w' v' (iv y.asked) ∧ (v' = v ∨ FreshV W v')
theorem Step12_c {W : World} {v : Value} (x : Ev) (hx : x.Ok) (y : Wt) (hok : y.Ok) (hn : 0 ≤ y.now ∧ y.now ≤ 1000000000000) (hv : SLv W v (iv y.asked)) :
  Calls Tryz.prog 54 #[.agg x.c.toArray, .agg (y.c v).toArray] W fun e w' => ∃ u, e = .returned u ∧ ResV W w' v u (stepW x y) := by
 have s1 := fun {W : World} (hv : SLv W v (iv y.asked)) => TimeE12_c (W := W) y hok hv (x.now y)
 have s2 := fun {W : World} (hv : SLv W v (iv y.asked)) => HearE12_c (W := W) y hok hv (x.now y) (hopE x y) (hopE_ok hx hok)
 have s3 := fun {W : World} (hv : SLv W v (iv y.asked)) => RestE12_c (W := W) y hok hv (x.now y) (wordsF x.word) (wordsF_s _)
 have s4 := fun {W : World} (hv : SLv W v (iv y.asked)) => SwE12_c (W := W) y hok hv (x.now y) (endA x.path).h (endB x.path).h (endA x.path).p (endB x.path).p (endA_ok _) (endB_ok _)
 have s5 := fun {W : World} (hv : SLv W v (iv y.asked)) => Probe12_c (W := W) x hx y hok.len hv
 obtain ⟨r, hr⟩ : ∃ r, stepW x y = r := ⟨_, rfl⟩
 rw [hr]
 unfold stepW stepR at hr
 unfold hopE at s2 hr
 obtain ⟨pr, hpr⟩ : ∃ pr, prE x y = pr := ⟨_, rfl⟩
 rw [hpr] at s2 s5 hr
 obtain ⟨z1, e1⟩ : ∃ z, timeE y (x.now y) = z := ⟨_, rfl⟩
 obtain ⟨z2, e2⟩ : ∃ z, hearE y (x.now y) (y.b, y.a, pr) = z := ⟨_, rfl⟩
 obtain ⟨z3, e3⟩ : ∃ z, restE y (x.now y) (wordsF x.word) = z := ⟨_, rfl⟩
 obtain ⟨z4, e4⟩ : ∃ z, swE y (x.now y) (endA x.path) (endB x.path) = z := ⟨_, rfl⟩
 have e4' : swE y (x.now y) ⟨(endA x.path).h, (endA x.path).p⟩ ⟨(endB x.path).h, (endB x.path).p⟩ = z4 := e4
 simp only [e1, e2, e3, e4] at hr
 rw [e1] at s1
 rw [e2] at s2
 rw [e3] at s3
 rw [e4'] at s4
 clear e1 e2 e3 e4 e4' hok hpr
 dsimp only [ResE, ResW] at s1 s2 s3 s4
 obtain ⟨what, id, path, after, word⟩ := x
 obtain ⟨x1, x2, x3, x4, x5⟩ := hx
 dsimp only at x1 x2 x3 x4 x5
 obtain ⟨⟨ah, ap⟩, ⟨bh, bp⟩, now, nxt, til, ser, gone, noise, word2, fresh, asked⟩ := y
 obtain ⟨k, pid, ppr, pct, pti, pno, ⟨pmh, pmp⟩⟩ := pr
 dsimp only [Wt.c, Ev.c, hopF, hopC, Ev.now, Prb.c] at hv hn hr s1 s2 s3 s4 s5 ⊢
 have hsl : (iv asked).length = asked.length := List.length_map _
 obtain ⟨p, c, rfl⟩ := hv.shape
 rw [hsl] at hv s1 s2 s3 s4 s5 ⊢
 obtain ⟨⟨⟨aah, aap⟩, ⟨abh, abp⟩, anow, anxt, atil, aser, agone, anoise, aword, afresh, aasked⟩, ahs, ae⟩ := z1
 refine v_fn (args := [.agg #[.int .u8 what, .int .u8 id, .int .u8 path, .int .u16 after, .int .u8 word], .agg #[.string ah, .int .i64 ap, .string bh, .int .i64 bp, .int .i64 now, .int .i64 nxt, .int .i64 til, .int .i64 ser, .bool gone, .string noise, .string word2, .string fresh, .slice p asked.length c]]) TTok FFok Tryz.func54 rfl (Nat.le_of_ble_eq_true rfl) ?_
 conv => whnf
 refine VSeq.mk fun Kq hKq => ?_
 conv => whnf
 have hp := Hp.nil W
 refine hp.kboxA fun q2 w hp hx => ?_
 conv => whnf
 refine hp.kboxA fun q3 w hp hx => ?_
 conv => whnf
 (refine hp.kalloc z34 fun al34 w hp hx => ?_; conv => whnf)
 (refine hKq _ _ _ (.refl _) ?_; clear hKq Kq; conv => whnf)
 (refine VSeq.mk fun Kq hKq => ?_; conv => whnf)
 (refine ⟨_, _, Blk.ld (hp.get (i := 1) rfl) TTok rfl rfl, ?_⟩; conv => whnf)
 (refine ⟨_, _, Blk.ld (hp.get (i := 2) rfl) TTok rfl rfl, ?_⟩; conv => whnf)
 (refine Or.inl (And.intro (by first | omega | decide) ?_); conv => whnf)
 (refine And.intro (by first | omega | decide) ?_; conv => whnf)
 (refine Or.inl (And.intro (by first | omega | decide) ?_); conv => whnf)
 (refine hKq _ _ _ (.refl _) ?_; clear hKq Kq; conv => whnf)
 (refine VSeq.mk fun Kq hKq => ?_; conv => whnf)
 (refine ⟨_, _, Blk.ldV (vs := [_, _, _, _, _, _, _, _, _, _, _, _, _]) (hp.get (i := 1) rfl) TTok rfl rfl rfl, ?_⟩; conv => whnf)
 dsimp only [Wt.c] at s1
 refine Calls.mono (s1 (hv.ext hp.ext)) ?_
 rintro _ w ⟨_, rfl, va, oa, rfl, hx, ha, _⟩
 refine ⟨_, rfl, ?_⟩
 obtain ⟨pa, ca, rfl⟩ := SLw.shape ha
 have fa : FreshV W (.slice pa (iv aasked).length ca) := fun a n c h => Nat.le_trans hp.extM.size (ha.f a n c h)
 have hp := hp.pushR hx ha
 conv => whnf
 clear s1
 (refine hp.kalloc z34 fun al34 w hp hx => ?_; conv => whnf)
 (refine hp.kstA TTok rfl 0 rfl rfl (oneC_of rfl) (by rfl) fun w hp => ?_; try simp only [List.set_cons_zero, List.set_cons_succ, EV.val] at hp; conv => whnf)
 (refine hKq _ _ _ (.refl _) ?_; clear hKq Kq; conv => whnf)
 (refine VSeq.mk fun Kq hKq => ?_; conv => whnf)
 (refine VSeq.mk fun Kq hKq => ?_; conv => whnf)
 (refine ⟨_, _, Blk.ld (hp.get (i := 4) rfl) TTok rfl rfl, ?_⟩; conv => whnf)
 (refine And.intro (by first | omega | decide) ?_; conv => whnf)
 (refine hKq _ _ _ (.refl _) ?_; clear hKq Kq; conv => whnf)
 (refine VSeq.mk fun Kq hKq => ?_; conv => whnf)
 (refine VSeq.mk fun Kq hKq => ?_; conv => whnf)
 (refine hKq _ _ _ (.refl _) ?_; clear hKq Kq; conv => whnf)
 by_cases c3 : what % 8 = 3
 ·obtain ⟨⟨⟨bah, bap⟩, ⟨bbh, bbp⟩, bnow, bnxt, btil, bser, bgone, bnoise, bword, bfresh, basked⟩, bhs, be⟩ := z2
  simp only [if_pos (show what % 8 = 3 ∨ what % 8 = 4 ∨ what % 8 = 5 by omega)] at hr
  dsimp only [Wt.c] at s2
  clear s3 s4 ha
  (refine And.intro (fun _ => ?_) (fun h => absurd (by first | rfl | assumption | omega | decide) (of_decide_eq_false h)); conv => whnf)
  (refine hKq _ _ _ (.refl _) ?_; clear hKq Kq; conv => whnf)
  (refine And.intro (fun _ => ?_) (fun h => absurd (by first | rfl | assumption | omega | decide) (of_decide_eq_false h)); conv => whnf)
  have hcls := hp.pick [3, 4] (by decide)
  simp only [List.filterMap_cons, List.filterMap_nil, List.getElem?_cons_zero, List.getElem?_cons_succ] at hcls
  refine v_mtC TTok FFok mixed _ hcls [] (.q 0 (.q 1 (.q 2 (.q 3 (.q 4 (.q 5 (.q 6 (.q 7 (.q 8 (.q 9 (.q 10 (.q 11 (.m 12 (.q 13 (.q 14 (.q 15 (.q 16 (.m 17 (.q 18 .nil))))))))))))))))))) (by kernel_rfl) ?_
  clear hcls
  conv => whnf
  (refine ⟨_, fun w' hc => Blk.ldV (vs := [_, _, _, _, _, _, _, _, _, _, _, _, _]) (hc.get (i := 0) rfl) TTok rfl rfl rfl, ?_⟩; conv => whnf)
  (refine ⟨1, ⟨rfl, by decide⟩, ?_⟩; conv => whnf)
  (refine ⟨_, fun w' hc => Blk.ldV (vs := [_, _]) (hc.get (i := 0) rfl) TTok rfl rfl rfl, ?_⟩; conv => whnf)
  (refine ⟨0, ⟨rfl, by decide⟩, ?_⟩; conv => whnf)
  (refine ⟨_, fun w' hc => Blk.ldV (vs := [_, _]) (hc.get (i := 0) rfl) TTok rfl rfl rfl, ?_⟩; conv => whnf)
  (refine ⟨_, fun w' hc => Blk.ldV (vs := [_, _, _, _, _]) (hc.get (i := 1) rfl) TTok rfl rfl rfl, ?_⟩; conv => whnf)
  (refine ⟨_, fun w' hc => Blk.ldV (vs := [_, _, _, _, _, _, _, _, _, _, _, _, _]) (hc.get (i := 0) rfl) TTok rfl rfl rfl, ?_⟩; conv => whnf)
  refine ⟨_, fun w1 hc => s5 (hv.ext hc.ext), ?_⟩
  conv => whnf
  (refine ⟨_, fun w' hx' => bld63_0_1_2 w' _ _ _ _ _ _ _ _ _ _ _ _, ?_⟩; conv => whnf)
  (intro w hx; try (have hp := hp.call hx); conv => whnf)
  refine Calls.mono (s2 (hv.ext hp.ext)) ?_
  rintro _ w ⟨_, rfl, vb, ob, rfl, hx, hb, _⟩
  refine ⟨_, rfl, ?_⟩
  obtain ⟨pb, cb, rfl⟩ := SLw.shape hb
  have fb : FreshV W (.slice pb (iv basked).length cb) := fun a n c h => Nat.le_trans hp.extM.size (hb.f a n c h)
  have hp := hp.pushR hx hb
  conv => whnf
  clear s2 s5
  (refine And.intro (fun hc => hc.call hx) ?_; conv => whnf)
  (intro w hx; try (have hp := hp.call hx); conv => whnf)
  (refine hp.kstA TTok rfl 1 rfl rfl (oneC_of rfl) (by rfl) fun w hp => ?_; try simp only [List.set_cons_zero, List.set_cons_succ, EV.val] at hp; conv => whnf)
  (refine And.intro (fun _ => hp.pick [4, 5] (by decide)) ?_; conv => whnf)
  (intro w hx; try (have hp := hp.call hx); conv => whnf)
  (refine hKq _ _ _ (.refl _) ?_; clear hKq Kq; conv => whnf)
  (refine VSeq.mk fun Kq hKq => ?_; conv => whnf)
  (refine VSeq.mk fun Kq hKq => ?_; conv => whnf)
  (refine hKq _ _ _ (.refl _) ?_; clear hKq Kq; conv => whnf)
  by_cases he : be = 0
  ·have hres : r = ⟨⟨bah, bap⟩, ⟨bbh, bbp⟩, bnow, bnxt, btil, bser, bgone, bnoise, bword, bfresh, basked⟩ := by rw [← hr]; exact if_pos he
   (refine And.intro (fun h => absurd (of_decide_eq_true h) (by first | (intro h2; exact absurd rfl h2) | omega | decide)) (fun _ => ?_); conv => whnf)
   (refine hKq _ _ _ (.refl _) ?_; clear hKq Kq; conv => whnf)
   (refine VSeq.mk fun Kq hKq => ?_; conv => whnf)
   (refine ⟨_, _, Blk.ldV (vs := [_, _, _, _, _, _, _, _, _, _, _, _, _]) (hp.get (i := 1) rfl) TTok rfl rfl rfl, ?_⟩; conv => whnf)
   (refine hp.kstA TTok rfl 3 rfl rfl (oneC_of rfl) (by rfl) fun w hp => ?_; try simp only [List.set_cons_zero, List.set_cons_succ, EV.val] at hp; conv => whnf)
   (refine hKq _ _ _ (.refl _) ?_; clear hKq Kq; conv => whnf)
   (refine ⟨_, Blk.lvN (hp.get (i := 3) rfl) TTok rfl rfl, ?_⟩; conv => whnf)
   rw [hres]
   exact ⟨_, rfl, hp.ext, hp.get (i := 0) rfl, .inr fb⟩
  ·have hres : r = ⟨⟨ah, ap⟩, ⟨bh, bp⟩, now, nxt, til, ser, gone, noise, word2, fresh, asked⟩ := by rw [← hr]; exact if_neg he
   (refine And.intro (fun _ => ?_) (fun h => absurd (by first | rfl | assumption | omega | decide) (of_decide_eq_false h)); conv => whnf)
   (refine VSeq.mk fun Kq hKq => ?_; conv => whnf)
   (refine ⟨_, _, Blk.ldV (vs := [_, _, _, _, _, _, _, _, _, _, _, _, _]) (hp.get (i := 4) rfl) TTok rfl rfl rfl, ?_⟩; conv => whnf)
   (refine hp.kstA TTok rfl 3 rfl rfl (oneC_of rfl) (by rfl) fun w hp => ?_; try simp only [List.set_cons_zero, List.set_cons_succ, EV.val] at hp; conv => whnf)
   (refine hKq _ _ _ (.refl _) ?_; clear hKq Kq; conv => whnf)
   (refine ⟨_, Blk.lvN (hp.get (i := 3) rfl) TTok rfl rfl, ?_⟩; conv => whnf)
   rw [hres]
   exact ⟨_, rfl, hp.ext, hv.ext hp.ext, .inl rfl⟩
 ·by_cases c4 : what % 8 = 4
  ·obtain ⟨⟨⟨bah, bap⟩, ⟨bbh, bbp⟩, bnow, bnxt, btil, bser, bgone, bnoise, bword, bfresh, basked⟩, bhs, be⟩ := z2
   simp only [if_pos (show what % 8 = 3 ∨ what % 8 = 4 ∨ what % 8 = 5 by omega)] at hr
   dsimp only [Wt.c] at s2
   clear s3 s4 ha
   (refine And.intro (fun h => absurd (of_decide_eq_true h) (by first | (intro h2; exact absurd rfl h2) | omega | decide)) (fun _ => ?_); conv => whnf)
   (refine VSeq.mk fun Kq hKq => ?_; conv => whnf)
   (refine hKq _ _ _ (.refl _) ?_; clear hKq Kq; conv => whnf)
   (refine And.intro (fun _ => ?_) (fun h => absurd (by first | rfl | assumption | omega | decide) (of_decide_eq_false h)); conv => whnf)
   (refine hKq _ _ _ (.refl _) ?_; clear hKq Kq; conv => whnf)
   (refine And.intro (fun _ => ?_) (fun h => absurd (by first | rfl | assumption | omega | decide) (of_decide_eq_false h)); conv => whnf)
   have hcls := hp.pick [3, 4] (by decide)
   simp only [List.filterMap_cons, List.filterMap_nil, List.getElem?_cons_zero, List.getElem?_cons_succ] at hcls
   refine v_mtC TTok FFok mixed _ hcls [] (.q 0 (.q 1 (.q 2 (.q 3 (.q 4 (.q 5 (.q 6 (.q 7 (.q 8 (.q 9 (.q 10 (.q 11 (.m 12 (.q 13 (.q 14 (.q 15 (.q 16 (.m 17 (.q 18 .nil))))))))))))))))))) (by kernel_rfl) ?_
   clear hcls
   conv => whnf
   (refine ⟨_, fun w' hc => Blk.ldV (vs := [_, _, _, _, _, _, _, _, _, _, _, _, _]) (hc.get (i := 0) rfl) TTok rfl rfl rfl, ?_⟩; conv => whnf)
   (refine ⟨1, ⟨rfl, by decide⟩, ?_⟩; conv => whnf)
   (refine ⟨_, fun w' hc => Blk.ldV (vs := [_, _]) (hc.get (i := 0) rfl) TTok rfl rfl rfl, ?_⟩; conv => whnf)
   (refine ⟨0, ⟨rfl, by decide⟩, ?_⟩; conv => whnf)
   (refine ⟨_, fun w' hc => Blk.ldV (vs := [_, _]) (hc.get (i := 0) rfl) TTok rfl rfl rfl, ?_⟩; conv => whnf)
   (refine ⟨_, fun w' hc => Blk.ldV (vs := [_, _, _, _, _]) (hc.get (i := 1) rfl) TTok rfl rfl rfl, ?_⟩; conv => whnf)
   (refine ⟨_, fun w' hc => Blk.ldV (vs := [_, _, _, _, _, _, _, _, _, _, _, _, _]) (hc.get (i := 0) rfl) TTok rfl rfl rfl, ?_⟩; conv => whnf)
   refine ⟨_, fun w1 hc => s5 (hv.ext hc.ext), ?_⟩
   conv => whnf
   (refine ⟨_, fun w' hx' => bld63_0_1_2 w' _ _ _ _ _ _ _ _ _ _ _ _, ?_⟩; conv => whnf)
   (intro w hx; try (have hp := hp.call hx); conv => whnf)
   refine Calls.mono (s2 (hv.ext hp.ext)) ?_
   rintro _ w ⟨_, rfl, vb, ob, rfl, hx, hb, _⟩
   refine ⟨_, rfl, ?_⟩
   obtain ⟨pb, cb, rfl⟩ := SLw.shape hb
   have fb : FreshV W (.slice pb (iv basked).length cb) := fun a n c h => Nat.le_trans hp.extM.size (hb.f a n c h)
   have hp := hp.pushR hx hb
   conv => whnf
   clear s2 s5
   (refine And.intro (fun hc => hc.call hx) ?_; conv => whnf)
   (intro w hx; try (have hp := hp.call hx); conv => whnf)
   (refine hp.kstA TTok rfl 1 rfl rfl (oneC_of rfl) (by rfl) fun w hp => ?_; try simp only [List.set_cons_zero, List.set_cons_succ, EV.val] at hp; conv => whnf)
   (refine And.intro (fun _ => hp.pick [4, 5] (by decide)) ?_; conv => whnf)
   (intro w hx; try (have hp := hp.call hx); conv => whnf)
   (refine hKq _ _ _ (.refl _) ?_; clear hKq Kq; conv => whnf)
   (refine VSeq.mk fun Kq hKq => ?_; conv => whnf)
   (refine VSeq.mk fun Kq hKq => ?_; conv => whnf)
   (refine hKq _ _ _ (.refl _) ?_; clear hKq Kq; conv => whnf)
   by_cases he : be = 0
   ·have hres : r = ⟨⟨bah, bap⟩, ⟨bbh, bbp⟩, bnow, bnxt, btil, bser, bgone, bnoise, bword, bfresh, basked⟩ := by rw [← hr]; exact if_pos he
    (refine And.intro (fun h => absurd (of_decide_eq_true h) (by first | (intro h2; exact absurd rfl h2) | omega | decide)) (fun _ => ?_); conv => whnf)
    (refine hKq _ _ _ (.refl _) ?_; clear hKq Kq; conv => whnf)
    (refine VSeq.mk fun Kq hKq => ?_; conv => whnf)
    (refine ⟨_, _, Blk.ldV (vs := [_, _, _, _, _, _, _, _, _, _, _, _, _]) (hp.get (i := 1) rfl) TTok rfl rfl rfl, ?_⟩; conv => whnf)
    (refine hp.kstA TTok rfl 3 rfl rfl (oneC_of rfl) (by rfl) fun w hp => ?_; try simp only [List.set_cons_zero, List.set_cons_succ, EV.val] at hp; conv => whnf)
    (refine hKq _ _ _ (.refl _) ?_; clear hKq Kq; conv => whnf)
    (refine ⟨_, Blk.lvN (hp.get (i := 3) rfl) TTok rfl rfl, ?_⟩; conv => whnf)
    rw [hres]
    exact ⟨_, rfl, hp.ext, hp.get (i := 0) rfl, .inr fb⟩
   ·have hres : r = ⟨⟨ah, ap⟩, ⟨bh, bp⟩, now, nxt, til, ser, gone, noise, word2, fresh, asked⟩ := by rw [← hr]; exact if_neg he
    (refine And.intro (fun _ => ?_) (fun h => absurd (by first | rfl | assumption | omega | decide) (of_decide_eq_false h)); conv => whnf)
    (refine VSeq.mk fun Kq hKq => ?_; conv => whnf)
    (refine ⟨_, _, Blk.ldV (vs := [_, _, _, _, _, _, _, _, _, _, _, _, _]) (hp.get (i := 4) rfl) TTok rfl rfl rfl, ?_⟩; conv => whnf)
    (refine hp.kstA TTok rfl 3 rfl rfl (oneC_of rfl) (by rfl) fun w hp => ?_; try simp only [List.set_cons_zero, List.set_cons_succ, EV.val] at hp; conv => whnf)
    (refine hKq _ _ _ (.refl _) ?_; clear hKq Kq; conv => whnf)
    (refine ⟨_, Blk.lvN (hp.get (i := 3) rfl) TTok rfl rfl, ?_⟩; conv => whnf)
    rw [hres]
    exact ⟨_, rfl, hp.ext, hv.ext hp.ext, .inl rfl⟩
  ·by_cases c5 : what % 8 = 5
   ·obtain ⟨⟨⟨bah, bap⟩, ⟨bbh, bbp⟩, bnow, bnxt, btil, bser, bgone, bnoise, bword, bfresh, basked⟩, bhs, be⟩ := z2
    simp only [if_pos (show what % 8 = 3 ∨ what % 8 = 4 ∨ what % 8 = 5 by omega)] at hr
    dsimp only [Wt.c] at s2
    clear s3 s4 ha
    (refine And.intro (fun h => absurd (of_decide_eq_true h) (by first | (intro h2; exact absurd rfl h2) | omega | decide)) (fun _ => ?_); conv => whnf)
    (refine VSeq.mk fun Kq hKq => ?_; conv => whnf)
    (refine hKq _ _ _ (.refl _) ?_; clear hKq Kq; conv => whnf)
    (refine And.intro (fun h => absurd (of_decide_eq_true h) (by first | (intro h2; exact absurd rfl h2) | omega | decide)) (fun _ => ?_); conv => whnf)
    (refine hKq _ _ _ (.refl _) ?_; clear hKq Kq; conv => whnf)
    (refine And.intro (fun _ => ?_) (fun h => absurd (by first | rfl | assumption | omega | decide) (of_decide_eq_false h)); conv => whnf)
    have hcls := hp.pick [3, 4] (by decide)
    simp only [List.filterMap_cons, List.filterMap_nil, List.getElem?_cons_zero, List.getElem?_cons_succ] at hcls
    refine v_mtC TTok FFok mixed _ hcls [] (.q 0 (.q 1 (.q 2 (.q 3 (.q 4 (.q 5 (.q 6 (.q 7 (.q 8 (.q 9 (.q 10 (.q 11 (.m 12 (.q 13 (.q 14 (.q 15 (.q 16 (.m 17 (.q 18 .nil))))))))))))))))))) (by kernel_rfl) ?_
    clear hcls
    conv => whnf
    (refine ⟨_, fun w' hc => Blk.ldV (vs := [_, _, _, _, _, _, _, _, _, _, _, _, _]) (hc.get (i := 0) rfl) TTok rfl rfl rfl, ?_⟩; conv => whnf)
    (refine ⟨1, ⟨rfl, by decide⟩, ?_⟩; conv => whnf)
    (refine ⟨_, fun w' hc => Blk.ldV (vs := [_, _]) (hc.get (i := 0) rfl) TTok rfl rfl rfl, ?_⟩; conv => whnf)
    (refine ⟨0, ⟨rfl, by decide⟩, ?_⟩; conv => whnf)
    (refine ⟨_, fun w' hc => Blk.ldV (vs := [_, _]) (hc.get (i := 0) rfl) TTok rfl rfl rfl, ?_⟩; conv => whnf)
    (refine ⟨_, fun w' hc => Blk.ldV (vs := [_, _, _, _, _]) (hc.get (i := 1) rfl) TTok rfl rfl rfl, ?_⟩; conv => whnf)
    (refine ⟨_, fun w' hc => Blk.ldV (vs := [_, _, _, _, _, _, _, _, _, _, _, _, _]) (hc.get (i := 0) rfl) TTok rfl rfl rfl, ?_⟩; conv => whnf)
    refine ⟨_, fun w1 hc => s5 (hv.ext hc.ext), ?_⟩
    conv => whnf
    (refine ⟨_, fun w' hx' => bld63_0_1_2 w' _ _ _ _ _ _ _ _ _ _ _ _, ?_⟩; conv => whnf)
    (intro w hx; try (have hp := hp.call hx); conv => whnf)
    refine Calls.mono (s2 (hv.ext hp.ext)) ?_
    rintro _ w ⟨_, rfl, vb, ob, rfl, hx, hb, _⟩
    refine ⟨_, rfl, ?_⟩
    obtain ⟨pb, cb, rfl⟩ := SLw.shape hb
    have fb : FreshV W (.slice pb (iv basked).length cb) := fun a n c h => Nat.le_trans hp.extM.size (hb.f a n c h)
    have hp := hp.pushR hx hb
    conv => whnf
    clear s2 s5
    (refine And.intro (fun hc => hc.call hx) ?_; conv => whnf)
    (intro w hx; try (have hp := hp.call hx); conv => whnf)
    (refine hp.kstA TTok rfl 1 rfl rfl (oneC_of rfl) (by rfl) fun w hp => ?_; try simp only [List.set_cons_zero, List.set_cons_succ, EV.val] at hp; conv => whnf)
    (refine And.intro (fun _ => hp.pick [4, 5] (by decide)) ?_; conv => whnf)
    (intro w hx; try (have hp := hp.call hx); conv => whnf)
    (refine hKq _ _ _ (.refl _) ?_; clear hKq Kq; conv => whnf)
    (refine VSeq.mk fun Kq hKq => ?_; conv => whnf)
    (refine VSeq.mk fun Kq hKq => ?_; conv => whnf)
    (refine hKq _ _ _ (.refl _) ?_; clear hKq Kq; conv => whnf)
    by_cases he : be = 0
    ·have hres : r = ⟨⟨bah, bap⟩, ⟨bbh, bbp⟩, bnow, bnxt, btil, bser, bgone, bnoise, bword, bfresh, basked⟩ := by rw [← hr]; exact if_pos he
     (refine And.intro (fun h => absurd (of_decide_eq_true h) (by first | (intro h2; exact absurd rfl h2) | omega | decide)) (fun _ => ?_); conv => whnf)
     (refine hKq _ _ _ (.refl _) ?_; clear hKq Kq; conv => whnf)
     (refine VSeq.mk fun Kq hKq => ?_; conv => whnf)
     (refine ⟨_, _, Blk.ldV (vs := [_, _, _, _, _, _, _, _, _, _, _, _, _]) (hp.get (i := 1) rfl) TTok rfl rfl rfl, ?_⟩; conv => whnf)
     (refine hp.kstA TTok rfl 3 rfl rfl (oneC_of rfl) (by rfl) fun w hp => ?_; try simp only [List.set_cons_zero, List.set_cons_succ, EV.val] at hp; conv => whnf)
     (refine hKq _ _ _ (.refl _) ?_; clear hKq Kq; conv => whnf)
     (refine ⟨_, Blk.lvN (hp.get (i := 3) rfl) TTok rfl rfl, ?_⟩; conv => whnf)
     rw [hres]
     exact ⟨_, rfl, hp.ext, hp.get (i := 0) rfl, .inr fb⟩
    ·have hres : r = ⟨⟨ah, ap⟩, ⟨bh, bp⟩, now, nxt, til, ser, gone, noise, word2, fresh, asked⟩ := by rw [← hr]; exact if_neg he
     (refine And.intro (fun _ => ?_) (fun h => absurd (by first | rfl | assumption | omega | decide) (of_decide_eq_false h)); conv => whnf)
     (refine VSeq.mk fun Kq hKq => ?_; conv => whnf)
     (refine ⟨_, _, Blk.ldV (vs := [_, _, _, _, _, _, _, _, _, _, _, _, _]) (hp.get (i := 4) rfl) TTok rfl rfl rfl, ?_⟩; conv => whnf)
     (refine hp.kstA TTok rfl 3 rfl rfl (oneC_of rfl) (by rfl) fun w hp => ?_; try simp only [List.set_cons_zero, List.set_cons_succ, EV.val] at hp; conv => whnf)
     (refine hKq _ _ _ (.refl _) ?_; clear hKq Kq; conv => whnf)
     (refine ⟨_, Blk.lvN (hp.get (i := 3) rfl) TTok rfl rfl, ?_⟩; conv => whnf)
     rw [hres]
     exact ⟨_, rfl, hp.ext, hv.ext hp.ext, .inl rfl⟩
   ·simp only [if_neg (show ¬ (what % 8 = 3 ∨ what % 8 = 4 ∨ what % 8 = 5) by omega)] at hr
    by_cases c6 : what % 8 = 6
    ·simp only [if_pos c6] at hr
     obtain ⟨⟨⟨bah, bap⟩, ⟨bbh, bbp⟩, bnow, bnxt, btil, bser, bgone, bnoise, bword, bfresh, basked⟩, be⟩ := z3
     dsimp only [Wt.c] at s3
     clear s2 s5 s4 ha
     (refine And.intro (fun h => absurd (of_decide_eq_true h) (by first | (intro h2; exact absurd rfl h2) | omega | decide)) (fun _ => ?_); conv => whnf)
     (refine VSeq.mk fun Kq hKq => ?_; conv => whnf)
     (refine hKq _ _ _ (.refl _) ?_; clear hKq Kq; conv => whnf)
     (refine And.intro (fun h => absurd (of_decide_eq_true h) (by first | (intro h2; exact absurd rfl h2) | omega | decide)) (fun _ => ?_); conv => whnf)
     (refine hKq _ _ _ (.refl _) ?_; clear hKq Kq; conv => whnf)
     (refine And.intro (fun h => absurd (of_decide_eq_true h) (by first | (intro h2; exact absurd rfl h2) | omega | decide)) (fun _ => ?_); conv => whnf)
     (refine VSeq.mk fun Kq hKq => ?_; conv => whnf)
     (refine hKq _ _ _ (.refl _) ?_; clear hKq Kq; conv => whnf)
     (refine And.intro (fun _ => ?_) (fun h => absurd (by first | rfl | assumption | omega | decide) (of_decide_eq_false h)); conv => whnf)
     have hcls := hp.pick [3, 4] (by decide)
     simp only [List.filterMap_cons, List.filterMap_nil, List.getElem?_cons_zero, List.getElem?_cons_succ] at hcls
     refine v_mtC TTok FFok mixed _ hcls [] (.q 0 (.q 1 (.q 2 (.q 3 (.q 4 (.m 5 (.q 6 (.q 7 (.q 8 (.m 9 (.q 10 .nil))))))))))) (by kernel_rfl) ?_
     clear hcls
     conv => whnf
     (refine ⟨_, fun w' hc => Blk.ldV (vs := [_, _, _, _, _, _, _, _, _, _, _, _, _]) (hc.get (i := 0) rfl) TTok rfl rfl rfl, ?_⟩; conv => whnf)
     (refine ⟨_, fun w' hc => Blk.ld (hc.get (i := 1) rfl) TTok rfl rfl, ?_⟩; conv => whnf)
     (refine V.QCallC.out ?_; (conv => arg 3; dsimp only [EV.val, List.toList_toArray, List.nil_append, List.append_nil, List.cons_append]); (with_reducible refine V.PureF.quietC (Words_p _ (by assumption)) ?_); conv => whnf)
     (intro w hx; try (have hp := hp.call hx); conv => whnf)
     refine Calls.mono (s3 (hv.ext hp.ext)) ?_
     rintro _ w ⟨_, rfl, vb, rfl, hx, hb⟩
     refine ⟨_, rfl, ?_⟩
     obtain ⟨pb, cb, rfl⟩ := SLw.shape hb
     have fb : FreshV W (.slice pb (iv basked).length cb) := fun a n c h => Nat.le_trans hp.extM.size (hb.f a n c h)
     have hp := hp.pushR hx hb
     conv => whnf
     clear s3
     (refine And.intro (fun hc => hc.call hx) ?_; conv => whnf)
     (intro w hx; try (have hp := hp.call hx); conv => whnf)
     (refine hp.kstA TTok rfl 1 rfl rfl (oneC_of rfl) (by rfl) fun w hp => ?_; try simp only [List.set_cons_zero, List.set_cons_succ, EV.val] at hp; conv => whnf)
     (refine And.intro (fun _ => hp.pick [4, 5] (by decide)) ?_; conv => whnf)
     (intro w hx; try (have hp := hp.call hx); conv => whnf)
     (refine hKq _ _ _ (.refl _) ?_; clear hKq Kq; conv => whnf)
     (refine VSeq.mk fun Kq hKq => ?_; conv => whnf)
     (refine VSeq.mk fun Kq hKq => ?_; conv => whnf)
     (refine hKq _ _ _ (.refl _) ?_; clear hKq Kq; conv => whnf)
     by_cases he : be = 0
     ·have hres : r = ⟨⟨bah, bap⟩, ⟨bbh, bbp⟩, bnow, bnxt, btil, bser, bgone, bnoise, bword, bfresh, basked⟩ := by rw [← hr]; exact if_pos he
      (refine And.intro (fun h => absurd (of_decide_eq_true h) (by first | (intro h2; exact absurd rfl h2) | omega | decide)) (fun _ => ?_); conv => whnf)
      (refine hKq _ _ _ (.refl _) ?_; clear hKq Kq; conv => whnf)
      (refine VSeq.mk fun Kq hKq => ?_; conv => whnf)
      (refine ⟨_, _, Blk.ldV (vs := [_, _, _, _, _, _, _, _, _, _, _, _, _]) (hp.get (i := 1) rfl) TTok rfl rfl rfl, ?_⟩; conv => whnf)
      (refine hp.kstA TTok rfl 3 rfl rfl (oneC_of rfl) (by rfl) fun w hp => ?_; try simp only [List.set_cons_zero, List.set_cons_succ, EV.val] at hp; conv => whnf)
      (refine hKq _ _ _ (.refl _) ?_; clear hKq Kq; conv => whnf)
      (refine ⟨_, Blk.lvN (hp.get (i := 3) rfl) TTok rfl rfl, ?_⟩; conv => whnf)
      rw [hres]
      exact ⟨_, rfl, hp.ext, hp.get (i := 0) rfl, .inr fb⟩
     ·have hres : r = ⟨⟨ah, ap⟩, ⟨bh, bp⟩, now, nxt, til, ser, gone, noise, word2, fresh, asked⟩ := by rw [← hr]; exact if_neg he
      (refine And.intro (fun _ => ?_) (fun h => absurd (by first | rfl | assumption | omega | decide) (of_decide_eq_false h)); conv => whnf)
      (refine VSeq.mk fun Kq hKq => ?_; conv => whnf)
      (refine ⟨_, _, Blk.ldV (vs := [_, _, _, _, _, _, _, _, _, _, _, _, _]) (hp.get (i := 4) rfl) TTok rfl rfl rfl, ?_⟩; conv => whnf)
      (refine hp.kstA TTok rfl 3 rfl rfl (oneC_of rfl) (by rfl) fun w hp => ?_; try simp only [List.set_cons_zero, List.set_cons_succ, EV.val] at hp; conv => whnf)
      (refine hKq _ _ _ (.refl _) ?_; clear hKq Kq; conv => whnf)
      (refine ⟨_, Blk.lvN (hp.get (i := 3) rfl) TTok rfl rfl, ?_⟩; conv => whnf)
      rw [hres]
      exact ⟨_, rfl, hp.ext, hv.ext hp.ext, .inl rfl⟩
    ·simp only [if_neg c6] at hr
     by_cases c7 : what % 8 = 7
     ·simp only [if_pos c7] at hr
      obtain ⟨⟨⟨bah, bap⟩, ⟨bbh, bbp⟩, bnow, bnxt, btil, bser, bgone, bnoise, bword, bfresh, basked⟩, be⟩ := z4
      dsimp only [Wt.c] at s4
      clear s2 s5 s3 ha
      (refine And.intro (fun h => absurd (of_decide_eq_true h) (by first | (intro h2; exact absurd rfl h2) | omega | decide)) (fun _ => ?_); conv => whnf)
      (refine VSeq.mk fun Kq hKq => ?_; conv => whnf)
      (refine hKq _ _ _ (.refl _) ?_; clear hKq Kq; conv => whnf)
      (refine And.intro (fun h => absurd (of_decide_eq_true h) (by first | (intro h2; exact absurd rfl h2) | omega | decide)) (fun _ => ?_); conv => whnf)
      (refine hKq _ _ _ (.refl _) ?_; clear hKq Kq; conv => whnf)
      (refine And.intro (fun h => absurd (of_decide_eq_true h) (by first | (intro h2; exact absurd rfl h2) | omega | decide)) (fun _ => ?_); conv => whnf)
      (refine VSeq.mk fun Kq hKq => ?_; conv => whnf)
      (refine hKq _ _ _ (.refl _) ?_; clear hKq Kq; conv => whnf)
      (refine And.intro (fun h => absurd (of_decide_eq_true h) (by first | (intro h2; exact absurd rfl h2) | omega | decide)) (fun _ => ?_); conv => whnf)
      (refine VSeq.mk fun Kq hKq => ?_; conv => whnf)
      (refine hKq _ _ _ (.refl _) ?_; clear hKq Kq; conv => whnf)
      (refine And.intro (fun _ => ?_) (fun h => absurd (by first | rfl | assumption | omega | decide) (of_decide_eq_false h)); conv => whnf)
      have hcls := hp.pick [3, 4] (by decide)
      simp only [List.filterMap_cons, List.filterMap_nil, List.getElem?_cons_zero, List.getElem?_cons_succ] at hcls
      refine v_mtC TTok FFok mixed _ hcls [] (.q 0 (.q 1 (.q 2 (.q 3 (.q 4 (.m 5 (.q 6 (.q 7 (.q 8 (.m 9 (.q 10 .nil))))))))))) (by kernel_rfl) ?_
      clear hcls
      conv => whnf
      (refine ⟨_, fun w' hc => Blk.ldV (vs := [_, _, _, _, _, _, _, _, _, _, _, _, _]) (hc.get (i := 0) rfl) TTok rfl rfl rfl, ?_⟩; conv => whnf)
      (refine ⟨_, fun w' hc => Blk.ld (hc.get (i := 1) rfl) TTok rfl rfl, ?_⟩; conv => whnf)
      (refine V.QCallC.out ?_; (conv => arg 3; dsimp only [EV.val, List.toList_toArray, List.nil_append, List.append_nil, List.cons_append]); (with_reducible refine V.PureF.quietC (Ends_p _ (by assumption)) ?_); conv => whnf)
      (intro w hx; try (have hp := hp.call hx); conv => whnf)
      refine Calls.mono (s4 (hv.ext hp.ext)) ?_
      rintro _ w ⟨_, rfl, vb, rfl, hx, hb⟩
      refine ⟨_, rfl, ?_⟩
      obtain ⟨pb, cb, rfl⟩ := SLw.shape hb
      have fb : FreshV W (.slice pb (iv basked).length cb) := fun a n c h => Nat.le_trans hp.extM.size (hb.f a n c h)
      have hp := hp.pushR hx hb
      conv => whnf
      clear s4
      (refine And.intro (fun hc => hc.call hx) ?_; conv => whnf)
      (intro w hx; try (have hp := hp.call hx); conv => whnf)
      (refine hp.kstA TTok rfl 1 rfl rfl (oneC_of rfl) (by rfl) fun w hp => ?_; try simp only [List.set_cons_zero, List.set_cons_succ, EV.val] at hp; conv => whnf)
      (refine And.intro (fun _ => hp.pick [4, 5] (by decide)) ?_; conv => whnf)
      (intro w hx; try (have hp := hp.call hx); conv => whnf)
      (refine hKq _ _ _ (.refl _) ?_; clear hKq Kq; conv => whnf)
      (refine VSeq.mk fun Kq hKq => ?_; conv => whnf)
      (refine VSeq.mk fun Kq hKq => ?_; conv => whnf)
      (refine hKq _ _ _ (.refl _) ?_; clear hKq Kq; conv => whnf)
      by_cases he : be = 0
      ·have hres : r = ⟨⟨bah, bap⟩, ⟨bbh, bbp⟩, bnow, bnxt, btil, bser, bgone, bnoise, bword, bfresh, basked⟩ := by rw [← hr]; exact if_pos he
       (refine And.intro (fun h => absurd (of_decide_eq_true h) (by first | (intro h2; exact absurd rfl h2) | omega | decide)) (fun _ => ?_); conv => whnf)
       (refine hKq _ _ _ (.refl _) ?_; clear hKq Kq; conv => whnf)
       (refine VSeq.mk fun Kq hKq => ?_; conv => whnf)
       (refine ⟨_, _, Blk.ldV (vs := [_, _, _, _, _, _, _, _, _, _, _, _, _]) (hp.get (i := 1) rfl) TTok rfl rfl rfl, ?_⟩; conv => whnf)
       (refine hp.kstA TTok rfl 3 rfl rfl (oneC_of rfl) (by rfl) fun w hp => ?_; try simp only [List.set_cons_zero, List.set_cons_succ, EV.val] at hp; conv => whnf)
       (refine hKq _ _ _ (.refl _) ?_; clear hKq Kq; conv => whnf)
       (refine ⟨_, Blk.lvN (hp.get (i := 3) rfl) TTok rfl rfl, ?_⟩; conv => whnf)
       rw [hres]
       exact ⟨_, rfl, hp.ext, hp.get (i := 0) rfl, .inr fb⟩
      ·have hres : r = ⟨⟨ah, ap⟩, ⟨bh, bp⟩, now, nxt, til, ser, gone, noise, word2, fresh, asked⟩ := by rw [← hr]; exact if_neg he
       (refine And.intro (fun _ => ?_) (fun h => absurd (by first | rfl | assumption | omega | decide) (of_decide_eq_false h)); conv => whnf)
       (refine VSeq.mk fun Kq hKq => ?_; conv => whnf)
       (refine ⟨_, _, Blk.ldV (vs := [_, _, _, _, _, _, _, _, _, _, _, _, _]) (hp.get (i := 4) rfl) TTok rfl rfl rfl, ?_⟩; conv => whnf)
       (refine hp.kstA TTok rfl 3 rfl rfl (oneC_of rfl) (by rfl) fun w hp => ?_; try simp only [List.set_cons_zero, List.set_cons_succ, EV.val] at hp; conv => whnf)
       (refine hKq _ _ _ (.refl _) ?_; clear hKq Kq; conv => whnf)
       (refine ⟨_, Blk.lvN (hp.get (i := 3) rfl) TTok rfl rfl, ?_⟩; conv => whnf)
       rw [hres]
       exact ⟨_, rfl, hp.ext, hv.ext hp.ext, .inl rfl⟩
     ·simp only [if_neg c7] at hr
      clear s2 s3 s4 s5
      (refine And.intro (fun h => absurd (of_decide_eq_true h) (by first | (intro h2; exact absurd rfl h2) | omega | decide)) (fun _ => ?_); conv => whnf)
      (refine VSeq.mk fun Kq hKq => ?_; conv => whnf)
      (refine hKq _ _ _ (.refl _) ?_; clear hKq Kq; conv => whnf)
      (refine And.intro (fun h => absurd (of_decide_eq_true h) (by first | (intro h2; exact absurd rfl h2) | omega | decide)) (fun _ => ?_); conv => whnf)
      (refine hKq _ _ _ (.refl _) ?_; clear hKq Kq; conv => whnf)
      (refine And.intro (fun h => absurd (of_decide_eq_true h) (by first | (intro h2; exact absurd rfl h2) | omega | decide)) (fun _ => ?_); conv => whnf)
      (refine VSeq.mk fun Kq hKq => ?_; conv => whnf)
      (refine hKq _ _ _ (.refl _) ?_; clear hKq Kq; conv => whnf)
      (refine And.intro (fun h => absurd (of_decide_eq_true h) (by first | (intro h2; exact absurd rfl h2) | omega | decide)) (fun _ => ?_); conv => whnf)
      (refine VSeq.mk fun Kq hKq => ?_; conv => whnf)
      (refine hKq _ _ _ (.refl _) ?_; clear hKq Kq; conv => whnf)
      (refine And.intro (fun h => absurd (of_decide_eq_true h) (by first | (intro h2; exact absurd rfl h2) | omega | decide)) (fun _ => ?_); conv => whnf)
      (refine hKq _ _ _ (.refl _) ?_; clear hKq Kq; conv => whnf)
      (refine VSeq.mk fun Kq hKq => ?_; conv => whnf)
      (refine VSeq.mk fun Kq hKq => ?_; conv => whnf)
      (refine hKq _ _ _ (.refl _) ?_; clear hKq Kq; conv => whnf)
      by_cases he : ae = 0
      ·have hres : r = ⟨⟨aah, aap⟩, ⟨abh, abp⟩, anow, anxt, atil, aser, agone, anoise, aword, afresh, aasked⟩ := by rw [← hr]; exact if_pos he
       (refine And.intro (fun h => absurd (of_decide_eq_true h) (by first | (intro h2; exact absurd rfl h2) | omega | decide)) (fun _ => ?_); conv => whnf)
       (refine hKq _ _ _ (.refl _) ?_; clear hKq Kq; conv => whnf)
       (refine VSeq.mk fun Kq hKq => ?_; conv => whnf)
       (refine ⟨_, _, Blk.ldV (vs := [_, _, _, _, _, _, _, _, _, _, _, _, _]) (hp.get (i := 0) rfl) TTok rfl rfl rfl, ?_⟩; conv => whnf)
       (refine hp.kstA TTok rfl 2 rfl rfl (oneC_of rfl) (by rfl) fun w hp => ?_; try simp only [List.set_cons_zero, List.set_cons_succ, EV.val] at hp; conv => whnf)
       (refine hKq _ _ _ (.refl _) ?_; clear hKq Kq; conv => whnf)
       (refine ⟨_, Blk.lvN (hp.get (i := 2) rfl) TTok rfl rfl, ?_⟩; conv => whnf)
       rw [hres]
       exact ⟨_, rfl, hp.ext, hp.get (i := 1) rfl, .inr fa⟩
      ·have hres : r = ⟨⟨ah, ap⟩, ⟨bh, bp⟩, now, nxt, til, ser, gone, noise, word2, fresh, asked⟩ := by rw [← hr]; exact if_neg he
       (refine And.intro (fun _ => ?_) (fun h => absurd (by first | rfl | assumption | omega | decide) (of_decide_eq_false h)); conv => whnf)
       (refine VSeq.mk fun Kq hKq => ?_; conv => whnf)
       (refine ⟨_, _, Blk.ldV (vs := [_, _, _, _, _, _, _, _, _, _, _, _, _]) (hp.get (i := 3) rfl) TTok rfl rfl rfl, ?_⟩; conv => whnf)
       (refine hp.kstA TTok rfl 2 rfl rfl (oneC_of rfl) (by rfl) fun w hp => ?_; try simp only [List.set_cons_zero, List.set_cons_succ, EV.val] at hp; conv => whnf)
       (refine hKq _ _ _ (.refl _) ?_; clear hKq Kq; conv => whnf)
       (refine ⟨_, Blk.lvN (hp.get (i := 2) rfl) TTok rfl rfl, ?_⟩; conv => whnf)
       rw [hres]
       exact ⟨_, rfl, hp.ext, hv.ext hp.ext, .inl rfl⟩
set_option maxHeartbeats 8000000
theorem drafL_snoc (p : Nat) (s : ByteArray) (l : List Ev) (x : Ev) : drafL p s (l ++ [x]) = stepW x (drafL p s l) := by unfold drafL; rw [List.foldl_append]; rfl
theorem Watch12_c {W : World} {vn ve : Value} (p : Nat) (hp256 : p < 256) (nb : List UInt8) (evs : List Ev) (hev : ∀ x ∈ evs, x.Ok) (hn : SLv W vn (bytesV nb)) (he : SLn W 5 ve (evs.map Ev.c)) :
  Calls Tryz.prog 30 #[.agg #[.int .u8 p, vn, ve]] W fun e w' => ∃ u, e = .returned u ∧ ∃ v', u = .agg ((drafL p ⟨(nb.take 64).toArray⟩ (evs.take 30)).c v').toArray ∧ Ext W w' ∧ SLw W w' v' (iv (drafL p ⟨(nb.take 64).toArray⟩ (evs.take 30)).asked) := by
 have hnl : (bytesV nb).length = nb.length := by simp [bytesV]
 have hel : (evs.map Ev.c).length = evs.length := List.length_map _
 have hml := he.len
 rw [hel] at hml
 unfold maxLen at hml
 have hsz : ((⟨(nb.take 64).toArray⟩ : ByteArray)).size ≤ 64 := by
  show (nb.take 64).toArray.size ≤ 64
  rw [List.size_toArray, List.length_take]; omega
 obtain ⟨vs, hrun, hvs⟩ := hi_val (P := Tryz.prog) TTok (t := 22) rfl rfl hn (min nb.length 64) (by rw [hnl]; omega)
 have hrun2 := hrun .i64
 rw [show ((min nb.length 64 : Nat) : Int) = min (nb.length : Int) 64 by omega] at hrun2
 have htk : (bytesV nb).take (min nb.length 64) = bytesV (nb.take 64) := by
  unfold bytesV
  rw [← List.map_take]
  congr 1
  rcases Nat.le_total nb.length 64 with h | h
  ·rw [Nat.min_eq_left h, List.take_length, List.take_of_length_le h]
  ·rw [Nat.min_eq_right h]
 rw [htk] at hvs
 obtain ⟨S, hS⟩ : ∃ S, (⟨(nb.take 64).toArray⟩ : ByteArray) = S := ⟨_, rfl⟩
 have hstr := fun {w : World} (h : SLv w vs (bytesV (nb.take 64))) => h.str (P := Tryz.prog) TTok (src := 22) (dst := 9) rfl rfl rfl
 rw [hS] at hsz hstr ⊢
 obtain ⟨p1, c1, rfl⟩ := hn.shape
 rw [hnl] at hn hrun2 hvs ⊢
 obtain ⟨p2, c2, rfl⟩ := he.shape
 rw [hel] at he ⊢
 refine v_fn (args := [.agg #[.int .u8 p, .slice p1 nb.length c1, .slice p2 evs.length c2]]) TTok FFok Tryz.func30 rfl (Nat.le_of_ble_eq_true rfl) ?_
 conv => whnf
 refine VSeq.mk fun Kq hKq => ?_
 conv => whnf
 have hp := Hp.nil W
 refine hp.kboxA fun q1 w hp hx => ?_
 conv => whnf
 (refine hp.kalloc z34 fun al34 w hp hx => ?_; conv => whnf)
 (refine hKq _ _ _ (.refl _) ?_; clear hKq Kq; conv => whnf)
 (refine VSeq.mk fun Kq hKq => ?_; conv => whnf)
 (refine ⟨_, _, Blk.ld (hp.get (i := 1) rfl) TTok rfl rfl, ?_⟩; conv => whnf)
 (refine ⟨_, _, Blk.ld (hp.get (i := 1) rfl) TTok rfl rfl, ?_⟩; conv => whnf)
 refine ⟨_, _, hrun2 _, ?_⟩
 conv => whnf
 skip
 refine ⟨_, _, hstr (hvs _ (hn.ext hp.ext)), ?_⟩
 conv => whnf
 refine hKq _ _ _ (.refl _) ?_
 clear hKq Kq
 conv => whnf
 refine VSeq.mk fun Kq hKq => ?_
 conv => whnf
 refine VSeq.mk fun Kq hKq => ?_
 conv => whnf
 refine hKq _ _ _ (.refl _) ?_
 clear hKq Kq
 conv => whnf
 skip
 have key : ∀ (aT : Nat) (l : Env) (w : World), V.Sub [(1, .v (.pointer (some ⟨q1, 0, none⟩))), (2, .v (.pointer (some ⟨aT, 0, none⟩))), (3, .v (.string (nzB S)))] l → HpM [] W w [blk aT [.string ⟨#[]⟩, .int .i64 0, .string ⟨#[]⟩, .int .i64 0, .int .i64 0, .int .i64 0, .int .i64 0, .int .i64 0, .bool false, .string ⟨#[]⟩, .string ⟨#[]⟩, .string ⟨#[]⟩, .slice none 0 0] 34, blk q1 [.int .u8 p, .slice p1 nb.length c1, .slice p2 evs.length c2] 25] → Kq l w := by
  intro aT l w hs hp
  refine hKq _ _ _ hs ?_
  clear hKq Kq
  have hz := nzB_size hsz
  have hN := fun {W : World} => New12_c (W := W) (endA p).h (endB p).h (endA p).p (endB p).p (⟨#[119, 120, 121, 122]⟩ : ByteArray) (nzB S) 0 (endA_ok p) (endB_ok p) (by unfold SzS maxLen; decide) (by unfold SzS maxLen; omega)
  obtain ⟨y, hy⟩ : ∃ y, drafS p S = y := ⟨_, rfl⟩
  have hy2 : (newE (endA p) (endB p) (⟨#[119, 120, 121, 122]⟩ : ByteArray) (nzB S) 0).1 = y := hy
  have hask : y.asked = [] := by rw [← hy2]; exact newE_nil _ _ _ _ _
  have hN : ∃ e : Int, ∀ {W : World}, Calls Tryz.prog 18 #[.agg #[.string (endA p).h, .int .i64 (endA p).p, .string (endB p).h, .int .i64 (endB p).p], .string (⟨#[119, 120, 121, 122]⟩ : ByteArray), .string (nzB S), .int .i64 0] W fun e1 w' => e1 = .returned (.tuple #[.agg (y.c (.slice none 0 0)).toArray, .int .i64 e]) ∧ Ext W w' := by
   rw [← hy2]
   exact ⟨_, hN⟩
  obtain ⟨e0, hN⟩ := hN
  dsimp only [Wt.c] at hN
  clear hy2
  conv => whnf
  refine VSeq.mk fun Kq hKq => ?_
  conv => whnf
  (refine ⟨_, _, Blk.ld (hp.get (i := 1) rfl) TTok rfl rfl, ?_⟩; conv => whnf)
  (refine V.CallW.out ?_; (conv => arg 3; dsimp only [EV.val, List.toList_toArray, List.nil_append, List.append_nil, List.cons_append]); (with_reducible refine V.PureF.useW (Ends_p _ (by assumption)) fun w hx => ?_); try (have hp := hp.call hx); conv => whnf)
  refine V.CallsUse hN fun w hx => ?_
  have hp := hp.call hx
  conv => whnf
  clear hN
  (refine hp.kalloc z34 fun al34 w hp hx => ?_; conv => whnf)
  (refine hp.kstA TTok rfl 0 rfl rfl (oneC_of rfl) (by rfl) fun w hp => ?_; try simp only [List.set_cons_zero, List.set_cons_succ, EV.val] at hp; conv => whnf)
  (refine hKq _ _ _ (.refl _) ?_; clear hKq Kq; conv => whnf)
  (refine VSeq.mk fun Kq hKq => ?_; conv => whnf)
  (refine VSeq.mk fun Kq hKq => ?_; conv => whnf)
  (refine hKq _ _ _ (.refl _) ?_; clear hKq Kq; conv => whnf)
  have hp := hp.pushR (Ext.refl _) (v := .slice none 0 0) (xs := iv y.asked) (by rw [hask]; exact SLw.nil)
  refine ⟨fun mm e w' => ∃ (i : Nat) (y : Wt) (v : Value), mm + i = min evs.length 30 ∧ e = [(1, .v (.pointer (some ⟨q1, 0, none⟩))), (2, .v (.pointer (some ⟨aT, 0, none⟩))), (4, .v (.pointer (some ⟨al34, 0, none⟩))), (6, .v (.int .i64 i))] ∧ drafL p S (evs.take i) = y ∧ FreshV W v ∧ HpM [] W w' [ritem v (iv y.asked), blk al34 [.string y.a.h, .int .i64 y.a.p, .string y.b.h, .int .i64 y.b.p, .int .i64 y.now, .int .i64 y.nxt, .int .i64 y.til, .int .i64 y.ser, .bool y.gone, .string y.noise, .string y.word, .string y.fresh, v] 34, blk aT [.string ⟨#[]⟩, .int .i64 0, .string ⟨#[]⟩, .int .i64 0, .int .i64 0, .int .i64 0, .int .i64 0, .int .i64 0, .bool false, .string ⟨#[]⟩, .string ⟨#[]⟩, .string ⟨#[]⟩, .slice none 0 0] 34, blk q1 [.int .u8 p, .slice p1 nb.length c1, .slice p2 evs.length c2] 25],
   ⟨min evs.length 30, _, ⟨0, y, _, by omega, rfl, hy, (SLw.nil (W := W) (w := W)).f, hp⟩, sub_cons rfl (sub_cons rfl (sub_cons rfl (sub_cons rfl sub_nil)))⟩, ?_⟩
  clear hp hy hask
  repeat clear hp
  rintro mm _ w ⟨i, y, v, hmm, rfl, hy, hf, hp⟩
  have hdr := drafL_dr p hsz (evs.take i) (by rw [List.length_take]; omega)
  rw [hy] at hdr
  have hnow := hdr.now
  have hnow0 := hdr.v.now.1
  rw [List.length_take] at hnow
  conv => whnf
  refine VSeq.mk fun Kq hKq => ?_
  conv => whnf
  refine VSeq.mk fun Kq hKq => ?_
  conv => whnf
  refine VSeq.mk fun Kq hKq => ?_
  conv => whnf
  (refine ⟨_, _, Blk.ld (hp.get (i := 3) rfl) TTok rfl rfl, ?_⟩; conv => whnf)
  (refine hKq _ _ _ (.refl _) ?_; clear hKq Kq; conv => whnf)
  by_cases hi : i < evs.length ∧ i < 30
  ·obtain ⟨hi1, hi2⟩ := hi
   obtain ⟨x, hxi⟩ : ∃ x, evs[i]? = some x := ⟨evs[i], List.getElem?_eq_getElem hi1⟩
   obtain ⟨g, off, rfl, _, hcell⟩ := (he.ext hp.ext).cells (j := i) (x := x.c) (by rw [List.getElem?_map, hxi]; rfl)
   have hxo := hev x (List.mem_of_getElem? hxi)
   have htk2 : evs.take (i + 1) = evs.take i ++ [x] := by rw [List.take_add_one, hxi]; rfl
   have hsv : SLv w v (iv y.asked) := hp.get (i := 0) rfl
   (refine And.intro (fun _ => ?_) (fun h => absurd (by first | rfl | assumption | omega | decide) (of_decide_eq_false h)); conv => whnf)
   (refine hKq _ _ _ (.refl _) ?_; clear hKq Kq; conv => whnf)
   (refine And.intro (fun _ => ?_) (fun h => absurd (by first | rfl | assumption | omega | decide) (of_decide_eq_false h)); conv => whnf)
   (refine hKq _ _ _ (.refl _) ?_; clear hKq Kq; conv => whnf)
   (refine VSeq.mk fun Kq hKq => ?_; conv => whnf)
   refine v_mix TTok FFok mixed 7 [(0, false), (1, false), (2, false), (3, false), (4, false), (5, false), (6, true)] (by kernel_rfl) ?_
   conv => whnf
   (refine ⟨_, fun w' hx' => Blk.ld (Blk.ext (hp.get (i := 3) rfl) hx') TTok rfl rfl, ?_⟩; conv => whnf)
   (refine ⟨_, ⟨rfl, by omega⟩, ?_⟩; conv => whnf)
   refine ⟨_, fun w' hx' => run_ldN TTok rfl (vs := x.c) rfl fun j v hj => hx'.cell (hcell j v hj), ?_⟩
   conv => whnf
   (refine ⟨_, fun w' hx' => Blk.ldV (vs := [_, _, _, _, _, _, _, _, _, _, _, _, _]) (Blk.ext (hp.get (i := 1) rfl) hx') TTok rfl rfl rfl, ?_⟩; conv => whnf)
   (intro w hx; try (have hp := hp.call hx); conv => whnf)
   refine Calls.mono (Step12_c x hxo y hdr.ok ⟨hnow0, by omega⟩ (hp.get (i := 0) rfl)) ?_
   rintro _ w ⟨_, rfl, v', rfl, hx, hs, hf'⟩
   refine ⟨_, rfl, ?_⟩
   have hf2 : FreshV W v' := by
    rcases hf' with rfl | hf'
    ·exact hf
    ·exact fun a n c h => Nat.le_trans hp.extM.size (hf' a n c h)
   have hp := hp.stepR hx hs hf'
   obtain ⟨p3, c3, rfl⟩ := hs.shape
   dsimp only [Wt.c]
   conv => whnf
   refine And.intro hx ?_
   clear hs hf' hsv
   conv => whnf
   (intro w hx; try (have hp := hp.call hx); conv => whnf)
   (refine hp.kstA TTok rfl 1 rfl rfl (oneC_of rfl) (by rfl) fun w hp => ?_; try simp only [List.set_cons_zero, List.set_cons_succ, EV.val] at hp; conv => whnf)
   (refine hKq _ _ _ (.refl _) ?_; clear hKq Kq; conv => whnf)
   (refine Or.inl (And.intro (by first | omega | decide) ?_); conv => whnf)
   exact ⟨mm - 1, _, by omega, ⟨i + 1, _, _, by omega, rfl, by rw [htk2, drafL_snoc, hy], hf2, hp⟩, sub_cons rfl (sub_cons rfl (sub_cons rfl (sub_cons rfl sub_nil)))⟩
  ·have htk3 : evs.take 30 = evs.take i := by
    rcases Nat.lt_or_ge i evs.length with h | h
    ·rw [show i = 30 by omega]
    ·rw [List.take_of_length_le (by omega), List.take_of_length_le h]
   have hsv : SLv w v (iv y.asked) := hp.get (i := 0) rfl
   obtain ⟨p3, c3, rfl⟩ := hsv.shape
   rcases Nat.lt_or_ge i evs.length with h | h
   ·have h30 : ¬ i < 30 := fun k => hi ⟨h, k⟩
    (refine And.intro (fun _ => ?_) (fun h => absurd (by first | rfl | assumption | omega | decide) (of_decide_eq_false h)); conv => whnf)
    (refine hKq _ _ _ (.refl _) ?_; clear hKq Kq; conv => whnf)
    (refine And.intro (fun h => absurd (of_decide_eq_true h) (by first | (intro h2; exact absurd rfl h2) | omega | decide)) (fun _ => ?_); conv => whnf)
    (clear hKq Kq; refine hKq _ _ _ (.refl _) ?_; clear hKq Kq; conv => whnf)
    (refine VSeq.mk fun Kq hKq => ?_; conv => whnf)
    (refine ⟨_, _, Blk.ldV (vs := [_, _, _, _, _, _, _, _, _, _, _, _, _]) (hp.get (i := 1) rfl) TTok rfl rfl rfl, ?_⟩; conv => whnf)
    (refine hp.kstA TTok rfl 2 rfl rfl (oneC_of rfl) (by rfl) fun w hp => ?_; try simp only [List.set_cons_zero, List.set_cons_succ, EV.val] at hp; conv => whnf)
    (refine hKq _ _ _ (.refl _) ?_; clear hKq Kq; conv => whnf)
    (refine ⟨_, Blk.lvN (hp.get (i := 2) rfl) TTok rfl rfl, ?_⟩; conv => whnf)
    rw [htk3, hy]
    exact ⟨_, rfl, hp.ext, ⟨hp.get (i := 0) rfl, hf⟩⟩
   ·(refine And.intro (fun h => absurd (of_decide_eq_true h) (by first | (intro h2; exact absurd rfl h2) | omega | decide)) (fun _ => ?_); conv => whnf)
    (refine hKq _ _ _ (.refl _) ?_; clear hKq Kq; conv => whnf)
    (clear hKq Kq; refine hKq _ _ _ (.refl _) ?_; clear hKq Kq; conv => whnf)
    (refine VSeq.mk fun Kq hKq => ?_; conv => whnf)
    (refine ⟨_, _, Blk.ldV (vs := [_, _, _, _, _, _, _, _, _, _, _, _, _]) (hp.get (i := 1) rfl) TTok rfl rfl rfl, ?_⟩; conv => whnf)
    (refine hp.kstA TTok rfl 2 rfl rfl (oneC_of rfl) (by rfl) fun w hp => ?_; try simp only [List.set_cons_zero, List.set_cons_succ, EV.val] at hp; conv => whnf)
    (refine hKq _ _ _ (.refl _) ?_; clear hKq Kq; conv => whnf)
    (refine ⟨_, Blk.lvN (hp.get (i := 2) rfl) TTok rfl rfl, ?_⟩; conv => whnf)
    rw [htk3, hy]
    exact ⟨_, rfl, hp.ext, ⟨hp.get (i := 0) rfl, hf⟩⟩
 clear hKq
 refine ⟨fun h0 => ?_, fun h0 => ?_⟩
 ·have h0 := of_decide_eq_true h0
  conv => whnf
  skip
  refine key _ _ _ (sub_cons rfl (sub_cons rfl (sub_cons (by rw [show nzB S = (⟨#[120]⟩ : ByteArray) by unfold nzB; rw [if_pos h0]]; rfl) sub_nil))) hp
 ·have h0 := of_decide_eq_false h0
  conv => whnf
  skip
  refine key _ _ _ (sub_cons rfl (sub_cons rfl (sub_cons (by rw [show nzB S = S by unfold nzB; rw [if_neg h0]]; rfl) sub_nil))) hp
end Go.Proofs.YtgkhcgiggjijlaaGreat
