/- Chapter 12: the reference's probes and watches. -/
/- Chapter 12: the reference's check, errors, times. -/
/- Chapter 12: the reference's errors and times. -/
/- Chapter 12: Check, Wake, New: program and reference. -/
import Derived.Test.YtgkhcgiggjijlaaGreatGH08
namespace Go.Proofs.YtgkhcgiggjijlaaGreat
set_option linter.unusedSimpArgs false
set_option linter.unusedVariables false
set_option maxRecDepth 100000
open Go.RowKit V
set_option maxHeartbeats 1600000
theorem probeB_2' (id pr : Int) (ct : Bool) (ti : Int) (no : Bool) (h : ByteArray) (p : Int) : probeB ⟨2, id, pr, ct, ti, no, ⟨h, p⟩⟩ = (inB id 0 1099511627776 && (decide (pr = 0) && (!ct && (decide (ti = 0) && (!no && usB h p))))) := by
 rw [probeB_2]
 have : decide ((⟨2, id, pr, ct, ti, no, ⟨h, p⟩⟩ : Prb) = p2 id ⟨h, p⟩) = (decide (pr = 0) && (!ct && (decide (ti = 0) && !no))) := by
  rw [Bool.eq_iff_iff]
  simp [p2]
 rw [this]
 cases usB h p <;> cases decide (pr = 0) <;> cases ct <;> cases decide (ti = 0) <;> cases no <;> rfl
theorem probeB_3' (id pr : Int) (ct : Bool) (ti : Int) (no : Bool) (h : ByteArray) (p : Int) : probeB ⟨3, id, pr, ct, ti, no, ⟨h, p⟩⟩ = (inB id 0 1099511627776 && (decide (pr = 0) && (!ct && (decide (ti = 0) && (!no && decide ((⟨h, p⟩ : Ad) = Ad.z)))))) := by
 rw [probeB_3]
 have : decide ((⟨3, id, pr, ct, ti, no, ⟨h, p⟩⟩ : Prb) = p3 id) = (decide (pr = 0) && (!ct && (decide (ti = 0) && (!no && decide ((⟨h, p⟩ : Ad) = Ad.z))))) := by
  rw [Bool.eq_iff_iff]
  simp [p3]
 rw [this]
theorem probe11_1 (id pr : Int) (ct : Bool) (ti : Int) (no : Bool) (h : ByteArray) (p : Int) (hm : Ad.Ok ⟨h, p⟩) : PureF Tryz.prog 51 #[.agg #[.int .i64 1, .int .i64 id, .int .i64 pr, .bool ct, .int .i64 ti, .bool no, .string h, .int .i64 p]] (.bool (probeB ⟨1, id, pr, ct, ti, no, ⟨h, p⟩⟩)) := by
 rw [probeB_1]
 unfold inB
 refine v_pure (args := [.agg #[.int .i64 1, .int .i64 id, .int .i64 pr, .bool ct, .int .i64 ti, .bool no, .string h, .int .i64 p]]) TTok FFok Tryz.func51 rfl rfl fun w0 => ?_
 conv => whnf
 refine VSeq.mk fun Kq hKq => ?_
 conv => whnf
 have hp := Hp.nil w0
 (refine hp.kboxA fun q w hp hx => ?_; conv => whnf)
 (refine hKq _ _ _ (.refl _) ?_; clear hKq Kq; conv => whnf)
 (refine VSeq.mk fun Kq hKq => ?_; conv => whnf)
 (refine VSeq.mk fun Kq hKq => ?_; conv => whnf)
 (refine VSeq.mk fun Kq hKq => ?_; conv => whnf)
 (refine ⟨_, _, Blk.ld (hp.get (i := 0) rfl) TTok rfl rfl, ?_⟩; conv => whnf)
 (refine hKq _ _ _ (.refl _) ?_; clear hKq Kq; conv => whnf)
 (refine ⟨fun hd => ?_, fun hd => ?_⟩ <;> (try simp only [Bool.not_eq_true', Bool.not_eq_false', decide_eq_true_eq, decide_eq_false_iff_not, ne_eq, Classical.not_not] at hd) <;> (conv => whnf))
 (refine hKq _ _ _ (.refl _) ?_; clear hKq Kq; conv => whnf)
 (refine VSeq.mk fun Kq hKq => ?_; conv => whnf)
 (refine hKq _ _ _ (.refl _) ?_; clear hKq Kq; conv => whnf)
 (refine ⟨congrArg Value.bool ?_, hp.ext⟩; rw [Bool.eq_iff_iff]; first | (simp only [Bool.or_eq_true, Bool.and_eq_true, decide_eq_true_eq, Bool.not_eq_true', decide_eq_false_iff_not, eq_self, true_and, and_true, true_iff, iff_true, false_iff, iff_false, reduceCtorEq, ne_eq, *] <;> omega) | (simp_all; fail_if_success skip) | (simp_all <;> omega))
 (refine ⟨_, _, Blk.ld (hp.get (i := 0) rfl) TTok rfl rfl, ?_⟩; conv => whnf)
 (refine hKq _ _ _ (.refl _) ?_; clear hKq Kq; conv => whnf)
 (refine ⟨fun hd => ?_, fun hd => ?_⟩ <;> (try simp only [Bool.not_eq_true', Bool.not_eq_false', decide_eq_true_eq, decide_eq_false_iff_not, ne_eq, Classical.not_not] at hd) <;> (conv => whnf))
 (refine VSeq.mk fun Kq hKq => ?_; conv => whnf)
 (refine hKq _ _ _ (.refl _) ?_; clear hKq Kq; conv => whnf)
 (refine ⟨congrArg Value.bool ?_, hp.ext⟩; rw [Bool.eq_iff_iff]; first | (simp only [Bool.or_eq_true, Bool.and_eq_true, decide_eq_true_eq, Bool.not_eq_true', decide_eq_false_iff_not, eq_self, true_and, and_true, true_iff, iff_true, false_iff, iff_false, reduceCtorEq, ne_eq, *] <;> omega) | (simp_all; fail_if_success skip) | (simp_all <;> omega))
 (refine hKq _ _ _ (.refl _) ?_; clear hKq Kq; conv => whnf)
 (refine VSeq.mk fun Kq hKq => ?_; conv => whnf)
 (refine VSeq.mk fun Kq hKq => ?_; conv => whnf)
 (refine ⟨_, _, Blk.ld (hp.get (i := 0) rfl) TTok rfl rfl, ?_⟩; conv => whnf)
 (refine hKq _ _ _ (.refl _) ?_; clear hKq Kq; conv => whnf)
 (refine And.intro (fun _ => ?_) (fun h => absurd (by first | rfl | assumption | omega | decide) (of_decide_eq_false h)); conv => whnf)
 (refine VSeq.mk fun Kq hKq => ?_; conv => whnf)
 (refine VSeq.mk fun Kq hKq => ?_; conv => whnf)
 (refine ⟨_, _, Blk.ld (hp.get (i := 0) rfl) TTok rfl rfl, ?_⟩; conv => whnf)
 (refine hKq _ _ _ (.refl _) ?_; clear hKq Kq; conv => whnf)
 (refine VSeq.mk fun Kq hKq => ?_; conv => whnf)
 (refine ⟨fun hd => ?_, fun hd => ?_⟩ <;> (try simp only [Bool.not_eq_true', Bool.not_eq_false', decide_eq_true_eq, decide_eq_false_iff_not, ne_eq, Classical.not_not] at hd) <;> (conv => whnf))
 (refine ⟨_, _, Blk.ld (hp.get (i := 0) rfl) TTok rfl rfl, ?_⟩; conv => whnf)
 (refine hKq _ _ _ (.refl _) ?_; clear hKq Kq; conv => whnf)
 (refine VSeq.mk fun Kq hKq => ?_; conv => whnf)
 (refine ⟨fun hd => ?_, fun hd => ?_⟩ <;> (try simp only [Bool.not_eq_true', Bool.not_eq_false', decide_eq_true_eq, decide_eq_false_iff_not, ne_eq, Classical.not_not] at hd) <;> (conv => whnf))
 (refine ⟨_, _, Blk.ld (hp.get (i := 0) rfl) TTok rfl rfl, ?_⟩; conv => whnf)
 (refine hKq _ _ _ (.refl _) ?_; clear hKq Kq; conv => whnf)
 (refine VSeq.mk fun Kq hKq => ?_; conv => whnf)
 (refine ⟨fun hd => ?_, fun hd => ?_⟩ <;> (try simp only [Bool.not_eq_true', Bool.not_eq_false', decide_eq_true_eq, decide_eq_false_iff_not, ne_eq, Classical.not_not] at hd) <;> (conv => whnf))
 (refine ⟨_, _, Blk.ld (hp.get (i := 0) rfl) TTok rfl rfl, ?_⟩; conv => whnf)
 (refine hKq _ _ _ (.refl _) ?_; clear hKq Kq; conv => whnf)
 (refine VSeq.mk fun Kq hKq => ?_; conv => whnf)
 (refine ⟨fun hd => ?_, fun hd => ?_⟩ <;> (try simp only [Bool.not_eq_true', Bool.not_eq_false', decide_eq_true_eq, decide_eq_false_iff_not, ne_eq, Classical.not_not] at hd) <;> (conv => whnf))
 (refine ⟨_, _, Blk.ld (hp.get (i := 0) rfl) TTok rfl rfl, ?_⟩; conv => whnf)
 (refine ⟨fun hd => ?_, fun hd => ?_⟩ <;> (try simp only [Bool.not_eq_true', Bool.not_eq_false', decide_eq_true_eq, decide_eq_false_iff_not, ne_eq, Classical.not_not] at hd) <;> (conv => whnf))
 (refine ⟨_, _, Blk.ld (hp.get (i := 0) rfl) TTok rfl rfl, ?_⟩; conv => whnf)
 (refine hKq _ _ _ (.refl _) ?_; clear hKq Kq; conv => whnf)
 (refine ⟨fun hd => ?_, fun hd => ?_⟩ <;> (try simp only [Bool.not_eq_true', Bool.not_eq_false', decide_eq_true_eq, decide_eq_false_iff_not, ne_eq, Classical.not_not] at hd) <;> (conv => whnf))
 (refine ⟨_, _, Blk.ldV (vs := [_, _]) (hp.get (i := 0) rfl) TTok rfl rfl rfl, ?_⟩; conv => whnf)
 (refine ⟨_, _, bld27_ _, ?_⟩; conv => whnf)
 (refine ⟨_, _, ((ad_eq _ ⟨_, _⟩ Ad.z hm Ad.z_ok _ _).1), ?_⟩; conv => whnf)
 (refine hKq _ _ _ (.refl _) ?_; clear hKq Kq; conv => whnf)
 (refine ⟨congrArg Value.bool ?_, hp.ext⟩; rw [Bool.eq_iff_iff]; first | (simp only [Bool.or_eq_true, Bool.and_eq_true, decide_eq_true_eq, Bool.not_eq_true', decide_eq_false_iff_not, eq_self, true_and, and_true, true_iff, iff_true, false_iff, iff_false, reduceCtorEq, ne_eq, *] <;> omega) | (simp_all; fail_if_success skip) | (simp_all <;> omega))
 (refine hKq _ _ _ (.refl _) ?_; clear hKq Kq; conv => whnf)
 (refine ⟨congrArg Value.bool ?_, hp.ext⟩; rw [Bool.eq_iff_iff]; first | (simp only [Bool.or_eq_true, Bool.and_eq_true, decide_eq_true_eq, Bool.not_eq_true', decide_eq_false_iff_not, eq_self, true_and, and_true, true_iff, iff_true, false_iff, iff_false, reduceCtorEq, ne_eq, *] <;> omega) | (simp_all; fail_if_success skip) | (simp_all <;> omega))
 (refine hKq _ _ _ (.refl _) ?_; clear hKq Kq; conv => whnf)
 (refine ⟨_, _, Blk.ldV (vs := [_, _]) (hp.get (i := 0) rfl) TTok rfl rfl rfl, ?_⟩; conv => whnf)
 (refine ⟨_, _, bld27_ _, ?_⟩; conv => whnf)
 (refine ⟨_, _, ((ad_eq _ ⟨_, _⟩ Ad.z hm Ad.z_ok _ _).1), ?_⟩; conv => whnf)
 (refine hKq _ _ _ (.refl _) ?_; clear hKq Kq; conv => whnf)
 (refine ⟨congrArg Value.bool ?_, hp.ext⟩; rw [Bool.eq_iff_iff]; first | (simp only [Bool.or_eq_true, Bool.and_eq_true, decide_eq_true_eq, Bool.not_eq_true', decide_eq_false_iff_not, eq_self, true_and, and_true, true_iff, iff_true, false_iff, iff_false, reduceCtorEq, ne_eq, *] <;> omega) | (simp_all; fail_if_success skip) | (simp_all <;> omega))
 (refine hKq _ _ _ (.refl _) ?_; clear hKq Kq; conv => whnf)
 (refine hKq _ _ _ (.refl _) ?_; clear hKq Kq; conv => whnf)
 (refine ⟨congrArg Value.bool ?_, hp.ext⟩; rw [Bool.eq_iff_iff]; first | (simp only [Bool.or_eq_true, Bool.and_eq_true, decide_eq_true_eq, Bool.not_eq_true', decide_eq_false_iff_not, eq_self, true_and, and_true, true_iff, iff_true, false_iff, iff_false, reduceCtorEq, ne_eq, *] <;> omega) | (simp_all; fail_if_success skip) | (simp_all <;> omega))
 (refine hKq _ _ _ (.refl _) ?_; clear hKq Kq; conv => whnf)
 (refine VSeq.mk fun Kq hKq => ?_; conv => whnf)
 (refine hKq _ _ _ (.refl _) ?_; clear hKq Kq; conv => whnf)
 (refine hKq _ _ _ (.refl _) ?_; clear hKq Kq; conv => whnf)
 (refine ⟨congrArg Value.bool ?_, hp.ext⟩; rw [Bool.eq_iff_iff]; first | (simp only [Bool.or_eq_true, Bool.and_eq_true, decide_eq_true_eq, Bool.not_eq_true', decide_eq_false_iff_not, eq_self, true_and, and_true, true_iff, iff_true, false_iff, iff_false, reduceCtorEq, ne_eq, *] <;> omega) | (simp_all; fail_if_success skip) | (simp_all <;> omega))
 (refine hKq _ _ _ (.refl _) ?_; clear hKq Kq; conv => whnf)
 (refine VSeq.mk fun Kq hKq => ?_; conv => whnf)
 (refine hKq _ _ _ (.refl _) ?_; clear hKq Kq; conv => whnf)
 (refine VSeq.mk fun Kq hKq => ?_; conv => whnf)
 (refine hKq _ _ _ (.refl _) ?_; clear hKq Kq; conv => whnf)
 (refine hKq _ _ _ (.refl _) ?_; clear hKq Kq; conv => whnf)
 (refine ⟨congrArg Value.bool ?_, hp.ext⟩; rw [Bool.eq_iff_iff]; first | (simp only [Bool.or_eq_true, Bool.and_eq_true, decide_eq_true_eq, Bool.not_eq_true', decide_eq_false_iff_not, eq_self, true_and, and_true, true_iff, iff_true, false_iff, iff_false, reduceCtorEq, ne_eq, *] <;> omega) | (simp_all; fail_if_success skip) | (simp_all <;> omega))
 (refine hKq _ _ _ (.refl _) ?_; clear hKq Kq; conv => whnf)
 (refine VSeq.mk fun Kq hKq => ?_; conv => whnf)
 (refine hKq _ _ _ (.refl _) ?_; clear hKq Kq; conv => whnf)
 (refine VSeq.mk fun Kq hKq => ?_; conv => whnf)
 (refine hKq _ _ _ (.refl _) ?_; clear hKq Kq; conv => whnf)
 (refine VSeq.mk fun Kq hKq => ?_; conv => whnf)
 (refine hKq _ _ _ (.refl _) ?_; clear hKq Kq; conv => whnf)
 (refine hKq _ _ _ (.refl _) ?_; clear hKq Kq; conv => whnf)
 (refine ⟨congrArg Value.bool ?_, hp.ext⟩; rw [Bool.eq_iff_iff]; first | (simp only [Bool.or_eq_true, Bool.and_eq_true, decide_eq_true_eq, Bool.not_eq_true', decide_eq_false_iff_not, eq_self, true_and, and_true, true_iff, iff_true, false_iff, iff_false, reduceCtorEq, ne_eq, *] <;> omega) | (simp_all; fail_if_success skip) | (simp_all <;> omega))
theorem probe11_2 (id pr : Int) (ct : Bool) (ti : Int) (no : Bool) (h : ByteArray) (p : Int) : PureF Tryz.prog 51 #[.agg #[.int .i64 2, .int .i64 id, .int .i64 pr, .bool ct, .int .i64 ti, .bool no, .string h, .int .i64 p]] (.bool (probeB ⟨2, id, pr, ct, ti, no, ⟨h, p⟩⟩)) := by
 rw [probeB_2']
 unfold inB
 refine v_pure (args := [.agg #[.int .i64 2, .int .i64 id, .int .i64 pr, .bool ct, .int .i64 ti, .bool no, .string h, .int .i64 p]]) TTok FFok Tryz.func51 rfl rfl fun w0 => ?_
 conv => whnf
 refine VSeq.mk fun Kq hKq => ?_
 conv => whnf
 have hp := Hp.nil w0
 (refine hp.kboxA fun q w hp hx => ?_; conv => whnf)
 (refine hKq _ _ _ (.refl _) ?_; clear hKq Kq; conv => whnf)
 (refine VSeq.mk fun Kq hKq => ?_; conv => whnf)
 (refine VSeq.mk fun Kq hKq => ?_; conv => whnf)
 (refine VSeq.mk fun Kq hKq => ?_; conv => whnf)
 (refine ⟨_, _, Blk.ld (hp.get (i := 0) rfl) TTok rfl rfl, ?_⟩; conv => whnf)
 (refine hKq _ _ _ (.refl _) ?_; clear hKq Kq; conv => whnf)
 (refine ⟨fun hd => ?_, fun hd => ?_⟩ <;> (try simp only [Bool.not_eq_true', Bool.not_eq_false', decide_eq_true_eq, decide_eq_false_iff_not, ne_eq, Classical.not_not] at hd) <;> (conv => whnf))
 (refine hKq _ _ _ (.refl _) ?_; clear hKq Kq; conv => whnf)
 (refine VSeq.mk fun Kq hKq => ?_; conv => whnf)
 (refine hKq _ _ _ (.refl _) ?_; clear hKq Kq; conv => whnf)
 (refine ⟨congrArg Value.bool ?_, hp.ext⟩; rw [Bool.eq_iff_iff]; first | (simp only [Bool.or_eq_true, Bool.and_eq_true, decide_eq_true_eq, Bool.not_eq_true', decide_eq_false_iff_not, eq_self, true_and, and_true, true_iff, iff_true, false_iff, iff_false, reduceCtorEq, ne_eq, *] <;> omega) | (simp_all; fail_if_success skip) | (simp_all <;> omega))
 (refine ⟨_, _, Blk.ld (hp.get (i := 0) rfl) TTok rfl rfl, ?_⟩; conv => whnf)
 (refine hKq _ _ _ (.refl _) ?_; clear hKq Kq; conv => whnf)
 (refine ⟨fun hd => ?_, fun hd => ?_⟩ <;> (try simp only [Bool.not_eq_true', Bool.not_eq_false', decide_eq_true_eq, decide_eq_false_iff_not, ne_eq, Classical.not_not] at hd) <;> (conv => whnf))
 (refine VSeq.mk fun Kq hKq => ?_; conv => whnf)
 (refine hKq _ _ _ (.refl _) ?_; clear hKq Kq; conv => whnf)
 (refine ⟨congrArg Value.bool ?_, hp.ext⟩; rw [Bool.eq_iff_iff]; first | (simp only [Bool.or_eq_true, Bool.and_eq_true, decide_eq_true_eq, Bool.not_eq_true', decide_eq_false_iff_not, eq_self, true_and, and_true, true_iff, iff_true, false_iff, iff_false, reduceCtorEq, ne_eq, *] <;> omega) | (simp_all; fail_if_success skip) | (simp_all <;> omega))
 (refine hKq _ _ _ (.refl _) ?_; clear hKq Kq; conv => whnf)
 (refine VSeq.mk fun Kq hKq => ?_; conv => whnf)
 (refine VSeq.mk fun Kq hKq => ?_; conv => whnf)
 (refine ⟨_, _, Blk.ld (hp.get (i := 0) rfl) TTok rfl rfl, ?_⟩; conv => whnf)
 (refine hKq _ _ _ (.refl _) ?_; clear hKq Kq; conv => whnf)
 (refine And.intro (fun h => absurd (of_decide_eq_true h) (by first | (intro h2; exact absurd rfl h2) | omega | decide)) (fun _ => ?_); conv => whnf)
 (refine hKq _ _ _ (.refl _) ?_; clear hKq Kq; conv => whnf)
 (refine VSeq.mk fun Kq hKq => ?_; conv => whnf)
 (refine VSeq.mk fun Kq hKq => ?_; conv => whnf)
 (refine VSeq.mk fun Kq hKq => ?_; conv => whnf)
 (refine ⟨_, _, Blk.ld (hp.get (i := 0) rfl) TTok rfl rfl, ?_⟩; conv => whnf)
 (refine hKq _ _ _ (.refl _) ?_; clear hKq Kq; conv => whnf)
 (refine VSeq.mk fun Kq hKq => ?_; conv => whnf)
 (refine ⟨fun hd => ?_, fun hd => ?_⟩ <;> (try simp only [Bool.not_eq_true', Bool.not_eq_false', decide_eq_true_eq, decide_eq_false_iff_not, ne_eq, Classical.not_not] at hd) <;> (conv => whnf))
 (refine hKq _ _ _ (.refl _) ?_; clear hKq Kq; conv => whnf)
 (refine VSeq.mk fun Kq hKq => ?_; conv => whnf)
 (refine hKq _ _ _ (.refl _) ?_; clear hKq Kq; conv => whnf)
 (refine hKq _ _ _ (.refl _) ?_; clear hKq Kq; conv => whnf)
 (refine VSeq.mk fun Kq hKq => ?_; conv => whnf)
 (refine hKq _ _ _ (.refl _) ?_; clear hKq Kq; conv => whnf)
 (refine ⟨congrArg Value.bool ?_, hp.ext⟩; rw [Bool.eq_iff_iff]; first | (simp only [Bool.or_eq_true, Bool.and_eq_true, decide_eq_true_eq, Bool.not_eq_true', decide_eq_false_iff_not, eq_self, true_and, and_true, true_iff, iff_true, false_iff, iff_false, reduceCtorEq, ne_eq, *] <;> omega) | (simp_all; fail_if_success skip) | (simp_all <;> omega))
 (refine ⟨_, _, Blk.ld (hp.get (i := 0) rfl) TTok rfl rfl, ?_⟩; conv => whnf)
 (refine hKq _ _ _ (.refl _) ?_; clear hKq Kq; conv => whnf)
 (refine VSeq.mk fun Kq hKq => ?_; conv => whnf)
 (refine ⟨fun hd => ?_, fun hd => ?_⟩ <;> (try simp only [Bool.not_eq_true', Bool.not_eq_false', decide_eq_true_eq, decide_eq_false_iff_not, ne_eq, Classical.not_not] at hd) <;> (conv => whnf))
 (refine hKq _ _ _ (.refl _) ?_; clear hKq Kq; conv => whnf)
 (refine hKq _ _ _ (.refl _) ?_; clear hKq Kq; conv => whnf)
 (refine VSeq.mk fun Kq hKq => ?_; conv => whnf)
 (refine hKq _ _ _ (.refl _) ?_; clear hKq Kq; conv => whnf)
 (refine ⟨congrArg Value.bool ?_, hp.ext⟩; rw [Bool.eq_iff_iff]; first | (simp only [Bool.or_eq_true, Bool.and_eq_true, decide_eq_true_eq, Bool.not_eq_true', decide_eq_false_iff_not, eq_self, true_and, and_true, true_iff, iff_true, false_iff, iff_false, reduceCtorEq, ne_eq, *] <;> omega) | (simp_all; fail_if_success skip) | (simp_all <;> omega))
 (refine ⟨_, _, Blk.ld (hp.get (i := 0) rfl) TTok rfl rfl, ?_⟩; conv => whnf)
 (refine hKq _ _ _ (.refl _) ?_; clear hKq Kq; conv => whnf)
 (refine ⟨fun hd => ?_, fun hd => ?_⟩ <;> (try simp only [Bool.not_eq_true', Bool.not_eq_false', decide_eq_true_eq, decide_eq_false_iff_not, ne_eq, Classical.not_not] at hd) <;> (conv => whnf))
 (refine hKq _ _ _ (.refl _) ?_; clear hKq Kq; conv => whnf)
 (refine VSeq.mk fun Kq hKq => ?_; conv => whnf)
 (refine hKq _ _ _ (.refl _) ?_; clear hKq Kq; conv => whnf)
 (refine ⟨congrArg Value.bool ?_, hp.ext⟩; rw [Bool.eq_iff_iff]; first | (simp only [Bool.or_eq_true, Bool.and_eq_true, decide_eq_true_eq, Bool.not_eq_true', decide_eq_false_iff_not, eq_self, true_and, and_true, true_iff, iff_true, false_iff, iff_false, reduceCtorEq, ne_eq, *] <;> omega) | (simp_all; fail_if_success skip) | (simp_all <;> omega))
 (refine ⟨_, _, Blk.ld (hp.get (i := 0) rfl) TTok rfl rfl, ?_⟩; conv => whnf)
 (refine hKq _ _ _ (.refl _) ?_; clear hKq Kq; conv => whnf)
 (refine ⟨fun hd => ?_, fun hd => ?_⟩ <;> (try simp only [Bool.not_eq_true', Bool.not_eq_false', decide_eq_true_eq, decide_eq_false_iff_not, ne_eq, Classical.not_not] at hd) <;> (conv => whnf))
 (refine VSeq.mk fun Kq hKq => ?_; conv => whnf)
 (refine hKq _ _ _ (.refl _) ?_; clear hKq Kq; conv => whnf)
 (refine ⟨congrArg Value.bool ?_, hp.ext⟩; rw [Bool.eq_iff_iff]; first | (simp only [Bool.or_eq_true, Bool.and_eq_true, decide_eq_true_eq, Bool.not_eq_true', decide_eq_false_iff_not, eq_self, true_and, and_true, true_iff, iff_true, false_iff, iff_false, reduceCtorEq, ne_eq, *] <;> omega) | (simp_all; fail_if_success skip) | (simp_all <;> omega))
 (refine hKq _ _ _ (.refl _) ?_; clear hKq Kq; conv => whnf)
 (refine VSeq.mk fun Kq hKq => ?_; conv => whnf)
 (refine VSeq.mk fun Kq hKq => ?_; conv => whnf)
 (refine ⟨_, _, Blk.ld (hp.get (i := 0) rfl) TTok rfl rfl, ?_⟩; conv => whnf)
 (refine hKq _ _ _ (.refl _) ?_; clear hKq Kq; conv => whnf)
 (refine VSeq.mk fun Kq hKq => ?_; conv => whnf)
 (refine And.intro (fun _ => ?_) (fun h => absurd (by first | rfl | assumption | omega | decide) (of_decide_eq_false h)); conv => whnf)
 (refine ⟨_, _, Blk.ldV (vs := [_, _]) (hp.get (i := 0) rfl) TTok rfl rfl rfl, ?_⟩; conv => whnf)
 (refine V.CallW.out ?_; (conv => arg 3; dsimp only [EV.val, List.toList_toArray, List.nil_append, List.append_nil, List.cons_append]); (with_reducible refine V.PureF.useW (usable9_p _ _) fun w hx => ?_); try (have hp := hp.call hx); conv => whnf)
 (refine hKq _ _ _ (.refl _) ?_; clear hKq Kq; conv => whnf)
 (refine ⟨fun hd => ?_, fun hd => ?_⟩ <;> (try simp only [Bool.not_eq_true', Bool.not_eq_false', decide_eq_true_eq, decide_eq_false_iff_not, ne_eq, Classical.not_not] at hd) <;> (conv => whnf))
 (refine hKq _ _ _ (.refl _) ?_; clear hKq Kq; conv => whnf)
 (refine ⟨congrArg Value.bool ?_, hp.ext⟩; rw [Bool.eq_iff_iff]; first | (simp only [Bool.or_eq_true, Bool.and_eq_true, decide_eq_true_eq, Bool.not_eq_true', decide_eq_false_iff_not, eq_self, true_and, and_true, true_iff, iff_true, false_iff, iff_false, reduceCtorEq, ne_eq, *] <;> omega) | (simp_all; fail_if_success skip) | (simp_all <;> omega))
 (refine ⟨_, _, Blk.ld (hp.get (i := 0) rfl) TTok rfl rfl, ?_⟩; conv => whnf)
 (refine And.intro (fun h => absurd (of_decide_eq_true h) (by first | (intro h2; exact absurd rfl h2) | omega | decide)) (fun _ => ?_); conv => whnf)
 (refine hKq _ _ _ (.refl _) ?_; clear hKq Kq; conv => whnf)
 (refine ⟨congrArg Value.bool ?_, hp.ext⟩; rw [Bool.eq_iff_iff]; first | (simp only [Bool.or_eq_true, Bool.and_eq_true, decide_eq_true_eq, Bool.not_eq_true', decide_eq_false_iff_not, eq_self, true_and, and_true, true_iff, iff_true, false_iff, iff_false, reduceCtorEq, ne_eq, *] <;> omega) | (simp_all; fail_if_success skip) | (simp_all <;> omega))
theorem probe11_3 (id pr : Int) (ct : Bool) (ti : Int) (no : Bool) (h : ByteArray) (p : Int) (hm : Ad.Ok ⟨h, p⟩) : PureF Tryz.prog 51 #[.agg #[.int .i64 3, .int .i64 id, .int .i64 pr, .bool ct, .int .i64 ti, .bool no, .string h, .int .i64 p]] (.bool (probeB ⟨3, id, pr, ct, ti, no, ⟨h, p⟩⟩)) := by
 rw [probeB_3']
 unfold inB
 refine v_pure (args := [.agg #[.int .i64 3, .int .i64 id, .int .i64 pr, .bool ct, .int .i64 ti, .bool no, .string h, .int .i64 p]]) TTok FFok Tryz.func51 rfl rfl fun w0 => ?_
 conv => whnf
 refine VSeq.mk fun Kq hKq => ?_
 conv => whnf
 have hp := Hp.nil w0
 (refine hp.kboxA fun q w hp hx => ?_; conv => whnf)
 (refine hKq _ _ _ (.refl _) ?_; clear hKq Kq; conv => whnf)
 (refine VSeq.mk fun Kq hKq => ?_; conv => whnf)
 (refine VSeq.mk fun Kq hKq => ?_; conv => whnf)
 (refine VSeq.mk fun Kq hKq => ?_; conv => whnf)
 (refine ⟨_, _, Blk.ld (hp.get (i := 0) rfl) TTok rfl rfl, ?_⟩; conv => whnf)
 (refine hKq _ _ _ (.refl _) ?_; clear hKq Kq; conv => whnf)
 (refine ⟨fun hd => ?_, fun hd => ?_⟩ <;> (try simp only [Bool.not_eq_true', Bool.not_eq_false', decide_eq_true_eq, decide_eq_false_iff_not, ne_eq, Classical.not_not] at hd) <;> (conv => whnf))
 (refine hKq _ _ _ (.refl _) ?_; clear hKq Kq; conv => whnf)
 (refine VSeq.mk fun Kq hKq => ?_; conv => whnf)
 (refine hKq _ _ _ (.refl _) ?_; clear hKq Kq; conv => whnf)
 (refine ⟨congrArg Value.bool ?_, hp.ext⟩; rw [Bool.eq_iff_iff]; first | (simp only [Bool.or_eq_true, Bool.and_eq_true, decide_eq_true_eq, Bool.not_eq_true', decide_eq_false_iff_not, eq_self, true_and, and_true, true_iff, iff_true, false_iff, iff_false, reduceCtorEq, ne_eq, *] <;> omega) | (simp_all; fail_if_success skip) | (simp_all <;> omega))
 (refine ⟨_, _, Blk.ld (hp.get (i := 0) rfl) TTok rfl rfl, ?_⟩; conv => whnf)
 (refine hKq _ _ _ (.refl _) ?_; clear hKq Kq; conv => whnf)
 (refine ⟨fun hd => ?_, fun hd => ?_⟩ <;> (try simp only [Bool.not_eq_true', Bool.not_eq_false', decide_eq_true_eq, decide_eq_false_iff_not, ne_eq, Classical.not_not] at hd) <;> (conv => whnf))
 (refine VSeq.mk fun Kq hKq => ?_; conv => whnf)
 (refine hKq _ _ _ (.refl _) ?_; clear hKq Kq; conv => whnf)
 (refine ⟨congrArg Value.bool ?_, hp.ext⟩; rw [Bool.eq_iff_iff]; first | (simp only [Bool.or_eq_true, Bool.and_eq_true, decide_eq_true_eq, Bool.not_eq_true', decide_eq_false_iff_not, eq_self, true_and, and_true, true_iff, iff_true, false_iff, iff_false, reduceCtorEq, ne_eq, *] <;> omega) | (simp_all; fail_if_success skip) | (simp_all <;> omega))
 (refine hKq _ _ _ (.refl _) ?_; clear hKq Kq; conv => whnf)
 (refine VSeq.mk fun Kq hKq => ?_; conv => whnf)
 (refine VSeq.mk fun Kq hKq => ?_; conv => whnf)
 (refine ⟨_, _, Blk.ld (hp.get (i := 0) rfl) TTok rfl rfl, ?_⟩; conv => whnf)
 (refine hKq _ _ _ (.refl _) ?_; clear hKq Kq; conv => whnf)
 (refine And.intro (fun h => absurd (of_decide_eq_true h) (by first | (intro h2; exact absurd rfl h2) | omega | decide)) (fun _ => ?_); conv => whnf)
 (refine hKq _ _ _ (.refl _) ?_; clear hKq Kq; conv => whnf)
 (refine VSeq.mk fun Kq hKq => ?_; conv => whnf)
 (refine VSeq.mk fun Kq hKq => ?_; conv => whnf)
 (refine VSeq.mk fun Kq hKq => ?_; conv => whnf)
 (refine ⟨_, _, Blk.ld (hp.get (i := 0) rfl) TTok rfl rfl, ?_⟩; conv => whnf)
 (refine hKq _ _ _ (.refl _) ?_; clear hKq Kq; conv => whnf)
 (refine VSeq.mk fun Kq hKq => ?_; conv => whnf)
 (refine ⟨fun hd => ?_, fun hd => ?_⟩ <;> (try simp only [Bool.not_eq_true', Bool.not_eq_false', decide_eq_true_eq, decide_eq_false_iff_not, ne_eq, Classical.not_not] at hd) <;> (conv => whnf))
 (refine hKq _ _ _ (.refl _) ?_; clear hKq Kq; conv => whnf)
 (refine VSeq.mk fun Kq hKq => ?_; conv => whnf)
 (refine hKq _ _ _ (.refl _) ?_; clear hKq Kq; conv => whnf)
 (refine hKq _ _ _ (.refl _) ?_; clear hKq Kq; conv => whnf)
 (refine VSeq.mk fun Kq hKq => ?_; conv => whnf)
 (refine hKq _ _ _ (.refl _) ?_; clear hKq Kq; conv => whnf)
 (refine ⟨congrArg Value.bool ?_, hp.ext⟩; rw [Bool.eq_iff_iff]; first | (simp only [Bool.or_eq_true, Bool.and_eq_true, decide_eq_true_eq, Bool.not_eq_true', decide_eq_false_iff_not, eq_self, true_and, and_true, true_iff, iff_true, false_iff, iff_false, reduceCtorEq, ne_eq, *] <;> omega) | (simp_all; fail_if_success skip) | (simp_all <;> omega))
 (refine ⟨_, _, Blk.ld (hp.get (i := 0) rfl) TTok rfl rfl, ?_⟩; conv => whnf)
 (refine hKq _ _ _ (.refl _) ?_; clear hKq Kq; conv => whnf)
 (refine VSeq.mk fun Kq hKq => ?_; conv => whnf)
 (refine ⟨fun hd => ?_, fun hd => ?_⟩ <;> (try simp only [Bool.not_eq_true', Bool.not_eq_false', decide_eq_true_eq, decide_eq_false_iff_not, ne_eq, Classical.not_not] at hd) <;> (conv => whnf))
 (refine hKq _ _ _ (.refl _) ?_; clear hKq Kq; conv => whnf)
 (refine hKq _ _ _ (.refl _) ?_; clear hKq Kq; conv => whnf)
 (refine VSeq.mk fun Kq hKq => ?_; conv => whnf)
 (refine hKq _ _ _ (.refl _) ?_; clear hKq Kq; conv => whnf)
 (refine ⟨congrArg Value.bool ?_, hp.ext⟩; rw [Bool.eq_iff_iff]; first | (simp only [Bool.or_eq_true, Bool.and_eq_true, decide_eq_true_eq, Bool.not_eq_true', decide_eq_false_iff_not, eq_self, true_and, and_true, true_iff, iff_true, false_iff, iff_false, reduceCtorEq, ne_eq, *] <;> omega) | (simp_all; fail_if_success skip) | (simp_all <;> omega))
 (refine ⟨_, _, Blk.ld (hp.get (i := 0) rfl) TTok rfl rfl, ?_⟩; conv => whnf)
 (refine hKq _ _ _ (.refl _) ?_; clear hKq Kq; conv => whnf)
 (refine ⟨fun hd => ?_, fun hd => ?_⟩ <;> (try simp only [Bool.not_eq_true', Bool.not_eq_false', decide_eq_true_eq, decide_eq_false_iff_not, ne_eq, Classical.not_not] at hd) <;> (conv => whnf))
 (refine hKq _ _ _ (.refl _) ?_; clear hKq Kq; conv => whnf)
 (refine VSeq.mk fun Kq hKq => ?_; conv => whnf)
 (refine hKq _ _ _ (.refl _) ?_; clear hKq Kq; conv => whnf)
 (refine ⟨congrArg Value.bool ?_, hp.ext⟩; rw [Bool.eq_iff_iff]; first | (simp only [Bool.or_eq_true, Bool.and_eq_true, decide_eq_true_eq, Bool.not_eq_true', decide_eq_false_iff_not, eq_self, true_and, and_true, true_iff, iff_true, false_iff, iff_false, reduceCtorEq, ne_eq, *] <;> omega) | (simp_all; fail_if_success skip) | (simp_all <;> omega))
 (refine ⟨_, _, Blk.ld (hp.get (i := 0) rfl) TTok rfl rfl, ?_⟩; conv => whnf)
 (refine hKq _ _ _ (.refl _) ?_; clear hKq Kq; conv => whnf)
 (refine ⟨fun hd => ?_, fun hd => ?_⟩ <;> (try simp only [Bool.not_eq_true', Bool.not_eq_false', decide_eq_true_eq, decide_eq_false_iff_not, ne_eq, Classical.not_not] at hd) <;> (conv => whnf))
 (refine VSeq.mk fun Kq hKq => ?_; conv => whnf)
 (refine hKq _ _ _ (.refl _) ?_; clear hKq Kq; conv => whnf)
 (refine ⟨congrArg Value.bool ?_, hp.ext⟩; rw [Bool.eq_iff_iff]; first | (simp only [Bool.or_eq_true, Bool.and_eq_true, decide_eq_true_eq, Bool.not_eq_true', decide_eq_false_iff_not, eq_self, true_and, and_true, true_iff, iff_true, false_iff, iff_false, reduceCtorEq, ne_eq, *] <;> omega) | (simp_all; fail_if_success skip) | (simp_all <;> omega))
 (refine hKq _ _ _ (.refl _) ?_; clear hKq Kq; conv => whnf)
 (refine VSeq.mk fun Kq hKq => ?_; conv => whnf)
 (refine VSeq.mk fun Kq hKq => ?_; conv => whnf)
 (refine ⟨_, _, Blk.ld (hp.get (i := 0) rfl) TTok rfl rfl, ?_⟩; conv => whnf)
 (refine hKq _ _ _ (.refl _) ?_; clear hKq Kq; conv => whnf)
 (refine VSeq.mk fun Kq hKq => ?_; conv => whnf)
 (refine And.intro (fun h => absurd (of_decide_eq_true h) (by first | (intro h2; exact absurd rfl h2) | omega | decide)) (fun _ => ?_); conv => whnf)
 (refine hKq _ _ _ (.refl _) ?_; clear hKq Kq; conv => whnf)
 (refine ⟨_, _, Blk.ld (hp.get (i := 0) rfl) TTok rfl rfl, ?_⟩; conv => whnf)
 (refine And.intro (fun _ => ?_) (fun h => absurd (by first | rfl | assumption | omega | decide) (of_decide_eq_false h)); conv => whnf)
 (refine ⟨_, _, Blk.ldV (vs := [_, _]) (hp.get (i := 0) rfl) TTok rfl rfl rfl, ?_⟩; conv => whnf)
 (refine ⟨_, _, bld27_ _, ?_⟩; conv => whnf)
 (refine ⟨_, _, ((ad_eq _ ⟨_, _⟩ Ad.z hm Ad.z_ok _ _).1), ?_⟩; conv => whnf)
 (refine hKq _ _ _ (.refl _) ?_; clear hKq Kq; conv => whnf)
 (refine ⟨congrArg Value.bool ?_, hp.ext⟩; rw [Bool.eq_iff_iff]; first | (simp only [Bool.or_eq_true, Bool.and_eq_true, decide_eq_true_eq, Bool.not_eq_true', decide_eq_false_iff_not, eq_self, true_and, and_true, true_iff, iff_true, false_iff, iff_false, reduceCtorEq, ne_eq, *] <;> omega) | (simp_all; fail_if_success skip) | (simp_all <;> omega))
theorem probe11_x (k id pr : Int) (ct : Bool) (ti : Int) (no : Bool) (h : ByteArray) (p : Int) (h1 : k ≠ 1) (h2 : k ≠ 2) (h3 : k ≠ 3) : PureF Tryz.prog 51 #[.agg #[.int .i64 k, .int .i64 id, .int .i64 pr, .bool ct, .int .i64 ti, .bool no, .string h, .int .i64 p]] (.bool (probeB ⟨k, id, pr, ct, ti, no, ⟨h, p⟩⟩)) := by
 rw [probeB_x _ _ _ _ _ _ _ _ h1 h2 h3]
 refine v_pure (args := [.agg #[.int .i64 k, .int .i64 id, .int .i64 pr, .bool ct, .int .i64 ti, .bool no, .string h, .int .i64 p]]) TTok FFok Tryz.func51 rfl rfl fun w0 => ?_
 conv => whnf
 refine VSeq.mk fun Kq hKq => ?_
 conv => whnf
 have hp := Hp.nil w0
 (refine hp.kboxA fun q w hp hx => ?_; conv => whnf)
 (refine hKq _ _ _ (.refl _) ?_; clear hKq Kq; conv => whnf)
 (refine VSeq.mk fun Kq hKq => ?_; conv => whnf)
 (refine VSeq.mk fun Kq hKq => ?_; conv => whnf)
 (refine VSeq.mk fun Kq hKq => ?_; conv => whnf)
 (refine ⟨_, _, Blk.ld (hp.get (i := 0) rfl) TTok rfl rfl, ?_⟩; conv => whnf)
 (refine hKq _ _ _ (.refl _) ?_; clear hKq Kq; conv => whnf)
 (refine ⟨fun hd => ?_, fun hd => ?_⟩ <;> (try simp only [Bool.not_eq_true', Bool.not_eq_false', decide_eq_true_eq, decide_eq_false_iff_not, ne_eq, Classical.not_not] at hd) <;> (conv => whnf))
 (refine hKq _ _ _ (.refl _) ?_; clear hKq Kq; conv => whnf)
 (refine VSeq.mk fun Kq hKq => ?_; conv => whnf)
 (refine hKq _ _ _ (.refl _) ?_; clear hKq Kq; conv => whnf)
 (exact ⟨rfl, hp.ext⟩)
 (refine ⟨_, _, Blk.ld (hp.get (i := 0) rfl) TTok rfl rfl, ?_⟩; conv => whnf)
 (refine hKq _ _ _ (.refl _) ?_; clear hKq Kq; conv => whnf)
 (refine ⟨fun hd => ?_, fun hd => ?_⟩ <;> (try simp only [Bool.not_eq_true', Bool.not_eq_false', decide_eq_true_eq, decide_eq_false_iff_not, ne_eq, Classical.not_not] at hd) <;> (conv => whnf))
 (refine VSeq.mk fun Kq hKq => ?_; conv => whnf)
 (refine hKq _ _ _ (.refl _) ?_; clear hKq Kq; conv => whnf)
 (exact ⟨rfl, hp.ext⟩)
 (refine hKq _ _ _ (.refl _) ?_; clear hKq Kq; conv => whnf)
 (refine VSeq.mk fun Kq hKq => ?_; conv => whnf)
 (refine VSeq.mk fun Kq hKq => ?_; conv => whnf)
 (refine ⟨_, _, Blk.ld (hp.get (i := 0) rfl) TTok rfl rfl, ?_⟩; conv => whnf)
 (refine hKq _ _ _ (.refl _) ?_; clear hKq Kq; conv => whnf)
 (refine And.intro (fun h => absurd (of_decide_eq_true h) (by first | (intro h2; exact absurd rfl h2) | omega | decide)) (fun _ => ?_); conv => whnf)
 (refine hKq _ _ _ (.refl _) ?_; clear hKq Kq; conv => whnf)
 (refine VSeq.mk fun Kq hKq => ?_; conv => whnf)
 (refine VSeq.mk fun Kq hKq => ?_; conv => whnf)
 (refine VSeq.mk fun Kq hKq => ?_; conv => whnf)
 (refine ⟨_, _, Blk.ld (hp.get (i := 0) rfl) TTok rfl rfl, ?_⟩; conv => whnf)
 (refine hKq _ _ _ (.refl _) ?_; clear hKq Kq; conv => whnf)
 (refine VSeq.mk fun Kq hKq => ?_; conv => whnf)
 (refine ⟨fun hd => ?_, fun hd => ?_⟩ <;> (try simp only [Bool.not_eq_true', Bool.not_eq_false', decide_eq_true_eq, decide_eq_false_iff_not, ne_eq, Classical.not_not] at hd) <;> (conv => whnf))
 (refine hKq _ _ _ (.refl _) ?_; clear hKq Kq; conv => whnf)
 (refine VSeq.mk fun Kq hKq => ?_; conv => whnf)
 (refine hKq _ _ _ (.refl _) ?_; clear hKq Kq; conv => whnf)
 (refine hKq _ _ _ (.refl _) ?_; clear hKq Kq; conv => whnf)
 (refine VSeq.mk fun Kq hKq => ?_; conv => whnf)
 (refine hKq _ _ _ (.refl _) ?_; clear hKq Kq; conv => whnf)
 (exact ⟨rfl, hp.ext⟩)
 (refine ⟨_, _, Blk.ld (hp.get (i := 0) rfl) TTok rfl rfl, ?_⟩; conv => whnf)
 (refine hKq _ _ _ (.refl _) ?_; clear hKq Kq; conv => whnf)
 (refine VSeq.mk fun Kq hKq => ?_; conv => whnf)
 (refine ⟨fun hd => ?_, fun hd => ?_⟩ <;> (try simp only [Bool.not_eq_true', Bool.not_eq_false', decide_eq_true_eq, decide_eq_false_iff_not, ne_eq, Classical.not_not] at hd) <;> (conv => whnf))
 (refine hKq _ _ _ (.refl _) ?_; clear hKq Kq; conv => whnf)
 (refine hKq _ _ _ (.refl _) ?_; clear hKq Kq; conv => whnf)
 (refine VSeq.mk fun Kq hKq => ?_; conv => whnf)
 (refine hKq _ _ _ (.refl _) ?_; clear hKq Kq; conv => whnf)
 (exact ⟨rfl, hp.ext⟩)
 (refine ⟨_, _, Blk.ld (hp.get (i := 0) rfl) TTok rfl rfl, ?_⟩; conv => whnf)
 (refine hKq _ _ _ (.refl _) ?_; clear hKq Kq; conv => whnf)
 (refine ⟨fun hd => ?_, fun hd => ?_⟩ <;> (try simp only [Bool.not_eq_true', Bool.not_eq_false', decide_eq_true_eq, decide_eq_false_iff_not, ne_eq, Classical.not_not] at hd) <;> (conv => whnf))
 (refine hKq _ _ _ (.refl _) ?_; clear hKq Kq; conv => whnf)
 (refine VSeq.mk fun Kq hKq => ?_; conv => whnf)
 (refine hKq _ _ _ (.refl _) ?_; clear hKq Kq; conv => whnf)
 (exact ⟨rfl, hp.ext⟩)
 (refine ⟨_, _, Blk.ld (hp.get (i := 0) rfl) TTok rfl rfl, ?_⟩; conv => whnf)
 (refine hKq _ _ _ (.refl _) ?_; clear hKq Kq; conv => whnf)
 (refine ⟨fun hd => ?_, fun hd => ?_⟩ <;> (try simp only [Bool.not_eq_true', Bool.not_eq_false', decide_eq_true_eq, decide_eq_false_iff_not, ne_eq, Classical.not_not] at hd) <;> (conv => whnf))
 (refine VSeq.mk fun Kq hKq => ?_; conv => whnf)
 (refine hKq _ _ _ (.refl _) ?_; clear hKq Kq; conv => whnf)
 (exact ⟨rfl, hp.ext⟩)
 (refine hKq _ _ _ (.refl _) ?_; clear hKq Kq; conv => whnf)
 (refine VSeq.mk fun Kq hKq => ?_; conv => whnf)
 (refine VSeq.mk fun Kq hKq => ?_; conv => whnf)
 (refine ⟨_, _, Blk.ld (hp.get (i := 0) rfl) TTok rfl rfl, ?_⟩; conv => whnf)
 (refine hKq _ _ _ (.refl _) ?_; clear hKq Kq; conv => whnf)
 (refine VSeq.mk fun Kq hKq => ?_; conv => whnf)
 (refine And.intro (fun h => absurd (of_decide_eq_true h) (by first | (intro h2; exact absurd rfl h2) | omega | decide)) (fun _ => ?_); conv => whnf)
 (refine hKq _ _ _ (.refl _) ?_; clear hKq Kq; conv => whnf)
 (refine ⟨_, _, Blk.ld (hp.get (i := 0) rfl) TTok rfl rfl, ?_⟩; conv => whnf)
 (refine And.intro (fun h => absurd (of_decide_eq_true h) (by first | (intro h2; exact absurd rfl h2) | omega | decide)) (fun _ => ?_); conv => whnf)
 (refine hKq _ _ _ (.refl _) ?_; clear hKq Kq; conv => whnf)
 (exact ⟨rfl, hp.ext⟩)
theorem probe11_p (a : Prb) (ha : a.Ok) : PureF Tryz.prog 51 #[.agg a.c.toArray] (.bool (probeB a)) := by
 obtain ⟨k, id, pr, ct, ti, no, ⟨h, p⟩⟩ := a
 by_cases h1 : k = 1
 ·subst h1; exact probe11_1 _ _ _ _ _ _ _ ha.m
 by_cases h2 : k = 2
 ·subst h2; exact probe11_2 _ _ _ _ _ _ _
 by_cases h3 : k = 3
 ·subst h3; exact probe11_3 _ _ _ _ _ _ _ ha.m
 exact probe11_x _ _ _ _ _ _ _ _ h1 h2 h3
set_option maxHeartbeats 1600000
theorem wtB_all {x : Wt} (h1 : pathB x.a x.b = true) (h2 : 0 ≤ x.now ∧ x.now ≤ 1099511627776 ∧ 0 ≤ x.nxt ∧ x.nxt ≤ 1099511633776 ∧ 0 ≤ x.til ∧ x.til ≤ 1099511657776 ∧ 0 ≤ x.ser ∧ x.ser ≤ 1099511627776 ∧ 1 ≤ (x.noise.size : Int) ∧ (x.noise.size : Int) ≤ 64 ∧ (x.asked.length : Int) ≤ 8) (h3 : wordB x.word = true)
  (h4 : x.fresh = ⟨#[]⟩ ∨ (wordB x.fresh = true ∧ ¬ x.fresh = x.word)) : wtB x = (ascB (-1) x.ser x.asked && (if x.gone then decide ((x.asked.length : Int) = 0) && decide (x.fresh = ⟨#[]⟩) else decide (x.now < x.til))) := by
 obtain ⟨a1, a2, a3, a4, a5, a6, a7, a8, a9, a10, a11⟩ := h2
 unfold wtB inB
 rw [h1, decide_eq_true a1, decide_eq_true a2, decide_eq_true a3, decide_eq_true a4, decide_eq_true a5, decide_eq_true a6, decide_eq_true a7, decide_eq_true a8, decide_eq_true a9, decide_eq_true a10, decide_eq_true a11, h3]
 have : (decide (x.fresh = ⟨#[]⟩) || (wordB x.fresh && !decide (x.fresh = x.word))) = true := by
  rcases h4 with h | ⟨h, h'⟩
  ·simp [h]
  ·simp [h, h']
 rw [this]
 rfl
theorem wtB_spec {x : Wt} (h : wtB x = true) : pathB x.a x.b = true ∧ (0 ≤ x.now ∧ x.now ≤ 1099511627776 ∧ 0 ≤ x.nxt ∧ x.nxt ≤ 1099511633776 ∧ 0 ≤ x.til ∧ x.til ≤ 1099511657776 ∧ 0 ≤ x.ser ∧ x.ser ≤ 1099511627776 ∧ 1 ≤ (x.noise.size : Int) ∧ (x.noise.size : Int) ≤ 64 ∧ (x.asked.length : Int) ≤ 8) ∧ wordB x.word = true ∧
  (x.fresh = ⟨#[]⟩ ∨ (wordB x.fresh = true ∧ ¬ x.fresh = x.word)) ∧ ascB (-1) x.ser x.asked = true ∧ (x.gone = true → (x.asked.length : Int) = 0 ∧ x.fresh = ⟨#[]⟩) ∧ (x.gone = false → x.now < x.til) := by
 unfold wtB inB at h
 simp only [Bool.and_eq_true, Bool.or_eq_true, decide_eq_true_eq, Bool.not_eq_true', decide_eq_false_iff_not] at h
 obtain ⟨⟨h1, ⟨a1, a2⟩, ⟨a3, a4⟩, ⟨a5, a6⟩, a7, a8⟩, ⟨⟨a9, a10⟩, h3, h4, a11⟩, h5, h6⟩ := h
 refine ⟨h1, ⟨a1, a2, a3, a4, a5, a6, a7, a8, a9, a10, a11⟩, h3, h4, h5, fun hg => ?_, fun hg => ?_⟩
 ·rw [if_pos hg] at h6
  simpa using h6
 ·rw [if_neg (by rw [hg]; decide)] at h6
  simpa using h6
theorem right12_c {W : World} {v : Value} (x : Wt) (hok : x.Ok) (hv : SLv W v (iv x.asked)) :
  Calls Tryz.prog 11 #[.agg (x.c v).toArray] W fun e w' => e = .returned (.bool (wtB x)) ∧ Ext W w' := by
 have e0 : pathB x.a x.b = false → wtB x = false := fun h => wtB_1 (by rw [h]; rfl)
 have eA := @wtB_all x
 have eS := @wtB_spec x
 obtain ⟨⟨ah, ap⟩, ⟨bh, bp⟩, now, nxt, til, ser, gone, noise, word, fresh, asked⟩ := x
 obtain ⟨ha, hb', _, _, _, _, hno, hwo, hfr, _, hln⟩ := hok
 have hln2 : asked.length ≤ 9223372036854775807 := hln
 dsimp only [Wt.c] at hv hln ha hb' hwo hfr e0 eA eS ⊢
 obtain ⟨p, c, rfl⟩ := hv.shape
 have hsl : (iv asked).length = asked.length := List.length_map _
 rw [hsl] at hv ⊢
 obtain ⟨r, hr⟩ : ∃ r, wtB ⟨⟨ah, ap⟩, ⟨bh, bp⟩, now, nxt, til, ser, gone, noise, word, fresh, asked⟩ = r := ⟨_, rfl⟩
 rw [hr] at e0 eA eS ⊢
 clear hr
 have e1 : ¬ (0 ≤ now ∧ now ≤ 1099511627776 ∧ 0 ≤ nxt ∧ nxt ≤ 1099511633776 ∧ 0 ≤ til ∧ til ≤ 1099511657776 ∧ 0 ≤ ser ∧ ser ≤ 1099511627776 ∧ 1 ≤ (noise.size : Int) ∧ (noise.size : Int) ≤ 64 ∧ (asked.length : Int) ≤ 8) → r = false := fun h => by
  cases r
  ·rfl
  ·exact absurd (eS rfl).2.1 h
 have e2 : wordB word = false → r = false := fun h => by
  cases r
  ·rfl
  ·have := (eS rfl).2.2.1; rw [h] at this; cases this
 have e3 : ¬ fresh = ⟨#[]⟩ → (wordB fresh = false ∨ fresh = word ∨ gone = true) → r = false := fun h1 h2 => by
  cases r
  ·rfl
  ·obtain ⟨_, _, _, h4, _, h6, _⟩ := eS rfl
   rcases h4 with h4 | ⟨h4, h5⟩
   ·exact absurd h4 h1
   ·rcases h2 with h | h | h
    ·rw [h] at h4; cases h4
    ·exact absurd h h5
    ·exact absurd (h6 h).2 h1
 refine v_reads (args := [.agg #[.string ah, .int .i64 ap, .string bh, .int .i64 bp, .int .i64 now, .int .i64 nxt, .int .i64 til, .int .i64 ser, .bool gone, .string noise, .string word, .string fresh, .slice p asked.length c]]) TTok FFok Tryz.func11 rfl rfl ?_
 conv => whnf
 refine VSeq.mk fun Kq hKq => ?_
 conv => whnf
 have hp := Hp.nil W
 refine hp.kboxA fun q2 w hp hx => ?_
 conv => whnf
 refine hKq _ _ _ (.refl _) ?_
 clear hKq Kq
 conv => whnf
 refine VSeq.mk fun Kq hKq => ?_
 conv => whnf
 refine VSeq.mk fun Kq hKq => ?_
 conv => whnf
 refine VSeq.mk fun Kq hKq => ?_
 conv => whnf
 (refine ⟨_, _, Blk.ldV (vs := [_, _, _, _]) (hp.get (i := 0) rfl) TTok rfl rfl rfl, ?_⟩; conv => whnf)
 (refine V.CallW.out ?_; (conv => arg 3; dsimp only [EV.val, List.toList_toArray, List.nil_append, List.append_nil, List.cons_append]); (with_reducible refine V.PureF.useW (path12_p _ _ _ _ (by assumption) (by assumption)) fun w hx => ?_); try (have hp := hp.call hx); conv => whnf)
 (refine hKq _ _ _ (.refl _) ?_; clear hKq Kq; conv => whnf)
 (refine VSeq.mk fun Kq hKq => ?_; conv => whnf)
 (refine ⟨fun hd => ?_, fun hd => ?_⟩ <;> (try simp only [Bool.not_eq_true', Bool.not_eq_false', decide_eq_true_eq, decide_eq_false_iff_not, ne_eq, Classical.not_not] at hd) <;> (conv => whnf))
 (refine hKq _ _ _ (.refl _) ?_; clear hKq Kq; conv => whnf)
 (refine VSeq.mk fun Kq hKq => ?_; conv => whnf)
 (refine hKq _ _ _ (.refl _) ?_; clear hKq Kq; conv => whnf)
 (refine VSeq.mk fun Kq hKq => ?_; conv => whnf)
 (refine hKq _ _ _ (.refl _) ?_; clear hKq Kq; conv => whnf)
 (refine VSeq.mk fun Kq hKq => ?_; conv => whnf)
 (refine hKq _ _ _ (.refl _) ?_; clear hKq Kq; conv => whnf)
 (refine VSeq.mk fun Kq hKq => ?_; conv => whnf)
 (refine hKq _ _ _ (.refl _) ?_; clear hKq Kq; conv => whnf)
 (refine VSeq.mk fun Kq hKq => ?_; conv => whnf)
 (refine hKq _ _ _ (.refl _) ?_; clear hKq Kq; conv => whnf)
 (refine VSeq.mk fun Kq hKq => ?_; conv => whnf)
 (refine hKq _ _ _ (.refl _) ?_; clear hKq Kq; conv => whnf)
 (refine VSeq.mk fun Kq hKq => ?_; conv => whnf)
 (refine hKq _ _ _ (.refl _) ?_; clear hKq Kq; conv => whnf)
 (refine VSeq.mk fun Kq hKq => ?_; conv => whnf)
 (refine hKq _ _ _ (.refl _) ?_; clear hKq Kq; conv => whnf)
 (refine VSeq.mk fun Kq hKq => ?_; conv => whnf)
 (refine hKq _ _ _ (.refl _) ?_; clear hKq Kq; conv => whnf)
 (refine VSeq.mk fun Kq hKq => ?_; conv => whnf)
 (refine hKq _ _ _ (.refl _) ?_; clear hKq Kq; conv => whnf)
 (refine hKq _ _ _ (.refl _) ?_; clear hKq Kq; conv => whnf)
 (refine VSeq.mk fun Kq hKq => ?_; conv => whnf)
 (refine hKq _ _ _ (.refl _) ?_; clear hKq Kq; conv => whnf)
 (exact ⟨by (first | ((exact congrArg Value.bool (by first | exact (e0 (by assumption)).symm | exact (e2 (by assumption)).symm | exact (e1 (by omega)).symm | exact (e3 (by assumption) (.inl (by assumption))).symm | exact (e3 (by assumption) (.inr (.inl (by assumption)))).symm | exact (e3 (by assumption) (.inr (.inr (by assumption)))).symm))) | fail), hp.ext⟩)
 (refine ⟨_, _, Blk.ld (hp.get (i := 0) rfl) TTok rfl rfl, ?_⟩; conv => whnf)
 (refine hKq _ _ _ (.refl _) ?_; clear hKq Kq; conv => whnf)
 (refine VSeq.mk fun Kq hKq => ?_; conv => whnf)
 (refine ⟨fun hd => ?_, fun hd => ?_⟩ <;> (try simp only [Bool.not_eq_true', Bool.not_eq_false', decide_eq_true_eq, decide_eq_false_iff_not, ne_eq, Classical.not_not] at hd) <;> (conv => whnf))
 (refine hKq _ _ _ (.refl _) ?_; clear hKq Kq; conv => whnf)
 (refine VSeq.mk fun Kq hKq => ?_; conv => whnf)
 (refine hKq _ _ _ (.refl _) ?_; clear hKq Kq; conv => whnf)
 (refine VSeq.mk fun Kq hKq => ?_; conv => whnf)
 (refine hKq _ _ _ (.refl _) ?_; clear hKq Kq; conv => whnf)
 (refine VSeq.mk fun Kq hKq => ?_; conv => whnf)
 (refine hKq _ _ _ (.refl _) ?_; clear hKq Kq; conv => whnf)
 (refine VSeq.mk fun Kq hKq => ?_; conv => whnf)
 (refine hKq _ _ _ (.refl _) ?_; clear hKq Kq; conv => whnf)
 (refine VSeq.mk fun Kq hKq => ?_; conv => whnf)
 (refine hKq _ _ _ (.refl _) ?_; clear hKq Kq; conv => whnf)
 (refine VSeq.mk fun Kq hKq => ?_; conv => whnf)
 (refine hKq _ _ _ (.refl _) ?_; clear hKq Kq; conv => whnf)
 (refine VSeq.mk fun Kq hKq => ?_; conv => whnf)
 (refine hKq _ _ _ (.refl _) ?_; clear hKq Kq; conv => whnf)
 (refine VSeq.mk fun Kq hKq => ?_; conv => whnf)
 (refine hKq _ _ _ (.refl _) ?_; clear hKq Kq; conv => whnf)
 (refine VSeq.mk fun Kq hKq => ?_; conv => whnf)
 (refine hKq _ _ _ (.refl _) ?_; clear hKq Kq; conv => whnf)
 (refine hKq _ _ _ (.refl _) ?_; clear hKq Kq; conv => whnf)
 (refine VSeq.mk fun Kq hKq => ?_; conv => whnf)
 (refine hKq _ _ _ (.refl _) ?_; clear hKq Kq; conv => whnf)
 (exact ⟨by (first | ((exact congrArg Value.bool (by first | exact (e0 (by assumption)).symm | exact (e2 (by assumption)).symm | exact (e1 (by omega)).symm | exact (e3 (by assumption) (.inl (by assumption))).symm | exact (e3 (by assumption) (.inr (.inl (by assumption)))).symm | exact (e3 (by assumption) (.inr (.inr (by assumption)))).symm))) | fail), hp.ext⟩)
 (refine ⟨_, _, Blk.ld (hp.get (i := 0) rfl) TTok rfl rfl, ?_⟩; conv => whnf)
 (refine hKq _ _ _ (.refl _) ?_; clear hKq Kq; conv => whnf)
 (refine VSeq.mk fun Kq hKq => ?_; conv => whnf)
 (refine ⟨fun hd => ?_, fun hd => ?_⟩ <;> (try simp only [Bool.not_eq_true', Bool.not_eq_false', decide_eq_true_eq, decide_eq_false_iff_not, ne_eq, Classical.not_not] at hd) <;> (conv => whnf))
 (refine hKq _ _ _ (.refl _) ?_; clear hKq Kq; conv => whnf)
 (refine VSeq.mk fun Kq hKq => ?_; conv => whnf)
 (refine hKq _ _ _ (.refl _) ?_; clear hKq Kq; conv => whnf)
 (refine VSeq.mk fun Kq hKq => ?_; conv => whnf)
 (refine hKq _ _ _ (.refl _) ?_; clear hKq Kq; conv => whnf)
 (refine VSeq.mk fun Kq hKq => ?_; conv => whnf)
 (refine hKq _ _ _ (.refl _) ?_; clear hKq Kq; conv => whnf)
 (refine VSeq.mk fun Kq hKq => ?_; conv => whnf)
 (refine hKq _ _ _ (.refl _) ?_; clear hKq Kq; conv => whnf)
 (refine VSeq.mk fun Kq hKq => ?_; conv => whnf)
 (refine hKq _ _ _ (.refl _) ?_; clear hKq Kq; conv => whnf)
 (refine VSeq.mk fun Kq hKq => ?_; conv => whnf)
 (refine hKq _ _ _ (.refl _) ?_; clear hKq Kq; conv => whnf)
 (refine VSeq.mk fun Kq hKq => ?_; conv => whnf)
 (refine hKq _ _ _ (.refl _) ?_; clear hKq Kq; conv => whnf)
 (refine VSeq.mk fun Kq hKq => ?_; conv => whnf)
 (refine hKq _ _ _ (.refl _) ?_; clear hKq Kq; conv => whnf)
 (refine hKq _ _ _ (.refl _) ?_; clear hKq Kq; conv => whnf)
 (refine VSeq.mk fun Kq hKq => ?_; conv => whnf)
 (refine hKq _ _ _ (.refl _) ?_; clear hKq Kq; conv => whnf)
 (exact ⟨by (first | ((exact congrArg Value.bool (by first | exact (e0 (by assumption)).symm | exact (e2 (by assumption)).symm | exact (e1 (by omega)).symm | exact (e3 (by assumption) (.inl (by assumption))).symm | exact (e3 (by assumption) (.inr (.inl (by assumption)))).symm | exact (e3 (by assumption) (.inr (.inr (by assumption)))).symm))) | fail), hp.ext⟩)
 (refine ⟨_, _, Blk.ld (hp.get (i := 0) rfl) TTok rfl rfl, ?_⟩; conv => whnf)
 (refine hKq _ _ _ (.refl _) ?_; clear hKq Kq; conv => whnf)
 (refine VSeq.mk fun Kq hKq => ?_; conv => whnf)
 (refine ⟨fun hd => ?_, fun hd => ?_⟩ <;> (try simp only [Bool.not_eq_true', Bool.not_eq_false', decide_eq_true_eq, decide_eq_false_iff_not, ne_eq, Classical.not_not] at hd) <;> (conv => whnf))
 (refine hKq _ _ _ (.refl _) ?_; clear hKq Kq; conv => whnf)
 (refine VSeq.mk fun Kq hKq => ?_; conv => whnf)
 (refine hKq _ _ _ (.refl _) ?_; clear hKq Kq; conv => whnf)
 (refine VSeq.mk fun Kq hKq => ?_; conv => whnf)
 (refine hKq _ _ _ (.refl _) ?_; clear hKq Kq; conv => whnf)
 (refine VSeq.mk fun Kq hKq => ?_; conv => whnf)
 (refine hKq _ _ _ (.refl _) ?_; clear hKq Kq; conv => whnf)
 (refine VSeq.mk fun Kq hKq => ?_; conv => whnf)
 (refine hKq _ _ _ (.refl _) ?_; clear hKq Kq; conv => whnf)
 (refine VSeq.mk fun Kq hKq => ?_; conv => whnf)
 (refine hKq _ _ _ (.refl _) ?_; clear hKq Kq; conv => whnf)
 (refine VSeq.mk fun Kq hKq => ?_; conv => whnf)
 (refine hKq _ _ _ (.refl _) ?_; clear hKq Kq; conv => whnf)
 (refine VSeq.mk fun Kq hKq => ?_; conv => whnf)
 (refine hKq _ _ _ (.refl _) ?_; clear hKq Kq; conv => whnf)
 (refine hKq _ _ _ (.refl _) ?_; clear hKq Kq; conv => whnf)
 (refine VSeq.mk fun Kq hKq => ?_; conv => whnf)
 (refine hKq _ _ _ (.refl _) ?_; clear hKq Kq; conv => whnf)
 (exact ⟨by (first | ((exact congrArg Value.bool (by first | exact (e0 (by assumption)).symm | exact (e2 (by assumption)).symm | exact (e1 (by omega)).symm | exact (e3 (by assumption) (.inl (by assumption))).symm | exact (e3 (by assumption) (.inr (.inl (by assumption)))).symm | exact (e3 (by assumption) (.inr (.inr (by assumption)))).symm))) | fail), hp.ext⟩)
 (refine ⟨_, _, Blk.ld (hp.get (i := 0) rfl) TTok rfl rfl, ?_⟩; conv => whnf)
 (refine hKq _ _ _ (.refl _) ?_; clear hKq Kq; conv => whnf)
 (refine VSeq.mk fun Kq hKq => ?_; conv => whnf)
 (refine ⟨fun hd => ?_, fun hd => ?_⟩ <;> (try simp only [Bool.not_eq_true', Bool.not_eq_false', decide_eq_true_eq, decide_eq_false_iff_not, ne_eq, Classical.not_not] at hd) <;> (conv => whnf))
 (refine hKq _ _ _ (.refl _) ?_; clear hKq Kq; conv => whnf)
 (refine VSeq.mk fun Kq hKq => ?_; conv => whnf)
 (refine hKq _ _ _ (.refl _) ?_; clear hKq Kq; conv => whnf)
 (refine VSeq.mk fun Kq hKq => ?_; conv => whnf)
 (refine hKq _ _ _ (.refl _) ?_; clear hKq Kq; conv => whnf)
 (refine VSeq.mk fun Kq hKq => ?_; conv => whnf)
 (refine hKq _ _ _ (.refl _) ?_; clear hKq Kq; conv => whnf)
 (refine VSeq.mk fun Kq hKq => ?_; conv => whnf)
 (refine hKq _ _ _ (.refl _) ?_; clear hKq Kq; conv => whnf)
 (refine VSeq.mk fun Kq hKq => ?_; conv => whnf)
 (refine hKq _ _ _ (.refl _) ?_; clear hKq Kq; conv => whnf)
 (refine VSeq.mk fun Kq hKq => ?_; conv => whnf)
 (refine hKq _ _ _ (.refl _) ?_; clear hKq Kq; conv => whnf)
 (refine hKq _ _ _ (.refl _) ?_; clear hKq Kq; conv => whnf)
 (refine VSeq.mk fun Kq hKq => ?_; conv => whnf)
 (refine hKq _ _ _ (.refl _) ?_; clear hKq Kq; conv => whnf)
 (exact ⟨by (first | ((exact congrArg Value.bool (by first | exact (e0 (by assumption)).symm | exact (e2 (by assumption)).symm | exact (e1 (by omega)).symm | exact (e3 (by assumption) (.inl (by assumption))).symm | exact (e3 (by assumption) (.inr (.inl (by assumption)))).symm | exact (e3 (by assumption) (.inr (.inr (by assumption)))).symm))) | fail), hp.ext⟩)
 (refine ⟨_, _, Blk.ld (hp.get (i := 0) rfl) TTok rfl rfl, ?_⟩; conv => whnf)
 (refine hKq _ _ _ (.refl _) ?_; clear hKq Kq; conv => whnf)
 (refine VSeq.mk fun Kq hKq => ?_; conv => whnf)
 (refine ⟨fun hd => ?_, fun hd => ?_⟩ <;> (try simp only [Bool.not_eq_true', Bool.not_eq_false', decide_eq_true_eq, decide_eq_false_iff_not, ne_eq, Classical.not_not] at hd) <;> (conv => whnf))
 (refine hKq _ _ _ (.refl _) ?_; clear hKq Kq; conv => whnf)
 (refine VSeq.mk fun Kq hKq => ?_; conv => whnf)
 (refine hKq _ _ _ (.refl _) ?_; clear hKq Kq; conv => whnf)
 (refine VSeq.mk fun Kq hKq => ?_; conv => whnf)
 (refine hKq _ _ _ (.refl _) ?_; clear hKq Kq; conv => whnf)
 (refine VSeq.mk fun Kq hKq => ?_; conv => whnf)
 (refine hKq _ _ _ (.refl _) ?_; clear hKq Kq; conv => whnf)
 (refine VSeq.mk fun Kq hKq => ?_; conv => whnf)
 (refine hKq _ _ _ (.refl _) ?_; clear hKq Kq; conv => whnf)
 (refine VSeq.mk fun Kq hKq => ?_; conv => whnf)
 (refine hKq _ _ _ (.refl _) ?_; clear hKq Kq; conv => whnf)
 (refine hKq _ _ _ (.refl _) ?_; clear hKq Kq; conv => whnf)
 (refine VSeq.mk fun Kq hKq => ?_; conv => whnf)
 (refine hKq _ _ _ (.refl _) ?_; clear hKq Kq; conv => whnf)
 (exact ⟨by (first | ((exact congrArg Value.bool (by first | exact (e0 (by assumption)).symm | exact (e2 (by assumption)).symm | exact (e1 (by omega)).symm | exact (e3 (by assumption) (.inl (by assumption))).symm | exact (e3 (by assumption) (.inr (.inl (by assumption)))).symm | exact (e3 (by assumption) (.inr (.inr (by assumption)))).symm))) | fail), hp.ext⟩)
 (refine ⟨_, _, Blk.ld (hp.get (i := 0) rfl) TTok rfl rfl, ?_⟩; conv => whnf)
 (refine hKq _ _ _ (.refl _) ?_; clear hKq Kq; conv => whnf)
 (refine VSeq.mk fun Kq hKq => ?_; conv => whnf)
 (refine ⟨fun hd => ?_, fun hd => ?_⟩ <;> (try simp only [Bool.not_eq_true', Bool.not_eq_false', decide_eq_true_eq, decide_eq_false_iff_not, ne_eq, Classical.not_not] at hd) <;> (conv => whnf))
 (refine hKq _ _ _ (.refl _) ?_; clear hKq Kq; conv => whnf)
 (refine VSeq.mk fun Kq hKq => ?_; conv => whnf)
 (refine hKq _ _ _ (.refl _) ?_; clear hKq Kq; conv => whnf)
 (refine VSeq.mk fun Kq hKq => ?_; conv => whnf)
 (refine hKq _ _ _ (.refl _) ?_; clear hKq Kq; conv => whnf)
 (refine VSeq.mk fun Kq hKq => ?_; conv => whnf)
 (refine hKq _ _ _ (.refl _) ?_; clear hKq Kq; conv => whnf)
 (refine VSeq.mk fun Kq hKq => ?_; conv => whnf)
 (refine hKq _ _ _ (.refl _) ?_; clear hKq Kq; conv => whnf)
 (refine hKq _ _ _ (.refl _) ?_; clear hKq Kq; conv => whnf)
 (refine VSeq.mk fun Kq hKq => ?_; conv => whnf)
 (refine hKq _ _ _ (.refl _) ?_; clear hKq Kq; conv => whnf)
 (exact ⟨by (first | ((exact congrArg Value.bool (by first | exact (e0 (by assumption)).symm | exact (e2 (by assumption)).symm | exact (e1 (by omega)).symm | exact (e3 (by assumption) (.inl (by assumption))).symm | exact (e3 (by assumption) (.inr (.inl (by assumption)))).symm | exact (e3 (by assumption) (.inr (.inr (by assumption)))).symm))) | fail), hp.ext⟩)
 (refine ⟨_, _, Blk.ld (hp.get (i := 0) rfl) TTok rfl rfl, ?_⟩; conv => whnf)
 (refine hKq _ _ _ (.refl _) ?_; clear hKq Kq; conv => whnf)
 (refine VSeq.mk fun Kq hKq => ?_; conv => whnf)
 (refine ⟨fun hd => ?_, fun hd => ?_⟩ <;> (try simp only [Bool.not_eq_true', Bool.not_eq_false', decide_eq_true_eq, decide_eq_false_iff_not, ne_eq, Classical.not_not] at hd) <;> (conv => whnf))
 (refine hKq _ _ _ (.refl _) ?_; clear hKq Kq; conv => whnf)
 (refine VSeq.mk fun Kq hKq => ?_; conv => whnf)
 (refine hKq _ _ _ (.refl _) ?_; clear hKq Kq; conv => whnf)
 (refine VSeq.mk fun Kq hKq => ?_; conv => whnf)
 (refine hKq _ _ _ (.refl _) ?_; clear hKq Kq; conv => whnf)
 (refine VSeq.mk fun Kq hKq => ?_; conv => whnf)
 (refine hKq _ _ _ (.refl _) ?_; clear hKq Kq; conv => whnf)
 (refine hKq _ _ _ (.refl _) ?_; clear hKq Kq; conv => whnf)
 (refine VSeq.mk fun Kq hKq => ?_; conv => whnf)
 (refine hKq _ _ _ (.refl _) ?_; clear hKq Kq; conv => whnf)
 (exact ⟨by (first | ((exact congrArg Value.bool (by first | exact (e0 (by assumption)).symm | exact (e2 (by assumption)).symm | exact (e1 (by omega)).symm | exact (e3 (by assumption) (.inl (by assumption))).symm | exact (e3 (by assumption) (.inr (.inl (by assumption)))).symm | exact (e3 (by assumption) (.inr (.inr (by assumption)))).symm))) | fail), hp.ext⟩)
 (refine ⟨_, _, Blk.ld (hp.get (i := 0) rfl) TTok rfl rfl, ?_⟩; conv => whnf)
 (refine hKq _ _ _ (.refl _) ?_; clear hKq Kq; conv => whnf)
 (refine VSeq.mk fun Kq hKq => ?_; conv => whnf)
 (refine ⟨fun hd => ?_, fun hd => ?_⟩ <;> (try simp only [Bool.not_eq_true', Bool.not_eq_false', decide_eq_true_eq, decide_eq_false_iff_not, ne_eq, Classical.not_not] at hd) <;> (conv => whnf))
 (refine hKq _ _ _ (.refl _) ?_; clear hKq Kq; conv => whnf)
 (refine VSeq.mk fun Kq hKq => ?_; conv => whnf)
 (refine hKq _ _ _ (.refl _) ?_; clear hKq Kq; conv => whnf)
 (refine VSeq.mk fun Kq hKq => ?_; conv => whnf)
 (refine hKq _ _ _ (.refl _) ?_; clear hKq Kq; conv => whnf)
 (refine hKq _ _ _ (.refl _) ?_; clear hKq Kq; conv => whnf)
 (refine VSeq.mk fun Kq hKq => ?_; conv => whnf)
 (refine hKq _ _ _ (.refl _) ?_; clear hKq Kq; conv => whnf)
 (exact ⟨by (first | ((exact congrArg Value.bool (by first | exact (e0 (by assumption)).symm | exact (e2 (by assumption)).symm | exact (e1 (by omega)).symm | exact (e3 (by assumption) (.inl (by assumption))).symm | exact (e3 (by assumption) (.inr (.inl (by assumption)))).symm | exact (e3 (by assumption) (.inr (.inr (by assumption)))).symm))) | fail), hp.ext⟩)
 (refine ⟨_, _, Blk.ld (hp.get (i := 0) rfl) TTok rfl rfl, ?_⟩; conv => whnf)
 (refine hKq _ _ _ (.refl _) ?_; clear hKq Kq; conv => whnf)
 (refine VSeq.mk fun Kq hKq => ?_; conv => whnf)
 (refine ⟨fun hd => ?_, fun hd => ?_⟩ <;> (try simp only [Bool.not_eq_true', Bool.not_eq_false', decide_eq_true_eq, decide_eq_false_iff_not, ne_eq, Classical.not_not] at hd) <;> (conv => whnf))
 (refine hKq _ _ _ (.refl _) ?_; clear hKq Kq; conv => whnf)
 (refine VSeq.mk fun Kq hKq => ?_; conv => whnf)
 (refine hKq _ _ _ (.refl _) ?_; clear hKq Kq; conv => whnf)
 (refine hKq _ _ _ (.refl _) ?_; clear hKq Kq; conv => whnf)
 (refine VSeq.mk fun Kq hKq => ?_; conv => whnf)
 (refine hKq _ _ _ (.refl _) ?_; clear hKq Kq; conv => whnf)
 (exact ⟨by (first | ((exact congrArg Value.bool (by first | exact (e0 (by assumption)).symm | exact (e2 (by assumption)).symm | exact (e1 (by omega)).symm | exact (e3 (by assumption) (.inl (by assumption))).symm | exact (e3 (by assumption) (.inr (.inl (by assumption)))).symm | exact (e3 (by assumption) (.inr (.inr (by assumption)))).symm))) | fail), hp.ext⟩)
 (refine ⟨_, _, Blk.ld (hp.get (i := 0) rfl) TTok rfl rfl, ?_⟩; conv => whnf)
 (refine hKq _ _ _ (.refl _) ?_; clear hKq Kq; conv => whnf)
 (refine VSeq.mk fun Kq hKq => ?_; conv => whnf)
 (refine ⟨fun hd => ?_, fun hd => ?_⟩ <;> (try simp only [Bool.not_eq_true', Bool.not_eq_false', decide_eq_true_eq, decide_eq_false_iff_not, ne_eq, Classical.not_not] at hd) <;> (conv => whnf))
 (refine hKq _ _ _ (.refl _) ?_; clear hKq Kq; conv => whnf)
 (refine hKq _ _ _ (.refl _) ?_; clear hKq Kq; conv => whnf)
 (refine VSeq.mk fun Kq hKq => ?_; conv => whnf)
 (refine hKq _ _ _ (.refl _) ?_; clear hKq Kq; conv => whnf)
 (exact ⟨by (first | ((exact congrArg Value.bool (by first | exact (e0 (by assumption)).symm | exact (e2 (by assumption)).symm | exact (e1 (by omega)).symm | exact (e3 (by assumption) (.inl (by assumption))).symm | exact (e3 (by assumption) (.inr (.inl (by assumption)))).symm | exact (e3 (by assumption) (.inr (.inr (by assumption)))).symm))) | fail), hp.ext⟩)
 (refine ⟨_, _, Blk.ld (hp.get (i := 0) rfl) TTok rfl rfl, ?_⟩; conv => whnf)
 (refine V.CallW.out ?_; (conv => arg 3; dsimp only [EV.val, List.toList_toArray, List.nil_append, List.append_nil, List.cons_append]); (with_reducible refine V.PureF.useW (word12_p _ (by assumption)) fun w hx => ?_); try (have hp := hp.call hx); conv => whnf)
 (refine hKq _ _ _ (.refl _) ?_; clear hKq Kq; conv => whnf)
 (refine ⟨fun hd => ?_, fun hd => ?_⟩ <;> (try simp only [Bool.not_eq_true', Bool.not_eq_false', decide_eq_true_eq, decide_eq_false_iff_not, ne_eq, Classical.not_not] at hd) <;> (conv => whnf))
 (refine hKq _ _ _ (.refl _) ?_; clear hKq Kq; conv => whnf)
 (refine VSeq.mk fun Kq hKq => ?_; conv => whnf)
 (refine hKq _ _ _ (.refl _) ?_; clear hKq Kq; conv => whnf)
 (exact ⟨by (first | ((exact congrArg Value.bool (by first | exact (e0 (by assumption)).symm | exact (e2 (by assumption)).symm | exact (e1 (by omega)).symm | exact (e3 (by assumption) (.inl (by assumption))).symm | exact (e3 (by assumption) (.inr (.inl (by assumption)))).symm | exact (e3 (by assumption) (.inr (.inr (by assumption)))).symm))) | fail), hp.ext⟩)
 (refine ⟨_, _, Blk.ld (hp.get (i := 0) rfl) TTok rfl rfl, ?_⟩; conv => whnf)
 (refine hKq _ _ _ (.refl _) ?_; clear hKq Kq; conv => whnf)
 (refine ⟨fun hd => ?_, fun hd => ?_⟩ <;> (try simp only [Bool.not_eq_true', Bool.not_eq_false', decide_eq_true_eq, decide_eq_false_iff_not, ne_eq, Classical.not_not] at hd) <;> (conv => whnf))
 (refine VSeq.mk fun Kq hKq => ?_; conv => whnf)
 (refine hKq _ _ _ (.refl _) ?_; clear hKq Kq; conv => whnf)
 (exact ⟨by (first | ((exact congrArg Value.bool (by first | exact (e0 (by assumption)).symm | exact (e2 (by assumption)).symm | exact (e1 (by omega)).symm | exact (e3 (by assumption) (.inl (by assumption))).symm | exact (e3 (by assumption) (.inr (.inl (by assumption)))).symm | exact (e3 (by assumption) (.inr (.inr (by assumption)))).symm))) | fail), hp.ext⟩)
 (refine hKq _ _ _ (.refl _) ?_; clear hKq Kq; conv => whnf)
 (refine VSeq.mk fun Kq hKq => ?_; conv => whnf)
 (refine VSeq.mk fun Kq hKq => ?_; conv => whnf)
 (refine VSeq.mk fun Kq hKq => ?_; conv => whnf)
 (refine ⟨_, _, Blk.ld (hp.get (i := 0) rfl) TTok rfl rfl, ?_⟩; conv => whnf)
 (refine hKq _ _ _ (.refl _) ?_; clear hKq Kq; conv => whnf)
 (refine ⟨fun hd => ?_, fun hd => ?_⟩ <;> (try simp only [Bool.not_eq_true', Bool.not_eq_false', decide_eq_true_eq, decide_eq_false_iff_not, ne_eq, Classical.not_not] at hd) <;> (conv => whnf))
 (refine ⟨_, _, Blk.ld (hp.get (i := 0) rfl) TTok rfl rfl, ?_⟩; conv => whnf)
 (refine V.CallW.out ?_; (conv => arg 3; dsimp only [EV.val, List.toList_toArray, List.nil_append, List.append_nil, List.cons_append]); (with_reducible refine V.PureF.useW (word12_p _ (by assumption)) fun w hx => ?_); try (have hp := hp.call hx); conv => whnf)
 (refine ⟨fun hd => ?_, fun hd => ?_⟩ <;> (try simp only [Bool.not_eq_true', Bool.not_eq_false', decide_eq_true_eq, decide_eq_false_iff_not, ne_eq, Classical.not_not] at hd) <;> (conv => whnf))
 (refine hKq _ _ _ (.refl _) ?_; clear hKq Kq; conv => whnf)
 (refine VSeq.mk fun Kq hKq => ?_; conv => whnf)
 (refine hKq _ _ _ (.refl _) ?_; clear hKq Kq; conv => whnf)
 (exact ⟨by (first | ((exact congrArg Value.bool (by first | exact (e0 (by assumption)).symm | exact (e2 (by assumption)).symm | exact (e1 (by omega)).symm | exact (e3 (by assumption) (.inl (by assumption))).symm | exact (e3 (by assumption) (.inr (.inl (by assumption)))).symm | exact (e3 (by assumption) (.inr (.inr (by assumption)))).symm))) | fail), hp.ext⟩)
 (refine ⟨_, _, Blk.ld (hp.get (i := 0) rfl) TTok rfl rfl, ?_⟩; conv => whnf)
 (refine ⟨_, _, Blk.ld (hp.get (i := 0) rfl) TTok rfl rfl, ?_⟩; conv => whnf)
 (refine ⟨fun hd => ?_, fun hd => ?_⟩ <;> (try simp only [Bool.not_eq_true', Bool.not_eq_false', decide_eq_true_eq, decide_eq_false_iff_not, ne_eq, Classical.not_not] at hd) <;> (conv => whnf))
 (refine hKq _ _ _ (.refl _) ?_; clear hKq Kq; conv => whnf)
 (refine VSeq.mk fun Kq hKq => ?_; conv => whnf)
 (refine hKq _ _ _ (.refl _) ?_; clear hKq Kq; conv => whnf)
 (exact ⟨by (first | ((exact congrArg Value.bool (by first | exact (e0 (by assumption)).symm | exact (e2 (by assumption)).symm | exact (e1 (by omega)).symm | exact (e3 (by assumption) (.inl (by assumption))).symm | exact (e3 (by assumption) (.inr (.inl (by assumption)))).symm | exact (e3 (by assumption) (.inr (.inr (by assumption)))).symm))) | fail), hp.ext⟩)
 (refine ⟨_, _, Blk.ld (hp.get (i := 0) rfl) TTok rfl rfl, ?_⟩; conv => whnf)
 (refine hKq _ _ _ (.refl _) ?_; clear hKq Kq; conv => whnf)
 (refine ⟨fun hd => ?_, fun hd => ?_⟩ <;> (try simp only [Bool.not_eq_true', Bool.not_eq_false', decide_eq_true_eq, decide_eq_false_iff_not, ne_eq, Classical.not_not] at hd) <;> (conv => whnf))
 (refine VSeq.mk fun Kq hKq => ?_; conv => whnf)
 (refine hKq _ _ _ (.refl _) ?_; clear hKq Kq; conv => whnf)
 (exact ⟨by (first | ((exact congrArg Value.bool (by first | exact (e0 (by assumption)).symm | exact (e2 (by assumption)).symm | exact (e1 (by omega)).symm | exact (e3 (by assumption) (.inl (by assumption))).symm | exact (e3 (by assumption) (.inr (.inl (by assumption)))).symm | exact (e3 (by assumption) (.inr (.inr (by assumption)))).symm))) | fail), hp.ext⟩)
 (refine hKq _ _ _ (.refl _) ?_; clear hKq Kq; conv => whnf)
 (refine VSeq.mk fun Kq hKq => ?_; conv => whnf)
 (refine VSeq.mk fun Kq hKq => ?_; conv => whnf)
 (refine hKq _ _ _ (.refl _) ?_; clear hKq Kq; conv => whnf)
 rotate_left
 (refine hKq _ _ _ (.refl _) ?_; clear hKq Kq; conv => whnf)
 (refine hKq _ _ _ (.refl _) ?_; clear hKq Kq; conv => whnf)
 (refine VSeq.mk fun Kq hKq => ?_; conv => whnf)
 (refine VSeq.mk fun Kq hKq => ?_; conv => whnf)
 (refine hKq _ _ _ (.refl _) ?_; clear hKq Kq; conv => whnf)
 rotate_left
 all_goals
  have eB := eA (by assumption) (by omega) (by assumption) (by first | exact .inl (by assumption) | exact .inr ⟨by assumption, by assumption⟩)
  have hl8 : asked.length ≤ 8 := by omega
  have e5 : ascB (-1) ser asked = false → r = false := fun h => by rw [eB, h]; rfl
  have e6 : ascB (-1) ser asked = true → r = (if gone = true then decide ((asked.length : Int) = 0) && decide (fresh = ⟨#[]⟩) else decide (now < til)) := fun h => by rw [eB, h]; rfl
  clear e0 e1 e2 e3 eA eS eB
  refine ⟨fun mm e w' => ∃ (i : Nat) (last : Int), mm + i = asked.length ∧ e = [(1, .v (.pointer (some ⟨q2, 0, none⟩))), (3, .v (.int .i64 i))] ∧ ascB last ser (asked.drop i) = ascB (-1) ser asked ∧ -1 ≤ last ∧ (i = 0 → last = -1) ∧ (∀ j, i = j + 1 → asked[j]? = some last ∧ 0 ≤ last) ∧ HpM [] W w' [blk q2 [.string ah, .int .i64 ap, .string bh, .int .i64 bp, .int .i64 now, .int .i64 nxt, .int .i64 til, .int .i64 ser, .bool gone, .string noise, .string word, .string fresh, .slice p asked.length c] 34],
   ⟨asked.length, _, ⟨0, -1, by omega, rfl, rfl, by omega, fun _ => rfl, fun j hj => by omega, hp⟩, sub_cons rfl (sub_cons rfl sub_nil)⟩, ?_⟩
  rintro mm _ w ⟨i, last, hmm, rfl, has, hl1, hl2, hl3, hp⟩
  conv => whnf
  refine VSeq.mk fun Kq hKq => ?_
  conv => whnf
  refine VSeq.mk fun Kq hKq => ?_
  conv => whnf
  refine ⟨_, _, Blk.ld (hp.get (i := 0) rfl) TTok rfl (rfl), ?_⟩
  conv => whnf
  refine hKq _ _ _ (.refl _) ?_
  clear hKq Kq
  conv => whnf
  refine ⟨fun hlt => ?_, fun hlt => ?_⟩
  ·have hlt := of_decide_eq_true hlt
   conv => whnf
   refine hKq _ _ _ (.refl _) ?_
   clear hKq Kq
   conv => whnf
   refine VSeq.mk fun Kq hKq => ?_
   conv => whnf
   refine VSeq.mk fun Kq hKq => ?_
   conv => whnf
   have hi : i < asked.length := by omega
   obtain ⟨a, ha⟩ : ∃ a, asked[i]? = some a := ⟨asked[i], List.getElem?_eq_getElem hi⟩
   obtain ⟨g, off, rfl, hld⟩ := (hv.ext hp.ext).at (j := i) (x := .int .i64 a) (by rw [List.getElem?_map, ha]; rfl)
   have hdr : asked.drop i = a :: asked.drop (i + 1) := by rw [List.drop_eq_getElem_cons hi]; congr 1; rw [List.getElem?_eq_getElem hi] at ha; exact Option.some.inj ha
   rw [hdr, ascB_cons] at has
   rw [Nat.add_comm] at hld
   have hfail : ¬ (last < a ∧ a < ser) → r = false := fun hn => by
    refine e5 ?_
    rw [← has]
    rw [← Bool.not_eq_true]
    simp only [Bool.and_eq_true, decide_eq_true_eq]
    omega
   have hpre : ∀ j, i = j + 1 → ∃ g' off', (some (⟨g, off, none⟩ : Addr)) = some ⟨g', off', none⟩ ∧ w.cell? ⟨g', off' + j, none⟩ = some (.int .i64 last) := fun j hj => (hv.ext hp.ext).at (j := j) (x := .int .i64 last) (by rw [List.getElem?_map, (hl3 j hj).1]; rfl)
   refine v_mixA TTok FFok mixed [(0, false), (1, false), (2, false), (3, false), (4, false), (5, false), (6, false), (7, false), (8, false), (9, false), (10, false), (11, false), (12, false), (13, false), (14, false), (15, false), (16, false), (17, false), (18, false), (19, false), (20, false), (21, false), (22, false), (23, false), (24, false), (25, false), (26, false), (27, false), (28, false), (29, false), (30, false), (31, false), (32, false), (33, false)] (by kernel_rfl) ?_
   conv => whnf
   (refine ⟨_, fun w' hx' => Blk.ld (Blk.ext (hp.get (i := 0) rfl) hx') TTok rfl rfl, ?_⟩; conv => whnf)
   (refine ⟨_, ⟨rfl, by omega⟩, ?_⟩; conv => whnf)
   refine ⟨_, fun w' hx' => run_ld TTok rfl (hx'.cell hld), ?_⟩
   conv => whnf
   refine ⟨fun h1 => ?_, fun h1 => ?_⟩
   ·have h1 := of_decide_eq_true h1
    conv => whnf
    have hr := hfail (by omega)
    (intro w hx; try (have hp := hp.call hx); conv => whnf)
    (refine hKq _ _ _ (.refl _) ?_; clear hKq Kq; conv => whnf)
    (refine VSeq.mk fun Kq hKq => ?_; conv => whnf)
    (refine hKq _ _ _ (.refl _) ?_; clear hKq Kq; conv => whnf)
    (exact ⟨by (first | ((exact congrArg Value.bool hr.symm)) | fail), hp.ext⟩)
   ·have h1 := of_decide_eq_false h1
    conv => whnf
    (refine ⟨_, fun w' hx' => Blk.ld (Blk.ext (hp.get (i := 0) rfl) hx') TTok rfl rfl, ?_⟩; conv => whnf)
    (refine ⟨_, ⟨rfl, by omega⟩, ?_⟩; conv => whnf)
    refine ⟨_, fun w' hx' => run_ld TTok rfl (hx'.cell hld), ?_⟩
    conv => whnf
    (refine ⟨_, fun w' hx' => Blk.ld (Blk.ext (hp.get (i := 0) rfl) hx') TTok rfl rfl, ?_⟩; conv => whnf)
    refine ⟨fun h2 => ?_, fun h2 => ?_⟩
    ·have h2 := of_decide_eq_true h2
     conv => whnf
     have hr := hfail (by omega)
     (intro w hx; try (have hp := hp.call hx); conv => whnf)
     (refine hKq _ _ _ (.refl _) ?_; clear hKq Kq; conv => whnf)
     (refine VSeq.mk fun Kq hKq => ?_; conv => whnf)
     (refine hKq _ _ _ (.refl _) ?_; clear hKq Kq; conv => whnf)
     (exact ⟨by (first | ((exact congrArg Value.bool hr.symm)) | fail), hp.ext⟩)
    ·have h2 := of_decide_eq_false h2
     conv => whnf
     by_cases hi0 : i = 0
     ·have hl2 := hl2 hi0
      rw [decide_eq_true (show a < ser by omega), decide_eq_true (show last < a by omega), Bool.true_and, Bool.true_and] at has
      (refine And.intro (fun h => absurd (of_decide_eq_true h) (by first | (intro h2; exact absurd rfl h2) | omega | decide)) (fun _ => ?_); conv => whnf)
      (intro w hx; try (have hp := hp.call hx); conv => whnf)
      (refine hKq _ _ _ (.refl _) ?_; clear hKq Kq; conv => whnf)
      (refine hKq _ _ _ (.refl _) ?_; clear hKq Kq; conv => whnf)
      (refine Or.inl (And.intro (by first | omega | decide) ?_); conv => whnf)
      exact ⟨mm - 1, _, by omega, ⟨i + 1, a, by omega, rfl, has, by omega, by omega, fun j hj => by (obtain rfl : j = i := by omega); exact ⟨ha, by omega⟩, hp⟩, sub_cons rfl (sub_cons rfl sub_nil)⟩
     ·obtain ⟨j, rfl⟩ : ∃ j, i = j + 1 := ⟨i - 1, by omega⟩
      obtain ⟨g', off', hgo, hld2⟩ := hpre j rfl
      simp only [Option.some.injEq, Addr.mk.injEq, and_true] at hgo
      obtain ⟨rfl, rfl⟩ := hgo
      rw [Nat.add_comm] at hld2
      have hl3 := (hl3 j rfl).2
      (refine And.intro (fun _ => ?_) (fun h => absurd (by first | rfl | assumption | omega | decide) (of_decide_eq_false h)); conv => whnf)
      (refine ⟨_, fun w' hx' => Blk.ld (Blk.ext (hp.get (i := 0) rfl) hx') TTok rfl rfl, ?_⟩; conv => whnf)
      (refine ⟨_, ⟨rfl, by omega⟩, ?_⟩; conv => whnf)
      refine ⟨_, fun w' hx' => run_ld TTok rfl (hx'.cell hld), ?_⟩
      conv => whnf
      (refine ⟨_, fun w' hx' => Blk.ld (Blk.ext (hp.get (i := 0) rfl) hx') TTok rfl rfl, ?_⟩; conv => whnf)
      (refine Or.inl (And.intro (by first | omega | decide) ?_); conv => whnf)
      refine ⟨j, ⟨by first | rfl | omega, by omega⟩, ?_⟩
      conv => whnf
      refine ⟨_, fun w' hx' => run_ld TTok rfl (hx'.cell hld2), ?_⟩
      conv => whnf
      (intro w hx; try (have hp := hp.call hx); conv => whnf)
      (refine hKq _ _ _ (.refl _) ?_; clear hKq Kq; conv => whnf)
      refine ⟨fun h3 => ?_, fun h3 => ?_⟩
      ·have h3 := of_decide_eq_true h3
       conv => whnf
       refine VSeq.mk fun Kq hKq => ?_
       conv => whnf
       refine hKq _ _ _ (.refl _) ?_
       clear hKq Kq
       conv => whnf
       have hr := hfail (by omega)
       (exact ⟨by (first | ((exact congrArg Value.bool hr.symm)) | fail), hp.ext⟩)
      ·have h3 := of_decide_eq_false h3
       conv => whnf
       refine hKq _ _ _ (.refl _) ?_
       clear hKq Kq
       conv => whnf
       refine Or.inl (And.intro (by omega) ?_)
       conv => whnf
       rw [decide_eq_true (show a < ser by omega), decide_eq_true (show last < a by omega), Bool.true_and, Bool.true_and] at has
       skip
       exact ⟨mm - 1, _, by omega, ⟨j + 1 + 1, a, by omega, rfl, has, by omega, by omega, fun j' hj => by (obtain rfl : j' = j + 1 := by omega); exact ⟨ha, by omega⟩, hp⟩, sub_cons rfl (sub_cons rfl sub_nil)⟩
  ·have hlt := of_decide_eq_false hlt
   conv => whnf
   clear hKq Kq
   refine hKq _ _ _ (.refl _) ?_
   clear hKq Kq
   conv => whnf
   refine VSeq.mk fun Kq hKq => ?_
   conv => whnf
   refine VSeq.mk fun Kq hKq => ?_
   conv => whnf
   have hi : i = asked.length := by omega
   subst hi
   rw [List.drop_of_length_le (Nat.le_refl _)] at has
   have e6 := e6 (by rw [← has]; rfl)
   clear has e5
   cases gone with
   | true =>
    try contradiction
    all_goals
     (refine ⟨_, _, Blk.ld (hp.get (i := 0) rfl) TTok rfl rfl, ?_⟩; conv => whnf)
     (refine hKq _ _ _ (.refl _) ?_; clear hKq Kq; conv => whnf)
     (refine And.intro (fun _ => ?_) (fun h => absurd h (by decide)); conv => whnf)
     (refine VSeq.mk fun Kq hKq => ?_; conv => whnf)
     (refine ⟨_, _, Blk.ld (hp.get (i := 0) rfl) TTok rfl rfl, ?_⟩; conv => whnf)
     (refine hKq _ _ _ (.refl _) ?_; clear hKq Kq; conv => whnf)
     (exact ⟨by (first | ((exact congrArg Value.bool (by rw [e6]; simp [*]))) | fail), hp.ext⟩)
   | false =>
    (refine ⟨_, _, Blk.ld (hp.get (i := 0) rfl) TTok rfl rfl, ?_⟩; conv => whnf)
    (refine hKq _ _ _ (.refl _) ?_; clear hKq Kq; conv => whnf)
    (refine And.intro (fun h => absurd h (by decide)) (fun _ => ?_); conv => whnf)
    (refine hKq _ _ _ (.refl _) ?_; clear hKq Kq; conv => whnf)
    (refine VSeq.mk fun Kq hKq => ?_; conv => whnf)
    (refine ⟨_, _, Blk.ld (hp.get (i := 0) rfl) TTok rfl rfl, ?_⟩; conv => whnf)
    (refine ⟨_, _, Blk.ld (hp.get (i := 0) rfl) TTok rfl rfl, ?_⟩; conv => whnf)
    (refine hKq _ _ _ (.refl _) ?_; clear hKq Kq; conv => whnf)
    (exact ⟨by (first | ((exact congrArg Value.bool (by rw [e6]; simp [*]))) | fail), hp.ext⟩)
set_option maxHeartbeats 1600000
theorem Errors_c {W : World} {v : Value} (x : Wt) (hok : x.Ok) (hv : SLv W v (iv x.asked)) (now : Int) :
  Calls Tryz.prog 46 #[.agg (x.c v).toArray, .int .i64 now] W fun e w' => e = .returned (.int .i64 (startN x now)) ∧ Ext W w' := by
 have s1 := fun {W : World} (hv : SLv W v (iv x.asked)) => right12_c (W := W) x hok hv
 unfold startN inB
 obtain ⟨r, hr⟩ : ∃ r, wtB x = r := ⟨_, rfl⟩
 rw [hr] at s1 ⊢
 clear hr hok
 obtain ⟨⟨ah, ap⟩, ⟨bh, bp⟩, now0, nxt, til, ser, gone, noise, word, fresh, asked⟩ := x
 dsimp only [Wt.c] at hv s1 ⊢
 have hsl : (iv asked).length = asked.length := List.length_map _
 obtain ⟨p, c, rfl⟩ := hv.shape
 rw [hsl] at hv s1 ⊢
 refine v_reads (args := [.agg #[.string ah, .int .i64 ap, .string bh, .int .i64 bp, .int .i64 now0, .int .i64 nxt, .int .i64 til, .int .i64 ser, .bool gone, .string noise, .string word, .string fresh, .slice p asked.length c], .int .i64 now]) TTok FFok Tryz.func46 rfl rfl ?_
 conv => whnf
 refine VSeq.mk fun Kq hKq => ?_
 conv => whnf
 have hp := Hp.nil W
 refine hp.kboxA fun q2 w hp hx => ?_
 conv => whnf
 refine hKq _ _ _ (.refl _) ?_
 clear hKq Kq
 conv => whnf
 refine VSeq.mk fun Kq hKq => ?_
 conv => whnf
 refine VSeq.mk fun Kq hKq => ?_
 conv => whnf
 (refine ⟨_, _, Blk.ldV (vs := [_, _, _, _, _, _, _, _, _, _, _, _, _]) (hp.get (i := 0) rfl) TTok rfl rfl rfl, ?_⟩; conv => whnf)
 refine V.CallsUse (s1 (hv.ext hp.ext)) fun w hx => ?_
 have hp := hp.call hx
 conv => whnf
 clear s1
 cases r with
 | false =>
  (refine hKq _ _ _ (.refl _) ?_; clear hKq Kq; conv => whnf)
  (refine And.intro (fun _ => ?_) (fun h => absurd h (by decide)); conv => whnf)
  (refine VSeq.mk fun Kq hKq => ?_; conv => whnf)
  (refine hKq _ _ _ (.refl _) ?_; clear hKq Kq; conv => whnf)
  (exact ⟨rfl, hp.ext⟩)
 | true =>
  (refine hKq _ _ _ (.refl _) ?_; clear hKq Kq; conv => whnf)
  (refine And.intro (fun h => absurd h (by decide)) (fun _ => ?_); conv => whnf)
  (refine hKq _ _ _ (.refl _) ?_; clear hKq Kq; conv => whnf)
  (refine VSeq.mk fun Kq hKq => ?_; conv => whnf)
  (refine VSeq.mk fun Kq hKq => ?_; conv => whnf)
  (refine VSeq.mk fun Kq hKq => ?_; conv => whnf)
  (refine ⟨_, _, Blk.ld (hp.get (i := 0) rfl) TTok rfl rfl, ?_⟩; conv => whnf)
  (refine hKq _ _ _ (.refl _) ?_; clear hKq Kq; conv => whnf)
  (refine ⟨fun hd => ?_, fun hd => ?_⟩ <;> (try simp only [Bool.not_eq_true', Bool.not_eq_false', decide_eq_true_eq, decide_eq_false_iff_not, ne_eq, Classical.not_not] at hd) <;> (conv => whnf))
  (refine hKq _ _ _ (.refl _) ?_; clear hKq Kq; conv => whnf)
  (refine VSeq.mk fun Kq hKq => ?_; conv => whnf)
  (refine hKq _ _ _ (.refl _) ?_; clear hKq Kq; conv => whnf)
  (exact ⟨by (first | ((exact congrArg (Value.int .i64) (by first | (rw [if_pos rfl, if_neg (by simp only [Bool.and_eq_true, decide_eq_true_eq]; omega)]) | (rw [if_pos rfl, if_pos (by simp only [Bool.and_eq_true, decide_eq_true_eq]; omega)])))) | fail), hp.ext⟩)
  (refine hKq _ _ _ (.refl _) ?_; clear hKq Kq; conv => whnf)
  (refine ⟨fun hd => ?_, fun hd => ?_⟩ <;> (try simp only [Bool.not_eq_true', Bool.not_eq_false', decide_eq_true_eq, decide_eq_false_iff_not, ne_eq, Classical.not_not] at hd) <;> (conv => whnf))
  (refine VSeq.mk fun Kq hKq => ?_; conv => whnf)
  (refine hKq _ _ _ (.refl _) ?_; clear hKq Kq; conv => whnf)
  (exact ⟨by (first | ((exact congrArg (Value.int .i64) (by first | (rw [if_pos rfl, if_neg (by simp only [Bool.and_eq_true, decide_eq_true_eq]; omega)]) | (rw [if_pos rfl, if_pos (by simp only [Bool.and_eq_true, decide_eq_true_eq]; omega)])))) | fail), hp.ext⟩)
  (refine hKq _ _ _ (.refl _) ?_; clear hKq Kq; conv => whnf)
  (refine VSeq.mk fun Kq hKq => ?_; conv => whnf)
  (refine hKq _ _ _ (.refl _) ?_; clear hKq Kq; conv => whnf)
  (exact ⟨by (first | ((exact congrArg (Value.int .i64) (by first | (rw [if_pos rfl, if_neg (by simp only [Bool.and_eq_true, decide_eq_true_eq]; omega)]) | (rw [if_pos rfl, if_pos (by simp only [Bool.and_eq_true, decide_eq_true_eq]; omega)])))) | fail), hp.ext⟩)
theorem At12_c {W : World} {v : Value} (x : Wt) (now : Int) (hv : SLv W v (iv x.asked)) (hl : x.asked.length ≤ 100000) :
  Calls Tryz.prog 47 #[.agg (x.c v).toArray, .int .i64 now] W fun e w' => ∃ u, e = .returned u ∧ ∃ v', u = .agg ((atW x now).c v').toArray ∧ HpM [] W w' [row 3 1 v' (atW x now).asked.length (iv (atW x now).asked)] := by
 have hsl : (iv x.asked).length = x.asked.length := List.length_map _
 have h1 : ∀ u ∈ iv x.asked, u.oneCell' = true := fun u hu => by
  obtain ⟨a, _, rfl⟩ := List.mem_map.1 hu
  rfl
 have hsrc := fun {w : World} (h : Ext W w) => (hv.ext h).src TTok (tx := 32) rfl h1
 cases hg : goesB x now with
 | true =>
  rw [atW_t hg]
  obtain ⟨⟨ah, ap⟩, ⟨bh, bp⟩, now0, nxt, til, ser, gone, noise, word, fresh, asked⟩ := x
  unfold goesB at hg
  simp only [Bool.and_eq_true, decide_eq_true_eq, Bool.not_eq_true'] at hg
  obtain ⟨hg1, rfl⟩ := hg
  dsimp only [Wt.c] at hv hl hsl h1 hsrc ⊢
  obtain ⟨p, c, rfl⟩ := hv.shape
  rw [hsl] at hv hsrc ⊢
  refine v_fn (args := [.agg #[.string ah, .int .i64 ap, .string bh, .int .i64 bp, .int .i64 now0, .int .i64 nxt, .int .i64 til, .int .i64 ser, .bool false, .string noise, .string word, .string fresh, .slice p asked.length c], .int .i64 now]) TTok FFok Tryz.func47 rfl (Nat.le_of_ble_eq_true rfl) ?_
  conv => whnf
  refine VSeq.mk fun Kq hKq => ?_
  conv => whnf
  have hp := Hp.nil W
  refine hp.kboxA fun q2 w hp hx => ?_
  conv => whnf
  (refine hp.kalloc z34 fun al34 w hp hx => ?_; conv => whnf)
  (refine hKq _ _ _ (.refl _) ?_; clear hKq Kq; conv => whnf)
  (refine VSeq.mk fun Kq hKq => ?_; conv => whnf)
  (refine hKq _ _ _ (.refl _) ?_; clear hKq Kq; conv => whnf)
  (refine VSeq.mk fun Kq hKq => ?_; conv => whnf)
  (refine ⟨_, _, Blk.ld (hp.get (i := 1) rfl) TTok rfl rfl, ?_⟩; conv => whnf)
  have hp := hp.knil 3 1
  refine hp.kapp sl32 0 rfl (hsrc hp.ext) (by omega) (by unfold maxLen; omega) fun v' w hp => ?_
  simp only [List.set_cons_zero, List.set_cons_succ] at hp
  obtain ⟨p1, c1, rfl⟩ := row_shape (hp.get (i := 0) rfl)
  conv => whnf
  (refine hp.kst1 TTok (by rfl) 2 (by rfl) (by rfl) (by rfl) (Nat.le_of_ble_eq_true rfl) fun w hp => ?_; try simp only [List.set_cons_zero, List.set_cons_succ, EV.val] at hp; conv => whnf)
  (refine hKq _ _ _ (.refl _) ?_; clear hKq Kq; conv => whnf)
  (refine VSeq.mk fun Kq hKq => ?_; conv => whnf)
  (refine hp.kst1 TTok (by rfl) 2 (by rfl) (by rfl) (by rfl) (Nat.le_of_ble_eq_true rfl) fun w hp => ?_; try simp only [List.set_cons_zero, List.set_cons_succ, EV.val] at hp; conv => whnf)
  (refine hKq _ _ _ (.refl _) ?_; clear hKq Kq; conv => whnf)
  (refine VSeq.mk fun Kq hKq => ?_; conv => whnf)
  (refine VSeq.mk fun Kq hKq => ?_; conv => whnf)
  (refine VSeq.mk fun Kq hKq => ?_; conv => whnf)
  (refine ⟨_, _, Blk.ld (hp.get (i := 2) rfl) TTok rfl rfl, ?_⟩; conv => whnf)
  (refine hKq _ _ _ (.refl _) ?_; clear hKq Kq; conv => whnf)
  (refine And.intro (fun _ => ?_) (fun h => absurd (by first | rfl | assumption | omega | decide) (of_decide_eq_false h)); conv => whnf)
  (refine ⟨_, _, Blk.ld (hp.get (i := 2) rfl) TTok rfl rfl, ?_⟩; conv => whnf)
  (refine hKq _ _ _ (.refl _) ?_; clear hKq Kq; conv => whnf)
  (refine And.intro (fun _ => ?_) (fun h => absurd h (by decide)); conv => whnf)
  (refine VSeq.mk fun Kq hKq => ?_; conv => whnf)
  (refine hp.kst1 TTok (by rfl) 2 (by rfl) (by rfl) (by rfl) (Nat.le_of_ble_eq_true rfl) fun w hp => ?_; try simp only [List.set_cons_zero, List.set_cons_succ, EV.val] at hp; conv => whnf)
  (refine hKq _ _ _ (.refl _) ?_; clear hKq Kq; conv => whnf)
  (refine VSeq.mk fun Kq hKq => ?_; conv => whnf)
  (refine hp.kst1 TTok (by rfl) 2 (by rfl) (by rfl) (by rfl) (Nat.le_of_ble_eq_true rfl) fun w hp => ?_; try simp only [List.set_cons_zero, List.set_cons_succ, EV.val] at hp; conv => whnf)
  (refine hKq _ _ _ (.refl _) ?_; clear hKq Kq; conv => whnf)
  (refine hp.kst1 TTok (by rfl) 2 (by rfl) (by rfl) (by rfl) (Nat.le_of_ble_eq_true rfl) fun w hp => ?_; try simp only [List.set_cons_zero, List.set_cons_succ, EV.val] at hp; conv => whnf)
  (refine hKq _ _ _ (.refl _) ?_; clear hKq Kq; conv => whnf)
  (refine VSeq.mk fun Kq hKq => ?_; conv => whnf)
  (refine ⟨_, _, Blk.ldV (vs := [_, _, _, _, _, _, _, _, _, _, _, _, _]) (hp.get (i := 2) rfl) TTok rfl rfl rfl, ?_⟩; conv => whnf)
  (refine hp.kstA TTok rfl 1 rfl rfl (oneC_of rfl) (by rfl) fun w hp => ?_; try simp only [List.set_cons_zero, List.set_cons_succ, EV.val] at hp; conv => whnf)
  (refine hKq _ _ _ (.refl _) ?_; clear hKq Kq; conv => whnf)
  (refine ⟨_, Blk.lvN (hp.get (i := 1) rfl) TTok rfl rfl, ?_⟩; conv => whnf)
  exact ⟨_, rfl, (hp.sub (List.nil_sublist _)).knil 3 1⟩
 | false =>
  rw [atW_f hg]
  obtain ⟨⟨ah, ap⟩, ⟨bh, bp⟩, now0, nxt, til, ser, gone, noise, word, fresh, asked⟩ := x
  unfold goesB at hg
  dsimp only [Wt.c] at hv hl hsl h1 hg hsrc ⊢
  obtain ⟨p, c, rfl⟩ := hv.shape
  rw [hsl] at hv hsrc ⊢
  refine v_fn (args := [.agg #[.string ah, .int .i64 ap, .string bh, .int .i64 bp, .int .i64 now0, .int .i64 nxt, .int .i64 til, .int .i64 ser, .bool gone, .string noise, .string word, .string fresh, .slice p asked.length c], .int .i64 now]) TTok FFok Tryz.func47 rfl (Nat.le_of_ble_eq_true rfl) ?_
  conv => whnf
  refine VSeq.mk fun Kq hKq => ?_
  conv => whnf
  have hp := Hp.nil W
  refine hp.kboxA fun q2 w hp hx => ?_
  conv => whnf
  (refine hp.kalloc z34 fun al34 w hp hx => ?_; conv => whnf)
  (refine hKq _ _ _ (.refl _) ?_; clear hKq Kq; conv => whnf)
  (refine VSeq.mk fun Kq hKq => ?_; conv => whnf)
  (refine hKq _ _ _ (.refl _) ?_; clear hKq Kq; conv => whnf)
  (refine VSeq.mk fun Kq hKq => ?_; conv => whnf)
  (refine ⟨_, _, Blk.ld (hp.get (i := 1) rfl) TTok rfl rfl, ?_⟩; conv => whnf)
  have hp := hp.knil 3 1
  refine hp.kapp sl32 0 rfl (hsrc hp.ext) (by omega) (by unfold maxLen; omega) fun v' w hp => ?_
  simp only [List.set_cons_zero, List.set_cons_succ] at hp
  obtain ⟨p1, c1, rfl⟩ := row_shape (hp.get (i := 0) rfl)
  conv => whnf
  (refine hp.kst1 TTok (by rfl) 2 (by rfl) (by rfl) (by rfl) (Nat.le_of_ble_eq_true rfl) fun w hp => ?_; try simp only [List.set_cons_zero, List.set_cons_succ, EV.val] at hp; conv => whnf)
  (refine hKq _ _ _ (.refl _) ?_; clear hKq Kq; conv => whnf)
  (refine VSeq.mk fun Kq hKq => ?_; conv => whnf)
  (refine hp.kst1 TTok (by rfl) 2 (by rfl) (by rfl) (by rfl) (Nat.le_of_ble_eq_true rfl) fun w hp => ?_; try simp only [List.set_cons_zero, List.set_cons_succ, EV.val] at hp; conv => whnf)
  (refine hKq _ _ _ (.refl _) ?_; clear hKq Kq; conv => whnf)
  (refine VSeq.mk fun Kq hKq => ?_; conv => whnf)
  (refine VSeq.mk fun Kq hKq => ?_; conv => whnf)
  (refine VSeq.mk fun Kq hKq => ?_; conv => whnf)
  (refine ⟨_, _, Blk.ld (hp.get (i := 2) rfl) TTok rfl rfl, ?_⟩; conv => whnf)
  (refine hKq _ _ _ (.refl _) ?_; clear hKq Kq; conv => whnf)
  rw [Nat.zero_add, List.nil_append] at hp
  refine ⟨fun h1 => ?_, fun h1 => ?_⟩
  ·have h1 := of_decide_eq_true h1
   conv => whnf
   rw [decide_eq_true h1] at hg
   cases gone with
   | true =>
    (refine ⟨_, _, Blk.ld (hp.get (i := 2) rfl) TTok rfl rfl, ?_⟩; conv => whnf)
    (refine hKq _ _ _ (.refl _) ?_; clear hKq Kq; conv => whnf)
    (refine And.intro (fun h => absurd h (by decide)) (fun _ => ?_); conv => whnf)
    (refine hKq _ _ _ (.refl _) ?_; clear hKq Kq; conv => whnf)
    (refine VSeq.mk fun Kq hKq => ?_; conv => whnf)
    (refine ⟨_, _, Blk.ldV (vs := [_, _, _, _, _, _, _, _, _, _, _, _, _]) (hp.get (i := 2) rfl) TTok rfl rfl rfl, ?_⟩; conv => whnf)
    (refine hp.kstA TTok rfl 1 rfl rfl (oneC_of rfl) (by rfl) fun w hp => ?_; try simp only [List.set_cons_zero, List.set_cons_succ, EV.val] at hp; conv => whnf)
    (refine hKq _ _ _ (.refl _) ?_; clear hKq Kq; conv => whnf)
    (refine ⟨_, Blk.lvN (hp.get (i := 1) rfl) TTok rfl rfl, ?_⟩; conv => whnf)
    exact ⟨_, rfl, hp.pick [0] (by decide)⟩
   | false => simp at hg
  ·have h1 := of_decide_eq_false h1
   conv => whnf
   refine hKq _ _ _ (.refl _) ?_
   clear hKq Kq
   conv => whnf
   refine hKq _ _ _ (.refl _) ?_
   clear hKq Kq
   conv => whnf
   refine VSeq.mk fun Kq hKq => ?_
   conv => whnf
   (refine ⟨_, _, Blk.ldV (vs := [_, _, _, _, _, _, _, _, _, _, _, _, _]) (hp.get (i := 2) rfl) TTok rfl rfl rfl, ?_⟩; conv => whnf)
   (refine hp.kstA TTok rfl 1 rfl rfl (oneC_of rfl) (by rfl) fun w hp => ?_; try simp only [List.set_cons_zero, List.set_cons_succ, EV.val] at hp; conv => whnf)
   (refine hKq _ _ _ (.refl _) ?_; clear hKq Kq; conv => whnf)
   (refine ⟨_, Blk.lvN (hp.get (i := 1) rfl) TTok rfl rfl, ?_⟩; conv => whnf)
   exact ⟨_, rfl, hp.pick [0] (by decide)⟩
set_option maxHeartbeats 1600000
def zW : Wt := ⟨Ad.z, Ad.z, 0, 0, 0, 0, false, ⟨#[]⟩, ⟨#[]⟩, ⟨#[]⟩, []⟩
def chkW (x : Wt) : Int := if wtB x then 0 else 120
theorem Check12_c {W : World} {v : Value} (x : Wt) (hok : x.Ok) (hv : SLv W v (iv x.asked)) :
  Calls Tryz.prog 12 #[.agg (x.c v).toArray] W fun e w' => e = .returned (.int .i64 (chkW x)) ∧ Ext W w' := by
 have s1 := fun {W : World} {q : Nat} (hb : Blk W q (gC x v (.slice none 0 0)) 87) (hv : SLv W v (iv x.asked)) => valid_c (W := W) (q := q) (out := .slice none 0 0) x hok hb hv
 unfold chkW
 obtain ⟨r, hr⟩ : ∃ r, wtB x = r := ⟨_, rfl⟩
 rw [hr] at s1 ⊢
 clear hr hok
 obtain ⟨⟨ah, ap⟩, ⟨bh, bp⟩, now, nxt, til, ser, gone, noise, word, fresh, asked⟩ := x
 dsimp only [Wt.c] at hv s1 ⊢
 have hsl : (iv asked).length = asked.length := List.length_map _
 obtain ⟨p, c, rfl⟩ := hv.shape
 rw [hsl] at hv s1 ⊢
 dsimp only [gC] at s1
 refine v_reads (args := [.agg #[.string ah, .int .i64 ap, .string bh, .int .i64 bp, .int .i64 now, .int .i64 nxt, .int .i64 til, .int .i64 ser, .bool gone, .string noise, .string word, .string fresh, .slice p asked.length c]]) TTok FFok Tryz.func12 rfl rfl ?_
 conv => whnf
 refine VSeq.mk fun Kq hKq => ?_
 conv => whnf
 have hp := Hp.nil W
 refine hp.kboxA fun q2 w hp hx => ?_
 conv => whnf
 refine hKq _ _ _ (.refl _) ?_
 clear hKq Kq
 conv => whnf
 refine VSeq.mk fun Kq hKq => ?_
 conv => whnf
 refine VSeq.mk fun Kq hKq => ?_
 conv => whnf
 (refine ⟨_, _, Blk.ldV (vs := [_, _, _, _, _, _, _, _, _, _, _, _, _]) (hp.get (i := 0) rfl) TTok rfl rfl rfl, ?_⟩; conv => whnf)
 (refine ⟨_, _, bld87_0 _ _ _ _ _ _ _ _ _ _ _ _ _ _, ?_⟩; conv => whnf)
 (refine hp.kboxA fun q w hp hx => ?_; conv => whnf)
 (refine hKq _ _ _ (.refl _) ?_; clear hKq Kq; conv => whnf)
 (refine VSeq.mk fun Kq hKq => ?_; conv => whnf)
 refine V.CallsUse (s1 (hp.get (i := 0) rfl) (hv.ext hp.ext)) fun w hx => ?_
 have hp := hp.call hx
 conv => whnf
 clear s1
 cases r with
 | true =>
  (refine hKq _ _ _ (.refl _) ?_; clear hKq Kq; conv => whnf)
  (refine And.intro (fun h => absurd h (by decide)) (fun _ => ?_); conv => whnf)
  (refine hKq _ _ _ (.refl _) ?_; clear hKq Kq; conv => whnf)
  (refine VSeq.mk fun Kq hKq => ?_; conv => whnf)
  (refine hKq _ _ _ (.refl _) ?_; clear hKq Kq; conv => whnf)
  (exact ⟨rfl, hp.ext⟩)
 | false =>
  (refine hKq _ _ _ (.refl _) ?_; clear hKq Kq; conv => whnf)
  (refine And.intro (fun _ => ?_) (fun h => absurd h (by decide)); conv => whnf)
  (refine VSeq.mk fun Kq hKq => ?_; conv => whnf)
  (refine hKq _ _ _ (.refl _) ?_; clear hKq Kq; conv => whnf)
  (exact ⟨rfl, hp.ext⟩)
def wakeW (x : Wt) : Int × Int := if wtB x then (if x.gone then (0, 4) else (max x.now (min x.nxt x.til), 0)) else (0, 120)
theorem wtB_now {x : Wt} (h : wtB x = true) : inB x.now x.now 1099511627776 = true := by
 obtain ⟨_, ⟨_, h2, _⟩, _⟩ := wtB_spec h
 unfold inB
 rw [decide_eq_true (Int.le_refl _), decide_eq_true h2]; rfl
theorem wtB_len {x : Wt} (h : wtB x = true) : x.asked.length ≤ 8 := by
 obtain ⟨_, ⟨_, _, _, _, _, _, _, _, _, _, h2⟩, _⟩ := wtB_spec h
 omega
theorem Wake12_c {W : World} {v : Value} (x : Wt) (hok : x.Ok) (hv : SLv W v (iv x.asked)) :
  Calls Tryz.prog 13 #[.agg (x.c v).toArray] W fun e w' => e = .returned (.tuple #[.int .i64 (wakeW x).1, .int .i64 (wakeW x).2]) ∧ Ext W w' := by
 have s1 := fun {W : World} (hv : SLv W v (iv x.asked)) => start_v (W := W) x hok hv x.now
 have s2 := fun {W : World} (hv : SLv W v (iv x.asked)) (hw : wtB x = true) => start_t (W := W) x hok hv x.now hw (wtB_now hw) (by have := wtB_len hw; omega)
 unfold wakeW
 cases hw : wtB x with
 | false =>
  rw [if_neg (by decide)]
  obtain ⟨⟨ah, ap⟩, ⟨bh, bp⟩, now, nxt, til, ser, gone, noise, word, fresh, asked⟩ := x
  dsimp only [Wt.c] at hv s1 ⊢
  have hsl : (iv asked).length = asked.length := List.length_map _
  obtain ⟨p, c, rfl⟩ := hv.shape
  rw [hsl] at hv s1 ⊢
  refine v_reads (args := [.agg #[.string ah, .int .i64 ap, .string bh, .int .i64 bp, .int .i64 now, .int .i64 nxt, .int .i64 til, .int .i64 ser, .bool gone, .string noise, .string word, .string fresh, .slice p asked.length c]]) TTok FFok Tryz.func13 rfl rfl ?_
  conv => whnf
  refine VSeq.mk fun Kq hKq => ?_
  conv => whnf
  have hp := Hp.nil W
  refine hp.kboxA fun q2 w hp hx => ?_
  conv => whnf
  refine hKq _ _ _ (.refl _) ?_
  clear hKq Kq
  conv => whnf
  refine VSeq.mk fun Kq hKq => ?_
  conv => whnf
  (refine ⟨_, _, Blk.ldV (vs := [_, _, _, _, _, _, _, _, _, _, _, _, _]) (hp.get (i := 0) rfl) TTok rfl rfl rfl, ?_⟩; conv => whnf)
  (refine ⟨_, _, Blk.ld (hp.get (i := 0) rfl) TTok rfl rfl, ?_⟩; conv => whnf)
  refine V.CallsUse (s1 (hv.ext hp.ext) hw) fun w hx => ?_
  have hp := hp.call hx
  conv => whnf
  (refine hKq _ _ _ (.refl _) ?_; clear hKq Kq; conv => whnf)
  (refine VSeq.mk fun Kq hKq => ?_; conv => whnf)
  (refine VSeq.mk fun Kq hKq => ?_; conv => whnf)
  (refine hKq _ _ _ (.refl _) ?_; clear hKq Kq; conv => whnf)
  (refine And.intro (fun _ => ?_) (fun h => absurd (by first | rfl | assumption | omega | decide) (of_decide_eq_false h)); conv => whnf)
  (refine VSeq.mk fun Kq hKq => ?_; conv => whnf)
  (refine hKq _ _ _ (.refl _) ?_; clear hKq Kq; conv => whnf)
  (exact ⟨rfl, hp.ext⟩)
 | true =>
  rw [if_pos rfl]
  obtain ⟨⟨ah, ap⟩, ⟨bh, bp⟩, now, nxt, til, ser, gone, noise, word, fresh, asked⟩ := x
  dsimp only [Wt.c] at hv s2 ⊢
  have hsl : (iv asked).length = asked.length := List.length_map _
  obtain ⟨p, c, rfl⟩ := hv.shape
  rw [hsl] at hv s2 ⊢
  refine v_reads (args := [.agg #[.string ah, .int .i64 ap, .string bh, .int .i64 bp, .int .i64 now, .int .i64 nxt, .int .i64 til, .int .i64 ser, .bool gone, .string noise, .string word, .string fresh, .slice p asked.length c]]) TTok FFok Tryz.func13 rfl rfl ?_
  conv => whnf
  refine VSeq.mk fun Kq hKq => ?_
  conv => whnf
  have hp := Hp.nil W
  refine hp.kboxA fun q2 w hp hx => ?_
  conv => whnf
  refine hKq _ _ _ (.refl _) ?_
  clear hKq Kq
  conv => whnf
  refine VSeq.mk fun Kq hKq => ?_
  conv => whnf
  (refine ⟨_, _, Blk.ldV (vs := [_, _, _, _, _, _, _, _, _, _, _, _, _]) (hp.get (i := 0) rfl) TTok rfl rfl rfl, ?_⟩; conv => whnf)
  (refine ⟨_, _, Blk.ld (hp.get (i := 0) rfl) TTok rfl rfl, ?_⟩; conv => whnf)
  refine Calls.mono (s2 (hv.ext hp.ext) hw) ?_
  rintro _ w ⟨_, rfl, q, u, rfl, k2⟩
  refine ⟨_, rfl, ?_⟩
  have hp := hp.join k2
  simp only [List.cons_append, List.nil_append] at hp
  dsimp only [gC, atW, goesB] at hp
  conv => whnf
  cases gone with
  | true =>
   (refine hKq _ _ _ (.refl _) ?_; clear hKq Kq; conv => whnf)
   (refine VSeq.mk fun Kq hKq => ?_; conv => whnf)
   (refine VSeq.mk fun Kq hKq => ?_; conv => whnf)
   (refine hKq _ _ _ (.refl _) ?_; clear hKq Kq; conv => whnf)
   (refine And.intro (fun h => absurd (of_decide_eq_true h) (by first | (intro h2; exact absurd rfl h2) | omega | decide)) (fun _ => ?_); conv => whnf)
   (refine hKq _ _ _ (.refl _) ?_; clear hKq Kq; conv => whnf)
   (refine VSeq.mk fun Kq hKq => ?_; conv => whnf)
   (refine VSeq.mk fun Kq hKq => ?_; conv => whnf)
   (refine ⟨_, _, Blk.ld (hp.get (i := 0) rfl) TTok rfl rfl, ?_⟩; conv => whnf)
   (refine hKq _ _ _ (.refl _) ?_; clear hKq Kq; conv => whnf)
   (refine And.intro (fun _ => ?_) (fun h => absurd h (by decide)); conv => whnf)
   (refine VSeq.mk fun Kq hKq => ?_; conv => whnf)
   (refine hKq _ _ _ (.refl _) ?_; clear hKq Kq; conv => whnf)
   (exact ⟨rfl, hp.ext⟩)
  | false =>
   (refine hKq _ _ _ (.refl _) ?_; clear hKq Kq; conv => whnf)
   (refine VSeq.mk fun Kq hKq => ?_; conv => whnf)
   (refine VSeq.mk fun Kq hKq => ?_; conv => whnf)
   (refine hKq _ _ _ (.refl _) ?_; clear hKq Kq; conv => whnf)
   (refine And.intro (fun h => absurd (of_decide_eq_true h) (by first | (intro h2; exact absurd rfl h2) | omega | decide)) (fun _ => ?_); conv => whnf)
   (refine hKq _ _ _ (.refl _) ?_; clear hKq Kq; conv => whnf)
   (refine VSeq.mk fun Kq hKq => ?_; conv => whnf)
   (refine VSeq.mk fun Kq hKq => ?_; conv => whnf)
   (refine ⟨_, _, Blk.ld (hp.get (i := 0) rfl) TTok rfl rfl, ?_⟩; conv => whnf)
   (refine hKq _ _ _ (.refl _) ?_; clear hKq Kq; conv => whnf)
   (refine And.intro (fun h => absurd h (by decide)) (fun _ => ?_); conv => whnf)
   (refine hKq _ _ _ (.refl _) ?_; clear hKq Kq; conv => whnf)
   (refine VSeq.mk fun Kq hKq => ?_; conv => whnf)
   refine v_mixA TTok FFok mixed [(0, false), (1, false), (2, false), (3, false), (4, false), (5, false), (6, false), (7, false), (8, false), (9, false), (10, false), (11, false), (12, false), (13, false), (14, false), (15, false), (16, false), (17, false), (18, false)] (by kernel_rfl) ?_
   conv => whnf
   (refine ⟨_, fun w' hx' => Blk.ld (Blk.ext (hp.get (i := 0) rfl) hx') TTok rfl rfl, ?_⟩; conv => whnf)
   (refine ⟨_, fun w' hx' => Blk.ld (Blk.ext (hp.get (i := 0) rfl) hx') TTok rfl rfl, ?_⟩; conv => whnf)
   (refine ⟨_, fun w' hx' => Blk.ld (Blk.ext (hp.get (i := 0) rfl) hx') TTok rfl rfl, ?_⟩; conv => whnf)
   (intro w hx; try (have hp := hp.call hx); conv => whnf)
   (refine hKq _ _ _ (.refl _) ?_; clear hKq Kq; conv => whnf)
   (exact ⟨rfl, hp.ext⟩)
/-- a new watch, before its first gap -/
def nW (a b : Ad) (word noise : ByteArray) (now : Int) : Wt := ⟨a, b, now, 0, now + 30000, 0, false, noise, word, ⟨#[]⟩, []⟩
def newB (a b : Ad) (word noise : ByteArray) (now : Int) : Bool := inB now 0 1099511627776 && wtB (nW a b word noise now)
def newW (a b : Ad) (word noise : ByteArray) (now : Int) : Wt := { nW a b word noise now with nxt := now + gapN noise 0 }
theorem newB_eq (a b : Ad) (word noise : ByteArray) (now : Int) : newB a b word noise now = (inB now 0 1099511627776 && (inB (noise.size : Nat) 1 64 && (wordB word && pathB a b))) := by
 unfold newB
 cases h : inB now 0 1099511627776 with
 | false => rfl
 | true =>
  have h1 := inB_t h
  rw [Bool.true_and, Bool.true_and]
  unfold wtB nW
  dsimp only
  have h2 : inB (now + 30000) 0 1099511657776 = true := by unfold inB; rw [decide_eq_true (by omega), decide_eq_true (by omega)]; rfl
  have h3 : decide (now < now + 30000) = true := decide_eq_true (by omega)
  rw [h, h2, h3]
  cases pathB a b <;> cases inB (noise.size : Nat) 1 64 <;> cases wordB word <;> rfl
theorem nW_ok {a b : Ad} {word noise : ByteArray} {now : Int} (ha : a.Ok) (hb : b.Ok) (hw : SzS word) (hn : SzS noise) (h : In64 now) (h2 : In64 (now + 30000)) : (nW a b word noise now).Ok :=
 ⟨ha, hb, h, (⟨by decide, by decide⟩ : In64 0), h2, (⟨by decide, by decide⟩ : In64 0), hn, hw, Ad.z_ok.s, fun i hi => (List.not_mem_nil hi).elim, Nat.zero_le _⟩
theorem New_bad1 {W : World} (ah bh : ByteArray) (ap bp : Int) (word noise : ByteArray) (now : Int) (h : inB now 0 1099511627776 = false) :
  Calls Tryz.prog 17 #[.agg #[.string ah, .int .i64 ap, .string bh, .int .i64 bp], .string word, .string noise, .int .i64 now] W fun e w' => e = .returned (.tuple #[.agg (zW.c (.slice none 0 0)).toArray, .int .i64 2]) ∧ Ext W w' := by
 have hI := cwithin_p now 0 1099511627776
 rw [h] at hI
 by_cases hf : -9223372036854775808 ≤ now + 30000 ∧ now + 30000 ≤ 9223372036854775807
 ·refine v_reads (args := [.agg #[.string ah, .int .i64 ap, .string bh, .int .i64 bp], .string word, .string noise, .int .i64 now]) TTok FFok Tryz.func17 rfl rfl ?_
  conv => whnf
  refine VSeq.mk fun Kq hKq => ?_
  conv => whnf
  have hp := Hp.nil W
  refine hp.kboxA fun q2 w hp hx => ?_
  conv => whnf
  (refine hp.kalloc z34 fun al34 w hp hx => ?_; conv => whnf)
  (refine hKq _ _ _ (.refl _) ?_; clear hKq Kq; conv => whnf)
  (refine VSeq.mk fun Kq hKq => ?_; conv => whnf)
  (refine ⟨_, _, Blk.ldV (vs := [_, _, _, _]) (hp.get (i := 1) rfl) TTok rfl rfl rfl, ?_⟩; conv => whnf)
  (refine Or.inl (And.intro (by first | omega | decide) ?_); conv => whnf)
  (refine ⟨_, _, bld34_0_1_3_6_7 _ _ _ _ _ _ _ _ _, ?_⟩; conv => whnf)
  (refine ⟨_, _, bld87_0 _ _ _ _ _ _ _ _ _ _ _ _ _ _, ?_⟩; conv => whnf)
  (refine hp.kboxA fun q w hp hx => ?_; conv => whnf)
  (refine hKq _ _ _ (.refl _) ?_; clear hKq Kq; conv => whnf)
  (refine VSeq.mk fun Kq hKq => ?_; conv => whnf)
  (refine VSeq.mk fun Kq hKq => ?_; conv => whnf)
  (refine VSeq.mk fun Kq hKq => ?_; conv => whnf)
  (refine V.CallW.out ?_; (conv => arg 3; dsimp only [EV.val, List.toList_toArray, List.nil_append, List.append_nil, List.cons_append]); refine V.PureF.useW (hI) fun w hx => ?_; try (have hp := hp.call hx); conv => whnf)
  (refine hKq _ _ _ (.refl _) ?_; clear hKq Kq; conv => whnf)
  (refine And.intro (fun _ => ?_) (fun h => absurd h (by decide)); conv => whnf)
  (refine hKq _ _ _ (.refl _) ?_; clear hKq Kq; conv => whnf)
  (refine VSeq.mk fun Kq hKq => ?_; conv => whnf)
  (refine ⟨_, _, bld34_ _, ?_⟩; conv => whnf)
  (refine hp.kstA TTok rfl 1 rfl rfl (oneC_of rfl) (by rfl) fun w hp => ?_; try simp only [List.set_cons_zero, List.set_cons_succ, EV.val] at hp; conv => whnf)
  (refine hKq _ _ _ (.refl _) ?_; clear hKq Kq; conv => whnf)
  (refine ⟨_, Blk.lvN (hp.get (i := 1) rfl) TTok rfl rfl, ?_⟩; conv => whnf)
  (exact ⟨rfl, hp.ext⟩)
 ·obtain ⟨y, hy⟩ : ∃ y, y = IntKind.i64.wrap (now + 30000) := ⟨_, rfl⟩
  refine v_reads (args := [.agg #[.string ah, .int .i64 ap, .string bh, .int .i64 bp], .string word, .string noise, .int .i64 now]) TTok FFok Tryz.func17 rfl rfl ?_
  conv => whnf
  refine VSeq.mk fun Kq hKq => ?_
  conv => whnf
  have hp := Hp.nil W
  refine hp.kboxA fun q2 w hp hx => ?_
  conv => whnf
  (refine hp.kalloc z34 fun al34 w hp hx => ?_; conv => whnf)
  (refine hKq _ _ _ (.refl _) ?_; clear hKq Kq; conv => whnf)
  (refine VSeq.mk fun Kq hKq => ?_; conv => whnf)
  (refine ⟨_, _, Blk.ldV (vs := [_, _, _, _]) (hp.get (i := 1) rfl) TTok rfl rfl rfl, ?_⟩; conv => whnf)
  refine Or.inr ⟨y, hy, ?_⟩
  conv => whnf
  (refine ⟨_, _, bld34_0_1_3_6_7 _ _ _ _ _ _ _ _ _, ?_⟩; conv => whnf)
  (refine ⟨_, _, bld87_0 _ _ _ _ _ _ _ _ _ _ _ _ _ _, ?_⟩; conv => whnf)
  (refine hp.kboxA fun q w hp hx => ?_; conv => whnf)
  (refine hKq _ _ _ (.refl _) ?_; clear hKq Kq; conv => whnf)
  (refine VSeq.mk fun Kq hKq => ?_; conv => whnf)
  (refine VSeq.mk fun Kq hKq => ?_; conv => whnf)
  (refine VSeq.mk fun Kq hKq => ?_; conv => whnf)
  (refine V.CallW.out ?_; (conv => arg 3; dsimp only [EV.val, List.toList_toArray, List.nil_append, List.append_nil, List.cons_append]); refine V.PureF.useW (hI) fun w hx => ?_; try (have hp := hp.call hx); conv => whnf)
  (refine hKq _ _ _ (.refl _) ?_; clear hKq Kq; conv => whnf)
  (refine And.intro (fun _ => ?_) (fun h => absurd h (by decide)); conv => whnf)
  (refine hKq _ _ _ (.refl _) ?_; clear hKq Kq; conv => whnf)
  (refine VSeq.mk fun Kq hKq => ?_; conv => whnf)
  (refine ⟨_, _, bld34_ _, ?_⟩; conv => whnf)
  (refine hp.kstA TTok rfl 1 rfl rfl (oneC_of rfl) (by rfl) fun w hp => ?_; try simp only [List.set_cons_zero, List.set_cons_succ, EV.val] at hp; conv => whnf)
  (refine hKq _ _ _ (.refl _) ?_; clear hKq Kq; conv => whnf)
  (refine ⟨_, Blk.lvN (hp.get (i := 1) rfl) TTok rfl rfl, ?_⟩; conv => whnf)
  (exact ⟨rfl, hp.ext⟩)
theorem New_bad2 {W : World} (ah bh : ByteArray) (ap bp : Int) (word noise : ByteArray) (now : Int) (h : inB now 0 1099511627776 = true) (hok : (nW ⟨ah, ap⟩ ⟨bh, bp⟩ word noise now).Ok) (hw : wtB (nW ⟨ah, ap⟩ ⟨bh, bp⟩ word noise now) = false) :
  Calls Tryz.prog 17 #[.agg #[.string ah, .int .i64 ap, .string bh, .int .i64 bp], .string word, .string noise, .int .i64 now] W fun e w' => e = .returned (.tuple #[.agg (zW.c (.slice none 0 0)).toArray, .int .i64 2]) ∧ Ext W w' := by
 have s1 := fun {W : World} {q : Nat} (hb : Blk W q (gC (nW ⟨ah, ap⟩ ⟨bh, bp⟩ word noise now) (.slice none 0 0) (.slice none 0 0)) 87) => valid_c (W := W) (q := q) (out := .slice none 0 0) _ hok hb .nil
 rw [hw] at s1
 dsimp only [gC, nW] at s1
 have hI := cwithin_p now 0 1099511627776
 rw [h] at hI
 have hn := inB_t h
 clear hok
 refine v_reads (args := [.agg #[.string ah, .int .i64 ap, .string bh, .int .i64 bp], .string word, .string noise, .int .i64 now]) TTok FFok Tryz.func17 rfl rfl ?_
 conv => whnf
 refine VSeq.mk fun Kq hKq => ?_
 conv => whnf
 have hp := Hp.nil W
 refine hp.kboxA fun q2 w hp hx => ?_
 conv => whnf
 (refine hp.kalloc z34 fun al34 w hp hx => ?_; conv => whnf)
 (refine hKq _ _ _ (.refl _) ?_; clear hKq Kq; conv => whnf)
 (refine VSeq.mk fun Kq hKq => ?_; conv => whnf)
 (refine ⟨_, _, Blk.ldV (vs := [_, _, _, _]) (hp.get (i := 1) rfl) TTok rfl rfl rfl, ?_⟩; conv => whnf)
 (refine Or.inl (And.intro (by first | omega | decide) ?_); conv => whnf)
 (refine ⟨_, _, bld34_0_1_3_6_7 _ _ _ _ _ _ _ _ _, ?_⟩; conv => whnf)
 (refine ⟨_, _, bld87_0 _ _ _ _ _ _ _ _ _ _ _ _ _ _, ?_⟩; conv => whnf)
 (refine hp.kboxA fun q w hp hx => ?_; conv => whnf)
 (refine hKq _ _ _ (.refl _) ?_; clear hKq Kq; conv => whnf)
 (refine VSeq.mk fun Kq hKq => ?_; conv => whnf)
 (refine VSeq.mk fun Kq hKq => ?_; conv => whnf)
 (refine VSeq.mk fun Kq hKq => ?_; conv => whnf)
 (refine V.CallW.out ?_; (conv => arg 3; dsimp only [EV.val, List.toList_toArray, List.nil_append, List.append_nil, List.cons_append]); refine V.PureF.useW (hI) fun w hx => ?_; try (have hp := hp.call hx); conv => whnf)
 (refine hKq _ _ _ (.refl _) ?_; clear hKq Kq; conv => whnf)
 (refine And.intro (fun h => absurd h (by decide)) (fun _ => ?_); conv => whnf)
 refine V.CallsUse (s1 (hp.get (i := 0) rfl)) fun w hx => ?_
 have hp := hp.call hx
 conv => whnf
 (refine hKq _ _ _ (.refl _) ?_; clear hKq Kq; conv => whnf)
 (refine And.intro (fun _ => ?_) (fun h => absurd h (by decide)); conv => whnf)
 (refine VSeq.mk fun Kq hKq => ?_; conv => whnf)
 (refine ⟨_, _, bld34_ _, ?_⟩; conv => whnf)
 (refine hp.kstA TTok rfl 1 rfl rfl (oneC_of rfl) (by rfl) fun w hp => ?_; try simp only [List.set_cons_zero, List.set_cons_succ, EV.val] at hp; conv => whnf)
 (refine hKq _ _ _ (.refl _) ?_; clear hKq Kq; conv => whnf)
 (refine ⟨_, Blk.lvN (hp.get (i := 1) rfl) TTok rfl rfl, ?_⟩; conv => whnf)
 (exact ⟨rfl, hp.ext⟩)
theorem New_ok {W : World} (ah bh : ByteArray) (ap bp : Int) (word noise : ByteArray) (now : Int) (h : inB now 0 1099511627776 = true) (hok : (nW ⟨ah, ap⟩ ⟨bh, bp⟩ word noise now).Ok) (hw : wtB (nW ⟨ah, ap⟩ ⟨bh, bp⟩ word noise now) = true) :
  Calls Tryz.prog 17 #[.agg #[.string ah, .int .i64 ap, .string bh, .int .i64 bp], .string word, .string noise, .int .i64 now] W fun e w' => e = .returned (.tuple #[.agg ((newW ⟨ah, ap⟩ ⟨bh, bp⟩ word noise now).c (.slice none 0 0)).toArray, .int .i64 0]) ∧ Ext W w' := by
 have s1 := fun {W : World} {q : Nat} (hb : Blk W q (gC (nW ⟨ah, ap⟩ ⟨bh, bp⟩ word noise now) (.slice none 0 0) (.slice none 0 0)) 87) => valid_c (W := W) (q := q) (out := .slice none 0 0) _ hok hb .nil
 have hns : 0 < noise.size := by
  obtain ⟨_, ⟨_, _, _, _, _, _, _, _, h9, _⟩, _⟩ := wtB_spec hw
  dsimp only [nW] at h9
  omega
 have s2 := fun {W : World} {q : Nat} (hb : Blk W q (gC (nW ⟨ah, ap⟩ ⟨bh, bp⟩ word noise now) (.slice none 0 0) (.slice none 0 0)) 87) => gap_c (W := W) (q := q) (out := .slice none 0 0) _ hb hok.noise hns 0 (by decide)
 rw [hw] at s1
 dsimp only [gC, nW] at s1 s2
 have hI := cwithin_p now 0 1099511627776
 rw [h] at hI
 have hn := inB_t h
 have hg := gapN_le noise 0
 clear hok
 refine v_reads (args := [.agg #[.string ah, .int .i64 ap, .string bh, .int .i64 bp], .string word, .string noise, .int .i64 now]) TTok FFok Tryz.func17 rfl rfl ?_
 conv => whnf
 refine VSeq.mk fun Kq hKq => ?_
 conv => whnf
 have hp := Hp.nil W
 refine hp.kboxA fun q2 w hp hx => ?_
 conv => whnf
 (refine hp.kalloc z34 fun al34 w hp hx => ?_; conv => whnf)
 (refine hKq _ _ _ (.refl _) ?_; clear hKq Kq; conv => whnf)
 (refine VSeq.mk fun Kq hKq => ?_; conv => whnf)
 (refine ⟨_, _, Blk.ldV (vs := [_, _, _, _]) (hp.get (i := 1) rfl) TTok rfl rfl rfl, ?_⟩; conv => whnf)
 (refine Or.inl (And.intro (by first | omega | decide) ?_); conv => whnf)
 (refine ⟨_, _, bld34_0_1_3_6_7 _ _ _ _ _ _ _ _ _, ?_⟩; conv => whnf)
 (refine ⟨_, _, bld87_0 _ _ _ _ _ _ _ _ _ _ _ _ _ _, ?_⟩; conv => whnf)
 (refine hp.kboxA fun q w hp hx => ?_; conv => whnf)
 (refine hKq _ _ _ (.refl _) ?_; clear hKq Kq; conv => whnf)
 (refine VSeq.mk fun Kq hKq => ?_; conv => whnf)
 (refine VSeq.mk fun Kq hKq => ?_; conv => whnf)
 (refine VSeq.mk fun Kq hKq => ?_; conv => whnf)
 (refine V.CallW.out ?_; (conv => arg 3; dsimp only [EV.val, List.toList_toArray, List.nil_append, List.append_nil, List.cons_append]); refine V.PureF.useW (hI) fun w hx => ?_; try (have hp := hp.call hx); conv => whnf)
 (refine hKq _ _ _ (.refl _) ?_; clear hKq Kq; conv => whnf)
 (refine And.intro (fun h => absurd h (by decide)) (fun _ => ?_); conv => whnf)
 refine V.CallsUse (s1 (hp.get (i := 0) rfl)) fun w hx => ?_
 have hp := hp.call hx
 conv => whnf
 (refine hKq _ _ _ (.refl _) ?_; clear hKq Kq; conv => whnf)
 (refine And.intro (fun h => absurd h (by decide)) (fun _ => ?_); conv => whnf)
 (refine hKq _ _ _ (.refl _) ?_; clear hKq Kq; conv => whnf)
 (refine VSeq.mk fun Kq hKq => ?_; conv => whnf)
 refine V.CallsUse (s2 (hp.get (i := 0) rfl)) fun w hx => ?_
 have hp := hp.call hx
 conv => whnf
 (refine Or.inl (And.intro (by first | omega | decide) ?_); conv => whnf)
 (refine hp.kst1 TTok (by rfl) 0 (by rfl) (by rfl) (by rfl) (Nat.le_of_ble_eq_true rfl) fun w hp => ?_; try simp only [List.set_cons_zero, List.set_cons_succ, EV.val] at hp; conv => whnf)
 (refine hKq _ _ _ (.refl _) ?_; clear hKq Kq; conv => whnf)
 (refine VSeq.mk fun Kq hKq => ?_; conv => whnf)
 (refine ⟨_, _, Blk.ldV (vs := [_, _, _, _, _, _, _, _, _, _, _, _, _]) (hp.get (i := 0) rfl) TTok rfl rfl rfl, ?_⟩; conv => whnf)
 (refine hp.kstA TTok rfl 1 rfl rfl (oneC_of rfl) (by rfl) fun w hp => ?_; try simp only [List.set_cons_zero, List.set_cons_succ, EV.val] at hp; conv => whnf)
 (refine hKq _ _ _ (.refl _) ?_; clear hKq Kq; conv => whnf)
 (refine ⟨_, Blk.lvN (hp.get (i := 1) rfl) TTok rfl rfl, ?_⟩; conv => whnf)
 (exact ⟨rfl, hp.ext⟩)
end Go.Proofs.YtgkhcgiggjijlaaGreat
