/- Chapter 12: a probe as a message. -/
/- Chapter 12: a request as a message. -/
/- Chapter 12: a probe on the wire. -/
/- Chapter 12: every right probe has a message. -/
/- Chapter 12: paths. -/
/- Chapter 12: words. -/
/- Chapter 12: the reference's words; watches as values. -/
/- Chapter 12: watches as values; the guard's check. -/
import Derived.Test.YtefjgoeabfgkmaaKN06
namespace Go.Proofs.Ytefjgoeabfgkmaa
set_option linter.unusedSimpArgs false
set_option linter.unusedVariables false
set_option maxRecDepth 100000
open Go.RowKit V
set_option maxHeartbeats 1600000
/-- a message in block q, with its own row of attributes -/
def MSt (M : List Nat) (w0 w : World) (q : Nat) (c : Int) (id : ByteArray) (al : List At2) (H : List It) : Prop :=
 ∃ v : Value, HpM M w0 w (row 118 2 v al.length (flatC al) :: blk q [.int .i64 c, .int .i64 1, .string id, v] 102 :: H)
theorem msg1_c {M : List Nat} {w0 w : World} {q : Nat} {c : Int} {id : ByteArray} {al : List At2} {H : List It} (k : Int) (s : ByteArray) (hm : MSt M w0 w q c id al H) (hl : al.length ≤ 100) :
  Calls Try.prog 63 #[.int .i64 k, .string s, .pointer (some ⟨q, 0, none⟩)] w fun e w' => ∃ u, e = .returned u ∧ MSt M w0 w' q c id (al ++ [(k, s)]) H := by
 obtain ⟨v, hp⟩ := hm
 obtain ⟨p, cp, rfl⟩ := row_shape (hp.get (i := 0) rfl)
 refine v_fn (args := [.int .i64 k, .string s, .pointer (some ⟨q, 0, none⟩)]) TTok FFok Try.func63 rfl (Nat.le_of_ble_eq_true rfl) ?_
 conv => whnf
 refine ⟨_, _, Blk.ld (hp.get (i := 1) rfl) TTok rfl (rfl), ?_⟩
 conv => whnf
 refine ⟨_, _, bld118_0_1 w _ _, ?_⟩
 conv => whnf
 refine hp.kmade _ _ (fun b => .slice (some ⟨b, 0, none⟩) 1 1) (mks100_1_0 _ (.int .i64 k) (.string s)) fun tb w hp hx => ?_
 conv => whnf
 refine hp.kapp sl100 1 rfl (Blk.src TTok (hp.get (i := 0) rfl) rfl (m := 1) rfl (oneC_of rfl)) (by omega) (by unfold maxLen; omega) fun v' w hp => ?_
 simp only [List.set_cons_zero, List.set_cons_succ] at hp
 obtain ⟨p1, c1, rfl⟩ := row_shape (hp.get (i := 1) rfl)
 conv => whnf
 refine hp.kst1 (off := 3) TTok (by rfl) 2 (by rfl) (by rfl) (by rfl) (Nat.le_of_ble_eq_true rfl) fun w hp => ?_
 try simp only [List.set_cons_zero, List.set_cons_succ, EV.val] at hp
 conv => whnf
 have hp := hp.tail
 refine ⟨.slice p1 (al.length + 1) c1, ?_⟩
 rw [flatC_app, List.length_append]
 exact hp
theorem bnd5 : (0 : Nat) < 2 ^ (8 * 5) := by decide
theorem message_3 {W : World} (id : Nat) (hid : id < 2 ^ (8 * 7)) :
  Calls Try.prog 49 #[.agg #[.int .i64 3, .int .i64 id, .int .i64 0, .bool false, .int .i64 0, .bool false, .string ⟨#[]⟩, .int .i64 0]] W fun e w' => ∃ u, e = .returned u ∧ ∃ v', u = .agg #[.int .i64 3, .int .i64 1, .string (beB 5 0 ++ beB 7 id), v'] ∧ HpM [] W w' [row 118 2 v' 1 (flatC [((9 : Int), reasonB 487 ⟨#[]⟩)])] := by
 refine v_fn (args := [.agg #[.int .i64 3, .int .i64 id, .int .i64 0, .bool false, .int .i64 0, .bool false, .string ⟨#[]⟩, .int .i64 0]]) TTok FFok Try.func49 rfl (Nat.le_of_ble_eq_true rfl) ?_
 have hp := Hp.nil W
 conv => whnf
 refine VSeq.mk fun Kq hKq => ?_
 conv => whnf
 (refine hp.kboxA fun q w hp hx => ?_; conv => whnf)
 (refine hp.kalloc z102 fun al102 w hp hx => ?_; conv => whnf)
 (refine hKq _ _ _ (.refl _) ?_; clear hKq Kq; conv => whnf)
 (refine VSeq.mk fun Kq hKq => ?_; conv => whnf)
 have hp5 := aput_p 5 0 (by decide) (by decide) bnd5
 have hp7 := aput_p 7 id (by decide) (by decide) hid
 have hz5 := beB_size 5 0
 have hz7 := beB_size 7 id
 refine v_mix TTok FFok mixed 7 [(0, false), (1, false), (2, false), (3, false), (4, false), (5, false), (6, true)] (by kernel_rfl) ?_
 conv => whnf
 first | refine PureF.quiet (hp5) ?_ | refine PureF.quietE (hp5) ?_
 conv => whnf
 refine ⟨_, fun w' hx' => Blk.ld (Blk.ext (hp.get (i := 1) rfl) hx') TTok rfl (rfl), ?_⟩
 conv => whnf
 first | refine PureF.quiet (hp7) ?_ | refine PureF.quietE (hp7) ?_
 conv => whnf
 refine And.intro (by omega) ?_
 conv => whnf
 refine ⟨_, fun w' _ => bld102_1_2 w' _ _, ?_⟩
 conv => whnf
 intro w hx
 try (have hp := hp.call hx)
 conv => whnf
 refine hp.kalloc z102 fun al3 w hp hx => ?_
 conv => whnf
 refine And.intro hx ?_
 conv => whnf
 intro w hx
 try (have hp := hp.call hx)
 conv => whnf
 (refine hp.kstA TTok rfl 0 rfl rfl (oneC_of rfl) (by rfl) fun w hp => ?_; try simp only [List.set_cons_zero, List.set_cons_succ, EV.val] at hp; conv => whnf)
 (refine hKq _ _ _ (.refl _) ?_; clear hKq Kq; conv => whnf)
 (refine VSeq.mk fun Kq hKq => ?_; conv => whnf)
 (refine hKq _ _ _ (.refl _) ?_; clear hKq Kq; conv => whnf)
 (refine VSeq.mk fun Kq hKq => ?_; conv => whnf)
 (refine VSeq.mk fun Kq hKq => ?_; conv => whnf)
 (refine ⟨_, _, Blk.ld (hp.get (i := 2) rfl) TTok rfl rfl, ?_⟩; conv => whnf)
 (refine hKq _ _ _ (.refl _) ?_; clear hKq Kq; conv => whnf)
 (refine VSeq.mk fun Kq hKq => ?_; conv => whnf)
 (refine hKq _ _ _ (.refl _) ?_; clear hKq Kq; conv => whnf)
 (refine And.intro (fun h => absurd (of_decide_eq_true h) (by first | (intro h2; exact absurd rfl h2) | omega | decide)) (fun _ => ?_); conv => whnf)
 (refine VSeq.mk fun Kq hKq => ?_; conv => whnf)
 (refine hKq _ _ _ (.refl _) ?_; clear hKq Kq; conv => whnf)
 (refine And.intro (fun h => absurd (of_decide_eq_true h) (by first | (intro h2; exact absurd rfl h2) | omega | decide)) (fun _ => ?_); conv => whnf)
 (refine VSeq.mk fun Kq hKq => ?_; conv => whnf)
 (refine hp.kst1 TTok (by rfl) 0 (by rfl) (by rfl) (by rfl) (Nat.le_of_ble_eq_true rfl) fun w hp => ?_; try simp only [List.set_cons_zero, List.set_cons_succ, EV.val] at hp; conv => whnf)
 (refine hKq _ _ _ (.refl _) ?_; clear hKq Kq; conv => whnf)
 (refine VSeq.mk fun Kq hKq => ?_; conv => whnf)
 refine PureF.use (Reason_ok 487 ⟨#[]⟩ (by decide) (by decide) (by decide)) fun w hx => ?_
 try (have hp := hp.call hx)
 conv => whnf
 refine hKq _ _ _ (.refl _) ?_
 clear hKq Kq
 conv => whnf
 have hm : MSt [] W w al3 3 (beB 5 0 ++ beB 7 id) [] _ := ⟨.slice none 0 0, hp.knil 118 2⟩
 refine Calls.mono (msg1_c 9 (reasonB 487 ⟨#[]⟩) hm (by decide)) ?_
 rintro _ w ⟨u, rfl, hm⟩
 refine ⟨_, rfl, ?_⟩
 conv => whnf
 refine hKq _ _ _ (.refl _) ?_
 clear hKq Kq
 conv => whnf
 refine VSeq.mk fun Kq hKq => ?_
 conv => whnf
 obtain ⟨v, hp⟩ := hm
 obtain ⟨p, cp, rfl⟩ := row_shape (hp.get (i := 0) rfl)
 (refine ⟨_, _, Blk.ldV (vs := [_, _, _, _]) (hp.get (i := 1) rfl) TTok rfl rfl rfl, ?_⟩; conv => whnf)
 (refine hp.kstA TTok rfl 2 rfl rfl (oneC_of rfl) (by rfl) fun w hp => ?_; try simp only [List.set_cons_zero, List.set_cons_succ, EV.val] at hp; conv => whnf)
 (refine hKq _ _ _ (.refl _) ?_; clear hKq Kq; conv => whnf)
 (refine ⟨_, Blk.lvN (hp.get (i := 2) rfl) TTok rfl rfl, ?_⟩; conv => whnf)
 exact ⟨_, rfl, hp.pick [0] (by decide)⟩
theorem message_2 {W : World} (id : Nat) (hid : id < 2 ^ (8 * 7)) (h : ByteArray) (p : Nat) (hh : hostB h = true) (hpt : p ≤ 65535) :
  Calls Try.prog 49 #[.agg #[.int .i64 2, .int .i64 id, .int .i64 0, .bool false, .int .i64 0, .bool false, .string h, .int .i64 p]] W fun e w' => ∃ u, e = .returned u ∧ ∃ v', u = .agg #[.int .i64 2, .int .i64 1, .string (beB 5 0 ++ beB 7 id), v'] ∧ HpM [] W w' [row 118 2 v' 1 (flatC [((32 : Int), mixB (beB 5 0 ++ beB 7 id) h p)])] := by
 refine v_fn (args := [.agg #[.int .i64 2, .int .i64 id, .int .i64 0, .bool false, .int .i64 0, .bool false, .string h, .int .i64 p]]) TTok FFok Try.func49 rfl (Nat.le_of_ble_eq_true rfl) ?_
 have hp := Hp.nil W
 conv => whnf
 refine VSeq.mk fun Kq hKq => ?_
 conv => whnf
 (refine hp.kboxA fun q w hp hx => ?_; conv => whnf)
 (refine hp.kalloc z102 fun al102 w hp hx => ?_; conv => whnf)
 (refine hKq _ _ _ (.refl _) ?_; clear hKq Kq; conv => whnf)
 (refine VSeq.mk fun Kq hKq => ?_; conv => whnf)
 have hp5 := aput_p 5 0 (by decide) (by decide) bnd5
 have hp7 := aput_p 7 id (by decide) (by decide) hid
 have hz5 := beB_size 5 0
 have hz7 := beB_size 7 id
 refine v_mix TTok FFok mixed 7 [(0, false), (1, false), (2, false), (3, false), (4, false), (5, false), (6, true)] (by kernel_rfl) ?_
 conv => whnf
 first | refine PureF.quiet (hp5) ?_ | refine PureF.quietE (hp5) ?_
 conv => whnf
 refine ⟨_, fun w' hx' => Blk.ld (Blk.ext (hp.get (i := 1) rfl) hx') TTok rfl (rfl), ?_⟩
 conv => whnf
 first | refine PureF.quiet (hp7) ?_ | refine PureF.quietE (hp7) ?_
 conv => whnf
 refine And.intro (by omega) ?_
 conv => whnf
 refine ⟨_, fun w' _ => bld102_1_2 w' _ _, ?_⟩
 conv => whnf
 intro w hx
 try (have hp := hp.call hx)
 conv => whnf
 refine hp.kalloc z102 fun al3 w hp hx => ?_
 conv => whnf
 refine And.intro hx ?_
 conv => whnf
 intro w hx
 try (have hp := hp.call hx)
 conv => whnf
 (refine hp.kstA TTok rfl 0 rfl rfl (oneC_of rfl) (by rfl) fun w hp => ?_; try simp only [List.set_cons_zero, List.set_cons_succ, EV.val] at hp; conv => whnf)
 (refine hKq _ _ _ (.refl _) ?_; clear hKq Kq; conv => whnf)
 (refine VSeq.mk fun Kq hKq => ?_; conv => whnf)
 (refine hKq _ _ _ (.refl _) ?_; clear hKq Kq; conv => whnf)
 (refine VSeq.mk fun Kq hKq => ?_; conv => whnf)
 (refine VSeq.mk fun Kq hKq => ?_; conv => whnf)
 (refine ⟨_, _, Blk.ld (hp.get (i := 2) rfl) TTok rfl rfl, ?_⟩; conv => whnf)
 (refine hKq _ _ _ (.refl _) ?_; clear hKq Kq; conv => whnf)
 (refine VSeq.mk fun Kq hKq => ?_; conv => whnf)
 (refine hKq _ _ _ (.refl _) ?_; clear hKq Kq; conv => whnf)
 (refine And.intro (fun h => absurd (of_decide_eq_true h) (by first | (intro h2; exact absurd rfl h2) | omega | decide)) (fun _ => ?_); conv => whnf)
 (refine VSeq.mk fun Kq hKq => ?_; conv => whnf)
 (refine hKq _ _ _ (.refl _) ?_; clear hKq Kq; conv => whnf)
 (refine And.intro (fun _ => ?_) (fun h => absurd (by first | rfl | assumption | omega | decide) (of_decide_eq_false h)); conv => whnf)
 (refine VSeq.mk fun Kq hKq => ?_; conv => whnf)
 (refine hp.kst1 TTok (by rfl) 0 (by rfl) (by rfl) (by rfl) (Nat.le_of_ble_eq_true rfl) fun w hp => ?_; try simp only [List.set_cons_zero, List.set_cons_succ, EV.val] at hp; conv => whnf)
 (refine hKq _ _ _ (.refl _) ?_; clear hKq Kq; conv => whnf)
 (refine VSeq.mk fun Kq hKq => ?_; conv => whnf)
 (refine ⟨_, _, Blk.ld (hp.get (i := 0) rfl) TTok rfl rfl, ?_⟩; conv => whnf)
 (refine ⟨_, _, Blk.ldV (vs := [_, _]) (hp.get (i := 2) rfl) TTok rfl rfl rfl, ?_⟩; conv => whnf)
 refine PureF.use (Mixed_ok (beB 5 0 ++ beB 7 id) h p (by rw [ByteArray.size_append, hz5, hz7]) hh hpt) fun w hx => ?_
 try (have hp := hp.call hx)
 conv => whnf
 refine hKq _ _ _ (.refl _) ?_
 clear hKq Kq
 conv => whnf
 have hm : MSt [] W w al3 2 (beB 5 0 ++ beB 7 id) [] _ := ⟨.slice none 0 0, hp.knil 118 2⟩
 refine Calls.mono (msg1_c 32 (mixB (beB 5 0 ++ beB 7 id) h p) hm (by decide)) ?_
 rintro _ w ⟨u, rfl, hm⟩
 refine ⟨_, rfl, ?_⟩
 conv => whnf
 refine hKq _ _ _ (.refl _) ?_
 clear hKq Kq
 conv => whnf
 refine VSeq.mk fun Kq hKq => ?_
 conv => whnf
 obtain ⟨v, hp⟩ := hm
 obtain ⟨p, cp, rfl⟩ := row_shape (hp.get (i := 0) rfl)
 (refine ⟨_, _, Blk.ldV (vs := [_, _, _, _]) (hp.get (i := 1) rfl) TTok rfl rfl rfl, ?_⟩; conv => whnf)
 (refine hp.kstA TTok rfl 2 rfl rfl (oneC_of rfl) (by rfl) fun w hp => ?_; try simp only [List.set_cons_zero, List.set_cons_succ, EV.val] at hp; conv => whnf)
 (refine hKq _ _ _ (.refl _) ?_; clear hKq Kq; conv => whnf)
 (refine ⟨_, Blk.lvN (hp.get (i := 2) rfl) TTok rfl rfl, ?_⟩; conv => whnf)
 exact ⟨_, rfl, hp.pick [0] (by decide)⟩
set_option maxHeartbeats 1600000
theorem message_1ff {W : World} (id : Nat) (hid : id < 2 ^ (8 * 7)) (pr ti : Nat) (hpr : pr < 2 ^ (8 * 4)) (hti : ti < 2 ^ (8 * 7)) :
  Calls Try.prog 49 #[.agg #[.int .i64 1, .int .i64 id, .int .i64 pr, .bool false, .int .i64 ti, .bool false, .string ⟨#[]⟩, .int .i64 0]] W fun e w' => ∃ u, e = .returned u ∧ ∃ v', u = .agg #[.int .i64 0, .int .i64 1, .string (beB 5 0 ++ beB 7 id), v'] ∧ HpM [] W w' [row 118 2 v' 2 (flatC [((36 : Int), beB 4 pr), (32809, beB 1 0 ++ beB 7 ti)])] := by
 refine v_fn (args := [.agg #[.int .i64 1, .int .i64 id, .int .i64 pr, .bool false, .int .i64 ti, .bool false, .string ⟨#[]⟩, .int .i64 0]]) TTok FFok Try.func49 rfl (Nat.le_of_ble_eq_true rfl) ?_
 have hp := Hp.nil W
 conv => whnf
 refine VSeq.mk fun Kq hKq => ?_
 conv => whnf
 (refine hp.kboxA fun q w hp hx => ?_; conv => whnf)
 (refine hp.kalloc z102 fun al102 w hp hx => ?_; conv => whnf)
 (refine hKq _ _ _ (.refl _) ?_; clear hKq Kq; conv => whnf)
 (refine VSeq.mk fun Kq hKq => ?_; conv => whnf)
 have hp5 := aput_p 5 0 (by decide) (by decide) bnd5
 have hp7 := aput_p 7 id (by decide) (by decide) hid
 have hz5 := beB_size 5 0
 have hz7 := beB_size 7 id
 refine v_mix TTok FFok mixed 7 [(0, false), (1, false), (2, false), (3, false), (4, false), (5, false), (6, true)] (by kernel_rfl) ?_
 conv => whnf
 first | refine PureF.quiet (hp5) ?_ | refine PureF.quietE (hp5) ?_
 conv => whnf
 refine ⟨_, fun w' hx' => Blk.ld (Blk.ext (hp.get (i := 1) rfl) hx') TTok rfl (rfl), ?_⟩
 conv => whnf
 first | refine PureF.quiet (hp7) ?_ | refine PureF.quietE (hp7) ?_
 conv => whnf
 refine And.intro (by omega) ?_
 conv => whnf
 refine ⟨_, fun w' _ => bld102_1_2 w' _ _, ?_⟩
 conv => whnf
 intro w hx
 try (have hp := hp.call hx)
 conv => whnf
 refine hp.kalloc z102 fun al3 w hp hx => ?_
 conv => whnf
 refine And.intro hx ?_
 conv => whnf
 intro w hx
 try (have hp := hp.call hx)
 conv => whnf
 (refine hp.kstA TTok rfl 0 rfl rfl (oneC_of rfl) (by rfl) fun w hp => ?_; try simp only [List.set_cons_zero, List.set_cons_succ, EV.val] at hp; conv => whnf)
 (refine hKq _ _ _ (.refl _) ?_; clear hKq Kq; conv => whnf)
 (refine VSeq.mk fun Kq hKq => ?_; conv => whnf)
 (refine hKq _ _ _ (.refl _) ?_; clear hKq Kq; conv => whnf)
 (refine VSeq.mk fun Kq hKq => ?_; conv => whnf)
 (refine VSeq.mk fun Kq hKq => ?_; conv => whnf)
 (refine ⟨_, _, Blk.ld (hp.get (i := 2) rfl) TTok rfl rfl, ?_⟩; conv => whnf)
 (refine hKq _ _ _ (.refl _) ?_; clear hKq Kq; conv => whnf)
 (refine VSeq.mk fun Kq hKq => ?_; conv => whnf)
 (refine hKq _ _ _ (.refl _) ?_; clear hKq Kq; conv => whnf)
 (refine And.intro (fun _ => ?_) (fun h => absurd (by first | rfl | assumption | omega | decide) (of_decide_eq_false h)); conv => whnf)
 (refine VSeq.mk fun Kq hKq => ?_; conv => whnf)
 (refine hp.kst1 TTok (by rfl) 0 (by rfl) (by rfl) (by rfl) (Nat.le_of_ble_eq_true rfl) fun w hp => ?_; try simp only [List.set_cons_zero, List.set_cons_succ, EV.val] at hp; conv => whnf)
 (refine hKq _ _ _ (.refl _) ?_; clear hKq Kq; conv => whnf)
 (refine VSeq.mk fun Kq hKq => ?_; conv => whnf)
 (refine ⟨_, _, Blk.ld (hp.get (i := 2) rfl) TTok rfl rfl, ?_⟩; conv => whnf)
 refine PureF.use (aput_p 4 pr (by decide) (by decide) hpr) fun w hx => ?_
 try (have hp := hp.call hx)
 conv => whnf
 have hm : MSt [] W w al3 0 (beB 5 0 ++ beB 7 id) [] _ := ⟨.slice none 0 0, hp.knil 118 2⟩
 refine Calls.mono (msg1_c 36 (beB 4 pr) hm (by decide)) ?_
 rintro _ w ⟨u, rfl, hm⟩
 refine ⟨_, rfl, ?_⟩
 conv => whnf
 refine hKq _ _ _ (.refl _) ?_
 clear hKq Kq
 conv => whnf
 refine VSeq.mk fun Kq hKq => ?_
 conv => whnf
 refine hKq _ _ _ (.refl _) ?_
 clear hKq Kq
 conv => whnf
 refine VSeq.mk fun Kq hKq => ?_
 conv => whnf
 refine VSeq.mk fun Kq hKq => ?_
 conv => whnf
 obtain ⟨v, hp⟩ := hm
 obtain ⟨p, cp, rfl⟩ := row_shape (hp.get (i := 0) rfl)
 (refine ⟨_, _, Blk.ld (hp.get (i := 3) rfl) TTok rfl rfl, ?_⟩; conv => whnf)
 (refine hKq _ _ _ (.refl _) ?_; clear hKq Kq; conv => whnf)
 (refine And.intro (fun h => absurd h (by decide)) (fun _ => ?_); conv => whnf)
 (refine hKq _ _ _ (.refl _) ?_; clear hKq Kq; conv => whnf)
 (refine VSeq.mk fun Kq hKq => ?_; conv => whnf)
 have hq1 := aput_p 1 0 (by decide) (by decide) (by decide)
 have hq7 := aput_p 7 ti (by decide) (by decide) hti
 have hz1 := beB_size 1 0
 have hy7 := beB_size 7 ti
 refine v_mix TTok FFok mixed 7 [(0, false), (1, false), (2, false), (3, false), (4, false), (5, false), (6, false)] (by kernel_rfl) ?_
 conv => whnf
 first | refine PureF.quiet (hq1) ?_ | refine PureF.quietE (hq1) ?_
 conv => whnf
 refine ⟨_, fun w' hx' => Blk.ld (Blk.ext (hp.get (i := 3) rfl) hx') TTok rfl (rfl), ?_⟩
 conv => whnf
 first | refine PureF.quiet (hq7) ?_ | refine PureF.quietE (hq7) ?_
 conv => whnf
 refine And.intro (by omega) ?_
 conv => whnf
 intro w hx
 try (have hp := hp.call hx)
 conv => whnf
 refine Calls.mono (msg1_c 32809 (beB 1 0 ++ beB 7 ti) ⟨_, hp⟩ (by show 1 ≤ 100; decide)) ?_
 rintro _ w ⟨u, rfl, v, hp⟩
 refine ⟨_, rfl, ?_⟩
 conv => whnf
 refine hKq _ _ _ (.refl _) ?_
 clear hKq Kq
 conv => whnf
 refine VSeq.mk fun Kq hKq => ?_
 conv => whnf
 obtain ⟨p, cp, rfl⟩ := row_shape (hp.get (i := 0) rfl)
 (refine ⟨_, _, Blk.ld (hp.get (i := 3) rfl) TTok rfl rfl, ?_⟩; conv => whnf)
 (refine hKq _ _ _ (.refl _) ?_; clear hKq Kq; conv => whnf)
 (refine And.intro (fun h => absurd h (by decide)) (fun _ => ?_); conv => whnf)
 (refine hKq _ _ _ (.refl _) ?_; clear hKq Kq; conv => whnf)
 (refine VSeq.mk fun Kq hKq => ?_; conv => whnf)
 (refine ⟨_, _, Blk.ldV (vs := [_, _, _, _]) (hp.get (i := 1) rfl) TTok rfl rfl rfl, ?_⟩; conv => whnf)
 (refine hp.kstA TTok rfl 2 rfl rfl (oneC_of rfl) (by rfl) fun w hp => ?_; try simp only [List.set_cons_zero, List.set_cons_succ, EV.val] at hp; conv => whnf)
 (refine hKq _ _ _ (.refl _) ?_; clear hKq Kq; conv => whnf)
 (refine ⟨_, Blk.lvN (hp.get (i := 2) rfl) TTok rfl rfl, ?_⟩; conv => whnf)
 exact ⟨_, rfl, hp.pick [0] (by decide)⟩
theorem message_1ft {W : World} (id : Nat) (hid : id < 2 ^ (8 * 7)) (pr ti : Nat) (hpr : pr < 2 ^ (8 * 4)) (hti : ti < 2 ^ (8 * 7)) :
  Calls Try.prog 49 #[.agg #[.int .i64 1, .int .i64 id, .int .i64 pr, .bool false, .int .i64 ti, .bool true, .string ⟨#[]⟩, .int .i64 0]] W fun e w' => ∃ u, e = .returned u ∧ ∃ v', u = .agg #[.int .i64 0, .int .i64 1, .string (beB 5 0 ++ beB 7 id), v'] ∧ HpM [] W w' [row 118 2 v' 3 (flatC [((36 : Int), beB 4 pr), (32809, beB 1 0 ++ beB 7 ti), (37, ⟨#[]⟩)])] := by
 refine v_fn (args := [.agg #[.int .i64 1, .int .i64 id, .int .i64 pr, .bool false, .int .i64 ti, .bool true, .string ⟨#[]⟩, .int .i64 0]]) TTok FFok Try.func49 rfl (Nat.le_of_ble_eq_true rfl) ?_
 have hp := Hp.nil W
 conv => whnf
 refine VSeq.mk fun Kq hKq => ?_
 conv => whnf
 (refine hp.kboxA fun q w hp hx => ?_; conv => whnf)
 (refine hp.kalloc z102 fun al102 w hp hx => ?_; conv => whnf)
 (refine hKq _ _ _ (.refl _) ?_; clear hKq Kq; conv => whnf)
 (refine VSeq.mk fun Kq hKq => ?_; conv => whnf)
 have hp5 := aput_p 5 0 (by decide) (by decide) bnd5
 have hp7 := aput_p 7 id (by decide) (by decide) hid
 have hz5 := beB_size 5 0
 have hz7 := beB_size 7 id
 refine v_mix TTok FFok mixed 7 [(0, false), (1, false), (2, false), (3, false), (4, false), (5, false), (6, true)] (by kernel_rfl) ?_
 conv => whnf
 first | refine PureF.quiet (hp5) ?_ | refine PureF.quietE (hp5) ?_
 conv => whnf
 refine ⟨_, fun w' hx' => Blk.ld (Blk.ext (hp.get (i := 1) rfl) hx') TTok rfl (rfl), ?_⟩
 conv => whnf
 first | refine PureF.quiet (hp7) ?_ | refine PureF.quietE (hp7) ?_
 conv => whnf
 refine And.intro (by omega) ?_
 conv => whnf
 refine ⟨_, fun w' _ => bld102_1_2 w' _ _, ?_⟩
 conv => whnf
 intro w hx
 try (have hp := hp.call hx)
 conv => whnf
 refine hp.kalloc z102 fun al3 w hp hx => ?_
 conv => whnf
 refine And.intro hx ?_
 conv => whnf
 intro w hx
 try (have hp := hp.call hx)
 conv => whnf
 (refine hp.kstA TTok rfl 0 rfl rfl (oneC_of rfl) (by rfl) fun w hp => ?_; try simp only [List.set_cons_zero, List.set_cons_succ, EV.val] at hp; conv => whnf)
 (refine hKq _ _ _ (.refl _) ?_; clear hKq Kq; conv => whnf)
 (refine VSeq.mk fun Kq hKq => ?_; conv => whnf)
 (refine hKq _ _ _ (.refl _) ?_; clear hKq Kq; conv => whnf)
 (refine VSeq.mk fun Kq hKq => ?_; conv => whnf)
 (refine VSeq.mk fun Kq hKq => ?_; conv => whnf)
 (refine ⟨_, _, Blk.ld (hp.get (i := 2) rfl) TTok rfl rfl, ?_⟩; conv => whnf)
 (refine hKq _ _ _ (.refl _) ?_; clear hKq Kq; conv => whnf)
 (refine VSeq.mk fun Kq hKq => ?_; conv => whnf)
 (refine hKq _ _ _ (.refl _) ?_; clear hKq Kq; conv => whnf)
 (refine And.intro (fun _ => ?_) (fun h => absurd (by first | rfl | assumption | omega | decide) (of_decide_eq_false h)); conv => whnf)
 (refine VSeq.mk fun Kq hKq => ?_; conv => whnf)
 (refine hp.kst1 TTok (by rfl) 0 (by rfl) (by rfl) (by rfl) (Nat.le_of_ble_eq_true rfl) fun w hp => ?_; try simp only [List.set_cons_zero, List.set_cons_succ, EV.val] at hp; conv => whnf)
 (refine hKq _ _ _ (.refl _) ?_; clear hKq Kq; conv => whnf)
 (refine VSeq.mk fun Kq hKq => ?_; conv => whnf)
 (refine ⟨_, _, Blk.ld (hp.get (i := 2) rfl) TTok rfl rfl, ?_⟩; conv => whnf)
 refine PureF.use (aput_p 4 pr (by decide) (by decide) hpr) fun w hx => ?_
 try (have hp := hp.call hx)
 conv => whnf
 have hm : MSt [] W w al3 0 (beB 5 0 ++ beB 7 id) [] _ := ⟨.slice none 0 0, hp.knil 118 2⟩
 refine Calls.mono (msg1_c 36 (beB 4 pr) hm (by decide)) ?_
 rintro _ w ⟨u, rfl, hm⟩
 refine ⟨_, rfl, ?_⟩
 conv => whnf
 refine hKq _ _ _ (.refl _) ?_
 clear hKq Kq
 conv => whnf
 refine VSeq.mk fun Kq hKq => ?_
 conv => whnf
 refine hKq _ _ _ (.refl _) ?_
 clear hKq Kq
 conv => whnf
 refine VSeq.mk fun Kq hKq => ?_
 conv => whnf
 refine VSeq.mk fun Kq hKq => ?_
 conv => whnf
 obtain ⟨v, hp⟩ := hm
 obtain ⟨p, cp, rfl⟩ := row_shape (hp.get (i := 0) rfl)
 (refine ⟨_, _, Blk.ld (hp.get (i := 3) rfl) TTok rfl rfl, ?_⟩; conv => whnf)
 (refine hKq _ _ _ (.refl _) ?_; clear hKq Kq; conv => whnf)
 (refine And.intro (fun h => absurd h (by decide)) (fun _ => ?_); conv => whnf)
 (refine hKq _ _ _ (.refl _) ?_; clear hKq Kq; conv => whnf)
 (refine VSeq.mk fun Kq hKq => ?_; conv => whnf)
 have hq1 := aput_p 1 0 (by decide) (by decide) (by decide)
 have hq7 := aput_p 7 ti (by decide) (by decide) hti
 have hz1 := beB_size 1 0
 have hy7 := beB_size 7 ti
 refine v_mix TTok FFok mixed 7 [(0, false), (1, false), (2, false), (3, false), (4, false), (5, false), (6, false)] (by kernel_rfl) ?_
 conv => whnf
 first | refine PureF.quiet (hq1) ?_ | refine PureF.quietE (hq1) ?_
 conv => whnf
 refine ⟨_, fun w' hx' => Blk.ld (Blk.ext (hp.get (i := 3) rfl) hx') TTok rfl (rfl), ?_⟩
 conv => whnf
 first | refine PureF.quiet (hq7) ?_ | refine PureF.quietE (hq7) ?_
 conv => whnf
 refine And.intro (by omega) ?_
 conv => whnf
 intro w hx
 try (have hp := hp.call hx)
 conv => whnf
 refine Calls.mono (msg1_c 32809 (beB 1 0 ++ beB 7 ti) ⟨_, hp⟩ (by show 1 ≤ 100; decide)) ?_
 rintro _ w ⟨u, rfl, v, hp⟩
 refine ⟨_, rfl, ?_⟩
 conv => whnf
 refine hKq _ _ _ (.refl _) ?_
 clear hKq Kq
 conv => whnf
 refine VSeq.mk fun Kq hKq => ?_
 conv => whnf
 obtain ⟨p, cp, rfl⟩ := row_shape (hp.get (i := 0) rfl)
 (refine ⟨_, _, Blk.ld (hp.get (i := 3) rfl) TTok rfl rfl, ?_⟩; conv => whnf)
 (refine hKq _ _ _ (.refl _) ?_; clear hKq Kq; conv => whnf)
 (refine And.intro (fun _ => ?_) (fun h => absurd h (by decide)); conv => whnf)
 refine Calls.mono (msg1_c 37 ⟨#[]⟩ ⟨_, hp⟩ (by show 2 ≤ 100; decide)) ?_
 rintro _ w ⟨u, rfl, v, hp⟩
 refine ⟨_, rfl, ?_⟩
 conv => whnf
 refine hKq _ _ _ (.refl _) ?_
 clear hKq Kq
 conv => whnf
 refine VSeq.mk fun Kq hKq => ?_
 conv => whnf
 obtain ⟨p, cp, rfl⟩ := row_shape (hp.get (i := 0) rfl)
 (refine ⟨_, _, Blk.ldV (vs := [_, _, _, _]) (hp.get (i := 1) rfl) TTok rfl rfl rfl, ?_⟩; conv => whnf)
 (refine hp.kstA TTok rfl 2 rfl rfl (oneC_of rfl) (by rfl) fun w hp => ?_; try simp only [List.set_cons_zero, List.set_cons_succ, EV.val] at hp; conv => whnf)
 (refine hKq _ _ _ (.refl _) ?_; clear hKq Kq; conv => whnf)
 (refine ⟨_, Blk.lvN (hp.get (i := 2) rfl) TTok rfl rfl, ?_⟩; conv => whnf)
 exact ⟨_, rfl, hp.pick [0] (by decide)⟩
theorem message_1tf {W : World} (id : Nat) (hid : id < 2 ^ (8 * 7)) (pr ti : Nat) (hpr : pr < 2 ^ (8 * 4)) (hti : ti < 2 ^ (8 * 7)) :
  Calls Try.prog 49 #[.agg #[.int .i64 1, .int .i64 id, .int .i64 pr, .bool true, .int .i64 ti, .bool false, .string ⟨#[]⟩, .int .i64 0]] W fun e w' => ∃ u, e = .returned u ∧ ∃ v', u = .agg #[.int .i64 0, .int .i64 1, .string (beB 5 0 ++ beB 7 id), v'] ∧ HpM [] W w' [row 118 2 v' 2 (flatC [((36 : Int), beB 4 pr), (32810, beB 1 0 ++ beB 7 ti)])] := by
 refine v_fn (args := [.agg #[.int .i64 1, .int .i64 id, .int .i64 pr, .bool true, .int .i64 ti, .bool false, .string ⟨#[]⟩, .int .i64 0]]) TTok FFok Try.func49 rfl (Nat.le_of_ble_eq_true rfl) ?_
 have hp := Hp.nil W
 conv => whnf
 refine VSeq.mk fun Kq hKq => ?_
 conv => whnf
 (refine hp.kboxA fun q w hp hx => ?_; conv => whnf)
 (refine hp.kalloc z102 fun al102 w hp hx => ?_; conv => whnf)
 (refine hKq _ _ _ (.refl _) ?_; clear hKq Kq; conv => whnf)
 (refine VSeq.mk fun Kq hKq => ?_; conv => whnf)
 have hp5 := aput_p 5 0 (by decide) (by decide) bnd5
 have hp7 := aput_p 7 id (by decide) (by decide) hid
 have hz5 := beB_size 5 0
 have hz7 := beB_size 7 id
 refine v_mix TTok FFok mixed 7 [(0, false), (1, false), (2, false), (3, false), (4, false), (5, false), (6, true)] (by kernel_rfl) ?_
 conv => whnf
 first | refine PureF.quiet (hp5) ?_ | refine PureF.quietE (hp5) ?_
 conv => whnf
 refine ⟨_, fun w' hx' => Blk.ld (Blk.ext (hp.get (i := 1) rfl) hx') TTok rfl (rfl), ?_⟩
 conv => whnf
 first | refine PureF.quiet (hp7) ?_ | refine PureF.quietE (hp7) ?_
 conv => whnf
 refine And.intro (by omega) ?_
 conv => whnf
 refine ⟨_, fun w' _ => bld102_1_2 w' _ _, ?_⟩
 conv => whnf
 intro w hx
 try (have hp := hp.call hx)
 conv => whnf
 refine hp.kalloc z102 fun al3 w hp hx => ?_
 conv => whnf
 refine And.intro hx ?_
 conv => whnf
 intro w hx
 try (have hp := hp.call hx)
 conv => whnf
 (refine hp.kstA TTok rfl 0 rfl rfl (oneC_of rfl) (by rfl) fun w hp => ?_; try simp only [List.set_cons_zero, List.set_cons_succ, EV.val] at hp; conv => whnf)
 (refine hKq _ _ _ (.refl _) ?_; clear hKq Kq; conv => whnf)
 (refine VSeq.mk fun Kq hKq => ?_; conv => whnf)
 (refine hKq _ _ _ (.refl _) ?_; clear hKq Kq; conv => whnf)
 (refine VSeq.mk fun Kq hKq => ?_; conv => whnf)
 (refine VSeq.mk fun Kq hKq => ?_; conv => whnf)
 (refine ⟨_, _, Blk.ld (hp.get (i := 2) rfl) TTok rfl rfl, ?_⟩; conv => whnf)
 (refine hKq _ _ _ (.refl _) ?_; clear hKq Kq; conv => whnf)
 (refine VSeq.mk fun Kq hKq => ?_; conv => whnf)
 (refine hKq _ _ _ (.refl _) ?_; clear hKq Kq; conv => whnf)
 (refine And.intro (fun _ => ?_) (fun h => absurd (by first | rfl | assumption | omega | decide) (of_decide_eq_false h)); conv => whnf)
 (refine VSeq.mk fun Kq hKq => ?_; conv => whnf)
 (refine hp.kst1 TTok (by rfl) 0 (by rfl) (by rfl) (by rfl) (Nat.le_of_ble_eq_true rfl) fun w hp => ?_; try simp only [List.set_cons_zero, List.set_cons_succ, EV.val] at hp; conv => whnf)
 (refine hKq _ _ _ (.refl _) ?_; clear hKq Kq; conv => whnf)
 (refine VSeq.mk fun Kq hKq => ?_; conv => whnf)
 (refine ⟨_, _, Blk.ld (hp.get (i := 2) rfl) TTok rfl rfl, ?_⟩; conv => whnf)
 refine PureF.use (aput_p 4 pr (by decide) (by decide) hpr) fun w hx => ?_
 try (have hp := hp.call hx)
 conv => whnf
 have hm : MSt [] W w al3 0 (beB 5 0 ++ beB 7 id) [] _ := ⟨.slice none 0 0, hp.knil 118 2⟩
 refine Calls.mono (msg1_c 36 (beB 4 pr) hm (by decide)) ?_
 rintro _ w ⟨u, rfl, hm⟩
 refine ⟨_, rfl, ?_⟩
 conv => whnf
 refine hKq _ _ _ (.refl _) ?_
 clear hKq Kq
 conv => whnf
 refine VSeq.mk fun Kq hKq => ?_
 conv => whnf
 refine hKq _ _ _ (.refl _) ?_
 clear hKq Kq
 conv => whnf
 refine VSeq.mk fun Kq hKq => ?_
 conv => whnf
 refine VSeq.mk fun Kq hKq => ?_
 conv => whnf
 obtain ⟨v, hp⟩ := hm
 obtain ⟨p, cp, rfl⟩ := row_shape (hp.get (i := 0) rfl)
 (refine ⟨_, _, Blk.ld (hp.get (i := 3) rfl) TTok rfl rfl, ?_⟩; conv => whnf)
 (refine hKq _ _ _ (.refl _) ?_; clear hKq Kq; conv => whnf)
 (refine And.intro (fun _ => ?_) (fun h => absurd h (by decide)); conv => whnf)
 (refine hKq _ _ _ (.refl _) ?_; clear hKq Kq; conv => whnf)
 (refine VSeq.mk fun Kq hKq => ?_; conv => whnf)
 have hq1 := aput_p 1 0 (by decide) (by decide) (by decide)
 have hq7 := aput_p 7 ti (by decide) (by decide) hti
 have hz1 := beB_size 1 0
 have hy7 := beB_size 7 ti
 refine v_mix TTok FFok mixed 7 [(0, false), (1, false), (2, false), (3, false), (4, false), (5, false), (6, false)] (by kernel_rfl) ?_
 conv => whnf
 first | refine PureF.quiet (hq1) ?_ | refine PureF.quietE (hq1) ?_
 conv => whnf
 refine ⟨_, fun w' hx' => Blk.ld (Blk.ext (hp.get (i := 3) rfl) hx') TTok rfl (rfl), ?_⟩
 conv => whnf
 first | refine PureF.quiet (hq7) ?_ | refine PureF.quietE (hq7) ?_
 conv => whnf
 refine And.intro (by omega) ?_
 conv => whnf
 intro w hx
 try (have hp := hp.call hx)
 conv => whnf
 refine Calls.mono (msg1_c 32810 (beB 1 0 ++ beB 7 ti) ⟨_, hp⟩ (by show 1 ≤ 100; decide)) ?_
 rintro _ w ⟨u, rfl, v, hp⟩
 refine ⟨_, rfl, ?_⟩
 conv => whnf
 refine hKq _ _ _ (.refl _) ?_
 clear hKq Kq
 conv => whnf
 refine VSeq.mk fun Kq hKq => ?_
 conv => whnf
 obtain ⟨p, cp, rfl⟩ := row_shape (hp.get (i := 0) rfl)
 (refine ⟨_, _, Blk.ld (hp.get (i := 3) rfl) TTok rfl rfl, ?_⟩; conv => whnf)
 (refine hKq _ _ _ (.refl _) ?_; clear hKq Kq; conv => whnf)
 (refine And.intro (fun h => absurd h (by decide)) (fun _ => ?_); conv => whnf)
 (refine hKq _ _ _ (.refl _) ?_; clear hKq Kq; conv => whnf)
 (refine VSeq.mk fun Kq hKq => ?_; conv => whnf)
 (refine ⟨_, _, Blk.ldV (vs := [_, _, _, _]) (hp.get (i := 1) rfl) TTok rfl rfl rfl, ?_⟩; conv => whnf)
 (refine hp.kstA TTok rfl 2 rfl rfl (oneC_of rfl) (by rfl) fun w hp => ?_; try simp only [List.set_cons_zero, List.set_cons_succ, EV.val] at hp; conv => whnf)
 (refine hKq _ _ _ (.refl _) ?_; clear hKq Kq; conv => whnf)
 (refine ⟨_, Blk.lvN (hp.get (i := 2) rfl) TTok rfl rfl, ?_⟩; conv => whnf)
 exact ⟨_, rfl, hp.pick [0] (by decide)⟩
theorem message_1tt {W : World} (id : Nat) (hid : id < 2 ^ (8 * 7)) (pr ti : Nat) (hpr : pr < 2 ^ (8 * 4)) (hti : ti < 2 ^ (8 * 7)) :
  Calls Try.prog 49 #[.agg #[.int .i64 1, .int .i64 id, .int .i64 pr, .bool true, .int .i64 ti, .bool true, .string ⟨#[]⟩, .int .i64 0]] W fun e w' => ∃ u, e = .returned u ∧ ∃ v', u = .agg #[.int .i64 0, .int .i64 1, .string (beB 5 0 ++ beB 7 id), v'] ∧ HpM [] W w' [row 118 2 v' 3 (flatC [((36 : Int), beB 4 pr), (32810, beB 1 0 ++ beB 7 ti), (37, ⟨#[]⟩)])] := by
 refine v_fn (args := [.agg #[.int .i64 1, .int .i64 id, .int .i64 pr, .bool true, .int .i64 ti, .bool true, .string ⟨#[]⟩, .int .i64 0]]) TTok FFok Try.func49 rfl (Nat.le_of_ble_eq_true rfl) ?_
 have hp := Hp.nil W
 conv => whnf
 refine VSeq.mk fun Kq hKq => ?_
 conv => whnf
 (refine hp.kboxA fun q w hp hx => ?_; conv => whnf)
 (refine hp.kalloc z102 fun al102 w hp hx => ?_; conv => whnf)
 (refine hKq _ _ _ (.refl _) ?_; clear hKq Kq; conv => whnf)
 (refine VSeq.mk fun Kq hKq => ?_; conv => whnf)
 have hp5 := aput_p 5 0 (by decide) (by decide) bnd5
 have hp7 := aput_p 7 id (by decide) (by decide) hid
 have hz5 := beB_size 5 0
 have hz7 := beB_size 7 id
 refine v_mix TTok FFok mixed 7 [(0, false), (1, false), (2, false), (3, false), (4, false), (5, false), (6, true)] (by kernel_rfl) ?_
 conv => whnf
 first | refine PureF.quiet (hp5) ?_ | refine PureF.quietE (hp5) ?_
 conv => whnf
 refine ⟨_, fun w' hx' => Blk.ld (Blk.ext (hp.get (i := 1) rfl) hx') TTok rfl (rfl), ?_⟩
 conv => whnf
 first | refine PureF.quiet (hp7) ?_ | refine PureF.quietE (hp7) ?_
 conv => whnf
 refine And.intro (by omega) ?_
 conv => whnf
 refine ⟨_, fun w' _ => bld102_1_2 w' _ _, ?_⟩
 conv => whnf
 intro w hx
 try (have hp := hp.call hx)
 conv => whnf
 refine hp.kalloc z102 fun al3 w hp hx => ?_
 conv => whnf
 refine And.intro hx ?_
 conv => whnf
 intro w hx
 try (have hp := hp.call hx)
 conv => whnf
 (refine hp.kstA TTok rfl 0 rfl rfl (oneC_of rfl) (by rfl) fun w hp => ?_; try simp only [List.set_cons_zero, List.set_cons_succ, EV.val] at hp; conv => whnf)
 (refine hKq _ _ _ (.refl _) ?_; clear hKq Kq; conv => whnf)
 (refine VSeq.mk fun Kq hKq => ?_; conv => whnf)
 (refine hKq _ _ _ (.refl _) ?_; clear hKq Kq; conv => whnf)
 (refine VSeq.mk fun Kq hKq => ?_; conv => whnf)
 (refine VSeq.mk fun Kq hKq => ?_; conv => whnf)
 (refine ⟨_, _, Blk.ld (hp.get (i := 2) rfl) TTok rfl rfl, ?_⟩; conv => whnf)
 (refine hKq _ _ _ (.refl _) ?_; clear hKq Kq; conv => whnf)
 (refine VSeq.mk fun Kq hKq => ?_; conv => whnf)
 (refine hKq _ _ _ (.refl _) ?_; clear hKq Kq; conv => whnf)
 (refine And.intro (fun _ => ?_) (fun h => absurd (by first | rfl | assumption | omega | decide) (of_decide_eq_false h)); conv => whnf)
 (refine VSeq.mk fun Kq hKq => ?_; conv => whnf)
 (refine hp.kst1 TTok (by rfl) 0 (by rfl) (by rfl) (by rfl) (Nat.le_of_ble_eq_true rfl) fun w hp => ?_; try simp only [List.set_cons_zero, List.set_cons_succ, EV.val] at hp; conv => whnf)
 (refine hKq _ _ _ (.refl _) ?_; clear hKq Kq; conv => whnf)
 (refine VSeq.mk fun Kq hKq => ?_; conv => whnf)
 (refine ⟨_, _, Blk.ld (hp.get (i := 2) rfl) TTok rfl rfl, ?_⟩; conv => whnf)
 refine PureF.use (aput_p 4 pr (by decide) (by decide) hpr) fun w hx => ?_
 try (have hp := hp.call hx)
 conv => whnf
 have hm : MSt [] W w al3 0 (beB 5 0 ++ beB 7 id) [] _ := ⟨.slice none 0 0, hp.knil 118 2⟩
 refine Calls.mono (msg1_c 36 (beB 4 pr) hm (by decide)) ?_
 rintro _ w ⟨u, rfl, hm⟩
 refine ⟨_, rfl, ?_⟩
 conv => whnf
 refine hKq _ _ _ (.refl _) ?_
 clear hKq Kq
 conv => whnf
 refine VSeq.mk fun Kq hKq => ?_
 conv => whnf
 refine hKq _ _ _ (.refl _) ?_
 clear hKq Kq
 conv => whnf
 refine VSeq.mk fun Kq hKq => ?_
 conv => whnf
 refine VSeq.mk fun Kq hKq => ?_
 conv => whnf
 obtain ⟨v, hp⟩ := hm
 obtain ⟨p, cp, rfl⟩ := row_shape (hp.get (i := 0) rfl)
 (refine ⟨_, _, Blk.ld (hp.get (i := 3) rfl) TTok rfl rfl, ?_⟩; conv => whnf)
 (refine hKq _ _ _ (.refl _) ?_; clear hKq Kq; conv => whnf)
 (refine And.intro (fun _ => ?_) (fun h => absurd h (by decide)); conv => whnf)
 (refine hKq _ _ _ (.refl _) ?_; clear hKq Kq; conv => whnf)
 (refine VSeq.mk fun Kq hKq => ?_; conv => whnf)
 have hq1 := aput_p 1 0 (by decide) (by decide) (by decide)
 have hq7 := aput_p 7 ti (by decide) (by decide) hti
 have hz1 := beB_size 1 0
 have hy7 := beB_size 7 ti
 refine v_mix TTok FFok mixed 7 [(0, false), (1, false), (2, false), (3, false), (4, false), (5, false), (6, false)] (by kernel_rfl) ?_
 conv => whnf
 first | refine PureF.quiet (hq1) ?_ | refine PureF.quietE (hq1) ?_
 conv => whnf
 refine ⟨_, fun w' hx' => Blk.ld (Blk.ext (hp.get (i := 3) rfl) hx') TTok rfl (rfl), ?_⟩
 conv => whnf
 first | refine PureF.quiet (hq7) ?_ | refine PureF.quietE (hq7) ?_
 conv => whnf
 refine And.intro (by omega) ?_
 conv => whnf
 intro w hx
 try (have hp := hp.call hx)
 conv => whnf
 refine Calls.mono (msg1_c 32810 (beB 1 0 ++ beB 7 ti) ⟨_, hp⟩ (by show 1 ≤ 100; decide)) ?_
 rintro _ w ⟨u, rfl, v, hp⟩
 refine ⟨_, rfl, ?_⟩
 conv => whnf
 refine hKq _ _ _ (.refl _) ?_
 clear hKq Kq
 conv => whnf
 refine VSeq.mk fun Kq hKq => ?_
 conv => whnf
 obtain ⟨p, cp, rfl⟩ := row_shape (hp.get (i := 0) rfl)
 (refine ⟨_, _, Blk.ld (hp.get (i := 3) rfl) TTok rfl rfl, ?_⟩; conv => whnf)
 (refine hKq _ _ _ (.refl _) ?_; clear hKq Kq; conv => whnf)
 (refine And.intro (fun _ => ?_) (fun h => absurd h (by decide)); conv => whnf)
 refine Calls.mono (msg1_c 37 ⟨#[]⟩ ⟨_, hp⟩ (by show 2 ≤ 100; decide)) ?_
 rintro _ w ⟨u, rfl, v, hp⟩
 refine ⟨_, rfl, ?_⟩
 conv => whnf
 refine hKq _ _ _ (.refl _) ?_
 clear hKq Kq
 conv => whnf
 refine VSeq.mk fun Kq hKq => ?_
 conv => whnf
 obtain ⟨p, cp, rfl⟩ := row_shape (hp.get (i := 0) rfl)
 (refine ⟨_, _, Blk.ldV (vs := [_, _, _, _]) (hp.get (i := 1) rfl) TTok rfl rfl rfl, ?_⟩; conv => whnf)
 (refine hp.kstA TTok rfl 2 rfl rfl (oneC_of rfl) (by rfl) fun w hp => ?_; try simp only [List.set_cons_zero, List.set_cons_succ, EV.val] at hp; conv => whnf)
 (refine hKq _ _ _ (.refl _) ?_; clear hKq Kq; conv => whnf)
 (refine ⟨_, Blk.lvN (hp.get (i := 2) rfl) TTok rfl rfl, ?_⟩; conv => whnf)
 exact ⟨_, rfl, hp.pick [0] (by decide)⟩
set_option maxHeartbeats 1600000
/-- what a message of an agent holds -/
structure MsgOk (c : Nat) (id : ByteArray) (al : List At2) : Prop where
 c : c ≤ 3
 i : id.size = 12
 l : al.length ≤ 10
 a : ∀ x ∈ al, attrB x = true
 z : sizeN al ≤ 1000
 h8 : hasB 8 al = false
 h9 : hasB 32808 al = false
theorem MsgOk.st {c : Nat} {id : ByteArray} {al : List At2} (h : MsgOk c id al) : stunB (c : Nat) (1 : Nat) id al = true :=
 stunB_of (Int.natCast_nonneg c) (by have := h.c; omega) (by decide) (by decide) h.i (by have := h.l; omega) h.a (by have := h.z; omega)
theorem MsgOk.st2 {c : Nat} {id : ByteArray} {al : List At2} (h : MsgOk c id al) (key : ByteArray) : stunB (c : Nat) (1 : Nat) id (al ++ [(8, macB key (wrB c 1 id al 36))]) = true := by
 have hz := macB_size key (wrB c 1 id al 36)
 refine stunB_of (Int.natCast_nonneg c) (by have := h.c; omega) (by decide) (by decide) h.i ?_ (macAt key c 1 id al h.a) ?_
 ·rw [List.length_append]
  have := h.l
  show al.length + 1 ≤ 30
  omega
 ·rw [sizeN_app]
  have := h.z
  simp only [sizeN, atN, hz]
  omega
theorem Wire_bad {W : World} (a : Prb) (ha : a.Ok) (hb : probeB a = false) (key : ByteArray) :
  Calls Try.prog 37 #[.agg a.c.toArray, .string key] W fun e w' => e = .returned (.tuple #[.string ⟨#[]⟩, .int .i64 110]) ∧ Ext W w' := by
 have hv := valid_p a ha
 rw [hb] at hv
 refine v_reads (args := [.agg a.c.toArray, .string key]) TTok FFok Try.func37 rfl rfl ?_
 conv => whnf
 refine VSeq.mk fun Kq hKq => ?_
 conv => whnf
 have hp := Hp.nil W
 refine hp.kboxA fun q2 w hp hx => ?_
 conv => whnf
 refine hKq _ _ _ (.refl _) ?_
 clear hKq Kq
 conv => whnf
 refine VSeq.mk fun Kq hKq => ?_
 conv => whnf
 refine VSeq.mk fun Kq hKq => ?_
 conv => whnf
 refine ⟨_, _, Blk.ldN (hp.get (i := 0) rfl) TTok rfl (rfl), ?_⟩
 conv => whnf
 refine PureF.use (hv) fun w hx => ?_
 try (have hp := hp.call hx)
 conv => whnf
 refine hKq _ _ _ (.refl _) ?_
 clear hKq Kq
 conv => whnf
 (refine And.intro (fun _ => ?_) (fun h => absurd h (by decide)); conv => whnf)
 (refine VSeq.mk fun Kq hKq => ?_; conv => whnf)
 (refine hKq _ _ _ (.refl _) ?_; clear hKq Kq; conv => whnf)
 (exact ⟨rfl, hp.ext⟩)
theorem Wire_ok {W : World} (a : Prb) (ha : a.Ok) (hb : probeB a = true) (key : ByteArray) (hk : key.size ≤ 4096) (c : Nat) (id : ByteArray) (al : List At2) (hok : MsgOk c id al)
  (hmsg : ∀ W, Calls Try.prog 49 #[.agg a.c.toArray] W fun e w' => ∃ u, e = .returned u ∧ ∃ v', u = .agg #[.int .i64 c, .int .i64 1, .string id, v'] ∧ HpM [] W w' [row 118 2 v' al.length (flatC al)]) :
  Calls Try.prog 37 #[.agg a.c.toArray, .string key] W fun e w' => e = .returned (.tuple #[.string (wrB c 1 id (al ++ [(8, macB key (wrB c 1 id al 36))]) 0), .int .i64 0]) ∧ Ext W w' := by
 have hv := valid_p a ha
 rw [hb] at hv
 refine v_reads (args := [.agg a.c.toArray, .string key]) TTok FFok Try.func37 rfl rfl ?_
 conv => whnf
 refine VSeq.mk fun Kq hKq => ?_
 conv => whnf
 have hp := Hp.nil W
 refine hp.kboxA fun q2 w hp hx => ?_
 conv => whnf
 refine hKq _ _ _ (.refl _) ?_
 clear hKq Kq
 conv => whnf
 refine VSeq.mk fun Kq hKq => ?_
 conv => whnf
 refine VSeq.mk fun Kq hKq => ?_
 conv => whnf
 refine ⟨_, _, Blk.ldN (hp.get (i := 0) rfl) TTok rfl (rfl), ?_⟩
 conv => whnf
 refine PureF.use (hv) fun w hx => ?_
 try (have hp := hp.call hx)
 conv => whnf
 refine hKq _ _ _ (.refl _) ?_
 clear hKq Kq
 conv => whnf
 (refine And.intro (fun h => absurd h (by decide)) (fun _ => ?_); conv => whnf)
 (refine hKq _ _ _ (.refl _) ?_; clear hKq Kq; conv => whnf)
 (refine VSeq.mk fun Kq hKq => ?_; conv => whnf)
 (refine ⟨_, _, Blk.ldV (vs := [_, _, _, _, _, _, _, _]) (hp.get (i := 0) rfl) TTok rfl rfl rfl, ?_⟩; conv => whnf)
 refine Calls.mono (hmsg w) ?_
 rintro _ w ⟨u, rfl, v', rfl, k2⟩
 refine ⟨_, rfl, ?_⟩
 have hp := hp.join k2
 simp only [List.cons_append, List.nil_append] at hp
 obtain ⟨pu, cu, rfl⟩ := row_shape (hp.get (i := 0) rfl)
 conv => whnf
 refine Calls.mono (Protect_ok (W := w) c 1 id key (SA.of_row (hp.get (i := 0) rfl)) hok.st hk hok.h8 hok.h9 (hok.st2 key)) ?_
 rintro _ w ⟨u, rfl, v', rfl, k2⟩
 refine ⟨_, rfl, ?_⟩
 have hp := hp.join k2
 simp only [List.cons_append, List.nil_append] at hp
 obtain ⟨pu, cu, rfl⟩ := row_shape (hp.get (i := 0) rfl)
 conv => whnf
 (refine hp.kalloc z102 fun al102 w hp hx => ?_; conv => whnf)
 (refine hp.kstA TTok rfl 0 rfl rfl (oneC_of rfl) (by rfl) fun w hp => ?_; try simp only [List.set_cons_zero, List.set_cons_succ, EV.val] at hp; conv => whnf)
 (refine hKq _ _ _ (.refl _) ?_; clear hKq Kq; conv => whnf)
 (refine VSeq.mk fun Kq hKq => ?_; conv => whnf)
 (refine VSeq.mk fun Kq hKq => ?_; conv => whnf)
 (refine hKq _ _ _ (.refl _) ?_; clear hKq Kq; conv => whnf)
 (refine And.intro (fun h => absurd (of_decide_eq_true h) (by first | (intro h2; exact absurd rfl h2) | omega | decide)) (fun _ => ?_); conv => whnf)
 (refine hKq _ _ _ (.refl _) ?_; clear hKq Kq; conv => whnf)
 (refine VSeq.mk fun Kq hKq => ?_; conv => whnf)
 (refine ⟨_, _, Blk.ldV (vs := [_, _, _, _]) (hp.get (i := 0) rfl) TTok rfl rfl rfl, ?_⟩; conv => whnf)
 refine Calls.mono (Encode_ok (W := w) c 1 id (SA.of_row (hp.get (i := 1) rfl)) (hok.st2 key)) ?_
 rintro _ w ⟨rfl, hx⟩
 refine ⟨_, rfl, ?_⟩
 have hp := hp.call hx
 conv => whnf
 refine hKq _ _ _ (.refl _) ?_
 clear hKq Kq
 conv => whnf
 (exact ⟨rfl, hp.ext⟩)
theorem attrB_of {k : Int} {s : ByteArray} (h1 : 0 ≤ k) (h2 : k ≤ 65535) (h3 : s.size ≤ 700) : attrB (k, s) = true := by
 unfold attrB
 simp only [Bool.and_eq_true, decide_eq_true_eq]
 omega
abbrev idOf (id : Nat) : ByteArray := beB 5 0 ++ beB 7 id
theorem idOf_size (id : Nat) : (idOf id).size = 12 := by rw [ByteArray.size_append, beB_size, beB_size]
theorem msgOk_3 (id : Nat) : MsgOk 3 (idOf id) [((9 : Int), reasonB 487 ⟨#[]⟩)] := by
 have hz : (reasonB 487 ⟨#[]⟩).size = 4 := rfl
 refine ⟨by decide, idOf_size id, by decide, ?_, ?_, rfl, rfl⟩
 ·intro x hx
  rw [List.mem_singleton] at hx
  subst hx
  exact attrB_of (by decide) (by decide) (by rw [hz]; decide)
 ·simp only [sizeN, atN, hz]; omega
theorem msgOk_2 (id : Nat) (h : ByteArray) (p : Nat) (hh : hostB h = true) : MsgOk 2 (idOf id) [((32 : Int), mixB (idOf id) h p)] := by
 have hz : (mixB (idOf id) h p).size ≤ 20 := by
  rw [mixB_size _ _ _ (idOf_size id) hh]
  have := hostB_t hh
  omega
 refine ⟨by decide, idOf_size id, by show 1 ≤ 10; decide, ?_, ?_, rfl, rfl⟩
 ·intro x hx
  rw [List.mem_singleton] at hx
  subst hx
  exact attrB_of (by decide) (by decide) (by omega)
 ·simp only [sizeN, atN]; omega
theorem msgOk_1 (id pr : Nat) (k : Int) (hk : k = 32809 ∨ k = 32810) (ti : Nat) (t : List At2) (ht : t = [] ∨ t = [((37 : Int), ⟨#[]⟩)]) : MsgOk 0 (idOf id) ([((36 : Int), beB 4 pr), (k, beB 1 0 ++ beB 7 ti)] ++ t) := by
 have hz1 := beB_size 4 pr
 have hz2 : (beB 1 0 ++ beB 7 ti).size = 8 := by rw [ByteArray.size_append, beB_size, beB_size]
 have hz3 : (⟨#[]⟩ : ByteArray).size = 0 := rfl
 rcases ht with rfl | rfl
 ·refine ⟨by decide, idOf_size id, by show 2 ≤ 10; decide, ?_, ?_, ?_, ?_⟩
  ·intro x hx
   simp only [List.append_nil, List.mem_cons, List.not_mem_nil, or_false] at hx
   rcases hx with rfl | rfl
   ·exact attrB_of (by decide) (by decide) (by omega)
   ·exact attrB_of (by omega) (by omega) (by omega)
  ·simp only [List.append_nil, sizeN, atN, hz1, hz2]; omega
  ·rcases hk with rfl | rfl <;> rfl
  ·rcases hk with rfl | rfl <;> rfl
 ·refine ⟨by decide, idOf_size id, by show 3 ≤ 10; decide, ?_, ?_, ?_, ?_⟩
  ·intro x hx
   simp only [List.cons_append, List.nil_append, List.mem_cons, List.not_mem_nil, or_false] at hx
   rcases hx with rfl | rfl | rfl
   ·exact attrB_of (by decide) (by decide) (by omega)
   ·exact attrB_of (by omega) (by omega) (by omega)
   ·exact attrB_of (by decide) (by decide) (by omega)
  ·simp only [List.cons_append, List.nil_append, sizeN, atN, hz1, hz2, hz3]; omega
  ·rcases hk with rfl | rfl <;> rfl
  ·rcases hk with rfl | rfl <;> rfl
def MsgFor (a : Prb) : Prop := ∃ (c : Nat) (id : ByteArray) (al : List At2), MsgOk c id al ∧ ∀ W, Calls Try.prog 49 #[.agg a.c.toArray] W fun e w' => ∃ u, e = .returned u ∧ ∃ v', u = .agg #[.int .i64 c, .int .i64 1, .string id, v'] ∧ HpM [] W w' [row 118 2 v' al.length (flatC al)]
theorem nat_of {n hi : Int} (h : inB n 0 hi = true) : ∃ m : Nat, n = (m : Int) ∧ (m : Int) ≤ hi := by
 obtain ⟨h1, h2⟩ := inB_t h
 obtain ⟨m, rfl⟩ := Int.eq_ofNat_of_zero_le h1
 exact ⟨m, rfl, h2⟩
theorem msg_for (a : Prb) (hb : probeB a = true) : MsgFor a := by
 obtain ⟨k, id, pr, ct, ti, no, ⟨h, p⟩⟩ := a
 by_cases h1 : k = 1
 ·subst h1
  rw [probeB_1] at hb
  simp only [Bool.and_eq_true, decide_eq_true_eq] at hb
  obtain ⟨g1, g2, g3, _, g5⟩ := hb
  obtain ⟨id, rfl, e1⟩ := nat_of g1
  obtain ⟨ti, rfl, e3⟩ := nat_of g3
  have g2 := inB_t g2
  obtain ⟨pr, rfl⟩ := Int.eq_ofNat_of_zero_le (show 0 ≤ pr by omega)
  have e2 := g2.2
  have hid : id < 2 ^ (8 * 7) := by show id < 72057594037927936; omega
  have hti : ti < 2 ^ (8 * 7) := by show ti < 72057594037927936; omega
  have hpr : pr < 2 ^ (8 * 4) := by show pr < 4294967296; omega
  unfold Ad.z at g5
  simp only [Ad.mk.injEq] at g5
  obtain ⟨rfl, rfl⟩ := g5
  cases ct with
  | false =>
   cases no with
   | false => exact ⟨0, idOf id, _, msgOk_1 id pr 32809 (.inl rfl) ti [] (.inl rfl), fun W => message_1ff id hid pr ti hpr hti⟩
   | true => exact ⟨0, idOf id, _, msgOk_1 id pr 32809 (.inl rfl) ti _ (.inr rfl), fun W => message_1ft id hid pr ti hpr hti⟩
  | true =>
   cases no with
   | false => exact ⟨0, idOf id, _, msgOk_1 id pr 32810 (.inr rfl) ti [] (.inl rfl), fun W => message_1tf id hid pr ti hpr hti⟩
   | true => exact ⟨0, idOf id, _, msgOk_1 id pr 32810 (.inr rfl) ti _ (.inr rfl), fun W => message_1tt id hid pr ti hpr hti⟩
 by_cases h2 : k = 2
 ·subst h2
  rw [probeB_2] at hb
  simp only [Bool.and_eq_true, decide_eq_true_eq] at hb
  obtain ⟨g1, g2, g3⟩ := hb
  obtain ⟨id, rfl, e1⟩ := nat_of g1
  unfold p2 at g3
  simp only [Prb.mk.injEq, true_and, and_true] at g3
  obtain ⟨rfl, rfl, rfl, rfl⟩ := g3
  unfold usB at g2
  simp only [Bool.and_eq_true, decide_eq_true_eq] at g2
  obtain ⟨a1, a2, a3⟩ := addrB_t g2.1
  obtain ⟨p, rfl⟩ := Int.eq_ofNat_of_zero_le a2
  have hid : id < 2 ^ (8 * 7) := by show id < 72057594037927936; omega
  exact ⟨2, idOf id, _, msgOk_2 id h p a1, fun W => message_2 id hid h p a1 (by omega)⟩
 by_cases h3 : k = 3
 ·subst h3
  rw [probeB_3] at hb
  simp only [Bool.and_eq_true, decide_eq_true_eq] at hb
  obtain ⟨g1, g3⟩ := hb
  obtain ⟨id, rfl, e1⟩ := nat_of g1
  unfold p3 Ad.z at g3
  simp only [Prb.mk.injEq, Ad.mk.injEq, true_and] at g3
  obtain ⟨rfl, rfl, rfl, rfl, rfl, rfl⟩ := g3
  have hid : id < 2 ^ (8 * 7) := by show id < 72057594037927936; omega
  exact ⟨3, idOf id, _, msgOk_3 id, fun W => message_3 id hid⟩
 rw [probeB_x _ _ _ _ _ _ _ _ h1 h2 h3] at hb
 cases hb
theorem Wire_t {W : World} (a : Prb) (ha : a.Ok) (hb : probeB a = true) (key : ByteArray) (hk : key.size ≤ 4096) : Calls Try.prog 37 #[.agg a.c.toArray, .string key] W fun e w' => ∃ u, e = .returned u ∧ ∃ s, u = .tuple #[.string s, .int .i64 0] ∧ Ext W w' := by
 obtain ⟨c, id, al, hok, hm⟩ := msg_for a hb
 refine Calls.mono (Wire_ok a ha hb key hk c id al hok hm) ?_
 rintro e w ⟨rfl, hx⟩
 exact ⟨_, rfl, _, rfl, hx⟩
theorem probe_c {W : World} (a : Prb) (ha : a.Ok) : Calls Try.prog 23 #[.agg a.c.toArray] W fun e w' => e = .returned (.bool (probeB a)) ∧ Ext W w' := by
 refine v_reads (args := [.agg a.c.toArray]) TTok FFok Try.func23 rfl rfl ?_
 conv => whnf
 refine VSeq.mk fun Kq hKq => ?_
 conv => whnf
 have hp := Hp.nil W
 refine hp.kboxA fun q2 w hp hx => ?_
 conv => whnf
 refine hKq _ _ _ (.refl _) ?_
 clear hKq Kq
 conv => whnf
 refine VSeq.mk fun Kq hKq => ?_
 conv => whnf
 refine ⟨_, _, Blk.ldN (hp.get (i := 0) rfl) TTok rfl (rfl), ?_⟩
 conv => whnf
 cases hb : probeB a with
 | true =>
  refine Calls.mono (Wire_t (W := w) a ha hb ⟨#[]⟩ (by decide)) ?_
  rintro _ w ⟨u, rfl, s, rfl, hx⟩
  refine ⟨_, rfl, ?_⟩
  have hp := hp.call hx
  conv => whnf
  refine hKq _ _ _ (.refl _) ?_
  clear hKq Kq
  conv => whnf
  refine VSeq.mk fun Kq hKq => ?_
  conv => whnf
  refine hKq _ _ _ (.refl _) ?_
  clear hKq Kq
  conv => whnf
  (refine ⟨congrArg Value.bool ?_, hp.ext⟩; rw [Bool.eq_iff_iff]; first | (simp only [Bool.or_eq_true, Bool.and_eq_true, decide_eq_true_eq, Bool.not_eq_true', decide_eq_false_iff_not, eq_self, true_and, and_true, true_iff, iff_true, false_iff, iff_false, reduceCtorEq, ne_eq, *] <;> omega) | (simp_all; fail_if_success skip) | (simp_all <;> omega))
 | false =>
  refine Calls.mono (Wire_bad (W := w) a ha hb ⟨#[]⟩) ?_
  rintro _ w ⟨rfl, hx⟩
  refine ⟨_, rfl, ?_⟩
  have hp := hp.call hx
  conv => whnf
  refine hKq _ _ _ (.refl _) ?_
  clear hKq Kq
  conv => whnf
  refine VSeq.mk fun Kq hKq => ?_
  conv => whnf
  refine hKq _ _ _ (.refl _) ?_
  clear hKq Kq
  conv => whnf
  (refine ⟨congrArg Value.bool ?_, hp.ext⟩; rw [Bool.eq_iff_iff]; first | (simp only [Bool.or_eq_true, Bool.and_eq_true, decide_eq_true_eq, Bool.not_eq_true', decide_eq_false_iff_not, eq_self, true_and, and_true, true_iff, iff_true, false_iff, iff_false, reduceCtorEq, ne_eq, *] <;> omega) | (simp_all; fail_if_success skip) | (simp_all <;> omega))
set_option maxHeartbeats 1600000
theorem cusable_p (h : ByteArray) (p : Int) : PureF Try.prog 46 #[.agg #[.string h, .int .i64 p]] (.bool (usB h p)) := by
 unfold usB
 cases x : addrB h p with
 | true =>
  first | refine v_pure TTok FFok Try.func46 rfl rfl fun w0 => ?_ | refine v_pure (args := []) TTok FFok Try.func46 rfl rfl fun w0 => ?_
  conv => whnf
  refine VSeq.mk fun Kq hKq => ?_
  conv => whnf
  have hp := Hp.nil w0
  (refine hp.kboxA fun q w hp hx => ?_; conv => whnf)
  (refine hKq _ _ _ (.refl _) ?_; clear hKq Kq; conv => whnf)
  (refine VSeq.mk fun Kq hKq => ?_; conv => whnf)
  (refine VSeq.mk fun Kq hKq => ?_; conv => whnf)
  (refine ⟨_, _, Blk.ldV (vs := [_, _]) (hp.get (i := 0) rfl) TTok rfl rfl rfl, ?_⟩; conv => whnf)
  (refine V.CallW.out ?_; (conv => arg 3; dsimp only [EV.val, List.toList_toArray, List.nil_append, List.append_nil, List.cons_append]); (with_reducible refine V.PureF.useW (acheck_t _ _ (by assumption)) fun w hx => ?_); try (have hp := hp.call hx); conv => whnf)
  (refine hKq _ _ _ (.refl _) ?_; clear hKq Kq; conv => whnf)
  (refine And.intro (fun _ => ?_) (fun h => absurd (by first | rfl | assumption | omega | decide) (of_decide_eq_false h)); conv => whnf)
  (refine ⟨_, _, Blk.ld (hp.get (i := 0) rfl) TTok rfl rfl, ?_⟩; conv => whnf)
  (refine hKq _ _ _ (.refl _) ?_; clear hKq Kq; conv => whnf)
  (exact ⟨rfl, hp.ext⟩)
 | false =>
  first | refine v_pure TTok FFok Try.func46 rfl rfl fun w0 => ?_ | refine v_pure (args := []) TTok FFok Try.func46 rfl rfl fun w0 => ?_
  conv => whnf
  refine VSeq.mk fun Kq hKq => ?_
  conv => whnf
  have hp := Hp.nil w0
  (refine hp.kboxA fun q w hp hx => ?_; conv => whnf)
  (refine hKq _ _ _ (.refl _) ?_; clear hKq Kq; conv => whnf)
  (refine VSeq.mk fun Kq hKq => ?_; conv => whnf)
  (refine VSeq.mk fun Kq hKq => ?_; conv => whnf)
  (refine ⟨_, _, Blk.ldV (vs := [_, _]) (hp.get (i := 0) rfl) TTok rfl rfl rfl, ?_⟩; conv => whnf)
  (refine V.CallW.out ?_; (conv => arg 3; dsimp only [EV.val, List.toList_toArray, List.nil_append, List.append_nil, List.cons_append]); (with_reducible refine V.PureF.useW (acheck_f _ _ (by assumption)) fun w hx => ?_); try (have hp := hp.call hx); conv => whnf)
  (refine hKq _ _ _ (.refl _) ?_; clear hKq Kq; conv => whnf)
  (refine And.intro (fun h => absurd (of_decide_eq_true h) (by first | (intro h2; exact absurd rfl h2) | omega | decide)) (fun _ => ?_); conv => whnf)
  (refine hKq _ _ _ (.refl _) ?_; clear hKq Kq; conv => whnf)
  (exact ⟨rfl, hp.ext⟩)
def pathB (a b : Ad) : Bool := usB a.h a.p && (usB b.h b.p && (!decide (a = b) && decide ((a.h.size : Int) = b.h.size)))
theorem pathB_1 {a b : Ad} (h : usB a.h a.p = false) : pathB a b = false := by unfold pathB; rw [h]; rfl
theorem pathB_2 {a b : Ad} (h : usB b.h b.p = false) : pathB a b = false := by unfold pathB; rw [h, Bool.false_and, Bool.and_false]
theorem pathB_3 {a b : Ad} (h1 : usB a.h a.p = true) (h2 : usB b.h b.p = true) : pathB a b = (!decide (a = b) && decide ((a.h.size : Int) = b.h.size)) := by unfold pathB; rw [h1, h2]; rfl
theorem path_p (ah bh : ByteArray) (ap bp : Int) (ha : Ad.Ok ⟨ah, ap⟩) (hb : Ad.Ok ⟨bh, bp⟩) : PureF Try.prog 35 #[.agg #[.string ah, .int .i64 ap, .string bh, .int .i64 bp]] (.bool (pathB ⟨ah, ap⟩ ⟨bh, bp⟩)) := by
 have hA := cusable_p ah ap
 have hB := cusable_p bh bp
 cases u1 : usB ah ap with
 | false =>
  rw [u1] at hA
  rw [pathB_1 u1]
  first | refine v_pure TTok FFok Try.func35 rfl rfl fun w0 => ?_ | refine v_pure (args := []) TTok FFok Try.func35 rfl rfl fun w0 => ?_
  conv => whnf
  refine VSeq.mk fun Kq hKq => ?_
  conv => whnf
  have hp := Hp.nil w0
  refine hp.kboxA fun q2 w hp hx => ?_
  conv => whnf
  refine hKq _ _ _ (.refl _) ?_
  clear hKq Kq
  conv => whnf
  refine VSeq.mk fun Kq hKq => ?_
  conv => whnf
  refine VSeq.mk fun Kq hKq => ?_
  conv => whnf
  (refine ⟨0, ⟨rfl, by decide⟩, ?_⟩; conv => whnf)
  (refine ⟨_, _, Blk.ldV (vs := [_, _]) (hp.get (i := 0) rfl) TTok rfl rfl rfl, ?_⟩; conv => whnf)
  (refine V.CallW.out ?_; (conv => arg 3; dsimp only [EV.val, List.toList_toArray, List.nil_append, List.append_nil, List.cons_append]); (with_reducible refine V.PureF.useW (hA) fun w hx => ?_); try (have hp := hp.call hx); conv => whnf)
  (refine hKq _ _ _ (.refl _) ?_; clear hKq Kq; conv => whnf)
  (refine VSeq.mk fun Kq hKq => ?_; conv => whnf)
  (refine And.intro (fun h => absurd h (by decide)) (fun _ => ?_); conv => whnf)
  (refine hKq _ _ _ (.refl _) ?_; clear hKq Kq; conv => whnf)
  (refine VSeq.mk fun Kq hKq => ?_; conv => whnf)
  (refine hKq _ _ _ (.refl _) ?_; clear hKq Kq; conv => whnf)
  (refine hKq _ _ _ (.refl _) ?_; clear hKq Kq; conv => whnf)
  (exact ⟨rfl, hp.ext⟩)
 | true =>
  rw [u1] at hA
  cases u2 : usB bh bp with
  | false =>
   rw [u2] at hB
   rw [pathB_2 u2]
   first | refine v_pure TTok FFok Try.func35 rfl rfl fun w0 => ?_ | refine v_pure (args := []) TTok FFok Try.func35 rfl rfl fun w0 => ?_
   conv => whnf
   refine VSeq.mk fun Kq hKq => ?_
   conv => whnf
   have hp := Hp.nil w0
   refine hp.kboxA fun q2 w hp hx => ?_
   conv => whnf
   refine hKq _ _ _ (.refl _) ?_
   clear hKq Kq
   conv => whnf
   refine VSeq.mk fun Kq hKq => ?_
   conv => whnf
   refine VSeq.mk fun Kq hKq => ?_
   conv => whnf
   (refine ⟨0, ⟨rfl, by decide⟩, ?_⟩; conv => whnf)
   (refine ⟨_, _, Blk.ldV (vs := [_, _]) (hp.get (i := 0) rfl) TTok rfl rfl rfl, ?_⟩; conv => whnf)
   (refine V.CallW.out ?_; (conv => arg 3; dsimp only [EV.val, List.toList_toArray, List.nil_append, List.append_nil, List.cons_append]); (with_reducible refine V.PureF.useW (hA) fun w hx => ?_); try (have hp := hp.call hx); conv => whnf)
   (refine hKq _ _ _ (.refl _) ?_; clear hKq Kq; conv => whnf)
   (refine VSeq.mk fun Kq hKq => ?_; conv => whnf)
   (refine And.intro (fun _ => ?_) (fun h => absurd h (by decide)); conv => whnf)
   (refine ⟨1, ⟨rfl, by decide⟩, ?_⟩; conv => whnf)
   (refine ⟨_, _, Blk.ldV (vs := [_, _]) (hp.get (i := 0) rfl) TTok rfl rfl rfl, ?_⟩; conv => whnf)
   (refine V.CallW.out ?_; (conv => arg 3; dsimp only [EV.val, List.toList_toArray, List.nil_append, List.append_nil, List.cons_append]); (with_reducible refine V.PureF.useW (hB) fun w hx => ?_); try (have hp := hp.call hx); conv => whnf)
   (refine hKq _ _ _ (.refl _) ?_; clear hKq Kq; conv => whnf)
   (refine VSeq.mk fun Kq hKq => ?_; conv => whnf)
   (refine And.intro (fun h => absurd h (by decide)) (fun _ => ?_); conv => whnf)
   (refine hKq _ _ _ (.refl _) ?_; clear hKq Kq; conv => whnf)
   (refine hKq _ _ _ (.refl _) ?_; clear hKq Kq; conv => whnf)
   (exact ⟨rfl, hp.ext⟩)
  | true =>
   rw [u2] at hB
   rw [pathB_3 u1 u2]
   first | refine v_pure TTok FFok Try.func35 rfl rfl fun w0 => ?_ | refine v_pure (args := []) TTok FFok Try.func35 rfl rfl fun w0 => ?_
   conv => whnf
   refine VSeq.mk fun Kq hKq => ?_
   conv => whnf
   have hp := Hp.nil w0
   refine hp.kboxA fun q2 w hp hx => ?_
   conv => whnf
   refine hKq _ _ _ (.refl _) ?_
   clear hKq Kq
   conv => whnf
   refine VSeq.mk fun Kq hKq => ?_
   conv => whnf
   refine VSeq.mk fun Kq hKq => ?_
   conv => whnf
   (refine ⟨0, ⟨rfl, by decide⟩, ?_⟩; conv => whnf)
   (refine ⟨_, _, Blk.ldV (vs := [_, _]) (hp.get (i := 0) rfl) TTok rfl rfl rfl, ?_⟩; conv => whnf)
   (refine V.CallW.out ?_; (conv => arg 3; dsimp only [EV.val, List.toList_toArray, List.nil_append, List.append_nil, List.cons_append]); (with_reducible refine V.PureF.useW (hA) fun w hx => ?_); try (have hp := hp.call hx); conv => whnf)
   (refine hKq _ _ _ (.refl _) ?_; clear hKq Kq; conv => whnf)
   (refine VSeq.mk fun Kq hKq => ?_; conv => whnf)
   (refine And.intro (fun _ => ?_) (fun h => absurd h (by decide)); conv => whnf)
   (refine ⟨1, ⟨rfl, by decide⟩, ?_⟩; conv => whnf)
   (refine ⟨_, _, Blk.ldV (vs := [_, _]) (hp.get (i := 0) rfl) TTok rfl rfl rfl, ?_⟩; conv => whnf)
   (refine V.CallW.out ?_; (conv => arg 3; dsimp only [EV.val, List.toList_toArray, List.nil_append, List.append_nil, List.cons_append]); (with_reducible refine V.PureF.useW (hB) fun w hx => ?_); try (have hp := hp.call hx); conv => whnf)
   (refine hKq _ _ _ (.refl _) ?_; clear hKq Kq; conv => whnf)
   (refine VSeq.mk fun Kq hKq => ?_; conv => whnf)
   (refine And.intro (fun _ => ?_) (fun h => absurd h (by decide)); conv => whnf)
   (refine ⟨0, ⟨rfl, by decide⟩, ?_⟩; conv => whnf)
   (refine ⟨_, _, Blk.ldV (vs := [_, _]) (hp.get (i := 0) rfl) TTok rfl rfl rfl, ?_⟩; conv => whnf)
   (refine ⟨1, ⟨rfl, by decide⟩, ?_⟩; conv => whnf)
   (refine ⟨_, _, Blk.ldV (vs := [_, _]) (hp.get (i := 0) rfl) TTok rfl rfl rfl, ?_⟩; conv => whnf)
   refine ⟨_, _, (ad_eq _ ⟨_, _⟩ ⟨_, _⟩ ha hb _ _).2, ?_⟩
   conv => whnf
   refine hKq _ _ _ (.refl _) ?_
   clear hKq Kq
   conv => whnf
   (refine ⟨fun hd => ?_, fun hd => ?_⟩ <;> (try simp only [Bool.not_eq_true', Bool.not_eq_false', decide_eq_true_eq, decide_eq_false_iff_not, ne_eq, Classical.not_not] at hd) <;> (conv => whnf))
   (refine ⟨0, ⟨rfl, by decide⟩, ?_⟩; conv => whnf)
   (refine ⟨_, _, Blk.ld (hp.get (i := 0) rfl) TTok rfl rfl, ?_⟩; conv => whnf)
   (refine ⟨1, ⟨rfl, by decide⟩, ?_⟩; conv => whnf)
   (refine ⟨_, _, Blk.ld (hp.get (i := 0) rfl) TTok rfl rfl, ?_⟩; conv => whnf)
   (refine hKq _ _ _ (.refl _) ?_; clear hKq Kq; conv => whnf)
   (exact ⟨congrArg Value.bool (by (first | (simp [*]; done) | fail)), hp.ext⟩)
   (refine hKq _ _ _ (.refl _) ?_; clear hKq Kq; conv => whnf)
   (refine ⟨congrArg Value.bool ?_, hp.ext⟩; rw [Bool.eq_iff_iff]; first | (simp only [Bool.or_eq_true, Bool.and_eq_true, decide_eq_true_eq, Bool.not_eq_true', decide_eq_false_iff_not, eq_self, true_and, and_true, true_iff, iff_true, false_iff, iff_false, reduceCtorEq, ne_eq, *] <;> omega) | (simp_all; fail_if_success skip) | (simp_all <;> omega))
set_option maxHeartbeats 1600000
def wchB (c : Nat) : Bool := (decide (97 ≤ c) && decide (c ≤ 122)) || (decide (65 ≤ c) && decide (c ≤ 90)) || (decide (48 ≤ c) && decide (c ≤ 57)) || decide (c = 43) || decide (c = 47)
def wordB (s : ByteArray) : Bool := (List.range s.size).all (fun i => wchB (byt s i)) && inB (s.size : Nat) 4 64
theorem wch_t {c : Nat} (h : (97 ≤ c ∧ c ≤ 122) ∨ (65 ≤ c ∧ c ≤ 90) ∨ (48 ≤ c ∧ c ≤ 57) ∨ c = 43 ∨ c = 47) : wchB c = true := by
 unfold wchB
 simp only [Bool.or_eq_true, Bool.and_eq_true, decide_eq_true_eq]
 omega
theorem wch_f {c : Nat} (h : ¬ ((97 ≤ c ∧ c ≤ 122) ∨ (65 ≤ c ∧ c ≤ 90) ∨ (48 ≤ c ∧ c ≤ 57) ∨ c = 43 ∨ c = 47)) : wchB c = false := by
 rw [← Bool.not_eq_true]
 unfold wchB
 simp only [Bool.or_eq_true, Bool.and_eq_true, decide_eq_true_eq]
 omega
theorem wordB_f {s : ByteArray} {i : Nat} (hi : i < s.size) (h : wchB (byt s i) = false) : wordB s = false := by
 unfold wordB
 rw [Bool.and_eq_false_iff]
 left
 rw [List.all_eq_false]
 exact ⟨i, List.mem_range.2 hi, by rw [h]; decide⟩
theorem wordB_t {s : ByteArray} (h : ∀ i, i < s.size → wchB (byt s i) = true) : wordB s = inB (s.size : Nat) 4 64 := by
 unfold wordB
 have : (List.range s.size).all (fun i => wchB (byt s i)) = true := List.all_eq_true.2 fun i hi => h i (List.mem_range.1 hi)
 rw [this, Bool.true_and]
theorem octets_iter (s : ByteArray) (hs : SzS s) (bs : Nat) :
  Iter Try.prog 52 [.pointer (some ⟨bs, 0, none⟩)] [bs] (fun W => Blk W bs [.string s] 9) (fun k => [.int .u8 (byt s k : Nat)]) (fun k => k = s.size) (s.size + 1) := by
 intro l J Jx W hb hN hJ hJx hY h0
 refine (v_fn (R := fun _ B => (∃ k, k = s.size ∧ J k B) ∨ ∃ k, Jx k B) TTok FFok (f := 52) rfl rfl (Nat.le_of_ble_eq_true rfl) ?_).mono ?_
 rotate_left
 ·rintro e B ⟨v, rfl, h⟩; exact ⟨⟨v, rfl⟩, h⟩
 conv => whnf
 refine VSeq.mk fun Kq hKq => ?_
 conv => whnf
 refine hKq _ _ _ (.refl _) ?_
 clear hKq Kq
 conv => whnf
 refine ⟨fun m l' w => ∃ (k : Nat), m + k = s.size ∧ l' = [(0, .v (.func (.yield l) #[] #[])), (1, .v (.pointer (some ⟨bs, 0, none⟩))), (3, .v (.int .i64 k))] ∧ J k w ∧ Blk w bs [.string s] 9,
  ⟨s.size, _, ⟨0, by omega, rfl, h0, hb⟩, sub_cons rfl (sub_cons rfl (sub_cons rfl sub_nil))⟩, ?_⟩
 clear h0 hb
 rintro m _ w ⟨k, hk, rfl, hj, hb⟩
 have hsz : s.size ≤ 9223372036854775807 := hs
 have hp := (HpM.nil0 [bs] w).take hb (by simp) (by simp)
 conv => whnf
 refine VSeq.mk fun Kq hKq => ?_
 conv => whnf
 refine VSeq.mk fun Kq hKq => ?_
 conv => whnf
 refine ⟨_, _, Blk.ld (hp.get (i := 0) rfl) TTok rfl (rfl), ?_⟩
 conv => whnf
 refine hKq _ _ _ (.refl _) ?_
 clear hKq Kq
 conv => whnf
 refine ⟨fun hlt => ?_, fun hlt => ?_⟩
 ·have hlt := of_decide_eq_true hlt
  conv => whnf
  refine hKq _ _ _ (.refl _) ?_
  clear hKq Kq
  conv => whnf
  refine VSeq.mk fun Kq hKq => ?_
  conv => whnf
  refine VSeq.mk fun Kq hKq => ?_
  conv => whnf
  have hk2 : k < s.size := by omega
  refine ⟨_, _, Blk.ld (hp.get (i := 0) rfl) TTok rfl (rfl), ?_⟩
  conv => whnf
  refine ⟨k, ⟨by first | rfl | omega, by omega⟩, ?_⟩
  conv => whnf
  have hj1 := hJ k _ _ hj hp.extM
  refine y_mono (hY k _ hj1 (by omega)) ?_
  rintro e w' (⟨rfl, hj2, hkp⟩ | ⟨rfl, hx2⟩)
  ·have hb' : Blk w' bs [.string s] 9 := Blk.same (hp.get (i := 0) rfl) (hkp bs (by simp))
   refine ⟨_, rfl, ?_⟩
   have hp := (HpM.nil0 [bs] w').take hb' (by simp) (by simp)
   conv => whnf
   refine hKq _ _ _ (.refl _) ?_
   clear hKq Kq
   conv => whnf
   refine ⟨fun h => (by cases h), fun _ => ?_⟩
   conv => whnf
   refine hKq _ _ _ (.refl _) ?_
   clear hKq Kq
   conv => whnf
   refine Or.inl (And.intro (by omega) ?_)
   conv => whnf
   exact ⟨m - 1, _, by omega, ⟨k + 1, by omega, rfl, hj2, hb'⟩, sub_cons rfl (sub_cons rfl (sub_cons rfl sub_nil))⟩
  ·refine ⟨_, rfl, ?_⟩
   conv => whnf
   refine hKq _ _ _ (.refl _) ?_
   clear hKq Kq
   conv => whnf
   refine ⟨fun _ => ?_, fun h => (by cases h)⟩
   conv => whnf
   exact .inr ⟨k, hx2⟩
 ·have hlt := of_decide_eq_false hlt
  conv => whnf
  have hk2 : k = s.size := by omega
  exact .inl ⟨k, hk2, hj⟩
theorem octets_c {M : List Nat} {w0 w : World} {H : List It} (hp : HpM M w0 w H) (s : ByteArray) :
  Calls Try.prog 40 #[.string s] w fun e w' => ∃ v, e = .returned v ∧ ∃ bs, v = .func (.func 52) #[] #[.pointer (some ⟨bs, 0, none⟩)] ∧
   HpM M w0 w' (blk bs [.string s] 9 :: H) ∧ Ext w w' := by
 refine v_fn (args := [.string s]) TTok FFok (f := 40) rfl rfl (Nat.le_of_ble_eq_true rfl) ?_
 conv => whnf
 refine VSeq.mk fun Kq hKq => ?_
 conv => whnf
 refine hp.kbox [.string s] rfl fun bs w1 hp hx1 => ?_
 conv => whnf
 refine hKq _ _ _ (.refl _) ?_
 clear hKq Kq
 conv => whnf
 refine VSeq.mk fun Kq hKq => ?_
 conv => whnf
 refine hKq _ _ _ (.refl _) ?_
 clear hKq Kq
 conv => whnf
 exact ⟨bs, rfl, hp, hx1⟩
theorem word_p (s : ByteArray) (hs : SzS s) : PureF Try.prog 26 #[.string s] (.bool (wordB s)) := by
 first | refine v_pure TTok FFok Try.func26 rfl rfl fun w0 => ?_ | refine v_pure (args := []) TTok FFok Try.func26 rfl rfl fun w0 => ?_
 conv => whnf
 refine VSeq.mk fun Kq hKq => ?_
 conv => whnf
 have hp := Hp.nil w0
 refine hp.kalloc z4 fun q2 w hp hx => ?_
 conv => whnf
 refine hKq _ _ _ (.refl _) ?_
 clear hKq Kq
 conv => whnf
 refine VSeq.mk fun Kq hKq => ?_
 conv => whnf
 refine VSeq.mk fun Kq hKq => ?_
 conv => whnf
 refine Calls.mono (octets_c hp s) ?_
 rintro _ w ⟨v, rfl, bs, rfl, hp, hx⟩
 refine ⟨_, rfl, ?_⟩
 clear hx
 have hp0 := hp.rot 1
 conv => whnf
 refine hKq _ _ _ (.refl _) ?_
 clear hKq Kq
 conv => whnf
 refine v_range TTok FFok (octets_iter s hs bs) rfl rfl (by kernel_rfl) rfl (fun _ => rfl)
  (fun t X W => (∀ i, i < t → wchB (byt s i) = true) ∧ t ≤ s.size ∧ HpM [] w0 W (blk q2 [.bool false] 4 :: X))
  (fun e X W => wordB s = false ∧ e = .ret ∧ HpM [] w0 W (blk q2 [.bool false] 4 :: X))
  (fun t => ⟨fun X A h x hx => h.2.2.holds x (by simp [hx]), fun X X' A B r h => ⟨h.1, h.2.1, h.2.2.reframeAt 1 rfl r⟩⟩)
  (fun e => ⟨fun X A h x hx => h.2.2.holds x (by simp [hx]), fun X X' A B r h => ⟨h.1, h.2.1, h.2.2.reframeAt 1 rfl r⟩⟩)
  (fun t X A h => Nat.lt_succ_of_le h.2.1) [blk bs [.string s] 9] (hp.sub (by simp)) rfl
  (fun B hx => (hp.get (i := 0) rfl : Blk _ _ _ _).ext hx) ⟨fun i hi => absurd hi (Nat.not_lt_zero i), by omega, hp0⟩ ?_ ?_ ?_ ?_
 ·rintro k X A ⟨hall, hk, hp⟩ hk5
  have hk2 : k < s.size := Nat.lt_of_le_of_ne hk hk5
  clear hp0
  conv => whnf
  refine ⟨fun x hx => hp.holds x (by simp [hx]), fun X' B' r => ?_⟩
  have hp := hp.reframeAt 1 rfl r
  simp only [List.take_succ_cons, List.take_zero, List.cons_append, List.nil_append] at hp
  have hbt : wchB (byt s k) = true → (∀ i, i < k + 1 → wchB (byt s i) = true) ∧ k + 1 ≤ s.size ∧ HpM [] w0 B' (blk q2 [.bool false] 4 :: X') := fun hc => ⟨fun i hi => by
   rcases Nat.lt_or_ge i k with h | h
   ·exact hall i h
   ·have : i = k := by omega
    rw [this]; exact hc, hk2, hp⟩
  have hbf := fun hc => wordB_f hk2 hc
  obtain ⟨c, hc⟩ : ∃ c, byt s k = c := ⟨_, rfl⟩
  rw [hc] at hbt hbf ⊢
  clear hall hc
  conv => whnf
  refine VSeq.mk fun Kq hKq => ?_
  conv => whnf
  refine VSeq.mk fun Kq hKq => ?_
  conv => whnf
  refine hKq _ _ _ (.refl _) ?_
  clear hKq Kq
  conv => whnf
  refine VSeq.mk fun Kq hKq => ?_
  conv => whnf
  (refine ⟨fun hd => ?_, fun hd => ?_⟩ <;> (try simp only [Bool.not_eq_true', Bool.not_eq_false', decide_eq_true_eq, decide_eq_false_iff_not, ne_eq, Classical.not_not] at hd) <;> (conv => whnf))
  (refine hKq _ _ _ (.refl _) ?_; clear hKq Kq; conv => whnf)
  (refine VSeq.mk fun Kq hKq => ?_; conv => whnf)
  (refine ⟨fun hd => ?_, fun hd => ?_⟩ <;> (try simp only [Bool.not_eq_true', Bool.not_eq_false', decide_eq_true_eq, decide_eq_false_iff_not, ne_eq, Classical.not_not] at hd) <;> (conv => whnf))
  (refine hKq _ _ _ (.refl _) ?_; clear hKq Kq; conv => whnf)
  (refine VSeq.mk fun Kq hKq => ?_; conv => whnf)
  (refine hKq _ _ _ (.refl _) ?_; clear hKq Kq; conv => whnf)
  (refine VSeq.mk fun Kq hKq => ?_; conv => whnf)
  (refine hKq _ _ _ (.refl _) ?_; clear hKq Kq; conv => whnf)
  (refine hKq _ _ _ (.refl _) ?_; clear hKq Kq; conv => whnf)
  rotate_left
  (refine And.intro (fun _ => ?_) (fun h => absurd (by first | rfl | assumption | omega | decide) (of_decide_eq_false h)); conv => whnf)
  (refine hKq _ _ _ (.refl _) ?_; clear hKq Kq; conv => whnf)
  (refine VSeq.mk fun Kq hKq => ?_; conv => whnf)
  (refine And.intro (fun h => absurd (of_decide_eq_true h) (by first | (intro h2; exact absurd rfl h2) | omega | decide)) (fun _ => ?_); conv => whnf)
  (refine And.intro (fun _ => ?_) (fun h => absurd (by first | rfl | assumption | omega | decide) (of_decide_eq_false h)); conv => whnf)
  (refine hKq _ _ _ (.refl _) ?_; clear hKq Kq; conv => whnf)
  (refine VSeq.mk fun Kq hKq => ?_; conv => whnf)
  (refine And.intro (fun h => absurd (of_decide_eq_true h) (by first | (intro h2; exact absurd rfl h2) | omega | decide)) (fun _ => ?_); conv => whnf)
  (refine hKq _ _ _ (.refl _) ?_; clear hKq Kq; conv => whnf)
  (refine And.intro (fun h => absurd (of_decide_eq_true h) (by first | (intro h2; exact absurd rfl h2) | omega | decide)) (fun _ => ?_); conv => whnf)
  (refine hKq _ _ _ (.refl _) ?_; clear hKq Kq; conv => whnf)
  (refine And.intro (fun _ => ?_) (fun h => absurd (of_decide_eq_true ((Bool.not_eq_false' _).mp h)) (by first | (intro h2; exact absurd rfl h2) | omega | decide)); conv => whnf)
  (refine VSeq.mk fun Kq hKq => ?_; conv => whnf)
  (refine hp.kst1 TTok (by rfl) 0 (by rfl) (by rfl) (by rfl) (Nat.le_of_ble_eq_true rfl) fun w hp => ?_; try simp only [List.set_cons_zero, List.set_cons_succ, EV.val] at hp; conv => whnf)
  (refine hKq _ _ _ (.refl _) ?_; clear hKq Kq; conv => whnf)
  rotate_left
  (refine hKq _ _ _ (.refl _) ?_; clear hKq Kq; conv => whnf)
  (refine VSeq.mk fun Kq hKq => ?_; conv => whnf)
  (refine ⟨fun hd => ?_, fun hd => ?_⟩ <;> (try simp only [Bool.not_eq_true', Bool.not_eq_false', decide_eq_true_eq, decide_eq_false_iff_not, ne_eq, Classical.not_not] at hd) <;> (conv => whnf))
  (refine hKq _ _ _ (.refl _) ?_; clear hKq Kq; conv => whnf)
  (refine VSeq.mk fun Kq hKq => ?_; conv => whnf)
  (refine ⟨fun hd => ?_, fun hd => ?_⟩ <;> (try simp only [Bool.not_eq_true', Bool.not_eq_false', decide_eq_true_eq, decide_eq_false_iff_not, ne_eq, Classical.not_not] at hd) <;> (conv => whnf))
  (refine hKq _ _ _ (.refl _) ?_; clear hKq Kq; conv => whnf)
  (refine VSeq.mk fun Kq hKq => ?_; conv => whnf)
  (refine hKq _ _ _ (.refl _) ?_; clear hKq Kq; conv => whnf)
  (refine hKq _ _ _ (.refl _) ?_; clear hKq Kq; conv => whnf)
  rotate_left
  (refine And.intro (fun _ => ?_) (fun h => absurd (by first | rfl | assumption | omega | decide) (of_decide_eq_false h)); conv => whnf)
  (refine hKq _ _ _ (.refl _) ?_; clear hKq Kq; conv => whnf)
  (refine VSeq.mk fun Kq hKq => ?_; conv => whnf)
  (refine And.intro (fun h => absurd (of_decide_eq_true h) (by first | (intro h2; exact absurd rfl h2) | omega | decide)) (fun _ => ?_); conv => whnf)
  (refine hKq _ _ _ (.refl _) ?_; clear hKq Kq; conv => whnf)
  (refine And.intro (fun h => absurd (of_decide_eq_true h) (by first | (intro h2; exact absurd rfl h2) | omega | decide)) (fun _ => ?_); conv => whnf)
  (refine hKq _ _ _ (.refl _) ?_; clear hKq Kq; conv => whnf)
  (refine And.intro (fun _ => ?_) (fun h => absurd (of_decide_eq_true ((Bool.not_eq_false' _).mp h)) (by first | (intro h2; exact absurd rfl h2) | omega | decide)); conv => whnf)
  (refine VSeq.mk fun Kq hKq => ?_; conv => whnf)
  (refine hp.kst1 TTok (by rfl) 0 (by rfl) (by rfl) (by rfl) (Nat.le_of_ble_eq_true rfl) fun w hp => ?_; try simp only [List.set_cons_zero, List.set_cons_succ, EV.val] at hp; conv => whnf)
  (refine hKq _ _ _ (.refl _) ?_; clear hKq Kq; conv => whnf)
  rotate_left
  (refine hKq _ _ _ (.refl _) ?_; clear hKq Kq; conv => whnf)
  (refine VSeq.mk fun Kq hKq => ?_; conv => whnf)
  (refine ⟨fun hd => ?_, fun hd => ?_⟩ <;> (try simp only [Bool.not_eq_true', Bool.not_eq_false', decide_eq_true_eq, decide_eq_false_iff_not, ne_eq, Classical.not_not] at hd) <;> (conv => whnf))
  (refine hKq _ _ _ (.refl _) ?_; clear hKq Kq; conv => whnf)
  (refine VSeq.mk fun Kq hKq => ?_; conv => whnf)
  (refine ⟨fun hd => ?_, fun hd => ?_⟩ <;> (try simp only [Bool.not_eq_true', Bool.not_eq_false', decide_eq_true_eq, decide_eq_false_iff_not, ne_eq, Classical.not_not] at hd) <;> (conv => whnf))
  (refine hKq _ _ _ (.refl _) ?_; clear hKq Kq; conv => whnf)
  (refine hKq _ _ _ (.refl _) ?_; clear hKq Kq; conv => whnf)
  rotate_left
  (refine hKq _ _ _ (.refl _) ?_; clear hKq Kq; conv => whnf)
  (refine And.intro (fun h => absurd (of_decide_eq_true h) (by first | (intro h2; exact absurd rfl h2) | omega | decide)) (fun _ => ?_); conv => whnf)
  (refine hKq _ _ _ (.refl _) ?_; clear hKq Kq; conv => whnf)
  (refine And.intro (fun _ => ?_) (fun h => absurd (of_decide_eq_true ((Bool.not_eq_false' _).mp h)) (by first | (intro h2; exact absurd rfl h2) | omega | decide)); conv => whnf)
  (refine VSeq.mk fun Kq hKq => ?_; conv => whnf)
  (refine hp.kst1 TTok (by rfl) 0 (by rfl) (by rfl) (by rfl) (Nat.le_of_ble_eq_true rfl) fun w hp => ?_; try simp only [List.set_cons_zero, List.set_cons_succ, EV.val] at hp; conv => whnf)
  (refine hKq _ _ _ (.refl _) ?_; clear hKq Kq; conv => whnf)
  rotate_left
  (refine hKq _ _ _ (.refl _) ?_; clear hKq Kq; conv => whnf)
  (refine VSeq.mk fun Kq hKq => ?_; conv => whnf)
  (refine hKq _ _ _ (.refl _) ?_; clear hKq Kq; conv => whnf)
  (refine ⟨fun hd => ?_, fun hd => ?_⟩ <;> (try simp only [Bool.not_eq_true', Bool.not_eq_false', decide_eq_true_eq, decide_eq_false_iff_not, ne_eq, Classical.not_not] at hd) <;> (conv => whnf))
  (refine hKq _ _ _ (.refl _) ?_; clear hKq Kq; conv => whnf)
  rotate_left
  (refine hKq _ _ _ (.refl _) ?_; clear hKq Kq; conv => whnf)
  (refine ⟨fun hd => ?_, fun hd => ?_⟩ <;> (try simp only [Bool.not_eq_true', Bool.not_eq_false', decide_eq_true_eq, decide_eq_false_iff_not, ne_eq, Classical.not_not] at hd) <;> (conv => whnf))
  (refine VSeq.mk fun Kq hKq => ?_; conv => whnf)
  (refine hp.kst1 TTok (by rfl) 0 (by rfl) (by rfl) (by rfl) (Nat.le_of_ble_eq_true rfl) fun w hp => ?_; try simp only [List.set_cons_zero, List.set_cons_succ, EV.val] at hp; conv => whnf)
  (refine hKq _ _ _ (.refl _) ?_; clear hKq Kq; conv => whnf)
  rotate_left
  rotate_left
  all_goals first | exact hbt (wch_t (by omega)) | exact ⟨hbf (wch_f (by omega)), rfl, hp⟩
 ·rintro D k X W rfl ⟨hall, _, hp⟩
  clear hp0
  have hpw := wordB_t hall
  refine hKq _ _ _ (.refl _) ?_
  clear hKq Kq hall
  rw [hpw]
  conv => whnf
  refine VSeq.mk fun Kq hKq => ?_
  conv => whnf
  refine PureF.use (cwithin_p _ _ _) fun w hx => ?_
  try (have hp := hp.call hx)
  conv => whnf
  refine hp.kst1 TTok (by rfl) 0 (by rfl) (by rfl) (by rfl) (by decide) fun w hp => ?_
  try simp only [List.set_cons_zero, List.set_cons_succ, EV.val] at hp
  conv => whnf
  refine hKq _ _ _ (.refl _) ?_
  clear hKq Kq
  conv => whnf
  refine ⟨hp.get (i := 1) rfl, ?_⟩
  have hp := hp.shut (i := 1) rfl (o' := .deferred none)
  exact ⟨_, Blk.lv (hp.get (i := 0) rfl) TTok rfl rfl, rfl, hp.ext⟩
 ·rintro D X W ⟨hw, _, hp⟩
  clear hp0
  rw [hw]
  refine ⟨hp.get (i := 1) rfl, ?_⟩
  have hp := hp.shut (i := 1) rfl (o' := .deferred none)
  exact ⟨_, Blk.lv (hp.get (i := 0) rfl) TTok rfl rfl, rfl, hp.ext⟩
 ·rintro i D X W ⟨_, h, _⟩
  cases h
set_option maxHeartbeats 1600000
set_option maxHeartbeats 1600000
structure Wt where
 a : Ad
 b : Ad
 now : Int
 nxt : Int
 til : Int
 ser : Int
 gone : Bool
 noise : ByteArray
 word : ByteArray
 fresh : ByteArray
 asked : List Int
deriving DecidableEq
abbrev iv (l : List Int) : List Value := l.map (Value.int .i64)
abbrev Wt.c (x : Wt) (v : Value) : List Value := [.string x.a.h, .int .i64 x.a.p, .string x.b.h, .int .i64 x.b.p, .int .i64 x.now, .int .i64 x.nxt, .int .i64 x.til, .int .i64 x.ser, .bool x.gone, .string x.noise, .string x.word, .string x.fresh, v]
abbrev gC (x : Wt) (v out : Value) : List Value := [.string x.a.h, .int .i64 x.a.p, .string x.b.h, .int .i64 x.b.p, .int .i64 x.now, .int .i64 x.nxt, .int .i64 x.til, .int .i64 x.ser, .bool x.gone, .string x.noise, .string x.word, .string x.fresh, v, out]
structure Wt.Ok (x : Wt) : Prop where
 a : x.a.Ok
 b : x.b.Ok
 now : In64 x.now
 nxt : In64 x.nxt
 til : In64 x.til
 ser : In64 x.ser
 noise : SzS x.noise
 word : SzS x.word
 fresh : SzS x.fresh
 asked : ∀ i ∈ x.asked, In64 i
 len : x.asked.length ≤ maxLen
def ascB (last ser : Int) : List Int → Bool
 | [] => true
 | i :: r => decide (last < i) && (decide (i < ser) && ascB i ser r)
theorem ascB_cons (last ser i : Int) (r : List Int) : ascB last ser (i :: r) = (decide (last < i) && (decide (i < ser) && ascB i ser r)) := rfl
def wtB (x : Wt) : Bool :=
 (pathB x.a x.b && (inB x.now 0 1099511627776 && (inB x.nxt 0 1099511633776 && (inB x.til 0 1099511657776 && inB x.ser 0 1099511627776)))) &&
 ((inB (x.noise.size : Nat) 1 64 && (wordB x.word && ((decide (x.fresh = ⟨#[]⟩) || (wordB x.fresh && !decide (x.fresh = x.word))) && decide ((x.asked.length : Int) ≤ 8)))) &&
 (ascB (-1) x.ser x.asked && (if x.gone then decide ((x.asked.length : Int) = 0) && decide (x.fresh = ⟨#[]⟩) else decide (x.now < x.til))))
theorem wtB_1 {x : Wt} (h : (pathB x.a x.b && (inB x.now 0 1099511627776 && (inB x.nxt 0 1099511633776 && (inB x.til 0 1099511657776 && inB x.ser 0 1099511627776)))) = false) : wtB x = false := by unfold wtB; rw [h]; rfl
theorem wtB_2 {x : Wt} (h : (inB (x.noise.size : Nat) 1 64 && (wordB x.word && ((decide (x.fresh = ⟨#[]⟩) || (wordB x.fresh && !decide (x.fresh = x.word))) && decide ((x.asked.length : Int) ≤ 8)))) = false) : wtB x = false := by unfold wtB; rw [h, Bool.false_and, Bool.and_false]
theorem wtB_3 {x : Wt} (h : ascB (-1) x.ser x.asked = false) : wtB x = false := by unfold wtB; rw [h, Bool.false_and, Bool.and_false, Bool.and_false]
theorem wtB_4 {x : Wt} (h1 : (pathB x.a x.b && (inB x.now 0 1099511627776 && (inB x.nxt 0 1099511633776 && (inB x.til 0 1099511657776 && inB x.ser 0 1099511627776)))) = true) (h2 : (inB (x.noise.size : Nat) 1 64 && (wordB x.word && ((decide (x.fresh = ⟨#[]⟩) || (wordB x.fresh && !decide (x.fresh = x.word))) && decide ((x.asked.length : Int) ≤ 8)))) = true) (h3 : ascB (-1) x.ser x.asked = true) : wtB x = (if x.gone then decide ((x.asked.length : Int) = 0) && decide (x.fresh = ⟨#[]⟩) else decide (x.now < x.til)) := by unfold wtB; rw [h1, h2, h3]; rfl
theorem valid_c {W : World} {q : Nat} {v out : Value} (x : Wt) (hok : x.Ok) (hb : Blk W q (gC x v out) 60) (hv : SLv W v (iv x.asked)) :
  Calls Try.prog 28 #[.pointer (some ⟨q, 0, none⟩)] W fun e w' => e = .returned (.bool (wtB x)) ∧ Ext W w' := by
 obtain ⟨⟨ah, ap⟩, ⟨bh, bp⟩, now, nxt, til, ser, gone, noise, word, fresh, asked⟩ := x
 obtain ⟨ha, hb', _, _, _, _, _, hwo, hfr, _, hln⟩ := hok
 dsimp only [gC] at hb hv hln ha hb' hwo hfr ⊢
 obtain ⟨p, c, rfl⟩ := hv.shape
 have hsl : (iv asked).length = asked.length := List.length_map _
 rw [hsl] at hb hv
 have e1 := @wtB_1 ⟨⟨ah, ap⟩, ⟨bh, bp⟩, now, nxt, til, ser, gone, noise, word, fresh, asked⟩
 have e2 := @wtB_2 ⟨⟨ah, ap⟩, ⟨bh, bp⟩, now, nxt, til, ser, gone, noise, word, fresh, asked⟩
 have e3 := @wtB_3 ⟨⟨ah, ap⟩, ⟨bh, bp⟩, now, nxt, til, ser, gone, noise, word, fresh, asked⟩
 have e4 := @wtB_4 ⟨⟨ah, ap⟩, ⟨bh, bp⟩, now, nxt, til, ser, gone, noise, word, fresh, asked⟩
 dsimp only at e1 e2 e3 e4
 obtain ⟨r, hr⟩ : ∃ r, wtB ⟨⟨ah, ap⟩, ⟨bh, bp⟩, now, nxt, til, ser, gone, noise, word, fresh, asked⟩ = r := ⟨_, rfl⟩
 rw [hr] at e1 e2 e3 e4 ⊢
 clear hr
 refine v_reads (args := [.pointer (some ⟨q, 0, none⟩)]) TTok FFok Try.func28 rfl rfl ?_
 conv => whnf
 refine VSeq.mk fun Kq hKq => ?_
 conv => whnf
 refine hKq _ _ _ (.refl _) ?_
 clear hKq Kq
 conv => whnf
 refine VSeq.mk fun Kq hKq => ?_
 conv => whnf
 refine VSeq.mk fun Kq hKq => ?_
 conv => whnf
 refine VSeq.mk fun Kq hKq => ?_
 conv => whnf
 have hp := Hp.nil W
 (refine ⟨_, _, Blk.ldV (vs := [_, _, _, _]) (Blk.ext hb hp.ext) TTok rfl rfl rfl, ?_⟩; conv => whnf)
 (refine V.CallW.out ?_; (conv => arg 3; dsimp only [EV.val, List.toList_toArray, List.nil_append, List.append_nil, List.cons_append]); (with_reducible refine V.PureF.useW (path_p _ _ _ _ (by assumption) (by assumption)) fun w hx => ?_); try (have hp := hp.call hx); conv => whnf)
 (refine hKq _ _ _ (.refl _) ?_; clear hKq Kq; conv => whnf)
 (refine VSeq.mk fun Kq hKq => ?_; conv => whnf)
 (refine ⟨fun hd => ?_, fun hd => ?_⟩ <;> (try simp only [Bool.not_eq_true', Bool.not_eq_false', decide_eq_true_eq, decide_eq_false_iff_not, ne_eq, Classical.not_not] at hd) <;> (conv => whnf))
 (refine hKq _ _ _ (.refl _) ?_; clear hKq Kq; conv => whnf)
 (refine VSeq.mk fun Kq hKq => ?_; conv => whnf)
 (refine hKq _ _ _ (.refl _) ?_; clear hKq Kq; conv => whnf)
 (refine VSeq.mk fun Kq hKq => ?_; conv => whnf)
 (refine hKq _ _ _ (.refl _) ?_; clear hKq Kq; conv => whnf)
 (refine hKq _ _ _ (.refl _) ?_; clear hKq Kq; conv => whnf)
 (refine VSeq.mk fun Kq hKq => ?_; conv => whnf)
 (refine hKq _ _ _ (.refl _) ?_; clear hKq Kq; conv => whnf)
 (refine ⟨congrArg Value.bool ?_, hp.ext⟩; rw [Bool.eq_iff_iff]; first | (simp only [Bool.or_eq_true, Bool.and_eq_true, decide_eq_true_eq, Bool.not_eq_true', decide_eq_false_iff_not, eq_self, true_and, and_true, true_iff, iff_true, false_iff, iff_false, reduceCtorEq, ne_eq, *] <;> omega) | (simp_all; fail_if_success skip) | (simp_all <;> omega))
 (refine ⟨_, _, Blk.ld (Blk.ext hb hp.ext) TTok rfl rfl, ?_⟩; conv => whnf)
 (refine V.CallW.out ?_; (conv => arg 3; dsimp only [EV.val, List.toList_toArray, List.nil_append, List.append_nil, List.cons_append]); (with_reducible refine V.PureF.useW (cwithin_p _ _ _) fun w hx => ?_); try (have hp := hp.call hx); conv => whnf)
 (refine hKq _ _ _ (.refl _) ?_; clear hKq Kq; conv => whnf)
 (refine VSeq.mk fun Kq hKq => ?_; conv => whnf)
 (refine ⟨fun hd => ?_, fun hd => ?_⟩ <;> (try simp only [Bool.not_eq_true', Bool.not_eq_false', decide_eq_true_eq, decide_eq_false_iff_not, ne_eq, Classical.not_not] at hd) <;> (conv => whnf))
 (refine hKq _ _ _ (.refl _) ?_; clear hKq Kq; conv => whnf)
 (refine VSeq.mk fun Kq hKq => ?_; conv => whnf)
 (refine hKq _ _ _ (.refl _) ?_; clear hKq Kq; conv => whnf)
 (refine hKq _ _ _ (.refl _) ?_; clear hKq Kq; conv => whnf)
 (refine VSeq.mk fun Kq hKq => ?_; conv => whnf)
 (refine hKq _ _ _ (.refl _) ?_; clear hKq Kq; conv => whnf)
 (refine ⟨congrArg Value.bool ?_, hp.ext⟩; rw [Bool.eq_iff_iff]; first | (simp only [Bool.or_eq_true, Bool.and_eq_true, decide_eq_true_eq, Bool.not_eq_true', decide_eq_false_iff_not, eq_self, true_and, and_true, true_iff, iff_true, false_iff, iff_false, reduceCtorEq, ne_eq, *] <;> omega) | (simp_all; fail_if_success skip) | (simp_all <;> omega))
 (refine ⟨_, _, Blk.ld (Blk.ext hb hp.ext) TTok rfl rfl, ?_⟩; conv => whnf)
 (refine V.CallW.out ?_; (conv => arg 3; dsimp only [EV.val, List.toList_toArray, List.nil_append, List.append_nil, List.cons_append]); (with_reducible refine V.PureF.useW (cwithin_p _ _ _) fun w hx => ?_); try (have hp := hp.call hx); conv => whnf)
 (refine hKq _ _ _ (.refl _) ?_; clear hKq Kq; conv => whnf)
 (refine VSeq.mk fun Kq hKq => ?_; conv => whnf)
 (refine ⟨fun hd => ?_, fun hd => ?_⟩ <;> (try simp only [Bool.not_eq_true', Bool.not_eq_false', decide_eq_true_eq, decide_eq_false_iff_not, ne_eq, Classical.not_not] at hd) <;> (conv => whnf))
 (refine hKq _ _ _ (.refl _) ?_; clear hKq Kq; conv => whnf)
 (refine hKq _ _ _ (.refl _) ?_; clear hKq Kq; conv => whnf)
 (refine VSeq.mk fun Kq hKq => ?_; conv => whnf)
 (refine hKq _ _ _ (.refl _) ?_; clear hKq Kq; conv => whnf)
 (refine ⟨congrArg Value.bool ?_, hp.ext⟩; rw [Bool.eq_iff_iff]; first | (simp only [Bool.or_eq_true, Bool.and_eq_true, decide_eq_true_eq, Bool.not_eq_true', decide_eq_false_iff_not, eq_self, true_and, and_true, true_iff, iff_true, false_iff, iff_false, reduceCtorEq, ne_eq, *] <;> omega) | (simp_all; fail_if_success skip) | (simp_all <;> omega))
 (refine ⟨_, _, Blk.ld (Blk.ext hb hp.ext) TTok rfl rfl, ?_⟩; conv => whnf)
 (refine V.CallW.out ?_; (conv => arg 3; dsimp only [EV.val, List.toList_toArray, List.nil_append, List.append_nil, List.cons_append]); (with_reducible refine V.PureF.useW (cwithin_p _ _ _) fun w hx => ?_); try (have hp := hp.call hx); conv => whnf)
 (refine hKq _ _ _ (.refl _) ?_; clear hKq Kq; conv => whnf)
 (refine ⟨fun hd => ?_, fun hd => ?_⟩ <;> (try simp only [Bool.not_eq_true', Bool.not_eq_false', decide_eq_true_eq, decide_eq_false_iff_not, ne_eq, Classical.not_not] at hd) <;> (conv => whnf))
 (refine hKq _ _ _ (.refl _) ?_; clear hKq Kq; conv => whnf)
 (refine VSeq.mk fun Kq hKq => ?_; conv => whnf)
 (refine hKq _ _ _ (.refl _) ?_; clear hKq Kq; conv => whnf)
 (refine ⟨congrArg Value.bool ?_, hp.ext⟩; rw [Bool.eq_iff_iff]; first | (simp only [Bool.or_eq_true, Bool.and_eq_true, decide_eq_true_eq, Bool.not_eq_true', decide_eq_false_iff_not, eq_self, true_and, and_true, true_iff, iff_true, false_iff, iff_false, reduceCtorEq, ne_eq, *] <;> omega) | (simp_all; fail_if_success skip) | (simp_all <;> omega))
 (refine ⟨_, _, Blk.ld (Blk.ext hb hp.ext) TTok rfl rfl, ?_⟩; conv => whnf)
 (refine V.CallW.out ?_; (conv => arg 3; dsimp only [EV.val, List.toList_toArray, List.nil_append, List.append_nil, List.cons_append]); (with_reducible refine V.PureF.useW (cwithin_p _ _ _) fun w hx => ?_); try (have hp := hp.call hx); conv => whnf)
 (refine hKq _ _ _ (.refl _) ?_; clear hKq Kq; conv => whnf)
 (refine ⟨fun hd => ?_, fun hd => ?_⟩ <;> (try simp only [Bool.not_eq_true', Bool.not_eq_false', decide_eq_true_eq, decide_eq_false_iff_not, ne_eq, Classical.not_not] at hd) <;> (conv => whnf))
 (refine VSeq.mk fun Kq hKq => ?_; conv => whnf)
 (refine hKq _ _ _ (.refl _) ?_; clear hKq Kq; conv => whnf)
 (refine ⟨congrArg Value.bool ?_, hp.ext⟩; rw [Bool.eq_iff_iff]; first | (simp only [Bool.or_eq_true, Bool.and_eq_true, decide_eq_true_eq, Bool.not_eq_true', decide_eq_false_iff_not, eq_self, true_and, and_true, true_iff, iff_true, false_iff, iff_false, reduceCtorEq, ne_eq, *] <;> omega) | (simp_all; fail_if_success skip) | (simp_all <;> omega))
 (refine hKq _ _ _ (.refl _) ?_; clear hKq Kq; conv => whnf)
 (refine VSeq.mk fun Kq hKq => ?_; conv => whnf)
 (refine VSeq.mk fun Kq hKq => ?_; conv => whnf)
 have E1 : (pathB ⟨ah, ap⟩ ⟨bh, bp⟩ && (inB now 0 1099511627776 && (inB nxt 0 1099511633776 && (inB til 0 1099511657776 && inB ser 0 1099511627776)))) = true := by simp [*]
 clear e1
 have e4 := e4 E1
 clear E1
 refine v_mixA TTok FFok mixed [(0, false), (1, false), (2, false), (3, false), (4, false), (5, false), (6, false), (7, false), (8, false), (9, false), (10, false), (11, false), (12, false), (13, false), (14, false), (15, false), (16, false), (17, false), (18, false), (19, false), (20, false), (21, false), (22, false), (23, false), (24, false), (25, false), (26, false), (27, false), (28, false), (29, false), (30, false), (31, false), (32, false), (33, false), (34, false), (35, false), (36, false), (37, false), (38, false), (39, false), (40, false), (41, false), (42, false), (43, false), (44, false), (45, false), (46, false), (47, false), (48, false), (49, false), (50, false), (51, false), (52, false), (53, false), (54, false), (55, false)] (by kernel_rfl) ?_
 conv => whnf
 (refine ⟨_, fun w' hx' => Blk.ld (Blk.ext hb (hp.ext.trans hx')) TTok rfl rfl, ?_⟩; conv => whnf)
 (refine V.QCallW.out ?_; (conv => arg 3; dsimp only [EV.val, List.toList_toArray, List.nil_append, List.append_nil, List.cons_append]); (with_reducible refine V.PureF.quietW (cwithin_p _ _ _) ?_); conv => whnf)
 (refine ⟨fun hd => ?_, fun hd => ?_⟩ <;> (try simp only [Bool.not_eq_true', Bool.not_eq_false', decide_eq_true_eq, decide_eq_false_iff_not, ne_eq, Classical.not_not] at hd) <;> (conv => whnf))
 (intro w hx; try (have hp := hp.call hx); conv => whnf)
 (refine hKq _ _ _ (.refl _) ?_; clear hKq Kq; conv => whnf)
 (refine VSeq.mk fun Kq hKq => ?_; conv => whnf)
 (refine hKq _ _ _ (.refl _) ?_; clear hKq Kq; conv => whnf)
 (refine ⟨congrArg Value.bool ?_, hp.ext⟩; rw [Bool.eq_iff_iff]; first | (simp only [Bool.or_eq_true, Bool.and_eq_true, decide_eq_true_eq, Bool.not_eq_true', decide_eq_false_iff_not, eq_self, true_and, and_true, true_iff, iff_true, false_iff, iff_false, reduceCtorEq, ne_eq, *] <;> omega) | (simp_all; fail_if_success skip) | (simp_all <;> omega))
 (refine ⟨_, fun w' hx' => Blk.ld (Blk.ext hb (hp.ext.trans hx')) TTok rfl rfl, ?_⟩; conv => whnf)
 (refine V.QCallW.out ?_; (conv => arg 3; dsimp only [EV.val, List.toList_toArray, List.nil_append, List.append_nil, List.cons_append]); (with_reducible refine V.PureF.quietW (word_p _ (by assumption)) ?_); conv => whnf)
 (refine ⟨fun hd => ?_, fun hd => ?_⟩ <;> (try simp only [Bool.not_eq_true', Bool.not_eq_false', decide_eq_true_eq, decide_eq_false_iff_not, ne_eq, Classical.not_not] at hd) <;> (conv => whnf))
 (intro w hx; try (have hp := hp.call hx); conv => whnf)
 (refine hKq _ _ _ (.refl _) ?_; clear hKq Kq; conv => whnf)
 (refine VSeq.mk fun Kq hKq => ?_; conv => whnf)
 (refine hKq _ _ _ (.refl _) ?_; clear hKq Kq; conv => whnf)
 (refine ⟨congrArg Value.bool ?_, hp.ext⟩; rw [Bool.eq_iff_iff]; first | (simp only [Bool.or_eq_true, Bool.and_eq_true, decide_eq_true_eq, Bool.not_eq_true', decide_eq_false_iff_not, eq_self, true_and, and_true, true_iff, iff_true, false_iff, iff_false, reduceCtorEq, ne_eq, *] <;> omega) | (simp_all; fail_if_success skip) | (simp_all <;> omega))
 (refine ⟨_, fun w' hx' => Blk.ld (Blk.ext hb (hp.ext.trans hx')) TTok rfl rfl, ?_⟩; conv => whnf)
 (refine ⟨fun hd => ?_, fun hd => ?_⟩ <;> (try simp only [Bool.not_eq_true', Bool.not_eq_false', decide_eq_true_eq, decide_eq_false_iff_not, ne_eq, Classical.not_not] at hd) <;> (conv => whnf))
 (refine ⟨_, fun w' hx' => Blk.ld (Blk.ext hb (hp.ext.trans hx')) TTok rfl rfl, ?_⟩; conv => whnf)
 (refine V.QCallW.out ?_; (conv => arg 3; dsimp only [EV.val, List.toList_toArray, List.nil_append, List.append_nil, List.cons_append]); (with_reducible refine V.PureF.quietW (word_p _ (by assumption)) ?_); conv => whnf)
 (refine ⟨fun hd => ?_, fun hd => ?_⟩ <;> (try simp only [Bool.not_eq_true', Bool.not_eq_false', decide_eq_true_eq, decide_eq_false_iff_not, ne_eq, Classical.not_not] at hd) <;> (conv => whnf))
 (intro w hx; try (have hp := hp.call hx); conv => whnf)
 (refine hKq _ _ _ (.refl _) ?_; clear hKq Kq; conv => whnf)
 (refine VSeq.mk fun Kq hKq => ?_; conv => whnf)
 (refine hKq _ _ _ (.refl _) ?_; clear hKq Kq; conv => whnf)
 (refine ⟨congrArg Value.bool ?_, hp.ext⟩; rw [Bool.eq_iff_iff]; first | (simp only [Bool.or_eq_true, Bool.and_eq_true, decide_eq_true_eq, Bool.not_eq_true', decide_eq_false_iff_not, eq_self, true_and, and_true, true_iff, iff_true, false_iff, iff_false, reduceCtorEq, ne_eq, *] <;> omega) | (simp_all; fail_if_success skip) | (simp_all <;> omega))
 (refine ⟨_, fun w' hx' => Blk.ld (Blk.ext hb (hp.ext.trans hx')) TTok rfl rfl, ?_⟩; conv => whnf)
 (refine ⟨_, fun w' hx' => Blk.ld (Blk.ext hb (hp.ext.trans hx')) TTok rfl rfl, ?_⟩; conv => whnf)
 (refine ⟨fun hd => ?_, fun hd => ?_⟩ <;> (try simp only [Bool.not_eq_true', Bool.not_eq_false', decide_eq_true_eq, decide_eq_false_iff_not, ne_eq, Classical.not_not] at hd) <;> (conv => whnf))
 (intro w hx; try (have hp := hp.call hx); conv => whnf)
 (refine hKq _ _ _ (.refl _) ?_; clear hKq Kq; conv => whnf)
 (refine VSeq.mk fun Kq hKq => ?_; conv => whnf)
 (refine hKq _ _ _ (.refl _) ?_; clear hKq Kq; conv => whnf)
 (refine ⟨congrArg Value.bool ?_, hp.ext⟩; rw [Bool.eq_iff_iff]; first | (simp only [Bool.or_eq_true, Bool.and_eq_true, decide_eq_true_eq, Bool.not_eq_true', decide_eq_false_iff_not, eq_self, true_and, and_true, true_iff, iff_true, false_iff, iff_false, reduceCtorEq, ne_eq, *] <;> omega) | (simp_all; fail_if_success skip) | (simp_all <;> omega))
 (refine ⟨_, fun w' hx' => Blk.ld (Blk.ext hb (hp.ext.trans hx')) TTok rfl rfl, ?_⟩; conv => whnf)
 (intro w hx; try (have hp := hp.call hx); conv => whnf)
 (refine hKq _ _ _ (.refl _) ?_; clear hKq Kq; conv => whnf)
 (refine ⟨fun hd => ?_, fun hd => ?_⟩ <;> (try simp only [Bool.not_eq_true', Bool.not_eq_false', decide_eq_true_eq, decide_eq_false_iff_not, ne_eq, Classical.not_not] at hd) <;> (conv => whnf))
 (refine VSeq.mk fun Kq hKq => ?_; conv => whnf)
 (refine hKq _ _ _ (.refl _) ?_; clear hKq Kq; conv => whnf)
 (refine ⟨congrArg Value.bool ?_, hp.ext⟩; rw [Bool.eq_iff_iff]; first | (simp only [Bool.or_eq_true, Bool.and_eq_true, decide_eq_true_eq, Bool.not_eq_true', decide_eq_false_iff_not, eq_self, true_and, and_true, true_iff, iff_true, false_iff, iff_false, reduceCtorEq, ne_eq, *] <;> omega) | (simp_all; fail_if_success skip) | (simp_all <;> omega))
 (refine hKq _ _ _ (.refl _) ?_; clear hKq Kq; conv => whnf)
 (refine VSeq.mk fun Kq hKq => ?_; conv => whnf)
 (refine hKq _ _ _ (.refl _) ?_; clear hKq Kq; conv => whnf)
 (refine VSeq.mk fun Kq hKq => ?_; conv => whnf)
 (refine VSeq.mk fun Kq hKq => ?_; conv => whnf)
 (refine ⟨_, _, Blk.ld (Blk.ext hb hp.ext) TTok rfl rfl, ?_⟩; conv => whnf)
 (refine hKq _ _ _ (.refl _) ?_; clear hKq Kq; conv => whnf)
 rotate_left
 (refine ⟨_, fun w' hx' => Blk.ld (Blk.ext hb (hp.ext.trans hx')) TTok rfl rfl, ?_⟩; conv => whnf)
 (intro w hx; try (have hp := hp.call hx); conv => whnf)
 (refine hKq _ _ _ (.refl _) ?_; clear hKq Kq; conv => whnf)
 (refine ⟨fun hd => ?_, fun hd => ?_⟩ <;> (try simp only [Bool.not_eq_true', Bool.not_eq_false', decide_eq_true_eq, decide_eq_false_iff_not, ne_eq, Classical.not_not] at hd) <;> (conv => whnf))
 (refine VSeq.mk fun Kq hKq => ?_; conv => whnf)
 (refine hKq _ _ _ (.refl _) ?_; clear hKq Kq; conv => whnf)
 (refine ⟨congrArg Value.bool ?_, hp.ext⟩; rw [Bool.eq_iff_iff]; first | (simp only [Bool.or_eq_true, Bool.and_eq_true, decide_eq_true_eq, Bool.not_eq_true', decide_eq_false_iff_not, eq_self, true_and, and_true, true_iff, iff_true, false_iff, iff_false, reduceCtorEq, ne_eq, *] <;> omega) | (simp_all; fail_if_success skip) | (simp_all <;> omega))
 (refine hKq _ _ _ (.refl _) ?_; clear hKq Kq; conv => whnf)
 (refine VSeq.mk fun Kq hKq => ?_; conv => whnf)
 (refine hKq _ _ _ (.refl _) ?_; clear hKq Kq; conv => whnf)
 (refine VSeq.mk fun Kq hKq => ?_; conv => whnf)
 (refine VSeq.mk fun Kq hKq => ?_; conv => whnf)
 (refine ⟨_, _, Blk.ld (Blk.ext hb hp.ext) TTok rfl rfl, ?_⟩; conv => whnf)
 (refine hKq _ _ _ (.refl _) ?_; clear hKq Kq; conv => whnf)
 rotate_left
 all_goals
  have E2 : (inB (noise.size : Nat) 1 64 && (wordB word && ((decide (fresh = ⟨#[]⟩) || (wordB fresh && !decide (fresh = word))) && decide ((asked.length : Int) ≤ 8)))) = true := by
   have hl8 : (asked.length : Int) ≤ 8 := by omega
   simp [*]
  have e4 := e4 E2
  have hl8 : asked.length ≤ 8 := by omega
  clear e2 E2
  refine ⟨fun mm e w' => ∃ (i : Nat) (last : Int), mm + i = asked.length ∧ e = [(0, .v (.pointer (some ⟨q, 0, none⟩))), (3, .v (.int .i64 last)), (109, .v (.slice p asked.length c)), (110, .v (.int .i64 asked.length)), (111, .v (.int .i64 i))] ∧ ascB last ser (asked.drop i) = ascB (-1) ser asked ∧ HpM [] W w' [],
   ⟨asked.length, _, ⟨0, -1, by omega, rfl, rfl, hp⟩, sub_cons rfl (sub_cons rfl (sub_cons rfl (sub_cons rfl (sub_cons rfl sub_nil))))⟩, ?_⟩
  rintro mm _ w ⟨i, last, hmm, rfl, has, hp⟩
  conv => whnf
  refine VSeq.mk fun Kq hKq => ?_
  conv => whnf
  refine hKq _ _ _ (.refl _) ?_
  clear hKq Kq
  conv => whnf
  refine VSeq.mk fun Kq hKq => ?_
  conv => whnf
  refine ⟨fun hlt => ?_, fun hlt => ?_⟩
  ·have hlt := of_decide_eq_true hlt
   conv => whnf
   refine hKq _ _ _ (.refl _) ?_
   clear hKq Kq
   conv => whnf
   refine VSeq.mk fun Kq hKq => ?_
   conv => whnf
   refine VSeq.mk fun Kq hKq => ?_
   conv => whnf
   have hi : i < asked.length := by omega
   obtain ⟨a, ha⟩ : ∃ a, asked[i]? = some a := ⟨asked[i], List.getElem?_eq_getElem hi⟩
   obtain ⟨g, off, rfl, hld⟩ := (hv.ext hp.ext).at (j := i) (x := .int .i64 a) (by rw [List.getElem?_map, ha]; rfl)
   have hdr : asked.drop i = a :: asked.drop (i + 1) := by rw [List.drop_eq_getElem_cons hi]; congr 1; rw [List.getElem?_eq_getElem hi] at ha; exact Option.some.inj ha
   rw [hdr] at has
   rw [ascB_cons] at has
   refine ⟨i, ⟨by first | rfl | omega, by omega⟩, ?_⟩
   conv => whnf
   rw [Nat.add_comm] at hld
   refine ⟨_, _, run_ld TTok rfl hld, ?_⟩
   conv => whnf
   refine hKq _ _ _ (.refl _) ?_
   clear hKq Kq
   conv => whnf
   refine VSeq.mk fun Kq hKq => ?_
   conv => whnf
   refine VSeq.mk fun Kq hKq => ?_
   conv => whnf
   refine VSeq.mk fun Kq hKq => ?_
   conv => whnf
   refine hKq _ _ _ (.refl _) ?_
   clear hKq Kq
   conv => whnf
   skip
   refine ⟨fun h1 => ?_, fun h1 => ?_⟩
   ·have h1 := of_decide_eq_true h1
    conv => whnf
    refine hKq _ _ _ (.refl _) ?_
    clear hKq Kq
    conv => whnf
    refine VSeq.mk fun Kq hKq => ?_
    conv => whnf
    refine hKq _ _ _ (.refl _) ?_
    clear hKq Kq
    conv => whnf
    rw [decide_eq_false (by omega), Bool.false_and] at has
    (refine ⟨congrArg Value.bool ?_, hp.ext⟩; rw [Bool.eq_iff_iff]; first | (simp only [Bool.or_eq_true, Bool.and_eq_true, decide_eq_true_eq, Bool.not_eq_true', decide_eq_false_iff_not, eq_self, true_and, and_true, true_iff, iff_true, false_iff, iff_false, reduceCtorEq, ne_eq, *] <;> omega) | (simp_all; fail_if_success skip) | (simp_all <;> omega))
   ·have h1 := of_decide_eq_false h1
    conv => whnf
    (refine ⟨_, _, Blk.ld (Blk.ext hb hp.ext) TTok rfl rfl, ?_⟩; conv => whnf)
    (refine hKq _ _ _ (.refl _) ?_; clear hKq Kq; conv => whnf)
    refine ⟨fun h2 => ?_, fun h2 => ?_⟩
    ·have h2 := of_decide_eq_true h2
     conv => whnf
     refine VSeq.mk fun Kq hKq => ?_
     conv => whnf
     refine hKq _ _ _ (.refl _) ?_
     clear hKq Kq
     conv => whnf
     rw [decide_eq_false (show ¬ a < ser by omega), Bool.false_and, Bool.and_false] at has
     (refine ⟨congrArg Value.bool ?_, hp.ext⟩; rw [Bool.eq_iff_iff]; first | (simp only [Bool.or_eq_true, Bool.and_eq_true, decide_eq_true_eq, Bool.not_eq_true', decide_eq_false_iff_not, eq_self, true_and, and_true, true_iff, iff_true, false_iff, iff_false, reduceCtorEq, ne_eq, *] <;> omega) | (simp_all; fail_if_success skip) | (simp_all <;> omega))
    ·have h2 := of_decide_eq_false h2
     conv => whnf
     refine hKq _ _ _ (.refl _) ?_
     clear hKq Kq
     conv => whnf
     refine hKq _ _ _ (.refl _) ?_
     clear hKq Kq
     conv => whnf
     refine Or.inl (And.intro (by omega) ?_)
     conv => whnf
     rw [decide_eq_true (show a < ser by omega), decide_eq_true (show last < a by omega), Bool.true_and, Bool.true_and] at has
     skip
     exact ⟨mm - 1, _, by omega, ⟨i + 1, a, by omega, rfl, has, hp⟩, sub_cons rfl (sub_cons rfl (sub_cons rfl (sub_cons rfl (sub_cons rfl sub_nil))))⟩
  ·have hlt := of_decide_eq_false hlt
   conv => whnf
   clear hKq Kq
   refine hKq _ _ _ (.refl _) ?_
   clear hKq Kq
   conv => whnf
   refine VSeq.mk fun Kq hKq => ?_
   conv => whnf
   refine VSeq.mk fun Kq hKq => ?_
   conv => whnf
   have hi : i = asked.length := by omega
   subst hi
   rw [List.drop_of_length_le (Nat.le_refl _)] at has
   have e4 := e4 (by rw [← has]; rfl)
   clear has e3
   cases gone with
   | true =>
    (refine ⟨_, _, Blk.ld (Blk.ext hb hp.ext) TTok rfl rfl, ?_⟩; conv => whnf)
    (refine hKq _ _ _ (.refl _) ?_; clear hKq Kq; conv => whnf)
    (refine And.intro (fun _ => ?_) (fun h => absurd h (by decide)); conv => whnf)
    (refine VSeq.mk fun Kq hKq => ?_; conv => whnf)
    (refine VSeq.mk fun Kq hKq => ?_; conv => whnf)
    (refine ⟨_, _, Blk.ld (Blk.ext hb hp.ext) TTok rfl rfl, ?_⟩; conv => whnf)
    (refine hKq _ _ _ (.refl _) ?_; clear hKq Kq; conv => whnf)
    (refine ⟨fun hd => ?_, fun hd => ?_⟩ <;> (try simp only [Bool.not_eq_true', Bool.not_eq_false', decide_eq_true_eq, decide_eq_false_iff_not, ne_eq, Classical.not_not] at hd) <;> (conv => whnf))
    (refine ⟨_, _, Blk.ld (Blk.ext hb hp.ext) TTok rfl rfl, ?_⟩; conv => whnf)
    (refine hKq _ _ _ (.refl _) ?_; clear hKq Kq; conv => whnf)
    (refine ⟨congrArg Value.bool ?_, hp.ext⟩; rw [Bool.eq_iff_iff]; first | (simp only [Bool.or_eq_true, Bool.and_eq_true, decide_eq_true_eq, Bool.not_eq_true', decide_eq_false_iff_not, eq_self, true_and, and_true, true_iff, iff_true, false_iff, iff_false, reduceCtorEq, ne_eq, *] <;> omega) | (simp_all; fail_if_success skip) | (simp_all <;> omega))
    (refine hKq _ _ _ (.refl _) ?_; clear hKq Kq; conv => whnf)
    (refine ⟨congrArg Value.bool ?_, hp.ext⟩; rw [Bool.eq_iff_iff]; first | (simp only [Bool.or_eq_true, Bool.and_eq_true, decide_eq_true_eq, Bool.not_eq_true', decide_eq_false_iff_not, eq_self, true_and, and_true, true_iff, iff_true, false_iff, iff_false, reduceCtorEq, ne_eq, *] <;> omega) | (simp_all; fail_if_success skip) | (simp_all <;> omega))
   | false =>
    (refine ⟨_, _, Blk.ld (Blk.ext hb hp.ext) TTok rfl rfl, ?_⟩; conv => whnf)
    (refine hKq _ _ _ (.refl _) ?_; clear hKq Kq; conv => whnf)
    (refine And.intro (fun h => absurd h (by decide)) (fun _ => ?_); conv => whnf)
    (refine hKq _ _ _ (.refl _) ?_; clear hKq Kq; conv => whnf)
    (refine VSeq.mk fun Kq hKq => ?_; conv => whnf)
    refine v_mixA TTok FFok mixed [(0, false), (1, false), (2, false), (3, false), (4, false), (5, false), (6, false), (7, false), (8, false), (9, false), (10, false), (11, false)] (by kernel_rfl) ?_
    conv => whnf
    (refine ⟨_, fun w' hx' => Blk.ld (Blk.ext hb (hp.ext.trans hx')) TTok rfl rfl, ?_⟩; conv => whnf)
    (refine ⟨_, fun w' hx' => Blk.ld (Blk.ext hb (hp.ext.trans hx')) TTok rfl rfl, ?_⟩; conv => whnf)
    (intro w hx; try (have hp := hp.call hx); conv => whnf)
    (refine hKq _ _ _ (.refl _) ?_; clear hKq Kq; conv => whnf)
    (refine ⟨congrArg Value.bool ?_, hp.ext⟩; rw [Bool.eq_iff_iff]; first | (simp only [Bool.or_eq_true, Bool.and_eq_true, decide_eq_true_eq, Bool.not_eq_true', decide_eq_false_iff_not, eq_self, true_and, and_true, true_iff, iff_true, false_iff, iff_false, reduceCtorEq, ne_eq, *] <;> omega) | (simp_all; fail_if_success skip) | (simp_all <;> omega))
end Go.Proofs.Ytefjgoeabfgkmaa
