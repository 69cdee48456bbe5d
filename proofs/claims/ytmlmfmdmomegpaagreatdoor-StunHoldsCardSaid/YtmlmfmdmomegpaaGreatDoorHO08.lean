/- Chapter 08: octets are read from a reader: Uint and Take. -/
/- Chapter 08: zeros are trimmed. -/
/- Chapter 08: octets are read as attributes. -/
import Derived.Test.YtmlmfmdmomegpaaGreatDoorHO07
import Derived.Test.YtmlmfmdmomegpaaGreatDoorHO05
import Derived.Test.YtmlmfmdmomegpaaGreatDoorHO06
namespace Go.Proofs.YtmlmfmdmomegpaaGreatDoor
set_option linter.unusedSimpArgs false
set_option linter.unusedVariables false
set_option maxRecDepth 100000
open Go.RowKit V
set_option maxHeartbeats 4000000
theorem oread_ok (s : ByteArray) (k : Nat) (h : k ≤ s.size) (hs : s.size ≤ 100000) : PureF Tryz.prog 142 #[.agg #[.string s, .int .i64 k]] (.tuple #[.agg #[.string s, .int .i64 k], .int .i64 0]) := by
  first | refine v_pure TTok FFok Tryz.func142 rfl rfl fun w0 => ?_ | refine v_pure (args := []) TTok FFok Tryz.func142 rfl rfl fun w0 => ?_
  conv => whnf
  refine VSeq.mk fun Kq hKq => ?_
  conv => whnf
  have hp := Hp.nil w0
  (refine hp.kboxA fun q w hp hx => ?_; conv => whnf)
  (refine hp.kalloc z216 fun al216 w hp hx => ?_; conv => whnf)
  (refine hKq _ _ _ (.refl _) ?_; clear hKq Kq; conv => whnf)
  (refine VSeq.mk fun Kq hKq => ?_; conv => whnf)
  (refine VSeq.mk fun Kq hKq => ?_; conv => whnf)
  (refine VSeq.mk fun Kq hKq => ?_; conv => whnf)
  (refine ⟨_, _, Blk.ld (hp.get (i := 1) rfl) TTok rfl rfl, ?_⟩; conv => whnf)
  (refine hKq _ _ _ (.refl _) ?_; clear hKq Kq; conv => whnf)
  (refine And.intro (fun h => absurd (of_decide_eq_true h) (by first | (intro h2; exact absurd rfl h2) | omega | decide)) (fun _ => ?_); conv => whnf)
  (refine ⟨_, _, Blk.ld (hp.get (i := 1) rfl) TTok rfl rfl, ?_⟩; conv => whnf)
  (refine ⟨_, _, Blk.ld (hp.get (i := 1) rfl) TTok rfl rfl, ?_⟩; conv => whnf)
  (refine hKq _ _ _ (.refl _) ?_; clear hKq Kq; conv => whnf)
  (refine And.intro (fun h => absurd (of_decide_eq_true h) (by first | (intro h2; exact absurd rfl h2) | omega | decide)) (fun _ => ?_); conv => whnf)
  (refine hKq _ _ _ (.refl _) ?_; clear hKq Kq; conv => whnf)
  (refine VSeq.mk fun Kq hKq => ?_; conv => whnf)
  (refine ⟨_, _, Blk.ldV (vs := [_, _]) (hp.get (i := 1) rfl) TTok rfl rfl rfl, ?_⟩; conv => whnf)
  (refine ⟨_, _, bld216_0 _ _ _, ?_⟩; conv => whnf)
  (refine hp.kstA TTok rfl 0 rfl rfl (oneC_of rfl) (by rfl) fun w hp => ?_; try simp only [List.set_cons_zero, List.set_cons_succ, EV.val] at hp; conv => whnf)
  (refine hKq _ _ _ (.refl _) ?_; clear hKq Kq; conv => whnf)
  (refine ⟨_, Blk.lvN (hp.get (i := 0) rfl) TTok rfl rfl, ?_⟩; conv => whnf)
  (exact ⟨rfl, hp.ext⟩)
theorem nextI_short (s : ByteArray) (k n : Nat) (h : k ≤ s.size) (hs : s.size ≤ 100000) (h1 : 1 ≤ n) (h7 : n ≤ 7) (hn : s.size < k + n) : PureF Tryz.prog 117 #[.agg #[.string s, .int .i64 k], .int .i64 n, .int .i64 1, .int .i64 7, .func (.func 118) #[] #[]] (.tuple #[.int .i64 0, .agg #[.string ⟨#[]⟩, .int .i64 0], .int .i64 7]) := by
  first | refine v_pure TTok FFok Tryz.func117 rfl rfl fun w0 => ?_ | refine v_pure (args := []) TTok FFok Tryz.func117 rfl rfl fun w0 => ?_
  conv => whnf
  refine VSeq.mk fun Kq hKq => ?_
  conv => whnf
  have hp := Hp.nil w0
  (refine hp.kboxA fun q w hp hx => ?_; conv => whnf)
  (refine hp.kalloc z126 fun al126 w hp hx => ?_; conv => whnf)
  (refine hKq _ _ _ (.refl _) ?_; clear hKq Kq; conv => whnf)
  (refine VSeq.mk fun Kq hKq => ?_; conv => whnf)
  (refine ⟨_, _, Blk.ldV (vs := [_, _]) (hp.get (i := 1) rfl) TTok rfl rfl rfl, ?_⟩; conv => whnf)
  (refine V.CallW.out ?_; (conv => arg 3; dsimp only [EV.val, List.toList_toArray, List.nil_append, List.append_nil, List.cons_append]); (with_reducible refine V.PureF.useW (oread_ok _ _ (by omega) (by omega)) fun w hx => ?_); try (have hp := hp.call hx); conv => whnf)
  (refine hp.kalloc z216 fun al216 w hp hx => ?_; conv => whnf)
  (refine hp.kstA TTok rfl 0 rfl rfl (oneC_of rfl) (by rfl) fun w hp => ?_; try simp only [List.set_cons_zero, List.set_cons_succ, EV.val] at hp; conv => whnf)
  (refine hKq _ _ _ (.refl _) ?_; clear hKq Kq; conv => whnf)
  (refine VSeq.mk fun Kq hKq => ?_; conv => whnf)
  (refine VSeq.mk fun Kq hKq => ?_; conv => whnf)
  (refine hKq _ _ _ (.refl _) ?_; clear hKq Kq; conv => whnf)
  (refine And.intro (fun h => absurd (of_decide_eq_true h) (by first | (intro h2; exact absurd rfl h2) | omega | decide)) (fun _ => ?_); conv => whnf)
  (refine VSeq.mk fun Kq hKq => ?_; conv => whnf)
  (refine VSeq.mk fun Kq hKq => ?_; conv => whnf)
  (refine hKq _ _ _ (.refl _) ?_; clear hKq Kq; conv => whnf)
  (refine And.intro (fun h => absurd (of_decide_eq_true h) (by first | (intro h2; exact absurd rfl h2) | omega | decide)) (fun _ => ?_); conv => whnf)
  (refine hKq _ _ _ (.refl _) ?_; clear hKq Kq; conv => whnf)
  (refine And.intro (fun h => absurd (of_decide_eq_true h) (by first | (intro h2; exact absurd rfl h2) | omega | decide)) (fun _ => ?_); conv => whnf)
  (refine VSeq.mk fun Kq hKq => ?_; conv => whnf)
  (refine ⟨_, _, Blk.ld (hp.get (i := 0) rfl) TTok rfl rfl, ?_⟩; conv => whnf)
  (refine ⟨_, _, Blk.ld (hp.get (i := 0) rfl) TTok rfl rfl, ?_⟩; conv => whnf)
  (refine Or.inl (And.intro (by first | omega | decide) ?_); conv => whnf)
  (refine hKq _ _ _ (.refl _) ?_; clear hKq Kq; conv => whnf)
  (refine And.intro (fun _ => ?_) (fun h => absurd (by first | rfl | assumption | omega | decide) (of_decide_eq_false h)); conv => whnf)
  (refine VSeq.mk fun Kq hKq => ?_; conv => whnf)
  refine v_mix TTok FFok mixed 3 [(0, false), (1, false), (2, false)] (by kernel_rfl) ?_
  conv => whnf
  (refine ⟨_, fun w' hx' => Blk.ldV (vs := [_, _]) (Blk.ext (hp.get (i := 1) rfl) hx') TTok rfl rfl rfl, ?_⟩; conv => whnf)
  (intro w hx; try (have hp := hp.call hx); conv => whnf)
  (refine hp.kstA TTok rfl 1 rfl rfl (oneC_of rfl) (by rfl) fun w hp => ?_; try simp only [List.set_cons_zero, List.set_cons_succ, EV.val] at hp; conv => whnf)
  (refine hKq _ _ _ (.refl _) ?_; clear hKq Kq; conv => whnf)
  (refine ⟨_, Blk.lvN (hp.get (i := 1) rfl) TTok rfl rfl, ?_⟩; conv => whnf)
  (exact ⟨rfl, hp.ext⟩)
theorem nextI_ok (s : ByteArray) (k n : Nat) (h1 : 1 ≤ n) (h7 : n ≤ 7) (hn : k + n ≤ s.size) (hs : s.size ≤ 100000) : PureF Tryz.prog 117 #[.agg #[.string s, .int .i64 k], .int .i64 n, .int .i64 1, .int .i64 7, .func (.func 118) #[] #[]] (.tuple #[.int .i64 (numB (s.extract k (k + n))), .agg #[.string s, .int .i64 (k + n : Nat)], .int .i64 0]) := by
  have hsz : (s.extract k (k + n)).size = n := by rw [ByteArray.size_extract]; omega
  first | refine v_pure TTok FFok Tryz.func117 rfl rfl fun w0 => ?_ | refine v_pure (args := []) TTok FFok Tryz.func117 rfl rfl fun w0 => ?_
  conv => whnf
  refine VSeq.mk fun Kq hKq => ?_
  conv => whnf
  have hp := Hp.nil w0
  (refine hp.kboxA fun q w hp hx => ?_; conv => whnf)
  (refine hp.kalloc z126 fun al126 w hp hx => ?_; conv => whnf)
  (refine hKq _ _ _ (.refl _) ?_; clear hKq Kq; conv => whnf)
  (refine VSeq.mk fun Kq hKq => ?_; conv => whnf)
  (refine ⟨_, _, Blk.ldV (vs := [_, _]) (hp.get (i := 1) rfl) TTok rfl rfl rfl, ?_⟩; conv => whnf)
  (refine V.CallW.out ?_; (conv => arg 3; dsimp only [EV.val, List.toList_toArray, List.nil_append, List.append_nil, List.cons_append]); (with_reducible refine V.PureF.useW (oread_ok _ _ (by omega) (by omega)) fun w hx => ?_); try (have hp := hp.call hx); conv => whnf)
  (refine hp.kalloc z216 fun al216 w hp hx => ?_; conv => whnf)
  (refine hp.kstA TTok rfl 0 rfl rfl (oneC_of rfl) (by rfl) fun w hp => ?_; try simp only [List.set_cons_zero, List.set_cons_succ, EV.val] at hp; conv => whnf)
  (refine hKq _ _ _ (.refl _) ?_; clear hKq Kq; conv => whnf)
  (refine VSeq.mk fun Kq hKq => ?_; conv => whnf)
  (refine VSeq.mk fun Kq hKq => ?_; conv => whnf)
  (refine hKq _ _ _ (.refl _) ?_; clear hKq Kq; conv => whnf)
  (refine And.intro (fun h => absurd (of_decide_eq_true h) (by first | (intro h2; exact absurd rfl h2) | omega | decide)) (fun _ => ?_); conv => whnf)
  (refine VSeq.mk fun Kq hKq => ?_; conv => whnf)
  (refine VSeq.mk fun Kq hKq => ?_; conv => whnf)
  (refine hKq _ _ _ (.refl _) ?_; clear hKq Kq; conv => whnf)
  (refine And.intro (fun h => absurd (of_decide_eq_true h) (by first | (intro h2; exact absurd rfl h2) | omega | decide)) (fun _ => ?_); conv => whnf)
  (refine hKq _ _ _ (.refl _) ?_; clear hKq Kq; conv => whnf)
  (refine And.intro (fun h => absurd (of_decide_eq_true h) (by first | (intro h2; exact absurd rfl h2) | omega | decide)) (fun _ => ?_); conv => whnf)
  (refine VSeq.mk fun Kq hKq => ?_; conv => whnf)
  (refine ⟨_, _, Blk.ld (hp.get (i := 0) rfl) TTok rfl rfl, ?_⟩; conv => whnf)
  (refine ⟨_, _, Blk.ld (hp.get (i := 0) rfl) TTok rfl rfl, ?_⟩; conv => whnf)
  (refine Or.inl (And.intro (by first | omega | decide) ?_); conv => whnf)
  (refine hKq _ _ _ (.refl _) ?_; clear hKq Kq; conv => whnf)
  (refine And.intro (fun h => absurd (of_decide_eq_true h) (by first | (intro h2; exact absurd rfl h2) | omega | decide)) (fun _ => ?_); conv => whnf)
  (refine hKq _ _ _ (.refl _) ?_; clear hKq Kq; conv => whnf)
  (refine VSeq.mk fun Kq hKq => ?_; conv => whnf)
  refine v_mix TTok FFok mixed 24 [(0, false), (1, false), (2, false), (3, false), (4, false), (5, false), (6, false), (7, false), (8, false), (9, false), (10, false), (11, false), (12, false), (13, false), (14, false), (15, false), (16, false), (17, false), (18, false), (19, false), (20, false), (21, false), (22, false), (23, false)] (by kernel_rfl) ?_
  conv => whnf
  (refine ⟨_, fun w' hx' => Blk.ld (Blk.ext (hp.get (i := 0) rfl) hx') TTok rfl rfl, ?_⟩; conv => whnf)
  (refine ⟨_, fun w' hx' => Blk.ld (Blk.ext (hp.get (i := 0) rfl) hx') TTok rfl rfl, ?_⟩; conv => whnf)
  (refine ⟨_, fun w' hx' => Blk.ld (Blk.ext (hp.get (i := 0) rfl) hx') TTok rfl rfl, ?_⟩; conv => whnf)
  (refine Or.inl (And.intro (by first | omega | decide) ?_); conv => whnf)
  (refine ⟨_, _, ⟨rfl, rfl, by omega, by omega⟩, ?_⟩; conv => whnf)
  (refine V.QCallW.out ?_; (conv => arg 3; dsimp only [EV.val, List.toList_toArray, List.nil_append, List.append_nil, List.cons_append]); (with_reducible refine V.PureF.quietW (Uint1_p _ (by omega)) ?_); conv => whnf)
  (refine ⟨_, fun w' hx' => Blk.ld (Blk.ext (hp.get (i := 0) rfl) hx') TTok rfl rfl, ?_⟩; conv => whnf)
  (refine ⟨_, fun w' hx' => Blk.ld (Blk.ext (hp.get (i := 0) rfl) hx') TTok rfl rfl, ?_⟩; conv => whnf)
  (refine Or.inl (And.intro (by first | omega | decide) ?_); conv => whnf)
  (refine ⟨_, fun w' hx' => bld126_0_1 w' _ _, ?_⟩; conv => whnf)
  (intro w hx; try (have hp := hp.call hx); conv => whnf)
  (refine hp.kstA TTok rfl 1 rfl rfl (oneC_of rfl) (by rfl) fun w hp => ?_; try simp only [List.set_cons_zero, List.set_cons_succ, EV.val] at hp; conv => whnf)
  (refine hKq _ _ _ (.refl _) ?_; clear hKq Kq; conv => whnf)
  (refine ⟨_, Blk.lvN (hp.get (i := 1) rfl) TTok rfl rfl, ?_⟩; conv => whnf)
  (exact ⟨rfl, hp.ext⟩)
theorem Take1_p (s : ByteArray) : PureF Tryz.prog 144 #[.string s] (.string s) := by
  first | refine v_pure TTok FFok Tryz.func144 rfl rfl fun w0 => ?_ | refine v_pure (args := []) TTok FFok Tryz.func144 rfl rfl fun w0 => ?_
  conv => whnf
  refine VSeq.mk fun Kq hKq => ?_
  conv => whnf
  refine hKq _ _ _ (.refl _) ?_
  clear hKq Kq
  conv => whnf
  refine VSeq.mk fun Kq hKq => ?_
  conv => whnf
  refine hKq _ _ _ (.refl _) ?_
  clear hKq Kq
  conv => whnf
  have hp := Hp.nil w0
  (exact ⟨rfl, hp.ext⟩)
theorem nextS_short (s : ByteArray) (k n : Nat) (h : k ≤ s.size) (hs : s.size ≤ 100000)  (hn : s.size < k + n) : PureF Tryz.prog 143 #[.agg #[.string s, .int .i64 k], .int .i64 n, .int .i64 0, .int .i64 n, .func (.func 144) #[] #[]] (.tuple #[.string ⟨#[]⟩, .agg #[.string ⟨#[]⟩, .int .i64 0], .int .i64 7]) := by
  first | refine v_pure TTok FFok Tryz.func143 rfl rfl fun w0 => ?_ | refine v_pure (args := []) TTok FFok Tryz.func143 rfl rfl fun w0 => ?_
  conv => whnf
  refine VSeq.mk fun Kq hKq => ?_
  conv => whnf
  have hp := Hp.nil w0
  (refine hp.kboxA fun q w hp hx => ?_; conv => whnf)
  (refine hp.kalloc z126 fun al126 w hp hx => ?_; conv => whnf)
  (refine hKq _ _ _ (.refl _) ?_; clear hKq Kq; conv => whnf)
  (refine VSeq.mk fun Kq hKq => ?_; conv => whnf)
  (refine ⟨_, _, Blk.ldV (vs := [_, _]) (hp.get (i := 1) rfl) TTok rfl rfl rfl, ?_⟩; conv => whnf)
  (refine V.CallW.out ?_; (conv => arg 3; dsimp only [EV.val, List.toList_toArray, List.nil_append, List.append_nil, List.cons_append]); (with_reducible refine V.PureF.useW (oread_ok _ _ (by omega) (by omega)) fun w hx => ?_); try (have hp := hp.call hx); conv => whnf)
  (refine hp.kalloc z216 fun al216 w hp hx => ?_; conv => whnf)
  (refine hp.kstA TTok rfl 0 rfl rfl (oneC_of rfl) (by rfl) fun w hp => ?_; try simp only [List.set_cons_zero, List.set_cons_succ, EV.val] at hp; conv => whnf)
  (refine hKq _ _ _ (.refl _) ?_; clear hKq Kq; conv => whnf)
  (refine VSeq.mk fun Kq hKq => ?_; conv => whnf)
  (refine VSeq.mk fun Kq hKq => ?_; conv => whnf)
  (refine hKq _ _ _ (.refl _) ?_; clear hKq Kq; conv => whnf)
  (refine And.intro (fun h => absurd (of_decide_eq_true h) (by first | (intro h2; exact absurd rfl h2) | omega | decide)) (fun _ => ?_); conv => whnf)
  (refine VSeq.mk fun Kq hKq => ?_; conv => whnf)
  (refine VSeq.mk fun Kq hKq => ?_; conv => whnf)
  (refine hKq _ _ _ (.refl _) ?_; clear hKq Kq; conv => whnf)
  (refine And.intro (fun h => absurd (of_decide_eq_true h) (by first | (intro h2; exact absurd rfl h2) | omega | decide)) (fun _ => ?_); conv => whnf)
  (refine hKq _ _ _ (.refl _) ?_; clear hKq Kq; conv => whnf)
  (refine And.intro (fun h => absurd (of_decide_eq_true h) (by first | (intro h2; exact absurd rfl h2) | omega | decide)) (fun _ => ?_); conv => whnf)
  (refine VSeq.mk fun Kq hKq => ?_; conv => whnf)
  (refine ⟨_, _, Blk.ld (hp.get (i := 0) rfl) TTok rfl rfl, ?_⟩; conv => whnf)
  (refine ⟨_, _, Blk.ld (hp.get (i := 0) rfl) TTok rfl rfl, ?_⟩; conv => whnf)
  (refine Or.inl (And.intro (by first | omega | decide) ?_); conv => whnf)
  (refine hKq _ _ _ (.refl _) ?_; clear hKq Kq; conv => whnf)
  (refine And.intro (fun _ => ?_) (fun h => absurd (by first | rfl | assumption | omega | decide) (of_decide_eq_false h)); conv => whnf)
  (refine VSeq.mk fun Kq hKq => ?_; conv => whnf)
  refine v_mix TTok FFok mixed 3 [(0, false), (1, false), (2, false)] (by kernel_rfl) ?_
  conv => whnf
  (refine ⟨_, fun w' hx' => Blk.ldV (vs := [_, _]) (Blk.ext (hp.get (i := 1) rfl) hx') TTok rfl rfl rfl, ?_⟩; conv => whnf)
  (intro w hx; try (have hp := hp.call hx); conv => whnf)
  (refine hp.kstA TTok rfl 1 rfl rfl (oneC_of rfl) (by rfl) fun w hp => ?_; try simp only [List.set_cons_zero, List.set_cons_succ, EV.val] at hp; conv => whnf)
  (refine hKq _ _ _ (.refl _) ?_; clear hKq Kq; conv => whnf)
  (refine ⟨_, Blk.lvN (hp.get (i := 1) rfl) TTok rfl rfl, ?_⟩; conv => whnf)
  (exact ⟨rfl, hp.ext⟩)
theorem nextS_ok (s : ByteArray) (k n : Nat)  (hn : k + n ≤ s.size) (hs : s.size ≤ 100000) : PureF Tryz.prog 143 #[.agg #[.string s, .int .i64 k], .int .i64 n, .int .i64 0, .int .i64 n, .func (.func 144) #[] #[]] (.tuple #[.string (s.extract k (k + n)), .agg #[.string s, .int .i64 (k + n : Nat)], .int .i64 0]) := by
  have hsz : (s.extract k (k + n)).size = n := by rw [ByteArray.size_extract]; omega
  first | refine v_pure TTok FFok Tryz.func143 rfl rfl fun w0 => ?_ | refine v_pure (args := []) TTok FFok Tryz.func143 rfl rfl fun w0 => ?_
  conv => whnf
  refine VSeq.mk fun Kq hKq => ?_
  conv => whnf
  have hp := Hp.nil w0
  (refine hp.kboxA fun q w hp hx => ?_; conv => whnf)
  (refine hp.kalloc z126 fun al126 w hp hx => ?_; conv => whnf)
  (refine hKq _ _ _ (.refl _) ?_; clear hKq Kq; conv => whnf)
  (refine VSeq.mk fun Kq hKq => ?_; conv => whnf)
  (refine ⟨_, _, Blk.ldV (vs := [_, _]) (hp.get (i := 1) rfl) TTok rfl rfl rfl, ?_⟩; conv => whnf)
  (refine V.CallW.out ?_; (conv => arg 3; dsimp only [EV.val, List.toList_toArray, List.nil_append, List.append_nil, List.cons_append]); (with_reducible refine V.PureF.useW (oread_ok _ _ (by omega) (by omega)) fun w hx => ?_); try (have hp := hp.call hx); conv => whnf)
  (refine hp.kalloc z216 fun al216 w hp hx => ?_; conv => whnf)
  (refine hp.kstA TTok rfl 0 rfl rfl (oneC_of rfl) (by rfl) fun w hp => ?_; try simp only [List.set_cons_zero, List.set_cons_succ, EV.val] at hp; conv => whnf)
  (refine hKq _ _ _ (.refl _) ?_; clear hKq Kq; conv => whnf)
  (refine VSeq.mk fun Kq hKq => ?_; conv => whnf)
  (refine VSeq.mk fun Kq hKq => ?_; conv => whnf)
  (refine hKq _ _ _ (.refl _) ?_; clear hKq Kq; conv => whnf)
  (refine And.intro (fun h => absurd (of_decide_eq_true h) (by first | (intro h2; exact absurd rfl h2) | omega | decide)) (fun _ => ?_); conv => whnf)
  (refine VSeq.mk fun Kq hKq => ?_; conv => whnf)
  (refine VSeq.mk fun Kq hKq => ?_; conv => whnf)
  (refine hKq _ _ _ (.refl _) ?_; clear hKq Kq; conv => whnf)
  (refine And.intro (fun h => absurd (of_decide_eq_true h) (by first | (intro h2; exact absurd rfl h2) | omega | decide)) (fun _ => ?_); conv => whnf)
  (refine hKq _ _ _ (.refl _) ?_; clear hKq Kq; conv => whnf)
  (refine And.intro (fun h => absurd (of_decide_eq_true h) (by first | (intro h2; exact absurd rfl h2) | omega | decide)) (fun _ => ?_); conv => whnf)
  (refine VSeq.mk fun Kq hKq => ?_; conv => whnf)
  (refine ⟨_, _, Blk.ld (hp.get (i := 0) rfl) TTok rfl rfl, ?_⟩; conv => whnf)
  (refine ⟨_, _, Blk.ld (hp.get (i := 0) rfl) TTok rfl rfl, ?_⟩; conv => whnf)
  (refine Or.inl (And.intro (by first | omega | decide) ?_); conv => whnf)
  (refine hKq _ _ _ (.refl _) ?_; clear hKq Kq; conv => whnf)
  (refine And.intro (fun h => absurd (of_decide_eq_true h) (by first | (intro h2; exact absurd rfl h2) | omega | decide)) (fun _ => ?_); conv => whnf)
  (refine hKq _ _ _ (.refl _) ?_; clear hKq Kq; conv => whnf)
  (refine VSeq.mk fun Kq hKq => ?_; conv => whnf)
  refine v_mix TTok FFok mixed 24 [(0, false), (1, false), (2, false), (3, false), (4, false), (5, false), (6, false), (7, false), (8, false), (9, false), (10, false), (11, false), (12, false), (13, false), (14, false), (15, false), (16, false), (17, false), (18, false), (19, false), (20, false), (21, false), (22, false), (23, false)] (by kernel_rfl) ?_
  conv => whnf
  (refine ⟨_, fun w' hx' => Blk.ld (Blk.ext (hp.get (i := 0) rfl) hx') TTok rfl rfl, ?_⟩; conv => whnf)
  (refine ⟨_, fun w' hx' => Blk.ld (Blk.ext (hp.get (i := 0) rfl) hx') TTok rfl rfl, ?_⟩; conv => whnf)
  (refine ⟨_, fun w' hx' => Blk.ld (Blk.ext (hp.get (i := 0) rfl) hx') TTok rfl rfl, ?_⟩; conv => whnf)
  (refine Or.inl (And.intro (by first | omega | decide) ?_); conv => whnf)
  (refine ⟨_, _, ⟨rfl, rfl, by omega, by omega⟩, ?_⟩; conv => whnf)
  (refine V.QCallW.out ?_; (conv => arg 3; dsimp only [EV.val, List.toList_toArray, List.nil_append, List.append_nil, List.cons_append]); (with_reducible refine V.PureF.quietW (Take1_p _) ?_); conv => whnf)
  (refine ⟨_, fun w' hx' => Blk.ld (Blk.ext (hp.get (i := 0) rfl) hx') TTok rfl rfl, ?_⟩; conv => whnf)
  (refine ⟨_, fun w' hx' => Blk.ld (Blk.ext (hp.get (i := 0) rfl) hx') TTok rfl rfl, ?_⟩; conv => whnf)
  (refine Or.inl (And.intro (by first | omega | decide) ?_); conv => whnf)
  (refine ⟨_, fun w' hx' => bld126_0_1 w' _ _, ?_⟩; conv => whnf)
  (intro w hx; try (have hp := hp.call hx); conv => whnf)
  (refine hp.kstA TTok rfl 1 rfl rfl (oneC_of rfl) (by rfl) fun w hp => ?_; try simp only [List.set_cons_zero, List.set_cons_succ, EV.val] at hp; conv => whnf)
  (refine hKq _ _ _ (.refl _) ?_; clear hKq Kq; conv => whnf)
  (refine ⟨_, Blk.lvN (hp.get (i := 1) rfl) TTok rfl rfl, ?_⟩; conv => whnf)
  (exact ⟨rfl, hp.ext⟩)
theorem Uint_short (s : ByteArray) (k n : Nat) (h : k ≤ s.size) (hs : s.size ≤ 100000) (h1 : 1 ≤ n) (h7 : n ≤ 7) (hn : s.size < k + n) : PureF Tryz.prog 69 #[.agg #[.string s, .int .i64 k], .int .i64 n] (.tuple #[.int .i64 0, .agg #[.string ⟨#[]⟩, .int .i64 0], .int .i64 7]) := by
  first | refine v_pure TTok FFok Tryz.func69 rfl rfl fun w0 => ?_ | refine v_pure (args := []) TTok FFok Tryz.func69 rfl rfl fun w0 => ?_
  conv => whnf
  refine VSeq.mk fun Kq hKq => ?_
  conv => whnf
  have hp := Hp.nil w0
  (refine hp.kboxA fun q w hp hx => ?_; conv => whnf)
  (refine hp.kalloc z126 fun al126 w hp hx => ?_; conv => whnf)
  (refine hKq _ _ _ (.refl _) ?_; clear hKq Kq; conv => whnf)
  (refine VSeq.mk fun Kq hKq => ?_; conv => whnf)
  (refine ⟨_, _, Blk.ldV (vs := [_, _]) (hp.get (i := 1) rfl) TTok rfl rfl rfl, ?_⟩; conv => whnf)
  (refine V.CallW.out ?_; (conv => arg 3; dsimp only [EV.val, List.toList_toArray, List.nil_append, List.append_nil, List.cons_append]); (with_reducible refine V.PureF.useW (nextI_short _ _ _ (by omega) (by omega) (by omega) (by omega) (by omega)) fun w hx => ?_); try (have hp := hp.call hx); conv => whnf)
  (refine hp.kstA TTok rfl 0 rfl rfl (oneC_of rfl) (by rfl) fun w hp => ?_; try simp only [List.set_cons_zero, List.set_cons_succ, EV.val] at hp; conv => whnf)
  (refine hKq _ _ _ (.refl _) ?_; clear hKq Kq; conv => whnf)
  (refine ⟨_, Blk.lvN (hp.get (i := 0) rfl) TTok rfl rfl, ?_⟩; conv => whnf)
  (exact ⟨rfl, hp.ext⟩)
theorem Uint_ok (s : ByteArray) (k n : Nat) (h1 : 1 ≤ n) (h7 : n ≤ 7) (hn : k + n ≤ s.size) (hs : s.size ≤ 100000) : PureF Tryz.prog 69 #[.agg #[.string s, .int .i64 k], .int .i64 n] (.tuple #[.int .i64 (numB (s.extract k (k + n))), .agg #[.string s, .int .i64 (k + n : Nat)], .int .i64 0]) := by
  first | refine v_pure TTok FFok Tryz.func69 rfl rfl fun w0 => ?_ | refine v_pure (args := []) TTok FFok Tryz.func69 rfl rfl fun w0 => ?_
  conv => whnf
  refine VSeq.mk fun Kq hKq => ?_
  conv => whnf
  have hp := Hp.nil w0
  (refine hp.kboxA fun q w hp hx => ?_; conv => whnf)
  (refine hp.kalloc z126 fun al126 w hp hx => ?_; conv => whnf)
  (refine hKq _ _ _ (.refl _) ?_; clear hKq Kq; conv => whnf)
  (refine VSeq.mk fun Kq hKq => ?_; conv => whnf)
  (refine ⟨_, _, Blk.ldV (vs := [_, _]) (hp.get (i := 1) rfl) TTok rfl rfl rfl, ?_⟩; conv => whnf)
  (refine V.CallW.out ?_; (conv => arg 3; dsimp only [EV.val, List.toList_toArray, List.nil_append, List.append_nil, List.cons_append]); (with_reducible refine V.PureF.useW (nextI_ok _ _ _ (by omega) (by omega) (by omega) (by omega)) fun w hx => ?_); try (have hp := hp.call hx); conv => whnf)
  (refine hp.kstA TTok rfl 0 rfl rfl (oneC_of rfl) (by rfl) fun w hp => ?_; try simp only [List.set_cons_zero, List.set_cons_succ, EV.val] at hp; conv => whnf)
  (refine hKq _ _ _ (.refl _) ?_; clear hKq Kq; conv => whnf)
  (refine ⟨_, Blk.lvN (hp.get (i := 0) rfl) TTok rfl rfl, ?_⟩; conv => whnf)
  (exact ⟨rfl, hp.ext⟩)
theorem Take_short (s : ByteArray) (k n : Nat) (h : k ≤ s.size) (hs : s.size ≤ 100000) (hn : s.size < k + n) : PureF Tryz.prog 121 #[.agg #[.string s, .int .i64 k], .int .i64 n] (.tuple #[.string ⟨#[]⟩, .agg #[.string ⟨#[]⟩, .int .i64 0], .int .i64 7]) := by
  have hm : max (n : Int) 0 = n := by omega
  first | refine v_pure TTok FFok Tryz.func121 rfl rfl fun w0 => ?_ | refine v_pure (args := []) TTok FFok Tryz.func121 rfl rfl fun w0 => ?_
  conv => whnf
  refine VSeq.mk fun Kq hKq => ?_
  conv => whnf
  have hp := Hp.nil w0
  (refine hp.kboxA fun q w hp hx => ?_; conv => whnf)
  (refine hp.kalloc z126 fun al126 w hp hx => ?_; conv => whnf)
  (refine hKq _ _ _ (.refl _) ?_; clear hKq Kq; conv => whnf)
  (refine VSeq.mk fun Kq hKq => ?_; conv => whnf)
  (refine ⟨_, _, Blk.ldV (vs := [_, _]) (hp.get (i := 1) rfl) TTok rfl rfl rfl, ?_⟩; conv => whnf)
  rw [hm]
  (refine V.CallW.out ?_; (conv => arg 3; dsimp only [EV.val, List.toList_toArray, List.nil_append, List.append_nil, List.cons_append]); (with_reducible refine V.PureF.useW (nextS_short _ _ _ (by omega) (by omega) (by omega)) fun w hx => ?_); try (have hp := hp.call hx); conv => whnf)
  (refine hp.kstA TTok rfl 0 rfl rfl (oneC_of rfl) (by rfl) fun w hp => ?_; try simp only [List.set_cons_zero, List.set_cons_succ, EV.val] at hp; conv => whnf)
  (refine hKq _ _ _ (.refl _) ?_; clear hKq Kq; conv => whnf)
  (refine ⟨_, Blk.lvN (hp.get (i := 0) rfl) TTok rfl rfl, ?_⟩; conv => whnf)
  (exact ⟨rfl, hp.ext⟩)
theorem Take_ok (s : ByteArray) (k n : Nat) (hn : k + n ≤ s.size) (hs : s.size ≤ 100000) : PureF Tryz.prog 121 #[.agg #[.string s, .int .i64 k], .int .i64 n] (.tuple #[.string (s.extract k (k + n)), .agg #[.string s, .int .i64 (k + n : Nat)], .int .i64 0]) := by
  have hm : max (n : Int) 0 = n := by omega
  first | refine v_pure TTok FFok Tryz.func121 rfl rfl fun w0 => ?_ | refine v_pure (args := []) TTok FFok Tryz.func121 rfl rfl fun w0 => ?_
  conv => whnf
  refine VSeq.mk fun Kq hKq => ?_
  conv => whnf
  have hp := Hp.nil w0
  (refine hp.kboxA fun q w hp hx => ?_; conv => whnf)
  (refine hp.kalloc z126 fun al126 w hp hx => ?_; conv => whnf)
  (refine hKq _ _ _ (.refl _) ?_; clear hKq Kq; conv => whnf)
  (refine VSeq.mk fun Kq hKq => ?_; conv => whnf)
  (refine ⟨_, _, Blk.ldV (vs := [_, _]) (hp.get (i := 1) rfl) TTok rfl rfl rfl, ?_⟩; conv => whnf)
  rw [hm]
  (refine V.CallW.out ?_; (conv => arg 3; dsimp only [EV.val, List.toList_toArray, List.nil_append, List.append_nil, List.cons_append]); (with_reducible refine V.PureF.useW (nextS_ok _ _ _ (by omega) (by omega)) fun w hx => ?_); try (have hp := hp.call hx); conv => whnf)
  (refine hp.kstA TTok rfl 0 rfl rfl (oneC_of rfl) (by rfl) fun w hp => ?_; try simp only [List.set_cons_zero, List.set_cons_succ, EV.val] at hp; conv => whnf)
  (refine hKq _ _ _ (.refl _) ?_; clear hKq Kq; conv => whnf)
  (refine ⟨_, Blk.lvN (hp.get (i := 0) rfl) TTok rfl rfl, ?_⟩; conv => whnf)
  (exact ⟨rfl, hp.ext⟩)
set_option maxHeartbeats 4000000
def trN (s : ByteArray) : Nat → Nat
  | 0 => 0
  | k + 1 => if byt s k = 0 then trN s k else k + 1
theorem trN_le (s : ByteArray) : ∀ k, trN s k ≤ k
  | 0 => Nat.le_refl _
  | k + 1 => by
    unfold trN
    split
    · exact Nat.le_trans (trN_le s k) (Nat.le_succ k)
    · exact Nat.le_refl _
def tlN (s : ByteArray) : Nat → Nat → Nat
  | 0, j => j
  | f + 1, j => if byt s j = 0 then tlN s f (j + 1) else j
theorem byt_pre (s : ByteArray) (j k i : Nat) (h : k ≤ s.size) (hi : j + i < k) : byt (s.extract j k) i = byt s (j + i) := by
  unfold byt
  have e : (s.extract j k).data.toList = (s.data.toList.take k).drop j := by
    have : (s.extract j k).data = s.data.extract j k := by simp
    rw [this, Array.toList_extract, List.extract_eq_take_drop, List.drop_take]
  rw [e, List.getD_eq_getElem?_getD, List.getElem?_drop, List.getElem?_take, if_pos (by omega), List.getD_eq_getElem?_getD]
theorem ext_ext (s : ByteArray) (j k a b : Nat) : (s.extract j k).extract a b = s.extract (j + a) (min (j + b) k) := by
  apply ba_eq
  rw [ext_toList, ext_toList, ext_toList, List.take_drop, List.drop_drop, List.take_take]
theorem trN_z {s : ByteArray} {k : Nat} (h : byt s k = 0) : trN s (k + 1) = trN s k := by
  conv => lhs; unfold trN
  rw [if_pos h]
theorem trN_nz {s : ByteArray} {k : Nat} (h : byt s k ≠ 0) : trN s (k + 1) = k + 1 := by
  unfold trN
  rw [if_neg h]
theorem trR_p (s : ByteArray) (hs : s.size ≤ 100000) : PureF Tryz.prog 146 #[.string s, .int .u8 0] (.string (s.extract 0 (trN s s.size))) := by
  first | refine v_pure TTok FFok Tryz.func146 rfl rfl fun w0 => ?_ | refine v_pure (args := []) TTok FFok Tryz.func146 rfl rfl fun w0 => ?_
  conv => whnf
  repeat (first | (refine VSeq.mk fun Kq hKq => ?_; conv => whnf) | (refine hKq _ _ _ (.refl _) ?_; clear hKq Kq; conv => whnf) | (clear hKq Kq; refine hKq _ _ _ (.refl _) ?_; clear hKq Kq; conv => whnf) | (clear hKq Kq; clear hKq Kq; refine hKq _ _ _ (.refl _) ?_; clear hKq Kq; conv => whnf) | (clear hKq Kq; clear hKq Kq; clear hKq Kq; refine hKq _ _ _ (.refl _) ?_; clear hKq Kq; conv => whnf) | (clear hKq Kq; clear hKq Kq; clear hKq Kq; clear hKq Kq; refine hKq _ _ _ (.refl _) ?_; clear hKq Kq; conv => whnf) | (clear hKq Kq; clear hKq Kq; clear hKq Kq; clear hKq Kq; clear hKq Kq; refine hKq _ _ _ (.refl _) ?_; clear hKq Kq; conv => whnf) | (refine Or.inl (And.intro (by omega) ?_); conv => whnf) | (refine And.intro (by omega) ?_; conv => whnf))
  have hp := Hp.nil w0
  refine ⟨fun mm e w' => ∃ (k : Nat), mm = k ∧ k ≤ s.size ∧ trN s k = trN s s.size ∧ e = [(0, .v (.string (s.extract 0 k))), (1, .v (.int .u8 0))] ∧ HpM [] w0 w' [],
    ⟨s.size, _, ⟨s.size, rfl, Nat.le_refl _, rfl, by rw [show s.extract 0 s.size = s by simp], hp⟩, sub_cons rfl (sub_cons rfl sub_nil)⟩, ?_⟩
  clear hp
  repeat clear hp
  rintro mm _ w ⟨k, rfl, hk, htr, rfl, hp⟩
  have hsz : (s.extract 0 mm).size = mm := by rw [ByteArray.size_extract]; omega
  conv => whnf
  repeat (first | (refine VSeq.mk fun Kq hKq => ?_; conv => whnf) | (refine hKq _ _ _ (.refl _) ?_; clear hKq Kq; conv => whnf) | (clear hKq Kq; refine hKq _ _ _ (.refl _) ?_; clear hKq Kq; conv => whnf) | (clear hKq Kq; clear hKq Kq; refine hKq _ _ _ (.refl _) ?_; clear hKq Kq; conv => whnf) | (clear hKq Kq; clear hKq Kq; clear hKq Kq; refine hKq _ _ _ (.refl _) ?_; clear hKq Kq; conv => whnf) | (clear hKq Kq; clear hKq Kq; clear hKq Kq; clear hKq Kq; refine hKq _ _ _ (.refl _) ?_; clear hKq Kq; conv => whnf) | (clear hKq Kq; clear hKq Kq; clear hKq Kq; clear hKq Kq; clear hKq Kq; refine hKq _ _ _ (.refl _) ?_; clear hKq Kq; conv => whnf) | (refine Or.inl (And.intro (by omega) ?_); conv => whnf) | (refine And.intro (by omega) ?_; conv => whnf))
  refine ⟨fun h0 => ?_, fun h0 => ?_⟩
  · have h0 := of_decide_eq_true h0
    conv => whnf
    repeat (first | (refine VSeq.mk fun Kq hKq => ?_; conv => whnf) | (refine hKq _ _ _ (.refl _) ?_; clear hKq Kq; conv => whnf) | (clear hKq Kq; refine hKq _ _ _ (.refl _) ?_; clear hKq Kq; conv => whnf) | (clear hKq Kq; clear hKq Kq; refine hKq _ _ _ (.refl _) ?_; clear hKq Kq; conv => whnf) | (clear hKq Kq; clear hKq Kq; clear hKq Kq; refine hKq _ _ _ (.refl _) ?_; clear hKq Kq; conv => whnf) | (clear hKq Kq; clear hKq Kq; clear hKq Kq; clear hKq Kq; refine hKq _ _ _ (.refl _) ?_; clear hKq Kq; conv => whnf) | (clear hKq Kq; clear hKq Kq; clear hKq Kq; clear hKq Kq; clear hKq Kq; refine hKq _ _ _ (.refl _) ?_; clear hKq Kq; conv => whnf) | (refine Or.inl (And.intro (by omega) ?_); conv => whnf) | (refine And.intro (by omega) ?_; conv => whnf))
    have hpos : 0 < mm := by omega
    refine ⟨mm - 1, ⟨by first | rfl | omega, by omega⟩, ?_⟩
    conv => whnf
    repeat (first | (refine VSeq.mk fun Kq hKq => ?_; conv => whnf) | (refine hKq _ _ _ (.refl _) ?_; clear hKq Kq; conv => whnf) | (clear hKq Kq; refine hKq _ _ _ (.refl _) ?_; clear hKq Kq; conv => whnf) | (clear hKq Kq; clear hKq Kq; refine hKq _ _ _ (.refl _) ?_; clear hKq Kq; conv => whnf) | (clear hKq Kq; clear hKq Kq; clear hKq Kq; refine hKq _ _ _ (.refl _) ?_; clear hKq Kq; conv => whnf) | (clear hKq Kq; clear hKq Kq; clear hKq Kq; clear hKq Kq; refine hKq _ _ _ (.refl _) ?_; clear hKq Kq; conv => whnf) | (clear hKq Kq; clear hKq Kq; clear hKq Kq; clear hKq Kq; clear hKq Kq; refine hKq _ _ _ (.refl _) ?_; clear hKq Kq; conv => whnf) | (refine Or.inl (And.intro (by omega) ?_); conv => whnf) | (refine And.intro (by omega) ?_; conv => whnf))
    rw [byt_pre s 0 mm (mm - 1) hk (by omega), Nat.zero_add]
    refine ⟨fun hz => ?_, fun hz => ?_⟩
    · have hz := of_decide_eq_true hz
      conv => whnf
      repeat (first | (refine VSeq.mk fun Kq hKq => ?_; conv => whnf) | (refine hKq _ _ _ (.refl _) ?_; clear hKq Kq; conv => whnf) | (clear hKq Kq; refine hKq _ _ _ (.refl _) ?_; clear hKq Kq; conv => whnf) | (clear hKq Kq; clear hKq Kq; refine hKq _ _ _ (.refl _) ?_; clear hKq Kq; conv => whnf) | (clear hKq Kq; clear hKq Kq; clear hKq Kq; refine hKq _ _ _ (.refl _) ?_; clear hKq Kq; conv => whnf) | (clear hKq Kq; clear hKq Kq; clear hKq Kq; clear hKq Kq; refine hKq _ _ _ (.refl _) ?_; clear hKq Kq; conv => whnf) | (clear hKq Kq; clear hKq Kq; clear hKq Kq; clear hKq Kq; clear hKq Kq; refine hKq _ _ _ (.refl _) ?_; clear hKq Kq; conv => whnf) | (refine Or.inl (And.intro (by omega) ?_); conv => whnf) | (refine And.intro (by omega) ?_; conv => whnf))
      obtain ⟨k, rfl⟩ : ∃ k, mm = k + 1 := ⟨mm - 1, by omega⟩
      simp only [Nat.add_sub_cancel] at hz
      repeat (first | (refine VSeq.mk fun Kq hKq => ?_; conv => whnf) | (refine hKq _ _ _ (.refl _) ?_; clear hKq Kq; conv => whnf) | (clear hKq Kq; refine hKq _ _ _ (.refl _) ?_; clear hKq Kq; conv => whnf) | (clear hKq Kq; clear hKq Kq; refine hKq _ _ _ (.refl _) ?_; clear hKq Kq; conv => whnf) | (clear hKq Kq; clear hKq Kq; clear hKq Kq; refine hKq _ _ _ (.refl _) ?_; clear hKq Kq; conv => whnf) | ((with_reducible show ∃ v w1, Sem.run _ (Instr.box _ _) _ = Result.ok v w1 ∧ _); first | (refine hp.kboxA fun q w hp hx => ?_; conv => whnf) | (refine hp.kbox1 rfl fun q w hp hx => ?_; conv => whnf) | fail) | ((with_reducible show ∀ w1, Ext _ w1 → _); first | (intro w hx; try (have hp := hp.call hx); conv => whnf) | fail) | ((with_reducible show ∃ v, Sem.run _ (loadVar _ _) _ = Result.ok v _ ∧ _); first | (refine ⟨_, Blk.lv (hp.get (i := 0) rfl) TTok rfl rfl, ?_⟩; conv => whnf) | (refine ⟨_, Blk.lv (hp.get (i := 1) rfl) TTok rfl rfl, ?_⟩; conv => whnf) | (refine ⟨_, Blk.lv (hp.get (i := 2) rfl) TTok rfl rfl, ?_⟩; conv => whnf) | (refine ⟨_, Blk.lv (hp.get (i := 3) rfl) TTok rfl rfl, ?_⟩; conv => whnf) | (refine ⟨_, Blk.lv (hp.get (i := 4) rfl) TTok rfl rfl, ?_⟩; conv => whnf) | (refine ⟨_, Blk.lv (hp.get (i := 5) rfl) TTok rfl rfl, ?_⟩; conv => whnf) | (refine ⟨_, Blk.lv (hp.get (i := 6) rfl) TTok rfl rfl, ?_⟩; conv => whnf) | (refine ⟨_, Blk.lv (hp.get (i := 7) rfl) TTok rfl rfl, ?_⟩; conv => whnf) | (refine ⟨_, Blk.lvN (hp.get (i := 0) rfl) TTok rfl rfl, ?_⟩; conv => whnf) | (refine ⟨_, Blk.lvN (hp.get (i := 1) rfl) TTok rfl rfl, ?_⟩; conv => whnf) | (refine ⟨_, Blk.lvN (hp.get (i := 2) rfl) TTok rfl rfl, ?_⟩; conv => whnf) | (refine ⟨_, Blk.lvN (hp.get (i := 3) rfl) TTok rfl rfl, ?_⟩; conv => whnf) | (refine ⟨_, Blk.lvN (hp.get (i := 4) rfl) TTok rfl rfl, ?_⟩; conv => whnf) | (refine ⟨_, Blk.lvN (hp.get (i := 5) rfl) TTok rfl rfl, ?_⟩; conv => whnf) | (refine ⟨_, Blk.lvN (hp.get (i := 6) rfl) TTok rfl rfl, ?_⟩; conv => whnf) | (refine ⟨_, Blk.lvN (hp.get (i := 7) rfl) TTok rfl rfl, ?_⟩; conv => whnf) | fail) | ((with_reducible show ∃ m : Nat, (_ ∧ _) ∧ _); first | (refine ⟨_, ⟨rfl, by omega⟩, ?_⟩; conv => whnf) | (refine ⟨0, ⟨rfl, by decide⟩, ?_⟩; conv => whnf) | (refine ⟨1, ⟨rfl, by decide⟩, ?_⟩; conv => whnf) | (refine ⟨2, ⟨rfl, by decide⟩, ?_⟩; conv => whnf) | fail) | ((with_reducible show ∃ m n : Nat, (_ ∧ _) ∧ _); first | (refine ⟨_, _, ⟨rfl, rfl, by omega, by omega⟩, ?_⟩; conv => whnf) | fail) | ((with_reducible show ∃ m n r : Nat, (_ ∧ _) ∧ _); first | (refine ⟨_, _, _, ⟨rfl, rfl, by decide, by decide⟩, rfl, ?_⟩; conv => whnf) | fail) | ((with_reducible show _ ∨ _); first | (refine Or.inl (And.intro (by first | omega | decide) ?_); conv => whnf) | fail) | (with_reducible refine And.intro hx ?_; conv => whnf) | (refine And.intro (by first | omega | decide) ?_; conv => whnf) | ((with_reducible show (true = true → _) ∧ (true = false → _)); first | (refine And.intro (fun _ => ?_) (fun h => absurd h (by decide)); conv => whnf) | fail) | ((with_reducible show ((!false) = true → _) ∧ ((!false) = false → _)); first | (refine And.intro (fun _ => ?_) (fun h => absurd h (by decide)); conv => whnf) | fail) | ((with_reducible show (false = true → _) ∧ (false = false → _)); first | (refine And.intro (fun h => absurd h (by decide)) (fun _ => ?_); conv => whnf) | fail) | ((with_reducible show ((!true) = true → _) ∧ ((!true) = false → _)); first | (refine And.intro (fun h => absurd h (by decide)) (fun _ => ?_); conv => whnf) | fail) | ((with_reducible show (decide _ = true → _) ∧ (decide _ = false → _)); first | (refine And.intro (fun _ => ?_) (fun h => absurd (by first | rfl | assumption | omega | decide) (of_decide_eq_false h)); conv => whnf) | (refine And.intro (fun h => absurd (of_decide_eq_true h) (by first | (intro h2; exact absurd rfl h2) | omega | decide)) (fun _ => ?_); conv => whnf) | fail) | ((with_reducible show ((!(decide _)) = true → _) ∧ ((!(decide _)) = false → _)); first | (refine And.intro (fun _ => ?_) (fun h => absurd (of_decide_eq_true ((Bool.not_eq_false' _).mp h)) (by first | (intro h2; exact absurd rfl h2) | omega | decide)); conv => whnf) | (refine And.intro (fun h => absurd (by first | rfl | assumption | omega | decide) (of_decide_eq_false ((Bool.not_eq_true' _).mp h))) (fun _ => ?_); conv => whnf) | fail) | fail)
      refine ⟨k, ⟨by first | rfl | omega, by omega⟩, ?_⟩
      conv => whnf
      repeat (first | (refine VSeq.mk fun Kq hKq => ?_; conv => whnf) | (refine hKq _ _ _ (.refl _) ?_; clear hKq Kq; conv => whnf) | (clear hKq Kq; refine hKq _ _ _ (.refl _) ?_; clear hKq Kq; conv => whnf) | (clear hKq Kq; clear hKq Kq; refine hKq _ _ _ (.refl _) ?_; clear hKq Kq; conv => whnf) | (clear hKq Kq; clear hKq Kq; clear hKq Kq; refine hKq _ _ _ (.refl _) ?_; clear hKq Kq; conv => whnf) | (clear hKq Kq; clear hKq Kq; clear hKq Kq; clear hKq Kq; refine hKq _ _ _ (.refl _) ?_; clear hKq Kq; conv => whnf) | (clear hKq Kq; clear hKq Kq; clear hKq Kq; clear hKq Kq; clear hKq Kq; refine hKq _ _ _ (.refl _) ?_; clear hKq Kq; conv => whnf) | (refine Or.inl (And.intro (by omega) ?_); conv => whnf) | (refine And.intro (by omega) ?_; conv => whnf))
      repeat (first | (refine VSeq.mk fun Kq hKq => ?_; conv => whnf) | (refine hKq _ _ _ (.refl _) ?_; clear hKq Kq; conv => whnf) | (clear hKq Kq; refine hKq _ _ _ (.refl _) ?_; clear hKq Kq; conv => whnf) | (clear hKq Kq; clear hKq Kq; refine hKq _ _ _ (.refl _) ?_; clear hKq Kq; conv => whnf) | (clear hKq Kq; clear hKq Kq; clear hKq Kq; refine hKq _ _ _ (.refl _) ?_; clear hKq Kq; conv => whnf) | ((with_reducible show ∃ v w1, Sem.run _ (Instr.box _ _) _ = Result.ok v w1 ∧ _); first | (refine hp.kboxA fun q w hp hx => ?_; conv => whnf) | (refine hp.kbox1 rfl fun q w hp hx => ?_; conv => whnf) | fail) | ((with_reducible show ∀ w1, Ext _ w1 → _); first | (intro w hx; try (have hp := hp.call hx); conv => whnf) | fail) | ((with_reducible show ∃ v, Sem.run _ (loadVar _ _) _ = Result.ok v _ ∧ _); first | (refine ⟨_, Blk.lv (hp.get (i := 0) rfl) TTok rfl rfl, ?_⟩; conv => whnf) | (refine ⟨_, Blk.lv (hp.get (i := 1) rfl) TTok rfl rfl, ?_⟩; conv => whnf) | (refine ⟨_, Blk.lv (hp.get (i := 2) rfl) TTok rfl rfl, ?_⟩; conv => whnf) | (refine ⟨_, Blk.lv (hp.get (i := 3) rfl) TTok rfl rfl, ?_⟩; conv => whnf) | (refine ⟨_, Blk.lv (hp.get (i := 4) rfl) TTok rfl rfl, ?_⟩; conv => whnf) | (refine ⟨_, Blk.lv (hp.get (i := 5) rfl) TTok rfl rfl, ?_⟩; conv => whnf) | (refine ⟨_, Blk.lv (hp.get (i := 6) rfl) TTok rfl rfl, ?_⟩; conv => whnf) | (refine ⟨_, Blk.lv (hp.get (i := 7) rfl) TTok rfl rfl, ?_⟩; conv => whnf) | (refine ⟨_, Blk.lvN (hp.get (i := 0) rfl) TTok rfl rfl, ?_⟩; conv => whnf) | (refine ⟨_, Blk.lvN (hp.get (i := 1) rfl) TTok rfl rfl, ?_⟩; conv => whnf) | (refine ⟨_, Blk.lvN (hp.get (i := 2) rfl) TTok rfl rfl, ?_⟩; conv => whnf) | (refine ⟨_, Blk.lvN (hp.get (i := 3) rfl) TTok rfl rfl, ?_⟩; conv => whnf) | (refine ⟨_, Blk.lvN (hp.get (i := 4) rfl) TTok rfl rfl, ?_⟩; conv => whnf) | (refine ⟨_, Blk.lvN (hp.get (i := 5) rfl) TTok rfl rfl, ?_⟩; conv => whnf) | (refine ⟨_, Blk.lvN (hp.get (i := 6) rfl) TTok rfl rfl, ?_⟩; conv => whnf) | (refine ⟨_, Blk.lvN (hp.get (i := 7) rfl) TTok rfl rfl, ?_⟩; conv => whnf) | fail) | ((with_reducible show ∃ m : Nat, (_ ∧ _) ∧ _); first | (refine ⟨_, ⟨rfl, by omega⟩, ?_⟩; conv => whnf) | (refine ⟨0, ⟨rfl, by decide⟩, ?_⟩; conv => whnf) | (refine ⟨1, ⟨rfl, by decide⟩, ?_⟩; conv => whnf) | (refine ⟨2, ⟨rfl, by decide⟩, ?_⟩; conv => whnf) | fail) | ((with_reducible show ∃ m n : Nat, (_ ∧ _) ∧ _); first | (refine ⟨_, _, ⟨rfl, rfl, by omega, by omega⟩, ?_⟩; conv => whnf) | fail) | ((with_reducible show ∃ m n r : Nat, (_ ∧ _) ∧ _); first | (refine ⟨_, _, _, ⟨rfl, rfl, by decide, by decide⟩, rfl, ?_⟩; conv => whnf) | fail) | ((with_reducible show _ ∨ _); first | (refine Or.inl (And.intro (by first | omega | decide) ?_); conv => whnf) | fail) | (with_reducible refine And.intro hx ?_; conv => whnf) | (refine And.intro (by first | omega | decide) ?_; conv => whnf) | ((with_reducible show (true = true → _) ∧ (true = false → _)); first | (refine And.intro (fun _ => ?_) (fun h => absurd h (by decide)); conv => whnf) | fail) | ((with_reducible show ((!false) = true → _) ∧ ((!false) = false → _)); first | (refine And.intro (fun _ => ?_) (fun h => absurd h (by decide)); conv => whnf) | fail) | ((with_reducible show (false = true → _) ∧ (false = false → _)); first | (refine And.intro (fun h => absurd h (by decide)) (fun _ => ?_); conv => whnf) | fail) | ((with_reducible show ((!true) = true → _) ∧ ((!true) = false → _)); first | (refine And.intro (fun h => absurd h (by decide)) (fun _ => ?_); conv => whnf) | fail) | ((with_reducible show (decide _ = true → _) ∧ (decide _ = false → _)); first | (refine And.intro (fun _ => ?_) (fun h => absurd (by first | rfl | assumption | omega | decide) (of_decide_eq_false h)); conv => whnf) | (refine And.intro (fun h => absurd (of_decide_eq_true h) (by first | (intro h2; exact absurd rfl h2) | omega | decide)) (fun _ => ?_); conv => whnf) | fail) | ((with_reducible show ((!(decide _)) = true → _) ∧ ((!(decide _)) = false → _)); first | (refine And.intro (fun _ => ?_) (fun h => absurd (of_decide_eq_true ((Bool.not_eq_false' _).mp h)) (by first | (intro h2; exact absurd rfl h2) | omega | decide)); conv => whnf) | (refine And.intro (fun h => absurd (by first | rfl | assumption | omega | decide) (of_decide_eq_false ((Bool.not_eq_true' _).mp h))) (fun _ => ?_); conv => whnf) | fail) | fail)
      rw [ext_ext, Nat.zero_add, Nat.zero_add, Nat.min_eq_left (by omega)]
      exact ⟨k, _, by omega, ⟨k, rfl, by omega, (trN_z (by omega)).symm.trans htr, rfl, hp⟩, sub_cons rfl (sub_cons rfl sub_nil)⟩
    · have hz := of_decide_eq_false hz
      conv => whnf
      repeat (first | (refine VSeq.mk fun Kq hKq => ?_; conv => whnf) | (refine hKq _ _ _ (.refl _) ?_; clear hKq Kq; conv => whnf) | (clear hKq Kq; refine hKq _ _ _ (.refl _) ?_; clear hKq Kq; conv => whnf) | (clear hKq Kq; clear hKq Kq; refine hKq _ _ _ (.refl _) ?_; clear hKq Kq; conv => whnf) | (clear hKq Kq; clear hKq Kq; clear hKq Kq; refine hKq _ _ _ (.refl _) ?_; clear hKq Kq; conv => whnf) | (clear hKq Kq; clear hKq Kq; clear hKq Kq; clear hKq Kq; refine hKq _ _ _ (.refl _) ?_; clear hKq Kq; conv => whnf) | (clear hKq Kq; clear hKq Kq; clear hKq Kq; clear hKq Kq; clear hKq Kq; refine hKq _ _ _ (.refl _) ?_; clear hKq Kq; conv => whnf) | (refine Or.inl (And.intro (by omega) ?_); conv => whnf) | (refine And.intro (by omega) ?_; conv => whnf))
      repeat (first | (refine VSeq.mk fun Kq hKq => ?_; conv => whnf) | (refine hKq _ _ _ (.refl _) ?_; clear hKq Kq; conv => whnf) | (clear hKq Kq; refine hKq _ _ _ (.refl _) ?_; clear hKq Kq; conv => whnf) | (clear hKq Kq; clear hKq Kq; refine hKq _ _ _ (.refl _) ?_; clear hKq Kq; conv => whnf) | (clear hKq Kq; clear hKq Kq; clear hKq Kq; refine hKq _ _ _ (.refl _) ?_; clear hKq Kq; conv => whnf) | ((with_reducible show ∃ v w1, Sem.run _ (Instr.box _ _) _ = Result.ok v w1 ∧ _); first | (refine hp.kboxA fun q w hp hx => ?_; conv => whnf) | (refine hp.kbox1 rfl fun q w hp hx => ?_; conv => whnf) | fail) | ((with_reducible show ∀ w1, Ext _ w1 → _); first | (intro w hx; try (have hp := hp.call hx); conv => whnf) | fail) | ((with_reducible show ∃ v, Sem.run _ (loadVar _ _) _ = Result.ok v _ ∧ _); first | (refine ⟨_, Blk.lv (hp.get (i := 0) rfl) TTok rfl rfl, ?_⟩; conv => whnf) | (refine ⟨_, Blk.lv (hp.get (i := 1) rfl) TTok rfl rfl, ?_⟩; conv => whnf) | (refine ⟨_, Blk.lv (hp.get (i := 2) rfl) TTok rfl rfl, ?_⟩; conv => whnf) | (refine ⟨_, Blk.lv (hp.get (i := 3) rfl) TTok rfl rfl, ?_⟩; conv => whnf) | (refine ⟨_, Blk.lv (hp.get (i := 4) rfl) TTok rfl rfl, ?_⟩; conv => whnf) | (refine ⟨_, Blk.lv (hp.get (i := 5) rfl) TTok rfl rfl, ?_⟩; conv => whnf) | (refine ⟨_, Blk.lv (hp.get (i := 6) rfl) TTok rfl rfl, ?_⟩; conv => whnf) | (refine ⟨_, Blk.lv (hp.get (i := 7) rfl) TTok rfl rfl, ?_⟩; conv => whnf) | (refine ⟨_, Blk.lvN (hp.get (i := 0) rfl) TTok rfl rfl, ?_⟩; conv => whnf) | (refine ⟨_, Blk.lvN (hp.get (i := 1) rfl) TTok rfl rfl, ?_⟩; conv => whnf) | (refine ⟨_, Blk.lvN (hp.get (i := 2) rfl) TTok rfl rfl, ?_⟩; conv => whnf) | (refine ⟨_, Blk.lvN (hp.get (i := 3) rfl) TTok rfl rfl, ?_⟩; conv => whnf) | (refine ⟨_, Blk.lvN (hp.get (i := 4) rfl) TTok rfl rfl, ?_⟩; conv => whnf) | (refine ⟨_, Blk.lvN (hp.get (i := 5) rfl) TTok rfl rfl, ?_⟩; conv => whnf) | (refine ⟨_, Blk.lvN (hp.get (i := 6) rfl) TTok rfl rfl, ?_⟩; conv => whnf) | (refine ⟨_, Blk.lvN (hp.get (i := 7) rfl) TTok rfl rfl, ?_⟩; conv => whnf) | fail) | ((with_reducible show ∃ m : Nat, (_ ∧ _) ∧ _); first | (refine ⟨_, ⟨rfl, by omega⟩, ?_⟩; conv => whnf) | (refine ⟨0, ⟨rfl, by decide⟩, ?_⟩; conv => whnf) | (refine ⟨1, ⟨rfl, by decide⟩, ?_⟩; conv => whnf) | (refine ⟨2, ⟨rfl, by decide⟩, ?_⟩; conv => whnf) | fail) | ((with_reducible show ∃ m n : Nat, (_ ∧ _) ∧ _); first | (refine ⟨_, _, ⟨rfl, rfl, by omega, by omega⟩, ?_⟩; conv => whnf) | fail) | ((with_reducible show ∃ m n r : Nat, (_ ∧ _) ∧ _); first | (refine ⟨_, _, _, ⟨rfl, rfl, by decide, by decide⟩, rfl, ?_⟩; conv => whnf) | fail) | ((with_reducible show _ ∨ _); first | (refine Or.inl (And.intro (by first | omega | decide) ?_); conv => whnf) | fail) | (with_reducible refine And.intro hx ?_; conv => whnf) | (refine And.intro (by first | omega | decide) ?_; conv => whnf) | ((with_reducible show (true = true → _) ∧ (true = false → _)); first | (refine And.intro (fun _ => ?_) (fun h => absurd h (by decide)); conv => whnf) | fail) | ((with_reducible show ((!false) = true → _) ∧ ((!false) = false → _)); first | (refine And.intro (fun _ => ?_) (fun h => absurd h (by decide)); conv => whnf) | fail) | ((with_reducible show (false = true → _) ∧ (false = false → _)); first | (refine And.intro (fun h => absurd h (by decide)) (fun _ => ?_); conv => whnf) | fail) | ((with_reducible show ((!true) = true → _) ∧ ((!true) = false → _)); first | (refine And.intro (fun h => absurd h (by decide)) (fun _ => ?_); conv => whnf) | fail) | ((with_reducible show (decide _ = true → _) ∧ (decide _ = false → _)); first | (refine And.intro (fun _ => ?_) (fun h => absurd (by first | rfl | assumption | omega | decide) (of_decide_eq_false h)); conv => whnf) | (refine And.intro (fun h => absurd (of_decide_eq_true h) (by first | (intro h2; exact absurd rfl h2) | omega | decide)) (fun _ => ?_); conv => whnf) | fail) | ((with_reducible show ((!(decide _)) = true → _) ∧ ((!(decide _)) = false → _)); first | (refine And.intro (fun _ => ?_) (fun h => absurd (of_decide_eq_true ((Bool.not_eq_false' _).mp h)) (by first | (intro h2; exact absurd rfl h2) | omega | decide)); conv => whnf) | (refine And.intro (fun h => absurd (by first | rfl | assumption | omega | decide) (of_decide_eq_false ((Bool.not_eq_true' _).mp h))) (fun _ => ?_); conv => whnf) | fail) | fail)
      obtain ⟨k, rfl⟩ : ∃ k, mm = k + 1 := ⟨mm - 1, by omega⟩
      simp only [Nat.add_sub_cancel] at hz
      rw [← htr, trN_nz (by omega)]
      exact ⟨rfl, hp.ext⟩
  · have h0 := of_decide_eq_false h0
    conv => whnf
    repeat (first | (refine VSeq.mk fun Kq hKq => ?_; conv => whnf) | (refine hKq _ _ _ (.refl _) ?_; clear hKq Kq; conv => whnf) | (clear hKq Kq; refine hKq _ _ _ (.refl _) ?_; clear hKq Kq; conv => whnf) | (clear hKq Kq; clear hKq Kq; refine hKq _ _ _ (.refl _) ?_; clear hKq Kq; conv => whnf) | (clear hKq Kq; clear hKq Kq; clear hKq Kq; refine hKq _ _ _ (.refl _) ?_; clear hKq Kq; conv => whnf) | (clear hKq Kq; clear hKq Kq; clear hKq Kq; clear hKq Kq; refine hKq _ _ _ (.refl _) ?_; clear hKq Kq; conv => whnf) | (clear hKq Kq; clear hKq Kq; clear hKq Kq; clear hKq Kq; clear hKq Kq; refine hKq _ _ _ (.refl _) ?_; clear hKq Kq; conv => whnf) | (refine Or.inl (And.intro (by omega) ?_); conv => whnf) | (refine And.intro (by omega) ?_; conv => whnf))
    repeat (first | (refine VSeq.mk fun Kq hKq => ?_; conv => whnf) | (refine hKq _ _ _ (.refl _) ?_; clear hKq Kq; conv => whnf) | (clear hKq Kq; refine hKq _ _ _ (.refl _) ?_; clear hKq Kq; conv => whnf) | (clear hKq Kq; clear hKq Kq; refine hKq _ _ _ (.refl _) ?_; clear hKq Kq; conv => whnf) | (clear hKq Kq; clear hKq Kq; clear hKq Kq; refine hKq _ _ _ (.refl _) ?_; clear hKq Kq; conv => whnf) | ((with_reducible show ∃ v w1, Sem.run _ (Instr.box _ _) _ = Result.ok v w1 ∧ _); first | (refine hp.kboxA fun q w hp hx => ?_; conv => whnf) | (refine hp.kbox1 rfl fun q w hp hx => ?_; conv => whnf) | fail) | ((with_reducible show ∀ w1, Ext _ w1 → _); first | (intro w hx; try (have hp := hp.call hx); conv => whnf) | fail) | ((with_reducible show ∃ v, Sem.run _ (loadVar _ _) _ = Result.ok v _ ∧ _); first | (refine ⟨_, Blk.lv (hp.get (i := 0) rfl) TTok rfl rfl, ?_⟩; conv => whnf) | (refine ⟨_, Blk.lv (hp.get (i := 1) rfl) TTok rfl rfl, ?_⟩; conv => whnf) | (refine ⟨_, Blk.lv (hp.get (i := 2) rfl) TTok rfl rfl, ?_⟩; conv => whnf) | (refine ⟨_, Blk.lv (hp.get (i := 3) rfl) TTok rfl rfl, ?_⟩; conv => whnf) | (refine ⟨_, Blk.lv (hp.get (i := 4) rfl) TTok rfl rfl, ?_⟩; conv => whnf) | (refine ⟨_, Blk.lv (hp.get (i := 5) rfl) TTok rfl rfl, ?_⟩; conv => whnf) | (refine ⟨_, Blk.lv (hp.get (i := 6) rfl) TTok rfl rfl, ?_⟩; conv => whnf) | (refine ⟨_, Blk.lv (hp.get (i := 7) rfl) TTok rfl rfl, ?_⟩; conv => whnf) | (refine ⟨_, Blk.lvN (hp.get (i := 0) rfl) TTok rfl rfl, ?_⟩; conv => whnf) | (refine ⟨_, Blk.lvN (hp.get (i := 1) rfl) TTok rfl rfl, ?_⟩; conv => whnf) | (refine ⟨_, Blk.lvN (hp.get (i := 2) rfl) TTok rfl rfl, ?_⟩; conv => whnf) | (refine ⟨_, Blk.lvN (hp.get (i := 3) rfl) TTok rfl rfl, ?_⟩; conv => whnf) | (refine ⟨_, Blk.lvN (hp.get (i := 4) rfl) TTok rfl rfl, ?_⟩; conv => whnf) | (refine ⟨_, Blk.lvN (hp.get (i := 5) rfl) TTok rfl rfl, ?_⟩; conv => whnf) | (refine ⟨_, Blk.lvN (hp.get (i := 6) rfl) TTok rfl rfl, ?_⟩; conv => whnf) | (refine ⟨_, Blk.lvN (hp.get (i := 7) rfl) TTok rfl rfl, ?_⟩; conv => whnf) | fail) | ((with_reducible show ∃ m : Nat, (_ ∧ _) ∧ _); first | (refine ⟨_, ⟨rfl, by omega⟩, ?_⟩; conv => whnf) | (refine ⟨0, ⟨rfl, by decide⟩, ?_⟩; conv => whnf) | (refine ⟨1, ⟨rfl, by decide⟩, ?_⟩; conv => whnf) | (refine ⟨2, ⟨rfl, by decide⟩, ?_⟩; conv => whnf) | fail) | ((with_reducible show ∃ m n : Nat, (_ ∧ _) ∧ _); first | (refine ⟨_, _, ⟨rfl, rfl, by omega, by omega⟩, ?_⟩; conv => whnf) | fail) | ((with_reducible show ∃ m n r : Nat, (_ ∧ _) ∧ _); first | (refine ⟨_, _, _, ⟨rfl, rfl, by decide, by decide⟩, rfl, ?_⟩; conv => whnf) | fail) | ((with_reducible show _ ∨ _); first | (refine Or.inl (And.intro (by first | omega | decide) ?_); conv => whnf) | fail) | (with_reducible refine And.intro hx ?_; conv => whnf) | (refine And.intro (by first | omega | decide) ?_; conv => whnf) | ((with_reducible show (true = true → _) ∧ (true = false → _)); first | (refine And.intro (fun _ => ?_) (fun h => absurd h (by decide)); conv => whnf) | fail) | ((with_reducible show ((!false) = true → _) ∧ ((!false) = false → _)); first | (refine And.intro (fun _ => ?_) (fun h => absurd h (by decide)); conv => whnf) | fail) | ((with_reducible show (false = true → _) ∧ (false = false → _)); first | (refine And.intro (fun h => absurd h (by decide)) (fun _ => ?_); conv => whnf) | fail) | ((with_reducible show ((!true) = true → _) ∧ ((!true) = false → _)); first | (refine And.intro (fun h => absurd h (by decide)) (fun _ => ?_); conv => whnf) | fail) | ((with_reducible show (decide _ = true → _) ∧ (decide _ = false → _)); first | (refine And.intro (fun _ => ?_) (fun h => absurd (by first | rfl | assumption | omega | decide) (of_decide_eq_false h)); conv => whnf) | (refine And.intro (fun h => absurd (of_decide_eq_true h) (by first | (intro h2; exact absurd rfl h2) | omega | decide)) (fun _ => ?_); conv => whnf) | fail) | ((with_reducible show ((!(decide _)) = true → _) ∧ ((!(decide _)) = false → _)); first | (refine And.intro (fun _ => ?_) (fun h => absurd (of_decide_eq_true ((Bool.not_eq_false' _).mp h)) (by first | (intro h2; exact absurd rfl h2) | omega | decide)); conv => whnf) | (refine And.intro (fun h => absurd (by first | rfl | assumption | omega | decide) (of_decide_eq_false ((Bool.not_eq_true' _).mp h))) (fun _ => ?_); conv => whnf) | fail) | fail)
    obtain rfl : mm = 0 := by omega
    rw [← htr]
    exact ⟨rfl, hp.ext⟩
theorem tlN_z {s : ByteArray} {f j : Nat} (h : byt s j = 0) : tlN s (f + 1) j = tlN s f (j + 1) := by
  conv => lhs; unfold tlN
  rw [if_pos h]
theorem tlN_nz {s : ByteArray} {f j : Nat} (h : byt s j ≠ 0) : tlN s (f + 1) j = j := by
  unfold tlN
  rw [if_neg h]
theorem trL_p (s : ByteArray) (hs : s.size ≤ 100000) : PureF Tryz.prog 145 #[.string s, .int .u8 0] (.string (s.extract (tlN s s.size 0) s.size)) := by
  first | refine v_pure TTok FFok Tryz.func145 rfl rfl fun w0 => ?_ | refine v_pure (args := []) TTok FFok Tryz.func145 rfl rfl fun w0 => ?_
  conv => whnf
  repeat (first | (refine VSeq.mk fun Kq hKq => ?_; conv => whnf) | (refine hKq _ _ _ (.refl _) ?_; clear hKq Kq; conv => whnf) | (clear hKq Kq; refine hKq _ _ _ (.refl _) ?_; clear hKq Kq; conv => whnf) | (clear hKq Kq; clear hKq Kq; refine hKq _ _ _ (.refl _) ?_; clear hKq Kq; conv => whnf) | (clear hKq Kq; clear hKq Kq; clear hKq Kq; refine hKq _ _ _ (.refl _) ?_; clear hKq Kq; conv => whnf) | (clear hKq Kq; clear hKq Kq; clear hKq Kq; clear hKq Kq; refine hKq _ _ _ (.refl _) ?_; clear hKq Kq; conv => whnf) | (clear hKq Kq; clear hKq Kq; clear hKq Kq; clear hKq Kq; clear hKq Kq; refine hKq _ _ _ (.refl _) ?_; clear hKq Kq; conv => whnf) | (refine Or.inl (And.intro (by omega) ?_); conv => whnf) | (refine And.intro (by omega) ?_; conv => whnf))
  have hp := Hp.nil w0
  refine ⟨fun mm e w' => ∃ (j : Nat), mm + j = s.size ∧ tlN s mm j = tlN s s.size 0 ∧ e = [(0, .v (.string (s.extract j s.size))), (1, .v (.int .u8 0))] ∧ HpM [] w0 w' [],
    ⟨s.size, _, ⟨0, by omega, rfl, by rw [show s.extract 0 s.size = s by simp], hp⟩, sub_cons rfl (sub_cons rfl sub_nil)⟩, ?_⟩
  clear hp
  repeat clear hp
  rintro mm _ w ⟨j, hj, htr, rfl, hp⟩
  have hsz : (s.extract j s.size).size = mm := by rw [ByteArray.size_extract]; omega
  conv => whnf
  repeat (first | (refine VSeq.mk fun Kq hKq => ?_; conv => whnf) | (refine hKq _ _ _ (.refl _) ?_; clear hKq Kq; conv => whnf) | (clear hKq Kq; refine hKq _ _ _ (.refl _) ?_; clear hKq Kq; conv => whnf) | (clear hKq Kq; clear hKq Kq; refine hKq _ _ _ (.refl _) ?_; clear hKq Kq; conv => whnf) | (clear hKq Kq; clear hKq Kq; clear hKq Kq; refine hKq _ _ _ (.refl _) ?_; clear hKq Kq; conv => whnf) | (clear hKq Kq; clear hKq Kq; clear hKq Kq; clear hKq Kq; refine hKq _ _ _ (.refl _) ?_; clear hKq Kq; conv => whnf) | (clear hKq Kq; clear hKq Kq; clear hKq Kq; clear hKq Kq; clear hKq Kq; refine hKq _ _ _ (.refl _) ?_; clear hKq Kq; conv => whnf) | (refine Or.inl (And.intro (by omega) ?_); conv => whnf) | (refine And.intro (by omega) ?_; conv => whnf))
  refine ⟨fun h0 => ?_, fun h0 => ?_⟩
  · have h0 := of_decide_eq_true h0
    conv => whnf
    repeat (first | (refine VSeq.mk fun Kq hKq => ?_; conv => whnf) | (refine hKq _ _ _ (.refl _) ?_; clear hKq Kq; conv => whnf) | (clear hKq Kq; refine hKq _ _ _ (.refl _) ?_; clear hKq Kq; conv => whnf) | (clear hKq Kq; clear hKq Kq; refine hKq _ _ _ (.refl _) ?_; clear hKq Kq; conv => whnf) | (clear hKq Kq; clear hKq Kq; clear hKq Kq; refine hKq _ _ _ (.refl _) ?_; clear hKq Kq; conv => whnf) | (clear hKq Kq; clear hKq Kq; clear hKq Kq; clear hKq Kq; refine hKq _ _ _ (.refl _) ?_; clear hKq Kq; conv => whnf) | (clear hKq Kq; clear hKq Kq; clear hKq Kq; clear hKq Kq; clear hKq Kq; refine hKq _ _ _ (.refl _) ?_; clear hKq Kq; conv => whnf) | (refine Or.inl (And.intro (by omega) ?_); conv => whnf) | (refine And.intro (by omega) ?_; conv => whnf))
    have hpos : 0 < mm := by omega
    obtain ⟨f, rfl⟩ : ∃ f, mm = f + 1 := ⟨mm - 1, by omega⟩
    refine ⟨0, ⟨by first | rfl | omega, by omega⟩, ?_⟩
    conv => whnf
    repeat (first | (refine VSeq.mk fun Kq hKq => ?_; conv => whnf) | (refine hKq _ _ _ (.refl _) ?_; clear hKq Kq; conv => whnf) | (clear hKq Kq; refine hKq _ _ _ (.refl _) ?_; clear hKq Kq; conv => whnf) | (clear hKq Kq; clear hKq Kq; refine hKq _ _ _ (.refl _) ?_; clear hKq Kq; conv => whnf) | (clear hKq Kq; clear hKq Kq; clear hKq Kq; refine hKq _ _ _ (.refl _) ?_; clear hKq Kq; conv => whnf) | (clear hKq Kq; clear hKq Kq; clear hKq Kq; clear hKq Kq; refine hKq _ _ _ (.refl _) ?_; clear hKq Kq; conv => whnf) | (clear hKq Kq; clear hKq Kq; clear hKq Kq; clear hKq Kq; clear hKq Kq; refine hKq _ _ _ (.refl _) ?_; clear hKq Kq; conv => whnf) | (refine Or.inl (And.intro (by omega) ?_); conv => whnf) | (refine And.intro (by omega) ?_; conv => whnf))
    rw [byt_pre s j s.size 0 (Nat.le_refl _) (by omega), Nat.add_zero]
    refine ⟨fun hz => ?_, fun hz => ?_⟩
    · have hz := of_decide_eq_true hz
      conv => whnf
      repeat (first | (refine VSeq.mk fun Kq hKq => ?_; conv => whnf) | (refine hKq _ _ _ (.refl _) ?_; clear hKq Kq; conv => whnf) | (clear hKq Kq; refine hKq _ _ _ (.refl _) ?_; clear hKq Kq; conv => whnf) | (clear hKq Kq; clear hKq Kq; refine hKq _ _ _ (.refl _) ?_; clear hKq Kq; conv => whnf) | (clear hKq Kq; clear hKq Kq; clear hKq Kq; refine hKq _ _ _ (.refl _) ?_; clear hKq Kq; conv => whnf) | (clear hKq Kq; clear hKq Kq; clear hKq Kq; clear hKq Kq; refine hKq _ _ _ (.refl _) ?_; clear hKq Kq; conv => whnf) | (clear hKq Kq; clear hKq Kq; clear hKq Kq; clear hKq Kq; clear hKq Kq; refine hKq _ _ _ (.refl _) ?_; clear hKq Kq; conv => whnf) | (refine Or.inl (And.intro (by omega) ?_); conv => whnf) | (refine And.intro (by omega) ?_; conv => whnf))
      repeat (first | (refine VSeq.mk fun Kq hKq => ?_; conv => whnf) | (refine hKq _ _ _ (.refl _) ?_; clear hKq Kq; conv => whnf) | (clear hKq Kq; refine hKq _ _ _ (.refl _) ?_; clear hKq Kq; conv => whnf) | (clear hKq Kq; clear hKq Kq; refine hKq _ _ _ (.refl _) ?_; clear hKq Kq; conv => whnf) | (clear hKq Kq; clear hKq Kq; clear hKq Kq; refine hKq _ _ _ (.refl _) ?_; clear hKq Kq; conv => whnf) | ((with_reducible show ∃ v w1, Sem.run _ (Instr.box _ _) _ = Result.ok v w1 ∧ _); first | (refine hp.kboxA fun q w hp hx => ?_; conv => whnf) | (refine hp.kbox1 rfl fun q w hp hx => ?_; conv => whnf) | fail) | ((with_reducible show ∀ w1, Ext _ w1 → _); first | (intro w hx; try (have hp := hp.call hx); conv => whnf) | fail) | ((with_reducible show ∃ v, Sem.run _ (loadVar _ _) _ = Result.ok v _ ∧ _); first | (refine ⟨_, Blk.lv (hp.get (i := 0) rfl) TTok rfl rfl, ?_⟩; conv => whnf) | (refine ⟨_, Blk.lv (hp.get (i := 1) rfl) TTok rfl rfl, ?_⟩; conv => whnf) | (refine ⟨_, Blk.lv (hp.get (i := 2) rfl) TTok rfl rfl, ?_⟩; conv => whnf) | (refine ⟨_, Blk.lv (hp.get (i := 3) rfl) TTok rfl rfl, ?_⟩; conv => whnf) | (refine ⟨_, Blk.lv (hp.get (i := 4) rfl) TTok rfl rfl, ?_⟩; conv => whnf) | (refine ⟨_, Blk.lv (hp.get (i := 5) rfl) TTok rfl rfl, ?_⟩; conv => whnf) | (refine ⟨_, Blk.lv (hp.get (i := 6) rfl) TTok rfl rfl, ?_⟩; conv => whnf) | (refine ⟨_, Blk.lv (hp.get (i := 7) rfl) TTok rfl rfl, ?_⟩; conv => whnf) | (refine ⟨_, Blk.lvN (hp.get (i := 0) rfl) TTok rfl rfl, ?_⟩; conv => whnf) | (refine ⟨_, Blk.lvN (hp.get (i := 1) rfl) TTok rfl rfl, ?_⟩; conv => whnf) | (refine ⟨_, Blk.lvN (hp.get (i := 2) rfl) TTok rfl rfl, ?_⟩; conv => whnf) | (refine ⟨_, Blk.lvN (hp.get (i := 3) rfl) TTok rfl rfl, ?_⟩; conv => whnf) | (refine ⟨_, Blk.lvN (hp.get (i := 4) rfl) TTok rfl rfl, ?_⟩; conv => whnf) | (refine ⟨_, Blk.lvN (hp.get (i := 5) rfl) TTok rfl rfl, ?_⟩; conv => whnf) | (refine ⟨_, Blk.lvN (hp.get (i := 6) rfl) TTok rfl rfl, ?_⟩; conv => whnf) | (refine ⟨_, Blk.lvN (hp.get (i := 7) rfl) TTok rfl rfl, ?_⟩; conv => whnf) | fail) | ((with_reducible show ∃ m : Nat, (_ ∧ _) ∧ _); first | (refine ⟨_, ⟨rfl, by omega⟩, ?_⟩; conv => whnf) | (refine ⟨0, ⟨rfl, by decide⟩, ?_⟩; conv => whnf) | (refine ⟨1, ⟨rfl, by decide⟩, ?_⟩; conv => whnf) | (refine ⟨2, ⟨rfl, by decide⟩, ?_⟩; conv => whnf) | fail) | ((with_reducible show ∃ m n : Nat, (_ ∧ _) ∧ _); first | (refine ⟨_, _, ⟨rfl, rfl, by omega, by omega⟩, ?_⟩; conv => whnf) | fail) | ((with_reducible show ∃ m n r : Nat, (_ ∧ _) ∧ _); first | (refine ⟨_, _, _, ⟨rfl, rfl, by decide, by decide⟩, rfl, ?_⟩; conv => whnf) | fail) | ((with_reducible show _ ∨ _); first | (refine Or.inl (And.intro (by first | omega | decide) ?_); conv => whnf) | fail) | (with_reducible refine And.intro hx ?_; conv => whnf) | (refine And.intro (by first | omega | decide) ?_; conv => whnf) | ((with_reducible show (true = true → _) ∧ (true = false → _)); first | (refine And.intro (fun _ => ?_) (fun h => absurd h (by decide)); conv => whnf) | fail) | ((with_reducible show ((!false) = true → _) ∧ ((!false) = false → _)); first | (refine And.intro (fun _ => ?_) (fun h => absurd h (by decide)); conv => whnf) | fail) | ((with_reducible show (false = true → _) ∧ (false = false → _)); first | (refine And.intro (fun h => absurd h (by decide)) (fun _ => ?_); conv => whnf) | fail) | ((with_reducible show ((!true) = true → _) ∧ ((!true) = false → _)); first | (refine And.intro (fun h => absurd h (by decide)) (fun _ => ?_); conv => whnf) | fail) | ((with_reducible show (decide _ = true → _) ∧ (decide _ = false → _)); first | (refine And.intro (fun _ => ?_) (fun h => absurd (by first | rfl | assumption | omega | decide) (of_decide_eq_false h)); conv => whnf) | (refine And.intro (fun h => absurd (of_decide_eq_true h) (by first | (intro h2; exact absurd rfl h2) | omega | decide)) (fun _ => ?_); conv => whnf) | fail) | ((with_reducible show ((!(decide _)) = true → _) ∧ ((!(decide _)) = false → _)); first | (refine And.intro (fun _ => ?_) (fun h => absurd (of_decide_eq_true ((Bool.not_eq_false' _).mp h)) (by first | (intro h2; exact absurd rfl h2) | omega | decide)); conv => whnf) | (refine And.intro (fun h => absurd (by first | rfl | assumption | omega | decide) (of_decide_eq_false ((Bool.not_eq_true' _).mp h))) (fun _ => ?_); conv => whnf) | fail) | fail)
      refine ⟨1, ⟨by first | rfl | omega, by omega⟩, ?_⟩
      conv => whnf
      repeat (first | (refine VSeq.mk fun Kq hKq => ?_; conv => whnf) | (refine hKq _ _ _ (.refl _) ?_; clear hKq Kq; conv => whnf) | (clear hKq Kq; refine hKq _ _ _ (.refl _) ?_; clear hKq Kq; conv => whnf) | (clear hKq Kq; clear hKq Kq; refine hKq _ _ _ (.refl _) ?_; clear hKq Kq; conv => whnf) | (clear hKq Kq; clear hKq Kq; clear hKq Kq; refine hKq _ _ _ (.refl _) ?_; clear hKq Kq; conv => whnf) | (clear hKq Kq; clear hKq Kq; clear hKq Kq; clear hKq Kq; refine hKq _ _ _ (.refl _) ?_; clear hKq Kq; conv => whnf) | (clear hKq Kq; clear hKq Kq; clear hKq Kq; clear hKq Kq; clear hKq Kq; refine hKq _ _ _ (.refl _) ?_; clear hKq Kq; conv => whnf) | (refine Or.inl (And.intro (by omega) ?_); conv => whnf) | (refine And.intro (by omega) ?_; conv => whnf))
      repeat (first | (refine VSeq.mk fun Kq hKq => ?_; conv => whnf) | (refine hKq _ _ _ (.refl _) ?_; clear hKq Kq; conv => whnf) | (clear hKq Kq; refine hKq _ _ _ (.refl _) ?_; clear hKq Kq; conv => whnf) | (clear hKq Kq; clear hKq Kq; refine hKq _ _ _ (.refl _) ?_; clear hKq Kq; conv => whnf) | (clear hKq Kq; clear hKq Kq; clear hKq Kq; refine hKq _ _ _ (.refl _) ?_; clear hKq Kq; conv => whnf) | ((with_reducible show ∃ v w1, Sem.run _ (Instr.box _ _) _ = Result.ok v w1 ∧ _); first | (refine hp.kboxA fun q w hp hx => ?_; conv => whnf) | (refine hp.kbox1 rfl fun q w hp hx => ?_; conv => whnf) | fail) | ((with_reducible show ∀ w1, Ext _ w1 → _); first | (intro w hx; try (have hp := hp.call hx); conv => whnf) | fail) | ((with_reducible show ∃ v, Sem.run _ (loadVar _ _) _ = Result.ok v _ ∧ _); first | (refine ⟨_, Blk.lv (hp.get (i := 0) rfl) TTok rfl rfl, ?_⟩; conv => whnf) | (refine ⟨_, Blk.lv (hp.get (i := 1) rfl) TTok rfl rfl, ?_⟩; conv => whnf) | (refine ⟨_, Blk.lv (hp.get (i := 2) rfl) TTok rfl rfl, ?_⟩; conv => whnf) | (refine ⟨_, Blk.lv (hp.get (i := 3) rfl) TTok rfl rfl, ?_⟩; conv => whnf) | (refine ⟨_, Blk.lv (hp.get (i := 4) rfl) TTok rfl rfl, ?_⟩; conv => whnf) | (refine ⟨_, Blk.lv (hp.get (i := 5) rfl) TTok rfl rfl, ?_⟩; conv => whnf) | (refine ⟨_, Blk.lv (hp.get (i := 6) rfl) TTok rfl rfl, ?_⟩; conv => whnf) | (refine ⟨_, Blk.lv (hp.get (i := 7) rfl) TTok rfl rfl, ?_⟩; conv => whnf) | (refine ⟨_, Blk.lvN (hp.get (i := 0) rfl) TTok rfl rfl, ?_⟩; conv => whnf) | (refine ⟨_, Blk.lvN (hp.get (i := 1) rfl) TTok rfl rfl, ?_⟩; conv => whnf) | (refine ⟨_, Blk.lvN (hp.get (i := 2) rfl) TTok rfl rfl, ?_⟩; conv => whnf) | (refine ⟨_, Blk.lvN (hp.get (i := 3) rfl) TTok rfl rfl, ?_⟩; conv => whnf) | (refine ⟨_, Blk.lvN (hp.get (i := 4) rfl) TTok rfl rfl, ?_⟩; conv => whnf) | (refine ⟨_, Blk.lvN (hp.get (i := 5) rfl) TTok rfl rfl, ?_⟩; conv => whnf) | (refine ⟨_, Blk.lvN (hp.get (i := 6) rfl) TTok rfl rfl, ?_⟩; conv => whnf) | (refine ⟨_, Blk.lvN (hp.get (i := 7) rfl) TTok rfl rfl, ?_⟩; conv => whnf) | fail) | ((with_reducible show ∃ m : Nat, (_ ∧ _) ∧ _); first | (refine ⟨_, ⟨rfl, by omega⟩, ?_⟩; conv => whnf) | (refine ⟨0, ⟨rfl, by decide⟩, ?_⟩; conv => whnf) | (refine ⟨1, ⟨rfl, by decide⟩, ?_⟩; conv => whnf) | (refine ⟨2, ⟨rfl, by decide⟩, ?_⟩; conv => whnf) | fail) | ((with_reducible show ∃ m n : Nat, (_ ∧ _) ∧ _); first | (refine ⟨_, _, ⟨rfl, rfl, by omega, by omega⟩, ?_⟩; conv => whnf) | fail) | ((with_reducible show ∃ m n r : Nat, (_ ∧ _) ∧ _); first | (refine ⟨_, _, _, ⟨rfl, rfl, by decide, by decide⟩, rfl, ?_⟩; conv => whnf) | fail) | ((with_reducible show _ ∨ _); first | (refine Or.inl (And.intro (by first | omega | decide) ?_); conv => whnf) | fail) | (with_reducible refine And.intro hx ?_; conv => whnf) | (refine And.intro (by first | omega | decide) ?_; conv => whnf) | ((with_reducible show (true = true → _) ∧ (true = false → _)); first | (refine And.intro (fun _ => ?_) (fun h => absurd h (by decide)); conv => whnf) | fail) | ((with_reducible show ((!false) = true → _) ∧ ((!false) = false → _)); first | (refine And.intro (fun _ => ?_) (fun h => absurd h (by decide)); conv => whnf) | fail) | ((with_reducible show (false = true → _) ∧ (false = false → _)); first | (refine And.intro (fun h => absurd h (by decide)) (fun _ => ?_); conv => whnf) | fail) | ((with_reducible show ((!true) = true → _) ∧ ((!true) = false → _)); first | (refine And.intro (fun h => absurd h (by decide)) (fun _ => ?_); conv => whnf) | fail) | ((with_reducible show (decide _ = true → _) ∧ (decide _ = false → _)); first | (refine And.intro (fun _ => ?_) (fun h => absurd (by first | rfl | assumption | omega | decide) (of_decide_eq_false h)); conv => whnf) | (refine And.intro (fun h => absurd (of_decide_eq_true h) (by first | (intro h2; exact absurd rfl h2) | omega | decide)) (fun _ => ?_); conv => whnf) | fail) | ((with_reducible show ((!(decide _)) = true → _) ∧ ((!(decide _)) = false → _)); first | (refine And.intro (fun _ => ?_) (fun h => absurd (of_decide_eq_true ((Bool.not_eq_false' _).mp h)) (by first | (intro h2; exact absurd rfl h2) | omega | decide)); conv => whnf) | (refine And.intro (fun h => absurd (by first | rfl | assumption | omega | decide) (of_decide_eq_false ((Bool.not_eq_true' _).mp h))) (fun _ => ?_); conv => whnf) | fail) | fail)
      rw [ext_ext, hsz, show min (j + (f + 1)) s.size = s.size by omega]
      exact ⟨f, _, by omega, ⟨j + 1, by omega, (tlN_z (by omega)).symm.trans htr, rfl, hp⟩, sub_cons rfl (sub_cons rfl sub_nil)⟩
    · have hz := of_decide_eq_false hz
      conv => whnf
      repeat (first | (refine VSeq.mk fun Kq hKq => ?_; conv => whnf) | (refine hKq _ _ _ (.refl _) ?_; clear hKq Kq; conv => whnf) | (clear hKq Kq; refine hKq _ _ _ (.refl _) ?_; clear hKq Kq; conv => whnf) | (clear hKq Kq; clear hKq Kq; refine hKq _ _ _ (.refl _) ?_; clear hKq Kq; conv => whnf) | (clear hKq Kq; clear hKq Kq; clear hKq Kq; refine hKq _ _ _ (.refl _) ?_; clear hKq Kq; conv => whnf) | (clear hKq Kq; clear hKq Kq; clear hKq Kq; clear hKq Kq; refine hKq _ _ _ (.refl _) ?_; clear hKq Kq; conv => whnf) | (clear hKq Kq; clear hKq Kq; clear hKq Kq; clear hKq Kq; clear hKq Kq; refine hKq _ _ _ (.refl _) ?_; clear hKq Kq; conv => whnf) | (refine Or.inl (And.intro (by omega) ?_); conv => whnf) | (refine And.intro (by omega) ?_; conv => whnf))
      repeat (first | (refine VSeq.mk fun Kq hKq => ?_; conv => whnf) | (refine hKq _ _ _ (.refl _) ?_; clear hKq Kq; conv => whnf) | (clear hKq Kq; refine hKq _ _ _ (.refl _) ?_; clear hKq Kq; conv => whnf) | (clear hKq Kq; clear hKq Kq; refine hKq _ _ _ (.refl _) ?_; clear hKq Kq; conv => whnf) | (clear hKq Kq; clear hKq Kq; clear hKq Kq; refine hKq _ _ _ (.refl _) ?_; clear hKq Kq; conv => whnf) | ((with_reducible show ∃ v w1, Sem.run _ (Instr.box _ _) _ = Result.ok v w1 ∧ _); first | (refine hp.kboxA fun q w hp hx => ?_; conv => whnf) | (refine hp.kbox1 rfl fun q w hp hx => ?_; conv => whnf) | fail) | ((with_reducible show ∀ w1, Ext _ w1 → _); first | (intro w hx; try (have hp := hp.call hx); conv => whnf) | fail) | ((with_reducible show ∃ v, Sem.run _ (loadVar _ _) _ = Result.ok v _ ∧ _); first | (refine ⟨_, Blk.lv (hp.get (i := 0) rfl) TTok rfl rfl, ?_⟩; conv => whnf) | (refine ⟨_, Blk.lv (hp.get (i := 1) rfl) TTok rfl rfl, ?_⟩; conv => whnf) | (refine ⟨_, Blk.lv (hp.get (i := 2) rfl) TTok rfl rfl, ?_⟩; conv => whnf) | (refine ⟨_, Blk.lv (hp.get (i := 3) rfl) TTok rfl rfl, ?_⟩; conv => whnf) | (refine ⟨_, Blk.lv (hp.get (i := 4) rfl) TTok rfl rfl, ?_⟩; conv => whnf) | (refine ⟨_, Blk.lv (hp.get (i := 5) rfl) TTok rfl rfl, ?_⟩; conv => whnf) | (refine ⟨_, Blk.lv (hp.get (i := 6) rfl) TTok rfl rfl, ?_⟩; conv => whnf) | (refine ⟨_, Blk.lv (hp.get (i := 7) rfl) TTok rfl rfl, ?_⟩; conv => whnf) | (refine ⟨_, Blk.lvN (hp.get (i := 0) rfl) TTok rfl rfl, ?_⟩; conv => whnf) | (refine ⟨_, Blk.lvN (hp.get (i := 1) rfl) TTok rfl rfl, ?_⟩; conv => whnf) | (refine ⟨_, Blk.lvN (hp.get (i := 2) rfl) TTok rfl rfl, ?_⟩; conv => whnf) | (refine ⟨_, Blk.lvN (hp.get (i := 3) rfl) TTok rfl rfl, ?_⟩; conv => whnf) | (refine ⟨_, Blk.lvN (hp.get (i := 4) rfl) TTok rfl rfl, ?_⟩; conv => whnf) | (refine ⟨_, Blk.lvN (hp.get (i := 5) rfl) TTok rfl rfl, ?_⟩; conv => whnf) | (refine ⟨_, Blk.lvN (hp.get (i := 6) rfl) TTok rfl rfl, ?_⟩; conv => whnf) | (refine ⟨_, Blk.lvN (hp.get (i := 7) rfl) TTok rfl rfl, ?_⟩; conv => whnf) | fail) | ((with_reducible show ∃ m : Nat, (_ ∧ _) ∧ _); first | (refine ⟨_, ⟨rfl, by omega⟩, ?_⟩; conv => whnf) | (refine ⟨0, ⟨rfl, by decide⟩, ?_⟩; conv => whnf) | (refine ⟨1, ⟨rfl, by decide⟩, ?_⟩; conv => whnf) | (refine ⟨2, ⟨rfl, by decide⟩, ?_⟩; conv => whnf) | fail) | ((with_reducible show ∃ m n : Nat, (_ ∧ _) ∧ _); first | (refine ⟨_, _, ⟨rfl, rfl, by omega, by omega⟩, ?_⟩; conv => whnf) | fail) | ((with_reducible show ∃ m n r : Nat, (_ ∧ _) ∧ _); first | (refine ⟨_, _, _, ⟨rfl, rfl, by decide, by decide⟩, rfl, ?_⟩; conv => whnf) | fail) | ((with_reducible show _ ∨ _); first | (refine Or.inl (And.intro (by first | omega | decide) ?_); conv => whnf) | fail) | (with_reducible refine And.intro hx ?_; conv => whnf) | (refine And.intro (by first | omega | decide) ?_; conv => whnf) | ((with_reducible show (true = true → _) ∧ (true = false → _)); first | (refine And.intro (fun _ => ?_) (fun h => absurd h (by decide)); conv => whnf) | fail) | ((with_reducible show ((!false) = true → _) ∧ ((!false) = false → _)); first | (refine And.intro (fun _ => ?_) (fun h => absurd h (by decide)); conv => whnf) | fail) | ((with_reducible show (false = true → _) ∧ (false = false → _)); first | (refine And.intro (fun h => absurd h (by decide)) (fun _ => ?_); conv => whnf) | fail) | ((with_reducible show ((!true) = true → _) ∧ ((!true) = false → _)); first | (refine And.intro (fun h => absurd h (by decide)) (fun _ => ?_); conv => whnf) | fail) | ((with_reducible show (decide _ = true → _) ∧ (decide _ = false → _)); first | (refine And.intro (fun _ => ?_) (fun h => absurd (by first | rfl | assumption | omega | decide) (of_decide_eq_false h)); conv => whnf) | (refine And.intro (fun h => absurd (of_decide_eq_true h) (by first | (intro h2; exact absurd rfl h2) | omega | decide)) (fun _ => ?_); conv => whnf) | fail) | ((with_reducible show ((!(decide _)) = true → _) ∧ ((!(decide _)) = false → _)); first | (refine And.intro (fun _ => ?_) (fun h => absurd (of_decide_eq_true ((Bool.not_eq_false' _).mp h)) (by first | (intro h2; exact absurd rfl h2) | omega | decide)); conv => whnf) | (refine And.intro (fun h => absurd (by first | rfl | assumption | omega | decide) (of_decide_eq_false ((Bool.not_eq_true' _).mp h))) (fun _ => ?_); conv => whnf) | fail) | fail)
      rw [← htr, tlN_nz (by omega)]
      exact ⟨rfl, hp.ext⟩
  · have h0 := of_decide_eq_false h0
    conv => whnf
    repeat (first | (refine VSeq.mk fun Kq hKq => ?_; conv => whnf) | (refine hKq _ _ _ (.refl _) ?_; clear hKq Kq; conv => whnf) | (clear hKq Kq; refine hKq _ _ _ (.refl _) ?_; clear hKq Kq; conv => whnf) | (clear hKq Kq; clear hKq Kq; refine hKq _ _ _ (.refl _) ?_; clear hKq Kq; conv => whnf) | (clear hKq Kq; clear hKq Kq; clear hKq Kq; refine hKq _ _ _ (.refl _) ?_; clear hKq Kq; conv => whnf) | (clear hKq Kq; clear hKq Kq; clear hKq Kq; clear hKq Kq; refine hKq _ _ _ (.refl _) ?_; clear hKq Kq; conv => whnf) | (clear hKq Kq; clear hKq Kq; clear hKq Kq; clear hKq Kq; clear hKq Kq; refine hKq _ _ _ (.refl _) ?_; clear hKq Kq; conv => whnf) | (refine Or.inl (And.intro (by omega) ?_); conv => whnf) | (refine And.intro (by omega) ?_; conv => whnf))
    repeat (first | (refine VSeq.mk fun Kq hKq => ?_; conv => whnf) | (refine hKq _ _ _ (.refl _) ?_; clear hKq Kq; conv => whnf) | (clear hKq Kq; refine hKq _ _ _ (.refl _) ?_; clear hKq Kq; conv => whnf) | (clear hKq Kq; clear hKq Kq; refine hKq _ _ _ (.refl _) ?_; clear hKq Kq; conv => whnf) | (clear hKq Kq; clear hKq Kq; clear hKq Kq; refine hKq _ _ _ (.refl _) ?_; clear hKq Kq; conv => whnf) | ((with_reducible show ∃ v w1, Sem.run _ (Instr.box _ _) _ = Result.ok v w1 ∧ _); first | (refine hp.kboxA fun q w hp hx => ?_; conv => whnf) | (refine hp.kbox1 rfl fun q w hp hx => ?_; conv => whnf) | fail) | ((with_reducible show ∀ w1, Ext _ w1 → _); first | (intro w hx; try (have hp := hp.call hx); conv => whnf) | fail) | ((with_reducible show ∃ v, Sem.run _ (loadVar _ _) _ = Result.ok v _ ∧ _); first | (refine ⟨_, Blk.lv (hp.get (i := 0) rfl) TTok rfl rfl, ?_⟩; conv => whnf) | (refine ⟨_, Blk.lv (hp.get (i := 1) rfl) TTok rfl rfl, ?_⟩; conv => whnf) | (refine ⟨_, Blk.lv (hp.get (i := 2) rfl) TTok rfl rfl, ?_⟩; conv => whnf) | (refine ⟨_, Blk.lv (hp.get (i := 3) rfl) TTok rfl rfl, ?_⟩; conv => whnf) | (refine ⟨_, Blk.lv (hp.get (i := 4) rfl) TTok rfl rfl, ?_⟩; conv => whnf) | (refine ⟨_, Blk.lv (hp.get (i := 5) rfl) TTok rfl rfl, ?_⟩; conv => whnf) | (refine ⟨_, Blk.lv (hp.get (i := 6) rfl) TTok rfl rfl, ?_⟩; conv => whnf) | (refine ⟨_, Blk.lv (hp.get (i := 7) rfl) TTok rfl rfl, ?_⟩; conv => whnf) | (refine ⟨_, Blk.lvN (hp.get (i := 0) rfl) TTok rfl rfl, ?_⟩; conv => whnf) | (refine ⟨_, Blk.lvN (hp.get (i := 1) rfl) TTok rfl rfl, ?_⟩; conv => whnf) | (refine ⟨_, Blk.lvN (hp.get (i := 2) rfl) TTok rfl rfl, ?_⟩; conv => whnf) | (refine ⟨_, Blk.lvN (hp.get (i := 3) rfl) TTok rfl rfl, ?_⟩; conv => whnf) | (refine ⟨_, Blk.lvN (hp.get (i := 4) rfl) TTok rfl rfl, ?_⟩; conv => whnf) | (refine ⟨_, Blk.lvN (hp.get (i := 5) rfl) TTok rfl rfl, ?_⟩; conv => whnf) | (refine ⟨_, Blk.lvN (hp.get (i := 6) rfl) TTok rfl rfl, ?_⟩; conv => whnf) | (refine ⟨_, Blk.lvN (hp.get (i := 7) rfl) TTok rfl rfl, ?_⟩; conv => whnf) | fail) | ((with_reducible show ∃ m : Nat, (_ ∧ _) ∧ _); first | (refine ⟨_, ⟨rfl, by omega⟩, ?_⟩; conv => whnf) | (refine ⟨0, ⟨rfl, by decide⟩, ?_⟩; conv => whnf) | (refine ⟨1, ⟨rfl, by decide⟩, ?_⟩; conv => whnf) | (refine ⟨2, ⟨rfl, by decide⟩, ?_⟩; conv => whnf) | fail) | ((with_reducible show ∃ m n : Nat, (_ ∧ _) ∧ _); first | (refine ⟨_, _, ⟨rfl, rfl, by omega, by omega⟩, ?_⟩; conv => whnf) | fail) | ((with_reducible show ∃ m n r : Nat, (_ ∧ _) ∧ _); first | (refine ⟨_, _, _, ⟨rfl, rfl, by decide, by decide⟩, rfl, ?_⟩; conv => whnf) | fail) | ((with_reducible show _ ∨ _); first | (refine Or.inl (And.intro (by first | omega | decide) ?_); conv => whnf) | fail) | (with_reducible refine And.intro hx ?_; conv => whnf) | (refine And.intro (by first | omega | decide) ?_; conv => whnf) | ((with_reducible show (true = true → _) ∧ (true = false → _)); first | (refine And.intro (fun _ => ?_) (fun h => absurd h (by decide)); conv => whnf) | fail) | ((with_reducible show ((!false) = true → _) ∧ ((!false) = false → _)); first | (refine And.intro (fun _ => ?_) (fun h => absurd h (by decide)); conv => whnf) | fail) | ((with_reducible show (false = true → _) ∧ (false = false → _)); first | (refine And.intro (fun h => absurd h (by decide)) (fun _ => ?_); conv => whnf) | fail) | ((with_reducible show ((!true) = true → _) ∧ ((!true) = false → _)); first | (refine And.intro (fun h => absurd h (by decide)) (fun _ => ?_); conv => whnf) | fail) | ((with_reducible show (decide _ = true → _) ∧ (decide _ = false → _)); first | (refine And.intro (fun _ => ?_) (fun h => absurd (by first | rfl | assumption | omega | decide) (of_decide_eq_false h)); conv => whnf) | (refine And.intro (fun h => absurd (of_decide_eq_true h) (by first | (intro h2; exact absurd rfl h2) | omega | decide)) (fun _ => ?_); conv => whnf) | fail) | ((with_reducible show ((!(decide _)) = true → _) ∧ ((!(decide _)) = false → _)); first | (refine And.intro (fun _ => ?_) (fun h => absurd (of_decide_eq_true ((Bool.not_eq_false' _).mp h)) (by first | (intro h2; exact absurd rfl h2) | omega | decide)); conv => whnf) | (refine And.intro (fun h => absurd (by first | rfl | assumption | omega | decide) (of_decide_eq_false ((Bool.not_eq_true' _).mp h))) (fun _ => ?_); conv => whnf) | fail) | fail)
    obtain rfl : mm = 0 := by omega
    rw [← htr]
    exact ⟨rfl, hp.ext⟩
def trimB (s : ByteArray) : ByteArray := (s.extract 0 (trN s s.size)).extract (tlN (s.extract 0 (trN s s.size)) (s.extract 0 (trN s s.size)).size 0) (s.extract 0 (trN s s.size)).size
theorem Trim_p (s : ByteArray) (hs : s.size ≤ 100000) : PureF Tryz.prog 122 #[.string s, .string ⟨#[0]⟩] (.string (trimB s)) := by
  have hr : (s.extract 0 (trN s s.size)).size ≤ 100000 := by rw [ByteArray.size_extract]; have := trN_le s s.size; omega
  first | refine v_pure TTok FFok Tryz.func122 rfl rfl fun w0 => ?_ | refine v_pure (args := []) TTok FFok Tryz.func122 rfl rfl fun w0 => ?_
  conv => whnf
  repeat (first | (refine VSeq.mk fun Kq hKq => ?_; conv => whnf) | (refine hKq _ _ _ (.refl _) ?_; clear hKq Kq; conv => whnf) | (clear hKq Kq; refine hKq _ _ _ (.refl _) ?_; clear hKq Kq; conv => whnf) | (clear hKq Kq; clear hKq Kq; refine hKq _ _ _ (.refl _) ?_; clear hKq Kq; conv => whnf) | (clear hKq Kq; clear hKq Kq; clear hKq Kq; refine hKq _ _ _ (.refl _) ?_; clear hKq Kq; conv => whnf) | (clear hKq Kq; clear hKq Kq; clear hKq Kq; clear hKq Kq; refine hKq _ _ _ (.refl _) ?_; clear hKq Kq; conv => whnf) | (clear hKq Kq; clear hKq Kq; clear hKq Kq; clear hKq Kq; clear hKq Kq; refine hKq _ _ _ (.refl _) ?_; clear hKq Kq; conv => whnf) | (refine Or.inl (And.intro (by omega) ?_); conv => whnf) | (refine And.intro (by omega) ?_; conv => whnf))
  have hp := Hp.nil w0
  refine ⟨fun he => ?_, fun he => ?_⟩
  · have he := of_decide_eq_true he
    conv => whnf
    repeat (first | (refine VSeq.mk fun Kq hKq => ?_; conv => whnf) | (refine hKq _ _ _ (.refl _) ?_; clear hKq Kq; conv => whnf) | (clear hKq Kq; refine hKq _ _ _ (.refl _) ?_; clear hKq Kq; conv => whnf) | (clear hKq Kq; clear hKq Kq; refine hKq _ _ _ (.refl _) ?_; clear hKq Kq; conv => whnf) | (clear hKq Kq; clear hKq Kq; clear hKq Kq; refine hKq _ _ _ (.refl _) ?_; clear hKq Kq; conv => whnf) | (clear hKq Kq; clear hKq Kq; clear hKq Kq; clear hKq Kq; refine hKq _ _ _ (.refl _) ?_; clear hKq Kq; conv => whnf) | (clear hKq Kq; clear hKq Kq; clear hKq Kq; clear hKq Kq; clear hKq Kq; refine hKq _ _ _ (.refl _) ?_; clear hKq Kq; conv => whnf) | (refine Or.inl (And.intro (by omega) ?_); conv => whnf) | (refine And.intro (by omega) ?_; conv => whnf))
    subst he
    repeat (first | (refine VSeq.mk fun Kq hKq => ?_; conv => whnf) | (refine hKq _ _ _ (.refl _) ?_; clear hKq Kq; conv => whnf) | (clear hKq Kq; refine hKq _ _ _ (.refl _) ?_; clear hKq Kq; conv => whnf) | (clear hKq Kq; clear hKq Kq; refine hKq _ _ _ (.refl _) ?_; clear hKq Kq; conv => whnf) | (clear hKq Kq; clear hKq Kq; clear hKq Kq; refine hKq _ _ _ (.refl _) ?_; clear hKq Kq; conv => whnf) | ((with_reducible show ∃ v w1, Sem.run _ (Instr.box _ _) _ = Result.ok v w1 ∧ _); first | (refine hp.kboxA fun q w hp hx => ?_; conv => whnf) | (refine hp.kbox1 rfl fun q w hp hx => ?_; conv => whnf) | fail) | ((with_reducible show ∃ v w1, Sem.run _ (Instr.alloc 222 _ _) _ = Result.ok v w1 ∧ _); first | (refine hp.kalloc z222 fun al222 w hp hx => ?_; conv => whnf) | fail) | ((with_reducible show ∃ v w1, Sem.run _ (bind (Instr.storeAt 222 _ _) _) _ = Result.ok v w1 ∧ _); first | (refine hp.kstA TTok rfl 0 rfl rfl (oneC_of rfl) (by rfl) fun w hp => ?_; try simp only [List.set_cons_zero, List.set_cons_succ, EV.val] at hp; conv => whnf) | (refine hp.kstA TTok rfl 1 rfl rfl (oneC_of rfl) (by rfl) fun w hp => ?_; try simp only [List.set_cons_zero, List.set_cons_succ, EV.val] at hp; conv => whnf) | (refine hp.kstA TTok rfl 2 rfl rfl (oneC_of rfl) (by rfl) fun w hp => ?_; try simp only [List.set_cons_zero, List.set_cons_succ, EV.val] at hp; conv => whnf) | (refine hp.kstA TTok rfl 3 rfl rfl (oneC_of rfl) (by rfl) fun w hp => ?_; try simp only [List.set_cons_zero, List.set_cons_succ, EV.val] at hp; conv => whnf) | (refine hp.kstA TTok rfl 4 rfl rfl (oneC_of rfl) (by rfl) fun w hp => ?_; try simp only [List.set_cons_zero, List.set_cons_succ, EV.val] at hp; conv => whnf) | (refine hp.kstA TTok rfl 5 rfl rfl (oneC_of rfl) (by rfl) fun w hp => ?_; try simp only [List.set_cons_zero, List.set_cons_succ, EV.val] at hp; conv => whnf) | (refine hp.kstA TTok rfl 6 rfl rfl (oneC_of rfl) (by rfl) fun w hp => ?_; try simp only [List.set_cons_zero, List.set_cons_succ, EV.val] at hp; conv => whnf) | (refine hp.kstA TTok rfl 7 rfl rfl (oneC_of rfl) (by rfl) fun w hp => ?_; try simp only [List.set_cons_zero, List.set_cons_succ, EV.val] at hp; conv => whnf) | fail) | ((with_reducible show ∀ w1, Ext _ w1 → _); first | (intro w hx; try (have hp := hp.call hx); conv => whnf) | fail) | ((with_reducible show ∃ v, Sem.run _ (loadVar _ _) _ = Result.ok v _ ∧ _); first | (refine ⟨_, Blk.lv (hp.get (i := 0) rfl) TTok rfl rfl, ?_⟩; conv => whnf) | (refine ⟨_, Blk.lv (hp.get (i := 1) rfl) TTok rfl rfl, ?_⟩; conv => whnf) | (refine ⟨_, Blk.lv (hp.get (i := 2) rfl) TTok rfl rfl, ?_⟩; conv => whnf) | (refine ⟨_, Blk.lv (hp.get (i := 3) rfl) TTok rfl rfl, ?_⟩; conv => whnf) | (refine ⟨_, Blk.lv (hp.get (i := 4) rfl) TTok rfl rfl, ?_⟩; conv => whnf) | (refine ⟨_, Blk.lv (hp.get (i := 5) rfl) TTok rfl rfl, ?_⟩; conv => whnf) | (refine ⟨_, Blk.lv (hp.get (i := 6) rfl) TTok rfl rfl, ?_⟩; conv => whnf) | (refine ⟨_, Blk.lv (hp.get (i := 7) rfl) TTok rfl rfl, ?_⟩; conv => whnf) | (refine ⟨_, Blk.lvN (hp.get (i := 0) rfl) TTok rfl rfl, ?_⟩; conv => whnf) | (refine ⟨_, Blk.lvN (hp.get (i := 1) rfl) TTok rfl rfl, ?_⟩; conv => whnf) | (refine ⟨_, Blk.lvN (hp.get (i := 2) rfl) TTok rfl rfl, ?_⟩; conv => whnf) | (refine ⟨_, Blk.lvN (hp.get (i := 3) rfl) TTok rfl rfl, ?_⟩; conv => whnf) | (refine ⟨_, Blk.lvN (hp.get (i := 4) rfl) TTok rfl rfl, ?_⟩; conv => whnf) | (refine ⟨_, Blk.lvN (hp.get (i := 5) rfl) TTok rfl rfl, ?_⟩; conv => whnf) | (refine ⟨_, Blk.lvN (hp.get (i := 6) rfl) TTok rfl rfl, ?_⟩; conv => whnf) | (refine ⟨_, Blk.lvN (hp.get (i := 7) rfl) TTok rfl rfl, ?_⟩; conv => whnf) | fail) | ((with_reducible show ∃ m : Nat, (_ ∧ _) ∧ _); first | (refine ⟨_, ⟨rfl, by omega⟩, ?_⟩; conv => whnf) | (refine ⟨0, ⟨rfl, by decide⟩, ?_⟩; conv => whnf) | (refine ⟨1, ⟨rfl, by decide⟩, ?_⟩; conv => whnf) | (refine ⟨2, ⟨rfl, by decide⟩, ?_⟩; conv => whnf) | fail) | ((with_reducible show ∃ m n : Nat, (_ ∧ _) ∧ _); first | (refine ⟨_, _, ⟨rfl, rfl, by omega, by omega⟩, ?_⟩; conv => whnf) | fail) | ((with_reducible show ∃ m n r : Nat, (_ ∧ _) ∧ _); first | (refine ⟨_, _, _, ⟨rfl, rfl, by decide, by decide⟩, rfl, ?_⟩; conv => whnf) | fail) | ((with_reducible show ∀ (cs : List Frame), _); first | (refine V.CallW.out ?_; (conv => arg 3; dsimp only [EV.val, List.toList_toArray, List.nil_append, List.append_nil, List.cons_append]); first | ((with_reducible show V.CallW _ 145 _ _ _); first | ((with_reducible refine V.PureF.useW (trL_p _ (by first | assumption | omega)) fun w hx => ?_); try (have hp := hp.call hx); conv => whnf) | (refine V.PureF.useW (trL_p _ (by first | assumption | omega)) fun w hx => ?_; try (have hp := hp.call hx); conv => whnf) | fail) | ((with_reducible show V.CallW _ 146 _ _ _); first | ((with_reducible refine V.PureF.useW (trR_p _ (by first | assumption | omega)) fun w hx => ?_); try (have hp := hp.call hx); conv => whnf) | (refine V.PureF.useW (trR_p _ (by first | assumption | omega)) fun w hx => ?_; try (have hp := hp.call hx); conv => whnf) | fail) | fail) | fail) | ((with_reducible show ∃ v, (∀ w1, _ → Calls _ _ _ _ _) ∧ _); first | (refine V.QCallW.out ?_; (conv => arg 3; dsimp only [EV.val, List.toList_toArray, List.nil_append, List.append_nil, List.cons_append]); first | ((with_reducible show V.QCallW _ 145 _ _ _); first | ((with_reducible refine V.PureF.quietW (trL_p _ (by first | assumption | omega)) ?_); conv => whnf) | (refine V.PureF.quietW (trL_p _ (by first | assumption | omega)) ?_; conv => whnf) | fail) | ((with_reducible show V.QCallW _ 146 _ _ _); first | ((with_reducible refine V.PureF.quietW (trR_p _ (by first | assumption | omega)) ?_); conv => whnf) | (refine V.PureF.quietW (trR_p _ (by first | assumption | omega)) ?_; conv => whnf) | fail) | fail) | fail) | ((with_reducible show _ ∨ _); first | (refine Or.inl (And.intro (by first | omega | decide) ?_); conv => whnf) | fail) | (with_reducible refine And.intro hx ?_; conv => whnf) | (refine And.intro (by first | omega | decide) ?_; conv => whnf) | ((with_reducible show (true = true → _) ∧ (true = false → _)); first | (refine And.intro (fun _ => ?_) (fun h => absurd h (by decide)); conv => whnf) | fail) | ((with_reducible show ((!false) = true → _) ∧ ((!false) = false → _)); first | (refine And.intro (fun _ => ?_) (fun h => absurd h (by decide)); conv => whnf) | fail) | ((with_reducible show (false = true → _) ∧ (false = false → _)); first | (refine And.intro (fun h => absurd h (by decide)) (fun _ => ?_); conv => whnf) | fail) | ((with_reducible show ((!true) = true → _) ∧ ((!true) = false → _)); first | (refine And.intro (fun h => absurd h (by decide)) (fun _ => ?_); conv => whnf) | fail) | ((with_reducible show (decide _ = true → _) ∧ (decide _ = false → _)); first | (refine And.intro (fun _ => ?_) (fun h => absurd (by first | rfl | assumption | omega | decide) (of_decide_eq_false h)); conv => whnf) | (refine And.intro (fun h => absurd (of_decide_eq_true h) (by first | (intro h2; exact absurd rfl h2) | omega | decide)) (fun _ => ?_); conv => whnf) | fail) | ((with_reducible show ((!(decide _)) = true → _) ∧ ((!(decide _)) = false → _)); first | (refine And.intro (fun _ => ?_) (fun h => absurd (of_decide_eq_true ((Bool.not_eq_false' _).mp h)) (by first | (intro h2; exact absurd rfl h2) | omega | decide)); conv => whnf) | (refine And.intro (fun h => absurd (by first | rfl | assumption | omega | decide) (of_decide_eq_false ((Bool.not_eq_true' _).mp h))) (fun _ => ?_); conv => whnf) | fail) | fail)
    exact ⟨rfl, hp.ext⟩
  · have he := of_decide_eq_false he
    conv => whnf
    repeat (first | (refine VSeq.mk fun Kq hKq => ?_; conv => whnf) | (refine hKq _ _ _ (.refl _) ?_; clear hKq Kq; conv => whnf) | (clear hKq Kq; refine hKq _ _ _ (.refl _) ?_; clear hKq Kq; conv => whnf) | (clear hKq Kq; clear hKq Kq; refine hKq _ _ _ (.refl _) ?_; clear hKq Kq; conv => whnf) | (clear hKq Kq; clear hKq Kq; clear hKq Kq; refine hKq _ _ _ (.refl _) ?_; clear hKq Kq; conv => whnf) | (clear hKq Kq; clear hKq Kq; clear hKq Kq; clear hKq Kq; refine hKq _ _ _ (.refl _) ?_; clear hKq Kq; conv => whnf) | (clear hKq Kq; clear hKq Kq; clear hKq Kq; clear hKq Kq; clear hKq Kq; refine hKq _ _ _ (.refl _) ?_; clear hKq Kq; conv => whnf) | (refine Or.inl (And.intro (by omega) ?_); conv => whnf) | (refine And.intro (by omega) ?_; conv => whnf))
    refine And.intro (fun h => absurd (of_decide_eq_true h) ((fun e => by cases e))) (fun _ => ?_)
    conv => whnf
    repeat (first | (refine VSeq.mk fun Kq hKq => ?_; conv => whnf) | (refine hKq _ _ _ (.refl _) ?_; clear hKq Kq; conv => whnf) | (clear hKq Kq; refine hKq _ _ _ (.refl _) ?_; clear hKq Kq; conv => whnf) | (clear hKq Kq; clear hKq Kq; refine hKq _ _ _ (.refl _) ?_; clear hKq Kq; conv => whnf) | (clear hKq Kq; clear hKq Kq; clear hKq Kq; refine hKq _ _ _ (.refl _) ?_; clear hKq Kq; conv => whnf) | (clear hKq Kq; clear hKq Kq; clear hKq Kq; clear hKq Kq; refine hKq _ _ _ (.refl _) ?_; clear hKq Kq; conv => whnf) | (clear hKq Kq; clear hKq Kq; clear hKq Kq; clear hKq Kq; clear hKq Kq; refine hKq _ _ _ (.refl _) ?_; clear hKq Kq; conv => whnf) | (refine Or.inl (And.intro (by omega) ?_); conv => whnf) | (refine And.intro (by omega) ?_; conv => whnf))
    repeat (first | (refine VSeq.mk fun Kq hKq => ?_; conv => whnf) | (refine hKq _ _ _ (.refl _) ?_; clear hKq Kq; conv => whnf) | (clear hKq Kq; refine hKq _ _ _ (.refl _) ?_; clear hKq Kq; conv => whnf) | (clear hKq Kq; clear hKq Kq; refine hKq _ _ _ (.refl _) ?_; clear hKq Kq; conv => whnf) | (clear hKq Kq; clear hKq Kq; clear hKq Kq; refine hKq _ _ _ (.refl _) ?_; clear hKq Kq; conv => whnf) | ((with_reducible show ∃ v w1, Sem.run _ (Instr.box _ _) _ = Result.ok v w1 ∧ _); first | (refine hp.kboxA fun q w hp hx => ?_; conv => whnf) | (refine hp.kbox1 rfl fun q w hp hx => ?_; conv => whnf) | fail) | ((with_reducible show ∃ v w1, Sem.run _ (Instr.alloc 222 _ _) _ = Result.ok v w1 ∧ _); first | (refine hp.kalloc z222 fun al222 w hp hx => ?_; conv => whnf) | fail) | ((with_reducible show ∃ v w1, Sem.run _ (bind (Instr.storeAt 222 _ _) _) _ = Result.ok v w1 ∧ _); first | (refine hp.kstA TTok rfl 0 rfl rfl (oneC_of rfl) (by rfl) fun w hp => ?_; try simp only [List.set_cons_zero, List.set_cons_succ, EV.val] at hp; conv => whnf) | (refine hp.kstA TTok rfl 1 rfl rfl (oneC_of rfl) (by rfl) fun w hp => ?_; try simp only [List.set_cons_zero, List.set_cons_succ, EV.val] at hp; conv => whnf) | (refine hp.kstA TTok rfl 2 rfl rfl (oneC_of rfl) (by rfl) fun w hp => ?_; try simp only [List.set_cons_zero, List.set_cons_succ, EV.val] at hp; conv => whnf) | (refine hp.kstA TTok rfl 3 rfl rfl (oneC_of rfl) (by rfl) fun w hp => ?_; try simp only [List.set_cons_zero, List.set_cons_succ, EV.val] at hp; conv => whnf) | (refine hp.kstA TTok rfl 4 rfl rfl (oneC_of rfl) (by rfl) fun w hp => ?_; try simp only [List.set_cons_zero, List.set_cons_succ, EV.val] at hp; conv => whnf) | (refine hp.kstA TTok rfl 5 rfl rfl (oneC_of rfl) (by rfl) fun w hp => ?_; try simp only [List.set_cons_zero, List.set_cons_succ, EV.val] at hp; conv => whnf) | (refine hp.kstA TTok rfl 6 rfl rfl (oneC_of rfl) (by rfl) fun w hp => ?_; try simp only [List.set_cons_zero, List.set_cons_succ, EV.val] at hp; conv => whnf) | (refine hp.kstA TTok rfl 7 rfl rfl (oneC_of rfl) (by rfl) fun w hp => ?_; try simp only [List.set_cons_zero, List.set_cons_succ, EV.val] at hp; conv => whnf) | fail) | ((with_reducible show ∀ w1, Ext _ w1 → _); first | (intro w hx; try (have hp := hp.call hx); conv => whnf) | fail) | ((with_reducible show ∃ v, Sem.run _ (loadVar _ _) _ = Result.ok v _ ∧ _); first | (refine ⟨_, Blk.lv (hp.get (i := 0) rfl) TTok rfl rfl, ?_⟩; conv => whnf) | (refine ⟨_, Blk.lv (hp.get (i := 1) rfl) TTok rfl rfl, ?_⟩; conv => whnf) | (refine ⟨_, Blk.lv (hp.get (i := 2) rfl) TTok rfl rfl, ?_⟩; conv => whnf) | (refine ⟨_, Blk.lv (hp.get (i := 3) rfl) TTok rfl rfl, ?_⟩; conv => whnf) | (refine ⟨_, Blk.lv (hp.get (i := 4) rfl) TTok rfl rfl, ?_⟩; conv => whnf) | (refine ⟨_, Blk.lv (hp.get (i := 5) rfl) TTok rfl rfl, ?_⟩; conv => whnf) | (refine ⟨_, Blk.lv (hp.get (i := 6) rfl) TTok rfl rfl, ?_⟩; conv => whnf) | (refine ⟨_, Blk.lv (hp.get (i := 7) rfl) TTok rfl rfl, ?_⟩; conv => whnf) | (refine ⟨_, Blk.lvN (hp.get (i := 0) rfl) TTok rfl rfl, ?_⟩; conv => whnf) | (refine ⟨_, Blk.lvN (hp.get (i := 1) rfl) TTok rfl rfl, ?_⟩; conv => whnf) | (refine ⟨_, Blk.lvN (hp.get (i := 2) rfl) TTok rfl rfl, ?_⟩; conv => whnf) | (refine ⟨_, Blk.lvN (hp.get (i := 3) rfl) TTok rfl rfl, ?_⟩; conv => whnf) | (refine ⟨_, Blk.lvN (hp.get (i := 4) rfl) TTok rfl rfl, ?_⟩; conv => whnf) | (refine ⟨_, Blk.lvN (hp.get (i := 5) rfl) TTok rfl rfl, ?_⟩; conv => whnf) | (refine ⟨_, Blk.lvN (hp.get (i := 6) rfl) TTok rfl rfl, ?_⟩; conv => whnf) | (refine ⟨_, Blk.lvN (hp.get (i := 7) rfl) TTok rfl rfl, ?_⟩; conv => whnf) | fail) | ((with_reducible show ∃ m : Nat, (_ ∧ _) ∧ _); first | (refine ⟨_, ⟨rfl, by omega⟩, ?_⟩; conv => whnf) | (refine ⟨0, ⟨rfl, by decide⟩, ?_⟩; conv => whnf) | (refine ⟨1, ⟨rfl, by decide⟩, ?_⟩; conv => whnf) | (refine ⟨2, ⟨rfl, by decide⟩, ?_⟩; conv => whnf) | fail) | ((with_reducible show ∃ m n : Nat, (_ ∧ _) ∧ _); first | (refine ⟨_, _, ⟨rfl, rfl, by omega, by omega⟩, ?_⟩; conv => whnf) | fail) | ((with_reducible show ∃ m n r : Nat, (_ ∧ _) ∧ _); first | (refine ⟨_, _, _, ⟨rfl, rfl, by decide, by decide⟩, rfl, ?_⟩; conv => whnf) | fail) | ((with_reducible show ∀ (cs : List Frame), _); first | (refine V.CallW.out ?_; (conv => arg 3; dsimp only [EV.val, List.toList_toArray, List.nil_append, List.append_nil, List.cons_append]); first | ((with_reducible show V.CallW _ 145 _ _ _); first | ((with_reducible refine V.PureF.useW (trL_p _ (by first | assumption | omega)) fun w hx => ?_); try (have hp := hp.call hx); conv => whnf) | (refine V.PureF.useW (trL_p _ (by first | assumption | omega)) fun w hx => ?_; try (have hp := hp.call hx); conv => whnf) | fail) | ((with_reducible show V.CallW _ 146 _ _ _); first | ((with_reducible refine V.PureF.useW (trR_p _ (by first | assumption | omega)) fun w hx => ?_); try (have hp := hp.call hx); conv => whnf) | (refine V.PureF.useW (trR_p _ (by first | assumption | omega)) fun w hx => ?_; try (have hp := hp.call hx); conv => whnf) | fail) | fail) | fail) | ((with_reducible show ∃ v, (∀ w1, _ → Calls _ _ _ _ _) ∧ _); first | (refine V.QCallW.out ?_; (conv => arg 3; dsimp only [EV.val, List.toList_toArray, List.nil_append, List.append_nil, List.cons_append]); first | ((with_reducible show V.QCallW _ 145 _ _ _); first | ((with_reducible refine V.PureF.quietW (trL_p _ (by first | assumption | omega)) ?_); conv => whnf) | (refine V.PureF.quietW (trL_p _ (by first | assumption | omega)) ?_; conv => whnf) | fail) | ((with_reducible show V.QCallW _ 146 _ _ _); first | ((with_reducible refine V.PureF.quietW (trR_p _ (by first | assumption | omega)) ?_); conv => whnf) | (refine V.PureF.quietW (trR_p _ (by first | assumption | omega)) ?_; conv => whnf) | fail) | fail) | fail) | ((with_reducible show _ ∨ _); first | (refine Or.inl (And.intro (by first | omega | decide) ?_); conv => whnf) | fail) | (with_reducible refine And.intro hx ?_; conv => whnf) | (refine And.intro (by first | omega | decide) ?_; conv => whnf) | ((with_reducible show (true = true → _) ∧ (true = false → _)); first | (refine And.intro (fun _ => ?_) (fun h => absurd h (by decide)); conv => whnf) | fail) | ((with_reducible show ((!false) = true → _) ∧ ((!false) = false → _)); first | (refine And.intro (fun _ => ?_) (fun h => absurd h (by decide)); conv => whnf) | fail) | ((with_reducible show (false = true → _) ∧ (false = false → _)); first | (refine And.intro (fun h => absurd h (by decide)) (fun _ => ?_); conv => whnf) | fail) | ((with_reducible show ((!true) = true → _) ∧ ((!true) = false → _)); first | (refine And.intro (fun h => absurd h (by decide)) (fun _ => ?_); conv => whnf) | fail) | ((with_reducible show (decide _ = true → _) ∧ (decide _ = false → _)); first | (refine And.intro (fun _ => ?_) (fun h => absurd (by first | rfl | assumption | omega | decide) (of_decide_eq_false h)); conv => whnf) | (refine And.intro (fun h => absurd (of_decide_eq_true h) (by first | (intro h2; exact absurd rfl h2) | omega | decide)) (fun _ => ?_); conv => whnf) | fail) | ((with_reducible show ((!(decide _)) = true → _) ∧ ((!(decide _)) = false → _)); first | (refine And.intro (fun _ => ?_) (fun h => absurd (of_decide_eq_true ((Bool.not_eq_false' _).mp h)) (by first | (intro h2; exact absurd rfl h2) | omega | decide)); conv => whnf) | (refine And.intro (fun h => absurd (by first | rfl | assumption | omega | decide) (of_decide_eq_false ((Bool.not_eq_true' _).mp h))) (fun _ => ?_); conv => whnf) | fail) | fail)
    refine v_mixA TTok FFok mixed [(0, false), (1, false), (2, false), (3, false), (4, false), (5, false), (6, false), (7, false)] (by kernel_rfl) ?_
    conv => whnf
    repeat (first | (refine VSeq.mk fun Kq hKq => ?_; conv => whnf) | (refine hKq _ _ _ (.refl _) ?_; clear hKq Kq; conv => whnf) | (clear hKq Kq; refine hKq _ _ _ (.refl _) ?_; clear hKq Kq; conv => whnf) | (clear hKq Kq; clear hKq Kq; refine hKq _ _ _ (.refl _) ?_; clear hKq Kq; conv => whnf) | (clear hKq Kq; clear hKq Kq; clear hKq Kq; refine hKq _ _ _ (.refl _) ?_; clear hKq Kq; conv => whnf) | (clear hKq Kq; clear hKq Kq; clear hKq Kq; clear hKq Kq; refine hKq _ _ _ (.refl _) ?_; clear hKq Kq; conv => whnf) | (clear hKq Kq; clear hKq Kq; clear hKq Kq; clear hKq Kq; clear hKq Kq; refine hKq _ _ _ (.refl _) ?_; clear hKq Kq; conv => whnf) | (refine Or.inl (And.intro (by omega) ?_); conv => whnf) | (refine And.intro (by omega) ?_; conv => whnf))
    repeat (first | (refine VSeq.mk fun Kq hKq => ?_; conv => whnf) | (refine hKq _ _ _ (.refl _) ?_; clear hKq Kq; conv => whnf) | (clear hKq Kq; refine hKq _ _ _ (.refl _) ?_; clear hKq Kq; conv => whnf) | (clear hKq Kq; clear hKq Kq; refine hKq _ _ _ (.refl _) ?_; clear hKq Kq; conv => whnf) | (clear hKq Kq; clear hKq Kq; clear hKq Kq; refine hKq _ _ _ (.refl _) ?_; clear hKq Kq; conv => whnf) | ((with_reducible show ∃ v w1, Sem.run _ (Instr.box _ _) _ = Result.ok v w1 ∧ _); first | (refine hp.kboxA fun q w hp hx => ?_; conv => whnf) | (refine hp.kbox1 rfl fun q w hp hx => ?_; conv => whnf) | fail) | ((with_reducible show ∃ v w1, Sem.run _ (Instr.alloc 222 _ _) _ = Result.ok v w1 ∧ _); first | (refine hp.kalloc z222 fun al222 w hp hx => ?_; conv => whnf) | fail) | ((with_reducible show ∃ v w1, Sem.run _ (bind (Instr.storeAt 222 _ _) _) _ = Result.ok v w1 ∧ _); first | (refine hp.kstA TTok rfl 0 rfl rfl (oneC_of rfl) (by rfl) fun w hp => ?_; try simp only [List.set_cons_zero, List.set_cons_succ, EV.val] at hp; conv => whnf) | (refine hp.kstA TTok rfl 1 rfl rfl (oneC_of rfl) (by rfl) fun w hp => ?_; try simp only [List.set_cons_zero, List.set_cons_succ, EV.val] at hp; conv => whnf) | (refine hp.kstA TTok rfl 2 rfl rfl (oneC_of rfl) (by rfl) fun w hp => ?_; try simp only [List.set_cons_zero, List.set_cons_succ, EV.val] at hp; conv => whnf) | (refine hp.kstA TTok rfl 3 rfl rfl (oneC_of rfl) (by rfl) fun w hp => ?_; try simp only [List.set_cons_zero, List.set_cons_succ, EV.val] at hp; conv => whnf) | (refine hp.kstA TTok rfl 4 rfl rfl (oneC_of rfl) (by rfl) fun w hp => ?_; try simp only [List.set_cons_zero, List.set_cons_succ, EV.val] at hp; conv => whnf) | (refine hp.kstA TTok rfl 5 rfl rfl (oneC_of rfl) (by rfl) fun w hp => ?_; try simp only [List.set_cons_zero, List.set_cons_succ, EV.val] at hp; conv => whnf) | (refine hp.kstA TTok rfl 6 rfl rfl (oneC_of rfl) (by rfl) fun w hp => ?_; try simp only [List.set_cons_zero, List.set_cons_succ, EV.val] at hp; conv => whnf) | (refine hp.kstA TTok rfl 7 rfl rfl (oneC_of rfl) (by rfl) fun w hp => ?_; try simp only [List.set_cons_zero, List.set_cons_succ, EV.val] at hp; conv => whnf) | fail) | ((with_reducible show ∀ w1, Ext _ w1 → _); first | (intro w hx; try (have hp := hp.call hx); conv => whnf) | fail) | ((with_reducible show ∃ v, Sem.run _ (loadVar _ _) _ = Result.ok v _ ∧ _); first | (refine ⟨_, Blk.lv (hp.get (i := 0) rfl) TTok rfl rfl, ?_⟩; conv => whnf) | (refine ⟨_, Blk.lv (hp.get (i := 1) rfl) TTok rfl rfl, ?_⟩; conv => whnf) | (refine ⟨_, Blk.lv (hp.get (i := 2) rfl) TTok rfl rfl, ?_⟩; conv => whnf) | (refine ⟨_, Blk.lv (hp.get (i := 3) rfl) TTok rfl rfl, ?_⟩; conv => whnf) | (refine ⟨_, Blk.lv (hp.get (i := 4) rfl) TTok rfl rfl, ?_⟩; conv => whnf) | (refine ⟨_, Blk.lv (hp.get (i := 5) rfl) TTok rfl rfl, ?_⟩; conv => whnf) | (refine ⟨_, Blk.lv (hp.get (i := 6) rfl) TTok rfl rfl, ?_⟩; conv => whnf) | (refine ⟨_, Blk.lv (hp.get (i := 7) rfl) TTok rfl rfl, ?_⟩; conv => whnf) | (refine ⟨_, Blk.lvN (hp.get (i := 0) rfl) TTok rfl rfl, ?_⟩; conv => whnf) | (refine ⟨_, Blk.lvN (hp.get (i := 1) rfl) TTok rfl rfl, ?_⟩; conv => whnf) | (refine ⟨_, Blk.lvN (hp.get (i := 2) rfl) TTok rfl rfl, ?_⟩; conv => whnf) | (refine ⟨_, Blk.lvN (hp.get (i := 3) rfl) TTok rfl rfl, ?_⟩; conv => whnf) | (refine ⟨_, Blk.lvN (hp.get (i := 4) rfl) TTok rfl rfl, ?_⟩; conv => whnf) | (refine ⟨_, Blk.lvN (hp.get (i := 5) rfl) TTok rfl rfl, ?_⟩; conv => whnf) | (refine ⟨_, Blk.lvN (hp.get (i := 6) rfl) TTok rfl rfl, ?_⟩; conv => whnf) | (refine ⟨_, Blk.lvN (hp.get (i := 7) rfl) TTok rfl rfl, ?_⟩; conv => whnf) | fail) | ((with_reducible show ∃ m : Nat, (_ ∧ _) ∧ _); first | (refine ⟨_, ⟨rfl, by omega⟩, ?_⟩; conv => whnf) | (refine ⟨0, ⟨rfl, by decide⟩, ?_⟩; conv => whnf) | (refine ⟨1, ⟨rfl, by decide⟩, ?_⟩; conv => whnf) | (refine ⟨2, ⟨rfl, by decide⟩, ?_⟩; conv => whnf) | fail) | ((with_reducible show ∃ m n : Nat, (_ ∧ _) ∧ _); first | (refine ⟨_, _, ⟨rfl, rfl, by omega, by omega⟩, ?_⟩; conv => whnf) | fail) | ((with_reducible show ∃ m n r : Nat, (_ ∧ _) ∧ _); first | (refine ⟨_, _, _, ⟨rfl, rfl, by decide, by decide⟩, rfl, ?_⟩; conv => whnf) | fail) | ((with_reducible show ∀ (cs : List Frame), _); first | (refine V.CallW.out ?_; (conv => arg 3; dsimp only [EV.val, List.toList_toArray, List.nil_append, List.append_nil, List.cons_append]); first | ((with_reducible show V.CallW _ 145 _ _ _); first | ((with_reducible refine V.PureF.useW (trL_p _ (by first | assumption | omega)) fun w hx => ?_); try (have hp := hp.call hx); conv => whnf) | (refine V.PureF.useW (trL_p _ (by first | assumption | omega)) fun w hx => ?_; try (have hp := hp.call hx); conv => whnf) | fail) | ((with_reducible show V.CallW _ 146 _ _ _); first | ((with_reducible refine V.PureF.useW (trR_p _ (by first | assumption | omega)) fun w hx => ?_); try (have hp := hp.call hx); conv => whnf) | (refine V.PureF.useW (trR_p _ (by first | assumption | omega)) fun w hx => ?_; try (have hp := hp.call hx); conv => whnf) | fail) | fail) | fail) | ((with_reducible show ∃ v, (∀ w1, _ → Calls _ _ _ _ _) ∧ _); first | (refine V.QCallW.out ?_; (conv => arg 3; dsimp only [EV.val, List.toList_toArray, List.nil_append, List.append_nil, List.cons_append]); first | ((with_reducible show V.QCallW _ 145 _ _ _); first | ((with_reducible refine V.PureF.quietW (trL_p _ (by first | assumption | omega)) ?_); conv => whnf) | (refine V.PureF.quietW (trL_p _ (by first | assumption | omega)) ?_; conv => whnf) | fail) | ((with_reducible show V.QCallW _ 146 _ _ _); first | ((with_reducible refine V.PureF.quietW (trR_p _ (by first | assumption | omega)) ?_); conv => whnf) | (refine V.PureF.quietW (trR_p _ (by first | assumption | omega)) ?_; conv => whnf) | fail) | fail) | fail) | ((with_reducible show _ ∨ _); first | (refine Or.inl (And.intro (by first | omega | decide) ?_); conv => whnf) | fail) | (with_reducible refine And.intro hx ?_; conv => whnf) | (refine And.intro (by first | omega | decide) ?_; conv => whnf) | ((with_reducible show (true = true → _) ∧ (true = false → _)); first | (refine And.intro (fun _ => ?_) (fun h => absurd h (by decide)); conv => whnf) | fail) | ((with_reducible show ((!false) = true → _) ∧ ((!false) = false → _)); first | (refine And.intro (fun _ => ?_) (fun h => absurd h (by decide)); conv => whnf) | fail) | ((with_reducible show (false = true → _) ∧ (false = false → _)); first | (refine And.intro (fun h => absurd h (by decide)) (fun _ => ?_); conv => whnf) | fail) | ((with_reducible show ((!true) = true → _) ∧ ((!true) = false → _)); first | (refine And.intro (fun h => absurd h (by decide)) (fun _ => ?_); conv => whnf) | fail) | ((with_reducible show (decide _ = true → _) ∧ (decide _ = false → _)); first | (refine And.intro (fun _ => ?_) (fun h => absurd (by first | rfl | assumption | omega | decide) (of_decide_eq_false h)); conv => whnf) | (refine And.intro (fun h => absurd (of_decide_eq_true h) (by first | (intro h2; exact absurd rfl h2) | omega | decide)) (fun _ => ?_); conv => whnf) | fail) | ((with_reducible show ((!(decide _)) = true → _) ∧ ((!(decide _)) = false → _)); first | (refine And.intro (fun _ => ?_) (fun h => absurd (of_decide_eq_true ((Bool.not_eq_false' _).mp h)) (by first | (intro h2; exact absurd rfl h2) | omega | decide)); conv => whnf) | (refine And.intro (fun h => absurd (by first | rfl | assumption | omega | decide) (of_decide_eq_false ((Bool.not_eq_true' _).mp h))) (fun _ => ?_); conv => whnf) | fail) | fail)
    exact ⟨rfl, hp.ext⟩
theorem trN_0 {s : ByteArray} : ∀ {k : Nat}, (∀ i, i < k → byt s i = 0) → trN s k = 0
  | 0, _ => rfl
  | k + 1, h => by rw [trN_z (h k (Nat.lt_succ_self k))]; exact trN_0 fun i hi => h i (Nat.lt_succ_of_lt hi)
theorem trN_pos {s : ByteArray} : ∀ {k : Nat}, trN s k ≠ 0 → byt s (trN s k - 1) ≠ 0 ∧ trN s k ≤ k
  | 0, h => absurd rfl h
  | k + 1, h => by
    by_cases hb : byt s k = 0
    · rw [trN_z hb] at h ⊢
      have := trN_pos h
      exact ⟨this.1, by omega⟩
    · rw [trN_nz hb]; exact ⟨hb, Nat.le_refl _⟩
theorem trN_zero {s : ByteArray} : ∀ {k : Nat}, trN s k = 0 → ∀ i, i < k → byt s i = 0
  | 0, _, i, hi => by omega
  | k + 1, h, i, hi => by
    by_cases hb : byt s k = 0
    · rw [trN_z hb] at h
      by_cases e : i = k
      · subst e; exact hb
      · exact trN_zero h i (by omega)
    · rw [trN_nz hb] at h; cases h
theorem tlN_le {s : ByteArray} {m : Nat} (hm : byt s m ≠ 0) : ∀ f j, j ≤ m → tlN s f j ≤ m
  | 0, j, h => h
  | f + 1, j, h => by
    by_cases hb : byt s j = 0
    · rw [tlN_z hb]
      have : j ≠ m := fun e => by subst e; exact hm hb
      exact tlN_le hm f (j + 1) (by omega)
    · rw [tlN_nz hb]; exact h
theorem trimB_iff (s : ByteArray) : trimB s = ⟨#[]⟩ ↔ ∀ i, i < s.size → byt s i = 0 := by
  constructor
  · intro h
    by_cases hz : trN s s.size = 0
    · exact trN_zero hz
    · exfalso
      obtain ⟨h1, h2⟩ := trN_pos hz
      have h3 : (trimB s).size = 0 := by rw [h]; rfl
      unfold trimB at h3
      have hsz : (s.extract 0 (trN s s.size)).size = trN s s.size := by rw [ByteArray.size_extract]; omega
      have hb : byt (s.extract 0 (trN s s.size)) (trN s s.size - 1) ≠ 0 := by
        rw [byt_pre s 0 (trN s s.size) (trN s s.size - 1) h2 (by omega), Nat.zero_add]; exact h1
      have := tlN_le hb (s.extract 0 (trN s s.size)).size 0 (by omega)
      rw [ByteArray.size_extract] at h3
      omega
  · intro h
    have hz := trN_0 h
    unfold trimB
    rw [hz]
    apply ba_eq
    rw [ext_toList, ext_toList]
    simp
set_option maxHeartbeats 4000000
def u2 (a b : UInt8) : Nat := a.toNat * 256 + b.toNat
/-- one attribute at the head of octets, and what is behind it -/
def pstep : List UInt8 → Option (At2 × List UInt8)
  | a :: b :: c :: d :: r =>
    if u2 c d + padN (u2 c d) ≤ r.length ∧ (r.drop (u2 c d)).take (padN (u2 c d)) = List.replicate (padN (u2 c d)) 0 then some (((u2 a b : Nat), ⟨(r.take (u2 c d)).toArray⟩), r.drop (u2 c d + padN (u2 c d))) else none
  | _ => none
theorem pstep_lt {l r : List UInt8} {a : At2} (h : pstep l = some (a, r)) : r.length + 4 ≤ l.length := by
  unfold pstep at h
  split at h
  · split at h
    · rename_i a b c d r' hc
      simp only [Option.some.injEq, Prod.mk.injEq] at h
      rw [← h.2, List.length_drop]
      simp only [List.length_cons]
      omega
    · cases h
  · cases h
def parseF : Nat → List UInt8 → List At2 × Bool
  | 0, l => ([], l.isEmpty)
  | _ + 1, [] => ([], true)
  | f + 1, l => match pstep l with
    | none => ([], false)
    | some (a, r) => (a :: (parseF f r).1, (parseF f r).2)
theorem parseF_fuel : ∀ (f g : Nat) (l : List UInt8), l.length ≤ f → l.length ≤ g → parseF f l = parseF g l
  | 0, 0, l, _, _ => rfl
  | 0, g + 1, l, h, _ => by
    have : l = [] := List.eq_nil_of_length_eq_zero (by omega)
    subst this; rfl
  | f + 1, 0, l, _, h => by
    have : l = [] := List.eq_nil_of_length_eq_zero (by omega)
    subst this; rfl
  | f + 1, g + 1, [], _, _ => rfl
  | f + 1, g + 1, x :: l, hf, hg => by
    unfold parseF
    cases hp : pstep (x :: l) with
    | none => rfl
    | some y =>
      obtain ⟨a, r⟩ := y
      have := pstep_lt hp
      dsimp only
      rw [parseF_fuel f g r (by simp only [List.length_cons] at *; omega) (by simp only [List.length_cons] at *; omega)]
def parse (l : List UInt8) : List At2 × Bool := parseF l.length l
theorem parse_nil : parse [] = ([], true) := rfl
theorem parse_none {l : List UInt8} (h : l ≠ []) (hp : pstep l = none) : parse l = ([], false) := by
  cases l with
  | nil => exact absurd rfl h
  | cons x l => unfold parse; rw [List.length_cons]; unfold parseF; rw [hp]
theorem parse_some {l r : List UInt8} {a : At2} (hp : pstep l = some (a, r)) : parse l = (a :: (parse r).1, (parse r).2) := by
  have hlt := pstep_lt hp
  cases l with
  | nil => simp [pstep] at hp
  | cons x l =>
    unfold parse
    rw [List.length_cons]
    conv => lhs; unfold parseF
    rw [hp]
    dsimp only
    rw [parseF_fuel l.length r.length r (by simp only [List.length_cons] at hlt; omega) (Nat.le_refl _)]
theorem beL2 (v : Nat) : beL 2 v = [UInt8.ofNat (v / 256), UInt8.ofNat v] := by
  unfold beL
  simp [List.range, List.range.loop]
theorem u2_of (v : Nat) (h : v < 65536) : u2 (UInt8.ofNat (v / 256)) (UInt8.ofNat v) = v := by
  unfold u2
  rw [UInt8.toNat_ofNat', UInt8.toNat_ofNat']
  omega
/-- an attribute's numbers fit -/
def fitA (a : At2) : Prop := 0 ≤ a.1 ∧ a.1 ≤ 65535 ∧ a.2.size ≤ 65535
theorem fitA_of {a : At2} (h : attrB a = true) : fitA a := by
  have := attrB_t h
  exact ⟨this.1, this.2.1, by omega⟩
theorem padB_list (s : ByteArray) : (padB s).data.toList = s.data.toList ++ List.replicate (padN s.size) 0 := by unfold padB; simp
theorem bA_len (s : ByteArray) : s.data.toList.length = s.size := by cases s; rfl
theorem pstep_attr (a : At2) (h : fitA a) (r : List UInt8) : pstep (attrL a ++ r) = some (a, r) := by
  obtain ⟨k, s⟩ := a
  obtain ⟨h0, h1, h2⟩ := h
  dsimp only at h0 h1 h2
  unfold attrL
  dsimp only
  rw [beL2, beL2, padB_list]
  simp only [List.cons_append, List.nil_append, List.append_assoc]
  unfold pstep
  dsimp only
  rw [u2_of s.size (by omega), u2_of k.toNat (by omega)]
  have hl : s.data.toList.length = s.size := bA_len s
  rw [if_pos ?_]
  · simp only [Option.some.injEq, Prod.mk.injEq]
    refine ⟨⟨by omega, ?_⟩, ?_⟩
    · rw [List.take_left' hl]
    · rw [← List.drop_drop, List.drop_left' hl, List.drop_left' List.length_replicate]
  · refine ⟨?_, ?_⟩
    · simp only [List.length_append, List.length_replicate]; omega
    · rw [List.drop_left' hl, List.take_left' List.length_replicate]
theorem parse_attrs : ∀ (al : List At2), (∀ a ∈ al, fitA a) → parse (attrsL al) = (al, true)
  | [], _ => rfl
  | a :: al, h => by
    show parse (attrL a ++ attrsL al) = _
    rw [parse_some (pstep_attr a (h a List.mem_cons_self) _), parse_attrs al fun x hx => h x (List.mem_cons_of_mem _ hx)]
/-! ### the head -/
def clsN (t : Nat) : Nat := ((t / 16) &&& 1) ||| ((t / 128) &&& 2)
def mthN (t : Nat) : Nat := ((t &&& 15) ||| ((t / 2) &&& 112)) ||| ((t / 4) &&& 3968)
theorem kind_all : (List.range 16384).all (fun x => Nat.beq (clsN (kindN (x / 4096) (x % 4096))) (x / 4096) && Nat.beq (mthN (kindN (x / 4096) (x % 4096))) (x % 4096)) = true := by kernel_rfl
theorem kind_inv {c m : Nat} (hc : c < 4) (hm : m < 4096) : clsN (kindN c m) = c ∧ mthN (kindN c m) = m := by
  have := List.all_eq_true.1 kind_all (c * 4096 + m) (List.mem_range.2 (by omega))
  simp only [Bool.and_eq_true] at this
  rw [show (c * 4096 + m) / 4096 = c by omega, show (c * 4096 + m) % 4096 = m by omega] at this
  exact ⟨Nat.eq_of_beq_eq_true this.1, Nat.eq_of_beq_eq_true this.2⟩
end Go.Proofs.YtmlmfmdmomegpaaGreatDoor
