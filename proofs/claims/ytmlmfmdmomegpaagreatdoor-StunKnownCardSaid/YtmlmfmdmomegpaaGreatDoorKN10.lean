/- Chapter 08: mixed values, values of errors. -/
/- Chapter 08: a builder of octets. -/
/- Chapter 08: lists of attributes. -/
/- Chapter 08: the octets of a message. -/
/- Chapter 08: lists of attributes, searched and copied. -/
import Derived.Test.YtmlmfmdmomegpaaGreatDoorKN09
import Derived.Lib.Builder
namespace Go.Proofs.YtmlmfmdmomegpaaGreatDoor
set_option linter.unusedSimpArgs false
set_option linter.unusedVariables false
set_option maxRecDepth 100000
open Go.RowKit V
def magicB : ByteArray := beB 4 554869826
def maskB (id : ByteArray) : ByteArray := magicB ++ id
theorem maskB_size (id : ByteArray) (h : id.size = 12) : (maskB id).size = 16 := by
  unfold maskB magicB
  rw [ByteArray.size_append, beB_size, h]
theorem mask_p (id : ByteArray) (h : id.size ≤ 100) : PureF Tryz.prog 85 #[.string id] (.string (maskB id)) := by
  have hz := beB_size 4 554869826
  unfold maskB magicB
  first | refine v_pure TTok FFok Tryz.func85 rfl rfl fun w0 => ?_ | refine v_pure (args := []) TTok FFok Tryz.func85 rfl rfl fun w0 => ?_
  conv => whnf
  refine VSeq.mk fun Kq hKq => ?_
  conv => whnf
  refine hKq _ _ _ (.refl _) ?_
  clear hKq Kq
  conv => whnf
  refine VSeq.mk fun Kq hKq => ?_
  conv => whnf
  have hp := Hp.nil w0
  (refine V.CallW.out ?_; (conv => arg 3; dsimp only [EV.val, List.toList_toArray, List.nil_append, List.append_nil, List.cons_append]); refine V.PureF.useW (Put_ok 4 554869826 (by decide) (by decide) (by decide)) fun w hx => ?_; try (have hp := hp.call hx); conv => whnf)
  (refine hKq _ _ _ (.refl _) ?_; clear hKq Kq; conv => whnf)
  (refine VSeq.mk fun Kq hKq => ?_; conv => whnf)
  (refine And.intro (by first | omega | decide) ?_; conv => whnf)
  (refine hKq _ _ _ (.refl _) ?_; clear hKq Kq; conv => whnf)
  (exact ⟨rfl, hp.ext⟩)
def famN (h : ByteArray) : Nat := if h.size = 4 then 1 else 2
def mixB (id host : ByteArray) (port : Nat) : ByteArray := ⟨#[0, UInt8.ofNat (famN host)]⟩ ++ xorB (beB 2 port) (maskB id) ++ xorB host (maskB id)
theorem family_p (s : ByteArray) (h : hostB s = true) : PureF Tryz.prog 82 #[.string s] (.tuple #[.int .i64 (famN s), .int .i64 0]) := by
  rcases hostB_t h with h | h
  · have : famN s = 1 := by unfold famN; rw [if_pos h]
    rw [this]; exact family_4 s h
  · have : famN s = 2 := by unfold famN; rw [if_neg (by omega)]
    rw [this]; exact family_6 s h
theorem Mixed_ok (id host : ByteArray) (port : Nat) (hi : id.size = 12) (hh : hostB host = true) (hpt : port ≤ 65535) : PureF Tryz.prog 30 #[.string id, .agg #[.string host, .int .i64 port]] (.tuple #[.string (mixB id host port), .int .i64 0]) := by
  have hA := addrB_of hh (Int.natCast_nonneg port) (show ((port : Nat) : Int) ≤ 65535 by omega)
  have hz := maskB_size id hi
  have h2 := hostB_t hh
  have hf := family_p host hh
  have hpo := Put_ok 2 port (by decide) (by decide) (by omega)
  have hm := mask_p id (by omega)
  have hc1 := changed_p (beB 2 port) (maskB id) (by rw [beB_size]; omega) (by rw [beB_size]; omega)
  have hc2 := changed_p host (maskB id) (by omega) (by omega)
  have z1 := xorB_size (beB 2 port) (maskB id) (by rw [beB_size]; omega)
  have z2 := xorB_size host (maskB id) (by omega)
  rw [beB_size] at z1
  have hfn : famN host < 256 := by unfold famN; split <;> omega
  have hfe : ((famN host : Nat) : Int) % 256 = (((UInt8.ofNat (famN host)).toNat : Nat) : Int) := by rw [UInt8.toNat_ofNat_of_lt' (by simpa using hfn)]; omega
  unfold mixB
  first | refine v_pure TTok FFok Tryz.func30 rfl rfl fun w0 => ?_ | refine v_pure (args := []) TTok FFok Tryz.func30 rfl rfl fun w0 => ?_
  conv => whnf
  refine VSeq.mk fun Kq hKq => ?_
  conv => whnf
  have hp := Hp.nil w0
  (refine hp.kboxA fun q w hp hx => ?_; conv => whnf)
  (refine hKq _ _ _ (.refl _) ?_; clear hKq Kq; conv => whnf)
  (refine VSeq.mk fun Kq hKq => ?_; conv => whnf)
  (refine ⟨_, _, Blk.ld (hp.get (i := 0) rfl) TTok rfl rfl, ?_⟩; conv => whnf)
  (refine V.CallW.out ?_; (conv => arg 3; dsimp only [EV.val, List.toList_toArray, List.nil_append, List.append_nil, List.cons_append]); (with_reducible refine V.PureF.useW (hf) fun w hx => ?_); try (have hp := hp.call hx); conv => whnf)
  (refine hKq _ _ _ (.refl _) ?_; clear hKq Kq; conv => whnf)
  (refine VSeq.mk fun Kq hKq => ?_; conv => whnf)
  (refine VSeq.mk fun Kq hKq => ?_; conv => whnf)
  (refine VSeq.mk fun Kq hKq => ?_; conv => whnf)
  (refine hKq _ _ _ (.refl _) ?_; clear hKq Kq; conv => whnf)
  (refine VSeq.mk fun Kq hKq => ?_; conv => whnf)
  (refine And.intro (fun h => absurd (of_decide_eq_true h) (by first | (intro h2; exact absurd rfl h2) | omega | decide)) (fun _ => ?_); conv => whnf)
  (refine ⟨_, _, Blk.ldV (vs := [_, _]) (hp.get (i := 0) rfl) TTok rfl rfl rfl, ?_⟩; conv => whnf)
  (refine V.CallW.out ?_; (conv => arg 3; dsimp only [EV.val, List.toList_toArray, List.nil_append, List.append_nil, List.cons_append]); (with_reducible refine V.PureF.useW (acheck_t _ _ (by assumption)) fun w hx => ?_); try (have hp := hp.call hx); conv => whnf)
  (refine hKq _ _ _ (.refl _) ?_; clear hKq Kq; conv => whnf)
  (refine And.intro (fun h => absurd (of_decide_eq_true h) (by first | (intro h2; exact absurd rfl h2) | omega | decide)) (fun _ => ?_); conv => whnf)
  (refine hKq _ _ _ (.refl _) ?_; clear hKq Kq; conv => whnf)
  (refine And.intro (fun h => absurd (of_decide_eq_true h) (by first | (intro h2; exact absurd rfl h2) | omega | decide)) (fun _ => ?_); conv => whnf)
  (refine hKq _ _ _ (.refl _) ?_; clear hKq Kq; conv => whnf)
  (refine VSeq.mk fun Kq hKq => ?_; conv => whnf)
  (refine ⟨_, _, Blk.ld (hp.get (i := 0) rfl) TTok rfl rfl, ?_⟩; conv => whnf)
  (refine V.CallW.out ?_; (conv => arg 3; dsimp only [EV.val, List.toList_toArray, List.nil_append, List.append_nil, List.cons_append]); refine V.PureF.useW (hpo) fun w hx => ?_; try (have hp := hp.call hx); conv => whnf)
  (refine hKq _ _ _ (.refl _) ?_; clear hKq Kq; conv => whnf)
  (refine VSeq.mk fun Kq hKq => ?_; conv => whnf)
  refine v_mixA TTok FFok mixed [(0, false), (1, false), (4, false), (5, false), (6, false), (7, false), (9, false), (10, false), (11, false), (12, false), (13, false), (2, true), (3, false), (8, false), (14, false), (15, false), (16, false)] (by kernel_rfl) ?_
  conv => whnf
  first | refine PureF.quiet (hm) ?_ | refine PureF.quietE (hm) ?_
  conv => whnf
  first | refine PureF.quiet (hc1) ?_ | refine PureF.quietE (hc1) ?_
  conv => whnf
  refine ⟨_, fun w' hx' => Blk.ld (Blk.ext (hp.get (i := 0) rfl) hx') TTok rfl (rfl), ?_⟩
  conv => whnf
  first | refine PureF.quiet (hm) ?_ | refine PureF.quietE (hm) ?_
  conv => whnf
  first | refine PureF.quiet (hc2) ?_ | refine PureF.quietE (hc2) ?_
  conv => whnf
  intro w hx
  try (have hp := hp.call hx)
  conv => whnf
  rw [hfe]
  refine hp.kmade (bytesV [0, UInt8.ofNat (famN host)]) 5 (fun b => .slice (some ⟨b, 0, none⟩) 2 2) (by kernel_rfl) fun qb w hp hx => ?_
  conv => whnf
  refine And.intro hx ?_
  conv => whnf
  refine ⟨_, fun w1 hx' => Blk.str (l := [0, UInt8.ofNat (famN host)]) (Blk.ext (hp.get (i := 0) rfl) hx') TTok rfl rfl rfl rfl rfl, ?_⟩
  conv => whnf
  refine And.intro (by show 2 + _ ≤ _; omega) ?_
  conv => whnf
  refine And.intro (by rw [ByteArray.size_append]; show 2 + _ + _ ≤ _; omega) ?_
  conv => whnf
  intro w hx
  try (have hp := hp.call hx)
  conv => whnf
  refine hKq _ _ _ (.refl _) ?_
  clear hKq Kq
  conv => whnf
  exact ⟨rfl, hp.ext⟩
def reasonB (n : Nat) (r : ByteArray) : ByteArray := ⟨#[0, 0, UInt8.ofNat (n / 100), UInt8.ofNat (n % 100)]⟩ ++ r
theorem Reason_ok (n : Nat) (r : ByteArray) (h1 : 300 ≤ n) (h2 : n ≤ 699) (hr : r.size ≤ 128) : PureF Tryz.prog 35 #[.int .i64 n, .string r] (.tuple #[.string (reasonB n r), .int .i64 0]) := by
  have e1 : ((n : Nat) : Int) / 100 % 256 = (((UInt8.ofNat (n / 100)).toNat : Nat) : Int) := by rw [UInt8.toNat_ofNat_of_lt' (show n / 100 < UInt8.size by show n / 100 < 256; omega)]; omega
  have e2 : ((n : Nat) : Int) % 100 % 256 = (((UInt8.ofNat (n % 100)).toNat : Nat) : Int) := by rw [UInt8.toNat_ofNat_of_lt' (show n % 100 < UInt8.size by show n % 100 < 256; omega)]; omega
  unfold reasonB
  first | refine v_pure TTok FFok Tryz.func35 rfl rfl fun w0 => ?_ | refine v_pure (args := []) TTok FFok Tryz.func35 rfl rfl fun w0 => ?_
  conv => whnf
  refine VSeq.mk fun Kq hKq => ?_
  conv => whnf
  refine hKq _ _ _ (.refl _) ?_
  clear hKq Kq
  conv => whnf
  refine VSeq.mk fun Kq hKq => ?_
  conv => whnf
  refine VSeq.mk fun Kq hKq => ?_
  conv => whnf
  refine VSeq.mk fun Kq hKq => ?_
  conv => whnf
  refine hKq _ _ _ (.refl _) ?_
  clear hKq Kq
  conv => whnf
  have hp := Hp.nil w0
  (refine And.intro (fun h => absurd (of_decide_eq_true h) (by first | (intro h2; exact absurd rfl h2) | omega | decide)) (fun _ => ?_); conv => whnf)
  (refine hKq _ _ _ (.refl _) ?_; clear hKq Kq; conv => whnf)
  (refine And.intro (fun h => absurd (of_decide_eq_true h) (by first | (intro h2; exact absurd rfl h2) | omega | decide)) (fun _ => ?_); conv => whnf)
  (refine VSeq.mk fun Kq hKq => ?_; conv => whnf)
  (refine hKq _ _ _ (.refl _) ?_; clear hKq Kq; conv => whnf)
  (refine And.intro (fun h => absurd (of_decide_eq_true h) (by first | (intro h2; exact absurd rfl h2) | omega | decide)) (fun _ => ?_); conv => whnf)
  (refine hKq _ _ _ (.refl _) ?_; clear hKq Kq; conv => whnf)
  (refine VSeq.mk fun Kq hKq => ?_; conv => whnf)
  (refine And.intro (by first | omega | decide) ?_; conv => whnf)
  (refine And.intro (by first | omega | decide) ?_; conv => whnf)
  rw [e1, e2]
  refine hp.kmade (bytesV [0, 0, UInt8.ofNat (n / 100), UInt8.ofNat (n % 100)]) 5 (fun b => .slice (some ⟨b, 0, none⟩) 4 4) (by kernel_rfl) fun qb w hp hx => ?_
  conv => whnf
  refine ⟨_, _, Blk.str (l := [0, 0, UInt8.ofNat (n / 100), UInt8.ofNat (n % 100)]) (hp.get (i := 0) rfl) TTok rfl rfl rfl rfl rfl, ?_⟩
  conv => whnf
  refine And.intro (by show 4 + _ ≤ _; omega) ?_
  conv => whnf
  refine hKq _ _ _ (.refl _) ?_
  clear hKq Kq
  conv => whnf
  exact ⟨rfl, hp.ext⟩
theorem Reason_arg (n : Int) (r : ByteArray) (h : n < 300 ∨ 699 < n) : PureF Tryz.prog 35 #[.int .i64 n, .string r] (.tuple #[.string ⟨#[]⟩, .int .i64 2]) := by
  first | refine v_pure TTok FFok Tryz.func35 rfl rfl fun w0 => ?_ | refine v_pure (args := []) TTok FFok Tryz.func35 rfl rfl fun w0 => ?_
  conv => whnf
  refine VSeq.mk fun Kq hKq => ?_
  conv => whnf
  refine hKq _ _ _ (.refl _) ?_
  clear hKq Kq
  conv => whnf
  refine VSeq.mk fun Kq hKq => ?_
  conv => whnf
  refine VSeq.mk fun Kq hKq => ?_
  conv => whnf
  refine VSeq.mk fun Kq hKq => ?_
  conv => whnf
  refine hKq _ _ _ (.refl _) ?_
  clear hKq Kq
  conv => whnf
  have hp := Hp.nil w0
  (refine ⟨fun hd => ?_, fun hd => ?_⟩ <;> (try simp only [Bool.not_eq_true', Bool.not_eq_false', decide_eq_true_eq, decide_eq_false_iff_not, ne_eq, Classical.not_not] at hd) <;> (conv => whnf))
  (refine hKq _ _ _ (.refl _) ?_; clear hKq Kq; conv => whnf)
  (refine VSeq.mk fun Kq hKq => ?_; conv => whnf)
  (refine hKq _ _ _ (.refl _) ?_; clear hKq Kq; conv => whnf)
  (exact ⟨rfl, hp.ext⟩)
  (refine hKq _ _ _ (.refl _) ?_; clear hKq Kq; conv => whnf)
  (refine And.intro (fun _ => ?_) (fun h => absurd (by first | rfl | assumption | omega | decide) (of_decide_eq_false h)); conv => whnf)
  (refine VSeq.mk fun Kq hKq => ?_; conv => whnf)
  (refine hKq _ _ _ (.refl _) ?_; clear hKq Kq; conv => whnf)
  (exact ⟨rfl, hp.ext⟩)
theorem Reason_long (n : Int) (r : ByteArray) (h : 300 ≤ n ∧ n ≤ 699) (hr : 128 < r.size) : PureF Tryz.prog 35 #[.int .i64 n, .string r] (.tuple #[.string ⟨#[]⟩, .int .i64 3]) := by
  first | refine v_pure TTok FFok Tryz.func35 rfl rfl fun w0 => ?_ | refine v_pure (args := []) TTok FFok Tryz.func35 rfl rfl fun w0 => ?_
  conv => whnf
  refine VSeq.mk fun Kq hKq => ?_
  conv => whnf
  refine hKq _ _ _ (.refl _) ?_
  clear hKq Kq
  conv => whnf
  refine VSeq.mk fun Kq hKq => ?_
  conv => whnf
  refine VSeq.mk fun Kq hKq => ?_
  conv => whnf
  refine VSeq.mk fun Kq hKq => ?_
  conv => whnf
  refine hKq _ _ _ (.refl _) ?_
  clear hKq Kq
  conv => whnf
  have hp := Hp.nil w0
  (refine And.intro (fun h => absurd (of_decide_eq_true h) (by first | (intro h2; exact absurd rfl h2) | omega | decide)) (fun _ => ?_); conv => whnf)
  (refine hKq _ _ _ (.refl _) ?_; clear hKq Kq; conv => whnf)
  (refine And.intro (fun h => absurd (of_decide_eq_true h) (by first | (intro h2; exact absurd rfl h2) | omega | decide)) (fun _ => ?_); conv => whnf)
  (refine VSeq.mk fun Kq hKq => ?_; conv => whnf)
  (refine hKq _ _ _ (.refl _) ?_; clear hKq Kq; conv => whnf)
  (refine And.intro (fun _ => ?_) (fun h => absurd (by first | rfl | assumption | omega | decide) (of_decide_eq_false h)); conv => whnf)
  (refine VSeq.mk fun Kq hKq => ?_; conv => whnf)
  (refine hKq _ _ _ (.refl _) ?_; clear hKq Kq; conv => whnf)
  (exact ⟨rfl, hp.ext⟩)
/-- a buffer in block q that holds octets -/
def BSt (M : List Nat) (w0 w : World) (q : Nat) (l : List UInt8) (H : List It) : Prop :=
  ∃ v p : Value, (p = .pointer none ∨ p = .pointer (some ⟨q, 0, none⟩)) ∧ HpM M w0 w (row 5 1 v l.length (bytesV l) :: blk q [p, v] 181 :: H)
theorem noesc_x (x : Value) : extP Tryz.prog 162 #[x] (Extern.AbiNoEscape.same #[x]) := fun w => by
  rw [run_callFunc_extern (f := 162) (e := Extern.AbiNoEscape.same) Tryz.func162 (by kernel_rfl) (by kernel_rfl) (by kernel_rfl) (by kernel_rfl), Sem.run_bind]
  rfl
theorem ptr_ne_same (q : Nat) (xo yo : Operand) (w : World) : (do eqGuard .neq 170 xo yo (.pointer (some ⟨q, 0, none⟩)) (.pointer (some ⟨q, 0, none⟩)); binOp .neq 170 (.pointer (some ⟨q, 0, none⟩)) (.pointer (some ⟨q, 0, none⟩)) : Sem Value).run Tryz.prog w = .ok (.bool false) w := by
  obtain ⟨j, hj, _⟩ := (tab_entry (P := Tryz.prog) TTok (t := 172) rfl).2
  have h := Go.Lib.run_neq_ptr_same (P := Tryz.prog) (w := w) (tp := 170) (te := 172) ⟨q, 0, none⟩ (by kernel_rfl) hj
  have hg : (eqGuard .neq 170 xo yo (.pointer (some ⟨q, 0, none⟩)) (.pointer (some ⟨q, 0, none⟩)) : Sem Unit).run Tryz.prog w = .ok () w := by kernel_rfl
  rw [Sem.run_bind, hg]
  exact h
theorem copyCheck_c {M : List Nat} {w0 w : World} {q : Nat} {v p : Value} {X : It} {H : List It} (hpp : p = .pointer none ∨ p = .pointer (some ⟨q, 0, none⟩)) (hp : HpM M w0 w (X :: blk q [p, v] 181 :: H)) :
    Calls Tryz.prog 137 #[.pointer (some ⟨q, 0, none⟩)] w fun e w' => ∃ u, e = .returned u ∧ HpM M w0 w' (X :: blk q [.pointer (some ⟨q, 0, none⟩), v] 181 :: H) := by
  have hB : Blk w q [p, v] 181 := hp.get (i := 1) rfl
  obtain ⟨f, _, hheap⟩ := hB
  have hsh : w.shape? q = some (181, 2) := by simp [World.shape?, hheap]
  obtain ⟨j, hj, hjs⟩ := (tab_entry (P := Tryz.prog) TTok (t := 172) rfl).2
  rcases hpp with rfl | rfl
  · refine v_fn (args := [.pointer (some ⟨q, 0, none⟩)]) TTok FFok Tryz.func137 rfl (Nat.le_of_ble_eq_true rfl) ?_
    conv => whnf
    refine VSeq.mk fun Kq hKq => ?_
    conv => whnf
    (refine ⟨_, _, Blk.ld (hp.get (i := 1) rfl) TTok rfl rfl, ?_⟩; conv => whnf)
    first | refine ⟨.bool true, w, by kernel_rfl, ?_⟩ | refine ⟨.bool true, w0, by kernel_rfl, ?_⟩
    conv => whnf
    refine hKq _ _ _ (.refl _) ?_
    clear hKq Kq
    conv => whnf
    refine And.intro (fun _ => ?_) (fun h => by cases h)
    conv => whnf
    refine ⟨.pointer (some ⟨q, 0, none⟩), w, Go.Lib.run_to_unsafe w (t := 172) ⟨q, 0, none⟩ (by kernel_rfl) (by kernel_rfl) hj (by rw [hjs]; decide) hsh (by show 0 < 2; decide), ?_⟩
    conv => whnf
    refine ⟨_, noesc_x _, _, w, Go.Lib.run_noEscape w _, ?_⟩
    conv => whnf
    refine ⟨.pointer (some ⟨q, 0, none⟩), w, Go.Lib.run_from_unsafe w (u := 172) ⟨q, 0, none⟩ (by kernel_rfl) (by kernel_rfl) hj hsh (by kernel_rfl), ?_⟩
    conv => whnf
    refine hp.kst1 TTok (by rfl) 1 (by rfl) (by rfl) (by rfl) (Nat.le_of_ble_eq_true rfl) fun w hp => ?_
    try simp only [List.set_cons_zero, List.set_cons_succ, EV.val] at hp
    conv => whnf
    exact hp
  · refine v_fn (args := [.pointer (some ⟨q, 0, none⟩)]) TTok FFok Tryz.func137 rfl (Nat.le_of_ble_eq_true rfl) ?_
    conv => whnf
    refine VSeq.mk fun Kq hKq => ?_
    conv => whnf
    (refine ⟨_, _, Blk.ld (hp.get (i := 1) rfl) TTok rfl rfl, ?_⟩; conv => whnf)
    first | refine ⟨.bool false, w, by kernel_rfl, ?_⟩ | refine ⟨.bool false, w0, by kernel_rfl, ?_⟩
    conv => whnf
    refine hKq _ _ _ (.refl _) ?_
    clear hKq Kq
    conv => whnf
    refine And.intro (fun h => by cases h) (fun _ => ?_)
    conv => whnf
    refine VSeq.mk fun Kq hKq => ?_
    conv => whnf
    (refine ⟨_, _, Blk.ld (hp.get (i := 1) rfl) TTok rfl rfl, ?_⟩; conv => whnf)
    refine ⟨.bool false, w, ptr_ne_same q _ _ w, ?_⟩
    conv => whnf
    refine hKq _ _ _ (.refl _) ?_
    clear hKq Kq
    conv => whnf
    refine And.intro (fun h => by cases h) (fun _ => ?_)
    conv => whnf
    exact hp
theorem WriteString_c {M : List Nat} {w0 w : World} {q : Nat} {l : List UInt8} {H : List It} (s : ByteArray) (hb : BSt M w0 w q l H) (hl : l.length + s.size ≤ 1000000) :
    Calls Tryz.prog 106 #[.pointer (some ⟨q, 0, none⟩), .string s] w fun e w' => ∃ u, e = .returned u ∧ BSt M w0 w' q (l ++ s.data.toList) H := by
  have hsl := toList_len s
  obtain ⟨v, p, hpp, hp⟩ := hb
  refine v_fn (args := [.pointer (some ⟨q, 0, none⟩), .string s]) TTok FFok Tryz.func106 rfl (Nat.le_of_ble_eq_true rfl) ?_
  conv => whnf
  refine VSeq.mk fun Kq hKq => ?_
  conv => whnf
  refine hKq _ _ _ (.refl _) ?_
  clear hKq Kq
  conv => whnf
  refine VSeq.mk fun Kq hKq => ?_
  conv => whnf
  refine Calls.mono (copyCheck_c hpp hp) ?_
  rintro _ w ⟨u, rfl, hp⟩
  refine ⟨_, rfl, ?_⟩
  conv => whnf
  refine hKq _ _ _ (.refl _) ?_
  clear hKq Kq
  conv => whnf
  refine VSeq.mk fun Kq hKq => ?_
  conv => whnf
  (refine ⟨_, _, Blk.ld (hp.get (i := 1) rfl) TTok rfl rfl, ?_⟩; conv => whnf)
  refine hp.kapp sl88 0 rfl (Src.ofString _ (tab_str TTok rfl) s) (by omega) (by unfold maxLen; omega) fun v' w hp => ?_
  simp only [List.set_cons_zero] at hp
  have hp : HpM M w0 w (row 5 1 v' (l ++ s.data.toList).length (bytesV (l ++ s.data.toList)) :: blk q [.pointer (some ⟨q, 0, none⟩), v] 181 :: H) := by
    rw [List.length_append, hsl, bytesV_app]
    exact hp
  obtain ⟨pp, cc, rfl⟩ := row_shape (hp.get (i := 0) rfl)
  conv => whnf
  (refine hp.kst1 TTok (by rfl) 1 (by rfl) (by rfl) (by rfl) (Nat.le_of_ble_eq_true rfl) fun w hp => ?_; try simp only [List.set_cons_zero, List.set_cons_succ, EV.val] at hp; conv => whnf)
  (refine hKq _ _ _ (.refl _) ?_; clear hKq Kq; conv => whnf)
  (refine VSeq.mk fun Kq hKq => ?_; conv => whnf)
  (refine hKq _ _ _ (.refl _) ?_; clear hKq Kq; conv => whnf)
  exact ⟨_, _, .inr rfl, hp⟩
theorem put_c {M : List Nat} {w0 w : World} {q : Nat} {l : List UInt8} {H : List It} (n v : Nat) (h1 : 1 ≤ n) (h7 : n ≤ 7) (hv : v < 2 ^ (8 * n)) (hb : BSt M w0 w q l H) (hl : l.length ≤ 900000) :
    Calls Tryz.prog 114 #[.pointer (some ⟨q, 0, none⟩), .int .i64 n, .int .i64 v] w fun e w' => ∃ u, e = .returned u ∧ BSt M w0 w' q (l ++ beL n v) H := by
  obtain ⟨vv, p, hpp, hp⟩ := hb
  refine v_fn (args := [.pointer (some ⟨q, 0, none⟩), .int .i64 n, .int .i64 v]) TTok FFok Tryz.func114 rfl (Nat.le_of_ble_eq_true rfl) ?_
  conv => whnf
  refine VSeq.mk fun Kq hKq => ?_
  conv => whnf
  refine PureF.use (Put_ok n v h1 h7 hv) fun w hx => ?_
  have hp := hp.call hx
  conv => whnf
  refine hKq _ _ _ (.refl _) ?_
  clear hKq Kq
  conv => whnf
  refine Calls.mono (WriteString_c (beB n v) ⟨vv, p, hpp, hp⟩ (by rw [beB_size]; omega)) ?_
  rintro _ w ⟨u, rfl, hb⟩
  refine ⟨_, rfl, ?_⟩
  conv => whnf
  exact hb
theorem sdata_r (g n c : Nat) (hc : c ≠ 0) (ts : Array TypeId) (ty : TypeId) (w : World) : (Builtin.unsafeSliceData_ ts ty #[.slice (some ⟨g, 0, none⟩) n c]).run Tryz.prog w = .ok (.pointer (some ⟨g, 0, none⟩)) w := by
  have : Builtin.unsafeSliceData_ ts ty #[.slice (some ⟨g, 0, none⟩) n c] = (if c ≠ 0 then (Pure.pure (.pointer (some ⟨g, 0, none⟩)) : Sem Value) else (do if (← viewAt g).isSome then Pure.pure (.pointer (some ⟨g, 0, none⟩)) else Pure.pure (.pointer (some ⟨← newObj (.view ⟨g, 0, none⟩ (← elemOf ty)), 0, none⟩)))) := by
    unfold Builtin.unsafeSliceData_
    rfl
  rw [this, if_pos hc]
  rfl
theorem String_c {w0 w : World} {q : Nat} {l : List UInt8} {H : List It} (hb : BSt [] w0 w q l H) (h0 : 0 < l.length) (hl : l.length ≤ 1000000) :
    Calls Tryz.prog 108 #[.pointer (some ⟨q, 0, none⟩)] w fun e w' => ∃ u, e = .returned u ∧ u = .string ⟨l.toArray⟩ ∧ Ext w0 w' := by
  obtain ⟨v, p, hpp, hp⟩ := hb
  have hc : ∃ g c, v = .slice (some ⟨g, 0, none⟩) l.length c ∧ c ≠ 0 := by
    have hown : w.ownsRow 0 5 1 v l.length (bytesV l) := hp.get (i := 0) rfl
    obtain ⟨_, h2⟩ := hown
    rcases h2 with ⟨hv, hh⟩ | ⟨g, cap, cur, hv, _, hg, hle, _⟩
    · exfalso; simp only [List.length_eq_zero_iff] at hh; subst hh; simp at h0
    · exact ⟨g, cap, hv, by omega⟩
  obtain ⟨g', c', hv, hc0⟩ := hc
  obtain ⟨g, c, zs, rfl, hp⟩ := hp.toBlk0 0 rfl h0
  simp only [List.set_cons_zero] at hp
  have hc0 : c ≠ 0 := by injection hv with _ _ e; rw [e]; exact hc0
  have hl0 : l ≠ [] := fun h => by rw [h] at h0; simp at h0
  refine v_fn (args := [.pointer (some ⟨q, 0, none⟩)]) TTok FFok Tryz.func108 rfl (Nat.le_of_ble_eq_true rfl) ?_
  conv => whnf
  refine VSeq.mk fun Kq hKq => ?_
  conv => whnf
  refine hKq _ _ _ (.refl _) ?_
  clear hKq Kq
  conv => whnf
  refine VSeq.mk fun Kq hKq => ?_
  conv => whnf
  refine v_mix TTok FFok mixed 10 [(0, false), (1, false), (2, false), (3, false), (4, false), (5, false), (6, false), (7, false), (8, false), (9, false)] (by kernel_rfl) ?_
  conv => whnf
  refine ⟨_, fun w' hx' => Blk.ld (Blk.ext (hp.get (i := 1) rfl) hx') TTok rfl (rfl), ?_⟩
  conv => whnf
  refine ⟨.pointer (some ⟨g, 0, none⟩), fun w' _ => sdata_r g l.length c hc0 _ _ w', ?_⟩
  conv => whnf
  refine ⟨_, fun w' hx' => Blk.ld (Blk.ext (hp.get (i := 1) rfl) hx') TTok rfl (rfl), ?_⟩
  conv => whnf
  intro w hx
  try (have hp := hp.call hx)
  conv => whnf
  have hB : Blk w g (bytesV l ++ zs) 5 := hp.get (i := 0) rfl
  have hu := Go.Lib.run_unsafeString_row (P := Tryz.prog) (w := w) 211 3 9 5 (by kernel_rfl) (by kernel_rfl) g (l.length + zs.length) (by obtain ⟨f, hf, hh⟩ := hB; simp [World.shape?, hh, bytesV_len]) l hl0 (by omega) (by omega) (fun j x hj => by rw [add_none, Nat.zero_add, hB.cell, List.getElem?_append_left (by rw [bytesV_len]; exact (List.getElem?_eq_some_iff.1 hj).1)]; exact bytesV_get hj)
  refine ⟨_, _, hu, ?_⟩
  conv => whnf
  refine hKq _ _ _ (.refl _) ?_
  clear hKq Kq
  conv => whnf
  refine ⟨rfl, Ext_freeze hp.ext g _ ?_⟩
  have := (hp.lo _ (List.mem_cons_self) g rfl).1
  rcases this with h | h
  · cases h
  · exact h
abbrev At2 : Type := Int × ByteArray
def atC (a : At2) : List Value := [.int .i64 a.1, .string a.2]
def SA (w : World) (v : Value) (al : List At2) : Prop := SLn w 2 v (al.map atC)
theorem SA.shape {w : World} {v : Value} {al : List At2} (h : SA w v al) : ∃ p c, v = .slice p al.length c := by
  rcases h with ⟨rfl, h⟩ | ⟨a, c, rfl, h⟩ | ⟨g, off, c, rfl, _⟩
  · have : al = [] := List.map_eq_nil_iff.1 h
    subst this; exact ⟨_, _, rfl⟩
  · have : al = [] := List.map_eq_nil_iff.1 h
    subst this; exact ⟨_, _, rfl⟩
  · exact ⟨_, _, by rw [List.length_map]⟩
theorem SA.len {w : World} {v : Value} {al : List At2} (h : SA w v al) : al.length ≤ 9223372036854775807 := by
  rcases h with ⟨_, h⟩ | ⟨a, c, _, h⟩ | ⟨g, off, c, _, h1, h2, _⟩
  · have : al = [] := List.map_eq_nil_iff.1 h
    subst this; exact Nat.zero_le _
  · have : al = [] := List.map_eq_nil_iff.1 h
    subst this; exact Nat.zero_le _
  · rw [List.length_map] at h1
    unfold maxLen at h2
    omega
theorem SA.ext {w w' : World} {v : Value} {al : List At2} (h : SA w v al) (hx : Ext w w') : SA w' v al := by
  rcases h with h | h | ⟨g, off, c, hv, h1, h2, h3⟩
  · exact .inl h
  · exact .inr (.inl h)
  · exact .inr (.inr ⟨g, off, c, hv, h1, h2, fun j x hj => ⟨(h3 j x hj).1, fun i y hy => Ext.cell hx ((h3 j x hj).2 i y hy)⟩⟩)
theorem SA.at {w : World} {p : Option Addr} {n c : Nat} {al : List At2} (h : SA w (.slice p n c) al) {j : Nat} {a : At2} (hj : al[j]? = some a) :
    ∃ g off, p = some ⟨g, off, none⟩ ∧ (Instr.loadAt 54 (.pointer (some ⟨g, addM off j 2, none⟩))).run Tryz.prog w = .ok (.agg #[.int .i64 a.1, .string a.2]) w := by
  have hm : (al.map atC)[j]? = some (atC a) := by rw [List.getElem?_map, hj]; rfl
  rcases h with ⟨hv, h⟩ | ⟨_, _, hv, h⟩ | ⟨g, off, c, hv, _, _, h3⟩
  · rw [h] at hm; simp at hm
  · rw [h] at hm; simp at hm
  · simp only [Value.slice.injEq] at hv
    refine ⟨g, off, hv.1, ?_⟩
    exact run_ldN TTok rfl (vs := atC a) rfl fun i y hy => by
      have := (h3 j _ hm).2 i y hy
      rw [addM_eq, Nat.add_assoc]
      exact this
def atN (a : At2) : Nat := 4 + (a.2.size + 3) / 4 * 4
def sizeN : List At2 → Nat
  | [] => 0
  | a :: l => atN a + sizeN l
theorem sizeN_app (l m : List At2) : sizeN (l ++ m) = sizeN l + sizeN m := by
  induction l with
  | nil => simp [sizeN]
  | cons a l ih => rw [List.cons_append, sizeN, sizeN, ih]; omega
theorem sizeN_take {l : List At2} {i : Nat} {a : At2} (h : l[i]? = some a) : sizeN (l.take (i + 1)) = sizeN (l.take i) + atN a := by
  rw [List.take_add_one, h, sizeN_app]; rfl
theorem sizeN_le : ∀ l : List At2, (∀ a ∈ l, a.2.size ≤ 10000) → sizeN l ≤ l.length * 10010
  | [], _ => Nat.zero_le _
  | a :: l, h => by
    have h1 := h a List.mem_cons_self
    have h2 := sizeN_le l fun b hb => h b (List.mem_cons_of_mem _ hb)
    rw [sizeN, List.length_cons]
    unfold atN
    omega
theorem size_c {W : World} {v : Value} {al : List At2} (hv : SA W v al) (hl : al.length ≤ 1000) (hz : ∀ a ∈ al, a.2.size ≤ 10000) :
    Calls Tryz.prog 66 #[v] W fun e w' => e = .returned (.int .i64 (sizeN al)) ∧ Ext W w' := by
  obtain ⟨p, c, rfl⟩ := hv.shape
  refine v_reads (args := [.slice p al.length c]) TTok FFok Tryz.func66 rfl rfl ?_
  conv => whnf
  refine VSeq.mk fun Kq hKq => ?_
  conv => whnf
  refine hKq _ _ _ (.refl _) ?_
  clear hKq Kq
  conv => whnf
  refine VSeq.mk fun Kq hKq => ?_
  conv => whnf
  refine hKq _ _ _ (.refl _) ?_
  clear hKq Kq
  conv => whnf
  refine VSeq.mk fun Kq hKq => ?_
  conv => whnf
  refine VSeq.mk fun Kq hKq => ?_
  conv => whnf
  refine hKq _ _ _ (.refl _) ?_
  clear hKq Kq
  conv => whnf
  refine ⟨fun mm e w' => ∃ (i : Nat), mm + i = al.length ∧ e = [(3, .v (.int .i64 (sizeN (al.take i)))), (6, .v (.slice p al.length c)), (7, .v (.int .i64 al.length)), (8, .v (.int .i64 i))] ∧ Ext W w',
    ⟨al.length, _, ⟨0, by omega, rfl, Ext.refl _⟩, sub_cons rfl (sub_cons rfl (sub_cons rfl (sub_cons rfl sub_nil)))⟩, ?_⟩
  rintro mm _ w ⟨i, hmm, rfl, hxw⟩
  have hsl := sizeN_le (al.take i) fun a ha => hz a (List.mem_of_mem_take ha)
  have htl : (al.take i).length ≤ 1000 := by rw [List.length_take]; omega
  conv => whnf
  refine VSeq.mk fun Kq hKq => ?_
  conv => whnf
  refine hKq _ _ _ (.refl _) ?_
  clear hKq Kq
  conv => whnf
  refine VSeq.mk fun Kq hKq => ?_
  conv => whnf
  refine ⟨fun hlt => ?_, fun hlt => ?_⟩
  · have hlt := of_decide_eq_true hlt
    conv => whnf
    refine hKq _ _ _ (.refl _) ?_
    clear hKq Kq
    conv => whnf
    refine VSeq.mk fun Kq hKq => ?_
    conv => whnf
    refine VSeq.mk fun Kq hKq => ?_
    conv => whnf
    have hp := HpM.nil0 [] w
    obtain ⟨a, ha⟩ : ∃ a, al[i]? = some a := ⟨al[i]'(by omega), List.getElem?_eq_getElem (by omega)⟩
    have haz := hz a (List.mem_of_getElem? ha)
    have hst := sizeN_take ha
    obtain ⟨g, off, rfl, hld⟩ := (hv.ext hxw).at ha
    unfold atN at hst
    refine ⟨i, ⟨by first | rfl | omega, by show i < al.length; omega⟩, ?_⟩
    conv => whnf
    refine ⟨_, _, hld, ?_⟩
    conv => whnf
    (refine hp.kalloc z54 fun al54 w hp hx => ?_; conv => whnf)
    (refine hp.kstA TTok rfl 0 rfl rfl (oneC_of rfl) (by rfl) fun w hp => ?_; try simp only [List.set_cons_zero, List.set_cons_succ, EV.val] at hp; conv => whnf)
    (refine hKq _ _ _ (.refl _) ?_; clear hKq Kq; conv => whnf)
    (refine ⟨_, _, Blk.ld (hp.get (i := 0) rfl) TTok rfl rfl, ?_⟩; conv => whnf)
    (refine Or.inl (And.intro (by first | omega | decide) ?_); conv => whnf)
    (refine And.intro (by first | omega | decide) ?_; conv => whnf)
    (refine Or.inl (And.intro (by first | omega | decide) ?_); conv => whnf)
    (refine Or.inl (And.intro (by first | omega | decide) ?_); conv => whnf)
    (refine Or.inl (And.intro (by first | omega | decide) ?_); conv => whnf)
    (refine hKq _ _ _ (.refl _) ?_; clear hKq Kq; conv => whnf)
    (refine Or.inl (And.intro (by first | omega | decide) ?_); conv => whnf)
    exact ⟨mm - 1, _, by omega, ⟨i + 1, by omega, rfl, hxw.trans hp.ext⟩, sub_cons (by show some _ = some _; congr 3; rw [hst]; omega) (sub_cons rfl (sub_cons rfl (sub_cons rfl sub_nil)))⟩
  · have hlt := of_decide_eq_false hlt
    conv => whnf
    clear hKq Kq
    refine hKq _ _ _ (.refl _) ?_
    clear hKq Kq
    conv => whnf
    refine VSeq.mk fun Kq hKq => ?_
    conv => whnf
    refine hKq _ _ _ (.refl _) ?_
    clear hKq Kq
    conv => whnf
    obtain rfl : i = al.length := by omega
    rw [List.take_of_length_le (Nat.le_refl _)]
    exact ⟨rfl, hxw⟩
def attrB (a : At2) : Bool := decide (0 ≤ a.1) && (decide (a.1 ≤ 65535) && decide (a.2.size ≤ 763))
def stunB (c m : Int) (id : ByteArray) (al : List At2) : Bool :=
  (decide (0 ≤ c) && (decide (c ≤ 3) && (decide (0 ≤ m) && (decide (m ≤ 4095) && (decide (id.size = 12) && decide (al.length ≤ 30)))))) && (al.all attrB && decide (20 + sizeN al ≤ 1200))
theorem attrB_t {a : At2} (h : attrB a = true) : 0 ≤ a.1 ∧ a.1 ≤ 65535 ∧ a.2.size ≤ 763 := by unfold attrB at h; simpa using h
theorem attrB_f {a : At2} (h : ¬ (0 ≤ a.1 ∧ a.1 ≤ 65535 ∧ a.2.size ≤ 763)) : attrB a = false := by
  cases hb : attrB a with
  | false => rfl
  | true => exact absurd (attrB_t hb) h
theorem stunB_t {c m : Int} {id : ByteArray} {al : List At2} (h : stunB c m id al = true) : 0 ≤ c ∧ c ≤ 3 ∧ 0 ≤ m ∧ m ≤ 4095 ∧ id.size = 12 ∧ al.length ≤ 30 ∧ (∀ a ∈ al, attrB a = true) ∧ 20 + sizeN al ≤ 1200 := by
  unfold stunB at h
  simp only [Bool.and_eq_true, decide_eq_true_eq, List.all_eq_true] at h
  obtain ⟨⟨h1, h2, h3, h4, h5, h6⟩, h7, h8⟩ := h
  exact ⟨h1, h2, h3, h4, h5, h6, h7, h8⟩
theorem stunB_of {c m : Int} {id : ByteArray} {al : List At2} (h1 : 0 ≤ c) (h2 : c ≤ 3) (h3 : 0 ≤ m) (h4 : m ≤ 4095) (h5 : id.size = 12) (h6 : al.length ≤ 30) (h7 : ∀ a ∈ al, attrB a = true) (h8 : 20 + sizeN al ≤ 1200) : stunB c m id al = true := by
  unfold stunB
  simp only [Bool.and_eq_true, decide_eq_true_eq, List.all_eq_true]
  exact ⟨⟨h1, h2, h3, h4, h5, h6⟩, h7, h8⟩
theorem stunB_f {c m : Int} {id : ByteArray} {al : List At2} (h : ¬ stunB c m id al = true) : stunB c m id al = false := by
  cases hb : stunB c m id al with
  | false => rfl
  | true => exact absurd hb h
def chkN (c m : Int) (id : ByteArray) (al : List At2) : Nat := if stunB c m id al = true then 0 else 80
theorem Check_c {W : World} {v : Value} {al : List At2} (c m : Int) (id : ByteArray) (hv : SA W v al) :
    Calls Tryz.prog 17 #[.agg #[.int .i64 c, .int .i64 m, .string id, v]] W fun e w' => e = .returned (.int .i64 (chkN c m id al)) ∧ Ext W w' := by
  obtain ⟨p, cp, rfl⟩ := hv.shape
  by_cases hg : 0 ≤ c ∧ c ≤ 3 ∧ 0 ≤ m ∧ m ≤ 4095 ∧ id.size = 12 ∧ al.length ≤ 30
  · obtain ⟨g1, g2, g3, g4, g5, g6⟩ := hg
    refine v_reads (args := [.agg #[.int .i64 c, .int .i64 m, .string id, .slice p al.length cp]]) TTok FFok Tryz.func17 rfl rfl ?_
    conv => whnf
    refine VSeq.mk fun Kq hKq => ?_
    conv => whnf
    have hp := Hp.nil W
    (refine hp.kboxA fun q w hp hx => ?_; conv => whnf)
    (refine hKq _ _ _ (.refl _) ?_; clear hKq Kq; conv => whnf)
    (refine VSeq.mk fun Kq hKq => ?_; conv => whnf)
    (refine VSeq.mk fun Kq hKq => ?_; conv => whnf)
    (refine VSeq.mk fun Kq hKq => ?_; conv => whnf)
    (refine ⟨_, _, Blk.ld (hp.get (i := 0) rfl) TTok rfl rfl, ?_⟩; conv => whnf)
    (refine hKq _ _ _ (.refl _) ?_; clear hKq Kq; conv => whnf)
    (refine VSeq.mk fun Kq hKq => ?_; conv => whnf)
    (refine And.intro (fun h => absurd (of_decide_eq_true h) (by first | (intro h2; exact absurd rfl h2) | omega | decide)) (fun _ => ?_); conv => whnf)
    (refine ⟨_, _, Blk.ld (hp.get (i := 0) rfl) TTok rfl rfl, ?_⟩; conv => whnf)
    (refine hKq _ _ _ (.refl _) ?_; clear hKq Kq; conv => whnf)
    (refine VSeq.mk fun Kq hKq => ?_; conv => whnf)
    (refine And.intro (fun h => absurd (of_decide_eq_true h) (by first | (intro h2; exact absurd rfl h2) | omega | decide)) (fun _ => ?_); conv => whnf)
    (refine ⟨_, _, Blk.ld (hp.get (i := 0) rfl) TTok rfl rfl, ?_⟩; conv => whnf)
    (refine hKq _ _ _ (.refl _) ?_; clear hKq Kq; conv => whnf)
    (refine VSeq.mk fun Kq hKq => ?_; conv => whnf)
    (refine And.intro (fun h => absurd (of_decide_eq_true h) (by first | (intro h2; exact absurd rfl h2) | omega | decide)) (fun _ => ?_); conv => whnf)
    (refine ⟨_, _, Blk.ld (hp.get (i := 0) rfl) TTok rfl rfl, ?_⟩; conv => whnf)
    (refine hKq _ _ _ (.refl _) ?_; clear hKq Kq; conv => whnf)
    (refine VSeq.mk fun Kq hKq => ?_; conv => whnf)
    (refine And.intro (fun h => absurd (of_decide_eq_true h) (by first | (intro h2; exact absurd rfl h2) | omega | decide)) (fun _ => ?_); conv => whnf)
    (refine ⟨_, _, Blk.ld (hp.get (i := 0) rfl) TTok rfl rfl, ?_⟩; conv => whnf)
    (refine hKq _ _ _ (.refl _) ?_; clear hKq Kq; conv => whnf)
    (refine And.intro (fun h => absurd (of_decide_eq_true h) (by first | (intro h2; exact absurd rfl h2) | omega | decide)) (fun _ => ?_); conv => whnf)
    (refine ⟨_, _, Blk.ld (hp.get (i := 0) rfl) TTok rfl rfl, ?_⟩; conv => whnf)
    (refine hKq _ _ _ (.refl _) ?_; clear hKq Kq; conv => whnf)
    (refine And.intro (fun h => absurd (of_decide_eq_true h) (by first | (intro h2; exact absurd rfl h2) | omega | decide)) (fun _ => ?_); conv => whnf)
    (refine hKq _ _ _ (.refl _) ?_; clear hKq Kq; conv => whnf)
    (refine VSeq.mk fun Kq hKq => ?_; conv => whnf)
    (refine VSeq.mk fun Kq hKq => ?_; conv => whnf)
    (refine ⟨_, _, Blk.ld (hp.get (i := 0) rfl) TTok rfl rfl, ?_⟩; conv => whnf)
    (refine hKq _ _ _ (.refl _) ?_; clear hKq Kq; conv => whnf)
    refine ⟨fun mm e w' => ∃ (i : Nat), mm + i = al.length ∧ e = [(1, .v (.pointer (some ⟨q, 0, none⟩))), (36, .v (.slice p al.length cp)), (37, .v (.int .i64 al.length)), (38, .v (.int .i64 i))] ∧ (∀ a ∈ al.take i, attrB a = true) ∧ HpM [] W w' [blk q [.int .i64 c, .int .i64 m, .string id, .slice p al.length cp] 24],
      ⟨al.length, _, ⟨0, by omega, rfl, by simp, hp⟩, sub_cons rfl (sub_cons rfl (sub_cons rfl (sub_cons rfl sub_nil)))⟩, ?_⟩
    clear hp hx
    repeat clear hp
    rintro mm _ w ⟨i, hmm, rfl, hall, hp⟩
    conv => whnf
    refine VSeq.mk fun Kq hKq => ?_
    conv => whnf
    refine hKq _ _ _ (.refl _) ?_
    clear hKq Kq
    conv => whnf
    refine VSeq.mk fun Kq hKq => ?_
    conv => whnf
    refine ⟨fun hlt => ?_, fun hlt => ?_⟩
    · have hlt := of_decide_eq_true hlt
      conv => whnf
      refine hKq _ _ _ (.refl _) ?_
      clear hKq Kq
      conv => whnf
      refine VSeq.mk fun Kq hKq => ?_
      conv => whnf
      refine VSeq.mk fun Kq hKq => ?_
      conv => whnf
      obtain ⟨a, ha⟩ : ∃ a, al[i]? = some a := ⟨al[i]'(by omega), List.getElem?_eq_getElem (by omega)⟩
      obtain ⟨g, off, rfl, hld⟩ := (hv.ext hp.ext).at ha
      refine ⟨i, ⟨by first | rfl | omega, by show i < al.length; omega⟩, ?_⟩
      conv => whnf
      refine ⟨_, _, hld, ?_⟩
      conv => whnf
      by_cases hok : 0 ≤ a.1 ∧ a.1 ≤ 65535 ∧ a.2.size ≤ 763
      · obtain ⟨k1, k2, k3⟩ := hok
        have haB : attrB a = true := by unfold attrB; simp only [Bool.and_eq_true, decide_eq_true_eq]; exact ⟨k1, k2, k3⟩
        (refine hp.kalloc z54 fun al54 w hp hx => ?_; conv => whnf)
        (refine hp.kstA TTok rfl 0 rfl rfl (oneC_of rfl) (by rfl) fun w hp => ?_; try simp only [List.set_cons_zero, List.set_cons_succ, EV.val] at hp; conv => whnf)
        (refine hKq _ _ _ (.refl _) ?_; clear hKq Kq; conv => whnf)
        (refine VSeq.mk fun Kq hKq => ?_; conv => whnf)
        (refine VSeq.mk fun Kq hKq => ?_; conv => whnf)
        (refine ⟨_, _, Blk.ld (hp.get (i := 0) rfl) TTok rfl rfl, ?_⟩; conv => whnf)
        (refine hKq _ _ _ (.refl _) ?_; clear hKq Kq; conv => whnf)
        (refine VSeq.mk fun Kq hKq => ?_; conv => whnf)
        (refine And.intro (fun h => absurd (of_decide_eq_true h) (by first | (intro h2; exact absurd rfl h2) | omega | decide)) (fun _ => ?_); conv => whnf)
        (refine ⟨_, _, Blk.ld (hp.get (i := 0) rfl) TTok rfl rfl, ?_⟩; conv => whnf)
        (refine hKq _ _ _ (.refl _) ?_; clear hKq Kq; conv => whnf)
        (refine And.intro (fun h => absurd (of_decide_eq_true h) (by first | (intro h2; exact absurd rfl h2) | omega | decide)) (fun _ => ?_); conv => whnf)
        (refine ⟨_, _, Blk.ld (hp.get (i := 0) rfl) TTok rfl rfl, ?_⟩; conv => whnf)
        (refine hKq _ _ _ (.refl _) ?_; clear hKq Kq; conv => whnf)
        (refine And.intro (fun h => absurd (of_decide_eq_true h) (by first | (intro h2; exact absurd rfl h2) | omega | decide)) (fun _ => ?_); conv => whnf)
        (refine hKq _ _ _ (.refl _) ?_; clear hKq Kq; conv => whnf)
        (refine Or.inl (And.intro (by first | omega | decide) ?_); conv => whnf)
        refine ⟨mm - 1, _, by omega, ⟨i + 1, by omega, rfl, fun b hb => ?_, hp.tail⟩, sub_cons rfl (sub_cons rfl (sub_cons rfl (sub_cons rfl sub_nil)))⟩
        rw [List.take_add_one, ha] at hb
        rcases List.mem_append.1 hb with hb | hb
        · exact hall b hb
        · have : b = a := by simpa using hb
          rw [this]; exact haB
      · have haB := attrB_f hok
        have hb : stunB c m id al = false := stunB_f fun h => by
          have := (stunB_t h).2.2.2.2.2.2.1 a (List.mem_of_getElem? ha)
          rw [haB] at this; cases this
        have hN : chkN c m id al = 80 := by unfold chkN; rw [hb]; rfl
        (refine hp.kalloc z54 fun al54 w hp hx => ?_; conv => whnf)
        (refine hp.kstA TTok rfl 0 rfl rfl (oneC_of rfl) (by rfl) fun w hp => ?_; try simp only [List.set_cons_zero, List.set_cons_succ, EV.val] at hp; conv => whnf)
        (refine hKq _ _ _ (.refl _) ?_; clear hKq Kq; conv => whnf)
        (refine VSeq.mk fun Kq hKq => ?_; conv => whnf)
        (refine VSeq.mk fun Kq hKq => ?_; conv => whnf)
        (refine ⟨_, _, Blk.ld (hp.get (i := 0) rfl) TTok rfl rfl, ?_⟩; conv => whnf)
        (refine hKq _ _ _ (.refl _) ?_; clear hKq Kq; conv => whnf)
        (refine VSeq.mk fun Kq hKq => ?_; conv => whnf)
        (refine ⟨fun hd => ?_, fun hd => ?_⟩ <;> (try simp only [Bool.not_eq_true', Bool.not_eq_false', decide_eq_true_eq, decide_eq_false_iff_not, ne_eq, Classical.not_not] at hd) <;> (conv => whnf))
        (refine hKq _ _ _ (.refl _) ?_; clear hKq Kq; conv => whnf)
        (refine hKq _ _ _ (.refl _) ?_; clear hKq Kq; conv => whnf)
        (refine VSeq.mk fun Kq hKq => ?_; conv => whnf)
        (refine hKq _ _ _ (.refl _) ?_; clear hKq Kq; conv => whnf)
        (exact ⟨by (first | (rw [hN]; rfl) | fail), hp.ext⟩)
        (refine ⟨_, _, Blk.ld (hp.get (i := 0) rfl) TTok rfl rfl, ?_⟩; conv => whnf)
        (refine hKq _ _ _ (.refl _) ?_; clear hKq Kq; conv => whnf)
        (refine ⟨fun hd => ?_, fun hd => ?_⟩ <;> (try simp only [Bool.not_eq_true', Bool.not_eq_false', decide_eq_true_eq, decide_eq_false_iff_not, ne_eq, Classical.not_not] at hd) <;> (conv => whnf))
        (refine hKq _ _ _ (.refl _) ?_; clear hKq Kq; conv => whnf)
        (refine VSeq.mk fun Kq hKq => ?_; conv => whnf)
        (refine hKq _ _ _ (.refl _) ?_; clear hKq Kq; conv => whnf)
        (exact ⟨by (first | (rw [hN]; rfl) | fail), hp.ext⟩)
        (refine ⟨_, _, Blk.ld (hp.get (i := 0) rfl) TTok rfl rfl, ?_⟩; conv => whnf)
        (refine hKq _ _ _ (.refl _) ?_; clear hKq Kq; conv => whnf)
        (refine And.intro (fun _ => ?_) (fun h => absurd (by first | rfl | assumption | omega | decide) (of_decide_eq_false h)); conv => whnf)
        (refine VSeq.mk fun Kq hKq => ?_; conv => whnf)
        (refine hKq _ _ _ (.refl _) ?_; clear hKq Kq; conv => whnf)
        (exact ⟨by (first | (rw [hN]; rfl) | fail), hp.ext⟩)
    · have hlt := of_decide_eq_false hlt
      conv => whnf
      clear hKq Kq
      refine hKq _ _ _ (.refl _) ?_
      clear hKq Kq
      conv => whnf
      refine VSeq.mk fun Kq hKq => ?_
      conv => whnf
      refine VSeq.mk fun Kq hKq => ?_
      conv => whnf
      obtain rfl : i = al.length := by omega
      rw [List.take_of_length_le (Nat.le_refl _)] at hall
      have hz := size_c (W := w) (hv.ext hp.ext) (by omega) (fun a ha => by have := attrB_t (hall a ha); omega)
      have hsz := sizeN_le al (fun a ha => by have := attrB_t (hall a ha); omega)
      by_cases h8 : 20 + sizeN al ≤ 1200
      · have hb : stunB c m id al = true := stunB_of g1 g2 g3 g4 g5 g6 hall h8
        have hN : chkN c m id al = 0 := by unfold chkN; rw [hb]; rfl
        (refine ⟨_, _, Blk.ld (hp.get (i := 0) rfl) TTok rfl rfl, ?_⟩; conv => whnf)
        (refine V.CallW.out ?_; (conv => arg 3; dsimp only [EV.val, List.toList_toArray, List.nil_append, List.append_nil, List.cons_append]); (with_reducible refine V.CallsUseW (hz) fun w hx => ?_); try (have hp := hp.call hx); conv => whnf)
        (refine Or.inl (And.intro (by first | omega | decide) ?_); conv => whnf)
        (refine hKq _ _ _ (.refl _) ?_; clear hKq Kq; conv => whnf)
        (refine And.intro (fun h => absurd (of_decide_eq_true h) (by first | (intro h2; exact absurd rfl h2) | omega | decide)) (fun _ => ?_); conv => whnf)
        (refine hKq _ _ _ (.refl _) ?_; clear hKq Kq; conv => whnf)
        (refine VSeq.mk fun Kq hKq => ?_; conv => whnf)
        (refine hKq _ _ _ (.refl _) ?_; clear hKq Kq; conv => whnf)
        (exact ⟨by (first | (rw [hN]; rfl) | fail), hp.ext⟩)
      · have hb : stunB c m id al = false := stunB_f fun h => h8 (stunB_t h).2.2.2.2.2.2.2
        have hN : chkN c m id al = 80 := by unfold chkN; rw [hb]; rfl
        (refine ⟨_, _, Blk.ld (hp.get (i := 0) rfl) TTok rfl rfl, ?_⟩; conv => whnf)
        (refine V.CallW.out ?_; (conv => arg 3; dsimp only [EV.val, List.toList_toArray, List.nil_append, List.append_nil, List.cons_append]); (with_reducible refine V.CallsUseW (hz) fun w hx => ?_); try (have hp := hp.call hx); conv => whnf)
        (refine Or.inl (And.intro (by first | omega | decide) ?_); conv => whnf)
        (refine hKq _ _ _ (.refl _) ?_; clear hKq Kq; conv => whnf)
        (refine And.intro (fun _ => ?_) (fun h => absurd (by first | rfl | assumption | omega | decide) (of_decide_eq_false h)); conv => whnf)
        (refine VSeq.mk fun Kq hKq => ?_; conv => whnf)
        (refine hKq _ _ _ (.refl _) ?_; clear hKq Kq; conv => whnf)
        (exact ⟨by (first | (rw [hN]; rfl) | fail), hp.ext⟩)
  · have hb : stunB c m id al = false := stunB_f fun h => hg (by have := stunB_t h; exact ⟨this.1, this.2.1, this.2.2.1, this.2.2.2.1, this.2.2.2.2.1, this.2.2.2.2.2.1⟩)
    unfold chkN
    rw [hb]
    refine v_reads (args := [.agg #[.int .i64 c, .int .i64 m, .string id, .slice p al.length cp]]) TTok FFok Tryz.func17 rfl rfl ?_
    conv => whnf
    refine VSeq.mk fun Kq hKq => ?_
    conv => whnf
    have hp := Hp.nil W
    (refine hp.kboxA fun q w hp hx => ?_; conv => whnf)
    (refine hKq _ _ _ (.refl _) ?_; clear hKq Kq; conv => whnf)
    (refine VSeq.mk fun Kq hKq => ?_; conv => whnf)
    (refine VSeq.mk fun Kq hKq => ?_; conv => whnf)
    (refine VSeq.mk fun Kq hKq => ?_; conv => whnf)
    (refine ⟨_, _, Blk.ld (hp.get (i := 0) rfl) TTok rfl rfl, ?_⟩; conv => whnf)
    (refine hKq _ _ _ (.refl _) ?_; clear hKq Kq; conv => whnf)
    (refine VSeq.mk fun Kq hKq => ?_; conv => whnf)
    (refine ⟨fun hd => ?_, fun hd => ?_⟩ <;> (try simp only [Bool.not_eq_true', Bool.not_eq_false', decide_eq_true_eq, decide_eq_false_iff_not, ne_eq, Classical.not_not] at hd) <;> (conv => whnf))
    (refine hKq _ _ _ (.refl _) ?_; clear hKq Kq; conv => whnf)
    (refine VSeq.mk fun Kq hKq => ?_; conv => whnf)
    (refine hKq _ _ _ (.refl _) ?_; clear hKq Kq; conv => whnf)
    (refine VSeq.mk fun Kq hKq => ?_; conv => whnf)
    (refine hKq _ _ _ (.refl _) ?_; clear hKq Kq; conv => whnf)
    (refine VSeq.mk fun Kq hKq => ?_; conv => whnf)
    (refine hKq _ _ _ (.refl _) ?_; clear hKq Kq; conv => whnf)
    (refine hKq _ _ _ (.refl _) ?_; clear hKq Kq; conv => whnf)
    (refine VSeq.mk fun Kq hKq => ?_; conv => whnf)
    (refine hKq _ _ _ (.refl _) ?_; clear hKq Kq; conv => whnf)
    (exact ⟨rfl, hp.ext⟩)
    (refine ⟨_, _, Blk.ld (hp.get (i := 0) rfl) TTok rfl rfl, ?_⟩; conv => whnf)
    (refine hKq _ _ _ (.refl _) ?_; clear hKq Kq; conv => whnf)
    (refine VSeq.mk fun Kq hKq => ?_; conv => whnf)
    (refine ⟨fun hd => ?_, fun hd => ?_⟩ <;> (try simp only [Bool.not_eq_true', Bool.not_eq_false', decide_eq_true_eq, decide_eq_false_iff_not, ne_eq, Classical.not_not] at hd) <;> (conv => whnf))
    (refine hKq _ _ _ (.refl _) ?_; clear hKq Kq; conv => whnf)
    (refine VSeq.mk fun Kq hKq => ?_; conv => whnf)
    (refine hKq _ _ _ (.refl _) ?_; clear hKq Kq; conv => whnf)
    (refine VSeq.mk fun Kq hKq => ?_; conv => whnf)
    (refine hKq _ _ _ (.refl _) ?_; clear hKq Kq; conv => whnf)
    (refine hKq _ _ _ (.refl _) ?_; clear hKq Kq; conv => whnf)
    (refine VSeq.mk fun Kq hKq => ?_; conv => whnf)
    (refine hKq _ _ _ (.refl _) ?_; clear hKq Kq; conv => whnf)
    (exact ⟨rfl, hp.ext⟩)
    (refine ⟨_, _, Blk.ld (hp.get (i := 0) rfl) TTok rfl rfl, ?_⟩; conv => whnf)
    (refine hKq _ _ _ (.refl _) ?_; clear hKq Kq; conv => whnf)
    (refine VSeq.mk fun Kq hKq => ?_; conv => whnf)
    (refine ⟨fun hd => ?_, fun hd => ?_⟩ <;> (try simp only [Bool.not_eq_true', Bool.not_eq_false', decide_eq_true_eq, decide_eq_false_iff_not, ne_eq, Classical.not_not] at hd) <;> (conv => whnf))
    (refine hKq _ _ _ (.refl _) ?_; clear hKq Kq; conv => whnf)
    (refine VSeq.mk fun Kq hKq => ?_; conv => whnf)
    (refine hKq _ _ _ (.refl _) ?_; clear hKq Kq; conv => whnf)
    (refine hKq _ _ _ (.refl _) ?_; clear hKq Kq; conv => whnf)
    (refine VSeq.mk fun Kq hKq => ?_; conv => whnf)
    (refine hKq _ _ _ (.refl _) ?_; clear hKq Kq; conv => whnf)
    (exact ⟨rfl, hp.ext⟩)
    (refine ⟨_, _, Blk.ld (hp.get (i := 0) rfl) TTok rfl rfl, ?_⟩; conv => whnf)
    (refine hKq _ _ _ (.refl _) ?_; clear hKq Kq; conv => whnf)
    (refine VSeq.mk fun Kq hKq => ?_; conv => whnf)
    (refine ⟨fun hd => ?_, fun hd => ?_⟩ <;> (try simp only [Bool.not_eq_true', Bool.not_eq_false', decide_eq_true_eq, decide_eq_false_iff_not, ne_eq, Classical.not_not] at hd) <;> (conv => whnf))
    (refine hKq _ _ _ (.refl _) ?_; clear hKq Kq; conv => whnf)
    (refine hKq _ _ _ (.refl _) ?_; clear hKq Kq; conv => whnf)
    (refine VSeq.mk fun Kq hKq => ?_; conv => whnf)
    (refine hKq _ _ _ (.refl _) ?_; clear hKq Kq; conv => whnf)
    (exact ⟨rfl, hp.ext⟩)
    (refine ⟨_, _, Blk.ld (hp.get (i := 0) rfl) TTok rfl rfl, ?_⟩; conv => whnf)
    (refine hKq _ _ _ (.refl _) ?_; clear hKq Kq; conv => whnf)
    (refine ⟨fun hd => ?_, fun hd => ?_⟩ <;> (try simp only [Bool.not_eq_true', Bool.not_eq_false', decide_eq_true_eq, decide_eq_false_iff_not, ne_eq, Classical.not_not] at hd) <;> (conv => whnf))
    (refine hKq _ _ _ (.refl _) ?_; clear hKq Kq; conv => whnf)
    (refine VSeq.mk fun Kq hKq => ?_; conv => whnf)
    (refine hKq _ _ _ (.refl _) ?_; clear hKq Kq; conv => whnf)
    (exact ⟨rfl, hp.ext⟩)
    (refine ⟨_, _, Blk.ld (hp.get (i := 0) rfl) TTok rfl rfl, ?_⟩; conv => whnf)
    (refine hKq _ _ _ (.refl _) ?_; clear hKq Kq; conv => whnf)
    (refine And.intro (fun _ => ?_) (fun h => absurd (by first | rfl | assumption | omega | decide) (of_decide_eq_false h)); conv => whnf)
    (refine VSeq.mk fun Kq hKq => ?_; conv => whnf)
    (refine hKq _ _ _ (.refl _) ?_; clear hKq Kq; conv => whnf)
    (exact ⟨rfl, hp.ext⟩)
def attrL (a : At2) : List UInt8 := beL 2 a.1.toNat ++ beL 2 a.2.size ++ (padB a.2).data.toList
theorem attrL_len (a : At2) : (attrL a).length = atN a := by
  unfold attrL atN
  rw [List.length_append, List.length_append, beL_len, beL_len, toList_len, padB_size]
def attrsL (l : List At2) : List UInt8 := l.flatMap attrL
theorem attrsL_len : ∀ l : List At2, (attrsL l).length = sizeN l
  | [] => rfl
  | a :: l => by
    have := attrsL_len l
    unfold attrsL at this ⊢
    rw [List.flatMap_cons, List.length_append, attrL_len, this, sizeN]
theorem attrsL_take {l : List At2} {i : Nat} {a : At2} (h : l[i]? = some a) : attrsL (l.take (i + 1)) = attrsL (l.take i) ++ attrL a := by
  unfold attrsL
  rw [List.take_add_one, h, List.flatMap_append]
  simp
def headL (c m : Nat) (id : ByteArray) (n : Nat) : List UInt8 := beL 2 (kindN c m) ++ beL 2 n ++ beL 4 554869826 ++ id.data.toList
def wrB (c m : Nat) (id : ByteArray) (al : List At2) (more : Nat) : ByteArray := ⟨(headL c m id (sizeN al + more) ++ attrsL al).toArray⟩
theorem headL_len (c m : Nat) (id : ByteArray) (n : Nat) : (headL c m id n).length = 8 + id.size := by
  unfold headL
  rw [List.length_append, List.length_append, List.length_append, beL_len, beL_len, beL_len, toList_len]
theorem wrB_size (c m : Nat) (id : ByteArray) (al : List At2) (more : Nat) : (wrB c m id al more).size = 8 + id.size + sizeN al := by
  unfold wrB
  rw [bA_size, List.length_append, headL_len, attrsL_len]
theorem written_c {W : World} {v mv : Value} {al : List At2} (hv : SA W v al) (c m : Nat) (id : ByteArray) (more : Nat) (hmv : ∃ p n cp, mv = .slice p n cp) (hc : c < 4) (hm : m < 4096) (hid : id.size ≤ 100) (hal : ∀ a ∈ al, attrB a = true) (hl : al.length ≤ 100) (hs : sizeN al + more < 65536) :
    Calls Tryz.prog 65 #[.agg #[.int .i64 c, .int .i64 m, .string id, mv], v, .int .i64 more] W fun e w' => e = .returned (.string (wrB c m id al more)) ∧ Ext W w' := by
  obtain ⟨p, cp, rfl⟩ := hv.shape
  obtain ⟨mp, mn, mc, rfl⟩ := hmv
  have hk := kind_p c m hc hm
  have hkb := kindN_bd c m
  refine v_reads (args := [.agg #[.int .i64 c, .int .i64 m, .string id, .slice mp mn mc], .slice p al.length cp, .int .i64 more]) TTok FFok Tryz.func65 rfl rfl ?_
  conv => whnf
  refine VSeq.mk fun Kq hKq => ?_
  conv => whnf
  have hp := Hp.nil W
  (refine hp.kboxA fun q w hp hx => ?_; conv => whnf)
  (refine hKq _ _ _ (.refl _) ?_; clear hKq Kq; conv => whnf)
  (refine VSeq.mk fun Kq hKq => ?_; conv => whnf)
  (refine hp.kalloc z181 fun al181 w hp hx => ?_; conv => whnf)
  (refine hKq _ _ _ (.refl _) ?_; clear hKq Kq; conv => whnf)
  (refine VSeq.mk fun Kq hKq => ?_; conv => whnf)
  (refine hKq _ _ _ (.refl _) ?_; clear hKq Kq; conv => whnf)
  (refine VSeq.mk fun Kq hKq => ?_; conv => whnf)
  (refine ⟨_, _, Blk.ld (hp.get (i := 1) rfl) TTok rfl rfl, ?_⟩; conv => whnf)
  (refine ⟨_, _, Blk.ld (hp.get (i := 1) rfl) TTok rfl rfl, ?_⟩; conv => whnf)
  (refine V.CallW.out ?_; (conv => arg 3; dsimp only [EV.val, List.toList_toArray, List.nil_append, List.append_nil, List.cons_append]); (with_reducible refine V.PureF.useW (hk) fun w hx => ?_); try (have hp := hp.call hx); conv => whnf)
  have hp := hp.knil 5 1
  have hb : BSt [] W w al181 [] [blk q [.int .i64 c, .int .i64 m, .string id, .slice mp mn mc] 24] := ⟨.slice none 0 0, .pointer none, .inl rfl, hp⟩
  refine Calls.mono (put_c 2 (kindN c m) (by decide) (by decide) (by omega) hb (by decide)) ?_
  rintro _ w ⟨u, rfl, hb⟩
  refine ⟨_, rfl, ?_⟩
  conv => whnf
  refine hKq _ _ _ (.refl _) ?_
  clear hKq Kq
  conv => whnf
  refine VSeq.mk fun Kq hKq => ?_
  conv => whnf
  rw [List.nil_append] at hb
  have hx1 : Ext W w := by obtain ⟨_, _, _, h⟩ := hb; exact h.ext
  have hsz := size_c (W := w) (hv.ext hx1) (by omega) (fun a ha => by have := attrB_t (hal a ha); omega)
  have hszb := sizeN_le al (fun a ha => by have := attrB_t (hal a ha); omega)
  obtain ⟨v1, p1, hpp, hp⟩ := hb
  (refine V.CallW.out ?_; (conv => arg 3; dsimp only [EV.val, List.toList_toArray, List.nil_append, List.append_nil, List.cons_append]); (with_reducible refine V.CallsUseW (hsz) fun w hx => ?_); try (have hp := hp.call hx); conv => whnf)
  (refine Or.inl (And.intro (by first | omega | decide) ?_); conv => whnf)
  rw [show ((sizeN al : Nat) : Int) + ((more : Nat) : Int) = ((sizeN al + more : Nat) : Int) by omega]
  refine Calls.mono (put_c 2 (sizeN al + more) (by decide) (by decide) (by omega) ⟨_, _, hpp, hp⟩ (by rw [beL_len]; omega)) ?_
  rintro _ w ⟨u, rfl, hb⟩
  refine ⟨_, rfl, ?_⟩
  conv => whnf
  refine hKq _ _ _ (.refl _) ?_
  clear hKq Kq
  conv => whnf
  refine VSeq.mk fun Kq hKq => ?_
  conv => whnf
  refine Calls.mono (put_c 4 554869826 (by decide) (by decide) (by decide) hb (by rw [List.length_append, beL_len, beL_len]; omega)) ?_
  rintro _ w ⟨u, rfl, ⟨v1, p1, hpp, hp⟩⟩
  refine ⟨_, rfl, ?_⟩
  conv => whnf
  refine hKq _ _ _ (.refl _) ?_
  clear hKq Kq
  conv => whnf
  refine VSeq.mk fun Kq hKq => ?_
  conv => whnf
  (refine ⟨_, _, Blk.ld (hp.get (i := 2) rfl) TTok rfl rfl, ?_⟩; conv => whnf)
  refine Calls.mono (WriteString_c id ⟨_, _, hpp, hp⟩ (by rw [List.length_append, List.length_append, beL_len, beL_len, beL_len]; omega)) ?_
  rintro _ w ⟨u, rfl, hb⟩
  refine ⟨_, rfl, ?_⟩
  conv => whnf
  refine hKq _ _ _ (.refl _) ?_
  clear hKq Kq
  conv => whnf
  refine VSeq.mk fun Kq hKq => ?_
  conv => whnf
  refine VSeq.mk fun Kq hKq => ?_
  conv => whnf
  refine hKq _ _ _ (.refl _) ?_
  clear hKq Kq
  conv => whnf
  have hb : BSt [] W w al181 (headL c m id (sizeN al + more) ++ attrsL (al.take 0)) [blk q [.int .i64 c, .int .i64 m, .string id, .slice mp mn mc] 24] := by
    rw [List.take_zero, show attrsL [] = [] from rfl, List.append_nil]
    exact hb
  refine ⟨fun mm e w' => ∃ (i : Nat), mm + i = al.length ∧ e = [(7, .v (.pointer (some ⟨al181, 0, none⟩))), (8, .v (.func (.func 106) #[.pointer (some ⟨al181, 0, none⟩)] #[])), (31, .v (.slice p al.length cp)), (32, .v (.int .i64 al.length)), (33, .v (.int .i64 i))] ∧ BSt [] W w' al181 (headL c m id (sizeN al + more) ++ attrsL (al.take i)) [blk q [.int .i64 c, .int .i64 m, .string id, .slice mp mn mc] 24],
    ⟨al.length, _, ⟨0, by omega, rfl, hb⟩, sub_cons rfl (sub_cons rfl (sub_cons rfl (sub_cons rfl (sub_cons rfl sub_nil))))⟩, ?_⟩
  clear hb hp hx
  repeat clear hp
  rintro mm _ w ⟨i, hmm, rfl, ⟨v1, p1, hpp, hp⟩⟩
  have hxw := hp.ext
  have hpre : (headL c m id (sizeN al + more) ++ attrsL (al.take i)).length ≤ 2000000000 ∧ (headL c m id (sizeN al + more) ++ attrsL (al.take i)).length ≤ 200000 := by
    have h1 := sizeN_le (al.take i) (fun a ha => by have := attrB_t (hal a (List.mem_of_mem_take ha)); omega)
    have h2 : (al.take i).length ≤ al.length := by rw [List.length_take]; omega
    have h3 : sizeN (al.take i) ≤ sizeN al := by
      have := sizeN_app (al.take i) (al.drop i)
      rw [List.take_append_drop] at this
      omega
    rw [List.length_append, headL_len, attrsL_len]
    omega
  obtain ⟨PL, hPL⟩ : ∃ L, headL c m id (sizeN al + more) ++ attrsL (al.take i) = L := ⟨_, rfl⟩
  rw [hPL] at hp hpre
  conv => whnf
  refine VSeq.mk fun Kq hKq => ?_
  conv => whnf
  refine hKq _ _ _ (.refl _) ?_
  clear hKq Kq
  conv => whnf
  refine VSeq.mk fun Kq hKq => ?_
  conv => whnf
  refine ⟨fun hlt => ?_, fun hlt => ?_⟩
  · have hlt := of_decide_eq_true hlt
    conv => whnf
    refine hKq _ _ _ (.refl _) ?_
    clear hKq Kq
    conv => whnf
    refine VSeq.mk fun Kq hKq => ?_
    conv => whnf
    refine VSeq.mk fun Kq hKq => ?_
    conv => whnf
    obtain ⟨a, ha⟩ : ∃ a, al[i]? = some a := ⟨al[i]'(by omega), List.getElem?_eq_getElem (by omega)⟩
    obtain ⟨a1, a2, a3⟩ := attrB_t (hal a (List.mem_of_getElem? ha))
    have hat := attrsL_take ha
    obtain ⟨k, s⟩ := a
    dsimp only at a1 a2 a3
    obtain ⟨kn, rfl⟩ : ∃ kn : Nat, k = kn := ⟨k.toNat, by omega⟩
    obtain ⟨g, off, rfl, hld⟩ := (hv.ext hp.ext).at ha
    refine ⟨i, ⟨by first | rfl | omega, by show i < al.length; omega⟩, ?_⟩
    conv => whnf
    refine ⟨_, _, hld, ?_⟩
    conv => whnf
    (refine hp.kalloc z54 fun al54 w hp hx => ?_; conv => whnf)
    (refine hp.kstA TTok rfl 0 rfl rfl (oneC_of rfl) (by rfl) fun w hp => ?_; try simp only [List.set_cons_zero, List.set_cons_succ, EV.val] at hp; conv => whnf)
    (refine hKq _ _ _ (.refl _) ?_; clear hKq Kq; conv => whnf)
    (refine VSeq.mk fun Kq hKq => ?_; conv => whnf)
    (refine ⟨_, _, Blk.ld (hp.get (i := 0) rfl) TTok rfl rfl, ?_⟩; conv => whnf)
    have hp := hp.pick [1, 2, 0, 3] (by decide)
    refine Calls.mono (put_c 2 kn (by decide) (by decide) (by omega) ⟨_, _, hpp, hp⟩ (by omega)) ?_
    rintro _ w ⟨u, rfl, ⟨v1, p1, hpp, hp⟩⟩
    refine ⟨_, rfl, ?_⟩
    conv => whnf
    refine hKq _ _ _ (.refl _) ?_
    clear hKq Kq
    conv => whnf
    refine VSeq.mk fun Kq hKq => ?_
    conv => whnf
    (refine ⟨_, _, Blk.ld (hp.get (i := 2) rfl) TTok rfl rfl, ?_⟩; conv => whnf)
    refine Calls.mono (put_c 2 s.size (by decide) (by decide) (by omega) ⟨_, _, hpp, hp⟩ (by rw [List.length_append, beL_len]; omega)) ?_
    rintro _ w ⟨u, rfl, ⟨v1, p1, hpp, hp⟩⟩
    refine ⟨_, rfl, ?_⟩
    conv => whnf
    refine hKq _ _ _ (.refl _) ?_
    clear hKq Kq
    conv => whnf
    refine VSeq.mk fun Kq hKq => ?_
    conv => whnf
    have hpd := Pad_ok s (by omega)
    have hpz := padB_size s
    (refine ⟨_, _, Blk.ld (hp.get (i := 2) rfl) TTok rfl rfl, ?_⟩; conv => whnf)
    (refine V.CallW.out ?_; (conv => arg 3; dsimp only [EV.val, List.toList_toArray, List.nil_append, List.append_nil, List.cons_append]); refine V.PureF.useW (hpd) fun w hx => ?_; try (have hp := hp.call hx); conv => whnf)
    (refine hKq _ _ _ (.refl _) ?_; clear hKq Kq; conv => whnf)
    refine Calls.mono (WriteString_c (padB s) ⟨_, _, hpp, hp⟩ (by rw [List.length_append, List.length_append, beL_len, beL_len]; omega)) ?_
    rintro _ w ⟨u, rfl, ⟨v1, p1, hpp, hp⟩⟩
    refine ⟨_, rfl, ?_⟩
    conv => whnf
    refine hKq _ _ _ (.refl _) ?_
    clear hKq Kq
    conv => whnf
    refine Or.inl (And.intro (by omega) ?_)
    conv => whnf
    have hp := hp.pick [0, 1, 3] (by decide)
    have e1 : PL ++ beL 2 kn ++ beL 2 s.size ++ (padB s).data.toList = headL c m id (sizeN al + more) ++ attrsL (al.take (i + 1)) := by
      rw [hat, ← List.append_assoc, hPL]
      unfold attrL
      rw [Int.toNat_natCast]
      simp only [List.append_assoc]
    rw [e1] at hp
    exact ⟨mm - 1, _, by omega, ⟨i + 1, by omega, rfl, ⟨v1, p1, hpp, hp⟩⟩, sub_cons rfl (sub_cons rfl (sub_cons rfl (sub_cons rfl (sub_cons rfl sub_nil))))⟩
  · have hlt := of_decide_eq_false hlt
    conv => whnf
    clear hKq Kq
    refine hKq _ _ _ (.refl _) ?_
    clear hKq Kq
    conv => whnf
    refine VSeq.mk fun Kq hKq => ?_
    conv => whnf
    obtain rfl : i = al.length := by omega
    have hPL : wrB c m id al more = ⟨PL.toArray⟩ := by unfold wrB; rw [← hPL, List.take_of_length_le (Nat.le_refl _)]
    have hPl : 0 < PL.length := by
      have := wrB_size c m id al more
      rw [hPL, bA_size] at this
      omega
    skip
    refine Calls.mono (String_c ⟨_, _, hpp, hp⟩ hPl (by omega)) ?_
    rintro _ w ⟨u, rfl, rfl, hx⟩
    refine ⟨_, rfl, ?_⟩
    conv => whnf
    refine hKq _ _ _ (.refl _) ?_
    clear hKq Kq
    conv => whnf
    exact ⟨by rw [hPL]; rfl, hx⟩
def kindB (k : Int) (a : At2) : Bool := decide (a.1 = k)
def idxI (k : Int) (al : List At2) : Int := match al.findIdx? (kindB k) with
  | some i => (i : Nat)
  | none => -1
def hasB (k : Int) (al : List At2) : Bool := al.any (kindB k)
theorem idxI_pos (k : Int) (al : List At2) : decide (0 ≤ idxI k al) = hasB k al := by
  unfold idxI hasB
  cases h : al.findIdx? (kindB k) with
  | none =>
    have h2 := List.findIdx?_eq_none_iff.1 h
    have : al.any (kindB k) = false := by rw [List.any_eq_false]; intro x hx; rw [h2 x hx]; decide
    rw [this]
    show decide ((0 : Int) ≤ -1) = false
    decide
  | some i =>
    obtain ⟨hi, h2, _⟩ := List.findIdx?_eq_some_iff_getElem.1 h
    have : al.any (kindB k) = true := List.any_eq_true.2 ⟨al[i], List.getElem_mem hi, h2⟩
    rw [this]
    show decide ((0 : Int) ≤ ((i : Nat) : Int)) = true
    exact decide_eq_true (by omega)
theorem idx_hit {k : Int} {al : List At2} {i : Nat} {a : At2} (ha : al[i]? = some a) (hb : kindB k a = true) (hn : ∀ b ∈ al.take i, kindB k b = false) : idxI k al = i := by
  unfold idxI
  obtain ⟨hi, rfl⟩ := List.getElem?_eq_some_iff.1 ha
  have : al.findIdx? (kindB k) = some i := List.findIdx?_eq_some_iff_getElem.2 ⟨hi, hb, fun j hj => by
    have := hn al[j] (List.mem_take_iff_getElem.2 ⟨j, by omega, rfl⟩)
    rw [this]; decide⟩
  rw [this]
theorem idx_miss {k : Int} {al : List At2} (hn : ∀ b ∈ al, kindB k b = false) : idxI k al = -1 := by
  unfold idxI
  have : al.findIdx? (kindB k) = none := List.findIdx?_eq_none_iff.2 hn
  rw [this]
theorem has1_c {W : World} {qk : Nat} (k x : Int) (s : ByteArray) (hk : Blk W qk [.int .i64 k] 3) :
    Calls Tryz.prog 125 #[.agg #[.int .i64 x, .string s], .pointer (some ⟨qk, 0, none⟩)] W fun e w' => e = .returned (.bool (decide (x = k))) ∧ Ext W w' := by
  refine v_reads (args := [.agg #[.int .i64 x, .string s], .pointer (some ⟨qk, 0, none⟩)]) TTok FFok Tryz.func125 rfl rfl ?_
  conv => whnf
  refine VSeq.mk fun Kq hKq => ?_
  conv => whnf
  have hp := Hp.nil W
  (refine hp.kboxA fun q w hp hx => ?_; conv => whnf)
  (refine hKq _ _ _ (.refl _) ?_; clear hKq Kq; conv => whnf)
  (refine VSeq.mk fun Kq hKq => ?_; conv => whnf)
  (refine ⟨_, _, Blk.ld (hp.get (i := 0) rfl) TTok rfl rfl, ?_⟩; conv => whnf)
  (refine ⟨_, _, Blk.ld (Blk.ext hk hx) TTok rfl rfl, ?_⟩; conv => whnf)
  (refine hKq _ _ _ (.refl _) ?_; clear hKq Kq; conv => whnf)
  (exact ⟨rfl, hp.ext⟩)
theorem idx_has_c {W : World} {v : Value} {al : List At2} {qk : Nat} (k : Int) (hv : SA W v al) (hk : Blk W qk [.int .i64 k] 3) :
    Calls Tryz.prog 78 #[v, .func (.func 125) #[] #[.pointer (some ⟨qk, 0, none⟩)]] W fun e w' => e = .returned (.int .i64 (idxI k al)) ∧ Ext W w' := by
  have hml := hv.len
  obtain ⟨p, c, rfl⟩ := hv.shape
  refine v_reads (args := [.slice p al.length c, .func (.func 125) #[] #[.pointer (some ⟨qk, 0, none⟩)]]) TTok FFok Tryz.func78 rfl rfl ?_
  conv => whnf
  refine VSeq.mk fun Kq hKq => ?_
  conv => whnf
  refine hKq _ _ _ (.refl _) ?_
  clear hKq Kq
  conv => whnf
  refine VSeq.mk fun Kq hKq => ?_
  conv => whnf
  refine VSeq.mk fun Kq hKq => ?_
  conv => whnf
  refine hKq _ _ _ (.refl _) ?_
  clear hKq Kq
  conv => whnf
  refine ⟨fun mm e w' => ∃ (i : Nat), mm + i = al.length ∧ e = [(0, .v (.slice p al.length c)), (1, .v (.func (.func 125) #[] #[.pointer (some ⟨qk, 0, none⟩)])), (7, .v (.int .i64 al.length)), (8, .v (.int .i64 i))] ∧ (∀ b ∈ al.take i, kindB k b = false) ∧ Ext W w',
    ⟨al.length, _, ⟨0, by omega, rfl, by simp, Ext.refl _⟩, sub_cons rfl (sub_cons rfl (sub_cons rfl (sub_cons rfl sub_nil)))⟩, ?_⟩
  rintro mm _ w ⟨i, hmm, rfl, hn, hxw⟩
  conv => whnf
  refine VSeq.mk fun Kq hKq => ?_
  conv => whnf
  refine hKq _ _ _ (.refl _) ?_
  clear hKq Kq
  conv => whnf
  refine VSeq.mk fun Kq hKq => ?_
  conv => whnf
  refine ⟨fun hlt => ?_, fun hlt => ?_⟩
  · have hlt := of_decide_eq_true hlt
    conv => whnf
    refine hKq _ _ _ (.refl _) ?_
    clear hKq Kq
    conv => whnf
    refine VSeq.mk fun Kq hKq => ?_
    conv => whnf
    refine VSeq.mk fun Kq hKq => ?_
    conv => whnf
    refine hKq _ _ _ (.refl _) ?_
    clear hKq Kq
    conv => whnf
    refine VSeq.mk fun Kq hKq => ?_
    conv => whnf
    have hp := HpM.nil0 [] w
    obtain ⟨a, ha⟩ : ∃ a, al[i]? = some a := ⟨al[i]'(by omega), List.getElem?_eq_getElem (by omega)⟩
    obtain ⟨g, off, rfl, hld⟩ := (hv.ext hxw).at ha
    refine ⟨i, ⟨by first | rfl | omega, by show i < al.length; omega⟩, ?_⟩
    conv => whnf
    refine ⟨_, _, hld, ?_⟩
    conv => whnf
    refine V.CallsUse (has1_c k a.1 a.2 (Blk.ext hk hxw)) fun w hx => ?_
    try (have hp := hp.call hx)
    conv => whnf
    refine hKq _ _ _ (.refl _) ?_
    clear hKq Kq
    conv => whnf
    refine ⟨fun hq => ?_, fun hq => ?_⟩
    · have hq := of_decide_eq_true hq
      conv => whnf
      refine VSeq.mk fun Kq hKq => ?_
      conv => whnf
      refine hKq _ _ _ (.refl _) ?_
      clear hKq Kq
      conv => whnf
      have hb : kindB k a = true := decide_eq_true hq
      have hI := idx_hit ha hb hn
      conv => whnf
      exact ⟨by rw [hI]; rfl, hxw.trans hx⟩
    · have hq := of_decide_eq_false hq
      conv => whnf
      refine hKq _ _ _ (.refl _) ?_
      clear hKq Kq
      conv => whnf
      refine Or.inl (And.intro (by omega) ?_)
      conv => whnf
      have hb : kindB k a = false := decide_eq_false hq
      refine ⟨mm - 1, _, by omega, ⟨i + 1, by omega, rfl, fun b hbm => ?_, hxw.trans hx⟩, sub_cons rfl (sub_cons rfl (sub_cons rfl (sub_cons rfl sub_nil)))⟩
      rw [List.take_add_one, ha] at hbm
      rcases List.mem_append.1 hbm with h | h
      · exact hn b h
      · have : b = a := by simpa using h
        rw [this]; exact hb
  · have hlt := of_decide_eq_false hlt
    conv => whnf
    clear hKq Kq
    refine hKq _ _ _ (.refl _) ?_
    clear hKq Kq
    conv => whnf
    refine VSeq.mk fun Kq hKq => ?_
    conv => whnf
    refine hKq _ _ _ (.refl _) ?_
    clear hKq Kq
    conv => whnf
    obtain rfl : i = al.length := by omega
    rw [List.take_of_length_le (Nat.le_refl _)] at hn
    have hI := idx_miss hn
    conv => whnf
    exact ⟨by rw [hI]; rfl, hxw⟩
theorem contains_c {W : World} {v : Value} {al : List At2} {qk : Nat} (k : Int) (hv : SA W v al) (hk : Blk W qk [.int .i64 k] 3) :
    Calls Tryz.prog 124 #[v, .func (.func 125) #[] #[.pointer (some ⟨qk, 0, none⟩)]] W fun e w' => e = .returned (.bool (hasB k al)) ∧ Ext W w' := by
  obtain ⟨p, c, rfl⟩ := hv.shape
  have hI := idx_has_c (W := W) k hv hk
  have hP := idxI_pos k al
  refine v_reads (args := [.slice p al.length c, .func (.func 125) #[] #[.pointer (some ⟨qk, 0, none⟩)]]) TTok FFok Tryz.func124 rfl rfl ?_
  conv => whnf
  refine VSeq.mk fun Kq hKq => ?_
  conv => whnf
  refine hKq _ _ _ (.refl _) ?_
  clear hKq Kq
  conv => whnf
  refine VSeq.mk fun Kq hKq => ?_
  conv => whnf
  have hp := Hp.nil W
  (refine V.CallW.out ?_; (conv => arg 3; dsimp only [EV.val, List.toList_toArray, List.nil_append, List.append_nil, List.cons_append]); (with_reducible refine V.CallsUseW (hI) fun w hx => ?_); try (have hp := hp.call hx); conv => whnf)
  (refine hKq _ _ _ (.refl _) ?_; clear hKq Kq; conv => whnf)
  (refine ⟨congrArg Value.bool ?_, hp.ext⟩; rw [Bool.eq_iff_iff]; first | (simp only [Bool.or_eq_true, Bool.and_eq_true, decide_eq_true_eq, Bool.not_eq_true', decide_eq_false_iff_not, eq_self, true_and, and_true, true_iff, iff_true, false_iff, iff_false, reduceCtorEq, ne_eq, *] <;> omega) | (simp_all; fail_if_success skip) | (simp_all <;> omega))
theorem has_c {W : World} {v : Value} {al : List At2} (c m : Int) (id : ByteArray) (k : Int) (hv : SA W v al) :
    Calls Tryz.prog 89 #[.agg #[.int .i64 c, .int .i64 m, .string id, v], .int .i64 k] W fun e w' => e = .returned (.bool (hasB k al)) ∧ Ext W w' := by
  obtain ⟨p, cp, rfl⟩ := hv.shape
  refine v_reads (args := [.agg #[.int .i64 c, .int .i64 m, .string id, .slice p al.length cp], .int .i64 k]) TTok FFok Tryz.func89 rfl rfl ?_
  conv => whnf
  refine VSeq.mk fun Kq hKq => ?_
  conv => whnf
  have hp := Hp.nil W
  (refine hp.kboxA fun q w hp hx => ?_; conv => whnf)
  (refine hp.kboxA fun q w hp hx => ?_; conv => whnf)
  (refine hKq _ _ _ (.refl _) ?_; clear hKq Kq; conv => whnf)
  (refine VSeq.mk fun Kq hKq => ?_; conv => whnf)
  (refine ⟨_, _, Blk.ld (hp.get (i := 1) rfl) TTok rfl rfl, ?_⟩; conv => whnf)
  (refine V.CallW.out ?_; (conv => arg 3; dsimp only [EV.val, List.toList_toArray, List.nil_append, List.append_nil, List.cons_append]); (with_reducible refine V.CallsUseW (contains_c k (hv.ext hp.ext) (hp.get (i := 0) rfl)) fun w hx => ?_); try (have hp := hp.call hx); conv => whnf)
  (refine hKq _ _ _ (.refl _) ?_; clear hKq Kq; conv => whnf)
  (exact ⟨rfl, hp.ext⟩)
end Go.Proofs.YtmlmfmdmomegpaaGreatDoor
