/- Chapter 08: a builder of octets. -/
/- Chapter 08: lists of attributes. -/
/- Chapter 08: the octets of a message. -/
/- Chapter 08: lists of attributes, searched and copied. -/
/- Chapter 08: messages with an attribute more; integrity. -/
/- Chapter 08: messages are protected, and written. -/
/- Chapter 08: a message is protected. -/
/- Chapter 12: equal addresses, paths and probes. -/
/- Chapter 12: the agent's probes. -/
import Derived.Test.YtefjgoeabfgkmaaKN05
import Derived.Lib.Builder
import Derived.Test.YtefjgoeabfgkmaaKN03
namespace Go.Proofs.Ytefjgoeabfgkmaa
set_option linter.unusedSimpArgs false
set_option linter.unusedVariables false
set_option maxRecDepth 100000
open Go.RowKit V
/-- a buffer in block q that holds octets -/
def BSt (M : List Nat) (w0 w : World) (q : Nat) (l : List UInt8) (H : List It) : Prop :=
 ∃ v p : Value, (p = .pointer none ∨ p = .pointer (some ⟨q, 0, none⟩)) ∧ HpM M w0 w (row 5 1 v l.length (bytesV l) :: blk q [p, v] 138 :: H)
theorem noesc_x (x : Value) : extP Try.prog 53 #[x] (Extern.AbiNoEscape.same #[x]) := fun w => by
 rw [run_callFunc_extern (f := 53) (e := Extern.AbiNoEscape.same) Try.func53 (by kernel_rfl) (by kernel_rfl) (by kernel_rfl) (by kernel_rfl), Sem.run_bind]
 rfl
theorem ptr_ne_same (q : Nat) (xo yo : Operand) (w : World) : (do eqGuard .neq 74 xo yo (.pointer (some ⟨q, 0, none⟩)) (.pointer (some ⟨q, 0, none⟩)); binOp .neq 74 (.pointer (some ⟨q, 0, none⟩)) (.pointer (some ⟨q, 0, none⟩)) : Sem Value).run Try.prog w = .ok (.bool false) w := by
 obtain ⟨j, hj, _⟩ := (tab_entry (P := Try.prog) TTok (t := 76) rfl).2
 have h := Go.Lib.run_neq_ptr_same (P := Try.prog) (w := w) (tp := 74) (te := 76) ⟨q, 0, none⟩ (by kernel_rfl) hj
 have hg : (eqGuard .neq 74 xo yo (.pointer (some ⟨q, 0, none⟩)) (.pointer (some ⟨q, 0, none⟩)) : Sem Unit).run Try.prog w = .ok () w := by kernel_rfl
 rw [Sem.run_bind, hg]
 exact h
theorem copyCheck_c {M : List Nat} {w0 w : World} {q : Nat} {v p : Value} {X : It} {H : List It} (hpp : p = .pointer none ∨ p = .pointer (some ⟨q, 0, none⟩)) (hp : HpM M w0 w (X :: blk q [p, v] 138 :: H)) :
  Calls Try.prog 44 #[.pointer (some ⟨q, 0, none⟩)] w fun e w' => ∃ u, e = .returned u ∧ HpM M w0 w' (X :: blk q [.pointer (some ⟨q, 0, none⟩), v] 138 :: H) := by
 have hB : Blk w q [p, v] 138 := hp.get (i := 1) rfl
 obtain ⟨f, _, hheap⟩ := hB
 have hsh : w.shape? q = some (138, 2) := by simp [World.shape?, hheap]
 obtain ⟨j, hj, hjs⟩ := (tab_entry (P := Try.prog) TTok (t := 76) rfl).2
 rcases hpp with rfl | rfl
 ·refine v_fn (args := [.pointer (some ⟨q, 0, none⟩)]) TTok FFok Try.func44 rfl (Nat.le_of_ble_eq_true rfl) ?_
  conv => whnf
  refine VSeq.mk fun Kq hKq => ?_
  conv => whnf
  (refine ⟨_, _, Blk.ld (hp.get (i := 1) rfl) TTok rfl rfl, ?_⟩; conv => whnf)
  first | refine ⟨.bool true, w, by kernel_rfl, ?_⟩ | refine ⟨.bool true, w0, by kernel_rfl, ?_⟩
  conv => whnf
  refine hKq _ _ _ (.refl _) ?_
  clear hKq Kq
  conv => whnf
  refine And.intro (fun _ => ?_) (fun h => by cases h)
  conv => whnf
  refine ⟨.pointer (some ⟨q, 0, none⟩), w, Go.Lib.run_to_unsafe w (t := 76) ⟨q, 0, none⟩ (by kernel_rfl) (by kernel_rfl) hj (by rw [hjs]; decide) hsh (by show 0 < 2; decide), ?_⟩
  conv => whnf
  refine ⟨_, noesc_x _, _, w, Go.Lib.run_noEscape w _, ?_⟩
  conv => whnf
  refine ⟨.pointer (some ⟨q, 0, none⟩), w, Go.Lib.run_from_unsafe w (u := 76) ⟨q, 0, none⟩ (by kernel_rfl) (by kernel_rfl) hj hsh (by kernel_rfl), ?_⟩
  conv => whnf
  refine hp.kst1 TTok (by rfl) 1 (by rfl) (by rfl) (by rfl) (Nat.le_of_ble_eq_true rfl) fun w hp => ?_
  try simp only [List.set_cons_zero, List.set_cons_succ, EV.val] at hp
  conv => whnf
  exact hp
 ·refine v_fn (args := [.pointer (some ⟨q, 0, none⟩)]) TTok FFok Try.func44 rfl (Nat.le_of_ble_eq_true rfl) ?_
  conv => whnf
  refine VSeq.mk fun Kq hKq => ?_
  conv => whnf
  (refine ⟨_, _, Blk.ld (hp.get (i := 1) rfl) TTok rfl rfl, ?_⟩; conv => whnf)
  first | refine ⟨.bool false, w, by kernel_rfl, ?_⟩ | refine ⟨.bool false, w0, by kernel_rfl, ?_⟩
  conv => whnf
  refine hKq _ _ _ (.refl _) ?_
  clear hKq Kq
  conv => whnf
  refine And.intro (fun h => by cases h) (fun _ => ?_)
  conv => whnf
  refine VSeq.mk fun Kq hKq => ?_
  conv => whnf
  (refine ⟨_, _, Blk.ld (hp.get (i := 1) rfl) TTok rfl rfl, ?_⟩; conv => whnf)
  refine ⟨.bool false, w, ptr_ne_same q _ _ w, ?_⟩
  conv => whnf
  refine hKq _ _ _ (.refl _) ?_
  clear hKq Kq
  conv => whnf
  refine And.intro (fun h => by cases h) (fun _ => ?_)
  conv => whnf
  exact hp
theorem WriteString_c {M : List Nat} {w0 w : World} {q : Nat} {l : List UInt8} {H : List It} (s : ByteArray) (hb : BSt M w0 w q l H) (hl : l.length + s.size ≤ 1000000) :
  Calls Try.prog 32 #[.pointer (some ⟨q, 0, none⟩), .string s] w fun e w' => ∃ u, e = .returned u ∧ BSt M w0 w' q (l ++ s.data.toList) H := by
 have hsl := toList_len s
 obtain ⟨v, p, hpp, hp⟩ := hb
 refine v_fn (args := [.pointer (some ⟨q, 0, none⟩), .string s]) TTok FFok Try.func32 rfl (Nat.le_of_ble_eq_true rfl) ?_
 conv => whnf
 refine VSeq.mk fun Kq hKq => ?_
 conv => whnf
 refine hKq _ _ _ (.refl _) ?_
 clear hKq Kq
 conv => whnf
 refine VSeq.mk fun Kq hKq => ?_
 conv => whnf
 refine Calls.mono (copyCheck_c hpp hp) ?_
 rintro _ w ⟨u, rfl, hp⟩
 refine ⟨_, rfl, ?_⟩
 conv => whnf
 refine hKq _ _ _ (.refl _) ?_
 clear hKq Kq
 conv => whnf
 refine VSeq.mk fun Kq hKq => ?_
 conv => whnf
 (refine ⟨_, _, Blk.ld (hp.get (i := 1) rfl) TTok rfl rfl, ?_⟩; conv => whnf)
 refine hp.kapp sl67 0 rfl (Src.ofString _ (tab_str TTok rfl) s) (by omega) (by unfold maxLen; omega) fun v' w hp => ?_
 simp only [List.set_cons_zero] at hp
 have hp : HpM M w0 w (row 5 1 v' (l ++ s.data.toList).length (bytesV (l ++ s.data.toList)) :: blk q [.pointer (some ⟨q, 0, none⟩), v] 138 :: H) := by
  rw [List.length_append, hsl, bytesV_app]
  exact hp
 obtain ⟨pp, cc, rfl⟩ := row_shape (hp.get (i := 0) rfl)
 conv => whnf
 (refine hp.kst1 TTok (by rfl) 1 (by rfl) (by rfl) (by rfl) (Nat.le_of_ble_eq_true rfl) fun w hp => ?_; try simp only [List.set_cons_zero, List.set_cons_succ, EV.val] at hp; conv => whnf)
 (refine hKq _ _ _ (.refl _) ?_; clear hKq Kq; conv => whnf)
 (refine VSeq.mk fun Kq hKq => ?_; conv => whnf)
 (refine hKq _ _ _ (.refl _) ?_; clear hKq Kq; conv => whnf)
 exact ⟨_, _, .inr rfl, hp⟩
theorem put_c {M : List Nat} {w0 w : World} {q : Nat} {l : List UInt8} {H : List It} (n v : Nat) (h1 : 1 ≤ n) (h7 : n ≤ 7) (hv : v < 2 ^ (8 * n)) (hb : BSt M w0 w q l H) (hl : l.length ≤ 900000) :
  Calls Try.prog 77 #[.pointer (some ⟨q, 0, none⟩), .int .i64 n, .int .i64 v] w fun e w' => ∃ u, e = .returned u ∧ BSt M w0 w' q (l ++ beL n v) H := by
 obtain ⟨vv, p, hpp, hp⟩ := hb
 refine v_fn (args := [.pointer (some ⟨q, 0, none⟩), .int .i64 n, .int .i64 v]) TTok FFok Try.func77 rfl (Nat.le_of_ble_eq_true rfl) ?_
 conv => whnf
 refine VSeq.mk fun Kq hKq => ?_
 conv => whnf
 refine PureF.use (Put_ok n v h1 h7 hv) fun w hx => ?_
 have hp := hp.call hx
 conv => whnf
 refine hKq _ _ _ (.refl _) ?_
 clear hKq Kq
 conv => whnf
 refine Calls.mono (WriteString_c (beB n v) ⟨vv, p, hpp, hp⟩ (by rw [beB_size]; omega)) ?_
 rintro _ w ⟨u, rfl, hb⟩
 refine ⟨_, rfl, ?_⟩
 conv => whnf
 exact hb
theorem sdata_r (g n c : Nat) (hc : c ≠ 0) (ts : Array TypeId) (ty : TypeId) (w : World) : (Builtin.unsafeSliceData_ ts ty #[.slice (some ⟨g, 0, none⟩) n c]).run Try.prog w = .ok (.pointer (some ⟨g, 0, none⟩)) w := by
 have : Builtin.unsafeSliceData_ ts ty #[.slice (some ⟨g, 0, none⟩) n c] = (if c ≠ 0 then (Pure.pure (.pointer (some ⟨g, 0, none⟩)) : Sem Value) else (do if (← viewAt g).isSome then Pure.pure (.pointer (some ⟨g, 0, none⟩)) else Pure.pure (.pointer (some ⟨← newObj (.view ⟨g, 0, none⟩ (← elemOf ty)), 0, none⟩)))) := by
  unfold Builtin.unsafeSliceData_
  rfl
 rw [this, if_pos hc]
 rfl
theorem String_c {w0 w : World} {q : Nat} {l : List UInt8} {H : List It} (hb : BSt [] w0 w q l H) (h0 : 0 < l.length) (hl : l.length ≤ 1000000) :
  Calls Try.prog 34 #[.pointer (some ⟨q, 0, none⟩)] w fun e w' => ∃ u, e = .returned u ∧ u = .string ⟨l.toArray⟩ ∧ Ext w0 w' := by
 obtain ⟨v, p, hpp, hp⟩ := hb
 have hc : ∃ g c, v = .slice (some ⟨g, 0, none⟩) l.length c ∧ c ≠ 0 := by
  have hown : w.ownsRow 0 5 1 v l.length (bytesV l) := hp.get (i := 0) rfl
  obtain ⟨_, h2⟩ := hown
  rcases h2 with ⟨hv, hh⟩ | ⟨g, cap, cur, hv, _, hg, hle, _⟩
  ·exfalso; simp only [List.length_eq_zero_iff] at hh; subst hh; simp at h0
  ·exact ⟨g, cap, hv, by omega⟩
 obtain ⟨g', c', hv, hc0⟩ := hc
 obtain ⟨g, c, zs, rfl, hp⟩ := hp.toBlk0 0 rfl h0
 simp only [List.set_cons_zero] at hp
 have hc0 : c ≠ 0 := by injection hv with _ _ e; rw [e]; exact hc0
 have hl0 : l ≠ [] := fun h => by rw [h] at h0; simp at h0
 refine v_fn (args := [.pointer (some ⟨q, 0, none⟩)]) TTok FFok Try.func34 rfl (Nat.le_of_ble_eq_true rfl) ?_
 conv => whnf
 refine VSeq.mk fun Kq hKq => ?_
 conv => whnf
 refine hKq _ _ _ (.refl _) ?_
 clear hKq Kq
 conv => whnf
 refine VSeq.mk fun Kq hKq => ?_
 conv => whnf
 refine v_mix TTok FFok mixed 10 [(0, false), (1, false), (2, false), (3, false), (4, false), (5, false), (6, false), (7, false), (8, false), (9, false)] (by kernel_rfl) ?_
 conv => whnf
 refine ⟨_, fun w' hx' => Blk.ld (Blk.ext (hp.get (i := 1) rfl) hx') TTok rfl (rfl), ?_⟩
 conv => whnf
 refine ⟨.pointer (some ⟨g, 0, none⟩), fun w' _ => sdata_r g l.length c hc0 _ _ w', ?_⟩
 conv => whnf
 refine ⟨_, fun w' hx' => Blk.ld (Blk.ext (hp.get (i := 1) rfl) hx') TTok rfl (rfl), ?_⟩
 conv => whnf
 intro w hx
 try (have hp := hp.call hx)
 conv => whnf
 have hB : Blk w g (bytesV l ++ zs) 5 := hp.get (i := 0) rfl
 have hu := Go.Lib.run_unsafeString_row (P := Try.prog) (w := w) 98 3 9 5 (by kernel_rfl) (by kernel_rfl) g (l.length + zs.length) (by obtain ⟨f, hf, hh⟩ := hB; simp [World.shape?, hh, bytesV_len]) l hl0 (by omega) (by omega) (fun j x hj => by rw [add_none, Nat.zero_add, hB.cell, List.getElem?_append_left (by rw [bytesV_len]; exact (List.getElem?_eq_some_iff.1 hj).1)]; exact bytesV_get hj)
 refine ⟨_, _, hu, ?_⟩
 conv => whnf
 refine hKq _ _ _ (.refl _) ?_
 clear hKq Kq
 conv => whnf
 refine ⟨rfl, Ext_freeze hp.ext g _ ?_⟩
 have := (hp.lo _ (List.mem_cons_self) g rfl).1
 rcases this with h | h
 ·cases h
 ·exact h
abbrev At2 : Type := Int × ByteArray
def atC (a : At2) : List Value := [.int .i64 a.1, .string a.2]
def SA (w : World) (v : Value) (al : List At2) : Prop := SLn w 2 v (al.map atC)
theorem SA.shape {w : World} {v : Value} {al : List At2} (h : SA w v al) : ∃ p c, v = .slice p al.length c := by
 rcases h with ⟨rfl, h⟩ | ⟨a, c, rfl, h⟩ | ⟨g, off, c, rfl, _⟩
 ·have : al = [] := List.map_eq_nil_iff.1 h
  subst this; exact ⟨_, _, rfl⟩
 ·have : al = [] := List.map_eq_nil_iff.1 h
  subst this; exact ⟨_, _, rfl⟩
 ·exact ⟨_, _, by rw [List.length_map]⟩
theorem SA.len {w : World} {v : Value} {al : List At2} (h : SA w v al) : al.length ≤ 9223372036854775807 := by
 rcases h with ⟨_, h⟩ | ⟨a, c, _, h⟩ | ⟨g, off, c, _, h1, h2, _⟩
 ·have : al = [] := List.map_eq_nil_iff.1 h
  subst this; exact Nat.zero_le _
 ·have : al = [] := List.map_eq_nil_iff.1 h
  subst this; exact Nat.zero_le _
 ·rw [List.length_map] at h1
  unfold maxLen at h2
  omega
theorem SA.ext {w w' : World} {v : Value} {al : List At2} (h : SA w v al) (hx : Ext w w') : SA w' v al := by
 rcases h with h | h | ⟨g, off, c, hv, h1, h2, h3⟩
 ·exact .inl h
 ·exact .inr (.inl h)
 ·exact .inr (.inr ⟨g, off, c, hv, h1, h2, fun j x hj => ⟨(h3 j x hj).1, fun i y hy => Ext.cell hx ((h3 j x hj).2 i y hy)⟩⟩)
theorem SA.at {w : World} {p : Option Addr} {n c : Nat} {al : List At2} (h : SA w (.slice p n c) al) {j : Nat} {a : At2} (hj : al[j]? = some a) :
  ∃ g off, p = some ⟨g, off, none⟩ ∧ (Instr.loadAt 118 (.pointer (some ⟨g, addM off j 2, none⟩))).run Try.prog w = .ok (.agg #[.int .i64 a.1, .string a.2]) w := by
 have hm : (al.map atC)[j]? = some (atC a) := by rw [List.getElem?_map, hj]; rfl
 rcases h with ⟨hv, h⟩ | ⟨_, _, hv, h⟩ | ⟨g, off, c, hv, _, _, h3⟩
 ·rw [h] at hm; simp at hm
 ·rw [h] at hm; simp at hm
 ·simp only [Value.slice.injEq] at hv
  refine ⟨g, off, hv.1, ?_⟩
  exact run_ldN TTok rfl (vs := atC a) rfl fun i y hy => by
   have := (h3 j _ hm).2 i y hy
   rw [addM_eq, Nat.add_assoc]
   exact this
def atN (a : At2) : Nat := 4 + (a.2.size + 3) / 4 * 4
def sizeN : List At2 → Nat
 | [] => 0
 | a :: l => atN a + sizeN l
theorem sizeN_app (l m : List At2) : sizeN (l ++ m) = sizeN l + sizeN m := by
 induction l with
 | nil => simp [sizeN]
 | cons a l ih => rw [List.cons_append, sizeN, sizeN, ih]; omega
theorem sizeN_take {l : List At2} {i : Nat} {a : At2} (h : l[i]? = some a) : sizeN (l.take (i + 1)) = sizeN (l.take i) + atN a := by
 rw [List.take_add_one, h, sizeN_app]; rfl
theorem sizeN_le : ∀ l : List At2, (∀ a ∈ l, a.2.size ≤ 10000) → sizeN l ≤ l.length * 10010
 | [], _ => Nat.zero_le _
 | a :: l, h => by
  have h1 := h a List.mem_cons_self
  have h2 := sizeN_le l fun b hb => h b (List.mem_cons_of_mem _ hb)
  rw [sizeN, List.length_cons]
  unfold atN
  omega
theorem size_c {W : World} {v : Value} {al : List At2} (hv : SA W v al) (hl : al.length ≤ 1000) (hz : ∀ a ∈ al, a.2.size ≤ 10000) :
  Calls Try.prog 68 #[v] W fun e w' => e = .returned (.int .i64 (sizeN al)) ∧ Ext W w' := by
 obtain ⟨p, c, rfl⟩ := hv.shape
 refine v_reads (args := [.slice p al.length c]) TTok FFok Try.func68 rfl rfl ?_
 conv => whnf
 refine VSeq.mk fun Kq hKq => ?_
 conv => whnf
 refine hKq _ _ _ (.refl _) ?_
 clear hKq Kq
 conv => whnf
 refine VSeq.mk fun Kq hKq => ?_
 conv => whnf
 refine hKq _ _ _ (.refl _) ?_
 clear hKq Kq
 conv => whnf
 refine VSeq.mk fun Kq hKq => ?_
 conv => whnf
 refine VSeq.mk fun Kq hKq => ?_
 conv => whnf
 refine hKq _ _ _ (.refl _) ?_
 clear hKq Kq
 conv => whnf
 refine ⟨fun mm e w' => ∃ (i : Nat), mm + i = al.length ∧ e = [(3, .v (.int .i64 (sizeN (al.take i)))), (6, .v (.slice p al.length c)), (7, .v (.int .i64 al.length)), (8, .v (.int .i64 i))] ∧ Ext W w',
  ⟨al.length, _, ⟨0, by omega, rfl, Ext.refl _⟩, sub_cons rfl (sub_cons rfl (sub_cons rfl (sub_cons rfl sub_nil)))⟩, ?_⟩
 rintro mm _ w ⟨i, hmm, rfl, hxw⟩
 have hsl := sizeN_le (al.take i) fun a ha => hz a (List.mem_of_mem_take ha)
 have htl : (al.take i).length ≤ 1000 := by rw [List.length_take]; omega
 conv => whnf
 refine VSeq.mk fun Kq hKq => ?_
 conv => whnf
 refine hKq _ _ _ (.refl _) ?_
 clear hKq Kq
 conv => whnf
 refine VSeq.mk fun Kq hKq => ?_
 conv => whnf
 refine ⟨fun hlt => ?_, fun hlt => ?_⟩
 ·have hlt := of_decide_eq_true hlt
  conv => whnf
  refine hKq _ _ _ (.refl _) ?_
  clear hKq Kq
  conv => whnf
  refine VSeq.mk fun Kq hKq => ?_
  conv => whnf
  refine VSeq.mk fun Kq hKq => ?_
  conv => whnf
  have hp := HpM.nil0 [] w
  obtain ⟨a, ha⟩ : ∃ a, al[i]? = some a := ⟨al[i]'(by omega), List.getElem?_eq_getElem (by omega)⟩
  have haz := hz a (List.mem_of_getElem? ha)
  have hst := sizeN_take ha
  obtain ⟨g, off, rfl, hld⟩ := (hv.ext hxw).at ha
  unfold atN at hst
  refine ⟨i, ⟨by first | rfl | omega, by show i < al.length; omega⟩, ?_⟩
  conv => whnf
  refine ⟨_, _, hld, ?_⟩
  conv => whnf
  (refine hp.kalloc z118 fun al118 w hp hx => ?_; conv => whnf)
  (refine hp.kstA TTok rfl 0 rfl rfl (oneC_of rfl) (by rfl) fun w hp => ?_; try simp only [List.set_cons_zero, List.set_cons_succ, EV.val] at hp; conv => whnf)
  (refine hKq _ _ _ (.refl _) ?_; clear hKq Kq; conv => whnf)
  (refine ⟨_, _, Blk.ld (hp.get (i := 0) rfl) TTok rfl rfl, ?_⟩; conv => whnf)
  (refine Or.inl (And.intro (by first | omega | decide) ?_); conv => whnf)
  (refine And.intro (by first | omega | decide) ?_; conv => whnf)
  (refine Or.inl (And.intro (by first | omega | decide) ?_); conv => whnf)
  (refine Or.inl (And.intro (by first | omega | decide) ?_); conv => whnf)
  (refine Or.inl (And.intro (by first | omega | decide) ?_); conv => whnf)
  (refine hKq _ _ _ (.refl _) ?_; clear hKq Kq; conv => whnf)
  (refine Or.inl (And.intro (by first | omega | decide) ?_); conv => whnf)
  exact ⟨mm - 1, _, by omega, ⟨i + 1, by omega, rfl, hxw.trans hp.ext⟩, sub_cons (by show some _ = some _; congr 3; rw [hst]; omega) (sub_cons rfl (sub_cons rfl (sub_cons rfl sub_nil)))⟩
 ·have hlt := of_decide_eq_false hlt
  conv => whnf
  clear hKq Kq
  refine hKq _ _ _ (.refl _) ?_
  clear hKq Kq
  conv => whnf
  refine VSeq.mk fun Kq hKq => ?_
  conv => whnf
  refine hKq _ _ _ (.refl _) ?_
  clear hKq Kq
  conv => whnf
  obtain rfl : i = al.length := by omega
  rw [List.take_of_length_le (Nat.le_refl _)]
  exact ⟨rfl, hxw⟩
def attrB (a : At2) : Bool := decide (0 ≤ a.1) && (decide (a.1 ≤ 65535) && decide (a.2.size ≤ 763))
def stunB (c m : Int) (id : ByteArray) (al : List At2) : Bool :=
 (decide (0 ≤ c) && (decide (c ≤ 3) && (decide (0 ≤ m) && (decide (m ≤ 4095) && (decide (id.size = 12) && decide (al.length ≤ 30)))))) && (al.all attrB && decide (20 + sizeN al ≤ 1200))
theorem attrB_t {a : At2} (h : attrB a = true) : 0 ≤ a.1 ∧ a.1 ≤ 65535 ∧ a.2.size ≤ 763 := by unfold attrB at h; simpa using h
theorem attrB_f {a : At2} (h : ¬ (0 ≤ a.1 ∧ a.1 ≤ 65535 ∧ a.2.size ≤ 763)) : attrB a = false := by
 cases hb : attrB a with
 | false => rfl
 | true => exact absurd (attrB_t hb) h
theorem stunB_t {c m : Int} {id : ByteArray} {al : List At2} (h : stunB c m id al = true) : 0 ≤ c ∧ c ≤ 3 ∧ 0 ≤ m ∧ m ≤ 4095 ∧ id.size = 12 ∧ al.length ≤ 30 ∧ (∀ a ∈ al, attrB a = true) ∧ 20 + sizeN al ≤ 1200 := by
 unfold stunB at h
 simp only [Bool.and_eq_true, decide_eq_true_eq, List.all_eq_true] at h
 obtain ⟨⟨h1, h2, h3, h4, h5, h6⟩, h7, h8⟩ := h
 exact ⟨h1, h2, h3, h4, h5, h6, h7, h8⟩
theorem stunB_of {c m : Int} {id : ByteArray} {al : List At2} (h1 : 0 ≤ c) (h2 : c ≤ 3) (h3 : 0 ≤ m) (h4 : m ≤ 4095) (h5 : id.size = 12) (h6 : al.length ≤ 30) (h7 : ∀ a ∈ al, attrB a = true) (h8 : 20 + sizeN al ≤ 1200) : stunB c m id al = true := by
 unfold stunB
 simp only [Bool.and_eq_true, decide_eq_true_eq, List.all_eq_true]
 exact ⟨⟨h1, h2, h3, h4, h5, h6⟩, h7, h8⟩
theorem stunB_f {c m : Int} {id : ByteArray} {al : List At2} (h : ¬ stunB c m id al = true) : stunB c m id al = false := by
 cases hb : stunB c m id al with
 | false => rfl
 | true => exact absurd hb h
def chkN (c m : Int) (id : ByteArray) (al : List At2) : Nat := if stunB c m id al = true then 0 else 80
theorem Check_c {W : World} {v : Value} {al : List At2} (c m : Int) (id : ByteArray) (hv : SA W v al) :
  Calls Try.prog 58 #[.agg #[.int .i64 c, .int .i64 m, .string id, v]] W fun e w' => e = .returned (.int .i64 (chkN c m id al)) ∧ Ext W w' := by
 obtain ⟨p, cp, rfl⟩ := hv.shape
 by_cases hg : 0 ≤ c ∧ c ≤ 3 ∧ 0 ≤ m ∧ m ≤ 4095 ∧ id.size = 12 ∧ al.length ≤ 30
 ·obtain ⟨g1, g2, g3, g4, g5, g6⟩ := hg
  refine v_reads (args := [.agg #[.int .i64 c, .int .i64 m, .string id, .slice p al.length cp]]) TTok FFok Try.func58 rfl rfl ?_
  conv => whnf
  refine VSeq.mk fun Kq hKq => ?_
  conv => whnf
  have hp := Hp.nil W
  (refine hp.kboxA fun q w hp hx => ?_; conv => whnf)
  (refine hKq _ _ _ (.refl _) ?_; clear hKq Kq; conv => whnf)
  (refine VSeq.mk fun Kq hKq => ?_; conv => whnf)
  (refine VSeq.mk fun Kq hKq => ?_; conv => whnf)
  (refine VSeq.mk fun Kq hKq => ?_; conv => whnf)
  (refine ⟨_, _, Blk.ld (hp.get (i := 0) rfl) TTok rfl rfl, ?_⟩; conv => whnf)
  (refine hKq _ _ _ (.refl _) ?_; clear hKq Kq; conv => whnf)
  (refine VSeq.mk fun Kq hKq => ?_; conv => whnf)
  (refine And.intro (fun h => absurd (of_decide_eq_true h) (by first | (intro h2; exact absurd rfl h2) | omega | decide)) (fun _ => ?_); conv => whnf)
  (refine ⟨_, _, Blk.ld (hp.get (i := 0) rfl) TTok rfl rfl, ?_⟩; conv => whnf)
  (refine hKq _ _ _ (.refl _) ?_; clear hKq Kq; conv => whnf)
  (refine VSeq.mk fun Kq hKq => ?_; conv => whnf)
  (refine And.intro (fun h => absurd (of_decide_eq_true h) (by first | (intro h2; exact absurd rfl h2) | omega | decide)) (fun _ => ?_); conv => whnf)
  (refine ⟨_, _, Blk.ld (hp.get (i := 0) rfl) TTok rfl rfl, ?_⟩; conv => whnf)
  (refine hKq _ _ _ (.refl _) ?_; clear hKq Kq; conv => whnf)
  (refine VSeq.mk fun Kq hKq => ?_; conv => whnf)
  (refine And.intro (fun h => absurd (of_decide_eq_true h) (by first | (intro h2; exact absurd rfl h2) | omega | decide)) (fun _ => ?_); conv => whnf)
  (refine ⟨_, _, Blk.ld (hp.get (i := 0) rfl) TTok rfl rfl, ?_⟩; conv => whnf)
  (refine hKq _ _ _ (.refl _) ?_; clear hKq Kq; conv => whnf)
  (refine VSeq.mk fun Kq hKq => ?_; conv => whnf)
  (refine And.intro (fun h => absurd (of_decide_eq_true h) (by first | (intro h2; exact absurd rfl h2) | omega | decide)) (fun _ => ?_); conv => whnf)
  (refine ⟨_, _, Blk.ld (hp.get (i := 0) rfl) TTok rfl rfl, ?_⟩; conv => whnf)
  (refine hKq _ _ _ (.refl _) ?_; clear hKq Kq; conv => whnf)
  (refine And.intro (fun h => absurd (of_decide_eq_true h) (by first | (intro h2; exact absurd rfl h2) | omega | decide)) (fun _ => ?_); conv => whnf)
  (refine ⟨_, _, Blk.ld (hp.get (i := 0) rfl) TTok rfl rfl, ?_⟩; conv => whnf)
  (refine hKq _ _ _ (.refl _) ?_; clear hKq Kq; conv => whnf)
  (refine And.intro (fun h => absurd (of_decide_eq_true h) (by first | (intro h2; exact absurd rfl h2) | omega | decide)) (fun _ => ?_); conv => whnf)
  (refine hKq _ _ _ (.refl _) ?_; clear hKq Kq; conv => whnf)
  (refine VSeq.mk fun Kq hKq => ?_; conv => whnf)
  (refine VSeq.mk fun Kq hKq => ?_; conv => whnf)
  (refine ⟨_, _, Blk.ld (hp.get (i := 0) rfl) TTok rfl rfl, ?_⟩; conv => whnf)
  (refine hKq _ _ _ (.refl _) ?_; clear hKq Kq; conv => whnf)
  refine ⟨fun mm e w' => ∃ (i : Nat), mm + i = al.length ∧ e = [(1, .v (.pointer (some ⟨q, 0, none⟩))), (36, .v (.slice p al.length cp)), (37, .v (.int .i64 al.length)), (38, .v (.int .i64 i))] ∧ (∀ a ∈ al.take i, attrB a = true) ∧ HpM [] W w' [blk q [.int .i64 c, .int .i64 m, .string id, .slice p al.length cp] 102],
   ⟨al.length, _, ⟨0, by omega, rfl, by simp, hp⟩, sub_cons rfl (sub_cons rfl (sub_cons rfl (sub_cons rfl sub_nil)))⟩, ?_⟩
  clear hp hx
  repeat clear hp
  rintro mm _ w ⟨i, hmm, rfl, hall, hp⟩
  conv => whnf
  refine VSeq.mk fun Kq hKq => ?_
  conv => whnf
  refine hKq _ _ _ (.refl _) ?_
  clear hKq Kq
  conv => whnf
  refine VSeq.mk fun Kq hKq => ?_
  conv => whnf
  refine ⟨fun hlt => ?_, fun hlt => ?_⟩
  ·have hlt := of_decide_eq_true hlt
   conv => whnf
   refine hKq _ _ _ (.refl _) ?_
   clear hKq Kq
   conv => whnf
   refine VSeq.mk fun Kq hKq => ?_
   conv => whnf
   refine VSeq.mk fun Kq hKq => ?_
   conv => whnf
   obtain ⟨a, ha⟩ : ∃ a, al[i]? = some a := ⟨al[i]'(by omega), List.getElem?_eq_getElem (by omega)⟩
   obtain ⟨g, off, rfl, hld⟩ := (hv.ext hp.ext).at ha
   refine ⟨i, ⟨by first | rfl | omega, by show i < al.length; omega⟩, ?_⟩
   conv => whnf
   refine ⟨_, _, hld, ?_⟩
   conv => whnf
   by_cases hok : 0 ≤ a.1 ∧ a.1 ≤ 65535 ∧ a.2.size ≤ 763
   ·obtain ⟨k1, k2, k3⟩ := hok
    have haB : attrB a = true := by unfold attrB; simp only [Bool.and_eq_true, decide_eq_true_eq]; exact ⟨k1, k2, k3⟩
    (refine hp.kalloc z118 fun al118 w hp hx => ?_; conv => whnf)
    (refine hp.kstA TTok rfl 0 rfl rfl (oneC_of rfl) (by rfl) fun w hp => ?_; try simp only [List.set_cons_zero, List.set_cons_succ, EV.val] at hp; conv => whnf)
    (refine hKq _ _ _ (.refl _) ?_; clear hKq Kq; conv => whnf)
    (refine VSeq.mk fun Kq hKq => ?_; conv => whnf)
    (refine VSeq.mk fun Kq hKq => ?_; conv => whnf)
    (refine ⟨_, _, Blk.ld (hp.get (i := 0) rfl) TTok rfl rfl, ?_⟩; conv => whnf)
    (refine hKq _ _ _ (.refl _) ?_; clear hKq Kq; conv => whnf)
    (refine VSeq.mk fun Kq hKq => ?_; conv => whnf)
    (refine And.intro (fun h => absurd (of_decide_eq_true h) (by first | (intro h2; exact absurd rfl h2) | omega | decide)) (fun _ => ?_); conv => whnf)
    (refine ⟨_, _, Blk.ld (hp.get (i := 0) rfl) TTok rfl rfl, ?_⟩; conv => whnf)
    (refine hKq _ _ _ (.refl _) ?_; clear hKq Kq; conv => whnf)
    (refine And.intro (fun h => absurd (of_decide_eq_true h) (by first | (intro h2; exact absurd rfl h2) | omega | decide)) (fun _ => ?_); conv => whnf)
    (refine ⟨_, _, Blk.ld (hp.get (i := 0) rfl) TTok rfl rfl, ?_⟩; conv => whnf)
    (refine hKq _ _ _ (.refl _) ?_; clear hKq Kq; conv => whnf)
    (refine And.intro (fun h => absurd (of_decide_eq_true h) (by first | (intro h2; exact absurd rfl h2) | omega | decide)) (fun _ => ?_); conv => whnf)
    (refine hKq _ _ _ (.refl _) ?_; clear hKq Kq; conv => whnf)
    (refine Or.inl (And.intro (by first | omega | decide) ?_); conv => whnf)
    refine ⟨mm - 1, _, by omega, ⟨i + 1, by omega, rfl, fun b hb => ?_, hp.tail⟩, sub_cons rfl (sub_cons rfl (sub_cons rfl (sub_cons rfl sub_nil)))⟩
    rw [List.take_add_one, ha] at hb
    rcases List.mem_append.1 hb with hb | hb
    ·exact hall b hb
    ·have : b = a := by simpa using hb
     rw [this]; exact haB
   ·have haB := attrB_f hok
    have hb : stunB c m id al = false := stunB_f fun h => by
     have := (stunB_t h).2.2.2.2.2.2.1 a (List.mem_of_getElem? ha)
     rw [haB] at this; cases this
    have hN : chkN c m id al = 80 := by unfold chkN; rw [hb]; rfl
    (refine hp.kalloc z118 fun al118 w hp hx => ?_; conv => whnf)
    (refine hp.kstA TTok rfl 0 rfl rfl (oneC_of rfl) (by rfl) fun w hp => ?_; try simp only [List.set_cons_zero, List.set_cons_succ, EV.val] at hp; conv => whnf)
    (refine hKq _ _ _ (.refl _) ?_; clear hKq Kq; conv => whnf)
    (refine VSeq.mk fun Kq hKq => ?_; conv => whnf)
    (refine VSeq.mk fun Kq hKq => ?_; conv => whnf)
    (refine ⟨_, _, Blk.ld (hp.get (i := 0) rfl) TTok rfl rfl, ?_⟩; conv => whnf)
    (refine hKq _ _ _ (.refl _) ?_; clear hKq Kq; conv => whnf)
    (refine VSeq.mk fun Kq hKq => ?_; conv => whnf)
    (refine ⟨fun hd => ?_, fun hd => ?_⟩ <;> (try simp only [Bool.not_eq_true', Bool.not_eq_false', decide_eq_true_eq, decide_eq_false_iff_not, ne_eq, Classical.not_not] at hd) <;> (conv => whnf))
    (refine hKq _ _ _ (.refl _) ?_; clear hKq Kq; conv => whnf)
    (refine hKq _ _ _ (.refl _) ?_; clear hKq Kq; conv => whnf)
    (refine VSeq.mk fun Kq hKq => ?_; conv => whnf)
    (refine hKq _ _ _ (.refl _) ?_; clear hKq Kq; conv => whnf)
    (exact ⟨by (first | (rw [hN]; rfl) | fail), hp.ext⟩)
    (refine ⟨_, _, Blk.ld (hp.get (i := 0) rfl) TTok rfl rfl, ?_⟩; conv => whnf)
    (refine hKq _ _ _ (.refl _) ?_; clear hKq Kq; conv => whnf)
    (refine ⟨fun hd => ?_, fun hd => ?_⟩ <;> (try simp only [Bool.not_eq_true', Bool.not_eq_false', decide_eq_true_eq, decide_eq_false_iff_not, ne_eq, Classical.not_not] at hd) <;> (conv => whnf))
    (refine hKq _ _ _ (.refl _) ?_; clear hKq Kq; conv => whnf)
    (refine VSeq.mk fun Kq hKq => ?_; conv => whnf)
    (refine hKq _ _ _ (.refl _) ?_; clear hKq Kq; conv => whnf)
    (exact ⟨by (first | (rw [hN]; rfl) | fail), hp.ext⟩)
    (refine ⟨_, _, Blk.ld (hp.get (i := 0) rfl) TTok rfl rfl, ?_⟩; conv => whnf)
    (refine hKq _ _ _ (.refl _) ?_; clear hKq Kq; conv => whnf)
    (refine And.intro (fun _ => ?_) (fun h => absurd (by first | rfl | assumption | omega | decide) (of_decide_eq_false h)); conv => whnf)
    (refine VSeq.mk fun Kq hKq => ?_; conv => whnf)
    (refine hKq _ _ _ (.refl _) ?_; clear hKq Kq; conv => whnf)
    (exact ⟨by (first | (rw [hN]; rfl) | fail), hp.ext⟩)
  ·have hlt := of_decide_eq_false hlt
   conv => whnf
   clear hKq Kq
   refine hKq _ _ _ (.refl _) ?_
   clear hKq Kq
   conv => whnf
   refine VSeq.mk fun Kq hKq => ?_
   conv => whnf
   refine VSeq.mk fun Kq hKq => ?_
   conv => whnf
   obtain rfl : i = al.length := by omega
   rw [List.take_of_length_le (Nat.le_refl _)] at hall
   have hz := size_c (W := w) (hv.ext hp.ext) (by omega) (fun a ha => by have := attrB_t (hall a ha); omega)
   have hsz := sizeN_le al (fun a ha => by have := attrB_t (hall a ha); omega)
   by_cases h8 : 20 + sizeN al ≤ 1200
   ·have hb : stunB c m id al = true := stunB_of g1 g2 g3 g4 g5 g6 hall h8
    have hN : chkN c m id al = 0 := by unfold chkN; rw [hb]; rfl
    (refine ⟨_, _, Blk.ld (hp.get (i := 0) rfl) TTok rfl rfl, ?_⟩; conv => whnf)
    (refine V.CallW.out ?_; (conv => arg 3; dsimp only [EV.val, List.toList_toArray, List.nil_append, List.append_nil, List.cons_append]); (with_reducible refine V.CallsUseW (hz) fun w hx => ?_); try (have hp := hp.call hx); conv => whnf)
    (refine Or.inl (And.intro (by first | omega | decide) ?_); conv => whnf)
    (refine hKq _ _ _ (.refl _) ?_; clear hKq Kq; conv => whnf)
    (refine And.intro (fun h => absurd (of_decide_eq_true h) (by first | (intro h2; exact absurd rfl h2) | omega | decide)) (fun _ => ?_); conv => whnf)
    (refine hKq _ _ _ (.refl _) ?_; clear hKq Kq; conv => whnf)
    (refine VSeq.mk fun Kq hKq => ?_; conv => whnf)
    (refine hKq _ _ _ (.refl _) ?_; clear hKq Kq; conv => whnf)
    (exact ⟨by (first | (rw [hN]; rfl) | fail), hp.ext⟩)
   ·have hb : stunB c m id al = false := stunB_f fun h => h8 (stunB_t h).2.2.2.2.2.2.2
    have hN : chkN c m id al = 80 := by unfold chkN; rw [hb]; rfl
    (refine ⟨_, _, Blk.ld (hp.get (i := 0) rfl) TTok rfl rfl, ?_⟩; conv => whnf)
    (refine V.CallW.out ?_; (conv => arg 3; dsimp only [EV.val, List.toList_toArray, List.nil_append, List.append_nil, List.cons_append]); (with_reducible refine V.CallsUseW (hz) fun w hx => ?_); try (have hp := hp.call hx); conv => whnf)
    (refine Or.inl (And.intro (by first | omega | decide) ?_); conv => whnf)
    (refine hKq _ _ _ (.refl _) ?_; clear hKq Kq; conv => whnf)
    (refine And.intro (fun _ => ?_) (fun h => absurd (by first | rfl | assumption | omega | decide) (of_decide_eq_false h)); conv => whnf)
    (refine VSeq.mk fun Kq hKq => ?_; conv => whnf)
    (refine hKq _ _ _ (.refl _) ?_; clear hKq Kq; conv => whnf)
    (exact ⟨by (first | (rw [hN]; rfl) | fail), hp.ext⟩)
 ·have hb : stunB c m id al = false := stunB_f fun h => hg (by have := stunB_t h; exact ⟨this.1, this.2.1, this.2.2.1, this.2.2.2.1, this.2.2.2.2.1, this.2.2.2.2.2.1⟩)
  unfold chkN
  rw [hb]
  refine v_reads (args := [.agg #[.int .i64 c, .int .i64 m, .string id, .slice p al.length cp]]) TTok FFok Try.func58 rfl rfl ?_
  conv => whnf
  refine VSeq.mk fun Kq hKq => ?_
  conv => whnf
  have hp := Hp.nil W
  (refine hp.kboxA fun q w hp hx => ?_; conv => whnf)
  (refine hKq _ _ _ (.refl _) ?_; clear hKq Kq; conv => whnf)
  (refine VSeq.mk fun Kq hKq => ?_; conv => whnf)
  (refine VSeq.mk fun Kq hKq => ?_; conv => whnf)
  (refine VSeq.mk fun Kq hKq => ?_; conv => whnf)
  (refine ⟨_, _, Blk.ld (hp.get (i := 0) rfl) TTok rfl rfl, ?_⟩; conv => whnf)
  (refine hKq _ _ _ (.refl _) ?_; clear hKq Kq; conv => whnf)
  (refine VSeq.mk fun Kq hKq => ?_; conv => whnf)
  (refine ⟨fun hd => ?_, fun hd => ?_⟩ <;> (try simp only [Bool.not_eq_true', Bool.not_eq_false', decide_eq_true_eq, decide_eq_false_iff_not, ne_eq, Classical.not_not] at hd) <;> (conv => whnf))
  (refine hKq _ _ _ (.refl _) ?_; clear hKq Kq; conv => whnf)
  (refine VSeq.mk fun Kq hKq => ?_; conv => whnf)
  (refine hKq _ _ _ (.refl _) ?_; clear hKq Kq; conv => whnf)
  (refine VSeq.mk fun Kq hKq => ?_; conv => whnf)
  (refine hKq _ _ _ (.refl _) ?_; clear hKq Kq; conv => whnf)
  (refine VSeq.mk fun Kq hKq => ?_; conv => whnf)
  (refine hKq _ _ _ (.refl _) ?_; clear hKq Kq; conv => whnf)
  (refine hKq _ _ _ (.refl _) ?_; clear hKq Kq; conv => whnf)
  (refine VSeq.mk fun Kq hKq => ?_; conv => whnf)
  (refine hKq _ _ _ (.refl _) ?_; clear hKq Kq; conv => whnf)
  (exact ⟨rfl, hp.ext⟩)
  (refine ⟨_, _, Blk.ld (hp.get (i := 0) rfl) TTok rfl rfl, ?_⟩; conv => whnf)
  (refine hKq _ _ _ (.refl _) ?_; clear hKq Kq; conv => whnf)
  (refine VSeq.mk fun Kq hKq => ?_; conv => whnf)
  (refine ⟨fun hd => ?_, fun hd => ?_⟩ <;> (try simp only [Bool.not_eq_true', Bool.not_eq_false', decide_eq_true_eq, decide_eq_false_iff_not, ne_eq, Classical.not_not] at hd) <;> (conv => whnf))
  (refine hKq _ _ _ (.refl _) ?_; clear hKq Kq; conv => whnf)
  (refine VSeq.mk fun Kq hKq => ?_; conv => whnf)
  (refine hKq _ _ _ (.refl _) ?_; clear hKq Kq; conv => whnf)
  (refine VSeq.mk fun Kq hKq => ?_; conv => whnf)
  (refine hKq _ _ _ (.refl _) ?_; clear hKq Kq; conv => whnf)
  (refine hKq _ _ _ (.refl _) ?_; clear hKq Kq; conv => whnf)
  (refine VSeq.mk fun Kq hKq => ?_; conv => whnf)
  (refine hKq _ _ _ (.refl _) ?_; clear hKq Kq; conv => whnf)
  (exact ⟨rfl, hp.ext⟩)
  (refine ⟨_, _, Blk.ld (hp.get (i := 0) rfl) TTok rfl rfl, ?_⟩; conv => whnf)
  (refine hKq _ _ _ (.refl _) ?_; clear hKq Kq; conv => whnf)
  (refine VSeq.mk fun Kq hKq => ?_; conv => whnf)
  (refine ⟨fun hd => ?_, fun hd => ?_⟩ <;> (try simp only [Bool.not_eq_true', Bool.not_eq_false', decide_eq_true_eq, decide_eq_false_iff_not, ne_eq, Classical.not_not] at hd) <;> (conv => whnf))
  (refine hKq _ _ _ (.refl _) ?_; clear hKq Kq; conv => whnf)
  (refine VSeq.mk fun Kq hKq => ?_; conv => whnf)
  (refine hKq _ _ _ (.refl _) ?_; clear hKq Kq; conv => whnf)
  (refine hKq _ _ _ (.refl _) ?_; clear hKq Kq; conv => whnf)
  (refine VSeq.mk fun Kq hKq => ?_; conv => whnf)
  (refine hKq _ _ _ (.refl _) ?_; clear hKq Kq; conv => whnf)
  (exact ⟨rfl, hp.ext⟩)
  (refine ⟨_, _, Blk.ld (hp.get (i := 0) rfl) TTok rfl rfl, ?_⟩; conv => whnf)
  (refine hKq _ _ _ (.refl _) ?_; clear hKq Kq; conv => whnf)
  (refine VSeq.mk fun Kq hKq => ?_; conv => whnf)
  (refine ⟨fun hd => ?_, fun hd => ?_⟩ <;> (try simp only [Bool.not_eq_true', Bool.not_eq_false', decide_eq_true_eq, decide_eq_false_iff_not, ne_eq, Classical.not_not] at hd) <;> (conv => whnf))
  (refine hKq _ _ _ (.refl _) ?_; clear hKq Kq; conv => whnf)
  (refine hKq _ _ _ (.refl _) ?_; clear hKq Kq; conv => whnf)
  (refine VSeq.mk fun Kq hKq => ?_; conv => whnf)
  (refine hKq _ _ _ (.refl _) ?_; clear hKq Kq; conv => whnf)
  (exact ⟨rfl, hp.ext⟩)
  (refine ⟨_, _, Blk.ld (hp.get (i := 0) rfl) TTok rfl rfl, ?_⟩; conv => whnf)
  (refine hKq _ _ _ (.refl _) ?_; clear hKq Kq; conv => whnf)
  (refine ⟨fun hd => ?_, fun hd => ?_⟩ <;> (try simp only [Bool.not_eq_true', Bool.not_eq_false', decide_eq_true_eq, decide_eq_false_iff_not, ne_eq, Classical.not_not] at hd) <;> (conv => whnf))
  (refine hKq _ _ _ (.refl _) ?_; clear hKq Kq; conv => whnf)
  (refine VSeq.mk fun Kq hKq => ?_; conv => whnf)
  (refine hKq _ _ _ (.refl _) ?_; clear hKq Kq; conv => whnf)
  (exact ⟨rfl, hp.ext⟩)
  (refine ⟨_, _, Blk.ld (hp.get (i := 0) rfl) TTok rfl rfl, ?_⟩; conv => whnf)
  (refine hKq _ _ _ (.refl _) ?_; clear hKq Kq; conv => whnf)
  (refine And.intro (fun _ => ?_) (fun h => absurd (by first | rfl | assumption | omega | decide) (of_decide_eq_false h)); conv => whnf)
  (refine VSeq.mk fun Kq hKq => ?_; conv => whnf)
  (refine hKq _ _ _ (.refl _) ?_; clear hKq Kq; conv => whnf)
  (exact ⟨rfl, hp.ext⟩)
def attrL (a : At2) : List UInt8 := beL 2 a.1.toNat ++ beL 2 a.2.size ++ (padB a.2).data.toList
theorem attrL_len (a : At2) : (attrL a).length = atN a := by
 unfold attrL atN
 rw [List.length_append, List.length_append, beL_len, beL_len, toList_len, padB_size]
def attrsL (l : List At2) : List UInt8 := l.flatMap attrL
theorem attrsL_len : ∀ l : List At2, (attrsL l).length = sizeN l
 | [] => rfl
 | a :: l => by
  have := attrsL_len l
  unfold attrsL at this ⊢
  rw [List.flatMap_cons, List.length_append, attrL_len, this, sizeN]
theorem attrsL_take {l : List At2} {i : Nat} {a : At2} (h : l[i]? = some a) : attrsL (l.take (i + 1)) = attrsL (l.take i) ++ attrL a := by
 unfold attrsL
 rw [List.take_add_one, h, List.flatMap_append]
 simp
def headL (c m : Nat) (id : ByteArray) (n : Nat) : List UInt8 := beL 2 (kindN c m) ++ beL 2 n ++ beL 4 554869826 ++ id.data.toList
def wrB (c m : Nat) (id : ByteArray) (al : List At2) (more : Nat) : ByteArray := ⟨(headL c m id (sizeN al + more) ++ attrsL al).toArray⟩
theorem headL_len (c m : Nat) (id : ByteArray) (n : Nat) : (headL c m id n).length = 8 + id.size := by
 unfold headL
 rw [List.length_append, List.length_append, List.length_append, beL_len, beL_len, beL_len, toList_len]
theorem wrB_size (c m : Nat) (id : ByteArray) (al : List At2) (more : Nat) : (wrB c m id al more).size = 8 + id.size + sizeN al := by
 unfold wrB
 rw [bA_size, List.length_append, headL_len, attrsL_len]
theorem written_c {W : World} {v mv : Value} {al : List At2} (hv : SA W v al) (c m : Nat) (id : ByteArray) (more : Nat) (hmv : ∃ p n cp, mv = .slice p n cp) (hc : c < 4) (hm : m < 4096) (hid : id.size ≤ 100) (hal : ∀ a ∈ al, attrB a = true) (hl : al.length ≤ 100) (hs : sizeN al + more < 65536) :
  Calls Try.prog 66 #[.agg #[.int .i64 c, .int .i64 m, .string id, mv], v, .int .i64 more] W fun e w' => e = .returned (.string (wrB c m id al more)) ∧ Ext W w' := by
 obtain ⟨p, cp, rfl⟩ := hv.shape
 obtain ⟨mp, mn, mc, rfl⟩ := hmv
 have hk := kind_p c m hc hm
 have hkb := kindN_bd c m
 refine v_reads (args := [.agg #[.int .i64 c, .int .i64 m, .string id, .slice mp mn mc], .slice p al.length cp, .int .i64 more]) TTok FFok Try.func66 rfl rfl ?_
 conv => whnf
 refine VSeq.mk fun Kq hKq => ?_
 conv => whnf
 have hp := Hp.nil W
 (refine hp.kboxA fun q w hp hx => ?_; conv => whnf)
 (refine hKq _ _ _ (.refl _) ?_; clear hKq Kq; conv => whnf)
 (refine VSeq.mk fun Kq hKq => ?_; conv => whnf)
 (refine hp.kalloc z138 fun al138 w hp hx => ?_; conv => whnf)
 (refine hKq _ _ _ (.refl _) ?_; clear hKq Kq; conv => whnf)
 (refine VSeq.mk fun Kq hKq => ?_; conv => whnf)
 (refine hKq _ _ _ (.refl _) ?_; clear hKq Kq; conv => whnf)
 (refine VSeq.mk fun Kq hKq => ?_; conv => whnf)
 (refine ⟨_, _, Blk.ld (hp.get (i := 1) rfl) TTok rfl rfl, ?_⟩; conv => whnf)
 (refine ⟨_, _, Blk.ld (hp.get (i := 1) rfl) TTok rfl rfl, ?_⟩; conv => whnf)
 (refine V.CallW.out ?_; (conv => arg 3; dsimp only [EV.val, List.toList_toArray, List.nil_append, List.append_nil, List.cons_append]); (with_reducible refine V.PureF.useW (hk) fun w hx => ?_); try (have hp := hp.call hx); conv => whnf)
 have hp := hp.knil 5 1
 have hb : BSt [] W w al138 [] [blk q [.int .i64 c, .int .i64 m, .string id, .slice mp mn mc] 102] := ⟨.slice none 0 0, .pointer none, .inl rfl, hp⟩
 refine Calls.mono (put_c 2 (kindN c m) (by decide) (by decide) (by omega) hb (by decide)) ?_
 rintro _ w ⟨u, rfl, hb⟩
 refine ⟨_, rfl, ?_⟩
 conv => whnf
 refine hKq _ _ _ (.refl _) ?_
 clear hKq Kq
 conv => whnf
 refine VSeq.mk fun Kq hKq => ?_
 conv => whnf
 rw [List.nil_append] at hb
 have hx1 : Ext W w := by obtain ⟨_, _, _, h⟩ := hb; exact h.ext
 have hsz := size_c (W := w) (hv.ext hx1) (by omega) (fun a ha => by have := attrB_t (hal a ha); omega)
 have hszb := sizeN_le al (fun a ha => by have := attrB_t (hal a ha); omega)
 obtain ⟨v1, p1, hpp, hp⟩ := hb
 (refine V.CallW.out ?_; (conv => arg 3; dsimp only [EV.val, List.toList_toArray, List.nil_append, List.append_nil, List.cons_append]); (with_reducible refine V.CallsUseW (hsz) fun w hx => ?_); try (have hp := hp.call hx); conv => whnf)
 (refine Or.inl (And.intro (by first | omega | decide) ?_); conv => whnf)
 rw [show ((sizeN al : Nat) : Int) + ((more : Nat) : Int) = ((sizeN al + more : Nat) : Int) by omega]
 refine Calls.mono (put_c 2 (sizeN al + more) (by decide) (by decide) (by omega) ⟨_, _, hpp, hp⟩ (by rw [beL_len]; omega)) ?_
 rintro _ w ⟨u, rfl, hb⟩
 refine ⟨_, rfl, ?_⟩
 conv => whnf
 refine hKq _ _ _ (.refl _) ?_
 clear hKq Kq
 conv => whnf
 refine VSeq.mk fun Kq hKq => ?_
 conv => whnf
 refine Calls.mono (put_c 4 554869826 (by decide) (by decide) (by decide) hb (by rw [List.length_append, beL_len, beL_len]; omega)) ?_
 rintro _ w ⟨u, rfl, ⟨v1, p1, hpp, hp⟩⟩
 refine ⟨_, rfl, ?_⟩
 conv => whnf
 refine hKq _ _ _ (.refl _) ?_
 clear hKq Kq
 conv => whnf
 refine VSeq.mk fun Kq hKq => ?_
 conv => whnf
 (refine ⟨_, _, Blk.ld (hp.get (i := 2) rfl) TTok rfl rfl, ?_⟩; conv => whnf)
 refine Calls.mono (WriteString_c id ⟨_, _, hpp, hp⟩ (by rw [List.length_append, List.length_append, beL_len, beL_len, beL_len]; omega)) ?_
 rintro _ w ⟨u, rfl, hb⟩
 refine ⟨_, rfl, ?_⟩
 conv => whnf
 refine hKq _ _ _ (.refl _) ?_
 clear hKq Kq
 conv => whnf
 refine VSeq.mk fun Kq hKq => ?_
 conv => whnf
 refine VSeq.mk fun Kq hKq => ?_
 conv => whnf
 refine hKq _ _ _ (.refl _) ?_
 clear hKq Kq
 conv => whnf
 have hb : BSt [] W w al138 (headL c m id (sizeN al + more) ++ attrsL (al.take 0)) [blk q [.int .i64 c, .int .i64 m, .string id, .slice mp mn mc] 102] := by
  rw [List.take_zero, show attrsL [] = [] from rfl, List.append_nil]
  exact hb
 refine ⟨fun mm e w' => ∃ (i : Nat), mm + i = al.length ∧ e = [(7, .v (.pointer (some ⟨al138, 0, none⟩))), (8, .v (.func (.func 32) #[.pointer (some ⟨al138, 0, none⟩)] #[])), (31, .v (.slice p al.length cp)), (32, .v (.int .i64 al.length)), (33, .v (.int .i64 i))] ∧ BSt [] W w' al138 (headL c m id (sizeN al + more) ++ attrsL (al.take i)) [blk q [.int .i64 c, .int .i64 m, .string id, .slice mp mn mc] 102],
  ⟨al.length, _, ⟨0, by omega, rfl, hb⟩, sub_cons rfl (sub_cons rfl (sub_cons rfl (sub_cons rfl (sub_cons rfl sub_nil))))⟩, ?_⟩
 clear hb hp hx
 repeat clear hp
 rintro mm _ w ⟨i, hmm, rfl, ⟨v1, p1, hpp, hp⟩⟩
 have hxw := hp.ext
 have hpre : (headL c m id (sizeN al + more) ++ attrsL (al.take i)).length ≤ 2000000000 ∧ (headL c m id (sizeN al + more) ++ attrsL (al.take i)).length ≤ 200000 := by
  have h1 := sizeN_le (al.take i) (fun a ha => by have := attrB_t (hal a (List.mem_of_mem_take ha)); omega)
  have h2 : (al.take i).length ≤ al.length := by rw [List.length_take]; omega
  have h3 : sizeN (al.take i) ≤ sizeN al := by
   have := sizeN_app (al.take i) (al.drop i)
   rw [List.take_append_drop] at this
   omega
  rw [List.length_append, headL_len, attrsL_len]
  omega
 obtain ⟨PL, hPL⟩ : ∃ L, headL c m id (sizeN al + more) ++ attrsL (al.take i) = L := ⟨_, rfl⟩
 rw [hPL] at hp hpre
 conv => whnf
 refine VSeq.mk fun Kq hKq => ?_
 conv => whnf
 refine hKq _ _ _ (.refl _) ?_
 clear hKq Kq
 conv => whnf
 refine VSeq.mk fun Kq hKq => ?_
 conv => whnf
 refine ⟨fun hlt => ?_, fun hlt => ?_⟩
 ·have hlt := of_decide_eq_true hlt
  conv => whnf
  refine hKq _ _ _ (.refl _) ?_
  clear hKq Kq
  conv => whnf
  refine VSeq.mk fun Kq hKq => ?_
  conv => whnf
  refine VSeq.mk fun Kq hKq => ?_
  conv => whnf
  obtain ⟨a, ha⟩ : ∃ a, al[i]? = some a := ⟨al[i]'(by omega), List.getElem?_eq_getElem (by omega)⟩
  obtain ⟨a1, a2, a3⟩ := attrB_t (hal a (List.mem_of_getElem? ha))
  have hat := attrsL_take ha
  obtain ⟨k, s⟩ := a
  dsimp only at a1 a2 a3
  obtain ⟨kn, rfl⟩ : ∃ kn : Nat, k = kn := ⟨k.toNat, by omega⟩
  obtain ⟨g, off, rfl, hld⟩ := (hv.ext hp.ext).at ha
  refine ⟨i, ⟨by first | rfl | omega, by show i < al.length; omega⟩, ?_⟩
  conv => whnf
  refine ⟨_, _, hld, ?_⟩
  conv => whnf
  (refine hp.kalloc z118 fun al118 w hp hx => ?_; conv => whnf)
  (refine hp.kstA TTok rfl 0 rfl rfl (oneC_of rfl) (by rfl) fun w hp => ?_; try simp only [List.set_cons_zero, List.set_cons_succ, EV.val] at hp; conv => whnf)
  (refine hKq _ _ _ (.refl _) ?_; clear hKq Kq; conv => whnf)
  (refine VSeq.mk fun Kq hKq => ?_; conv => whnf)
  (refine ⟨_, _, Blk.ld (hp.get (i := 0) rfl) TTok rfl rfl, ?_⟩; conv => whnf)
  have hp := hp.pick [1, 2, 0, 3] (by decide)
  refine Calls.mono (put_c 2 kn (by decide) (by decide) (by omega) ⟨_, _, hpp, hp⟩ (by omega)) ?_
  rintro _ w ⟨u, rfl, ⟨v1, p1, hpp, hp⟩⟩
  refine ⟨_, rfl, ?_⟩
  conv => whnf
  refine hKq _ _ _ (.refl _) ?_
  clear hKq Kq
  conv => whnf
  refine VSeq.mk fun Kq hKq => ?_
  conv => whnf
  (refine ⟨_, _, Blk.ld (hp.get (i := 2) rfl) TTok rfl rfl, ?_⟩; conv => whnf)
  refine Calls.mono (put_c 2 s.size (by decide) (by decide) (by omega) ⟨_, _, hpp, hp⟩ (by rw [List.length_append, beL_len]; omega)) ?_
  rintro _ w ⟨u, rfl, ⟨v1, p1, hpp, hp⟩⟩
  refine ⟨_, rfl, ?_⟩
  conv => whnf
  refine hKq _ _ _ (.refl _) ?_
  clear hKq Kq
  conv => whnf
  refine VSeq.mk fun Kq hKq => ?_
  conv => whnf
  have hpd := Pad_ok s (by omega)
  have hpz := padB_size s
  (refine ⟨_, _, Blk.ld (hp.get (i := 2) rfl) TTok rfl rfl, ?_⟩; conv => whnf)
  (refine V.CallW.out ?_; (conv => arg 3; dsimp only [EV.val, List.toList_toArray, List.nil_append, List.append_nil, List.cons_append]); refine V.PureF.useW (hpd) fun w hx => ?_; try (have hp := hp.call hx); conv => whnf)
  (refine hKq _ _ _ (.refl _) ?_; clear hKq Kq; conv => whnf)
  refine Calls.mono (WriteString_c (padB s) ⟨_, _, hpp, hp⟩ (by rw [List.length_append, List.length_append, beL_len, beL_len]; omega)) ?_
  rintro _ w ⟨u, rfl, ⟨v1, p1, hpp, hp⟩⟩
  refine ⟨_, rfl, ?_⟩
  conv => whnf
  refine hKq _ _ _ (.refl _) ?_
  clear hKq Kq
  conv => whnf
  refine Or.inl (And.intro (by omega) ?_)
  conv => whnf
  have hp := hp.pick [0, 1, 3] (by decide)
  have e1 : PL ++ beL 2 kn ++ beL 2 s.size ++ (padB s).data.toList = headL c m id (sizeN al + more) ++ attrsL (al.take (i + 1)) := by
   rw [hat, ← List.append_assoc, hPL]
   unfold attrL
   rw [Int.toNat_natCast]
   simp only [List.append_assoc]
  rw [e1] at hp
  exact ⟨mm - 1, _, by omega, ⟨i + 1, by omega, rfl, ⟨v1, p1, hpp, hp⟩⟩, sub_cons rfl (sub_cons rfl (sub_cons rfl (sub_cons rfl (sub_cons rfl sub_nil))))⟩
 ·have hlt := of_decide_eq_false hlt
  conv => whnf
  clear hKq Kq
  refine hKq _ _ _ (.refl _) ?_
  clear hKq Kq
  conv => whnf
  refine VSeq.mk fun Kq hKq => ?_
  conv => whnf
  obtain rfl : i = al.length := by omega
  have hPL : wrB c m id al more = ⟨PL.toArray⟩ := by unfold wrB; rw [← hPL, List.take_of_length_le (Nat.le_refl _)]
  have hPl : 0 < PL.length := by
   have := wrB_size c m id al more
   rw [hPL, bA_size] at this
   omega
  skip
  refine Calls.mono (String_c ⟨_, _, hpp, hp⟩ hPl (by omega)) ?_
  rintro _ w ⟨u, rfl, rfl, hx⟩
  refine ⟨_, rfl, ?_⟩
  conv => whnf
  refine hKq _ _ _ (.refl _) ?_
  clear hKq Kq
  conv => whnf
  exact ⟨by rw [hPL]; rfl, hx⟩
def kindB (k : Int) (a : At2) : Bool := decide (a.1 = k)
def idxI (k : Int) (al : List At2) : Int := match al.findIdx? (kindB k) with
 | some i => (i : Nat)
 | none => -1
def hasB (k : Int) (al : List At2) : Bool := al.any (kindB k)
theorem idxI_pos (k : Int) (al : List At2) : decide (0 ≤ idxI k al) = hasB k al := by
 unfold idxI hasB
 cases h : al.findIdx? (kindB k) with
 | none =>
  have h2 := List.findIdx?_eq_none_iff.1 h
  have : al.any (kindB k) = false := by rw [List.any_eq_false]; intro x hx; rw [h2 x hx]; decide
  rw [this]
  show decide ((0 : Int) ≤ -1) = false
  decide
 | some i =>
  obtain ⟨hi, h2, _⟩ := List.findIdx?_eq_some_iff_getElem.1 h
  have : al.any (kindB k) = true := List.any_eq_true.2 ⟨al[i], List.getElem_mem hi, h2⟩
  rw [this]
  show decide ((0 : Int) ≤ ((i : Nat) : Int)) = true
  exact decide_eq_true (by omega)
theorem idx_hit {k : Int} {al : List At2} {i : Nat} {a : At2} (ha : al[i]? = some a) (hb : kindB k a = true) (hn : ∀ b ∈ al.take i, kindB k b = false) : idxI k al = i := by
 unfold idxI
 obtain ⟨hi, rfl⟩ := List.getElem?_eq_some_iff.1 ha
 have : al.findIdx? (kindB k) = some i := List.findIdx?_eq_some_iff_getElem.2 ⟨hi, hb, fun j hj => by
  have := hn al[j] (List.mem_take_iff_getElem.2 ⟨j, by omega, rfl⟩)
  rw [this]; decide⟩
 rw [this]
theorem idx_miss {k : Int} {al : List At2} (hn : ∀ b ∈ al, kindB k b = false) : idxI k al = -1 := by
 unfold idxI
 have : al.findIdx? (kindB k) = none := List.findIdx?_eq_none_iff.2 hn
 rw [this]
theorem has1_c {W : World} {qk : Nat} (k x : Int) (s : ByteArray) (hk : Blk W qk [.int .i64 k] 3) :
  Calls Try.prog 70 #[.agg #[.int .i64 x, .string s], .pointer (some ⟨qk, 0, none⟩)] W fun e w' => e = .returned (.bool (decide (x = k))) ∧ Ext W w' := by
 refine v_reads (args := [.agg #[.int .i64 x, .string s], .pointer (some ⟨qk, 0, none⟩)]) TTok FFok Try.func70 rfl rfl ?_
 conv => whnf
 refine VSeq.mk fun Kq hKq => ?_
 conv => whnf
 have hp := Hp.nil W
 (refine hp.kboxA fun q w hp hx => ?_; conv => whnf)
 (refine hKq _ _ _ (.refl _) ?_; clear hKq Kq; conv => whnf)
 (refine VSeq.mk fun Kq hKq => ?_; conv => whnf)
 (refine ⟨_, _, Blk.ld (hp.get (i := 0) rfl) TTok rfl rfl, ?_⟩; conv => whnf)
 (refine ⟨_, _, Blk.ld (Blk.ext hk hx) TTok rfl rfl, ?_⟩; conv => whnf)
 (refine hKq _ _ _ (.refl _) ?_; clear hKq Kq; conv => whnf)
 (exact ⟨rfl, hp.ext⟩)
theorem idx_has_c {W : World} {v : Value} {al : List At2} {qk : Nat} (k : Int) (hv : SA W v al) (hk : Blk W qk [.int .i64 k] 3) :
  Calls Try.prog 80 #[v, .func (.func 70) #[] #[.pointer (some ⟨qk, 0, none⟩)]] W fun e w' => e = .returned (.int .i64 (idxI k al)) ∧ Ext W w' := by
 have hml := hv.len
 obtain ⟨p, c, rfl⟩ := hv.shape
 refine v_reads (args := [.slice p al.length c, .func (.func 70) #[] #[.pointer (some ⟨qk, 0, none⟩)]]) TTok FFok Try.func80 rfl rfl ?_
 conv => whnf
 refine VSeq.mk fun Kq hKq => ?_
 conv => whnf
 refine hKq _ _ _ (.refl _) ?_
 clear hKq Kq
 conv => whnf
 refine VSeq.mk fun Kq hKq => ?_
 conv => whnf
 refine VSeq.mk fun Kq hKq => ?_
 conv => whnf
 refine hKq _ _ _ (.refl _) ?_
 clear hKq Kq
 conv => whnf
 refine ⟨fun mm e w' => ∃ (i : Nat), mm + i = al.length ∧ e = [(0, .v (.slice p al.length c)), (1, .v (.func (.func 70) #[] #[.pointer (some ⟨qk, 0, none⟩)])), (7, .v (.int .i64 al.length)), (8, .v (.int .i64 i))] ∧ (∀ b ∈ al.take i, kindB k b = false) ∧ Ext W w',
  ⟨al.length, _, ⟨0, by omega, rfl, by simp, Ext.refl _⟩, sub_cons rfl (sub_cons rfl (sub_cons rfl (sub_cons rfl sub_nil)))⟩, ?_⟩
 rintro mm _ w ⟨i, hmm, rfl, hn, hxw⟩
 conv => whnf
 refine VSeq.mk fun Kq hKq => ?_
 conv => whnf
 refine hKq _ _ _ (.refl _) ?_
 clear hKq Kq
 conv => whnf
 refine VSeq.mk fun Kq hKq => ?_
 conv => whnf
 refine ⟨fun hlt => ?_, fun hlt => ?_⟩
 ·have hlt := of_decide_eq_true hlt
  conv => whnf
  refine hKq _ _ _ (.refl _) ?_
  clear hKq Kq
  conv => whnf
  refine VSeq.mk fun Kq hKq => ?_
  conv => whnf
  refine VSeq.mk fun Kq hKq => ?_
  conv => whnf
  refine hKq _ _ _ (.refl _) ?_
  clear hKq Kq
  conv => whnf
  refine VSeq.mk fun Kq hKq => ?_
  conv => whnf
  have hp := HpM.nil0 [] w
  obtain ⟨a, ha⟩ : ∃ a, al[i]? = some a := ⟨al[i]'(by omega), List.getElem?_eq_getElem (by omega)⟩
  obtain ⟨g, off, rfl, hld⟩ := (hv.ext hxw).at ha
  refine ⟨i, ⟨by first | rfl | omega, by show i < al.length; omega⟩, ?_⟩
  conv => whnf
  refine ⟨_, _, hld, ?_⟩
  conv => whnf
  refine V.CallsUse (has1_c k a.1 a.2 (Blk.ext hk hxw)) fun w hx => ?_
  try (have hp := hp.call hx)
  conv => whnf
  refine hKq _ _ _ (.refl _) ?_
  clear hKq Kq
  conv => whnf
  refine ⟨fun hq => ?_, fun hq => ?_⟩
  ·have hq := of_decide_eq_true hq
   conv => whnf
   refine VSeq.mk fun Kq hKq => ?_
   conv => whnf
   refine hKq _ _ _ (.refl _) ?_
   clear hKq Kq
   conv => whnf
   have hb : kindB k a = true := decide_eq_true hq
   have hI := idx_hit ha hb hn
   conv => whnf
   exact ⟨by rw [hI]; rfl, hxw.trans hx⟩
  ·have hq := of_decide_eq_false hq
   conv => whnf
   refine hKq _ _ _ (.refl _) ?_
   clear hKq Kq
   conv => whnf
   refine Or.inl (And.intro (by omega) ?_)
   conv => whnf
   have hb : kindB k a = false := decide_eq_false hq
   refine ⟨mm - 1, _, by omega, ⟨i + 1, by omega, rfl, fun b hbm => ?_, hxw.trans hx⟩, sub_cons rfl (sub_cons rfl (sub_cons rfl (sub_cons rfl sub_nil)))⟩
   rw [List.take_add_one, ha] at hbm
   rcases List.mem_append.1 hbm with h | h
   ·exact hn b h
   ·have : b = a := by simpa using h
    rw [this]; exact hb
 ·have hlt := of_decide_eq_false hlt
  conv => whnf
  clear hKq Kq
  refine hKq _ _ _ (.refl _) ?_
  clear hKq Kq
  conv => whnf
  refine VSeq.mk fun Kq hKq => ?_
  conv => whnf
  refine hKq _ _ _ (.refl _) ?_
  clear hKq Kq
  conv => whnf
  obtain rfl : i = al.length := by omega
  rw [List.take_of_length_le (Nat.le_refl _)] at hn
  have hI := idx_miss hn
  conv => whnf
  exact ⟨by rw [hI]; rfl, hxw⟩
theorem contains_c {W : World} {v : Value} {al : List At2} {qk : Nat} (k : Int) (hv : SA W v al) (hk : Blk W qk [.int .i64 k] 3) :
  Calls Try.prog 69 #[v, .func (.func 70) #[] #[.pointer (some ⟨qk, 0, none⟩)]] W fun e w' => e = .returned (.bool (hasB k al)) ∧ Ext W w' := by
 obtain ⟨p, c, rfl⟩ := hv.shape
 have hI := idx_has_c (W := W) k hv hk
 have hP := idxI_pos k al
 refine v_reads (args := [.slice p al.length c, .func (.func 70) #[] #[.pointer (some ⟨qk, 0, none⟩)]]) TTok FFok Try.func69 rfl rfl ?_
 conv => whnf
 refine VSeq.mk fun Kq hKq => ?_
 conv => whnf
 refine hKq _ _ _ (.refl _) ?_
 clear hKq Kq
 conv => whnf
 refine VSeq.mk fun Kq hKq => ?_
 conv => whnf
 have hp := Hp.nil W
 (refine V.CallW.out ?_; (conv => arg 3; dsimp only [EV.val, List.toList_toArray, List.nil_append, List.append_nil, List.cons_append]); (with_reducible refine V.CallsUseW (hI) fun w hx => ?_); try (have hp := hp.call hx); conv => whnf)
 (refine hKq _ _ _ (.refl _) ?_; clear hKq Kq; conv => whnf)
 (refine ⟨congrArg Value.bool ?_, hp.ext⟩; rw [Bool.eq_iff_iff]; first | (simp only [Bool.or_eq_true, Bool.and_eq_true, decide_eq_true_eq, Bool.not_eq_true', decide_eq_false_iff_not, eq_self, true_and, and_true, true_iff, iff_true, false_iff, iff_false, reduceCtorEq, ne_eq, *] <;> omega) | (simp_all; fail_if_success skip) | (simp_all <;> omega))
theorem has_c {W : World} {v : Value} {al : List At2} (c m : Int) (id : ByteArray) (k : Int) (hv : SA W v al) :
  Calls Try.prog 59 #[.agg #[.int .i64 c, .int .i64 m, .string id, v], .int .i64 k] W fun e w' => e = .returned (.bool (hasB k al)) ∧ Ext W w' := by
 obtain ⟨p, cp, rfl⟩ := hv.shape
 refine v_reads (args := [.agg #[.int .i64 c, .int .i64 m, .string id, .slice p al.length cp], .int .i64 k]) TTok FFok Try.func59 rfl rfl ?_
 conv => whnf
 refine VSeq.mk fun Kq hKq => ?_
 conv => whnf
 have hp := Hp.nil W
 (refine hp.kboxA fun q w hp hx => ?_; conv => whnf)
 (refine hp.kboxA fun q w hp hx => ?_; conv => whnf)
 (refine hKq _ _ _ (.refl _) ?_; clear hKq Kq; conv => whnf)
 (refine VSeq.mk fun Kq hKq => ?_; conv => whnf)
 (refine ⟨_, _, Blk.ld (hp.get (i := 1) rfl) TTok rfl rfl, ?_⟩; conv => whnf)
 (refine V.CallW.out ?_; (conv => arg 3; dsimp only [EV.val, List.toList_toArray, List.nil_append, List.append_nil, List.cons_append]); (with_reducible refine V.CallsUseW (contains_c k (hv.ext hp.ext) (hp.get (i := 0) rfl)) fun w hx => ?_); try (have hp := hp.call hx); conv => whnf)
 (refine hKq _ _ _ (.refl _) ?_; clear hKq Kq; conv => whnf)
 (exact ⟨rfl, hp.ext⟩)
def flatC (al : List At2) : List Value := al.flatMap atC
theorem flatC_len : ∀ al : List At2, (flatC al).length = al.length * 2
 | [] => rfl
 | a :: l => by
  have := flatC_len l
  unfold flatC at this ⊢
  rw [List.flatMap_cons, List.length_append, this, List.length_cons]
  show 2 + _ = _
  omega
theorem flatC_app (a b : List At2) : flatC (a ++ b) = flatC a ++ flatC b := by unfold flatC; rw [List.flatMap_append]
theorem flatC_one : ∀ al : List At2, ∀ u ∈ flatC al, u.oneCell' = true := by
 intro al u hu
 obtain ⟨a, _, ha⟩ := List.mem_flatMap.1 hu
 unfold atC at ha
 simp only [List.mem_cons, List.not_mem_nil, or_false] at ha
 rcases ha with rfl | rfl <;> rfl
theorem flatC_at : ∀ (al : List At2) (j : Nat) (a : At2), al[j]? = some a → ((flatC al).drop (j * 2)).take 2 = atC a
 | [], j, a, h => by simp at h
 | b :: l, 0, a, h => by
  have : b = a := by simpa using h
  subst this
  rfl
 | b :: l, j + 1, a, h => by
  have h2 : l[j]? = some a := by simpa using h
  have := flatC_at l j a h2
  show ((atC b ++ flatC l).drop ((j + 1) * 2)).take 2 = _
  rw [show (j + 1) * 2 = (atC b).length + j * 2 by show _ = 2 + _; omega, ← List.drop_drop, List.drop_left]
  exact this
theorem flatC_get {al : List At2} {k : Nat} {y : Value} (h : (flatC al)[k]? = some y) : ∃ a, al[k / 2]? = some a ∧ (atC a)[k % 2]? = some y := by
 have hk : k < (flatC al).length := (List.getElem?_eq_some_iff.1 h).1
 rw [flatC_len] at hk
 have hj : k / 2 < al.length := by omega
 refine ⟨al[k / 2], List.getElem?_eq_getElem hj, ?_⟩
 have e := flatC_at al (k / 2) _ (List.getElem?_eq_getElem hj)
 rw [← e, List.getElem?_take, if_pos (Nat.mod_lt _ (by decide)), List.getElem?_drop, show k / 2 * 2 + k % 2 = k by omega, h]
theorem SA.src {w : World} {v : Value} {al : List At2} (h : SA w v al) : Src Try.prog 2 100 v al.length (flatC al) w := by
 rcases h with ⟨rfl, h⟩ | ⟨a, c, rfl, h⟩ | ⟨g, off, c, rfl, hle, _, hc⟩
 ·have : al = [] := List.map_eq_nil_iff.1 h
  subst this
  exact Src.ofNil w (tab_slice TTok rfl) 0
 ·have : al = [] := List.map_eq_nil_iff.1 h
  subst this
  cases a with
  | none => exact Src.ofNil w (tab_slice TTok rfl) c
  | some a => exact Src.ofSlice w (tab_slice TTok rfl) a 0 c [] rfl (by simp) (by simp)
 ·rw [List.length_map]
  refine Src.ofSlice w (tab_slice TTok rfl) ⟨g, off, none⟩ _ c (flatC al) (flatC_len al) (fun k y hk => ?_) (flatC_one al)
  obtain ⟨a, ha, hy⟩ := flatC_get hk
  have := (hc (k / 2) (atC a) (by rw [List.getElem?_map, ha]; rfl)).2 (k % 2) y hy
  rw [add_none, show off + k = off + (k / 2 * 2 + k % 2) by omega]
  exact this
theorem SA.of_row {w : World} {v : Value} {al : List At2} (h : (row 118 2 v al.length (flatC al)).holds w) : SA w v al := by
 have h0 := h
 obtain ⟨h1, h2⟩ : w.ownsRow 0 118 2 v al.length (flatC al) := h
 rcases h2 with ⟨hv, hn⟩ | ⟨g, cap, cur, hv, _, _, hle, hm, _⟩
 ·have : al = [] := List.eq_nil_of_length_eq_zero hn
  subst this
  exact .inl ⟨hv, rfl⟩
 ·subst hv
  refine .inr (.inr ⟨g, 0, cap, by rw [List.length_map], by rw [List.length_map]; exact hle, hm, fun j x hj => ?_⟩)
  rw [List.getElem?_map] at hj
  cases ha : al[j]? with
  | none => rw [ha] at hj; simp at hj
  | some a =>
   rw [ha] at hj
   have hx : x = atC a := by simpa using hj.symm
   subst hx
   refine ⟨rfl, fun i y hy => ?_⟩
   have hi : i < 2 := (List.getElem?_eq_some_iff.1 hy).1
   have := row_cell h0 (j := j * 2 + i) (v := y) (by
    have e := flatC_at al j a ha
    rw [← e, List.getElem?_take, if_pos hi, List.getElem?_drop] at hy
    exact hy)
   rw [Nat.zero_add]
   exact this
theorem SA.nil_of {w : World} {n c : Nat} {al : List At2} (h : SA w (.slice none n c) al) : al = [] ∧ n = 0 := by
 rcases h with ⟨hv, h⟩ | ⟨a, c, hv, h⟩ | ⟨g, off, c, hv, _⟩
 ·exact ⟨List.map_eq_nil_iff.1 h, by injection hv⟩
 ·exact ⟨List.map_eq_nil_iff.1 h, by injection hv⟩
 ·simp at hv
theorem CloneA_c {W : World} {v : Value} {al : List At2} (hv : SA W v al) (hl : al.length ≤ 100000) :
  Calls Try.prog 71 #[v] W fun e w' => ∃ u, e = .returned u ∧ HpM [] W w' [row 118 2 u al.length (flatC al)] := by
 obtain ⟨p, c, rfl⟩ := hv.shape
 refine v_fn (args := [.slice p al.length c]) TTok FFok Try.func71 rfl (Nat.le_of_ble_eq_true rfl) ?_
 have hp := Hp.nil W
 conv => whnf
 refine VSeq.mk fun Kq hKq => ?_
 conv => whnf
 refine hKq _ _ _ (.refl _) ?_
 clear hKq Kq
 conv => whnf
 refine VSeq.mk fun Kq hKq => ?_
 conv => whnf
 refine VSeq.mk fun Kq hKq => ?_
 conv => whnf
 cases p with
 | none =>
  obtain ⟨h0, _⟩ := hv.nil_of
  subst h0
  refine ⟨.bool true, W, by kernel_rfl, ?_⟩
  conv => whnf
  refine hKq _ _ _ (.refl _) ?_
  clear hKq Kq
  conv => whnf
  refine And.intro (fun _ => ?_) (fun h => by cases h)
  conv => whnf
  refine VSeq.mk fun Kq hKq => ?_
  conv => whnf
  refine hKq _ _ _ (.refl _) ?_
  clear hKq Kq
  conv => whnf
  exact hp.knil 118 2
 | some a =>
  refine ⟨.bool false, W, by kernel_rfl, ?_⟩
  conv => whnf
  refine hKq _ _ _ (.refl _) ?_
  clear hKq Kq
  conv => whnf
  refine And.intro (fun h => by cases h) (fun _ => ?_)
  conv => whnf
  refine hKq _ _ _ (.refl _) ?_
  clear hKq Kq
  conv => whnf
  refine VSeq.mk fun Kq hKq => ?_
  conv => whnf
  refine hp.kmadeR [] 118 2 0 rfl (by decide) (by kernel_rfl) fun b w hp hx => ?_
  conv => whnf
  refine hp.kappE sl100 ((hv.ext hx).src) (by omega) (by unfold maxLen; omega) fun v' w hp _ => ?_
  rw [Nat.zero_add, List.nil_append] at hp
  obtain ⟨p1, c1, rfl⟩ := row_shape (hp.get (i := 0) rfl)
  conv => whnf
  refine hKq _ _ _ (.refl _) ?_
  clear hKq Kq
  conv => whnf
  exact hp
theorem with_t {W : World} {v : Value} {al : List At2} (c m : Int) (id : ByteArray) (k : Int) (s : ByteArray) (hv : SA W v al) (hl : al.length ≤ 30) (hb : stunB c m id (al ++ [(k, s)]) = true) :
  Calls Try.prog 60 #[.agg #[.int .i64 c, .int .i64 m, .string id, v], .agg #[.int .i64 k, .string s]] W fun e w' => ∃ u, e = .returned u ∧ ∃ v', u = .tuple #[.agg #[.int .i64 c, .int .i64 m, .string id, v'], .int .i64 0] ∧ HpM [] W w' [row 118 2 v' (al ++ [(k, s)]).length (flatC (al ++ [(k, s)]))] := by
 have hN : chkN c m id (al ++ [(k, s)]) = 0 := by unfold chkN; rw [hb]; rfl
 obtain ⟨p, cp, rfl⟩ := hv.shape
 refine v_fn (args := [.agg #[.int .i64 c, .int .i64 m, .string id, .slice p al.length cp], .agg #[.int .i64 k, .string s]]) TTok FFok Try.func60 rfl (Nat.le_of_ble_eq_true rfl) ?_
 have hp := Hp.nil W
 conv => whnf
 refine VSeq.mk fun Kq hKq => ?_
 conv => whnf
 refine hp.kboxA fun q2 w hp hx => ?_
 conv => whnf
 refine hp.kboxA fun q3 w hp hx => ?_
 conv => whnf
 refine hp.kalloc z102 fun q4 w hp hx => ?_
 conv => whnf
 refine hKq _ _ _ (.refl _) ?_
 clear hKq Kq
 conv => whnf
 refine VSeq.mk fun Kq hKq => ?_
 conv => whnf
 refine v_mt TTok FFok mixed 5 (.q 0 (.q 1 (.q 3 (.br 2 4 (.m 4 .nil) (.m 2 .nil))))) (by kernel_rfl) ?_
 conv => whnf
 refine ⟨_, fun w' hx' => Blk.ld (Blk.ext (hp.get (i := 2) rfl) hx') TTok rfl (rfl), ?_⟩
 conv => whnf
 refine ⟨_, fun w' hx' => Blk.ldN (Blk.ext (hp.get (i := 1) rfl) hx') TTok rfl (rfl), ?_⟩
 conv => whnf
 refine And.intro ?_ ?_
 ·intro w hx
  try (have hp := hp.call hx)
  conv => whnf
  refine Calls.mono (CloneA_c (hv.ext hp.ext) (by omega)) ?_
  rintro _ w ⟨u, rfl, k2⟩
  refine ⟨_, rfl, ?_⟩
  have hx := k2.ext
  have hp := hp.join k2
  simp only [List.cons_append, List.nil_append] at hp
  obtain ⟨pu, cu, rfl⟩ := row_shape (hp.get (i := 0) rfl)
  conv => whnf
  refine And.intro hx ?_
  conv => whnf
  intro w hx
  try (have hp := hp.call hx)
  conv => whnf
  refine hp.kmade _ _ (fun b => .slice (some ⟨b, 0, none⟩) 1 1) (mks100_1_0 _ (.int .i64 k) (.string s)) fun tb w hp hx => ?_
  conv => whnf
  refine And.intro hx ?_
  conv => whnf
  have hp : HpM [] W w [blk tb [.int .i64 k, .string s] 118, row 118 2 (.slice pu al.length cu) al.length (flatC al), blk q4 [.int .i64 0, .int .i64 0, .string ⟨#[]⟩, .slice none 0 0] 102, blk q3 [.int .i64 k, .string s] 118, blk q2 [.int .i64 c, .int .i64 m, .string id, .slice p al.length cp] 102] := hp.pick [0, 1, 2, 3, 4] (by decide)
  intro w hx
  try (have hp := hp.call hx)
  conv => whnf
  refine hp.kapp sl100 1 rfl (Blk.src TTok (hp.get (i := 0) rfl) rfl (m := 1) rfl (oneC_of rfl)) (by omega) (by unfold maxLen; omega) fun v' w hp => ?_
  simp only [List.set_cons_zero, List.set_cons_succ] at hp
  have hp : HpM [] W w [row 118 2 v' (al ++ [(k, s)]).length (flatC (al ++ [(k, s)])), blk q4 [.int .i64 0, .int .i64 0, .string ⟨#[]⟩, .slice none 0 0] 102, blk q2 [.int .i64 c, .int .i64 m, .string id, .slice p al.length cp] 102] := by
   rw [List.length_append, flatC_app]
   exact hp.pick [1, 2, 4] (by decide)
  obtain ⟨p1, c1, rfl⟩ := row_shape (hp.get (i := 0) rfl)
  have hSA := SA.of_row (hp.get (i := 0) rfl)
  conv => whnf
  refine hp.kst1 (off := 3) TTok (by rfl) 2 (by rfl) (by rfl) (by rfl) (Nat.le_of_ble_eq_true rfl) fun w hp => ?_
  try simp only [List.set_cons_zero, List.set_cons_succ, EV.val] at hp
  conv => whnf
  refine hKq _ _ _ (.refl _) ?_
  clear hKq Kq
  conv => whnf
  refine VSeq.mk fun Kq hKq => ?_
  conv => whnf
  refine VSeq.mk fun Kq hKq => ?_
  conv => whnf
  have hck := Check_c (W := w) c m id (SA.of_row (hp.get (i := 0) rfl))
  rw [hN] at hck
  (refine ⟨_, _, Blk.ldV (vs := [_, _, _, _]) (hp.get (i := 2) rfl) TTok rfl rfl rfl, ?_⟩; conv => whnf)
  (refine V.CallW.out ?_; (conv => arg 3; dsimp only [EV.val, List.toList_toArray, List.nil_append, List.append_nil, List.cons_append]); (with_reducible refine V.CallsUseW (hck) fun w hx => ?_); try (have hp := hp.call hx); conv => whnf)
  (refine hKq _ _ _ (.refl _) ?_; clear hKq Kq; conv => whnf)
  (refine And.intro (fun h => absurd (of_decide_eq_true h) (by first | (intro h2; exact absurd rfl h2) | omega | decide)) (fun _ => ?_); conv => whnf)
  (refine hKq _ _ _ (.refl _) ?_; clear hKq Kq; conv => whnf)
  (refine VSeq.mk fun Kq hKq => ?_; conv => whnf)
  (refine ⟨_, _, Blk.ldV (vs := [_, _, _, _]) (hp.get (i := 2) rfl) TTok rfl rfl rfl, ?_⟩; conv => whnf)
  (refine hp.kstA TTok rfl 1 rfl rfl (oneC_of rfl) (by rfl) fun w hp => ?_; try simp only [List.set_cons_zero, List.set_cons_succ, EV.val] at hp; conv => whnf)
  (refine hKq _ _ _ (.refl _) ?_; clear hKq Kq; conv => whnf)
  (refine ⟨_, Blk.lvN (hp.get (i := 1) rfl) TTok rfl rfl, ?_⟩; conv => whnf)
  exact ⟨_, rfl, hp.pick [0] (by decide)⟩
 ·intro w hx
  try (have hp := hp.call hx)
  conv => whnf
  refine hp.kmade _ _ (fun b => .slice (some ⟨b, 0, none⟩) 1 1) (mks100_1_0 _ (.int .i64 k) (.string s)) fun tb w hp hx => ?_
  conv => whnf
  refine And.intro hx ?_
  conv => whnf
  intro w hx
  try (have hp := hp.call hx)
  conv => whnf
  refine Calls.mono (CloneA_c (hv.ext hp.ext) (by omega)) ?_
  rintro _ w ⟨u, rfl, k2⟩
  refine ⟨_, rfl, ?_⟩
  have hx := k2.ext
  have hp := hp.join k2
  simp only [List.cons_append, List.nil_append] at hp
  obtain ⟨pu, cu, rfl⟩ := row_shape (hp.get (i := 0) rfl)
  conv => whnf
  refine And.intro hx ?_
  conv => whnf
  have hp : HpM [] W w [blk tb [.int .i64 k, .string s] 118, row 118 2 (.slice pu al.length cu) al.length (flatC al), blk q4 [.int .i64 0, .int .i64 0, .string ⟨#[]⟩, .slice none 0 0] 102, blk q3 [.int .i64 k, .string s] 118, blk q2 [.int .i64 c, .int .i64 m, .string id, .slice p al.length cp] 102] := hp.pick [1, 0, 2, 3, 4] (by decide)
  intro w hx
  try (have hp := hp.call hx)
  conv => whnf
  refine hp.kapp sl100 1 rfl (Blk.src TTok (hp.get (i := 0) rfl) rfl (m := 1) rfl (oneC_of rfl)) (by omega) (by unfold maxLen; omega) fun v' w hp => ?_
  simp only [List.set_cons_zero, List.set_cons_succ] at hp
  have hp : HpM [] W w [row 118 2 v' (al ++ [(k, s)]).length (flatC (al ++ [(k, s)])), blk q4 [.int .i64 0, .int .i64 0, .string ⟨#[]⟩, .slice none 0 0] 102, blk q2 [.int .i64 c, .int .i64 m, .string id, .slice p al.length cp] 102] := by
   rw [List.length_append, flatC_app]
   exact hp.pick [1, 2, 4] (by decide)
  obtain ⟨p1, c1, rfl⟩ := row_shape (hp.get (i := 0) rfl)
  have hSA := SA.of_row (hp.get (i := 0) rfl)
  conv => whnf
  refine hp.kst1 (off := 3) TTok (by rfl) 2 (by rfl) (by rfl) (by rfl) (Nat.le_of_ble_eq_true rfl) fun w hp => ?_
  try simp only [List.set_cons_zero, List.set_cons_succ, EV.val] at hp
  conv => whnf
  refine hKq _ _ _ (.refl _) ?_
  clear hKq Kq
  conv => whnf
  refine VSeq.mk fun Kq hKq => ?_
  conv => whnf
  refine VSeq.mk fun Kq hKq => ?_
  conv => whnf
  have hck := Check_c (W := w) c m id (SA.of_row (hp.get (i := 0) rfl))
  rw [hN] at hck
  (refine ⟨_, _, Blk.ldV (vs := [_, _, _, _]) (hp.get (i := 2) rfl) TTok rfl rfl rfl, ?_⟩; conv => whnf)
  (refine V.CallW.out ?_; (conv => arg 3; dsimp only [EV.val, List.toList_toArray, List.nil_append, List.append_nil, List.cons_append]); (with_reducible refine V.CallsUseW (hck) fun w hx => ?_); try (have hp := hp.call hx); conv => whnf)
  (refine hKq _ _ _ (.refl _) ?_; clear hKq Kq; conv => whnf)
  (refine And.intro (fun h => absurd (of_decide_eq_true h) (by first | (intro h2; exact absurd rfl h2) | omega | decide)) (fun _ => ?_); conv => whnf)
  (refine hKq _ _ _ (.refl _) ?_; clear hKq Kq; conv => whnf)
  (refine VSeq.mk fun Kq hKq => ?_; conv => whnf)
  (refine ⟨_, _, Blk.ldV (vs := [_, _, _, _]) (hp.get (i := 2) rfl) TTok rfl rfl rfl, ?_⟩; conv => whnf)
  (refine hp.kstA TTok rfl 1 rfl rfl (oneC_of rfl) (by rfl) fun w hp => ?_; try simp only [List.set_cons_zero, List.set_cons_succ, EV.val] at hp; conv => whnf)
  (refine hKq _ _ _ (.refl _) ?_; clear hKq Kq; conv => whnf)
  (refine ⟨_, Blk.lvN (hp.get (i := 1) rfl) TTok rfl rfl, ?_⟩; conv => whnf)
  exact ⟨_, rfl, hp.pick [0] (by decide)⟩
theorem integrity_c {W : World} {v mv : Value} {al : List At2} (hv : SA W v al) (c m : Nat) (id key : ByteArray) (hmv : ∃ p n cp, mv = .slice p n cp) (hc : c < 4) (hm : m < 4096) (hid : id.size = 12) (hal : ∀ a ∈ al, attrB a = true) (hl : al.length ≤ 100) (hs : 20 + sizeN al ≤ 1200) (hk : key.size ≤ 4096) :
  Calls Try.prog 61 #[.agg #[.int .i64 c, .int .i64 m, .string id, mv], v, .string key] W fun e w' => e = .returned (.string (macB key (wrB c m id al 36))) ∧ Ext W w' := by
 have hM := Mac_p key (wrB c m id al 36)
 have hz := wrB_size c m id al 36
 unfold macR at hM
 rw [if_neg (by omega)] at hM
 obtain ⟨p, cp, rfl⟩ := hv.shape
 obtain ⟨mp, mn, mc, rfl⟩ := hmv
 refine v_reads (args := [.agg #[.int .i64 c, .int .i64 m, .string id, .slice mp mn mc], .slice p al.length cp, .string key]) TTok FFok Try.func61 rfl rfl ?_
 conv => whnf
 refine VSeq.mk fun Kq hKq => ?_
 conv => whnf
 have hp := Hp.nil W
 (refine hp.kboxA fun q w hp hx => ?_; conv => whnf)
 (refine hKq _ _ _ (.refl _) ?_; clear hKq Kq; conv => whnf)
 (refine VSeq.mk fun Kq hKq => ?_; conv => whnf)
 (refine ⟨_, _, Blk.ldV (vs := [_, _, _, _]) (hp.get (i := 0) rfl) TTok rfl rfl rfl, ?_⟩; conv => whnf)
 refine V.CallsUse (written_c (W := w) (hv.ext hp.ext) c m id 36 ⟨_, _, _, rfl⟩ hc hm (by omega) hal hl (by omega)) fun w hx => ?_
 try (have hp := hp.call hx)
 conv => whnf
 (refine V.CallW.out ?_; (conv => arg 3; dsimp only [EV.val, List.toList_toArray, List.nil_append, List.append_nil, List.cons_append]); (with_reducible refine V.PureF.useW (hM) fun w hx => ?_); try (have hp := hp.call hx); conv => whnf)
 (refine hKq _ _ _ (.refl _) ?_; clear hKq Kq; conv => whnf)
 (refine VSeq.mk fun Kq hKq => ?_; conv => whnf)
 (refine hKq _ _ _ (.refl _) ?_; clear hKq Kq; conv => whnf)
 (exact ⟨rfl, hp.ext⟩)
set_option maxHeartbeats 3200000
theorem mac_attr (key x : ByteArray) : attrB (8, macB key x) = true := by
 unfold attrB
 have := macB_size key x
 simp only [Bool.and_eq_true, decide_eq_true_eq]
 omega
theorem macAt (key : ByteArray) (c m : Nat) (id : ByteArray) (al : List At2) : (∀ a ∈ al, attrB a = true) → ∀ a ∈ al ++ [((8 : Int), macB key (wrB c m id al 36))], attrB a = true := by
 intro h a ha
 rcases List.mem_append.1 ha with ha | ha
 ·exact h a ha
 ·rw [List.mem_singleton] at ha; subst ha; exact mac_attr _ _
set_option maxHeartbeats 3200000
theorem Protect_ok {W : World} {v : Value} {al : List At2} (c m : Nat) (id key : ByteArray) (hv : SA W v al) (hb : stunB c m id al = true) (hk : key.size ≤ 4096) (h8 : hasB 8 al = false) (h9 : hasB 32808 al = false) (hb2 : stunB c m id (al ++ [(8, macB key (wrB c m id al 36))]) = true) :
  Calls Try.prog 48 #[.agg #[.int .i64 c, .int .i64 m, .string id, v], .string key] W fun e w' => ∃ u, e = .returned u ∧ ∃ v', u = .tuple #[.agg #[.int .i64 c, .int .i64 m, .string id, v'], .int .i64 0] ∧ HpM [] W w' [row 118 2 v' (al ++ [((8 : Int), macB key (wrB c m id al 36))]).length (flatC (al ++ [((8 : Int), macB key (wrB c m id al 36))]))] := by
 obtain ⟨b1, b2, b3, b4, b5, b6, b7, b8⟩ := stunB_t hb
 have hN : chkN c m id al = 0 := by unfold chkN; rw [hb]; rfl
 obtain ⟨p, cp, rfl⟩ := hv.shape
 refine v_fn (args := [.agg #[.int .i64 c, .int .i64 m, .string id, .slice p al.length cp], .string key]) TTok FFok Try.func48 rfl (Nat.le_of_ble_eq_true rfl) ?_
 have hp := Hp.nil W
 conv => whnf
 refine VSeq.mk fun Kq hKq => ?_
 conv => whnf
 (refine hp.kboxA fun q w hp hx => ?_; conv => whnf)
 (refine hp.kalloc z102 fun al102 w hp hx => ?_; conv => whnf)
 (refine hKq _ _ _ (.refl _) ?_; clear hKq Kq; conv => whnf)
 (refine VSeq.mk fun Kq hKq => ?_; conv => whnf)
 (refine VSeq.mk fun Kq hKq => ?_; conv => whnf)
 (refine ⟨_, _, Blk.ldV (vs := [_, _, _, _]) (hp.get (i := 1) rfl) TTok rfl rfl rfl, ?_⟩; conv => whnf)
 have hck := Check_c (W := w) c m id (hv.ext hp.ext)
 rw [hN] at hck
 (refine V.CallW.out ?_; (conv => arg 3; dsimp only [EV.val, List.toList_toArray, List.nil_append, List.append_nil, List.cons_append]); (with_reducible refine V.CallsUseW (hck) fun w hx => ?_); try (have hp := hp.call hx); conv => whnf)
 (refine hKq _ _ _ (.refl _) ?_; clear hKq Kq; conv => whnf)
 (refine VSeq.mk fun Kq hKq => ?_; conv => whnf)
 (refine hKq _ _ _ (.refl _) ?_; clear hKq Kq; conv => whnf)
 (refine And.intro (fun h => absurd (of_decide_eq_true h) (by first | (intro h2; exact absurd rfl h2) | omega | decide)) (fun _ => ?_); conv => whnf)
 (refine VSeq.mk fun Kq hKq => ?_; conv => whnf)
 (refine hKq _ _ _ (.refl _) ?_; clear hKq Kq; conv => whnf)
 (refine And.intro (fun h => absurd (of_decide_eq_true h) (by first | (intro h2; exact absurd rfl h2) | omega | decide)) (fun _ => ?_); conv => whnf)
 (refine VSeq.mk fun Kq hKq => ?_; conv => whnf)
 (refine VSeq.mk fun Kq hKq => ?_; conv => whnf)
 (refine ⟨_, _, Blk.ldV (vs := [_, _, _, _]) (hp.get (i := 1) rfl) TTok rfl rfl rfl, ?_⟩; conv => whnf)
 have hq := has_c (W := w) c m id 8 (hv.ext hp.ext)
 rw [h8] at hq
 (refine V.CallW.out ?_; (conv => arg 3; dsimp only [EV.val, List.toList_toArray, List.nil_append, List.append_nil, List.cons_append]); refine V.CallsUseW (hq) fun w hx => ?_; try (have hp := hp.call hx); conv => whnf)
 (refine hKq _ _ _ (.refl _) ?_; clear hKq Kq; conv => whnf)
 (refine And.intro (fun h => absurd h (by decide)) (fun _ => ?_); conv => whnf)
 (refine ⟨_, _, Blk.ldV (vs := [_, _, _, _]) (hp.get (i := 1) rfl) TTok rfl rfl rfl, ?_⟩; conv => whnf)
 have hq := has_c (W := w) c m id 32808 (hv.ext hp.ext)
 rw [h9] at hq
 (refine V.CallW.out ?_; (conv => arg 3; dsimp only [EV.val, List.toList_toArray, List.nil_append, List.append_nil, List.cons_append]); refine V.CallsUseW (hq) fun w hx => ?_; try (have hp := hp.call hx); conv => whnf)
 (refine hKq _ _ _ (.refl _) ?_; clear hKq Kq; conv => whnf)
 (refine And.intro (fun h => absurd h (by decide)) (fun _ => ?_); conv => whnf)
 (refine hKq _ _ _ (.refl _) ?_; clear hKq Kq; conv => whnf)
 (refine VSeq.mk fun Kq hKq => ?_; conv => whnf)
 refine v_mix TTok FFok mixed 10 [(0, false), (1, false), (2, false), (3, false), (4, false), (5, true), (6, false), (7, true), (8, false), (9, false)] (by kernel_rfl) ?_
 conv => whnf
 refine ⟨_, fun w' hx' => Blk.ldN (Blk.ext (hp.get (i := 1) rfl) hx') TTok rfl (rfl), ?_⟩
 conv => whnf
 refine ⟨_, fun w' hx' => Blk.ldN (Blk.ext (hp.get (i := 1) rfl) hx') TTok rfl (rfl), ?_⟩
 conv => whnf
 refine ⟨_, fun w' hx' => Blk.ld (Blk.ext (hp.get (i := 1) rfl) hx') TTok rfl (rfl), ?_⟩
 conv => whnf
 intro w hx
 try (have hp := hp.call hx)
 conv => whnf
 refine V.CallsUse (integrity_c (W := w) (hv.ext hp.ext) c m id key ⟨_, _, _, rfl⟩ (by omega) (by omega) b5 b7 (by omega) b8 hk) fun w hx => ?_
 have hp := hp.call hx
 conv => whnf
 refine And.intro hx ?_
 conv => whnf
 refine ⟨_, fun w' _ => bld118_0_1 w' _ _, ?_⟩
 conv => whnf
 intro w hx
 try (have hp := hp.call hx)
 conv => whnf
 refine Calls.mono (with_t (W := w) c m id 8 (macB key (wrB c m id al 36)) (hv.ext hp.ext) (by omega) hb2) ?_
 rintro _ w ⟨u, rfl, v', rfl, k2⟩
 refine ⟨_, rfl, ?_⟩
 have hx := k2.ext
 have hp := hp.join k2
 simp only [List.cons_append, List.nil_append] at hp
 obtain ⟨pu, cu, rfl⟩ := row_shape (hp.get (i := 0) rfl)
 conv => whnf
 refine And.intro hx ?_
 conv => whnf
 intro w hx
 try (have hp := hp.call hx)
 conv => whnf
 (refine hp.kstA TTok rfl 1 rfl rfl (oneC_of rfl) (by rfl) fun w hp => ?_; try simp only [List.set_cons_zero, List.set_cons_succ, EV.val] at hp; conv => whnf)
 (refine hKq _ _ _ (.refl _) ?_; clear hKq Kq; conv => whnf)
 (refine ⟨_, Blk.lvN (hp.get (i := 1) rfl) TTok rfl rfl, ?_⟩; conv => whnf)
 exact ⟨_, rfl, hp.pick [0] (by decide)⟩
theorem Encode_ok {W : World} {v : Value} {al : List At2} (c m : Nat) (id : ByteArray) (hv : SA W v al) (hb : stunB c m id al = true) :
  Calls Try.prog 50 #[.agg #[.int .i64 c, .int .i64 m, .string id, v]] W fun e w' => e = .returned (.tuple #[.string (wrB c m id al 0), .int .i64 0]) ∧ Ext W w' := by
 obtain ⟨b1, b2, b3, b4, b5, b6, b7, b8⟩ := stunB_t hb
 have hN : chkN c m id al = 0 := by unfold chkN; rw [hb]; rfl
 obtain ⟨p, cp, rfl⟩ := hv.shape
 refine v_reads (args := [.agg #[.int .i64 c, .int .i64 m, .string id, .slice p al.length cp]]) TTok FFok Try.func50 rfl rfl ?_
 conv => whnf
 refine VSeq.mk fun Kq hKq => ?_
 conv => whnf
 have hp := Hp.nil W
 (refine hp.kboxA fun q w hp hx => ?_; conv => whnf)
 (refine hKq _ _ _ (.refl _) ?_; clear hKq Kq; conv => whnf)
 (refine VSeq.mk fun Kq hKq => ?_; conv => whnf)
 (refine VSeq.mk fun Kq hKq => ?_; conv => whnf)
 (refine ⟨_, _, Blk.ldV (vs := [_, _, _, _]) (hp.get (i := 0) rfl) TTok rfl rfl rfl, ?_⟩; conv => whnf)
 have hck := Check_c (W := w) c m id (hv.ext hp.ext)
 rw [hN] at hck
 (refine V.CallW.out ?_; (conv => arg 3; dsimp only [EV.val, List.toList_toArray, List.nil_append, List.append_nil, List.cons_append]); (with_reducible refine V.CallsUseW (hck) fun w hx => ?_); try (have hp := hp.call hx); conv => whnf)
 (refine hKq _ _ _ (.refl _) ?_; clear hKq Kq; conv => whnf)
 (refine VSeq.mk fun Kq hKq => ?_; conv => whnf)
 (refine hKq _ _ _ (.refl _) ?_; clear hKq Kq; conv => whnf)
 (refine And.intro (fun h => absurd (of_decide_eq_true h) (by first | (intro h2; exact absurd rfl h2) | omega | decide)) (fun _ => ?_); conv => whnf)
 (refine hKq _ _ _ (.refl _) ?_; clear hKq Kq; conv => whnf)
 (refine VSeq.mk fun Kq hKq => ?_; conv => whnf)
 (refine ⟨_, _, Blk.ldV (vs := [_, _, _, _]) (hp.get (i := 0) rfl) TTok rfl rfl rfl, ?_⟩; conv => whnf)
 (refine ⟨_, _, Blk.ld (hp.get (i := 0) rfl) TTok rfl rfl, ?_⟩; conv => whnf)
 refine V.CallsUse (written_c (W := w) (hv.ext hp.ext) c m id 0 ⟨_, _, _, rfl⟩ (by omega) (by omega) (by omega) b7 (by omega) (by omega)) fun w hx => ?_
 try (have hp := hp.call hx)
 conv => whnf
 refine hKq _ _ _ (.refl _) ?_
 clear hKq Kq
 conv => whnf
 (exact ⟨rfl, hp.ext⟩)
def In64 (a : Int) : Prop := -9223372036854775808 ≤ a ∧ a ≤ 9223372036854775807
theorem in64_wf {a : Int} (h : In64 a) : (Lit.int .i64 a).wf = true := by
 unfold In64 at h
 simp [Lit.wf, IntKind.has, IntKind.min, IntKind.max, IntKind.signed, IntKind.bits]; omega
def SzS (s : ByteArray) : Prop := s.size ≤ maxLen
def shA : Sh := .cons .str (.cons (.int .i64) .nil)
def shPa : Sh := .cons (.ag shA) (.cons (.ag shA) .nil)
def shP : Sh := .cons (.int .i64) (.cons (.int .i64) (.cons (.int .i64) (.cons .bool (.cons (.int .i64) (.cons .bool (.cons (.ag shA) .nil))))))
theorem shA_ok : cmpOk Try.prog 24 10 shA = true := by kernel_rfl
theorem shPa_ok : cmpOk Try.prog 25 10 shPa = true := by kernel_rfl
theorem shP_ok : cmpOk Try.prog 38 10 shP = true := by kernel_rfl
/-- an address: host and port -/
structure Ad where
 h : ByteArray
 p : Int
deriving DecidableEq
abbrev Ad.c (a : Ad) : List Value := [.string a.h, .int .i64 a.p]
structure Ad.Ok (a : Ad) : Prop where
 s : SzS a.h
 i : In64 a.p
structure Prb where
 k : Int
 id : Int
 pr : Int
 ct : Bool
 ti : Int
 no : Bool
 m : Ad
deriving DecidableEq
abbrev Prb.c (a : Prb) : List Value := [.int .i64 a.k, .int .i64 a.id, .int .i64 a.pr, .bool a.ct, .int .i64 a.ti, .bool a.no, .string a.m.h, .int .i64 a.m.p]
structure Prb.Ok (a : Prb) : Prop where
 k : In64 a.k
 id : In64 a.id
 pr : In64 a.pr
 ti : In64 a.ti
 m : a.m.Ok
theorem Ad.rd {w : World} (a : Ad) (h : a.Ok) : Rd w shA a.c := ⟨[_], [_], rfl, ⟨a.h, rfl, h.s⟩, [_], [], rfl, ⟨a.p, rfl, in64_wf h.i⟩, rfl⟩
theorem pa_rd {w : World} (a b : Ad) (ha : a.Ok) (hb : b.Ok) : Rd w shPa (a.c ++ b.c) := ⟨a.c, b.c, rfl, a.rd ha, b.c, [], rfl, b.rd hb, rfl⟩
theorem Prb.rd {w : World} (a : Prb) (h : a.Ok) : Rd w shP a.c :=
 ⟨[_], _, rfl, ⟨_, rfl, in64_wf h.k⟩, [_], _, rfl, ⟨_, rfl, in64_wf h.id⟩, [_], _, rfl, ⟨_, rfl, in64_wf h.pr⟩, [_], _, rfl, ⟨_, rfl⟩, [_], _, rfl, ⟨_, rfl, in64_wf h.ti⟩, [_], _, rfl, ⟨_, rfl⟩, a.m.c, [], rfl, a.m.rd h.m, rfl⟩
theorem Ad.inj {a b : Ad} : a.c = b.c ↔ a = b := by
 constructor
 ·intro h
  cases a; cases b
  simp only [Ad.c, List.cons.injEq, Value.string.injEq, Value.int.injEq] at h
  simp only [Ad.mk.injEq]
  exact ⟨h.1, h.2.1.2⟩
 ·rintro rfl; rfl
theorem Prb.inj {a b : Prb} : a.c = b.c ↔ a = b := by
 constructor
 ·intro h
  obtain ⟨_, _, _, _, _, _, ⟨_, _⟩⟩ := a
  obtain ⟨_, _, _, _, _, _, ⟨_, _⟩⟩ := b
  simp only [Prb.c, List.cons.injEq, Value.string.injEq, Value.int.injEq, Value.bool.injEq, true_and, and_true] at h
  simp only [Prb.mk.injEq, Ad.mk.injEq]
  exact h
 ·rintro rfl; rfl
theorem ad_eq (w : World) (a b : Ad) (ha : a.Ok) (hb : b.Ok) (xo yo : Operand) :
  ((do eqGuard .eql 24 xo yo (.agg a.c.toArray) (.agg b.c.toArray); binOp .eql 24 (.agg a.c.toArray) (.agg b.c.toArray) : Sem Value).run Try.prog w = .ok (.bool (decide (a = b))) w) ∧
  ((do eqGuard .neq 24 xo yo (.agg a.c.toArray) (.agg b.c.toArray); binOp .neq 24 (.agg a.c.toArray) (.agg b.c.toArray) : Sem Value).run Try.prog w = .ok (.bool (!decide (a = b))) w) := by
 obtain ⟨r, hr, h1, h2⟩ := run_eq_agg shA_ok (w0 := w) (w1 := w) (a.rd ha) (b.rd hb) xo yo
 have e : r = decide (a = b) := by rw [Bool.eq_iff_iff, hr, decide_eq_true_iff]; exact Ad.inj
 rw [← e]
 exact ⟨h1 w, h2 w⟩
theorem prb_eq (w : World) (a b : Prb) (ha : a.Ok) (hb : b.Ok) (xo yo : Operand) :
  ((do eqGuard .eql 38 xo yo (.agg a.c.toArray) (.agg b.c.toArray); binOp .eql 38 (.agg a.c.toArray) (.agg b.c.toArray) : Sem Value).run Try.prog w = .ok (.bool (decide (a = b))) w) ∧
  ((do eqGuard .neq 38 xo yo (.agg a.c.toArray) (.agg b.c.toArray); binOp .neq 38 (.agg a.c.toArray) (.agg b.c.toArray) : Sem Value).run Try.prog w = .ok (.bool (!decide (a = b))) w) := by
 obtain ⟨r, hr, h1, h2⟩ := run_eq_agg shP_ok (w0 := w) (w1 := w) (a.rd ha) (b.rd hb) xo yo
 have e : r = decide (a = b) := by rw [Bool.eq_iff_iff, hr, decide_eq_true_iff]; exact Prb.inj
 rw [← e]
 exact ⟨h1 w, h2 w⟩
theorem pa_eq (w : World) (a b a' b' : Ad) (ha : a.Ok) (hb : b.Ok) (ha' : a'.Ok) (hb' : b'.Ok) (xo yo : Operand) :
  ((do eqGuard .eql 25 xo yo (.agg (a.c ++ b.c).toArray) (.agg (a'.c ++ b'.c).toArray); binOp .eql 25 (.agg (a.c ++ b.c).toArray) (.agg (a'.c ++ b'.c).toArray) : Sem Value).run Try.prog w = .ok (.bool (decide (a = a' ∧ b = b'))) w) ∧
  ((do eqGuard .neq 25 xo yo (.agg (a.c ++ b.c).toArray) (.agg (a'.c ++ b'.c).toArray); binOp .neq 25 (.agg (a.c ++ b.c).toArray) (.agg (a'.c ++ b'.c).toArray) : Sem Value).run Try.prog w = .ok (.bool (!decide (a = a' ∧ b = b'))) w) := by
 obtain ⟨r, hr, h1, h2⟩ := run_eq_agg shPa_ok (w0 := w) (w1 := w) (pa_rd a b ha hb) (pa_rd a' b' ha' hb') xo yo
 have e : r = decide (a = a' ∧ b = b') := by
  rw [Bool.eq_iff_iff, hr, decide_eq_true_iff, ← Ad.inj, ← Ad.inj]
  constructor
  ·intro h
   exact List.append_inj h rfl
  ·rintro ⟨h, k⟩; rw [h, k]
 rw [← e]
 exact ⟨h1 w, h2 w⟩
set_option maxHeartbeats 1600000
def inB (x lo hi : Int) : Bool := decide (lo ≤ x) && decide (x ≤ hi)
theorem inB_t {x lo hi : Int} (h : inB x lo hi = true) : lo ≤ x ∧ x ≤ hi := by
  unfold inB at h
  simpa using h
theorem awithin_p (x lo hi : Int) : PureF Try.prog 56 #[.int .i64 x, .int .i64 lo, .int .i64 hi] (.bool (inB x lo hi)) := by
  unfold inB
  first | refine v_pure TTok FFok Try.func56 rfl rfl fun w0 => ?_ | refine v_pure (args := []) TTok FFok Try.func56 rfl rfl fun w0 => ?_
  conv => whnf
  refine VSeq.mk fun Kq hKq => ?_
  conv => whnf
  refine hKq _ _ _ (.refl _) ?_
  clear hKq Kq
  conv => whnf
  refine VSeq.mk fun Kq hKq => ?_
  conv => whnf
  refine VSeq.mk fun Kq hKq => ?_
  conv => whnf
  refine hKq _ _ _ (.refl _) ?_
  clear hKq Kq
  conv => whnf
  have hp := Hp.nil w0
  (refine ⟨fun hd => ?_, fun hd => ?_⟩ <;> (try simp only [Bool.not_eq_true', Bool.not_eq_false', decide_eq_true_eq, decide_eq_false_iff_not, ne_eq, Classical.not_not] at hd) <;> (conv => whnf))
  (refine hKq _ _ _ (.refl _) ?_; clear hKq Kq; conv => whnf)
  (refine ⟨congrArg Value.bool ?_, hp.ext⟩; rw [Bool.eq_iff_iff]; first | (simp only [Bool.or_eq_true, Bool.and_eq_true, decide_eq_true_eq, Bool.not_eq_true', decide_eq_false_iff_not, eq_self, true_and, and_true, true_iff, iff_true, false_iff, iff_false, reduceCtorEq, ne_eq, *] <;> omega) | (simp_all; fail_if_success skip) | (simp_all <;> omega))
  (refine hKq _ _ _ (.refl _) ?_; clear hKq Kq; conv => whnf)
  (refine ⟨congrArg Value.bool ?_, hp.ext⟩; rw [Bool.eq_iff_iff]; first | (simp only [Bool.or_eq_true, Bool.and_eq_true, decide_eq_true_eq, Bool.not_eq_true', decide_eq_false_iff_not, eq_self, true_and, and_true, true_iff, iff_true, false_iff, iff_false, reduceCtorEq, ne_eq, *] <;> omega) | (simp_all; fail_if_success skip) | (simp_all <;> omega))
theorem cwithin_p (x lo hi : Int) : PureF Try.prog 27 #[.int .i64 x, .int .i64 lo, .int .i64 hi] (.bool (inB x lo hi)) := by
  unfold inB
  first | refine v_pure TTok FFok Try.func27 rfl rfl fun w0 => ?_ | refine v_pure (args := []) TTok FFok Try.func27 rfl rfl fun w0 => ?_
  conv => whnf
  refine VSeq.mk fun Kq hKq => ?_
  conv => whnf
  refine hKq _ _ _ (.refl _) ?_
  clear hKq Kq
  conv => whnf
  refine VSeq.mk fun Kq hKq => ?_
  conv => whnf
  refine VSeq.mk fun Kq hKq => ?_
  conv => whnf
  refine hKq _ _ _ (.refl _) ?_
  clear hKq Kq
  conv => whnf
  have hp := Hp.nil w0
  (refine ⟨fun hd => ?_, fun hd => ?_⟩ <;> (try simp only [Bool.not_eq_true', Bool.not_eq_false', decide_eq_true_eq, decide_eq_false_iff_not, ne_eq, Classical.not_not] at hd) <;> (conv => whnf))
  (refine hKq _ _ _ (.refl _) ?_; clear hKq Kq; conv => whnf)
  (refine ⟨congrArg Value.bool ?_, hp.ext⟩; rw [Bool.eq_iff_iff]; first | (simp only [Bool.or_eq_true, Bool.and_eq_true, decide_eq_true_eq, Bool.not_eq_true', decide_eq_false_iff_not, eq_self, true_and, and_true, true_iff, iff_true, false_iff, iff_false, reduceCtorEq, ne_eq, *] <;> omega) | (simp_all; fail_if_success skip) | (simp_all <;> omega))
  (refine hKq _ _ _ (.refl _) ?_; clear hKq Kq; conv => whnf)
  (refine ⟨congrArg Value.bool ?_, hp.ext⟩; rw [Bool.eq_iff_iff]; first | (simp only [Bool.or_eq_true, Bool.and_eq_true, decide_eq_true_eq, Bool.not_eq_true', decide_eq_false_iff_not, eq_self, true_and, and_true, true_iff, iff_true, false_iff, iff_false, reduceCtorEq, ne_eq, *] <;> omega) | (simp_all; fail_if_success skip) | (simp_all <;> omega))
def Ad.z : Ad := ⟨⟨#[]⟩, 0⟩
theorem Ad.z_ok : Ad.z.Ok := ⟨by unfold Ad.z SzS maxLen; exact Nat.zero_le _, ⟨by decide, by decide⟩⟩
def p2 (id : Int) (m : Ad) : Prb := ⟨2, id, 0, false, 0, false, m⟩
def p3 (id : Int) : Prb := ⟨3, id, 0, false, 0, false, Ad.z⟩
def probeB (a : Prb) : Bool :=
  inB a.id 0 1099511627776 &&
    (if a.k = 1 then (inB a.pr 1 2147483647 && (inB a.ti 0 281474976710655 && ((a.ct || !a.no) && decide (a.m = Ad.z))))
     else if a.k = 2 then usB a.m.h a.m.p && decide (a = p2 a.id a.m)
     else if a.k = 3 then decide (a = p3 a.id) else false)
theorem probeB_1 (id pr : Int) (ct : Bool) (ti : Int) (no : Bool) (h : ByteArray) (p : Int) : probeB ⟨1, id, pr, ct, ti, no, ⟨h, p⟩⟩ = (inB id 0 1099511627776 && (inB pr 1 2147483647 && (inB ti 0 281474976710655 && ((ct || !no) && decide ((⟨h, p⟩ : Ad) = Ad.z))))) := by
  unfold probeB
  rw [if_pos rfl]
theorem probeB_2 (id pr : Int) (ct : Bool) (ti : Int) (no : Bool) (h : ByteArray) (p : Int) : probeB ⟨2, id, pr, ct, ti, no, ⟨h, p⟩⟩ = (inB id 0 1099511627776 && (usB h p && decide ((⟨2, id, pr, ct, ti, no, ⟨h, p⟩⟩ : Prb) = p2 id ⟨h, p⟩))) := by
  unfold probeB
  rw [if_neg (show ¬ (2 : Int) = 1 by decide), if_pos rfl]
theorem probeB_3 (id pr : Int) (ct : Bool) (ti : Int) (no : Bool) (h : ByteArray) (p : Int) : probeB ⟨3, id, pr, ct, ti, no, ⟨h, p⟩⟩ = (inB id 0 1099511627776 && decide ((⟨3, id, pr, ct, ti, no, ⟨h, p⟩⟩ : Prb) = p3 id)) := by
  unfold probeB
  rw [if_neg (show ¬ (3 : Int) = 1 by decide), if_neg (show ¬ (3 : Int) = 2 by decide), if_pos rfl]
theorem probeB_x (k id pr : Int) (ct : Bool) (ti : Int) (no : Bool) (h : ByteArray) (p : Int) (h1 : k ≠ 1) (h2 : k ≠ 2) (h3 : k ≠ 3) : probeB ⟨k, id, pr, ct, ti, no, ⟨h, p⟩⟩ = false := by
  unfold probeB
  rw [if_neg h1, if_neg h2, if_neg h3, Bool.and_false]
theorem p2_ok {id : Int} {m : Ad} (h : In64 id) (hm : m.Ok) : (p2 id m).Ok := ⟨(⟨by decide, by decide⟩ : In64 2), h, (⟨by decide, by decide⟩ : In64 0), (⟨by decide, by decide⟩ : In64 0), hm⟩
theorem p3_ok {id : Int} (h : In64 id) : (p3 id).Ok := ⟨(⟨by decide, by decide⟩ : In64 3), h, (⟨by decide, by decide⟩ : In64 0), (⟨by decide, by decide⟩ : In64 0), Ad.z_ok⟩
theorem valid_1 (id pr : Int) (ct : Bool) (ti : Int) (no : Bool) (h : ByteArray) (p : Int) (hm : Ad.Ok ⟨h, p⟩) : PureF Try.prog 47 #[.agg #[.int .i64 1, .int .i64 id, .int .i64 pr, .bool ct, .int .i64 ti, .bool no, .string h, .int .i64 p]] (.bool (probeB ⟨1, id, pr, ct, ti, no, ⟨h, p⟩⟩)) := by
  rw [probeB_1]
  first | refine v_pure TTok FFok Try.func47 rfl rfl fun w0 => ?_ | refine v_pure (args := []) TTok FFok Try.func47 rfl rfl fun w0 => ?_
  conv => whnf
  refine VSeq.mk fun Kq hKq => ?_
  conv => whnf
  have hp := Hp.nil w0
  (refine hp.kboxA fun q w hp hx => ?_; conv => whnf)
  (refine hKq _ _ _ (.refl _) ?_; clear hKq Kq; conv => whnf)
  (refine VSeq.mk fun Kq hKq => ?_; conv => whnf)
  (refine VSeq.mk fun Kq hKq => ?_; conv => whnf)
  (refine ⟨_, _, Blk.ld (hp.get (i := 0) rfl) TTok rfl rfl, ?_⟩; conv => whnf)
  (refine V.CallW.out ?_; (conv => arg 3; dsimp only [EV.val, List.toList_toArray, List.nil_append, List.append_nil, List.cons_append]); (with_reducible refine V.PureF.useW (awithin_p _ _ _) fun w hx => ?_); try (have hp := hp.call hx); conv => whnf)
  (refine hKq _ _ _ (.refl _) ?_; clear hKq Kq; conv => whnf)
  (refine ⟨fun hd => ?_, fun hd => ?_⟩ <;> (try simp only [Bool.not_eq_true', Bool.not_eq_false', decide_eq_true_eq, decide_eq_false_iff_not, ne_eq, Classical.not_not] at hd) <;> (conv => whnf))
  (refine VSeq.mk fun Kq hKq => ?_; conv => whnf)
  (refine hKq _ _ _ (.refl _) ?_; clear hKq Kq; conv => whnf)
  (refine ⟨congrArg Value.bool ?_, hp.ext⟩; rw [Bool.eq_iff_iff]; first | (simp only [Bool.or_eq_true, Bool.and_eq_true, decide_eq_true_eq, Bool.not_eq_true', decide_eq_false_iff_not, eq_self, true_and, and_true, true_iff, iff_true, false_iff, iff_false, reduceCtorEq, ne_eq, *] <;> omega) | (simp_all; fail_if_success skip) | (simp_all <;> omega))
  (refine hKq _ _ _ (.refl _) ?_; clear hKq Kq; conv => whnf)
  (refine VSeq.mk fun Kq hKq => ?_; conv => whnf)
  (refine VSeq.mk fun Kq hKq => ?_; conv => whnf)
  (refine ⟨_, _, Blk.ld (hp.get (i := 0) rfl) TTok rfl rfl, ?_⟩; conv => whnf)
  (refine hKq _ _ _ (.refl _) ?_; clear hKq Kq; conv => whnf)
  (refine VSeq.mk fun Kq hKq => ?_; conv => whnf)
  (refine hKq _ _ _ (.refl _) ?_; clear hKq Kq; conv => whnf)
  (refine And.intro (fun _ => ?_) (fun h => absurd (by first | rfl | assumption | omega | decide) (of_decide_eq_false h)); conv => whnf)
  (refine VSeq.mk fun Kq hKq => ?_; conv => whnf)
  (refine VSeq.mk fun Kq hKq => ?_; conv => whnf)
  (refine ⟨_, _, Blk.ld (hp.get (i := 0) rfl) TTok rfl rfl, ?_⟩; conv => whnf)
  (refine V.CallW.out ?_; (conv => arg 3; dsimp only [EV.val, List.toList_toArray, List.nil_append, List.append_nil, List.cons_append]); (with_reducible refine V.PureF.useW (awithin_p _ _ _) fun w hx => ?_); try (have hp := hp.call hx); conv => whnf)
  (refine hKq _ _ _ (.refl _) ?_; clear hKq Kq; conv => whnf)
  (refine VSeq.mk fun Kq hKq => ?_; conv => whnf)
  (refine ⟨fun hd => ?_, fun hd => ?_⟩ <;> (try simp only [Bool.not_eq_true', Bool.not_eq_false', decide_eq_true_eq, decide_eq_false_iff_not, ne_eq, Classical.not_not] at hd) <;> (conv => whnf))
  (refine ⟨_, _, Blk.ld (hp.get (i := 0) rfl) TTok rfl rfl, ?_⟩; conv => whnf)
  (refine V.CallW.out ?_; (conv => arg 3; dsimp only [EV.val, List.toList_toArray, List.nil_append, List.append_nil, List.cons_append]); (with_reducible refine V.PureF.useW (awithin_p _ _ _) fun w hx => ?_); try (have hp := hp.call hx); conv => whnf)
  (refine hKq _ _ _ (.refl _) ?_; clear hKq Kq; conv => whnf)
  (refine VSeq.mk fun Kq hKq => ?_; conv => whnf)
  (refine ⟨fun hd => ?_, fun hd => ?_⟩ <;> (try simp only [Bool.not_eq_true', Bool.not_eq_false', decide_eq_true_eq, decide_eq_false_iff_not, ne_eq, Classical.not_not] at hd) <;> (conv => whnf))
  (refine ⟨_, _, Blk.ld (hp.get (i := 0) rfl) TTok rfl rfl, ?_⟩; conv => whnf)
  (refine ⟨fun hd => ?_, fun hd => ?_⟩ <;> (try simp only [Bool.not_eq_true', Bool.not_eq_false', decide_eq_true_eq, decide_eq_false_iff_not, ne_eq, Classical.not_not] at hd) <;> (conv => whnf))
  (refine hKq _ _ _ (.refl _) ?_; clear hKq Kq; conv => whnf)
  (refine ⟨_, _, Blk.ldV (vs := [_, _]) (hp.get (i := 0) rfl) TTok rfl rfl rfl, ?_⟩; conv => whnf)
  (refine ⟨_, _, bld24_ _, ?_⟩; conv => whnf)
  (refine ⟨_, _, (ad_eq _ ⟨_, _⟩ Ad.z hm Ad.z_ok _ _).1, ?_⟩)
  (refine hKq _ _ _ (.refl _) ?_; clear hKq Kq; conv => whnf)
  (refine ⟨congrArg Value.bool ?_, hp.ext⟩; rw [Bool.eq_iff_iff]; first | (simp only [Bool.or_eq_true, Bool.and_eq_true, decide_eq_true_eq, Bool.not_eq_true', decide_eq_false_iff_not, eq_self, true_and, and_true, true_iff, iff_true, false_iff, iff_false, reduceCtorEq, ne_eq, *] <;> omega) | (simp_all; fail_if_success skip) | (simp_all <;> omega))
  (refine ⟨_, _, Blk.ld (hp.get (i := 0) rfl) TTok rfl rfl, ?_⟩; conv => whnf)
  (refine hKq _ _ _ (.refl _) ?_; clear hKq Kq; conv => whnf)
  (refine ⟨fun hd => ?_, fun hd => ?_⟩ <;> (try simp only [Bool.not_eq_true', Bool.not_eq_false', decide_eq_true_eq, decide_eq_false_iff_not, ne_eq, Classical.not_not] at hd) <;> (conv => whnf))
  (refine ⟨_, _, Blk.ldV (vs := [_, _]) (hp.get (i := 0) rfl) TTok rfl rfl rfl, ?_⟩; conv => whnf)
  (refine ⟨_, _, bld24_ _, ?_⟩; conv => whnf)
  (refine ⟨_, _, (ad_eq _ ⟨_, _⟩ Ad.z hm Ad.z_ok _ _).1, ?_⟩)
  (refine hKq _ _ _ (.refl _) ?_; clear hKq Kq; conv => whnf)
  (refine ⟨congrArg Value.bool ?_, hp.ext⟩; rw [Bool.eq_iff_iff]; first | (simp only [Bool.or_eq_true, Bool.and_eq_true, decide_eq_true_eq, Bool.not_eq_true', decide_eq_false_iff_not, eq_self, true_and, and_true, true_iff, iff_true, false_iff, iff_false, reduceCtorEq, ne_eq, *] <;> omega) | (simp_all; fail_if_success skip) | (simp_all <;> omega))
  (refine hKq _ _ _ (.refl _) ?_; clear hKq Kq; conv => whnf)
  (refine ⟨congrArg Value.bool ?_, hp.ext⟩; rw [Bool.eq_iff_iff]; first | (simp only [Bool.or_eq_true, Bool.and_eq_true, decide_eq_true_eq, Bool.not_eq_true', decide_eq_false_iff_not, eq_self, true_and, and_true, true_iff, iff_true, false_iff, iff_false, reduceCtorEq, ne_eq, *] <;> omega) | (simp_all; fail_if_success skip) | (simp_all <;> omega))
  (refine hKq _ _ _ (.refl _) ?_; clear hKq Kq; conv => whnf)
  (refine hKq _ _ _ (.refl _) ?_; clear hKq Kq; conv => whnf)
  (refine ⟨congrArg Value.bool ?_, hp.ext⟩; rw [Bool.eq_iff_iff]; first | (simp only [Bool.or_eq_true, Bool.and_eq_true, decide_eq_true_eq, Bool.not_eq_true', decide_eq_false_iff_not, eq_self, true_and, and_true, true_iff, iff_true, false_iff, iff_false, reduceCtorEq, ne_eq, *] <;> omega) | (simp_all; fail_if_success skip) | (simp_all <;> omega))
  (refine hKq _ _ _ (.refl _) ?_; clear hKq Kq; conv => whnf)
  (refine VSeq.mk fun Kq hKq => ?_; conv => whnf)
  (refine hKq _ _ _ (.refl _) ?_; clear hKq Kq; conv => whnf)
  (refine hKq _ _ _ (.refl _) ?_; clear hKq Kq; conv => whnf)
  (refine ⟨congrArg Value.bool ?_, hp.ext⟩; rw [Bool.eq_iff_iff]; first | (simp only [Bool.or_eq_true, Bool.and_eq_true, decide_eq_true_eq, Bool.not_eq_true', decide_eq_false_iff_not, eq_self, true_and, and_true, true_iff, iff_true, false_iff, iff_false, reduceCtorEq, ne_eq, *] <;> omega) | (simp_all; fail_if_success skip) | (simp_all <;> omega))
theorem valid_2 (id pr : Int) (ct : Bool) (ti : Int) (no : Bool) (h : ByteArray) (p : Int) (ha : Prb.Ok ⟨2, id, pr, ct, ti, no, ⟨h, p⟩⟩) : PureF Try.prog 47 #[.agg #[.int .i64 2, .int .i64 id, .int .i64 pr, .bool ct, .int .i64 ti, .bool no, .string h, .int .i64 p]] (.bool (probeB ⟨2, id, pr, ct, ti, no, ⟨h, p⟩⟩)) := by
  rw [probeB_2]
  first | refine v_pure TTok FFok Try.func47 rfl rfl fun w0 => ?_ | refine v_pure (args := []) TTok FFok Try.func47 rfl rfl fun w0 => ?_
  conv => whnf
  refine VSeq.mk fun Kq hKq => ?_
  conv => whnf
  have hp := Hp.nil w0
  (refine hp.kboxA fun q w hp hx => ?_; conv => whnf)
  (refine hKq _ _ _ (.refl _) ?_; clear hKq Kq; conv => whnf)
  (refine VSeq.mk fun Kq hKq => ?_; conv => whnf)
  (refine VSeq.mk fun Kq hKq => ?_; conv => whnf)
  (refine ⟨_, _, Blk.ld (hp.get (i := 0) rfl) TTok rfl rfl, ?_⟩; conv => whnf)
  (refine V.CallW.out ?_; (conv => arg 3; dsimp only [EV.val, List.toList_toArray, List.nil_append, List.append_nil, List.cons_append]); (with_reducible refine V.PureF.useW (awithin_p _ _ _) fun w hx => ?_); try (have hp := hp.call hx); conv => whnf)
  (refine hKq _ _ _ (.refl _) ?_; clear hKq Kq; conv => whnf)
  (refine ⟨fun hd => ?_, fun hd => ?_⟩ <;> (try simp only [Bool.not_eq_true', Bool.not_eq_false', decide_eq_true_eq, decide_eq_false_iff_not, ne_eq, Classical.not_not] at hd) <;> (conv => whnf))
  (refine VSeq.mk fun Kq hKq => ?_; conv => whnf)
  (refine hKq _ _ _ (.refl _) ?_; clear hKq Kq; conv => whnf)
  (refine ⟨congrArg Value.bool ?_, hp.ext⟩; rw [Bool.eq_iff_iff]; first | (simp only [Bool.or_eq_true, Bool.and_eq_true, decide_eq_true_eq, Bool.not_eq_true', decide_eq_false_iff_not, eq_self, true_and, and_true, true_iff, iff_true, false_iff, iff_false, reduceCtorEq, ne_eq, *] <;> omega) | (simp_all; fail_if_success skip) | (simp_all <;> omega))
  (refine hKq _ _ _ (.refl _) ?_; clear hKq Kq; conv => whnf)
  (refine VSeq.mk fun Kq hKq => ?_; conv => whnf)
  (refine VSeq.mk fun Kq hKq => ?_; conv => whnf)
  (refine ⟨_, _, Blk.ld (hp.get (i := 0) rfl) TTok rfl rfl, ?_⟩; conv => whnf)
  (refine hKq _ _ _ (.refl _) ?_; clear hKq Kq; conv => whnf)
  (refine VSeq.mk fun Kq hKq => ?_; conv => whnf)
  (refine hKq _ _ _ (.refl _) ?_; clear hKq Kq; conv => whnf)
  (refine And.intro (fun h => absurd (of_decide_eq_true h) (by first | (intro h2; exact absurd rfl h2) | omega | decide)) (fun _ => ?_); conv => whnf)
  (refine VSeq.mk fun Kq hKq => ?_; conv => whnf)
  (refine hKq _ _ _ (.refl _) ?_; clear hKq Kq; conv => whnf)
  (refine And.intro (fun _ => ?_) (fun h => absurd (by first | rfl | assumption | omega | decide) (of_decide_eq_false h)); conv => whnf)
  (refine VSeq.mk fun Kq hKq => ?_; conv => whnf)
  (refine VSeq.mk fun Kq hKq => ?_; conv => whnf)
  (refine ⟨_, _, Blk.ldV (vs := [_, _]) (hp.get (i := 0) rfl) TTok rfl rfl rfl, ?_⟩; conv => whnf)
  (refine V.CallW.out ?_; (conv => arg 3; dsimp only [EV.val, List.toList_toArray, List.nil_append, List.append_nil, List.cons_append]); (with_reducible refine V.PureF.useW (ausable_p _ _) fun w hx => ?_); try (have hp := hp.call hx); conv => whnf)
  (refine hKq _ _ _ (.refl _) ?_; clear hKq Kq; conv => whnf)
  (refine ⟨fun hd => ?_, fun hd => ?_⟩ <;> (try simp only [Bool.not_eq_true', Bool.not_eq_false', decide_eq_true_eq, decide_eq_false_iff_not, ne_eq, Classical.not_not] at hd) <;> (conv => whnf))
  (refine ⟨_, _, Blk.ldV (vs := [_, _, _, _, _, _, _, _]) (hp.get (i := 0) rfl) TTok rfl rfl rfl, ?_⟩; conv => whnf)
  (refine ⟨_, _, Blk.ld (hp.get (i := 0) rfl) TTok rfl rfl, ?_⟩; conv => whnf)
  (refine ⟨_, _, Blk.ld (hp.get (i := 0) rfl) TTok rfl rfl, ?_⟩; conv => whnf)
  (refine ⟨_, _, Blk.ldV (vs := [_, _]) (hp.get (i := 0) rfl) TTok rfl rfl rfl, ?_⟩; conv => whnf)
  (refine ⟨_, _, bld38_0_1_6 _ _ _ _ _, ?_⟩; conv => whnf)
  (refine ⟨_, _, (prb_eq _ ⟨_, _, _, _, _, _, ⟨_, _⟩⟩ (p2 id ⟨h, p⟩) ha (p2_ok ha.id ha.m) _ _).1, ?_⟩)
  (refine hKq _ _ _ (.refl _) ?_; clear hKq Kq; conv => whnf)
  (refine ⟨congrArg Value.bool ?_, hp.ext⟩; rw [Bool.eq_iff_iff]; first | (simp only [Bool.or_eq_true, Bool.and_eq_true, decide_eq_true_eq, Bool.not_eq_true', decide_eq_false_iff_not, eq_self, true_and, and_true, true_iff, iff_true, false_iff, iff_false, reduceCtorEq, ne_eq, *] <;> omega) | (simp_all; fail_if_success skip) | (simp_all <;> omega))
  (refine hKq _ _ _ (.refl _) ?_; clear hKq Kq; conv => whnf)
  (refine ⟨congrArg Value.bool ?_, hp.ext⟩; rw [Bool.eq_iff_iff]; first | (simp only [Bool.or_eq_true, Bool.and_eq_true, decide_eq_true_eq, Bool.not_eq_true', decide_eq_false_iff_not, eq_self, true_and, and_true, true_iff, iff_true, false_iff, iff_false, reduceCtorEq, ne_eq, *] <;> omega) | (simp_all; fail_if_success skip) | (simp_all <;> omega))
theorem valid_3 (id pr : Int) (ct : Bool) (ti : Int) (no : Bool) (h : ByteArray) (p : Int) (ha : Prb.Ok ⟨3, id, pr, ct, ti, no, ⟨h, p⟩⟩) : PureF Try.prog 47 #[.agg #[.int .i64 3, .int .i64 id, .int .i64 pr, .bool ct, .int .i64 ti, .bool no, .string h, .int .i64 p]] (.bool (probeB ⟨3, id, pr, ct, ti, no, ⟨h, p⟩⟩)) := by
  rw [probeB_3]
  first | refine v_pure TTok FFok Try.func47 rfl rfl fun w0 => ?_ | refine v_pure (args := []) TTok FFok Try.func47 rfl rfl fun w0 => ?_
  conv => whnf
  refine VSeq.mk fun Kq hKq => ?_
  conv => whnf
  have hp := Hp.nil w0
  (refine hp.kboxA fun q w hp hx => ?_; conv => whnf)
  (refine hKq _ _ _ (.refl _) ?_; clear hKq Kq; conv => whnf)
  (refine VSeq.mk fun Kq hKq => ?_; conv => whnf)
  (refine VSeq.mk fun Kq hKq => ?_; conv => whnf)
  (refine ⟨_, _, Blk.ld (hp.get (i := 0) rfl) TTok rfl rfl, ?_⟩; conv => whnf)
  (refine V.CallW.out ?_; (conv => arg 3; dsimp only [EV.val, List.toList_toArray, List.nil_append, List.append_nil, List.cons_append]); (with_reducible refine V.PureF.useW (awithin_p _ _ _) fun w hx => ?_); try (have hp := hp.call hx); conv => whnf)
  (refine hKq _ _ _ (.refl _) ?_; clear hKq Kq; conv => whnf)
  cases hg : inB id 0 1099511627776 with
  | false =>
    refine And.intro (fun _ => ?_) (fun h => absurd h (by decide))
    conv => whnf
    (refine VSeq.mk fun Kq hKq => ?_; conv => whnf)
    (refine hKq _ _ _ (.refl _) ?_; clear hKq Kq; conv => whnf)
    (exact ⟨rfl, hp.ext⟩)
  | true =>
    refine And.intro (fun h => absurd h (by decide)) (fun _ => ?_)
    conv => whnf
    conv => whnf
    refine hKq _ _ _ (.refl _) ?_
    clear hKq Kq
    conv => whnf
    refine VSeq.mk fun Kq hKq => ?_
    conv => whnf
    refine VSeq.mk fun Kq hKq => ?_
    conv => whnf
    refine ⟨_, _, Blk.ld (hp.get (i := 0) rfl) TTok rfl (rfl), ?_⟩
    conv => whnf
    refine hKq _ _ _ (.refl _) ?_
    clear hKq Kq
    conv => whnf
    refine VSeq.mk fun Kq hKq => ?_
    conv => whnf
    refine hKq _ _ _ (.refl _) ?_
    clear hKq Kq
    conv => whnf
    refine And.intro (fun h => absurd h (by decide)) (fun _ => ?_)
    conv => whnf
    conv => whnf
    refine VSeq.mk fun Kq hKq => ?_
    conv => whnf
    refine hKq _ _ _ (.refl _) ?_
    clear hKq Kq
    conv => whnf
    refine And.intro (fun h => absurd h (by decide)) (fun _ => ?_)
    conv => whnf
    conv => whnf
    refine VSeq.mk fun Kq hKq => ?_
    conv => whnf
    refine hKq _ _ _ (.refl _) ?_
    clear hKq Kq
    conv => whnf
    refine And.intro (fun _ => ?_) (fun h => absurd h (by decide))
    conv => whnf
    conv => whnf
    refine VSeq.mk fun Kq hKq => ?_
    conv => whnf
    refine ⟨_, _, Blk.ldN (hp.get (i := 0) rfl) TTok rfl (rfl), ?_⟩
    conv => whnf
    refine ⟨_, _, Blk.ld (hp.get (i := 0) rfl) TTok rfl (rfl), ?_⟩
    conv => whnf
    refine ⟨_, _, Blk.ld (hp.get (i := 0) rfl) TTok rfl (rfl), ?_⟩
    conv => whnf
    refine ⟨_, _, bld38_0_1 w _ _, ?_⟩
    conv => whnf
    refine ⟨_, _, (prb_eq w ⟨_, _, _, _, _, _, ⟨_, _⟩⟩ (p3 id) ha (p3_ok ha.id) _ _).1, ?_⟩
    conv => whnf
    refine hKq _ _ _ (.refl _) ?_
    clear hKq Kq
    conv => whnf
    (refine ⟨congrArg Value.bool ?_, hp.ext⟩; rw [Bool.eq_iff_iff]; first | (simp only [Bool.or_eq_true, Bool.and_eq_true, decide_eq_true_eq, Bool.not_eq_true', decide_eq_false_iff_not, eq_self, true_and, and_true, true_iff, iff_true, false_iff, iff_false, reduceCtorEq, ne_eq, *] <;> omega) | (simp_all; fail_if_success skip) | (simp_all <;> omega))
theorem valid_x (k id pr : Int) (ct : Bool) (ti : Int) (no : Bool) (h : ByteArray) (p : Int) (h1 : k ≠ 1) (h2 : k ≠ 2) (h3 : k ≠ 3) : PureF Try.prog 47 #[.agg #[.int .i64 k, .int .i64 id, .int .i64 pr, .bool ct, .int .i64 ti, .bool no, .string h, .int .i64 p]] (.bool (probeB ⟨k, id, pr, ct, ti, no, ⟨h, p⟩⟩)) := by
  rw [probeB_x _ _ _ _ _ _ _ _ h1 h2 h3]
  first | refine v_pure TTok FFok Try.func47 rfl rfl fun w0 => ?_ | refine v_pure (args := []) TTok FFok Try.func47 rfl rfl fun w0 => ?_
  conv => whnf
  refine VSeq.mk fun Kq hKq => ?_
  conv => whnf
  have hp := Hp.nil w0
  (refine hp.kboxA fun q w hp hx => ?_; conv => whnf)
  (refine hKq _ _ _ (.refl _) ?_; clear hKq Kq; conv => whnf)
  (refine VSeq.mk fun Kq hKq => ?_; conv => whnf)
  (refine VSeq.mk fun Kq hKq => ?_; conv => whnf)
  (refine ⟨_, _, Blk.ld (hp.get (i := 0) rfl) TTok rfl rfl, ?_⟩; conv => whnf)
  (refine V.CallW.out ?_; (conv => arg 3; dsimp only [EV.val, List.toList_toArray, List.nil_append, List.append_nil, List.cons_append]); (with_reducible refine V.PureF.useW (awithin_p _ _ _) fun w hx => ?_); try (have hp := hp.call hx); conv => whnf)
  (refine hKq _ _ _ (.refl _) ?_; clear hKq Kq; conv => whnf)
  (refine ⟨fun hd => ?_, fun hd => ?_⟩ <;> (try simp only [Bool.not_eq_true', Bool.not_eq_false', decide_eq_true_eq, decide_eq_false_iff_not, ne_eq, Classical.not_not] at hd) <;> (conv => whnf))
  (refine VSeq.mk fun Kq hKq => ?_; conv => whnf)
  (refine hKq _ _ _ (.refl _) ?_; clear hKq Kq; conv => whnf)
  (exact ⟨rfl, hp.ext⟩)
  (refine hKq _ _ _ (.refl _) ?_; clear hKq Kq; conv => whnf)
  (refine VSeq.mk fun Kq hKq => ?_; conv => whnf)
  (refine VSeq.mk fun Kq hKq => ?_; conv => whnf)
  (refine ⟨_, _, Blk.ld (hp.get (i := 0) rfl) TTok rfl rfl, ?_⟩; conv => whnf)
  (refine hKq _ _ _ (.refl _) ?_; clear hKq Kq; conv => whnf)
  (refine VSeq.mk fun Kq hKq => ?_; conv => whnf)
  (refine hKq _ _ _ (.refl _) ?_; clear hKq Kq; conv => whnf)
  (refine And.intro (fun h => absurd (of_decide_eq_true h) (by first | (intro h2; exact absurd rfl h2) | omega | decide)) (fun _ => ?_); conv => whnf)
  (refine VSeq.mk fun Kq hKq => ?_; conv => whnf)
  (refine hKq _ _ _ (.refl _) ?_; clear hKq Kq; conv => whnf)
  (refine And.intro (fun h => absurd (of_decide_eq_true h) (by first | (intro h2; exact absurd rfl h2) | omega | decide)) (fun _ => ?_); conv => whnf)
  (refine VSeq.mk fun Kq hKq => ?_; conv => whnf)
  (refine hKq _ _ _ (.refl _) ?_; clear hKq Kq; conv => whnf)
  (refine And.intro (fun h => absurd (of_decide_eq_true h) (by first | (intro h2; exact absurd rfl h2) | omega | decide)) (fun _ => ?_); conv => whnf)
  (refine hKq _ _ _ (.refl _) ?_; clear hKq Kq; conv => whnf)
  (refine VSeq.mk fun Kq hKq => ?_; conv => whnf)
  (refine hKq _ _ _ (.refl _) ?_; clear hKq Kq; conv => whnf)
  (exact ⟨rfl, hp.ext⟩)
theorem valid_p (a : Prb) (ha : a.Ok) : PureF Try.prog 47 #[.agg a.c.toArray] (.bool (probeB a)) := by
  obtain ⟨k, id, pr, ct, ti, no, ⟨h, p⟩⟩ := a
  by_cases h1 : k = 1
  · subst h1; exact valid_1 _ _ _ _ _ _ _ ha.m
  by_cases h2 : k = 2
  · subst h2; exact valid_2 _ _ _ _ _ _ _ ha
  by_cases h3 : k = 3
  · subst h3; exact valid_3 _ _ _ _ _ _ _ ha
  exact valid_x _ _ _ _ _ _ _ _ h1 h2 h3
end Go.Proofs.Ytefjgoeabfgkmaa
