/- Chapter 08: messages with an attribute more; integrity. -/
/- Chapter 08: messages are protected, and written. -/
/- Chapter 08: Find. -/
/- Chapter 08: Verify. -/
/- Checks: the plain mathematics. No program. Own work. -/
/- Chapter 06: the table, More, Crc. -/
import Derived.Test.YtmlmfmdmomegpaaGreatDoorKN10
import Derived.Test.YtmlmfmdmomegpaaGreatDoorKN05
import Derived.Test.YtmlmfmdmomegpaaGreatDoorKN06
namespace Go.Proofs.YtmlmfmdmomegpaaGreatDoor
set_option linter.unusedSimpArgs false
set_option linter.unusedVariables false
set_option maxRecDepth 100000
open Go.RowKit V
def flatC (al : List At2) : List Value := al.flatMap atC
theorem flatC_len : ∀ al : List At2, (flatC al).length = al.length * 2
  | [] => rfl
  | a :: l => by
    have := flatC_len l
    unfold flatC at this ⊢
    rw [List.flatMap_cons, List.length_append, this, List.length_cons]
    show 2 + _ = _
    omega
theorem flatC_app (a b : List At2) : flatC (a ++ b) = flatC a ++ flatC b := by unfold flatC; rw [List.flatMap_append]
theorem flatC_one : ∀ al : List At2, ∀ u ∈ flatC al, u.oneCell' = true := by
  intro al u hu
  obtain ⟨a, _, ha⟩ := List.mem_flatMap.1 hu
  unfold atC at ha
  simp only [List.mem_cons, List.not_mem_nil, or_false] at ha
  rcases ha with rfl | rfl <;> rfl
theorem flatC_at : ∀ (al : List At2) (j : Nat) (a : At2), al[j]? = some a → ((flatC al).drop (j * 2)).take 2 = atC a
  | [], j, a, h => by simp at h
  | b :: l, 0, a, h => by
    have : b = a := by simpa using h
    subst this
    rfl
  | b :: l, j + 1, a, h => by
    have h2 : l[j]? = some a := by simpa using h
    have := flatC_at l j a h2
    show ((atC b ++ flatC l).drop ((j + 1) * 2)).take 2 = _
    rw [show (j + 1) * 2 = (atC b).length + j * 2 by show _ = 2 + _; omega, ← List.drop_drop, List.drop_left]
    exact this
theorem flatC_get {al : List At2} {k : Nat} {y : Value} (h : (flatC al)[k]? = some y) : ∃ a, al[k / 2]? = some a ∧ (atC a)[k % 2]? = some y := by
  have hk : k < (flatC al).length := (List.getElem?_eq_some_iff.1 h).1
  rw [flatC_len] at hk
  have hj : k / 2 < al.length := by omega
  refine ⟨al[k / 2], List.getElem?_eq_getElem hj, ?_⟩
  have e := flatC_at al (k / 2) _ (List.getElem?_eq_getElem hj)
  rw [← e, List.getElem?_take, if_pos (Nat.mod_lt _ (by decide)), List.getElem?_drop, show k / 2 * 2 + k % 2 = k by omega, h]
theorem SA.src {w : World} {v : Value} {al : List At2} (h : SA w v al) : Src Tryz.prog 2 22 v al.length (flatC al) w := by
  rcases h with ⟨rfl, h⟩ | ⟨a, c, rfl, h⟩ | ⟨g, off, c, rfl, hle, _, hc⟩
  · have : al = [] := List.map_eq_nil_iff.1 h
    subst this
    exact Src.ofNil w (tab_slice TTok rfl) 0
  · have : al = [] := List.map_eq_nil_iff.1 h
    subst this
    cases a with
    | none => exact Src.ofNil w (tab_slice TTok rfl) c
    | some a => exact Src.ofSlice w (tab_slice TTok rfl) a 0 c [] rfl (by simp) (by simp)
  · rw [List.length_map]
    refine Src.ofSlice w (tab_slice TTok rfl) ⟨g, off, none⟩ _ c (flatC al) (flatC_len al) (fun k y hk => ?_) (flatC_one al)
    obtain ⟨a, ha, hy⟩ := flatC_get hk
    have := (hc (k / 2) (atC a) (by rw [List.getElem?_map, ha]; rfl)).2 (k % 2) y hy
    rw [add_none, show off + k = off + (k / 2 * 2 + k % 2) by omega]
    exact this
theorem SA.of_row {w : World} {v : Value} {al : List At2} (h : (row 54 2 v al.length (flatC al)).holds w) : SA w v al := by
  have h0 := h
  obtain ⟨h1, h2⟩ : w.ownsRow 0 54 2 v al.length (flatC al) := h
  rcases h2 with ⟨hv, hn⟩ | ⟨g, cap, cur, hv, _, _, hle, hm, _⟩
  · have : al = [] := List.eq_nil_of_length_eq_zero hn
    subst this
    exact .inl ⟨hv, rfl⟩
  · subst hv
    refine .inr (.inr ⟨g, 0, cap, by rw [List.length_map], by rw [List.length_map]; exact hle, hm, fun j x hj => ?_⟩)
    rw [List.getElem?_map] at hj
    cases ha : al[j]? with
    | none => rw [ha] at hj; simp at hj
    | some a =>
      rw [ha] at hj
      have hx : x = atC a := by simpa using hj.symm
      subst hx
      refine ⟨rfl, fun i y hy => ?_⟩
      have hi : i < 2 := (List.getElem?_eq_some_iff.1 hy).1
      have := row_cell h0 (j := j * 2 + i) (v := y) (by
        have e := flatC_at al j a ha
        rw [← e, List.getElem?_take, if_pos hi, List.getElem?_drop] at hy
        exact hy)
      rw [Nat.zero_add]
      exact this
theorem SA.nil_of {w : World} {n c : Nat} {al : List At2} (h : SA w (.slice none n c) al) : al = [] ∧ n = 0 := by
  rcases h with ⟨hv, h⟩ | ⟨a, c, hv, h⟩ | ⟨g, off, c, hv, _⟩
  · exact ⟨List.map_eq_nil_iff.1 h, by injection hv⟩
  · exact ⟨List.map_eq_nil_iff.1 h, by injection hv⟩
  · simp at hv
theorem CloneA_c {W : World} {v : Value} {al : List At2} (hv : SA W v al) (hl : al.length ≤ 100000) :
    Calls Tryz.prog 126 #[v] W fun e w' => ∃ u, e = .returned u ∧ HpM [] W w' [row 54 2 u al.length (flatC al)] := by
  obtain ⟨p, c, rfl⟩ := hv.shape
  refine v_fn (args := [.slice p al.length c]) TTok FFok Tryz.func126 rfl (Nat.le_of_ble_eq_true rfl) ?_
  have hp := Hp.nil W
  conv => whnf
  refine VSeq.mk fun Kq hKq => ?_
  conv => whnf
  refine hKq _ _ _ (.refl _) ?_
  clear hKq Kq
  conv => whnf
  refine VSeq.mk fun Kq hKq => ?_
  conv => whnf
  refine VSeq.mk fun Kq hKq => ?_
  conv => whnf
  cases p with
  | none =>
    obtain ⟨h0, _⟩ := hv.nil_of
    subst h0
    refine ⟨.bool true, W, by kernel_rfl, ?_⟩
    conv => whnf
    refine hKq _ _ _ (.refl _) ?_
    clear hKq Kq
    conv => whnf
    refine And.intro (fun _ => ?_) (fun h => by cases h)
    conv => whnf
    refine VSeq.mk fun Kq hKq => ?_
    conv => whnf
    refine hKq _ _ _ (.refl _) ?_
    clear hKq Kq
    conv => whnf
    exact hp.knil 54 2
  | some a =>
    refine ⟨.bool false, W, by kernel_rfl, ?_⟩
    conv => whnf
    refine hKq _ _ _ (.refl _) ?_
    clear hKq Kq
    conv => whnf
    refine And.intro (fun h => by cases h) (fun _ => ?_)
    conv => whnf
    refine hKq _ _ _ (.refl _) ?_
    clear hKq Kq
    conv => whnf
    refine VSeq.mk fun Kq hKq => ?_
    conv => whnf
    refine hp.kmadeR [] 54 2 0 rfl (by decide) (by kernel_rfl) fun b w hp hx => ?_
    conv => whnf
    refine hp.kappE sl22 ((hv.ext hx).src) (by omega) (by unfold maxLen; omega) fun v' w hp _ => ?_
    rw [Nat.zero_add, List.nil_append] at hp
    obtain ⟨p1, c1, rfl⟩ := row_shape (hp.get (i := 0) rfl)
    conv => whnf
    refine hKq _ _ _ (.refl _) ?_
    clear hKq Kq
    conv => whnf
    exact hp
theorem with_t {W : World} {v : Value} {al : List At2} (c m : Int) (id : ByteArray) (k : Int) (s : ByteArray) (hv : SA W v al) (hl : al.length ≤ 30) (hb : stunB c m id (al ++ [(k, s)]) = true) :
    Calls Tryz.prog 90 #[.agg #[.int .i64 c, .int .i64 m, .string id, v], .agg #[.int .i64 k, .string s]] W fun e w' => ∃ u, e = .returned u ∧ ∃ v', u = .tuple #[.agg #[.int .i64 c, .int .i64 m, .string id, v'], .int .i64 0] ∧ HpM [] W w' [row 54 2 v' (al ++ [(k, s)]).length (flatC (al ++ [(k, s)]))] := by
  have hN : chkN c m id (al ++ [(k, s)]) = 0 := by unfold chkN; rw [hb]; rfl
  obtain ⟨p, cp, rfl⟩ := hv.shape
  refine v_fn (args := [.agg #[.int .i64 c, .int .i64 m, .string id, .slice p al.length cp], .agg #[.int .i64 k, .string s]]) TTok FFok Tryz.func90 rfl (Nat.le_of_ble_eq_true rfl) ?_
  have hp := Hp.nil W
  conv => whnf
  refine VSeq.mk fun Kq hKq => ?_
  conv => whnf
  refine hp.kboxA fun q2 w hp hx => ?_
  conv => whnf
  refine hp.kboxA fun q3 w hp hx => ?_
  conv => whnf
  refine hp.kalloc z24 fun q4 w hp hx => ?_
  conv => whnf
  refine hKq _ _ _ (.refl _) ?_
  clear hKq Kq
  conv => whnf
  refine VSeq.mk fun Kq hKq => ?_
  conv => whnf
  refine v_mt TTok FFok mixed 5 (.q 0 (.q 1 (.q 3 (.br 2 4 (.m 4 .nil) (.m 2 .nil))))) (by kernel_rfl) ?_
  conv => whnf
  refine ⟨_, fun w' hx' => Blk.ld (Blk.ext (hp.get (i := 2) rfl) hx') TTok rfl (rfl), ?_⟩
  conv => whnf
  refine ⟨_, fun w' hx' => Blk.ldN (Blk.ext (hp.get (i := 1) rfl) hx') TTok rfl (rfl), ?_⟩
  conv => whnf
  refine And.intro ?_ ?_
  · intro w hx
    try (have hp := hp.call hx)
    conv => whnf
    refine Calls.mono (CloneA_c (hv.ext hp.ext) (by omega)) ?_
    rintro _ w ⟨u, rfl, k2⟩
    refine ⟨_, rfl, ?_⟩
    have hx := k2.ext
    have hp := hp.join k2
    simp only [List.cons_append, List.nil_append] at hp
    obtain ⟨pu, cu, rfl⟩ := row_shape (hp.get (i := 0) rfl)
    conv => whnf
    refine And.intro hx ?_
    conv => whnf
    intro w hx
    try (have hp := hp.call hx)
    conv => whnf
    refine hp.kmade _ _ (fun b => .slice (some ⟨b, 0, none⟩) 1 1) (mks22_1_0 _ (.int .i64 k) (.string s)) fun tb w hp hx => ?_
    conv => whnf
    refine And.intro hx ?_
    conv => whnf
    have hp : HpM [] W w [blk tb [.int .i64 k, .string s] 54, row 54 2 (.slice pu al.length cu) al.length (flatC al), blk q4 [.int .i64 0, .int .i64 0, .string ⟨#[]⟩, .slice none 0 0] 24, blk q3 [.int .i64 k, .string s] 54, blk q2 [.int .i64 c, .int .i64 m, .string id, .slice p al.length cp] 24] := hp.pick [0, 1, 2, 3, 4] (by decide)
    intro w hx
    try (have hp := hp.call hx)
    conv => whnf
    refine hp.kapp sl22 1 rfl (Blk.src TTok (hp.get (i := 0) rfl) rfl (m := 1) rfl (oneC_of rfl)) (by omega) (by unfold maxLen; omega) fun v' w hp => ?_
    simp only [List.set_cons_zero, List.set_cons_succ] at hp
    have hp : HpM [] W w [row 54 2 v' (al ++ [(k, s)]).length (flatC (al ++ [(k, s)])), blk q4 [.int .i64 0, .int .i64 0, .string ⟨#[]⟩, .slice none 0 0] 24, blk q2 [.int .i64 c, .int .i64 m, .string id, .slice p al.length cp] 24] := by
      rw [List.length_append, flatC_app]
      exact hp.pick [1, 2, 4] (by decide)
    obtain ⟨p1, c1, rfl⟩ := row_shape (hp.get (i := 0) rfl)
    have hSA := SA.of_row (hp.get (i := 0) rfl)
    conv => whnf
    refine hp.kst1 (off := 3) TTok (by rfl) 2 (by rfl) (by rfl) (by rfl) (Nat.le_of_ble_eq_true rfl) fun w hp => ?_
    try simp only [List.set_cons_zero, List.set_cons_succ, EV.val] at hp
    conv => whnf
    refine hKq _ _ _ (.refl _) ?_
    clear hKq Kq
    conv => whnf
    refine VSeq.mk fun Kq hKq => ?_
    conv => whnf
    refine VSeq.mk fun Kq hKq => ?_
    conv => whnf
    have hck := Check_c (W := w) c m id (SA.of_row (hp.get (i := 0) rfl))
    rw [hN] at hck
    (refine ⟨_, _, Blk.ldV (vs := [_, _, _, _]) (hp.get (i := 2) rfl) TTok rfl rfl rfl, ?_⟩; conv => whnf)
    (refine V.CallW.out ?_; (conv => arg 3; dsimp only [EV.val, List.toList_toArray, List.nil_append, List.append_nil, List.cons_append]); (with_reducible refine V.CallsUseW (hck) fun w hx => ?_); try (have hp := hp.call hx); conv => whnf)
    (refine hKq _ _ _ (.refl _) ?_; clear hKq Kq; conv => whnf)
    (refine And.intro (fun h => absurd (of_decide_eq_true h) (by first | (intro h2; exact absurd rfl h2) | omega | decide)) (fun _ => ?_); conv => whnf)
    (refine hKq _ _ _ (.refl _) ?_; clear hKq Kq; conv => whnf)
    (refine VSeq.mk fun Kq hKq => ?_; conv => whnf)
    (refine ⟨_, _, Blk.ldV (vs := [_, _, _, _]) (hp.get (i := 2) rfl) TTok rfl rfl rfl, ?_⟩; conv => whnf)
    (refine hp.kstA TTok rfl 1 rfl rfl (oneC_of rfl) (by rfl) fun w hp => ?_; try simp only [List.set_cons_zero, List.set_cons_succ, EV.val] at hp; conv => whnf)
    (refine hKq _ _ _ (.refl _) ?_; clear hKq Kq; conv => whnf)
    (refine ⟨_, Blk.lvN (hp.get (i := 1) rfl) TTok rfl rfl, ?_⟩; conv => whnf)
    exact ⟨_, rfl, hp.pick [0] (by decide)⟩
  · intro w hx
    try (have hp := hp.call hx)
    conv => whnf
    refine hp.kmade _ _ (fun b => .slice (some ⟨b, 0, none⟩) 1 1) (mks22_1_0 _ (.int .i64 k) (.string s)) fun tb w hp hx => ?_
    conv => whnf
    refine And.intro hx ?_
    conv => whnf
    intro w hx
    try (have hp := hp.call hx)
    conv => whnf
    refine Calls.mono (CloneA_c (hv.ext hp.ext) (by omega)) ?_
    rintro _ w ⟨u, rfl, k2⟩
    refine ⟨_, rfl, ?_⟩
    have hx := k2.ext
    have hp := hp.join k2
    simp only [List.cons_append, List.nil_append] at hp
    obtain ⟨pu, cu, rfl⟩ := row_shape (hp.get (i := 0) rfl)
    conv => whnf
    refine And.intro hx ?_
    conv => whnf
    have hp : HpM [] W w [blk tb [.int .i64 k, .string s] 54, row 54 2 (.slice pu al.length cu) al.length (flatC al), blk q4 [.int .i64 0, .int .i64 0, .string ⟨#[]⟩, .slice none 0 0] 24, blk q3 [.int .i64 k, .string s] 54, blk q2 [.int .i64 c, .int .i64 m, .string id, .slice p al.length cp] 24] := hp.pick [1, 0, 2, 3, 4] (by decide)
    intro w hx
    try (have hp := hp.call hx)
    conv => whnf
    refine hp.kapp sl22 1 rfl (Blk.src TTok (hp.get (i := 0) rfl) rfl (m := 1) rfl (oneC_of rfl)) (by omega) (by unfold maxLen; omega) fun v' w hp => ?_
    simp only [List.set_cons_zero, List.set_cons_succ] at hp
    have hp : HpM [] W w [row 54 2 v' (al ++ [(k, s)]).length (flatC (al ++ [(k, s)])), blk q4 [.int .i64 0, .int .i64 0, .string ⟨#[]⟩, .slice none 0 0] 24, blk q2 [.int .i64 c, .int .i64 m, .string id, .slice p al.length cp] 24] := by
      rw [List.length_append, flatC_app]
      exact hp.pick [1, 2, 4] (by decide)
    obtain ⟨p1, c1, rfl⟩ := row_shape (hp.get (i := 0) rfl)
    have hSA := SA.of_row (hp.get (i := 0) rfl)
    conv => whnf
    refine hp.kst1 (off := 3) TTok (by rfl) 2 (by rfl) (by rfl) (by rfl) (Nat.le_of_ble_eq_true rfl) fun w hp => ?_
    try simp only [List.set_cons_zero, List.set_cons_succ, EV.val] at hp
    conv => whnf
    refine hKq _ _ _ (.refl _) ?_
    clear hKq Kq
    conv => whnf
    refine VSeq.mk fun Kq hKq => ?_
    conv => whnf
    refine VSeq.mk fun Kq hKq => ?_
    conv => whnf
    have hck := Check_c (W := w) c m id (SA.of_row (hp.get (i := 0) rfl))
    rw [hN] at hck
    (refine ⟨_, _, Blk.ldV (vs := [_, _, _, _]) (hp.get (i := 2) rfl) TTok rfl rfl rfl, ?_⟩; conv => whnf)
    (refine V.CallW.out ?_; (conv => arg 3; dsimp only [EV.val, List.toList_toArray, List.nil_append, List.append_nil, List.cons_append]); (with_reducible refine V.CallsUseW (hck) fun w hx => ?_); try (have hp := hp.call hx); conv => whnf)
    (refine hKq _ _ _ (.refl _) ?_; clear hKq Kq; conv => whnf)
    (refine And.intro (fun h => absurd (of_decide_eq_true h) (by first | (intro h2; exact absurd rfl h2) | omega | decide)) (fun _ => ?_); conv => whnf)
    (refine hKq _ _ _ (.refl _) ?_; clear hKq Kq; conv => whnf)
    (refine VSeq.mk fun Kq hKq => ?_; conv => whnf)
    (refine ⟨_, _, Blk.ldV (vs := [_, _, _, _]) (hp.get (i := 2) rfl) TTok rfl rfl rfl, ?_⟩; conv => whnf)
    (refine hp.kstA TTok rfl 1 rfl rfl (oneC_of rfl) (by rfl) fun w hp => ?_; try simp only [List.set_cons_zero, List.set_cons_succ, EV.val] at hp; conv => whnf)
    (refine hKq _ _ _ (.refl _) ?_; clear hKq Kq; conv => whnf)
    (refine ⟨_, Blk.lvN (hp.get (i := 1) rfl) TTok rfl rfl, ?_⟩; conv => whnf)
    exact ⟨_, rfl, hp.pick [0] (by decide)⟩
abbrev zStun : Value := .agg #[.int .i64 0, .int .i64 0, .string ⟨#[]⟩, .slice none 0 0]
theorem with_f {W : World} {v : Value} {al : List At2} (c m : Int) (id : ByteArray) (k : Int) (s : ByteArray) (hv : SA W v al) (hl : al.length ≤ 30) (hb : stunB c m id (al ++ [(k, s)]) = false) :
    Calls Tryz.prog 90 #[.agg #[.int .i64 c, .int .i64 m, .string id, v], .agg #[.int .i64 k, .string s]] W fun e w' => ∃ u, e = .returned u ∧ u = .tuple #[zStun, .int .i64 3] ∧ Ext W w' := by
  have hN : chkN c m id (al ++ [(k, s)]) = 80 := by unfold chkN; rw [hb]; rfl
  obtain ⟨p, cp, rfl⟩ := hv.shape
  refine v_fn (args := [.agg #[.int .i64 c, .int .i64 m, .string id, .slice p al.length cp], .agg #[.int .i64 k, .string s]]) TTok FFok Tryz.func90 rfl (Nat.le_of_ble_eq_true rfl) ?_
  have hp := Hp.nil W
  conv => whnf
  refine VSeq.mk fun Kq hKq => ?_
  conv => whnf
  refine hp.kboxA fun q2 w hp hx => ?_
  conv => whnf
  refine hp.kboxA fun q3 w hp hx => ?_
  conv => whnf
  refine hp.kalloc z24 fun q4 w hp hx => ?_
  conv => whnf
  refine hKq _ _ _ (.refl _) ?_
  clear hKq Kq
  conv => whnf
  refine VSeq.mk fun Kq hKq => ?_
  conv => whnf
  refine v_mt TTok FFok mixed 5 (.q 0 (.q 1 (.q 3 (.br 2 4 (.m 4 .nil) (.m 2 .nil))))) (by kernel_rfl) ?_
  conv => whnf
  refine ⟨_, fun w' hx' => Blk.ld (Blk.ext (hp.get (i := 2) rfl) hx') TTok rfl (rfl), ?_⟩
  conv => whnf
  refine ⟨_, fun w' hx' => Blk.ldN (Blk.ext (hp.get (i := 1) rfl) hx') TTok rfl (rfl), ?_⟩
  conv => whnf
  refine And.intro ?_ ?_
  · intro w hx
    try (have hp := hp.call hx)
    conv => whnf
    refine Calls.mono (CloneA_c (hv.ext hp.ext) (by omega)) ?_
    rintro _ w ⟨u, rfl, k2⟩
    refine ⟨_, rfl, ?_⟩
    have hx := k2.ext
    have hp := hp.join k2
    simp only [List.cons_append, List.nil_append] at hp
    obtain ⟨pu, cu, rfl⟩ := row_shape (hp.get (i := 0) rfl)
    conv => whnf
    refine And.intro hx ?_
    conv => whnf
    intro w hx
    try (have hp := hp.call hx)
    conv => whnf
    refine hp.kmade _ _ (fun b => .slice (some ⟨b, 0, none⟩) 1 1) (mks22_1_0 _ (.int .i64 k) (.string s)) fun tb w hp hx => ?_
    conv => whnf
    refine And.intro hx ?_
    conv => whnf
    have hp : HpM [] W w [blk tb [.int .i64 k, .string s] 54, row 54 2 (.slice pu al.length cu) al.length (flatC al), blk q4 [.int .i64 0, .int .i64 0, .string ⟨#[]⟩, .slice none 0 0] 24, blk q3 [.int .i64 k, .string s] 54, blk q2 [.int .i64 c, .int .i64 m, .string id, .slice p al.length cp] 24] := hp.pick [0, 1, 2, 3, 4] (by decide)
    intro w hx
    try (have hp := hp.call hx)
    conv => whnf
    refine hp.kapp sl22 1 rfl (Blk.src TTok (hp.get (i := 0) rfl) rfl (m := 1) rfl (oneC_of rfl)) (by omega) (by unfold maxLen; omega) fun v' w hp => ?_
    simp only [List.set_cons_zero, List.set_cons_succ] at hp
    have hp : HpM [] W w [row 54 2 v' (al ++ [(k, s)]).length (flatC (al ++ [(k, s)])), blk q4 [.int .i64 0, .int .i64 0, .string ⟨#[]⟩, .slice none 0 0] 24, blk q2 [.int .i64 c, .int .i64 m, .string id, .slice p al.length cp] 24] := by
      rw [List.length_append, flatC_app]
      exact hp.pick [1, 2, 4] (by decide)
    obtain ⟨p1, c1, rfl⟩ := row_shape (hp.get (i := 0) rfl)
    have hSA := SA.of_row (hp.get (i := 0) rfl)
    conv => whnf
    refine hp.kst1 (off := 3) TTok (by rfl) 2 (by rfl) (by rfl) (by rfl) (Nat.le_of_ble_eq_true rfl) fun w hp => ?_
    try simp only [List.set_cons_zero, List.set_cons_succ, EV.val] at hp
    conv => whnf
    refine hKq _ _ _ (.refl _) ?_
    clear hKq Kq
    conv => whnf
    refine VSeq.mk fun Kq hKq => ?_
    conv => whnf
    refine VSeq.mk fun Kq hKq => ?_
    conv => whnf
    have hck := Check_c (W := w) c m id (SA.of_row (hp.get (i := 0) rfl))
    rw [hN] at hck
    (refine ⟨_, _, Blk.ldV (vs := [_, _, _, _]) (hp.get (i := 2) rfl) TTok rfl rfl rfl, ?_⟩; conv => whnf)
    (refine V.CallW.out ?_; (conv => arg 3; dsimp only [EV.val, List.toList_toArray, List.nil_append, List.append_nil, List.cons_append]); (with_reducible refine V.CallsUseW (hck) fun w hx => ?_); try (have hp := hp.call hx); conv => whnf)
    (refine hKq _ _ _ (.refl _) ?_; clear hKq Kq; conv => whnf)
    (refine And.intro (fun _ => ?_) (fun h => absurd (by first | rfl | assumption | omega | decide) (of_decide_eq_false h)); conv => whnf)
    (refine VSeq.mk fun Kq hKq => ?_; conv => whnf)
    (refine ⟨_, _, bld24_ _, ?_⟩; conv => whnf)
    (refine hp.kstA TTok rfl 1 rfl rfl (oneC_of rfl) (by rfl) fun w hp => ?_; try simp only [List.set_cons_zero, List.set_cons_succ, EV.val] at hp; conv => whnf)
    (refine hKq _ _ _ (.refl _) ?_; clear hKq Kq; conv => whnf)
    (refine ⟨_, Blk.lvN (hp.get (i := 1) rfl) TTok rfl rfl, ?_⟩; conv => whnf)
    exact ⟨rfl, hp.ext⟩
  · intro w hx
    try (have hp := hp.call hx)
    conv => whnf
    refine hp.kmade _ _ (fun b => .slice (some ⟨b, 0, none⟩) 1 1) (mks22_1_0 _ (.int .i64 k) (.string s)) fun tb w hp hx => ?_
    conv => whnf
    refine And.intro hx ?_
    conv => whnf
    intro w hx
    try (have hp := hp.call hx)
    conv => whnf
    refine Calls.mono (CloneA_c (hv.ext hp.ext) (by omega)) ?_
    rintro _ w ⟨u, rfl, k2⟩
    refine ⟨_, rfl, ?_⟩
    have hx := k2.ext
    have hp := hp.join k2
    simp only [List.cons_append, List.nil_append] at hp
    obtain ⟨pu, cu, rfl⟩ := row_shape (hp.get (i := 0) rfl)
    conv => whnf
    refine And.intro hx ?_
    conv => whnf
    have hp : HpM [] W w [blk tb [.int .i64 k, .string s] 54, row 54 2 (.slice pu al.length cu) al.length (flatC al), blk q4 [.int .i64 0, .int .i64 0, .string ⟨#[]⟩, .slice none 0 0] 24, blk q3 [.int .i64 k, .string s] 54, blk q2 [.int .i64 c, .int .i64 m, .string id, .slice p al.length cp] 24] := hp.pick [1, 0, 2, 3, 4] (by decide)
    intro w hx
    try (have hp := hp.call hx)
    conv => whnf
    refine hp.kapp sl22 1 rfl (Blk.src TTok (hp.get (i := 0) rfl) rfl (m := 1) rfl (oneC_of rfl)) (by omega) (by unfold maxLen; omega) fun v' w hp => ?_
    simp only [List.set_cons_zero, List.set_cons_succ] at hp
    have hp : HpM [] W w [row 54 2 v' (al ++ [(k, s)]).length (flatC (al ++ [(k, s)])), blk q4 [.int .i64 0, .int .i64 0, .string ⟨#[]⟩, .slice none 0 0] 24, blk q2 [.int .i64 c, .int .i64 m, .string id, .slice p al.length cp] 24] := by
      rw [List.length_append, flatC_app]
      exact hp.pick [1, 2, 4] (by decide)
    obtain ⟨p1, c1, rfl⟩ := row_shape (hp.get (i := 0) rfl)
    have hSA := SA.of_row (hp.get (i := 0) rfl)
    conv => whnf
    refine hp.kst1 (off := 3) TTok (by rfl) 2 (by rfl) (by rfl) (by rfl) (Nat.le_of_ble_eq_true rfl) fun w hp => ?_
    try simp only [List.set_cons_zero, List.set_cons_succ, EV.val] at hp
    conv => whnf
    refine hKq _ _ _ (.refl _) ?_
    clear hKq Kq
    conv => whnf
    refine VSeq.mk fun Kq hKq => ?_
    conv => whnf
    refine VSeq.mk fun Kq hKq => ?_
    conv => whnf
    have hck := Check_c (W := w) c m id (SA.of_row (hp.get (i := 0) rfl))
    rw [hN] at hck
    (refine ⟨_, _, Blk.ldV (vs := [_, _, _, _]) (hp.get (i := 2) rfl) TTok rfl rfl rfl, ?_⟩; conv => whnf)
    (refine V.CallW.out ?_; (conv => arg 3; dsimp only [EV.val, List.toList_toArray, List.nil_append, List.append_nil, List.cons_append]); (with_reducible refine V.CallsUseW (hck) fun w hx => ?_); try (have hp := hp.call hx); conv => whnf)
    (refine hKq _ _ _ (.refl _) ?_; clear hKq Kq; conv => whnf)
    (refine And.intro (fun _ => ?_) (fun h => absurd (by first | rfl | assumption | omega | decide) (of_decide_eq_false h)); conv => whnf)
    (refine VSeq.mk fun Kq hKq => ?_; conv => whnf)
    (refine ⟨_, _, bld24_ _, ?_⟩; conv => whnf)
    (refine hp.kstA TTok rfl 1 rfl rfl (oneC_of rfl) (by rfl) fun w hp => ?_; try simp only [List.set_cons_zero, List.set_cons_succ, EV.val] at hp; conv => whnf)
    (refine hKq _ _ _ (.refl _) ?_; clear hKq Kq; conv => whnf)
    (refine ⟨_, Blk.lvN (hp.get (i := 1) rfl) TTok rfl rfl, ?_⟩; conv => whnf)
    exact ⟨rfl, hp.ext⟩
theorem integrity_c {W : World} {v mv : Value} {al : List At2} (hv : SA W v al) (c m : Nat) (id key : ByteArray) (hmv : ∃ p n cp, mv = .slice p n cp) (hc : c < 4) (hm : m < 4096) (hid : id.size = 12) (hal : ∀ a ∈ al, attrB a = true) (hl : al.length ≤ 100) (hs : 20 + sizeN al ≤ 1200) (hk : key.size ≤ 4096) :
    Calls Tryz.prog 91 #[.agg #[.int .i64 c, .int .i64 m, .string id, mv], v, .string key] W fun e w' => e = .returned (.string (macB key (wrB c m id al 36))) ∧ Ext W w' := by
  have hM := Mac_p key (wrB c m id al 36)
  have hz := wrB_size c m id al 36
  unfold macR at hM
  rw [if_neg (by omega)] at hM
  obtain ⟨p, cp, rfl⟩ := hv.shape
  obtain ⟨mp, mn, mc, rfl⟩ := hmv
  refine v_reads (args := [.agg #[.int .i64 c, .int .i64 m, .string id, .slice mp mn mc], .slice p al.length cp, .string key]) TTok FFok Tryz.func91 rfl rfl ?_
  conv => whnf
  refine VSeq.mk fun Kq hKq => ?_
  conv => whnf
  have hp := Hp.nil W
  (refine hp.kboxA fun q w hp hx => ?_; conv => whnf)
  (refine hKq _ _ _ (.refl _) ?_; clear hKq Kq; conv => whnf)
  (refine VSeq.mk fun Kq hKq => ?_; conv => whnf)
  (refine ⟨_, _, Blk.ldV (vs := [_, _, _, _]) (hp.get (i := 0) rfl) TTok rfl rfl rfl, ?_⟩; conv => whnf)
  refine V.CallsUse (written_c (W := w) (hv.ext hp.ext) c m id 36 ⟨_, _, _, rfl⟩ hc hm (by omega) hal hl (by omega)) fun w hx => ?_
  try (have hp := hp.call hx)
  conv => whnf
  (refine V.CallW.out ?_; (conv => arg 3; dsimp only [EV.val, List.toList_toArray, List.nil_append, List.append_nil, List.cons_append]); (with_reducible refine V.PureF.useW (hM) fun w hx => ?_); try (have hp := hp.call hx); conv => whnf)
  (refine hKq _ _ _ (.refl _) ?_; clear hKq Kq; conv => whnf)
  (refine VSeq.mk fun Kq hKq => ?_; conv => whnf)
  (refine hKq _ _ _ (.refl _) ?_; clear hKq Kq; conv => whnf)
  (exact ⟨rfl, hp.ext⟩)
set_option maxHeartbeats 3200000
theorem Protect_stun {W : World} {v : Value} {al : List At2} (c m : Int) (id key : ByteArray) (hv : SA W v al) (hb : stunB c m id al = false) :
    Calls Tryz.prog 39 #[.agg #[.int .i64 c, .int .i64 m, .string id, v], .string key] W fun e w' => e = .returned (.tuple #[zStun, .int .i64 80]) ∧ Ext W w' := by
  have hN : chkN c m id al = 80 := by unfold chkN; rw [hb]; rfl
  obtain ⟨p, cp, rfl⟩ := hv.shape
  refine v_reads (args := [.agg #[.int .i64 c, .int .i64 m, .string id, .slice p al.length cp], .string key]) TTok FFok Tryz.func39 rfl rfl ?_
  conv => whnf
  refine VSeq.mk fun Kq hKq => ?_
  conv => whnf
  have hp := Hp.nil W
  (refine hp.kboxA fun q w hp hx => ?_; conv => whnf)
  (refine hp.kalloc z24 fun al24 w hp hx => ?_; conv => whnf)
  (refine hKq _ _ _ (.refl _) ?_; clear hKq Kq; conv => whnf)
  (refine VSeq.mk fun Kq hKq => ?_; conv => whnf)
  (refine VSeq.mk fun Kq hKq => ?_; conv => whnf)
  (refine ⟨_, _, Blk.ldV (vs := [_, _, _, _]) (hp.get (i := 1) rfl) TTok rfl rfl rfl, ?_⟩; conv => whnf)
  have hck := Check_c (W := w) c m id (hv.ext hp.ext)
  rw [hN] at hck
  (refine V.CallW.out ?_; (conv => arg 3; dsimp only [EV.val, List.toList_toArray, List.nil_append, List.append_nil, List.cons_append]); (with_reducible refine V.CallsUseW (hck) fun w hx => ?_); try (have hp := hp.call hx); conv => whnf)
  (refine hKq _ _ _ (.refl _) ?_; clear hKq Kq; conv => whnf)
  (refine VSeq.mk fun Kq hKq => ?_; conv => whnf)
  (refine hKq _ _ _ (.refl _) ?_; clear hKq Kq; conv => whnf)
  (refine And.intro (fun _ => ?_) (fun h => absurd (by first | rfl | assumption | omega | decide) (of_decide_eq_false h)); conv => whnf)
  (refine VSeq.mk fun Kq hKq => ?_; conv => whnf)
  (refine ⟨_, _, bld24_ _, ?_⟩; conv => whnf)
  (refine hp.kstA TTok rfl 0 rfl rfl (oneC_of rfl) (by rfl) fun w hp => ?_; try simp only [List.set_cons_zero, List.set_cons_succ, EV.val] at hp; conv => whnf)
  (refine hKq _ _ _ (.refl _) ?_; clear hKq Kq; conv => whnf)
  (refine ⟨_, Blk.lvN (hp.get (i := 0) rfl) TTok rfl rfl, ?_⟩; conv => whnf)
  (exact ⟨rfl, hp.ext⟩)
theorem Protect_long {W : World} {v : Value} {al : List At2} (c m : Int) (id key : ByteArray) (hv : SA W v al) (hb : stunB c m id al = true) (hk : 4096 < key.size) :
    Calls Tryz.prog 39 #[.agg #[.int .i64 c, .int .i64 m, .string id, v], .string key] W fun e w' => e = .returned (.tuple #[zStun, .int .i64 3]) ∧ Ext W w' := by
  have hN : chkN c m id al = 0 := by unfold chkN; rw [hb]; rfl
  obtain ⟨p, cp, rfl⟩ := hv.shape
  refine v_reads (args := [.agg #[.int .i64 c, .int .i64 m, .string id, .slice p al.length cp], .string key]) TTok FFok Tryz.func39 rfl rfl ?_
  conv => whnf
  refine VSeq.mk fun Kq hKq => ?_
  conv => whnf
  have hp := Hp.nil W
  (refine hp.kboxA fun q w hp hx => ?_; conv => whnf)
  (refine hp.kalloc z24 fun al24 w hp hx => ?_; conv => whnf)
  (refine hKq _ _ _ (.refl _) ?_; clear hKq Kq; conv => whnf)
  (refine VSeq.mk fun Kq hKq => ?_; conv => whnf)
  (refine VSeq.mk fun Kq hKq => ?_; conv => whnf)
  (refine ⟨_, _, Blk.ldV (vs := [_, _, _, _]) (hp.get (i := 1) rfl) TTok rfl rfl rfl, ?_⟩; conv => whnf)
  have hck := Check_c (W := w) c m id (hv.ext hp.ext)
  rw [hN] at hck
  (refine V.CallW.out ?_; (conv => arg 3; dsimp only [EV.val, List.toList_toArray, List.nil_append, List.append_nil, List.cons_append]); (with_reducible refine V.CallsUseW (hck) fun w hx => ?_); try (have hp := hp.call hx); conv => whnf)
  (refine hKq _ _ _ (.refl _) ?_; clear hKq Kq; conv => whnf)
  (refine VSeq.mk fun Kq hKq => ?_; conv => whnf)
  (refine hKq _ _ _ (.refl _) ?_; clear hKq Kq; conv => whnf)
  (refine And.intro (fun h => absurd (of_decide_eq_true h) (by first | (intro h2; exact absurd rfl h2) | omega | decide)) (fun _ => ?_); conv => whnf)
  (refine VSeq.mk fun Kq hKq => ?_; conv => whnf)
  (refine hKq _ _ _ (.refl _) ?_; clear hKq Kq; conv => whnf)
  (refine And.intro (fun _ => ?_) (fun h => absurd (by first | rfl | assumption | omega | decide) (of_decide_eq_false h)); conv => whnf)
  (refine VSeq.mk fun Kq hKq => ?_; conv => whnf)
  (refine ⟨_, _, bld24_ _, ?_⟩; conv => whnf)
  (refine hp.kstA TTok rfl 0 rfl rfl (oneC_of rfl) (by rfl) fun w hp => ?_; try simp only [List.set_cons_zero, List.set_cons_succ, EV.val] at hp; conv => whnf)
  (refine hKq _ _ _ (.refl _) ?_; clear hKq Kq; conv => whnf)
  (refine ⟨_, Blk.lvN (hp.get (i := 0) rfl) TTok rfl rfl, ?_⟩; conv => whnf)
  (exact ⟨rfl, hp.ext⟩)
set_option maxHeartbeats 3200000
theorem SA.at1 {w : World} {p : Option Addr} {n c : Nat} {al : List At2} (h : SA w (.slice p n c) al) {j : Nat} {a : At2} (hj : al[j]? = some a) :
    ∃ g off, p = some ⟨g, off, none⟩ ∧ (Instr.loadAt 9 (.pointer (some ⟨g, addM off j 2 + 1, none⟩))).run Tryz.prog w = .ok (.string a.2) w := by
  have hm : (al.map atC)[j]? = some (atC a) := by rw [List.getElem?_map, hj]; rfl
  rcases h with ⟨hv, h⟩ | ⟨_, _, hv, h⟩ | ⟨g, off, c, hv, _, _, h3⟩
  · rw [h] at hm; simp at hm
  · rw [h] at hm; simp at hm
  · simp only [Value.slice.injEq] at hv
    refine ⟨g, off, hv.1, ?_⟩
    have := (h3 j _ hm).2 1 (.string a.2) rfl
    refine run_ld TTok rfl ?_
    rw [addM_eq, Nat.add_assoc]
    exact this
/-- the first attribute of a kind -/
def findA (k : Int) (al : List At2) : Option ByteArray := (al.find? (kindB k)).map (·.2)
def findC (c m : Int) (id : ByteArray) (al : List At2) (k : Int) : ByteArray × Nat :=
  if stunB c m id al = true then (match findA k al with | some s => (s, 0) | none => (.empty, 4)) else (.empty, 80)
theorem find1_c {W : World} {qk : Nat} (k x : Int) (s : ByteArray) (hk : Blk W qk [.int .i64 k] 3) :
    Calls Tryz.prog 79 #[.agg #[.int .i64 x, .string s], .pointer (some ⟨qk, 0, none⟩)] W fun e w' => e = .returned (.bool (decide (x = k))) ∧ Ext W w' := by
  refine v_reads (args := [.agg #[.int .i64 x, .string s], .pointer (some ⟨qk, 0, none⟩)]) TTok FFok Tryz.func79 rfl rfl ?_
  conv => whnf
  refine VSeq.mk fun Kq hKq => ?_
  conv => whnf
  have hp := Hp.nil W
  (refine hp.kboxA fun q w hp hx => ?_; conv => whnf)
  (refine hKq _ _ _ (.refl _) ?_; clear hKq Kq; conv => whnf)
  (refine VSeq.mk fun Kq hKq => ?_; conv => whnf)
  (refine ⟨_, _, Blk.ld (hp.get (i := 0) rfl) TTok rfl rfl, ?_⟩; conv => whnf)
  (refine ⟨_, _, Blk.ld (Blk.ext hk hx) TTok rfl rfl, ?_⟩; conv => whnf)
  (refine hKq _ _ _ (.refl _) ?_; clear hKq Kq; conv => whnf)
  (exact ⟨rfl, hp.ext⟩)
theorem idx_find_c {W : World} {v : Value} {al : List At2} {qk : Nat} (k : Int) (hv : SA W v al) (hk : Blk W qk [.int .i64 k] 3) :
    Calls Tryz.prog 78 #[v, .func (.func 79) #[] #[.pointer (some ⟨qk, 0, none⟩)]] W fun e w' => e = .returned (.int .i64 (idxI k al)) ∧ Ext W w' := by
  have hml := hv.len
  obtain ⟨p, c, rfl⟩ := hv.shape
  refine v_reads (args := [.slice p al.length c, .func (.func 79) #[] #[.pointer (some ⟨qk, 0, none⟩)]]) TTok FFok Tryz.func78 rfl rfl ?_
  conv => whnf
  refine VSeq.mk fun Kq hKq => ?_
  conv => whnf
  refine hKq _ _ _ (.refl _) ?_
  clear hKq Kq
  conv => whnf
  refine VSeq.mk fun Kq hKq => ?_
  conv => whnf
  refine VSeq.mk fun Kq hKq => ?_
  conv => whnf
  refine hKq _ _ _ (.refl _) ?_
  clear hKq Kq
  conv => whnf
  refine ⟨fun mm e w' => ∃ (i : Nat), mm + i = al.length ∧ e = [(0, .v (.slice p al.length c)), (1, .v (.func (.func 79) #[] #[.pointer (some ⟨qk, 0, none⟩)])), (7, .v (.int .i64 al.length)), (8, .v (.int .i64 i))] ∧ (∀ b ∈ al.take i, kindB k b = false) ∧ Ext W w',
    ⟨al.length, _, ⟨0, by omega, rfl, by simp, Ext.refl _⟩, sub_cons rfl (sub_cons rfl (sub_cons rfl (sub_cons rfl sub_nil)))⟩, ?_⟩
  rintro mm _ w ⟨i, hmm, rfl, hn, hxw⟩
  conv => whnf
  refine VSeq.mk fun Kq hKq => ?_
  conv => whnf
  refine hKq _ _ _ (.refl _) ?_
  clear hKq Kq
  conv => whnf
  refine VSeq.mk fun Kq hKq => ?_
  conv => whnf
  refine ⟨fun hlt => ?_, fun hlt => ?_⟩
  · have hlt := of_decide_eq_true hlt
    conv => whnf
    refine hKq _ _ _ (.refl _) ?_
    clear hKq Kq
    conv => whnf
    refine VSeq.mk fun Kq hKq => ?_
    conv => whnf
    refine VSeq.mk fun Kq hKq => ?_
    conv => whnf
    refine hKq _ _ _ (.refl _) ?_
    clear hKq Kq
    conv => whnf
    refine VSeq.mk fun Kq hKq => ?_
    conv => whnf
    have hp := HpM.nil0 [] w
    obtain ⟨a, ha⟩ : ∃ a, al[i]? = some a := ⟨al[i]'(by omega), List.getElem?_eq_getElem (by omega)⟩
    obtain ⟨g, off, rfl, hld⟩ := (hv.ext hxw).at ha
    refine ⟨i, ⟨by first | rfl | omega, by show i < al.length; omega⟩, ?_⟩
    conv => whnf
    refine ⟨_, _, hld, ?_⟩
    conv => whnf
    refine V.CallsUse (find1_c k a.1 a.2 (Blk.ext hk hxw)) fun w hx => ?_
    try (have hp := hp.call hx)
    conv => whnf
    refine hKq _ _ _ (.refl _) ?_
    clear hKq Kq
    conv => whnf
    refine ⟨fun hq => ?_, fun hq => ?_⟩
    · have hq := of_decide_eq_true hq
      conv => whnf
      refine VSeq.mk fun Kq hKq => ?_
      conv => whnf
      refine hKq _ _ _ (.refl _) ?_
      clear hKq Kq
      conv => whnf
      have hb : kindB k a = true := decide_eq_true hq
      have hI := idx_hit ha hb hn
      conv => whnf
      exact ⟨by rw [hI]; rfl, hxw.trans hx⟩
    · have hq := of_decide_eq_false hq
      conv => whnf
      refine hKq _ _ _ (.refl _) ?_
      clear hKq Kq
      conv => whnf
      refine Or.inl (And.intro (by omega) ?_)
      conv => whnf
      have hb : kindB k a = false := decide_eq_false hq
      refine ⟨mm - 1, _, by omega, ⟨i + 1, by omega, rfl, fun b hbm => ?_, hxw.trans hx⟩, sub_cons rfl (sub_cons rfl (sub_cons rfl (sub_cons rfl sub_nil)))⟩
      rw [List.take_add_one, ha] at hbm
      rcases List.mem_append.1 hbm with h | h
      · exact hn b h
      · have : b = a := by simpa using h
        rw [this]; exact hb
  · have hlt := of_decide_eq_false hlt
    conv => whnf
    clear hKq Kq
    refine hKq _ _ _ (.refl _) ?_
    clear hKq Kq
    conv => whnf
    refine VSeq.mk fun Kq hKq => ?_
    conv => whnf
    refine hKq _ _ _ (.refl _) ?_
    clear hKq Kq
    conv => whnf
    obtain rfl : i = al.length := by omega
    rw [List.take_of_length_le (Nat.le_refl _)] at hn
    have hI := idx_miss hn
    conv => whnf
    exact ⟨by rw [hI]; rfl, hxw⟩
theorem Find_c {W : World} {v : Value} {al : List At2} (c m : Int) (id : ByteArray) (k : Int) (hv : SA W v al) :
    Calls Tryz.prog 25 #[.agg #[.int .i64 c, .int .i64 m, .string id, v], .int .i64 k] W fun e w' => e = .returned (.tuple #[.string (findC c m id al k).1, .int .i64 (findC c m id al k).2]) ∧ Ext W w' := by
  obtain ⟨p, cp, rfl⟩ := hv.shape
  have hml := hv.len
  refine v_reads (args := [.agg #[.int .i64 c, .int .i64 m, .string id, .slice p al.length cp], .int .i64 k]) TTok FFok Tryz.func25 rfl rfl ?_
  conv => whnf
  refine VSeq.mk fun Kq hKq => ?_
  conv => whnf
  have hp := Hp.nil W
  (refine hp.kboxA fun q w hp hx => ?_; conv => whnf)
  (refine hp.kboxA fun q w hp hx => ?_; conv => whnf)
  (refine hKq _ _ _ (.refl _) ?_; clear hKq Kq; conv => whnf)
  (refine VSeq.mk fun Kq hKq => ?_; conv => whnf)
  (refine VSeq.mk fun Kq hKq => ?_; conv => whnf)
  (refine ⟨_, _, Blk.ldV (vs := [_, _, _, _]) (hp.get (i := 1) rfl) TTok rfl rfl rfl, ?_⟩; conv => whnf)
  have hck := Check_c (W := w) c m id (hv.ext hp.ext)
  by_cases hb : stunB c m id al = true
  · have hN : chkN c m id al = 0 := by unfold chkN; rw [hb]; rfl
    rw [hN] at hck
    (refine V.CallW.out ?_; (conv => arg 3; dsimp only [EV.val, List.toList_toArray, List.nil_append, List.append_nil, List.cons_append]); (with_reducible refine V.CallsUseW (hck) fun w hx => ?_); try (have hp := hp.call hx); conv => whnf)
    (refine hKq _ _ _ (.refl _) ?_; clear hKq Kq; conv => whnf)
    (refine VSeq.mk fun Kq hKq => ?_; conv => whnf)
    (refine hKq _ _ _ (.refl _) ?_; clear hKq Kq; conv => whnf)
    (refine And.intro (fun h => absurd (of_decide_eq_true h) (by first | (intro h2; exact absurd rfl h2) | omega | decide)) (fun _ => ?_); conv => whnf)
    (refine hKq _ _ _ (.refl _) ?_; clear hKq Kq; conv => whnf)
    (refine VSeq.mk fun Kq hKq => ?_; conv => whnf)
    (refine VSeq.mk fun Kq hKq => ?_; conv => whnf)
    (refine ⟨_, _, Blk.ld (hp.get (i := 1) rfl) TTok rfl rfl, ?_⟩; conv => whnf)
    have hq := idx_find_c (W := w) k (hv.ext hp.ext) (hp.get (i := 0) rfl)
    cases hI : al.findIdx? (kindB k) with
    | none =>
      have hI1 : idxI k al = -1 := by unfold idxI; rw [hI]
      have hF : findC c m id al k = (.empty, 4) := by
        unfold findC findA
        rw [if_pos hb, List.find?_eq_none.2 fun x hx => by rw [List.findIdx?_eq_none_iff.1 hI x hx]; decide]
        rfl
      rw [hI1] at hq
      (refine V.CallW.out ?_; (conv => arg 3; dsimp only [EV.val, List.toList_toArray, List.nil_append, List.append_nil, List.cons_append]); (with_reducible refine V.CallsUseW (hq) fun w hx => ?_); try (have hp := hp.call hx); conv => whnf)
      (refine hKq _ _ _ (.refl _) ?_; clear hKq Kq; conv => whnf)
      (refine VSeq.mk fun Kq hKq => ?_; conv => whnf)
      (refine hKq _ _ _ (.refl _) ?_; clear hKq Kq; conv => whnf)
      (refine And.intro (fun h => absurd (of_decide_eq_true h) (by first | (intro h2; exact absurd rfl h2) | omega | decide)) (fun _ => ?_); conv => whnf)
      (refine hKq _ _ _ (.refl _) ?_; clear hKq Kq; conv => whnf)
      (refine VSeq.mk fun Kq hKq => ?_; conv => whnf)
      (refine hKq _ _ _ (.refl _) ?_; clear hKq Kq; conv => whnf)
      (exact ⟨by (first | (rw [hF]; rfl) | fail), hp.ext⟩)
    | some i =>
      have hI1 : idxI k al = (i : Nat) := by unfold idxI; rw [hI]
      obtain ⟨hi, h2, h3⟩ := List.findIdx?_eq_some_iff_getElem.1 hI
      have hat : al[i]? = some al[i] := List.getElem?_eq_getElem hi
      have hF : findC c m id al k = (al[i].2, 0) := by
        unfold findC findA
        rw [if_pos hb, List.find?_eq_some_iff_getElem.2 ⟨h2, i, hi, rfl, fun j hj => by have := h3 j hj; revert this; cases kindB k (al[j]'(by omega)) <;> simp⟩]
        rfl
      obtain ⟨g, off, rfl, -⟩ := hv.at1 hat
      rw [hI1] at hq
      (refine V.CallW.out ?_; (conv => arg 3; dsimp only [EV.val, List.toList_toArray, List.nil_append, List.append_nil, List.cons_append]); (with_reducible refine V.CallsUseW (hq) fun w hx => ?_); try (have hp := hp.call hx); conv => whnf)
      (refine hKq _ _ _ (.refl _) ?_; clear hKq Kq; conv => whnf)
      (refine VSeq.mk fun Kq hKq => ?_; conv => whnf)
      (refine hKq _ _ _ (.refl _) ?_; clear hKq Kq; conv => whnf)
      (refine And.intro (fun _ => ?_) (fun h => absurd (by first | rfl | assumption | omega | decide) (of_decide_eq_false h)); conv => whnf)
      (refine VSeq.mk fun Kq hKq => ?_; conv => whnf)
      (refine ⟨_, _, Blk.ld (hp.get (i := 1) rfl) TTok rfl rfl, ?_⟩; conv => whnf)
      (refine ⟨_, ⟨rfl, by omega⟩, ?_⟩; conv => whnf)
      obtain ⟨_, _, he, hld⟩ := (hv.ext hp.ext).at1 hat
      simp only [Option.some.injEq, Addr.mk.injEq] at he
      obtain ⟨rfl, rfl, -⟩ := he
      refine ⟨_, _, hld, ?_⟩
      conv => whnf
      refine hKq _ _ _ (.refl _) ?_
      clear hKq Kq
      conv => whnf
      (exact ⟨by (first | (rw [hF]; rfl) | fail), hp.ext⟩)
  · have hN : chkN c m id al = 80 := by unfold chkN; rw [show stunB c m id al = false by simpa using hb]; rfl
    have hF : findC c m id al k = (.empty, 80) := by unfold findC; rw [if_neg hb]
    rw [hN] at hck
    (refine V.CallW.out ?_; (conv => arg 3; dsimp only [EV.val, List.toList_toArray, List.nil_append, List.append_nil, List.cons_append]); (with_reducible refine V.CallsUseW (hck) fun w hx => ?_); try (have hp := hp.call hx); conv => whnf)
    (refine hKq _ _ _ (.refl _) ?_; clear hKq Kq; conv => whnf)
    (refine VSeq.mk fun Kq hKq => ?_; conv => whnf)
    (refine hKq _ _ _ (.refl _) ?_; clear hKq Kq; conv => whnf)
    (refine And.intro (fun _ => ?_) (fun h => absurd (by first | rfl | assumption | omega | decide) (of_decide_eq_false h)); conv => whnf)
    (refine VSeq.mk fun Kq hKq => ?_; conv => whnf)
    (refine hKq _ _ _ (.refl _) ?_; clear hKq Kq; conv => whnf)
    (exact ⟨by (first | (rw [hF]; rfl) | fail), hp.ext⟩)
set_option maxHeartbeats 3200000
theorem SA.take {w : World} {g off c : Nat} {al : List At2} (h : SA w (.slice (some ⟨g, off, none⟩) al.length c) al) {i : Nat} (hi : i < al.length) :
    i ≤ c ∧ SA w (.slice (some ⟨g, off, none⟩) i c) (al.take i) := by
  rcases h with ⟨hv, h⟩ | ⟨_, _, hv, h⟩ | ⟨g', off', c', hv, h1, h2, h3⟩
  · rw [List.map_eq_nil_iff.1 h] at hi; cases hi
  · rw [List.map_eq_nil_iff.1 h] at hi; cases hi
  · simp only [Value.slice.injEq, Option.some.injEq, Addr.mk.injEq] at hv
    obtain ⟨⟨rfl, rfl, -⟩, -, rfl⟩ := hv
    rw [List.length_map] at h1
    refine ⟨by omega, .inr (.inr ⟨g, off, c, ?_, ?_, h2, fun j x hj => ?_⟩)⟩
    · rw [List.length_map, List.length_take, Nat.min_eq_left (by omega)]
    · rw [List.length_map, List.length_take]; omega
    · rw [List.map_take] at hj
      exact h3 j x (by
        rw [List.getElem?_take] at hj
        split at hj
        · exact hj
        · cases hj)
theorem SA.ld1 {w : World} {g off n c : Nat} {al : List At2} (h : SA w (.slice (some ⟨g, off, none⟩) n c) al) {j : Nat} {a : At2} (hj : al[j]? = some a) :
    (Instr.loadAt 9 (.pointer (some ⟨g, addM off j 2 + 1, none⟩))).run Tryz.prog w = .ok (.string a.2) w := by
  obtain ⟨_, _, he, hl⟩ := h.at1 hj
  simp only [Option.some.injEq, Addr.mk.injEq] at he
  obtain ⟨rfl, rfl, -⟩ := he
  exact hl
theorem sizeN_tk (al : List At2) (i : Nat) : sizeN (al.take i) ≤ sizeN al := by
  conv => rhs; rw [← List.take_append_drop i al]
  rw [sizeN_app]
  omega
def verC (c m : Int) (id key : ByteArray) (al : List At2) : Nat :=
  if stunB c m id al = true then if 4096 < key.size then 3 else match al.findIdx? (kindB 8) with
    | none => 4
    | some i => if findA 8 al = some (macB key (wrB c.toNat m.toNat id (al.take i) 36)) then 0 else 9
  else 80
theorem verify1_c {W : World} (x : Int) (s : ByteArray) :
    Calls Tryz.prog 97 #[.agg #[.int .i64 x, .string s]] W fun e w' => e = .returned (.bool (decide (x = 8))) ∧ Ext W w' := by
  refine v_reads (args := [.agg #[.int .i64 x, .string s]]) TTok FFok Tryz.func97 rfl rfl ?_
  conv => whnf
  refine VSeq.mk fun Kq hKq => ?_
  conv => whnf
  have hp := Hp.nil W
  (refine hp.kboxA fun q w hp hx => ?_; conv => whnf)
  (refine hKq _ _ _ (.refl _) ?_; clear hKq Kq; conv => whnf)
  (refine VSeq.mk fun Kq hKq => ?_; conv => whnf)
  (refine ⟨_, _, Blk.ld (hp.get (i := 0) rfl) TTok rfl rfl, ?_⟩; conv => whnf)
  (refine hKq _ _ _ (.refl _) ?_; clear hKq Kq; conv => whnf)
  (exact ⟨rfl, hp.ext⟩)
theorem idx_ver_c {W : World} {v : Value} {al : List At2} (hv : SA W v al) :
    Calls Tryz.prog 78 #[v, .func (.func 97) #[] #[]] W fun e w' => e = .returned (.int .i64 (idxI 8 al)) ∧ Ext W w' := by
  have hml := hv.len
  obtain ⟨p, c, rfl⟩ := hv.shape
  refine v_reads (args := [.slice p al.length c, .func (.func 97) #[] #[]]) TTok FFok Tryz.func78 rfl rfl ?_
  conv => whnf
  refine VSeq.mk fun Kq hKq => ?_
  conv => whnf
  refine hKq _ _ _ (.refl _) ?_
  clear hKq Kq
  conv => whnf
  refine VSeq.mk fun Kq hKq => ?_
  conv => whnf
  refine VSeq.mk fun Kq hKq => ?_
  conv => whnf
  refine hKq _ _ _ (.refl _) ?_
  clear hKq Kq
  conv => whnf
  refine ⟨fun mm e w' => ∃ (i : Nat), mm + i = al.length ∧ e = [(0, .v (.slice p al.length c)), (1, .v (.func (.func 97) #[] #[])), (7, .v (.int .i64 al.length)), (8, .v (.int .i64 i))] ∧ (∀ b ∈ al.take i, kindB 8 b = false) ∧ Ext W w',
    ⟨al.length, _, ⟨0, by omega, rfl, by simp, Ext.refl _⟩, sub_cons rfl (sub_cons rfl (sub_cons rfl (sub_cons rfl sub_nil)))⟩, ?_⟩
  rintro mm _ w ⟨i, hmm, rfl, hn, hxw⟩
  conv => whnf
  refine VSeq.mk fun Kq hKq => ?_
  conv => whnf
  refine hKq _ _ _ (.refl _) ?_
  clear hKq Kq
  conv => whnf
  refine VSeq.mk fun Kq hKq => ?_
  conv => whnf
  refine ⟨fun hlt => ?_, fun hlt => ?_⟩
  · have hlt := of_decide_eq_true hlt
    conv => whnf
    refine hKq _ _ _ (.refl _) ?_
    clear hKq Kq
    conv => whnf
    refine VSeq.mk fun Kq hKq => ?_
    conv => whnf
    refine VSeq.mk fun Kq hKq => ?_
    conv => whnf
    refine hKq _ _ _ (.refl _) ?_
    clear hKq Kq
    conv => whnf
    refine VSeq.mk fun Kq hKq => ?_
    conv => whnf
    have hp := HpM.nil0 [] w
    obtain ⟨a, ha⟩ : ∃ a, al[i]? = some a := ⟨al[i]'(by omega), List.getElem?_eq_getElem (by omega)⟩
    obtain ⟨g, off, rfl, hld⟩ := (hv.ext hxw).at ha
    refine ⟨i, ⟨by first | rfl | omega, by show i < al.length; omega⟩, ?_⟩
    conv => whnf
    refine ⟨_, _, hld, ?_⟩
    conv => whnf
    refine V.CallsUse (verify1_c a.1 a.2) fun w hx => ?_
    try (have hp := hp.call hx)
    conv => whnf
    refine hKq _ _ _ (.refl _) ?_
    clear hKq Kq
    conv => whnf
    refine ⟨fun hq => ?_, fun hq => ?_⟩
    · have hq := of_decide_eq_true hq
      conv => whnf
      refine VSeq.mk fun Kq hKq => ?_
      conv => whnf
      refine hKq _ _ _ (.refl _) ?_
      clear hKq Kq
      conv => whnf
      have hb : kindB 8 a = true := decide_eq_true hq
      have hI := idx_hit ha hb hn
      conv => whnf
      exact ⟨by rw [hI]; rfl, hxw.trans hx⟩
    · have hq := of_decide_eq_false hq
      conv => whnf
      refine hKq _ _ _ (.refl _) ?_
      clear hKq Kq
      conv => whnf
      refine Or.inl (And.intro (by omega) ?_)
      conv => whnf
      have hb : kindB 8 a = false := decide_eq_false hq
      refine ⟨mm - 1, _, by omega, ⟨i + 1, by omega, rfl, fun b hbm => ?_, hxw.trans hx⟩, sub_cons rfl (sub_cons rfl (sub_cons rfl (sub_cons rfl sub_nil)))⟩
      rw [List.take_add_one, ha] at hbm
      rcases List.mem_append.1 hbm with h | h
      · exact hn b h
      · have : b = a := by simpa using h
        rw [this]; exact hb
  · have hlt := of_decide_eq_false hlt
    conv => whnf
    clear hKq Kq
    refine hKq _ _ _ (.refl _) ?_
    clear hKq Kq
    conv => whnf
    refine VSeq.mk fun Kq hKq => ?_
    conv => whnf
    refine hKq _ _ _ (.refl _) ?_
    clear hKq Kq
    conv => whnf
    obtain rfl : i = al.length := by omega
    rw [List.take_of_length_le (Nat.le_refl _)] at hn
    have hI := idx_miss hn
    conv => whnf
    exact ⟨by rw [hI]; rfl, hxw⟩
theorem Verify_c {W : World} {v : Value} {al : List At2} (c m : Int) (id key : ByteArray) (hv : SA W v al) :
    Calls Tryz.prog 45 #[.agg #[.int .i64 c, .int .i64 m, .string id, v], .string key] W fun e w' => e = .returned (.int .i64 (verC c m id key al)) ∧ Ext W w' := by
  obtain ⟨p, cp, rfl⟩ := hv.shape
  have hml := hv.len
  refine v_reads (args := [.agg #[.int .i64 c, .int .i64 m, .string id, .slice p al.length cp], .string key]) TTok FFok Tryz.func45 rfl rfl ?_
  conv => whnf
  refine VSeq.mk fun Kq hKq => ?_
  conv => whnf
  have hp := Hp.nil W
  (refine hp.kboxA fun q w hp hx => ?_; conv => whnf)
  (refine hKq _ _ _ (.refl _) ?_; clear hKq Kq; conv => whnf)
  (refine VSeq.mk fun Kq hKq => ?_; conv => whnf)
  (refine VSeq.mk fun Kq hKq => ?_; conv => whnf)
  (refine ⟨_, _, Blk.ldV (vs := [_, _, _, _]) (hp.get (i := 0) rfl) TTok rfl rfl rfl, ?_⟩; conv => whnf)
  have hck := Check_c (W := w) c m id (hv.ext hp.ext)
  by_cases hb : stunB c m id al = true
  · have hN : chkN c m id al = 0 := by unfold chkN; rw [hb]; rfl
    rw [hN] at hck
    (refine V.CallW.out ?_; (conv => arg 3; dsimp only [EV.val, List.toList_toArray, List.nil_append, List.append_nil, List.cons_append]); (with_reducible refine V.CallsUseW (hck) fun w hx => ?_); try (have hp := hp.call hx); conv => whnf)
    (refine hKq _ _ _ (.refl _) ?_; clear hKq Kq; conv => whnf)
    (refine VSeq.mk fun Kq hKq => ?_; conv => whnf)
    (refine hKq _ _ _ (.refl _) ?_; clear hKq Kq; conv => whnf)
    (refine And.intro (fun h => absurd (of_decide_eq_true h) (by first | (intro h2; exact absurd rfl h2) | omega | decide)) (fun _ => ?_); conv => whnf)
    (refine VSeq.mk fun Kq hKq => ?_; conv => whnf)
    (refine hKq _ _ _ (.refl _) ?_; clear hKq Kq; conv => whnf)
    refine ⟨fun hk => ?_, fun hk => ?_⟩
    · have hk := of_decide_eq_true hk
      conv => whnf
      refine VSeq.mk fun Kq hKq => ?_
      conv => whnf
      refine hKq _ _ _ (.refl _) ?_
      clear hKq Kq
      conv => whnf
      have hF : verC c m id key al = 3 := by unfold verC; rw [if_pos hb, if_pos (by omega)]
      (exact ⟨by (first | (rw [hF]; rfl) | fail), hp.ext⟩)
    · have hk := of_decide_eq_false hk
      conv => whnf
      refine VSeq.mk fun Kq hKq => ?_
      conv => whnf
      (refine ⟨_, _, Blk.ldV (vs := [_, _, _, _]) (hp.get (i := 0) rfl) TTok rfl rfl rfl, ?_⟩; conv => whnf)
      have hh := has_c (W := w) c m id 8 (hv.ext hp.ext)
      have hPos := idxI_pos 8 al
      cases hI : al.findIdx? (kindB 8) with
      | none =>
        have hI1 : idxI 8 al = -1 := by unfold idxI; rw [hI]
        have hF : verC c m id key al = 4 := by unfold verC; rw [if_pos hb, if_neg (by omega), hI]
        rw [← hPos, hI1, show decide ((0 : Int) ≤ -1) = false from rfl] at hh
        (refine V.CallW.out ?_; (conv => arg 3; dsimp only [EV.val, List.toList_toArray, List.nil_append, List.append_nil, List.cons_append]); refine V.CallsUseW (hh) fun w hx => ?_; try (have hp := hp.call hx); conv => whnf)
        (refine hKq _ _ _ (.refl _) ?_; clear hKq Kq; conv => whnf)
        (refine And.intro (fun _ => ?_) (fun h => absurd h (by decide)); conv => whnf)
        (refine VSeq.mk fun Kq hKq => ?_; conv => whnf)
        (refine hKq _ _ _ (.refl _) ?_; clear hKq Kq; conv => whnf)
        (exact ⟨by (first | (rw [hF]; rfl) | fail), hp.ext⟩)
      | some i =>
        have hI1 : idxI 8 al = (i : Nat) := by unfold idxI; rw [hI]
        obtain ⟨hi, h2, h3⟩ := List.findIdx?_eq_some_iff_getElem.1 hI
        have hat : al[i]? = some al[i] := List.getElem?_eq_getElem hi
        have hFA : findA 8 al = some al[i].2 := by
          unfold findA
          rw [List.find?_eq_some_iff_getElem.2 ⟨h2, i, hi, rfl, fun j hj => by have := h3 j hj; revert this; cases kindB 8 (al[j]'(by omega)) <;> simp⟩]
          rfl
        have hF : verC c m id key al = if al[i].2 = macB key (wrB c.toNat m.toNat id (al.take i) 36) then 0 else 9 := by
          unfold verC
          rw [if_pos hb, if_neg (by omega), hI]
          dsimp only
          rw [hFA]
          simp only [Option.some.injEq]
        rw [← hPos, hI1, show decide ((0 : Int) ≤ ((i : Nat) : Int)) = true from decide_eq_true (by omega)] at hh
        (refine V.CallW.out ?_; (conv => arg 3; dsimp only [EV.val, List.toList_toArray, List.nil_append, List.append_nil, List.cons_append]); refine V.CallsUseW (hh) fun w hx => ?_; try (have hp := hp.call hx); conv => whnf)
        (refine hKq _ _ _ (.refl _) ?_; clear hKq Kq; conv => whnf)
        (refine And.intro (fun h => absurd h (by decide)) (fun _ => ?_); conv => whnf)
        (refine hKq _ _ _ (.refl _) ?_; clear hKq Kq; conv => whnf)
        (refine VSeq.mk fun Kq hKq => ?_; conv => whnf)
        (refine ⟨_, _, Blk.ld (hp.get (i := 0) rfl) TTok rfl rfl, ?_⟩; conv => whnf)
        have hq := idx_ver_c (W := w) (hv.ext hp.ext)
        rw [hI1] at hq
        (refine V.CallW.out ?_; (conv => arg 3; dsimp only [EV.val, List.toList_toArray, List.nil_append, List.append_nil, List.cons_append]); (with_reducible refine V.CallsUseW (hq) fun w hx => ?_); try (have hp := hp.call hx); conv => whnf)
        (refine hKq _ _ _ (.refl _) ?_; clear hKq Kq; conv => whnf)
        (refine VSeq.mk fun Kq hKq => ?_; conv => whnf)
        (refine VSeq.mk fun Kq hKq => ?_; conv => whnf)
        obtain ⟨g, off, rfl, -⟩ := hv.at1 hat
        obtain ⟨C, rfl⟩ := Int.eq_ofNat_of_zero_le (stunB_t hb).1
        obtain ⟨M, rfl⟩ := Int.eq_ofNat_of_zero_le (stunB_t hb).2.2.1
        obtain ⟨b1, b2, b3, b4, b5, b6, b7, b8⟩ := stunB_t hb
        refine v_mtB TTok FFok mixed [] (.q 0 (.q 1 (.q 2 (.q 3 (.q 4 (.q 5 (.q 6 (.q 7 (.q 8 (.q 9 (.q 10 (.q 11 (.m 12 (.q 13 .nil)))))))))))))) (by kernel_rfl) ?_
        conv => whnf
        (refine ⟨_, fun w' hx' => Blk.ld (Blk.ext (hp.get (i := 0) rfl) hx') TTok rfl rfl, ?_⟩; conv => whnf)
        (refine ⟨_, ⟨rfl, by omega⟩, ?_⟩; conv => whnf)
        refine ⟨_, fun w1 hx1 => SA.ld1 (hv.ext (hp.ext.trans hx1)) hat, ?_⟩
        conv => whnf
        (refine ⟨_, fun w' hx' => Blk.ldV (vs := [_, _, _, _]) (Blk.ext (hp.get (i := 0) rfl) hx') TTok rfl rfl rfl, ?_⟩; conv => whnf)
        (refine ⟨_, fun w' hx' => Blk.ld (Blk.ext (hp.get (i := 0) rfl) hx') TTok rfl rfl, ?_⟩; conv => whnf)
        have hT := SA.take hv hi
        refine ⟨_, fun w1 _ => run_slice_hi TTok rfl rfl i hT.1, ?_⟩
        conv => whnf
        have hzt := sizeN_tk al i
        rw [Int.toNat_natCast, Int.toNat_natCast] at hF
        obtain ⟨X, hX⟩ : ∃ X, macB key (wrB C M id (List.take i al) 36) = X := ⟨_, rfl⟩
        rw [hX] at hF
        intro w hx
        try (have hp := hp.call hx)
        conv => whnf
        have hIn := integrity_c (W := w) (hT.2.ext hp.ext) C M id key (mv := .slice (some ⟨g, off, none⟩) al.length cp) ⟨_, _, _, rfl⟩ (by omega) (by omega) b5 (fun a ha => b7 a (List.mem_of_mem_take ha)) (by rw [List.length_take]; omega) (by omega) (by omega)
        rw [hX] at hIn
        refine V.CallsUse hIn fun w hx => ?_
        have hp := hp.call hx
        refine And.intro (fun h => h.trans hx) ?_
        conv => whnf
        (intro w hx; try (have hp := hp.call hx); conv => whnf)
        (refine hKq _ _ _ (.refl _) ?_; clear hKq Kq; conv => whnf)
        refine ⟨fun hr => ?_, fun hr => ?_⟩
        · have hr := of_decide_eq_true hr
          conv => whnf
          refine VSeq.mk fun Kq hKq => ?_
          conv => whnf
          refine hKq _ _ _ (.refl _) ?_
          clear hKq Kq
          conv => whnf
          (exact ⟨by (first | (rw [hF, if_neg hr]; rfl) | fail), hp.ext⟩)
        · have hr := of_decide_eq_false hr
          conv => whnf
          refine hKq _ _ _ (.refl _) ?_
          clear hKq Kq
          conv => whnf
          refine VSeq.mk fun Kq hKq => ?_
          conv => whnf
          refine hKq _ _ _ (.refl _) ?_
          clear hKq Kq
          conv => whnf
          have hr : al[i].2 = X := Decidable.not_not.1 hr
          (exact ⟨by (first | (rw [hF, if_pos hr]; rfl) | fail), hp.ext⟩)
  · have hN : chkN c m id al = 80 := by unfold chkN; rw [show stunB c m id al = false by simpa using hb]; rfl
    have hF : verC c m id key al = 80 := by unfold verC; rw [if_neg hb]
    rw [hN] at hck
    (refine V.CallW.out ?_; (conv => arg 3; dsimp only [EV.val, List.toList_toArray, List.nil_append, List.append_nil, List.cons_append]); (with_reducible refine V.CallsUseW (hck) fun w hx => ?_); try (have hp := hp.call hx); conv => whnf)
    (refine hKq _ _ _ (.refl _) ?_; clear hKq Kq; conv => whnf)
    (refine VSeq.mk fun Kq hKq => ?_; conv => whnf)
    (refine hKq _ _ _ (.refl _) ?_; clear hKq Kq; conv => whnf)
    (refine And.intro (fun _ => ?_) (fun h => absurd (by first | rfl | assumption | omega | decide) (of_decide_eq_false h)); conv => whnf)
    (refine VSeq.mk fun Kq hKq => ?_; conv => whnf)
    (refine hKq _ _ _ (.refl _) ?_; clear hKq Kq; conv => whnf)
    (exact ⟨by (first | (rw [hF]; rfl) | fail), hp.ext⟩)

/-! ### bits -/
theorem xor_mod (a b n : Nat) : (a ^^^ b) % 2 ^ n = (a % 2 ^ n) ^^^ (b % 2 ^ n) := Nat.xor_mod_two_pow
theorem xor_div (a b n : Nat) : (a ^^^ b) / 2 ^ n = (a / 2 ^ n) ^^^ (b / 2 ^ n) := by
  rw [← Nat.shiftRight_eq_div_pow, Nat.shiftRight_xor_distrib, Nat.shiftRight_eq_div_pow, Nat.shiftRight_eq_div_pow]
theorem add_xor (q r n : Nat) (h : r < 2 ^ n) : 2 ^ n * q + r = (2 ^ n * q) ^^^ r := by
  apply Nat.eq_of_testBit_eq
  intro j
  rw [Nat.testBit_xor, Nat.testBit_two_pow_mul_add _ h, Nat.testBit_two_pow_mul]
  by_cases hj : j < n
  · rw [if_pos hj]; simp [show ¬ j ≥ n by omega]
  · rw [if_neg hj]
    have : r.testBit j = false := Nat.testBit_lt_two_pow (Nat.lt_of_lt_of_le h (Nat.pow_le_pow_right (by omega) (by omega)))
    simp [this, show j ≥ n by omega]
theorem pxor_lt32 {a b : Nat} (ha : a < 4294967296) (hb : b < 4294967296) : a ^^^ b < 4294967296 := Nat.xor_lt_two_pow (n := 32) ha hb
/-! ### steps -/
def crcC (k : Nat) : Nat := if k = 2 then 2197175160 else 3988292384
theorem crcC_lt (k : Nat) : crcC k < 4294967296 := by unfold crcC; split <;> omega
def step (C x : Nat) : Nat := if x % 2 = 1 then x / 2 ^^^ C else x / 2
theorem step_lt {C x : Nat} (hC : C < 4294967296) (h : x < 4294967296) : step C x < 4294967296 := by
  unfold step; split
  · exact pxor_lt32 (by omega) hC
  · omega
theorem step_xor (C a b : Nat) : step C (a ^^^ b) = step C a ^^^ step C b := by
  have hm := xor_mod a b 1
  have hd := xor_div a b 1
  rw [show (2 : Nat) ^ 1 = 2 from rfl] at hm hd
  unfold step
  rw [hm, hd]
  rcases Nat.mod_two_eq_zero_or_one a with ha | ha <;> rcases Nat.mod_two_eq_zero_or_one b with hb | hb <;> rw [ha, hb] <;> simp
  · rw [Nat.xor_assoc]
  · rw [Nat.xor_assoc, Nat.xor_assoc]; congr 1; rw [Nat.xor_comm]
  · rw [Nat.xor_assoc, Nat.xor_comm C (b / 2 ^^^ C), Nat.xor_assoc, Nat.xor_self, Nat.xor_zero]
def stepn (C : Nat) : Nat → Nat → Nat
  | 0, x => x
  | n + 1, x => stepn C n (step C x)
theorem stepn_xor (C : Nat) : ∀ n a b, stepn C n (a ^^^ b) = stepn C n a ^^^ stepn C n b
  | 0, _, _ => rfl
  | n + 1, a, b => by simp only [stepn]; rw [step_xor, stepn_xor C n]
theorem stepn_lt {C : Nat} (hC : C < 4294967296) : ∀ n {x}, x < 4294967296 → stepn C n x < 4294967296
  | 0, _, h => h
  | n + 1, _, h => stepn_lt hC n (step_lt hC h)
theorem stepn_add (C : Nat) : ∀ m n x, stepn C (m + n) x = stepn C n (stepn C m x)
  | 0, n, x => by rw [Nat.zero_add]; rfl
  | m + 1, n, x => by rw [Nat.add_right_comm]; exact stepn_add C m n (step C x)
theorem stepn_succ (C n x : Nat) : stepn C (n + 1) x = step C (stepn C n x) := stepn_add C n 1 x
theorem step_even (C y : Nat) : step C (2 * y) = y := by unfold step; rw [if_neg (by omega)]; omega
theorem stepn_shift (C : Nat) : ∀ n y, stepn C n (2 ^ n * y) = y
  | 0, y => by simp [stepn]
  | n + 1, y => by
    rw [stepn, show 2 ^ (n + 1) * y = 2 * (2 ^ n * y) by rw [Nat.pow_succ, Nat.mul_comm (2 ^ n) 2, Nat.mul_assoc], step_even]; exact stepn_shift C n y
theorem step8 (C x b : Nat) (hb : b < 256) : stepn C 8 (x ^^^ b) = (x / 256) ^^^ stepn C 8 ((x % 256) ^^^ b) := by
  have e : x = (2 ^ 8 * (x / 256)) ^^^ (x % 256) := by rw [← add_xor _ _ 8 (Nat.mod_lt _ (by omega))]; omega
  have e2 : x ^^^ b = (2 ^ 8 * (x / 256)) ^^^ ((x % 256) ^^^ b) := by rw [← Nat.xor_assoc, ← e]
  rw [e2, stepn_xor, stepn_shift]

/-! ### octets into a register -/
def absorb (C : Nat) (r : Nat) (s : List UInt8) : Nat := s.foldl (fun r b => stepn C 8 (r ^^^ b.toNat)) r
theorem u8_lt32 (b : UInt8) : b.toNat < 4294967296 := by have := b.toNat_lt; omega
theorem absorb_lt {C : Nat} (hC : C < 4294967296) : ∀ (s : List UInt8) {r : Nat}, r < 4294967296 → absorb C r s < 4294967296
  | [], _, h => h
  | b :: s, _, h => absorb_lt hC s (stepn_lt hC 8 (pxor_lt32 h (u8_lt32 b)))
/-- the check of octets behind those whose check is c -/
def crcL (k c : Nat) (s : List UInt8) : Nat := 4294967295 - absorb (crcC k) (4294967295 - c) s
theorem crcL_lt (k c : Nat) (s : List UInt8) : crcL k c s < 4294967296 := by unfold crcL; omega
set_option maxHeartbeats 1600000

def Kd (k : Int) : Prop := k = 1 ∨ k = 2
theorem constant_p (k : Nat) (hk : Kd k) : PureF Tryz.prog 157 #[.int .i64 k] (.int .u32 (crcC k : Nat)) := by
  have hk : k = 1 ∨ k = 2 := by unfold Kd at hk; omega
  first | refine v_pure TTok FFok Tryz.func157 rfl rfl fun w0 => ?_ | refine v_pure (args := []) TTok FFok Tryz.func157 rfl rfl fun w0 => ?_
  conv => whnf
  refine VSeq.mk fun Kq hKq => ?_
  conv => whnf
  refine hKq _ _ _ (.refl _) ?_
  clear hKq Kq
  conv => whnf
  refine VSeq.mk fun Kq hKq => ?_
  conv => whnf
  first | refine ⟨.agg #[.int .u32 0, .int .u32 3988292384, .int .u32 2197175160], w, by kernel_rfl, ?_⟩ | refine ⟨.agg #[.int .u32 0, .int .u32 3988292384, .int .u32 2197175160], w0, by kernel_rfl, ?_⟩
  conv => whnf
  rcases hk with rfl | rfl
  · first | refine ⟨.int .u32 3988292384, w, by kernel_rfl, ?_⟩ | refine ⟨.int .u32 3988292384, w0, by kernel_rfl, ?_⟩
    conv => whnf
    refine hKq _ _ _ (.refl _) ?_
    clear hKq Kq
    conv => whnf
    exact ⟨rfl, Ext.refl _⟩
  · first | refine ⟨.int .u32 2197175160, w, by kernel_rfl, ?_⟩ | refine ⟨.int .u32 2197175160, w0, by kernel_rfl, ?_⟩
    conv => whnf
    refine hKq _ _ _ (.refl _) ?_
    clear hKq Kq
    conv => whnf
    exact ⟨rfl, Ext.refl _⟩

def tabL (C : Nat) : List Nat := (List.range 256).map (stepn C 8)
theorem tabL_len (C : Nat) : (tabL C).length = 256 := by simp [tabL]
theorem tabL_get (C i : Nat) (h : i < 256) : (tabL C)[i]? = some (stepn C 8 i) := by simp [tabL, h]
theorem and_one (x : Nat) : x &&& 1 = x % 2 := Nat.and_one_is_mod x
theorem table_p (k : Nat) (hk : Kd k) : PureF Tryz.prog 131 #[.int .i64 k] (.agg (kw .u32 (tabL (crcC k))).toArray) := by
  have hcp := constant_p k hk
  have hC := crcC_lt k
  generalize crcC k = C at hcp hC
  first | refine v_pure TTok FFok Tryz.func131 rfl rfl fun w0 => ?_ | refine v_pure (args := []) TTok FFok Tryz.func131 rfl rfl fun w0 => ?_
  conv => whnf
  refine VSeq.mk fun Kq hKq => ?_
  conv => whnf
  have hp := Hp.nil w0
  refine hp.kalloc z201 fun r w hp hx => ?_
  conv => whnf
  refine hKq _ _ _ (.refl _) ?_
  clear hKq Kq
  conv => whnf
  refine VSeq.mk fun Kq hKq => ?_
  conv => whnf
  refine hp.kalloc z201 fun o w hp hx => ?_
  conv => whnf
  refine hKq _ _ _ (.refl _) ?_
  clear hKq Kq
  conv => whnf
  refine VSeq.mk fun Kq hKq => ?_
  conv => whnf
  refine VSeq.mk fun Kq hKq => ?_
  conv => whnf
  refine hKq _ _ _ (.refl _) ?_
  clear hKq Kq
  conv => whnf
  clear hx
  refine ⟨fun m l w => ∃ i : Nat, m + i = 256 ∧ l = [(0, .v (.int .i64 k)), (2, .v (.pointer (some ⟨r, 0, none⟩))), (3, .v (.pointer (some ⟨o, 0, none⟩))), (6, .v (.int .i64 i))] ∧
      Hp w0 w [blk o ((kw .u32 (tabL C)).take i ++ List.replicate (256 - i) (.int .u32 0)) 201, blk r (List.replicate 256 (.int .u32 0)) 201],
    ⟨256, _, ⟨0, by omega, rfl, hp⟩, sub_cons rfl (sub_cons rfl (sub_cons rfl (sub_cons rfl sub_nil)))⟩, ?_⟩
  clear hp
  repeat clear hp
  rintro m _ w ⟨i, hm, rfl, hp⟩
  have hL : (kw .u32 (tabL C)).length = 256 := by rw [kw_len, tabL_len]
  conv => whnf
  refine VSeq.mk fun Kq hKq => ?_
  conv => whnf
  refine hKq _ _ _ (.refl _) ?_
  clear hKq Kq
  conv => whnf
  refine VSeq.mk fun Kq hKq => ?_
  conv => whnf
  refine ⟨fun hlt => ?_, fun hlt => ?_⟩
  · have hlt := of_decide_eq_true hlt
    conv => whnf
    refine hKq _ _ _ (.refl _) ?_
    clear hKq Kq
    conv => whnf
    refine VSeq.mk fun Kq hKq => ?_
    conv => whnf
    refine VSeq.mk fun Kq hKq => ?_
    conv => whnf
    refine hKq _ _ _ (.refl _) ?_
    clear hKq Kq
    conv => whnf
    refine VSeq.mk fun Kq hKq => ?_
    conv => whnf
    refine hKq _ _ _ (.refl _) ?_
    clear hKq Kq
    conv => whnf
    refine VSeq.mk fun Kq hKq => ?_
    conv => whnf
    refine VSeq.mk fun Kq hKq => ?_
    conv => whnf
    refine hKq _ _ _ (.refl _) ?_
    clear hKq Kq
    conv => whnf
    refine ⟨fun m l w => ∃ j : Nat, m + j = 8 ∧ l = [(0, .v (.int .i64 k)), (2, .v (.pointer (some ⟨r, 0, none⟩))), (3, .v (.pointer (some ⟨o, 0, none⟩))), (6, .v (.int .i64 i)), (4, .v (.int .i64 i)), (5, .v (.int .u32 (stepn C j i : Nat))), (11, .v (.int .i64 j))] ∧
        Hp w0 w [blk o ((kw .u32 (tabL C)).take i ++ List.replicate (256 - i) (.int .u32 0)) 201, blk r (List.replicate 256 (.int .u32 0)) 201],
      ⟨8, _, ⟨0, by omega, rfl, hp⟩, sub_cons rfl (sub_cons rfl (sub_cons rfl (sub_cons rfl (sub_cons rfl (sub_cons (look_int rfl (by simp only [stepn]; omega)) (sub_cons rfl sub_nil))))))⟩, ?_⟩
    clear hp
    repeat clear hp
    rintro m2 _ w ⟨j, hm2, rfl, hp⟩
    have hx := stepn_lt hC j (show i < 4294967296 by omega)
    have hsn := stepn_succ C j i
    conv => whnf
    refine VSeq.mk fun Kq hKq => ?_
    conv => whnf
    refine hKq _ _ _ (.refl _) ?_
    clear hKq Kq
    conv => whnf
    refine VSeq.mk fun Kq hKq => ?_
    conv => whnf
    refine ⟨fun hlt2 => ?_, fun hlt2 => ?_⟩
    · have hlt2 := of_decide_eq_true hlt2
      conv => whnf
      refine hKq _ _ _ (.refl _) ?_
      clear hKq Kq
      conv => whnf
      refine VSeq.mk fun Kq hKq => ?_
      conv => whnf
      refine VSeq.mk fun Kq hKq => ?_
      conv => whnf
      refine ⟨stepn C j i, 1, stepn C j i % 2, ⟨by first | rfl | omega, by first | rfl | omega, by omega, by omega⟩, by (dsimp only; exact and_one _), ?_⟩
      conv => whnf
      refine hKq _ _ _ (.refl _) ?_
      clear hKq Kq
      conv => whnf
      refine ⟨fun hb => ?_, fun hb => ?_⟩
      · have hb := of_decide_eq_true hb
        conv => whnf
        have hs : stepn C (j + 1) i = stepn C j i / 2 ^^^ C := by rw [hsn, step, if_pos (by omega)]
        generalize stepn C j i = x at *
        refine ⟨1, ⟨by first | rfl | omega, by omega⟩, ?_⟩
        conv => whnf
        refine PureF.use (hcp) fun w hx => ?_
        try (have hp := hp.call hx)
        conv => whnf
        refine ⟨x / 2, C, x / 2 ^^^ C, ⟨by first | rfl | omega, by first | rfl | omega, by omega, by omega⟩, rfl, ?_⟩
        conv => whnf
        refine hKq _ _ _ (.refl _) ?_
        clear hKq Kq
        conv => whnf
        refine Or.inl (And.intro (by omega) ?_)
        conv => whnf
        exact ⟨m2 - 1, _, by omega, ⟨j + 1, by omega, rfl, hp⟩, sub_cons rfl (sub_cons rfl (sub_cons rfl (sub_cons rfl (sub_cons rfl (sub_cons (look_int rfl (by rw [hs])) (sub_cons rfl sub_nil))))))⟩
      · have hb := of_decide_eq_false hb
        conv => whnf
        have hs : stepn C (j + 1) i = stepn C j i / 2 := by rw [hsn, step, if_neg (by omega)]
        generalize stepn C j i = x at *
        refine ⟨1, ⟨by first | rfl | omega, by omega⟩, ?_⟩
        conv => whnf
        refine hKq _ _ _ (.refl _) ?_
        clear hKq Kq
        conv => whnf
        refine Or.inl (And.intro (by omega) ?_)
        conv => whnf
        exact ⟨m2 - 1, _, by omega, ⟨j + 1, by omega, rfl, hp⟩, sub_cons rfl (sub_cons rfl (sub_cons rfl (sub_cons rfl (sub_cons rfl (sub_cons (look_int rfl (by rw [hs]; omega)) (sub_cons rfl sub_nil))))))⟩
    · have hlt2 := of_decide_eq_false hlt2
      conv => whnf
      clear hKq Kq
      refine hKq _ _ _ (.refl _) ?_
      clear hKq Kq
      conv => whnf
      obtain rfl : j = 8 := by omega
      have hg : (kw .u32 (tabL C))[i]? = some (.int .u32 (stepn C 8 i : Nat)) := kw_get (tabL_get C i (by omega))
      generalize stepn C 8 i = x at *
      refine ⟨i, ⟨by first | rfl | omega, by omega⟩, ?_⟩
      conv => whnf
      refine hp.kst1 (off := i) TTok (by rfl) 0 (by rfl) (by rfl) (by rfl) (by rw [List.length_append, List.length_take, List.length_replicate, hL]; omega) fun w hp => ?_
      try simp only [List.set_cons_zero, List.set_cons_succ, EV.val] at hp
      conv => whnf
      refine hKq _ _ _ (.refl _) ?_
      clear hKq Kq
      conv => whnf
      refine Or.inl (And.intro (by omega) ?_)
      conv => whnf
      rw [set_next (kw .u32 (tabL C)) _ (Value.int .u32 0) i 256 (by omega) hL hg] at hp
      exact ⟨m - 1, _, by omega, ⟨i + 1, by omega, rfl, hp⟩, sub_cons rfl (sub_cons rfl (sub_cons rfl (sub_cons rfl sub_nil)))⟩
  · have hlt := of_decide_eq_false hlt
    conv => whnf
    clear hKq Kq
    refine hKq _ _ _ (.refl _) ?_
    clear hKq Kq
    conv => whnf
    refine VSeq.mk fun Kq hKq => ?_
    conv => whnf
    obtain rfl : i = 256 := by omega
    have hb : (kw .u32 (tabL C)).take 256 ++ List.replicate (256 - 256) (Value.int .u32 0) = kw .u32 (tabL C) := by
      rw [List.take_of_length_le (by omega)]; simp
    rw [hb] at hp
    refine ⟨_, _, Blk.ldN (hp.get (i := 0) rfl) TTok rfl (hL), ?_⟩
    conv => whnf
    refine hp.kstA TTok rfl 1 rfl (hL) (kw_one _ _) (List.length_replicate) fun w hp => ?_
    try simp only [List.set_cons_zero, List.set_cons_succ, EV.val] at hp
    conv => whnf
    refine hKq _ _ _ (.refl _) ?_
    clear hKq Kq
    conv => whnf
    exact ⟨_, Blk.lvN (hp.get (i := 1) rfl) TTok rfl hL, rfl, hp.ext⟩

/-! ### kinds and checks -/
def okc (c : Int) : Bool := decide (0 ≤ c ∧ c < 4294967296)
def zw (L : List Int) : List Value := L.map fun x => .int .i64 x
theorem right_c {w : World} {b : Nat} (k : Int) (L : List Int) (hb : Blk w b (zw L) 3) (hl : L.length ≤ 1000) :
    Calls Tryz.prog 130 #[.int .i64 k, .slice (some ⟨b, 0, none⟩) L.length L.length] w fun e w' => e = .returned (.bool (L.all okc && decide (k = 1 ∨ k = 2))) ∧ Ext w w' := by
  refine (v_fn (args := [.int .i64 k, .slice (some ⟨b, 0, none⟩) L.length L.length]) (R := fun v w' => v = .bool (L.all okc && decide (k = 1 ∨ k = 2)) ∧ Ext w w') TTok FFok (f := 130) rfl rfl (Nat.le_of_ble_eq_true rfl) ?_).mono (by rintro _ w' ⟨v, rfl, rfl, hx⟩; exact ⟨rfl, hx⟩)
  conv => whnf
  refine VSeq.mk fun Kq hKq => ?_
  conv => whnf
  refine hKq _ _ _ (.refl _) ?_
  clear hKq Kq
  conv => whnf
  refine VSeq.mk fun Kq hKq => ?_
  conv => whnf
  refine VSeq.mk fun Kq hKq => ?_
  conv => whnf
  refine hKq _ _ _ (.refl _) ?_
  clear hKq Kq
  conv => whnf
  refine ⟨fun m l w' => ∃ j : Nat, m + j = L.length ∧ l = [(0, .v (.int .i64 k)), (7, .v (.slice (some ⟨b, 0, none⟩) L.length L.length)), (8, .v (.int .i64 L.length)), (9, .v (.int .i64 j))] ∧ (L.take j).all okc = true ∧ w' = w,
    ⟨L.length, _, ⟨0, by omega, rfl, rfl, rfl⟩, sub_cons rfl (sub_cons rfl (sub_cons rfl (sub_cons rfl sub_nil)))⟩, ?_⟩
  rintro m _ w' ⟨j, hm, rfl, hal, rfl⟩
  conv => whnf
  refine VSeq.mk fun Kq hKq => ?_
  conv => whnf
  refine hKq _ _ _ (.refl _) ?_
  clear hKq Kq
  conv => whnf
  refine VSeq.mk fun Kq hKq => ?_
  conv => whnf
  refine ⟨fun hlt => ?_, fun hlt => ?_⟩
  · have hlt := of_decide_eq_true hlt
    conv => whnf
    refine hKq _ _ _ (.refl _) ?_
    clear hKq Kq
    conv => whnf
    refine VSeq.mk fun Kq hKq => ?_
    conv => whnf
    refine VSeq.mk fun Kq hKq => ?_
    conv => whnf
    have hj : j < L.length := by omega
    have hc : (zw L)[j]? = some (.int .i64 L[j]) := by simp [zw, hj]
    have htk : L.take (j + 1) = L.take j ++ [L[j]] := take_snoc (by simp [hj])
    have hmem : L[j] ∈ L := List.getElem_mem hj
    generalize L[j] = c at *
    refine ⟨j, ⟨by first | rfl | omega, by omega⟩, ?_⟩
    conv => whnf
    refine ⟨_, _, Blk.ld (hb) TTok rfl (hc), ?_⟩
    conv => whnf
    refine hKq _ _ _ (.refl _) ?_
    clear hKq Kq
    conv => whnf
    refine VSeq.mk fun Kq hKq => ?_
    conv => whnf
    refine VSeq.mk fun Kq hKq => ?_
    conv => whnf
    refine hKq _ _ _ (.refl _) ?_
    clear hKq Kq
    conv => whnf
    have hno : ¬ okc c = true → L.all okc = false := fun h => by
      rw [Bool.eq_false_iff]; intro h2; exact h (List.all_eq_true.1 h2 c hmem)
    refine ⟨fun h1 => ?_, fun h1 => ?_⟩
    · have h1 := of_decide_eq_true h1
      conv => whnf
      refine hKq _ _ _ (.refl _) ?_
      clear hKq Kq
      conv => whnf
      refine VSeq.mk fun Kq hKq => ?_
      conv => whnf
      refine hKq _ _ _ (.refl _) ?_
      clear hKq Kq
      conv => whnf
      exact ⟨by rw [hno (by simp [okc]; omega)]; rfl, Ext.refl _⟩
    · have h1 := of_decide_eq_false h1
      conv => whnf
      refine hKq _ _ _ (.refl _) ?_
      clear hKq Kq
      conv => whnf
      refine ⟨fun h2 => ?_, fun h2 => ?_⟩
      · have h2 := of_decide_eq_true h2
        conv => whnf
        refine VSeq.mk fun Kq hKq => ?_
        conv => whnf
        refine hKq _ _ _ (.refl _) ?_
        clear hKq Kq
        conv => whnf
        exact ⟨by rw [hno (by simp [okc]; omega)]; rfl, Ext.refl _⟩
      · have h2 := of_decide_eq_false h2
        conv => whnf
        refine hKq _ _ _ (.refl _) ?_
        clear hKq Kq
        conv => whnf
        refine Or.inl (And.intro (by omega) ?_)
        conv => whnf
        refine ⟨m - 1, _, by omega, ⟨j + 1, by omega, rfl, ?_, rfl⟩, sub_cons rfl (sub_cons rfl (sub_cons rfl (sub_cons rfl sub_nil)))⟩
        rw [htk, List.all_append, hal]
        simp [okc]; omega
  · have hlt := of_decide_eq_false hlt
    conv => whnf
    clear hKq Kq
    refine hKq _ _ _ (.refl _) ?_
    clear hKq Kq
    conv => whnf
    refine VSeq.mk fun Kq hKq => ?_
    conv => whnf
    refine VSeq.mk fun Kq hKq => ?_
    conv => whnf
    refine hKq _ _ _ (.refl _) ?_
    clear hKq Kq
    conv => whnf
    rw [List.take_of_length_le (by omega)] at hal
    refine ⟨fun h1 => ?_, fun h1 => ?_⟩
    · have h1 := of_decide_eq_true h1
      conv => whnf
      refine hKq _ _ _ (.refl _) ?_
      clear hKq Kq
      conv => whnf
      exact ⟨by simp [hal, h1, V.one, V.EV.val, V.litE], Ext.refl _⟩
    · have h1 := of_decide_eq_false h1
      conv => whnf
      refine hKq _ _ _ (.refl _) ?_
      clear hKq Kq
      conv => whnf
      exact ⟨by simp [hal, h1, V.one, V.EV.val, V.litE], Ext.refl _⟩
end Go.Proofs.YtmlmfmdmomegpaaGreatDoor
