/- Chapter 08: the reference of octets. -/
/- Hexadecimal text: octets.Hex (for any seat; from C03L). -/
/- Chapter 08: the reference: type, mixed values, values of errors. -/
/- Chapter 08: the reference: sizes, validity, octets, places. -/
/- Maps of the call's own, keyed by integers. Own work. No program is named here. -/
/- Drawn regions as trees, over a class of worlds: a quiet operation is quiet in every world of the class; an operation that is not quiet leaves the class' worlds in the class. Own work. No program is named here. -/
/- Slices of rows and of octets that come in: what is read of them. Own work. -/
/- Chapter 08: messages are compared; lists of integers. -/
/- Chapter 08: kinds that are not known. -/
/- Chapter 08: the reference: kinds that are not known; lists of integers. -/
/- Chapter 08: the reference: the octets of a message. -/
/- Chapter 08: the law's small functions. -/
import Derived.Test.YtmlmfmdmomegpaaGreatDoorCO09
import Derived.Test.YtmlmfmdmomegpaaGreatDoorCO03
import Derived.Test.YtmlmfmdmomegpaaGreatDoorCO02
import Derived.Test.YtmlmfmdmomegpaaGreatDoorCO07
import Derived.Test.YtmlmfmdmomegpaaGreatDoorCO05
import Derived.MapKept
import Derived.Test.YtmlmfmdmomegpaaGreatDoorCO04
namespace Go.Proofs.YtmlmfmdmomegpaaGreatDoor
set_option linter.unusedSimpArgs false
set_option linter.unusedVariables false
set_option maxRecDepth 100000
open Go.RowKit V
set_option maxHeartbeats 1600000
theorem up_p (n : Nat) (hn : n ≤ 100000) : PureF Tryz.prog 75 #[.int .i64 n, .int .i64 4] (.int .i64 (n + padN n : Nat)) := by
  have hq : padN n ≤ 3 ∧ (n + padN n) % 4 = 0 ∧ ∀ i, i < padN n → (n + i) % 4 ≠ 0 := by unfold padN; refine ⟨by omega, by omega, fun i hi => by omega⟩
  obtain ⟨h3, h0, hlt⟩ := hq
  generalize padN n = p at *
  first | refine v_pure TTok FFok Tryz.func75 rfl rfl fun w0 => ?_ | refine v_pure (args := []) TTok FFok Tryz.func75 rfl rfl fun w0 => ?_
  conv => whnf
  refine VSeq.mk fun Kq hKq => ?_
  conv => whnf
  refine hKq _ _ _ (.refl _) ?_
  clear hKq Kq
  conv => whnf
  refine VSeq.mk fun Kq hKq => ?_
  conv => whnf
  refine ⟨fun mm e w' => ∃ (i : Nat), mm + i = p ∧ e = [(0, .v (.int .i64 (n + i : Nat))), (1, .v (.int .i64 4))] ∧ Ext w0 w', ⟨p, _, ⟨0, by omega, rfl, Ext.refl _⟩, sub_cons rfl (sub_cons rfl sub_nil)⟩, ?_⟩
  rintro mm _ w ⟨i, hmm, rfl, hx⟩
  conv => whnf
  refine VSeq.mk fun Kq hKq => ?_
  conv => whnf
  refine VSeq.mk fun Kq hKq => ?_
  conv => whnf
  refine And.intro (by omega) ?_
  conv => whnf
  refine hKq _ _ _ (.refl _) ?_
  clear hKq Kq
  conv => whnf
  refine ⟨fun hl => ?_, fun hl => ?_⟩
  · have hl := of_decide_eq_true hl
    conv => whnf
    refine hKq _ _ _ (.refl _) ?_
    clear hKq Kq
    conv => whnf
    refine Or.inl (And.intro (by omega) ?_)
    conv => whnf
    have hi : i < p := by
      by_cases h : i < p
      · exact h
      · exfalso
        have : i = p := by omega
        subst this
        omega
    conv => whnf
    exact ⟨mm - 1, _, by omega, ⟨i + 1, by omega, rfl, hx⟩, sub_cons (look_int rfl (by omega)) (sub_cons rfl sub_nil)⟩
  · have hl := of_decide_eq_false hl
    conv => whnf
    clear hKq Kq
    refine hKq _ _ _ (.refl _) ?_
    clear hKq Kq
    conv => whnf
    refine VSeq.mk fun Kq hKq => ?_
    conv => whnf
    refine hKq _ _ _ (.refl _) ?_
    clear hKq Kq
    conv => whnf
    have hi : i = p := by
      by_cases h : i < p
      · exfalso
        have := hlt i h
        omega
      · omega
    subst hi
    conv => whnf
    exact ⟨rfl, hx⟩
theorem up_eq (n : Nat) : n + padN n = (n + 3) / 4 * 4 := by unfold padN; omega
theorem beL_cons (n v : Nat) : beL (n + 1) v = UInt8.ofNat (v / 2 ^ (8 * n)) :: beL n v := by
  unfold beL
  rw [List.range_succ_eq_map, List.map_cons, List.map_map]
  congr 1
  apply List.map_congr_left
  intro i hi
  rw [Function.comp, show n + 1 - 1 - (i + 1) = n - 1 - i by omega]
theorem pow_step (v i : Nat) : v / 2 ^ (8 * i) / 256 = v / 2 ^ (8 * (i + 1)) := by
  rw [Nat.div_div_eq_div_mul, show 8 * (i + 1) = 8 * i + 8 by omega, Nat.pow_add]
theorem put_p (n v : Nat) (hn : n ≤ 100) (hv : v ≤ 9223372036854775807) : PureF Tryz.prog 87 #[.int .i64 n, .int .i64 v] (.string (beB n v)) := by
  first | refine v_pure TTok FFok Tryz.func87 rfl rfl fun w0 => ?_ | refine v_pure (args := []) TTok FFok Tryz.func87 rfl rfl fun w0 => ?_
  conv => whnf
  refine VSeq.mk fun Kq hKq => ?_
  conv => whnf
  refine hKq _ _ _ (.refl _) ?_
  clear hKq Kq
  conv => whnf
  refine VSeq.mk fun Kq hKq => ?_
  conv => whnf
  refine hKq _ _ _ (.refl _) ?_
  clear hKq Kq
  conv => whnf
  refine VSeq.mk fun Kq hKq => ?_
  conv => whnf
  refine VSeq.mk fun Kq hKq => ?_
  conv => whnf
  refine hKq _ _ _ (.refl _) ?_
  clear hKq Kq
  conv => whnf
  refine ⟨fun mm e w' => ∃ (i : Nat), mm + i = n ∧ e = [(0, .v (.int .i64 n)), (1, .v (.int .i64 (v / 2 ^ (8 * i) : Nat))), (5, .v (.string (beB i v))), (6, .v (.int .i64 i))] ∧ Ext w0 w', ⟨n, _, ⟨0, by omega, rfl, Ext.refl _⟩, sub_cons rfl (sub_cons (look_int rfl (by rw [Nat.mul_zero, Nat.pow_zero, Nat.div_one])) (sub_cons rfl (sub_cons rfl sub_nil)))⟩, ?_⟩
  rintro mm _ w ⟨i, hmm, rfl, hxw⟩
  have hd : v / 2 ^ (8 * i) ≤ v := Nat.div_le_self _ _
  obtain ⟨u, hu⟩ : ∃ u, v / 2 ^ (8 * i) = u := ⟨_, rfl⟩
  have hu2 := pow_step v i
  have hcons := beL_cons i v
  rw [hu] at hd hu2 hcons ⊢
  have hb : ((u : Nat) : Int) % 256 % 256 = (((UInt8.ofNat u).toNat : Nat) : Int) := by rw [UInt8.toNat_ofNat']; omega
  have hp := HpM.nil0 [] w
  have hz := beB_size i v
  conv => whnf
  refine VSeq.mk fun Kq hKq => ?_
  conv => whnf
  refine VSeq.mk fun Kq hKq => ?_
  conv => whnf
  refine hKq _ _ _ (.refl _) ?_
  clear hKq Kq
  conv => whnf
  refine ⟨fun hl => ?_, fun hl => ?_⟩
  · have hl := of_decide_eq_true hl
    conv => whnf
    refine hKq _ _ _ (.refl _) ?_
    clear hKq Kq
    conv => whnf
    refine VSeq.mk fun Kq hKq => ?_
    conv => whnf
    refine VSeq.mk fun Kq hKq => ?_
    conv => whnf
    refine And.intro (by omega) ?_
    conv => whnf
    conv => whnf
    rw [hb]
    refine hp.kmade (bytesV [UInt8.ofNat u]) 5 (fun b => .slice (some ⟨b, 0, none⟩) 1 1) (by kernel_rfl) fun qb w hp hx => ?_
    conv => whnf
    refine ⟨_, _, Blk.str (l := [UInt8.ofNat u]) (hp.get (i := 0) rfl) TTok rfl rfl rfl rfl rfl, ?_⟩
    conv => whnf
    refine And.intro (by show 1 + (beB i v).size ≤ _; omega) ?_
    conv => whnf
    refine hKq _ _ _ (.refl _) ?_
    clear hKq Kq
    conv => whnf
    refine And.intro (by omega) ?_
    conv => whnf
    refine hKq _ _ _ (.refl _) ?_
    clear hKq Kq
    conv => whnf
    refine Or.inl (And.intro (by omega) ?_)
    conv => whnf
    refine ⟨mm - 1, _, by omega, ⟨i + 1, by omega, rfl, hxw.trans hp.ext⟩, sub_cons rfl (sub_cons (look_int rfl ?_) (sub_cons (look_str rfl ?_) (sub_cons rfl sub_nil)))⟩
    · rw [← hu2]; omega
    · unfold beB; rw [hcons]
      apply ByteArray.ext
      simp
  · have hl := of_decide_eq_false hl
    conv => whnf
    clear hKq Kq
    refine hKq _ _ _ (.refl _) ?_
    clear hKq Kq
    conv => whnf
    refine VSeq.mk fun Kq hKq => ?_
    conv => whnf
    refine hKq _ _ _ (.refl _) ?_
    clear hKq Kq
    conv => whnf
    obtain rfl : i = n := by omega
    conv => whnf
    exact ⟨rfl, hxw⟩
theorem zeros_p (n : Nat) (hn : n ≤ 100000) : PureF Tryz.prog 140 #[.int .i64 n] (.string ⟨(List.replicate n 0).toArray⟩) := by
  first | refine v_pure TTok FFok Tryz.func140 rfl rfl fun w0 => ?_ | refine v_pure (args := []) TTok FFok Tryz.func140 rfl rfl fun w0 => ?_
  conv => whnf
  refine VSeq.mk fun Kq hKq => ?_
  conv => whnf
  refine hKq _ _ _ (.refl _) ?_
  clear hKq Kq
  conv => whnf
  refine VSeq.mk fun Kq hKq => ?_
  conv => whnf
  have hp := Hp.nil w0
  refine hp.kmkS sl88 z5 n (by omega) (by unfold maxLen; omega) fun b w hp hx => ?_
  rw [bytesV_rep] at hp
  conv => whnf
  refine ⟨_, _, Blk.str (l := List.replicate n 0) (hp.get (i := 0) rfl) TTok rfl rfl rfl rfl (by rw [List.length_replicate]), ?_⟩
  conv => whnf
  refine hKq _ _ _ (.refl _) ?_
  clear hKq Kq
  conv => whnf
  exact ⟨rfl, hp.ext⟩
theorem pad_app (s : ByteArray) : s ++ ⟨(List.replicate (padN s.size) 0).toArray⟩ = padB s := by
  unfold padB
  apply ByteArray.ext
  simp
theorem pad_p (s : ByteArray) (hs : s.size ≤ 90000) : PureF Tryz.prog 113 #[.string s, .int .i64 4] (.string (padB s)) := by
  have h3 : padN s.size ≤ 3 := by unfold padN; omega
  have hup := up_p s.size (by omega)
  have hze := zeros_p (padN s.size) (by omega)
  have hsz : (⟨(List.replicate (padN s.size) 0).toArray⟩ : ByteArray).size = padN s.size := by show (List.replicate _ _).toArray.size = _; rw [List.size_toArray, List.length_replicate]
  rw [← pad_app]
  first | refine v_pure TTok FFok Tryz.func113 rfl rfl fun w0 => ?_ | refine v_pure (args := []) TTok FFok Tryz.func113 rfl rfl fun w0 => ?_
  conv => whnf
  refine VSeq.mk fun Kq hKq => ?_
  conv => whnf
  refine hKq _ _ _ (.refl _) ?_
  clear hKq Kq
  conv => whnf
  refine VSeq.mk fun Kq hKq => ?_
  conv => whnf
  have hp := Hp.nil w0
  refine PureF.use (hup) fun w hx => ?_
  try (have hp := hp.call hx)
  conv => whnf
  refine Or.inl (And.intro (by omega) ?_)
  conv => whnf
  rw [show ((s.size + padN s.size : Nat) : Int) - (s.size : Int) = ((padN s.size : Nat) : Int) by omega]
  refine PureF.use (hze) fun w hx => ?_
  try (have hp := hp.call hx)
  conv => whnf
  refine And.intro (by omega) ?_
  conv => whnf
  refine hKq _ _ _ (.refl _) ?_
  clear hKq Kq
  conv => whnf
  exact ⟨rfl, hp.ext⟩
theorem number_p (s : ByteArray) (hs : s.size ≤ 7) : PureF Tryz.prog 73 #[.string s] (.int .i64 (numB s)) := by
  first | refine v_pure TTok FFok Tryz.func73 rfl rfl fun w0 => ?_ | refine v_pure (args := []) TTok FFok Tryz.func73 rfl rfl fun w0 => ?_
  conv => whnf
  refine VSeq.mk fun Kq hKq => ?_
  conv => whnf
  refine hKq _ _ _ (.refl _) ?_
  clear hKq Kq
  conv => whnf
  refine VSeq.mk fun Kq hKq => ?_
  conv => whnf
  refine hKq _ _ _ (.refl _) ?_
  clear hKq Kq
  conv => whnf
  refine VSeq.mk fun Kq hKq => ?_
  conv => whnf
  refine VSeq.mk fun Kq hKq => ?_
  conv => whnf
  refine hKq _ _ _ (.refl _) ?_
  clear hKq Kq
  conv => whnf
  refine ⟨fun mm e w' => ∃ (i : Nat), mm + i = s.size ∧ e = [(0, .v (.string s)), (3, .v (.int .i64 (numL (s.data.toList.take i)))), (4, .v (.int .i64 i))] ∧ Ext w0 w', ⟨s.size, _, ⟨0, by omega, rfl, Ext.refl _⟩, sub_cons rfl (sub_cons rfl (sub_cons rfl sub_nil))⟩, ?_⟩
  rintro mm _ w ⟨i, hmm, rfl, hx⟩
  have hlt : numL (s.data.toList.take i) < 2 ^ (8 * i) := numL_lt i _ (by rw [List.length_take, bA_len]; omega)
  have h56 : (2 : Nat) ^ (8 * i) ≤ 2 ^ 56 := Nat.pow_le_pow_right (by decide) (by omega)
  have h57 : numL (s.data.toList.take i) < 72057594037927936 := Nat.lt_of_lt_of_le hlt h56
  conv => whnf
  refine VSeq.mk fun Kq hKq => ?_
  conv => whnf
  refine VSeq.mk fun Kq hKq => ?_
  conv => whnf
  refine hKq _ _ _ (.refl _) ?_
  clear hKq Kq
  conv => whnf
  refine ⟨fun hl => ?_, fun hl => ?_⟩
  · have hl := of_decide_eq_true hl
    conv => whnf
    refine hKq _ _ _ (.refl _) ?_
    clear hKq Kq
    conv => whnf
    refine VSeq.mk fun Kq hKq => ?_
    conv => whnf
    have hi : i < s.size := by omega
    have hc := numL_take (l := s.data.toList) (i := i) (by rw [bA_len]; exact hi)
    have hby := byt_lt s i
    have h6 : (2 : Nat) ^ (8 * i) ≤ 2 ^ 48 := Nat.pow_le_pow_right (by decide) (by omega)
    have h7 : numL (s.data.toList.take i) < 281474976710656 := Nat.lt_of_lt_of_le hlt h6
    conv => whnf
    refine Or.inl (And.intro (by omega) ?_)
    conv => whnf
    refine ⟨i, ⟨by first | rfl | omega, by omega⟩, ?_⟩
    conv => whnf
    refine Or.inl (And.intro (by omega) ?_)
    conv => whnf
    refine Or.inl (And.intro (by omega) ?_)
    conv => whnf
    refine hKq _ _ _ (.refl _) ?_
    clear hKq Kq
    conv => whnf
    refine Or.inl (And.intro (by omega) ?_)
    conv => whnf
    refine ⟨mm - 1, _, by omega, ⟨i + 1, by omega, rfl, hx⟩, sub_cons rfl (sub_cons (look_int rfl ?_) (sub_cons rfl sub_nil))⟩
    rw [hc]
    unfold byt
    omega
  · have hl := of_decide_eq_false hl
    conv => whnf
    clear hKq Kq
    refine hKq _ _ _ (.refl _) ?_
    clear hKq Kq
    conv => whnf
    refine VSeq.mk fun Kq hKq => ?_
    conv => whnf
    refine hKq _ _ _ (.refl _) ?_
    clear hKq Kq
    conv => whnf
    obtain rfl : i = s.size := by omega
    rw [List.take_of_length_le (by rw [bA_len]; exact Nat.le_refl _)]
    conv => whnf
    exact ⟨rfl, hx⟩
/-! hexadecimal text -/
def hexD : List UInt8 := [48, 49, 50, 51, 52, 53, 54, 55, 56, 57, 97, 98, 99, 100, 101, 102]
theorem digits_p : PureF Tryz.prog 139 #[] (.agg (bytesV hexD).toArray) := by
  first | refine v_pure TTok FFok Tryz.func139 rfl rfl fun w0 => ?_ | refine v_pure (args := []) TTok FFok Tryz.func139 rfl rfl fun w0 => ?_
  conv => whnf
  refine VSeq.mk fun Kq hKq => ?_
  conv => whnf
  have hp := Hp.nil w0
  refine hp.kalloc z212 fun o w hp hx => ?_
  conv => whnf
  refine hKq _ _ _ (.refl _) ?_
  clear hKq Kq
  conv => whnf
  refine VSeq.mk fun Kq hKq => ?_
  conv => whnf
  refine hp.kmade (bytesV hexD) 5 (fun b => .slice (some ⟨b, 0, none⟩) 16 16) (by kernel_rfl) fun tb w hp hx => ?_
  conv => whnf
  refine hp.kfz TTok rfl rfl 0 rfl fun w hp => ?_
  conv => whnf
  refine ⟨_, _, run_arr TTok rfl (Nat.le_refl _), ?_⟩
  conv => whnf
  refine ⟨_, _, Blk.ldN (hp.get (i := 0) rfl) TTok rfl (by rfl), ?_⟩
  conv => whnf
  refine hp.kstA TTok rfl 1 rfl (by rfl) (one_bytes _) (by simp) fun w hp => ?_
  try simp only [List.set_cons_zero, List.set_cons_succ, EV.val] at hp
  conv => whnf
  refine hKq _ _ _ (.refl _) ?_
  clear hKq Kq
  conv => whnf
  exact ⟨_, Blk.lvN (hp.get (i := 1) rfl) TTok rfl (by rfl), rfl, hp.ext⟩
/-- hexadecimal digits -/
def hexL (s : List UInt8) : List UInt8 := s.flatMap fun x => [hexD.getD (x.toNat / 16) 0, hexD.getD (x.toNat % 16) 0]
theorem hexL_take (s : List UInt8) (j : Nat) (h : j < s.length) : hexL (s.take (j + 1)) = hexL (s.take j) ++ [hexD.getD (s[j].toNat / 16) 0, hexD.getD (s[j].toNat % 16) 0] := by
  rw [List.take_succ_eq_append_getElem h]; unfold hexL; rw [List.flatMap_append]; rfl
theorem hexD_get (i : Nat) (h : i < 16) : (bytesV hexD)[i]? = some (.int .u8 ((hexD.getD i 0).toNat : Nat)) := by
  refine bytesV_get ?_
  rw [List.getD_eq_getElem?_getD, List.getElem?_eq_getElem (by simpa [hexD] using h)]; rfl
theorem Hex_p (s : ByteArray) (hs : s.size ≤ 1000000) : PureF Tryz.prog 112 #[.string s] (.string ⟨(hexL s.data.toList).toArray⟩) := by
  have hsl : s.data.toList.length = s.size := by simp
  first | refine v_pure TTok FFok Tryz.func112 rfl rfl fun w0 => ?_ | refine v_pure (args := []) TTok FFok Tryz.func112 rfl rfl fun w0 => ?_
  conv => whnf
  refine VSeq.mk fun Kq hKq => ?_
  conv => whnf
  refine hKq _ _ _ (.refl _) ?_
  clear hKq Kq
  conv => whnf
  refine VSeq.mk fun Kq hKq => ?_
  conv => whnf
  have hp := Hp.nil w0
  refine PureF.use (digits_p) fun w hx => ?_
  try (have hp := hp.call hx)
  conv => whnf
  refine hp.kalloc z212 fun o w hp hx => ?_
  conv => whnf
  refine hp.kstA TTok rfl 0 rfl (by rfl) (one_bytes _) (by simp) fun w hp => ?_
  try simp only [List.set_cons_zero, List.set_cons_succ, EV.val] at hp
  conv => whnf
  refine hKq _ _ _ (.refl _) ?_
  clear hKq Kq
  conv => whnf
  refine VSeq.mk fun Kq hKq => ?_
  conv => whnf
  refine hKq _ _ _ (.refl _) ?_
  clear hKq Kq
  conv => whnf
  refine VSeq.mk fun Kq hKq => ?_
  conv => whnf
  refine VSeq.mk fun Kq hKq => ?_
  conv => whnf
  refine hKq _ _ _ (.refl _) ?_
  clear hKq Kq
  conv => whnf
  have hp := hp.knil 5 1
  clear hx
  refine ⟨fun m l w => ∃ (j : Nat) (v : Value), m + j = s.size ∧ l = [(0, .v (.string s)), (3, .v (.pointer (some ⟨o, 0, none⟩))), (4, .v v), (8, .v (.int .i64 s.size)), (9, .v (.int .i64 j))] ∧
      Hp w0 w [row 5 1 v (2 * j) (bytesV (hexL (s.data.toList.take j))), blk o (bytesV hexD) 212],
    ⟨s.size, _, ⟨0, _, by omega, rfl, hp⟩, sub_cons rfl (sub_cons rfl (sub_cons rfl (sub_cons rfl (sub_cons rfl sub_nil))))⟩, ?_⟩
  clear hp
  repeat clear hp
  rintro m _ w ⟨j, v, hm, rfl, hp⟩
  conv => whnf
  refine VSeq.mk fun Kq hKq => ?_
  conv => whnf
  refine hKq _ _ _ (.refl _) ?_
  clear hKq Kq
  conv => whnf
  refine VSeq.mk fun Kq hKq => ?_
  conv => whnf
  refine ⟨fun hlt => ?_, fun hlt => ?_⟩
  · have hlt := of_decide_eq_true hlt
    conv => whnf
    refine hKq _ _ _ (.refl _) ?_
    clear hKq Kq
    conv => whnf
    refine VSeq.mk fun Kq hKq => ?_
    conv => whnf
    refine VSeq.mk fun Kq hKq => ?_
    conv => whnf
    refine hKq _ _ _ (.refl _) ?_
    clear hKq Kq
    conv => whnf
    have hj : j < s.size := by omega
    have hjl : j < s.data.toList.length := by rw [hsl]; exact hj
    have hS : byt s j = (s.data.toList[j]).toNat := by unfold byt; simp [List.getD_eq_getElem?_getD, hj]
    have hX := s.data.toList[j].toNat_lt
    have htk := hexL_take s.data.toList j hjl
    generalize s.data.toList[j] = x at *
    have hand : byt s j &&& 15 = byt s j % 16 := Nat.and_two_pow_sub_one_eq_mod _ 4
    refine v_mix TTok FFok mixed 14 [(0, false), (1, false), (2, false), (3, false), (4, false), (5, false), (6, false), (7, false), (8, false), (9, false), (10, false), (11, false), (12, false), (13, true)] (by kernel_rfl) ?_
    conv => whnf
    refine ⟨j, ⟨by first | rfl | omega, by omega⟩, ?_⟩
    conv => whnf
    refine ⟨4, ⟨by first | rfl | omega, by omega⟩, ?_⟩
    conv => whnf
    refine ⟨x.toNat / 16, ⟨by first | rfl | omega, by omega⟩, ?_⟩
    conv => whnf
    refine ⟨_, fun w' hx' => Blk.ld (Blk.ext (hp.get (i := 1) rfl) hx') TTok rfl (hexD_get (x.toNat / 16) (by omega)), ?_⟩
    conv => whnf
    refine ⟨j, ⟨by first | rfl | omega, by omega⟩, ?_⟩
    conv => whnf
    refine ⟨byt s j, 15, x.toNat % 16, ⟨by first | rfl | omega, by first | rfl | omega, by omega, by omega⟩, by (dsimp only; rw [hand, hS]), ?_⟩
    conv => whnf
    refine ⟨x.toNat % 16, ⟨by first | rfl | omega, by omega⟩, ?_⟩
    conv => whnf
    refine ⟨_, fun w' hx' => Blk.ld (Blk.ext (hp.get (i := 1) rfl) hx') TTok rfl (hexD_get (x.toNat % 16) (by omega)), ?_⟩
    conv => whnf
    intro w hx
    try (have hp := hp.call hx)
    conv => whnf
    refine hp.kmade (bytesV [hexD.getD (x.toNat / 16) 0, hexD.getD (x.toNat % 16) 0]) 5 (fun b => .slice (some ⟨b, 0, none⟩) 2 2) (by kernel_rfl) fun tb w hp hx => ?_
    conv => whnf
    refine And.intro hx ?_
    conv => whnf
    intro w hx
    try (have hp := hp.call hx)
    conv => whnf
    refine hp.kapp (by kernel_rfl : slOk Tryz.prog 88 5 1 1 = true) 1 rfl (Blk.src TTok (hp.get (i := 0) rfl) rfl rfl (one_bytes _)) (by omega) (by unfold maxLen; omega) fun v' w hp => ?_
    simp only [List.set_cons_zero, List.set_cons_succ] at hp
    conv => whnf
    refine hKq _ _ _ (.refl _) ?_
    clear hKq Kq
    conv => whnf
    refine Or.inl (And.intro (by omega) ?_)
    conv => whnf
    refine ⟨m - 1, _, by omega, ⟨j + 1, v', by omega, rfl, ?_⟩, sub_cons rfl (sub_cons rfl (sub_cons rfl (sub_cons rfl (sub_cons rfl sub_nil))))⟩
    rw [htk, bytesV_app]; exact hp.tail
  · have hlt := of_decide_eq_false hlt
    conv => whnf
    clear hKq Kq
    refine hKq _ _ _ (.refl _) ?_
    clear hKq Kq
    conv => whnf
    refine VSeq.mk fun Kq hKq => ?_
    conv => whnf
    obtain rfl : j = s.size := by omega
    rw [List.take_of_length_le (by rw [hsl]; omega)] at hp
    refine ⟨_, _, row_str (hp.get (i := 0) rfl) TTok rfl rfl rfl, ?_⟩
    conv => whnf
    refine hKq _ _ _ (.refl _) ?_
    clear hKq Kq
    conv => whnf
    exact ⟨rfl, hp.ext⟩
set_option maxHeartbeats 3200000
theorem kind8_p (c m : Nat) (hc : c < 4) (hm : m < 4096) : PureF Tryz.prog 74 #[.int .i64 c, .int .i64 m] (.int .i64 (kindN c m)) := by
  have hkb := kindN_bd c m
  have hk0 := kindR_eq hc hm
  generalize kindN c m = K at *
  first | refine v_pure TTok FFok Tryz.func74 rfl rfl fun w0 => ?_ | refine v_pure (args := []) TTok FFok Tryz.func74 rfl rfl fun w0 => ?_
  conv => whnf
  refine VSeq.mk fun Kq hKq => ?_
  conv => whnf
  refine hKq _ _ _ (.refl _) ?_
  clear hKq Kq
  conv => whnf
  refine VSeq.mk fun Kq hKq => ?_
  conv => whnf
  refine hKq _ _ _ (.refl _) ?_
  clear hKq Kq
  conv => whnf
  refine VSeq.mk fun Kq hKq => ?_
  conv => whnf
  refine VSeq.mk fun Kq hKq => ?_
  conv => whnf
  refine hKq _ _ _ (.refl _) ?_
  clear hKq Kq
  conv => whnf
  refine ⟨fun mm e w' => ∃ (k n : Nat), mm = k ∧ e = [(0, .v (.int .i64 c)), (1, .v (.int .i64 m)), (5, .v (.int .i64 n)), (6, .v (.int .i64 ((k : Int) - 1)))] ∧ kindR c m k n = K ∧ k ≤ 12 ∧ Ext w0 w',
    ⟨12, _, ⟨12, 0, rfl, rfl, hk0, by omega, Ext.refl _⟩, sub_cons rfl (sub_cons rfl (sub_cons rfl (sub_cons (look_int rfl (by decide)) sub_nil)))⟩, ?_⟩
  clear hk0
  rintro mm _ w ⟨k, n, hmm, rfl, hk, h12, hx⟩
  have hn := kindR_le c m k n
  rw [hk] at hn
  conv => whnf
  refine VSeq.mk fun Kq hKq => ?_
  conv => whnf
  refine VSeq.mk fun Kq hKq => ?_
  conv => whnf
  refine hKq _ _ _ (.refl _) ?_
  clear hKq Kq
  conv => whnf
  refine ⟨fun hl => ?_, fun hl => ?_⟩
  · have hl := of_decide_eq_true hl
    conv => whnf
    refine hKq _ _ _ (.refl _) ?_
    clear hKq Kq
    conv => whnf
    refine VSeq.mk fun Kq hKq => ?_
    conv => whnf
    refine VSeq.mk fun Kq hKq => ?_
    conv => whnf
    refine Or.inl (And.intro (by omega) ?_)
    conv => whnf
    refine And.intro (by omega) ?_
    conv => whnf
    obtain ⟨j, rfl⟩ : ∃ j, k = j + 1 := ⟨k - 1, by omega⟩
    have hk : kindR c m j (kadj c j (2 * n + m / 2 ^ j % 2)) = K := hk
    have hq : ((m : Nat) : Int) / 2 ^ j = ((m / 2 ^ j : Nat) : Int) := by rw [Int.natCast_ediv, Int.natCast_pow]; rfl
    conv => whnf
    refine ⟨j, ⟨by first | rfl | omega, by omega⟩, ?_⟩
    conv => whnf
    rw [hq]
    clear hq
    generalize m / 2 ^ j = q at *
    have hn2 := kindR_le c m j (kadj c j (2 * n + q % 2))
    rw [hk] at hn2
    have hn3 := kadj_le c j (2 * n + q % 2)
    conv => whnf
    refine And.intro (by omega) ?_
    conv => whnf
    refine Or.inl (And.intro (by omega) ?_)
    conv => whnf
    refine hKq _ _ _ (.refl _) ?_
    clear hKq Kq
    conv => whnf
    refine VSeq.mk fun Kq hKq => ?_
    conv => whnf
    refine VSeq.mk fun Kq hKq => ?_
    conv => whnf
    refine hKq _ _ _ (.refl _) ?_
    clear hKq Kq
    conv => whnf
    refine ⟨fun h7 => ?_, fun h7 => ?_⟩
    · have h7 := of_decide_eq_true h7
      conv => whnf
      refine Or.inl (And.intro (by omega) ?_)
      conv => whnf
      refine And.intro (by omega) ?_
      conv => whnf
      refine Or.inl (And.intro (by omega) ?_)
      conv => whnf
      refine hKq _ _ _ (.refl _) ?_
      clear hKq Kq
      conv => whnf
      refine VSeq.mk fun Kq hKq => ?_
      conv => whnf
      refine hKq _ _ _ (.refl _) ?_
      clear hKq Kq
      conv => whnf
      obtain rfl : j = 7 := by omega
      have ha : kadj c 7 (2 * n + q % 2) = 2 * (2 * n + q % 2) + c / 2 := rfl
      rw [ha] at hk hn2 hn3
      conv => whnf
      refine ⟨fun h4 => ?_, fun h4 => ?_⟩
      · have h4 := of_decide_eq_true h4
        conv => whnf
        refine Or.inl (And.intro (by omega) ?_)
        conv => whnf
        refine And.intro (by omega) ?_
        conv => whnf
        refine Or.inl (And.intro (by omega) ?_)
        conv => whnf
        refine hKq _ _ _ (.refl _) ?_
        clear hKq Kq
        conv => whnf
        refine Or.inl (And.intro (by omega) ?_)
        conv => whnf
        exfalso; omega
      · conv => whnf
        refine hKq _ _ _ (.refl _) ?_
        clear hKq Kq
        conv => whnf
        refine Or.inl (And.intro (by omega) ?_)
        conv => whnf
        exact ⟨7, _, by omega, ⟨7, _, rfl, rfl, hk, by omega, hx⟩, sub_cons rfl (sub_cons rfl (sub_cons (look_int rfl (by omega)) (sub_cons (look_int rfl (by omega)) sub_nil)))⟩
    · have h7 := of_decide_eq_false h7
      conv => whnf
      refine hKq _ _ _ (.refl _) ?_
      clear hKq Kq
      conv => whnf
      refine VSeq.mk fun Kq hKq => ?_
      conv => whnf
      refine hKq _ _ _ (.refl _) ?_
      clear hKq Kq
      conv => whnf
      conv => whnf
      refine ⟨fun h4 => ?_, fun h4 => ?_⟩
      · have h4 := of_decide_eq_true h4
        conv => whnf
        refine Or.inl (And.intro (by omega) ?_)
        conv => whnf
        refine And.intro (by omega) ?_
        conv => whnf
        refine Or.inl (And.intro (by omega) ?_)
        conv => whnf
        refine hKq _ _ _ (.refl _) ?_
        clear hKq Kq
        conv => whnf
        refine Or.inl (And.intro (by omega) ?_)
        conv => whnf
        obtain rfl : j = 4 := by omega
        have ha : kadj c 4 (2 * n + q % 2) = 2 * (2 * n + q % 2) + c % 2 := rfl
        rw [ha] at hk hn2 hn3
        conv => whnf
        exact ⟨4, _, by omega, ⟨4, _, rfl, rfl, hk, by omega, hx⟩, sub_cons rfl (sub_cons rfl (sub_cons (look_int rfl (by omega)) (sub_cons (look_int rfl (by omega)) sub_nil)))⟩
      · have h4 := of_decide_eq_false h4
        conv => whnf
        refine hKq _ _ _ (.refl _) ?_
        clear hKq Kq
        conv => whnf
        refine Or.inl (And.intro (by omega) ?_)
        conv => whnf
        have ha : kadj c j (2 * n + q % 2) = 2 * n + q % 2 := by unfold kadj; rw [if_neg (by omega), if_neg (by omega)]
        rw [ha] at hk hn2 hn3
        conv => whnf
        exact ⟨j, _, by omega, ⟨j, _, rfl, rfl, hk, by omega, hx⟩, sub_cons rfl (sub_cons rfl (sub_cons (look_int rfl (by omega)) (sub_cons (look_int rfl (by omega)) sub_nil)))⟩
  · have hl := of_decide_eq_false hl
    conv => whnf
    clear hKq Kq
    refine hKq _ _ _ (.refl _) ?_
    clear hKq Kq
    conv => whnf
    refine VSeq.mk fun Kq hKq => ?_
    conv => whnf
    refine hKq _ _ _ (.refl _) ?_
    clear hKq Kq
    conv => whnf
    obtain rfl : k = 0 := by omega
    have hk : n = K := hk
    subst hk
    conv => whnf
    exact ⟨rfl, hx⟩
set_option maxHeartbeats 6400000
theorem size8_c {W : World} {v : Value} {al : List At2} (hv : SA W v al) (hl : al.length ≤ 1000) (hz : ∀ a ∈ al, a.2.size ≤ 10000) :
    Calls Tryz.prog 63 #[v] W fun e w' => e = .returned (.int .i64 (sizeN al)) ∧ Ext W w' := by
  obtain ⟨p, c, rfl⟩ := hv.shape
  refine v_reads (args := [.slice p al.length c]) TTok FFok Tryz.func63 rfl rfl ?_
  conv => whnf
  refine VSeq.mk fun Kq hKq => ?_
  conv => whnf
  refine hKq _ _ _ (.refl _) ?_
  clear hKq Kq
  conv => whnf
  refine VSeq.mk fun Kq hKq => ?_
  conv => whnf
  refine hKq _ _ _ (.refl _) ?_
  clear hKq Kq
  conv => whnf
  refine VSeq.mk fun Kq hKq => ?_
  conv => whnf
  refine VSeq.mk fun Kq hKq => ?_
  conv => whnf
  refine hKq _ _ _ (.refl _) ?_
  clear hKq Kq
  conv => whnf
  refine ⟨fun mm e w' => ∃ (i : Nat), mm + i = al.length ∧ e = [(0, .v (.slice p al.length c)), (3, .v (.int .i64 (sizeN (al.take i)))), (4, .v (.int .i64 i))] ∧ Ext W w',
    ⟨al.length, _, ⟨0, by omega, rfl, Ext.refl _⟩, sub_cons rfl (sub_cons rfl (sub_cons rfl sub_nil))⟩, ?_⟩
  rintro mm _ w ⟨i, hmm, rfl, hxw⟩
  have hsl := sizeN_le (al.take i) fun a ha => hz a (List.mem_of_mem_take ha)
  have htl : (al.take i).length ≤ 1000 := by rw [List.length_take]; omega
  conv => whnf
  refine VSeq.mk fun Kq hKq => ?_
  conv => whnf
  refine VSeq.mk fun Kq hKq => ?_
  conv => whnf
  refine hKq _ _ _ (.refl _) ?_
  clear hKq Kq
  conv => whnf
  refine ⟨fun hlt => ?_, fun hlt => ?_⟩
  · have hlt := of_decide_eq_true hlt
    conv => whnf
    refine hKq _ _ _ (.refl _) ?_
    clear hKq Kq
    conv => whnf
    refine VSeq.mk fun Kq hKq => ?_
    conv => whnf
    refine Or.inl (And.intro (by omega) ?_)
    conv => whnf
    have hp := HpM.nil0 [] w
    obtain ⟨a, ha⟩ : ∃ a, al[i]? = some a := ⟨al[i]'(by omega), List.getElem?_eq_getElem (by omega)⟩
    have haz := hz a (List.mem_of_getElem? ha)
    have hst := sizeN_take ha
    obtain ⟨g, off, rfl, hld⟩ := (hv.ext hxw).at1 ha
    unfold atN at hst
    have hup := up_p a.2.size (by omega)
    rw [up_eq] at hup
    conv => whnf
    refine ⟨i, ⟨by first | rfl | omega, by show i < al.length; omega⟩, ?_⟩
    conv => whnf
    refine ⟨_, _, hld, ?_⟩
    conv => whnf
    refine PureF.use (hup) fun w hx => ?_
    try (have hp := hp.call hx)
    conv => whnf
    refine Or.inl (And.intro (by omega) ?_)
    conv => whnf
    refine hKq _ _ _ (.refl _) ?_
    clear hKq Kq
    conv => whnf
    refine Or.inl (And.intro (by omega) ?_)
    conv => whnf
    exact ⟨mm - 1, _, by omega, ⟨i + 1, by omega, rfl, hxw.trans hp.ext⟩, sub_cons rfl (sub_cons (by show some _ = some _; congr 3; rw [hst]; omega) (sub_cons rfl sub_nil))⟩
  · have hlt := of_decide_eq_false hlt
    conv => whnf
    clear hKq Kq
    refine hKq _ _ _ (.refl _) ?_
    clear hKq Kq
    conv => whnf
    refine VSeq.mk fun Kq hKq => ?_
    conv => whnf
    refine hKq _ _ _ (.refl _) ?_
    clear hKq Kq
    conv => whnf
    obtain rfl : i = al.length := by omega
    rw [List.take_of_length_le (Nat.le_refl _)]
    conv => whnf
    exact ⟨rfl, hxw⟩
theorem right8_c {W : World} {v : Value} {al : List At2} (c m : Int) (id : ByteArray) (hv : SA W v al) :
    Calls Tryz.prog 14 #[.agg #[.int .i64 c, .int .i64 m, .string id, v]] W fun e w' => e = .returned (.bool (stunB c m id al)) ∧ Ext W w' := by
  obtain ⟨p, cp, rfl⟩ := hv.shape
  by_cases hg : 0 ≤ c ∧ c ≤ 3 ∧ 0 ≤ m ∧ m ≤ 4095 ∧ id.size = 12 ∧ al.length ≤ 30
  · obtain ⟨g1, g2, g3, g4, g5, g6⟩ := hg
    refine v_reads (args := [.agg #[.int .i64 c, .int .i64 m, .string id, .slice p al.length cp]]) TTok FFok Tryz.func14 rfl rfl ?_
    conv => whnf
    refine VSeq.mk fun Kq hKq => ?_
    conv => whnf
    have hp := Hp.nil W
    (refine hp.kboxA fun q w hp hx => ?_; conv => whnf)
    (refine hKq _ _ _ (.refl _) ?_; clear hKq Kq; conv => whnf)
    (refine VSeq.mk fun Kq hKq => ?_; conv => whnf)
    (refine VSeq.mk fun Kq hKq => ?_; conv => whnf)
    (refine VSeq.mk fun Kq hKq => ?_; conv => whnf)
    (refine ⟨_, _, Blk.ld (hp.get (i := 0) rfl) TTok rfl rfl, ?_⟩; conv => whnf)
    (refine hKq _ _ _ (.refl _) ?_; clear hKq Kq; conv => whnf)
    (refine VSeq.mk fun Kq hKq => ?_; conv => whnf)
    (refine And.intro (fun h => absurd (of_decide_eq_true h) (by first | (intro h2; exact absurd rfl h2) | omega | decide)) (fun _ => ?_); conv => whnf)
    (refine ⟨_, _, Blk.ld (hp.get (i := 0) rfl) TTok rfl rfl, ?_⟩; conv => whnf)
    (refine hKq _ _ _ (.refl _) ?_; clear hKq Kq; conv => whnf)
    (refine VSeq.mk fun Kq hKq => ?_; conv => whnf)
    (refine And.intro (fun h => absurd (of_decide_eq_true h) (by first | (intro h2; exact absurd rfl h2) | omega | decide)) (fun _ => ?_); conv => whnf)
    (refine ⟨_, _, Blk.ld (hp.get (i := 0) rfl) TTok rfl rfl, ?_⟩; conv => whnf)
    (refine hKq _ _ _ (.refl _) ?_; clear hKq Kq; conv => whnf)
    (refine VSeq.mk fun Kq hKq => ?_; conv => whnf)
    (refine And.intro (fun h => absurd (of_decide_eq_true h) (by first | (intro h2; exact absurd rfl h2) | omega | decide)) (fun _ => ?_); conv => whnf)
    (refine ⟨_, _, Blk.ld (hp.get (i := 0) rfl) TTok rfl rfl, ?_⟩; conv => whnf)
    (refine hKq _ _ _ (.refl _) ?_; clear hKq Kq; conv => whnf)
    (refine VSeq.mk fun Kq hKq => ?_; conv => whnf)
    (refine And.intro (fun h => absurd (of_decide_eq_true h) (by first | (intro h2; exact absurd rfl h2) | omega | decide)) (fun _ => ?_); conv => whnf)
    (refine ⟨_, _, Blk.ld (hp.get (i := 0) rfl) TTok rfl rfl, ?_⟩; conv => whnf)
    (refine hKq _ _ _ (.refl _) ?_; clear hKq Kq; conv => whnf)
    (refine And.intro (fun h => absurd (of_decide_eq_true h) (by first | (intro h2; exact absurd rfl h2) | omega | decide)) (fun _ => ?_); conv => whnf)
    (refine ⟨_, _, Blk.ld (hp.get (i := 0) rfl) TTok rfl rfl, ?_⟩; conv => whnf)
    (refine hKq _ _ _ (.refl _) ?_; clear hKq Kq; conv => whnf)
    (refine And.intro (fun h => absurd (of_decide_eq_true h) (by first | (intro h2; exact absurd rfl h2) | omega | decide)) (fun _ => ?_); conv => whnf)
    (refine hKq _ _ _ (.refl _) ?_; clear hKq Kq; conv => whnf)
    (refine VSeq.mk fun Kq hKq => ?_; conv => whnf)
    (refine VSeq.mk fun Kq hKq => ?_; conv => whnf)
    (refine hKq _ _ _ (.refl _) ?_; clear hKq Kq; conv => whnf)
    refine ⟨fun mm e w' => ∃ (i : Nat), mm + i = al.length ∧ e = [(1, .v (.pointer (some ⟨q, 0, none⟩))), (3, .v (.int .i64 i))] ∧ (∀ a ∈ al.take i, attrB a = true) ∧ HpM [] W w' [blk q [.int .i64 c, .int .i64 m, .string id, .slice p al.length cp] 24],
      ⟨al.length, _, ⟨0, by omega, rfl, by simp, hp⟩, sub_cons rfl (sub_cons rfl sub_nil)⟩, ?_⟩
    clear hp hx
    repeat clear hp
    rintro mm _ w ⟨i, hmm, rfl, hall, hp⟩
    (refine VSeq.mk fun Kq hKq => ?_; conv => whnf)
    (refine VSeq.mk fun Kq hKq => ?_; conv => whnf)
    (refine ⟨_, _, Blk.ld (hp.get (i := 0) rfl) TTok rfl rfl, ?_⟩; conv => whnf)
    (refine hKq _ _ _ (.refl _) ?_; clear hKq Kq; conv => whnf)
    refine ⟨fun hlt => ?_, fun hlt => ?_⟩
    · have hlt := of_decide_eq_true hlt
      conv => whnf
      refine hKq _ _ _ (.refl _) ?_
      clear hKq Kq
      conv => whnf
      refine VSeq.mk fun Kq hKq => ?_
      conv => whnf
      refine VSeq.mk fun Kq hKq => ?_
      conv => whnf
      refine VSeq.mk fun Kq hKq => ?_
      conv => whnf
      obtain ⟨a, ha⟩ : ∃ a, al[i]? = some a := ⟨al[i]'(by omega), List.getElem?_eq_getElem (by omega)⟩
      obtain ⟨g, off, rfl, -⟩ := (hv.ext hp.ext).at ha
      have hl0 := SA.ld0 (hv.ext hp.ext) ha
      have hl1 := SA.ld1 (hv.ext hp.ext) ha
      by_cases hok : 0 ≤ a.1 ∧ a.1 ≤ 65535 ∧ a.2.size ≤ 763
      · obtain ⟨k1, k2, k3⟩ := hok
        have haB : attrB a = true := by unfold attrB; simp only [Bool.and_eq_true, decide_eq_true_eq]; exact ⟨k1, k2, k3⟩
        (refine ⟨_, _, Blk.ld (hp.get (i := 0) rfl) TTok rfl rfl, ?_⟩; conv => whnf)
        (refine ⟨_, ⟨rfl, by omega⟩, ?_⟩; conv => whnf)
        (refine ⟨_, _, hl0, ?_⟩; conv => whnf)
        (refine hKq _ _ _ (.refl _) ?_; clear hKq Kq; conv => whnf)
        (refine VSeq.mk fun Kq hKq => ?_; conv => whnf)
        (refine And.intro (fun h => absurd (of_decide_eq_true h) (by first | (intro h2; exact absurd rfl h2) | omega | decide)) (fun _ => ?_); conv => whnf)
        (refine ⟨_, _, Blk.ld (hp.get (i := 0) rfl) TTok rfl rfl, ?_⟩; conv => whnf)
        (refine ⟨_, ⟨rfl, by omega⟩, ?_⟩; conv => whnf)
        (refine ⟨_, _, hl0, ?_⟩; conv => whnf)
        (refine hKq _ _ _ (.refl _) ?_; clear hKq Kq; conv => whnf)
        (refine And.intro (fun h => absurd (of_decide_eq_true h) (by first | (intro h2; exact absurd rfl h2) | omega | decide)) (fun _ => ?_); conv => whnf)
        (refine ⟨_, _, Blk.ld (hp.get (i := 0) rfl) TTok rfl rfl, ?_⟩; conv => whnf)
        (refine ⟨_, ⟨rfl, by omega⟩, ?_⟩; conv => whnf)
        (refine ⟨_, _, hl1, ?_⟩; conv => whnf)
        (refine hKq _ _ _ (.refl _) ?_; clear hKq Kq; conv => whnf)
        (refine And.intro (fun h => absurd (of_decide_eq_true h) (by first | (intro h2; exact absurd rfl h2) | omega | decide)) (fun _ => ?_); conv => whnf)
        (refine hKq _ _ _ (.refl _) ?_; clear hKq Kq; conv => whnf)
        (refine Or.inl (And.intro (by first | omega | decide) ?_); conv => whnf)
        refine ⟨mm - 1, _, by omega, ⟨i + 1, by omega, rfl, fun b hb => ?_, hp⟩, sub_cons rfl (sub_cons rfl sub_nil)⟩
        rw [List.take_add_one, ha] at hb
        rcases List.mem_append.1 hb with hb | hb
        · exact hall b hb
        · have : b = a := by simpa using hb
          rw [this]; exact haB
      · have haB := attrB_f hok
        have hb : stunB c m id al = false := stunB_f fun h => by
          have := (stunB_t h).2.2.2.2.2.2.1 a (List.mem_of_getElem? ha)
          rw [haB] at this; cases this
        (refine ⟨_, _, Blk.ld (hp.get (i := 0) rfl) TTok rfl rfl, ?_⟩; conv => whnf)
        (refine ⟨_, ⟨rfl, by omega⟩, ?_⟩; conv => whnf)
        (refine ⟨_, _, hl0, ?_⟩; conv => whnf)
        (refine hKq _ _ _ (.refl _) ?_; clear hKq Kq; conv => whnf)
        (refine VSeq.mk fun Kq hKq => ?_; conv => whnf)
        (refine ⟨fun hd => ?_, fun hd => ?_⟩ <;> (try simp only [Bool.not_eq_true', Bool.not_eq_false', decide_eq_true_eq, decide_eq_false_iff_not, ne_eq, Classical.not_not] at hd) <;> (conv => whnf))
        (refine hKq _ _ _ (.refl _) ?_; clear hKq Kq; conv => whnf)
        (refine hKq _ _ _ (.refl _) ?_; clear hKq Kq; conv => whnf)
        (refine VSeq.mk fun Kq hKq => ?_; conv => whnf)
        (refine hKq _ _ _ (.refl _) ?_; clear hKq Kq; conv => whnf)
        (refine ⟨congrArg Value.bool ?_, hp.ext⟩; rw [Bool.eq_iff_iff]; first | (simp only [Bool.or_eq_true, Bool.and_eq_true, decide_eq_true_eq, Bool.not_eq_true', decide_eq_false_iff_not, eq_self, true_and, and_true, true_iff, iff_true, false_iff, iff_false, reduceCtorEq, ne_eq, *] <;> omega) | (simp_all; fail_if_success skip) | (simp_all <;> omega))
        (refine ⟨_, _, Blk.ld (hp.get (i := 0) rfl) TTok rfl rfl, ?_⟩; conv => whnf)
        (refine ⟨_, ⟨rfl, by omega⟩, ?_⟩; conv => whnf)
        (refine ⟨_, _, hl0, ?_⟩; conv => whnf)
        (refine hKq _ _ _ (.refl _) ?_; clear hKq Kq; conv => whnf)
        (refine ⟨fun hd => ?_, fun hd => ?_⟩ <;> (try simp only [Bool.not_eq_true', Bool.not_eq_false', decide_eq_true_eq, decide_eq_false_iff_not, ne_eq, Classical.not_not] at hd) <;> (conv => whnf))
        (refine hKq _ _ _ (.refl _) ?_; clear hKq Kq; conv => whnf)
        (refine VSeq.mk fun Kq hKq => ?_; conv => whnf)
        (refine hKq _ _ _ (.refl _) ?_; clear hKq Kq; conv => whnf)
        (refine ⟨congrArg Value.bool ?_, hp.ext⟩; rw [Bool.eq_iff_iff]; first | (simp only [Bool.or_eq_true, Bool.and_eq_true, decide_eq_true_eq, Bool.not_eq_true', decide_eq_false_iff_not, eq_self, true_and, and_true, true_iff, iff_true, false_iff, iff_false, reduceCtorEq, ne_eq, *] <;> omega) | (simp_all; fail_if_success skip) | (simp_all <;> omega))
        (refine ⟨_, _, Blk.ld (hp.get (i := 0) rfl) TTok rfl rfl, ?_⟩; conv => whnf)
        (refine ⟨_, ⟨rfl, by omega⟩, ?_⟩; conv => whnf)
        (refine ⟨_, _, hl1, ?_⟩; conv => whnf)
        (refine hKq _ _ _ (.refl _) ?_; clear hKq Kq; conv => whnf)
        (refine And.intro (fun _ => ?_) (fun h => absurd (by first | rfl | assumption | omega | decide) (of_decide_eq_false h)); conv => whnf)
        (refine VSeq.mk fun Kq hKq => ?_; conv => whnf)
        (refine hKq _ _ _ (.refl _) ?_; clear hKq Kq; conv => whnf)
        (refine ⟨congrArg Value.bool ?_, hp.ext⟩; rw [Bool.eq_iff_iff]; first | (simp only [Bool.or_eq_true, Bool.and_eq_true, decide_eq_true_eq, Bool.not_eq_true', decide_eq_false_iff_not, eq_self, true_and, and_true, true_iff, iff_true, false_iff, iff_false, reduceCtorEq, ne_eq, *] <;> omega) | (simp_all; fail_if_success skip) | (simp_all <;> omega))
    · have hlt := of_decide_eq_false hlt
      conv => whnf
      clear hKq Kq
      refine hKq _ _ _ (.refl _) ?_
      clear hKq Kq
      conv => whnf
      refine VSeq.mk fun Kq hKq => ?_
      conv => whnf
      obtain rfl : i = al.length := by omega
      rw [List.take_of_length_le (Nat.le_refl _)] at hall
      have hz := size8_c (W := w) (hv.ext hp.ext) (by omega) (fun a ha => by have := attrB_t (hall a ha); omega)
      have hsz := sizeN_le al (fun a ha => by have := attrB_t (hall a ha); omega)
      have hF : stunB c m id al = decide (20 + (sizeN al : Int) ≤ 1200) := by
        by_cases h8 : 20 + sizeN al ≤ 1200
        · rw [stunB_of g1 g2 g3 g4 g5 g6 hall h8]; exact (decide_eq_true (by omega)).symm
        · rw [stunB_f fun h => h8 (stunB_t h).2.2.2.2.2.2.2]; exact (decide_eq_false (by omega)).symm
      rw [hF]
      (refine ⟨_, _, Blk.ld (hp.get (i := 0) rfl) TTok rfl rfl, ?_⟩; conv => whnf)
      (refine V.CallW.out ?_; (conv => arg 3; dsimp only [EV.val, List.toList_toArray, List.nil_append, List.append_nil, List.cons_append]); (with_reducible refine V.CallsUseW (hz) fun w hx => ?_); try (have hp := hp.call hx); conv => whnf)
      (refine Or.inl (And.intro (by first | omega | decide) ?_); conv => whnf)
      (refine hKq _ _ _ (.refl _) ?_; clear hKq Kq; conv => whnf)
      (refine ⟨congrArg Value.bool ?_, hp.ext⟩; rw [Bool.eq_iff_iff]; first | (simp only [Bool.or_eq_true, Bool.and_eq_true, decide_eq_true_eq, Bool.not_eq_true', decide_eq_false_iff_not, eq_self, true_and, and_true, true_iff, iff_true, false_iff, iff_false, reduceCtorEq, ne_eq, *] <;> omega) | (simp_all; fail_if_success skip) | (simp_all <;> omega))
  · have hb : stunB c m id al = false := stunB_f fun h => hg (by have := stunB_t h; exact ⟨this.1, this.2.1, this.2.2.1, this.2.2.2.1, this.2.2.2.2.1, this.2.2.2.2.2.1⟩)
    rw [hb]
    refine v_reads (args := [.agg #[.int .i64 c, .int .i64 m, .string id, .slice p al.length cp]]) TTok FFok Tryz.func14 rfl rfl ?_
    conv => whnf
    refine VSeq.mk fun Kq hKq => ?_
    conv => whnf
    have hp := Hp.nil W
    (refine hp.kboxA fun q w hp hx => ?_; conv => whnf)
    (refine hKq _ _ _ (.refl _) ?_; clear hKq Kq; conv => whnf)
    (refine VSeq.mk fun Kq hKq => ?_; conv => whnf)
    (refine VSeq.mk fun Kq hKq => ?_; conv => whnf)
    (refine VSeq.mk fun Kq hKq => ?_; conv => whnf)
    (refine ⟨_, _, Blk.ld (hp.get (i := 0) rfl) TTok rfl rfl, ?_⟩; conv => whnf)
    (refine hKq _ _ _ (.refl _) ?_; clear hKq Kq; conv => whnf)
    (refine VSeq.mk fun Kq hKq => ?_; conv => whnf)
    (refine ⟨fun hd => ?_, fun hd => ?_⟩ <;> (try simp only [Bool.not_eq_true', Bool.not_eq_false', decide_eq_true_eq, decide_eq_false_iff_not, ne_eq, Classical.not_not] at hd) <;> (conv => whnf))
    (refine hKq _ _ _ (.refl _) ?_; clear hKq Kq; conv => whnf)
    (refine VSeq.mk fun Kq hKq => ?_; conv => whnf)
    (refine hKq _ _ _ (.refl _) ?_; clear hKq Kq; conv => whnf)
    (refine VSeq.mk fun Kq hKq => ?_; conv => whnf)
    (refine hKq _ _ _ (.refl _) ?_; clear hKq Kq; conv => whnf)
    (refine VSeq.mk fun Kq hKq => ?_; conv => whnf)
    (refine hKq _ _ _ (.refl _) ?_; clear hKq Kq; conv => whnf)
    (refine hKq _ _ _ (.refl _) ?_; clear hKq Kq; conv => whnf)
    (refine VSeq.mk fun Kq hKq => ?_; conv => whnf)
    (refine hKq _ _ _ (.refl _) ?_; clear hKq Kq; conv => whnf)
    (exact ⟨rfl, hp.ext⟩)
    (refine ⟨_, _, Blk.ld (hp.get (i := 0) rfl) TTok rfl rfl, ?_⟩; conv => whnf)
    (refine hKq _ _ _ (.refl _) ?_; clear hKq Kq; conv => whnf)
    (refine VSeq.mk fun Kq hKq => ?_; conv => whnf)
    (refine ⟨fun hd => ?_, fun hd => ?_⟩ <;> (try simp only [Bool.not_eq_true', Bool.not_eq_false', decide_eq_true_eq, decide_eq_false_iff_not, ne_eq, Classical.not_not] at hd) <;> (conv => whnf))
    (refine hKq _ _ _ (.refl _) ?_; clear hKq Kq; conv => whnf)
    (refine VSeq.mk fun Kq hKq => ?_; conv => whnf)
    (refine hKq _ _ _ (.refl _) ?_; clear hKq Kq; conv => whnf)
    (refine VSeq.mk fun Kq hKq => ?_; conv => whnf)
    (refine hKq _ _ _ (.refl _) ?_; clear hKq Kq; conv => whnf)
    (refine hKq _ _ _ (.refl _) ?_; clear hKq Kq; conv => whnf)
    (refine VSeq.mk fun Kq hKq => ?_; conv => whnf)
    (refine hKq _ _ _ (.refl _) ?_; clear hKq Kq; conv => whnf)
    (exact ⟨rfl, hp.ext⟩)
    (refine ⟨_, _, Blk.ld (hp.get (i := 0) rfl) TTok rfl rfl, ?_⟩; conv => whnf)
    (refine hKq _ _ _ (.refl _) ?_; clear hKq Kq; conv => whnf)
    (refine VSeq.mk fun Kq hKq => ?_; conv => whnf)
    (refine ⟨fun hd => ?_, fun hd => ?_⟩ <;> (try simp only [Bool.not_eq_true', Bool.not_eq_false', decide_eq_true_eq, decide_eq_false_iff_not, ne_eq, Classical.not_not] at hd) <;> (conv => whnf))
    (refine hKq _ _ _ (.refl _) ?_; clear hKq Kq; conv => whnf)
    (refine VSeq.mk fun Kq hKq => ?_; conv => whnf)
    (refine hKq _ _ _ (.refl _) ?_; clear hKq Kq; conv => whnf)
    (refine hKq _ _ _ (.refl _) ?_; clear hKq Kq; conv => whnf)
    (refine VSeq.mk fun Kq hKq => ?_; conv => whnf)
    (refine hKq _ _ _ (.refl _) ?_; clear hKq Kq; conv => whnf)
    (exact ⟨rfl, hp.ext⟩)
    (refine ⟨_, _, Blk.ld (hp.get (i := 0) rfl) TTok rfl rfl, ?_⟩; conv => whnf)
    (refine hKq _ _ _ (.refl _) ?_; clear hKq Kq; conv => whnf)
    (refine VSeq.mk fun Kq hKq => ?_; conv => whnf)
    (refine ⟨fun hd => ?_, fun hd => ?_⟩ <;> (try simp only [Bool.not_eq_true', Bool.not_eq_false', decide_eq_true_eq, decide_eq_false_iff_not, ne_eq, Classical.not_not] at hd) <;> (conv => whnf))
    (refine hKq _ _ _ (.refl _) ?_; clear hKq Kq; conv => whnf)
    (refine hKq _ _ _ (.refl _) ?_; clear hKq Kq; conv => whnf)
    (refine VSeq.mk fun Kq hKq => ?_; conv => whnf)
    (refine hKq _ _ _ (.refl _) ?_; clear hKq Kq; conv => whnf)
    (exact ⟨rfl, hp.ext⟩)
    (refine ⟨_, _, Blk.ld (hp.get (i := 0) rfl) TTok rfl rfl, ?_⟩; conv => whnf)
    (refine hKq _ _ _ (.refl _) ?_; clear hKq Kq; conv => whnf)
    (refine ⟨fun hd => ?_, fun hd => ?_⟩ <;> (try simp only [Bool.not_eq_true', Bool.not_eq_false', decide_eq_true_eq, decide_eq_false_iff_not, ne_eq, Classical.not_not] at hd) <;> (conv => whnf))
    (refine hKq _ _ _ (.refl _) ?_; clear hKq Kq; conv => whnf)
    (refine VSeq.mk fun Kq hKq => ?_; conv => whnf)
    (refine hKq _ _ _ (.refl _) ?_; clear hKq Kq; conv => whnf)
    (exact ⟨rfl, hp.ext⟩)
    (refine ⟨_, _, Blk.ld (hp.get (i := 0) rfl) TTok rfl rfl, ?_⟩; conv => whnf)
    (refine hKq _ _ _ (.refl _) ?_; clear hKq Kq; conv => whnf)
    (refine And.intro (fun _ => ?_) (fun h => absurd (by first | rfl | assumption | omega | decide) (of_decide_eq_false h)); conv => whnf)
    (refine VSeq.mk fun Kq hKq => ?_; conv => whnf)
    (refine hKq _ _ _ (.refl _) ?_; clear hKq Kq; conv => whnf)
    (exact ⟨rfl, hp.ext⟩)
    all_goals exact absurd ⟨by omega, by omega, by omega, by omega, by omega, by omega⟩ hg
open Go.RowKit
namespace V
/-- Block b is a map of integers that holds just these entries, the oldest first. -/
def MPs (w : World) (b : Nat) (kvs : List (Int × Value)) : Prop := ∃ (es : Array MapEntry) (clock : Nat), w.heap[b]? = some (.map es clock) ∧ es.toList.map (fun e => (e.key, e.val)) = kvs.map fun p => (Value.int .i64 p.1, p.2)
def mp (b : Nat) (kvs : List (Int × Value)) : It := ⟨some b, fun w => MPs w b kvs⟩
theorem mp_ok (b : Nat) (kvs : List (Int × Value)) : (mp b kvs).Ok := fun w w' _ h hh => by
  obtain ⟨es, c, h1, h2⟩ := hh
  exact ⟨es, c, (h b rfl).trans h1, h2⟩
theorem find_mp (k : Int) : ∀ (l : List MapEntry) (kvs : List (Int × Value)) (i : Nat), l.map (fun e => (e.key, e.val)) = kvs.map (fun p => (Value.int .i64 p.1, p.2)) →
    (∃ r, Instr.findNow (.int .i64) (.int .i64 k) l i = some r ∧ (r.map (·.2)) = (kvs.find? fun p => decide (p.1 = k)).map (·.2))
  | [], [], i, _ => ⟨none, rfl, rfl⟩
  | e :: l, [], i, h => by simp at h
  | [], p :: kvs, i, h => by simp at h
  | e :: l, p :: kvs, i, h => by
    simp only [List.map_cons, List.cons.injEq, Prod.mk.injEq] at h
    obtain ⟨⟨hk, hv⟩, ht⟩ := h
    obtain ⟨r, hr, hr2⟩ := find_mp k l kvs (i + 1) ht
    by_cases e1 : p.1 = k
    · refine ⟨some (i, e.val), ?_, ?_⟩
      · subst e1
        simp [Instr.findNow, Instr.sameNow, hk]
      · simp [List.find?_cons, e1, hv]
    · refine ⟨r, ?_, ?_⟩
      · have e2 : (k == p.1) = false := by simp; exact fun h => e1 h.symm
        simp [Instr.findNow, Instr.sameNow, hk, e2, hr]
      · rw [hr2, List.find?_cons, decide_eq_false e1]
theorem find_mp' {k : Int} {l : List MapEntry} {kvs : List (Int × Value)} (h : l.map (fun e => (e.key, e.val)) = kvs.map (fun p => (Value.int .i64 p.1, p.2))) (hn : (kvs.find? fun p => decide (p.1 = k)) = none) : Instr.findNow (.int .i64) (.int .i64 k) l 0 = some none := by
  obtain ⟨r, hr, h2⟩ := find_mp k l kvs 0 h
  rw [hn] at h2
  cases r with
  | none => exact hr
  | some a => simp at h2
section
variable {P : Program} {T : Tab} {M : List Nat} {w0 w : World} {H : List It} {K : Value → World → Prop}
theorem HpM.kmap (h : HpM M w0 w H) {t : Nat} (hk : ∀ b w', HpM M w0 w' (mp b [] :: H) → Ext w w' → K (.map (some b)) w') : ∃ u w', (Instr.makeMap t none).run P w = .ok u w' ∧ K u w' := by
  have hr : (Instr.makeMap t none).run P w = .ok (.map (some w.heap.size)) (w.alloc (.map #[] 0)) := by
    simp [Instr.makeMap, Result.andThen]
  have hx : Ext w (w.alloc (.map #[] 0)) := (Ext.refl w).alloc _
  refine ⟨_, _, hr, hk _ _ (h.push hx (mp_ok _ _) ⟨#[], 0, (MapKept.heap_alloc w _).1, rfl⟩ ?_) hx⟩
  intro b hb
  simp only [mp, Option.some.injEq] at hb
  subst hb
  exact ⟨Nat.le_refl _, by simp⟩
/-- a new key -/
theorem HpM.kins (h : HpM M w0 w H) {t kt et : Nat} (ht : P.underlying t = some (.map kt et)) (hkt : P.underlying kt = some (.int .i64)) (i : Nat) {b : Nat} {kvs : List (Int × Value)} (hi : H[i]? = some (mp b kvs)) {k : Int} {v : Value}
    (hn : (kvs.find? fun p => decide (p.1 = k)) = none) (hk : ∀ w', HpM M w0 w' (H.set i (mp b (kvs ++ [(k, v)]))) → K undef w') :
    ∃ u w', (do Instr.mapUpdate t (.map (some b)) (.int .i64 k) v; Pure.pure undef : Sem Value).run P w = .ok u w' ∧ K u w' := by
  obtain ⟨es, clock, hb, hes⟩ : MPs w b kvs := h.get hi
  have hf := find_mp' hes hn
  have hr : (Instr.mapUpdate t (.map (some b)) (.int .i64 k) v).run P w = .ok () { w with heap := w.heap.setIfInBounds b (.map (es.push { key := .int .i64 k, val := v, born := clock }) (clock + 1)) } := by
    simp only [Instr.mapUpdate, Sem.run_bind, Go.Proofs.YtmlmfmdmomegpaaGreatDoor.V.run_underlying ht, Result.andThen, MapKept.run_getObj_map hb, MapKept.run_checkKey hkt (show MapKept.IsKey (.int .i64) (.int .i64 k) from rfl), MapKept.run_findKey hkt hf]
    exact MapKept.run_setObj_map _ hb
  have hset := MapKept.heap_set hb (o' := .map (es.push { key := .int .i64 k, val := v, born := clock }) (clock + 1))
  have hg : w.grownBy { w with heap := w.heap.setIfInBounds b (.map (es.push { key := .int .i64 k, val := v, born := clock }) (clock + 1)) } (mp b kvs).own :=
    ⟨rfl, rfl, rfl, by simp, fun j hj hne => hset.2 j (fun e => hne (by rw [e]; rfl))⟩
  have hr2 : (do Instr.mapUpdate t (.map (some b)) (.int .i64 k) v; Pure.pure undef : Sem Value).run P w = .ok undef { w with heap := w.heap.setIfInBounds b (.map (es.push { key := .int .i64 k, val := v, born := clock }) (clock + 1)) } := by
    rw [Sem.run_bind, hr]
    simp [Result.andThen]
  exact ⟨_, _, hr2, hk _ (h.upd hi hg (mp_ok _ _) ⟨_, _, hset.1, by simp [hes]⟩ (fun b' hb' => .inl hb'))⟩
/-- a key is looked up -/
theorem MPs.look {b : Nat} {kvs : List (Int × Value)} (h : MPs w b kvs) {t kt et : Nat} (ht : P.underlying t = some (.map kt et)) (hkt : P.underlying kt = some (.int .i64)) {z : Value} (hz : (zeroValue et).run P w = .ok z w) (k : Int) (ok : Bool) :
    (Instr.lookup t (.map (some b)) (.int .i64 k) ok).run P w = .ok (match kvs.find? fun p => decide (p.1 = k) with
      | some p => if ok then .tuple #[p.2, .bool true] else p.2
      | none => if ok then .tuple #[z, .bool false] else z) w := by
  obtain ⟨es, clock, hb, hes⟩ := h
  obtain ⟨r, hr, h2⟩ := find_mp k es.toList kvs 0 hes
  simp only [Instr.lookup, Sem.run_bind, Go.Proofs.YtmlmfmdmomegpaaGreatDoor.V.run_underlying ht, Result.andThen, MapKept.run_getObj_map hb, Sem.run_pure, MapKept.run_checkKey hkt (show MapKept.IsKey (.int .i64) (.int .i64 k) from rfl), MapKept.run_findKey hkt hr]
  cases hf : kvs.find? fun p => decide (p.1 = k) with
  | none =>
    rw [hf] at h2
    cases r with
    | none => simp [hz, Result.andThen]
    | some a => simp at h2
  | some p =>
    rw [hf] at h2
    cases r with
    | none => simp at h2
    | some a =>
      have : a.2 = p.2 := by simpa using h2
      simp [Result.andThen, this]
end
end V
namespace V
section
variable {P : Program} {md : Region.Mode} {ops : Array Oper}
def YC (P : Program) (ops : Array Oper) (o : Oper) (v : Value) (a : Act) (C : World → Prop) : Prop :=
  (Region.wanted o (yielded ops a.tmps) = true ∧ ∀ w1, C w1 → o.quietAt P a (Ext w1) w1 v) ∨ (Region.wanted o (yielded ops a.tmps) = false ∧ v = undef)
theorem YC.of_same {o : Oper} {v : Value} {a a' : Act} {C : World → Prop} (hy : YC P ops o v a C) (he : execOp a'.eval o = execOp a.eval o) (hw : Region.wanted o (yielded ops a'.tmps) = Region.wanted o (yielded ops a.tmps)) : YC P ops o v a' C := by
  unfold YC Oper.quietAt at *
  rw [he, hw]
  exact hy
end
/-! ### over environments -/
section
variable (P : Program) (T : Tab) (Fs : List Nat) (n : Nat) (all : List Oper) (bars : List Nat) (C : World → Prop)
end
section
variable {P : Program} {T : Tab} {Fs : List Nat} (hT : tabOk P T = true) (hF : ∀ f, memB f Fs = true → Enters P f)
include hT hF
end
end V
namespace V
theorem SLn.shape {w : World} {sz : Nat} {v : Value} {xs : List (List Value)} (h : SLn w sz v xs) : ∃ p c, v = .slice p xs.length c := by
  rcases h with ⟨rfl, rfl⟩ | ⟨a, c, rfl, rfl⟩ | ⟨g, off, c, rfl, _⟩
  · exact ⟨_, _, rfl⟩
  · exact ⟨_, _, rfl⟩
  · exact ⟨_, _, rfl⟩
theorem SLn.len {w : World} {sz : Nat} {v : Value} {xs : List (List Value)} (h : SLn w sz v xs) : xs.length ≤ maxLen := by
  rcases h with ⟨_, rfl⟩ | ⟨a, c, _, rfl⟩ | ⟨g, off, c, _, h1, h2, _⟩
  · exact Nat.zero_le _
  · exact Nat.zero_le _
  · omega
theorem SLn.ext {w w' : World} {sz : Nat} {v : Value} {xs : List (List Value)} (h : SLn w sz v xs) (hx : Ext w w') : SLn w' sz v xs := by
  rcases h with h | h | ⟨g, off, c, hv, h1, h2, h3⟩
  · exact .inl h
  · exact .inr (.inl h)
  · exact .inr (.inr ⟨g, off, c, hv, h1, h2, fun j x hj => ⟨(h3 j x hj).1, fun i y hy => Ext.cell hx ((h3 j x hj).2 i y hy)⟩⟩)
theorem SLn.cells {w : World} {sz : Nat} {p : Option Addr} {n c : Nat} {xs : List (List Value)} (h : SLn w sz (.slice p n c) xs) {j : Nat} {x : List Value} (hj : xs[j]? = some x) :
    ∃ g off, p = some ⟨g, off, none⟩ ∧ x.length = sz ∧ ∀ i y, x[i]? = some y → w.cell? ⟨g, addM off j sz + i, none⟩ = some y := by
  rcases h with ⟨_, h⟩ | ⟨_, _, _, h⟩ | ⟨g, off, c', hv, _, _, h3⟩
  · rw [h] at hj; simp at hj
  · rw [h] at hj; simp at hj
  · simp only [Value.slice.injEq] at hv
    refine ⟨g, off, hv.1, (h3 j x hj).1, fun i y hy => ?_⟩
    rw [addM_eq, Nat.add_assoc]
    exact (h3 j x hj).2 i y hy
theorem SLn.one {α : Type} {f : α → Value} {w : World} {v : Value} {l : List α} (h : SLn w 1 v (l.map fun a => [f a])) : SLv w v (l.map f) := by
  rcases h with ⟨rfl, h⟩ | ⟨a, c, rfl, h⟩ | ⟨g, off, c, rfl, hle, _, h⟩
  · have : l = [] := List.map_eq_nil_iff.1 h
    subst this; exact .inl ⟨rfl, _, _, rfl⟩
  · have : l = [] := List.map_eq_nil_iff.1 h
    subst this; exact .inl ⟨rfl, _, _, rfl⟩
  · refine .inr ⟨g, off, c, by simp, by simpa using hle, fun j y hy => ?_⟩
    rw [List.getElem?_map, Option.map_eq_some_iff] at hy
    obtain ⟨s, hs, rfl⟩ := hy
    have := (h j [f s] (by simp [hs])).2 0 (f s) rfl
    simpa using this
theorem Rd.all {α : Type} {w : World} {s : Sh} {Q : α → Prop} {f : α → List Value} (h1 : ∀ cs, Rd w s cs → ∃ a, Q a ∧ cs = f a) :
    ∀ {xs : List (List Value)}, (∀ x ∈ xs, Rd w s x) → ∃ l : List α, xs = l.map f ∧ ∀ a ∈ l, Q a
  | [], _ => ⟨[], rfl, by simp⟩
  | x :: xs, h => by
    obtain ⟨a, ha, hx⟩ := h1 x (h x List.mem_cons_self)
    obtain ⟨l, hl, hq⟩ := Rd.all h1 (xs := xs) fun y hy => h y (List.mem_cons_of_mem _ hy)
    refine ⟨a :: l, by rw [List.map_cons, ← hx, ← hl], fun b hb => ?_⟩
    rcases List.mem_cons.1 hb with rfl | hb
    · exact ha
    · exact hq b hb
theorem conv_zero {P : Program} {T : Tab} (hT : tabOk P T = true) {src dst e n1 n2 n3 : Nat} (hs : tfind T src = some ⟨.slice e, n1⟩) (he : tfind T e = some ⟨.int .u8, n2⟩) (hd : tfind T dst = some ⟨.str, n3⟩) {w : World} {a : Option Addr} {cap : Nat} :
    (convert src dst (.slice a 0 cap)).run P w = .ok (.string ⟨#[]⟩) w := by
  cases a with
  | none => exact conv_nil (hT := hT) hs he hd
  | some a =>
    rw [run_convert_bytes_string w src dst e _ 0 cap (tab_slice hT hs) (tab_int hT he) (tab_str hT hd)]
    have hld := run_loadCells_list (P := P) w a [] (fun j v hj => by simp at hj)
    rw [run_bytesToString w _ 0 cap [] (by rw [show (0 : Nat) = ([] : List Value).length from rfl, hld]; rfl)]
    rfl
/-- the octets of a slice, as a string -/
theorem SLv.str {P : Program} {T : Tab} (hT : tabOk P T = true) {src dst e n1 n2 n3 : Nat} (hs : tfind T src = some ⟨.slice e, n1⟩) (he : tfind T e = some ⟨.int .u8, n2⟩) (hd : tfind T dst = some ⟨.str, n3⟩) {w : World} {v : Value} {l : List UInt8} (h : SLv w v (bytesV l)) :
    (convert src dst v).run P w = .ok (.string ⟨l.toArray⟩) w := by
  rcases h with ⟨h, a, c, rfl⟩ | ⟨g, off, c, rfl, _, hc⟩
  · have : l = [] := List.map_eq_nil_iff.1 h
    subst this
    exact conv_zero hT hs he hd
  · have hl : (bytesV l).length = l.length := by simp [bytesV]
    rw [hl]
    refine conv_bytes (hT := hT) hs he hd rfl fun j hj => ?_
    have hj' : j < (bytesV l).length := by omega
    rw [List.getElem?_eq_getElem hj']
    exact hc j _ (List.getElem?_eq_getElem hj')
end V
set_option maxHeartbeats 3200000
def in8 (a : Int) : Prop := -9223372036854775808 ≤ a ∧ a ≤ 9223372036854775807
theorem in8_wf {a : Int} (h : in8 a) : (Lit.int .i64 a).wf = true := by
  unfold in8 at h
  simp [Lit.wf, IntKind.has, IntKind.min, IntKind.max, IntKind.signed, IntKind.bits]; omega
theorem wf_in8 {a : Int} (h : (Lit.int .i64 a).wf = true) : in8 a := by
  simp [Lit.wf, IntKind.has, IntKind.min, IntKind.max, IntKind.signed, IntKind.bits] at h
  unfold in8; omega
def AtOk (a : At2) : Prop := in8 a.1 ∧ a.2.size ≤ maxLen
theorem AtOk.of {a : At2} (h : attrB a = true) : AtOk a := by
  have := attrB_t h
  refine ⟨⟨by omega, by omega⟩, ?_⟩
  unfold maxLen; omega
def sh8A : Sh := .cons (.int .i64) (.cons .str .nil)
theorem sh8A_ok : cmpOk Tryz.prog 54 10 sh8A = true := by kernel_rfl
theorem AtOk.rd {w : World} {a : At2} (h : AtOk a) : Rd w sh8A (atC a) := ⟨[_], [_], rfl, ⟨a.1, rfl, in8_wf h.1⟩, [_], [], rfl, ⟨a.2, rfl, h.2⟩, rfl⟩
theorem atC_inj {a b : At2} : atC a = atC b ↔ a = b := by
  constructor
  · intro h
    obtain ⟨_, _⟩ := a
    obtain ⟨_, _⟩ := b
    simp only [atC, List.cons.injEq, Value.string.injEq, Value.int.injEq, true_and, and_true] at h
    rw [h.1, h.2]
  · rintro rfl; rfl
theorem at_eq (w : World) (a b : At2) (ha : AtOk a) (hb : AtOk b) (xo yo : Operand) :
    ((do eqGuard .eql 54 xo yo (.agg #[.int .i64 a.1, .string a.2]) (.agg #[.int .i64 b.1, .string b.2]); binOp .eql 54 (.agg #[.int .i64 a.1, .string a.2]) (.agg #[.int .i64 b.1, .string b.2]) : Sem Value).run Tryz.prog w = .ok (.bool (decide (a = b))) w) ∧
    ((do eqGuard .neq 54 xo yo (.agg #[.int .i64 a.1, .string a.2]) (.agg #[.int .i64 b.1, .string b.2]); binOp .neq 54 (.agg #[.int .i64 a.1, .string a.2]) (.agg #[.int .i64 b.1, .string b.2]) : Sem Value).run Tryz.prog w = .ok (.bool (!decide (a = b))) w) := by
  obtain ⟨r, hr, h1, h2⟩ := run_eq_agg sh8A_ok (w0 := w) (w1 := w) ha.rd hb.rd xo yo
  have e : r = decide (a = b) := by rw [Bool.eq_iff_iff, hr, decide_eq_true_iff]; exact atC_inj
  rw [← e]
  exact ⟨h1 w, h2 w⟩
def sameB (c m : Int) (id : ByteArray) (al : List At2) (c2 m2 : Int) (id2 : ByteArray) (bl : List At2) : Bool := decide (c = c2 ∧ m = m2 ∧ id = id2 ∧ al = bl)
theorem sameB_f {c m : Int} {id : ByteArray} {al : List At2} {c2 m2 : Int} {id2 : ByteArray} {bl : List At2} (h : ¬ (c = c2 ∧ m = m2 ∧ id = id2 ∧ al = bl)) : sameB c m id al c2 m2 id2 bl = false := decide_eq_false h
theorem sameB_t {c m : Int} {id : ByteArray} {al : List At2} {c2 m2 : Int} {id2 : ByteArray} {bl : List At2} (h : c = c2 ∧ m = m2 ∧ id = id2 ∧ al = bl) : sameB c m id al c2 m2 id2 bl = true := decide_eq_true h
theorem Same8_c {W : World} {v u : Value} {al bl : List At2} (c m : Int) (id : ByteArray) (c2 m2 : Int) (id2 : ByteArray) (hv : SA W v al) (hu : SA W u bl) (ha : ∀ a ∈ al, AtOk a) (hb : ∀ a ∈ bl, AtOk a) :
    Calls Tryz.prog 21 #[.agg #[.int .i64 c, .int .i64 m, .string id, v], .agg #[.int .i64 c2, .int .i64 m2, .string id2, u]] W fun e w' => e = .returned (.bool (sameB c m id al c2 m2 id2 bl)) ∧ Ext W w' := by
  have hml := hv.len
  have hml2 := hu.len
  obtain ⟨p, cp, rfl⟩ := hv.shape
  obtain ⟨p2, cp2, rfl⟩ := hu.shape
  by_cases hg : c = c2 ∧ m = m2 ∧ id = id2 ∧ al.length = bl.length
  · obtain ⟨rfl, rfl, rfl, hlen⟩ := hg
    refine v_reads (args := [.agg #[.int .i64 c, .int .i64 m, .string id, .slice p al.length cp], .agg #[.int .i64 c, .int .i64 m, .string id, .slice p2 bl.length cp2]]) TTok FFok Tryz.func21 rfl rfl ?_
    conv => whnf
    refine VSeq.mk fun Kq hKq => ?_
    conv => whnf
    have hp := Hp.nil W
    refine hp.kboxA fun q w hp hx => ?_
    conv => whnf
    refine hp.kboxA fun q2 w hp hx => ?_
    conv => whnf
    refine hKq _ _ _ (.refl _) ?_
    clear hKq Kq
    conv => whnf
    refine VSeq.mk fun Kq hKq => ?_
    conv => whnf
    refine VSeq.mk fun Kq hKq => ?_
    conv => whnf
    refine VSeq.mk fun Kq hKq => ?_
    conv => whnf
    (refine ⟨_, _, Blk.ld (hp.get (i := 1) rfl) TTok rfl rfl, ?_⟩; conv => whnf)
    (refine ⟨_, _, Blk.ld (hp.get (i := 0) rfl) TTok rfl rfl, ?_⟩; conv => whnf)
    (refine hKq _ _ _ (.refl _) ?_; clear hKq Kq; conv => whnf)
    (refine VSeq.mk fun Kq hKq => ?_; conv => whnf)
    (refine And.intro (fun h => absurd (of_decide_eq_true h) (by first | (intro h2; exact absurd rfl h2) | omega | decide)) (fun _ => ?_); conv => whnf)
    (refine ⟨_, _, Blk.ld (hp.get (i := 1) rfl) TTok rfl rfl, ?_⟩; conv => whnf)
    (refine ⟨_, _, Blk.ld (hp.get (i := 0) rfl) TTok rfl rfl, ?_⟩; conv => whnf)
    (refine hKq _ _ _ (.refl _) ?_; clear hKq Kq; conv => whnf)
    (refine VSeq.mk fun Kq hKq => ?_; conv => whnf)
    (refine And.intro (fun h => absurd (of_decide_eq_true h) (by first | (intro h2; exact absurd rfl h2) | omega | decide)) (fun _ => ?_); conv => whnf)
    (refine ⟨_, _, Blk.ld (hp.get (i := 1) rfl) TTok rfl rfl, ?_⟩; conv => whnf)
    (refine ⟨_, _, Blk.ld (hp.get (i := 0) rfl) TTok rfl rfl, ?_⟩; conv => whnf)
    (refine hKq _ _ _ (.refl _) ?_; clear hKq Kq; conv => whnf)
    (refine And.intro (fun h => absurd (of_decide_eq_true h) (by first | (intro h2; exact absurd rfl h2) | omega | decide)) (fun _ => ?_); conv => whnf)
    (refine ⟨_, _, Blk.ld (hp.get (i := 1) rfl) TTok rfl rfl, ?_⟩; conv => whnf)
    (refine ⟨_, _, Blk.ld (hp.get (i := 0) rfl) TTok rfl rfl, ?_⟩; conv => whnf)
    (refine hKq _ _ _ (.refl _) ?_; clear hKq Kq; conv => whnf)
    (refine And.intro (fun h => absurd (of_decide_eq_true h) (by first | (intro h2; exact absurd rfl h2) | omega | decide)) (fun _ => ?_); conv => whnf)
    (refine hKq _ _ _ (.refl _) ?_; clear hKq Kq; conv => whnf)
    (refine VSeq.mk fun Kq hKq => ?_; conv => whnf)
    (refine VSeq.mk fun Kq hKq => ?_; conv => whnf)
    (refine hKq _ _ _ (.refl _) ?_; clear hKq Kq; conv => whnf)
    refine ⟨fun mm e w' => ∃ (i : Nat), mm + i = al.length ∧ e = [(2, .v (.pointer (some ⟨q, 0, none⟩))), (3, .v (.pointer (some ⟨q2, 0, none⟩))), (5, .v (.int .i64 i))] ∧ al.take i = bl.take i ∧ HpM [] W w' [blk q2 [.int .i64 c, .int .i64 m, .string id, .slice p2 bl.length cp2] 24, blk q [.int .i64 c, .int .i64 m, .string id, .slice p al.length cp] 24],
      ⟨al.length, _, ⟨0, by omega, rfl, rfl, hp⟩, sub_cons rfl (sub_cons rfl (sub_cons rfl sub_nil))⟩, ?_⟩
    clear hp hx
    repeat clear hp
    rintro mm _ w ⟨i, hmm, rfl, hall, hp⟩
    (refine VSeq.mk fun Kq hKq => ?_; conv => whnf)
    (refine VSeq.mk fun Kq hKq => ?_; conv => whnf)
    (refine ⟨_, _, Blk.ld (hp.get (i := 1) rfl) TTok rfl rfl, ?_⟩; conv => whnf)
    (refine hKq _ _ _ (.refl _) ?_; clear hKq Kq; conv => whnf)
    refine ⟨fun hlt => ?_, fun hlt => ?_⟩
    · have hlt := of_decide_eq_true hlt
      conv => whnf
      refine hKq _ _ _ (.refl _) ?_
      clear hKq Kq
      conv => whnf
      refine VSeq.mk fun Kq hKq => ?_
      conv => whnf
      refine VSeq.mk fun Kq hKq => ?_
      conv => whnf
      obtain ⟨a, hai⟩ : ∃ a, al[i]? = some a := ⟨al[i]'(by omega), List.getElem?_eq_getElem (by omega)⟩
      obtain ⟨b, hbi⟩ : ∃ b, bl[i]? = some b := ⟨bl[i]'(by omega), List.getElem?_eq_getElem (by omega)⟩
      have hA := ha a (List.mem_of_getElem? hai)
      have hB := hb b (List.mem_of_getElem? hbi)
      obtain ⟨g, off, rfl, -⟩ := (hv.ext hp.ext).at hai
      obtain ⟨g2, off2, rfl, -⟩ := (hu.ext hp.ext).at hbi
      have hld : ∀ w1, Ext w w1 → (Instr.loadAt 54 (.pointer (some ⟨g, addM off i 2, none⟩))).run Tryz.prog w1 = .ok (.agg #[.int .i64 a.1, .string a.2]) w1 := fun w1 hx => by
        obtain ⟨_, _, he, hl⟩ := (hv.ext (hp.ext.trans hx)).at hai
        simp only [Option.some.injEq, Addr.mk.injEq] at he
        obtain ⟨rfl, rfl, -⟩ := he
        exact hl
      have hld2 : ∀ w1, Ext w w1 → (Instr.loadAt 54 (.pointer (some ⟨g2, addM off2 i 2, none⟩))).run Tryz.prog w1 = .ok (.agg #[.int .i64 b.1, .string b.2]) w1 := fun w1 hx => by
        obtain ⟨_, _, he, hl⟩ := (hu.ext (hp.ext.trans hx)).at hbi
        simp only [Option.some.injEq, Addr.mk.injEq] at he
        obtain ⟨rfl, rfl, -⟩ := he
        exact hl
      refine v_mixA TTok FFok mixed [(0, false), (1, false), (2, false), (3, false), (4, false), (5, false), (6, false), (7, false), (8, false), (9, false), (10, false)] (by kernel_rfl) ?_
      conv => whnf
      (refine ⟨_, fun w' hx' => Blk.ld (Blk.ext (hp.get (i := 1) rfl) hx') TTok rfl rfl, ?_⟩; conv => whnf)
      (refine ⟨_, ⟨rfl, by omega⟩, ?_⟩; conv => whnf)
      refine ⟨_, hld, ?_⟩
      conv => whnf
      (refine ⟨_, fun w' hx' => Blk.ld (Blk.ext (hp.get (i := 0) rfl) hx') TTok rfl rfl, ?_⟩; conv => whnf)
      (refine ⟨_, ⟨rfl, by omega⟩, ?_⟩; conv => whnf)
      refine ⟨_, hld2, ?_⟩
      conv => whnf
      refine ⟨_, fun w1 _ => (at_eq w1 a b hA hB _ _).2, ?_⟩
      conv => whnf
      (intro w hx; try (have hp := hp.call hx); conv => whnf)
      (refine hKq _ _ _ (.refl _) ?_; clear hKq Kq; conv => whnf)
      refine ⟨fun hq => ?_, fun hq => ?_⟩
      · have hq : ¬ a = b := by simpa using hq
        have hF : sameB c m id al c m id bl = false := sameB_f fun h => hq (by have := h.2.2.2; subst this; rw [hai] at hbi; exact Option.some.inj hbi)
        rw [hF]
        (refine VSeq.mk fun Kq hKq => ?_; conv => whnf)
        (refine hKq _ _ _ (.refl _) ?_; clear hKq Kq; conv => whnf)
        (exact ⟨rfl, hp.ext⟩)
      · have hq : a = b := by simpa using hq
        subst hq
        conv => whnf
        refine hKq _ _ _ (.refl _) ?_
        clear hKq Kq
        conv => whnf
        refine Or.inl (And.intro (by omega) ?_)
        conv => whnf
        refine ⟨mm - 1, _, by omega, ⟨i + 1, by omega, rfl, by rw [List.take_add_one, List.take_add_one, hai, hbi, hall], hp⟩, sub_cons rfl (sub_cons rfl (sub_cons rfl sub_nil))⟩
    · have hlt := of_decide_eq_false hlt
      conv => whnf
      clear hKq Kq
      refine hKq _ _ _ (.refl _) ?_
      clear hKq Kq
      conv => whnf
      refine VSeq.mk fun Kq hKq => ?_
      conv => whnf
      refine hKq _ _ _ (.refl _) ?_
      clear hKq Kq
      conv => whnf
      obtain rfl : i = al.length := by omega
      have hF : al = bl := by
        rw [List.take_of_length_le (Nat.le_refl _), List.take_of_length_le (by omega)] at hall
        exact hall
      rw [sameB_t ⟨rfl, rfl, rfl, hF⟩]
      (exact ⟨rfl, hp.ext⟩)
  · rw [sameB_f fun h => hg ⟨h.1, h.2.1, h.2.2.1, by rw [h.2.2.2]⟩]
    refine v_reads (args := [.agg #[.int .i64 c, .int .i64 m, .string id, .slice p al.length cp], .agg #[.int .i64 c2, .int .i64 m2, .string id2, .slice p2 bl.length cp2]]) TTok FFok Tryz.func21 rfl rfl ?_
    conv => whnf
    refine VSeq.mk fun Kq hKq => ?_
    conv => whnf
    have hp := Hp.nil W
    refine hp.kboxA fun q w hp hx => ?_
    conv => whnf
    refine hp.kboxA fun q2 w hp hx => ?_
    conv => whnf
    refine hKq _ _ _ (.refl _) ?_
    clear hKq Kq
    conv => whnf
    refine VSeq.mk fun Kq hKq => ?_
    conv => whnf
    refine VSeq.mk fun Kq hKq => ?_
    conv => whnf
    refine VSeq.mk fun Kq hKq => ?_
    conv => whnf
    (refine ⟨_, _, Blk.ld (hp.get (i := 1) rfl) TTok rfl rfl, ?_⟩; conv => whnf)
    (refine ⟨_, _, Blk.ld (hp.get (i := 0) rfl) TTok rfl rfl, ?_⟩; conv => whnf)
    (refine hKq _ _ _ (.refl _) ?_; clear hKq Kq; conv => whnf)
    (refine VSeq.mk fun Kq hKq => ?_; conv => whnf)
    (refine ⟨fun hd => ?_, fun hd => ?_⟩ <;> (try simp only [Bool.not_eq_true', Bool.not_eq_false', decide_eq_true_eq, decide_eq_false_iff_not, ne_eq, Classical.not_not] at hd) <;> (conv => whnf))
    (refine hKq _ _ _ (.refl _) ?_; clear hKq Kq; conv => whnf)
    (refine VSeq.mk fun Kq hKq => ?_; conv => whnf)
    (refine hKq _ _ _ (.refl _) ?_; clear hKq Kq; conv => whnf)
    (refine hKq _ _ _ (.refl _) ?_; clear hKq Kq; conv => whnf)
    (refine VSeq.mk fun Kq hKq => ?_; conv => whnf)
    (refine hKq _ _ _ (.refl _) ?_; clear hKq Kq; conv => whnf)
    (exact ⟨rfl, hp.ext⟩)
    (refine ⟨_, _, Blk.ld (hp.get (i := 1) rfl) TTok rfl rfl, ?_⟩; conv => whnf)
    (refine ⟨_, _, Blk.ld (hp.get (i := 0) rfl) TTok rfl rfl, ?_⟩; conv => whnf)
    (refine hKq _ _ _ (.refl _) ?_; clear hKq Kq; conv => whnf)
    (refine VSeq.mk fun Kq hKq => ?_; conv => whnf)
    (refine ⟨fun hd => ?_, fun hd => ?_⟩ <;> (try simp only [Bool.not_eq_true', Bool.not_eq_false', decide_eq_true_eq, decide_eq_false_iff_not, ne_eq, Classical.not_not] at hd) <;> (conv => whnf))
    (refine hKq _ _ _ (.refl _) ?_; clear hKq Kq; conv => whnf)
    (refine hKq _ _ _ (.refl _) ?_; clear hKq Kq; conv => whnf)
    (refine VSeq.mk fun Kq hKq => ?_; conv => whnf)
    (refine hKq _ _ _ (.refl _) ?_; clear hKq Kq; conv => whnf)
    (exact ⟨rfl, hp.ext⟩)
    (refine ⟨_, _, Blk.ld (hp.get (i := 1) rfl) TTok rfl rfl, ?_⟩; conv => whnf)
    (refine ⟨_, _, Blk.ld (hp.get (i := 0) rfl) TTok rfl rfl, ?_⟩; conv => whnf)
    (refine hKq _ _ _ (.refl _) ?_; clear hKq Kq; conv => whnf)
    (refine ⟨fun hd => ?_, fun hd => ?_⟩ <;> (try simp only [Bool.not_eq_true', Bool.not_eq_false', decide_eq_true_eq, decide_eq_false_iff_not, ne_eq, Classical.not_not] at hd) <;> (conv => whnf))
    (refine hKq _ _ _ (.refl _) ?_; clear hKq Kq; conv => whnf)
    (refine VSeq.mk fun Kq hKq => ?_; conv => whnf)
    (refine hKq _ _ _ (.refl _) ?_; clear hKq Kq; conv => whnf)
    (exact ⟨rfl, hp.ext⟩)
    (refine ⟨_, _, Blk.ld (hp.get (i := 1) rfl) TTok rfl rfl, ?_⟩; conv => whnf)
    (refine ⟨_, _, Blk.ld (hp.get (i := 0) rfl) TTok rfl rfl, ?_⟩; conv => whnf)
    (refine hKq _ _ _ (.refl _) ?_; clear hKq Kq; conv => whnf)
    (refine ⟨fun hd => ?_, fun hd => ?_⟩ <;> (try simp only [Bool.not_eq_true', Bool.not_eq_false', decide_eq_true_eq, decide_eq_false_iff_not, ne_eq, Classical.not_not] at hd) <;> (conv => whnf))
    (refine VSeq.mk fun Kq hKq => ?_; conv => whnf)
    (refine hKq _ _ _ (.refl _) ?_; clear hKq Kq; conv => whnf)
    (exact ⟨rfl, hp.ext⟩)
    (refine hKq _ _ _ (.refl _) ?_; clear hKq Kq; conv => whnf)
    (refine VSeq.mk fun Kq hKq => ?_; conv => whnf)
    (refine VSeq.mk fun Kq hKq => ?_; conv => whnf)
    (refine hKq _ _ _ (.refl _) ?_; clear hKq Kq; conv => whnf)
    exact absurd ⟨by assumption, by assumption, by assumption, by omega⟩ hg
set_option maxHeartbeats 6400000
def knL : List Int := [1, 6, 8, 9, 10, 12, 13, 18, 19, 20, 21, 22, 25, 32, 36, 37]
def knV : List Value := knL.map (Value.int .i64)
def kvS (l : List Int) : List (Int × Value) := l.map fun k => (k, .bool true)
theorem kv_find (l : List Int) (k : Int) : (kvS l).find? (fun p => decide (p.1 = k)) = if l.contains k then some (k, .bool true) else none := by
  induction l with
  | nil => rfl
  | cons x l ih =>
    unfold kvS at ih ⊢
    rw [List.map_cons, List.find?_cons]
    by_cases h : x = k
    · subst h
      simp
    · have h2 : ¬ k = x := fun e => h e.symm
      simp only [decide_eq_false h]
      rw [ih]
      simp [List.contains_cons, h2]
theorem kvS_snoc (l : List Int) (k : Int) : kvS l ++ [(k, .bool true)] = kvS (l ++ [k]) := by unfold kvS; rw [List.map_append]; rfl
theorem t_kmap : Tryz.prog.underlying 136 = some (.map 3 4) := by kernel_rfl
theorem t_kint : Tryz.prog.underlying 3 = some (.int .i64) := by kernel_rfl
theorem z_kbool (w : World) : (zeroValue 4).run Tryz.prog w = .ok (.bool false) w := by kernel_rfl
theorem kn_take (i : Nat) (h : i < 16) : ((knL.take i).contains (knL.getD i 0)) = false := by
  have : i = 0 ∨ i = 1 ∨ i = 2 ∨ i = 3 ∨ i = 4 ∨ i = 5 ∨ i = 6 ∨ i = 7 ∨ i = 8 ∨ i = 9 ∨ i = 10 ∨ i = 11 ∨ i = 12 ∨ i = 13 ∨ i = 14 ∨ i = 15 := by omega
  rcases this with rfl | rfl | rfl | rfl | rfl | rfl | rfl | rfl | rfl | rfl | rfl | rfl | rfl | rfl | rfl | rfl <;> rfl
theorem kn_snoc (i : Nat) (h : i < 16) : knL.take i ++ [knL.getD i 0] = knL.take (i + 1) := by
  rw [List.take_add_one, List.getD_eq_getElem?_getD, List.getElem?_eq_getElem (show i < knL.length from h)]; rfl
theorem kn_get (i : Nat) (h : i < 16) : knV[i]? = some (.int .i64 (knL.getD i 0)) := by
  unfold knV
  rw [List.getElem?_map, List.getD_eq_getElem?_getD, List.getElem?_eq_getElem (show i < knL.length from h)]; rfl
theorem known_c {W : World} : Calls Tryz.prog 76 #[] W fun e w' => ∃ u, e = .returned u ∧ ∃ b, u = .map (some b) ∧ HpM [] W w' [mp b (kvS knL)] := by
  refine v_fn (args := []) TTok FFok (f := 76) rfl rfl (Nat.le_of_ble_eq_true rfl) ?_
  conv => whnf
  refine VSeq.mk fun Kq hKq => ?_
  conv => whnf
  refine hKq _ _ _ (.refl _) ?_
  clear hKq Kq
  conv => whnf
  refine VSeq.mk fun Kq hKq => ?_
  conv => whnf
  have hp := Hp.nil W
  refine hp.kmap fun b w1 hp hx => ?_
  conv => whnf
  refine hKq _ _ _ (.refl _) ?_
  clear hKq Kq
  conv => whnf
  refine VSeq.mk fun Kq hKq => ?_
  conv => whnf
  refine VSeq.mk fun Kq hKq => ?_
  conv => whnf
  refine hp.kmade (knV) 3 (fun b => .slice (some ⟨b, 0, none⟩) 16 16) (by kernel_rfl) fun tb w hp hx => ?_
  conv => whnf
  refine hKq _ _ _ (.refl _) ?_
  clear hKq Kq
  conv => whnf
  refine ⟨fun mm e w' => ∃ (i : Nat), mm + i = 16 ∧ e = [(1, .v (.map (some b))), (5, .v (.slice (some ⟨tb, 0, none⟩) 16 16)), (6, .v (.int .i64 16)), (7, .v (.int .i64 i))] ∧ HpM [] W w' [blk tb knV 3, mp b (kvS (knL.take i))],
    ⟨16, _, ⟨0, by omega, rfl, hp⟩, sub_cons rfl (sub_cons rfl (sub_cons rfl (sub_cons rfl sub_nil)))⟩, ?_⟩
  clear hp hx
  repeat clear hp
  rintro mm _ w ⟨i, hmm, rfl, hp⟩
  conv => whnf
  refine VSeq.mk fun Kq hKq => ?_
  conv => whnf
  refine hKq _ _ _ (.refl _) ?_
  clear hKq Kq
  conv => whnf
  refine VSeq.mk fun Kq hKq => ?_
  conv => whnf
  refine ⟨fun hlt => ?_, fun hlt => ?_⟩
  · have hlt := of_decide_eq_true hlt
    conv => whnf
    refine hKq _ _ _ (.refl _) ?_
    clear hKq Kq
    conv => whnf
    refine VSeq.mk fun Kq hKq => ?_
    conv => whnf
    refine VSeq.mk fun Kq hKq => ?_
    conv => whnf
    have hi : i < 16 := by omega
    refine ⟨i, ⟨by first | rfl | omega, by omega⟩, ?_⟩
    conv => whnf
    refine ⟨_, _, Blk.ld (hp.get (i := 0) rfl) TTok rfl (kn_get i hi), ?_⟩
    conv => whnf
    refine hKq _ _ _ (.refl _) ?_
    clear hKq Kq
    conv => whnf
    refine hp.kins t_kmap t_kint 1 rfl (by rw [kv_find, kn_take i hi]; rfl) fun w hp => ?_
    have hp : HpM [] W w [blk tb knV 3, mp b (kvS (knL.take i) ++ [(knL.getD i 0, .bool true)])] := hp
    rw [kvS_snoc, kn_snoc i hi] at hp
    conv => whnf
    refine hKq _ _ _ (.refl _) ?_
    clear hKq Kq
    conv => whnf
    refine Or.inl (And.intro (by omega) ?_)
    conv => whnf
    exact ⟨mm - 1, _, by omega, ⟨i + 1, by omega, rfl, hp⟩, sub_cons rfl (sub_cons rfl (sub_cons rfl (sub_cons rfl sub_nil)))⟩
  · have hlt := of_decide_eq_false hlt
    conv => whnf
    clear hKq Kq
    refine hKq _ _ _ (.refl _) ?_
    clear hKq Kq
    conv => whnf
    refine VSeq.mk fun Kq hKq => ?_
    conv => whnf
    refine hKq _ _ _ (.refl _) ?_
    clear hKq Kq
    conv => whnf
    obtain rfl : i = 16 := by omega
    conv => whnf
    exact ⟨b, rfl, hp.tail⟩
theorem MPs.lookB {w : World} {b : Nat} {l : List Int} (h : MPs w b (kvS l)) (k : Int) : (Instr.lookup 136 (.map (some b)) (.int .i64 k) false).run Tryz.prog w = .ok (.bool (l.contains k)) w := by
  rw [h.look t_kmap t_kint (z_kbool w) k false, kv_find]
  cases l.contains k <;> rfl
/-- the kinds that are told as not known -/
def unC (out : List Int) (k : Int) : Bool := decide (k < 32768) && !((knL ++ out).contains k)
def unS (out : List Int) (a : At2) : List Int := if unC out a.1 = true then out ++ [a.1] else out
def unL (al : List At2) : List Int := al.foldl unS []
theorem unL_snoc (l : List At2) (a : At2) : unL (l ++ [a]) = unS (unL l) a := by unfold unL; rw [List.foldl_append]; rfl
theorem unS_len (out : List Int) (a : At2) : (unS out a).length ≤ out.length + 1 := by unfold unS; split <;> simp
theorem unL_len (l : List At2) : (unL l).length ≤ l.length := by
  suffices h : ∀ (l : List At2) (o : List Int), (l.foldl unS o).length ≤ o.length + l.length by have := h l []; simpa [unL] using this
  intro l
  induction l with
  | nil => intro o; simp
  | cons a l ih => intro o; have := ih (unS o a); have := unS_len o a; rw [List.foldl_cons, List.length_cons]; omega
theorem unL_take {al : List At2} {i : Nat} {a : At2} (h : al[i]? = some a) : unL (al.take (i + 1)) = unS (unL (al.take i)) a := by
  rw [List.take_add_one, h]; exact unL_snoc _ _
theorem Unknown_ok {W : World} {v : Value} {al : List At2} (c m : Int) (id : ByteArray) (hv : SA W v al) (hb : stunB c m id al = true) :
    Calls Tryz.prog 22 #[.agg #[.int .i64 c, .int .i64 m, .string id, v]] W fun e w' => ∃ u, e = .returned u ∧ ∃ v', u = .tuple #[v', .int .i64 0] ∧ HpM [] W w' [row 3 1 v' (unL al).length ((unL al).map (.int .i64))] := by
  obtain ⟨b1, b2, b3, b4, b5, b6, b7, b8⟩ := stunB_t hb
  obtain ⟨p, cp, rfl⟩ := hv.shape
  refine v_fn (args := [.agg #[.int .i64 c, .int .i64 m, .string id, .slice p al.length cp]]) TTok FFok (f := 22) rfl rfl (Nat.le_of_ble_eq_true rfl) ?_
  conv => whnf
  refine VSeq.mk fun Kq hKq => ?_
  conv => whnf
  have hp := Hp.nil W
  have hck := fun (w : World) (hx : Ext W w) => Check_c c m id (hv.ext hx)
  have hN : chkN c m id al = 0 := by unfold chkN; rw [hb]; rfl
  rw [hN] at hck
  refine hp.kboxA fun qs w hp hx => ?_
  conv => whnf
  refine hKq _ _ _ (.refl _) ?_
  clear hKq Kq
  conv => whnf
  refine VSeq.mk fun Kq hKq => ?_
  conv => whnf
  refine VSeq.mk fun Kq hKq => ?_
  conv => whnf
  (refine ⟨_, _, Blk.ldV (vs := [_, _, _, _]) (hp.get (i := 0) rfl) TTok rfl rfl rfl, ?_⟩; conv => whnf)
  refine V.CallsUse (hck _ hp.ext) fun w hx => ?_
  try (have hp := hp.call hx)
  conv => whnf
  refine hKq _ _ _ (.refl _) ?_
  clear hKq Kq
  conv => whnf
  refine VSeq.mk fun Kq hKq => ?_
  conv => whnf
  refine hKq _ _ _ (.refl _) ?_
  clear hKq Kq
  conv => whnf
  clear hck
  (refine And.intro (fun h => absurd (of_decide_eq_true h) (by first | (intro h2; exact absurd rfl h2) | omega | decide)) (fun _ => ?_); conv => whnf)
  (refine hKq _ _ _ (.refl _) ?_; clear hKq Kq; conv => whnf)
  (refine VSeq.mk fun Kq hKq => ?_; conv => whnf)
  refine Calls.mono known_c ?_
  rintro _ w ⟨_, rfl, b, rfl, hk⟩
  refine ⟨_, rfl, ?_⟩
  have hp := hp.join hk
  clear hk
  simp only [List.cons_append, List.nil_append] at hp
  conv => whnf
  have hp := hp.knil 3 1
  (refine hKq _ _ _ (.refl _) ?_; clear hKq Kq; conv => whnf)
  (refine VSeq.mk fun Kq hKq => ?_; conv => whnf)
  (refine hKq _ _ _ (.refl _) ?_; clear hKq Kq; conv => whnf)
  (refine VSeq.mk fun Kq hKq => ?_; conv => whnf)
  (refine VSeq.mk fun Kq hKq => ?_; conv => whnf)
  (refine ⟨_, _, Blk.ld (hp.get (i := 2) rfl) TTok rfl rfl, ?_⟩; conv => whnf)
  (refine hKq _ _ _ (.refl _) ?_; clear hKq Kq; conv => whnf)
  have hp : HpM [] W w [row 3 1 (.slice none 0 0) 0 [], mp b (kvS (knL ++ [])), blk qs [.int .i64 c, .int .i64 m, .string id, .slice p al.length cp] 24] := by rw [List.append_nil]; exact hp
  refine ⟨fun mm e w' => ∃ (i : Nat) (u : Value), mm + i = al.length ∧ e = [(5, .v (.map (some b))), (6, .v u), (16, .v (.slice p al.length cp)), (17, .v (.int .i64 al.length)), (18, .v (.int .i64 i))] ∧ HpM [] W w' [row 3 1 u (unL (al.take i)).length ((unL (al.take i)).map (.int .i64)), mp b (kvS (knL ++ unL (al.take i))), blk qs [.int .i64 c, .int .i64 m, .string id, .slice p al.length cp] 24],
    ⟨al.length, _, ⟨0, _, by omega, rfl, hp⟩, sub_cons rfl (sub_cons rfl (sub_cons rfl (sub_cons rfl (sub_cons rfl sub_nil))))⟩, ?_⟩
  clear hp hx
  repeat clear hp
  rintro mm _ w ⟨i, u, hmm, rfl, hp⟩
  have hol := unL_len (al.take i)
  have htl : (al.take i).length ≤ al.length := by rw [List.length_take]; omega
  conv => whnf
  refine VSeq.mk fun Kq hKq => ?_
  conv => whnf
  refine hKq _ _ _ (.refl _) ?_
  clear hKq Kq
  conv => whnf
  refine VSeq.mk fun Kq hKq => ?_
  conv => whnf
  refine ⟨fun hlt => ?_, fun hlt => ?_⟩
  · have hlt := of_decide_eq_true hlt
    conv => whnf
    refine hKq _ _ _ (.refl _) ?_
    clear hKq Kq
    conv => whnf
    refine VSeq.mk fun Kq hKq => ?_
    conv => whnf
    refine VSeq.mk fun Kq hKq => ?_
    conv => whnf
    obtain ⟨a, ha⟩ : ∃ a, al[i]? = some a := ⟨al[i]'(by omega), List.getElem?_eq_getElem (by omega)⟩
    have hst := unL_take ha
    obtain ⟨g, off, rfl, hld⟩ := (hv.ext hp.ext).at ha
    obtain ⟨k, s⟩ := a
    dsimp only at hld
    generalize unL (al.take i) = out at *
    refine ⟨i, ⟨by first | rfl | omega, by show i < al.length; omega⟩, ?_⟩
    conv => whnf
    refine ⟨_, _, hld, ?_⟩
    conv => whnf
    refine hp.kalloc z54 fun a8 w hp hx => ?_
    conv => whnf
    (refine hp.kstA TTok rfl 0 rfl rfl (oneC_of rfl) (by rfl) fun w hp => ?_; try simp only [List.set_cons_zero, List.set_cons_succ, EV.val] at hp; conv => whnf)
    (refine hKq _ _ _ (.refl _) ?_; clear hKq Kq; conv => whnf)
    (refine VSeq.mk fun Kq hKq => ?_; conv => whnf)
    (refine VSeq.mk fun Kq hKq => ?_; conv => whnf)
    (refine ⟨_, _, Blk.ld (hp.get (i := 0) rfl) TTok rfl rfl, ?_⟩; conv => whnf)
    (refine hKq _ _ _ (.refl _) ?_; clear hKq Kq; conv => whnf)
    by_cases h1 : k < 32768
    · (refine And.intro (fun _ => ?_) (fun h => absurd (by first | rfl | assumption | omega | decide) (of_decide_eq_false h)); conv => whnf)
      (refine ⟨_, _, Blk.ld (hp.get (i := 0) rfl) TTok rfl rfl, ?_⟩; conv => whnf)
      refine ⟨_, _, MPs.lookB (hp.get (i := 2) rfl) k, ?_⟩
      conv => whnf
      refine hKq _ _ _ (.refl _) ?_
      clear hKq Kq
      conv => whnf
      cases hc : (knL ++ out).contains k with
      | true =>
        have hS : unS out (k, s) = out := by unfold unS unC; rw [hc]; simp
        rw [hS] at hst
        (refine And.intro (fun h => absurd h (by decide)) (fun _ => ?_); conv => whnf)
        (refine hKq _ _ _ (.refl _) ?_; clear hKq Kq; conv => whnf)
        (refine Or.inl (And.intro (by first | omega | decide) ?_); conv => whnf)
        refine ⟨mm - 1, _, by omega, ⟨i + 1, _, by omega, rfl, ?_⟩, sub_cons rfl (sub_cons rfl (sub_cons rfl (sub_cons rfl (sub_cons rfl sub_nil))))⟩
        rw [hst]; exact hp.tail
      | false =>
        have hS : unS out (k, s) = out ++ [k] := by unfold unS unC; rw [hc]; simp [h1]
        rw [hS] at hst
        (refine And.intro (fun _ => ?_) (fun h => absurd h (by decide)); conv => whnf)
        (refine VSeq.mk fun Kq hKq => ?_; conv => whnf)
        (refine ⟨_, _, Blk.ld (hp.get (i := 0) rfl) TTok rfl rfl, ?_⟩; conv => whnf)
        (refine hp.kmade _ _ (fun b => .slice (some ⟨b, 0, none⟩) 1 1) (mks48_1_0 _ _) fun q w hp hx => ?_; conv => whnf)
        refine hp.kapp sl48 2 rfl (Blk.src TTok (hp.get (i := 0) rfl) rfl rfl (oneC_of rfl)) (by show (_ + 1) * 8 ≤ _; omega) (by show _ + 1 ≤ _; unfold maxLen; omega) fun u' w hp => ?_
        simp only [List.set_cons_zero, List.set_cons_succ] at hp
        conv => whnf
        refine hKq _ _ _ (.refl _) ?_
        clear hKq Kq
        conv => whnf
        (refine ⟨_, _, Blk.ld (hp.get (i := 1) rfl) TTok rfl rfl, ?_⟩; conv => whnf)
        refine hp.kins t_kmap t_kint 3 rfl (by rw [kv_find, hc]; rfl) fun w hp => ?_
        have hp := hp.pick [2, 3, 4] (by decide)
        simp only [List.filterMap_cons, List.filterMap_nil, List.getElem?_cons_zero, List.getElem?_cons_succ, List.set_cons_zero, List.set_cons_succ] at hp
        have hp : HpM [] W w [row 3 1 u' (out.length + 1) (out.map (.int .i64) ++ [.int .i64 k]), mp b (kvS (knL ++ out) ++ [(k, .bool true)]), blk qs [.int .i64 c, .int .i64 m, .string id, .slice (some ⟨g, off, none⟩) al.length cp] 24] := hp
        rw [kvS_snoc, List.append_assoc] at hp
        conv => whnf
        refine hKq _ _ _ (.refl _) ?_
        clear hKq Kq
        conv => whnf
        refine Or.inl (And.intro (by omega) ?_)
        conv => whnf
        skip
        refine ⟨mm - 1, _, by omega, ⟨i + 1, _, by omega, rfl, ?_⟩, sub_cons rfl (sub_cons rfl (sub_cons rfl (sub_cons rfl (sub_cons rfl sub_nil))))⟩
        rw [hst, List.length_append, List.map_append]; exact hp
    · have hS : unS out (k, s) = out := by unfold unS unC; simp [h1]
      rw [hS] at hst
      (refine And.intro (fun h => absurd (of_decide_eq_true h) (by first | (intro h2; exact absurd rfl h2) | omega | decide)) (fun _ => ?_); conv => whnf)
      (refine hKq _ _ _ (.refl _) ?_; clear hKq Kq; conv => whnf)
      (refine hKq _ _ _ (.refl _) ?_; clear hKq Kq; conv => whnf)
      (refine Or.inl (And.intro (by first | omega | decide) ?_); conv => whnf)
      refine ⟨mm - 1, _, by omega, ⟨i + 1, _, by omega, rfl, ?_⟩, sub_cons rfl (sub_cons rfl (sub_cons rfl (sub_cons rfl (sub_cons rfl sub_nil))))⟩
      rw [hst]; exact hp.tail
  · have hlt := of_decide_eq_false hlt
    conv => whnf
    clear hKq Kq
    refine hKq _ _ _ (.refl _) ?_
    clear hKq Kq
    conv => whnf
    refine VSeq.mk fun Kq hKq => ?_
    conv => whnf
    refine hKq _ _ _ (.refl _) ?_
    clear hKq Kq
    conv => whnf
    obtain rfl : i = al.length := by omega
    rw [List.take_of_length_le (Nat.le_refl _)] at hp
    skip
    exact ⟨_, rfl, hp.sub (List.Sublist.cons_cons _ (List.nil_sublist _))⟩
set_option maxHeartbeats 6400000
theorem ints8_c {W : World} {v u : Value} (xs ys : List Int) (hv : SLv W v (xs.map (.int .i64))) (hu : SLv W u (ys.map (.int .i64))) (hx : xs.length ≤ 100000) (hy : ys.length ≤ 100000) :
    Calls Tryz.prog 23 #[v, u] W fun e w' => e = .returned (.bool (decide (xs = ys))) ∧ Ext W w' := by
  obtain ⟨p, c, rfl⟩ := hv.shape
  obtain ⟨p2, c2, rfl⟩ := hu.shape
  rw [List.length_map] at hv hu ⊢
  rw [List.length_map]
  refine v_reads (args := [.slice p xs.length c, .slice p2 ys.length c2]) TTok FFok Tryz.func23 rfl rfl ?_
  conv => whnf
  refine VSeq.mk fun Kq hKq => ?_
  conv => whnf
  refine hKq _ _ _ (.refl _) ?_
  clear hKq Kq
  conv => whnf
  refine VSeq.mk fun Kq hKq => ?_
  conv => whnf
  refine VSeq.mk fun Kq hKq => ?_
  conv => whnf
  refine hKq _ _ _ (.refl _) ?_
  clear hKq Kq
  conv => whnf
  by_cases hl : xs.length = ys.length
  · (refine And.intro (fun h => absurd (of_decide_eq_true h) (by first | (intro h2; exact absurd rfl h2) | omega | decide)) (fun _ => ?_); conv => whnf)
    (refine hKq _ _ _ (.refl _) ?_; clear hKq Kq; conv => whnf)
    (refine VSeq.mk fun Kq hKq => ?_; conv => whnf)
    (refine VSeq.mk fun Kq hKq => ?_; conv => whnf)
    (refine hKq _ _ _ (.refl _) ?_; clear hKq Kq; conv => whnf)
    refine ⟨fun mm e w' => ∃ (i : Nat), mm + i = xs.length ∧ e = [(0, .v (.slice p xs.length c)), (1, .v (.slice p2 ys.length c2)), (5, .v (.int .i64 i))] ∧ xs.take i = ys.take i ∧ Ext W w',
      ⟨xs.length, _, ⟨0, by omega, rfl, rfl, Ext.refl _⟩, sub_cons rfl (sub_cons rfl (sub_cons rfl sub_nil))⟩, ?_⟩
    rintro mm _ w ⟨i, hmm, rfl, hall, hxw⟩
    conv => whnf
    refine VSeq.mk fun Kq hKq => ?_
    conv => whnf
    refine VSeq.mk fun Kq hKq => ?_
    conv => whnf
    refine hKq _ _ _ (.refl _) ?_
    clear hKq Kq
    conv => whnf
    refine ⟨fun hlt => ?_, fun hlt => ?_⟩
    · have hlt := of_decide_eq_true hlt
      conv => whnf
      refine hKq _ _ _ (.refl _) ?_
      clear hKq Kq
      conv => whnf
      refine VSeq.mk fun Kq hKq => ?_
      conv => whnf
      refine VSeq.mk fun Kq hKq => ?_
      conv => whnf
      obtain ⟨a, ha⟩ : ∃ a, xs[i]? = some a := ⟨xs[i]'(by omega), List.getElem?_eq_getElem (by omega)⟩
      obtain ⟨b, hb⟩ : ∃ b, ys[i]? = some b := ⟨ys[i]'(by omega), List.getElem?_eq_getElem (by omega)⟩
      obtain ⟨g, off, rfl, hld⟩ := (hv.ext hxw).at (j := i) (x := .int .i64 a) (by rw [List.getElem?_map, ha]; rfl)
      obtain ⟨g2, off2, rfl, hld2⟩ := (hu.ext hxw).at (j := i) (x := .int .i64 b) (by rw [List.getElem?_map, hb]; rfl)
      rw [Nat.add_comm] at hld hld2
      refine v_mixA TTok FFok mixed [(0, false), (1, false), (2, false), (3, false), (4, false), (5, false), (6, false), (7, false), (8, false)] (by kernel_rfl) ?_
      conv => whnf
      refine ⟨i, ⟨by first | rfl | omega, by show i < xs.length; omega⟩, ?_⟩
      conv => whnf
      refine ⟨_, fun w' hx' => run_ld TTok rfl (hx'.cell hld), ?_⟩
      conv => whnf
      refine ⟨i, ⟨by first | rfl | omega, by show i < ys.length; omega⟩, ?_⟩
      conv => whnf
      refine ⟨_, fun w' hx' => run_ld TTok rfl (hx'.cell hld2), ?_⟩
      conv => whnf
      intro w hx
      try (have hp := hp.call hx)
      conv => whnf
      refine hKq _ _ _ (.refl _) ?_
      clear hKq Kq
      conv => whnf
      refine ⟨fun hq => ?_, fun hq => ?_⟩
      · have hq : ¬ a = b := by simpa using hq
        have hF : decide (xs = ys) = false := decide_eq_false fun h => hq (by subst h; rw [ha] at hb; exact Option.some.inj hb)
        conv => whnf
        refine VSeq.mk fun Kq hKq => ?_
        conv => whnf
        refine hKq _ _ _ (.refl _) ?_
        clear hKq Kq
        conv => whnf
        exact ⟨by rw [hF]; rfl, hxw.trans hx⟩
      · have hq : a = b := by simpa using hq
        subst hq
        conv => whnf
        refine hKq _ _ _ (.refl _) ?_
        clear hKq Kq
        conv => whnf
        refine Or.inl (And.intro (by omega) ?_)
        conv => whnf
        exact ⟨mm - 1, _, by omega, ⟨i + 1, by omega, rfl, by rw [List.take_add_one, List.take_add_one, ha, hb, hall], hxw.trans hx⟩, sub_cons rfl (sub_cons rfl (sub_cons rfl sub_nil))⟩
    · have hlt := of_decide_eq_false hlt
      conv => whnf
      clear hKq Kq
      refine hKq _ _ _ (.refl _) ?_
      clear hKq Kq
      conv => whnf
      refine VSeq.mk fun Kq hKq => ?_
      conv => whnf
      refine hKq _ _ _ (.refl _) ?_
      clear hKq Kq
      conv => whnf
      obtain rfl : i = xs.length := by omega
      have hF : decide (xs = ys) = true := decide_eq_true (by
        rw [List.take_of_length_le (Nat.le_refl _), List.take_of_length_le (by omega)] at hall
        exact hall)
      conv => whnf
      exact ⟨by rw [hF]; rfl, hxw⟩
  · have hF : decide (xs = ys) = false := decide_eq_false fun h => hl (by rw [h])
    (refine And.intro (fun _ => ?_) (fun h => absurd (by first | rfl | assumption | omega | decide) (of_decide_eq_false h)); conv => whnf)
    (refine VSeq.mk fun Kq hKq => ?_; conv => whnf)
    (refine hKq _ _ _ (.refl _) ?_; clear hKq Kq; conv => whnf)
    exact ⟨by rw [hF]; rfl, Ext.refl _⟩
set_option maxHeartbeats 6400000
def wrI (c m : Nat) (id : ByteArray) (n : Nat) (l : List At2) : ByteArray := ⟨(headL c m id n ++ attrsL l).toArray⟩
theorem wrI_0 (c m : Nat) (id : ByteArray) (n : Nat) : beB 2 (kindN c m) ++ beB 2 n ++ beB 4 554869826 ++ id = wrI c m id n [] := by
  apply ByteArray.ext
  simp [wrI, headL, attrsL, beB]
theorem wrI_app (c m : Nat) (id : ByteArray) (n : Nat) (l : List At2) (k : Nat) (s : ByteArray) : wrI c m id n l ++ beB 2 k ++ beB 2 s.size ++ padB s = wrI c m id n (l ++ [((k : Int), s)]) := by
  apply ByteArray.ext
  simp [wrI, attrsL, attrL, beB]
theorem wrI_size (c m : Nat) (id : ByteArray) (n : Nat) (l : List At2) : (wrI c m id n l).size = 8 + id.size + sizeN l := by
  unfold wrI; rw [bA_size, List.length_append, headL_len, attrsL_len]
theorem written8_c {W : World} {v mv : Value} {al : List At2} (hv : SA W v al) (c m : Nat) (id : ByteArray) (more : Nat) (hmv : ∃ p n cp, mv = .slice p n cp) (hc : c < 4) (hm : m < 4096) (hid : id.size ≤ 100) (hal : ∀ a ∈ al, attrB a = true) (hl : al.length ≤ 100) (hs : sizeN al + more < 65536) :
    Calls Tryz.prog 64 #[.agg #[.int .i64 c, .int .i64 m, .string id, mv], v, .int .i64 more] W fun e w' => e = .returned (.string (wrB c m id al more)) ∧ Ext W w' := by
  obtain ⟨p, cp, rfl⟩ := hv.shape
  obtain ⟨mp, mn, mc, rfl⟩ := hmv
  have hkb := kindN_bd c m
  refine v_reads (args := [.agg #[.int .i64 c, .int .i64 m, .string id, .slice mp mn mc], .slice p al.length cp, .int .i64 more]) TTok FFok Tryz.func64 rfl rfl ?_
  conv => whnf
  refine VSeq.mk fun Kq hKq => ?_
  conv => whnf
  have hp := Hp.nil W
  refine hp.kboxA fun q w hp hx => ?_
  conv => whnf
  refine hKq _ _ _ (.refl _) ?_
  clear hKq Kq
  conv => whnf
  refine VSeq.mk fun Kq hKq => ?_
  conv => whnf
  have e1 := kind8_p c m hc hm
  have e2 := put_p 2 (kindN c m) (by decide) (by omega)
  have e4 := put_p 2 (sizeN al + more) (by decide) (by omega)
  have e5 := put_p 4 554869826 (by decide) (by decide)
  refine v_mixA TTok FFok mixed [(0, false), (1, false), (2, false), (3, false), (4, false), (5, false), (6, false), (7, false), (8, false), (9, false), (10, false), (11, false), (12, false), (13, false), (14, false), (15, false), (16, false), (17, false)] (by kernel_rfl) ?_
  conv => whnf
  refine ⟨_, fun w' hx' => Blk.ld (off := 0) (Blk.ext (hp.get (i := 0) rfl) hx') TTok rfl rfl, ?_⟩
  conv => whnf
  refine ⟨_, fun w' hx' => Blk.ld (off := 1) (Blk.ext (hp.get (i := 0) rfl) hx') TTok rfl rfl, ?_⟩
  conv => whnf
  first | refine PureF.quiet (e1) ?_ | refine PureF.quietE (e1) ?_
  conv => whnf
  first | refine PureF.quiet (e2) ?_ | refine PureF.quietE (e2) ?_
  conv => whnf
  refine ⟨_, fun w1 hx1 => (size8_c (hv.ext (hp.ext.trans hx1)) (by omega) (fun a ha => by have := attrB_t (hal a ha); omega)), ?_⟩
  conv => whnf
  refine Or.inl (And.intro (by omega) ?_)
  conv => whnf
  rw [show ((sizeN al : Nat) : Int) + ((more : Nat) : Int) = ((sizeN al + more : Nat) : Int) by omega]
  first | refine PureF.quiet (e4) ?_ | refine PureF.quietE (e4) ?_
  conv => whnf
  refine And.intro (by simp only [beB_size]; omega) ?_
  conv => whnf
  first | refine PureF.quiet (e5) ?_ | refine PureF.quietE (e5) ?_
  conv => whnf
  refine And.intro (by simp only [ByteArray.size_append, beB_size]; omega) ?_
  conv => whnf
  refine ⟨_, fun w' hx' => Blk.ld (off := 2) (Blk.ext (hp.get (i := 0) rfl) hx') TTok rfl rfl, ?_⟩
  conv => whnf
  refine And.intro (by simp only [ByteArray.size_append, beB_size]; omega) ?_
  conv => whnf
  rw [wrI_0]
  intro w hx
  try (have hp := hp.call hx)
  conv => whnf
  refine hKq _ _ _ (.refl _) ?_
  clear hKq Kq
  conv => whnf
  refine VSeq.mk fun Kq hKq => ?_
  conv => whnf
  refine VSeq.mk fun Kq hKq => ?_
  conv => whnf
  refine hKq _ _ _ (.refl _) ?_
  clear hKq Kq
  conv => whnf
  clear e1 e2 e4 e5
  refine ⟨fun mm e w' => ∃ (i : Nat), mm + i = al.length ∧ e = [(1, .v (.slice p al.length cp)), (7, .v (.string (wrI c m id (sizeN al + more) (al.take i)))), (8, .v (.int .i64 i))] ∧ Ext W w',
    ⟨al.length, _, ⟨0, by omega, rfl, hp.ext⟩, sub_cons rfl (sub_cons rfl (sub_cons rfl sub_nil))⟩, ?_⟩
  clear hp hx
  repeat clear hp
  rintro mm _ w ⟨i, hmm, rfl, hxw⟩
  have hsl := sizeN_tk al i
  have hzi := wrI_size c m id (sizeN al + more) (al.take i)
  conv => whnf
  refine VSeq.mk fun Kq hKq => ?_
  conv => whnf
  refine VSeq.mk fun Kq hKq => ?_
  conv => whnf
  refine hKq _ _ _ (.refl _) ?_
  clear hKq Kq
  conv => whnf
  refine ⟨fun hlt => ?_, fun hlt => ?_⟩
  · have hlt := of_decide_eq_true hlt
    conv => whnf
    refine hKq _ _ _ (.refl _) ?_
    clear hKq Kq
    conv => whnf
    refine VSeq.mk fun Kq hKq => ?_
    conv => whnf
    obtain ⟨a, ha⟩ : ∃ a, al[i]? = some a := ⟨al[i]'(by omega), List.getElem?_eq_getElem (by omega)⟩
    have hab := attrB_t (hal a (List.mem_of_getElem? ha))
    obtain ⟨g, off, rfl, -⟩ := (hv.ext hxw).at ha
    have hl0 := fun (w1 : World) (h1 : Ext w w1) => SA.ld0 (hv.ext (hxw.trans h1)) ha
    have hl1 := fun (w1 : World) (h1 : Ext w w1) => SA.ld1 (hv.ext (hxw.trans h1)) ha
    obtain ⟨k, s⟩ := a
    obtain ⟨k, rfl⟩ : ∃ n : Nat, k = (n : Int) := ⟨k.toNat, (Int.toNat_of_nonneg hab.1).symm⟩
    dsimp only at hl0 hl1 hab
    have e1 := put_p 2 k (by decide) (by omega)
    have e2 := put_p 2 s.size (by decide) (by omega)
    have e3 := pad_p s (by omega)
    have hpz := padB_size s
    refine v_mixA TTok FFok mixed [(0, false), (1, false), (2, false), (3, false), (4, false), (5, false), (6, false), (7, false), (8, false), (9, false), (10, false), (11, false), (12, false), (13, false), (14, false), (15, false), (16, false), (17, false), (18, false), (19, false), (20, false), (21, false), (22, false), (23, false)] (by kernel_rfl) ?_
    conv => whnf
    refine ⟨i, ⟨by first | rfl | omega, by show i < al.length; omega⟩, ?_⟩
    conv => whnf
    refine ⟨_, hl0, ?_⟩
    conv => whnf
    first | refine PureF.quiet (e1) ?_ | refine PureF.quietE (e1) ?_
    conv => whnf
    refine And.intro (by simp only [beB_size]; omega) ?_
    conv => whnf
    refine ⟨i, ⟨by first | rfl | omega, by show i < al.length; omega⟩, ?_⟩
    conv => whnf
    refine ⟨_, hl1, ?_⟩
    conv => whnf
    first | refine PureF.quiet (e2) ?_ | refine PureF.quietE (e2) ?_
    conv => whnf
    refine And.intro (by simp only [ByteArray.size_append, beB_size]; omega) ?_
    conv => whnf
    refine ⟨i, ⟨by first | rfl | omega, by show i < al.length; omega⟩, ?_⟩
    conv => whnf
    refine ⟨_, hl1, ?_⟩
    conv => whnf
    first | refine PureF.quiet (e3) ?_ | refine PureF.quietE (e3) ?_
    conv => whnf
    refine And.intro (by simp only [ByteArray.size_append, beB_size]; omega) ?_
    conv => whnf
    rw [wrI_app]
    intro w hx
    try (have hp := hp.call hx)
    conv => whnf
    refine hKq _ _ _ (.refl _) ?_
    clear hKq Kq
    conv => whnf
    refine Or.inl (And.intro (by omega) ?_)
    conv => whnf
    have htk : al.take (i + 1) = al.take i ++ [((k : Int), s)] := by rw [List.take_add_one, ha]; rfl
    rw [← htk]
    exact ⟨mm - 1, _, by omega, ⟨i + 1, by omega, rfl, hxw.trans hx⟩, sub_cons rfl (sub_cons rfl (sub_cons rfl sub_nil))⟩
  · have hlt := of_decide_eq_false hlt
    conv => whnf
    clear hKq Kq
    refine hKq _ _ _ (.refl _) ?_
    clear hKq Kq
    conv => whnf
    refine VSeq.mk fun Kq hKq => ?_
    conv => whnf
    refine hKq _ _ _ (.refl _) ?_
    clear hKq Kq
    conv => whnf
    obtain rfl : i = al.length := by omega
    rw [List.take_of_length_le (Nat.le_refl _)]
    conv => whnf
    exact ⟨rfl, hxw⟩
theorem encode8_c {W : World} {v : Value} {al : List At2} (c m : Nat) (id : ByteArray) (hv : SA W v al) (hb : stunB c m id al = true) :
    Calls Tryz.prog 15 #[.agg #[.int .i64 c, .int .i64 m, .string id, v]] W fun e w' => e = .returned (.string (wrB c m id al 0)) ∧ Ext W w' := by
  obtain ⟨b1, b2, b3, b4, b5, b6, b7, b8⟩ := stunB_t hb
  obtain ⟨p, cp, rfl⟩ := hv.shape
  refine v_reads (args := [.agg #[.int .i64 c, .int .i64 m, .string id, .slice p al.length cp]]) TTok FFok Tryz.func15 rfl rfl ?_
  conv => whnf
  refine VSeq.mk fun Kq hKq => ?_
  conv => whnf
  have hp := Hp.nil W
  have hw := fun {w : World} (hx : Ext W w) => written8_c (W := w) (hv.ext hx) c m id 0 (mv := .slice p al.length cp) ⟨_, _, _, rfl⟩ (by omega) (by omega) (by omega) b7 (by omega) (by omega)
  refine hp.kboxA fun q w hp hx => ?_
  conv => whnf
  refine hKq _ _ _ (.refl _) ?_
  clear hKq Kq
  conv => whnf
  refine VSeq.mk fun Kq hKq => ?_
  conv => whnf
  (refine ⟨_, _, Blk.ldV (vs := [_, _, _, _]) (hp.get (i := 0) rfl) TTok rfl rfl rfl, ?_⟩; conv => whnf)
  (refine ⟨_, _, Blk.ld (hp.get (i := 0) rfl) TTok rfl rfl, ?_⟩; conv => whnf)
  refine V.CallsUse (hw hp.ext) fun w hx => ?_
  try (have hp := hp.call hx)
  conv => whnf
  refine hKq _ _ _ (.refl _) ?_
  clear hKq Kq
  conv => whnf
  exact ⟨rfl, hp.ext⟩
set_option maxHeartbeats 6400000
def idC : ByteArray := ⟨#[0, 1, 2, 3, 4, 5, 6, 7, 8, 9, 10, 11]⟩
theorem chapter_p : PureF Tryz.prog 55 #[] (.agg #[.int .i64 0, .int .i64 1, .string idC, .slice none 0 0]) := by
  first | refine v_pure TTok FFok Tryz.func55 rfl rfl fun w0 => ?_ | refine v_pure (args := []) TTok FFok Tryz.func55 rfl rfl fun w0 => ?_
  conv => whnf
  refine VSeq.mk fun Kq hKq => ?_
  conv => whnf
  have hp := Hp.nil w0
  (refine hp.kalloc z24 fun al24 w hp hx => ?_; conv => whnf)
  (refine hKq _ _ _ (.refl _) ?_; clear hKq Kq; conv => whnf)
  (refine VSeq.mk fun Kq hKq => ?_; conv => whnf)
  (refine ⟨_, _, bld24_1_2 _ _ _, ?_⟩; conv => whnf)
  (refine hp.kstA TTok rfl 0 rfl rfl (oneC_of rfl) (by rfl) fun w hp => ?_; try simp only [List.set_cons_zero, List.set_cons_succ, EV.val] at hp; conv => whnf)
  (refine hKq _ _ _ (.refl _) ?_; clear hKq Kq; conv => whnf)
  (refine ⟨_, Blk.lvN (hp.get (i := 0) rfl) TTok rfl rfl, ?_⟩; conv => whnf)
  exact ⟨rfl, hp.ext⟩
theorem is_c {M : List Nat} {w0 w : World} {H : List It} (hp : HpM M w0 w H) (s : ByteArray) :
    Calls Tryz.prog 61 #[.string s] w fun e w' => ∃ v, e = .returned v ∧ ∃ b, v = .func (.func 111) #[] #[.pointer (some ⟨b, 0, none⟩)] ∧ HpM M w0 w' (blk b [.string s] 9 :: H) ∧ Ext w w' := by
  refine v_fn (args := [.string s]) TTok FFok (f := 61) rfl rfl (Nat.le_of_ble_eq_true rfl) ?_
  conv => whnf
  refine VSeq.mk fun Kq hKq => ?_
  conv => whnf
  refine hp.kbox [.string s] rfl fun b w1 hp hx1 => ?_
  conv => whnf
  refine hKq _ _ _ (.refl _) ?_
  clear hKq Kq
  conv => whnf
  refine VSeq.mk fun Kq hKq => ?_
  conv => whnf
  refine hKq _ _ _ (.refl _) ?_
  clear hKq Kq
  conv => whnf
  exact ⟨b, rfl, hp, hx1⟩
theorem fails_c {M : List Nat} {w0 w : World} {H : List It} (hp : HpM M w0 w H) (n : Int) :
    Calls Tryz.prog 58 #[.int .i64 n] w fun e w' => ∃ v, e = .returned v ∧ ∃ b, v = .func (.func 109) #[] #[.pointer (some ⟨b, 0, none⟩)] ∧ HpM M w0 w' (blk b [.int .i64 n] 36 :: H) ∧ Ext w w' := by
  refine v_fn (args := [.int .i64 n]) TTok FFok (f := 58) rfl rfl (Nat.le_of_ble_eq_true rfl) ?_
  conv => whnf
  refine VSeq.mk fun Kq hKq => ?_
  conv => whnf
  refine hp.kbox [.int .i64 n] rfl fun b w1 hp hx1 => ?_
  conv => whnf
  refine hKq _ _ _ (.refl _) ?_
  clear hKq Kq
  conv => whnf
  refine VSeq.mk fun Kq hKq => ?_
  conv => whnf
  refine hKq _ _ _ (.refl _) ?_
  clear hKq Kq
  conv => whnf
  exact ⟨b, rfl, hp, hx1⟩
theorem refuses_c {M : List Nat} {w0 w : World} {H : List It} (hp : HpM M w0 w H) (n : Int) :
    Calls Tryz.prog 46 #[.int .i64 n] w fun e w' => ∃ v, e = .returned v ∧ ∃ b, v = .func (.func 98) #[] #[.pointer (some ⟨b, 0, none⟩)] ∧ HpM M w0 w' (blk b [.int .i64 n] 36 :: H) ∧ Ext w w' := by
  refine v_fn (args := [.int .i64 n]) TTok FFok (f := 46) rfl rfl (Nat.le_of_ble_eq_true rfl) ?_
  conv => whnf
  refine VSeq.mk fun Kq hKq => ?_
  conv => whnf
  refine hp.kbox [.int .i64 n] rfl fun b w1 hp hx1 => ?_
  conv => whnf
  refine hKq _ _ _ (.refl _) ?_
  clear hKq Kq
  conv => whnf
  refine VSeq.mk fun Kq hKq => ?_
  conv => whnf
  refine hKq _ _ _ (.refl _) ?_
  clear hKq Kq
  conv => whnf
  exact ⟨b, rfl, hp, hx1⟩
theorem fails_in {w : World} {b : Nat} {n : Int} (hb : Blk w b [.int .i64 n] 36) :
    Calls Tryz.prog 109 #[.string ⟨#[]⟩, .int .i64 n, .pointer (some ⟨b, 0, none⟩)] w fun e w' => e = .returned (.bool true) ∧ Ext w w' := by
  refine v_reads TTok FFok Tryz.func109 rfl rfl ?_
  conv => whnf
  refine VSeq.mk fun Kq hKq => ?_
  conv => whnf
  refine hKq _ _ _ (.refl _) ?_
  clear hKq Kq
  conv => whnf
  refine VSeq.mk fun Kq hKq => ?_
  conv => whnf
  refine VSeq.mk fun Kq hKq => ?_
  conv => whnf
  refine hKq _ _ _ (.refl _) ?_
  clear hKq Kq
  conv => whnf
  refine And.intro (fun _ => ?_) (fun h => absurd (rfl) (of_decide_eq_false h))
  conv => whnf
  refine ⟨_, _, Blk.ld (hb) TTok rfl (rfl), ?_⟩
  conv => whnf
  refine hKq _ _ _ (.refl _) ?_
  clear hKq Kq
  conv => whnf
  refine ⟨?_, Ext.refl _⟩
  exact congrArg Value.bool (decide_eq_true rfl)
theorem is_in {w : World} {b : Nat} {s : ByteArray} (x : ByteArray) (hx : (⟨(hexL x.data.toList).toArray⟩ : ByteArray) = s) (hs : x.size ≤ 100) (hb : Blk w b [.string s] 9) :
    Calls Tryz.prog 111 #[.string x, .int .i64 0, .pointer (some ⟨b, 0, none⟩)] w fun e w' => e = .returned (.bool true) ∧ Ext w w' := by
  have hh := Hex_p x (by omega)
  rw [hx] at hh
  refine v_reads TTok FFok Tryz.func111 rfl rfl ?_
  conv => whnf
  refine VSeq.mk fun Kq hKq => ?_
  conv => whnf
  refine hKq _ _ _ (.refl _) ?_
  clear hKq Kq
  conv => whnf
  refine VSeq.mk fun Kq hKq => ?_
  conv => whnf
  have hp := Hp.nil w
  refine v_mixA TTok FFok mixed [(0, false), (1, false), (2, false), (3, false), (4, false), (5, false), (6, false), (7, false), (8, false)] (by kernel_rfl) ?_
  conv => whnf
  refine And.intro (fun _ => ?_) (fun h => absurd (rfl) (of_decide_eq_false h))
  conv => whnf
  first | refine PureF.quiet (hh) ?_ | refine PureF.quietE (hh) ?_
  conv => whnf
  refine ⟨_, fun w' hx' => Blk.ld (Blk.ext (hb) hx') TTok rfl (rfl), ?_⟩
  conv => whnf
  intro w hx
  try (have hp := hp.call hx)
  conv => whnf
  refine hKq _ _ _ (.refl _) ?_
  clear hKq Kq
  conv => whnf
  refine ⟨?_, hp.ext⟩
  exact congrArg Value.bool (decide_eq_true rfl)
theorem SA.nil8 {w : World} : SA w (.slice none 0 0) [] := .inl ⟨rfl, rfl⟩
theorem refuses_in {W : World} {b : Nat} {n : Int} (hb : Blk W b [.int .i64 n] 36) :
    Calls Tryz.prog 98 #[zStun, .int .i64 n, .pointer (some ⟨b, 0, none⟩)] W fun e w' => e = .returned (.bool true) ∧ Ext W w' := by
  have hs := fun (w : World) => Same8_c (W := w) 0 0 ⟨#[]⟩ 0 0 ⟨#[]⟩ SA.nil8 SA.nil8 (fun a ha => by cases ha) (fun a ha => by cases ha)
  rw [sameB_t ⟨rfl, rfl, rfl, rfl⟩] at hs
  refine v_reads TTok FFok Tryz.func98 rfl rfl ?_
  conv => whnf
  refine VSeq.mk fun Kq hKq => ?_
  conv => whnf
  have hp := Hp.nil W
  refine hp.kboxA fun q w hp hx => ?_
  conv => whnf
  refine hKq _ _ _ (.refl _) ?_
  clear hKq Kq
  conv => whnf
  refine VSeq.mk fun Kq hKq => ?_
  conv => whnf
  refine VSeq.mk fun Kq hKq => ?_
  conv => whnf
  refine ⟨_, _, Blk.ld (hb.ext hp.ext) TTok rfl (rfl), ?_⟩
  conv => whnf
  refine hKq _ _ _ (.refl _) ?_
  clear hKq Kq
  conv => whnf
  refine And.intro (fun _ => ?_) (fun h => absurd (rfl) (of_decide_eq_false h))
  conv => whnf
  (refine ⟨_, _, Blk.ldV (vs := [_, _, _, _]) (hp.get (i := 0) rfl) TTok rfl rfl rfl, ?_⟩; conv => whnf)
  (refine ⟨_, _, bld24_ _, ?_⟩; conv => whnf)
  refine V.CallsUse (hs _) fun w hx => ?_
  try (have hp := hp.call hx)
  conv => whnf
  refine hKq _ _ _ (.refl _) ?_
  clear hKq Kq
  conv => whnf
  exact ⟨rfl, hp.ext⟩
theorem with8_c {W : World} {v u : Value} {al bl : List At2} (c m : Int) (id : ByteArray) (hv : SA W v al) (hu : SA W u bl) (hl : al.length ≤ 100000) (hk : bl.length ≤ 100000) :
    Calls Tryz.prog 47 #[.agg #[.int .i64 c, .int .i64 m, .string id, v], u] W fun e w' => ∃ r, e = .returned r ∧ ∃ v', r = .agg #[.int .i64 c, .int .i64 m, .string id, v'] ∧ HpM [] W w' [row 54 2 v' (al ++ bl).length (flatC (al ++ bl))] := by
  obtain ⟨p, cp, rfl⟩ := hv.shape
  obtain ⟨p2, cp2, rfl⟩ := hu.shape
  refine v_fn (args := [.agg #[.int .i64 c, .int .i64 m, .string id, .slice p al.length cp], .slice p2 bl.length cp2]) TTok FFok Tryz.func47 rfl (Nat.le_of_ble_eq_true rfl) ?_
  conv => whnf
  refine VSeq.mk fun Kq hKq => ?_
  conv => whnf
  have hp := Hp.nil W
  refine hp.kboxA fun q w hp hx => ?_
  conv => whnf
  refine hp.kalloc z24 fun q4 w hp hx => ?_
  conv => whnf
  refine hKq _ _ _ (.refl _) ?_
  clear hKq Kq
  conv => whnf
  refine VSeq.mk fun Kq hKq => ?_
  conv => whnf
  refine hp.kmadeR [] 54 2 0 rfl (by decide) (by kernel_rfl) fun b w hp hx => ?_
  conv => whnf
  refine ⟨_, _, Blk.ld (hp.get (i := 2) rfl) TTok rfl (rfl), ?_⟩
  conv => whnf
  refine hp.kappE sl22 ((hv.ext hp.ext).src) (by omega) (by unfold maxLen; omega) fun v' w hp hx => ?_
  rw [Nat.zero_add, List.nil_append] at hp
  obtain ⟨p1, c1, rfl⟩ := row_shape (hp.get (i := 0) rfl)
  conv => whnf
  refine hp.kapp sl22 0 rfl ((hu.ext hp.ext).src) (by omega) (by unfold maxLen; omega) fun v2 w hp => ?_
  simp only [List.set_cons_zero, List.set_cons_succ] at hp
  rw [← flatC_app, ← List.length_append] at hp
  obtain ⟨p1, c1, rfl⟩ := row_shape (hp.get (i := 0) rfl)
  conv => whnf
  (refine hp.kst1 TTok (by rfl) 2 (by rfl) (by rfl) (by rfl) (Nat.le_of_ble_eq_true rfl) fun w hp => ?_; try simp only [List.set_cons_zero, List.set_cons_succ, EV.val] at hp; conv => whnf)
  (refine hKq _ _ _ (.refl _) ?_; clear hKq Kq; conv => whnf)
  (refine VSeq.mk fun Kq hKq => ?_; conv => whnf)
  (refine ⟨_, _, Blk.ldV (vs := [_, _, _, _]) (hp.get (i := 2) rfl) TTok rfl rfl rfl, ?_⟩; conv => whnf)
  (refine hp.kstA TTok rfl 1 rfl rfl (oneC_of rfl) (by rfl) fun w hp => ?_; try simp only [List.set_cons_zero, List.set_cons_succ, EV.val] at hp; conv => whnf)
  (refine hKq _ _ _ (.refl _) ?_; clear hKq Kq; conv => whnf)
  (refine ⟨_, Blk.lvN (hp.get (i := 1) rfl) TTok rfl rfl, ?_⟩; conv => whnf)
  exact ⟨_, rfl, hp.sub (List.Sublist.cons_cons _ (List.nil_sublist _))⟩
end Go.Proofs.YtmlmfmdmomegpaaGreatDoor
