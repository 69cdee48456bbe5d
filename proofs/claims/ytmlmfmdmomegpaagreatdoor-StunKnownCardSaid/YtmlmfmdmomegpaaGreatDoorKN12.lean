/- Chapter 06: More, Crc, matrices. -/
/- Chapter 08: fingerprints. -/
/- Chapter 08: a message is marked. -/
/- Chapter 08: Marked. -/
/- Chapter 08: ReadReason. -/
/- Chapter 08: octets are read from a reader. -/
/- Chapter 08: octets are read from a reader: Uint and Take. -/
import Derived.Test.YtmlmfmdmomegpaaGreatDoorKN11
import Derived.Test.YtmlmfmdmomegpaaGreatDoorKN09
namespace Go.Proofs.YtmlmfmdmomegpaaGreatDoor
set_option linter.unusedSimpArgs false
set_option linter.unusedVariables false
set_option maxRecDepth 100000
open Go.RowKit V
set_option maxHeartbeats 1600000

theorem okc_nat (c : Nat) (h : c < 4294967296) : okc c = true := by simp [okc]; omega
theorem absorb_snoc (C r : Nat) (s : List UInt8) (b : UInt8) : absorb C r (s ++ [b]) = stepn C 8 (absorb C r s ^^^ b.toNat) := by simp [absorb]
theorem PMore_ok (k c : Nat) (s : ByteArray) (hk : Kd k) (hc : c < 4294967296) (hl : s.size ≤ 4096) : PureF Tryz.prog 96 #[.int .i64 k, .int .i64 c, .string s] (.tuple #[.int .i64 (crcL k c s.data.toList : Nat), .int .i64 0]) := by
  have hT := table_p k hk
  have hC := crcC_lt k
  have hcr : crcL k c s.data.toList = 4294967295 - absorb (crcC k) (4294967295 - c) s.data.toList := rfl
  generalize crcC k = C at hT hC hcr
  generalize crcL k c s.data.toList = res at hcr ⊢
  first | refine v_pure TTok FFok Tryz.func96 rfl rfl fun w0 => ?_ | refine v_pure (args := []) TTok FFok Tryz.func96 rfl rfl fun w0 => ?_
  conv => whnf
  refine VSeq.mk fun Kq hKq => ?_
  conv => whnf
  refine hKq _ _ _ (.refl _) ?_
  clear hKq Kq
  conv => whnf
  refine VSeq.mk fun Kq hKq => ?_
  conv => whnf
  refine VSeq.mk fun Kq hKq => ?_
  conv => whnf
  have hp := Hp.nil w0
  refine hp.kmade (zw [(c : Int)]) 3 (fun b => .slice (some ⟨b, 0, none⟩) 1 1) (by kernel_rfl) fun tb w hp hx => ?_
  conv => whnf
  refine V.CallsUse (right_c k [(c : Int)] (hp.get (i := 0) rfl) (by simp)) fun w hx => ?_
  try (have hp := hp.call hx)
  conv => whnf
  refine hKq _ _ _ (.refl _) ?_
  clear hKq Kq
  conv => whnf
  rw [show (([(c : Int)] : List Int).all okc && decide ((k : Int) = 1 ∨ (k : Int) = 2)) = true by simp [okc_nat c hc]; exact hk]
  refine And.intro (fun h => by cases h) (fun _ => ?_)
  conv => whnf
  refine VSeq.mk fun Kq hKq => ?_
  conv => whnf
  refine hKq _ _ _ (.refl _) ?_
  clear hKq Kq
  conv => whnf
  refine And.intro (fun h => absurd (of_decide_eq_true h) ((by omega))) (fun _ => ?_)
  conv => whnf
  refine hKq _ _ _ (.refl _) ?_
  clear hKq Kq
  conv => whnf
  refine VSeq.mk fun Kq hKq => ?_
  conv => whnf
  refine PureF.use (hT) fun w hx => ?_
  try (have hp := hp.call hx)
  conv => whnf
  refine hp.kalloc z201 fun o w hp hx => ?_
  conv => whnf
  refine hp.kstA TTok rfl 0 rfl (by rw [kw_len, tabL_len]) (kw_one _ _) (List.length_replicate) fun w hp => ?_
  try simp only [List.set_cons_zero, List.set_cons_succ, EV.val] at hp
  conv => whnf
  refine hKq _ _ _ (.refl _) ?_
  clear hKq Kq
  conv => whnf
  refine VSeq.mk fun Kq hKq => ?_
  conv => whnf
  refine And.intro (by omega) ?_
  conv => whnf
  refine hKq _ _ _ (.refl _) ?_
  clear hKq Kq
  conv => whnf
  refine VSeq.mk fun Kq hKq => ?_
  conv => whnf
  refine VSeq.mk fun Kq hKq => ?_
  conv => whnf
  refine hKq _ _ _ (.refl _) ?_
  clear hKq Kq
  conv => whnf
  refine ⟨fun m l w => ∃ j : Nat, m + j = s.size ∧ l = [(2, .v (.string s)), (8, .v (.pointer (some ⟨o, 0, none⟩))), (9, .v (.int .u32 (absorb C (4294967295 - c) (s.data.toList.take j) : Nat))), (27, .v (.int .i64 s.size)), (28, .v (.int .i64 j))] ∧
      Hp w0 w [blk o (kw .u32 (tabL C)) 201],
    ⟨s.size, _, ⟨0, by omega, rfl, hp.sub (by simp)⟩, sub_cons rfl (sub_cons rfl (sub_cons (look_int rfl (by show _ = (((4294967295 - c : Nat)) : Int); omega)) (sub_cons rfl (sub_cons rfl sub_nil))))⟩, ?_⟩
  clear hp hx
  repeat clear hp
  rintro m _ w ⟨j, hm, rfl, hp⟩
  have hx := absorb_lt hC (s.data.toList.take j) (show 4294967295 - c < 4294967296 by omega)
  conv => whnf
  refine VSeq.mk fun Kq hKq => ?_
  conv => whnf
  refine hKq _ _ _ (.refl _) ?_
  clear hKq Kq
  conv => whnf
  refine VSeq.mk fun Kq hKq => ?_
  conv => whnf
  refine ⟨fun hlt => ?_, fun hlt => ?_⟩
  · have hlt := of_decide_eq_true hlt
    conv => whnf
    refine hKq _ _ _ (.refl _) ?_
    clear hKq Kq
    conv => whnf
    refine VSeq.mk fun Kq hKq => ?_
    conv => whnf
    refine VSeq.mk fun Kq hKq => ?_
    conv => whnf
    refine hKq _ _ _ (.refl _) ?_
    clear hKq Kq
    conv => whnf
    have hj : j < s.size := by omega
    have hjl : j < s.data.toList.length := by rw [toList_len]; exact hj
    have hS := byt_at s j hjl
    have hX := s.data.toList[j].toNat_lt
    have hnx : absorb C (4294967295 - c) (s.data.toList.take (j + 1)) = stepn C 8 (absorb C (4294967295 - c) (s.data.toList.take j) ^^^ s.data.toList[j].toNat) := by
      rw [take_snoc (by rw [List.getElem?_eq_getElem hjl]), absorb_snoc]
    have h8 := step8 C (absorb C (4294967295 - c) (s.data.toList.take j)) s.data.toList[j].toNat hX
    generalize absorb C (4294967295 - c) (s.data.toList.take j) = x at *
    generalize s.data.toList[j] = b at *
    have hix : (x % 256) ^^^ b.toNat < 256 := Nat.xor_lt_two_pow (n := 8) (Nat.mod_lt _ (by omega)) hX
    have hg : (kw .u32 (tabL C))[(x % 256) ^^^ b.toNat]? = some (.int .u32 (stepn C 8 ((x % 256) ^^^ b.toNat) : Nat)) := kw_get (tabL_get C _ hix)
    have hst := stepn_lt hC 8 (show (x % 256) ^^^ b.toNat < 4294967296 by omega)
    refine ⟨8, ⟨by first | rfl | omega, by omega⟩, ?_⟩
    conv => whnf
    refine ⟨j, ⟨by first | rfl | omega, by omega⟩, ?_⟩
    conv => whnf
    rw [hS]
    refine ⟨x % 256, b.toNat, (x % 256) ^^^ b.toNat, ⟨by first | rfl | omega, by first | rfl | omega, by omega, by omega⟩, rfl, ?_⟩
    conv => whnf
    refine ⟨(x % 256) ^^^ b.toNat, ⟨by first | rfl | omega, by omega⟩, ?_⟩
    conv => whnf
    refine ⟨_, _, Blk.ld (hp.get (i := 0) rfl) TTok rfl (hg), ?_⟩
    conv => whnf
    refine ⟨x / 256, stepn C 8 ((x % 256) ^^^ b.toNat), x / 256 ^^^ stepn C 8 ((x % 256) ^^^ b.toNat), ⟨by first | rfl | omega, by first | rfl | omega, by omega, by omega⟩, rfl, ?_⟩
    conv => whnf
    refine hKq _ _ _ (.refl _) ?_
    clear hKq Kq
    conv => whnf
    refine Or.inl (And.intro (by omega) ?_)
    conv => whnf
    exact ⟨m - 1, _, by omega, ⟨j + 1, by omega, rfl, hp⟩, sub_cons rfl (sub_cons rfl (sub_cons (look_int rfl (by rw [hnx, h8])) (sub_cons rfl (sub_cons rfl sub_nil))))⟩
  · have hlt := of_decide_eq_false hlt
    conv => whnf
    clear hKq Kq
    refine hKq _ _ _ (.refl _) ?_
    clear hKq Kq
    conv => whnf
    refine VSeq.mk fun Kq hKq => ?_
    conv => whnf
    refine And.intro (by omega) ?_
    conv => whnf
    refine Or.inl (And.intro (by omega) ?_)
    conv => whnf
    refine hKq _ _ _ (.refl _) ?_
    clear hKq Kq
    conv => whnf
    obtain rfl : j = s.size := by omega
    rw [List.take_of_length_le (by simp)] at hx
    rw [List.take_of_length_le (by simp)]
    have e : ((4294967295 : Nat) : Int) - (absorb C (4294967295 - c) s.data.toList : Nat) = (res : Nat) := by omega
    exact ⟨by rw [← e]; rfl, hp.ext⟩
theorem Crc_ok (k : Nat) (s : ByteArray) (hk : Kd k) (hl : s.size ≤ 4096) : PureF Tryz.prog 44 #[.int .i64 k, .string s] (.tuple #[.int .i64 (crcL k 0 s.data.toList : Nat), .int .i64 0]) := by
  first | refine v_pure TTok FFok Tryz.func44 rfl rfl fun w0 => ?_ | refine v_pure (args := []) TTok FFok Tryz.func44 rfl rfl fun w0 => ?_
  conv => whnf
  refine VSeq.mk fun Kq hKq => ?_
  conv => whnf
  refine hKq _ _ _ (.refl _) ?_
  clear hKq Kq
  conv => whnf
  refine VSeq.mk fun Kq hKq => ?_
  conv => whnf
  refine PureF.use (PMore_ok k 0 s hk (by decide) hl) fun w hx => ?_
  try (have hp := hp.call hx)
  conv => whnf
  refine hKq _ _ _ (.refl _) ?_
  clear hKq Kq
  conv => whnf
  exact ⟨rfl, hx⟩
set_option maxHeartbeats 3200000
def fpN (s : ByteArray) : Nat := crcL 1 0 s.data.toList ^^^ 1398035790
def fpB (s : ByteArray) : ByteArray := beB 4 (fpN s)
theorem fpN_lt (s : ByteArray) : fpN s < 4294967296 := by
  unfold fpN
  exact Nat.xor_lt_two_pow (n := 32) (crcL_lt 1 0 _) (by decide)
theorem fingerprint_c {W : World} {v mv : Value} {al : List At2} (hv : SA W v al) (c m : Nat) (id : ByteArray) (hmv : ∃ p n cp, mv = .slice p n cp) (hc : c < 4) (hm : m < 4096) (hid : id.size = 12) (hal : ∀ a ∈ al, attrB a = true) (hl : al.length ≤ 100) (hs : 20 + sizeN al ≤ 1200) :
    Calls Tryz.prog 92 #[.agg #[.int .i64 c, .int .i64 m, .string id, mv], v] W fun e w' => e = .returned (.string (fpB (wrB c m id al 8))) ∧ Ext W w' := by
  have hz := wrB_size c m id al 8
  have hM := Crc_ok 1 (wrB c m id al 8) (.inl rfl) (by omega)
  have hP := Put_ok 4 (fpN (wrB c m id al 8)) (by decide) (by decide) (fpN_lt _)
  have hF : fpB (wrB c m id al 8) = beB 4 (fpN (wrB c m id al 8)) := rfl
  have hX : fpN (wrB c m id al 8) = crcL 1 0 (wrB c m id al 8).data.toList ^^^ 1398035790 := rfl
  have hlt := crcL_lt 1 0 (wrB c m id al 8).data.toList
  obtain ⟨p, cp, rfl⟩ := hv.shape
  obtain ⟨mp, mn, mc, rfl⟩ := hmv
  refine v_reads (args := [.agg #[.int .i64 c, .int .i64 m, .string id, .slice mp mn mc], .slice p al.length cp]) TTok FFok Tryz.func92 rfl rfl ?_
  conv => whnf
  refine VSeq.mk fun Kq hKq => ?_
  conv => whnf
  have hp := Hp.nil W
  (refine hp.kboxA fun q w hp hx => ?_; conv => whnf)
  (refine hKq _ _ _ (.refl _) ?_; clear hKq Kq; conv => whnf)
  (refine VSeq.mk fun Kq hKq => ?_; conv => whnf)
  (refine ⟨_, _, Blk.ldV (vs := [_, _, _, _]) (hp.get (i := 0) rfl) TTok rfl rfl rfl, ?_⟩; conv => whnf)
  refine V.CallsUse (written_c (W := w) (hv.ext hp.ext) c m id 8 ⟨_, _, _, rfl⟩ hc hm (by omega) hal hl (by omega)) fun w hx => ?_
  try (have hp := hp.call hx)
  conv => whnf
  obtain ⟨s, hse⟩ : ∃ s, wrB c m id al 8 = s := ⟨_, rfl⟩
  rw [hse] at hM hP hF hX hlt ⊢
  generalize crcL 1 0 s.data.toList = x at hM hX hlt
  (refine V.CallW.out ?_; (conv => arg 3; dsimp only [EV.val, List.toList_toArray, List.nil_append, List.append_nil, List.cons_append]); refine V.PureF.useW (hM) fun w hx => ?_; try (have hp := hp.call hx); conv => whnf)
  (refine hKq _ _ _ (.refl _) ?_; clear hKq Kq; conv => whnf)
  (refine VSeq.mk fun Kq hKq => ?_; conv => whnf)
  refine ⟨x, 1398035790, x ^^^ 1398035790, ⟨by first | rfl | omega, by first | rfl | omega, by omega, by omega⟩, rfl, ?_⟩
  conv => whnf
  rw [← hX]
  (refine V.CallW.out ?_; (conv => arg 3; dsimp only [EV.val, List.toList_toArray, List.nil_append, List.append_nil, List.cons_append]); refine V.PureF.useW (hP) fun w hx => ?_; try (have hp := hp.call hx); conv => whnf)
  (refine hKq _ _ _ (.refl _) ?_; clear hKq Kq; conv => whnf)
  (refine VSeq.mk fun Kq hKq => ?_; conv => whnf)
  (refine hKq _ _ _ (.refl _) ?_; clear hKq Kq; conv => whnf)
  (exact ⟨by (first | (rw [hse, hF]; rfl) | fail), hp.ext⟩)
set_option maxHeartbeats 3200000
theorem Mark_full {W : World} {v : Value} {al : List At2} (c m : Nat) (id : ByteArray) (hv : SA W v al) (hb : stunB c m id al = true) (h9 : hasB 32808 al = false) (hb2 : stunB c m id (al ++ [(32808, fpB (wrB c m id al 8))]) = false) :
    Calls Tryz.prog 40 #[.agg #[.int .i64 c, .int .i64 m, .string id, v]] W fun e w' => ∃ u, e = .returned u ∧ u = .tuple #[zStun, .int .i64 3] ∧ Ext W w' := by
  obtain ⟨b1, b2, b3, b4, b5, b6, b7, b8⟩ := stunB_t hb
  have hN : chkN c m id al = 0 := by unfold chkN; rw [hb]; rfl
  obtain ⟨p, cp, rfl⟩ := hv.shape
  refine v_fn (args := [.agg #[.int .i64 c, .int .i64 m, .string id, .slice p al.length cp]]) TTok FFok Tryz.func40 rfl (Nat.le_of_ble_eq_true rfl) ?_
  have hp := Hp.nil W
  conv => whnf
  refine VSeq.mk fun Kq hKq => ?_
  conv => whnf
  (refine hp.kboxA fun q w hp hx => ?_; conv => whnf)
  (refine hp.kalloc z24 fun al24 w hp hx => ?_; conv => whnf)
  (refine hKq _ _ _ (.refl _) ?_; clear hKq Kq; conv => whnf)
  (refine VSeq.mk fun Kq hKq => ?_; conv => whnf)
  (refine VSeq.mk fun Kq hKq => ?_; conv => whnf)
  (refine ⟨_, _, Blk.ldV (vs := [_, _, _, _]) (hp.get (i := 1) rfl) TTok rfl rfl rfl, ?_⟩; conv => whnf)
  have hck := Check_c (W := w) c m id (hv.ext hp.ext)
  rw [hN] at hck
  (refine V.CallW.out ?_; (conv => arg 3; dsimp only [EV.val, List.toList_toArray, List.nil_append, List.append_nil, List.cons_append]); (with_reducible refine V.CallsUseW (hck) fun w hx => ?_); try (have hp := hp.call hx); conv => whnf)
  (refine hKq _ _ _ (.refl _) ?_; clear hKq Kq; conv => whnf)
  (refine VSeq.mk fun Kq hKq => ?_; conv => whnf)
  (refine hKq _ _ _ (.refl _) ?_; clear hKq Kq; conv => whnf)
  (refine And.intro (fun h => absurd (of_decide_eq_true h) (by first | (intro h2; exact absurd rfl h2) | omega | decide)) (fun _ => ?_); conv => whnf)
  (refine VSeq.mk fun Kq hKq => ?_; conv => whnf)
  (refine ⟨_, _, Blk.ldV (vs := [_, _, _, _]) (hp.get (i := 1) rfl) TTok rfl rfl rfl, ?_⟩; conv => whnf)
  have hq := has_c (W := w) c m id 32808 (hv.ext hp.ext)
  rw [h9] at hq
  (refine V.CallW.out ?_; (conv => arg 3; dsimp only [EV.val, List.toList_toArray, List.nil_append, List.append_nil, List.cons_append]); refine V.CallsUseW (hq) fun w hx => ?_; try (have hp := hp.call hx); conv => whnf)
  (refine hKq _ _ _ (.refl _) ?_; clear hKq Kq; conv => whnf)
  (refine And.intro (fun h => absurd h (by decide)) (fun _ => ?_); conv => whnf)
  (refine hKq _ _ _ (.refl _) ?_; clear hKq Kq; conv => whnf)
  (refine VSeq.mk fun Kq hKq => ?_; conv => whnf)
  refine v_mix TTok FFok mixed 9 [(0, false), (1, false), (2, false), (3, false), (4, true), (5, false), (6, true), (7, false), (8, false)] (by kernel_rfl) ?_
  conv => whnf
  refine ⟨_, fun w' hx' => Blk.ldN (Blk.ext (hp.get (i := 1) rfl) hx') TTok rfl (rfl), ?_⟩
  conv => whnf
  refine ⟨_, fun w' hx' => Blk.ldN (Blk.ext (hp.get (i := 1) rfl) hx') TTok rfl (rfl), ?_⟩
  conv => whnf
  refine ⟨_, fun w' hx' => Blk.ld (Blk.ext (hp.get (i := 1) rfl) hx') TTok rfl (rfl), ?_⟩
  conv => whnf
  intro w hx
  try (have hp := hp.call hx)
  conv => whnf
  refine V.CallsUse (fingerprint_c (W := w) (hv.ext hp.ext) c m id ⟨_, _, _, rfl⟩ (by omega) (by omega) b5 b7 (by omega) b8) fun w hx => ?_
  have hp := hp.call hx
  conv => whnf
  refine And.intro hx ?_
  conv => whnf
  refine ⟨_, fun w' _ => bld54_0_1 w' _ _, ?_⟩
  conv => whnf
  intro w hx
  try (have hp := hp.call hx)
  conv => whnf
  refine Calls.mono (with_f (W := w) c m id 32808 (fpB (wrB c m id al 8)) (hv.ext hp.ext) (by omega) hb2) ?_
  rintro _ w ⟨u, rfl, rfl, hx⟩
  refine ⟨_, rfl, ?_⟩
  have hp := hp.call hx
  conv => whnf
  refine And.intro hx ?_
  conv => whnf
  intro w hx
  try (have hp := hp.call hx)
  conv => whnf
  (refine hp.kstA TTok rfl 0 rfl rfl (oneC_of rfl) (by rfl) fun w hp => ?_; try simp only [List.set_cons_zero, List.set_cons_succ, EV.val] at hp; conv => whnf)
  (refine hKq _ _ _ (.refl _) ?_; clear hKq Kq; conv => whnf)
  (refine ⟨_, Blk.lvN (hp.get (i := 0) rfl) TTok rfl rfl, ?_⟩; conv => whnf)
  exact ⟨rfl, hp.ext⟩
set_option maxHeartbeats 3200000
theorem SA.ld0 {w : World} {g off n c : Nat} {al : List At2} (h : SA w (.slice (some ⟨g, off, none⟩) n c) al) {j : Nat} {a : At2} (hj : al[j]? = some a) :
    (Instr.loadAt 3 (.pointer (some ⟨g, addM off j 2, none⟩))).run Tryz.prog w = .ok (.int .i64 a.1) w := by
  have hm : (al.map atC)[j]? = some (atC a) := by rw [List.getElem?_map, hj]; rfl
  rcases h with ⟨hv, h⟩ | ⟨_, _, hv, h⟩ | ⟨g, off, c, hv, _, _, h3⟩
  · rw [h] at hm; simp at hm
  · rw [h] at hm; simp at hm
  · simp only [Value.slice.injEq, Option.some.injEq, Addr.mk.injEq] at hv
    obtain ⟨⟨rfl, rfl, -⟩, -⟩ := hv
    have := (h3 j _ hm).2 0 (.int .i64 a.1) rfl
    refine run_ld TTok rfl ?_
    rw [addM_eq]
    exact this
def markC (c m : Int) (id : ByteArray) (al : List At2) : Nat :=
  if stunB c m id al = true then (match al[al.length - 1]? with
    | none => 4
    | some a => if a.1 ≠ 32808 then 4 else if a.2 = fpB (wrB c.toNat m.toNat id (al.take (al.length - 1)) 8) then 0 else 9)
  else 80
theorem Marked_c {W : World} {v : Value} {al : List At2} (c m : Int) (id : ByteArray) (hv : SA W v al) :
    Calls Tryz.prog 48 #[.agg #[.int .i64 c, .int .i64 m, .string id, v]] W fun e w' => e = .returned (.int .i64 (markC c m id al)) ∧ Ext W w' := by
  obtain ⟨p, cp, rfl⟩ := hv.shape
  have hml := hv.len
  refine v_reads (args := [.agg #[.int .i64 c, .int .i64 m, .string id, .slice p al.length cp]]) TTok FFok Tryz.func48 rfl rfl ?_
  conv => whnf
  refine VSeq.mk fun Kq hKq => ?_
  conv => whnf
  have hp := Hp.nil W
  (refine hp.kboxA fun q w hp hx => ?_; conv => whnf)
  (refine hKq _ _ _ (.refl _) ?_; clear hKq Kq; conv => whnf)
  (refine VSeq.mk fun Kq hKq => ?_; conv => whnf)
  (refine VSeq.mk fun Kq hKq => ?_; conv => whnf)
  (refine ⟨_, _, Blk.ldV (vs := [_, _, _, _]) (hp.get (i := 0) rfl) TTok rfl rfl rfl, ?_⟩; conv => whnf)
  have hck := Check_c (W := w) c m id (hv.ext hp.ext)
  by_cases hb : stunB c m id al = true
  · have hN : chkN c m id al = 0 := by unfold chkN; rw [hb]; rfl
    rw [hN] at hck
    (refine V.CallW.out ?_; (conv => arg 3; dsimp only [EV.val, List.toList_toArray, List.nil_append, List.append_nil, List.cons_append]); (with_reducible refine V.CallsUseW (hck) fun w hx => ?_); try (have hp := hp.call hx); conv => whnf)
    (refine hKq _ _ _ (.refl _) ?_; clear hKq Kq; conv => whnf)
    (refine VSeq.mk fun Kq hKq => ?_; conv => whnf)
    (refine hKq _ _ _ (.refl _) ?_; clear hKq Kq; conv => whnf)
    (refine And.intro (fun h => absurd (of_decide_eq_true h) (by first | (intro h2; exact absurd rfl h2) | omega | decide)) (fun _ => ?_); conv => whnf)
    (refine hKq _ _ _ (.refl _) ?_; clear hKq Kq; conv => whnf)
    (refine VSeq.mk fun Kq hKq => ?_; conv => whnf)
    (refine ⟨_, _, Blk.ld (hp.get (i := 0) rfl) TTok rfl rfl, ?_⟩; conv => whnf)
    (refine Or.inl (And.intro (by first | omega | decide) ?_); conv => whnf)
    (refine hKq _ _ _ (.refl _) ?_; clear hKq Kq; conv => whnf)
    (refine VSeq.mk fun Kq hKq => ?_; conv => whnf)
    (refine VSeq.mk fun Kq hKq => ?_; conv => whnf)
    (refine VSeq.mk fun Kq hKq => ?_; conv => whnf)
    (refine hKq _ _ _ (.refl _) ?_; clear hKq Kq; conv => whnf)
    refine ⟨fun hn => ?_, fun hn => ?_⟩
    · have hn := of_decide_eq_true hn
      conv => whnf
      refine hKq _ _ _ (.refl _) ?_
      clear hKq Kq
      conv => whnf
      refine VSeq.mk fun Kq hKq => ?_
      conv => whnf
      refine hKq _ _ _ (.refl _) ?_
      clear hKq Kq
      conv => whnf
      have hF : markC c m id al = 4 := by
        unfold markC
        rw [if_pos hb, List.getElem?_eq_none (by omega)]
      (exact ⟨by (first | (rw [hF]; rfl) | fail), hp.ext⟩)
    · have hn := of_decide_eq_false hn
      conv => whnf
      obtain ⟨i, hi⟩ : ∃ i, al.length = i + 1 := ⟨al.length - 1, by omega⟩
      have hat : al[i]? = some al[i] := List.getElem?_eq_getElem (by omega)
      have hF : markC c m id al = if al[i].1 ≠ 32808 then 4 else if al[i].2 = fpB (wrB c.toNat m.toNat id (al.take i) 8) then 0 else 9 := by
        unfold markC
        rw [if_pos hb, show al.length - 1 = i by omega, hat]
      obtain ⟨g, off, rfl, -⟩ := hv.at1 hat
      have hii : ((al.length : Nat) : Int) - 1 = (i : Nat) := by omega
      rw [hii]
      (refine ⟨_, _, Blk.ld (hp.get (i := 0) rfl) TTok rfl rfl, ?_⟩; conv => whnf)
      (refine ⟨_, ⟨rfl, by omega⟩, ?_⟩; conv => whnf)
      refine ⟨_, _, SA.ld0 (hv.ext hp.ext) hat, ?_⟩
      conv => whnf
      refine hKq _ _ _ (.refl _) ?_
      clear hKq Kq
      conv => whnf
      skip
      refine ⟨fun hk => ?_, fun hk => ?_⟩
      · have hk := of_decide_eq_true hk
        conv => whnf
        refine VSeq.mk fun Kq hKq => ?_
        conv => whnf
        refine hKq _ _ _ (.refl _) ?_
        clear hKq Kq
        conv => whnf
        (exact ⟨by (first | (rw [hF, if_pos hk]; rfl) | fail), hp.ext⟩)
      · have hk := of_decide_eq_false hk
        conv => whnf
        refine VSeq.mk fun Kq hKq => ?_
        conv => whnf
        rw [if_neg hk] at hF
        skip
        obtain ⟨C, rfl⟩ := Int.eq_ofNat_of_zero_le (stunB_t hb).1
        obtain ⟨M, rfl⟩ := Int.eq_ofNat_of_zero_le (stunB_t hb).2.2.1
        obtain ⟨b1, b2, b3, b4, b5, b6, b7, b8⟩ := stunB_t hb
        refine v_mtB TTok FFok mixed [] (.q 0 (.q 1 (.q 2 (.q 3 (.q 4 (.q 5 (.q 6 (.q 7 (.q 8 (.q 9 (.q 10 (.m 11 (.q 12 (.q 13 .nil)))))))))))))) (by kernel_rfl) ?_
        conv => whnf
        (refine ⟨_, fun w' hx' => Blk.ld (Blk.ext (hp.get (i := 0) rfl) hx') TTok rfl rfl, ?_⟩; conv => whnf)
        (refine ⟨_, ⟨rfl, by omega⟩, ?_⟩; conv => whnf)
        refine ⟨_, fun w1 hx1 => SA.ld1 (hv.ext (hp.ext.trans hx1)) hat, ?_⟩
        conv => whnf
        (refine ⟨_, fun w' hx' => Blk.ldV (vs := [_, _, _, _]) (Blk.ext (hp.get (i := 0) rfl) hx') TTok rfl rfl rfl, ?_⟩; conv => whnf)
        (refine ⟨_, fun w' hx' => Blk.ld (Blk.ext (hp.get (i := 0) rfl) hx') TTok rfl rfl, ?_⟩; conv => whnf)
        have hT := SA.take hv (show i < al.length by omega)
        refine ⟨_, fun w1 _ => run_slice_hi TTok rfl rfl i hT.1, ?_⟩
        conv => whnf
        have hzt := sizeN_tk al i
        rw [Int.toNat_natCast, Int.toNat_natCast] at hF
        obtain ⟨X, hX⟩ : ∃ X, fpB (wrB C M id (List.take i al) 8) = X := ⟨_, rfl⟩
        rw [hX] at hF
        intro w hx
        try (have hp := hp.call hx)
        conv => whnf
        have hIn := fingerprint_c (W := w) (hT.2.ext hp.ext) C M id (mv := .slice (some ⟨g, off, none⟩) al.length cp) ⟨_, _, _, rfl⟩ (by omega) (by omega) b5 (fun a ha => b7 a (List.mem_of_mem_take ha)) (by rw [List.length_take]; omega) (by omega)
        rw [hX] at hIn
        refine V.CallsUse hIn fun w hx => ?_
        have hp := hp.call hx
        refine And.intro (fun h => h.trans hx) ?_
        conv => whnf
        (intro w hx; try (have hp := hp.call hx); conv => whnf)
        (refine hKq _ _ _ (.refl _) ?_; clear hKq Kq; conv => whnf)
        refine ⟨fun hr => ?_, fun hr => ?_⟩
        · have hr := of_decide_eq_true hr
          conv => whnf
          refine VSeq.mk fun Kq hKq => ?_
          conv => whnf
          refine hKq _ _ _ (.refl _) ?_
          clear hKq Kq
          conv => whnf
          (exact ⟨by (first | (rw [hF, if_neg hr]; rfl) | fail), hp.ext⟩)
        · have hr := of_decide_eq_false hr
          conv => whnf
          refine hKq _ _ _ (.refl _) ?_
          clear hKq Kq
          conv => whnf
          refine VSeq.mk fun Kq hKq => ?_
          conv => whnf
          refine hKq _ _ _ (.refl _) ?_
          clear hKq Kq
          conv => whnf
          have hr : al[i].2 = X := Decidable.not_not.1 hr
          (exact ⟨by (first | (rw [hF, if_pos hr]; rfl) | fail), hp.ext⟩)
  · have hN : chkN c m id al = 80 := by unfold chkN; rw [show stunB c m id al = false by simpa using hb]; rfl
    have hF : markC c m id al = 80 := by unfold markC; rw [if_neg hb]
    rw [hN] at hck
    (refine V.CallW.out ?_; (conv => arg 3; dsimp only [EV.val, List.toList_toArray, List.nil_append, List.append_nil, List.cons_append]); (with_reducible refine V.CallsUseW (hck) fun w hx => ?_); try (have hp := hp.call hx); conv => whnf)
    (refine hKq _ _ _ (.refl _) ?_; clear hKq Kq; conv => whnf)
    (refine VSeq.mk fun Kq hKq => ?_; conv => whnf)
    (refine hKq _ _ _ (.refl _) ?_; clear hKq Kq; conv => whnf)
    (refine And.intro (fun _ => ?_) (fun h => absurd (by first | rfl | assumption | omega | decide) (of_decide_eq_false h)); conv => whnf)
    (refine VSeq.mk fun Kq hKq => ?_; conv => whnf)
    (refine hKq _ _ _ (.refl _) ?_; clear hKq Kq; conv => whnf)
    (exact ⟨by (first | (rw [hF]; rfl) | fail), hp.ext⟩)
set_option maxHeartbeats 3200000
def rsnN (s : ByteArray) : Nat := 100 * byt s 2 + byt s 3
def rsnO (s : ByteArray) : Prop := 4 ≤ s.size ∧ byt s 3 ≤ 99 ∧ 300 ≤ rsnN s ∧ rsnN s ≤ 699 ∧ s.size ≤ 132 ∧ reasonB (rsnN s) (s.extract 4 s.size) = s
instance (s : ByteArray) : Decidable (rsnO s) := by unfold rsnO; infer_instance
theorem ReadReason_big (s : ByteArray) (h : 4 ≤ s.size) (h9 : 99 < byt s 3) : PureF Tryz.prog 37 #[.string s] (.tuple #[.int .i64 0, .string ⟨#[]⟩, .int .i64 5]) := by
  first | refine v_pure TTok FFok Tryz.func37 rfl rfl fun w0 => ?_ | refine v_pure (args := []) TTok FFok Tryz.func37 rfl rfl fun w0 => ?_
  conv => whnf
  refine VSeq.mk fun Kq hKq => ?_
  conv => whnf
  refine hKq _ _ _ (.refl _) ?_
  clear hKq Kq
  conv => whnf
  refine VSeq.mk fun Kq hKq => ?_
  conv => whnf
  refine VSeq.mk fun Kq hKq => ?_
  conv => whnf
  refine VSeq.mk fun Kq hKq => ?_
  conv => whnf
  refine hKq _ _ _ (.refl _) ?_
  clear hKq Kq
  conv => whnf
  have hp := Hp.nil w0
  (refine And.intro (fun h => absurd (of_decide_eq_true h) (by first | (intro h2; exact absurd rfl h2) | omega | decide)) (fun _ => ?_); conv => whnf)
  refine ⟨3, ⟨by first | rfl | omega, by omega⟩, ?_⟩
  conv => whnf
  refine hKq _ _ _ (.refl _) ?_
  clear hKq Kq
  conv => whnf
  (refine And.intro (fun _ => ?_) (fun h => absurd (by first | rfl | assumption | omega | decide) (of_decide_eq_false h)); conv => whnf)
  (refine VSeq.mk fun Kq hKq => ?_; conv => whnf)
  (refine hKq _ _ _ (.refl _) ?_; clear hKq Kq; conv => whnf)
  (exact ⟨rfl, hp.ext⟩)
theorem rsn_int (s : ByteArray) : ((rsnN s : Nat) : Int) = 100 * (byt s 2 : Nat) + (byt s 3 : Nat) := by unfold rsnN; omega
theorem ReadReason_arg (s : ByteArray) (h : 4 ≤ s.size) (h9 : byt s 3 ≤ 99) (hn : rsnN s < 300 ∨ 699 < rsnN s) : PureF Tryz.prog 37 #[.string s] (.tuple #[.int .i64 0, .string ⟨#[]⟩, .int .i64 5]) := by
  have hR := Reason_arg (rsnN s) (s.extract 4 s.size) (by omega)
  have hN := rsn_int s
  rw [hN] at hR
  have hb2 := V.byt_lt s 2
  have hb3 := V.byt_lt s 3
  first | refine v_pure TTok FFok Tryz.func37 rfl rfl fun w0 => ?_ | refine v_pure (args := []) TTok FFok Tryz.func37 rfl rfl fun w0 => ?_
  conv => whnf
  refine VSeq.mk fun Kq hKq => ?_
  conv => whnf
  refine hKq _ _ _ (.refl _) ?_
  clear hKq Kq
  conv => whnf
  refine VSeq.mk fun Kq hKq => ?_
  conv => whnf
  refine VSeq.mk fun Kq hKq => ?_
  conv => whnf
  refine VSeq.mk fun Kq hKq => ?_
  conv => whnf
  refine hKq _ _ _ (.refl _) ?_
  clear hKq Kq
  conv => whnf
  have hp := Hp.nil w0
  (refine And.intro (fun h => absurd (of_decide_eq_true h) (by first | (intro h2; exact absurd rfl h2) | omega | decide)) (fun _ => ?_); conv => whnf)
  refine ⟨3, ⟨by first | rfl | omega, by omega⟩, ?_⟩
  conv => whnf
  refine hKq _ _ _ (.refl _) ?_
  clear hKq Kq
  conv => whnf
  (refine And.intro (fun h => absurd (of_decide_eq_true h) (by first | (intro h2; exact absurd rfl h2) | omega | decide)) (fun _ => ?_); conv => whnf)
  (refine hKq _ _ _ (.refl _) ?_; clear hKq Kq; conv => whnf)
  (refine VSeq.mk fun Kq hKq => ?_; conv => whnf)
  refine v_mtB TTok FFok mixed [] (.q 0 (.q 1 (.q 2 (.q 3 (.q 4 (.q 5 (.q 6 (.q 7 (.q 8 (.q 9 (.q 10 (.q 11 .nil)))))))))))) (by kernel_rfl) ?_
  conv => whnf
  skip
  refine ⟨2, ⟨by first | rfl | omega, by omega⟩, ?_⟩
  conv => whnf
  refine Or.inl (And.intro (by omega) ?_)
  conv => whnf
  refine Or.inl (And.intro (by omega) ?_)
  conv => whnf
  skip
  refine ⟨3, ⟨by first | rfl | omega, by omega⟩, ?_⟩
  conv => whnf
  refine Or.inl (And.intro (by omega) ?_)
  conv => whnf
  refine Or.inl (And.intro (by omega) ?_)
  conv => whnf
  (refine ⟨_, ⟨rfl, by omega⟩, ?_⟩; conv => whnf)
  (intro w hx; try (have hp := hp.call hx); conv => whnf)
  (refine hKq _ _ _ (.refl _) ?_; clear hKq Kq; conv => whnf)
  (refine VSeq.mk fun Kq hKq => ?_; conv => whnf)
  (refine VSeq.mk fun Kq hKq => ?_; conv => whnf)
  (refine V.CallW.out ?_; (conv => arg 3; dsimp only [EV.val, List.toList_toArray, List.nil_append, List.append_nil, List.cons_append]); (with_reducible refine V.PureF.useW (hR) fun w hx => ?_); try (have hp := hp.call hx); conv => whnf)
  (refine hKq _ _ _ (.refl _) ?_; clear hKq Kq; conv => whnf)
  (refine VSeq.mk fun Kq hKq => ?_; conv => whnf)
  (refine VSeq.mk fun Kq hKq => ?_; conv => whnf)
  (refine hKq _ _ _ (.refl _) ?_; clear hKq Kq; conv => whnf)
  (refine And.intro (fun _ => ?_) (fun h => absurd (by first | rfl | assumption | omega | decide) (of_decide_eq_false h)); conv => whnf)
  (refine hKq _ _ _ (.refl _) ?_; clear hKq Kq; conv => whnf)
  (refine VSeq.mk fun Kq hKq => ?_; conv => whnf)
  (refine hKq _ _ _ (.refl _) ?_; clear hKq Kq; conv => whnf)
  (exact ⟨rfl, hp.ext⟩)
theorem ReadReason_long (s : ByteArray) (h : 132 < s.size) (h9 : byt s 3 ≤ 99) (hn : 300 ≤ rsnN s ∧ rsnN s ≤ 699) : PureF Tryz.prog 37 #[.string s] (.tuple #[.int .i64 0, .string ⟨#[]⟩, .int .i64 5]) := by
  have h4 : 4 ≤ s.size := by omega
  have hR := Reason_long (rsnN s) (s.extract 4 s.size) (by omega) (by rw [ByteArray.size_extract]; omega)
  have hN := rsn_int s
  rw [hN] at hR
  have hb2 := V.byt_lt s 2
  have hb3 := V.byt_lt s 3
  first | refine v_pure TTok FFok Tryz.func37 rfl rfl fun w0 => ?_ | refine v_pure (args := []) TTok FFok Tryz.func37 rfl rfl fun w0 => ?_
  conv => whnf
  refine VSeq.mk fun Kq hKq => ?_
  conv => whnf
  refine hKq _ _ _ (.refl _) ?_
  clear hKq Kq
  conv => whnf
  refine VSeq.mk fun Kq hKq => ?_
  conv => whnf
  refine VSeq.mk fun Kq hKq => ?_
  conv => whnf
  refine VSeq.mk fun Kq hKq => ?_
  conv => whnf
  refine hKq _ _ _ (.refl _) ?_
  clear hKq Kq
  conv => whnf
  have hp := Hp.nil w0
  (refine And.intro (fun h => absurd (of_decide_eq_true h) (by first | (intro h2; exact absurd rfl h2) | omega | decide)) (fun _ => ?_); conv => whnf)
  refine ⟨3, ⟨by first | rfl | omega, by omega⟩, ?_⟩
  conv => whnf
  refine hKq _ _ _ (.refl _) ?_
  clear hKq Kq
  conv => whnf
  (refine And.intro (fun h => absurd (of_decide_eq_true h) (by first | (intro h2; exact absurd rfl h2) | omega | decide)) (fun _ => ?_); conv => whnf)
  (refine hKq _ _ _ (.refl _) ?_; clear hKq Kq; conv => whnf)
  (refine VSeq.mk fun Kq hKq => ?_; conv => whnf)
  refine v_mtB TTok FFok mixed [] (.q 0 (.q 1 (.q 2 (.q 3 (.q 4 (.q 5 (.q 6 (.q 7 (.q 8 (.q 9 (.q 10 (.q 11 .nil)))))))))))) (by kernel_rfl) ?_
  conv => whnf
  skip
  refine ⟨2, ⟨by first | rfl | omega, by omega⟩, ?_⟩
  conv => whnf
  refine Or.inl (And.intro (by omega) ?_)
  conv => whnf
  refine Or.inl (And.intro (by omega) ?_)
  conv => whnf
  skip
  refine ⟨3, ⟨by first | rfl | omega, by omega⟩, ?_⟩
  conv => whnf
  refine Or.inl (And.intro (by omega) ?_)
  conv => whnf
  refine Or.inl (And.intro (by omega) ?_)
  conv => whnf
  (refine ⟨_, ⟨rfl, by omega⟩, ?_⟩; conv => whnf)
  (intro w hx; try (have hp := hp.call hx); conv => whnf)
  (refine hKq _ _ _ (.refl _) ?_; clear hKq Kq; conv => whnf)
  (refine VSeq.mk fun Kq hKq => ?_; conv => whnf)
  (refine VSeq.mk fun Kq hKq => ?_; conv => whnf)
  (refine V.CallW.out ?_; (conv => arg 3; dsimp only [EV.val, List.toList_toArray, List.nil_append, List.append_nil, List.cons_append]); (with_reducible refine V.PureF.useW (hR) fun w hx => ?_); try (have hp := hp.call hx); conv => whnf)
  (refine hKq _ _ _ (.refl _) ?_; clear hKq Kq; conv => whnf)
  (refine VSeq.mk fun Kq hKq => ?_; conv => whnf)
  (refine VSeq.mk fun Kq hKq => ?_; conv => whnf)
  (refine hKq _ _ _ (.refl _) ?_; clear hKq Kq; conv => whnf)
  (refine And.intro (fun _ => ?_) (fun h => absurd (by first | rfl | assumption | omega | decide) (of_decide_eq_false h)); conv => whnf)
  (refine hKq _ _ _ (.refl _) ?_; clear hKq Kq; conv => whnf)
  (refine VSeq.mk fun Kq hKq => ?_; conv => whnf)
  (refine hKq _ _ _ (.refl _) ?_; clear hKq Kq; conv => whnf)
  (exact ⟨rfl, hp.ext⟩)
theorem ReadReason_other (s : ByteArray) (h : 4 ≤ s.size) (h2 : s.size ≤ 132) (h9 : byt s 3 ≤ 99) (hn : 300 ≤ rsnN s ∧ rsnN s ≤ 699) (he : reasonB (rsnN s) (s.extract 4 s.size) ≠ s) : PureF Tryz.prog 37 #[.string s] (.tuple #[.int .i64 0, .string ⟨#[]⟩, .int .i64 5]) := by
  have hR := Reason_ok (rsnN s) (s.extract 4 s.size) hn.1 hn.2 (by rw [ByteArray.size_extract]; omega)
  have hN := rsn_int s
  rw [hN] at hR
  have hb2 := V.byt_lt s 2
  have hb3 := V.byt_lt s 3
  first | refine v_pure TTok FFok Tryz.func37 rfl rfl fun w0 => ?_ | refine v_pure (args := []) TTok FFok Tryz.func37 rfl rfl fun w0 => ?_
  conv => whnf
  refine VSeq.mk fun Kq hKq => ?_
  conv => whnf
  refine hKq _ _ _ (.refl _) ?_
  clear hKq Kq
  conv => whnf
  refine VSeq.mk fun Kq hKq => ?_
  conv => whnf
  refine VSeq.mk fun Kq hKq => ?_
  conv => whnf
  refine VSeq.mk fun Kq hKq => ?_
  conv => whnf
  refine hKq _ _ _ (.refl _) ?_
  clear hKq Kq
  conv => whnf
  have hp := Hp.nil w0
  (refine And.intro (fun h => absurd (of_decide_eq_true h) (by first | (intro h2; exact absurd rfl h2) | omega | decide)) (fun _ => ?_); conv => whnf)
  refine ⟨3, ⟨by first | rfl | omega, by omega⟩, ?_⟩
  conv => whnf
  refine hKq _ _ _ (.refl _) ?_
  clear hKq Kq
  conv => whnf
  (refine And.intro (fun h => absurd (of_decide_eq_true h) (by first | (intro h2; exact absurd rfl h2) | omega | decide)) (fun _ => ?_); conv => whnf)
  (refine hKq _ _ _ (.refl _) ?_; clear hKq Kq; conv => whnf)
  (refine VSeq.mk fun Kq hKq => ?_; conv => whnf)
  refine v_mtB TTok FFok mixed [] (.q 0 (.q 1 (.q 2 (.q 3 (.q 4 (.q 5 (.q 6 (.q 7 (.q 8 (.q 9 (.q 10 (.q 11 .nil)))))))))))) (by kernel_rfl) ?_
  conv => whnf
  skip
  refine ⟨2, ⟨by first | rfl | omega, by omega⟩, ?_⟩
  conv => whnf
  refine Or.inl (And.intro (by omega) ?_)
  conv => whnf
  refine Or.inl (And.intro (by omega) ?_)
  conv => whnf
  skip
  refine ⟨3, ⟨by first | rfl | omega, by omega⟩, ?_⟩
  conv => whnf
  refine Or.inl (And.intro (by omega) ?_)
  conv => whnf
  refine Or.inl (And.intro (by omega) ?_)
  conv => whnf
  (refine ⟨_, ⟨rfl, by omega⟩, ?_⟩; conv => whnf)
  (intro w hx; try (have hp := hp.call hx); conv => whnf)
  (refine hKq _ _ _ (.refl _) ?_; clear hKq Kq; conv => whnf)
  (refine VSeq.mk fun Kq hKq => ?_; conv => whnf)
  (refine VSeq.mk fun Kq hKq => ?_; conv => whnf)
  (refine V.CallW.out ?_; (conv => arg 3; dsimp only [EV.val, List.toList_toArray, List.nil_append, List.append_nil, List.cons_append]); (with_reducible refine V.PureF.useW (hR) fun w hx => ?_); try (have hp := hp.call hx); conv => whnf)
  (refine hKq _ _ _ (.refl _) ?_; clear hKq Kq; conv => whnf)
  (refine VSeq.mk fun Kq hKq => ?_; conv => whnf)
  (refine VSeq.mk fun Kq hKq => ?_; conv => whnf)
  (refine hKq _ _ _ (.refl _) ?_; clear hKq Kq; conv => whnf)
  (refine And.intro (fun h => absurd (of_decide_eq_true h) (by first | (intro h2; exact absurd rfl h2) | omega | decide)) (fun _ => ?_); conv => whnf)
  (refine hKq _ _ _ (.refl _) ?_; clear hKq Kq; conv => whnf)
  (refine And.intro (fun _ => ?_) (fun h => absurd (by first | rfl | assumption | omega | decide) (of_decide_eq_false h)); conv => whnf)
  (refine VSeq.mk fun Kq hKq => ?_; conv => whnf)
  (refine hKq _ _ _ (.refl _) ?_; clear hKq Kq; conv => whnf)
  (exact ⟨rfl, hp.ext⟩)
theorem ReadReason_ok (s : ByteArray) (h : rsnO s) : PureF Tryz.prog 37 #[.string s] (.tuple #[.int .i64 (rsnN s), .string (s.extract 4 s.size), .int .i64 0]) := by
  obtain ⟨h, h9, hn1, hn2, h2, he⟩ := h
  have hR := Reason_ok (rsnN s) (s.extract 4 s.size) hn1 hn2 (by rw [ByteArray.size_extract]; omega)
  have hN := rsn_int s
  rw [hN, he] at hR
  have hb2 := V.byt_lt s 2
  have hb3 := V.byt_lt s 3
  first | refine v_pure TTok FFok Tryz.func37 rfl rfl fun w0 => ?_ | refine v_pure (args := []) TTok FFok Tryz.func37 rfl rfl fun w0 => ?_
  conv => whnf
  refine VSeq.mk fun Kq hKq => ?_
  conv => whnf
  refine hKq _ _ _ (.refl _) ?_
  clear hKq Kq
  conv => whnf
  refine VSeq.mk fun Kq hKq => ?_
  conv => whnf
  refine VSeq.mk fun Kq hKq => ?_
  conv => whnf
  refine VSeq.mk fun Kq hKq => ?_
  conv => whnf
  refine hKq _ _ _ (.refl _) ?_
  clear hKq Kq
  conv => whnf
  have hp := Hp.nil w0
  (refine And.intro (fun h => absurd (of_decide_eq_true h) (by first | (intro h2; exact absurd rfl h2) | omega | decide)) (fun _ => ?_); conv => whnf)
  refine ⟨3, ⟨by first | rfl | omega, by omega⟩, ?_⟩
  conv => whnf
  refine hKq _ _ _ (.refl _) ?_
  clear hKq Kq
  conv => whnf
  (refine And.intro (fun h => absurd (of_decide_eq_true h) (by first | (intro h2; exact absurd rfl h2) | omega | decide)) (fun _ => ?_); conv => whnf)
  (refine hKq _ _ _ (.refl _) ?_; clear hKq Kq; conv => whnf)
  (refine VSeq.mk fun Kq hKq => ?_; conv => whnf)
  refine v_mtB TTok FFok mixed [] (.q 0 (.q 1 (.q 2 (.q 3 (.q 4 (.q 5 (.q 6 (.q 7 (.q 8 (.q 9 (.q 10 (.q 11 .nil)))))))))))) (by kernel_rfl) ?_
  conv => whnf
  skip
  refine ⟨2, ⟨by first | rfl | omega, by omega⟩, ?_⟩
  conv => whnf
  refine Or.inl (And.intro (by omega) ?_)
  conv => whnf
  refine Or.inl (And.intro (by omega) ?_)
  conv => whnf
  skip
  refine ⟨3, ⟨by first | rfl | omega, by omega⟩, ?_⟩
  conv => whnf
  refine Or.inl (And.intro (by omega) ?_)
  conv => whnf
  refine Or.inl (And.intro (by omega) ?_)
  conv => whnf
  (refine ⟨_, ⟨rfl, by omega⟩, ?_⟩; conv => whnf)
  (intro w hx; try (have hp := hp.call hx); conv => whnf)
  (refine hKq _ _ _ (.refl _) ?_; clear hKq Kq; conv => whnf)
  (refine VSeq.mk fun Kq hKq => ?_; conv => whnf)
  (refine VSeq.mk fun Kq hKq => ?_; conv => whnf)
  (refine V.CallW.out ?_; (conv => arg 3; dsimp only [EV.val, List.toList_toArray, List.nil_append, List.append_nil, List.cons_append]); (with_reducible refine V.PureF.useW (hR) fun w hx => ?_); try (have hp := hp.call hx); conv => whnf)
  (refine hKq _ _ _ (.refl _) ?_; clear hKq Kq; conv => whnf)
  (refine VSeq.mk fun Kq hKq => ?_; conv => whnf)
  (refine VSeq.mk fun Kq hKq => ?_; conv => whnf)
  (refine hKq _ _ _ (.refl _) ?_; clear hKq Kq; conv => whnf)
  (refine And.intro (fun h => absurd (of_decide_eq_true h) (by first | (intro h2; exact absurd rfl h2) | omega | decide)) (fun _ => ?_); conv => whnf)
  (refine hKq _ _ _ (.refl _) ?_; clear hKq Kq; conv => whnf)
  (refine And.intro (fun h => absurd (of_decide_eq_true h) (by first | (intro h2; exact absurd rfl h2) | omega | decide)) (fun _ => ?_); conv => whnf)
  (refine hKq _ _ _ (.refl _) ?_; clear hKq Kq; conv => whnf)
  (refine VSeq.mk fun Kq hKq => ?_; conv => whnf)
  (refine hKq _ _ _ (.refl _) ?_; clear hKq Kq; conv => whnf)
  (exact ⟨rfl, hp.ext⟩)
set_option maxHeartbeats 4000000
def numL (l : List UInt8) : Nat := l.foldl (fun v c => v * 256 + c.toNat) 0
theorem numL_snoc (l : List UInt8) (c : UInt8) : numL (l ++ [c]) = numL l * 256 + c.toNat := by unfold numL; rw [List.foldl_append]; rfl
theorem numL_lt : ∀ (n : Nat) (l : List UInt8), l.length = n → numL l < 2 ^ (8 * n) := by
  intro n
  induction n with
  | zero => intro l h; rw [List.eq_nil_of_length_eq_zero h]; decide
  | succ n ih =>
    intro l h
    obtain ⟨m, c, rfl⟩ : ∃ m c, l = m ++ [c] := ⟨l.dropLast, l.getLast (by intro e; rw [e] at h; cases h), (List.dropLast_concat_getLast _).symm⟩
    rw [numL_snoc]
    have h1 := ih m (by rw [List.length_append] at h; simp at h; exact h)
    have h2 := c.toNat_lt
    rw [show 8 * (n + 1) = 8 * n + 8 by omega, Nat.pow_add]
    omega
def numB (s : ByteArray) : Nat := numL s.data.toList
theorem numL_take {l : List UInt8} {i : Nat} (h : i < l.length) : numL (l.take (i + 1)) = numL (l.take i) * 256 + (l.getD i 0).toNat := by
  rw [List.take_add_one, List.getD_eq_getElem?_getD, List.getElem?_eq_getElem h]
  exact numL_snoc _ _
theorem or_byte (v c : Nat) (h : c < 256) : (v * 256) ||| c = v * 256 + c := by
  have := Nat.two_pow_add_eq_or_of_lt (i := 8) (b := c) h v
  rw [show 2 ^ 8 * v = v * 256 by omega] at this
  exact this.symm
theorem bz_get (S : List UInt8) (zs : List Value) {i : Nat} (hi : i < S.length) : (bytesV S ++ zs)[i]? = some (.int .u8 (((S.getD i 0).toNat : Nat) : Int)) := by
  rw [List.getElem?_append_left (by rw [bytesV_len]; exact hi)]
  exact bytesV_get (by rw [List.getElem?_eq_getElem hi, List.getD_eq_getElem?_getD, List.getElem?_eq_getElem hi]; rfl)
theorem Uint1_p (s : ByteArray) (hs : s.size ≤ 7) : PureF Tryz.prog 118 #[.string s] (.int .i64 (numB s)) := by
  have hsl := toList_len s
  unfold numB
  obtain ⟨S, hS⟩ : ∃ S, s.data.toList = S := ⟨_, rfl⟩
  first | refine v_pure TTok FFok Tryz.func118 rfl rfl fun w0 => ?_ | refine v_pure (args := []) TTok FFok Tryz.func118 rfl rfl fun w0 => ?_
  conv => whnf
  refine VSeq.mk fun Kq hKq => ?_
  conv => whnf
  refine hKq _ _ _ (.refl _) ?_
  clear hKq Kq
  conv => whnf
  refine VSeq.mk fun Kq hKq => ?_
  conv => whnf
  refine hKq _ _ _ (.refl _) ?_
  clear hKq Kq
  conv => whnf
  refine VSeq.mk fun Kq hKq => ?_
  conv => whnf
  refine VSeq.mk fun Kq hKq => ?_
  conv => whnf
  have hp := Hp.nil w0
  refine hp.kbytes TTok rfl rfl rfl fun q zs c w hp hx => ?_
  have hp : HpM [] w0 w [blk q (bytesV s.data.toList ++ zs) 5] := hp
  rw [hS] at hsl hp ⊢
  conv => whnf
  refine hKq _ _ _ (.refl _) ?_
  clear hKq Kq
  conv => whnf
  skip
  refine ⟨fun mm e w' => ∃ (i : Nat), mm + i = s.size ∧ e = [(3, .v (.int .i64 (numL (S.take i) : Nat))), (7, .v (.slice (some ⟨q, 0, none⟩) s.size c)), (8, .v (.int .i64 s.size)), (9, .v (.int .i64 i))] ∧ HpM [] w0 w' [blk q (bytesV S ++ zs) 5],
    ⟨s.size, _, ⟨0, by omega, rfl, hp⟩, sub_cons rfl (sub_cons rfl (sub_cons rfl (sub_cons rfl sub_nil)))⟩, ?_⟩
  clear hp hx
  repeat clear hp
  rintro mm _ w ⟨i, hmm, rfl, hp⟩
  conv => whnf
  refine VSeq.mk fun Kq hKq => ?_
  conv => whnf
  refine hKq _ _ _ (.refl _) ?_
  clear hKq Kq
  conv => whnf
  refine VSeq.mk fun Kq hKq => ?_
  conv => whnf
  refine ⟨fun hlt => ?_, fun hlt => ?_⟩
  · have hlt := of_decide_eq_true hlt
    conv => whnf
    refine hKq _ _ _ (.refl _) ?_
    clear hKq Kq
    conv => whnf
    refine VSeq.mk fun Kq hKq => ?_
    conv => whnf
    refine VSeq.mk fun Kq hKq => ?_
    conv => whnf
    have hi : i < S.length := by omega
    have u1 := (S.getD i 0).toNat_lt
    have hb := numL_lt i (S.take i) (by rw [List.length_take]; omega)
    have hb2 : (2 : Nat) ^ (8 * i) ≤ 2 ^ 48 := Nat.pow_le_pow_right (by decide) (by omega)
    have hb3 : (2 : Nat) ^ 48 = 281474976710656 := rfl
    obtain ⟨V1, hV⟩ : ∃ v, numL (S.take i) = v := ⟨_, rfl⟩
    have hV2 := numL_take hi
    rw [hV] at hb hV2 ⊢
    refine ⟨i, ⟨by first | rfl | omega, by omega⟩, ?_⟩
    conv => whnf
    refine ⟨_, _, Blk.ld (hp.get (i := 0) rfl) TTok rfl (bz_get S zs (i := i) hi), ?_⟩
    conv => whnf
    refine hKq _ _ _ (.refl _) ?_
    clear hKq Kq
    conv => whnf
    refine ⟨8, ⟨by first | rfl | omega, by omega⟩, ?_⟩
    conv => whnf
    refine Or.inl (And.intro (by omega) ?_)
    conv => whnf
    refine Or.inl (And.intro (by omega) ?_)
    conv => whnf
    skip
    refine ⟨V1 * 256, (S.getD i 0).toNat, numL (S.take (i + 1)), ⟨by first | rfl | omega, by first | rfl | omega, by omega, by omega⟩, by (dsimp only; (rw [hV2]; exact or_byte _ _ u1)), ?_⟩
    conv => whnf
    refine hKq _ _ _ (.refl _) ?_
    clear hKq Kq
    conv => whnf
    refine Or.inl (And.intro (by omega) ?_)
    conv => whnf
    skip
    exact ⟨mm - 1, _, by omega, ⟨i + 1, by omega, rfl, hp⟩, sub_cons rfl (sub_cons rfl (sub_cons rfl (sub_cons rfl sub_nil)))⟩
  · have hlt := of_decide_eq_false hlt
    conv => whnf
    clear hKq Kq
    refine hKq _ _ _ (.refl _) ?_
    clear hKq Kq
    conv => whnf
    refine VSeq.mk fun Kq hKq => ?_
    conv => whnf
    refine hKq _ _ _ (.refl _) ?_
    clear hKq Kq
    conv => whnf
    obtain rfl : i = s.size := by omega
    rw [← hsl, List.take_of_length_le (Nat.le_refl _)]
    skip
    rw [hS]
    exact ⟨rfl, hp.ext⟩
set_option maxHeartbeats 4000000
theorem oread_ok (s : ByteArray) (k : Nat) (h : k ≤ s.size) (hs : s.size ≤ 100000) : PureF Tryz.prog 142 #[.agg #[.string s, .int .i64 k]] (.tuple #[.agg #[.string s, .int .i64 k], .int .i64 0]) := by
  first | refine v_pure TTok FFok Tryz.func142 rfl rfl fun w0 => ?_ | refine v_pure (args := []) TTok FFok Tryz.func142 rfl rfl fun w0 => ?_
  conv => whnf
  refine VSeq.mk fun Kq hKq => ?_
  conv => whnf
  have hp := Hp.nil w0
  (refine hp.kboxA fun q w hp hx => ?_; conv => whnf)
  (refine hp.kalloc z216 fun al216 w hp hx => ?_; conv => whnf)
  (refine hKq _ _ _ (.refl _) ?_; clear hKq Kq; conv => whnf)
  (refine VSeq.mk fun Kq hKq => ?_; conv => whnf)
  (refine VSeq.mk fun Kq hKq => ?_; conv => whnf)
  (refine VSeq.mk fun Kq hKq => ?_; conv => whnf)
  (refine ⟨_, _, Blk.ld (hp.get (i := 1) rfl) TTok rfl rfl, ?_⟩; conv => whnf)
  (refine hKq _ _ _ (.refl _) ?_; clear hKq Kq; conv => whnf)
  (refine And.intro (fun h => absurd (of_decide_eq_true h) (by first | (intro h2; exact absurd rfl h2) | omega | decide)) (fun _ => ?_); conv => whnf)
  (refine ⟨_, _, Blk.ld (hp.get (i := 1) rfl) TTok rfl rfl, ?_⟩; conv => whnf)
  (refine ⟨_, _, Blk.ld (hp.get (i := 1) rfl) TTok rfl rfl, ?_⟩; conv => whnf)
  (refine hKq _ _ _ (.refl _) ?_; clear hKq Kq; conv => whnf)
  (refine And.intro (fun h => absurd (of_decide_eq_true h) (by first | (intro h2; exact absurd rfl h2) | omega | decide)) (fun _ => ?_); conv => whnf)
  (refine hKq _ _ _ (.refl _) ?_; clear hKq Kq; conv => whnf)
  (refine VSeq.mk fun Kq hKq => ?_; conv => whnf)
  (refine ⟨_, _, Blk.ldV (vs := [_, _]) (hp.get (i := 1) rfl) TTok rfl rfl rfl, ?_⟩; conv => whnf)
  (refine ⟨_, _, bld216_0 _ _ _, ?_⟩; conv => whnf)
  (refine hp.kstA TTok rfl 0 rfl rfl (oneC_of rfl) (by rfl) fun w hp => ?_; try simp only [List.set_cons_zero, List.set_cons_succ, EV.val] at hp; conv => whnf)
  (refine hKq _ _ _ (.refl _) ?_; clear hKq Kq; conv => whnf)
  (refine ⟨_, Blk.lvN (hp.get (i := 0) rfl) TTok rfl rfl, ?_⟩; conv => whnf)
  (exact ⟨rfl, hp.ext⟩)
theorem nextI_short (s : ByteArray) (k n : Nat) (h : k ≤ s.size) (hs : s.size ≤ 100000) (h1 : 1 ≤ n) (h7 : n ≤ 7) (hn : s.size < k + n) : PureF Tryz.prog 117 #[.agg #[.string s, .int .i64 k], .int .i64 n, .int .i64 1, .int .i64 7, .func (.func 118) #[] #[]] (.tuple #[.int .i64 0, .agg #[.string ⟨#[]⟩, .int .i64 0], .int .i64 7]) := by
  first | refine v_pure TTok FFok Tryz.func117 rfl rfl fun w0 => ?_ | refine v_pure (args := []) TTok FFok Tryz.func117 rfl rfl fun w0 => ?_
  conv => whnf
  refine VSeq.mk fun Kq hKq => ?_
  conv => whnf
  have hp := Hp.nil w0
  (refine hp.kboxA fun q w hp hx => ?_; conv => whnf)
  (refine hp.kalloc z126 fun al126 w hp hx => ?_; conv => whnf)
  (refine hKq _ _ _ (.refl _) ?_; clear hKq Kq; conv => whnf)
  (refine VSeq.mk fun Kq hKq => ?_; conv => whnf)
  (refine ⟨_, _, Blk.ldV (vs := [_, _]) (hp.get (i := 1) rfl) TTok rfl rfl rfl, ?_⟩; conv => whnf)
  (refine V.CallW.out ?_; (conv => arg 3; dsimp only [EV.val, List.toList_toArray, List.nil_append, List.append_nil, List.cons_append]); (with_reducible refine V.PureF.useW (oread_ok _ _ (by omega) (by omega)) fun w hx => ?_); try (have hp := hp.call hx); conv => whnf)
  (refine hp.kalloc z216 fun al216 w hp hx => ?_; conv => whnf)
  (refine hp.kstA TTok rfl 0 rfl rfl (oneC_of rfl) (by rfl) fun w hp => ?_; try simp only [List.set_cons_zero, List.set_cons_succ, EV.val] at hp; conv => whnf)
  (refine hKq _ _ _ (.refl _) ?_; clear hKq Kq; conv => whnf)
  (refine VSeq.mk fun Kq hKq => ?_; conv => whnf)
  (refine VSeq.mk fun Kq hKq => ?_; conv => whnf)
  (refine hKq _ _ _ (.refl _) ?_; clear hKq Kq; conv => whnf)
  (refine And.intro (fun h => absurd (of_decide_eq_true h) (by first | (intro h2; exact absurd rfl h2) | omega | decide)) (fun _ => ?_); conv => whnf)
  (refine VSeq.mk fun Kq hKq => ?_; conv => whnf)
  (refine VSeq.mk fun Kq hKq => ?_; conv => whnf)
  (refine hKq _ _ _ (.refl _) ?_; clear hKq Kq; conv => whnf)
  (refine And.intro (fun h => absurd (of_decide_eq_true h) (by first | (intro h2; exact absurd rfl h2) | omega | decide)) (fun _ => ?_); conv => whnf)
  (refine hKq _ _ _ (.refl _) ?_; clear hKq Kq; conv => whnf)
  (refine And.intro (fun h => absurd (of_decide_eq_true h) (by first | (intro h2; exact absurd rfl h2) | omega | decide)) (fun _ => ?_); conv => whnf)
  (refine VSeq.mk fun Kq hKq => ?_; conv => whnf)
  (refine ⟨_, _, Blk.ld (hp.get (i := 0) rfl) TTok rfl rfl, ?_⟩; conv => whnf)
  (refine ⟨_, _, Blk.ld (hp.get (i := 0) rfl) TTok rfl rfl, ?_⟩; conv => whnf)
  (refine Or.inl (And.intro (by first | omega | decide) ?_); conv => whnf)
  (refine hKq _ _ _ (.refl _) ?_; clear hKq Kq; conv => whnf)
  (refine And.intro (fun _ => ?_) (fun h => absurd (by first | rfl | assumption | omega | decide) (of_decide_eq_false h)); conv => whnf)
  (refine VSeq.mk fun Kq hKq => ?_; conv => whnf)
  refine v_mix TTok FFok mixed 3 [(0, false), (1, false), (2, false)] (by kernel_rfl) ?_
  conv => whnf
  (refine ⟨_, fun w' hx' => Blk.ldV (vs := [_, _]) (Blk.ext (hp.get (i := 1) rfl) hx') TTok rfl rfl rfl, ?_⟩; conv => whnf)
  (intro w hx; try (have hp := hp.call hx); conv => whnf)
  (refine hp.kstA TTok rfl 1 rfl rfl (oneC_of rfl) (by rfl) fun w hp => ?_; try simp only [List.set_cons_zero, List.set_cons_succ, EV.val] at hp; conv => whnf)
  (refine hKq _ _ _ (.refl _) ?_; clear hKq Kq; conv => whnf)
  (refine ⟨_, Blk.lvN (hp.get (i := 1) rfl) TTok rfl rfl, ?_⟩; conv => whnf)
  (exact ⟨rfl, hp.ext⟩)
theorem nextI_ok (s : ByteArray) (k n : Nat) (h1 : 1 ≤ n) (h7 : n ≤ 7) (hn : k + n ≤ s.size) (hs : s.size ≤ 100000) : PureF Tryz.prog 117 #[.agg #[.string s, .int .i64 k], .int .i64 n, .int .i64 1, .int .i64 7, .func (.func 118) #[] #[]] (.tuple #[.int .i64 (numB (s.extract k (k + n))), .agg #[.string s, .int .i64 (k + n : Nat)], .int .i64 0]) := by
  have hsz : (s.extract k (k + n)).size = n := by rw [ByteArray.size_extract]; omega
  first | refine v_pure TTok FFok Tryz.func117 rfl rfl fun w0 => ?_ | refine v_pure (args := []) TTok FFok Tryz.func117 rfl rfl fun w0 => ?_
  conv => whnf
  refine VSeq.mk fun Kq hKq => ?_
  conv => whnf
  have hp := Hp.nil w0
  (refine hp.kboxA fun q w hp hx => ?_; conv => whnf)
  (refine hp.kalloc z126 fun al126 w hp hx => ?_; conv => whnf)
  (refine hKq _ _ _ (.refl _) ?_; clear hKq Kq; conv => whnf)
  (refine VSeq.mk fun Kq hKq => ?_; conv => whnf)
  (refine ⟨_, _, Blk.ldV (vs := [_, _]) (hp.get (i := 1) rfl) TTok rfl rfl rfl, ?_⟩; conv => whnf)
  (refine V.CallW.out ?_; (conv => arg 3; dsimp only [EV.val, List.toList_toArray, List.nil_append, List.append_nil, List.cons_append]); (with_reducible refine V.PureF.useW (oread_ok _ _ (by omega) (by omega)) fun w hx => ?_); try (have hp := hp.call hx); conv => whnf)
  (refine hp.kalloc z216 fun al216 w hp hx => ?_; conv => whnf)
  (refine hp.kstA TTok rfl 0 rfl rfl (oneC_of rfl) (by rfl) fun w hp => ?_; try simp only [List.set_cons_zero, List.set_cons_succ, EV.val] at hp; conv => whnf)
  (refine hKq _ _ _ (.refl _) ?_; clear hKq Kq; conv => whnf)
  (refine VSeq.mk fun Kq hKq => ?_; conv => whnf)
  (refine VSeq.mk fun Kq hKq => ?_; conv => whnf)
  (refine hKq _ _ _ (.refl _) ?_; clear hKq Kq; conv => whnf)
  (refine And.intro (fun h => absurd (of_decide_eq_true h) (by first | (intro h2; exact absurd rfl h2) | omega | decide)) (fun _ => ?_); conv => whnf)
  (refine VSeq.mk fun Kq hKq => ?_; conv => whnf)
  (refine VSeq.mk fun Kq hKq => ?_; conv => whnf)
  (refine hKq _ _ _ (.refl _) ?_; clear hKq Kq; conv => whnf)
  (refine And.intro (fun h => absurd (of_decide_eq_true h) (by first | (intro h2; exact absurd rfl h2) | omega | decide)) (fun _ => ?_); conv => whnf)
  (refine hKq _ _ _ (.refl _) ?_; clear hKq Kq; conv => whnf)
  (refine And.intro (fun h => absurd (of_decide_eq_true h) (by first | (intro h2; exact absurd rfl h2) | omega | decide)) (fun _ => ?_); conv => whnf)
  (refine VSeq.mk fun Kq hKq => ?_; conv => whnf)
  (refine ⟨_, _, Blk.ld (hp.get (i := 0) rfl) TTok rfl rfl, ?_⟩; conv => whnf)
  (refine ⟨_, _, Blk.ld (hp.get (i := 0) rfl) TTok rfl rfl, ?_⟩; conv => whnf)
  (refine Or.inl (And.intro (by first | omega | decide) ?_); conv => whnf)
  (refine hKq _ _ _ (.refl _) ?_; clear hKq Kq; conv => whnf)
  (refine And.intro (fun h => absurd (of_decide_eq_true h) (by first | (intro h2; exact absurd rfl h2) | omega | decide)) (fun _ => ?_); conv => whnf)
  (refine hKq _ _ _ (.refl _) ?_; clear hKq Kq; conv => whnf)
  (refine VSeq.mk fun Kq hKq => ?_; conv => whnf)
  refine v_mix TTok FFok mixed 24 [(0, false), (1, false), (2, false), (3, false), (4, false), (5, false), (6, false), (7, false), (8, false), (9, false), (10, false), (11, false), (12, false), (13, false), (14, false), (15, false), (16, false), (17, false), (18, false), (19, false), (20, false), (21, false), (22, false), (23, false)] (by kernel_rfl) ?_
  conv => whnf
  (refine ⟨_, fun w' hx' => Blk.ld (Blk.ext (hp.get (i := 0) rfl) hx') TTok rfl rfl, ?_⟩; conv => whnf)
  (refine ⟨_, fun w' hx' => Blk.ld (Blk.ext (hp.get (i := 0) rfl) hx') TTok rfl rfl, ?_⟩; conv => whnf)
  (refine ⟨_, fun w' hx' => Blk.ld (Blk.ext (hp.get (i := 0) rfl) hx') TTok rfl rfl, ?_⟩; conv => whnf)
  (refine Or.inl (And.intro (by first | omega | decide) ?_); conv => whnf)
  (refine ⟨_, _, ⟨rfl, rfl, by omega, by omega⟩, ?_⟩; conv => whnf)
  (refine V.QCallW.out ?_; (conv => arg 3; dsimp only [EV.val, List.toList_toArray, List.nil_append, List.append_nil, List.cons_append]); (with_reducible refine V.PureF.quietW (Uint1_p _ (by omega)) ?_); conv => whnf)
  (refine ⟨_, fun w' hx' => Blk.ld (Blk.ext (hp.get (i := 0) rfl) hx') TTok rfl rfl, ?_⟩; conv => whnf)
  (refine ⟨_, fun w' hx' => Blk.ld (Blk.ext (hp.get (i := 0) rfl) hx') TTok rfl rfl, ?_⟩; conv => whnf)
  (refine Or.inl (And.intro (by first | omega | decide) ?_); conv => whnf)
  (refine ⟨_, fun w' hx' => bld126_0_1 w' _ _, ?_⟩; conv => whnf)
  (intro w hx; try (have hp := hp.call hx); conv => whnf)
  (refine hp.kstA TTok rfl 1 rfl rfl (oneC_of rfl) (by rfl) fun w hp => ?_; try simp only [List.set_cons_zero, List.set_cons_succ, EV.val] at hp; conv => whnf)
  (refine hKq _ _ _ (.refl _) ?_; clear hKq Kq; conv => whnf)
  (refine ⟨_, Blk.lvN (hp.get (i := 1) rfl) TTok rfl rfl, ?_⟩; conv => whnf)
  (exact ⟨rfl, hp.ext⟩)
theorem Take1_p (s : ByteArray) : PureF Tryz.prog 144 #[.string s] (.string s) := by
  first | refine v_pure TTok FFok Tryz.func144 rfl rfl fun w0 => ?_ | refine v_pure (args := []) TTok FFok Tryz.func144 rfl rfl fun w0 => ?_
  conv => whnf
  refine VSeq.mk fun Kq hKq => ?_
  conv => whnf
  refine hKq _ _ _ (.refl _) ?_
  clear hKq Kq
  conv => whnf
  refine VSeq.mk fun Kq hKq => ?_
  conv => whnf
  refine hKq _ _ _ (.refl _) ?_
  clear hKq Kq
  conv => whnf
  have hp := Hp.nil w0
  (exact ⟨rfl, hp.ext⟩)
theorem nextS_short (s : ByteArray) (k n : Nat) (h : k ≤ s.size) (hs : s.size ≤ 100000)  (hn : s.size < k + n) : PureF Tryz.prog 143 #[.agg #[.string s, .int .i64 k], .int .i64 n, .int .i64 0, .int .i64 n, .func (.func 144) #[] #[]] (.tuple #[.string ⟨#[]⟩, .agg #[.string ⟨#[]⟩, .int .i64 0], .int .i64 7]) := by
  first | refine v_pure TTok FFok Tryz.func143 rfl rfl fun w0 => ?_ | refine v_pure (args := []) TTok FFok Tryz.func143 rfl rfl fun w0 => ?_
  conv => whnf
  refine VSeq.mk fun Kq hKq => ?_
  conv => whnf
  have hp := Hp.nil w0
  (refine hp.kboxA fun q w hp hx => ?_; conv => whnf)
  (refine hp.kalloc z126 fun al126 w hp hx => ?_; conv => whnf)
  (refine hKq _ _ _ (.refl _) ?_; clear hKq Kq; conv => whnf)
  (refine VSeq.mk fun Kq hKq => ?_; conv => whnf)
  (refine ⟨_, _, Blk.ldV (vs := [_, _]) (hp.get (i := 1) rfl) TTok rfl rfl rfl, ?_⟩; conv => whnf)
  (refine V.CallW.out ?_; (conv => arg 3; dsimp only [EV.val, List.toList_toArray, List.nil_append, List.append_nil, List.cons_append]); (with_reducible refine V.PureF.useW (oread_ok _ _ (by omega) (by omega)) fun w hx => ?_); try (have hp := hp.call hx); conv => whnf)
  (refine hp.kalloc z216 fun al216 w hp hx => ?_; conv => whnf)
  (refine hp.kstA TTok rfl 0 rfl rfl (oneC_of rfl) (by rfl) fun w hp => ?_; try simp only [List.set_cons_zero, List.set_cons_succ, EV.val] at hp; conv => whnf)
  (refine hKq _ _ _ (.refl _) ?_; clear hKq Kq; conv => whnf)
  (refine VSeq.mk fun Kq hKq => ?_; conv => whnf)
  (refine VSeq.mk fun Kq hKq => ?_; conv => whnf)
  (refine hKq _ _ _ (.refl _) ?_; clear hKq Kq; conv => whnf)
  (refine And.intro (fun h => absurd (of_decide_eq_true h) (by first | (intro h2; exact absurd rfl h2) | omega | decide)) (fun _ => ?_); conv => whnf)
  (refine VSeq.mk fun Kq hKq => ?_; conv => whnf)
  (refine VSeq.mk fun Kq hKq => ?_; conv => whnf)
  (refine hKq _ _ _ (.refl _) ?_; clear hKq Kq; conv => whnf)
  (refine And.intro (fun h => absurd (of_decide_eq_true h) (by first | (intro h2; exact absurd rfl h2) | omega | decide)) (fun _ => ?_); conv => whnf)
  (refine hKq _ _ _ (.refl _) ?_; clear hKq Kq; conv => whnf)
  (refine And.intro (fun h => absurd (of_decide_eq_true h) (by first | (intro h2; exact absurd rfl h2) | omega | decide)) (fun _ => ?_); conv => whnf)
  (refine VSeq.mk fun Kq hKq => ?_; conv => whnf)
  (refine ⟨_, _, Blk.ld (hp.get (i := 0) rfl) TTok rfl rfl, ?_⟩; conv => whnf)
  (refine ⟨_, _, Blk.ld (hp.get (i := 0) rfl) TTok rfl rfl, ?_⟩; conv => whnf)
  (refine Or.inl (And.intro (by first | omega | decide) ?_); conv => whnf)
  (refine hKq _ _ _ (.refl _) ?_; clear hKq Kq; conv => whnf)
  (refine And.intro (fun _ => ?_) (fun h => absurd (by first | rfl | assumption | omega | decide) (of_decide_eq_false h)); conv => whnf)
  (refine VSeq.mk fun Kq hKq => ?_; conv => whnf)
  refine v_mix TTok FFok mixed 3 [(0, false), (1, false), (2, false)] (by kernel_rfl) ?_
  conv => whnf
  (refine ⟨_, fun w' hx' => Blk.ldV (vs := [_, _]) (Blk.ext (hp.get (i := 1) rfl) hx') TTok rfl rfl rfl, ?_⟩; conv => whnf)
  (intro w hx; try (have hp := hp.call hx); conv => whnf)
  (refine hp.kstA TTok rfl 1 rfl rfl (oneC_of rfl) (by rfl) fun w hp => ?_; try simp only [List.set_cons_zero, List.set_cons_succ, EV.val] at hp; conv => whnf)
  (refine hKq _ _ _ (.refl _) ?_; clear hKq Kq; conv => whnf)
  (refine ⟨_, Blk.lvN (hp.get (i := 1) rfl) TTok rfl rfl, ?_⟩; conv => whnf)
  (exact ⟨rfl, hp.ext⟩)
theorem nextS_ok (s : ByteArray) (k n : Nat)  (hn : k + n ≤ s.size) (hs : s.size ≤ 100000) : PureF Tryz.prog 143 #[.agg #[.string s, .int .i64 k], .int .i64 n, .int .i64 0, .int .i64 n, .func (.func 144) #[] #[]] (.tuple #[.string (s.extract k (k + n)), .agg #[.string s, .int .i64 (k + n : Nat)], .int .i64 0]) := by
  have hsz : (s.extract k (k + n)).size = n := by rw [ByteArray.size_extract]; omega
  first | refine v_pure TTok FFok Tryz.func143 rfl rfl fun w0 => ?_ | refine v_pure (args := []) TTok FFok Tryz.func143 rfl rfl fun w0 => ?_
  conv => whnf
  refine VSeq.mk fun Kq hKq => ?_
  conv => whnf
  have hp := Hp.nil w0
  (refine hp.kboxA fun q w hp hx => ?_; conv => whnf)
  (refine hp.kalloc z126 fun al126 w hp hx => ?_; conv => whnf)
  (refine hKq _ _ _ (.refl _) ?_; clear hKq Kq; conv => whnf)
  (refine VSeq.mk fun Kq hKq => ?_; conv => whnf)
  (refine ⟨_, _, Blk.ldV (vs := [_, _]) (hp.get (i := 1) rfl) TTok rfl rfl rfl, ?_⟩; conv => whnf)
  (refine V.CallW.out ?_; (conv => arg 3; dsimp only [EV.val, List.toList_toArray, List.nil_append, List.append_nil, List.cons_append]); (with_reducible refine V.PureF.useW (oread_ok _ _ (by omega) (by omega)) fun w hx => ?_); try (have hp := hp.call hx); conv => whnf)
  (refine hp.kalloc z216 fun al216 w hp hx => ?_; conv => whnf)
  (refine hp.kstA TTok rfl 0 rfl rfl (oneC_of rfl) (by rfl) fun w hp => ?_; try simp only [List.set_cons_zero, List.set_cons_succ, EV.val] at hp; conv => whnf)
  (refine hKq _ _ _ (.refl _) ?_; clear hKq Kq; conv => whnf)
  (refine VSeq.mk fun Kq hKq => ?_; conv => whnf)
  (refine VSeq.mk fun Kq hKq => ?_; conv => whnf)
  (refine hKq _ _ _ (.refl _) ?_; clear hKq Kq; conv => whnf)
  (refine And.intro (fun h => absurd (of_decide_eq_true h) (by first | (intro h2; exact absurd rfl h2) | omega | decide)) (fun _ => ?_); conv => whnf)
  (refine VSeq.mk fun Kq hKq => ?_; conv => whnf)
  (refine VSeq.mk fun Kq hKq => ?_; conv => whnf)
  (refine hKq _ _ _ (.refl _) ?_; clear hKq Kq; conv => whnf)
  (refine And.intro (fun h => absurd (of_decide_eq_true h) (by first | (intro h2; exact absurd rfl h2) | omega | decide)) (fun _ => ?_); conv => whnf)
  (refine hKq _ _ _ (.refl _) ?_; clear hKq Kq; conv => whnf)
  (refine And.intro (fun h => absurd (of_decide_eq_true h) (by first | (intro h2; exact absurd rfl h2) | omega | decide)) (fun _ => ?_); conv => whnf)
  (refine VSeq.mk fun Kq hKq => ?_; conv => whnf)
  (refine ⟨_, _, Blk.ld (hp.get (i := 0) rfl) TTok rfl rfl, ?_⟩; conv => whnf)
  (refine ⟨_, _, Blk.ld (hp.get (i := 0) rfl) TTok rfl rfl, ?_⟩; conv => whnf)
  (refine Or.inl (And.intro (by first | omega | decide) ?_); conv => whnf)
  (refine hKq _ _ _ (.refl _) ?_; clear hKq Kq; conv => whnf)
  (refine And.intro (fun h => absurd (of_decide_eq_true h) (by first | (intro h2; exact absurd rfl h2) | omega | decide)) (fun _ => ?_); conv => whnf)
  (refine hKq _ _ _ (.refl _) ?_; clear hKq Kq; conv => whnf)
  (refine VSeq.mk fun Kq hKq => ?_; conv => whnf)
  refine v_mix TTok FFok mixed 24 [(0, false), (1, false), (2, false), (3, false), (4, false), (5, false), (6, false), (7, false), (8, false), (9, false), (10, false), (11, false), (12, false), (13, false), (14, false), (15, false), (16, false), (17, false), (18, false), (19, false), (20, false), (21, false), (22, false), (23, false)] (by kernel_rfl) ?_
  conv => whnf
  (refine ⟨_, fun w' hx' => Blk.ld (Blk.ext (hp.get (i := 0) rfl) hx') TTok rfl rfl, ?_⟩; conv => whnf)
  (refine ⟨_, fun w' hx' => Blk.ld (Blk.ext (hp.get (i := 0) rfl) hx') TTok rfl rfl, ?_⟩; conv => whnf)
  (refine ⟨_, fun w' hx' => Blk.ld (Blk.ext (hp.get (i := 0) rfl) hx') TTok rfl rfl, ?_⟩; conv => whnf)
  (refine Or.inl (And.intro (by first | omega | decide) ?_); conv => whnf)
  (refine ⟨_, _, ⟨rfl, rfl, by omega, by omega⟩, ?_⟩; conv => whnf)
  (refine V.QCallW.out ?_; (conv => arg 3; dsimp only [EV.val, List.toList_toArray, List.nil_append, List.append_nil, List.cons_append]); (with_reducible refine V.PureF.quietW (Take1_p _) ?_); conv => whnf)
  (refine ⟨_, fun w' hx' => Blk.ld (Blk.ext (hp.get (i := 0) rfl) hx') TTok rfl rfl, ?_⟩; conv => whnf)
  (refine ⟨_, fun w' hx' => Blk.ld (Blk.ext (hp.get (i := 0) rfl) hx') TTok rfl rfl, ?_⟩; conv => whnf)
  (refine Or.inl (And.intro (by first | omega | decide) ?_); conv => whnf)
  (refine ⟨_, fun w' hx' => bld126_0_1 w' _ _, ?_⟩; conv => whnf)
  (intro w hx; try (have hp := hp.call hx); conv => whnf)
  (refine hp.kstA TTok rfl 1 rfl rfl (oneC_of rfl) (by rfl) fun w hp => ?_; try simp only [List.set_cons_zero, List.set_cons_succ, EV.val] at hp; conv => whnf)
  (refine hKq _ _ _ (.refl _) ?_; clear hKq Kq; conv => whnf)
  (refine ⟨_, Blk.lvN (hp.get (i := 1) rfl) TTok rfl rfl, ?_⟩; conv => whnf)
  (exact ⟨rfl, hp.ext⟩)
theorem Uint_short (s : ByteArray) (k n : Nat) (h : k ≤ s.size) (hs : s.size ≤ 100000) (h1 : 1 ≤ n) (h7 : n ≤ 7) (hn : s.size < k + n) : PureF Tryz.prog 69 #[.agg #[.string s, .int .i64 k], .int .i64 n] (.tuple #[.int .i64 0, .agg #[.string ⟨#[]⟩, .int .i64 0], .int .i64 7]) := by
  first | refine v_pure TTok FFok Tryz.func69 rfl rfl fun w0 => ?_ | refine v_pure (args := []) TTok FFok Tryz.func69 rfl rfl fun w0 => ?_
  conv => whnf
  refine VSeq.mk fun Kq hKq => ?_
  conv => whnf
  have hp := Hp.nil w0
  (refine hp.kboxA fun q w hp hx => ?_; conv => whnf)
  (refine hp.kalloc z126 fun al126 w hp hx => ?_; conv => whnf)
  (refine hKq _ _ _ (.refl _) ?_; clear hKq Kq; conv => whnf)
  (refine VSeq.mk fun Kq hKq => ?_; conv => whnf)
  (refine ⟨_, _, Blk.ldV (vs := [_, _]) (hp.get (i := 1) rfl) TTok rfl rfl rfl, ?_⟩; conv => whnf)
  (refine V.CallW.out ?_; (conv => arg 3; dsimp only [EV.val, List.toList_toArray, List.nil_append, List.append_nil, List.cons_append]); (with_reducible refine V.PureF.useW (nextI_short _ _ _ (by omega) (by omega) (by omega) (by omega) (by omega)) fun w hx => ?_); try (have hp := hp.call hx); conv => whnf)
  (refine hp.kstA TTok rfl 0 rfl rfl (oneC_of rfl) (by rfl) fun w hp => ?_; try simp only [List.set_cons_zero, List.set_cons_succ, EV.val] at hp; conv => whnf)
  (refine hKq _ _ _ (.refl _) ?_; clear hKq Kq; conv => whnf)
  (refine ⟨_, Blk.lvN (hp.get (i := 0) rfl) TTok rfl rfl, ?_⟩; conv => whnf)
  (exact ⟨rfl, hp.ext⟩)
theorem Uint_ok (s : ByteArray) (k n : Nat) (h1 : 1 ≤ n) (h7 : n ≤ 7) (hn : k + n ≤ s.size) (hs : s.size ≤ 100000) : PureF Tryz.prog 69 #[.agg #[.string s, .int .i64 k], .int .i64 n] (.tuple #[.int .i64 (numB (s.extract k (k + n))), .agg #[.string s, .int .i64 (k + n : Nat)], .int .i64 0]) := by
  first | refine v_pure TTok FFok Tryz.func69 rfl rfl fun w0 => ?_ | refine v_pure (args := []) TTok FFok Tryz.func69 rfl rfl fun w0 => ?_
  conv => whnf
  refine VSeq.mk fun Kq hKq => ?_
  conv => whnf
  have hp := Hp.nil w0
  (refine hp.kboxA fun q w hp hx => ?_; conv => whnf)
  (refine hp.kalloc z126 fun al126 w hp hx => ?_; conv => whnf)
  (refine hKq _ _ _ (.refl _) ?_; clear hKq Kq; conv => whnf)
  (refine VSeq.mk fun Kq hKq => ?_; conv => whnf)
  (refine ⟨_, _, Blk.ldV (vs := [_, _]) (hp.get (i := 1) rfl) TTok rfl rfl rfl, ?_⟩; conv => whnf)
  (refine V.CallW.out ?_; (conv => arg 3; dsimp only [EV.val, List.toList_toArray, List.nil_append, List.append_nil, List.cons_append]); (with_reducible refine V.PureF.useW (nextI_ok _ _ _ (by omega) (by omega) (by omega) (by omega)) fun w hx => ?_); try (have hp := hp.call hx); conv => whnf)
  (refine hp.kstA TTok rfl 0 rfl rfl (oneC_of rfl) (by rfl) fun w hp => ?_; try simp only [List.set_cons_zero, List.set_cons_succ, EV.val] at hp; conv => whnf)
  (refine hKq _ _ _ (.refl _) ?_; clear hKq Kq; conv => whnf)
  (refine ⟨_, Blk.lvN (hp.get (i := 0) rfl) TTok rfl rfl, ?_⟩; conv => whnf)
  (exact ⟨rfl, hp.ext⟩)
theorem Take_short (s : ByteArray) (k n : Nat) (h : k ≤ s.size) (hs : s.size ≤ 100000) (hn : s.size < k + n) : PureF Tryz.prog 121 #[.agg #[.string s, .int .i64 k], .int .i64 n] (.tuple #[.string ⟨#[]⟩, .agg #[.string ⟨#[]⟩, .int .i64 0], .int .i64 7]) := by
  have hm : max (n : Int) 0 = n := by omega
  first | refine v_pure TTok FFok Tryz.func121 rfl rfl fun w0 => ?_ | refine v_pure (args := []) TTok FFok Tryz.func121 rfl rfl fun w0 => ?_
  conv => whnf
  refine VSeq.mk fun Kq hKq => ?_
  conv => whnf
  have hp := Hp.nil w0
  (refine hp.kboxA fun q w hp hx => ?_; conv => whnf)
  (refine hp.kalloc z126 fun al126 w hp hx => ?_; conv => whnf)
  (refine hKq _ _ _ (.refl _) ?_; clear hKq Kq; conv => whnf)
  (refine VSeq.mk fun Kq hKq => ?_; conv => whnf)
  (refine ⟨_, _, Blk.ldV (vs := [_, _]) (hp.get (i := 1) rfl) TTok rfl rfl rfl, ?_⟩; conv => whnf)
  rw [hm]
  (refine V.CallW.out ?_; (conv => arg 3; dsimp only [EV.val, List.toList_toArray, List.nil_append, List.append_nil, List.cons_append]); (with_reducible refine V.PureF.useW (nextS_short _ _ _ (by omega) (by omega) (by omega)) fun w hx => ?_); try (have hp := hp.call hx); conv => whnf)
  (refine hp.kstA TTok rfl 0 rfl rfl (oneC_of rfl) (by rfl) fun w hp => ?_; try simp only [List.set_cons_zero, List.set_cons_succ, EV.val] at hp; conv => whnf)
  (refine hKq _ _ _ (.refl _) ?_; clear hKq Kq; conv => whnf)
  (refine ⟨_, Blk.lvN (hp.get (i := 0) rfl) TTok rfl rfl, ?_⟩; conv => whnf)
  (exact ⟨rfl, hp.ext⟩)
theorem Take_ok (s : ByteArray) (k n : Nat) (hn : k + n ≤ s.size) (hs : s.size ≤ 100000) : PureF Tryz.prog 121 #[.agg #[.string s, .int .i64 k], .int .i64 n] (.tuple #[.string (s.extract k (k + n)), .agg #[.string s, .int .i64 (k + n : Nat)], .int .i64 0]) := by
  have hm : max (n : Int) 0 = n := by omega
  first | refine v_pure TTok FFok Tryz.func121 rfl rfl fun w0 => ?_ | refine v_pure (args := []) TTok FFok Tryz.func121 rfl rfl fun w0 => ?_
  conv => whnf
  refine VSeq.mk fun Kq hKq => ?_
  conv => whnf
  have hp := Hp.nil w0
  (refine hp.kboxA fun q w hp hx => ?_; conv => whnf)
  (refine hp.kalloc z126 fun al126 w hp hx => ?_; conv => whnf)
  (refine hKq _ _ _ (.refl _) ?_; clear hKq Kq; conv => whnf)
  (refine VSeq.mk fun Kq hKq => ?_; conv => whnf)
  (refine ⟨_, _, Blk.ldV (vs := [_, _]) (hp.get (i := 1) rfl) TTok rfl rfl rfl, ?_⟩; conv => whnf)
  rw [hm]
  (refine V.CallW.out ?_; (conv => arg 3; dsimp only [EV.val, List.toList_toArray, List.nil_append, List.append_nil, List.cons_append]); (with_reducible refine V.PureF.useW (nextS_ok _ _ _ (by omega) (by omega)) fun w hx => ?_); try (have hp := hp.call hx); conv => whnf)
  (refine hp.kstA TTok rfl 0 rfl rfl (oneC_of rfl) (by rfl) fun w hp => ?_; try simp only [List.set_cons_zero, List.set_cons_succ, EV.val] at hp; conv => whnf)
  (refine hKq _ _ _ (.refl _) ?_; clear hKq Kq; conv => whnf)
  (refine ⟨_, Blk.lvN (hp.get (i := 0) rfl) TTok rfl rfl, ?_⟩; conv => whnf)
  (exact ⟨rfl, hp.ext⟩)
end Go.Proofs.YtmlmfmdmomegpaaGreatDoor
