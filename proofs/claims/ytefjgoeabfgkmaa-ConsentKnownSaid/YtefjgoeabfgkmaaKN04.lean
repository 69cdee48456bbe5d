/- Chapter 02: digests, as numbers; mathematics. No program. -/
/- Chapter 02: small functions, walked: Mul64, RotateLeft32 to the left, Clone, HasPrefix. -/
/- Chapter 02: the constants. -/
/- Chapter 02: the program's constants. -/
/- Own slices, elements of one cell, whatever marks their rows bear. Own work. No program is named here. -/
/- Chapter 02: the program's constants, walked. -/
/- Chapter 02: the blocks, one after another. -/
/- Chapter 02: full blocks are mixed in. -/
/- Chapter 02: octets are added. -/
import Derived.Test.YtefjgoeabfgkmaaKN03
import Derived.Lib.UnsafeStr
import Derived.Test.YtefjgoeabfgkmaaKN02
namespace Go.Proofs.Ytefjgoeabfgkmaa
set_option linter.unusedSimpArgs false
set_option linter.unusedVariables false
open Go.RowKit V
abbrev M32 : Nat := 4294967296
def sg0 (x : Nat) : Nat := rotl x 25 ^^^ rotl x 14 ^^^ (x / 8)
def sg1 (x : Nat) : Nat := rotl x 15 ^^^ rotl x 13 ^^^ (x / 1024)
def bs1 (x : Nat) : Nat := rotl x 26 ^^^ rotl x 21 ^^^ rotl x 7
def bs0 (x : Nat) : Nat := rotl x 30 ^^^ rotl x 19 ^^^ rotl x 10
def chf (e f g : Nat) : Nat := (e &&& f) ^^^ ((4294967295 - e) &&& g)
def maj (a b c : Nat) : Nat := (a &&& b) ^^^ (a &&& c) ^^^ (b &&& c)
theorem xor_lt32 {x y : Nat} (hx : x < M32) (hy : y < M32) : x ^^^ y < M32 := Nat.xor_lt_two_pow (n := 32) hx hy
theorem and_lt32 {x y : Nat} (hx : x < M32) : x &&& y < M32 := Nat.lt_of_le_of_lt Nat.and_le_left hx
theorem sg0_lt {x : Nat} (h : x < M32) : sg0 x < M32 := xor_lt32 (xor_lt32 (rotl_lt _ _ h (by decide)) (rotl_lt _ _ h (by decide))) (Nat.lt_of_le_of_lt (Nat.div_le_self _ _) h)
theorem sg1_lt {x : Nat} (h : x < M32) : sg1 x < M32 := xor_lt32 (xor_lt32 (rotl_lt _ _ h (by decide)) (rotl_lt _ _ h (by decide))) (Nat.lt_of_le_of_lt (Nat.div_le_self _ _) h)
theorem bs1_lt {x : Nat} (h : x < M32) : bs1 x < M32 := xor_lt32 (xor_lt32 (rotl_lt _ _ h (by decide)) (rotl_lt _ _ h (by decide))) (rotl_lt _ _ h (by decide))
theorem bs0_lt {x : Nat} (h : x < M32) : bs0 x < M32 := xor_lt32 (xor_lt32 (rotl_lt _ _ h (by decide)) (rotl_lt _ _ h (by decide))) (rotl_lt _ _ h (by decide))
theorem chf_lt {e f g : Nat} (h : e < M32) (hg : g < M32) : chf e f g < M32 := xor_lt32 (and_lt32 h) (Nat.lt_of_le_of_lt Nat.and_le_right hg)
theorem maj_lt {a b c : Nat} (h : a < M32) (hb : b < M32) : maj a b c < M32 := xor_lt32 (xor_lt32 (and_lt32 h) (and_lt32 h)) (and_lt32 hb)
/-- four octets, the greatest one first -/
def be4 (s : List UInt8) (i : Nat) : Nat := (s.getD i 0).toNat * 16777216 + (s.getD (i + 1) 0).toNat * 65536 + (s.getD (i + 2) 0).toNat * 256 + (s.getD (i + 3) 0).toNat
theorem be4_lt (s : List UInt8) (i : Nat) : be4 s i < M32 := by
 have h0 := (s.getD i 0).toNat_lt; have h1 := (s.getD (i + 1) 0).toNat_lt; have h2 := (s.getD (i + 2) 0).toNat_lt; have h3 := (s.getD (i + 3) 0).toNat_lt
 unfold be4 M32; omega
/-- the first n words of a block's schedule -/
def wnext (b : List UInt8) (l : List Nat) (t : Nat) : Nat := if t < 16 then be4 b (4 * t) else (l.getD (t - 16) 0 + l.getD (t - 7) 0 + sg0 (l.getD (t - 15) 0) + sg1 (l.getD (t - 2) 0)) % M32
def wsch (b : List UInt8) : Nat → List Nat
 | 0 => []
 | t + 1 => wsch b t ++ [wnext b (wsch b t) t]
theorem wsch_len (b : List UInt8) : ∀ t, (wsch b t).length = t
 | 0 => rfl
 | t + 1 => by rw [wsch, List.length_append, wsch_len b t]; rfl
theorem getD_lt32 {l : List Nat} (h : ∀ x ∈ l, x < M32) (i : Nat) : l.getD i 0 < M32 := by
 rw [List.getD_eq_getElem?_getD]
 cases hi : l[i]? with
 | none => exact by decide
 | some x => exact h x (List.mem_of_getElem? hi)
theorem wnext_lt (b : List UInt8) (l : List Nat) (t : Nat) : wnext b l t < M32 := by
 unfold wnext
 split
 ·exact be4_lt _ _
 ·exact Nat.mod_lt _ (by decide)
theorem wsch_lt (b : List UInt8) : ∀ t, ∀ x ∈ wsch b t, x < M32
 | 0 => by simp [wsch]
 | t + 1 => fun x hx => by
  rw [wsch, List.mem_append] at hx
  rcases hx with h | h
  ·exact wsch_lt b t x h
  ·rw [List.mem_singleton] at h; rw [h]; exact wnext_lt _ _ _
/-- a round -/
def one (v : List Nat) (k w : Nat) : Nat := (v.getD 7 0 + bs1 (v.getD 4 0) + chf (v.getD 4 0) (v.getD 5 0) (v.getD 6 0) + k + w) % M32
def two (v : List Nat) : Nat := (bs0 (v.getD 0 0) + maj (v.getD 0 0) (v.getD 1 0) (v.getD 2 0)) % M32
def rnd8 (v : List Nat) (k w : Nat) : List Nat := [(one v k w + two v) % M32, v.getD 0 0, v.getD 1 0, v.getD 2 0, (v.getD 3 0 + one v k w) % M32, v.getD 4 0, v.getD 5 0, v.getD 6 0]
def W8 (v : List Nat) : Prop := v.length = 8 ∧ ∀ x ∈ v, x < M32
theorem W8.get {v : List Nat} (h : W8 v) (i : Nat) : v.getD i 0 < M32 := getD_lt32 h.2 i
theorem W8.rnd {v : List Nat} (h : W8 v) (k w : Nat) : W8 (rnd8 v k w) := by
 refine ⟨rfl, fun x hx => ?_⟩
 have := h.get
 simp only [rnd8, List.mem_cons, List.not_mem_nil, or_false] at hx
 rcases hx with rfl | rfl | rfl | rfl | rfl | rfl | rfl | rfl <;> first | exact Nat.mod_lt _ (by decide) | exact this _
def rnds (K W : List Nat) (v : List Nat) : Nat → List Nat
 | 0 => v
 | t + 1 => rnd8 (rnds K W v t) (K.getD t 0) (W.getD t 0)
theorem rnds_W8 (K W : List Nat) {v : List Nat} (h : W8 v) : ∀ t, W8 (rnds K W v t)
 | 0 => h
 | t + 1 => (rnds_W8 K W h t).rnd _ _
/-- a block is mixed in -/
def addW (h v : List Nat) : List Nat := (List.range 8).map fun i => (h.getD i 0 + v.getD i 0) % M32
theorem addW_W8 (h v : List Nat) : W8 (addW h v) := by
 refine ⟨by simp [addW], fun x hx => ?_⟩
 obtain ⟨i, _, rfl⟩ := List.mem_map.1 hx
 exact Nat.mod_lt _ (by decide)
def mix1 (K h : List Nat) (b : List UInt8) : List Nat := addW h (rnds K (wsch b 64) h 64)
/-- the first n blocks of octets -/
def mixJ (K : List Nat) (s : List UInt8) (h : List Nat) : Nat → List Nat
 | 0 => h
 | n + 1 => mix1 K (mixJ K s h n) ((s.drop (64 * n)).take 64)
def mixA (K h : List Nat) (s : List UInt8) : List Nat := mixJ K s h (s.length / 64)
theorem mixJ_W8 (K : List Nat) (s : List UInt8) {h : List Nat} (hh : W8 h) : ∀ n, W8 (mixJ K s h n)
 | 0 => hh
 | n + 1 => addW_W8 _ _
theorem mixA_W8 (K : List Nat) {h : List Nat} (hh : W8 h) (s : List UInt8) : W8 (mixA K h s) := mixJ_W8 K s hh _
theorem mixJ_add (K : List Nat) (s : List UInt8) (h : List Nat) (a : Nat) : ∀ n, mixJ K s h (a + n) = mixJ K (s.drop (64 * a)) (mixJ K s h a) n
 | 0 => rfl
 | n + 1 => by
  rw [← Nat.add_assoc, mixJ, mixJ, mixJ_add K s h a n, List.drop_drop, Nat.mul_add]
theorem mixJ_pre (K : List Nat) (s t : List UInt8) (h : List Nat) : ∀ n, 64 * n ≤ s.length → mixJ K (s ++ t) h n = mixJ K s h n
 | 0, _ => rfl
 | n + 1, hn => by
  rw [mixJ, mixJ, mixJ_pre K s t h n (by omega), List.drop_append_of_le_length (by omega), List.take_append_of_le_length (by rw [List.length_drop]; omega)]
/-- full blocks first, the rest behind them -/
theorem mixA_app (K : List Nat) (s t : List UInt8) (h : List Nat) (hs : s.length % 64 = 0) : mixA K h (s ++ t) = mixA K (mixA K h s) t := by
 obtain ⟨a, ha⟩ : ∃ a, s.length = 64 * a := ⟨s.length / 64, by omega⟩
 unfold mixA
 rw [List.length_append, show (s.length + t.length) / 64 = a + t.length / 64 by omega, show s.length / 64 = a by omega, mixJ_add, mixJ_pre K s t h a (by omega)]
 rw [List.drop_append_of_le_length (by omega), List.drop_eq_nil_of_le (by omega), List.nil_append]
theorem mixA_full (K h : List Nat) (s : List UInt8) : mixA K h (s.take (s.length / 64 * 64)) = mixA K h s := by
 have e : s = s.take (s.length / 64 * 64) ++ s.drop (s.length / 64 * 64) := (List.take_append_drop _ _).symm
 have hl : (s.take (s.length / 64 * 64)).length = s.length / 64 * 64 := by rw [List.length_take]; omega
 unfold mixA
 rw [hl, Nat.mul_div_cancel _ (by decide)]
 conv => rhs; rw [e]
 rw [List.length_append, hl, List.length_drop, show (s.length / 64 * 64 + (s.length - s.length / 64 * 64)) / 64 = s.length / 64 by omega, mixJ_pre K _ _ h _ (by rw [hl]; omega)]
/-- what is left over -/
def rest (s : List UInt8) : List UInt8 := s.drop (s.length / 64 * 64)
theorem rest_len (s : List UInt8) : (rest s).length = s.length % 64 := by unfold rest; rw [List.length_drop]; omega
theorem rest_app (p x : List UInt8) (hp : p.length % 64 = 0) : rest (p ++ x) = rest x := by
 unfold rest
 rw [List.length_append, show (p.length + x.length) / 64 * 64 = p.length + x.length / 64 * 64 by omega, ← List.drop_drop, List.drop_left]
/-- more octets behind some -/
theorem mix_more (K h : List Nat) (a s : List UInt8) : mixA K (mixA K h a) (rest a ++ s) = mixA K h (a ++ s) ∧ rest (rest a ++ s) = rest (a ++ s) := by
 have hl : (a.take (a.length / 64 * 64)).length = a.length / 64 * 64 := by rw [List.length_take]; omega
 have e : a ++ s = a.take (a.length / 64 * 64) ++ (rest a ++ s) := by rw [← List.append_assoc]; unfold rest; rw [List.take_append_drop]
 constructor
 ·rw [e, mixA_app K _ _ h (by rw [hl]; omega), mixA_full]
 ·conv => rhs; rw [e]
  rw [rest_app (a.take (a.length / 64 * 64)) (rest a ++ s) (by rw [hl]; omega)]
/-- eight octets of a number, the greatest one first -/
def be8 (n : Nat) : List UInt8 := (List.range 8).map fun i => UInt8.ofNat (n / 2 ^ (56 - 8 * i))
def closing (l : Nat) (n : Nat) : List UInt8 := (128 : UInt8) :: (List.replicate ((119 - l) % 64) 0 ++ be8 (n * 8))
/-- the octets of words -/
def out4 (w : Nat) : List UInt8 := [UInt8.ofNat (w / 16777216), UInt8.ofNat (w / 65536), UInt8.ofNat (w / 256), UInt8.ofNat w]
def outW (h : List Nat) : List UInt8 := h.flatMap out4
theorem outW_len : ∀ h : List Nat, (outW h).length = 4 * h.length
 | [] => rfl
 | x :: h => by
  have := outW_len h
  unfold outW at *
  rw [List.flatMap_cons, List.length_append, this, List.length_cons]
  show 4 + _ = _
  omega
/-- the digest of what words and left octets stand for -/
def endL (K h : List Nat) (tail : List UInt8) (n : Nat) : List UInt8 := outW (mixA K h (tail ++ closing tail.length n))
theorem endL_len (K : List Nat) {h : List Nat} (hh : W8 h) (tail : List UInt8) (n : Nat) : (endL K h tail n).length = 32 := by
 unfold endL; rw [outW_len, (mixA_W8 K hh _).1]
/-- the digest -/
def sumL2 (K S : List Nat) (s : List UInt8) : List UInt8 := endL K (mixA K S s) (rest s) s.length
set_option maxRecDepth 100000
theorem Mul64_p (x y : Nat) (hx : x < 18446744073709551616) (hy : y < 18446744073709551616) : PureF Try.prog 42 #[.int .u64 x, .int .u64 y] (.tuple #[.int .u64 (x * y / 18446744073709551616 : Nat), .int .u64 (x * y % 18446744073709551616 : Nat)]) := fun w =>
 (Any.bits_Mul64 lays264 x y hx hy w).mono fun e w' ⟨h1, h2⟩ => ⟨h1, by rw [h2]; exact Ext.refl _⟩
def TR : V.Tab := TT.filter fun x => !Nat.beq x.1 70
theorem TRok : V.tabOk Try.prog TR = true := by kernel_rfl
theorem conv_neg (k : Nat) (h1 : 1 ≤ k) (h2 : k ≤ 31) (w : World) : (convert 3 70 (.int .i64 (-(k : Int)))).run Try.prog w = .ok (.int .u64 (18446744073709551616 - k : Nat)) w := by
 have e : IntKind.u64.wrap (-(k : Int)) = ((18446744073709551616 - k : Nat) : Int) := by
  show (-(k : Int)) % 18446744073709551616 = _
  omega
 rw [← e]
 simp only [convert, Sem.run_bind, V.run_underlying (tab_int TTok (t := 3) rfl), V.run_underlying (tab_int TTok (t := 70) rfl), Result.andThen]
 rfl
theorem rotN_p (x k : Nat) (hx : x < 4294967296) (h1 : 1 ≤ k) (h2 : k ≤ 31) : PureF Try.prog 99 #[.int .u32 x, .int .i64 (-(k : Int))] (.int .u32 (rotl x (32 - k) : Nat)) := by
 have hor : (x * 2 ^ (32 - k) % 4294967296) ||| (x / 2 ^ k) = rotl x (32 - k) := by
  unfold rotl
  rw [show 32 - (32 - k) = k by omega]
  refine nat_join (32 - k) _ _ ?_ ?_
  ·rw [show 4294967296 = 2 ^ (32 - k) * 2 ^ k by rw [← Nat.pow_add, show (32 - k) + k = 32 by omega], Nat.mul_comm x, Nat.mul_mod_mul_left, Nat.mul_mod_right]
  ·refine Nat.div_lt_of_lt_mul ?_
   rw [← Nat.pow_add, show k + (32 - k) = 32 by omega]; exact hx
 have hdv : x / 2 ^ k ≤ x := Nat.div_le_self _ _
 have hand : (18446744073709551616 - k) &&& 31 = 32 - k := by
  have := Nat.and_two_pow_sub_one_eq_mod (18446744073709551616 - k) 5
  rw [show 2 ^ 5 - 1 = 31 from rfl, show (2 : Nat) ^ 5 = 32 from rfl] at this
  rw [this]; omega
 refine v_pure (T := TR) TRok FFok Try.func99 rfl rfl fun w0 => ?_
 conv => whnf
 refine VSeq.mk fun Kq hKq => ?_
 conv => whnf
 refine hKq _ _ _ (.refl _) ?_
 clear hKq Kq
 conv => whnf
 refine VSeq.mk fun Kq hKq => ?_
 conv => whnf
 refine ⟨.int .u64 (18446744073709551616 - k : Nat), w0, conv_neg k h1 h2 w0, ?_⟩
 conv => whnf
 refine ⟨18446744073709551616 - k, 31, 32 - k, ⟨by first | rfl | omega, by first | rfl | omega, by omega, by omega⟩, by (dsimp only; exact hand), ?_⟩
 conv => whnf
 refine hKq _ _ _ (.refl _) ?_
 clear hKq Kq
 conv => whnf
 refine VSeq.mk fun Kq hKq => ?_
 conv => whnf
 refine ⟨32 - k, ⟨by first | rfl | omega, by omega⟩, ?_⟩
 conv => whnf
 refine ⟨k, ⟨by first | rfl | omega, by omega⟩, ?_⟩
 conv => whnf
 refine ⟨x * 2 ^ (32 - k) % 4294967296, x / 2 ^ k, rotl x (32 - k), ⟨by first | rfl | omega, by first | rfl | omega, by omega, by omega⟩, by (dsimp only; exact hor), ?_⟩
 conv => whnf
 refine hKq _ _ _ (.refl _) ?_
 clear hKq Kq
 conv => whnf
 exact ⟨rfl, Ext.refl _⟩
theorem Ext_freeze {a w : World} (h : Ext a w) (g n : Nat) (hg : a.heap.size ≤ g) : Ext a (w.freeze ⟨g, 0, none⟩ n) := by
 unfold World.freeze
 split
 ·exact h
 ·exact Below.trans (show Below a.heap.size a w from h) ⟨rfl, rfl, rfl, by simp, fun k hk => by
   simp only [Array.getElem?_modify]
   rw [if_neg (by omega)]⟩
theorem clone_p (s : ByteArray) (hs : s.size ≤ 1000000) : PureF Try.prog 100 #[.string s] (.string s) := by
 have hsl : s.data.toList.length = s.size := by simp
 first | refine v_pure TTok FFok Try.func100 rfl rfl fun w0 => ?_ | refine v_pure (args := []) TTok FFok Try.func100 rfl rfl fun w0 => ?_
 conv => whnf
 refine VSeq.mk fun Kq hKq => ?_
 conv => whnf
 refine hKq _ _ _ (.refl _) ?_
 clear hKq Kq
 conv => whnf
 refine VSeq.mk fun Kq hKq => ?_
 conv => whnf
 refine VSeq.mk fun Kq hKq => ?_
 conv => whnf
 refine hKq _ _ _ (.refl _) ?_
 clear hKq Kq
 conv => whnf
 have hp := Hp.nil w0
 refine ⟨fun h0 => ?_, fun h0 => ?_⟩
 ·have h0 := of_decide_eq_true h0
  conv => whnf
  refine VSeq.mk fun Kq hKq => ?_
  conv => whnf
  refine hKq _ _ _ (.refl _) ?_
  clear hKq Kq
  conv => whnf
  refine ⟨?_, hp.ext⟩
  have : s = ⟨#[]⟩ := by
   apply ba_eq
   exact List.eq_nil_of_length_eq_zero (by omega)
  rw [this]; rfl
 ·have h0 := of_decide_eq_false h0
  conv => whnf
  refine hKq _ _ _ (.refl _) ?_
  clear hKq Kq
  conv => whnf
  refine VSeq.mk fun Kq hKq => ?_
  conv => whnf
  refine hp.kmkS sl67 z5 s.size (by omega) (by unfold maxLen; omega) fun b w hp hx => ?_
  conv => whnf
  refine hKq _ _ _ (.refl _) ?_
  clear hKq Kq
  conv => whnf
  refine VSeq.mk fun Kq hKq => ?_
  conv => whnf
  refine hp.kcopyS sl67 0 rfl s (bytesV s.data.toList) (by rw [List.take_of_length_le (by omega)]) (by rw [bytesV_len, List.length_replicate]; omega) fun w hp => ?_
  simp only [List.set_cons_zero] at hp
  rw [List.drop_eq_nil_of_le (by rw [bytesV_len, List.length_replicate]; omega), List.append_nil] at hp
  conv => whnf
  refine hKq _ _ _ (.refl _) ?_
  clear hKq Kq
  conv => whnf
  refine VSeq.mk fun Kq hKq => ?_
  conv => whnf
  refine ⟨0, ⟨by first | rfl | omega, by omega⟩, ?_⟩
  conv => whnf
  have hl0 : s.data.toList ≠ [] := fun h => by rw [h] at hsl; simp at hsl; omega
  have hb : Blk w b (bytesV s.data.toList) 5 := hp.get (i := 0) rfl
  have hu := Go.Lib.run_unsafeString_row (P := Try.prog) (w := w) 98 3 9 5 (by kernel_rfl) (by kernel_rfl) b s.size (by obtain ⟨f, hf, hh⟩ := hb; simp [World.shape?, hh, bytesV_len, hsl]) s.data.toList hl0 (by omega) (by omega) (fun j x hj => by rw [add_none, Nat.zero_add, hb.cell]; exact bytesV_get hj)
  rw [hsl] at hu
  refine ⟨_, _, hu, ?_⟩
  conv => whnf
  refine hKq _ _ _ (.refl _) ?_
  clear hKq Kq
  conv => whnf
  refine ⟨rfl, Ext_freeze hp.ext b _ ?_⟩
  have := (hp.lo _ (List.mem_cons_self) b rfl).1
  rcases this with h | h
  ·cases h
  ·exact h
theorem Clone_p (s : ByteArray) (hs : s.size ≤ 1000000) : PureF Try.prog 97 #[.string s] (.string s) := by
 first | refine v_pure TTok FFok Try.func97 rfl rfl fun w0 => ?_ | refine v_pure (args := []) TTok FFok Try.func97 rfl rfl fun w0 => ?_
 conv => whnf
 refine VSeq.mk fun Kq hKq => ?_
 conv => whnf
 refine hKq _ _ _ (.refl _) ?_
 clear hKq Kq
 conv => whnf
 refine VSeq.mk fun Kq hKq => ?_
 conv => whnf
 have hp := Hp.nil w0
 refine PureF.use (clone_p s hs) fun w hx => ?_
 try (have hp := hp.call hx)
 conv => whnf
 refine hKq _ _ _ (.refl _) ?_
 clear hKq Kq
 conv => whnf
 exact ⟨rfl, hp.ext⟩
abbrev M64 : Nat := 18446744073709551616
def cubE (p x : Nat) : Bool := decide ((x * x / M64 * x + x * x % M64 * x / M64) < p * 4294967296) || (decide ((x * x / M64 * x + x * x % M64 * x / M64) = p * 4294967296) && decide (x * x % M64 * x % M64 = 0))
def sqrE (p x : Nat) : Bool := decide (x * x / M64 < p) || (decide (x * x / M64 = p) && decide (x * x % M64 = 0))
/-- the greatest number for which it is true, bit by bit -/
def frJ (E : Nat → Bool) : Nat → Nat
 | 0 => 0
 | j + 1 => if E (frJ E j ||| 68719476736 / 2 ^ j) = true then frJ E j ||| 68719476736 / 2 ^ j else frJ E j
theorem frJ_lt (E : Nat → Bool) : ∀ j, j ≤ 37 → frJ E j < 137438953472
 | 0, _ => by rw [frJ]; decide
 | j + 1, h => by
  have ih := frJ_lt E j (by omega)
  rw [frJ]
  split
  ·exact Nat.or_lt_two_pow (n := 37) ih (Nat.lt_of_le_of_lt (Nat.div_le_self _ _) (by decide))
  ·exact ih
def frN (E : Nat → Bool) : Nat := frJ E 37 % 4294967296
theorem sq_lt {x : Nat} (hx : x < 137438953472) : x * x < 18889465931478580854784 := Nat.mul_lt_mul'' hx hx
set_option maxHeartbeats 4000000 in
theorem cube_c {w : World} (x p qp : Nat) (hx : x < 137438953472) (hp31 : p < 2147483648) (hb : Blk w qp [.int .u64 p] 95) :
  Calls Try.prog 90 #[.int .u64 x, .pointer (some ⟨qp, 0, none⟩)] w fun e w' => e = .returned (.bool (cubE p x)) ∧ Ext w w' := by
 have hsq := sq_lt hx
 have m1 := Mul64_p x x (by omega) (by omega)
 have hlo : x * x % M64 < M64 := Nat.mod_lt _ (by decide)
 have hhi : x * x / M64 < 1024 := Nat.div_lt_of_lt_mul (by omega)
 have m2 := Mul64_p (x * x % M64) x (by omega) (by omega)
 unfold cubE
 obtain ⟨hi, hhd⟩ : ∃ hi, x * x / M64 = hi := ⟨_, rfl⟩
 obtain ⟨lo, hld⟩ : ∃ lo, x * x % M64 = lo := ⟨_, rfl⟩
 rw [hhd] at m1 hhi ⊢
 rw [hld] at m1 m2 hlo ⊢
 have htop : lo * x / M64 < 137438953472 := Nat.div_lt_of_lt_mul (Nat.mul_lt_mul'' hlo hx)
 obtain ⟨top, htd⟩ : ∃ top, lo * x / M64 = top := ⟨_, rfl⟩
 obtain ⟨a, had⟩ : ∃ a, lo * x % M64 = a := ⟨_, rfl⟩
 rw [htd] at m2 htop ⊢
 rw [had] at m2 ⊢
 have hhx : hi * x < 140737488355328 := Nat.mul_lt_mul'' hhi hx
 have hhxI : (hi : Int) * (x : Int) = ((hi * x : Nat) : Int) := (Int.natCast_mul hi x).symm
 clear hhd hld htd had hsq hlo
 refine v_reads TTok FFok Try.func90 rfl rfl ?_
 conv => whnf
 refine VSeq.mk fun Kq hKq => ?_
 conv => whnf
 refine hKq _ _ _ (.refl _) ?_
 clear hKq Kq
 conv => whnf
 refine VSeq.mk fun Kq hKq => ?_
 conv => whnf
 have hp := Hp.nil w
 refine PureF.use (m1) fun w hx => ?_
 try (have hp := hp.call hx)
 conv => whnf
 refine hKq _ _ _ (.refl _) ?_
 clear hKq Kq
 conv => whnf
 refine VSeq.mk fun Kq hKq => ?_
 conv => whnf
 refine PureF.use (m2) fun w hx => ?_
 try (have hp := hp.call hx)
 conv => whnf
 refine hKq _ _ _ (.refl _) ?_
 clear hKq Kq
 conv => whnf
 refine VSeq.mk fun Kq hKq => ?_
 conv => whnf
 refine hKq _ _ _ (.refl _) ?_
 clear hKq Kq
 conv => whnf
 refine VSeq.mk fun Kq hKq => ?_
 conv => whnf
 refine VSeq.mk fun Kq hKq => ?_
 conv => whnf
 rw [show ((hi : Int) * (x : Int) % 18446744073709551616 + (top : Int)) % 18446744073709551616 = ((hi * x + top : Nat) : Int) by omega]
 refine ⟨_, _, Blk.ld (hb.ext hp.ext) TTok rfl (rfl), ?_⟩
 conv => whnf
 refine ⟨32, ⟨by first | rfl | omega, by omega⟩, ?_⟩
 conv => whnf
 refine hKq _ _ _ (.refl _) ?_
 clear hKq Kq
 conv => whnf
 have hpe : ((p : Nat) : Int) * 2 ^ 32 % 18446744073709551616 = ((p * 4294967296 : Nat) : Int) := by omega
 rw [hpe]
 obtain ⟨Y, hY⟩ : ∃ Y, hi * x + top = Y := ⟨_, rfl⟩
 obtain ⟨Q, hQ⟩ : ∃ Q, p * 4294967296 = Q := ⟨_, rfl⟩
 rw [hQ] at hpe
 rw [hY, hQ]
 refine ⟨fun h1 => ?_, fun h1 => ?_⟩
 ·have h1 := of_decide_eq_true h1
  conv => whnf
  refine hKq _ _ _ (.refl _) ?_
  clear hKq Kq
  conv => whnf
  refine ⟨?_, hp.ext⟩
  rw [hY, hQ, decide_eq_true (show Y < Q by omega), Bool.true_or]
  rfl
 ·have h1 := of_decide_eq_false h1
  conv => whnf
  refine ⟨_, _, Blk.ld (hb.ext hp.ext) TTok rfl (rfl), ?_⟩
  conv => whnf
  refine ⟨32, ⟨by first | rfl | omega, by omega⟩, ?_⟩
  conv => whnf
  rw [hpe]
  refine ⟨fun h2 => ?_, fun h2 => ?_⟩
  ·have h2 := of_decide_eq_true h2
   conv => whnf
   refine hKq _ _ _ (.refl _) ?_
   clear hKq Kq
   conv => whnf
   refine ⟨?_, hp.ext⟩
   rw [hY, hQ, decide_eq_false (show ¬ Y < Q by omega), Bool.false_or, decide_eq_true (show Y = Q by omega), Bool.true_and]
   show Value.bool (decide ((a : Int) = 0)) = _
   exact congrArg Value.bool (decide_eq_decide.2 (by omega))
  ·have h2 := of_decide_eq_false h2
   conv => whnf
   refine hKq _ _ _ (.refl _) ?_
   clear hKq Kq
   conv => whnf
   refine ⟨?_, hp.ext⟩
   rw [hY, hQ, decide_eq_false (show ¬ Y < Q by omega), Bool.false_or, decide_eq_false (show ¬ Y = Q by omega), Bool.false_and]
   first | rfl | (show Value.bool (decide ((Y : Int) = (Q : Int))) = _; exact congrArg Value.bool (decide_eq_false (by omega)))
set_option maxHeartbeats 4000000 in
theorem sqr_c {w : World} (x p qp : Nat) (hx : x < 137438953472) (hp31 : p < 2147483648) (hb : Blk w qp [.int .u64 p] 95) :
  Calls Try.prog 91 #[.int .u64 x, .pointer (some ⟨qp, 0, none⟩)] w fun e w' => e = .returned (.bool (sqrE p x)) ∧ Ext w w' := by
 have m1 := Mul64_p x x (by omega) (by omega)
 unfold sqrE
 obtain ⟨hi, hhd⟩ : ∃ hi, x * x / M64 = hi := ⟨_, rfl⟩
 obtain ⟨lo, hld⟩ : ∃ lo, x * x % M64 = lo := ⟨_, rfl⟩
 rw [hhd, hld] at m1 ⊢
 clear hhd hld
 refine v_reads TTok FFok Try.func91 rfl rfl ?_
 conv => whnf
 refine VSeq.mk fun Kq hKq => ?_
 conv => whnf
 refine hKq _ _ _ (.refl _) ?_
 clear hKq Kq
 conv => whnf
 refine VSeq.mk fun Kq hKq => ?_
 conv => whnf
 have hp := Hp.nil w
 refine PureF.use (m1) fun w hx => ?_
 try (have hp := hp.call hx)
 conv => whnf
 refine hKq _ _ _ (.refl _) ?_
 clear hKq Kq
 conv => whnf
 refine VSeq.mk fun Kq hKq => ?_
 conv => whnf
 refine VSeq.mk fun Kq hKq => ?_
 conv => whnf
 refine ⟨_, _, Blk.ld (hb.ext hp.ext) TTok rfl (rfl), ?_⟩
 conv => whnf
 refine hKq _ _ _ (.refl _) ?_
 clear hKq Kq
 conv => whnf
 refine ⟨fun h1 => ?_, fun h1 => ?_⟩
 ·have h1 := of_decide_eq_true h1
  conv => whnf
  refine hKq _ _ _ (.refl _) ?_
  clear hKq Kq
  conv => whnf
  refine ⟨?_, hp.ext⟩
  rw [decide_eq_true (show hi < p by omega), Bool.true_or]
  rfl
 ·have h1 := of_decide_eq_false h1
  conv => whnf
  refine ⟨_, _, Blk.ld (hb.ext hp.ext) TTok rfl (rfl), ?_⟩
  conv => whnf
  refine ⟨fun h2 => ?_, fun h2 => ?_⟩
  ·have h2 := of_decide_eq_true h2
   conv => whnf
   refine hKq _ _ _ (.refl _) ?_
   clear hKq Kq
   conv => whnf
   refine ⟨?_, hp.ext⟩
   rw [decide_eq_false (show ¬ hi < p by omega), Bool.false_or, decide_eq_true (show hi = p by omega), Bool.true_and]
   show Value.bool (decide ((lo : Int) = 0)) = _
   exact congrArg Value.bool (decide_eq_decide.2 (by omega))
  ·have h2 := of_decide_eq_false h2
   conv => whnf
   refine hKq _ _ _ (.refl _) ?_
   clear hKq Kq
   conv => whnf
   refine ⟨?_, hp.ext⟩
   rw [decide_eq_false (show ¬ hi < p by omega), Bool.false_or, decide_eq_false (show ¬ hi = p by omega), Bool.false_and]
   first | rfl | (show Value.bool (decide ((hi : Int) = (p : Int))) = _; exact congrArg Value.bool (decide_eq_false (by omega)))
theorem bit_pos : ∀ j, j < 37 → 0 < 68719476736 / 2 ^ j := by decide +kernel
theorem bit_end : 68719476736 / 2 ^ 37 = 0 := by decide
set_option maxHeartbeats 4000000 in
theorem fraction_cube {w0 : World} (p qp : Nat) (hp31 : p < 2147483648) (hb : Blk w0 qp [.int .u64 p] 95) :
  Calls Try.prog 89 #[.func (.func 90) #[] #[.pointer (some ⟨qp, 0, none⟩)]] w0 fun e w' => e = .returned (.int .u32 (frN (cubE p) : Nat)) ∧ Ext w0 w' := by
 refine v_reads TTok FFok Try.func89 rfl rfl ?_
 conv => whnf
 refine VSeq.mk fun Kq hKq => ?_
 conv => whnf
 refine hKq _ _ _ (.refl _) ?_
 clear hKq Kq
 conv => whnf
 refine VSeq.mk fun Kq hKq => ?_
 conv => whnf
 refine hKq _ _ _ (.refl _) ?_
 clear hKq Kq
 conv => whnf
 refine VSeq.mk fun Kq hKq => ?_
 conv => whnf
 refine VSeq.mk fun Kq hKq => ?_
 conv => whnf
 refine hKq _ _ _ (.refl _) ?_
 clear hKq Kq
 conv => whnf
 have hp := Hp.nil w0
 refine ⟨fun m e w' => ∃ (j : Nat), m + j = 37 ∧ e = [(0, .v (.func (.func 90) #[] #[.pointer (some ⟨qp, 0, none⟩)])), (3, .v (.int .u64 (frJ (cubE p) j : Nat))), (4, .v (.int .u64 (68719476736 / 2 ^ j : Nat)))] ∧ Hp w0 w' [],
  ⟨37, _, ⟨0, by omega, rfl, hp⟩, sub_cons rfl (sub_cons rfl (sub_cons rfl sub_nil))⟩, ?_⟩
 clear hp
 repeat clear hp
 rintro m _ w ⟨j, hm, rfl, hp⟩
 have hx := frJ_lt (cubE p) j (by omega)
 have hbe : 68719476736 / 2 ^ j < 137438953472 := Nat.lt_of_le_of_lt (Nat.div_le_self _ _) (by decide)
 conv => whnf
 refine VSeq.mk fun Kq hKq => ?_
 conv => whnf
 refine VSeq.mk fun Kq hKq => ?_
 conv => whnf
 refine hKq _ _ _ (.refl _) ?_
 clear hKq Kq
 conv => whnf
 refine ⟨fun hlt => ?_, fun hlt => ?_⟩
 ·have hlt := of_decide_eq_true hlt
  conv => whnf
  refine hKq _ _ _ (.refl _) ?_
  clear hKq Kq
  conv => whnf
  refine VSeq.mk fun Kq hKq => ?_
  conv => whnf
  refine VSeq.mk fun Kq hKq => ?_
  conv => whnf
  have hj : j < 37 := by
   rcases Nat.lt_or_ge j 37 with h | h
   ·exact h
   ·obtain rfl : j = 37 := by omega
    rw [bit_end] at hlt; omega
  have hs : frJ (cubE p) (j + 1) = if cubE p (frJ (cubE p) j ||| 68719476736 / 2 ^ j) = true then frJ (cubE p) j ||| 68719476736 / 2 ^ j else frJ (cubE p) j := rfl
  have hdv : 68719476736 / 2 ^ (j + 1) = 68719476736 / 2 ^ j / 2 := by rw [Nat.div_div_eq_div_mul]; rfl
  obtain ⟨X, hX⟩ : ∃ X, frJ (cubE p) j = X := ⟨_, rfl⟩
  obtain ⟨B, hB⟩ : ∃ B, 68719476736 / 2 ^ j = B := ⟨_, rfl⟩
  rw [hX, hB] at hs
  rw [hX] at hx ⊢
  rw [hB] at hbe hdv ⊢
  have hor : X ||| B < 137438953472 := Nat.or_lt_two_pow (n := 37) hx hbe
  have hc := cube_c (X ||| B) p qp hor hp31 (hb.ext hp.ext)
  refine ⟨X, B, X ||| B, ⟨by first | rfl | omega, by first | rfl | omega, by omega, by omega⟩, rfl, ?_⟩
  conv => whnf
  cases hE : cubE p (X ||| B) with
  | true =>
   rw [hE] at hc hs
   rw [if_pos rfl] at hs
   refine V.CallsUse (hc) fun w hx => ?_
   try (have hp := hp.call hx)
   conv => whnf
   refine hKq _ _ _ (.refl _) ?_
   clear hKq Kq
   conv => whnf
   refine And.intro (fun _ => ?_) (fun h => by cases h)
   conv => whnf
   refine ⟨X, B, X ||| B, ⟨by first | rfl | omega, by first | rfl | omega, by omega, by omega⟩, rfl, ?_⟩
   conv => whnf
   refine hKq _ _ _ (.refl _) ?_
   clear hKq Kq
   conv => whnf
   refine ⟨1, ⟨by first | rfl | omega, by omega⟩, ?_⟩
   conv => whnf
   rw [show ((B : Nat) : Int) / 2 ^ 1 = ((B / 2 : Nat) : Int) by omega, ← hdv, ← hs]
   exact ⟨m - 1, _, by omega, ⟨j + 1, by omega, rfl, hp⟩, sub_cons rfl (sub_cons rfl (sub_cons rfl sub_nil))⟩
  | false =>
   rw [hE] at hc hs
   rw [if_neg (by decide)] at hs
   refine V.CallsUse (hc) fun w hx => ?_
   try (have hp := hp.call hx)
   conv => whnf
   refine hKq _ _ _ (.refl _) ?_
   clear hKq Kq
   conv => whnf
   refine And.intro (fun h => by cases h) (fun _ => ?_)
   conv => whnf
   refine hKq _ _ _ (.refl _) ?_
   clear hKq Kq
   conv => whnf
   refine ⟨1, ⟨by first | rfl | omega, by omega⟩, ?_⟩
   conv => whnf
   rw [show ((B : Nat) : Int) / 2 ^ 1 = ((B / 2 : Nat) : Int) by omega, ← hdv, ← hs]
   exact ⟨m - 1, _, by omega, ⟨j + 1, by omega, rfl, hp⟩, sub_cons rfl (sub_cons rfl (sub_cons rfl sub_nil))⟩
 ·have hlt := of_decide_eq_false hlt
  conv => whnf
  clear hKq Kq
  refine hKq _ _ _ (.refl _) ?_
  clear hKq Kq
  conv => whnf
  refine VSeq.mk fun Kq hKq => ?_
  conv => whnf
  have hj : j = 37 := by
   rcases Nat.lt_or_ge j 37 with h | h
   ·have := bit_pos j h; omega
   ·omega
  subst hj
  unfold frN
  obtain ⟨X, hX⟩ : ∃ X, frJ (cubE p) 37 = X := ⟨_, rfl⟩
  rw [hX] at hx ⊢
  have hand : X &&& 4294967295 = X % 4294967296 := Nat.and_two_pow_sub_one_eq_mod X 32
  refine ⟨X, 4294967295, X % 4294967296, ⟨by first | rfl | omega, by first | rfl | omega, by omega, by omega⟩, by (dsimp only; exact hand), ?_⟩
  conv => whnf
  refine hKq _ _ _ (.refl _) ?_
  clear hKq Kq
  conv => whnf
  refine ⟨?_, hp.ext⟩
  show Value.int .u32 (((X % 4294967296 : Nat) : Int) % 4294967296) = _
  unfold frN
  rw [hX, show (((X % 4294967296 : Nat) : Int) % 4294967296) = ((X % 4294967296 : Nat) : Int) by omega]
set_option maxHeartbeats 4000000 in
theorem fraction_sqr {w0 : World} (p qp : Nat) (hp31 : p < 2147483648) (hb : Blk w0 qp [.int .u64 p] 95) :
  Calls Try.prog 89 #[.func (.func 91) #[] #[.pointer (some ⟨qp, 0, none⟩)]] w0 fun e w' => e = .returned (.int .u32 (frN (sqrE p) : Nat)) ∧ Ext w0 w' := by
 refine v_reads TTok FFok Try.func89 rfl rfl ?_
 conv => whnf
 refine VSeq.mk fun Kq hKq => ?_
 conv => whnf
 refine hKq _ _ _ (.refl _) ?_
 clear hKq Kq
 conv => whnf
 refine VSeq.mk fun Kq hKq => ?_
 conv => whnf
 refine hKq _ _ _ (.refl _) ?_
 clear hKq Kq
 conv => whnf
 refine VSeq.mk fun Kq hKq => ?_
 conv => whnf
 refine VSeq.mk fun Kq hKq => ?_
 conv => whnf
 refine hKq _ _ _ (.refl _) ?_
 clear hKq Kq
 conv => whnf
 have hp := Hp.nil w0
 refine ⟨fun m e w' => ∃ (j : Nat), m + j = 37 ∧ e = [(0, .v (.func (.func 91) #[] #[.pointer (some ⟨qp, 0, none⟩)])), (3, .v (.int .u64 (frJ (sqrE p) j : Nat))), (4, .v (.int .u64 (68719476736 / 2 ^ j : Nat)))] ∧ Hp w0 w' [],
  ⟨37, _, ⟨0, by omega, rfl, hp⟩, sub_cons rfl (sub_cons rfl (sub_cons rfl sub_nil))⟩, ?_⟩
 clear hp
 repeat clear hp
 rintro m _ w ⟨j, hm, rfl, hp⟩
 have hx := frJ_lt (sqrE p) j (by omega)
 have hbe : 68719476736 / 2 ^ j < 137438953472 := Nat.lt_of_le_of_lt (Nat.div_le_self _ _) (by decide)
 conv => whnf
 refine VSeq.mk fun Kq hKq => ?_
 conv => whnf
 refine VSeq.mk fun Kq hKq => ?_
 conv => whnf
 refine hKq _ _ _ (.refl _) ?_
 clear hKq Kq
 conv => whnf
 refine ⟨fun hlt => ?_, fun hlt => ?_⟩
 ·have hlt := of_decide_eq_true hlt
  conv => whnf
  refine hKq _ _ _ (.refl _) ?_
  clear hKq Kq
  conv => whnf
  refine VSeq.mk fun Kq hKq => ?_
  conv => whnf
  refine VSeq.mk fun Kq hKq => ?_
  conv => whnf
  have hj : j < 37 := by
   rcases Nat.lt_or_ge j 37 with h | h
   ·exact h
   ·obtain rfl : j = 37 := by omega
    rw [bit_end] at hlt; omega
  have hs : frJ (sqrE p) (j + 1) = if sqrE p (frJ (sqrE p) j ||| 68719476736 / 2 ^ j) = true then frJ (sqrE p) j ||| 68719476736 / 2 ^ j else frJ (sqrE p) j := rfl
  have hdv : 68719476736 / 2 ^ (j + 1) = 68719476736 / 2 ^ j / 2 := by rw [Nat.div_div_eq_div_mul]; rfl
  obtain ⟨X, hX⟩ : ∃ X, frJ (sqrE p) j = X := ⟨_, rfl⟩
  obtain ⟨B, hB⟩ : ∃ B, 68719476736 / 2 ^ j = B := ⟨_, rfl⟩
  rw [hX, hB] at hs
  rw [hX] at hx ⊢
  rw [hB] at hbe hdv ⊢
  have hor : X ||| B < 137438953472 := Nat.or_lt_two_pow (n := 37) hx hbe
  have hc := sqr_c (X ||| B) p qp hor hp31 (hb.ext hp.ext)
  refine ⟨X, B, X ||| B, ⟨by first | rfl | omega, by first | rfl | omega, by omega, by omega⟩, rfl, ?_⟩
  conv => whnf
  cases hE : sqrE p (X ||| B) with
  | true =>
   rw [hE] at hc hs
   rw [if_pos rfl] at hs
   refine V.CallsUse (hc) fun w hx => ?_
   try (have hp := hp.call hx)
   conv => whnf
   refine hKq _ _ _ (.refl _) ?_
   clear hKq Kq
   conv => whnf
   refine And.intro (fun _ => ?_) (fun h => by cases h)
   conv => whnf
   refine ⟨X, B, X ||| B, ⟨by first | rfl | omega, by first | rfl | omega, by omega, by omega⟩, rfl, ?_⟩
   conv => whnf
   refine hKq _ _ _ (.refl _) ?_
   clear hKq Kq
   conv => whnf
   refine ⟨1, ⟨by first | rfl | omega, by omega⟩, ?_⟩
   conv => whnf
   rw [show ((B : Nat) : Int) / 2 ^ 1 = ((B / 2 : Nat) : Int) by omega, ← hdv, ← hs]
   exact ⟨m - 1, _, by omega, ⟨j + 1, by omega, rfl, hp⟩, sub_cons rfl (sub_cons rfl (sub_cons rfl sub_nil))⟩
  | false =>
   rw [hE] at hc hs
   rw [if_neg (by decide)] at hs
   refine V.CallsUse (hc) fun w hx => ?_
   try (have hp := hp.call hx)
   conv => whnf
   refine hKq _ _ _ (.refl _) ?_
   clear hKq Kq
   conv => whnf
   refine And.intro (fun h => by cases h) (fun _ => ?_)
   conv => whnf
   refine hKq _ _ _ (.refl _) ?_
   clear hKq Kq
   conv => whnf
   refine ⟨1, ⟨by first | rfl | omega, by omega⟩, ?_⟩
   conv => whnf
   rw [show ((B : Nat) : Int) / 2 ^ 1 = ((B / 2 : Nat) : Int) by omega, ← hdv, ← hs]
   exact ⟨m - 1, _, by omega, ⟨j + 1, by omega, rfl, hp⟩, sub_cons rfl (sub_cons rfl (sub_cons rfl sub_nil))⟩
 ·have hlt := of_decide_eq_false hlt
  conv => whnf
  clear hKq Kq
  refine hKq _ _ _ (.refl _) ?_
  clear hKq Kq
  conv => whnf
  refine VSeq.mk fun Kq hKq => ?_
  conv => whnf
  have hj : j = 37 := by
   rcases Nat.lt_or_ge j 37 with h | h
   ·have := bit_pos j h; omega
   ·omega
  subst hj
  unfold frN
  obtain ⟨X, hX⟩ : ∃ X, frJ (sqrE p) 37 = X := ⟨_, rfl⟩
  rw [hX] at hx ⊢
  have hand : X &&& 4294967295 = X % 4294967296 := Nat.and_two_pow_sub_one_eq_mod X 32
  refine ⟨X, 4294967295, X % 4294967296, ⟨by first | rfl | omega, by first | rfl | omega, by omega, by omega⟩, by (dsimp only; exact hand), ?_⟩
  conv => whnf
  refine hKq _ _ _ (.refl _) ?_
  clear hKq Kq
  conv => whnf
  refine ⟨?_, hp.ext⟩
  show Value.int .u32 (((X % 4294967296 : Nat) : Int) % 4294967296) = _
  unfold frN
  rw [hX, show (((X % 4294967296 : Nat) : Int) % 4294967296) = ((X % 4294967296 : Nat) : Int) by omega]
def isP (p : Nat) : Bool := (List.range 17).all fun i => !(decide ((i + 2) * (i + 2) ≤ p)) || decide (p % (i + 2) ≠ 0)
def tri (p : Nat) : Nat → Bool
 | 0 => true
 | j + 1 => tri p j && decide (p % (j + 2) ≠ 0)
theorem tri_iff (p : Nat) : ∀ j, tri p j = true ↔ ∀ i, i < j → p % (i + 2) ≠ 0
 | 0 => by simp [tri]
 | j + 1 => by
  rw [tri, Bool.and_eq_true, tri_iff p j, decide_eq_true_eq]
  constructor
  ·rintro ⟨h1, h2⟩ i hi
   rcases Nat.lt_or_ge i j with h | h
   ·exact h1 i h
   ·obtain rfl : i = j := by omega
    exact h2
  ·exact fun h => ⟨fun i hi => h i (by omega), h j (by omega)⟩
theorem tri_isP (p j : Nat) (hp : p ≤ 312) (h1 : ∀ i, i < j → (i + 2) * (i + 2) ≤ p) (h2 : p < (j + 2) * (j + 2)) : tri p j = isP p := by
 rw [Bool.eq_iff_iff, tri_iff]
 unfold isP
 rw [List.all_eq_true]
 simp only [List.mem_range, Bool.or_eq_true, Bool.not_eq_true', decide_eq_false_iff_not, decide_eq_true_eq]
 constructor
 ·intro h i _
  rcases Nat.lt_or_ge i j with hi | hi
  ·exact .inr (h i hi)
  ·left
   have := Nat.mul_le_mul (show j + 2 ≤ i + 2 by omega) (show j + 2 ≤ i + 2 by omega)
   omega
 ·intro h i hi
  have h3 := h1 i hi
  have hi17 : i < 17 := by
   rcases Nat.lt_or_ge i 17 with h | h
   ·exact h
   ·have := Nat.mul_le_mul (show 19 ≤ i + 2 by omega) (show 19 ≤ i + 2 by omega)
    omega
  rcases h i hi17 with h | h
  ·omega
  ·exact h
def tabJ : Nat → Nat × List Nat × List Nat
 | 0 => (0, List.replicate 64 0, List.replicate 8 0)
 | i + 1 => if isP (i + 2) = true then ((tabJ i).1 + 1, (tabJ i).2.1.set (tabJ i).1 (frN (cubE (i + 2))), if (tabJ i).1 < 8 then (tabJ i).2.2.set (tabJ i).1 (frN (sqrE (i + 2))) else (tabJ i).2.2) else tabJ i
theorem tab_len : ∀ i, (tabJ i).2.1.length = 64 ∧ (tabJ i).2.2.length = 8
 | 0 => by decide
 | i + 1 => by
  obtain ⟨h1, h2⟩ := tab_len i
  rw [tabJ]
  split
  ·refine ⟨by rw [List.length_set]; exact h1, ?_⟩
   show (if (tabJ i).1 < 8 then _ else _ : List Nat).length = 8
   split
   ·rw [List.length_set]; exact h2
   ·exact h2
  ·exact ⟨h1, h2⟩
def KL : List Nat := [1116352408, 1899447441, 3049323471, 3921009573, 961987163, 1508970993, 2453635748, 2870763221, 3624381080, 310598401, 607225278, 1426881987, 1925078388, 2162078206, 2614888103, 3248222580, 3835390401, 4022224774, 264347078, 604807628, 770255983, 1249150122, 1555081692, 1996064986, 2554220882, 2821834349, 2952996808, 3210313671, 3336571891, 3584528711, 113926993, 338241895, 666307205, 773529912, 1294757372, 1396182291, 1695183700, 1986661051, 2177026350, 2456956037, 2730485921, 2820302411, 3259730800, 3345764771, 3516065817, 3600352804, 4094571909, 275423344, 430227734, 506948616, 659060556, 883997877, 958139571, 1322822218, 1537002063, 1747873779, 1955562222, 2024104815, 2227730452, 2361852424, 2428436474, 2756734187, 3204031479, 3329325298]
def SL : List Nat := [1779033703, 3144134277, 1013904242, 2773480762, 1359893119, 2600822924, 528734635, 1541459225]
theorem tab_cnt : ∀ i, i < 310 → (tabJ i).1 < 64 := by decide +kernel
theorem tab_end : tabJ 310 = (64, KL, SL) := by decide +kernel
theorem SL_W8 : W8 SL := by
 refine ⟨rfl, ?_⟩
 decide
theorem KL_len : KL.length = 64 := rfl
theorem KL_lt : ∀ x ∈ KL, x < M32 := by decide +kernel
open Go.RowKit
namespace V
def OB (w : World) (e : Nat) (v : Value) (xs : List Value) : Prop :=
 (v = .slice none 0 0 ∧ xs = []) ∨ ∃ g zs, v = .slice (some ⟨g, 0, none⟩) xs.length (xs.length + zs.length) ∧ xs.length + zs.length ≤ maxLen ∧ Blk w g (xs ++ zs) e
def ob (e : Nat) (v : Value) (xs : List Value) : It := ⟨v.ownBlock, fun w => OB w e v xs⟩
theorem ob_ok (e : Nat) (v : Value) (xs : List Value) : (ob e v xs).Ok := fun w w' _ h hh => by
 rcases hh with hh | ⟨g, zs, rfl, hm, hb⟩
 ·exact .inl hh
 ·exact .inr ⟨g, zs, rfl, hm, Blk.same hb (h g rfl)⟩
section
variable {P : Program} {T : Tab} {M : List Nat} {w0 w : World} {H : List It} {K : Value → World → Prop}
theorem OB.shape {e : Nat} {v : Value} {xs : List Value} (h : OB w e v xs) : ∃ p c, v = .slice p xs.length c := by
 rcases h with ⟨rfl, rfl⟩ | ⟨g, zs, rfl, _, _⟩
 ·exact ⟨_, _, rfl⟩
 ·exact ⟨_, _, rfl⟩
theorem OB.at {e : Nat} {p : Option Addr} {n c : Nat} {xs : List Value} (h : OB w e (.slice p n c) xs) {j : Nat} {x : Value} (hj : xs[j]? = some x) : ∃ g, p = some ⟨g, 0, none⟩ ∧ w.cell? ⟨g, j, none⟩ = some x := by
 rcases h with ⟨_, rfl⟩ | ⟨g, zs, hv, _, hb⟩
 ·simp at hj
 ·simp only [Value.slice.injEq] at hv
  exact ⟨g, hv.1, by rw [hb.cell, List.getElem?_append_left (List.getElem?_eq_some_iff.1 hj).1]; exact hj⟩
/-- '[]byte(s)' -/
theorem HpM.kbytesO (h : HpM M w0 w H) (hT : tabOk P T = true) {src dst e n1 n2 n3 : Nat} (hs : tfind T src = some ⟨.str, n1⟩) (hd : tfind T dst = some ⟨.slice e, n2⟩) (he : tfind T e = some ⟨.int .u8, n3⟩) {s : ByteArray} (hsm : s.size ≤ maxLen)
  (hk : ∀ v w', HpM M w0 w' (ob e v (bytesV s.data.toList) :: H) → Ext w w' → K v w') :
  ∃ v w', (convert src dst (.string s)).run P w = .ok v w' ∧ K v w' := by
 have hr := run_bytes_of_string (P := P) w src dst e s (tab_str hT hs) (tab_slice hT hd) (tab_int hT he)
 have hx : Ext w (w.drew.alloc (.cells (bytesRow s (grownCap w s.size 0 e)) e ((bytesRow s (grownCap w s.size 0 e)).size, (bytesRow s (grownCap w s.size 0 e)).size + 1))) := ((Ext.refl w).drew).alloc _
 have hn : ∀ o : Obj, (w.drew.alloc o).heap[w.heap.size]? = some o := fun o => by
  show (w.heap.push o)[w.heap.size]? = some o
  simp
 have hge := grownCap_ge w s.size 0 e
 have hle := grownCap_le_maxLen w s.size 0 e hsm
 have hl : (bytesV s.data.toList).length = s.size := by simp [bytesV]
 have hcap : (bytesV s.data.toList).length + (List.replicate (grownCap w s.size 0 e - s.size) (Value.int .u8 0)).length = grownCap w s.size 0 e := by rw [hl, List.length_replicate]; omega
 refine ⟨_, _, hr, hk _ _ (h.push hx (ob_ok _ _ _) (.inr ⟨w.heap.size, List.replicate (grownCap w s.size 0 e - s.size) (.int .u8 0), by rw [hl]; exact congrArg (Value.slice _ _) (by rw [List.length_replicate]; omega), by rw [hcap]; exact hle, ⟨((bytesRow s (grownCap w s.size 0 e)).size, (bytesRow s (grownCap w s.size 0 e)).size + 1), .inr (by simp [bytesRow, bytesV]), ?_⟩⟩) ?_) hx⟩
 ·rw [hn]
  refine congrArg (fun c => some (Obj.cells c e _)) ?_
  apply Array.ext'
  simp [bytesRow, bytesV]
 ·intro b hb
  simp only [ob, Value.ownBlock, Option.some.injEq] at hb
  subst hb
  exact ⟨Nat.le_refl _, by rw [World.size_alloc]; exact Nat.lt_succ_self _⟩
/-- the bytes of such a slice, as a string -/
theorem OB.str {e : Nat} {v : Value} {l : List UInt8} (h : OB w e v (bytesV l)) (hT : tabOk P T = true) {src dst n1 n2 n3 : Nat} (hs : tfind T src = some ⟨.slice e, n1⟩) (he : tfind T e = some ⟨.int .u8, n2⟩) (hd : tfind T dst = some ⟨.str, n3⟩) :
  (convert src dst v).run P w = .ok (.string ⟨l.toArray⟩) w := by
 rcases h with ⟨rfl, h0⟩ | ⟨g, zs, rfl, _, hb⟩
 ·have : l = [] := by cases l with
   | nil => rfl
   | cons _ _ => simp [bytesV] at h0
  subst this
  exact conv_nil (hT := hT) hs he hd
 ·exact Blk.str' hb hT hs he hd rfl (by simp [bytesV])
/-- A call that takes a thing over and hands it back, turned. -/
def TakesF (P : Program) (f : Nat) (args : Array Value) (x : It) (R : Value → It) : Prop := ∀ w, x.holds w → (∀ b, x.own = some b → b < w.heap.size) → Calls P f args w fun e w' => ∃ v, e = .returned v ∧ HpM x.own.toList w w' [R v]
theorem ExtM.grownO {w w' : World} {o : Option Nat} (h : ExtM o.toList w w') : w.grownBy w' o :=
 ⟨h.os, h.tape, h.output, h.size, fun k hk hne => h.block k hk (fun e => hne (by simp at e; exact e.symm))⟩
theorem TakesF.use {f : Nat} {args : Array Value} {x : It} {R : Value → It} (h : TakesF P f args x R) (hp : HpM M w0 w H) (i : Nat) (hi : H[i]? = some x) (hk : ∀ v w', HpM M w0 w' (H.set i (R v)) → K v w') :
  Calls P f args w fun e w' => ∃ v, e = .returned v ∧ K v w' := by
 refine (h w (hp.get hi) (fun b hb => (hp.lo x (List.mem_of_getElem? hi) b hb).2)).mono ?_
 rintro e w' ⟨v, rfl, hq⟩
 refine ⟨v, rfl, hk v w' (hp.upd hi hq.extM.grownO (hq.ok _ (by simp)) (hq.holds _ (by simp)) (fun b hb => ?_))⟩
 have := hq.lo _ (by simp) b hb
 rcases this.1 with h1 | h1
 ·exact .inl (by simpa using h1)
 ·exact .inr ⟨h1, this.2⟩
theorem Blk.lv {w : World} {b : Nat} {cs : List Value} {e : Nat} (h : Blk w b cs e) (hT : tabOk P T = true) {t off : Nat} {v : Value} (ht : plainT T t = true) (hc : cs[off]? = some v) : (loadVar t ⟨b, off, none⟩).run P w = .ok v w :=
 run_loadVar1 hT ht ((h.cell off).trans hc)
/-- some of the things, in a new order -/
theorem HpM.pick (h : HpM M w0 w H) (ns : List Nat) (hn : ns.Nodup) : HpM M w0 w (ns.filterMap fun i => H[i]?) := by
 have hm : ∀ x ∈ ns.filterMap (fun i => H[i]?), x ∈ H := fun x hx => by
  obtain ⟨i, _, hi⟩ := List.mem_filterMap.1 hx
  exact List.mem_of_getElem? hi
 refine ⟨h.extM, fun x hx => h.ok x (hm x hx), fun x hx => h.holds x (hm x hx), fun x hx => h.lo x (hm x hx), ?_⟩
 rw [List.pairwise_filterMap]
 refine hn.imp fun {i j} hij x hx y hy b hb hyb => ?_
 obtain ⟨hil, rfl⟩ := List.getElem?_eq_some_iff.1 hx
 obtain ⟨hjl, rfl⟩ := List.getElem?_eq_some_iff.1 hy
 have hap := List.pairwise_iff_getElem.1 h.apart
 rcases Nat.lt_or_gt_of_ne hij with hlt | hlt
 ·exact hap i j hil hjl hlt b hb hyb
 ·exact hap j i hjl hil hlt b hyb hb
end
end V
def hV (h : List Nat) : Value := .agg (kw .u32 h).toArray
set_option maxHeartbeats 4000000 in
theorem constants_p : PureF Try.prog 85 #[] (.tuple #[hV SL, hV KL]) := by
 unfold hV
 first | refine v_pure TTok FFok Try.func85 rfl rfl fun w0 => ?_ | refine v_pure (args := []) TTok FFok Try.func85 rfl rfl fun w0 => ?_
 conv => whnf
 refine VSeq.mk fun Kq hKq => ?_
 conv => whnf
 have hp := Hp.nil w0
 refine hp.kalloc z144 fun q0 w hp hx => ?_
 conv => whnf
 refine hp.kalloc z145 fun q1 w hp hx => ?_
 conv => whnf
 refine hKq _ _ _ (.refl _) ?_
 clear hKq Kq
 conv => whnf
 refine VSeq.mk fun Kq hKq => ?_
 conv => whnf
 refine hKq _ _ _ (.refl _) ?_
 clear hKq Kq
 conv => whnf
 refine VSeq.mk fun Kq hKq => ?_
 conv => whnf
 refine VSeq.mk fun Kq hKq => ?_
 conv => whnf
 refine hp.kalloc z95 fun qp w hp hx => ?_
 conv => whnf
 refine hp.kst1 TTok (by rfl) 0 (by rfl) (by rfl) (by rfl) (by decide) fun w hp => ?_
 try simp only [List.set_cons_zero, List.set_cons_succ, EV.val] at hp
 conv => whnf
 refine hKq _ _ _ (.refl _) ?_
 clear hKq Kq
 conv => whnf
 have hp : HpM [] w0 w [blk qp [.int .u64 ((0 + 2 : Nat) : Int)] 95, blk q1 (kw .u32 (tabJ 0).2.1) 145, blk q0 (kw .u32 (tabJ 0).2.2) 144] := hp
 refine ⟨fun m e w' => ∃ (i qp : Nat), m + i = 310 ∧ e = [(0, .v (.pointer (some ⟨q0, 0, none⟩))), (1, .v (.pointer (some ⟨q1, 0, none⟩))), (2, .v (.int .i64 ((tabJ i).1 : Nat))), (3, .v (.pointer (some ⟨qp, 0, none⟩)))] ∧
   HpM [] w0 w' [blk qp [.int .u64 ((i + 2 : Nat) : Int)] 95, blk q1 (kw .u32 (tabJ i).2.1) 145, blk q0 (kw .u32 (tabJ i).2.2) 144],
  ⟨310, _, ⟨0, qp, by omega, rfl, hp⟩, sub_cons rfl (sub_cons rfl (sub_cons rfl (sub_cons rfl sub_nil)))⟩, ?_⟩
 clear hp hx
 repeat clear hp
 rintro m _ w ⟨i, qp, hm, rfl, hp⟩
 conv => whnf
 refine VSeq.mk fun Kq hKq => ?_
 conv => whnf
 refine VSeq.mk fun Kq hKq => ?_
 conv => whnf
 refine hKq _ _ _ (.refl _) ?_
 clear hKq Kq
 conv => whnf
 refine ⟨fun hlt => ?_, fun hlt => ?_⟩
 ·have hlt := of_decide_eq_true hlt
  conv => whnf
  refine hKq _ _ _ (.refl _) ?_
  clear hKq Kq
  conv => whnf
  refine VSeq.mk fun Kq hKq => ?_
  conv => whnf
  refine VSeq.mk fun Kq hKq => ?_
  conv => whnf
  refine hKq _ _ _ (.refl _) ?_
  clear hKq Kq
  conv => whnf
  refine VSeq.mk fun Kq hKq => ?_
  conv => whnf
  refine VSeq.mk fun Kq hKq => ?_
  conv => whnf
  refine hKq _ _ _ (.refl _) ?_
  clear hKq Kq
  conv => whnf
  have hi : i < 310 := by
   rcases Nat.lt_or_ge i 310 with h | h
   ·exact h
   ·obtain rfl : i = 310 := by omega
    rw [tab_end] at hlt
    exact absurd hlt (by decide)
  have hn := tab_cnt i hi
  obtain ⟨hl1, hl2⟩ := tab_len i
  have hsu : tabJ (i + 1) = if isP (i + 2) = true then ((tabJ i).1 + 1, (tabJ i).2.1.set (tabJ i).1 (frN (cubE (i + 2))), if (tabJ i).1 < 8 then (tabJ i).2.2.set (tabJ i).1 (frN (sqrE (i + 2))) else (tabJ i).2.2) else tabJ i := rfl
  obtain ⟨n, hnd⟩ : ∃ n, (tabJ i).1 = n := ⟨_, rfl⟩
  obtain ⟨ks, hkd⟩ : ∃ ks, (tabJ i).2.1 = ks := ⟨_, rfl⟩
  obtain ⟨ss, hsd⟩ : ∃ ss, (tabJ i).2.2 = ss := ⟨_, rfl⟩
  have hti : tabJ i = (n, ks, ss) := by rw [← hnd, ← hkd, ← hsd]
  rw [hnd, hkd, hsd, hti] at hsu
  rw [hkd, hsd] at hp
  rw [hnd] at hn hlt ⊢
  rw [hkd] at hl1
  rw [hsd] at hl2
  clear hnd hkd hsd
  obtain ⟨p, hpd⟩ : ∃ p, i + 2 = p := ⟨_, rfl⟩
  rw [hpd] at hp hsu
  have hp31 : p ≤ 311 := by omega
  clear hti
  refine ⟨fun m e w' => ∃ (j : Nat) (ev : EV), m + j = 17 ∧ (∀ i, i < j → (i + 2) * (i + 2) ≤ p) ∧ ((∃ b, ev = litE (.bool b) ∧ tri p j = b) ∨ ev = .v (.bool (tri p j))) ∧ e = [(0, .v (.pointer (some ⟨q0, 0, none⟩))), (1, .v (.pointer (some ⟨q1, 0, none⟩))), (2, .v (.int .i64 n)), (3, .v (.pointer (some ⟨qp, 0, none⟩))), (4, ev), (5, .v (.int .u64 ((j + 2 : Nat) : Int)))] ∧
    HpM [] w0 w' [blk qp [.int .u64 (p : Nat)] 95, blk q1 (kw .u32 ks) 145, blk q0 (kw .u32 ss) 144],
   ⟨17, _, ⟨0, _, by omega, fun i hi => by omega, .inl ⟨true, rfl, rfl⟩, rfl, hp⟩, sub_cons rfl (sub_cons rfl (sub_cons rfl (sub_cons rfl (sub_cons rfl (sub_cons rfl sub_nil)))))⟩, ?_⟩
  clear hp
  repeat clear hp
  rintro m2 _ w ⟨j, ev, hm2, hall, hev, rfl, hp⟩
  have hj17 : (j + 2) * (j + 2) ≤ 361 := Nat.mul_le_mul (show j + 2 ≤ 19 by omega) (show j + 2 ≤ 19 by omega)
  have hsq : ((j + 2 : Nat) : Int) * ((j + 2 : Nat) : Int) = (((j + 2) * (j + 2) : Nat) : Int) := (Int.natCast_mul _ _).symm
  conv => whnf
  refine VSeq.mk fun Kq hKq => ?_
  conv => whnf
  refine VSeq.mk fun Kq hKq => ?_
  conv => whnf
  refine ⟨_, _, Blk.ld (hp.get (i := 0) rfl) TTok rfl (rfl), ?_⟩
  conv => whnf
  refine hKq _ _ _ (.refl _) ?_
  clear hKq Kq
  conv => whnf
  rw [hsq]
  obtain ⟨D, hD⟩ : ∃ D, (j + 2) * (j + 2) = D := ⟨_, rfl⟩
  rw [hD] at hj17 ⊢
  rw [show ((D : Nat) : Int) % 18446744073709551616 = (D : Nat) by omega]
  refine ⟨fun hlt2 => ?_, fun hlt2 => ?_⟩
  ·have hlt2 := of_decide_eq_true hlt2
   conv => whnf
   refine hKq _ _ _ (.refl _) ?_
   clear hKq Kq
   conv => whnf
   refine VSeq.mk fun Kq hKq => ?_
   conv => whnf
   refine VSeq.mk fun Kq hKq => ?_
   conv => whnf
   have hj2 : j < 16 := by
    rcases Nat.lt_or_ge j 16 with h | h
    ·exact h
    ·have := Nat.mul_le_mul (show 18 ≤ j + 2 by omega) (show 18 ≤ j + 2 by omega)
     omega
   have hall2 : ∀ i, i < j + 1 → (i + 2) * (i + 2) ≤ p := fun i hi => by
    rcases Nat.lt_or_ge i j with h | h
    ·exact hall i h
    ·obtain rfl : i = j := by omega
     omega
   have hts : tri p (j + 1) = (tri p j && decide (p % (j + 2) ≠ 0)) := rfl
   have hmod : ((p : Nat) : Int) % ((j + 2 : Nat) : Int) = ((p % (j + 2) : Nat) : Int) := (Int.natCast_emod p (j + 2)).symm
   rcases hev with ⟨b, rfl, htr⟩ | rfl
   ·cases b with
    | true =>
     rw [htr, Bool.true_and] at hts
     conv => whnf
     refine hKq _ _ _ (.refl _) ?_
     clear hKq Kq
     conv => whnf
     refine ⟨_, _, Blk.ld (hp.get (i := 0) rfl) TTok rfl (rfl), ?_⟩
     conv => whnf
     refine And.intro (by omega) ?_
     conv => whnf
     refine hKq _ _ _ (.refl _) ?_
     clear hKq Kq
     conv => whnf
     rw [hmod]
     rw [show (((j + 2 : Nat) : Int) + 1) % 18446744073709551616 = ((j + 1 + 2 : Nat) : Int) by omega]
     refine ⟨m2 - 1, _, by omega, ⟨j + 1, _, by omega, hall2, .inr ?_, rfl, hp⟩, sub_cons rfl (sub_cons rfl (sub_cons rfl (sub_cons rfl (sub_cons rfl (sub_cons rfl sub_nil)))))⟩
     rw [hts]
     exact congrArg (fun b => EV.v (.bool b)) (decide_eq_decide.2 (by omega))
    | false =>
     rw [htr, Bool.false_and] at hts
     conv => whnf
     refine hKq _ _ _ (.refl _) ?_
     clear hKq Kq
     conv => whnf
     refine hKq _ _ _ (.refl _) ?_
     clear hKq Kq
     conv => whnf
     rw [show (((j + 2 : Nat) : Int) + 1) % 18446744073709551616 = ((j + 1 + 2 : Nat) : Int) by omega]
     refine ⟨m2 - 1, _, by omega, ⟨j + 1, _, by omega, hall2, .inl ⟨false, rfl, hts⟩, rfl, hp⟩, sub_cons rfl (sub_cons rfl (sub_cons rfl (sub_cons rfl (sub_cons rfl (sub_cons rfl sub_nil)))))⟩
   ·cases htr : tri p j with
    | true =>
     rw [htr, Bool.true_and] at hts
     conv => whnf
     refine hKq _ _ _ (.refl _) ?_
     clear hKq Kq
     conv => whnf
     refine And.intro (fun _ => ?_) (fun h => by cases h)
     conv => whnf
     refine ⟨_, _, Blk.ld (hp.get (i := 0) rfl) TTok rfl (rfl), ?_⟩
     conv => whnf
     refine And.intro (by omega) ?_
     conv => whnf
     refine hKq _ _ _ (.refl _) ?_
     clear hKq Kq
     conv => whnf
     rw [hmod]
     rw [show (((j + 2 : Nat) : Int) + 1) % 18446744073709551616 = ((j + 1 + 2 : Nat) : Int) by omega]
     refine ⟨m2 - 1, _, by omega, ⟨j + 1, _, by omega, hall2, .inr ?_, rfl, hp⟩, sub_cons rfl (sub_cons rfl (sub_cons rfl (sub_cons rfl (sub_cons rfl (sub_cons rfl sub_nil)))))⟩
     rw [hts]
     exact congrArg (fun b => EV.v (.bool b)) (decide_eq_decide.2 (by omega))
    | false =>
     rw [htr, Bool.false_and] at hts
     conv => whnf
     refine hKq _ _ _ (.refl _) ?_
     clear hKq Kq
     conv => whnf
     refine And.intro (fun h => by cases h) (fun _ => ?_)
     conv => whnf
     refine hKq _ _ _ (.refl _) ?_
     clear hKq Kq
     conv => whnf
     rw [show (((j + 2 : Nat) : Int) + 1) % 18446744073709551616 = ((j + 1 + 2 : Nat) : Int) by omega]
     refine ⟨m2 - 1, _, by omega, ⟨j + 1, _, by omega, hall2, .inl ⟨false, rfl, hts⟩, rfl, hp⟩, sub_cons rfl (sub_cons rfl (sub_cons rfl (sub_cons rfl (sub_cons rfl (sub_cons rfl sub_nil)))))⟩
  ·have hlt2 := of_decide_eq_false hlt2
   conv => whnf
   clear hKq Kq
   refine hKq _ _ _ (.refl _) ?_
   clear hKq Kq
   conv => whnf
   refine VSeq.mk fun Kq hKq => ?_
   conv => whnf
   refine VSeq.mk fun Kq hKq => ?_
   conv => whnf
   have hpr := tri_isP p j (by omega) hall (by omega)
   rw [hpr] at hev
   have hfc := fraction_cube p qp (by omega) (hp.get (i := 0) rfl)
   have hln : n < ks.length := by omega
   clear hpr hlt2 hD hsq hall hm2
   rcases hev with ⟨b, rfl, hP⟩ | rfl
   ·cases b with
    | true =>
     rw [hP, if_pos rfl] at hsu
     conv => whnf
     refine hKq _ _ _ (.refl _) ?_
     clear hKq Kq
     conv => whnf
     refine hKq _ _ _ (.refl _) ?_
     clear hKq Kq
     conv => whnf
     refine VSeq.mk fun Kq hKq => ?_
     conv => whnf
     refine V.CallsUse (hfc) fun w hx => ?_
     try (have hp := hp.call hx)
     conv => whnf
     refine ⟨n, ⟨by first | rfl | omega, by omega⟩, ?_⟩
     conv => whnf
     refine hp.kst1 (off := n) TTok (by rfl) 1 (by rfl) (by rfl) (by rfl) (by rw [kw_len]; omega) fun w hp => ?_
     try simp only [List.set_cons_zero, List.set_cons_succ, EV.val] at hp
     conv => whnf
     refine hKq _ _ _ (.refl _) ?_
     clear hKq Kq
     conv => whnf
     refine VSeq.mk fun Kq hKq => ?_
     conv => whnf
     refine VSeq.mk fun Kq hKq => ?_
     conv => whnf
     refine hKq _ _ _ (.refl _) ?_
     clear hKq Kq
     conv => whnf
     rw [kw_set] at hp
     refine ⟨fun h8 => ?_, fun h8 => ?_⟩
     ·have h8 := of_decide_eq_true h8
      conv => whnf
      rw [if_pos (by omega)] at hsu
      have hfs := fraction_sqr p qp (by omega) (hp.get (i := 0) rfl)
      refine V.CallsUse (hfs) fun w hx => ?_
      try (have hp := hp.call hx)
      conv => whnf
      refine ⟨n, ⟨by first | rfl | omega, by omega⟩, ?_⟩
      conv => whnf
      refine hp.kst1 (off := n) TTok (by rfl) 2 (by rfl) (by rfl) (by rfl) (by rw [kw_len]; omega) fun w hp => ?_
      try simp only [List.set_cons_zero, List.set_cons_succ, EV.val] at hp
      conv => whnf
      refine hKq _ _ _ (.refl _) ?_
      clear hKq Kq
      conv => whnf
      refine Or.inl (And.intro (by omega) ?_)
      conv => whnf
      refine hKq _ _ _ (.refl _) ?_
      clear hKq Kq
      conv => whnf
      refine VSeq.mk fun Kq hKq => ?_
      conv => whnf
      refine VSeq.mk fun Kq hKq => ?_
      conv => whnf
      rw [kw_set] at hp
      refine ⟨_, _, Blk.ld (hp.get (i := 0) rfl) TTok rfl (rfl), ?_⟩
      conv => whnf
      refine hKq _ _ _ (.refl _) ?_
      clear hKq Kq
      conv => whnf
      refine hp.kalloc z95 fun qn w hp hx => ?_
      conv => whnf
      refine hp.kst1 TTok (by rfl) 0 (by rfl) (by rfl) (by rfl) (by exact Nat.zero_lt_one) fun w hp => ?_
      try simp only [List.set_cons_zero, List.set_cons_succ, EV.val] at hp
      conv => whnf
      refine hKq _ _ _ (.refl _) ?_
      clear hKq Kq
      conv => whnf
      refine ⟨_, _, Blk.ld (hp.get (i := 0) rfl) TTok rfl (rfl), ?_⟩
      conv => whnf
      rw [show (((p : Nat) : Int) + 1) % 18446744073709551616 = ((i + 1 + 2 : Nat) : Int) by omega]
      refine hp.kst1 TTok (by rfl) 0 (by rfl) (by rfl) (by rfl) (by exact Nat.zero_lt_one) fun w hp => ?_
      try simp only [List.set_cons_zero, List.set_cons_succ, EV.val] at hp
      conv => whnf
      have hp := hp.pick [0, 2, 3] (by decide)
      refine ⟨m - 1, _, by omega, ⟨i + 1, qn, by omega, by rw [hsu], by rw [hsu]; exact hp⟩, sub_cons rfl (sub_cons rfl (sub_cons rfl (sub_cons rfl sub_nil)))⟩
     ·have h8 := of_decide_eq_false h8
      conv => whnf
      refine hKq _ _ _ (.refl _) ?_
      clear hKq Kq
      conv => whnf
      refine Or.inl (And.intro (by omega) ?_)
      conv => whnf
      refine hKq _ _ _ (.refl _) ?_
      clear hKq Kq
      conv => whnf
      refine VSeq.mk fun Kq hKq => ?_
      conv => whnf
      refine VSeq.mk fun Kq hKq => ?_
      conv => whnf
      rw [if_neg (by omega)] at hsu
      refine ⟨_, _, Blk.ld (hp.get (i := 0) rfl) TTok rfl (rfl), ?_⟩
      conv => whnf
      refine hKq _ _ _ (.refl _) ?_
      clear hKq Kq
      conv => whnf
      refine hp.kalloc z95 fun qn w hp hx => ?_
      conv => whnf
      refine hp.kst1 TTok (by rfl) 0 (by rfl) (by rfl) (by rfl) (by exact Nat.zero_lt_one) fun w hp => ?_
      try simp only [List.set_cons_zero, List.set_cons_succ, EV.val] at hp
      conv => whnf
      refine hKq _ _ _ (.refl _) ?_
      clear hKq Kq
      conv => whnf
      refine ⟨_, _, Blk.ld (hp.get (i := 0) rfl) TTok rfl (rfl), ?_⟩
      conv => whnf
      rw [show (((p : Nat) : Int) + 1) % 18446744073709551616 = ((i + 1 + 2 : Nat) : Int) by omega]
      refine hp.kst1 TTok (by rfl) 0 (by rfl) (by rfl) (by rfl) (by exact Nat.zero_lt_one) fun w hp => ?_
      try simp only [List.set_cons_zero, List.set_cons_succ, EV.val] at hp
      conv => whnf
      have hp := hp.pick [0, 2, 3] (by decide)
      refine ⟨m - 1, _, by omega, ⟨i + 1, qn, by omega, by rw [hsu], by rw [hsu]; exact hp⟩, sub_cons rfl (sub_cons rfl (sub_cons rfl (sub_cons rfl sub_nil)))⟩
    | false =>
     rw [hP, if_neg (by decide)] at hsu
     conv => whnf
     refine hKq _ _ _ (.refl _) ?_
     clear hKq Kq
     conv => whnf
     clear hKq Kq
     refine hKq _ _ _ (.refl _) ?_
     clear hKq Kq
     conv => whnf
     refine VSeq.mk fun Kq hKq => ?_
     conv => whnf
     refine VSeq.mk fun Kq hKq => ?_
     conv => whnf
     refine ⟨_, _, Blk.ld (hp.get (i := 0) rfl) TTok rfl (rfl), ?_⟩
     conv => whnf
     refine hKq _ _ _ (.refl _) ?_
     clear hKq Kq
     conv => whnf
     refine hp.kalloc z95 fun qn w hp hx => ?_
     conv => whnf
     refine hp.kst1 TTok (by rfl) 0 (by rfl) (by rfl) (by rfl) (by exact Nat.zero_lt_one) fun w hp => ?_
     try simp only [List.set_cons_zero, List.set_cons_succ, EV.val] at hp
     conv => whnf
     refine hKq _ _ _ (.refl _) ?_
     clear hKq Kq
     conv => whnf
     refine ⟨_, _, Blk.ld (hp.get (i := 0) rfl) TTok rfl (rfl), ?_⟩
     conv => whnf
     rw [show (((p : Nat) : Int) + 1) % 18446744073709551616 = ((i + 1 + 2 : Nat) : Int) by omega]
     refine hp.kst1 TTok (by rfl) 0 (by rfl) (by rfl) (by rfl) (by exact Nat.zero_lt_one) fun w hp => ?_
     try simp only [List.set_cons_zero, List.set_cons_succ, EV.val] at hp
     conv => whnf
     have hp := hp.pick [0, 2, 3] (by decide)
     refine ⟨m - 1, _, by omega, ⟨i + 1, qn, by omega, by rw [hsu], by rw [hsu]; exact hp⟩, sub_cons rfl (sub_cons rfl (sub_cons rfl (sub_cons rfl sub_nil)))⟩
   ·cases hP : isP p with
    | false =>
     rw [hP, if_neg (by decide)] at hsu
     conv => whnf
     refine hKq _ _ _ (.refl _) ?_
     clear hKq Kq
     conv => whnf
     refine And.intro (fun _ => ?_) (fun h => by cases h)
     conv => whnf
     clear hKq Kq
     refine hKq _ _ _ (.refl _) ?_
     clear hKq Kq
     conv => whnf
     refine VSeq.mk fun Kq hKq => ?_
     conv => whnf
     refine VSeq.mk fun Kq hKq => ?_
     conv => whnf
     refine ⟨_, _, Blk.ld (hp.get (i := 0) rfl) TTok rfl (rfl), ?_⟩
     conv => whnf
     refine hKq _ _ _ (.refl _) ?_
     clear hKq Kq
     conv => whnf
     refine hp.kalloc z95 fun qn w hp hx => ?_
     conv => whnf
     refine hp.kst1 TTok (by rfl) 0 (by rfl) (by rfl) (by rfl) (by exact Nat.zero_lt_one) fun w hp => ?_
     try simp only [List.set_cons_zero, List.set_cons_succ, EV.val] at hp
     conv => whnf
     refine hKq _ _ _ (.refl _) ?_
     clear hKq Kq
     conv => whnf
     refine ⟨_, _, Blk.ld (hp.get (i := 0) rfl) TTok rfl (rfl), ?_⟩
     conv => whnf
     rw [show (((p : Nat) : Int) + 1) % 18446744073709551616 = ((i + 1 + 2 : Nat) : Int) by omega]
     refine hp.kst1 TTok (by rfl) 0 (by rfl) (by rfl) (by rfl) (by exact Nat.zero_lt_one) fun w hp => ?_
     try simp only [List.set_cons_zero, List.set_cons_succ, EV.val] at hp
     conv => whnf
     have hp := hp.pick [0, 2, 3] (by decide)
     refine ⟨m - 1, _, by omega, ⟨i + 1, qn, by omega, by rw [hsu], by rw [hsu]; exact hp⟩, sub_cons rfl (sub_cons rfl (sub_cons rfl (sub_cons rfl sub_nil)))⟩
    | true =>
     rw [hP, if_pos rfl] at hsu
     conv => whnf
     refine hKq _ _ _ (.refl _) ?_
     clear hKq Kq
     conv => whnf
     refine And.intro (fun h => by cases h) (fun _ => ?_)
     conv => whnf
     refine hKq _ _ _ (.refl _) ?_
     clear hKq Kq
     conv => whnf
     refine VSeq.mk fun Kq hKq => ?_
     conv => whnf
     refine V.CallsUse (hfc) fun w hx => ?_
     try (have hp := hp.call hx)
     conv => whnf
     refine ⟨n, ⟨by first | rfl | omega, by omega⟩, ?_⟩
     conv => whnf
     refine hp.kst1 (off := n) TTok (by rfl) 1 (by rfl) (by rfl) (by rfl) (by rw [kw_len]; omega) fun w hp => ?_
     try simp only [List.set_cons_zero, List.set_cons_succ, EV.val] at hp
     conv => whnf
     refine hKq _ _ _ (.refl _) ?_
     clear hKq Kq
     conv => whnf
     refine VSeq.mk fun Kq hKq => ?_
     conv => whnf
     refine VSeq.mk fun Kq hKq => ?_
     conv => whnf
     refine hKq _ _ _ (.refl _) ?_
     clear hKq Kq
     conv => whnf
     rw [kw_set] at hp
     refine ⟨fun h8 => ?_, fun h8 => ?_⟩
     ·have h8 := of_decide_eq_true h8
      conv => whnf
      rw [if_pos (by omega)] at hsu
      have hfs := fraction_sqr p qp (by omega) (hp.get (i := 0) rfl)
      refine V.CallsUse (hfs) fun w hx => ?_
      try (have hp := hp.call hx)
      conv => whnf
      refine ⟨n, ⟨by first | rfl | omega, by omega⟩, ?_⟩
      conv => whnf
      refine hp.kst1 (off := n) TTok (by rfl) 2 (by rfl) (by rfl) (by rfl) (by rw [kw_len]; omega) fun w hp => ?_
      try simp only [List.set_cons_zero, List.set_cons_succ, EV.val] at hp
      conv => whnf
      refine hKq _ _ _ (.refl _) ?_
      clear hKq Kq
      conv => whnf
      refine Or.inl (And.intro (by omega) ?_)
      conv => whnf
      refine hKq _ _ _ (.refl _) ?_
      clear hKq Kq
      conv => whnf
      refine VSeq.mk fun Kq hKq => ?_
      conv => whnf
      refine VSeq.mk fun Kq hKq => ?_
      conv => whnf
      rw [kw_set] at hp
      refine ⟨_, _, Blk.ld (hp.get (i := 0) rfl) TTok rfl (rfl), ?_⟩
      conv => whnf
      refine hKq _ _ _ (.refl _) ?_
      clear hKq Kq
      conv => whnf
      refine hp.kalloc z95 fun qn w hp hx => ?_
      conv => whnf
      refine hp.kst1 TTok (by rfl) 0 (by rfl) (by rfl) (by rfl) (by exact Nat.zero_lt_one) fun w hp => ?_
      try simp only [List.set_cons_zero, List.set_cons_succ, EV.val] at hp
      conv => whnf
      refine hKq _ _ _ (.refl _) ?_
      clear hKq Kq
      conv => whnf
      refine ⟨_, _, Blk.ld (hp.get (i := 0) rfl) TTok rfl (rfl), ?_⟩
      conv => whnf
      rw [show (((p : Nat) : Int) + 1) % 18446744073709551616 = ((i + 1 + 2 : Nat) : Int) by omega]
      refine hp.kst1 TTok (by rfl) 0 (by rfl) (by rfl) (by rfl) (by exact Nat.zero_lt_one) fun w hp => ?_
      try simp only [List.set_cons_zero, List.set_cons_succ, EV.val] at hp
      conv => whnf
      have hp := hp.pick [0, 2, 3] (by decide)
      refine ⟨m - 1, _, by omega, ⟨i + 1, qn, by omega, by rw [hsu], by rw [hsu]; exact hp⟩, sub_cons rfl (sub_cons rfl (sub_cons rfl (sub_cons rfl sub_nil)))⟩
     ·have h8 := of_decide_eq_false h8
      conv => whnf
      refine hKq _ _ _ (.refl _) ?_
      clear hKq Kq
      conv => whnf
      refine Or.inl (And.intro (by omega) ?_)
      conv => whnf
      refine hKq _ _ _ (.refl _) ?_
      clear hKq Kq
      conv => whnf
      refine VSeq.mk fun Kq hKq => ?_
      conv => whnf
      refine VSeq.mk fun Kq hKq => ?_
      conv => whnf
      rw [if_neg (by omega)] at hsu
      refine ⟨_, _, Blk.ld (hp.get (i := 0) rfl) TTok rfl (rfl), ?_⟩
      conv => whnf
      refine hKq _ _ _ (.refl _) ?_
      clear hKq Kq
      conv => whnf
      refine hp.kalloc z95 fun qn w hp hx => ?_
      conv => whnf
      refine hp.kst1 TTok (by rfl) 0 (by rfl) (by rfl) (by rfl) (by exact Nat.zero_lt_one) fun w hp => ?_
      try simp only [List.set_cons_zero, List.set_cons_succ, EV.val] at hp
      conv => whnf
      refine hKq _ _ _ (.refl _) ?_
      clear hKq Kq
      conv => whnf
      refine ⟨_, _, Blk.ld (hp.get (i := 0) rfl) TTok rfl (rfl), ?_⟩
      conv => whnf
      rw [show (((p : Nat) : Int) + 1) % 18446744073709551616 = ((i + 1 + 2 : Nat) : Int) by omega]
      refine hp.kst1 TTok (by rfl) 0 (by rfl) (by rfl) (by rfl) (by exact Nat.zero_lt_one) fun w hp => ?_
      try simp only [List.set_cons_zero, List.set_cons_succ, EV.val] at hp
      conv => whnf
      have hp := hp.pick [0, 2, 3] (by decide)
      refine ⟨m - 1, _, by omega, ⟨i + 1, qn, by omega, by rw [hsu], by rw [hsu]; exact hp⟩, sub_cons rfl (sub_cons rfl (sub_cons rfl (sub_cons rfl sub_nil)))⟩
 ·have hlt := of_decide_eq_false hlt
  conv => whnf
  clear hKq Kq
  refine hKq _ _ _ (.refl _) ?_
  clear hKq Kq
  conv => whnf
  refine VSeq.mk fun Kq hKq => ?_
  conv => whnf
  have hi : i = 310 := by
   rcases Nat.lt_or_ge i 310 with h | h
   ·have := tab_cnt i h; omega
   ·omega
  subst hi
  rw [tab_end] at hp
  refine v_mtB TTok FFok mixed [2, 3] (.q 0 (.br 1 2 (.m 2 (.m 3 .nil)) (.m 1 (.m 3 .nil)))) (by kernel_rfl) ?_
  conv => whnf
  refine ⟨_, fun w' hx' => Blk.ldN (Blk.ext (hp.get (i := 2) rfl) hx') TTok rfl (by rfl), ?_⟩
  conv => whnf
  refine And.intro ?_ ?_
  ·intro w hx
   try (have hp := hp.call hx)
   conv => whnf
   refine ⟨_, _, Blk.ldN (hp.get (i := 1) rfl) TTok rfl (by rfl), ?_⟩
   conv => whnf
   refine And.intro (fun h => h) ?_
   conv => whnf
   intro w hx
   try (have hp := hp.call hx)
   conv => whnf
   refine hp.kstA TTok rfl 2 rfl (by rfl) (kw_one _ _) (by rfl) fun w hp => ?_
   try simp only [List.set_cons_zero, List.set_cons_succ, EV.val] at hp
   conv => whnf
   intro w hx
   try (have hp := hp.call hx)
   conv => whnf
   refine hp.kstA TTok rfl 1 rfl (by rfl) (kw_one _ _) (by rfl) fun w hp => ?_
   try simp only [List.set_cons_zero, List.set_cons_succ, EV.val] at hp
   conv => whnf
   intro w hx
   try (have hp := hp.call hx)
   conv => whnf
   refine hKq _ _ _ (.refl _) ?_
   clear hKq Kq
   conv => whnf
   exact ⟨_, Blk.lvN (hp.get (i := 2) rfl) TTok rfl (by rfl), _, Blk.lvN (hp.get (i := 1) rfl) TTok rfl (by rfl), rfl, hp.ext⟩
  ·intro w hx
   try (have hp := hp.call hx)
   conv => whnf
   refine hp.kstA TTok rfl 2 rfl (by rfl) (kw_one _ _) (by rfl) fun w hp => ?_
   try simp only [List.set_cons_zero, List.set_cons_succ, EV.val] at hp
   conv => whnf
   intro w hx
   try (have hp := hp.call hx)
   conv => whnf
   refine ⟨_, _, Blk.ldN (hp.get (i := 1) rfl) TTok rfl (by rfl), ?_⟩
   conv => whnf
   refine And.intro (fun h => h) ?_
   conv => whnf
   intro w hx
   try (have hp := hp.call hx)
   conv => whnf
   refine hp.kstA TTok rfl 1 rfl (by rfl) (kw_one _ _) (by rfl) fun w hp => ?_
   try simp only [List.set_cons_zero, List.set_cons_succ, EV.val] at hp
   conv => whnf
   intro w hx
   try (have hp := hp.call hx)
   conv => whnf
   refine hKq _ _ _ (.refl _) ?_
   clear hKq Kq
   conv => whnf
   exact ⟨_, Blk.lvN (hp.get (i := 2) rfl) TTok rfl (by rfl), _, Blk.lvN (hp.get (i := 1) rfl) TTok rfl (by rfl), rfl, hp.ext⟩
def dropB (s : ByteArray) (k : Nat) : ByteArray := ⟨(s.data.toList.drop (64 * k)).toArray⟩
def blkB (s : ByteArray) (k : Nat) : ByteArray := ⟨((s.data.toList.drop (64 * k)).take 64).toArray⟩
theorem dropB_size (s : ByteArray) (k : Nat) : (dropB s k).size = s.size - 64 * k := by
 unfold dropB; rw [bA_size, List.length_drop, toList_len]
theorem blkB_size (s : ByteArray) (k : Nat) (h : 64 * k + 64 ≤ s.size) : (blkB s k).size = 64 := by
 unfold blkB; rw [bA_size, List.length_take, List.length_drop, toList_len]; omega
theorem ext_list (s : ByteArray) (a b : Nat) : (s.extract a b).data.toList = (s.data.toList.drop a).take (b - a) := by
 rw [ByteArray.data_extract, Array.toList_extract, List.extract_eq_take_drop]
theorem dropB_head (s : ByteArray) (k : Nat) : (dropB s k).extract 0 64 = blkB s k := by
 apply ba_eq
 rw [ext_list, List.drop_zero]
 rfl
theorem dropB_tail (s : ByteArray) (k : Nat) : (dropB s k).extract 64 (dropB s k).size = dropB s (k + 1) := by
 apply ba_eq
 rw [ext_list, dropB_size]
 show ((s.data.toList.drop (64 * k)).drop 64).take _ = s.data.toList.drop (64 * (k + 1))
 rw [List.drop_drop, List.take_of_length_le (by rw [List.length_drop, toList_len]; omega)]
 rfl
theorem dropB_zero (s : ByteArray) : dropB s 0 = s := by
 apply ba_eq; rfl
theorem blocks_iter (s : ByteArray) (bs : Nat) :
  Iter Try.prog 101 [.pointer (some ⟨bs, 0, none⟩)] [bs] (fun W => Blk W bs [.string s] 9) (fun k => [.string (blkB s k)]) (fun k => k = s.size / 64) (s.size / 64 + 1) := by
 intro l J Jx W hb hN hJ hJx hY h0
 refine (v_fn (R := fun _ B => (∃ k, k = s.size / 64 ∧ J k B) ∨ ∃ k, Jx k B) TTok FFok (f := 101) rfl rfl (Nat.le_of_ble_eq_true rfl) ?_).mono ?_
 rotate_left
 ·rintro e B ⟨v, rfl, h⟩; exact ⟨⟨v, rfl⟩, h⟩
 rw [← dropB_zero s] at hb
 conv => whnf
 refine ⟨fun m l' w => ∃ (k : Nat), m + k = s.size / 64 ∧ l' = [(0, .v (.func (.yield l) #[] #[])), (1, .v (.pointer (some ⟨bs, 0, none⟩)))] ∧ J k w ∧ Blk w bs [.string (dropB s k)] 9,
  ⟨s.size / 64, _, ⟨0, by omega, rfl, h0, hb⟩, sub_cons rfl (sub_cons rfl sub_nil)⟩, ?_⟩
 clear h0 hb
 rintro m _ w ⟨k, hk, rfl, hj, hb⟩
 have hp := (HpM.nil0 [bs] w).take hb (by simp) (by simp)
 have hds := dropB_size s k
 conv => whnf
 refine VSeq.mk fun Kq hKq => ?_
 conv => whnf
 refine VSeq.mk fun Kq hKq => ?_
 conv => whnf
 refine ⟨_, _, Blk.ld (hp.get (i := 0) rfl) TTok rfl (rfl), ?_⟩
 conv => whnf
 refine hKq _ _ _ (.refl _) ?_
 clear hKq Kq
 conv => whnf
 refine ⟨fun hlt => ?_, fun hlt => ?_⟩
 ·have hlt := of_decide_eq_true hlt
  conv => whnf
  refine hKq _ _ _ (.refl _) ?_
  clear hKq Kq
  conv => whnf
  refine VSeq.mk fun Kq hKq => ?_
  conv => whnf
  refine VSeq.mk fun Kq hKq => ?_
  conv => whnf
  have hk2 : k < s.size / 64 := by omega
  refine ⟨_, _, Blk.ld (hp.get (i := 0) rfl) TTok rfl (rfl), ?_⟩
  conv => whnf
  refine ⟨64, ⟨by first | rfl | omega, by omega⟩, ?_⟩
  conv => whnf
  rw [dropB_head]
  have hj1 := hJ k _ _ hj hp.extM
  refine y_mono (hY k _ hj1 (by omega)) ?_
  rintro e w' (⟨rfl, hj2, hkp⟩ | ⟨rfl, hx2⟩)
  ·have hb' : Blk w' bs [.string (dropB s k)] 9 := Blk.same (hp.get (i := 0) rfl) (hkp bs (by simp))
   refine ⟨_, rfl, ?_⟩
   have hp := (HpM.nil0 [bs] w').take hb' (by simp) (by simp)
   conv => whnf
   refine hKq _ _ _ (.refl _) ?_
   clear hKq Kq
   conv => whnf
   refine ⟨fun h => (by cases h), fun _ => ?_⟩
   conv => whnf
   refine hKq _ _ _ (.refl _) ?_
   clear hKq Kq
   conv => whnf
   refine ⟨_, _, Blk.ld (hp.get (i := 0) rfl) TTok rfl (rfl), ?_⟩
   conv => whnf
   refine ⟨64, ⟨by first | rfl | omega, by omega⟩, ?_⟩
   conv => whnf
   rw [dropB_tail]
   refine hp.kst1 TTok (by rfl) 0 (by rfl) (by rfl) (by rfl) (by exact Nat.zero_lt_one) fun w hp => ?_
   try simp only [List.set_cons_zero, List.set_cons_succ, EV.val] at hp
   conv => whnf
   exact ⟨m - 1, _, by omega, ⟨k + 1, by omega, rfl, hJ _ _ _ hj2 hp.extM, hp.get (i := 0) rfl⟩, sub_cons rfl (sub_cons rfl sub_nil)⟩
  ·refine ⟨_, rfl, ?_⟩
   conv => whnf
   refine hKq _ _ _ (.refl _) ?_
   clear hKq Kq
   conv => whnf
   refine ⟨fun _ => ?_, fun h => (by cases h)⟩
   conv => whnf
   exact .inr ⟨k, hx2⟩
 ·have hlt := of_decide_eq_false hlt
  conv => whnf
  have hk2 : k = s.size / 64 := by omega
  exact .inl ⟨k, hk2, hj⟩
theorem blocks_c {M : List Nat} {w0 w : World} {H : List It} (hp : HpM M w0 w H) (s : ByteArray) :
  Calls Try.prog 98 #[.string s] w fun e w' => ∃ v, e = .returned v ∧ ∃ bs, v = .func (.func 101) #[] #[.pointer (some ⟨bs, 0, none⟩)] ∧
   HpM M w0 w' (blk bs [.string s] 9 :: H) ∧ Ext w w' := by
 refine v_fn (args := [.string s]) TTok FFok (f := 98) rfl rfl (Nat.le_of_ble_eq_true rfl) ?_
 conv => whnf
 refine VSeq.mk fun Kq hKq => ?_
 conv => whnf
 refine hp.kbox [.string s] rfl fun bs w1 hp hx1 => ?_
 conv => whnf
 refine hKq _ _ _ (.refl _) ?_
 clear hKq Kq
 conv => whnf
 refine VSeq.mk fun Kq hKq => ?_
 conv => whnf
 refine hKq _ _ _ (.refl _) ?_
 clear hKq Kq
 conv => whnf
 exact ⟨bs, rfl, hp, hx1⟩
def schP (b : List UInt8) (t : Nat) : List Nat := wsch b t ++ List.replicate (64 - t) 0
theorem schP_len (b : List UInt8) (t : Nat) (h : t ≤ 64) : (schP b t).length = 64 := by
 unfold schP; rw [List.length_append, wsch_len, List.length_replicate]; omega
theorem schP_all (b : List UInt8) : schP b 64 = wsch b 64 := by unfold schP; exact List.append_nil _
theorem schP_get (b : List UInt8) (t i : Nat) (h : i < t) : (schP b t)[i]? = some ((wsch b t).getD i 0) := by
 unfold schP
 rw [List.getElem?_append_left (by rw [wsch_len]; exact h), List.getD_eq_getElem?_getD, List.getElem?_eq_getElem (by rw [wsch_len]; exact h)]; rfl
theorem schP_set (b : List UInt8) (t : Nat) (h : t < 64) : (schP b t).set t (wnext b (wsch b t) t) = schP b (t + 1) := by
 unfold schP
 rw [List.set_append, if_neg (by rw [wsch_len]; omega), wsch_len, Nat.sub_self, wsch, show 64 - t = (64 - (t + 1)) + 1 by omega, List.replicate_succ, List.set_cons_zero, List.append_assoc]; rfl
theorem be4_byt (B : ByteArray) (i : Nat) : be4 B.data.toList i = byt B i * 16777216 + byt B (i + 1) * 65536 + byt B (i + 2) * 256 + byt B (i + 3) := rfl
theorem nat_getD (l : List Nat) (i : Nat) (h : i < l.length) : l[i]? = some (l.getD i 0) := by
 rw [List.getD_eq_getElem?_getD, List.getElem?_eq_getElem h]; rfl
def hC (h : List Nat) (tail : ByteArray) (c : Int) : List Value := kw .u32 h ++ [.string tail, .int .i64 c]
def addP (g v : List Nat) (i : Nat) : List Nat := (addW g v).take i ++ g.drop i
theorem addW_get (g v : List Nat) (i : Nat) (h : i < 8) : (addW g v)[i]? = some ((g.getD i 0 + v.getD i 0) % M32) := by
 unfold addW; rw [List.getElem?_map, List.getElem?_range h]; rfl
theorem addP_zero (g v : List Nat) : addP g v 0 = g := by simp [addP]
theorem addP_all (g v : List Nat) (h : g.length = 8) : addP g v 8 = addW g v := by
 unfold addP; rw [List.drop_eq_nil_of_le (by omega), List.append_nil, List.take_of_length_le (by rw [(addW_W8 g v).1]; exact Nat.le_refl _)]
theorem addP_len (g v : List Nat) (i : Nat) (h : g.length = 8) (hi : i ≤ 8) : (addP g v i).length = 8 := by
 unfold addP; rw [List.length_append, List.length_take, List.length_drop, (addW_W8 g v).1]; omega
theorem addP_get (g v : List Nat) (i : Nat) (h : g.length = 8) (hi : i < 8) : (addP g v i)[i]? = some (g.getD i 0) := by
 unfold addP
 rw [List.getElem?_append_right (by rw [List.length_take]; omega), List.length_take, (addW_W8 g v).1, show i - min i 8 = 0 by omega, List.getElem?_drop, Nat.add_zero, nat_getD g i (by omega)]
theorem addP_set (g v : List Nat) (i : Nat) (h : g.length = 8) (hi : i < 8) : (addP g v i).set i ((g.getD i 0 + v.getD i 0) % M32) = addP g v (i + 1) := by
 unfold addP
 rw [List.set_append, if_neg (by rw [List.length_take]; omega), List.length_take, (addW_W8 g v).1, show i - min i 8 = 0 by omega, List.drop_eq_getElem_cons (by omega), List.set_cons_zero, List.take_add_one, addW_get g v i hi]
 simp
theorem hC_get {l : List Nat} {tail : ByteArray} {c : Int} {i x : Nat} (h : l[i]? = some x) : (hC l tail c)[i]? = some (.int .u32 (x : Nat)) := by
 unfold hC
 have hl : i < l.length := (List.getElem?_eq_some_iff.1 h).1
 rw [List.getElem?_append_left (by rw [kw_len]; exact hl)]
 exact kw_get h
theorem hC_len (l : List Nat) (tail : ByteArray) (c : Int) : (hC l tail c).length = l.length + 2 := by
 unfold hC; rw [List.length_append, kw_len]; rfl
theorem hC_set (l : List Nat) (tail : ByteArray) (c : Int) (i x : Nat) (h : i < l.length) : (hC l tail c).set i (.int .u32 ((x : Nat) : Int)) = hC (l.set i x) tail c := by
 unfold hC
 rw [List.set_append_left _ _ (by rw [kw_len]; exact h), kw_set]
theorem hC_words (g : List Nat) (tail : ByteArray) (c : Int) (h : g.length = 8) : ((hC g tail c).drop 0).take 8 = kw .u32 g := by
 unfold hC
 rw [List.drop_zero, List.take_left' (by rw [kw_len, h])]
set_option maxHeartbeats 16000000 in
theorem mix_c {w0 : World} {qh e : Nat} (s : ByteArray) (h : List Nat) (tail : ByteArray) (c : Int) (hh : W8 h) (hs : s.size ≤ 1000000) (hb : Blk w0 qh (hC h tail c) e) :
  Calls Try.prog 96 #[.pointer (some ⟨qh, 0, none⟩), .string s, hV KL] w0 fun e' w' => ∃ v, e' = .returned v ∧ v = .tuple #[] ∧ w0.grownBy w' (some qh) ∧ Blk w' qh (hC (mixA KL h s.data.toList) tail c) e := by
 have hsl : s.data.toList.length = s.size := by simp
 refine v_fn (args := [.pointer (some ⟨qh, 0, none⟩), .string s, hV KL]) TTok FFok (f := 96) rfl rfl (Nat.le_of_ble_eq_true rfl) ?_
 have hp := (HpM.nil0 [qh] w0).take hb (by simp) (by simp)
 unfold hV
 conv => whnf
 refine VSeq.mk fun Kq hKq => ?_
 conv => whnf
 refine hp.kbox ([.pointer (some ⟨qh, 0, none⟩)]) rfl fun q3 w hp hx => ?_
 conv => whnf
 refine hp.kbox (kw .u32 KL) rfl fun q5 w hp hx => ?_
 conv => whnf
 refine hKq _ _ _ (.refl _) ?_
 clear hKq Kq
 conv => whnf
 refine VSeq.mk fun Kq hKq => ?_
 conv => whnf
 refine Calls.mono (blocks_c hp s) ?_
 rintro _ w1 ⟨v, rfl, bs, rfl, hp, hx2⟩
 refine ⟨_, rfl, ?_⟩
 clear hx hx2
 have hp0 := hp.rot 1
 conv => whnf
 refine hKq _ _ _ (.refl _) ?_
 clear hKq Kq
 conv => whnf
 refine v_range TTok FFok (blocks_iter s bs) rfl rfl (by kernel_rfl) rfl (fun _ => rfl)
  (fun t X W => t ≤ s.size / 64 ∧ HpM [qh] w0 W (blk q5 (kw .u32 KL) 145 :: blk q3 [.pointer (some ⟨qh, 0, none⟩)] 167 :: blk qh (hC (mixJ KL s.data.toList h t) tail c) e :: X))
  (fun _ _ _ => False)
  (fun t => ⟨fun X A h x hx => h.2.holds x (by simp [hx]), fun X X' A B r h => ⟨h.1, h.2.reframeAt 3 rfl r⟩⟩)
  (fun e => ⟨fun X A h x hx => h.elim, fun X X' A B r h => h.elim⟩)
  (fun t X A h => by omega) [blk bs [.string s] 9] (hp.sub (by simp)) rfl
  (fun B hx => (hp.get (i := 0) rfl : Blk _ _ _ _).ext hx) ⟨by omega, hp0⟩ ?_ ?_ ?_ ?_
 ·rintro k X A ⟨hk, hp⟩ hk5
  clear hp0
  conv => whnf
  refine ⟨fun x hx => hp.holds x (by simp [hx]), fun X' B' r => ?_⟩
  have hp := hp.reframeAt 3 rfl r
  simp only [List.take_succ_cons, List.take_zero, List.cons_append, List.nil_append] at hp
  have hkb : 64 * k + 64 ≤ s.size := by omega
  have hBs := blkB_size s k hkb
  have hBl : (blkB s k).data.toList = (s.data.toList.drop (64 * k)).take 64 := rfl
  have hsuc : mixJ KL s.data.toList h (k + 1) = addW (mixJ KL s.data.toList h k) (rnds KL (wsch (blkB s k).data.toList 64) (mixJ KL s.data.toList h k) 64) := rfl
  have hg8 := mixJ_W8 KL s.data.toList hh k
  obtain ⟨g, hgd⟩ : ∃ g, mixJ KL s.data.toList h k = g := ⟨_, rfl⟩
  rw [hgd] at hp hsuc hg8
  obtain ⟨B, hB⟩ : ∃ B, blkB s k = B := ⟨_, rfl⟩
  rw [hB] at hBs hsuc ⊢
  obtain ⟨L, hL⟩ : ∃ L, B.data.toList = L := ⟨_, rfl⟩
  rw [hL] at hsuc
  clear hBl hB hgd
  conv => whnf
  refine VSeq.mk fun Kq hKq => ?_
  conv => whnf
  refine hp.kalloc z145 fun q7 w hp hx => ?_
  conv => whnf
  refine hKq _ _ _ (.refl _) ?_
  clear hKq Kq
  conv => whnf
  refine VSeq.mk fun Kq hKq => ?_
  conv => whnf
  refine VSeq.mk fun Kq hKq => ?_
  conv => whnf
  refine hKq _ _ _ (.refl _) ?_
  clear hKq Kq
  conv => whnf
  have hp : HpM [qh] w0 w (blk q7 (kw .u32 (schP L 0)) 145 :: blk q5 (kw .u32 KL) 145 :: blk q3 [.pointer (some ⟨qh, 0, none⟩)] 167 :: blk qh (hC g tail c) e :: X') := hp
  refine ⟨fun m l' w' => ∃ (t : Nat), m + t = 64 ∧ l' = [(3, .v (.pointer (some ⟨q3, 0, none⟩))), (5, .v (.pointer (some ⟨q5, 0, none⟩))), (6, .v (.string B)), (7, .v (.pointer (some ⟨q7, 0, none⟩))), (22, .v (.int .i64 t))] ∧
    HpM [qh] w0 w' (blk q7 (kw .u32 (schP L t)) 145 :: blk q5 (kw .u32 KL) 145 :: blk q3 [.pointer (some ⟨qh, 0, none⟩)] 167 :: blk qh (hC g tail c) e :: X'),
   ⟨64, _, ⟨0, by omega, rfl, hp⟩, sub_cons rfl (sub_cons rfl (sub_cons rfl (sub_cons rfl (sub_cons rfl sub_nil))))⟩, ?_⟩
  clear hp hx
  repeat clear hp
  rintro m _ w ⟨t, hm, rfl, hp⟩
  conv => whnf
  refine VSeq.mk fun Kq hKq => ?_
  conv => whnf
  refine hKq _ _ _ (.refl _) ?_
  clear hKq Kq
  conv => whnf
  refine VSeq.mk fun Kq hKq => ?_
  conv => whnf
  refine ⟨fun hlt => ?_, fun hlt => ?_⟩
  ·have hlt := of_decide_eq_true hlt
   conv => whnf
   refine hKq _ _ _ (.refl _) ?_
   clear hKq Kq
   conv => whnf
   refine VSeq.mk fun Kq hKq => ?_
   conv => whnf
   refine VSeq.mk fun Kq hKq => ?_
   conv => whnf
   refine hKq _ _ _ (.refl _) ?_
   clear hKq Kq
   conv => whnf
   refine VSeq.mk fun Kq hKq => ?_
   conv => whnf
   refine VSeq.mk fun Kq hKq => ?_
   conv => whnf
   refine hKq _ _ _ (.refl _) ?_
   clear hKq Kq
   conv => whnf
   have hset := schP_set L t (by omega)
   have hlen := schP_len L t (by omega)
   refine ⟨fun h16 => ?_, fun h16 => ?_⟩
   ·have h16 := of_decide_eq_true h16
    conv => whnf
    refine VSeq.mk fun Kq hKq => ?_
    conv => whnf
    refine Or.inl (And.intro (by omega) ?_)
    conv => whnf
    refine Or.inl (And.intro (by omega) ?_)
    conv => whnf
    refine Or.inl (And.intro (by omega) ?_)
    conv => whnf
    have hwn : wnext L (wsch L t) t = byt B (4 * t) * 16777216 + byt B (4 * t + 1) * 65536 + byt B (4 * t + 2) * 256 + byt B (4 * t + 3) := by
     unfold wnext
     rw [if_pos (by omega), ← hL]
     exact be4_byt B (4 * t)
    rw [hwn] at hset
    refine ⟨4 * t, 4 * t + 4, ⟨by first | rfl | omega, by first | rfl | omega, by omega, by omega⟩, ?_⟩
    conv => whnf
    refine hKq _ _ _ (.refl _) ?_
    clear hKq Kq
    conv => whnf
    refine VSeq.mk fun Kq hKq => ?_
    conv => whnf
    have hxs := size_extract B (4 * t) (4 * t + 4) (by omega)
    have x0 : byt (B.extract (4 * t) (4 * t + 4)) 0 = byt B (4 * t) := byt_extract B (4 * t) (4 * t + 4) 0 (by omega) (by omega)
    have x1 := byt_extract B (4 * t) (4 * t + 4) 1 (by omega) (by omega)
    have x2 := byt_extract B (4 * t) (4 * t + 4) 2 (by omega) (by omega)
    have x3 := byt_extract B (4 * t) (4 * t + 4) 3 (by omega) (by omega)
    rw [← x0, ← x1, ← x2, ← x3] at hset
    obtain ⟨x, hxd⟩ : ∃ x, B.extract (4 * t) (4 * t + 4) = x := ⟨_, rfl⟩
    rw [hxd] at hxs hset ⊢
    clear x0 x1 x2 x3 hxd hwn
    have u0 := V.byt_lt x 0
    have u1 := V.byt_lt x 1
    have u2 := V.byt_lt x 2
    have u3 := V.byt_lt x 3
    refine v_mix TTok FFok mixed 20 [(0, false), (1, false), (2, false), (3, false), (4, false), (5, false), (6, false), (7, false), (8, false), (9, false), (10, false), (11, false), (12, false), (13, false), (14, false), (15, false), (16, false), (17, false), (18, false), (19, false)] (by kernel_rfl) ?_
    conv => whnf
    refine ⟨0, ⟨by first | rfl | omega, by omega⟩, ?_⟩
    conv => whnf
    refine And.intro (by omega) ?_
    conv => whnf
    refine ⟨24, ⟨by first | rfl | omega, by omega⟩, ?_⟩
    conv => whnf
    refine ⟨1, ⟨by first | rfl | omega, by omega⟩, ?_⟩
    conv => whnf
    refine And.intro (by omega) ?_
    conv => whnf
    refine ⟨16, ⟨by first | rfl | omega, by omega⟩, ?_⟩
    conv => whnf
    refine ⟨byt x 0 * 16777216, byt x 1 * 65536, byt x 0 * 16777216 + byt x 1 * 65536, ⟨by first | rfl | omega, by first | rfl | omega, by omega, by omega⟩, by (dsimp only; exact nat_join 24 _ _ (by omega) (by omega)), ?_⟩
    conv => whnf
    refine ⟨2, ⟨by first | rfl | omega, by omega⟩, ?_⟩
    conv => whnf
    refine And.intro (by omega) ?_
    conv => whnf
    refine ⟨8, ⟨by first | rfl | omega, by omega⟩, ?_⟩
    conv => whnf
    refine ⟨byt x 0 * 16777216 + byt x 1 * 65536, byt x 2 * 256, byt x 0 * 16777216 + byt x 1 * 65536 + byt x 2 * 256, ⟨by first | rfl | omega, by first | rfl | omega, by omega, by omega⟩, by (dsimp only; exact nat_join 16 _ _ (by omega) (by omega)), ?_⟩
    conv => whnf
    refine ⟨3, ⟨by first | rfl | omega, by omega⟩, ?_⟩
    conv => whnf
    refine And.intro (by omega) ?_
    conv => whnf
    refine ⟨byt x 0 * 16777216 + byt x 1 * 65536 + byt x 2 * 256, byt x 3, byt x 0 * 16777216 + byt x 1 * 65536 + byt x 2 * 256 + byt x 3, ⟨by first | rfl | omega, by first | rfl | omega, by omega, by omega⟩, by (dsimp only; exact nat_join 8 _ _ (by omega) (by omega)), ?_⟩
    conv => whnf
    refine ⟨t, ⟨by first | rfl | omega, by omega⟩, ?_⟩
    conv => whnf
    intro w hx
    try (have hp := hp.call hx)
    conv => whnf
    refine hp.kst1 (off := t) TTok (by rfl) 0 (by rfl) (by rfl) (by rfl) (by rw [kw_len]; omega) fun w hp => ?_
    try simp only [List.set_cons_zero, List.set_cons_succ, EV.val] at hp
    conv => whnf
    refine hKq _ _ _ (.refl _) ?_
    clear hKq Kq
    conv => whnf
    clear hKq Kq
    refine hKq _ _ _ (.refl _) ?_
    clear hKq Kq
    conv => whnf
    refine Or.inl (And.intro (by omega) ?_)
    conv => whnf
    rw [kw_set, hset] at hp
    exact ⟨m - 1, _, by omega, ⟨t + 1, by omega, rfl, hp⟩, sub_cons rfl (sub_cons rfl (sub_cons rfl (sub_cons rfl (sub_cons rfl sub_nil))))⟩
   ·have h16 := of_decide_eq_false h16
    conv => whnf
    refine hKq _ _ _ (.refl _) ?_
    clear hKq Kq
    conv => whnf
    refine VSeq.mk fun Kq hKq => ?_
    conv => whnf
    have hwn : wnext L (wsch L t) t = ((wsch L t).getD (t - 16) 0 + (wsch L t).getD (t - 7) 0 + sg0 ((wsch L t).getD (t - 15) 0) + sg1 ((wsch L t).getD (t - 2) 0)) % M32 := by unfold wnext; rw [if_neg (by omega)]
    rw [hwn] at hset
    have g16 := schP_get L t (t - 16) (by omega)
    have g7 := schP_get L t (t - 7) (by omega)
    have g15 := schP_get L t (t - 15) (by omega)
    have g2 := schP_get L t (t - 2) (by omega)
    have l16 := getD_lt32 (wsch_lt L t) (t - 16)
    have l7 := getD_lt32 (wsch_lt L t) (t - 7)
    have l15 := getD_lt32 (wsch_lt L t) (t - 15)
    have l2 := getD_lt32 (wsch_lt L t) (t - 2)
    obtain ⟨p, hpd⟩ : ∃ p, (wsch L t).getD (t - 16) 0 = p := ⟨_, rfl⟩
    obtain ⟨q, hqd⟩ : ∃ q, (wsch L t).getD (t - 7) 0 = q := ⟨_, rfl⟩
    obtain ⟨x, hxd⟩ : ∃ x, (wsch L t).getD (t - 15) 0 = x := ⟨_, rfl⟩
    obtain ⟨y, hyd⟩ : ∃ y, (wsch L t).getD (t - 2) 0 = y := ⟨_, rfl⟩
    rw [hpd] at hset g16 l16
    rw [hqd] at hset g7 l7
    rw [hxd] at hset g15 l15
    rw [hyd] at hset g2 l2
    clear hpd hqd hxd hyd hwn
    have s0 := sg0_lt l15
    have s1 := sg1_lt l2
    have e0 : rotl x 25 ^^^ rotl x 14 ^^^ (x / 8) = sg0 x := rfl
    have e1 : rotl y 15 ^^^ rotl y 13 ^^^ (y / 1024) = sg1 y := rfl
    have r25 := rotl_lt x 25 l15 (by decide)
    have r14 := rotl_lt x 14 l15 (by decide)
    have r15 := rotl_lt y 15 l2 (by decide)
    have r13 := rotl_lt y 13 l2 (by decide)
    have rx := xor_lt32 r25 r14
    have ry := xor_lt32 r15 r13
    unfold M32 at l16 l7 l15 l2 s0 s1 rx ry
    refine v_mixA TTok FFok mixed [(0, false), (1, false), (2, false), (3, false), (4, false), (5, false), (6, false), (7, false), (8, false), (9, false)] (by kernel_rfl) ?_
    conv => whnf
    refine Or.inl (And.intro (by omega) ?_)
    conv => whnf
    refine ⟨t - 15, ⟨by first | rfl | omega, by omega⟩, ?_⟩
    conv => whnf
    refine ⟨_, fun w' hx' => Blk.ld (Blk.ext (hp.get (i := 0) rfl) hx') TTok rfl (kw_get g15), ?_⟩
    conv => whnf
    refine Or.inl (And.intro (by omega) ?_)
    conv => whnf
    refine ⟨t - 2, ⟨by first | rfl | omega, by omega⟩, ?_⟩
    conv => whnf
    refine ⟨_, fun w' hx' => Blk.ld (Blk.ext (hp.get (i := 0) rfl) hx') TTok rfl (kw_get g2), ?_⟩
    conv => whnf
    intro w hx
    try (have hp := hp.call hx)
    conv => whnf
    refine hKq _ _ _ (.refl _) ?_
    clear hKq Kq
    conv => whnf
    refine v_mix TTok FFok mixed 29 [(0, false), (1, false), (2, false), (3, false), (4, false), (5, false), (6, false), (7, false), (8, false), (9, false), (10, false), (11, false), (12, false), (13, false), (14, false), (15, false), (16, false), (17, false), (18, false), (19, false), (20, false), (21, false), (22, false), (23, false), (24, false), (25, false), (26, false), (27, false), (28, false)] (by kernel_rfl) ?_
    conv => whnf
    refine Or.inl (And.intro (by omega) ?_)
    conv => whnf
    refine ⟨t - 16, ⟨by first | rfl | omega, by omega⟩, ?_⟩
    conv => whnf
    refine ⟨_, fun w' hx' => Blk.ld (Blk.ext (hp.get (i := 0) rfl) hx') TTok rfl (kw_get g16), ?_⟩
    conv => whnf
    refine Or.inl (And.intro (by omega) ?_)
    conv => whnf
    refine ⟨t - 7, ⟨by first | rfl | omega, by omega⟩, ?_⟩
    conv => whnf
    refine ⟨_, fun w' hx' => Blk.ld (Blk.ext (hp.get (i := 0) rfl) hx') TTok rfl (kw_get g7), ?_⟩
    conv => whnf
    first | refine PureF.quiet (rotN_p x 7 l15 (by decide) (by decide)) ?_ | refine PureF.quietE (rotN_p x 7 l15 (by decide) (by decide)) ?_
    conv => whnf
    first | refine PureF.quiet (rotN_p x 18 l15 (by decide) (by decide)) ?_ | refine PureF.quietE (rotN_p x 18 l15 (by decide) (by decide)) ?_
    conv => whnf
    refine ⟨rotl x 25, rotl x 14, _, ⟨by first | rfl | omega, by first | rfl | omega, by omega, by omega⟩, rfl, ?_⟩
    conv => whnf
    refine ⟨3, ⟨by first | rfl | omega, by omega⟩, ?_⟩
    conv => whnf
    refine ⟨rotl x 25 ^^^ rotl x 14, x / 8, sg0 x, ⟨by first | rfl | omega, by first | rfl | omega, by omega, by omega⟩, rfl, ?_⟩
    conv => whnf
    first | refine PureF.quiet (rotN_p y 17 l2 (by decide) (by decide)) ?_ | refine PureF.quietE (rotN_p y 17 l2 (by decide) (by decide)) ?_
    conv => whnf
    first | refine PureF.quiet (rotN_p y 19 l2 (by decide) (by decide)) ?_ | refine PureF.quietE (rotN_p y 19 l2 (by decide) (by decide)) ?_
    conv => whnf
    refine ⟨rotl y 15, rotl y 13, _, ⟨by first | rfl | omega, by first | rfl | omega, by omega, by omega⟩, rfl, ?_⟩
    conv => whnf
    refine ⟨10, ⟨by first | rfl | omega, by omega⟩, ?_⟩
    conv => whnf
    refine ⟨rotl y 15 ^^^ rotl y 13, y / 1024, sg1 y, ⟨by first | rfl | omega, by first | rfl | omega, by omega, by omega⟩, rfl, ?_⟩
    conv => whnf
    refine ⟨t, ⟨by first | rfl | omega, by omega⟩, ?_⟩
    conv => whnf
    intro w hx
    try (have hp := hp.call hx)
    conv => whnf
    refine hp.kst1 (off := t) TTok (by rfl) 0 (by rfl) (by rfl) (by rfl) (by rw [kw_len]; omega) fun w hp => ?_
    try simp only [List.set_cons_zero, List.set_cons_succ, EV.val] at hp
    conv => whnf
    refine hKq _ _ _ (.refl _) ?_
    clear hKq Kq
    conv => whnf
    refine Or.inl (And.intro (by omega) ?_)
    conv => whnf
    rw [show ((((p : Int) + (q : Int)) % 4294967296 + ((sg0 x : Nat) : Int)) % 4294967296 + ((sg1 y : Nat) : Int)) % 4294967296 = (((p + q + sg0 x + sg1 y) % M32 : Nat) : Int) by unfold M32; omega, kw_set, hset] at hp
    exact ⟨m - 1, _, by omega, ⟨t + 1, by omega, rfl, hp⟩, sub_cons rfl (sub_cons rfl (sub_cons rfl (sub_cons rfl (sub_cons rfl sub_nil))))⟩
  ·have hlt := of_decide_eq_false hlt
   conv => whnf
   clear hKq Kq
   refine hKq _ _ _ (.refl _) ?_
   clear hKq Kq
   conv => whnf
   refine VSeq.mk fun Kq hKq => ?_
   conv => whnf
   obtain rfl : t = 64 := by omega
   rw [schP_all] at hp
   have hWl := wsch_len L 64
   have hWlt := wsch_lt L 64
   obtain ⟨W, hW⟩ : ∃ W, wsch L 64 = W := ⟨_, rfl⟩
   rw [hW] at hp hWl hWlt hsuc
   clear hW hlt hm
   refine ⟨_, _, Blk.ld (hp.get (i := 2) rfl) TTok rfl (rfl), ?_⟩
   conv => whnf
   refine ⟨_, _, Blk.ldV (off := 0) (hp.get (i := 3) rfl) TTok rfl (vs := kw .u32 g) (hC_words g tail c hg8.1) (by rw [kw_len, hg8.1]), ?_⟩
   conv => whnf
   refine hp.kalloc z144 fun q12 w hp hx => ?_
   conv => whnf
   refine hp.kstA TTok rfl 0 rfl (by rw [kw_len, hg8.1]) (kw_one _ _) (by rfl) fun w hp => ?_
   try simp only [List.set_cons_zero, List.set_cons_succ, EV.val] at hp
   conv => whnf
   refine hKq _ _ _ (.refl _) ?_
   clear hKq Kq
   conv => whnf
   refine VSeq.mk fun Kq hKq => ?_
   conv => whnf
   refine VSeq.mk fun Kq hKq => ?_
   conv => whnf
   refine hKq _ _ _ (.refl _) ?_
   clear hKq Kq
   conv => whnf
   have hp : HpM [qh] w0 w (blk q12 (kw .u32 (rnds KL W g 0)) 144 :: blk q7 (kw .u32 W) 145 :: blk q5 (kw .u32 KL) 145 :: blk q3 [.pointer (some ⟨qh, 0, none⟩)] 167 :: blk qh (hC g tail c) e :: X') := hp
   refine ⟨fun m l' w' => ∃ (t : Nat), m + t = 64 ∧ l' = [(3, .v (.pointer (some ⟨q3, 0, none⟩))), (5, .v (.pointer (some ⟨q5, 0, none⟩))), (7, .v (.pointer (some ⟨q7, 0, none⟩))), (12, .v (.pointer (some ⟨q12, 0, none⟩))), (97, .v (.int .i64 t))] ∧
     HpM [qh] w0 w' (blk q12 (kw .u32 (rnds KL W g t)) 144 :: blk q7 (kw .u32 W) 145 :: blk q5 (kw .u32 KL) 145 :: blk q3 [.pointer (some ⟨qh, 0, none⟩)] 167 :: blk qh (hC g tail c) e :: X'),
    ⟨64, _, ⟨0, by omega, rfl, hp⟩, sub_cons rfl (sub_cons rfl (sub_cons rfl (sub_cons rfl (sub_cons rfl sub_nil))))⟩, ?_⟩
   clear hp hx
   repeat clear hp
   rintro m _ w ⟨t, hm, rfl, hp⟩
   have hv8 := rnds_W8 KL W hg8 t
   conv => whnf
   refine VSeq.mk fun Kq hKq => ?_
   conv => whnf
   refine hKq _ _ _ (.refl _) ?_
   clear hKq Kq
   conv => whnf
   refine VSeq.mk fun Kq hKq => ?_
   conv => whnf
   refine ⟨fun hlt => ?_, fun hlt => ?_⟩
   ·have hlt := of_decide_eq_true hlt
    conv => whnf
    refine hKq _ _ _ (.refl _) ?_
    clear hKq Kq
    conv => whnf
    refine VSeq.mk fun Kq hKq => ?_
    conv => whnf
    refine VSeq.mk fun Kq hKq => ?_
    conv => whnf
    refine hKq _ _ _ (.refl _) ?_
    clear hKq Kq
    conv => whnf
    refine VSeq.mk fun Kq hKq => ?_
    conv => whnf
    have hrs : rnds KL W g (t + 1) = rnd8 (rnds KL W g t) (KL.getD t 0) (W.getD t 0) := rfl
    have hgk : KL[t]? = some (KL.getD t 0) := nat_getD _ _ (by rw [KL_len]; omega)
    have hgw : W[t]? = some (W.getD t 0) := nat_getD _ _ (by omega)
    have lk := getD_lt32 KL_lt t
    have lw := getD_lt32 hWlt t
    obtain ⟨v, hvd⟩ : ∃ v, rnds KL W g t = v := ⟨_, rfl⟩
    rw [hvd] at hp hv8 hrs
    obtain ⟨kt, hkt⟩ : ∃ kt, KL.getD t 0 = kt := ⟨_, rfl⟩
    obtain ⟨wt, hwt⟩ : ∃ wt, W.getD t 0 = wt := ⟨_, rfl⟩
    rw [hkt] at hrs hgk lk
    rw [hwt] at hrs hgw lw
    clear hvd hkt hwt
    obtain ⟨a, b, cc, d, ee, ff, gg, hh', rfl⟩ : ∃ a b c d e f g h, v = [a, b, c, d, e, f, g, h] := by
     match v, hv8.1 with
     | [a, b, c, d, e, f, g, h], _ => exact ⟨a, b, c, d, e, f, g, h, rfl⟩
    have la : a < M32 := hv8.2 a (by simp)
    have lb : b < M32 := hv8.2 b (by simp)
    have lc : cc < M32 := hv8.2 cc (by simp)
    have ld : d < M32 := hv8.2 d (by simp)
    have le : ee < M32 := hv8.2 ee (by simp)
    have lf : ff < M32 := hv8.2 ff (by simp)
    have lg : gg < M32 := hv8.2 gg (by simp)
    have lh : hh' < M32 := hv8.2 hh' (by simp)
    have r26 := rotl_lt ee 26 le (by decide)
    have r21 := rotl_lt ee 21 le (by decide)
    have r7 := rotl_lt ee 7 le (by decide)
    have r30 := rotl_lt a 30 la (by decide)
    have r19 := rotl_lt a 19 la (by decide)
    have r10 := rotl_lt a 10 la (by decide)
    have re1 := xor_lt32 r26 r21
    have ra1 := xor_lt32 r30 r19
    have be := bs1_lt le
    have ba := bs0_lt la
    have hch := chf_lt (f := ff) le lg
    have hmj := maj_lt (c := cc) la lb
    have aef := and_lt32 (y := ff) le
    have ng : (4294967295 - ee) &&& gg < M32 := Nat.lt_of_le_of_lt Nat.and_le_right lg
    have aab := and_lt32 (y := b) la
    have aac := and_lt32 (y := cc) la
    have abc := and_lt32 (y := cc) lb
    have axx := xor_lt32 aab aac
    have hone : one [a, b, cc, d, ee, ff, gg, hh'] kt wt = (hh' + bs1 ee + chf ee ff gg + kt + wt) % M32 := rfl
    have htwo : two [a, b, cc, d, ee, ff, gg, hh'] = (bs0 a + maj a b cc) % M32 := rfl
    have hrn : rnd8 [a, b, cc, d, ee, ff, gg, hh'] kt wt = [(one [a, b, cc, d, ee, ff, gg, hh'] kt wt + two [a, b, cc, d, ee, ff, gg, hh']) % M32, a, b, cc, (d + one [a, b, cc, d, ee, ff, gg, hh'] kt wt) % M32, ee, ff, gg] := rfl
    rw [hrn, hone, htwo] at hrs
    unfold M32 at la lb lc ld le lf lg lh lk lw re1 ra1 be ba hch hmj aef ng aab aac abc axx hrs
    refine v_mixA TTok FFok mixed [(0, false), (1, false), (2, false), (3, false), (4, false), (5, false)] (by kernel_rfl) ?_
    conv => whnf
    refine ⟨0, ⟨by first | rfl | omega, by omega⟩, ?_⟩
    conv => whnf
    refine ⟨_, fun w' hx' => Blk.ld (Blk.ext (hp.get (i := 0) rfl) hx') TTok rfl (rfl), ?_⟩
    conv => whnf
    refine ⟨4, ⟨by first | rfl | omega, by omega⟩, ?_⟩
    conv => whnf
    refine ⟨_, fun w' hx' => Blk.ld (Blk.ext (hp.get (i := 0) rfl) hx') TTok rfl (rfl), ?_⟩
    conv => whnf
    intro w hx
    try (have hp := hp.call hx)
    conv => whnf
    refine hKq _ _ _ (.refl _) ?_
    clear hKq Kq
    conv => whnf
    refine VSeq.mk fun Kq hKq => ?_
    conv => whnf
    refine v_mixA TTok FFok mixed [(0, false), (1, false), (2, false), (3, false), (4, false), (5, false), (6, false), (7, false), (8, false), (9, false), (10, false), (11, false), (12, false), (13, false), (14, false), (15, false), (16, false), (17, false), (18, false), (19, false), (20, false), (21, false), (22, false), (23, false), (24, false), (25, false), (26, false), (27, false), (28, false), (29, false), (30, false)] (by kernel_rfl) ?_
    conv => whnf
    refine ⟨7, ⟨by first | rfl | omega, by omega⟩, ?_⟩
    conv => whnf
    refine ⟨_, fun w' hx' => Blk.ld (Blk.ext (hp.get (i := 0) rfl) hx') TTok rfl (rfl), ?_⟩
    conv => whnf
    first | refine PureF.quiet (rotN_p ee 6 le (by decide) (by decide)) ?_ | refine PureF.quietE (rotN_p ee 6 le (by decide) (by decide)) ?_
    conv => whnf
    first | refine PureF.quiet (rotN_p ee 11 le (by decide) (by decide)) ?_ | refine PureF.quietE (rotN_p ee 11 le (by decide) (by decide)) ?_
    conv => whnf
    refine ⟨rotl ee 26, rotl ee 21, _, ⟨by first | rfl | omega, by first | rfl | omega, by omega, by omega⟩, rfl, ?_⟩
    conv => whnf
    first | refine PureF.quiet (rotN_p ee 25 le (by decide) (by decide)) ?_ | refine PureF.quietE (rotN_p ee 25 le (by decide) (by decide)) ?_
    conv => whnf
    refine ⟨rotl ee 26 ^^^ rotl ee 21, rotl ee 7, bs1 ee, ⟨by first | rfl | omega, by first | rfl | omega, by omega, by omega⟩, rfl, ?_⟩
    conv => whnf
    refine ⟨5, ⟨by first | rfl | omega, by omega⟩, ?_⟩
    conv => whnf
    refine ⟨_, fun w' hx' => Blk.ld (Blk.ext (hp.get (i := 0) rfl) hx') TTok rfl (rfl), ?_⟩
    conv => whnf
    refine ⟨ee, ff, _, ⟨by first | rfl | omega, by first | rfl | omega, by omega, by omega⟩, rfl, ?_⟩
    conv => whnf
    refine And.intro (by omega) ?_
    conv => whnf
    refine ⟨6, ⟨by first | rfl | omega, by omega⟩, ?_⟩
    conv => whnf
    refine ⟨_, fun w' hx' => Blk.ld (Blk.ext (hp.get (i := 0) rfl) hx') TTok rfl (rfl), ?_⟩
    conv => whnf
    refine ⟨4294967295 - ee, gg, _, ⟨by first | rfl | omega, by first | rfl | omega, by omega, by omega⟩, rfl, ?_⟩
    conv => whnf
    refine ⟨ee &&& ff, (4294967295 - ee) &&& gg, chf ee ff gg, ⟨by first | rfl | omega, by first | rfl | omega, by omega, by omega⟩, rfl, ?_⟩
    conv => whnf
    refine ⟨t, ⟨by first | rfl | omega, by omega⟩, ?_⟩
    conv => whnf
    refine ⟨_, fun w' hx' => Blk.ld (Blk.ext (hp.get (i := 2) rfl) hx') TTok rfl (kw_get hgk), ?_⟩
    conv => whnf
    refine ⟨t, ⟨by first | rfl | omega, by omega⟩, ?_⟩
    conv => whnf
    refine ⟨_, fun w' hx' => Blk.ld (Blk.ext (hp.get (i := 1) rfl) hx') TTok rfl (kw_get hgw), ?_⟩
    conv => whnf
    intro w hx
    try (have hp := hp.call hx)
    conv => whnf
    refine hKq _ _ _ (.refl _) ?_
    clear hKq Kq
    conv => whnf
    refine VSeq.mk fun Kq hKq => ?_
    conv => whnf
    obtain ⟨O, hO⟩ : ∃ O, (hh' + bs1 ee + chf ee ff gg + kt + wt) % 4294967296 = O := ⟨_, rfl⟩
    have hO2 : (((((hh' : Nat) : Int) + ((bs1 ee : Nat) : Int)) % 4294967296 + ((chf ee ff gg : Nat) : Int)) % 4294967296 + (kt : Int)) % 4294967296 + (wt : Int) = ((((((hh' : Nat) : Int) + ((bs1 ee : Nat) : Int)) % 4294967296 + ((chf ee ff gg : Nat) : Int)) % 4294967296 + (kt : Int)) % 4294967296 + (wt : Int)) := rfl
    rw [show ((((((hh' : Nat) : Int) + ((bs1 ee : Nat) : Int)) % 4294967296 + ((chf ee ff gg : Nat) : Int)) % 4294967296 + (kt : Int)) % 4294967296 + (wt : Int)) % 4294967296 = ((O : Nat) : Int) by rw [← hO]; omega]
    have lO : O < 4294967296 := by rw [← hO]; exact Nat.mod_lt _ (by decide)
    rw [hO] at hrs
    clear hO2
    refine v_mixA TTok FFok mixed [(0, false), (1, false), (2, false), (3, false), (4, false), (5, false), (6, false), (7, false), (8, false), (9, false), (10, false), (11, false), (12, false), (13, false), (14, false), (15, false), (16, false), (17, false), (18, false), (19, false), (20, false), (21, false), (22, false), (23, false), (24, false)] (by kernel_rfl) ?_
    conv => whnf
    first | refine PureF.quiet (rotN_p a 2 la (by decide) (by decide)) ?_ | refine PureF.quietE (rotN_p a 2 la (by decide) (by decide)) ?_
    conv => whnf
    first | refine PureF.quiet (rotN_p a 13 la (by decide) (by decide)) ?_ | refine PureF.quietE (rotN_p a 13 la (by decide) (by decide)) ?_
    conv => whnf
    refine ⟨rotl a 30, rotl a 19, _, ⟨by first | rfl | omega, by first | rfl | omega, by omega, by omega⟩, rfl, ?_⟩
    conv => whnf
    first | refine PureF.quiet (rotN_p a 22 la (by decide) (by decide)) ?_ | refine PureF.quietE (rotN_p a 22 la (by decide) (by decide)) ?_
    conv => whnf
    refine ⟨rotl a 30 ^^^ rotl a 19, rotl a 10, bs0 a, ⟨by first | rfl | omega, by first | rfl | omega, by omega, by omega⟩, rfl, ?_⟩
    conv => whnf
    refine ⟨1, ⟨by first | rfl | omega, by omega⟩, ?_⟩
    conv => whnf
    refine ⟨_, fun w' hx' => Blk.ld (Blk.ext (hp.get (i := 0) rfl) hx') TTok rfl (rfl), ?_⟩
    conv => whnf
    refine ⟨a, b, _, ⟨by first | rfl | omega, by first | rfl | omega, by omega, by omega⟩, rfl, ?_⟩
    conv => whnf
    refine ⟨2, ⟨by first | rfl | omega, by omega⟩, ?_⟩
    conv => whnf
    refine ⟨_, fun w' hx' => Blk.ld (Blk.ext (hp.get (i := 0) rfl) hx') TTok rfl (rfl), ?_⟩
    conv => whnf
    refine ⟨a, cc, _, ⟨by first | rfl | omega, by first | rfl | omega, by omega, by omega⟩, rfl, ?_⟩
    conv => whnf
    refine ⟨a &&& b, a &&& cc, _, ⟨by first | rfl | omega, by first | rfl | omega, by omega, by omega⟩, rfl, ?_⟩
    conv => whnf
    refine ⟨1, ⟨by first | rfl | omega, by omega⟩, ?_⟩
    conv => whnf
    refine ⟨_, fun w' hx' => Blk.ld (Blk.ext (hp.get (i := 0) rfl) hx') TTok rfl (rfl), ?_⟩
    conv => whnf
    refine ⟨2, ⟨by first | rfl | omega, by omega⟩, ?_⟩
    conv => whnf
    refine ⟨_, fun w' hx' => Blk.ld (Blk.ext (hp.get (i := 0) rfl) hx') TTok rfl (rfl), ?_⟩
    conv => whnf
    refine ⟨b, cc, _, ⟨by first | rfl | omega, by first | rfl | omega, by omega, by omega⟩, rfl, ?_⟩
    conv => whnf
    refine ⟨(a &&& b) ^^^ (a &&& cc), b &&& cc, maj a b cc, ⟨by first | rfl | omega, by first | rfl | omega, by omega, by omega⟩, rfl, ?_⟩
    conv => whnf
    intro w hx
    try (have hp := hp.call hx)
    conv => whnf
    refine hKq _ _ _ (.refl _) ?_
    clear hKq Kq
    conv => whnf
    obtain ⟨T, hT⟩ : ∃ T, (bs0 a + maj a b cc) % 4294967296 = T := ⟨_, rfl⟩
    rw [show (((bs0 a : Nat) : Int) + ((maj a b cc : Nat) : Int)) % 4294967296 = ((T : Nat) : Int) by rw [← hT]; omega]
    have lT : T < 4294967296 := by rw [← hT]; exact Nat.mod_lt _ (by decide)
    rw [hT] at hrs
    rw [show ((O : Int) + (T : Int)) % 4294967296 = (((O + T) % 4294967296 : Nat) : Int) by omega]
    refine ⟨0, ⟨by first | rfl | omega, by omega⟩, ?_⟩
    conv => whnf
    refine ⟨_, _, Blk.ld (hp.get (i := 0) rfl) TTok rfl (rfl), ?_⟩
    conv => whnf
    refine ⟨1, ⟨by first | rfl | omega, by omega⟩, ?_⟩
    conv => whnf
    refine ⟨_, _, Blk.ld (hp.get (i := 0) rfl) TTok rfl (rfl), ?_⟩
    conv => whnf
    refine ⟨2, ⟨by first | rfl | omega, by omega⟩, ?_⟩
    conv => whnf
    refine ⟨_, _, Blk.ld (hp.get (i := 0) rfl) TTok rfl (rfl), ?_⟩
    conv => whnf
    refine ⟨3, ⟨by first | rfl | omega, by omega⟩, ?_⟩
    conv => whnf
    refine ⟨_, _, Blk.ld (hp.get (i := 0) rfl) TTok rfl (rfl), ?_⟩
    conv => whnf
    rw [show ((d : Int) + (O : Int)) % 4294967296 = (((d + O) % 4294967296 : Nat) : Int) by omega]
    refine ⟨4, ⟨by first | rfl | omega, by omega⟩, ?_⟩
    conv => whnf
    refine ⟨_, _, Blk.ld (hp.get (i := 0) rfl) TTok rfl (rfl), ?_⟩
    conv => whnf
    refine ⟨5, ⟨by first | rfl | omega, by omega⟩, ?_⟩
    conv => whnf
    refine ⟨_, _, Blk.ld (hp.get (i := 0) rfl) TTok rfl (rfl), ?_⟩
    conv => whnf
    refine ⟨6, ⟨by first | rfl | omega, by omega⟩, ?_⟩
    conv => whnf
    refine ⟨_, _, Blk.ld (hp.get (i := 0) rfl) TTok rfl (rfl), ?_⟩
    conv => whnf
    first | refine ⟨.agg (kw .u32 [(O + T) % 4294967296, a, b, cc, (d + O) % 4294967296, ee, ff, gg]).toArray, w, by kernel_rfl, ?_⟩ | refine ⟨.agg (kw .u32 [(O + T) % 4294967296, a, b, cc, (d + O) % 4294967296, ee, ff, gg]).toArray, w0, by kernel_rfl, ?_⟩
    conv => whnf
    refine hp.kstA TTok rfl 0 rfl (by rfl) (kw_one _ _) (by rfl) fun w hp => ?_
    try simp only [List.set_cons_zero, List.set_cons_succ, EV.val] at hp
    conv => whnf
    refine hKq _ _ _ (.refl _) ?_
    clear hKq Kq
    conv => whnf
    refine Or.inl (And.intro (by omega) ?_)
    conv => whnf
    rw [← hrs] at hp
    exact ⟨m - 1, _, by omega, ⟨t + 1, by omega, rfl, hp⟩, sub_cons rfl (sub_cons rfl (sub_cons rfl (sub_cons rfl (sub_cons rfl sub_nil))))⟩
   ·have hlt := of_decide_eq_false hlt
    conv => whnf
    clear hKq Kq
    refine hKq _ _ _ (.refl _) ?_
    clear hKq Kq
    conv => whnf
    refine VSeq.mk fun Kq hKq => ?_
    conv => whnf
    refine hKq _ _ _ (.refl _) ?_
    clear hKq Kq
    conv => whnf
    obtain rfl : t = 64 := by omega
    clear hlt hm
    obtain ⟨v, hvd⟩ : ∃ v, rnds KL W g 64 = v := ⟨_, rfl⟩
    rw [hvd] at hp hv8 hsuc
    clear hvd
    have hp : HpM [qh] w0 w (blk q12 (kw .u32 v) 144 :: blk q7 (kw .u32 W) 145 :: blk q5 (kw .u32 KL) 145 :: blk q3 [.pointer (some ⟨qh, 0, none⟩)] 167 :: blk qh (hC (addP g v 0) tail c) e :: X') := by rw [addP_zero]; exact hp
    refine ⟨fun m l' w' => ∃ (t : Nat), m + t = 8 ∧ l' = [(3, .v (.pointer (some ⟨q3, 0, none⟩))), (12, .v (.pointer (some ⟨q12, 0, none⟩))), (179, .v (.int .i64 t))] ∧
      HpM [qh] w0 w' (blk q12 (kw .u32 v) 144 :: blk q7 (kw .u32 W) 145 :: blk q5 (kw .u32 KL) 145 :: blk q3 [.pointer (some ⟨qh, 0, none⟩)] 167 :: blk qh (hC (addP g v t) tail c) e :: X'),
     ⟨8, _, ⟨0, by omega, rfl, hp⟩, sub_cons rfl (sub_cons rfl (sub_cons rfl sub_nil))⟩, ?_⟩
    clear hp
    repeat clear hp
    rintro m _ w ⟨t, hm, rfl, hp⟩
    conv => whnf
    refine VSeq.mk fun Kq hKq => ?_
    conv => whnf
    refine hKq _ _ _ (.refl _) ?_
    clear hKq Kq
    conv => whnf
    refine VSeq.mk fun Kq hKq => ?_
    conv => whnf
    refine ⟨fun hlt => ?_, fun hlt => ?_⟩
    ·have hlt := of_decide_eq_true hlt
     conv => whnf
     refine hKq _ _ _ (.refl _) ?_
     clear hKq Kq
     conv => whnf
     refine VSeq.mk fun Kq hKq => ?_
     conv => whnf
     refine VSeq.mk fun Kq hKq => ?_
     conv => whnf
     refine hKq _ _ _ (.refl _) ?_
     clear hKq Kq
     conv => whnf
     have ha := addP_get g v t hg8.1 (by omega)
     have hse := addP_set g v t hg8.1 (by omega)
     have hal := addP_len g v t hg8.1 (by omega)
     have hgv : v[t]? = some (v.getD t 0) := nat_getD _ _ (by rw [hv8.1]; omega)
     have lg := hg8.get t
     have lv := hv8.get t
     obtain ⟨x, hxd⟩ : ∃ x, g.getD t 0 = x := ⟨_, rfl⟩
     obtain ⟨y, hyd⟩ : ∃ y, v.getD t 0 = y := ⟨_, rfl⟩
     rw [hxd] at ha hse lg
     rw [hyd] at hgv hse lv
     clear hxd hyd
     refine v_mix TTok FFok mixed 15 [(0, false), (1, false), (2, false), (3, false), (4, false), (5, false), (6, false), (7, false), (8, false), (9, false), (10, false), (11, false), (12, false), (13, false), (14, false)] (by kernel_rfl) ?_
     conv => whnf
     refine ⟨_, fun w' hx' => Blk.ld (Blk.ext (hp.get (i := 3) rfl) hx') TTok rfl (rfl), ?_⟩
     conv => whnf
     refine ⟨t, ⟨by first | rfl | omega, by omega⟩, ?_⟩
     conv => whnf
     refine ⟨_, fun w' hx' => Blk.ld (Blk.ext (hp.get (i := 4) rfl) hx') TTok rfl (hC_get ha), ?_⟩
     conv => whnf
     refine ⟨t, ⟨by first | rfl | omega, by omega⟩, ?_⟩
     conv => whnf
     refine ⟨_, fun w' hx' => Blk.ld (Blk.ext (hp.get (i := 0) rfl) hx') TTok rfl (kw_get hgv), ?_⟩
     conv => whnf
     refine ⟨t, ⟨by first | rfl | omega, by omega⟩, ?_⟩
     conv => whnf
     intro w hx
     try (have hp := hp.call hx)
     conv => whnf
     refine hp.kst1 (off := t) TTok (by rfl) 4 (by rfl) (by rfl) (by rfl) (by rw [hC_len, hal]; omega) fun w hp => ?_
     try simp only [List.set_cons_zero, List.set_cons_succ, EV.val] at hp
     conv => whnf
     refine hKq _ _ _ (.refl _) ?_
     clear hKq Kq
     conv => whnf
     refine Or.inl (And.intro (by omega) ?_)
     conv => whnf
     rw [show ((x : Int) + (y : Int)) % 4294967296 = (((x + y) % M32 : Nat) : Int) by unfold M32; omega, hC_set _ _ _ _ _ (by rw [hal]; omega), hse] at hp
     exact ⟨m - 1, _, by omega, ⟨t + 1, by omega, rfl, hp⟩, sub_cons rfl (sub_cons rfl (sub_cons rfl sub_nil))⟩
    ·have hlt := of_decide_eq_false hlt
     conv => whnf
     refine And.intro (by omega) ?_
     conv => whnf
     obtain rfl : t = 8 := by omega
     rw [addP_all g v hg8.1, ← hsuc] at hp
     exact hp.tail.tail
 ·rintro D k X W rfl ⟨_, hp⟩
  conv => whnf
  have hp2 := hp.shut (i := 3) rfl (o' := .deferred none)
  refine ⟨hp.get (i := 3) rfl, ?_⟩
  conv => whnf
  refine ⟨rfl, hp2.extM.grownBy, ?_⟩
  have := hp2.get (i := 2) rfl
  unfold mixA
  rw [hsl]
  exact this
 ·rintro D X W h; exact h.elim
 ·rintro i D X W h; exact h.elim
def restB (s : ByteArray) : ByteArray := ⟨(rest s.data.toList).toArray⟩
theorem restB_size (s : ByteArray) : (restB s).size = s.size % 64 := by unfold restB; rw [bA_size, rest_len, toList_len]
theorem restB_ext (s : ByteArray) : s.extract (s.size / 64 * 64) s.size = restB s := by
 apply ba_eq
 rw [ext_list]
 show _ = rest s.data.toList
 unfold rest
 rw [toList_len, List.take_of_length_le (by rw [List.length_drop, toList_len]; omega)]
theorem hC_tail (l : List Nat) (tail : ByteArray) (c : Int) (h : l.length = 8) : (hC l tail c)[8]? = some (.string tail) := by
 unfold hC; rw [List.getElem?_append_right (by rw [kw_len]; omega), kw_len, h]; rfl
theorem hC_cnt (l : List Nat) (tail : ByteArray) (c : Int) (h : l.length = 8) : (hC l tail c)[9]? = some (.int .i64 c) := by
 unfold hC; rw [List.getElem?_append_right (by rw [kw_len]; omega), kw_len, h]; rfl
theorem hC_setT (l : List Nat) (tail x : ByteArray) (c : Int) (h : l.length = 8) : (hC l tail c).set 8 (.string x) = hC l x c := by
 unfold hC; rw [List.set_append_right _ _ (by rw [kw_len]; omega), kw_len, h]; rfl
theorem hC_setC (l : List Nat) (tail : ByteArray) (c x : Int) (h : l.length = 8) : (hC l tail c).set 9 (.int .i64 x) = hC l tail x := by
 unfold hC; rw [List.set_append_right _ _ (by rw [kw_len]; omega), kw_len, h]; rfl
set_option maxHeartbeats 4000000 in
theorem add_c {w0 : World} {qh e : Nat} (s : ByteArray) (h : List Nat) (tail : ByteArray) (c : Nat) (hh : W8 h) (hs : s.size ≤ 100000) (ht : tail.size ≤ 100000) (hc : c ≤ 4398046511104) (hb : Blk w0 qh (hC h tail c) e) :
  Calls Try.prog 92 #[.pointer (some ⟨qh, 0, none⟩), .string s, hV KL] w0 fun e' w' => ∃ v, e' = .returned v ∧ v = .tuple #[] ∧ w0.grownBy w' (some qh) ∧ Blk w' qh (hC (mixA KL h (tail.data.toList ++ s.data.toList)) (restB (tail ++ s)) ((c + s.size : Nat) : Int)) e := by
 refine v_fn (args := [.pointer (some ⟨qh, 0, none⟩), .string s, hV KL]) TTok FFok (f := 92) rfl rfl (Nat.le_of_ble_eq_true rfl) ?_
 have hp := (HpM.nil0 [qh] w0).take hb (by simp) (by simp)
 have h8 := (mixA_W8 KL hh (tail.data.toList ++ s.data.toList)).1
 unfold hV
 conv => whnf
 refine VSeq.mk fun Kq hKq => ?_
 conv => whnf
 refine hp.kbox (kw .u32 KL) rfl fun q5 w hp hx => ?_
 conv => whnf
 refine hKq _ _ _ (.refl _) ?_
 clear hKq Kq
 conv => whnf
 refine VSeq.mk fun Kq hKq => ?_
 conv => whnf
 refine ⟨_, _, Blk.ld (hp.get (i := 1) rfl) TTok rfl (hC_tail _ _ _ hh.1), ?_⟩
 conv => whnf
 refine And.intro (by omega) ?_
 conv => whnf
 refine hKq _ _ _ (.refl _) ?_
 clear hKq Kq
 conv => whnf
 refine VSeq.mk fun Kq hKq => ?_
 conv => whnf
 have hl : (tail ++ s).data.toList = tail.data.toList ++ s.data.toList := by rw [ByteArray.toList_data_append]
 have hsz : (tail ++ s).size = tail.size + s.size := ByteArray.size_append
 rw [← hl] at h8
 obtain ⟨all, hall⟩ : ∃ all, tail ++ s = all := ⟨_, rfl⟩
 rw [hall] at hsz h8 hl ⊢
 refine ⟨_, _, Blk.ldN (hp.get (i := 0) rfl) TTok rfl (by rfl), ?_⟩
 conv => whnf
 have hm := mix_c all h tail c hh (by omega) (hp.get (i := 1) rfl)
 unfold hV at hm
 refine Calls.mono (hm) ?_
 rintro e w ⟨v, rfl, rfl, hg, hb⟩
 refine ⟨_, rfl, ?_⟩
 have hp := hp.wrote (i := 1) rfl hg hb
 try simp only [List.set_cons_zero, List.set_cons_succ, EV.val] at hp
 conv => whnf
 refine hKq _ _ _ (.refl _) ?_
 clear hKq Kq
 conv => whnf
 refine VSeq.mk fun Kq hKq => ?_
 conv => whnf
 refine And.intro (by omega) ?_
 conv => whnf
 refine Or.inl (And.intro (by omega) ?_)
 conv => whnf
 refine ⟨all.size / 64 * 64, ⟨by first | rfl | omega, by omega⟩, ?_⟩
 conv => whnf
 rw [restB_ext]
 refine PureF.use (Clone_p (restB all) (by rw [restB_size]; omega)) fun w hx => ?_
 try (have hp := hp.call hx)
 conv => whnf
 refine hp.kst1 (off := 8) TTok (by rfl) 1 (by rfl) (by rfl) (by rfl) (by rw [hC_len, h8]; decide) fun w hp => ?_
 try simp only [List.set_cons_zero, List.set_cons_succ, EV.val] at hp
 conv => whnf
 refine hKq _ _ _ (.refl _) ?_
 clear hKq Kq
 conv => whnf
 rw [hC_setT _ _ _ _ h8] at hp
 refine ⟨_, _, Blk.ld (hp.get (i := 1) rfl) TTok rfl (hC_cnt _ _ _ h8), ?_⟩
 conv => whnf
 refine Or.inl (And.intro (by omega) ?_)
 conv => whnf
 refine hp.kst1 (off := 9) TTok (by rfl) 1 (by rfl) (by rfl) (by rfl) (by rw [hC_len, h8]; decide) fun w hp => ?_
 try simp only [List.set_cons_zero, List.set_cons_succ, EV.val] at hp
 conv => whnf
 rw [hC_setC _ _ _ _ h8, show (c : Int) + (s.size : Int) = ((c + s.size : Nat) : Int) by omega] at hp
 refine ⟨rfl, hp.extM.grownBy, ?_⟩
 rw [hall, ← hl]
 exact hp.get (i := 1) rfl
end Go.Proofs.Ytefjgoeabfgkmaa
