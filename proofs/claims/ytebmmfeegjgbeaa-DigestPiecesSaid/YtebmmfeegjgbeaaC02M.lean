/- Chapter 02: digests, as numbers; mathematics. No program. -/
import Derived.Test.YtebmmfeegjgbeaaC03M
namespace Go.Proofs.Ytebmmfeegjgbeaa
set_option linter.unusedSimpArgs false
set_option linter.unusedVariables false
open Go.RowKit V
abbrev M32 : Nat := 4294967296
def sg0 (x : Nat) : Nat := rotl x 25 ^^^ rotl x 14 ^^^ (x / 8)
def sg1 (x : Nat) : Nat := rotl x 15 ^^^ rotl x 13 ^^^ (x / 1024)
def bs1 (x : Nat) : Nat := rotl x 26 ^^^ rotl x 21 ^^^ rotl x 7
def bs0 (x : Nat) : Nat := rotl x 30 ^^^ rotl x 19 ^^^ rotl x 10
def chf (e f g : Nat) : Nat := (e &&& f) ^^^ ((4294967295 - e) &&& g)
def maj (a b c : Nat) : Nat := (a &&& b) ^^^ (a &&& c) ^^^ (b &&& c)
theorem xor_lt32 {x y : Nat} (hx : x < M32) (hy : y < M32) : x ^^^ y < M32 := Nat.xor_lt_two_pow (n := 32) hx hy
theorem and_lt32 {x y : Nat} (hx : x < M32) : x &&& y < M32 := Nat.lt_of_le_of_lt Nat.and_le_left hx
theorem sg0_lt {x : Nat} (h : x < M32) : sg0 x < M32 := xor_lt32 (xor_lt32 (rotl_lt _ _ h (by decide)) (rotl_lt _ _ h (by decide))) (Nat.lt_of_le_of_lt (Nat.div_le_self _ _) h)
theorem sg1_lt {x : Nat} (h : x < M32) : sg1 x < M32 := xor_lt32 (xor_lt32 (rotl_lt _ _ h (by decide)) (rotl_lt _ _ h (by decide))) (Nat.lt_of_le_of_lt (Nat.div_le_self _ _) h)
theorem bs1_lt {x : Nat} (h : x < M32) : bs1 x < M32 := xor_lt32 (xor_lt32 (rotl_lt _ _ h (by decide)) (rotl_lt _ _ h (by decide))) (rotl_lt _ _ h (by decide))
theorem bs0_lt {x : Nat} (h : x < M32) : bs0 x < M32 := xor_lt32 (xor_lt32 (rotl_lt _ _ h (by decide)) (rotl_lt _ _ h (by decide))) (rotl_lt _ _ h (by decide))
theorem chf_lt {e f g : Nat} (h : e < M32) (hg : g < M32) : chf e f g < M32 := xor_lt32 (and_lt32 h) (Nat.lt_of_le_of_lt Nat.and_le_right hg)
theorem maj_lt {a b c : Nat} (h : a < M32) (hb : b < M32) : maj a b c < M32 := xor_lt32 (xor_lt32 (and_lt32 h) (and_lt32 h)) (and_lt32 hb)
/-- four octets, the greatest one first -/
def be4 (s : List UInt8) (i : Nat) : Nat := (s.getD i 0).toNat * 16777216 + (s.getD (i + 1) 0).toNat * 65536 + (s.getD (i + 2) 0).toNat * 256 + (s.getD (i + 3) 0).toNat
theorem be4_lt (s : List UInt8) (i : Nat) : be4 s i < M32 := by
  have h0 := (s.getD i 0).toNat_lt; have h1 := (s.getD (i + 1) 0).toNat_lt; have h2 := (s.getD (i + 2) 0).toNat_lt; have h3 := (s.getD (i + 3) 0).toNat_lt
  unfold be4 M32; omega
/-- the first n words of a block's schedule -/
def wnext (b : List UInt8) (l : List Nat) (t : Nat) : Nat := if t < 16 then be4 b (4 * t) else (l.getD (t - 16) 0 + l.getD (t - 7) 0 + sg0 (l.getD (t - 15) 0) + sg1 (l.getD (t - 2) 0)) % M32
def wsch (b : List UInt8) : Nat → List Nat
  | 0 => []
  | t + 1 => wsch b t ++ [wnext b (wsch b t) t]
theorem wsch_len (b : List UInt8) : ∀ t, (wsch b t).length = t
  | 0 => rfl
  | t + 1 => by rw [wsch, List.length_append, wsch_len b t]; rfl
theorem getD_lt32 {l : List Nat} (h : ∀ x ∈ l, x < M32) (i : Nat) : l.getD i 0 < M32 := by
  rw [List.getD_eq_getElem?_getD]
  cases hi : l[i]? with
  | none => exact by decide
  | some x => exact h x (List.mem_of_getElem? hi)
theorem wnext_lt (b : List UInt8) (l : List Nat) (t : Nat) : wnext b l t < M32 := by
  unfold wnext
  split
  · exact be4_lt _ _
  · exact Nat.mod_lt _ (by decide)
theorem wsch_lt (b : List UInt8) : ∀ t, ∀ x ∈ wsch b t, x < M32
  | 0 => by simp [wsch]
  | t + 1 => fun x hx => by
    rw [wsch, List.mem_append] at hx
    rcases hx with h | h
    · exact wsch_lt b t x h
    · rw [List.mem_singleton] at h; rw [h]; exact wnext_lt _ _ _
theorem wsch_pre (b : List UInt8) (i : Nat) : ∀ t, i < t → (wsch b t).getD i 0 = wnext b (wsch b i) i
  | 0, h => by omega
  | t + 1, h => by
    rw [wsch, List.getD_eq_getElem?_getD]
    by_cases e : i = t
    · subst e
      rw [List.getElem?_append_right (by rw [wsch_len]; exact Nat.le_refl _), wsch_len, Nat.sub_self]; rfl
    · rw [List.getElem?_append_left (by rw [wsch_len]; omega), ← List.getD_eq_getElem?_getD]
      exact wsch_pre b i t (by omega)
/-- a round -/
def one (v : List Nat) (k w : Nat) : Nat := (v.getD 7 0 + bs1 (v.getD 4 0) + chf (v.getD 4 0) (v.getD 5 0) (v.getD 6 0) + k + w) % M32
def two (v : List Nat) : Nat := (bs0 (v.getD 0 0) + maj (v.getD 0 0) (v.getD 1 0) (v.getD 2 0)) % M32
def rnd8 (v : List Nat) (k w : Nat) : List Nat := [(one v k w + two v) % M32, v.getD 0 0, v.getD 1 0, v.getD 2 0, (v.getD 3 0 + one v k w) % M32, v.getD 4 0, v.getD 5 0, v.getD 6 0]
def W8 (v : List Nat) : Prop := v.length = 8 ∧ ∀ x ∈ v, x < M32
theorem W8.get {v : List Nat} (h : W8 v) (i : Nat) : v.getD i 0 < M32 := getD_lt32 h.2 i
theorem W8.rnd {v : List Nat} (h : W8 v) (k w : Nat) : W8 (rnd8 v k w) := by
  refine ⟨rfl, fun x hx => ?_⟩
  have := h.get
  simp only [rnd8, List.mem_cons, List.not_mem_nil, or_false] at hx
  rcases hx with rfl | rfl | rfl | rfl | rfl | rfl | rfl | rfl <;> first | exact Nat.mod_lt _ (by decide) | exact this _
def rnds (K W : List Nat) (v : List Nat) : Nat → List Nat
  | 0 => v
  | t + 1 => rnd8 (rnds K W v t) (K.getD t 0) (W.getD t 0)
theorem rnds_W8 (K W : List Nat) {v : List Nat} (h : W8 v) : ∀ t, W8 (rnds K W v t)
  | 0 => h
  | t + 1 => (rnds_W8 K W h t).rnd _ _
/-- a block is mixed in -/
def addW (h v : List Nat) : List Nat := (List.range 8).map fun i => (h.getD i 0 + v.getD i 0) % M32
theorem addW_W8 (h v : List Nat) : W8 (addW h v) := by
  refine ⟨by simp [addW], fun x hx => ?_⟩
  obtain ⟨i, _, rfl⟩ := List.mem_map.1 hx
  exact Nat.mod_lt _ (by decide)
def mix1 (K h : List Nat) (b : List UInt8) : List Nat := addW h (rnds K (wsch b 64) h 64)
/-- the first n blocks of octets -/
def mixJ (K : List Nat) (s : List UInt8) (h : List Nat) : Nat → List Nat
  | 0 => h
  | n + 1 => mix1 K (mixJ K s h n) ((s.drop (64 * n)).take 64)
def mixA (K h : List Nat) (s : List UInt8) : List Nat := mixJ K s h (s.length / 64)
theorem mixJ_W8 (K : List Nat) (s : List UInt8) {h : List Nat} (hh : W8 h) : ∀ n, W8 (mixJ K s h n)
  | 0 => hh
  | n + 1 => addW_W8 _ _
theorem mixA_W8 (K : List Nat) {h : List Nat} (hh : W8 h) (s : List UInt8) : W8 (mixA K h s) := mixJ_W8 K s hh _
theorem mixJ_add (K : List Nat) (s : List UInt8) (h : List Nat) (a : Nat) : ∀ n, mixJ K s h (a + n) = mixJ K (s.drop (64 * a)) (mixJ K s h a) n
  | 0 => rfl
  | n + 1 => by
    rw [← Nat.add_assoc, mixJ, mixJ, mixJ_add K s h a n, List.drop_drop, Nat.mul_add]
theorem mixJ_pre (K : List Nat) (s t : List UInt8) (h : List Nat) : ∀ n, 64 * n ≤ s.length → mixJ K (s ++ t) h n = mixJ K s h n
  | 0, _ => rfl
  | n + 1, hn => by
    rw [mixJ, mixJ, mixJ_pre K s t h n (by omega), List.drop_append_of_le_length (by omega), List.take_append_of_le_length (by rw [List.length_drop]; omega)]
/-- full blocks first, the rest behind them -/
theorem mixA_app (K : List Nat) (s t : List UInt8) (h : List Nat) (hs : s.length % 64 = 0) : mixA K h (s ++ t) = mixA K (mixA K h s) t := by
  obtain ⟨a, ha⟩ : ∃ a, s.length = 64 * a := ⟨s.length / 64, by omega⟩
  unfold mixA
  rw [List.length_append, show (s.length + t.length) / 64 = a + t.length / 64 by omega, show s.length / 64 = a by omega, mixJ_add, mixJ_pre K s t h a (by omega)]
  rw [List.drop_append_of_le_length (by omega), List.drop_eq_nil_of_le (by omega), List.nil_append]
theorem mixA_full (K h : List Nat) (s : List UInt8) : mixA K h (s.take (s.length / 64 * 64)) = mixA K h s := by
  have e : s = s.take (s.length / 64 * 64) ++ s.drop (s.length / 64 * 64) := (List.take_append_drop _ _).symm
  have hl : (s.take (s.length / 64 * 64)).length = s.length / 64 * 64 := by rw [List.length_take]; omega
  unfold mixA
  rw [hl, Nat.mul_div_cancel _ (by decide)]
  conv => rhs; rw [e]
  rw [List.length_append, hl, List.length_drop, show (s.length / 64 * 64 + (s.length - s.length / 64 * 64)) / 64 = s.length / 64 by omega, mixJ_pre K _ _ h _ (by rw [hl]; omega)]
/-- what is left over -/
def rest (s : List UInt8) : List UInt8 := s.drop (s.length / 64 * 64)
theorem rest_len (s : List UInt8) : (rest s).length = s.length % 64 := by unfold rest; rw [List.length_drop]; omega
theorem rest_app (p x : List UInt8) (hp : p.length % 64 = 0) : rest (p ++ x) = rest x := by
  unfold rest
  rw [List.length_append, show (p.length + x.length) / 64 * 64 = p.length + x.length / 64 * 64 by omega, ← List.drop_drop, List.drop_left]
/-- more octets behind some -/
theorem mix_more (K h : List Nat) (a s : List UInt8) : mixA K (mixA K h a) (rest a ++ s) = mixA K h (a ++ s) ∧ rest (rest a ++ s) = rest (a ++ s) := by
  have hl : (a.take (a.length / 64 * 64)).length = a.length / 64 * 64 := by rw [List.length_take]; omega
  have e : a ++ s = a.take (a.length / 64 * 64) ++ (rest a ++ s) := by rw [← List.append_assoc]; unfold rest; rw [List.take_append_drop]
  constructor
  · rw [e, mixA_app K _ _ h (by rw [hl]; omega), mixA_full]
  · conv => rhs; rw [e]
    rw [rest_app (a.take (a.length / 64 * 64)) (rest a ++ s) (by rw [hl]; omega)]
/-- eight octets of a number, the greatest one first -/
def be8 (n : Nat) : List UInt8 := (List.range 8).map fun i => UInt8.ofNat (n / 2 ^ (56 - 8 * i))
def closing (l : Nat) (n : Nat) : List UInt8 := (128 : UInt8) :: (List.replicate ((119 - l) % 64) 0 ++ be8 (n * 8))
/-- the octets of words -/
def out4 (w : Nat) : List UInt8 := [UInt8.ofNat (w / 16777216), UInt8.ofNat (w / 65536), UInt8.ofNat (w / 256), UInt8.ofNat w]
def outW (h : List Nat) : List UInt8 := h.flatMap out4
theorem outW_len : ∀ h : List Nat, (outW h).length = 4 * h.length
  | [] => rfl
  | x :: h => by
    have := outW_len h
    unfold outW at *
    rw [List.flatMap_cons, List.length_append, this, List.length_cons]
    show 4 + _ = _
    omega
/-- the digest of what words and left octets stand for -/
def endL (K h : List Nat) (tail : List UInt8) (n : Nat) : List UInt8 := outW (mixA K h (tail ++ closing tail.length n))
theorem endL_len (K : List Nat) {h : List Nat} (hh : W8 h) (tail : List UInt8) (n : Nat) : (endL K h tail n).length = 32 := by
  unfold endL; rw [outW_len, (mixA_W8 K hh _).1]
/-- the digest -/
def sumL2 (K S : List Nat) (s : List UInt8) : List UInt8 := endL K (mixA K S s) (rest s) s.length
end Go.Proofs.Ytebmmfeegjgbeaa
