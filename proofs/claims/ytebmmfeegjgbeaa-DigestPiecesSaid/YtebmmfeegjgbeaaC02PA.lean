/- Chapter 02: facts for DigestPieces. -/
import Derived.Test.YtebmmfeegjgbeaaC02SU
namespace Go.Proofs.Ytebmmfeegjgbeaa
set_option linter.unusedSimpArgs false
set_option linter.unusedVariables false
open Go.RowKit V
set_option maxRecDepth 100000
theorem wf64 {a : Int} (h : -9223372036854775808 ≤ a ∧ a ≤ 9223372036854775807) : (Lit.int .i64 a).wf = true := by
  simp [Lit.wf, IntKind.has, IntKind.min, IntKind.max, IntKind.signed, IntKind.bits]; omega
theorem wf32 {a : Nat} (h : a < 4294967296) : (Lit.int .u32 (a : Int)).wf = true := by
  simp [Lit.wf, IntKind.has, IntKind.min, IntKind.max, IntKind.signed, IntKind.bits]; omega
def shW : Nat → Sh
  | 0 => .nil
  | n + 1 => .cons (.int .u32) (shW n)
def shH : Sh := .cons (.ag (shW 8)) (.cons .str (.cons (.int .i64) .nil))
theorem shH_ok : cmpOk Try.prog 27 10 shH = true := by kernel_rfl
theorem shW_rd {w : World} : ∀ h : List Nat, (∀ x ∈ h, x < M32) → Rd w (shW h.length) (kw .u32 h)
  | [], _ => rfl
  | x :: h, hm => ⟨[.int .u32 (x : Nat)], kw .u32 h, rfl, ⟨(x : Nat), rfl, wf32 (hm x List.mem_cons_self)⟩, shW_rd h fun y hy => hm y (List.mem_cons_of_mem _ hy)⟩
theorem shW_inv {w : World} : ∀ (n : Nat) (cs : List Value), Rd w (shW n) cs → ∃ h : List Nat, cs = kw .u32 h ∧ h.length = n ∧ ∀ x ∈ h, x < M32
  | 0, cs, hr => ⟨[], hr, rfl, by simp⟩
  | n + 1, cs, ⟨x, y, hc, ⟨a, hx, hw⟩, hy⟩ => by
    obtain ⟨h, rfl, hl, hm⟩ := shW_inv n y hy
    obtain ⟨m, rfl, hm2⟩ := nat_of_u hw rfl
    refine ⟨m :: h, by rw [hc, hx]; rfl, by rw [List.length_cons, hl], fun z hz => ?_⟩
    rcases List.mem_cons.1 hz with rfl | hz
    · exact hm2
    · exact hm z hz
theorem hash_rd {w : World} (h : List Nat) (tail : ByteArray) (c : Int) (hh : W8 h) (ht : tail.size ≤ maxLen) (hc : -9223372036854775808 ≤ c ∧ c ≤ 9223372036854775807) : Rd w shH (hC h tail c) := by
  have h1 := shW_rd (w := w) h hh.2
  rw [hh.1] at h1
  exact ⟨kw .u32 h, [.string tail, .int .i64 c], rfl, h1, [.string tail], [.int .i64 c], rfl, ⟨tail, rfl, ht⟩, [.int .i64 c], [], rfl, ⟨c, rfl, wf64 hc⟩, rfl⟩
theorem hash_inv {w : World} (cs : List Value) (hr : Rd w shH cs) : ∃ h tail c, cs = hC h tail c ∧ W8 h ∧ tail.size ≤ maxLen ∧ -9223372036854775808 ≤ c ∧ c ≤ 9223372036854775807 := by
  obtain ⟨x, y, rfl, hx, y1, y2, rfl, ⟨tail, rfl, ht⟩, y3, y4, rfl, ⟨c, rfl, hw⟩, h4⟩ := hr
  have h4 : y4 = [] := h4
  obtain ⟨h, rfl, hl, hm⟩ := shW_inv 8 x hx
  have := wf_i64 hw
  exact ⟨h, tail, c, by rw [h4]; rfl, ⟨hl, hm⟩, ht, this.1, this.2⟩
theorem hash_same (h : List Nat) (tail : ByteArray) (c : Int) (hh : W8 h) (ht : tail.size ≤ maxLen) (hc : -9223372036854775808 ≤ c ∧ c ≤ 9223372036854775807) (xo yo : Operand) (w : World) :
    (do eqGuard .neq 27 xo yo (.agg (hC h tail c).toArray) (.agg (hC h tail c).toArray); binOp .neq 27 (.agg (hC h tail c).toArray) (.agg (hC h tail c).toArray) : Sem Value).run Try.prog w = .ok (.bool false) w := by
  obtain ⟨r, hr, _, h2⟩ := run_eq_agg shH_ok (hash_rd (w := w) h tail c hh ht hc) (hash_rd (w := w) h tail c hh ht hc) xo yo
  have : r = true := hr.2 rfl
  rw [this] at h2
  exact h2 w
theorem ov_end (h : List Nat) (tail : ByteArray) (c : Int) (hh : W8 h) : ∃ (d : ByteArray) (e : Nat), PureF Try.prog 14 #[.agg (hC h tail c).toArray] (.tuple #[.string d, .int .i64 e]) ∧ ((okH tail c = true ∧ e = 0 ∧ d = ⟨(endL KL h tail.data.toList c.toNat).toArray⟩) ∨ (okH tail c = false ∧ e = 2 ∧ d = ⟨#[]⟩)) := by
  cases ho : okH tail c with
  | true =>
    have hs := okH_spec ho
    obtain ⟨m, rfl⟩ : ∃ m : Nat, c = m := ⟨c.toNat, by omega⟩
    exact ⟨_, 0, End_ok h tail m hh ho, .inl ⟨rfl, rfl, rfl⟩⟩
  | false => exact ⟨_, 2, End_bad h tail c hh ho, .inr ⟨rfl, rfl, rfl⟩⟩
/-- More's answer, and the error that the law expects -/
theorem ov_more (h : List Nat) (tail s : ByteArray) (c : Int) (hh : W8 h) (hc : -9223372036854775808 ≤ c ∧ c ≤ 9223372036854775807) : ∃ (g : List Nat) (t : ByteArray) (d : Int) (e : Nat), W8 g ∧ (t.size < 64 ∧ -9223372036854775808 ≤ d ∧ d ≤ 9223372036854775807) ∧
    PureF Try.prog 12 #[.agg (hC h tail c).toArray, .string s] (.tuple #[.agg (hC g t d).toArray, .int .i64 e]) ∧
    ((okH tail c = false ∧ e = 2 ∧ hC g t d = hC zz8 ⟨#[]⟩ 0) ∨ (okH tail c = true ∧ 4096 < s.size ∧ e = 3 ∧ hC g t d = hC zz8 ⟨#[]⟩ 0) ∨ (okH tail c = true ∧ s.size ≤ 4096 ∧ 1099511627776 < c + s.size ∧ e = 6 ∧ hC g t d = hC zz8 ⟨#[]⟩ 0) ∨
      (okH tail c = true ∧ s.size ≤ 4096 ∧ c + s.size ≤ 1099511627776 ∧ e = 0 ∧ hC g t d = hC (mixA KL h (tail.data.toList ++ s.data.toList)) (restB (tail ++ s)) (c + s.size))) := by
  have z8 : W8 zz8 := zero_W8
  cases ho : okH tail c with
  | false => exact ⟨zz8, ⟨#[]⟩, 0, 2, z8, by decide, More_bad h tail s c hh ho, .inl ⟨rfl, rfl, rfl⟩⟩
  | true =>
    have hs := okH_spec ho
    by_cases h1 : 4096 < s.size
    · exact ⟨zz8, ⟨#[]⟩, 0, 3, z8, by decide, More_long h tail s c hh ho h1, .inr (.inl ⟨rfl, h1, rfl, rfl⟩)⟩
    · by_cases h2 : 1099511627776 < c + s.size
      · exact ⟨zz8, ⟨#[]⟩, 0, 6, z8, by decide, More_big h tail s c hh ho (by omega) h2, .inr (.inr (.inl ⟨rfl, by omega, h2, rfl, rfl⟩))⟩
      · obtain ⟨m, rfl⟩ : ∃ m : Nat, c = m := ⟨c.toNat, by omega⟩
        refine ⟨_, _, _, 0, mixA_W8 KL hh _, ⟨by rw [restB_size]; omega, by omega, by omega⟩, More_ok h tail s m hh ho (by omega) (by omega), .inr (.inr (.inr ⟨rfl, by omega, by omega, rfl, rfl⟩))⟩
end Go.Proofs.Ytebmmfeegjgbeaa
