/- Chapter 05: the chapter's example, computed. -/
import Derived.Test.YtejphmgpndgliaaC05S
namespace Go.Proofs.Ytejphmgpndgliaa
set_option linter.unusedSimpArgs false
set_option linter.unusedVariables false
open Go.RowKit V
set_option maxRecDepth 100000
def kaB : ByteArray := ⟨(unh ((⟨#[97, 53, 52, 54, 101, 51, 54, 98, 102, 48, 53, 50, 55, 99, 57, 100, 51, 98, 49, 54, 49, 53, 52, 98, 56, 50, 52, 54, 53, 101, 100, 100, 54, 50, 49, 52, 52, 99, 48, 97, 99, 49, 102, 99, 53, 97, 49, 56, 53, 48, 54, 97, 50, 50, 52, 52, 98, 97, 52, 52, 57, 97, 99, 52]⟩ : ByteArray)).data.toList).toArray⟩
def kuB : ByteArray := ⟨(unh ((⟨#[101, 54, 100, 98, 54, 56, 54, 55, 53, 56, 51, 48, 51, 48, 100, 98, 51, 53, 57, 52, 99, 49, 97, 52, 50, 52, 98, 49, 53, 102, 55, 99, 55, 50, 54, 54, 50, 52, 101, 99, 50, 54, 98, 51, 51, 53, 51, 98, 49, 48, 97, 57, 48, 51, 97, 54, 100, 48, 97, 98, 49, 99, 52, 99]⟩ : ByteArray)).data.toList).toArray⟩
def ksB : ByteArray := ⟨(unh ((⟨#[99, 51, 100, 97, 53, 53, 51, 55, 57, 100, 101, 57, 99, 54, 57, 48, 56, 101, 57, 52, 101, 97, 52, 100, 102, 50, 56, 100, 48, 56, 52, 102, 51, 50, 101, 99, 99, 102, 48, 51, 52, 57, 49, 99, 55, 49, 102, 55, 53, 52, 98, 52, 48, 55, 53, 53, 55, 55, 97, 50, 56, 53, 53, 50]⟩ : ByteArray)).data.toList).toArray⟩
def ladK (u : Nat) : List Bool → Nat → Nat → Nat → Nat → Lad
  | [], a, b, c, d => ⟨a, b, c, d⟩
  | t :: ts, a, b, c, d => match t with
    | true => match Nat.beq (fa a b) PP, Nat.beq (fa c d) PP with
      | false, false => 
        let q := (Lad.mk c d a b).step u
        ladK u ts q.c q.d q.a q.b
      | _, _ => ⟨a, b, c, d⟩
    | false => match Nat.beq (fa a b) PP, Nat.beq (fa c d) PP with
      | false, false => 
        let q := (Lad.mk a b c d).step u
        ladK u ts q.a q.b q.c q.d
      | _, _ => ⟨a, b, c, d⟩
def kbits : List Bool := bitsD (clampB kaB)
def kuN : Nat := uN kuB % PP
theorem ladK_eq (u : Nat) : ∀ (ts : List Bool) (a b c d : Nat), ladK u ts a b c d = Lad.go u ts ⟨a, b, c, d⟩
  | [], _, _, _, _ => rfl
  | t :: ts, a, b, c, d => by
    have h1 : Nat.beq (fa a b) PP = false := by
      cases h : Nat.beq (fa a b) PP with
      | false => rfl
      | true => exact absurd (Nat.eq_of_beq_eq_true h) (Nat.ne_of_lt (fa_lt a b))
    have h2 : Nat.beq (fa c d) PP = false := by
      cases h : Nat.beq (fa c d) PP with
      | false => rfl
      | true => exact absurd (Nat.eq_of_beq_eq_true h) (Nat.ne_of_lt (fa_lt c d))
    cases t with
    | true =>
      have e : ladK u (true :: ts) a b c d = ladK u ts ((Lad.mk c d a b).step u).c ((Lad.mk c d a b).step u).d ((Lad.mk c d a b).step u).a ((Lad.mk c d a b).step u).b := by simp only [ladK, h1, h2]
      have e2 : Lad.go u (true :: ts) ⟨a, b, c, d⟩ = Lad.go u ts ((Lad.mk c d a b).step u).swap := by rw [Lad.go, if_pos rfl]; rfl
      rw [e, ladK_eq u ts, e2]
      generalize (Lad.mk c d a b).step u = q
      rfl
    | false =>
      have e : ladK u (false :: ts) a b c d = ladK u ts ((Lad.mk a b c d).step u).a ((Lad.mk a b c d).step u).b ((Lad.mk a b c d).step u).c ((Lad.mk a b c d).step u).d := by simp only [ladK, h1, h2]
      have e2 : Lad.go u (false :: ts) ⟨a, b, c, d⟩ = Lad.go u ts ((Lad.mk a b c d).step u) := by rw [Lad.go, if_neg (by decide)]
      rw [e, ladK_eq u ts, e2]
def resK (ts : List Bool) (u : Nat) : Nat := fm (ladK u ts 1 0 u 1).a (invS (ladK u ts 1 0 u 1).b)
theorem resK_eq (ts : List Bool) (u : Nat) : resK ts u = resS ts u := by unfold resK resS; rw [ladK_eq]
theorem known_res : resK kbits kuN = bytesN ksB.data.toList := by decide +kernel
end Go.Proofs.Ytejphmgpndgliaa
