/- More rules on memory: rows that are made, slices as arguments. Own work. No program is named here. -/
import Derived.Test.YtfcppphchicdfaaX
namespace Go.Proofs.Ytfcppphchicdfaa
set_option linter.unusedSimpArgs false
set_option linter.unusedVariables false
open Go.RowKit
namespace V
/-- '[]E{..}': a row of the call's own. -/
theorem HpM.kmadeR {P : Program} {M : List Nat} {w0 w : World} {H : List It} (h : HpM M w0 w H) {s : Sem Value} (cs : List Value) (e size n : Nat) (hn : cs.length = n * size) (hm : n ≤ maxLen) (hr : s.run P w = .ok (.slice (some ⟨w.heap.size, 0, none⟩) n n) (w.alloc (.cells cs.toArray e))) {K : Value → World → Prop}
    (hk : ∀ b w', HpM M w0 w' (row e size (.slice (some ⟨b, 0, none⟩) n n) n cs :: H) → Ext w w' → K (.slice (some ⟨b, 0, none⟩) n n) w') : ∃ v w', s.run P w = .ok v w' ∧ K v w' := by
  have hx : Ext w (w.alloc (.cells cs.toArray e)) := (Ext.refl w).alloc _
  refine ⟨_, _, hr, hk _ _ (h.push hx (row_ok _ _ _ _ _) ?_ ?_) hx⟩
  · exact ⟨hn, .inr ⟨w.heap.size, n, cs.toArray, rfl, Nat.zero_le _, heap_alloc_new w _, Nat.le_refl _, hm, by simpa using hn, by simp [← hn]⟩⟩
  · intro b hb
    simp only [row, Value.ownBlock, Option.some.injEq] at hb
    subst hb
    exact ⟨Nat.le_refl _, by simp⟩
end V
end Go.Proofs.Ytfcppphchicdfaa
