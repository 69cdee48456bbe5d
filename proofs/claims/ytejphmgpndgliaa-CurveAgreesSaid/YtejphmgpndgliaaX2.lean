/- More rules on memory: rows that are made, slices as arguments. Own work. No program is named here. -/
import Derived.Test.YtejphmgpndgliaaX
namespace Go.Proofs.Ytejphmgpndgliaa
set_option linter.unusedSimpArgs false
set_option linter.unusedVariables false
open Go.RowKit
namespace V
/-- '[]E{..}': a row of the call's own. -/
theorem HpM.kmadeR {P : Program} {M : List Nat} {w0 w : World} {H : List It} (h : HpM M w0 w H) {s : Sem Value} (cs : List Value) (e size n : Nat) (hn : cs.length = n * size) (hm : n ≤ maxLen) (hr : s.run P w = .ok (.slice (some ⟨w.heap.size, 0, none⟩) n n) (w.alloc (.cells cs.toArray e))) {K : Value → World → Prop}
    (hk : ∀ b w', HpM M w0 w' (row e size (.slice (some ⟨b, 0, none⟩) n n) n cs :: H) → Ext w w' → K (.slice (some ⟨b, 0, none⟩) n n) w') : ∃ v w', s.run P w = .ok v w' ∧ K v w' := by
  have hx : Ext w (w.alloc (.cells cs.toArray e)) := (Ext.refl w).alloc _
  refine ⟨_, _, hr, hk _ _ (h.push hx (row_ok _ _ _ _ _) ?_ ?_) hx⟩
  · exact ⟨hn, .inr ⟨w.heap.size, n, cs.toArray, rfl, Nat.zero_le _, heap_alloc_new w _, Nat.le_refl _, hm, by simpa using hn, by simp [← hn]⟩⟩
  · intro b hb
    simp only [row, Value.ownBlock, Option.some.injEq] at hb
    subst hb
    exact ⟨Nat.le_refl _, by simp⟩
/-- append onto a full row of the call's own (the list's head), whatever comes in. -/
theorem HpM.kappE {P : Program} {M : List Nat} {w0 w : World} {H : List It} {t e size bytes : Nat} (hs : slOk P t e size bytes = true) {b n : Nat} {cs : List Value} (h : HpM M w0 w (row e size (.slice (some ⟨b, 0, none⟩) n n) n cs :: H))
    {tx ty : Nat} {x : Value} {m : Nat} {news : List Value} (src : Src P size tx x m news w) (hby : (n + m) * bytes ≤ 140737488355328) (hml : n + m ≤ maxLen) {K : Value → World → Prop}
    (hk : ∀ v' w', HpM M w0 w' (row e size v' (n + m) (cs ++ news) :: H) → Ext w w' → K v' w') :
    ∃ u w', (Builtin.append_ #[t, tx] ty #[.slice (some ⟨b, 0, none⟩) n n, x]).run P w = .ok u w' ∧ K u w' := by
  have hown : w.ownsRow 0 e size (.slice (some ⟨b, 0, none⟩) n n) n cs := h.get (i := 0) rfl
  obtain ⟨hl, h2⟩ := hown
  rcases Nat.eq_zero_or_pos m with rfl | hm
  · obtain ⟨hu, ⟨inf, z, hinf, hsz, rfl, hz, hzs⟩, hpos⟩ := slOk_spec hs
    have hnews : news = [] := List.eq_nil_of_length_eq_zero (by have := src.newsLen; omega)
    subst hnews
    subst hsz
    have hr := run_append_room_src (P := P) w t tx ty e inf hu hinf b 0 n n x 0 [] src (by omega) (by simp) (by simp)
    refine ⟨_, _, hr, ?_⟩
    rw [show w.setCells b (0 + n * inf.size) [] = w from by first | rfl | simp [World.setCells]]
    exact hk _ _ (by simpa using h) (Ext.refl w)
  · rcases h2 with ⟨hv, _⟩ | ⟨g, cap, cur, hv, _, hg, hle, hcm, hcs, htake⟩
    · simp at hv
    · simp only [Value.slice.injEq, Option.some.injEq, Addr.mk.injEq, true_and, and_true] at hv
      obtain ⟨rfl, rfl⟩ := hv
      have hb : Blk w b cs e := ⟨(0, 0), .inl rfl, by
        rw [hg]; rw [← htake, List.take_of_length_le (by simp; omega)]⟩
      exact h.kappF hs hb hl src hby hml hm fun g c w' hp hx => hk _ _ (hp.sub (by simp)) hx
end V
end Go.Proofs.Ytejphmgpndgliaa
