/- Copy of a string's bytes into a block of the call's own. Own work. -/
import Derived.Test.YtejphmgpndgliaaX4
namespace Go.Proofs.Ytejphmgpndgliaa
set_option linter.unusedSimpArgs false
set_option linter.unusedVariables false
open Go.RowKit
namespace V
theorem HpM.kcopyS {P : Program} {M : List Nat} {w0 w : World} {H : List It} (h : HpM M w0 w H) {dT sT ty e bytes : Nat} (hs : slOk P dT e 1 bytes = true) (i : Nat) {b : Nat} {cs0 : List Value} {el : Nat} (hi : H[i]? = some (blk b cs0 el))
    {dLen dCap : Nat} (s : ByteArray) (cs : List Value) (hcs : cs = bytesV (s.data.toList.take dLen)) (hfit : cs.length ≤ cs0.length) {K : Value → World → Prop}
    (hk : ∀ w', HpM M w0 w' (H.set i (blk b (cs ++ cs0.drop cs.length) el)) → K (.int .i64 (cs.length : Nat)) w') :
    ∃ u w', (Builtin.copy_ #[dT, sT] ty #[.slice (some ⟨b, 0, none⟩) dLen dCap, .string s]).run P w = .ok u w' ∧ K u w' := by
  obtain ⟨hu, ⟨inf, z, hinf, hsz, rfl, hz, hzs⟩, _⟩ := slOk_spec hs
  have hb : Blk w b cs0 el := h.get hi
  obtain ⟨f, hf, hb⟩ := hb
  have h1 : ∀ v ∈ cs, v.oneCell' = true := fun v hv => by rw [hcs] at hv; simp only [bytesV, List.mem_map] at hv; obtain ⟨x, _, rfl⟩ := hv; rfl
  have hst := storeF (P := P) b 0 el f cs 0 cs0.toArray w hb (by simpa using hf) (by simpa using hfit) h1
  simp only [Nat.add_zero] at hst
  have hr : (Builtin.copy_ #[dT, sT] ty #[.slice (some ⟨b, 0, none⟩) dLen dCap, .string s]).run P w =
      .ok (goInt cs.length) (w.setRow b (cs0.toArray.toList.take 0 ++ cs ++ cs0.toArray.toList.drop (0 + cs.length)).toArray) := by
    simp [Builtin.copy_, Go.Proofs.Ytejphmgpndgliaa.V.run_underlying hu, Builtin.lenOf, Builtin.firstCells, sizeOf, typeInfo, hinf, hsz, hst, Result.andThen]
    have e : List.take (s.size.min dLen) (List.map (fun b => Value.int IntKind.u8 (b.toNat : Nat)) s.data.toList) = cs := by
      rw [hcs, bytesV, List.map_take]
      rcases Nat.le_total s.size dLen with h | h
      · rw [show s.size.min dLen = s.size from Nat.min_eq_left h, List.take_of_length_le (by simp), List.take_of_length_le (by simpa using h)]
      · rw [show s.size.min dLen = dLen from Nat.min_eq_right h]
    have e2 : s.size.min dLen = cs.length := by rw [← e]; simp
    rw [e, hst, e2]
    simp
  refine ⟨_, _, hr, ?_⟩
  have := hk _ (h.upd hi (grownBy_setRow w b (cs0.toArray.toList.take 0 ++ cs ++ cs0.toArray.toList.drop (0 + cs.length)).toArray) (blk_ok _ _ _) ⟨f, hf.imp_right (fun h => by simp; omega), by simpa using setRow_heap w b cs0.toArray _ el f hb⟩ (fun b' hb' => .inl hb'))
  exact this
end V
end Go.Proofs.Ytejphmgpndgliaa
