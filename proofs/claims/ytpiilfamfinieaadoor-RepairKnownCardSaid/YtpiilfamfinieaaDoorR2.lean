/- Marks of ranges that were left by a jump. Own work. No program is named here. -/
import Derived.Test.YtpiilfamfinieaaDoorR
namespace Go.Proofs.YtpiilfamfinieaaDoor
set_option linter.unusedSimpArgs false
set_option linter.unusedVariables false
open Go.RowKit
namespace V
def mks (n : Nat) (Ds : List Nat) : Env := Ds.map fun D => (n, .m D)
def raws (Ds : List Nat) : List It := Ds.map fun D => raw D (.deferred (some []))
theorem marks_mks (n : Nat) : ∀ Ds, marks (mks n Ds) = Ds
  | [] => rfl
  | D :: Ds => by show D :: marks (mks n Ds) = _; rw [marks_mks n Ds]
theorem marks_app : ∀ a b : Env, marks (a ++ b) = marks a ++ marks b
  | [], b => rfl
  | (d, e) :: a, b => by cases e <;> simp [marks, marks_app a b]
theorem look_app : ∀ (a b : Env) (t : Nat), look (a ++ b) t = match look a t with
    | some x => some x
    | none => look b t
  | [], b, t => rfl
  | (d, e) :: a, b, t => by
    simp only [List.cons_append, look]
    by_cases h : d = t
    · subst h; simp
    · rw [beqF h]; exact look_app a b t
/-- the mark that comes last is laid behind the slots -/
theorem sub_mks {n D : Nat} {Ds : List Nat} {slots l' : Env} (hm : marks slots = []) (hl : SubL slots l') (hd : look l' n = some (.m D)) (hml : marks l' = D :: Ds) : Sub (slots ++ mks n (D :: Ds)) l' := by
  refine ⟨fun t x h => ?_, ?_⟩
  · rw [look_app] at h
    cases hs : look slots t with
    | some y => rw [hs] at h; exact hl t x (hs.trans h)
    | none =>
      rw [hs] at h
      simp only [mks, List.map_cons, look] at h
      by_cases e : n = t
      · subst e; simp only [beqT] at h; rw [hd]; exact h
      · rw [beqF e] at h
        exfalso
        have : ∀ Ds : List Nat, look (mks n Ds) t = none := by
          intro Ds
          induction Ds with
          | nil => rfl
          | cons D Ds ih => simp only [mks, List.map_cons, look, beqF e]; exact ih
        rw [show look (List.map (fun D => (n, EV.m D)) Ds) t = none from this Ds] at h
        cases h
  · rw [marks_app, hm, marks_mks, hml]; rfl
theorem leave_all {M : List Nat} {w0 : World} {k : World → Prop} : ∀ (Ds : List Nat) {w : World} {H : List It}, HpM M w0 w (H ++ raws Ds) → (∀ w' H', HpM M w0 w' (H ++ H') → k w') → vleave Ds w k
  | [], w, H, hp, hk => hk w [] (by simpa [raws] using hp)
  | D :: Ds, w, H, hp, hk => by
    have hi : (H ++ raws (D :: Ds))[H.length]? = some (raw D (.deferred (some []))) := by simp [raws]
    refine ⟨hp.get hi, ?_⟩
    have h2 := hp.shut hi (o' := .deferred none)
    have e : (H ++ raws (D :: Ds)).set H.length (raw D (.deferred none)) = (H ++ [raw D (.deferred none)]) ++ raws Ds := by
      rw [List.set_append_right _ _ (Nat.le_refl _), Nat.sub_self]
      simp [raws]
    rw [e] at h2
    exact leave_all Ds h2 fun w' H' h => hk w' (raw D (.deferred none) :: H') (by simpa using h)
theorem HpM.perm {M : List Nat} {w0 w : World} {H H' : List It} (h : HpM M w0 w H) (hp : H.Perm H') : HpM M w0 w H' :=
  ⟨h.extM, fun x hx => h.ok x (hp.mem_iff.2 hx), fun x hx => h.holds x (hp.mem_iff.2 hx), fun x hx => h.lo x (hp.mem_iff.2 hx),
    (hp.pairwise_iff (fun {x y} hxy b hb hy => hxy b hy hb)).1 h.apart⟩
theorem HpM.newMark {M : List Nat} {w0 w : World} {H X : List It} {Ds : List Nat} {D : Nat} (h : HpM M w0 w (H ++ raws Ds ++ (raw D (.deferred (some [])) :: X))) : HpM M w0 w (H ++ raws (D :: Ds)) := by
  have h1 : HpM M w0 w (H ++ raws Ds ++ [raw D (.deferred (some []))]) := h.sub (List.Sublist.append (List.Sublist.refl _) (by simp))
  refine h1.perm ?_
  rw [List.append_assoc]
  exact List.Perm.append (List.Perm.refl _) (List.perm_append_comm)
end V
end Go.Proofs.YtpiilfamfinieaaDoor
