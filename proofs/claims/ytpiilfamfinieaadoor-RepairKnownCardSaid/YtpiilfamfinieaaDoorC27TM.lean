/- Chapter 27: what is repaired is what was lost; mathematics. -/
import Derived.Test.YtpiilfamfinieaaDoorC27PM
namespace Go.Proofs.YtpiilfamfinieaaDoor
set_option linter.unusedSimpArgs false
set_option linter.unusedVariables false
open Go.RowKit V
theorem px_pad (X F : List UInt8) : px (px X F) X = F ++ List.replicate (X.length - F.length) 0 := by
  apply list_ext0
  · rw [px_len, px_len, List.length_append, List.length_replicate]; omega
  · intro i
    rw [px_getD, px_getD]
    have e : (F ++ List.replicate (X.length - F.length) 0).getD i 0 = F.getD i 0 := by
      rw [List.getD_eq_getElem?_getD, List.getD_eq_getElem?_getD]
      by_cases h : i < F.length
      · rw [List.getElem?_append_left h]
      · rw [List.getElem?_append_right (by omega), List.getElem?_eq_none (l := F) (by omega), List.getElem?_replicate]
        split <;> rfl
    rw [e, UInt8.xor_comm (X.getD i 0), UInt8.xor_assoc, UInt8.xor_self, UInt8.xor_zero]
theorem unf_form (p : ByteArray) (hp : p.size ≤ 1100) (z : Nat) : unfL (formL p.data.toList ++ List.replicate z 0) = some p := by
  have hl : p.data.toList.length = p.size := toList_len p
  generalize hq : p.data.toList = q at hl
  unfold unfL
  have hn : 256 * ((formL q ++ List.replicate z 0).getD 0 0).toNat + ((formL q ++ List.replicate z 0).getD 1 0).toNat = q.length := by
    show 256 * (UInt8.ofNat (q.length / 256)).toNat + (UInt8.ofNat q.length).toNat = q.length
    simp only [UInt8.toNat_ofNat']
    omega
  have hlen : (formL q ++ List.replicate z 0).length = q.length + 2 + z := by rw [List.length_append, formL_len, List.length_replicate]
  have hdrop : (formL q ++ List.replicate z 0).drop (q.length + 2) = List.replicate z 0 := by
    rw [List.drop_append_of_le_length (by rw [formL_len]; exact Nat.le_refl _), List.drop_eq_nil_of_le (by rw [formL_len]; exact Nat.le_refl _), List.nil_append]
  rw [if_neg (by omega)]
  dsimp only
  rw [hn, hlen, hdrop, if_neg (by
    rintro (h | h | h)
    · omega
    · omega
    · rw [List.any_replicate] at h
      by_cases hz : z = 0
      · simp [hz] at h
      · simp [hz, nz] at h)]
  congr 1
  apply ByteArray.ext
  apply Array.ext'
  show ((formL q ++ List.replicate z 0).drop 2).take q.length = p.data.toList
  rw [hq]
  show (q ++ List.replicate z 0).take q.length = q
  rw [List.take_append_of_le_length (Nat.le_refl _), List.take_of_length_le (Nat.le_refl _)]
theorem covN_split (r c l i : Nat) (L : List ByteArray) (hi : onL r c l i = true) : ∀ k, covN r c l (-1) L k = if i < k then px (covN r c l (i : Int) L k) (formL ((L.getD i ⟨#[]⟩).data.toList)) else covN r c l (i : Int) L k
  | 0 => by simp [covN]
  | k + 1 => by
    have ih := covN_split r c l i L hi k
    have hm : decide ((k : Int) ≠ -1) = true := decide_eq_true (by omega)
    rw [covN, covN, ih, hm, Bool.and_true]
    by_cases e : k = i
    · subst e
      rw [if_pos hi, if_neg (Nat.lt_irrefl _), if_pos (Nat.lt_succ_self _), if_neg (by simp)]
    · have hki : decide ((k : Int) ≠ (i : Int)) = true := decide_eq_true (by omega)
      rw [hki, Bool.and_true]
      by_cases hk : onL r c l k = true
      · rw [if_pos hk, if_pos hk]
        by_cases hlt : i < k
        · rw [if_pos hlt, if_pos (by omega), px_assoc, px_assoc, px_comm (formL _)]
        · rw [if_neg hlt, if_neg (by omega)]
      · rw [if_neg hk, if_neg hk]
        by_cases hlt : i < k
        · rw [if_pos hlt, if_pos (by omega)]
        · rw [if_neg hlt, if_neg (by omega)]
theorem covN_congr (r c l i : Nat) (L L' : List ByteArray) : ∀ k, (∀ j < k, onL r c l j = true → j ≠ i → L.getD j ⟨#[]⟩ = L'.getD j ⟨#[]⟩) → covN r c l (i : Int) L k = covN r c l (i : Int) L' k
  | 0, _ => rfl
  | k + 1, h => by
    rw [covN, covN, covN_congr r c l i L L' k (fun j hj => h j (by omega))]
    split
    · rename_i hk
      rw [Bool.and_eq_true, decide_eq_true_iff] at hk
      rw [h k (by omega) hk.1 (by omega)]
    · rfl
theorem step_true (r c l i : Nat) (own L C : List ByteArray) (hi : i < own.length) (hlen : L.length = own.length) (hon : onL r c l i = true) (hsz : (own.getD i ⟨#[]⟩).size ≤ 1100)
    (hL : ∀ j < own.length, onL r c l j = true → j ≠ i → L.getD j ⟨#[]⟩ = own.getD j ⟨#[]⟩) (hC : C.getD l ⟨#[]⟩ = coverB r c l own) : stepL r c l i L C = some (own.getD i ⟨#[]⟩) := by
  unfold stepL
  rw [hC, hlen, covN_congr r c l i L own own.length hL]
  show unfL (px (covN r c l (-1) own own.length).toArray.toList _) = _
  rw [List.toList_toArray, covN_split r c l i own hon own.length, if_pos hi, px_pad]
  exact unf_form _ hsz _
theorem repF_true (r c kr kc : Nat) (hrc : r * c ≤ 48) (own C : List ByteArray) (hown : own.length = r * c) (hsz : ∀ x ∈ own, x.size ≤ 1100) (hC : ∀ l < r + c, knownL r kr kc l = true → C.getD l ⟨#[]⟩ = coverB r c l own) :
    ∀ (f cur : Nat) (L : List ByteArray), cur < 18446744073709551616 → L.length = r * c → (∀ j < r * c, L.getD j ⟨#[]⟩ = if cur.testBit j = true then ⟨#[]⟩ else own.getD j ⟨#[]⟩) →
      repF r c C (planF r c kr kc f cur).1 L = some (lostL (planF r c kr kc f cur).2 own own.length) := by
  have fin : ∀ (cur : Nat) (L : List ByteArray), L.length = r * c → (∀ j < r * c, L.getD j ⟨#[]⟩ = if cur.testBit j = true then ⟨#[]⟩ else own.getD j ⟨#[]⟩) → L = lostL cur own own.length := by
    intro cur L hl h
    apply List.ext_getElem?
    intro j
    by_cases hj : j < r * c
    · rw [lostL_get _ _ _ _ (by omega), decide_eq_true (by omega : j < own.length), Bool.true_and, ← h j hj, List.getD_eq_getElem?_getD, List.getElem?_eq_getElem (by omega)]; rfl
    · rw [List.getElem?_eq_none (by omega), List.getElem?_eq_none (by rw [lostL_len]; omega)]
  intro f
  induction f with
  | zero => intro cur L _ hl h; rw [planF]; simp only [repF]; rw [← fin cur L hl h]
  | succ f ih =>
    intro cur L hx hl h
    rw [planF]
    cases hf : firstL r c kr kc cur 0 with
    | none => simp only [repF]; rw [← fin cur L hl h]
    | some p =>
      obtain ⟨l, i⟩ := p
      obtain ⟨hl1, hk, hh⟩ := firstL_some hf
      obtain ⟨g1, g2, g3⟩ := (mem_hits.1 (by rw [hh]; simp : i ∈ hits r c cur l))
      have hst := step_true r c l i own L C (by omega) (by omega) g3 (hsz _ (by rw [List.getD_eq_getElem?_getD, List.getElem?_eq_getElem (by omega : i < own.length)]; exact List.getElem_mem _)) (fun j hj hon hne => by
        rw [h j (by omega), if_neg]
        intro hb
        have : j ∈ hits r c cur l := mem_hits.2 ⟨by omega, hb, hon⟩
        rw [hh] at this
        exact hne (by simpa using this)) (hC l hl1 hk)
      show repF r c C ((l, i) :: (planF r c kr kc f (clr cur i)).1) L = some (lostL (planF r c kr kc f (clr cur i)).2 own own.length)
      rw [repF, hst]
      refine ih (clr cur i) _ (clr_lt _ _ hx) (by rw [List.length_set]; exact hl) fun j hj => ?_
      rw [clr_bit cur i j hx (by omega), List.getD_eq_getElem?_getD, List.getElem?_set]
      by_cases e : i = j
      · subst e
        rw [if_pos rfl, if_pos (by omega)]
        simp
      · rw [if_neg e, ← List.getD_eq_getElem?_getD, h j hj]
        have : decide (j ≠ i) = true := decide_eq_true (Ne.symm e)
        rw [this, Bool.and_true]
end Go.Proofs.YtpiilfamfinieaaDoor
