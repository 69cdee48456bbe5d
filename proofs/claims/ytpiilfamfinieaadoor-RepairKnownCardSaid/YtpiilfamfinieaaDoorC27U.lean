/- Chapter 27: the reference's plan. -/
import Derived.Test.YtpiilfamfinieaaDoorC27S
namespace Go.Proofs.YtpiilfamfinieaaDoor
set_option linter.unusedSimpArgs false
set_option linter.unusedVariables false
open Go.RowKit V
def hitsK (r c lost l q : Nat) : List Nat := (List.range q).filter fun i => lost.testBit i && onL r c l i
theorem hitsK_all (r c lost l : Nat) : hitsK r c lost l (r * c) = hits r c lost l := rfl
theorem hitsK_succ (r c lost l q : Nat) : hitsK r c lost l (q + 1) = if (lost.testBit q && onL r c l q) = true then hitsK r c lost l q ++ [q] else hitsK r c lost l q := by
  unfold hitsK
  rw [List.range_succ, List.filter_append]
  split <;> simp_all
theorem hitsK_len (r c lost l q : Nat) : (hitsK r c lost l q).length ≤ q := by
  unfold hitsK; have := List.length_filter_le (fun i => lost.testBit i && onL r c l i) (List.range q); simpa using this
def lastI (h : List Nat) : Int := match h.getLast? with
  | none => -1
  | some x => x
theorem lastI_snoc (h : List Nat) (q : Nat) : lastI (h ++ [q]) = q := by simp [lastI]
set_option maxHeartbeats 4000000 in
theorem rPlan_c {W : World} (r c lost kr kc : Nat) (h : Shp r c) (hs : setsB r c lost kr kc = true) :
    Calls Tryd.prog 24 #[.int .i64 r, .int .i64 c, .int .u64 lost, .int .u64 kr, .int .u64 kc] W fun e w' => ∃ u, e = .returned u ∧ ∃ v, u = .tuple #[v, .int .u64 ((planL r c lost kr kc).2 : Nat)] ∧
      HpM [] W w' [row 55 2 v (planL r c lost kr kc).1.length (pw (planL r c lost kr kc).1)] := by
  obtain ⟨hs1, hs2, hs3⟩ := of_decide_eq_true hs
  have h' := h
  obtain ⟨h1, h2, h3, h4⟩ := h'
  have hrc : r * c ≤ 6 * 8 := Nat.mul_le_mul (by omega) (by omega)
  have hrc2 : ((r : Int) * (c : Int)) = ((r * c : Nat) : Int) := by simp
  have hlost : lost < 18446744073709551616 := Nat.lt_of_lt_of_le hs1 (show 2 ^ (r * c) ≤ 2 ^ 64 from Nat.pow_le_pow_right (by omega) (by omega))
  have hkr : kr < 64 := Nat.lt_of_lt_of_le hs2 (show 2 ^ r ≤ 2 ^ 6 from Nat.pow_le_pow_right (by omega) (by omega))
  have hkc : kc < 256 := Nat.lt_of_lt_of_le hs3 (show 2 ^ c ≤ 2 ^ 8 from Nat.pow_le_pow_right (by omega) (by omega))
  refine v_fn (args := [.int .i64 r, .int .i64 c, .int .u64 lost, .int .u64 kr, .int .u64 kc]) TTok FFok Tryd.func24 rfl (Nat.le_of_ble_eq_true rfl) ?_
  have hp := (Hp.nil W).knil 55 2
  conv => whnf
  refine VSeq.mk fun Kq hKq => ?_
  conv => whnf
  refine hKq _ _ _ (V.Sub.refl _) ?_
  clear hKq Kq
  conv => whnf
  refine VSeq.mk fun Kq hKq => ?_
  conv => whnf
  refine hKq _ _ _ (V.Sub.refl _) ?_
  clear hKq Kq
  conv => whnf
  refine VSeq.mk fun Kq hKq => ?_
  conv => whnf
  refine VSeq.mk fun Kq hKq => ?_
  conv => whnf
  refine hKq _ _ _ (V.Sub.refl _) ?_
  clear hKq Kq
  conv => whnf
  refine ⟨fun M l w => ∃ (m : Nat) (again : Bool) (ps : List (Nat × Nat)) (lst : Nat) (v : Value), M = (if again = true then m + 1 else 0) ∧ l = [(0, .v (.int .i64 r)), (1, .v (.int .i64 c)), (2, .v (.int .u64 lst)), (3, .v (.int .u64 kr)), (4, .v (.int .u64 kc)), (12, .v v), (13, litE (.bool again))] ∧
      lst < 18446744073709551616 ∧ cnt r c lst ≤ m ∧ (ps ++ (planF r c kr kc m lst).1, (planF r c kr kc m lst).2) = planL r c lost kr kc ∧ ps.length + m = r * c ∧ (again = false → firstL r c kr kc lst 0 = none) ∧
      HpM [] W w [row 55 2 v ps.length (pw ps)],
    ⟨r * c + 1, _, ⟨r * c, true, [], lost, _, rfl, rfl, hlost, cnt_le _ _ _, rfl, by simp, (fun h => by cases h), hp⟩, sub_cons rfl (sub_cons rfl (sub_cons rfl (sub_cons rfl (sub_cons rfl (sub_cons rfl (sub_cons rfl sub_nil))))))⟩, ?_⟩
  clear hp
  repeat clear hp
  rintro M _ w ⟨m, again, ps, lst, v, hM, rfl, hll, hcm, hpl, hpm, hno, hp⟩
  cases again with
  | false =>
    conv => whnf
    refine VSeq.mk fun Kq hKq => ?_
    conv => whnf
    refine VSeq.mk fun Kq hKq => ?_
    conv => whnf
    refine hKq _ _ _ (V.Sub.refl _) ?_
    clear hKq Kq
    conv => whnf
    clear hKq Kq
    refine hKq _ _ _ (V.Sub.refl _) ?_
    clear hKq Kq
    conv => whnf
    refine VSeq.mk fun Kq hKq => ?_
    conv => whnf
    refine hKq _ _ _ (V.Sub.refl _) ?_
    clear hKq Kq
    conv => whnf
    rw [plan_end r c kr kc m lst (hno rfl), List.append_nil] at hpl
    rw [← hpl]
    exact ⟨v, rfl, hp⟩
  | true =>
    rw [if_pos rfl] at hM
    clear hno
    conv => whnf
    refine VSeq.mk fun Kq hKq => ?_
    conv => whnf
    refine VSeq.mk fun Kq hKq => ?_
    conv => whnf
    refine hKq _ _ _ (V.Sub.refl _) ?_
    clear hKq Kq
    conv => whnf
    refine hKq _ _ _ (V.Sub.refl _) ?_
    clear hKq Kq
    conv => whnf
    refine VSeq.mk fun Kq hKq => ?_
    conv => whnf
    refine hKq _ _ _ (V.Sub.refl _) ?_
    clear hKq Kq
    conv => whnf
    refine VSeq.mk fun Kq hKq => ?_
    conv => whnf
    refine hKq _ _ _ (V.Sub.refl _) ?_
    clear hKq Kq
    conv => whnf
    refine ⟨fun N e w => ∃ (k : Nat) (ag : Bool) (ps2 : List (Nat × Nat)) (lst2 : Nat) (v2 : Value), N + k = r + c ∧ e = [(0, .v (.int .i64 r)), (1, .v (.int .i64 c)), (2, .v (.int .u64 lst2)), (3, .v (.int .u64 kr)), (4, .v (.int .u64 kc)), (12, .v v2), (13, litE (.bool ag)), (14, .v (.int .i64 k))] ∧
        lst2 < 18446744073709551616 ∧ (ag = false → ps2 = ps ∧ lst2 = lst ∧ firstL r c kr kc lst 0 = firstL r c kr kc lst k) ∧ (ag = true → ∃ li ii, firstL r c kr kc lst 0 = some (li, ii) ∧ ps2 = ps ++ [(li, ii)] ∧ lst2 = clr lst ii) ∧
        HpM [] W w [row 55 2 v2 ps2.length (pw ps2)],
      ⟨r + c, _, ⟨0, false, ps, lst, v, rfl, rfl, hll, fun _ => ⟨rfl, rfl, rfl⟩, (fun h => by cases h), hp⟩, sub_cons rfl (sub_cons rfl (sub_cons rfl (sub_cons rfl (sub_cons rfl (sub_cons rfl (sub_cons rfl (sub_cons rfl sub_nil)))))))⟩, ?_⟩
    clear hp
    repeat clear hp
    rintro N _ w ⟨k, ag, ps2, lst2, v2, hN, rfl, hll2, hfa, htr, hp⟩
    cases ag with
    | true =>
      obtain ⟨li, ii, hf, rfl, rfl⟩ := htr rfl
      have hst := plan_step r c kr kc m lst li ii hll (by omega) hcm hf
      conv => whnf
      refine VSeq.mk fun Kq hKq => ?_
      conv => whnf
      refine VSeq.mk fun Kq hKq => ?_
      conv => whnf
      refine VSeq.mk fun Kq hKq => ?_
      conv => whnf
      refine And.intro (by omega) ?_
      conv => whnf
      refine hKq _ _ _ (V.Sub.refl _) ?_
      clear hKq Kq
      conv => whnf
      refine ⟨fun hlt => ?_, fun hlt => ?_⟩
      · have hlt := of_decide_eq_true hlt
        conv => whnf
        refine hKq _ _ _ (V.Sub.refl _) ?_
        clear hKq Kq
        conv => whnf
        exact ⟨m - 1 + 1, _, by omega, ⟨m - 1, true, _, _, v2, by rw [if_pos rfl], rfl, clr_lt _ _ hll, hst.2.2, by rw [← hpl, hst.2.1]; simp, by rw [List.length_append]; simp; omega, (fun h => by cases h), hp⟩, sub_cons rfl (sub_cons rfl (sub_cons rfl (sub_cons rfl (sub_cons rfl (sub_cons rfl (sub_cons rfl sub_nil))))))⟩
      · have hlt := of_decide_eq_false hlt
        conv => whnf
        refine hKq _ _ _ (V.Sub.refl _) ?_
        clear hKq Kq
        conv => whnf
        exact ⟨m - 1 + 1, _, by omega, ⟨m - 1, true, _, _, v2, by rw [if_pos rfl], rfl, clr_lt _ _ hll, hst.2.2, by rw [← hpl, hst.2.1]; simp, by rw [List.length_append]; simp; omega, (fun h => by cases h), hp⟩, sub_cons rfl (sub_cons rfl (sub_cons rfl (sub_cons rfl (sub_cons rfl (sub_cons rfl (sub_cons rfl sub_nil))))))⟩
    | false =>
      obtain ⟨rfl, rfl, hfk⟩ := hfa rfl
      clear hfa htr
      conv => whnf
      refine VSeq.mk fun Kq hKq => ?_
      conv => whnf
      refine VSeq.mk fun Kq hKq => ?_
      conv => whnf
      refine VSeq.mk fun Kq hKq => ?_
      conv => whnf
      refine And.intro (by omega) ?_
      conv => whnf
      refine hKq _ _ _ (V.Sub.refl _) ?_
      clear hKq Kq
      conv => whnf
      refine ⟨fun hlt => ?_, fun hlt => ?_⟩
      · have hlt := of_decide_eq_true hlt
        conv => whnf
        refine hKq _ _ _ (V.Sub.refl _) ?_
        clear hKq Kq
        conv => whnf
        refine hKq _ _ _ (V.Sub.refl _) ?_
        clear hKq Kq
        conv => whnf
        refine VSeq.mk fun Kq hKq => ?_
        conv => whnf
        refine VSeq.mk fun Kq hKq => ?_
        conv => whnf
        refine VSeq.mk fun Kq hKq => ?_
        conv => whnf
        refine VSeq.mk fun Kq hKq => ?_
        conv => whnf
        refine hKq _ _ _ (V.Sub.refl _) ?_
        clear hKq Kq
        conv => whnf
        refine VSeq.mk fun Kq hKq => ?_
        conv => whnf
        have hk : k < r + c := by omega
        have hstep := firstL_step r c kr kc lst2 k hk
        have hNN : N - 1 < N := by omega
        have hNk : N - 1 + (k + 1) = r + c := by omega
        refine ⟨fun g1 => ?_, fun g1 => ?_⟩
        · have g1 := of_decide_eq_true g1
          conv => whnf
          have hkl : knownL r kr kc k = kr.testBit k := by unfold knownL; rw [if_pos (by omega)]
          obtain ⟨z, hz⟩ : ∃ z, kr.testBit k = z := ⟨_, rfl⟩
          have hin := In_p kr k (by omega) (by omega)
          rw [hz] at hkl hin
          refine PureF.use (hin) fun w hx => ?_
          try (have hp := hp.call hx)
          conv => whnf
          refine hKq _ _ _ (V.Sub.refl _) ?_
          clear hKq Kq
          conv => whnf
          cases z with
          | false =>
            have hpk : pickL r c kr kc lst2 k = none := by unfold pickL; rw [hkl]; rfl
            refine And.intro (fun _ => ?_) (fun h => by cases h)
            conv => whnf
            refine hKq _ _ _ (V.Sub.refl _) ?_
            clear hKq Kq
            conv => whnf
            clear hKq Kq
            refine hKq _ _ _ (V.Sub.refl _) ?_
            clear hKq Kq
            conv => whnf
            refine And.intro (by omega) ?_
            conv => whnf
            exact ⟨N - 1, _, hNN, ⟨k + 1, false, ps2, lst2, v2, hNk, rfl, hll, fun _ => ⟨rfl, rfl, by rw [hfk, hstep, hpk]⟩, (fun h => by cases h), hp⟩, sub_cons rfl (sub_cons rfl (sub_cons rfl (sub_cons rfl (sub_cons rfl (sub_cons rfl (sub_cons rfl (sub_cons rfl sub_nil)))))))⟩
          | true =>
            refine And.intro (fun h => by cases h) (fun _ => ?_)
            conv => whnf
            refine And.intro (fun h => absurd (of_decide_eq_true h) ((by omega))) (fun _ => ?_)
            conv => whnf
            refine hKq _ _ _ (V.Sub.refl _) ?_
            clear hKq Kq
            conv => whnf
            refine hKq _ _ _ (V.Sub.refl _) ?_
            clear hKq Kq
            conv => whnf
            refine VSeq.mk fun Kq hKq => ?_
            conv => whnf
            refine hKq _ _ _ (V.Sub.refl _) ?_
            clear hKq Kq
            conv => whnf
            refine VSeq.mk fun Kq hKq => ?_
            conv => whnf
            refine VSeq.mk fun Kq hKq => ?_
            conv => whnf
            refine hKq _ _ _ (V.Sub.refl _) ?_
            clear hKq Kq
            conv => whnf
            refine ⟨fun j e w => ∃ q : Nat, j + q = r * c ∧ e = [(0, .v (.int .i64 r)), (1, .v (.int .i64 c)), (2, .v (.int .u64 lst2)), (3, .v (.int .u64 kr)), (4, .v (.int .u64 kc)), (12, .v v2), (13, litE (.bool false)), (14, .v (.int .i64 k)), (15, .v (.int .i64 ((hitsK r c lst2 k q).length : Nat))), (16, .v (.int .i64 (lastI (hitsK r c lst2 k q)))), (17, .v (.int .i64 q))] ∧
                HpM [] W w [row 55 2 v2 ps2.length (pw ps2)],
              ⟨r * c, _, ⟨0, rfl, rfl, hp⟩, sub_cons rfl (sub_cons rfl (sub_cons rfl (sub_cons rfl (sub_cons rfl (sub_cons rfl (sub_cons rfl (sub_cons rfl (sub_cons rfl (sub_cons rfl (sub_cons rfl sub_nil))))))))))⟩, ?_⟩
            clear hp
            repeat clear hp
            rintro j _ w ⟨q, hj, rfl, hp⟩
            have hql := hitsK_len r c lst2 k q
            conv => whnf
            refine VSeq.mk fun Kq hKq => ?_
            conv => whnf
            refine VSeq.mk fun Kq hKq => ?_
            conv => whnf
            refine And.intro (by omega) ?_
            conv => whnf
            refine hKq _ _ _ (V.Sub.refl _) ?_
            clear hKq Kq
            conv => whnf
            refine ⟨fun hq => ?_, fun hq => ?_⟩
            · have hq := of_decide_eq_true hq
              conv => whnf
              refine hKq _ _ _ (V.Sub.refl _) ?_
              clear hKq Kq
              conv => whnf
              refine VSeq.mk fun Kq hKq => ?_
              conv => whnf
              refine VSeq.mk fun Kq hKq => ?_
              conv => whnf
              refine VSeq.mk fun Kq hKq => ?_
              conv => whnf
              have hks := hitsK_succ r c lst2 k q
              obtain ⟨z1, hz1⟩ : ∃ z1, lst2.testBit q = z1 := ⟨_, rfl⟩
              obtain ⟨z2, hz2⟩ : ∃ z2, onL r c k q = z2 := ⟨_, rfl⟩
              have hin1 := In_p lst2 q hll (by omega)
              have hin2 := On_p r c k q h hk (by omega)
              rw [hz1, hz2] at hks
              rw [hz1] at hin1
              rw [hz2] at hin2
              refine PureF.use (hin1) fun w hx => ?_
              try (have hp := hp.call hx)
              conv => whnf
              refine hKq _ _ _ (V.Sub.refl _) ?_
              clear hKq Kq
              conv => whnf
              cases z1 with
              | false =>
                refine And.intro (fun h => by cases h) (fun _ => ?_)
                conv => whnf
                refine hKq _ _ _ (V.Sub.refl _) ?_
                clear hKq Kq
                conv => whnf
                refine hKq _ _ _ (V.Sub.refl _) ?_
                clear hKq Kq
                conv => whnf
                refine And.intro (by omega) ?_
                conv => whnf
                have hks : hitsK r c lst2 k (q + 1) = hitsK r c lst2 k q := hks
                exact ⟨j - 1, _, by omega, ⟨q + 1, by omega, by rw [hks], hp⟩, sub_cons rfl (sub_cons rfl (sub_cons rfl (sub_cons rfl (sub_cons rfl (sub_cons rfl (sub_cons rfl (sub_cons rfl (sub_cons rfl (sub_cons rfl (sub_cons rfl sub_nil))))))))))⟩
              | true =>
                refine And.intro (fun _ => ?_) (fun h => by cases h)
                conv => whnf
                refine PureF.use (hin2) fun w hx => ?_
                try (have hp := hp.call hx)
                conv => whnf
                refine hKq _ _ _ (V.Sub.refl _) ?_
                clear hKq Kq
                conv => whnf
                cases z2 with
                | false =>
                  refine And.intro (fun h => by cases h) (fun _ => ?_)
                  conv => whnf
                  refine hKq _ _ _ (V.Sub.refl _) ?_
                  clear hKq Kq
                  conv => whnf
                  refine And.intro (by omega) ?_
                  conv => whnf
                  have hks : hitsK r c lst2 k (q + 1) = hitsK r c lst2 k q := hks
                  exact ⟨j - 1, _, by omega, ⟨q + 1, by omega, by rw [hks], hp⟩, sub_cons rfl (sub_cons rfl (sub_cons rfl (sub_cons rfl (sub_cons rfl (sub_cons rfl (sub_cons rfl (sub_cons rfl (sub_cons rfl (sub_cons rfl (sub_cons rfl sub_nil))))))))))⟩
                | true =>
                  refine And.intro (fun _ => ?_) (fun h => by cases h)
                  conv => whnf
                  refine VSeq.mk fun Kq hKq => ?_
                  conv => whnf
                  refine And.intro (by omega) ?_
                  conv => whnf
                  refine hKq _ _ _ (V.Sub.refl _) ?_
                  clear hKq Kq
                  conv => whnf
                  refine hKq _ _ _ (V.Sub.refl _) ?_
                  clear hKq Kq
                  conv => whnf
                  refine And.intro (by omega) ?_
                  conv => whnf
                  have hks : hitsK r c lst2 k (q + 1) = hitsK r c lst2 k q ++ [q] := hks
                  exact ⟨j - 1, _, by omega, ⟨q + 1, by omega, by rw [hks, List.length_append, lastI_snoc], hp⟩, sub_cons rfl (sub_cons rfl (sub_cons rfl (sub_cons rfl (sub_cons rfl (sub_cons rfl (sub_cons rfl (sub_cons rfl (sub_cons rfl (sub_cons rfl (sub_cons rfl sub_nil))))))))))⟩
            · have hq := of_decide_eq_false hq
              conv => whnf
              clear hKq Kq
              refine hKq _ _ _ (V.Sub.refl _) ?_
              clear hKq Kq
              conv => whnf
              refine VSeq.mk fun Kq hKq => ?_
              conv => whnf
              refine hKq _ _ _ (V.Sub.refl _) ?_
              clear hKq Kq
              conv => whnf
              obtain rfl : q = r * c := by omega
              rw [hitsK_all] at hql ⊢
              refine ⟨fun hone => ?_, fun hone => ?_⟩
              · have hone := of_decide_eq_true hone
                conv => whnf
                refine VSeq.mk fun Kq hKq => ?_
                conv => whnf
                obtain ⟨ii, hii⟩ : ∃ ii, hits r c lst2 k = [ii] := by
                  match hh : hits r c lst2 k, (by omega : (hits r c lst2 k).length = 1) with
                  | [ii], _ => exact ⟨ii, rfl⟩
                have hla : lastI (hits r c lst2 k) = (ii : Int) := by rw [hii]; rfl
                have hii48 : ii < r * c := by have : ii ∈ hits r c lst2 k := by rw [hii]; simp
                                              exact (mem_hits.1 this).1
                have hfirst : firstL r c kr kc lst2 0 = some (k, ii) := by
                  rw [hfk, hstep]
                  have : pickL r c kr kc lst2 k = some (k, ii) := by unfold pickL; rw [if_pos hkl, hii]; rfl
                  rw [this]
                rw [hla]
                refine ⟨.agg #[.int .i64 k, .int .i64 ii], w, by kernel_rfl, ?_⟩
                conv => whnf
                refine hp.kmade [.int .i64 k, .int .i64 ii] 55 (fun b => .slice (some ⟨b, 0, none⟩) 1 1) (by kernel_rfl) fun tb w hp hx => ?_
                conv => whnf
                refine hp.kapp sl46 1 rfl (Blk.src TTok (hp.get (i := 0) rfl) rfl rfl (by intro u hu; simp at hu; rcases hu with rfl | rfl <;> rfl)) (by omega) (by unfold maxLen; omega) fun v3 w hp => ?_
                simp only [List.set_cons_zero, List.set_cons_succ] at hp
                have hp := hp.tail
                change HpM [] W w (row 55 2 v3 (ps2.length + 1) (pw ps2 ++ pw [(k, ii)]) :: _) at hp
                rw [← pw_app] at hp
                conv => whnf
                refine hKq _ _ _ (V.Sub.refl _) ?_
                clear hKq Kq
                conv => whnf
                refine VSeq.mk fun Kq hKq => ?_
                conv => whnf
                have hpw2 := pow_lt64 ii (by omega)
                refine ⟨ii, ⟨by first | rfl | omega, by omega⟩, ?_⟩
                conv => whnf
                rw [shl_one ii (by omega)]
                conv => whnf
                refine ⟨lst2, 2 ^ ii, clr lst2 ii, ⟨by first | rfl | omega, by first | rfl | omega, by omega, by omega⟩, rfl, ?_⟩
                conv => whnf
                refine hKq _ _ _ (V.Sub.refl _) ?_
                clear hKq Kq
                conv => whnf
                refine hKq _ _ _ (V.Sub.refl _) ?_
                clear hKq Kq
                conv => whnf
                refine And.intro (by omega) ?_
                conv => whnf
                exact ⟨N - 1, _, hNN, ⟨k + 1, true, ps2 ++ [(k, ii)], clr lst2 ii, v3, hNk, rfl, clr_lt _ _ hll, (fun h => by cases h), fun _ => ⟨k, ii, hfirst, rfl, rfl⟩, by rw [List.length_append]; exact hp⟩, sub_cons rfl (sub_cons rfl (sub_cons rfl (sub_cons rfl (sub_cons rfl (sub_cons rfl (sub_cons rfl (sub_cons rfl sub_nil)))))))⟩
              · have hone := of_decide_eq_false hone
                conv => whnf
                refine hKq _ _ _ (V.Sub.refl _) ?_
                clear hKq Kq
                conv => whnf
                refine And.intro (by omega) ?_
                conv => whnf
                have hpk : pickL r c kr kc lst2 k = none := by
                  unfold pickL; rw [if_pos hkl]
                  match hh : hits r c lst2 k with
                  | [] => rfl
                  | [ii] => exfalso; apply hone; rw [hh]; rfl
                  | _ :: _ :: _ => rfl
                exact ⟨N - 1, _, hNN, ⟨k + 1, false, ps2, lst2, v2, hNk, rfl, hll, fun _ => ⟨rfl, rfl, by rw [hfk, hstep, hpk]⟩, (fun h => by cases h), hp⟩, sub_cons rfl (sub_cons rfl (sub_cons rfl (sub_cons rfl (sub_cons rfl (sub_cons rfl (sub_cons rfl (sub_cons rfl sub_nil)))))))⟩
        · have g1 := of_decide_eq_false g1
          conv => whnf
          refine hKq _ _ _ (V.Sub.refl _) ?_
          clear hKq Kq
          conv => whnf
          have hkl : knownL r kr kc k = kc.testBit (k - r) := by unfold knownL; rw [if_neg (by omega)]
          obtain ⟨z, hz⟩ : ∃ z, kc.testBit (k - r) = z := ⟨_, rfl⟩
          have hin := In_p kc (k - r) (by omega) (by omega)
          rw [hz] at hkl hin
          refine And.intro (fun _ => ?_) (fun h => absurd ((by omega)) (of_decide_eq_false h))
          conv => whnf
          refine And.intro (by omega) ?_
          conv => whnf
          rw [show ((k : Int) - (r : Int)) = ((k - r : Nat) : Int) by omega]
          refine PureF.use (hin) fun w hx => ?_
          try (have hp := hp.call hx)
          conv => whnf
          refine hKq _ _ _ (V.Sub.refl _) ?_
          clear hKq Kq
          conv => whnf
          cases z with
          | false =>
            have hpk : pickL r c kr kc lst2 k = none := by unfold pickL; rw [hkl]; rfl
            refine And.intro (fun _ => ?_) (fun h => by cases h)
            conv => whnf
            clear hKq Kq
            refine hKq _ _ _ (V.Sub.refl _) ?_
            clear hKq Kq
            conv => whnf
            refine And.intro (by omega) ?_
            conv => whnf
            exact ⟨N - 1, _, hNN, ⟨k + 1, false, ps2, lst2, v2, hNk, rfl, hll, fun _ => ⟨rfl, rfl, by rw [hfk, hstep, hpk]⟩, (fun h => by cases h), hp⟩, sub_cons rfl (sub_cons rfl (sub_cons rfl (sub_cons rfl (sub_cons rfl (sub_cons rfl (sub_cons rfl (sub_cons rfl sub_nil)))))))⟩
          | true =>
            refine And.intro (fun h => by cases h) (fun _ => ?_)
            conv => whnf
            refine hKq _ _ _ (V.Sub.refl _) ?_
            clear hKq Kq
            conv => whnf
            refine VSeq.mk fun Kq hKq => ?_
            conv => whnf
            refine hKq _ _ _ (V.Sub.refl _) ?_
            clear hKq Kq
            conv => whnf
            refine VSeq.mk fun Kq hKq => ?_
            conv => whnf
            refine VSeq.mk fun Kq hKq => ?_
            conv => whnf
            refine hKq _ _ _ (V.Sub.refl _) ?_
            clear hKq Kq
            conv => whnf
            refine ⟨fun j e w => ∃ q : Nat, j + q = r * c ∧ e = [(0, .v (.int .i64 r)), (1, .v (.int .i64 c)), (2, .v (.int .u64 lst2)), (3, .v (.int .u64 kr)), (4, .v (.int .u64 kc)), (12, .v v2), (13, litE (.bool false)), (14, .v (.int .i64 k)), (15, .v (.int .i64 ((hitsK r c lst2 k q).length : Nat))), (16, .v (.int .i64 (lastI (hitsK r c lst2 k q)))), (17, .v (.int .i64 q))] ∧
                HpM [] W w [row 55 2 v2 ps2.length (pw ps2)],
              ⟨r * c, _, ⟨0, rfl, rfl, hp⟩, sub_cons rfl (sub_cons rfl (sub_cons rfl (sub_cons rfl (sub_cons rfl (sub_cons rfl (sub_cons rfl (sub_cons rfl (sub_cons rfl (sub_cons rfl (sub_cons rfl sub_nil))))))))))⟩, ?_⟩
            clear hp
            repeat clear hp
            rintro j _ w ⟨q, hj, rfl, hp⟩
            have hql := hitsK_len r c lst2 k q
            conv => whnf
            refine VSeq.mk fun Kq hKq => ?_
            conv => whnf
            refine VSeq.mk fun Kq hKq => ?_
            conv => whnf
            refine And.intro (by omega) ?_
            conv => whnf
            refine hKq _ _ _ (V.Sub.refl _) ?_
            clear hKq Kq
            conv => whnf
            refine ⟨fun hq => ?_, fun hq => ?_⟩
            · have hq := of_decide_eq_true hq
              conv => whnf
              refine hKq _ _ _ (V.Sub.refl _) ?_
              clear hKq Kq
              conv => whnf
              refine VSeq.mk fun Kq hKq => ?_
              conv => whnf
              refine VSeq.mk fun Kq hKq => ?_
              conv => whnf
              refine VSeq.mk fun Kq hKq => ?_
              conv => whnf
              have hks := hitsK_succ r c lst2 k q
              obtain ⟨z1, hz1⟩ : ∃ z1, lst2.testBit q = z1 := ⟨_, rfl⟩
              obtain ⟨z2, hz2⟩ : ∃ z2, onL r c k q = z2 := ⟨_, rfl⟩
              have hin1 := In_p lst2 q hll (by omega)
              have hin2 := On_p r c k q h hk (by omega)
              rw [hz1, hz2] at hks
              rw [hz1] at hin1
              rw [hz2] at hin2
              refine PureF.use (hin1) fun w hx => ?_
              try (have hp := hp.call hx)
              conv => whnf
              refine hKq _ _ _ (V.Sub.refl _) ?_
              clear hKq Kq
              conv => whnf
              cases z1 with
              | false =>
                refine And.intro (fun h => by cases h) (fun _ => ?_)
                conv => whnf
                refine hKq _ _ _ (V.Sub.refl _) ?_
                clear hKq Kq
                conv => whnf
                refine hKq _ _ _ (V.Sub.refl _) ?_
                clear hKq Kq
                conv => whnf
                refine And.intro (by omega) ?_
                conv => whnf
                have hks : hitsK r c lst2 k (q + 1) = hitsK r c lst2 k q := hks
                exact ⟨j - 1, _, by omega, ⟨q + 1, by omega, by rw [hks], hp⟩, sub_cons rfl (sub_cons rfl (sub_cons rfl (sub_cons rfl (sub_cons rfl (sub_cons rfl (sub_cons rfl (sub_cons rfl (sub_cons rfl (sub_cons rfl (sub_cons rfl sub_nil))))))))))⟩
              | true =>
                refine And.intro (fun _ => ?_) (fun h => by cases h)
                conv => whnf
                refine PureF.use (hin2) fun w hx => ?_
                try (have hp := hp.call hx)
                conv => whnf
                refine hKq _ _ _ (V.Sub.refl _) ?_
                clear hKq Kq
                conv => whnf
                cases z2 with
                | false =>
                  refine And.intro (fun h => by cases h) (fun _ => ?_)
                  conv => whnf
                  refine hKq _ _ _ (V.Sub.refl _) ?_
                  clear hKq Kq
                  conv => whnf
                  refine And.intro (by omega) ?_
                  conv => whnf
                  have hks : hitsK r c lst2 k (q + 1) = hitsK r c lst2 k q := hks
                  exact ⟨j - 1, _, by omega, ⟨q + 1, by omega, by rw [hks], hp⟩, sub_cons rfl (sub_cons rfl (sub_cons rfl (sub_cons rfl (sub_cons rfl (sub_cons rfl (sub_cons rfl (sub_cons rfl (sub_cons rfl (sub_cons rfl (sub_cons rfl sub_nil))))))))))⟩
                | true =>
                  refine And.intro (fun _ => ?_) (fun h => by cases h)
                  conv => whnf
                  refine VSeq.mk fun Kq hKq => ?_
                  conv => whnf
                  refine And.intro (by omega) ?_
                  conv => whnf
                  refine hKq _ _ _ (V.Sub.refl _) ?_
                  clear hKq Kq
                  conv => whnf
                  refine hKq _ _ _ (V.Sub.refl _) ?_
                  clear hKq Kq
                  conv => whnf
                  refine And.intro (by omega) ?_
                  conv => whnf
                  have hks : hitsK r c lst2 k (q + 1) = hitsK r c lst2 k q ++ [q] := hks
                  exact ⟨j - 1, _, by omega, ⟨q + 1, by omega, by rw [hks, List.length_append, lastI_snoc], hp⟩, sub_cons rfl (sub_cons rfl (sub_cons rfl (sub_cons rfl (sub_cons rfl (sub_cons rfl (sub_cons rfl (sub_cons rfl (sub_cons rfl (sub_cons rfl (sub_cons rfl sub_nil))))))))))⟩
            · have hq := of_decide_eq_false hq
              conv => whnf
              clear hKq Kq
              refine hKq _ _ _ (V.Sub.refl _) ?_
              clear hKq Kq
              conv => whnf
              refine VSeq.mk fun Kq hKq => ?_
              conv => whnf
              refine hKq _ _ _ (V.Sub.refl _) ?_
              clear hKq Kq
              conv => whnf
              obtain rfl : q = r * c := by omega
              rw [hitsK_all] at hql ⊢
              refine ⟨fun hone => ?_, fun hone => ?_⟩
              · have hone := of_decide_eq_true hone
                conv => whnf
                refine VSeq.mk fun Kq hKq => ?_
                conv => whnf
                obtain ⟨ii, hii⟩ : ∃ ii, hits r c lst2 k = [ii] := by
                  match hh : hits r c lst2 k, (by omega : (hits r c lst2 k).length = 1) with
                  | [ii], _ => exact ⟨ii, rfl⟩
                have hla : lastI (hits r c lst2 k) = (ii : Int) := by rw [hii]; rfl
                have hii48 : ii < r * c := by have : ii ∈ hits r c lst2 k := by rw [hii]; simp
                                              exact (mem_hits.1 this).1
                have hfirst : firstL r c kr kc lst2 0 = some (k, ii) := by
                  rw [hfk, hstep]
                  have : pickL r c kr kc lst2 k = some (k, ii) := by unfold pickL; rw [if_pos hkl, hii]; rfl
                  rw [this]
                rw [hla]
                refine ⟨.agg #[.int .i64 k, .int .i64 ii], w, by kernel_rfl, ?_⟩
                conv => whnf
                refine hp.kmade [.int .i64 k, .int .i64 ii] 55 (fun b => .slice (some ⟨b, 0, none⟩) 1 1) (by kernel_rfl) fun tb w hp hx => ?_
                conv => whnf
                refine hp.kapp sl46 1 rfl (Blk.src TTok (hp.get (i := 0) rfl) rfl rfl (by intro u hu; simp at hu; rcases hu with rfl | rfl <;> rfl)) (by omega) (by unfold maxLen; omega) fun v3 w hp => ?_
                simp only [List.set_cons_zero, List.set_cons_succ] at hp
                have hp := hp.tail
                change HpM [] W w (row 55 2 v3 (ps2.length + 1) (pw ps2 ++ pw [(k, ii)]) :: _) at hp
                rw [← pw_app] at hp
                conv => whnf
                refine hKq _ _ _ (V.Sub.refl _) ?_
                clear hKq Kq
                conv => whnf
                refine VSeq.mk fun Kq hKq => ?_
                conv => whnf
                have hpw2 := pow_lt64 ii (by omega)
                refine ⟨ii, ⟨by first | rfl | omega, by omega⟩, ?_⟩
                conv => whnf
                rw [shl_one ii (by omega)]
                conv => whnf
                refine ⟨lst2, 2 ^ ii, clr lst2 ii, ⟨by first | rfl | omega, by first | rfl | omega, by omega, by omega⟩, rfl, ?_⟩
                conv => whnf
                refine hKq _ _ _ (V.Sub.refl _) ?_
                clear hKq Kq
                conv => whnf
                refine hKq _ _ _ (V.Sub.refl _) ?_
                clear hKq Kq
                conv => whnf
                refine And.intro (by omega) ?_
                conv => whnf
                exact ⟨N - 1, _, hNN, ⟨k + 1, true, ps2 ++ [(k, ii)], clr lst2 ii, v3, hNk, rfl, clr_lt _ _ hll, (fun h => by cases h), fun _ => ⟨k, ii, hfirst, rfl, rfl⟩, by rw [List.length_append]; exact hp⟩, sub_cons rfl (sub_cons rfl (sub_cons rfl (sub_cons rfl (sub_cons rfl (sub_cons rfl (sub_cons rfl (sub_cons rfl sub_nil)))))))⟩
              · have hone := of_decide_eq_false hone
                conv => whnf
                refine hKq _ _ _ (V.Sub.refl _) ?_
                clear hKq Kq
                conv => whnf
                refine And.intro (by omega) ?_
                conv => whnf
                have hpk : pickL r c kr kc lst2 k = none := by
                  unfold pickL; rw [if_pos hkl]
                  match hh : hits r c lst2 k with
                  | [] => rfl
                  | [ii] => exfalso; apply hone; rw [hh]; rfl
                  | _ :: _ :: _ => rfl
                exact ⟨N - 1, _, hNN, ⟨k + 1, false, ps2, lst2, v2, hNk, rfl, hll, fun _ => ⟨rfl, rfl, by rw [hfk, hstep, hpk]⟩, (fun h => by cases h), hp⟩, sub_cons rfl (sub_cons rfl (sub_cons rfl (sub_cons rfl (sub_cons rfl (sub_cons rfl (sub_cons rfl (sub_cons rfl sub_nil)))))))⟩
      · have hlt := of_decide_eq_false hlt
        conv => whnf
        refine hKq _ _ _ (V.Sub.refl _) ?_
        clear hKq Kq
        conv => whnf
        have hend : firstL r c kr kc lst2 0 = none := by rw [hfk]; exact firstL_end _ _ _ _ _ _ (by omega)
        exact ⟨0, _, by omega, ⟨m, false, ps2, lst2, v2, rfl, rfl, hll, hcm, hpl, hpm, fun _ => hend, hp⟩, sub_cons rfl (sub_cons rfl (sub_cons rfl (sub_cons rfl (sub_cons rfl (sub_cons rfl (sub_cons rfl sub_nil))))))⟩
end Go.Proofs.YtpiilfamfinieaaDoor
