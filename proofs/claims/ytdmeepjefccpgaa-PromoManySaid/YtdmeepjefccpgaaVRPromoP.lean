/- The reference's answer whether a promo may be (ref10.Promo), as a closed form. Plain Lean. -/
import Derived.Test.YtdmeepjefccpgaaVPromoP
import Derived.Test.YtdmeepjefccpgaaVRwRef10PD
set_option linter.unusedVariables false
set_option linter.unusedSimpArgs false
namespace Go.Proofs.Ytdmeepjefccpgaa.PP
open Go Go.RowKit Go.Proofs.YtdmeepjefccpgaaW.PrintWords Go.Proofs.YtdmeepjefccpgaaW.PrintMore Go.Proofs.Ytdmeepjefccpgaa.Rw Go.Proofs.Ytdmeepjefccpgaa.EP Go.Proofs.Ytdmeepjefccpgaa.NP

theorem upN_if (l : List ByteArray) (i : Nat) (A : Option Bool) (hi : i < l.length) (hl : l.length ≤ 9223372036854775807) : (if (i : Int) > 0 then (if 0 ≤ (wrap64 ((i : Int) - 1)) then (if (wrap64 ((i : Int) - 1)) < (l.length : Int) then (if ((Op.bytesLess ((rdOf ByteArray.empty l (wrap64 ((i : Int) - 1))).toList) ((rdOf ByteArray.empty l (i : Int)).toList)) = true) then A else (some false)) else (none)) else (none)) else A) = if upAt l i = true then A else some false := by
  rcases Nat.eq_zero_or_pos i with rfl | h
  · rw [if_neg (by omega), if_pos (by simp [upAt])]
  · have hw : wrap64 ((i : Int) - 1) = ((i - 1 : Nat) : Int) := by rw [wrap_ok (by omega) (by omega)]; omega
    rw [if_pos (by omega), hw, if_pos (by omega), if_pos (by omega), rdOf_d, rdOf_d]
    have : upAt l i = Op.bytesLess (l.getD (i - 1) ByteArray.empty).toList (l.getD i ByteArray.empty).toList := by
      unfold upAt
      rw [decide_eq_false (by omega), Bool.false_or]
    rw [this]
/-- The strings of a list are as long as strings may be. -/
def fitL (l : List ByteArray) : Prop := l.length ≤ 9223372036854775807 ∧ ∀ s ∈ l, s.size ≤ 9223372036854775807
theorem fitL_nm {l : List ByteArray} (h : fitL l) {i : Nat} (hi : i < l.length) : (nm l i).size ≤ 9223372036854775807 := by
  refine h.2 _ ?_
  unfold nm
  rw [List.getD_eq_getElem?_getD, List.getElem?_eq_getElem hi]
  exact List.getElem_mem hi
theorem rnames_f (l : List ByteArray) (m : Nat) (h : fitL l) : Ev (fun k => haberdashref10_names.f k l (m : Int)) (namesOk m l) := by
  have := scan_ev (F := fun k i => haberdashref10_names.l0 k l (m : Int) (i : Int)) (n := l.length) (p := fun i => nameOk (nm l i) && upAt l i) (e := decide (l.length ≤ m))
    (Ev.step (f := fun _ => some (decide (l.length ≤ m))) (fun k => by
      rw [haberdashref10_names.l0, if_neg (by omega)]
      congr 1
      rw [Bool.eq_iff_iff, decide_eq_true_eq, decide_eq_true_eq]
      omega) (Ev.now _))
    (fun i hi hp r hr => by
      have hp1 := Bool.and_eq_true_iff.1 hp
      refine Ev.step (fun k => by rw [haberdashref10_names.l0, if_pos (by omega), if_pos (by omega), upN_if l i _ hi h.1, if_pos hp1.2, next i (by have := h.1; omega), rdOf_d]) ?_
      refine Ev.bind (rname_f _ (fitL_nm h hi)) ?_
      rw [hp1.1]
      simp only [if_true]
      exact hr)
    (fun i hi hp => by
      refine Ev.step (fun k => by rw [haberdashref10_names.l0, if_pos (by omega), if_pos (by omega), upN_if l i _ hi h.1, rdOf_d]) ?_
      refine Ev.bind (rname_f _ (fitL_nm h hi)) ?_
      cases h1 : nameOk (nm l i) with
      | false => exact Ev.now _
      | true =>
        have hp : upAt l i = false := by rw [h1, Bool.true_and] at hp; exact hp
        simp only [if_true, hp, Bool.false_eq_true, if_false]
        exact Ev.now _)
  refine ev_eq this ?_
  rw [allTo_and]
  unfold namesOk rise
  cases decide (l.length ≤ m) <;> cases allTo (upAt l) l.length <;> simp
theorem rscope_f (a b : List ByteArray) (ha : fitL a) (hb : fitL b) : Ev (fun k => haberdashref10_Scope.f k a b) (scopeOk a b) := by
  unfold haberdashref10_Scope.f scopeOk
  exact Ev.bind (rnames_f a 20 ha) (test_ev fun _ => Ev.bind (rnames_f b 20 hb) (Ev.now _))
def fitP (x : S65) : Prop := fitL x.f0.f0 ∧ fitL x.f0.f1
theorem rparts_f (l : List (S65)) (hl : l.length ≤ 9223372036854775807) (hp : ∀ i, i < l.length → fitP (rd_T65 l (i : Int))) : Ev (fun k => haberdashref10_parts.f k l) (partsOk l) := by
  have := scan_ev (F := fun k i => haberdashref10_parts.l0 k l (i : Int)) (n := l.length) (p := fun i => partOk (rd_T65 l i)) (e := decide (1 ≤ l.length) && decide (l.length ≤ 3))
    (Ev.step (f := fun _ => some (decide (1 ≤ l.length) && decide (l.length ≤ 3))) (fun k => by
      rw [haberdashref10_parts.l0, if_neg (by omega)]
      by_cases h : (l.length : Int) ≥ 1
      · rw [if_pos h, show decide (1 ≤ l.length) = true from decide_eq_true (by omega), Bool.true_and]
        congr 1
        rw [Bool.eq_iff_iff, decide_eq_true_eq, decide_eq_true_eq]
        omega
      · rw [if_neg h, show decide (1 ≤ l.length) = false from decide_eq_false (by omega), Bool.false_and]) (Ev.now _))
    (fun i hi hq r hr => by
      unfold partOk at hq
      simp only [Bool.and_eq_true, decide_eq_true_eq] at hq
      refine Ev.step (fun k => by rw [haberdashref10_parts.l0, if_pos (by omega), if_pos (by omega), next i (by omega)]) ?_
      refine Ev.bind (rscope_f _ _ (hp i hi).1 (hp i hi).2) ?_
      rw [hq.1.1]
      simp only [if_true]
      simp only [if_neg (show ¬ (rd_T65 l (i : Int)).f1 < 1 by omega), if_neg (show ¬ (rd_T65 l (i : Int)).f1 > 100 by omega)]
      exact hr)
    (fun i hi hq => by
      refine Ev.step (fun k => by rw [haberdashref10_parts.l0, if_pos (by omega), if_pos (by omega)]) ?_
      refine Ev.bind (rscope_f _ _ (hp i hi).1 (hp i hi).2) ?_
      cases h1 : scopeOk (rd_T65 l (i : Int)).f0.f0 (rd_T65 l (i : Int)).f0.f1 with
      | false => exact Ev.now _
      | true =>
        simp only [if_true]
        unfold partOk at hq
        rw [h1, Bool.true_and] at hq
        by_cases h2 : (rd_T65 l (i : Int)).f1 < 1
        · simp only [if_pos h2]; exact Ev.now _
        · simp only [if_neg h2]
          have h3 : (rd_T65 l (i : Int)).f1 > 100 := by
            rw [decide_eq_true (show 1 ≤ (rd_T65 l (i : Int)).f1 by omega), Bool.true_and] at hq
            have := of_decide_eq_false hq
            omega
          simp only [if_pos h3]
          exact Ev.now _)
  refine ev_eq this ?_
  unfold partsOk
  cases decide (1 ≤ l.length) <;> cases decide (l.length ≤ 3) <;> simp
def rtierAt (l : List (S67)) (i : Nat) : Bool := decide (0 ≤ (rd_T67 l (i : Int)).f0) && tierAt l i
theorem tierAt_lt {l : List (S67)} {i : Nat} (h : tierAt l i = true) : (if i = 0 then -1 else (rd_T67 l ((i - 1 : Nat) : Int)).f0) < (rd_T67 l (i : Int)).f0 := by
  unfold tierAt at h
  simp only [Bool.and_eq_true, decide_eq_true_eq] at h
  exact h.1.1.1.1.1.1
theorem rtiers_all (l : List (S67)) (n : Nat) : allTo (rtierAt l) n = allTo (tierAt l) n := by
  rw [Bool.eq_iff_iff, allTo_iff, allTo_iff]
  constructor
  · intro h i hi
    exact (Bool.and_eq_true_iff.1 (h i hi)).2
  · intro h
    have key : ∀ i, i < n → 0 ≤ (rd_T67 l (i : Int)).f0 := by
      intro i
      induction i with
      | zero => intro hi; have := tierAt_lt (h 0 hi); rw [if_pos rfl] at this; omega
      | succ i ih => intro hi; have h1 := ih (by omega); have := tierAt_lt (h (i + 1) hi); rw [if_neg (by omega), Nat.add_sub_cancel] at this; omega
    intro i hi
    unfold rtierAt
    rw [decide_eq_true (key i hi), h i hi]
    rfl
theorem rtier_if (l : List (S67)) (i : Nat) (A : Option Bool) (hi : i < l.length) (hl : l.length ≤ 9223372036854775807) : ((haberdashref10_in.f ((rd_T67 l (i : Int)).f0) 10000000000000).bind fun t512 => (if t512 = true then ((haberdashref10_in.f ((rd_T67 l (i : Int)).f1) 10000).bind fun t513 => (if t513 = true then ((haberdashref10_in.f ((rd_T67 l (i : Int)).f2) 10000000000000).bind fun t514 => (if t514 = true then (if ((rd_T67 l (i : Int)).f1) = 0 then (if ((rd_T67 l (i : Int)).f2) = 0 then (some false) else (if (i : Int) > 0 then (if 0 ≤ (wrap64 ((i : Int) - 1)) then (if (wrap64 ((i : Int) - 1)) < (l.length : Int) then (if ((rd_T67 l (i : Int)).f0) ≤ ((rd_T67 l (wrap64 ((i : Int) - 1))).f0) then (some false) else A) else (none)) else (none)) else A)) else (if (i : Int) > 0 then (if 0 ≤ (wrap64 ((i : Int) - 1)) then (if (wrap64 ((i : Int) - 1)) < (l.length : Int) then (if ((rd_T67 l (i : Int)).f0) ≤ ((rd_T67 l (wrap64 ((i : Int) - 1))).f0) then (some false) else A) else (none)) else (none)) else A)) else (some false))) else (some false))) else (some false))) = if rtierAt l i = true then A else some false := by
  have hprev : (if (i : Int) > 0 then (if 0 ≤ (wrap64 ((i : Int) - 1)) then (if (wrap64 ((i : Int) - 1)) < (l.length : Int) then (if ((rd_T67 l (i : Int)).f0) ≤ ((rd_T67 l (wrap64 ((i : Int) - 1))).f0) then (some false) else A) else (none)) else (none)) else A) = if 0 < i ∧ (rd_T67 l (i : Int)).f0 ≤ (rd_T67 l ((i - 1 : Nat) : Int)).f0 then some false else A := by
    rcases Nat.eq_zero_or_pos i with rfl | h
    · rw [if_neg (by omega), if_neg (by omega)]
    · have hw : wrap64 ((i : Int) - 1) = ((i - 1 : Nat) : Int) := by rw [wrap_ok (by omega) (by omega)]; omega
      rw [if_pos (by omega), hw, if_pos (by omega), if_pos (by omega)]
      by_cases hc : (rd_T67 l (i : Int)).f0 ≤ (rd_T67 l ((i - 1 : Nat) : Int)).f0
      · rw [if_pos hc, if_pos ⟨h, hc⟩]
      · rw [if_neg hc, if_neg (fun hh => hc hh.2)]
  rw [hprev]
  simp only [in_f, Option.bind_some]
  unfold rtierAt tierAt
  generalize hx : (rd_T67 l ((i - 1 : Nat) : Int)).f0 = x
  generalize rd_T67 l i = y
  obtain ⟨a, b, c⟩ := y
  simp only [Bool.and_eq_true, decide_eq_true_eq, Bool.not_eq_true', Bool.and_eq_false_iff, decide_eq_false_iff_not]
  rcases Nat.eq_zero_or_pos i with rfl | h
  · simp only [↓reduceIte, Nat.lt_irrefl, false_and, if_false]
    repeat' split
    all_goals first | rfl | (exfalso; omega)
  · simp only [if_neg (show ¬ i = 0 by omega), h, true_and]
    repeat' split
    all_goals first | rfl | (exfalso; omega)
theorem rtiers_f (l : List (S67)) (hl : l.length ≤ 9223372036854775807) : Ev (fun k => haberdashref10_tiers.f k l) (tiersOk l) := by
  have := scan_ev (F := fun k i => haberdashref10_tiers.l0 k l (i : Int)) (n := l.length) (p := rtierAt l) (e := decide (1 ≤ l.length) && decide (l.length ≤ 6))
    (Ev.step (f := fun _ => some (decide (1 ≤ l.length) && decide (l.length ≤ 6))) (fun k => by
      rw [haberdashref10_tiers.l0, if_neg (by omega)]
      by_cases h : (l.length : Int) ≥ 1
      · rw [if_pos h, show decide (1 ≤ l.length) = true from decide_eq_true (by omega), Bool.true_and]
        congr 1
        rw [Bool.eq_iff_iff, decide_eq_true_eq, decide_eq_true_eq]
        omega
      · rw [if_neg h, show decide (1 ≤ l.length) = false from decide_eq_false (by omega), Bool.false_and]) (Ev.now _))
    (fun i hi hq r hr => Ev.step (fun k => by rw [haberdashref10_tiers.l0, if_pos (by omega), if_pos (by omega), rtier_if l i _ hi hl, if_pos hq, next i (by omega)]) hr)
    (fun i hi hq => Ev.step (fun k => by rw [haberdashref10_tiers.l0, if_pos (by omega), if_pos (by omega), rtier_if l i _ hi hl, if_neg (by rw [hq]; simp)]) (Ev.now _))
  refine ev_eq this ?_
  rw [rtiers_all]
  unfold tiersOk
  cases decide (1 ≤ l.length) <;> cases decide (l.length ≤ 6) <;> simp
/-- What a promo's kind asks, as the reference says it. -/
def kindR (k : Int) (cl : Bool) (n6 n7 : Nat) (a9 a10 a11 a12 : Int) (l13 : List (S65)) (l14 : List (S67)) : Bool :=
  if k = 1 then rateOk a9 && (a10 == 0 && ((a11 == 0 && a12 == 0) && (decide (l13.length = 0) && decide (l14.length = 0))))
  else if k = 2 then (a9 == 0) && (amountOk a10 && ((a11 == 0 && a12 == 0) && (decide (l13.length = 0) && decide (l14.length = 0))))
  else if k = 3 then rateOk a9 && (a10 == 0 && ((decide (1 ≤ a11) && (decide (a11 ≤ 100) && (decide (1 ≤ a12) && decide (a12 ≤ 100)))) && (decide (l13.length = 0) && decide (l14.length = 0))))
  else if k = 4 then (a9 == 0) && ((decide (0 ≤ a10) && decide (a10 ≤ 10000000000000)) && ((a11 == 0 && a12 == 0) && (partsOk l13 && (decide (l14.length = 0) && (decide (n6 = 0) && decide (n7 = 0))))))
  else if k = 7 then rateOk a9 && (a10 == 0 && ((a11 == 0 && a12 == 0) && (decide (l13.length = 0) && (decide (l14.length = 0) && ((decide (n6 = 0) && decide (n7 = 0)) && !cl)))))
  else (a9 == 0) && (a10 == 0 && ((a11 == 0 && a12 == 0) && (decide (l13.length = 0) && tiersOk l14)))
theorem len0 {α : Type} (l : List α) : ((l.length : Int) == 0) = decide (l.length = 0) := by
  rw [Bool.eq_iff_iff, beq_iff_eq, decide_eq_true_eq]; omega
theorem now_and (a b : Bool) : Ev (fun _ => if a = true then some b else some false) (a && b) := by
  cases a <;> exact Ev.now _
theorem j0t (a0_0 : ByteArray) (a0_1 : Int) (a0_2 : Int) (a0_3 : ByteArray) (a0_4 : ByteArray) (a0_5 : Bool) (l0_6 : List ByteArray) (l0_7 : List ByteArray) (a0_8 : Int) (a0_9 : Int) (a0_10 : Int) (a0_11 : Int) (a0_12 : Int) (l0_13 : List (S65)) (l0_14 : List (S67)) : Ev (fun n => haberdashref10_Promo.j0 n true a0_0 a0_1 a0_2 a0_3 a0_4 a0_5 l0_6 l0_7 a0_8 a0_9 a0_10 a0_11 a0_12 l0_13 l0_14) false :=
  Ev.step (fun n => by rw [haberdashref10_Promo.j0, if_pos rfl]) (Ev.now _)
theorem j3_f (x3 x4 x5 x6 x7 x8 x9 : Bool) (a0_0 : ByteArray) (a0_1 : Int) (a0_2 : Int) (a0_3 : ByteArray) (a0_4 : ByteArray) (a0_5 : Bool) (l0_6 : List ByteArray) (l0_7 : List ByteArray) (a0_8 : Int) (a0_9 : Int) (a0_10 : Int) (a0_11 : Int) (a0_12 : Int) (l0_13 : List (S65)) (l0_14 : List (S67)) (h9 : x9 = rateOk a0_9) (hl13 : l0_13.length ≤ 9223372036854775807) (hl14 : l0_14.length ≤ 9223372036854775807) (hp : ∀ i, i < l0_13.length → fitP (rd_T65 l0_13 (i : Int))) :
    Ev (fun n => haberdashref10_Promo.j3 n x3 x4 x5 x6 x7 x8 x9 a0_0 a0_1 a0_2 a0_3 a0_4 a0_5 l0_6 l0_7 a0_8 a0_9 a0_10 a0_11 a0_12 l0_13 l0_14)
      (if a0_1 = 1 then x9 && (x4 && (x5 && (x6 && x7))) else if a0_1 = 2 then x3 && (amountOk a0_10 && (x5 && (x6 && x7)))
       else if a0_1 = 3 then x9 && (x4 && ((decide (1 ≤ a0_11) && (decide (a0_11 ≤ 100) && (decide (1 ≤ a0_12) && decide (a0_12 ≤ 100)))) && (x6 && x7)))
       else if a0_1 = 4 then x3 && ((decide (0 ≤ a0_10) && decide (a0_10 ≤ 10000000000000)) && (x5 && (partsOk l0_13 && (x7 && x8))))
       else if a0_1 = 7 then x9 && (x4 && (x5 && (x6 && (x7 && (x8 && !a0_5))))) else x3 && (x4 && (x5 && (x6 && tiersOk l0_14)))) := by
  refine Ev.step (fun n => by rw [haberdashref10_Promo.j3]) ?_
  by_cases h1 : a0_1 = 1
  · simp only [if_pos h1]
    exact test_ev fun _ => test_ev fun _ => test_ev fun _ => now_and _ _
  simp only [if_neg h1]
  by_cases h2 : a0_1 = 2
  · simp only [if_pos h2]
    unfold amountOk
    simp only [Bool.and_assoc]
    exact test_ev fun _ => testP_ev (c := a0_10 ≥ 1) fun _ => testP_ev (c := a0_10 ≤ 1000000000) fun _ => test_ev fun _ => now_and _ _
  simp only [if_neg h2]
  by_cases h3 : a0_1 = 3
  · simp only [if_pos h3, Bool.and_assoc]
    exact test_ev fun _ => test_ev fun _ => testP_ev (c := a0_11 ≥ 1) fun _ => testP_ev (c := a0_11 ≤ 100) fun _ => testP_ev (c := a0_12 ≥ 1) fun _ => testP_ev (c := a0_12 ≤ 100) fun _ => now_and _ _
  simp only [if_neg h3]
  by_cases h4 : a0_1 = 4
  · simp only [if_pos h4]
    refine test_ev fun _ => ?_
    rw [in_f]
    simp only [Option.bind_some]
    refine test_ev fun _ => test_ev fun _ => ?_
    exact Ev.bind (rparts_f l0_13 hl13 hp) (test_ev fun _ => now_and _ _)
  simp only [if_neg h4]
  by_cases h7 : a0_1 = 7
  · simp only [if_pos h7]
    exact test_ev fun _ => test_ev fun _ => test_ev fun _ => test_ev fun _ => test_ev fun _ => now_and _ _
  simp only [if_neg h7]
  exact test_ev fun _ => test_ev fun _ => test_ev fun _ => test_ev fun _ => Ev.bind (rtiers_f l0_14 hl14) (Ev.now _)
theorem j0f (a0_0 : ByteArray) (a0_1 : Int) (a0_2 : Int) (a0_3 : ByteArray) (a0_4 : ByteArray) (a0_5 : Bool) (l0_6 : List ByteArray) (l0_7 : List ByteArray) (a0_8 : Int) (a0_9 : Int) (a0_10 : Int) (a0_11 : Int) (a0_12 : Int) (l0_13 : List (S65)) (l0_14 : List (S67)) (hl13 : l0_13.length ≤ 9223372036854775807) (hl14 : l0_14.length ≤ 9223372036854775807) (hp : ∀ i, i < l0_13.length → fitP (rd_T65 l0_13 (i : Int))) :
    Ev (fun n => haberdashref10_Promo.j0 n false a0_0 a0_1 a0_2 a0_3 a0_4 a0_5 l0_6 l0_7 a0_8 a0_9 a0_10 a0_11 a0_12 l0_13 l0_14) (kindR a0_1 a0_5 l0_6.length l0_7.length a0_9 a0_10 a0_11 a0_12 l0_13 l0_14) := by
  have key : ∀ x5 : Bool, x5 = (a0_11 == 0 && a0_12 == 0) → Ev (fun n => haberdashref10_Promo.j1 n (a0_9 == 0) (a0_10 == 0) x5 ((l0_13.length : Int) == 0) ((l0_14.length : Int) == 0) a0_0 a0_1 a0_2 a0_3 a0_4 a0_5 l0_6 l0_7 a0_8 a0_9 a0_10 a0_11 a0_12 l0_13 l0_14) (kindR a0_1 a0_5 l0_6.length l0_7.length a0_9 a0_10 a0_11 a0_12 l0_13 l0_14) := by
    intro x5 hx5
    have key2 : ∀ x8 : Bool, x8 = (decide (l0_6.length = 0) && decide (l0_7.length = 0)) → Ev (fun n => haberdashref10_Promo.j2 n (a0_9 == 0) (a0_10 == 0) x5 ((l0_13.length : Int) == 0) ((l0_14.length : Int) == 0) x8 a0_0 a0_1 a0_2 a0_3 a0_4 a0_5 l0_6 l0_7 a0_8 a0_9 a0_10 a0_11 a0_12 l0_13 l0_14) (kindR a0_1 a0_5 l0_6.length l0_7.length a0_9 a0_10 a0_11 a0_12 l0_13 l0_14) := by
      intro x8 hx8
      refine Ev.step (fun n => by rw [haberdashref10_Promo.j2]) ?_
      have e : ∀ x9 : Bool, x9 = rateOk a0_9 → Ev (fun n => haberdashref10_Promo.j3 n (a0_9 == 0) (a0_10 == 0) x5 ((l0_13.length : Int) == 0) ((l0_14.length : Int) == 0) x8 x9 a0_0 a0_1 a0_2 a0_3 a0_4 a0_5 l0_6 l0_7 a0_8 a0_9 a0_10 a0_11 a0_12 l0_13 l0_14) (kindR a0_1 a0_5 l0_6.length l0_7.length a0_9 a0_10 a0_11 a0_12 l0_13 l0_14) := by
        intro x9 hx9
        refine ev_eq (j3_f _ _ _ _ _ _ _ a0_0 a0_1 a0_2 a0_3 a0_4 a0_5 l0_6 l0_7 a0_8 a0_9 a0_10 a0_11 a0_12 l0_13 l0_14 hx9 hl13 hl14 hp) ?_
        subst hx5
        subst hx8
        subst hx9
        rw [len0, len0]
        unfold kindR
        rfl
      by_cases h : a0_9 ≥ 1
      · simp only [if_pos h]
        exact e _ (by unfold rateOk; rw [decide_eq_true (show 1 ≤ a0_9 by omega), Bool.true_and])
      · simp only [if_neg h]
        exact e _ (by unfold rateOk; rw [decide_eq_false (show ¬ 1 ≤ a0_9 by omega), Bool.false_and])
    refine Ev.step (fun n => by rw [haberdashref10_Promo.j1]) ?_
    by_cases h : (l0_6.length : Int) = 0
    · simp only [if_pos h]
      exact key2 _ (by rw [len0, decide_eq_true (show l0_6.length = 0 by omega), Bool.true_and])
    · simp only [if_neg h]
      exact key2 _ (by rw [decide_eq_false (show ¬ l0_6.length = 0 by omega), Bool.false_and])
  refine Ev.step (fun n => by rw [haberdashref10_Promo.j0, if_neg (by simp)]) ?_
  by_cases h : a0_11 = 0
  · simp only [if_pos h]
    exact key _ (by simp [h])
  · simp only [if_neg h]
    exact key _ (by simp [h])
theorem opt_ev {s : ByteArray} (hs : s.size ≤ 9223372036854775807) {R E : Nat → Option Bool} {r : Bool} (hR : Ev R r) (hE : Ev E false) :
    Ev (fun n => if s.toList = ([] : List UInt8) then R n else (haberdashref10_Name.f n s).bind fun t => if t = true then R n else E n) (namedOk s && r) := by
  unfold namedOk
  by_cases h : s.toList = ([] : List UInt8)
  · simp only [if_pos h]
    rw [decide_eq_true h, Bool.true_or, Bool.true_and]
    exact hR
  · simp only [if_neg h]
    rw [decide_eq_false h, Bool.false_or]
    refine Ev.bind (rname_f s hs) ?_
    cases nameOk s with
    | true => simp only [if_true, Bool.true_and]; exact hR
    | false => simp only [Bool.false_eq_true, if_false, Bool.false_and]; exact hE
def refOk (a0_0 : ByteArray) (a0_1 : Int) (a0_2 : Int) (a0_3 : ByteArray) (a0_4 : ByteArray) (a0_5 : Bool) (l0_6 : List ByteArray) (l0_7 : List ByteArray) (a0_8 : Int) (a0_9 : Int) (a0_10 : Int) (a0_11 : Int) (a0_12 : Int) (l0_13 : List (S65)) (l0_14 : List (S67)) : Bool :=
  nameOk a0_0 && (decide (1 ≤ a0_1) && (decide (a0_1 ≤ 7) && (decide (0 ≤ a0_2) && (decide (a0_2 ≤ 1000) && (namedOk a0_3 && (namedOk a0_4 && (scopeOk l0_6 l0_7 && ((decide (0 ≤ a0_8) && decide (a0_8 ≤ 10000000000000)) && kindR a0_1 a0_5 l0_6.length l0_7.length a0_9 a0_10 a0_11 a0_12 l0_13 l0_14))))))))
theorem no_ev {c : Prop} [Decidable c] {d : Prop} [Decidable d] {R E : Nat → Option Bool} {r : Bool} (hd : d ↔ ¬ c) (hE : Ev E false) (hR : Ev R r) : Ev (fun n => if c then E n else R n) (decide d && r) := by
  by_cases h : c
  · simp only [if_pos h]
    rw [decide_eq_false (fun hh => hd.1 hh h), Bool.false_and]
    exact hE
  · simp only [if_neg h]
    rw [decide_eq_true (hd.2 h), Bool.true_and]
    exact hR
theorem rpromo_f (a0_0 : ByteArray) (a0_1 : Int) (a0_2 : Int) (a0_3 : ByteArray) (a0_4 : ByteArray) (a0_5 : Bool) (l0_6 : List ByteArray) (l0_7 : List ByteArray) (a0_8 : Int) (a0_9 : Int) (a0_10 : Int) (a0_11 : Int) (a0_12 : Int) (l0_13 : List (S65)) (l0_14 : List (S67)) (h0 : a0_0.size ≤ 9223372036854775807) (h3 : a0_3.size ≤ 9223372036854775807) (h4 : a0_4.size ≤ 9223372036854775807) (h6 : fitL l0_6) (h7 : fitL l0_7) (hl13 : l0_13.length ≤ 9223372036854775807) (hl14 : l0_14.length ≤ 9223372036854775807) (hp : ∀ i, i < l0_13.length → fitP (rd_T65 l0_13 (i : Int))) :
    Ev (fun n => haberdashref10_Promo.f n a0_0 a0_1 a0_2 a0_3 a0_4 a0_5 l0_6 l0_7 a0_8 a0_9 a0_10 a0_11 a0_12 l0_13 l0_14) (refOk a0_0 a0_1 a0_2 a0_3 a0_4 a0_5 l0_6 l0_7 a0_8 a0_9 a0_10 a0_11 a0_12 l0_13 l0_14) := by
  have hF := j0t a0_0 a0_1 a0_2 a0_3 a0_4 a0_5 l0_6 l0_7 a0_8 a0_9 a0_10 a0_11 a0_12 l0_13 l0_14
  have hK := j0f a0_0 a0_1 a0_2 a0_3 a0_4 a0_5 l0_6 l0_7 a0_8 a0_9 a0_10 a0_11 a0_12 l0_13 l0_14 hl13 hl14 hp
  have rest : Ev (fun n => (haberdashref10_Scope.f n l0_6 l0_7).bind fun t => (if t = true then ((haberdashref10_in.f a0_8 10000000000000).bind fun t2 => (haberdashref10_Promo.j0 n (!t2) a0_0 a0_1 a0_2 a0_3 a0_4 a0_5 l0_6 l0_7 a0_8 a0_9 a0_10 a0_11 a0_12 l0_13 l0_14)) else (haberdashref10_Promo.j0 n true a0_0 a0_1 a0_2 a0_3 a0_4 a0_5 l0_6 l0_7 a0_8 a0_9 a0_10 a0_11 a0_12 l0_13 l0_14))) (scopeOk l0_6 l0_7 && ((decide (0 ≤ a0_8) && decide (a0_8 ≤ 10000000000000)) && kindR a0_1 a0_5 l0_6.length l0_7.length a0_9 a0_10 a0_11 a0_12 l0_13 l0_14)) := by
    refine Ev.bind (rscope_f _ _ h6 h7) ?_
    cases scopeOk l0_6 l0_7 with
    | false => simp only [Bool.false_eq_true, if_false, Bool.false_and]; exact hF
    | true =>
      simp only [if_true, Bool.true_and]
      rw [in_f]
      simp only [Option.bind_some]
      cases decide (0 ≤ a0_8) && decide (a0_8 ≤ 10000000000000) with
      | false => simp only [Bool.not_false, Bool.false_and]; exact hF
      | true => simp only [Bool.not_true, Bool.true_and]; exact hK
  unfold haberdashref10_Promo.f refOk
  refine Ev.bind (rname_f a0_0 h0) ?_
  cases nameOk a0_0 with
  | false => simp only [Bool.false_eq_true, if_false, Bool.false_and]; exact hF
  | true =>
    simp only [if_true, Bool.true_and]
    refine no_ev (by omega) hF (no_ev (by omega) hF (no_ev (by omega) hF (no_ev (by omega) hF ?_)))
    exact opt_ev h3 (opt_ev h4 rest hF) hF
end Go.Proofs.Ytdmeepjefccpgaa.PP
