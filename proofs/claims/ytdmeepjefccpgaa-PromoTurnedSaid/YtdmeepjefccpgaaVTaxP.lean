/- Taxes that may be, zones and rates: what the printed functions of rules and of the reference come to. Plain Lean. -/
import Derived.Test.YtdmeepjefccpgaaVNameP
import Derived.Test.YtdmeepjefccpgaaVRwRules
import Derived.Test.YtdmeepjefccpgaaVRwA
-- 17
set_option linter.unusedVariables false
namespace Go.Proofs.Ytdmeepjefccpgaa.XP
open Go Go.RowKit Go.Proofs.YtdmeepjefccpgaaW.PrintWords Go.Proofs.YtdmeepjefccpgaaW.PrintMore Go.Proofs.Ytdmeepjefccpgaa.Rw Go.Proofs.Ytdmeepjefccpgaa.EP Go.Proofs.Ytdmeepjefccpgaa.NP

abbrev CR := S52
abbrev Zn := S41
def zC : CR := z52
def zZ : Zn := z41
theorem rdC_of (l : List CR) (i : Nat) (h : i < l.length) : rd_T52 l (i : Int) = l[i] := by simp [rd_T52, h]
theorem rdC_d (l : List CR) (i : Nat) : rd_T52 l (i : Int) = l.getD i zC := by simp [rd_T52, zC]
theorem rdZ_of (l : List Zn) (i : Nat) (h : i < l.length) : rd_T41 l (i : Int) = l[i] := by simp [rd_T41, h]
theorem rdZ_d (l : List Zn) (i : Nat) : rd_T41 l (i : Int) = l.getD i zZ := by simp [rd_T41, zZ]

def rateOk (x : Int) : Bool := decide (0 ≤ x) && decide (x ≤ 10000)
theorem rate_f (x : Int) : rules_rate.f x = some (rateOk x) := by
  unfold rules_rate.f rateOk
  by_cases h : x ≥ 0
  · rw [if_pos h, show decide (0 ≤ x) = true from decide_eq_true h, Bool.true_and]
  · rw [if_neg h, show decide (0 ≤ x) = false from decide_eq_false h, Bool.false_and]
/-- Rates of categories that may be. -/
def ratesOk (l : List CR) : Bool := allTo (fun j => nameOk (l.getD j zC).f0 && rateOk (l.getD j zC).f1) l.length && rise (l.map (·.f0))
def zoneOk (z : Zn) : Bool := nameOk z.f0 && (rateOk z.f2 && (rateOk z.f3 && (decide (z.f1.length ≤ 40) && ratesOk z.f1)))
def taxOk (k : Int) (l : List Zn) : Bool := (decide (0 ≤ k) && decide (k ≤ 2)) && (decide (l.length ≤ 20) && (allTo (fun j => zoneOk (l.getD j zZ)) l.length && rise (l.map (·.f0))))
theorem zone_f (z : Zn) : Ev (fun k => rules_zone.f k z.f0 z.f1 z.f2 z.f3) (zoneOk z) := by
  unfold rules_zone.f zoneOk
  have bad : ∀ (a : ByteArray) (b : List CR) (c d : Int), Ev (fun k => rules_zone.j0 k true a b c d) false := fun a b c d => Ev.step (fun k => by rw [rules_zone.j0, if_pos rfl]) (Ev.now _)
  refine Ev.bind (name_f z.f0) ?_
  cases nameOk z.f0 with
  | false => exact bad _ _ _ _
  | true =>
    rw [rate_f, rate_f]
    simp only [if_true, Option.bind_some, Bool.true_and]
    cases rateOk z.f2 with
    | false => exact bad _ _ _ _
    | true =>
      simp only [if_true, Bool.true_and]
      cases rateOk z.f3 with
      | false => exact bad _ _ _ _
      | true =>
        simp only [if_true, Bool.true_and]
        by_cases hl : (z.f1.length : Int) > 40
        · rw [decide_eq_true hl, show decide (z.f1.length ≤ 40) = false from decide_eq_false (by omega), Bool.false_and]
          exact bad _ _ _ _
        · rw [decide_eq_false hl, show decide (z.f1.length ≤ 40) = true from decide_eq_true (by omega), Bool.true_and]
          refine Ev.step (fun k => by rw [rules_zone.j0, if_neg (by simp)]) ?_
          have h40 : z.f1.length ≤ 40 := by omega
          unfold ratesOk
          generalize z.f1 = l at h40
          have := scan_ev (F := fun k i => rules_zone.l0 k ((l.take i).map (·.f0)) l l.length (i : Int)) (n := l.length) (p := fun j => nameOk (l.getD j zC).f0 && rateOk (l.getD j zC).f1) (e := rise (l.map (·.f0)))
            (Ev.step (fun k => by rw [rules_zone.l0, if_neg (by omega), List.take_length]) (Ev.bind (rise_f _ (by simp; omega)) (Ev.now _)))
            (fun i hi hp r hr => by
              have hp2 := Bool.and_eq_true_iff.1 hp
              refine Ev.step (fun k => by rw [rules_zone.l0, if_pos (by omega), if_pos (by omega), if_pos (by omega), rdC_d]) ?_
              refine Ev.bind (name_f _) ?_
              rw [rate_f, hp2.1, hp2.2]
              simp only [if_true, Option.bind_some]
              have hc : ((l.take i).map (·.f0)).length < 8796093022208 := by rw [List.length_map, List.length_take]; omega
              have e : (l.take i).map (·.f0) ++ [(l.getD i zC).f0] = (l.take (i + 1)).map (·.f0) := by
                rw [List.take_succ_eq_append_getElem hi, List.map_append]; simp [hi]
              simp only [if_pos hc, next i (by omega), e]
              exact hr)
            (fun i hi hp => by
              refine Ev.step (fun k => by rw [rules_zone.l0, if_pos (by omega), if_pos (by omega), if_pos (by omega), rdC_d]) ?_
              refine Ev.bind (name_f _) ?_
              cases h1 : nameOk (l.getD i zC).f0 with
              | false => exact Ev.now _
              | true =>
                rw [h1, Bool.true_and] at hp
                rw [rate_f, hp]
                exact Ev.now _)
          simpa using this
theorem tax_f (i o : Bool) (k : Int) (l : List Zn) : Ev (fun n => rules_Tax.f n i o k l) (taxOk k l) := by
  unfold rules_Tax.f taxOk
  have bad : ∀ (a b : Bool) (c : Int) (d : List Zn), Ev (fun k => rules_Tax.j0 k true a b c d) false := fun a b c d => Ev.step (fun k => by rw [rules_Tax.j0, if_pos rfl]) (Ev.now _)
  by_cases h1 : k < 0
  · simp only [if_pos h1]
    rw [show decide (0 ≤ k) = false from decide_eq_false (by omega), Bool.false_and, Bool.false_and]
    exact bad _ _ _ _
  simp only [if_neg h1]
  by_cases h2 : k > 2
  · simp only [if_pos h2]
    rw [show decide (k ≤ 2) = false from decide_eq_false (by omega), Bool.and_false, Bool.false_and]
    exact bad _ _ _ _
  simp only [if_neg h2]
  rw [show decide (0 ≤ k) = true from decide_eq_true (by omega), show decide (k ≤ 2) = true from decide_eq_true (by omega), Bool.true_and, Bool.true_and]
  by_cases hl : (l.length : Int) > 20
  · rw [decide_eq_true hl, show decide (l.length ≤ 20) = false from decide_eq_false (by omega), Bool.false_and]
    exact bad _ _ _ _
  rw [decide_eq_false hl, show decide (l.length ≤ 20) = true from decide_eq_true (by omega), Bool.true_and]
  refine Ev.step (fun k => by rw [rules_Tax.j0, if_neg (by simp)]) ?_
  have h40 : l.length ≤ 20 := by omega
  have := scan_ev (F := fun k i => rules_Tax.l0 k ((l.take i).map (·.f0)) l l.length (i : Int)) (n := l.length) (p := fun j => zoneOk (l.getD j zZ)) (e := rise (l.map (·.f0)))
    (Ev.step (fun k => by rw [rules_Tax.l0, if_neg (by omega), List.take_length]) (Ev.bind (rise_f _ (by simp; omega)) (Ev.now _)))
    (fun i hi hp r hr => by
      refine Ev.step (fun k => by rw [rules_Tax.l0, if_pos (by omega), if_pos (by omega), if_pos (by omega), rdZ_d]) ?_
      refine Ev.bind (zone_f _) ?_
      rw [hp]
      simp only [if_true]
      have hc : ((l.take i).map (·.f0)).length < 8796093022208 := by rw [List.length_map, List.length_take]; omega
      have e : (l.take i).map (·.f0) ++ [(l.getD i zZ).f0] = (l.take (i + 1)).map (·.f0) := by
        rw [List.take_succ_eq_append_getElem hi, List.map_append]; simp [hi]
      simp only [if_pos hc, next i (by omega), e]
      exact hr)
    (fun i hi hp => by
      refine Ev.step (fun k => by rw [rules_Tax.l0, if_pos (by omega), if_pos (by omega), if_pos (by omega), rdZ_d]) ?_
      refine Ev.bind (zone_f _) ?_
      rw [hp]
      exact Ev.now _)
  simpa using this

/-- Names that are not too long to be walked. -/
def few (l : List Zn) : Prop := l.length ≤ 9223372036854775807 ∧ ∀ z ∈ l, z.f0.size ≤ 9223372036854775807 ∧ z.f1.length ≤ 9223372036854775807 ∧ ∀ c ∈ z.f1, c.f0.size ≤ 9223372036854775807
-- 17
theorem upC_if (l : List CR) (i : Nat) (A : Option Bool) (hi : i < l.length) (hl : l.length ≤ 9223372036854775807) : (if (i : Int) > 0 then (if 0 ≤ (wrap64 ((i : Int) - 1)) then (if (wrap64 ((i : Int) - 1)) < (l.length : Int) then (if ((Op.bytesLess (((rd_T52 l (wrap64 ((i : Int) - 1))).f0).toList) (((rd_T52 l (i : Int)).f0).toList)) = true) then A else (some false)) else (none)) else (none)) else A) = if upAt (l.map (·.f0)) i = true then A else some false := by
  rcases Nat.eq_zero_or_pos i with rfl | h
  · rw [if_neg (by omega), if_pos (by simp [upAt])]
  · have hw : wrap64 ((i : Int) - 1) = ((i - 1 : Nat) : Int) := by rw [wrap_ok (by omega) (by omega)]; omega
    rw [if_pos (by omega), hw, if_pos (by omega), if_pos (by omega), rdC_of l i hi, rdC_of l (i - 1) (by omega)]
    have : upAt (l.map (·.f0)) i = Op.bytesLess (l[i - 1].f0).toList (l[i].f0).toList := by
      unfold upAt
      rw [decide_eq_false (by omega), Bool.false_or]
      simp [hi, show i - 1 < l.length by omega]
    rw [this]
theorem upZ_if (l : List Zn) (i : Nat) (A : Option Bool) (hi : i < l.length) (hl : l.length ≤ 9223372036854775807) : (if (i : Int) > 0 then (if 0 ≤ (wrap64 ((i : Int) - 1)) then (if (wrap64 ((i : Int) - 1)) < (l.length : Int) then (if ((Op.bytesLess (((rd_T41 l (wrap64 ((i : Int) - 1))).f0).toList) (((rd_T41 l (i : Int)).f0).toList)) = true) then A else (some false)) else (none)) else (none)) else A) = if upAt (l.map (·.f0)) i = true then A else some false := by
  rcases Nat.eq_zero_or_pos i with rfl | h
  · rw [if_neg (by omega), if_pos (by simp [upAt])]
  · have hw : wrap64 ((i : Int) - 1) = ((i - 1 : Nat) : Int) := by rw [wrap_ok (by omega) (by omega)]; omega
    rw [if_pos (by omega), hw, if_pos (by omega), if_pos (by omega), rdZ_of l i hi, rdZ_of l (i - 1) (by omega)]
    have : upAt (l.map (·.f0)) i = Op.bytesLess (l[i - 1].f0).toList (l[i].f0).toList := by
      unfold upAt
      rw [decide_eq_false (by omega), Bool.false_or]
      simp [hi, show i - 1 < l.length by omega]
    rw [this]
theorem getD_mem {α : Type} {l : List α} {i : Nat} {d : α} (h : i < l.length) : l.getD i d ∈ l := by
  rw [List.getD_eq_getElem?_getD, List.getElem?_eq_getElem h]
  exact List.getElem_mem h
-- 17
theorem rrates_f (z : Zn) (hl : z.f1.length ≤ 9223372036854775807) (hs : ∀ c ∈ z.f1, c.f0.size ≤ 9223372036854775807) : Ev (fun k => haberdashref10_rates.f k z.f0 z.f1 z.f2 z.f3) (rateOk z.f2 && (rateOk z.f3 && (decide (z.f1.length ≤ 40) && ratesOk z.f1))) := by
  obtain ⟨a, l, b, c⟩ := z
  have hl : l.length ≤ 9223372036854775807 := hl
  have hs : ∀ c ∈ l, c.f0.size ≤ 9223372036854775807 := hs
  have := scan_ev (F := fun k i => haberdashref10_rates.l0 k (i : Int) a l b c) (n := l.length) (p := fun j => (nameOk (l.getD j zC).f0 && rateOk (l.getD j zC).f1) && upAt (l.map (·.f0)) j) (e := decide (l.length ≤ 40) && (rateOk b && rateOk c))
    (Ev.step (f := fun _ => some (decide (l.length ≤ 40) && (rateOk b && rateOk c))) (fun k => by
      rw [haberdashref10_rates.l0, if_neg (by omega)]
      by_cases h : (l.length : Int) ≤ 40
      · rw [if_pos h, in_f, in_f, show decide (l.length ≤ 40) = true from decide_eq_true (by omega), Bool.true_and]
        simp only [Option.bind_some]
        unfold rateOk
        cases decide (0 ≤ b) && decide (b ≤ 10000) <;> simp
      · rw [if_neg h, show decide (l.length ≤ 40) = false from decide_eq_false (by omega), Bool.false_and]) (Ev.now _))
    (fun i hi hp r hr => by
      have hp1 := Bool.and_eq_true_iff.1 hp
      have hp2 := Bool.and_eq_true_iff.1 hp1.1
      refine Ev.step (fun k => by rw [haberdashref10_rates.l0, if_pos (by omega), if_pos (by omega), upC_if l i _ hi hl, if_pos hp1.2, next i (by omega), rdC_d]) ?_
      refine Ev.bind (rname_f _ (hs _ (getD_mem hi))) ?_
      rw [hp2.1, in_f]
      simp only [if_true, Option.bind_some]
      rw [show (decide (0 ≤ (l.getD i zC).f1) && decide ((l.getD i zC).f1 ≤ 10000)) = true from hp2.2]
      simp only [if_true]
      exact hr)
    (fun i hi hp => by
      refine Ev.step (fun k => by rw [haberdashref10_rates.l0, if_pos (by omega), if_pos (by omega), upC_if l i _ hi hl, rdC_d]) ?_
      refine Ev.bind (rname_f _ (hs _ (getD_mem hi))) ?_
      cases h1 : nameOk (l.getD i zC).f0 with
      | false => exact Ev.now _
      | true =>
        rw [in_f]
        simp only [if_true, Option.bind_some]
        have hp : (rateOk (l.getD i zC).f1 && upAt (l.map (·.f0)) i) = false := by rw [h1, Bool.true_and] at hp; exact hp
        unfold rateOk at hp
        cases h2 : decide (0 ≤ (l.getD i zC).f1) && decide ((l.getD i zC).f1 ≤ 10000) with
        | false => exact Ev.now _
        | true =>
          rw [h2, Bool.true_and] at hp
          simp only [if_true, hp, Bool.false_eq_true, if_false]
          exact Ev.now _)
  refine ev_eq this ?_
  rw [allTo_and]
  show _ = (rateOk b && (rateOk c && (decide (l.length ≤ 40) && ratesOk l)))
  unfold ratesOk rise
  rw [List.length_map]
  cases rateOk b <;> cases rateOk c <;> cases decide (l.length ≤ 40) <;> simp
theorem rtax_f (i o : Bool) (k : Int) (l : List Zn) (hf : few l) : Ev (fun n => haberdashref10_Tax.f n i o k l) (taxOk k l) := by
  have hl := hf.1
  have := scan_ev (F := fun n j => haberdashref10_Tax.l0 n (j : Int) i o k l) (n := l.length) (p := fun j => zoneOk (l.getD j zZ) && upAt (l.map (·.f0)) j) (e := decide (l.length ≤ 20) && (decide (0 ≤ k) && decide (k ≤ 2)))
    (Ev.step (f := fun _ => some (decide (l.length ≤ 20) && (decide (0 ≤ k) && decide (k ≤ 2)))) (fun n => by
      rw [haberdashref10_Tax.l0, if_neg (by omega)]
      by_cases h : (l.length : Int) ≤ 20
      · rw [if_pos h, show decide (l.length ≤ 20) = true from decide_eq_true (by omega), Bool.true_and]
        by_cases h2 : k ≥ 0
        · rw [if_pos h2, show decide (0 ≤ k) = true from decide_eq_true h2, Bool.true_and]
        · rw [if_neg h2, show decide (0 ≤ k) = false from decide_eq_false h2, Bool.false_and]
      · rw [if_neg h, show decide (l.length ≤ 20) = false from decide_eq_false (by omega), Bool.false_and]) (Ev.now _))
    (fun j hj hp r hr => by
      have hz := hf.2 _ (getD_mem (d := zZ) hj)
      have hp1 := Bool.and_eq_true_iff.1 hp
      have hp2 := Bool.and_eq_true_iff.1 hp1.1
      refine Ev.step (fun n => by rw [haberdashref10_Tax.l0, if_pos (by omega), if_pos (by omega), upZ_if l j _ hj hl, if_pos hp1.2, next j (by omega), rdZ_d]) ?_
      refine Ev.bind (rname_f _ hz.1) ?_
      rw [hp2.1]
      simp only [if_true]
      refine Ev.bind (rrates_f _ hz.2.1 hz.2.2) ?_
      rw [hp2.2]
      simp only [if_true]
      exact hr)
    (fun j hj hp => by
      have hz := hf.2 _ (getD_mem (d := zZ) hj)
      refine Ev.step (fun n => by rw [haberdashref10_Tax.l0, if_pos (by omega), if_pos (by omega), upZ_if l j _ hj hl, rdZ_d]) ?_
      refine Ev.bind (rname_f _ hz.1) ?_
      unfold zoneOk at hp
      cases h1 : nameOk (l.getD j zZ).f0 with
      | false => exact Ev.now _
      | true =>
        rw [h1, Bool.true_and] at hp
        simp only [if_true]
        refine Ev.bind (rrates_f _ hz.2.1 hz.2.2) ?_
        cases h2 : (rateOk (l.getD j zZ).f2 && (rateOk (l.getD j zZ).f3 && (decide ((l.getD j zZ).f1.length ≤ 40) && ratesOk (l.getD j zZ).f1))) with
        | false => exact Ev.now _
        | true =>
          rw [h2, Bool.true_and] at hp
          simp only [if_true, hp, Bool.false_eq_true, if_false]
          exact Ev.now _)
  refine ev_eq this ?_
  rw [allTo_and]
  unfold taxOk rise
  rw [List.length_map]
  cases decide (0 ≤ k) <;> cases decide (k ≤ 2) <;> cases decide (l.length ≤ 20) <;> simp

end Go.Proofs.Ytdmeepjefccpgaa.XP
