/- Taxes that may be, zones and rates: what the printed functions of rules and of the reference come to. Plain Lean. -/
import Derived.Test.YtgfhjamaabaleaaVNameP
import Derived.Test.YtgfhjamaabaleaaVRwRules
import Derived.Test.YtgfhjamaabaleaaVRwRulesZ
import Derived.Test.YtgfhjamaabaleaaVRwA
import Derived.Test.YtgfhjamaabaleaaVRwAb
set_option linter.unusedVariables false
namespace Go.Proofs.Ytgfhjamaabaleaa.XP
open Go Go.RowKit Go.Proofs.YtgfhjamaabaleaaW.PrintWords Go.Proofs.YtgfhjamaabaleaaW.PrintMore Go.Proofs.Ytgfhjamaabaleaa.Rw Go.Proofs.Ytgfhjamaabaleaa.EP Go.Proofs.Ytgfhjamaabaleaa.NP

abbrev CR := S39
abbrev Zn := S28
def zC : CR := z39
def zZ : Zn := z28
theorem rdC_d (l : List CR) (i : Nat) : rd_T39 l (i : Int) = l.getD i zC := by simp [rd_T39, zC]
theorem rdZ_d (l : List Zn) (i : Nat) : rd_T28 l (i : Int) = l.getD i zZ := by simp [rd_T28, zZ]

def rateOk (x : Int) : Bool := decide (0 ≤ x) && decide (x ≤ 10000)
theorem rate_f (x : Int) : rules_rate.f x = some (rateOk x) := by
  unfold rules_rate.f rateOk
  by_cases h : x ≥ 0
  · rw [if_pos h, show decide (0 ≤ x) = true from decide_eq_true h, Bool.true_and]
  · rw [if_neg h, show decide (0 ≤ x) = false from decide_eq_false h, Bool.false_and]
/-- Rates of categories that may be. -/
def ratesOk (l : List CR) : Bool := allTo (fun j => nameOk (l.getD j zC).f0 && rateOk (l.getD j zC).f1) l.length && rise (l.map (·.f0))
def zoneOk (z : Zn) : Bool := nameOk z.f0 && (rateOk z.f2 && (rateOk z.f3 && (decide (z.f1.length ≤ 40) && ratesOk z.f1)))
def taxOk (k : Int) (l : List Zn) : Bool := (decide (0 ≤ k) && decide (k ≤ 2)) && (decide (l.length ≤ 20) && (allTo (fun j => zoneOk (l.getD j zZ)) l.length && rise (l.map (·.f0))))
theorem zone_f (z : Zn) : Ev (fun k => rules_zone.f k z.f0 z.f1 z.f2 z.f3) (zoneOk z) := by
  unfold rules_zone.f zoneOk
  have bad : ∀ (a : ByteArray) (b : List CR) (c d : Int), Ev (fun k => rules_zone.j0 k true a b c d) false := fun a b c d => Ev.step (fun k => by rw [rules_zone.j0, if_pos rfl]) (Ev.now _)
  refine Ev.bind (name_f z.f0) ?_
  cases nameOk z.f0 with
  | false => exact bad _ _ _ _
  | true =>
    rw [rate_f, rate_f]
    simp only [if_true, Option.bind_some, Bool.true_and]
    cases rateOk z.f2 with
    | false => exact bad _ _ _ _
    | true =>
      simp only [if_true, Bool.true_and]
      cases rateOk z.f3 with
      | false => exact bad _ _ _ _
      | true =>
        simp only [if_true, Bool.true_and]
        by_cases hl : (z.f1.length : Int) > 40
        · rw [decide_eq_true hl, show decide (z.f1.length ≤ 40) = false from decide_eq_false (by omega), Bool.false_and]
          exact bad _ _ _ _
        · rw [decide_eq_false hl, show decide (z.f1.length ≤ 40) = true from decide_eq_true (by omega), Bool.true_and]
          refine Ev.step (fun k => by rw [rules_zone.j0, if_neg (by simp)]) ?_
          have h40 : z.f1.length ≤ 40 := by omega
          unfold ratesOk
          generalize z.f1 = l at h40
          have := scan_ev (F := fun k i => rules_zone.l0 k ((l.take i).map (·.f0)) l l.length (i : Int)) (n := l.length) (p := fun j => nameOk (l.getD j zC).f0 && rateOk (l.getD j zC).f1) (e := rise (l.map (·.f0)))
            (Ev.step (fun k => by rw [rules_zone.l0, if_neg (by omega), List.take_length]) (Ev.bind (rise_f _ (by simp; omega)) (Ev.now _)))
            (fun i hi hp r hr => by
              have hp2 := Bool.and_eq_true_iff.1 hp
              refine Ev.step (fun k => by rw [rules_zone.l0, if_pos (by omega), if_pos (by omega), if_pos (by omega), rdC_d]) ?_
              refine Ev.bind (name_f _) ?_
              rw [rate_f, hp2.1, hp2.2]
              simp only [if_true, Option.bind_some]
              have hc : ((l.take i).map (·.f0)).length < 8796093022208 := by rw [List.length_map, List.length_take]; omega
              have e : (l.take i).map (·.f0) ++ [(l.getD i zC).f0] = (l.take (i + 1)).map (·.f0) := by
                rw [List.take_succ_eq_append_getElem hi, List.map_append]; simp [hi]
              simp only [if_pos hc, next i (by omega), e]
              exact hr)
            (fun i hi hp => by
              refine Ev.step (fun k => by rw [rules_zone.l0, if_pos (by omega), if_pos (by omega), if_pos (by omega), rdC_d]) ?_
              refine Ev.bind (name_f _) ?_
              cases h1 : nameOk (l.getD i zC).f0 with
              | false => exact Ev.now _
              | true =>
                rw [h1, Bool.true_and] at hp
                rw [rate_f, hp]
                exact Ev.now _)
          simpa using this
theorem tax_f (i o : Bool) (k : Int) (l : List Zn) : Ev (fun n => rules_Tax.f n i o k l) (taxOk k l) := by
  unfold rules_Tax.f taxOk
  have bad : ∀ (a b : Bool) (c : Int) (d : List Zn), Ev (fun k => rules_Tax.j0 k true a b c d) false := fun a b c d => Ev.step (fun k => by rw [rules_Tax.j0, if_pos rfl]) (Ev.now _)
  by_cases h1 : k < 0
  · simp only [if_pos h1]
    rw [show decide (0 ≤ k) = false from decide_eq_false (by omega), Bool.false_and, Bool.false_and]
    exact bad _ _ _ _
  simp only [if_neg h1]
  by_cases h2 : k > 2
  · simp only [if_pos h2]
    rw [show decide (k ≤ 2) = false from decide_eq_false (by omega), Bool.and_false, Bool.false_and]
    exact bad _ _ _ _
  simp only [if_neg h2]
  rw [show decide (0 ≤ k) = true from decide_eq_true (by omega), show decide (k ≤ 2) = true from decide_eq_true (by omega), Bool.true_and, Bool.true_and]
  by_cases hl : (l.length : Int) > 20
  · rw [decide_eq_true hl, show decide (l.length ≤ 20) = false from decide_eq_false (by omega), Bool.false_and]
    exact bad _ _ _ _
  rw [decide_eq_false hl, show decide (l.length ≤ 20) = true from decide_eq_true (by omega), Bool.true_and]
  refine Ev.step (fun k => by rw [rules_Tax.j0, if_neg (by simp)]) ?_
  have h40 : l.length ≤ 20 := by omega
  have := scan_ev (F := fun k i => rules_Tax.l0 k ((l.take i).map (·.f0)) l l.length (i : Int)) (n := l.length) (p := fun j => zoneOk (l.getD j zZ)) (e := rise (l.map (·.f0)))
    (Ev.step (fun k => by rw [rules_Tax.l0, if_neg (by omega), List.take_length]) (Ev.bind (rise_f _ (by simp; omega)) (Ev.now _)))
    (fun i hi hp r hr => by
      refine Ev.step (fun k => by rw [rules_Tax.l0, if_pos (by omega), if_pos (by omega), if_pos (by omega), rdZ_d]) ?_
      refine Ev.bind (zone_f _) ?_
      rw [hp]
      simp only [if_true]
      have hc : ((l.take i).map (·.f0)).length < 8796093022208 := by rw [List.length_map, List.length_take]; omega
      have e : (l.take i).map (·.f0) ++ [(l.getD i zZ).f0] = (l.take (i + 1)).map (·.f0) := by
        rw [List.take_succ_eq_append_getElem hi, List.map_append]; simp [hi]
      simp only [if_pos hc, next i (by omega), e]
      exact hr)
    (fun i hi hp => by
      refine Ev.step (fun k => by rw [rules_Tax.l0, if_pos (by omega), if_pos (by omega), if_pos (by omega), rdZ_d]) ?_
      refine Ev.bind (zone_f _) ?_
      rw [hp]
      exact Ev.now _)
  simpa using this

end Go.Proofs.Ytgfhjamaabaleaa.XP
