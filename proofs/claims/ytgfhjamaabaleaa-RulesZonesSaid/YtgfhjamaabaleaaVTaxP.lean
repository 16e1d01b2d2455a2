/- Taxes that may be, zones and rates: what the printed functions of rules and of the reference come to. Plain Lean. -/
import Derived.Test.YtgfhjamaabaleaaVNameP
import Derived.Test.YtgfhjamaabaleaaVRwRules
import Derived.Test.YtgfhjamaabaleaaVRwRulesZ
import Derived.Test.YtgfhjamaabaleaaVRwRef10z
set_option linter.unusedVariables false
namespace Go.Proofs.Ytgfhjamaabaleaa.XP
open Go Go.RowKit Go.Proofs.YtgfhjamaabaleaaW.PrintWords Go.Proofs.YtgfhjamaabaleaaW.PrintMore Go.Proofs.Ytgfhjamaabaleaa.Rw Go.Proofs.Ytgfhjamaabaleaa.EP Go.Proofs.Ytgfhjamaabaleaa.NP

abbrev CR := S39
abbrev Zn := S28
def zC : CR := z39
def zZ : Zn := z28
theorem rdC_d (l : List CR) (i : Nat) : rd_T39 l (i : Int) = l.getD i zC := by simp [rd_T39, zC]
theorem rdZ_of (l : List Zn) (i : Nat) (h : i < l.length) : rd_T28 l (i : Int) = l[i] := by simp [rd_T28, h]
theorem rdZ_d (l : List Zn) (i : Nat) : rd_T28 l (i : Int) = l.getD i zZ := by simp [rd_T28, zZ]

def rateOk (x : Int) : Bool := decide (0 ≤ x) && decide (x ≤ 10000)
theorem rateOk_iff {x : Int} : rateOk x = true ↔ 0 ≤ x ∧ x ≤ 10000 := by simp [rateOk]
theorem rate_f (x : Int) : rules_rate.f x = some (rateOk x) := by
  unfold rules_rate.f rateOk
  by_cases h : x ≥ 0
  · rw [if_pos h, show decide (0 ≤ x) = true from decide_eq_true h, Bool.true_and]
  · rw [if_neg h, show decide (0 ≤ x) = false from decide_eq_false h, Bool.false_and]
/-- Rates of categories that may be. -/
def ratesOk (l : List CR) : Bool := allTo (fun j => nameOk (l.getD j zC).f0 && rateOk (l.getD j zC).f1) l.length && rise (l.map (·.f0))
def zoneOk (z : Zn) : Bool := nameOk z.f0 && (rateOk z.f2 && (rateOk z.f3 && (decide (z.f1.length ≤ 40) && ratesOk z.f1)))
def taxOk (k : Int) (l : List Zn) : Bool := (decide (0 ≤ k) && decide (k ≤ 2)) && (decide (l.length ≤ 20) && (allTo (fun j => zoneOk (l.getD j zZ)) l.length && rise (l.map (·.f0))))
theorem zone_f (z : Zn) : Ev (fun k => rules_zone.f k z.f0 z.f1 z.f2 z.f3) (zoneOk z) := by
  unfold rules_zone.f zoneOk
  have bad : ∀ (a : ByteArray) (b : List CR) (c d : Int), Ev (fun k => rules_zone.j0 k true a b c d) false := fun a b c d => Ev.step (fun k => by rw [rules_zone.j0, if_pos rfl]) (Ev.now _)
  refine Ev.bind (name_f z.f0) ?_
  cases nameOk z.f0 with
  | false => exact bad _ _ _ _
  | true =>
    rw [rate_f, rate_f]
    simp only [if_true, Option.bind_some, Bool.true_and]
    cases rateOk z.f2 with
    | false => exact bad _ _ _ _
    | true =>
      simp only [if_true, Bool.true_and]
      cases rateOk z.f3 with
      | false => exact bad _ _ _ _
      | true =>
        simp only [if_true, Bool.true_and]
        by_cases hl : (z.f1.length : Int) > 40
        · rw [decide_eq_true hl, show decide (z.f1.length ≤ 40) = false from decide_eq_false (by omega), Bool.false_and]
          exact bad _ _ _ _
        · rw [decide_eq_false hl, show decide (z.f1.length ≤ 40) = true from decide_eq_true (by omega), Bool.true_and]
          refine Ev.step (fun k => by rw [rules_zone.j0, if_neg (by simp)]) ?_
          have h40 : z.f1.length ≤ 40 := by omega
          unfold ratesOk
          generalize z.f1 = l at h40
          have := scan_ev (F := fun k i => rules_zone.l0 k ((l.take i).map (·.f0)) l l.length (i : Int)) (n := l.length) (p := fun j => nameOk (l.getD j zC).f0 && rateOk (l.getD j zC).f1) (e := rise (l.map (·.f0)))
            (Ev.step (fun k => by rw [rules_zone.l0, if_neg (by omega), List.take_length]) (Ev.bind (rise_f _ (by simp; omega)) (Ev.now _)))
            (fun i hi hp r hr => by
              have hp2 := Bool.and_eq_true_iff.1 hp
              refine Ev.step (fun k => by rw [rules_zone.l0, if_pos (by omega), if_pos (by omega), if_pos (by omega), rdC_d]) ?_
              refine Ev.bind (name_f _) ?_
              rw [rate_f, hp2.1, hp2.2]
              simp only [if_true, Option.bind_some]
              have hc : ((l.take i).map (·.f0)).length < 8796093022208 := by rw [List.length_map, List.length_take]; omega
              have e : (l.take i).map (·.f0) ++ [(l.getD i zC).f0] = (l.take (i + 1)).map (·.f0) := by
                rw [List.take_succ_eq_append_getElem hi, List.map_append]; simp [hi]
              simp only [if_pos hc, next i (by omega), e]
              exact hr)
            (fun i hi hp => by
              refine Ev.step (fun k => by rw [rules_zone.l0, if_pos (by omega), if_pos (by omega), if_pos (by omega), rdC_d]) ?_
              refine Ev.bind (name_f _) ?_
              cases h1 : nameOk (l.getD i zC).f0 with
              | false => exact Ev.now _
              | true =>
                rw [h1, Bool.true_and] at hp
                rw [rate_f, hp]
                exact Ev.now _)
          simpa using this
theorem getD_mem {α : Type} {l : List α} {i : Nat} {d : α} (h : i < l.length) : l.getD i d ∈ l := by
  rw [List.getD_eq_getElem?_getD, List.getElem?_eq_getElem h]
  exact List.getElem_mem h
/-- The first zone of a name. -/
def zoneAt (l : List Zn) (s : ByteArray) : Option Zn := (List.range l.length).find? (fun j => decide (((l.getD j zZ).f0).toList = s.toList)) |>.map fun j => l.getD j zZ
def zoneT : Option Zn → ByteArray × List CR × Int × Int × Bool
  | some z => (z.f0, z.f1, z.f2, z.f3, true)
  | none => ((⟨#[]⟩ : ByteArray), [], 0, 0, false)
theorem zoneAt_f (i o : Bool) (k : Int) (l : List Zn) (s : ByteArray) (hl : l.length ≤ 9223372036854775807) (hr : ∀ z ∈ l, z.f1.length < 5864062014805) : Ev (fun n => rules_Zone.f n i o k l s) (zoneT (zoneAt l s)) := by
  have := first_ev (F := fun n j => rules_Zone.l0 n s l l.length (j : Int)) (n := l.length) (p := fun j => decide (((l.getD j zZ).f0).toList = s.toList)) (v := fun j => zoneT (some (l.getD j zZ))) (e := zoneT none)
    (Ev.step (f := fun _ => some (zoneT none)) (fun n => by rw [rules_Zone.l0, if_neg (by omega)]; rfl) (Ev.now _))
    (fun j hj hp => Ev.step (f := fun _ => some (zoneT (some (l.getD j zZ)))) (fun n => by
      rw [rules_Zone.l0, if_pos (by omega), if_pos (by omega), if_pos (by omega), rdZ_d, if_pos (of_decide_eq_true hp)]
      have h := hr _ (getD_mem (d := zZ) hj)
      unfold rules_cloneZone.f api_CatRate_41.f
      simp only [Option.bind_some, List.nil_append, List.length_nil, Nat.zero_add]
      rw [if_pos h]
      rfl) (Ev.now _))
    (fun j hj hp r hr2 => Ev.step (fun n => by rw [rules_Zone.l0, if_pos (by omega), if_pos (by omega), if_pos (by omega), rdZ_d, if_neg (of_decide_eq_false hp), next j (by omega)]) hr2)
  refine ev_eq this ?_
  unfold zoneAt
  generalize (List.range l.length).find? (fun j => decide (((l.getD j zZ).f0).toList = s.toList)) = o
  cases o <;> rfl
theorem rzoneAt_f (i o : Bool) (k : Int) (l : List Zn) (s : ByteArray) (hl : l.length ≤ 9223372036854775807) : Ev (fun n => haberdashref10_Zone.f n i o k l s) (zoneT (zoneAt l s)) := by
  have := first_ev (F := fun n j => haberdashref10_Zone.l0 n s (j : Int) i o k l) (n := l.length) (p := fun j => decide (((l.getD j zZ).f0).toList = s.toList)) (v := fun j => zoneT (some (l.getD j zZ))) (e := zoneT none)
    (Ev.step (f := fun _ => some (zoneT none)) (fun n => by rw [haberdashref10_Zone.l0, if_neg (by omega)]; rfl) (Ev.now _))
    (fun j hj hp => Ev.step (f := fun _ => some (zoneT (some (l.getD j zZ)))) (fun n => by
      rw [haberdashref10_Zone.l0, if_pos (by omega), if_pos (by omega), rdZ_d, if_pos (of_decide_eq_true hp)]
      rfl) (Ev.now _))
    (fun j hj hp r hr2 => Ev.step (fun n => by rw [haberdashref10_Zone.l0, if_pos (by omega), if_pos (by omega), rdZ_d, if_neg (of_decide_eq_false hp), next j (by omega)]) hr2)
  refine ev_eq this ?_
  unfold zoneAt
  generalize (List.range l.length).find? (fun j => decide (((l.getD j zZ).f0).toList = s.toList)) = o
  cases o <;> rfl
/-- The rate of a category. -/
def rateAt (l : List CR) (rest : Int) (s : ByteArray) : Int := match (List.range l.length).find? (fun j => decide (((l.getD j zC).f0).toList = s.toList)) with
  | some j => (l.getD j zC).f1
  | none => rest
theorem rateAt_f (a : ByteArray) (l : List CR) (b c : Int) (s : ByteArray) (hl : l.length ≤ 9223372036854775807) : Ev (fun n => rules_Rate.f n a l b c s) (rateAt l b s) :=
  first_ev (F := fun n j => rules_Rate.l0 n s l l.length (j : Int) a l b c) (n := l.length) (p := fun j => decide (((l.getD j zC).f0).toList = s.toList)) (v := fun j => (l.getD j zC).f1) (e := b)
    (Ev.step (fun n => by rw [rules_Rate.l0, if_neg (by omega)]) (Ev.now _))
    (fun j hj hp => Ev.step (fun n => by rw [rules_Rate.l0, if_pos (by omega), if_pos (by omega), if_pos (by omega), rdC_d, if_pos (of_decide_eq_true hp)]) (Ev.now _))
    (fun j hj hp r hr2 => Ev.step (fun n => by rw [rules_Rate.l0, if_pos (by omega), if_pos (by omega), if_pos (by omega), rdC_d, if_neg (of_decide_eq_false hp), next j (by omega)]) hr2)
theorem rrateAt_f (a : ByteArray) (l : List CR) (b c : Int) (s : ByteArray) (hl : l.length ≤ 9223372036854775807) : Ev (fun n => haberdashref10_Rate.f n a l b c s) (rateAt l b s) :=
  first_ev (F := fun n j => haberdashref10_Rate.l0 n s (j : Int) a l b c) (n := l.length) (p := fun j => decide (((l.getD j zC).f0).toList = s.toList)) (v := fun j => (l.getD j zC).f1) (e := b)
    (Ev.step (fun n => by rw [haberdashref10_Rate.l0, if_neg (by omega)]) (Ev.now _))
    (fun j hj hp => Ev.step (fun n => by rw [haberdashref10_Rate.l0, if_pos (by omega), if_pos (by omega), rdC_d, if_pos (of_decide_eq_true hp)]) (Ev.now _))
    (fun j hj hp r hr2 => Ev.step (fun n => by rw [haberdashref10_Rate.l0, if_pos (by omega), if_pos (by omega), rdC_d, if_neg (of_decide_eq_false hp), next j (by omega)]) hr2)
end Go.Proofs.Ytgfhjamaabaleaa.XP
