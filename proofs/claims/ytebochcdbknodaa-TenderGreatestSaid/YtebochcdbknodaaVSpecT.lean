/- Tenders: what may be, what is left, who is asked, who gives back how much. Plain Lean over the printed kinds. -/
import Derived.Test.YtebochcdbknodaaVRwA
import Derived.Test.YtebochcdbknodaaVSpecS
set_option linter.unusedVariables false
set_option linter.unusedSimpArgs false
namespace Go.Proofs.Ytebochcdbknodaa.ST
open Go Go.RowKit Go.Proofs.YtebochcdbknodaaW.PrintWords Go.Proofs.Ytebochcdbknodaa.Rw Go.Proofs.Ytebochcdbknodaa.SP Go.Proofs.Ytebochcdbknodaa.QM
abbrev Ten := S39
abbrev Bak := S34

def tok (x : Ten) : Bool := decide (1 ≤ x.f0 ∧ x.f0 ≤ 9 ∧ 0 ≤ x.f1 ∧ x.f1 ≤ 100000000000000 ∧ 0 ≤ x.f2 ∧ x.f2 ≤ x.f1)
theorem tok_iff {x : Ten} : tok x = true ↔ 1 ≤ x.f0 ∧ x.f0 ≤ 9 ∧ 0 ≤ x.f1 ∧ x.f1 ≤ 100000000000000 ∧ 0 ≤ x.f2 ∧ x.f2 ≤ x.f1 := by unfold tok; simp
def tall (l : List Ten) : Bool := decide (l.length ≤ 6) && l.all tok
theorem tall_iff {l : List Ten} : tall l = true ↔ l.length ≤ 6 ∧ ∀ x ∈ l, tok x = true := by unfold tall; simp [List.all_eq_true]
def dif (x : Ten) : Int := x.f1 - x.f2
def tsum (l : List Ten) : Int := (l.map dif).sum
def tleft (l : List Ten) : Int := if tall l = true then tsum l else 0
/-- The place of a number among some; how many there are, if it is none. -/
def plc (o : List Int) (x : Int) : Nat := o.findIdx (fun y => x == y)
theorem plc_le (o : List Int) (x : Int) : plc o x ≤ o.length := List.findIdx_le_length
theorem plc_get {o : List Int} {x : Int} (h : plc o x < o.length) : o[plc o x] = x := by
  have h2 := List.findIdx_getElem (w := h)
  exact (eq_of_beq h2).symm
theorem plc_mem (o : List Int) (x : Int) : plc o x < o.length ↔ x ∈ o := by
  unfold plc
  rw [List.findIdx_lt_length]
  simp
def tat (o : List Int) (x : Ten) : Int := if plc o x.f0 < o.length then (plc o x.f0 : Int) else o.length + x.f0
def ranks (o : List Int) (l : List Ten) : List Int := l.map fun x => -(tat o x)
theorem ranks_length (o : List Int) (l : List Ten) : (ranks o l).length = l.length := by simp [ranks]
/-- Who is asked gives what he has, up to the amount. -/
def gives (l : List Ten) (cr : List Int) : List Int → Int → List Bak
  | [], _ => []
  | i :: is, a => if 0 < mn (dif (l.getD i.toNat z39)) a then ⟨i, mn (dif (l.getD i.toNat z39)) a, decide (plc cr (l.getD i.toNat z39).f0 < cr.length)⟩ :: gives l cr is (a - mn (dif (l.getD i.toNat z39)) a) else gives l cr is a
where mn (a b : Int) : Int := if b < a then b else a
def split (l : List Ten) (o cr : List Int) (a : Int) : List Bak × Int :=
  if tall l = false ∨ rt a = false then ([], 2) else if tleft l < a then ([], 12) else (gives l cr (ord (ranks o l)) a, 0)
theorem tsum_bound (l : List Ten) (h : ∀ x ∈ l, tok x = true) : 0 ≤ tsum l ∧ tsum l ≤ l.length * 100000000000000 := by
  unfold tsum
  have h2 : ∀ y ∈ l.map dif, 0 ≤ y ∧ y ≤ 100000000000000 := by
    intro y hy
    obtain ⟨x, hx, rfl⟩ := List.mem_map.1 hy
    have := tok_iff.1 (h x hx)
    unfold dif
    omega
  refine ⟨sum_nonneg _ (fun y hy => (h2 y hy).1), ?_⟩
  induction l with
  | nil => simp
  | cons x l ih =>
    simp only [List.map_cons, List.sum_cons, List.length_cons] at h2 ⊢
    have h3 := ih (fun y hy => h y (List.mem_cons_of_mem _ hy)) (fun y hy => h2 y (List.mem_cons_of_mem _ hy))
    have h4 := h2 (dif x) List.mem_cons_self
    omega
end Go.Proofs.Ytebochcdbknodaa.ST
