/- An amount in parts: who has one more; sums; parts of scaled weights. Plain Lean. -/
import Derived.Test.YtegjbbblpnenfaaVSpecS
set_option linter.unusedVariables false
namespace Go.Proofs.Ytegjbbblpnenfaa.SP
open Go.Proofs.Ytegjbbblpnenfaa.QM

theorem ents_snd (l : List Int) : (ents l).map (·.2) = (List.range l.length).map fun i : Nat => (i : Int) := by
  apply List.ext_getElem
  · simp [ents]
  · intro i h1 h2
    simp [ents]
theorem ord_perm (l : List Int) : (ord l).Perm ((List.range l.length).map fun i : Nat => (i : Int)) := by
  rw [← ents_snd]
  exact (line_perm _).map _
theorem sum_set (l : List Int) : ∀ (i : Nat) (h : i < l.length) (x : Int), (l.set i x).sum = l.sum - l[i] + x := by
  induction l with
  | nil => intro i h; simp at h
  | cons y l ih =>
    intro i h x
    cases i with
    | zero => simp; omega
    | succ i => simp only [List.set_cons_succ, List.sum_cons, List.getElem_cons_succ]; rw [ih i (by simpa using h)]; omega
theorem perm_sum {a b : List Int} (h : a.Perm b) : a.sum = b.sum := by
  induction h with
  | nil => rfl
  | cons x _ ih => simp [ih]
  | swap x y l => simp; omega
  | trans _ _ h1 h2 => exact h1.trans h2

/-! ### scaled weights -/
end Go.Proofs.Ytegjbbblpnenfaa.SP
