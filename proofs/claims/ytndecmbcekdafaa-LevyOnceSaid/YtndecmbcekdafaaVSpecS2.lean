/- An amount in parts: who has one more; sums; parts of scaled weights. Plain Lean. -/
import Derived.Test.YtndecmbcekdafaaVSpecS
set_option linter.unusedVariables false
namespace Go.Proofs.Ytndecmbcekdafaa.SP
open Go.Proofs.Ytndecmbcekdafaa.QM

theorem ents_snd (l : List Int) : (ents l).map (·.2) = (List.range l.length).map fun i : Nat => (i : Int) := by
  apply List.ext_getElem
  · simp [ents]
  · intro i h1 h2
    simp [ents]
theorem ord_perm (l : List Int) : (ord l).Perm ((List.range l.length).map fun i : Nat => (i : Int)) := by
  rw [← ents_snd]
  exact (line_perm _).map _
theorem ord_mem (l : List Int) (z : Int) : z ∈ ord l ↔ 0 ≤ z ∧ z < (l.length : Int) := by
  rw [(ord_perm l).mem_iff]
  constructor
  · intro h
    obtain ⟨i, hi, rfl⟩ := List.mem_map.1 h
    have := List.mem_range.1 hi
    omega
  · intro h
    exact List.mem_map.2 ⟨z.toNat, List.mem_range.2 (by omega), by omega⟩

theorem sum_set (l : List Int) : ∀ (i : Nat) (h : i < l.length) (x : Int), (l.set i x).sum = l.sum - l[i] + x := by
  induction l with
  | nil => intro i h; simp at h
  | cons y l ih =>
    intro i h x
    cases i with
    | zero => simp; omega
    | succ i => simp only [List.set_cons_succ, List.sum_cons, List.getElem_cons_succ]; rw [ih i (by simpa using h)]; omega
theorem bump_sum (is : List Int) : ∀ (l : List Int), (∀ z ∈ is, 0 ≤ z ∧ z < (l.length : Int)) → (bump l is).sum = l.sum + is.length := by
  induction is with
  | nil => intro l _; simp [bump]
  | cons i is ih =>
    intro l hr
    have hi := hr i List.mem_cons_self
    show (bump (bump1 l i) is).sum = _
    rw [ih (bump1 l i) (fun z hz => by have := hr z (List.mem_cons_of_mem _ hz); simpa [bump1] using this)]
    unfold bump1
    have hl : i.toNat < l.length := by omega
    rw [sum_set l _ hl]
    simp only [List.getD_eq_getElem?_getD, List.getElem?_eq_getElem hl, Option.getD_some, List.length_cons]
    omega

theorem take_range (rs : List Int) (L : Nat) : ∀ z ∈ (ord rs).take L, 0 ≤ z ∧ z < (rs.length : Int) := fun z hz => (ord_mem rs z).1 (List.mem_of_mem_take hz)
theorem parts_sum (total : Int) (ws : List Int) (hS : 0 < ws.sum) : (parts total ws).sum = total := by
  have hb := left_bound total ws hS
  unfold parts
  rw [bump_sum _ _ (by rw [qs_length, ← rs_length total ws.sum ws]; exact take_range _ _), List.length_take, ord_length, rs_length]
  omega
/-! ### scaled weights -/
end Go.Proofs.Ytndecmbcekdafaa.SP
