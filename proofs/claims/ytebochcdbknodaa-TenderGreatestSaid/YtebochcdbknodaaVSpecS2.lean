/- An amount in parts: who has one more; sums; parts of scaled weights. Plain Lean. -/
import Derived.Test.YtebochcdbknodaaVSpecS
set_option linter.unusedVariables false
namespace Go.Proofs.Ytebochcdbknodaa.SP
open Go.Proofs.Ytebochcdbknodaa.QM

theorem ents_snd (l : List Int) : (ents l).map (·.2) = (List.range l.length).map fun i : Nat => (i : Int) := by
  apply List.ext_getElem
  · simp [ents]
  · intro i h1 h2
    simp [ents]
theorem ord_perm (l : List Int) : (ord l).Perm ((List.range l.length).map fun i : Nat => (i : Int)) := by
  rw [← ents_snd]
  exact (line_perm _).map _
theorem ord_nodup (l : List Int) : (ord l).Nodup := by
  refine (ord_perm l).nodup_iff.2 ?_
  exact List.Pairwise.map _ (fun a b (h : a ≠ b) => by intro e; exact h (by omega)) List.nodup_range
theorem ord_mem (l : List Int) (z : Int) : z ∈ ord l ↔ 0 ≤ z ∧ z < (l.length : Int) := by
  rw [(ord_perm l).mem_iff]
  constructor
  · intro h
    obtain ⟨i, hi, rfl⟩ := List.mem_map.1 h
    have := List.mem_range.1 hi
    omega
  · intro h
    exact List.mem_map.2 ⟨z.toNat, List.mem_range.2 (by omega), by omega⟩

theorem sum_set (l : List Int) : ∀ (i : Nat) (h : i < l.length) (x : Int), (l.set i x).sum = l.sum - l[i] + x := by
  induction l with
  | nil => intro i h; simp at h
  | cons y l ih =>
    intro i h x
    cases i with
    | zero => simp; omega
    | succ i => simp only [List.set_cons_succ, List.sum_cons, List.getElem_cons_succ]; rw [ih i (by simpa using h)]; omega
/-- Who is among the first L is ahead of who is not. -/
theorem ord_ahead (rs : List Int) (L i j : Nat) (hi : i < rs.length) (hj : j < rs.length) (h1 : (i : Int) ∈ (ord rs).take L) (h2 : (j : Int) ∉ (ord rs).take L) :
    rs[j] < rs[i] ∨ (rs[i] = rs[j] ∧ i < j) := by
  have hl := line_lined (ents rs)
  unfold Lined at hl
  rw [← List.take_append_drop L (line (ents rs)), List.pairwise_append] at hl
  unfold ord at h1 h2
  rw [← List.map_take] at h1 h2
  obtain ⟨a, ha, hai⟩ := List.mem_map.1 h1
  have hmem : ((rs[j], (j : Int)) : Ent) ∈ line (ents rs) := by
    refine (line_perm _).mem_iff.2 ?_
    have := ents_get rs j hj
    exact List.mem_of_getElem? this
  rw [← List.take_append_drop L (line (ents rs))] at hmem
  rcases List.mem_append.1 hmem with hm | hm
  · exact absurd (List.mem_map.2 ⟨_, hm, rfl⟩) h2
  · have := hl.2.2 a ha _ hm
    rw [lt_false_iff] at this
    obtain ⟨m, hm2, he⟩ := mem_ents ((line_perm _).mem_iff.1 (List.mem_of_mem_take ha))
    rw [he] at hai this
    have hmi : m = i := by
      have : (m : Int) = (i : Int) := hai
      omega
    subst hmi
    have hne : (m : Int) ≠ (j : Int) := by
      intro h
      rw [← h] at h2
      exact h2 h1
    have : rs[j] < rs[m] ∨ rs[j] = rs[m] ∧ (m : Int) ≤ (j : Int) := this
    omega

theorem perm_sum {a b : List Int} (h : a.Perm b) : a.sum = b.sum := by
  induction h with
  | nil => rfl
  | cons x _ ih => simp [ih]
  | swap x y l => simp; omega
  | trans _ _ h1 h2 => exact h1.trans h2

/-! ### scaled weights -/
end Go.Proofs.Ytebochcdbknodaa.SP
