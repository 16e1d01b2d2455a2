/- An amount in parts: who has one more; sums; parts of scaled weights. Plain Lean. -/
import Derived.Test.YtndecmbcekdafaaVSpecS
set_option linter.unusedVariables false
namespace Go.Proofs.Ytndecmbcekdafaa.SP
open Go.Proofs.Ytndecmbcekdafaa.QM

theorem ents_fst (l : List Int) : (ents l).map (·.1) = l := by
  apply List.ext_getElem
  · simp [ents]
  · intro i h1 h2
    simp [ents]
theorem ents_snd (l : List Int) : (ents l).map (·.2) = (List.range l.length).map fun i : Nat => (i : Int) := by
  apply List.ext_getElem
  · simp [ents]
  · intro i h1 h2
    simp [ents]
theorem ord_perm (l : List Int) : (ord l).Perm ((List.range l.length).map fun i : Nat => (i : Int)) := by
  rw [← ents_snd]
  exact (line_perm _).map _
theorem ord_nodup (l : List Int) : (ord l).Nodup := by
  refine (ord_perm l).nodup_iff.2 ?_
  exact List.Pairwise.map _ (fun a b (h : a ≠ b) => by intro e; exact h (by omega)) List.nodup_range
theorem ord_mem (l : List Int) (z : Int) : z ∈ ord l ↔ 0 ≤ z ∧ z < (l.length : Int) := by
  rw [(ord_perm l).mem_iff]
  constructor
  · intro h
    obtain ⟨i, hi, rfl⟩ := List.mem_map.1 h
    have := List.mem_range.1 hi
    omega
  · intro h
    exact List.mem_map.2 ⟨z.toNat, List.mem_range.2 (by omega), by omega⟩

theorem bump1_getD (l : List Int) (i : Int) (hi : 0 ≤ i ∧ i < l.length) (j : Nat) : (bump1 l i).getD j 0 = l.getD j 0 + if (j : Int) = i then 1 else 0 := by
  unfold bump1
  simp only [List.getD_eq_getElem?_getD, List.getElem?_set]
  by_cases h : (j : Int) = i
  · rw [if_pos h, if_pos (by omega), if_pos (by omega)]
    have : i.toNat = j := by omega
    rw [this]; rfl
  · rw [if_neg h, if_neg (by omega)]; simp
theorem bump_getD (is : List Int) : ∀ (l : List Int), is.Nodup → (∀ z ∈ is, 0 ≤ z ∧ z < (l.length : Int)) → ∀ j : Nat, (bump l is).getD j 0 = l.getD j 0 + if (j : Int) ∈ is then 1 else 0 := by
  induction is with
  | nil => intro l _ _ j; simp [bump]
  | cons i is ih =>
    intro l hn hr j
    have hi := hr i List.mem_cons_self
    have hn' := List.nodup_cons.1 hn
    show (bump (bump1 l i) is).getD j 0 = _
    rw [ih (bump1 l i) hn'.2 (fun z hz => by have := hr z (List.mem_cons_of_mem _ hz); simpa [bump1] using this) j, bump1_getD l i hi j]
    by_cases h : (j : Int) = i
    · rw [if_pos h, if_neg (by rw [h]; exact hn'.1), if_pos (by rw [h]; exact List.mem_cons_self)]; omega
    · rw [if_neg h]
      by_cases h2 : (j : Int) ∈ is
      · rw [if_pos h2, if_pos (List.mem_cons_of_mem _ h2)]; omega
      · rw [if_neg h2, if_neg (by simp [h, h2])]; omega
theorem sum_le_of (l : List Int) (c : Int) (hc : 0 ≤ c) (h : ∀ x ∈ l, 0 ≤ x ∧ x ≤ c) : l.sum ≤ l.length * c := by
  induction l with
  | nil => simp
  | cons y l ih =>
    have h1 := h y List.mem_cons_self
    have h2 := ih (fun x hx => h x (List.mem_cons_of_mem _ hx))
    simp only [List.sum_cons, List.length_cons]
    rw [show ((l.length + 1 : Nat) : Int) * c = (l.length : Int) * c + c by rw [Int.natCast_add, Int.add_mul]; simp]
    omega
theorem sum_le_zero (l : List Int) (c : Int) (hc : 0 ≤ c) (h : ∀ x ∈ l, 0 ≤ x ∧ x ≤ c) (h0 : (0 : Int) ∈ l) : l.sum ≤ (l.length - 1) * c := by
  obtain ⟨s, t, rfl⟩ := List.append_of_mem h0
  have h1 := sum_le_of s c hc (fun x hx => h x (by simp [hx]))
  have h2 := sum_le_of t c hc (fun x hx => h x (by simp [hx]))
  simp only [List.sum_append, List.sum_cons, List.length_append, List.length_cons]
  have : (((s.length + (t.length + 1) : Nat) : Int) - 1) * c = (s.length : Int) * c + (t.length : Int) * c := by
    rw [← Int.add_mul]; congr 1; omega
  rw [this]; omega
theorem perm_sum {a b : List Int} (h : a.Perm b) : a.sum = b.sum := by
  induction h with
  | nil => rfl
  | cons x _ ih => simp [ih]
  | swap x y l => simp; omega
  | trans _ _ h1 h2 => exact h1.trans h2

/-- Who has one more has a remainder. -/
theorem more_rest (total : Int) (ws : List Int) (hS : 0 < ws.sum) (i : Nat) (hi : i < ws.length)
    (hm : (i : Int) ∈ (ord (rsOf total ws.sum ws)).take (total - (qsOf total ws.sum ws).sum).toNat) : total * ws[i] % ws.sum ≠ 0 := by
  intro h0
  obtain ⟨rs, hrs⟩ : ∃ rs, rs = rsOf total ws.sum ws := ⟨_, rfl⟩
  have hrl : rs.length = ws.length := by rw [hrs]; exact rs_length ..
  have hb := left_bound total ws hS
  obtain ⟨L, hL⟩ : ∃ L : Nat, total - (qsOf total ws.sum ws).sum = L := ⟨(total - (qsOf total ws.sum ws).sum).toNat, by omega⟩
  have hsum := qs_rs total ws.sum ws
  rw [← hrs] at hsum hm
  rw [hL, Int.toNat_natCast] at hm
  have hLS : (L : Int) * ws.sum = rs.sum := by rw [← hL, Int.sub_mul]; omega
  have hri : rs[i]'(by omega) = 0 := by subst hrs; simpa [rsOf] using h0
  have hrange : ∀ x ∈ rs, 0 ≤ x ∧ x ≤ ws.sum - 1 := by
    intro x hx
    rw [hrs] at hx
    obtain ⟨w, _, rfl⟩ := List.mem_map.1 hx
    have h1 := Int.emod_nonneg (total * w) (show ws.sum ≠ 0 by omega)
    have h2 := Int.emod_lt_of_pos (total * w) hS
    omega
  -- the ranks in line
  have hp : ((line (ents rs)).map (·.1)).Perm rs := by
    have := (line_perm (ents rs)).map (·.1)
    rwa [ents_fst] at this
  have hs2 : ((line (ents rs)).map (·.1)).sum = rs.sum := perm_sum hp
  rw [← List.take_append_drop L (line (ents rs)), List.map_append, List.sum_append] at hs2
  have hl := line_lined (ents rs)
  unfold Lined at hl
  rw [← List.take_append_drop L (line (ents rs)), List.pairwise_append] at hl
  unfold ord at hm
  rw [← List.map_take] at hm
  obtain ⟨a, ha, hai⟩ := List.mem_map.1 hm
  obtain ⟨m, hm2, he⟩ := mem_ents ((line_perm _).mem_iff.1 (List.mem_of_mem_take ha))
  rw [he] at hai
  have hmi : m = i := by
    have : (m : Int) = (i : Int) := hai
    omega
  subst hmi
  have hin : ∀ x ∈ (line (ents rs)), 0 ≤ x.1 ∧ x.1 ≤ ws.sum - 1 := fun x hx => hrange _ (hp.mem_iff.1 (List.mem_map.2 ⟨x, hx, rfl⟩))
  have hd : (((line (ents rs)).drop L).map (·.1)).sum ≤ 0 := by
    have := sum_le_of (((line (ents rs)).drop L).map (·.1)) 0 (by omega) (by
      intro x hx
      obtain ⟨b, hb2, rfl⟩ := List.mem_map.1 hx
      have h3 := hl.2.2 a ha b hb2
      rw [lt_false_iff, he] at h3
      have h4 := hin b (List.mem_of_mem_drop hb2)
      have h5 : b.1 < rs[m] ∨ b.1 = rs[m] ∧ (m : Int) ≤ b.2 := h3
      omega)
    simpa using this
  have ht : (((line (ents rs)).take L).map (·.1)).sum ≤ ((((line (ents rs)).take L).map (·.1)).length - 1) * (ws.sum - 1) :=
    sum_le_zero _ _ (by omega) (by
      intro x hx
      obtain ⟨b, hb2, rfl⟩ := List.mem_map.1 hx
      exact hin b (List.mem_of_mem_take hb2)) (List.mem_map.2 ⟨a, ha, by rw [he]; exact hri⟩)
  have hlen : (((line (ents rs)).take L).map (·.1)).length = L := by
    rw [List.length_map, List.length_take, line_length, ents_length]
    omega
  rw [hlen] at ht
  have hL1 : 1 ≤ L := by
    have := List.length_pos_of_mem ha
    rw [List.length_take] at this
    omega
  have h6 : ((L : Int) - 1) * (ws.sum - 1) ≤ ((L : Int) - 1) * ws.sum := Int.mul_le_mul_of_nonneg_left (by omega) (by omega)
  have h7 : ((L : Int) - 1) * ws.sum = (L : Int) * ws.sum - ws.sum := by rw [Int.sub_mul, Int.one_mul]
  omega

theorem parts_length (total : Int) (ws : List Int) : (parts total ws).length = ws.length := by simp [parts, bump_length, qs_length]
theorem take_range (rs : List Int) (L : Nat) : ∀ z ∈ (ord rs).take L, 0 ≤ z ∧ z < (rs.length : Int) := fun z hz => (ord_mem rs z).1 (List.mem_of_mem_take hz)
theorem parts_get (total : Int) (ws : List Int) (i : Nat) (hi : i < ws.length) :
    (parts total ws)[i]'(by rw [parts_length]; exact hi) = total * ws[i] / ws.sum + if (i : Int) ∈ (ord (rsOf total ws.sum ws)).take (total - (qsOf total ws.sum ws).sum).toNat then 1 else 0 := by
  have h := bump_getD ((ord (rsOf total ws.sum ws)).take (total - (qsOf total ws.sum ws).sum).toNat) (qsOf total ws.sum ws) ((ord_nodup _).sublist (List.take_sublist _ _)) (by rw [qs_length, ← rs_length total ws.sum ws]; exact take_range _ _) i
  have e1 : (bump (qsOf total ws.sum ws) ((ord (rsOf total ws.sum ws)).take (total - (qsOf total ws.sum ws).sum).toNat)).getD i 0 = (parts total ws)[i]'(by rw [parts_length]; exact hi) := by
    show (parts total ws).getD i 0 = _
    rw [List.getD_eq_getElem?_getD, List.getElem?_eq_getElem (by rw [parts_length]; exact hi)]; rfl
  have e2 : (qsOf total ws.sum ws).getD i 0 = total * ws[i] / ws.sum := by simp [qsOf, hi]
  rw [← e1, h, e2]

/-! ### scaled weights -/
end Go.Proofs.Ytndecmbcekdafaa.SP
