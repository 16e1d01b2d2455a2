/- The reference's tenders: what the printed functions come to. Plain Lean. -/
import Derived.Test.YtebochcdbknodaaVRwA
import Derived.Test.YtebochcdbknodaaVRwAb
import Derived.Test.YtebochcdbknodaaVRwRef21
import Derived.Test.YtebochcdbknodaaVRefOrd
import Derived.Test.YtebochcdbknodaaVSpecT
set_option linter.unusedVariables false
set_option linter.unusedSimpArgs false
namespace Go.Proofs.Ytebochcdbknodaa.RT
open Go Go.RowKit Go.Proofs.YtebochcdbknodaaW.PrintWords Go.Proofs.YtebochcdbknodaaW.PrintMore Go.Proofs.Ytebochcdbknodaa.Rw Go.Proofs.Ytebochcdbknodaa.SP Go.Proofs.Ytebochcdbknodaa.ST Go.Proofs.Ytebochcdbknodaa.QM Go.Proofs.Ytebochcdbknodaa.RO

theorem nxt (i : Nat) (h : i < 9223372036854775807) : wrap64 ((i : Int) + 1) = ((i + 1 : Nat) : Int) := by rw [wrap_ok (by omega) (by omega)]; omega
theorem rdT_of (l : List Ten) (i : Nat) (h : i < l.length) : rd_T39 l (i : Int) = l[i] := by simp [rd_T39, h]
theorem rdB_of (l : List Bak) (i : Nat) (h : i < l.length) : rd_T34 l (i : Int) = l[i] := by simp [rd_T34, h]
theorem in_f (a b : Int) : haberdashref21_in.f a b = some (decide (0 ≤ a ∧ a ≤ b)) := by
  unfold haberdashref21_in.f
  by_cases h : a ≥ 0
  · rw [if_pos h]; congr 1; rw [Bool.eq_iff_iff, decide_eq_true_iff, decide_eq_true_iff]; omega
  · rw [if_neg h]; congr 1; symm; rw [decide_eq_false_iff_not]; omega
theorem tens_runs (l : List Ten) (hl : l.length ≤ 9223372036854775807) : ∀ (d i k : Nat), i + d = l.length → d < k → (∀ y ∈ l.take i, tok y = true) → haberdashref21_Tenders.l0 k l i = some (tall l) := by
  intro d
  induction d with
  | zero =>
    intro i k hi hk hn
    obtain ⟨k, rfl⟩ : ∃ m, k = m + 1 := ⟨k - 1, by omega⟩
    rw [haberdashref21_Tenders.l0, if_neg (by omega)]
    rw [List.take_of_length_le (by omega)] at hn
    unfold tall
    rw [List.all_eq_true.2 hn, Bool.and_true]
    congr 1
    rw [Bool.eq_iff_iff, decide_eq_true_iff, decide_eq_true_iff]; omega
  | succ d ih =>
    intro i k hi hk hn
    obtain ⟨k, rfl⟩ : ∃ m, k = m + 1 := ⟨k - 1, by omega⟩
    have hlt : i < l.length := by omega
    rw [haberdashref21_Tenders.l0, if_pos (by omega), if_pos (by omega), rdT_of l i hlt]
    by_cases he : tok l[i] = true
    · have ht := tok_iff.1 he
      rw [if_neg (by omega), if_neg (by omega), in_f]
      simp only [Option.bind_some]
      rw [if_pos (by rw [decide_eq_true_iff]; omega), in_f]
      simp only [Option.bind_some]
      rw [if_pos (by rw [decide_eq_true_iff]; omega), nxt i (by omega)]
      refine ih (i + 1) k (by omega) (by omega) ?_
      rw [List.take_succ_eq_append_getElem hlt]
      intro y hy
      rcases List.mem_append.1 hy with hy | hy
      · exact hn y hy
      · rw [List.mem_singleton.1 hy]; exact he
    · have hf : tall l = false := by
        unfold tall
        rw [show l.all tok = false from by rw [List.all_eq_false]; exact ⟨l[i], List.getElem_mem hlt, he⟩, Bool.and_false]
      have hne : ¬ (1 ≤ l[i].f0 ∧ l[i].f0 ≤ 9 ∧ 0 ≤ l[i].f1 ∧ l[i].f1 ≤ 100000000000000 ∧ 0 ≤ l[i].f2 ∧ l[i].f2 ≤ l[i].f1) := fun h => he (tok_iff.2 h)
      rw [hf]
      by_cases h1 : l[i].f0 < 1
      · rw [if_pos h1]
      · by_cases h2 : l[i].f0 > 9
        · rw [if_neg h1, if_pos h2]
        · rw [if_neg h1, if_neg h2, in_f]
          simp only [Option.bind_some]
          by_cases h3 : 0 ≤ l[i].f1 ∧ l[i].f1 ≤ 100000000000000
          · rw [if_pos (by rw [decide_eq_true_iff]; exact h3), in_f]
            simp only [Option.bind_some]
            rw [if_neg (by rw [decide_eq_true_iff]; omega)]
          · rw [if_neg (by rw [decide_eq_true_iff]; exact h3)]
theorem tens_f (l : List Ten) (hl : l.length ≤ 9223372036854775807) : Ev (fun k => haberdashref21_Tenders.f k l) (tall l) := ⟨l.length + 1, fun k hk => tens_runs l hl l.length 0 k (by omega) (by omega) (by simp)⟩
theorem left_runs (l : List Ten) (h : ∀ x ∈ l, tok x = true) (hl : l.length ≤ 6) : ∀ (d i k : Nat), i + d = l.length → d < k → haberdashref21_Left.l0 k l (tsum (l.take i)) i = some (tsum l) := by
  intro d
  induction d with
  | zero =>
    intro i k hi hk
    obtain ⟨k, rfl⟩ : ∃ m, k = m + 1 := ⟨k - 1, by omega⟩
    rw [haberdashref21_Left.l0, if_neg (by omega), List.take_of_length_le (by omega)]
  | succ d ih =>
    intro i k hi hk
    obtain ⟨k, rfl⟩ : ∃ m, k = m + 1 := ⟨k - 1, by omega⟩
    have hlt : i < l.length := by omega
    have hx := tok_iff.1 (h l[i] (List.getElem_mem hlt))
    have hs := tsum_bound (l.take i) (fun x hx => h x (List.mem_of_mem_take hx))
    have hn : tsum (l.take (i + 1)) = tsum (l.take i) + dif l[i] := by
      unfold tsum
      rw [List.take_succ_eq_append_getElem hlt, List.map_append, List.sum_append]; simp
    have hd : dif l[i] = l[i].f1 - l[i].f2 := rfl
    have hll : ((l.take i).length : Int) * 100000000000000 ≤ 6 * 100000000000000 := Int.mul_le_mul_of_nonneg_right (by rw [List.length_take]; omega) (by omega)
    rw [haberdashref21_Left.l0, if_pos (by omega), if_pos (by omega), rdT_of l i hlt, nxt i (by omega), show wrap64 (tsum (l.take i) + l[i].f1) = tsum (l.take i) + l[i].f1 from wrap_ok (by omega) (by omega), wrap_ok (by omega) (by omega)]
    have e : tsum (l.take i) + l[i].f1 - l[i].f2 = tsum (l.take (i + 1)) := by rw [hn, hd]; omega
    rw [e]
    exact ih (i + 1) k (by omega) (by omega)
theorem left_f (l : List Ten) (hl : l.length ≤ 9223372036854775807) : Ev (fun k => haberdashref21_Left.f k l) (tleft l) := by
  unfold haberdashref21_Left.f
  refine Ev.bind (tens_f l hl) ?_
  by_cases h : tall l = true
  · have h2 := tall_iff.1 h
    simp only [h, if_true]
    refine ⟨l.length + 1, fun k hk => ?_⟩
    have := left_runs l h2.2 h2.1 l.length 0 k (by omega) (by omega)
    unfold tleft
    rw [if_pos h]
    simpa [tsum] using this
  · unfold tleft
    simp only [h, if_false]
    exact Ev.now _
theorem plc_step (o : List Int) (x : Int) (i : Nat) (h : i < o.length) (hn : ∀ y ∈ o.take i, ¬ x = y) (he : x = o[i]) : plc o x = i := by
  have e : o = o.take i ++ o[i] :: o.drop (i + 1) := by simp
  unfold plc
  rw [e, List.findIdx_append]
  have h1 : List.findIdx (fun y => x == y) (o.take i) = (o.take i).length := by
    rw [List.findIdx_eq_length]
    intro y hy
    simpa using hn y hy
  rw [h1, if_neg (by omega), List.findIdx_cons]
  simp [he]; omega
section
variable (x0 : List Ten) (x1 x2 : List Int) (x3 : Int)
end

section
variable (l : List Ten) (o cr : List Int) (A : Int) (hl : l.length ≤ 6) (hk : ∀ x ∈ l, 1 ≤ x.f0) (ho : o.length ≤ 1000000000)
include hl hk ho
end

end Go.Proofs.Ytebochcdbknodaa.RT
