/- tender.Right, tender.Left, slices.Index, slices.Contains: what the printed functions come to. Plain Lean. -/
import Derived.Test.YtebochcdbknodaaVSpecT
import Derived.Test.YtebochcdbknodaaVRwTend
import Derived.Test.YtebochcdbknodaaVRwIdx
import Derived.Test.YtebochcdbknodaaVShareP
set_option linter.unusedVariables false
set_option linter.unusedSimpArgs false
namespace Go.Proofs.Ytebochcdbknodaa.TP
open Go Go.RowKit Go.Proofs.YtebochcdbknodaaW.PrintWords Go.Proofs.Ytebochcdbknodaa.Rw Go.Proofs.Ytebochcdbknodaa.SP Go.Proofs.Ytebochcdbknodaa.ST Go.Proofs.Ytebochcdbknodaa.SH

theorem nxt (i : Nat) (h : i < 9223372036854775807) : wrap64 ((i : Int) + 1) = ((i + 1 : Nat) : Int) := by rw [wrap_ok (by omega) (by omega)]; omega
theorem plc_step (o : List Int) (x : Int) (i : Nat) (h : i < o.length) (hn : ∀ y ∈ o.take i, ¬ x = y) (he : x = o[i]) : plc o x = i := by
  have e : o = o.take i ++ o[i] :: o.drop (i + 1) := by simp
  unfold plc
  rw [e, List.findIdx_append]
  have h1 : List.findIdx (fun y => x == y) (o.take i) = (o.take i).length := by
    rw [List.findIdx_eq_length]
    intro y hy
    simpa using hn y hy
  rw [h1, if_neg (by omega), List.findIdx_cons]
  simp [he]; omega
theorem index_runs (o : List Int) (x : Int) (hl : o.length ≤ 9223372036854775807) : ∀ (d i k : Nat), i + d = o.length → d < k → (∀ y ∈ o.take i, ¬ x = y) →
    slices_Index_int_int.l0 k o x o.length i = some (if plc o x < o.length then (plc o x : Int) else -1) := by
  intro d
  induction d with
  | zero =>
    intro i k hi hk hn
    obtain ⟨k, rfl⟩ : ∃ m, k = m + 1 := ⟨k - 1, by omega⟩
    rw [slices_Index_int_int.l0, if_neg (by omega), if_neg]
    rw [plc_mem]
    intro h
    rw [List.take_of_length_le (by omega)] at hn
    exact hn x h rfl
  | succ d ih =>
    intro i k hi hk hn
    obtain ⟨k, rfl⟩ : ∃ m, k = m + 1 := ⟨k - 1, by omega⟩
    have hlt : i < o.length := by omega
    rw [slices_Index_int_int.l0, if_pos (by omega), if_pos (by omega), if_pos (by omega), rd_of o i hlt]
    by_cases he : x = o[i]
    · rw [if_pos he, plc_step o x i hlt hn he, if_pos hlt]
    · rw [if_neg he, nxt i (by omega)]
      refine ih (i + 1) k (by omega) (by omega) ?_
      rw [List.take_succ_eq_append_getElem hlt]
      intro y hy
      rcases List.mem_append.1 hy with hy | hy
      · exact hn y hy
      · rw [List.mem_singleton.1 hy]; exact he
theorem index_f (o : List Int) (x : Int) (hl : o.length ≤ 9223372036854775807) : slices_Index_int_int.f (o.length + 1) o x = some (if plc o x < o.length then (plc o x : Int) else -1) :=
  index_runs o x hl o.length 0 _ (by omega) (by omega) (by simp)
theorem contains_f (o : List Int) (x : Int) (hl : o.length ≤ 9223372036854775807) : slices_Contains_int_int.f (o.length + 1) o x = some (decide (plc o x < o.length)) := by
  unfold slices_Contains_int_int.f
  rw [index_f o x hl]
  simp only [Option.bind_some]
  by_cases h : plc o x < o.length
  · rw [if_pos h]; simp [h]
  · rw [if_neg h]; simp [h]

theorem one_f (x : Ten) : tender_one.f x.f0 x.f1 x.f2 = some (tok x) := by
  unfold tender_one.f rules_Kind.f tok
  by_cases h1 : x.f0 ≥ 1
  · rw [if_pos h1]
    simp only [Option.bind_some]
    by_cases h2 : x.f0 ≤ 9
    · rw [if_pos (by simpa using h2), right_f]
      simp only [Option.bind_some]
      by_cases h3 : rt x.f1 = true
      · rw [if_pos h3]
        have := rt_iff.1 h3
        by_cases h4 : x.f2 ≥ 0
        · rw [if_pos h4]; congr 1; rw [Bool.eq_iff_iff, decide_eq_true_iff, decide_eq_true_iff]; omega
        · rw [if_neg h4]; congr 1; simp; omega
      · have h3' : ¬ (0 ≤ x.f1 ∧ x.f1 ≤ 100000000000000) := fun h => h3 (rt_iff.2 h)
        rw [if_neg h3]; congr 1; simp; omega
    · rw [if_neg (by simpa using h2)]; congr 1; simp; omega
  · rw [if_neg h1]
    simp only [Option.bind_some]
    rw [if_neg (by simp)]; congr 1; simp; omega
theorem rdT_of (l : List Ten) (i : Nat) (h : i < l.length) : rd_T39 l (i : Int) = l[i] := by simp [rd_T39, h]
theorem rdB_of (l : List Bak) (i : Nat) (h : i < l.length) : rd_T34 l (i : Int) = l[i] := by simp [rd_T34, h]
theorem bad_runs (l : List Ten) (hl : l.length ≤ 9223372036854775807) : ∀ (d i k : Nat), i + d = l.length → d < k → (∀ y ∈ l.take i, tok y = true) →
    ∃ r, api_Tender_51.l0 k l l.length i = some r ∧ (0 ≤ r ↔ l.all tok = false) := by
  intro d
  induction d with
  | zero =>
    intro i k hi hk hn
    obtain ⟨k, rfl⟩ : ∃ m, k = m + 1 := ⟨k - 1, by omega⟩
    refine ⟨-1, by rw [api_Tender_51.l0, if_neg (by omega)], ?_⟩
    rw [List.take_of_length_le (by omega)] at hn
    have : l.all tok = true := List.all_eq_true.2 hn
    simp [this]
  | succ d ih =>
    intro i k hi hk hn
    obtain ⟨k, rfl⟩ : ∃ m, k = m + 1 := ⟨k - 1, by omega⟩
    have hlt : i < l.length := by omega
    rw [api_Tender_51.l0, if_pos (by omega), if_pos (by omega), if_pos (by omega), rdT_of l i hlt]
    unfold tender_Right_1.f
    rw [one_f]
    simp only [Option.bind_some]
    by_cases he : tok l[i] = true
    · rw [if_neg (by simp [he]), nxt i (by omega)]
      refine ih (i + 1) k (by omega) (by omega) ?_
      rw [List.take_succ_eq_append_getElem hlt]
      intro y hy
      rcases List.mem_append.1 hy with hy | hy
      · exact hn y hy
      · rw [List.mem_singleton.1 hy]; exact he
    · rw [if_pos (by simp [he])]
      refine ⟨i, rfl, ?_⟩
      have : l.all tok = false := by
        rw [List.all_eq_false]
        exact ⟨l[i], List.getElem_mem hlt, he⟩
      simp [this]
theorem right_t (l : List Ten) (k : Nat) (hk : 10 < k) : tender_Right.f k l = some (tall l) := by
  unfold tender_Right.f
  by_cases h : (l.length : Int) ≤ 6
  · obtain ⟨r, hr, hrr⟩ := bad_runs l (by omega) l.length 0 k (by omega) (by omega) (by simp)
    rw [if_pos h]
    unfold api_Tender_38.f api_Tender_51.f
    rw [show (((0 : Nat) : Int)) = 0 from rfl] at hr
    rw [hr]
    simp only [Option.bind_some]
    congr 1
    unfold tall
    rw [show decide (l.length ≤ 6) = true from decide_eq_true (by omega), Bool.true_and]
    cases ha : l.all tok with
    | true =>
      have : ¬ 0 ≤ r := fun h => by rw [hrr, ha] at h; cases h
      simp [this]
    | false =>
      have : 0 ≤ r := hrr.2 ha
      simp [this]
  · rw [if_neg h]
    unfold tall
    rw [show decide (l.length ≤ 6) = false from decide_eq_false (by omega), Bool.false_and]
theorem left_runs (l : List Ten) (h : ∀ x ∈ l, tok x = true) (hl : l.length ≤ 6) : ∀ (d i k : Nat), i + d = l.length → d < k → tender_Left.l0 k (tsum (l.take i)) l l.length i = some (tsum l) := by
  intro d
  induction d with
  | zero =>
    intro i k hi hk
    obtain ⟨k, rfl⟩ : ∃ m, k = m + 1 := ⟨k - 1, by omega⟩
    rw [tender_Left.l0, if_neg (by omega), List.take_of_length_le (by omega)]
  | succ d ih =>
    intro i k hi hk
    obtain ⟨k, rfl⟩ : ∃ m, k = m + 1 := ⟨k - 1, by omega⟩
    have hlt : i < l.length := by omega
    have hx := tok_iff.1 (h l[i] (List.getElem_mem hlt))
    have hs := tsum_bound (l.take i) (fun x hx => h x (List.mem_of_mem_take hx))
    have hn : tsum (l.take (i + 1)) = tsum (l.take i) + dif l[i] := by
      unfold tsum
      rw [List.take_succ_eq_append_getElem hlt, List.map_append, List.sum_append]; simp
    have hd : dif l[i] = l[i].f1 - l[i].f2 := rfl
    have hll : ((l.take i).length : Int) * 100000000000000 ≤ 6 * 100000000000000 := Int.mul_le_mul_of_nonneg_right (by rw [List.length_take]; omega) (by omega)
    rw [tender_Left.l0, if_pos (by omega), if_pos (by omega), if_pos (by omega), rdT_of l i hlt, nxt i (by omega), show wrap64 (l[i].f1 - l[i].f2) = l[i].f1 - l[i].f2 from wrap_ok (by omega) (by omega), wrap_ok (by omega) (by omega), ← hd, ← hn]
    exact ih (i + 1) k (by omega) (by omega)
theorem left_t (l : List Ten) (k : Nat) (hk : 10 < k) : tender_Left.f k l = some (tleft l) := by
  unfold tender_Left.f tleft
  rw [right_t l k hk]
  simp only [Option.bind_some]
  by_cases h : tall l = true
  · have h2 := tall_iff.1 h
    rw [if_pos h, if_pos h]
    have := left_runs l h2.2 h2.1 l.length 0 k (by omega) (by omega)
    simpa [tsum] using this
  · rw [if_neg h, if_neg h]
end Go.Proofs.Ytebochcdbknodaa.TP
