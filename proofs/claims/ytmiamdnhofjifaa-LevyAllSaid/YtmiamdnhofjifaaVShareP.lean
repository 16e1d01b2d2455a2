/- share.sum and share.part: what the printed functions come to. Plain Lean. -/
import Derived.Test.YtmiamdnhofjifaaVRwShare
import Derived.Test.YtmiamdnhofjifaaVQSpec
set_option linter.unusedVariables false
set_option linter.unusedSimpArgs false
namespace Go.Proofs.Ytmiamdnhofjifaa.SH
open Go Go.RowKit Go.Proofs.YtmiamdnhofjifaaW.PrintWords Go.Proofs.Ytmiamdnhofjifaa.Rw Go.Proofs.Ytmiamdnhofjifaa.SP

theorem wrap_ok {x : Int} (h0 : -9223372036854775808 ≤ x) (h1 : x ≤ 9223372036854775807) : wrap64 x = x := by unfold wrap64; omega
theorem u64_ok {x : Int} (h0 : 0 ≤ x) (h1 : x < 18446744073709551616) : IntKind.u64.wrap x = x := by rw [IntKind.wrap_u64]; omega
theorem rd_of (l : List Int) (i : Nat) (h : i < l.length) : rd l (i : Int) = l[i] := by simp [rd, h]
theorem right_f (n : Int) : money_Right.f n = some (rt n) := by
  unfold money_Right.f rt
  by_cases h : n ≥ 0
  · rw [if_pos h]; simp; omega
  · rw [if_neg h]; simp; omega
theorem add_f (a b : Int) (k : Nat) : money_Add.f (k + 1) a b = some (if rt a = false ∨ rt b = false then (0, 2) else if 100000000000000 < a + b then (0, 5) else (a + b, 0)) := by
  unfold money_Add.f
  rw [right_f]
  simp only [Option.bind_some]
  by_cases ha : rt a = true
  · rw [if_pos ha, right_f]
    simp only [Option.bind_some]
    by_cases hb : rt b = true
    · rw [hb, ha, money_Add.j0, if_neg (by simp)]
      have h1 := rt_iff.1 ha
      have h2 := rt_iff.1 hb
      rw [show wrap64 (100000000000000 - b) = 100000000000000 - b from wrap_ok (by omega) (by omega), show wrap64 (a + b) = a + b from wrap_ok (by omega) (by omega)]
      by_cases h : 100000000000000 < a + b
      · rw [if_pos (by omega)]; simp [h]
      · rw [if_neg (by omega)]; simp [h]
    · have hb' : rt b = false := by simpa using hb
      rw [hb', money_Add.j0, if_pos (by simp), if_pos (by simp)]
  · have ha' : rt a = false := by simpa using ha
    rw [if_neg ha, money_Add.j0, if_pos rfl, if_pos (by simp [ha'])]

theorem add_ok (a b : Int) (k : Nat) (ha : rt a = true) (hb : rt b = true) : money_Add.f (k + 1) a b = some (if 100000000000000 < a + b then (0, 5) else (a + b, 0)) := by
  rw [add_f, ha, hb]; simp

theorem l1_runs (x : Int) (ws : List Int) (hw : ∀ y ∈ ws, rt y = true) (hl : ws.length ≤ 1000000) : ∀ (d i k : Nat), i + d = ws.length → d + 1 < k → (ws.take i).sum ≤ 100000000000000 →
    share_sum.l1 k x (ws.take i).sum ws ws.length i = some (if 100000000000000 < ws.sum then (0, 5) else if ws.sum = 0 ∧ x ≠ 0 then (0, 7) else (ws.sum, 0)) := by
  have hn : ∀ y ∈ ws, 0 ≤ y := fun y hy => (rt_iff.1 (hw y hy)).1
  intro d
  induction d with
  | zero =>
    intro i k hi hk hs
    obtain ⟨k, rfl⟩ : ∃ m, k = m + 1 := ⟨k - 1, by omega⟩
    obtain rfl : i = ws.length := by omega
    rw [List.take_length] at hs ⊢
    rw [share_sum.l1, if_neg (by omega), if_neg (show ¬ 100000000000000 < ws.sum by omega)]
    by_cases h0 : ws.sum = 0
    · rw [if_pos h0]
      by_cases hx : x = 0
      · rw [if_pos hx, if_neg (by simp [hx])]
      · rw [if_neg hx, if_pos ⟨h0, hx⟩]
    · rw [if_neg h0, if_neg (by simp [h0])]
  | succ d ih =>
    intro i k hi hk hs
    obtain ⟨k, rfl⟩ : ∃ m, k = m + 2 := ⟨k - 2, by omega⟩
    have hlt : i < ws.length := by omega
    rw [share_sum.l1, if_pos (by omega), if_pos (by omega), if_pos (by omega), rd_of ws i hlt]
    have h0 := (sum_take_le ws hn i).1
    have h1 : rt (ws.take i).sum = true := rt_iff.2 ⟨h0, hs⟩
    have h2 := hw ws[i] (List.getElem_mem hlt)
    have h3 : (ws.take (i + 1)).sum = (ws.take i).sum + ws[i] := by rw [List.take_succ_eq_append_getElem hlt, List.sum_append]; simp
    rw [add_ok _ _ _ h1 h2]
    simp only [Option.bind_some]
    by_cases h : 100000000000000 < (ws.take i).sum + ws[i]
    · rw [if_pos h, if_neg (by simp), if_pos]
      have := (sum_take_le ws hn (i + 1)).2
      omega
    · rw [if_neg h, if_pos rfl]
      have hw : wrap64 ((i : Int) + 1) = ((i + 1 : Nat) : Int) := by rw [wrap_ok (by omega) (by omega)]; omega
      rw [hw]
      show share_sum.l1 _ _ ((ws.take i).sum + ws[i]) _ _ _ = _
      rw [← h3]
      exact ih (i + 1) (k + 1) (by omega) (by omega) (by omega)

theorem l0_runs (x : Int) (ws : List Int) (hl : ws.length ≤ 1000000) : ∀ (d i k : Nat), i + d = ws.length → d + ws.length + 3 < k → (∀ y ∈ ws.take i, rt y = true) →
    share_sum.l0 k x ws ws ws.length i = some (if ws.all rt = false then (0, 2) else if 100000000000000 < ws.sum then (0, 5) else if ws.sum = 0 ∧ x ≠ 0 then (0, 7) else (ws.sum, 0)) := by
  intro d
  induction d with
  | zero =>
    intro i k hi hk hs
    obtain ⟨k, rfl⟩ : ∃ m, k = m + 1 := ⟨k - 1, by omega⟩
    obtain rfl : i = ws.length := by omega
    rw [List.take_length] at hs
    rw [share_sum.l0, if_neg (by omega), if_neg (by simp; exact hs)]
    have := l1_runs x ws hs hl ws.length 0 k (by omega) (by omega) (by simp)
    simpa using this
  | succ d ih =>
    intro i k hi hk hs
    obtain ⟨k, rfl⟩ : ∃ m, k = m + 1 := ⟨k - 1, by omega⟩
    have hlt : i < ws.length := by omega
    rw [share_sum.l0, if_pos (by omega), if_pos (by omega), if_pos (by omega), rd_of ws i hlt, right_f]
    simp only [Option.bind_some]
    by_cases h : rt ws[i] = true
    · rw [if_pos h]
      have hw : wrap64 ((i : Int) + 1) = ((i + 1 : Nat) : Int) := by rw [wrap_ok (by omega) (by omega)]; omega
      rw [hw]
      refine ih (i + 1) k (by omega) (by omega) ?_
      rw [List.take_succ_eq_append_getElem hlt]
      intro y hy
      rcases List.mem_append.1 hy with hy | hy
      · exact hs y hy
      · rw [List.mem_singleton.1 hy]; exact h
    · rw [if_neg h, if_pos]
      rw [List.all_eq_false]
      exact ⟨ws[i], List.getElem_mem hlt, h⟩

theorem sum_f (x : Int) (ws : List Int) (k : Nat) (hk : 300010 < k) : share_sum.f k x ws = some (sumE x ws) := by
  unfold share_sum.f sumE
  rw [right_f]
  simp only [Option.bind_some]
  obtain ⟨k, rfl⟩ : ∃ m, k = m + 1 := ⟨k - 1, by omega⟩
  by_cases hx : rt x = true
  · rw [if_pos hx, share_sum.j0]
    by_cases hl : (ws.length : Int) > 100000
    · rw [if_pos (by simpa using hl), if_pos (by omega)]
    · rw [if_neg (by simpa using hl)]
      have := l0_runs x ws (by omega) ws.length 0 k (by omega) (by omega) (by simp)
      simp only [Int.ofNat_zero, Int.natCast_zero] at this
      rw [this]
      by_cases ha : ws.all rt = false
      · rw [if_pos ha, if_pos (by simp [ha])]
      · have ha' : ws.all rt = true := by simpa using ha
        rw [if_neg ha]
        conv => rhs; rw [if_neg (by rw [hx, ha']; simp; omega)]
  · have hx' : rt x = false := by simpa using hx
    rw [if_neg hx, share_sum.j0, if_pos rfl, if_pos (by simp [hx'])]

theorem part_f (x w S : Int) (hx : 0 ≤ x ∧ x ≤ 100000000000000) (hw : 0 ≤ w ∧ w ≤ S) (hS : 0 < S ∧ S ≤ 100000000000000) : share_part.f x w S = some (x * w / S, x * w % S) := by
  unfold share_part.f
  rw [u64_ok (by omega) (by omega), u64_ok (by omega) (by omega), u64_ok (by omega) (by omega)]
  unfold bits_Mul64.f
  rw [if_pos (by omega)]
  simp only [Option.bind_some]
  have h0 : 0 ≤ x * w := Int.mul_nonneg hx.1 hw.1
  have h1 : x * w ≤ 100000000000000 * S := Int.mul_le_mul hx.2 hw.2 hw.1 (by omega)
  have hdm := Int.mul_ediv_add_emod (x * w) 18446744073709551616
  unfold bits_Div64.f
  rw [if_pos (by omega)]
  simp only [Option.bind_some]
  have e : x * w / 18446744073709551616 * 18446744073709551616 + x * w % 18446744073709551616 = x * w := by omega
  rw [e]
  have h2 : 0 ≤ x * w / S := Int.ediv_nonneg h0 (by omega)
  have h3 : x * w / S ≤ 100000000000000 := by
    have := Int.ediv_le_ediv hS.1 h1
    rw [Int.mul_ediv_cancel _ (by omega)] at this
    exact this
  have h4 := Int.emod_nonneg (x * w) (show S ≠ 0 by omega)
  have h5 := Int.emod_lt_of_pos (x * w) hS.1
  rw [wrap_ok (by omega) (by omega), wrap_ok (by omega) (by omega)]
end Go.Proofs.Ytmiamdnhofjifaa.SH
