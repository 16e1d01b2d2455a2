/- Taxes that are in prices: no more than what is taxed. Plain Lean. -/
import Derived.Test.YtndecmbcekdafaaVLevyP
import Derived.Test.YtndecmbcekdafaaVSpecS2
set_option linter.unusedVariables false
namespace Go.Proofs.Ytndecmbcekdafaa.LB
open Go Go.RowKit Go.Proofs.Ytndecmbcekdafaa.QM Go.Proofs.Ytndecmbcekdafaa.SP Go.Proofs.Ytndecmbcekdafaa.GP Go.Proofs.Ytndecmbcekdafaa.LV Go.Proofs.Ytndecmbcekdafaa.YP Go.Proofs.Ytndecmbcekdafaa.MN

theorem mch_le (k x r : Int) (hx : 0 ≤ x) (hr : 0 ≤ r ∧ r ≤ 10000) : mch true k x r ≤ x := by
  unfold mch den times
  simp only [if_true]
  split
  · exact hx
  · rename_i h
    have h2 := asked_iff.1 (by simpa using h)
    split
    · exact hx
    · split
      · exact hx
      · show rnd k (x * r / (10000 + r)) (x * r % (10000 + r)) (10000 + r) ≤ x
        have hd : 0 < 10000 + r := by omega
        rcases Int.lt_or_le 0 x with h0 | h0
        · have h3 : x * r < x * (10000 + r) := Int.mul_lt_mul_of_pos_left (by omega) h0
          have h4 : x * r / (10000 + r) < x := Int.ediv_lt_of_lt_mul hd h3
          unfold rnd
          repeat' split
          all_goals omega
        · obtain rfl : x = 0 := by omega
          rw [Int.zero_mul, Int.zero_ediv, Int.zero_emod]
          unfold rnd
          repeat' split
          all_goals omega
/-- A part of an amount that is no more than the weights' sum is no more than its weight. -/
theorem part_le (total : Int) (ws : List Int) (h0 : ∀ x ∈ ws, 0 ≤ x) (hS : 0 < ws.sum) (ht : 0 ≤ total ∧ total ≤ ws.sum) (i : Nat) (hi : i < ws.length) : 0 ≤ (parts total ws).getD i 0 ∧ (parts total ws).getD i 0 ≤ ws.getD i 0 := by
  have hg := parts_get total ws i hi
  have hw := h0 _ (List.getElem_mem hi)
  have hwd : ws.getD i 0 = ws[i] := by simp [hi]
  have hq0 : 0 ≤ total * ws[i] / ws.sum := Int.ediv_nonneg (Int.mul_nonneg ht.1 hw) (by omega)
  have hm : total * ws[i] ≤ ws.sum * ws[i] := Int.mul_le_mul_of_nonneg_right ht.2 hw
  have hq1 : total * ws[i] / ws.sum ≤ ws[i] := by
    have := Int.ediv_le_ediv hS hm
    rwa [Int.mul_ediv_cancel_left _ (by omega)] at this
  have hgd : (parts total ws).getD i 0 = (parts total ws)[i]'(by rw [parts_length]; exact hi) := by simp [parts_length, hi]
  rw [hwd, hgd, hg]
  split
  · rename_i hin
    refine ⟨by omega, ?_⟩
    have hrem := more_rest total ws hS i hi hin
    have hrem0 := Int.emod_nonneg (total * ws[i]) (show ws.sum ≠ 0 by omega)
    have hdm := Int.mul_ediv_add_emod (total * ws[i]) ws.sum
    rcases Int.lt_or_le (total * ws[i] / ws.sum) ws[i] with h | h
    · omega
    · have e : total * ws[i] / ws.sum = ws[i] := by omega
      rw [e] at hdm
      omega
  · omega
theorem lp_le (k r : Int) (ws : List Int) (hr : 0 ≤ r ∧ r ≤ 10000) (h0 : ∀ x ∈ ws, 0 ≤ x) (i : Nat) (hi : i < ws.length) : (lp true k r ws).getD i 0 ≤ ws.getD i 0 := by
  have hwd : ws.getD i 0 = ws[i] := by simp [hi]
  have hw := h0 _ (List.getElem_mem hi)
  unfold lp largest
  split
  · show ([] : List Int).getD i 0 ≤ _
    rw [hwd]
    exact hw
  · split
    · show (List.replicate ws.length (0 : Int)).getD i 0 ≤ _
      simp [hi]
      exact hw
    · rename_i h1 h2
      have hs := sum_nonneg ws h0
      exact (part_le _ ws h0 (by omega) ⟨(mch_range _ _ _ _).1, mch_le k _ r hs hr⟩ i hi).2
theorem tax_le (byo : Bool) (k : Int) (rs ns : List Int) (hl : rs.length = ns.length) (hn : ns.length ≤ 1000) (h0 : ∀ x ∈ ns, 0 ≤ x) (hs : ns.sum ≤ 10000000000000) (hr : ∀ r ∈ rs, 0 ≤ r ∧ r ≤ 10000) (i : Nat) (hi : i < ns.length) : (taxesOf true byo k rs ns).getD i 0 ≤ ns.getD i 0 := by
  have hir : i < rs.length := by omega
  have hrr := hr _ (List.getElem_mem hir)
  have hrd : rs.getD i 0 = rs[i] := by simp [hir]
  have hnd : ns.getD i 0 = ns[i] := by simp [hi]
  unfold taxesOf
  split
  · have hw : (whole (lp true k) rs ns).getD i 0 = val (lp true k) rs ns i := by simp [whole, hir]
    rw [hw]
    unfold val
    rw [hrd]
    have hm : (i : Int) ∈ pls rs rs[i] := pls_mem.2 ⟨i, hir, rfl, rfl⟩
    have hx := List.idxOf_lt_length_of_mem hm
    have hg := group_ok hl h0 hs hn rs[i]
    have h := lp_le k rs[i] (pick ns (pls rs rs[i])) hrr (fun x hx => (hg.2.1 x hx).1) ((pls rs rs[i]).idxOf (i : Int)) (by rw [pick_length]; exact hx)
    have e : (pick ns (pls rs rs[i])).getD ((pls rs rs[i]).idxOf (i : Int)) 0 = ns.getD i 0 := by
      unfold pick
      rw [List.getD_eq_getElem?_getD, List.getElem?_map, List.getElem?_eq_getElem hx, List.getElem_idxOf hx]
      simp
    omega
  · have e : (List.zipWith (fun x r => mch true k x r) ns rs).getD i 0 = mch true k ns[i] rs[i] := by
      rw [List.getD_eq_getElem?_getD, List.getElem?_eq_getElem (by rw [List.length_zipWith]; omega), List.getElem_zipWith]
      rfl
    rw [e, hnd]
    exact mch_le k _ _ (h0 _ (List.getElem_mem hi)) hrr
end Go.Proofs.Ytndecmbcekdafaa.LB
