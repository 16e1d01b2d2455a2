/- promo.Right and the reference's answer are one. Plain Lean. -/
import Derived.Test.YtdmeepjefccpgaaVHRight
import Derived.Test.YtdmeepjefccpgaaVRPromoP
set_option linter.unusedVariables false
set_option linter.unusedSimpArgs false
namespace Go.Proofs.Ytdmeepjefccpgaa.PP
open Go Go.RowKit Go.Proofs.YtdmeepjefccpgaaW.PrintWords Go.Proofs.YtdmeepjefccpgaaW.PrintMore Go.Proofs.Ytdmeepjefccpgaa.Rw Go.Proofs.Ytdmeepjefccpgaa.EP Go.Proofs.Ytdmeepjefccpgaa.NP
theorem right_eq (a0_0 : ByteArray) (k : Int) (a0_2 : Int) (a0_3 : ByteArray) (a0_4 : ByteArray) (a0_5 : Bool) (l0_6 : List ByteArray) (l0_7 : List ByteArray) (a0_8 : Int) (a0_9 : Int) (a0_10 : Int) (a0_11 : Int) (a0_12 : Int) (l0_13 : List (S65)) (l0_14 : List (S67)) :
    rightOk a0_0 k a0_2 a0_3 a0_4 a0_5 l0_6 l0_7 a0_8 a0_9 a0_10 a0_11 a0_12 l0_13 l0_14 = refOk a0_0 k a0_2 a0_3 a0_4 a0_5 l0_6 l0_7 a0_8 a0_9 a0_10 a0_11 a0_12 l0_13 l0_14 := by
  have hs6 : scopeOk l0_6 l0_7 = true → l0_6.length ≤ 20 ∧ l0_7.length ≤ 20 := by
    intro h
    unfold scopeOk namesOk at h
    simp only [Bool.and_eq_true, decide_eq_true_eq] at h
    exact ⟨h.1.1.1, h.2.1.1⟩
  unfold rightOk refOk headOk
  by_cases hk1 : 1 ≤ k
  rotate_left
  · rw [decide_eq_false hk1]
    simp
  by_cases hk7 : k ≤ 7
  rotate_left
  · rw [decide_eq_false hk7, decide_eq_false (show ¬ k < 8 by omega)]
    simp
  rw [decide_eq_true hk1, decide_eq_true hk7, decide_eq_true (show k < 8 by omega)]
  by_cases hsc : scopeOk l0_6 l0_7 = true
  rotate_left
  · rw [Bool.not_eq_true] at hsc
    rw [hsc]
    simp
  have h20 := hs6 hsc
  have hw : wrap64 ((l0_6.length : Int) + (l0_7.length : Int)) = (l0_6.length : Int) + (l0_7.length : Int) := wrap_ok (by omega) (by omega)
  have hz : (((l0_6.length : Int) + (l0_7.length : Int)) == 0) = (decide (l0_6.length = 0) && decide (l0_7.length = 0)) := by
    rw [Bool.eq_iff_iff, beq_iff_eq, Bool.and_eq_true, decide_eq_true_eq, decide_eq_true_eq]
    omega
  have key : (plainOk k a0_5 l0_6.length l0_7.length a0_9 a0_10 a0_11 a0_12 l0_13.length l0_14.length && Rw.kindOk k a0_9 a0_10 a0_11 a0_12 l0_13 l0_14) = kindR k a0_5 l0_6.length l0_7.length a0_9 a0_10 a0_11 a0_12 l0_13 l0_14 := by
    unfold plainOk Rw.kindOk kindR plain_1 plain_2 plain_3 plain_4 plain_5 plain_6 plain_7 plain_rated plain_open
    rw [hw, hz]
    have h13 : ((l0_13.length : Int) == 0) = decide (l0_13.length = 0) := len0 _
    have h14 : ((l0_14.length : Int) == 0) = decide (l0_14.length = 0) := len0 _
    have hcases : k = 1 ∨ k = 2 ∨ k = 3 ∨ k = 4 ∨ k = 5 ∨ k = 6 ∨ k = 7 := by omega
    rcases hcases with rfl | rfl | rfl | rfl | rfl | rfl | rfl
    all_goals
      rw [Bool.eq_iff_iff]
      simp [amountOk, buyGetOk, bundleOk]
      try (constructor <;> (intro h; simp_all))
  rw [hsc, ← key]
  simp only [Bool.true_and, Bool.and_true, Bool.and_assoc]
end Go.Proofs.Ytdmeepjefccpgaa.PP
