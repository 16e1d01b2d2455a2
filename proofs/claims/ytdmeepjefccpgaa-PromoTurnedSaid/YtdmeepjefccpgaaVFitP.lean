/- Rules that may be fit: their names and lists are short. Plain Lean. -/
import Derived.Test.YtdmeepjefccpgaaVRulesP
import Derived.Test.YtdmeepjefccpgaaVRightQ
import Derived.Test.YtdmeepjefccpgaaVHAll2
import Derived.Test.YtdmeepjefccpgaaVRwA
import Derived.Test.YtdmeepjefccpgaaVRwGoods
import Derived.Test.YtdmeepjefccpgaaVRwRules
set_option linter.unusedVariables false
set_option linter.unusedSimpArgs false
namespace Go.Proofs.Ytdmeepjefccpgaa.RU
open Go Go.RowKit Go.Proofs.YtdmeepjefccpgaaW.PrintWords Go.Proofs.YtdmeepjefccpgaaW.PrintMore Go.Proofs.Ytdmeepjefccpgaa.Rw Go.Proofs.Ytdmeepjefccpgaa.EP Go.Proofs.Ytdmeepjefccpgaa.NP Go.Proofs.Ytdmeepjefccpgaa.PP
open Go.Proofs.Ytdmeepjefccpgaa.XP (taxOk zoneOk ratesOk Zn)
theorem name_fit {s : ByteArray} (h : nameOk s = true) : s.size ≤ 9223372036854775807 := by
  unfold nameOk at h
  simp only [Bool.and_eq_true, decide_eq_true_eq] at h
  omega
theorem named_fit {s : ByteArray} (h : namedOk s = true) : s.size ≤ 9223372036854775807 := by
  unfold namedOk at h
  simp only [Bool.or_eq_true, decide_eq_true_eq] at h
  rcases h with h | h
  · have : s.size = 0 := by
      have h2 : s.toList.length = 0 := by rw [h]; rfl
      rw [ByteArray.toList_eq] at h2
      exact h2
    omega
  · exact name_fit h
theorem names_fit {m : Nat} {l : List ByteArray} (hm : m ≤ 9223372036854775807) (h : namesOk m l = true) : fitL l := by
  unfold namesOk at h
  simp only [Bool.and_eq_true, decide_eq_true_eq] at h
  refine ⟨by omega, fun s hs => ?_⟩
  obtain ⟨j, hj, rfl⟩ := List.getElem_of_mem hs
  have := allTo_iff.1 h.2 j hj
  have e : nm l j = l[j] := by unfold nm; rw [List.getD_eq_getElem?_getD, List.getElem?_eq_getElem hj]; rfl
  rw [e] at this
  exact name_fit this
theorem scope_fit {a b : List ByteArray} (h : scopeOk a b = true) : fitL a ∧ fitL b := by
  unfold scopeOk at h
  simp only [Bool.and_eq_true] at h
  exact ⟨names_fit (by omega) h.1, names_fit (by omega) h.2⟩
theorem parts_fit {l : List (S65)} (h : l.length = 0 ∨ partsOk l = true) : l.length ≤ 9223372036854775807 ∧ ∀ i, i < l.length → fitP (rd_T65 l (i : Int)) := by
  rcases h with h | h
  · exact ⟨by omega, fun i hi => by omega⟩
  · unfold partsOk at h
    simp only [Bool.and_eq_true, decide_eq_true_eq] at h
    refine ⟨by omega, fun i hi => ?_⟩
    have := allTo_iff.1 h.2 i hi
    unfold partOk at this
    simp only [Bool.and_eq_true] at this
    exact scope_fit this.1.1
theorem kind_parts {k : Int} {cl : Bool} {n6 n7 : Nat} {a9 a10 a11 a12 : Int} {l13 : List (S65)} {l14 : List (S67)} (h : kindR k cl n6 n7 a9 a10 a11 a12 l13 l14 = true) : (l13.length = 0 ∨ partsOk l13 = true) ∧ (l14.length = 0 ∨ tiersOk l14 = true) := by
  unfold kindR at h
  repeat' split at h
  all_goals simp only [Bool.and_eq_true, decide_eq_true_eq] at h
  · exact ⟨.inl h.2.2.2.1, .inl h.2.2.2.2⟩
  · exact ⟨.inl h.2.2.2.1, .inl h.2.2.2.2⟩
  · exact ⟨.inl h.2.2.2.1, .inl h.2.2.2.2⟩
  · exact ⟨.inr h.2.2.2.1, .inl h.2.2.2.2.1⟩
  · exact ⟨.inl h.2.2.2.1, .inl h.2.2.2.2.1⟩
  · exact ⟨.inl h.2.2.2.1, .inr h.2.2.2.2⟩
theorem tiers_fit {l : List (S67)} (h : l.length = 0 ∨ tiersOk l = true) : l.length ≤ 9223372036854775807 := by
  rcases h with h | h
  · omega
  · unfold tiersOk at h
    simp only [Bool.and_eq_true, decide_eq_true_eq] at h
    omega
theorem pm_fit {x : Pm} (h : pmOk x = true) : fitPm x := by
  unfold pmOk refOk at h
  simp only [Bool.and_eq_true] at h
  obtain ⟨h0, _, _, _, _, h3, h4, h6, _, hk⟩ := h
  have hp := kind_parts hk
  have hs := scope_fit h6
  have hq := parts_fit hp.1
  exact ⟨name_fit h0, named_fit h3, named_fit h4, hs.1, hs.2, hq.1, tiers_fit hp.2, hq.2⟩
end Go.Proofs.Ytdmeepjefccpgaa.RU
