/- share.Upto and share.Piece: what the printed functions come to. Plain Lean. -/
import Derived.Test.YtegjbbblpnenfaaVRwShare2
import Derived.Test.YtegjbbblpnenfaaVShareP
set_option linter.unusedVariables false
set_option linter.unusedSimpArgs false
namespace Go.Proofs.Ytegjbbblpnenfaa.SH
open Go Go.RowKit Go.Proofs.YtegjbbblpnenfaaW.PrintWords Go.Proofs.Ytegjbbblpnenfaa.Rw Go.Proofs.Ytegjbbblpnenfaa.SP

def upto (x n k : Int) : Int × Int := if rt x = false ∨ n < 1 ∨ 100000 < n ∨ k < 0 ∨ n < k then (0, 2) else (x * k / n, 0)
def piece (x n a b : Int) : Int × Int := if rt x = false ∨ n < 1 ∨ 100000 < n ∨ a < 0 ∨ b < a ∨ n < b then (0, 2) else (x * b / n - x * a / n, 0)
theorem upto_ok (x n k : Int) (hx : rt x = true) (hn : 1 ≤ n ∧ n ≤ 100000) (hk : 0 ≤ k ∧ k ≤ n) : upto x n k = (x * k / n, 0) := by
  unfold upto; rw [if_neg (by rw [hx]; simp; omega)]
theorem upto_range (x n k : Int) (hx : rt x = true) (hn : 1 ≤ n ∧ n ≤ 100000) (hk : 0 ≤ k ∧ k ≤ n) : 0 ≤ x * k / n ∧ x * k / n ≤ 100000000000000 := by
  have h1 := rt_iff.1 hx
  have h2 : 0 ≤ x * k := Int.mul_nonneg h1.1 hk.1
  have h3 : x * k ≤ 100000000000000 * n := Int.mul_le_mul h1.2 hk.2 hk.1 (by omega)
  refine ⟨Int.ediv_nonneg h2 (by omega), ?_⟩
  have := Int.ediv_le_ediv (show 0 < n by omega) h3
  rw [Int.mul_ediv_cancel _ (by omega)] at this
  exact this
theorem upto_f (x n k : Int) : share_Upto.f x n k = some (upto x n k) := by
  unfold share_Upto.f
  rw [right_f]
  simp only [Option.bind_some]
  by_cases hx : rt x = true
  · rw [if_pos hx]
    by_cases h1 : n < 1
    · rw [if_pos h1]; simp [upto, h1]
    · by_cases h2 : n > 100000
      · rw [if_neg h1, if_pos h2]; unfold upto; rw [if_pos (by omega)]
      · by_cases h3 : k < 0
        · rw [if_neg h1, if_neg h2, if_pos h3]; unfold upto; rw [if_pos (by omega)]
        · by_cases h4 : k > n
          · rw [if_neg h1, if_neg h2, if_neg h3, if_pos h4]; unfold upto; rw [if_pos (by omega)]
          · have hr := upto_range x n k hx ⟨by omega, by omega⟩ ⟨by omega, by omega⟩
            have hx' := rt_iff.1 hx
            have h5 : 0 ≤ x * k := Int.mul_nonneg hx'.1 (by omega)
            have h6 : x * k ≤ 100000000000000 * 100000 := Int.mul_le_mul hx'.2 (by omega) (by omega) (by omega)
            rw [if_neg h1, if_neg h2, if_neg h3, if_neg h4, upto_ok x n k hx ⟨by omega, by omega⟩ ⟨by omega, by omega⟩, u64_ok (x := n) (by omega) (by omega), if_neg (by omega), u64_ok (x := x) (by omega) (by omega), u64_ok (x := k) (by omega) (by omega),
              u64_ok (x := x * k) (by omega) (by omega), Int.tdiv_eq_ediv_of_nonneg h5, u64_ok (x := x * k / n) (by omega) (by omega), wrap_ok (by omega) (by omega)]
  · have hx' : rt x = false := by simpa using hx
    rw [if_neg hx]; simp [upto, hx']
theorem piece_f (x n a b : Int) : share_Piece.f x n a b = some (piece x n a b) := by
  unfold share_Piece.f
  rw [upto_f, upto_f]
  simp only [Option.bind_some]
  by_cases h1 : a > b
  · rw [if_pos h1]; unfold piece; rw [if_pos (by omega)]
  · rw [if_neg h1]
    by_cases h2 : rt x = false ∨ n < 1 ∨ 100000 < n ∨ a < 0 ∨ n < a
    · have e : upto x n a = (0, 2) := by unfold upto; rw [if_pos h2]
      rw [e, if_neg (by simp)]
      unfold piece; rw [if_pos]
      rcases h2 with h | h | h | h | h
      · exact .inl h
      · exact .inr (.inl h)
      · exact .inr (.inr (.inl h))
      · exact .inr (.inr (.inr (.inl h)))
      · exact .inr (.inr (.inr (.inr (.inr (by omega)))))
    · simp only [not_or, Bool.not_eq_false] at h2
      have e1 := upto_ok x n a h2.1 ⟨by omega, by omega⟩ ⟨by omega, by omega⟩
      have hr1 := upto_range x n a h2.1 ⟨by omega, by omega⟩ ⟨by omega, by omega⟩
      rw [e1, if_pos rfl]
      by_cases h3 : n < b
      · have e : upto x n b = (0, 2) := by unfold upto; rw [if_pos (by omega)]
        rw [e, if_neg (by simp)]
        unfold piece; rw [if_pos (by omega)]
      · have e2 := upto_ok x n b h2.1 ⟨by omega, by omega⟩ ⟨by omega, by omega⟩
        have hr2 := upto_range x n b h2.1 ⟨by omega, by omega⟩ ⟨by omega, by omega⟩
        rw [e2, if_pos rfl]
        unfold piece
        rw [if_neg (by rw [h2.1]; simp; omega)]
        show some (wrap64 (x * b / n - x * a / n), 0) = _
        rw [wrap_ok (by omega) (by omega)]
end Go.Proofs.Ytegjbbblpnenfaa.SH
