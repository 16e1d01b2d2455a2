/- Numbers that a statement brings into range. Plain Lean. -/
import Derived.Test.YtdmeepjefccpgaaVRwMon
set_option linter.unusedVariables false
namespace Go.Proofs.Ytdmeepjefccpgaa.MP
open Go Go.RowKit Go.Proofs.YtdmeepjefccpgaaW.PrintWords Go.Proofs.Ytdmeepjefccpgaa.Rw
theorem wrap_ok {x : Int} (h0 : -9223372036854775808 ≤ x) (h1 : x ≤ 9223372036854775807) : wrap64 x = x := by unfold wrap64; omega
/-- A number from 0 to below m. -/
def md (a m : Int) : Int := IntKind.u64.wrap a % m
theorem md_range (a m : Int) (hm : 0 < m) : 0 ≤ md a m ∧ md a m < m := ⟨Int.emod_nonneg _ (by omega), Int.emod_lt_of_pos _ hm⟩
theorem u64_nonneg (a : Int) : 0 ≤ IntKind.u64.wrap a ∧ IntKind.u64.wrap a < 18446744073709551616 := by rw [IntKind.wrap_u64]; omega
theorem u64_ok {x : Int} (h0 : 0 ≤ x) (h1 : x < 18446744073709551616) : IntKind.u64.wrap x = x := by rw [IntKind.wrap_u64]; omega
theorem mod_f (a m : Int) (hm : 0 < m) (hm2 : m < 9223372036854775808) : haberdashplay_Mod.f a m = some (md a m) := by
  unfold haberdashplay_Mod.f
  rw [u64_ok (x := m) (by omega) (by omega), if_neg (by omega), Int.tmod_eq_emod_of_nonneg (u64_nonneg a).1]
  have := md_range a m hm
  unfold md at this ⊢
  rw [wrap_ok (by omega) (by omega)]
theorem next (i : Nat) (h : i < 9223372036854775807) : wrap64 ((i : Int) + 1) = ((i + 1 : Nat) : Int) := by rw [wrap_ok (by omega) (by omega)]; omega
end Go.Proofs.Ytdmeepjefccpgaa.MP
