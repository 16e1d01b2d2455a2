/- The statements of layer 3: what their helpers come to. Plain Lean. -/
import Derived.Test.YtegjbbblpnenfaaVRwL03
import Derived.Test.YtegjbbblpnenfaaVRwMon
import Derived.Test.YtegjbbblpnenfaaVRwPlain
import Derived.Test.YtegjbbblpnenfaaVShareP
import Derived.Test.YtegjbbblpnenfaaVHLargest
set_option linter.unusedVariables false
set_option linter.unusedSimpArgs false
namespace Go.Proofs.Ytegjbbblpnenfaa.L3
open Go Go.RowKit Go.Proofs.YtegjbbblpnenfaaW.PrintWords Go.Proofs.Ytegjbbblpnenfaa.Rw Go.Proofs.Ytegjbbblpnenfaa.SP Go.Proofs.Ytegjbbblpnenfaa.SH

/-- A number from 0 to below m. -/
def md (a m : Int) : Int := IntKind.u64.wrap a % m
theorem next (i : Nat) (h : i < 9223372036854775807) : wrap64 ((i : Int) + 1) = ((i + 1 : Nat) : Int) := by rw [wrap_ok (by omega) (by omega)]; omega

theorem same_runs (a b : List Int) (hl : a.length = b.length) (hm : a.length ≤ 9223372036854775807) : ∀ (d i k : Nat), i + d = a.length → d < k → a.take i = b.take i →
    haberdashhelp_Same_int64.l0 k a b i = some (decide (a = b)) := by
  intro d
  induction d with
  | zero =>
    intro i k hi hk he
    obtain ⟨k, rfl⟩ : ∃ m, k = m + 1 := ⟨k - 1, by omega⟩
    rw [haberdashhelp_Same_int64.l0, if_neg (by omega)]
    rw [List.take_of_length_le (by omega), List.take_of_length_le (by omega)] at he
    simp [he]
  | succ d ih =>
    intro i k hi hk he
    obtain ⟨k, rfl⟩ : ∃ m, k = m + 1 := ⟨k - 1, by omega⟩
    have hlt : i < a.length := by omega
    have hlb : i < b.length := by omega
    rw [haberdashhelp_Same_int64.l0, if_pos (by omega), if_pos (by omega), if_pos (by omega), rd_of a i hlt, rd_of b i hlb]
    unfold haberdashhelp_Plain_int64_1.f
    simp only [Option.bind_some]
    by_cases h : a[i] = b[i]
    · rw [if_pos (by simpa using h), next i (by omega)]
      exact ih (i + 1) k (by omega) (by omega) (by rw [List.take_succ_eq_append_getElem hlt, List.take_succ_eq_append_getElem hlb, he, h])
    · rw [if_neg (by simpa using h)]
      have : a ≠ b := by rintro rfl; exact h rfl
      simp [this]
theorem plain_ev (a b : List Int) (hm : a.length ≤ 9223372036854775807) : Ev (fun k => haberdashhelp_Plain_int64.f k a b) (decide (a = b)) := by
  refine ⟨a.length + 1, fun k hk => ?_⟩
  show haberdashhelp_Plain_int64.f k a b = _
  unfold haberdashhelp_Plain_int64.f haberdashhelp_Same_int64.f
  by_cases hl : a.length = b.length
  · rw [if_pos (by omega)]
    have h := same_runs a b hl hm a.length 0 k (by omega) (by omega) rfl
    rw [show (((0 : Nat) : Int)) = 0 from rfl] at h
    rw [h]; rfl
  · rw [if_neg (by omega)]
    have : a ≠ b := by rintro rfl; exact hl rfl
    simp [this]

theorem awake_val : largest 10 [1, 1, 1] = ([4, 3, 3], 0) := by decide +kernel
theorem awake_ev : Ev (fun k => haberdashlaw03_awake.f k) true := by
  unfold haberdashlaw03_awake.f share_Largest.f
  rw [awake_val]
  simp only [Option.bind_some]
  refine (Ev.bind (plain_ev [4, 3, 3] [4, 3, 3] (by decide)) ⟨0, fun k _ => ?_⟩)
  simp

end Go.Proofs.Ytegjbbblpnenfaa.L3
