/- math/bits.Div64 as a Lean function, with its contract. -/
import Derived.Test.YtmiamdnhofjifaaProg
import Derived.Below
import Derived.Deep.Draws
import Derived.Deep.AppendLies
import Derived.Maps.AppendAt
import Derived.OwnWalk
import Derived.Laws.BytesArg
import Derived.Laws.MakeOwn
import Derived.Laws.OwnMore
import Derived.Deep.OwnRows
import Derived.Tactics
import Derived.Lib.ConvBytes
import Derived.Laws.Slices
import Derived.WalkKit
import Derived.KernelRfl
import Derived.RowKit3
import Derived.Deep.LoopGhost
import Derived.Deep.QuietTactic
import Derived.BigQuiet
import Derived.WideLaws
import Derived.Deep.DeepCutAuto
import Derived.Deep.CutBlock
import Derived.Deep.RegionHeld3
import Derived.Laws.Rows
import Derived.Lib.AppendStr
import Derived.ArgAppend
import Derived.Laws.IdiomCopy
import Derived.OrdersHeld
import Derived.Laws.BitsLemmas
import Derived.RowKit
import Derived.BigRegion
import Derived.Outline
import Derived.RegionTactic
import Derived.StillTailTactics
import Derived.Deep.RegionLaw
import Derived.Test.YtmiamdnhofjifaaVRwA
import Derived.Test.YtmiamdnhofjifaaVDivWalk
set_option linter.unusedVariables false
set_option linter.unusedSimpArgs false
namespace Go.Proofs.Ytmiamdnhofjifaa.Rw
open Go Go.RowKit Go.Proofs.YtmiamdnhofjifaaW.PrintWords Go.Proofs.Ytmiamdnhofjifaa.DV

def bits_Div64.f (hi lo y : Int) : Option (Int × Int) :=
  if 0 ≤ hi ∧ hi < y ∧ 0 ≤ lo ∧ lo < 18446744073709551616 ∧ y < 18446744073709551616 then some ((hi * 18446744073709551616 + lo) / y, (hi * 18446744073709551616 + lo) % y) else none
theorem bits_Div64.calls (a0 : Int) (a1 : Int) (a2 : Int) (r1 : Int) (r2 : Int) (w : World) (h : bits_Div64.f a0 a1 a2 = some (r1, r2)) :
    Calls Try.prog 64 #[.int .u64 a0, .int .u64 a1, .int .u64 a2] w fun e w' => e = .returned (.tuple #[.int .u64 r1, .int .u64 r2]) ∧ Drawn0 w w' := by
  unfold bits_Div64.f at h
  by_cases hc : 0 ≤ a0 ∧ a0 < a2 ∧ 0 ≤ a1 ∧ a1 < 18446744073709551616 ∧ a2 < 18446744073709551616
  · rw [if_pos hc] at h
    obtain ⟨h1, h2, h3, h4, h5⟩ := hc
    cases h
    have key : Calls Try.prog 64 #[.int .u64 a0, .int .u64 a1, .int .u64 a2] w fun e w' => e = .returned (.tuple #[.int .u64 ((a0 * 18446744073709551616 + a1) / a2), .int .u64 ((a0 * 18446744073709551616 + a1) % a2)]) ∧ ∃ k, w' = w.drewN k := by
      rcases Int.lt_or_le 0 a0 with h | h
      · exact div64_great a0 a1 a2 w h3 h4 h h2 h5
      · obtain rfl : a0 = 0 := by omega
        refine (div64_small a1 a2 w h3 h4 (by omega) h5).mono ?_
        rintro e w' ⟨rfl, k, rfl⟩
        exact ⟨by rw [Int.zero_mul, Int.zero_add], k, rfl⟩
    exact key.mono fun e w' ⟨he, k, hk⟩ => ⟨he, ⟨⟨k, hk⟩⟩⟩
  · rw [if_neg hc] at h
    cases h

def bits_Mul64.f (a b : Int) : Option (Int × Int) :=
  if 0 ≤ a ∧ a < 18446744073709551616 ∧ 0 ≤ b ∧ b < 18446744073709551616 then some (a * b / 18446744073709551616, a * b % 18446744073709551616) else none
theorem bits_Mul64.calls (a0 : Int) (a1 : Int) (r1 : Int) (r2 : Int) (w : World) (h : bits_Mul64.f a0 a1 = some (r1, r2)) :
    Calls Try.prog 63 #[.int .u64 a0, .int .u64 a1] w fun e w' => e = .returned (.tuple #[.int .u64 r1, .int .u64 r2]) ∧ Drawn0 w w' := by
  unfold bits_Mul64.f at h
  by_cases hc : 0 ≤ a0 ∧ a0 < 18446744073709551616 ∧ 0 ≤ a1 ∧ a1 < 18446744073709551616
  · rw [if_pos hc] at h
    obtain ⟨h1, h2, h3, h4⟩ := hc
    obtain ⟨a, rfl⟩ : ∃ n : Nat, a0 = (n : Int) := ⟨a0.toNat, by omega⟩
    obtain ⟨b, rfl⟩ : ∃ n : Nat, a1 = (n : Int) := ⟨a1.toNat, by omega⟩
    cases h
    refine (Sh.Try.bits_Mul64 a b (by omega) (by omega) w).mono ?_
    rintro e w' ⟨rfl, rfl⟩
    exact ⟨by rw [← Int.natCast_mul]; rfl, Drawn0.refl _⟩
  · rw [if_neg hc] at h
    cases h
end Go.Proofs.Ytmiamdnhofjifaa.Rw
