/- Kinds of struct types. -/
import Derived.Test.YtgfhjamaabaleaaVRwA
set_option linter.unusedVariables false
namespace Go.Proofs.Ytgfhjamaabaleaa.Rw
open Go Go.RowKit Go.Proofs.YtgfhjamaabaleaaW.PrintWords
structure S24 where
  f0 : Bool
  f1 : Bool
  f2 : Int
  f3 : (List S28)
def k24 : Kd S24 := Kd.iso (Kd.pair Kd.bool (Kd.pair Kd.bool (Kd.pair (Kd.int .i64) (Kd.slice 28 k28)))) (fun x : S24 => (x.f0, x.f1, x.f2, x.f3))
theorem k24_open {w : World} {x : S24} {cs : List Value} (h : k24.K w x cs) : ∃ A3 c3, cs = [.bool x.f0, .bool x.f1, .int .i64 x.f2, .slice A3 x.f3.length c3] ∧ x.f3.length ≤ c3 ∧ k28.C w A3 x.f3.length x.f3 := by
  obtain ⟨_, _, rfl, rfl, ⟨_, _, rfl, rfl, ⟨_, _, rfl, rfl, ⟨A3, c3, rfl, l3, g3⟩⟩⟩⟩ := h
  exact ⟨A3, c3, rfl, l3, g3⟩
end Go.Proofs.Ytgfhjamaabaleaa.Rw
