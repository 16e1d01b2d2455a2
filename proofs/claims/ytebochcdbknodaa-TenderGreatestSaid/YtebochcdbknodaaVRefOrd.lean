/-
  The reference's order of ranks is the order of ranks: it puts each place in behind all whose ranks are as great. Plain: over the printed function of the reference.
-/
import Derived.Test.YtebochcdbknodaaVRwA
import Derived.Test.YtebochcdbknodaaVQSpec
set_option linter.unusedVariables false
set_option linter.unusedSimpArgs false
namespace Go.Proofs.Ytebochcdbknodaa.RO
open Go Go.RowKit Go.Proofs.YtebochcdbknodaaW.PrintWords Go.Proofs.Ytebochcdbknodaa.QM Go.Proofs.Ytebochcdbknodaa.Rw

theorem wrap_ok {x : Int} (h0 : -9223372036854775808 ≤ x) (h1 : x ≤ 9223372036854775807) : wrap64 x = x := by
  unfold wrap64; omega

theorem rd_of (l : List Int) (i : Nat) (h : i < l.length) : rd l (i : Int) = l[i] := by simp [rd, h]

end Go.Proofs.Ytebochcdbknodaa.RO
