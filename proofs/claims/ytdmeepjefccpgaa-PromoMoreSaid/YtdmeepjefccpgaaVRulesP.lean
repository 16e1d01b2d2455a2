/- Rules that may be: what the printed functions of the program and of the reference come to. Plain Lean. -/
import Derived.Test.YtdmeepjefccpgaaVTaxP
import Derived.Test.YtdmeepjefccpgaaVRPromoP
import Derived.Test.YtdmeepjefccpgaaVRwA
import Derived.Test.YtdmeepjefccpgaaVRwGoods
import Derived.Test.YtdmeepjefccpgaaVRwRef10T
set_option linter.unusedVariables false
set_option linter.unusedSimpArgs false
namespace Go.Proofs.Ytdmeepjefccpgaa.RU
open Go Go.RowKit Go.Proofs.YtdmeepjefccpgaaW.PrintWords Go.Proofs.YtdmeepjefccpgaaW.PrintMore Go.Proofs.Ytdmeepjefccpgaa.Rw Go.Proofs.Ytdmeepjefccpgaa.EP Go.Proofs.Ytdmeepjefccpgaa.NP
open Go.Proofs.Ytdmeepjefccpgaa.PP (refOk rpromo_f fitL fitP found_ge test_ev testP_ev)
abbrev Pm := S60
/-- Promos together, as the reference says it. -/
def pmOk (x : Pm) : Bool := refOk x.f0 x.f1 x.f2 x.f3 x.f4 x.f5 x.f6.f0 x.f6.f1 x.f7 x.f8 x.f9 x.f10 x.f11 x.f12 x.f13
def pmAt (l : List Pm) (i : Nat) : Bool := pmOk (rd_T60 l (i : Int)) && allTo (fun j => !decide ((rd_T60 l (j : Int)).f0.toList = (rd_T60 l (i : Int)).f0.toList)) i
def pmsOk (l : List Pm) : Bool := decide (l.length ≤ 60) && allTo (pmAt l) l.length
def fitPm (x : Pm) : Prop := x.f0.size ≤ 9223372036854775807 ∧ x.f3.size ≤ 9223372036854775807 ∧ x.f4.size ≤ 9223372036854775807 ∧ fitL x.f6.f0 ∧ fitL x.f6.f1 ∧ x.f12.length ≤ 9223372036854775807 ∧ x.f13.length ≤ 9223372036854775807 ∧ ∀ i, i < x.f12.length → fitP (rd_T65 x.f12 (i : Int))
end Go.Proofs.Ytdmeepjefccpgaa.RU
