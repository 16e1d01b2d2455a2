/- Taxes that may be, zones and rates: what the printed functions of rules and of the reference come to. Plain Lean. -/
import Derived.Test.YtdmeepjefccpgaaVNameP
import Derived.Test.YtdmeepjefccpgaaVRwA
import Derived.Test.YtdmeepjefccpgaaVRwAb
import Derived.Test.YtdmeepjefccpgaaVRwGoods
import Derived.Test.YtdmeepjefccpgaaVRwRef10a
-- 17
set_option linter.unusedVariables false
namespace Go.Proofs.Ytdmeepjefccpgaa.XP
open Go Go.RowKit Go.Proofs.YtdmeepjefccpgaaW.PrintWords Go.Proofs.YtdmeepjefccpgaaW.PrintMore Go.Proofs.Ytdmeepjefccpgaa.Rw Go.Proofs.Ytdmeepjefccpgaa.EP Go.Proofs.Ytdmeepjefccpgaa.NP

def rateOk (x : Int) : Bool := decide (0 ≤ x) && decide (x ≤ 10000)
-- 17
-- 17
end Go.Proofs.Ytdmeepjefccpgaa.XP
