/- haberdashhelp.Zone of a zone and itself: true. Plain Lean. -/
import Derived.Test.YtgfhjamaabaleaaVEvP
import Derived.Test.YtgfhjamaabaleaaVRwHZone
set_option linter.unusedVariables false
namespace Go.Proofs.Ytgfhjamaabaleaa.LRZ
open Go Go.RowKit Go.Proofs.YtgfhjamaabaleaaW.PrintWords Go.Proofs.YtgfhjamaabaleaaW.PrintMore Go.Proofs.Ytgfhjamaabaleaa.Rw Go.Proofs.Ytgfhjamaabaleaa.EP
theorem same_rates (l : List S39) (hl : l.length ≤ 9223372036854775807) : Ev (fun k => api_CatRate_20.f k l l) true := by
  unfold api_CatRate_20.f api_CatRate_42.f
  simp only [if_true]
  refine Ev.bind ?_ (Ev.now _)
  exact walk_ev (F := fun k i => api_CatRate_42.l0 k l l (i : Int)) (n := l.length) (Ev.step (fun k => by rw [api_CatRate_42.l0, if_neg (by omega)]) (Ev.now _))
    (fun i hi r hr => Ev.step (fun k => by rw [api_CatRate_42.l0, if_pos (by omega), if_pos (by omega), if_pos (by omega), next i (by omega)]; unfold api_CatRate_1.f; rw [Option.bind_some, if_pos (by simp)]) hr)
theorem same_zone (a : ByteArray) (l : List S39) (b c : Int) (hl : l.length ≤ 9223372036854775807) : Ev (fun k => haberdashhelp_Zone.f k a l b c a l b c) true := by
  unfold haberdashhelp_Zone.f
  simp only [if_true]
  exact Ev.bind (same_rates l hl) (Ev.now _)
end Go.Proofs.Ytgfhjamaabaleaa.LRZ
