/- The statement TenderSplits over lists and numbers. -/
import Derived.Test.YtegjbbblpnenfaaVRwLSplits
import Derived.Test.YtegjbbblpnenfaaVL22P
set_option linter.unusedVariables false
set_option linter.unusedSimpArgs false
namespace Go.Proofs.Ytegjbbblpnenfaa.Pure
open Go Go.RowKit Go.Proofs.YtegjbbblpnenfaaW.PrintWords Go.Proofs.Ytegjbbblpnenfaa.Rw Go.Proofs.Ytegjbbblpnenfaa.SP Go.Proofs.Ytegjbbblpnenfaa.ST Go.Proofs.Ytegjbbblpnenfaa.QM Go.Proofs.Ytegjbbblpnenfaa.LT Go.Proofs.Ytegjbbblpnenfaa.MP
theorem splits_awake (x0 : List Ten) (x1 x2 : List Int) (x3 : Int) : Ev (fun k => haberdashlaw22_TenderSplits.j0 k x0 x1 x2 x3 true) true :=
  Ev.step (fun k => by rw [haberdashlaw22_TenderSplits.j0, if_pos rfl]) (Ev.bind awake_ev (Ev.now _))
theorem TenderSplits (x0 : List Ten) (x1 x2 : List Int) (x3 : Int) : ∃ k, haberdashlaw22_TenderSplits.f k x0 x1 x2 x3 = some true := by
  refine Ev.rounds ?_
  unfold haberdashlaw22_TenderSplits.f
  by_cases h0 : (x0.length : Int) > 40
  · simp only [h0, if_true]; exact splits_awake _ _ _ _
  simp only [h0, if_false]
  by_cases h1 : (x1.length : Int) > 40
  · simp only [h1, if_true]; exact splits_awake _ _ _ _
  simp only [h1, if_false]
  by_cases h2 : (x2.length : Int) > 40
  · simp only [h2, decide_true]; exact splits_awake _ _ _ _
  simp only [h2, decide_false]
  have hn := nr_left x0
  have h6 := nr_length x0
  refine Ev.step (fun k => by rw [haberdashlaw22_TenderSplits.j0, if_neg (by simp)]) ?_
  refine Ev.bind (near_f x0 (by omega)) ?_
  refine Ev.bind (RT.left_f (nr x0) (by omega)) ?_
  rw [hn.1, wrap_ok (by omega) (by omega), mod64_f _ _ (by omega) (by omega)]
  simp only [Option.bind_some]
  rw [split_t _ _ _ _ (by omega) (by omega)]
  simp only [Option.bind_some]
  refine Ev.bind (RT.split_f _ _ _ _ (by omega) (by omega) (by omega)) ?_
  refine Ev.bind awake_ev ?_
  simp only [if_true]
  refine Ev.bind (backs_ev _ ?_) ?_
  · unfold split
    split
    · simp
    split
    · simp
    · have := gives_len (nr x0) x1 x2 (md x3 (tsum (nr x0) + 3)) (nr_tall x0)
      show (gives (nr x0) x2 (ord (ranks x1 (nr x0))) (md x3 (tsum (nr x0) + 3))).length ≤ _
      omega
  · simp only [if_true, beq_self_eq_true]
    exact Ev.now _
end Go.Proofs.Ytegjbbblpnenfaa.Pure
