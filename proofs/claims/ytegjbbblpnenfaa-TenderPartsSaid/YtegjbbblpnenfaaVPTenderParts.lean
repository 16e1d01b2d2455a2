/- The statement TenderParts over lists and numbers: a part and the rest, or all at once. -/
import Derived.Test.YtegjbbblpnenfaaVRwLParts
import Derived.Test.YtegjbbblpnenfaaVL22P
set_option linter.unusedVariables false
set_option linter.unusedSimpArgs false
namespace Go.Proofs.Ytegjbbblpnenfaa.Pure
open Go Go.RowKit Go.Proofs.YtegjbbblpnenfaaW.PrintWords Go.Proofs.Ytegjbbblpnenfaa.Rw Go.Proofs.Ytegjbbblpnenfaa.SP Go.Proofs.Ytegjbbblpnenfaa.ST Go.Proofs.Ytegjbbblpnenfaa.QM Go.Proofs.Ytegjbbblpnenfaa.LT Go.Proofs.Ytegjbbblpnenfaa.MP
theorem parts_awake (x0 : List Ten) (x1 x2 : List Int) (x3 x4 : Int) : Ev (fun k => haberdashlaw22_TenderParts.j0 k x0 x1 x2 x3 x4 true) true :=
  Ev.step (fun k => by rw [haberdashlaw22_TenderParts.j0, if_pos rfl]) (Ev.bind awake_ev (Ev.now _))
theorem TenderParts (x0 : List Ten) (x1 x2 : List Int) (x3 x4 : Int) : ∃ k, haberdashlaw22_TenderParts.f k x0 x1 x2 x3 x4 = some true := by
  refine Ev.rounds ?_
  unfold haberdashlaw22_TenderParts.f
  by_cases h0 : (x0.length : Int) > 40
  · simp only [h0, if_true]; exact parts_awake _ _ _ _ _
  simp only [h0, if_false]
  by_cases h1 : (x1.length : Int) > 40
  · simp only [h1, if_true]; exact parts_awake _ _ _ _ _
  simp only [h1, if_false]
  by_cases h2 : (x2.length : Int) > 40
  · simp only [h2, decide_true]; exact parts_awake _ _ _ _ _
  simp only [h2, decide_false]
  have hn := nr_left x0
  have h6 := nr_length x0
  have ht := nr_tall x0
  have hra := md_range x3 (tsum (nr x0) + 1) (by omega)
  have hrb := md_range x4 (md x3 (tsum (nr x0) + 1) + 1) (by omega)
  refine Ev.step (fun k => by rw [haberdashlaw22_TenderParts.j0, if_neg (by simp)]) ?_
  refine Ev.bind (near_f x0 (by omega)) ?_
  refine Ev.bind (RT.left_f (nr x0) (by omega)) ?_
  rw [hn.1, wrap_ok (by omega) (by omega), mod64_f _ _ (by omega) (by omega)]
  simp only [Option.bind_some]
  rw [wrap_ok (by omega) (by omega), mod64_f _ _ (by omega) (by omega)]
  simp only [Option.bind_some]
  generalize md x4 (md x3 (tsum (nr x0) + 1) + 1) = b at *
  generalize md x3 (tsum (nr x0) + 1) = a at *
  generalize nr x0 = l at *
  have g1 := gave l x1 x2 b ht hrb.1
  have hm : mn b (tsum l) = b := by unfold mn; rw [if_neg (by omega)]
  rw [hm] at g1
  have hk1 : ranks x1 (app l (ord (ranks x1 l)) b) = ranks x1 l := kinds_app _ _ _ _
  have g2 := gave (app l (ord (ranks x1 l)) b) x1 x2 (a - b) g1.2.1 (by omega)
  have g3 := gave l x1 x2 a ht hra.1
  have ho := ord_ok l x1
  have happ := app_app (ord (ranks x1 l)) l b (a - b) hrb.1 (by omega) (tall_iff.1 ht).2 ho.1 ho.2.1
  rw [split_t _ _ _ _ (by omega) (by omega), split_ok l x1 x2 b ht (by omega) (by omega)]
  simp only [Option.bind_some]
  have L1 := gives_len l x1 x2 b ht
  have L2 := gives_len (app l (ord (ranks x1 l)) b) x1 x2 (a - b) g1.2.1
  have L3 := gives_len l x1 x2 a ht
  refine Ev.bind (GT.give_t l _ (by omega)) ?_
  rw [g1.1, wrap_ok (by omega) (by omega)]
  simp only
  rw [split_t _ _ _ _ (by omega) (by omega), split_ok _ x1 x2 (a - b) g1.2.1 (by omega) (by omega)]
  simp only [Option.bind_some]
  refine Ev.bind (GT.give_t _ _ (by omega)) ?_
  rw [g2.1, split_t _ _ _ _ (by omega) (by omega), split_ok l x1 x2 a ht (by omega) (by omega)]
  simp only [Option.bind_some]
  refine Ev.bind (GT.give_t l _ (by omega)) ?_
  rw [g3.1]
  refine Ev.bind awake_ev ?_
  simp only [if_true]
  rw [hk1, happ, show b + (a - b) = a from by omega]
  refine Ev.bind (tens_ev _ ?_) (Ev.now _)
  rw [app_length]; omega
end Go.Proofs.Ytegjbbblpnenfaa.Pure
