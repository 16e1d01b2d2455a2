/- The statement LevyAll over lists and numbers: tax on lines that may be, by the program and by the reference. -/
import Derived.Test.YtmiamdnhofjifaaVRwLAll
import Derived.Test.YtmiamdnhofjifaaVL19P
import Derived.Test.YtmiamdnhofjifaaVLevyR2
import Derived.Test.YtmiamdnhofjifaaVKx
set_option linter.unusedVariables false
set_option linter.unusedSimpArgs false
namespace Go.Proofs.Ytmiamdnhofjifaa.Pure
open Go Go.RowKit Go.Proofs.YtmiamdnhofjifaaW.PrintWords Go.Proofs.YtmiamdnhofjifaaW.PrintMore Go.Proofs.Ytmiamdnhofjifaa.Rw Go.Proofs.Ytmiamdnhofjifaa.EP Go.Proofs.Ytmiamdnhofjifaa.XP Go.Proofs.Ytmiamdnhofjifaa.YP Go.Proofs.Ytmiamdnhofjifaa.PX Go.Proofs.Ytmiamdnhofjifaa.L19
open Go.Proofs.Ytmiamdnhofjifaa.MP (md md_range mod_f mod64_f)
theorem few_near (l : List Zn) : few (zns l) := by
  have hz := zns_ok 0 l
  have h := taxOk_zone hz
  refine ⟨by omega, fun z hz => ?_⟩
  have h2 := h.2.2 z hz
  have h3 := zoneOk_len h2
  unfold zoneOk at h2
  simp only [Bool.and_eq_true] at h2
  refine ⟨?_, by omega, fun c hc => ?_⟩
  · have := h2.1
    unfold nameOk at this
    simp only [Bool.and_eq_true, decide_eq_true_eq] at this
    omega
  · have := (ratesOk_mem h2.2.2.2.2 c hc).1
    unfold nameOk at this
    simp only [Bool.and_eq_true, decide_eq_true_eq] at this
    omega
theorem all_awake (x1 : Int) (x2 : Bool) (x3 x4 : List Int) (x5 : Int) (i o : Bool) (k : Int) (l : List Zn) : Ev (fun n => haberdashlaw19_LevyAll.j0 n x1 x2 x3 x4 x5 true i o k l) true :=
  Ev.step (fun n => by rw [haberdashlaw19_LevyAll.j0, if_pos rfl]) (Ev.bind awake_ev (Ev.now _))
theorem LevyAll (x0 : S24) (x1 : Int) (x2 : Bool) (x3 x4 : List Int) (x5 : Int) (g0 : True ∧ (True ∧ ((Lit.int .i64 x0.f2).wf = true ∧ (x0.f3.length ≤ 9223372036854775807 ∧ ∀ y0 ∈ x0.f3, (y0.f0.size ≤ 9223372036854775807 ∧ ((y0.f1.length ≤ 9223372036854775807 ∧ ∀ y1 ∈ y0.f1, (y1.f0.size ≤ 9223372036854775807 ∧ ((Lit.int .i64 y1.f1).wf = true))) ∧ ((Lit.int .i64 y0.f2).wf = true ∧ ((Lit.int .i64 y0.f3).wf = true)))))))) : ∃ k, haberdashlaw19_LevyAll.f k x0.f0 x0.f1 x0.f2 x0.f3 x1 x2 x3 x4 x5 = some true := by
  obtain ⟨i, o, k, l⟩ := x0
  have hl : l.length ≤ 9223372036854775807 := g0.2.2.2.1
  refine Ev.rounds ?_
  show Ev (fun n => haberdashlaw19_LevyAll.f n i o k l x1 x2 x3 x4 x5) true
  unfold haberdashlaw19_LevyAll.f
  refine Ev.bind (few_f i o k l [] x4 hl) ?_
  cases hf : fewOk l [] x4 with
  | false => exact all_awake _ _ _ _ _ _ _ _ _
  | true =>
    have h := fewOk_iff hf
    simp only [if_true]
    by_cases h3 : (x3.length : Int) > 60
    · rw [decide_eq_true h3]; exact all_awake _ _ _ _ _ _ _ _ _
    rw [decide_eq_false h3]
    refine Ev.step (fun n => by rw [haberdashlaw19_LevyAll.j0, if_neg (by simp)]) ?_
    refine Ev.bind (ptax_f i o k l (by omega) (fun z hz => by have := h.2.1 z hz; omega)) ?_
    rw [mod64_f _ _ (by omega) (by omega)]
    have hs := md_range x5 5000 (by omega)
    simp only [Option.bind_some]
    refine Ev.bind (near_f x3 x4 (by omega)) ?_
    rw [PX.zone_f]
    simp only [Option.bind_some]
    refine Ev.bind (levy_f i o (md k 3) (zns l) (zonN (zid x1)) x2 (nearC x3 x4) (nearN x4) (md x5 5000)) ?_
    refine Ev.bind (YR.rlevy_f i o (md k 3) (zns l) (zonN (zid x1)) x2 (nearC x3 x4) (nearN x4) (md x5 5000) (few_near l)) ?_
    have hlen := levyS_len i o (md k 3) (zns l) (zonN (zid x1)) x2 (nearC x3 x4) (nearN x4) (md x5 5000)
    refine Ev.bind awake_ev ?_
    simp only [if_true]
    refine Ev.bind (same5_f _ (by omega) (by omega)) ?_
    rw [near_levy i o x2 k l x1 x3 x4 (md x5 5000) ⟨hs.1, by omega⟩]
    simp only [if_true, outOf]
    exact Ev.now _
end Go.Proofs.Ytmiamdnhofjifaa.Pure
