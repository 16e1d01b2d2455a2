/- The statement ShareAll over lists and numbers: any right total in parts by any weights, by the program and by the reference. -/
import Derived.Test.YtegjbbblpnenfaaRwLAll
import Derived.Test.YtegjbbblpnenfaaL03P
import Derived.Test.YtegjbbblpnenfaaRef01P
set_option linter.unusedVariables false
set_option linter.unusedSimpArgs false
namespace Go.Proofs.Ytegjbbblpnenfaa.Pure
open Go Go.RowKit Go.Proofs.YtegjbbblpnenfaaW.PrintWords Go.Proofs.Ytegjbbblpnenfaa.Rw Go.Proofs.Ytegjbbblpnenfaa.SP Go.Proofs.Ytegjbbblpnenfaa.L3

theorem shareAll_j (x : Int) (l : List Int) (m : Int) (hm : 0 < m) (hm2 : m < 9223372036854775808) (hl : l.length ≤ 9223372036854775807) : Ev (fun k => haberdashlaw03_ShareAll.j0 k x l m) true := by
  refine Ev.step (fun k => by rw [haberdashlaw03_ShareAll.j0]) ?_
  refine Ev.bind ⟨61, fun k hk => weights_f l m hm hm2 hl k (by omega)⟩ ?_
  simp only [share_Largest.f, Option.bind_some]
  refine Ev.bind (RP.largest_f x (wts l m)) ?_
  refine Ev.bind awake_ev ?_
  simp only [if_true]
  refine Ev.bind (plain_ev _ _ (largest_length _ _ (by have := wts_length l m; omega))) ⟨0, fun k _ => ?_⟩
  simp

theorem ShareAll : haberdashlaw03_ShareAll.Pure := by
  intro a0 l1 a2 _ hl _ _
  unfold haberdashlaw03_ShareAll.f
  rw [mod64_f _ _ (by omega) (by omega)]
  simp only [Option.bind_some]
  have hl' : l1.length ≤ 9223372036854775807 := hl
  cases a2 with
  | true => exact (shareAll_j _ l1 2000000000000 (by omega) (by omega) hl').rounds
  | false => exact (shareAll_j _ l1 40 (by omega) (by omega) hl').rounds
end Go.Proofs.Ytegjbbblpnenfaa.Pure
