/- Two lists held against each other: what the printed functions come to. Plain Lean. -/
import Derived.Test.YtmiamdnhofjifaaProg
import Derived.Below
import Derived.Deep.Draws
import Derived.Deep.AppendLies
import Derived.Maps.AppendAt
import Derived.OwnWalk
import Derived.Laws.BytesArg
import Derived.Laws.MakeOwn
import Derived.Laws.OwnMore
import Derived.Deep.OwnRows
import Derived.Tactics
import Derived.Lib.ConvBytes
import Derived.Laws.Slices
import Derived.WalkKit
import Derived.KernelRfl
import Derived.RowKit3
import Derived.Deep.LoopGhost
import Derived.Deep.QuietTactic
import Derived.BigQuiet
import Derived.WideLaws
import Derived.Deep.DeepCutAuto
import Derived.Deep.CutBlock
import Derived.Deep.RegionHeld3
import Derived.Laws.Rows
import Derived.Lib.AppendStr
import Derived.ArgAppend
import Derived.Laws.IdiomCopy
import Derived.OrdersHeld
import Derived.Laws.BitsLemmas
import Derived.RowKit
import Derived.BigRegion
import Derived.Outline
import Derived.RegionTactic
import Derived.StillTailTactics
import Derived.Deep.RegionLaw
import Derived.Test.YtmiamdnhofjifaaVEvP
import Derived.Test.YtmiamdnhofjifaaVRwPlain
set_option linter.unusedVariables false
namespace Go.Proofs.Ytmiamdnhofjifaa.PL
open Go Go.RowKit Go.Proofs.YtmiamdnhofjifaaW.PrintWords Go.Proofs.YtmiamdnhofjifaaW.PrintMore Go.Proofs.Ytmiamdnhofjifaa.Rw Go.Proofs.Ytmiamdnhofjifaa.EP

theorem eq_allTo {α : Type} [DecidableEq α] (d : α) (a b : List α) (hl : a.length = b.length) : allTo (fun j => decide (a.getD j d = b.getD j d)) a.length = decide (a = b) := by
  rw [Bool.eq_iff_iff, allTo_iff, decide_eq_true_eq]
  constructor
  · intro h
    apply List.ext_getElem hl
    intro i h1 h2
    have := h i h1
    simpa [h1, h2] using this
  · rintro rfl
    simp
theorem int64_f (a b : List Int) (hm : a.length ≤ 9223372036854775807) : Ev (fun k => haberdashhelp_Plain_int64.f k a b) (decide (a = b)) := by
  unfold haberdashhelp_Plain_int64.f haberdashhelp_Same_int64.f
  by_cases hl : a.length = b.length
  · simp only [if_pos (show (a.length : Int) = (b.length : Int) by omega)]
    refine Ev.bind ?_ (Ev.now _)
    have := scan_ev (F := fun k i => haberdashhelp_Same_int64.l0 k a b (i : Int)) (n := a.length) (p := fun j => decide (a.getD j 0 = b.getD j 0)) (e := true)
      (Ev.step (fun k => by rw [haberdashhelp_Same_int64.l0, if_neg (by omega)]) (Ev.now _))
      (fun i hi hp r hr => by
        have hp2 := of_decide_eq_true hp
        simp [hi, show i < b.length by omega] at hp2
        exact Ev.step (fun k => by rw [haberdashhelp_Same_int64.l0, if_pos (by omega), if_pos (by omega), if_pos (by omega), rd_of a i hi, rd_of b i (by omega), next i (by omega)]; unfold haberdashhelp_Plain_int64_1.f; rw [Option.bind_some, if_pos (by simpa using hp2)]) hr)
      (fun i hi hp => by
        have hp2 := of_decide_eq_false hp
        simp [hi, show i < b.length by omega] at hp2
        exact Ev.step (fun k => by rw [haberdashhelp_Same_int64.l0, if_pos (by omega), if_pos (by omega), if_pos (by omega), rd_of a i hi, rd_of b i (by omega)]; unfold haberdashhelp_Plain_int64_1.f; rw [Option.bind_some, if_neg (by simpa using hp2)]) (Ev.now _))
    rw [Bool.and_true, eq_allTo 0 a b hl] at this
    exact this
  · simp only [if_neg (show ¬ (a.length : Int) = (b.length : Int) by omega)]
    have : decide (a = b) = false := decide_eq_false (by rintro rfl; exact hl rfl)
    rw [this]
    exact Ev.now _
end Go.Proofs.Ytmiamdnhofjifaa.PL
