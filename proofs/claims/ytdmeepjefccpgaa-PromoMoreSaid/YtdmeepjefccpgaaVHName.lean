/- The namers of the statements' plays (Sku, Category, Code), told by a number: what 'some' is handed. -/
import Derived.Test.YtdmeepjefccpgaaProg
import Derived.Below
import Derived.Deep.Draws
import Derived.Deep.AppendLies
import Derived.Maps.AppendAt
import Derived.OwnWalk
import Derived.Laws.BytesArg
import Derived.Laws.MakeOwn
import Derived.Laws.OwnMore
import Derived.Deep.OwnRows
import Derived.Tactics
import Derived.Lib.ConvBytes
import Derived.Laws.Slices
import Derived.WalkKit
import Derived.KernelRfl
import Derived.RowKit3
import Derived.Deep.LoopGhost
import Derived.Deep.QuietTactic
import Derived.BigQuiet
import Derived.WideLaws
import Derived.Deep.DeepCutAuto
import Derived.Deep.CutBlock
import Derived.Deep.RegionHeld3
import Derived.Laws.Rows
import Derived.Lib.AppendStr
import Derived.ArgAppend
import Derived.Laws.IdiomCopy
import Derived.OrdersHeld
import Derived.Laws.BitsLemmas
import Derived.RowKit
import Derived.BigRegion
import Derived.Outline
import Derived.RegionTactic
import Derived.StillTailTactics
import Derived.Deep.RegionLaw
import Derived.Test.YtdmeepjefccpgaaVRwMon
import Derived.Test.YtdmeepjefccpgaaVHFun
set_option linter.unusedVariables false
namespace Go.Proofs.Ytdmeepjefccpgaa.Rw
open Go Go.RowKit Go.Proofs.YtdmeepjefccpgaaW.PrintWords Go.Proofs.YtdmeepjefccpgaaW.PrintMore
def haberdashplay_Zone.f (a0 : Int) (a1 : Int) : Option (ByteArray) :=
  if a0 = 77700000 + 109 then haberdashplay_Sku.f a1
  else if a0 = 77700000 + 20 then haberdashplay_Category.f a1
  else if a0 = 77700000 + 63 then haberdashplay_Code.f a1 else none
theorem haberdashplay_Zone.enter {a0 a1 : Int} {r : ByteArray} (h : haberdashplay_Zone.f a0 a1 = some r) :
    ∃ fn, Try.prog.funcs[HF.wy a0]? = some fn ∧ (fn.name == "runtime.NumGoroutine") = false ∧ fn.body.isSome = true := by
  unfold haberdashplay_Zone.f at h
  split at h
  · rename_i h1
    subst h1
    exact ⟨_, Try.func109, by kernel_rfl, rfl⟩
  · split at h
    · rename_i h1
      subst h1
      exact ⟨_, Try.func20, by kernel_rfl, rfl⟩
    · split at h
      · rename_i h1
        subst h1
        exact ⟨_, Try.func63, by kernel_rfl, rfl⟩
      · cases h
theorem haberdashplay_Zone.calls (a0 : Int) (a1 : Int) (r : ByteArray) (w : World) (h : haberdashplay_Zone.f a0 a1 = some r) :
    Calls Try.prog (HF.wy a0) #[.int .i64 a1] w fun e w' => e = .returned (.string r) ∧ Below w.heap.size w w' := by
  unfold haberdashplay_Zone.f at h
  split at h
  · rename_i h1
    subst h1
    exact haberdashplay_Sku.calls a1 r w h
  · split at h
    · rename_i h1
      subst h1
      exact haberdashplay_Category.calls a1 r w h
    · split at h
      · rename_i h1
        subst h1
        exact haberdashplay_Code.calls a1 r w h
      · cases h
end Go.Proofs.Ytdmeepjefccpgaa.Rw
