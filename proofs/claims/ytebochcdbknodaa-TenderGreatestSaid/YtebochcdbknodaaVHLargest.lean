/- share.Largest: an amount in parts by weights, as a Lean function, with its contract. -/
import Derived.Test.YtebochcdbknodaaProg
import Derived.Below
import Derived.Deep.Draws
import Derived.Deep.AppendLies
import Derived.Maps.AppendAt
import Derived.OwnWalk
import Derived.Laws.BytesArg
import Derived.Laws.MakeOwn
import Derived.Laws.OwnMore
import Derived.Deep.OwnRows
import Derived.Tactics
import Derived.Lib.ConvBytes
import Derived.Laws.Slices
import Derived.WalkKit
import Derived.KernelRfl
import Derived.RowKit3
import Derived.Deep.LoopGhost
import Derived.Deep.QuietTactic
import Derived.BigQuiet
import Derived.WideLaws
import Derived.Deep.DeepCutAuto
import Derived.Deep.CutBlock
import Derived.Deep.RegionHeld3
import Derived.Laws.Rows
import Derived.Lib.AppendStr
import Derived.ArgAppend
import Derived.Laws.IdiomCopy
import Derived.OrdersHeld
import Derived.Laws.BitsLemmas
import Derived.RowKit
import Derived.BigRegion
import Derived.Outline
import Derived.RegionTactic
import Derived.StillTailTactics
import Derived.Deep.RegionLaw
import Derived.Test.YtebochcdbknodaaVShareP
import Derived.Test.YtebochcdbknodaaVQTop2
set_option linter.unusedVariables false
set_option linter.unusedSimpArgs false
namespace Go.Proofs.Ytebochcdbknodaa.Rw
open Go Go.RowKit Go.Proofs.YtebochcdbknodaaW.PrintWords Go.Proofs.Ytebochcdbknodaa.SP Go.Proofs.Ytebochcdbknodaa.SH Go.Proofs.Ytebochcdbknodaa.QM Go.Proofs.Ytebochcdbknodaa.QR Go.Proofs.Ytebochcdbknodaa.QW

/-- A block of whole numbers. -/
def Blk (T : Nat) (w : World) (r : Nat) (l : List Int) : Prop := w.heap[r]? = some (.cells (l.map (Value.int .i64)).toArray T (0, 0))
theorem Blk.cell {T : Nat} {w : World} {r : Nat} {l : List Int} (h : Blk T w r l) (i : Nat) (hi : i < l.length) : w.cell? ⟨r, i, none⟩ = some (.int .i64 l[i]) := by
  rw [cell_of_row w r i _ T (0, 0) h]; simp [hi]
theorem Blk.free {T : Nat} {w : World} {r : Nat} {l : List Int} (h : Blk T w r l) (k : Nat) : w.frozen? ⟨r, k, none⟩ = false := by
  simp [World.frozen?, (show w.heap[r]? = _ from h)]
theorem Blk.set {T : Nat} {w : World} {r : Nat} {l : List Int} (h : Blk T w r l) (i : Nat) (x : Int) : Blk T (w.setCell ⟨r, i, none⟩ (.int .i64 x)) r (l.set i x) := by
  unfold Blk
  rw [setCell_at h]
  simp [List.map_set]
theorem Blk.lt {T : Nat} {w : World} {r : Nat} {l : List Int} (h : Blk T w r l) : r < w.heap.size := (Array.getElem?_eq_some_iff.1 h).1
theorem Blk.own {T : Nat} {w : World} {r : Nat} {l : List Int} (h : Blk T w r l) (B : Nat) (hB : B ≤ r) (hl : l.length ≤ maxLen) : Kd.R (Kd.int .i64) T w B (fun _ => True) (.slice (some ⟨r, 0, none⟩) l.length l.length) l :=
  Kd.R_of_own (h1 := fun _ => rfl) ⟨by simp [encs], .inr ⟨r, l.length, _, rfl, hB, h, Nat.le_refl _, hl, by simp [Kd.int, Kd.scalar], by simp [encs, Kd.int, Kd.scalar, List.take_of_length_le]⟩⟩ (fun _ _ => trivial)

end Go.Proofs.Ytebochcdbknodaa.Rw
