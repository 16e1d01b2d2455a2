/- rules.Same of what is empty: true. Of other rules this contract tells nothing. -/
import Derived.Test.YtgfhjamaabaleaaProg
import Derived.Below
import Derived.Deep.Draws
import Derived.Deep.AppendLies
import Derived.Maps.AppendAt
import Derived.OwnWalk
import Derived.Laws.BytesArg
import Derived.Laws.MakeOwn
import Derived.Laws.OwnMore
import Derived.Deep.OwnRows
import Derived.Tactics
import Derived.Lib.ConvBytes
import Derived.Laws.Slices
import Derived.WalkKit
import Derived.KernelRfl
import Derived.RowKit3
import Derived.Deep.LoopGhost
import Derived.Deep.QuietTactic
import Derived.BigQuiet
import Derived.WideLaws
import Derived.Deep.DeepCutAuto
import Derived.Deep.CutBlock
import Derived.Deep.RegionHeld3
import Derived.Laws.Rows
import Derived.Lib.AppendStr
import Derived.ArgAppend
import Derived.Laws.IdiomCopy
import Derived.OrdersHeld
import Derived.Laws.BitsLemmas
import Derived.RowKit
import Derived.BigRegion
import Derived.Outline
import Derived.RegionTactic
import Derived.StillTailTactics
import Derived.Deep.RegionLaw
import Derived.Test.YtgfhjamaabaleaaVHSameW
import Derived.Test.YtgfhjamaabaleaaVHSameA
set_option linter.unusedVariables false
namespace Go.Proofs.Ytgfhjamaabaleaa.Rw
open Go Go.RowKit Go.Proofs.YtgfhjamaabaleaaW.PrintWords Go.Proofs.YtgfhjamaabaleaaW.PrintMore Go.Proofs.Ytgfhjamaabaleaa.HS
def rules_Same.f (l0_0 : (List (S66))) (l0_1 : (List (S73))) (a0_2 : Bool) (a0_3 : Bool) (a0_4 : Int) (l0_5 : (List (S28))) (a0_6 : Int) (a0_7 : Int) (a0_8 : Int) (a0_9 : Int) (a0_10 : Int) (a0_11 : Int) (l0_12 : (List Int)) (l0_13 : (List Int)) (l1_0 : (List (S66))) (l1_1 : (List (S73))) (a1_2 : Bool) (a1_3 : Bool) (a1_4 : Int) (l1_5 : (List (S28))) (a1_6 : Int) (a1_7 : Int) (a1_8 : Int) (a1_9 : Int) (a1_10 : Int) (a1_11 : Int) (l1_12 : (List Int)) (l1_13 : (List Int)) : Option (Bool) := if l0_0.length = 0 ∧ l0_1.length = 0 ∧ l0_5.length = 0 ∧ l0_12.length = 0 ∧ l0_13.length = 0 ∧ l1_0.length = 0 ∧ l1_1.length = 0 ∧ l1_5.length = 0 ∧ l1_12.length = 0 ∧ l1_13.length = 0 ∧ a0_2 = a1_2 ∧ a0_3 = a1_3 ∧ a0_4 = a1_4 ∧ a0_6 = a1_6 ∧ a0_7 = a1_7 ∧ a0_8 = a1_8 ∧ a0_9 = a1_9 ∧ a0_10 = a1_10 ∧ a0_11 = a1_11 then some true else none
theorem rules_Same.calls (A0_0 : Option Addr) (c0_0 : Nat) (l0_0 : (List (S66))) (A0_1 : Option Addr) (c0_1 : Nat) (l0_1 : (List (S73))) (a0_2 : Bool) (a0_3 : Bool) (a0_4 : Int) (A0_5 : Option Addr) (c0_5 : Nat) (l0_5 : (List (S28))) (a0_6 : Int) (a0_7 : Int) (a0_8 : Int) (a0_9 : Int) (a0_10 : Int) (a0_11 : Int) (A0_12 : Option Addr) (c0_12 : Nat) (l0_12 : (List Int)) (A0_13 : Option Addr) (c0_13 : Nat) (l0_13 : (List Int)) (A1_0 : Option Addr) (c1_0 : Nat) (l1_0 : (List (S66))) (A1_1 : Option Addr) (c1_1 : Nat) (l1_1 : (List (S73))) (a1_2 : Bool) (a1_3 : Bool) (a1_4 : Int) (A1_5 : Option Addr) (c1_5 : Nat) (l1_5 : (List (S28))) (a1_6 : Int) (a1_7 : Int) (a1_8 : Int) (a1_9 : Int) (a1_10 : Int) (a1_11 : Int) (A1_12 : Option Addr) (c1_12 : Nat) (l1_12 : (List Int)) (A1_13 : Option Addr) (c1_13 : Nat) (l1_13 : (List Int)) (r : Bool) (w : World) (hr0_0 : Kd.C k66 w A0_0 l0_0.length l0_0) (hc0_0 : l0_0.length ≤ c0_0) (hr0_1 : Kd.C k73 w A0_1 l0_1.length l0_1) (hc0_1 : l0_1.length ≤ c0_1) (hr0_5 : Kd.C k28 w A0_5 l0_5.length l0_5) (hc0_5 : l0_5.length ≤ c0_5) (hr0_12 : Kd.C (Kd.int .i64) w A0_12 l0_12.length l0_12) (hc0_12 : l0_12.length ≤ c0_12) (hr0_13 : Kd.C (Kd.int .i64) w A0_13 l0_13.length l0_13) (hc0_13 : l0_13.length ≤ c0_13) (hr1_0 : Kd.C k66 w A1_0 l1_0.length l1_0) (hc1_0 : l1_0.length ≤ c1_0) (hr1_1 : Kd.C k73 w A1_1 l1_1.length l1_1) (hc1_1 : l1_1.length ≤ c1_1) (hr1_5 : Kd.C k28 w A1_5 l1_5.length l1_5) (hc1_5 : l1_5.length ≤ c1_5) (hr1_12 : Kd.C (Kd.int .i64) w A1_12 l1_12.length l1_12) (hc1_12 : l1_12.length ≤ c1_12) (hr1_13 : Kd.C (Kd.int .i64) w A1_13 l1_13.length l1_13) (hc1_13 : l1_13.length ≤ c1_13) (h : rules_Same.f l0_0 l0_1 a0_2 a0_3 a0_4 l0_5 a0_6 a0_7 a0_8 a0_9 a0_10 a0_11 l0_12 l0_13 l1_0 l1_1 a1_2 a1_3 a1_4 l1_5 a1_6 a1_7 a1_8 a1_9 a1_10 a1_11 l1_12 l1_13 = some r) :
    Calls Try.prog 17 #[.agg #[.slice A0_0 l0_0.length c0_0, .slice A0_1 l0_1.length c0_1, .bool a0_2, .bool a0_3, .int .i64 a0_4, .slice A0_5 l0_5.length c0_5, .int .i64 a0_6, .int .i64 a0_7, .int .i64 a0_8, .int .i64 a0_9, .int .i64 a0_10, .int .i64 a0_11, .slice A0_12 l0_12.length c0_12, .slice A0_13 l0_13.length c0_13], .agg #[.slice A1_0 l1_0.length c1_0, .slice A1_1 l1_1.length c1_1, .bool a1_2, .bool a1_3, .int .i64 a1_4, .slice A1_5 l1_5.length c1_5, .int .i64 a1_6, .int .i64 a1_7, .int .i64 a1_8, .int .i64 a1_9, .int .i64 a1_10, .int .i64 a1_11, .slice A1_12 l1_12.length c1_12, .slice A1_13 l1_13.length c1_13]] w fun e w' => e = .returned (.bool r) ∧ Below w.heap.size w w' := by
  unfold rules_Same.f at h
  split at h
  rotate_left
  · cases h
  rename_i hall
  obtain rfl := Option.some.inj h
  obtain ⟨e0_0, e0_1, e0_5, e0_12, e0_13, e1_0, e1_1, e1_5, e1_12, e1_13, rfl, rfl, rfl, rfl, rfl, rfl, rfl, rfl, rfl⟩ := hall
  rw [e0_0, e0_1, e0_5, e0_12, e0_13, e1_0, e1_1, e1_5, e1_12, e1_13]
  exact same_walk A0_0 0 c0_0 A0_1 0 c0_1 a0_2 a0_3 a0_4 A0_5 0 c0_5 a0_6 a0_7 a0_8 a0_9 a0_10 a0_11 A0_12 0 c0_12 A0_13 0 c0_13 A1_0 0 c1_0 A1_1 0 c1_1 a0_2 a0_3 a0_4 A1_5 0 c1_5 a0_6 a0_7 a0_8 a0_9 a0_10 a0_11 A1_12 0 c1_12 A1_13 0 c1_13 w true true true true true true true true
    (fun gA gB w' hb hA hB => cl1 gA gB A0_0 A1_0 c0_0 c1_0 w' (blk_cell hA 0 |>.trans rfl) (blk_cell hB 0 |>.trans rfl))
    (fun gA gB w' hb hA hB => cl2 gA gB A0_1 A1_1 c0_1 c1_1 w' (blk_cell hA 1 |>.trans rfl) (blk_cell hB 1 |>.trans rfl))
    (fun gA gB w' hb hA hB => cl3 gA gB a0_2 a0_3 a0_4 w' (blk_cell hA 0 |>.trans rfl) (blk_cell hB 0 |>.trans rfl) (blk_cell hA 1 |>.trans rfl) (blk_cell hB 1 |>.trans rfl) (blk_cell hA 2 |>.trans rfl) (blk_cell hB 2 |>.trans rfl))
    (fun gA gB w' hb hA hB => cl4 gA gB A0_5 A1_5 c0_5 c1_5 w' (blk_cell hA 3 |>.trans rfl) (blk_cell hB 3 |>.trans rfl))
    (fun gA gB w' hb hA hB => cl5 gA gB a0_6 a0_7 w' (blk_cell hA 6 |>.trans rfl) (blk_cell hB 6 |>.trans rfl) (blk_cell hA 7 |>.trans rfl) (blk_cell hB 7 |>.trans rfl))
    (fun gA gB w' hb hA hB => cl6 gA gB a0_8 a0_9 a0_10 w' (blk_cell hA 0 |>.trans rfl) (blk_cell hB 0 |>.trans rfl) (blk_cell hA 1 |>.trans rfl) (blk_cell hB 1 |>.trans rfl) (blk_cell hA 2 |>.trans rfl) (blk_cell hB 2 |>.trans rfl))
    (fun gA gB w' hb hA hB => cl7 gA gB a0_11 w' (blk_cell hA 3 |>.trans rfl) (blk_cell hB 3 |>.trans rfl))
    (fun gA gB w' hb hA hB => cl8 gA gB A0_12 A1_12 A0_13 A1_13 c0_12 c1_12 c0_13 c1_13 w' (blk_cell hA 4 |>.trans rfl) (blk_cell hB 4 |>.trans rfl) (blk_cell hA 5 |>.trans rfl) (blk_cell hB 5 |>.trans rfl) (blk_lt hA) (blk_lt hB))
end Go.Proofs.Ytgfhjamaabaleaa.Rw
