/- rules.Same of what is empty: its library's functions and its closures, each by a contract. -/
import Derived.Test.YtgfhjamaabaleaaProg
import Derived.Below
import Derived.Deep.Draws
import Derived.Deep.AppendLies
import Derived.Maps.AppendAt
import Derived.OwnWalk
import Derived.Laws.BytesArg
import Derived.Laws.MakeOwn
import Derived.Laws.OwnMore
import Derived.Deep.OwnRows
import Derived.Tactics
import Derived.Lib.ConvBytes
import Derived.Laws.Slices
import Derived.WalkKit
import Derived.KernelRfl
import Derived.RowKit3
import Derived.Deep.LoopGhost
import Derived.Deep.QuietTactic
import Derived.BigQuiet
import Derived.WideLaws
import Derived.Deep.DeepCutAuto
import Derived.Deep.CutBlock
import Derived.Deep.RegionHeld3
import Derived.Laws.Rows
import Derived.Lib.AppendStr
import Derived.ArgAppend
import Derived.Laws.IdiomCopy
import Derived.OrdersHeld
import Derived.Laws.BitsLemmas
import Derived.RowKit
import Derived.BigRegion
import Derived.Outline
import Derived.RegionTactic
import Derived.StillTailTactics
import Derived.Deep.RegionLaw
import Derived.Test.YtgfhjamaabaleaaVRwA
set_option linter.unusedVariables false
set_option linter.unusedSimpArgs false
namespace Go.Proofs.Ytgfhjamaabaleaa.HS
open Go Go.RowKit Go.Proofs.YtgfhjamaabaleaaW.PrintWords Go.Proofs.YtgfhjamaabaleaaW.PrintMore Go.Proofs.Ytgfhjamaabaleaa.Rw
set_option maxRecDepth 100000 in
theorem eqI (A0 A1 : Option Addr) (c0 c1 : Nat) (w : World) : Calls Try.prog 28 #[.slice A0 0 c0, .slice A1 0 c1] w fun e w' => e = .returned (.bool true) ∧ Below w.heap.size w w' := by
  go_enter Try.func28, Try.ntmps28
  go_wp2
  refine wp_loop_rounds 1 ?_
  rw [rounds_succ]
  go_wp2
  go_ret
  exact ⟨rfl, Below.refl _ _⟩
set_option maxRecDepth 100000 in
theorem eqP (A0 A1 : Option Addr) (c0 c1 : Nat) (w : World) : Calls Try.prog 30 #[.slice A0 0 c0, .slice A1 0 c1, .func (.func 31) #[] #[]] w fun e w' => e = .returned (.bool true) ∧ Below w.heap.size w w' := by
  go_enter Try.func30, Try.ntmps30
  go_wp2
  refine wp_loop_rounds 1 ?_
  rw [rounds_succ]
  go_wp2
  go_ret
  exact ⟨rfl, Below.refl _ _⟩
set_option maxRecDepth 100000 in
theorem eqZ (A0 A1 : Option Addr) (c0 c1 : Nat) (w : World) : Calls Try.prog 34 #[.slice A0 0 c0, .slice A1 0 c1, .func (.func 35) #[] #[]] w fun e w' => e = .returned (.bool true) ∧ Below w.heap.size w w' := by
  go_enter Try.func34, Try.ntmps34
  go_wp2
  refine wp_loop_rounds 1 ?_
  rw [rounds_succ]
  go_wp2
  go_ret
  exact ⟨rfl, Below.refl _ _⟩
set_option maxRecDepth 100000 in
theorem eqN (A0 A1 : Option Addr) (c0 c1 : Nat) (w : World) : Calls Try.prog 40 #[.slice A0 0 c0, .slice A1 0 c1] w fun e w' => e = .returned (.bool true) ∧ Below w.heap.size w w' := by
  go_enter Try.func40, Try.ntmps40
  go_wp2
  refine wp_loop_rounds 1 ?_
  rw [rounds_succ]
  go_wp2
  go_ret
  exact ⟨rfl, Below.refl _ _⟩
set_option maxRecDepth 100000 in
theorem cl1 (g0 g1 : Nat) (A0 A1 : Option Addr) (c0 c1 : Nat) (w : World) (h0 : w.cell? ⟨g0, 0, none⟩ = some (.slice A0 0 c0)) (h1 : w.cell? ⟨g1, 0, none⟩ = some (.slice A1 0 c1)) : Calls Try.prog 27 #[.pointer (some ⟨g0, 0, none⟩), .pointer (some ⟨g1, 0, none⟩)] w fun e w' => e = .returned (.bool true) ∧ Below w.heap.size w w' := by
  go_enter Try.func27, Try.ntmps27
  go_wp2_with (go_at_call 28; refine (eqI A0 A1 c0 c1 _).mono ?_; rintro e w' ⟨rfl, hb⟩)
  go_ret
  exact ⟨rfl, hb⟩
set_option maxRecDepth 100000 in
theorem cl2 (g0 g1 : Nat) (A0 A1 : Option Addr) (c0 c1 : Nat) (w : World) (h0 : w.cell? ⟨g0, 1, none⟩ = some (.slice A0 0 c0)) (h1 : w.cell? ⟨g1, 1, none⟩ = some (.slice A1 0 c1)) : Calls Try.prog 29 #[.pointer (some ⟨g0, 0, none⟩), .pointer (some ⟨g1, 0, none⟩)] w fun e w' => e = .returned (.bool true) ∧ Below w.heap.size w w' := by
  go_enter Try.func29, Try.ntmps29
  go_wp2_with (go_at_call 30; refine (eqP A0 A1 c0 c1 _).mono ?_; rintro e w' ⟨rfl, hb⟩)
  go_ret
  exact ⟨rfl, hb⟩
set_option maxRecDepth 100000 in
theorem cl4 (g0 g1 : Nat) (A0 A1 : Option Addr) (c0 c1 : Nat) (w : World) (h0 : w.cell? ⟨g0, 3, none⟩ = some (.slice A0 0 c0)) (h1 : w.cell? ⟨g1, 3, none⟩ = some (.slice A1 0 c1)) : Calls Try.prog 33 #[.pointer (some ⟨g0, 0, none⟩), .pointer (some ⟨g1, 0, none⟩)] w fun e w' => e = .returned (.bool true) ∧ Below w.heap.size w w' := by
  go_enter Try.func33, Try.ntmps33
  go_wp2_with (go_at_call 34; refine (eqZ A0 A1 c0 c1 _).mono ?_; rintro e w' ⟨rfl, hb⟩)
  go_ret
  exact ⟨rfl, hb⟩
set_option maxRecDepth 100000 in
theorem cl3 (g0 g1 : Nat) (x0 : Bool) (x1 : Bool) (x2 : Int) (w : World) (h0 : w.cell? ⟨g0, 0, none⟩ = some (.bool x0)) (k0 : w.cell? ⟨g1, 0, none⟩ = some (.bool x0)) (h1 : w.cell? ⟨g0, 1, none⟩ = some (.bool x1)) (k1 : w.cell? ⟨g1, 1, none⟩ = some (.bool x1)) (h2 : w.cell? ⟨g0, 2, none⟩ = some (.int .i64 x2)) (k2 : w.cell? ⟨g1, 2, none⟩ = some (.int .i64 x2)) : Calls Try.prog 32 #[.pointer (some ⟨g0, 0, none⟩), .pointer (some ⟨g1, 0, none⟩)] w fun e w' => e = .returned (.bool true) ∧ Below w.heap.size w w' := by
  go_enter Try.func32, Try.ntmps32
  go_wp2
  go_ret
  exact ⟨by simp, Below.refl _ _⟩
set_option maxRecDepth 100000 in
theorem cl6 (g0 g1 : Nat) (x0 : Int) (x1 : Int) (x2 : Int) (w : World) (h0 : w.cell? ⟨g0, 0, none⟩ = some (.int .i64 x0)) (k0 : w.cell? ⟨g1, 0, none⟩ = some (.int .i64 x0)) (h1 : w.cell? ⟨g0, 1, none⟩ = some (.int .i64 x1)) (k1 : w.cell? ⟨g1, 1, none⟩ = some (.int .i64 x1)) (h2 : w.cell? ⟨g0, 2, none⟩ = some (.int .i64 x2)) (k2 : w.cell? ⟨g1, 2, none⟩ = some (.int .i64 x2)) : Calls Try.prog 37 #[.pointer (some ⟨g0, 0, none⟩), .pointer (some ⟨g1, 0, none⟩)] w fun e w' => e = .returned (.bool true) ∧ Below w.heap.size w w' := by
  go_enter Try.func37, Try.ntmps37
  go_wp2
  go_ret
  exact ⟨by simp, Below.refl _ _⟩
set_option maxRecDepth 100000 in
theorem cl7 (g0 g1 : Nat) (x3 : Int) (w : World) (h3 : w.cell? ⟨g0, 3, none⟩ = some (.int .i64 x3)) (k3 : w.cell? ⟨g1, 3, none⟩ = some (.int .i64 x3)) : Calls Try.prog 38 #[.pointer (some ⟨g0, 0, none⟩), .pointer (some ⟨g1, 0, none⟩)] w fun e w' => e = .returned (.bool true) ∧ Below w.heap.size w w' := by
  go_enter Try.func38, Try.ntmps38
  go_wp2
  go_ret
  exact ⟨by simp, Below.refl _ _⟩
theorem eqShip (d : Nat) (w : World) (x0 y0 : Int) (x1 y1 : Int) :
    (Op.equalIn (d + 2) 46 (.agg #[.int .i64 x0, .int .i64 x1]) (.agg #[.int .i64 y0, .int .i64 y1])).run Try.prog w = .ok (x0 == y0 && (x1 == y1)) w := by
  refine eqA_of Try.underlying46 (by kernel_rfl) ?_
  refine eqf_cons (by rfl) (by go_simp; rfl) (by go_simp; rfl) (by go_simp) ?_
  exact eqf_last (by rfl) (by go_simp; rfl) (by go_simp; rfl) (by go_simp)
attribute [local go_sem high] eqShip
set_option maxRecDepth 100000 in
theorem cl5 (g0 g1 : Nat) (x6 x7 : Int) (w : World) (h0 : w.cell? ⟨g0, 6, none⟩ = some (.int .i64 x6)) (k0 : w.cell? ⟨g1, 6, none⟩ = some (.int .i64 x6)) (h1 : w.cell? ⟨g0, 7, none⟩ = some (.int .i64 x7)) (k1 : w.cell? ⟨g1, 7, none⟩ = some (.int .i64 x7)) : Calls Try.prog 36 #[.pointer (some ⟨g0, 0, none⟩), .pointer (some ⟨g1, 0, none⟩)] w fun e w' => e = .returned (.bool true) ∧ Below w.heap.size w w' := by
  have hu33 := Try.underlying48
  have hu28 := Try.underlying46
  go_enter Try.func36, Try.ntmps36
  go_wp2
  go_ret
  exact ⟨by simp, Below.refl _ _⟩
set_option maxHeartbeats 1000000 in
set_option maxRecDepth 100000 in
theorem cl8 (g0 g1 : Nat) (A0 A1 A2 A3 : Option Addr) (c0 c1 c2 c3 : Nat) (w : World) (h0 : w.cell? ⟨g0, 4, none⟩ = some (.slice A0 0 c0)) (h1 : w.cell? ⟨g1, 4, none⟩ = some (.slice A1 0 c1)) (h2 : w.cell? ⟨g0, 5, none⟩ = some (.slice A2 0 c2)) (h3 : w.cell? ⟨g1, 5, none⟩ = some (.slice A3 0 c3)) (hg0 : g0 < w.heap.size) (hg1 : g1 < w.heap.size) : Calls Try.prog 39 #[.pointer (some ⟨g0, 0, none⟩), .pointer (some ⟨g1, 0, none⟩)] w fun e w' => e = .returned (.bool true) ∧ Below w.heap.size w w' := by
  go_enter Try.func39, Try.ntmps39
  go_wp2_with (go_at_call 40; first | (have h2c := h2'; refine (eqN _ _ _ _ _).mono ?_; rintro e w2 ⟨rfl, hb2⟩) | (refine (eqN _ _ _ _ _).mono ?_; rintro e w1 ⟨rfl, hb⟩; have h2' := (hb.cell (p := ⟨g0, 5, none⟩) hg0).trans h2; have h3' := (hb.cell (p := ⟨g1, 5, none⟩) hg1).trans h3))
  go_ret
  exact ⟨rfl, hb.trans (hb2.mono hb.size)⟩
end Go.Proofs.Ytgfhjamaabaleaa.HS
