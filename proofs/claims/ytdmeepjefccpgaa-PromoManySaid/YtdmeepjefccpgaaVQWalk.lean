/- The queue's inner functions: what entries' methods and the heap's sifting leave. -/
import Derived.Test.YtdmeepjefccpgaaProg
import Derived.Below
import Derived.Deep.Draws
import Derived.Deep.AppendLies
import Derived.Maps.AppendAt
import Derived.OwnWalk
import Derived.Laws.BytesArg
import Derived.Laws.MakeOwn
import Derived.Laws.OwnMore
import Derived.Deep.OwnRows
import Derived.Tactics
import Derived.Lib.ConvBytes
import Derived.Laws.Slices
import Derived.WalkKit
import Derived.KernelRfl
import Derived.RowKit3
import Derived.Deep.LoopGhost
import Derived.Deep.QuietTactic
import Derived.BigQuiet
import Derived.WideLaws
import Derived.Deep.DeepCutAuto
import Derived.Deep.CutBlock
import Derived.Deep.RegionHeld3
import Derived.Laws.Rows
import Derived.Lib.AppendStr
import Derived.ArgAppend
import Derived.Laws.IdiomCopy
import Derived.OrdersHeld
import Derived.Laws.BitsLemmas
import Derived.RowKit
import Derived.BigRegion
import Derived.Outline
import Derived.RegionTactic
import Derived.StillTailTactics
import Derived.Deep.RegionLaw
import Derived.Test.YtdmeepjefccpgaaVQRow
set_option linter.unusedVariables false
set_option linter.unusedSimpArgs false
namespace Go.Proofs.Ytdmeepjefccpgaa.QW
open Go Go.RowKit Go.Proofs.Ytdmeepjefccpgaa.QM Go.Proofs.Ytdmeepjefccpgaa.QR

theorem meth_len0 (p : Addr) (w : World) : Sem.run Try.prog (method 284 140 (.pointer (some p)) "Len") w = Sem.run Try.prog (loadVar 136 p >>= fun v => pure (165, v)) w := by kernel_rfl
theorem meth_less0 (p : Addr) (w : World) : Sem.run Try.prog (method 284 140 (.pointer (some p)) "Less") w = Sem.run Try.prog (loadVar 136 p >>= fun v => pure (166, v)) w := by kernel_rfl
theorem meth_swap0 (p : Addr) (w : World) : Sem.run Try.prog (method 284 140 (.pointer (some p)) "Swap") w = Sem.run Try.prog (loadVar 136 p >>= fun v => pure (167, v)) w := by kernel_rfl
theorem meth_pop (p : Addr) (w : World) : Sem.run Try.prog (method 284 140 (.pointer (some p)) "Pop") w = .ok (168, .pointer (some p)) w := by kernel_rfl
theorem meth_push (p : Addr) (w : World) : Sem.run Try.prog (method 284 140 (.pointer (some p)) "Push") w = .ok (169, .pointer (some p)) w := by kernel_rfl
theorem load_entries (p : Addr) (w : World) (v : Value) (h : w.cell? p = some v) (f : Nat) : Sem.run Try.prog (loadVar 136 p >>= fun v => pure (f, v)) w = .ok (f, v) w := by
  simp [go_sem, h]
theorem meth_len {p : Addr} {w : World} {v : Value} (h : w.cell? p = some v) : Sem.run Try.prog (method 284 140 (.pointer (some p)) "Len") w = .ok (165, v) w := (meth_len0 p w).trans (load_entries p w v h _)
theorem meth_less {p : Addr} {w : World} {v : Value} (h : w.cell? p = some v) : Sem.run Try.prog (method 284 140 (.pointer (some p)) "Less") w = .ok (166, v) w := (meth_less0 p w).trans (load_entries p w v h _)
theorem meth_swap {p : Addr} {w : World} {v : Value} (h : w.cell? p = some v) : Sem.run Try.prog (method 284 140 (.pointer (some p)) "Swap") w = .ok (167, v) w := (meth_swap0 p w).trans (load_entries p w v h _)

set_option maxHeartbeats 1000000 in
theorem len_calls (a : Option Addr) (n c : Nat) (w : World) :
    Calls Try.prog 165 #[.slice a n c] w fun e w' => e = .returned (.int .i64 n) ∧ w = w' := by
  go_enter Try.func165, Try.ntmps165
  go_wp2
  go_ret
  exact ⟨rfl, rfl⟩

set_option maxHeartbeats 1000000 in
theorem less_cells (g n c : Nat) (i j : Nat) (a1 a2 b1 b2 : Int) (w : World) (hi2 : i < n) (hj2 : j < n)
    (h1 : w.cell? ⟨g, i * 2, none⟩ = some (.int .i64 a1)) (h2 : w.cell? ⟨g, i * 2 + 1, none⟩ = some (.int .i64 a2))
    (h3 : w.cell? ⟨g, j * 2, none⟩ = some (.int .i64 b1)) (h4 : w.cell? ⟨g, j * 2 + 1, none⟩ = some (.int .i64 b2)) :
    Calls Try.prog 166 #[.slice (some ⟨g, 0, none⟩) n c, .int .i64 i, .int .i64 j] w fun e w' => e = .returned (.bool (lt (a1, a2) (b1, b2))) ∧ ∃ k, w' = w.drewN k := by
  by_cases c1 : b1 < a1
  · have d1 : decide (b1 < a1) = true := decide_eq_true c1
    go_enter Try.func166, Try.ntmps166
    go_wp2
    go_quiet (fail)
    go_wp2
    go_ret
    exact ⟨by simp [lt, c1], _, rfl⟩
  · have d1 : decide (b1 < a1) = false := decide_eq_false c1
    by_cases c2 : a1 = b1
    · have d2 : (a1 == b1) = true := by simpa using c2
      have hl : lt (a1, a2) (b1, b2) = decide (a2 < b2) := by simp [lt, c2]
      have hl' : Hid (lt (a1, a2) (b1, b2) = decide (a2 < b2)) := hl
      clear c2 hl
      go_enter Try.func166, Try.ntmps166
      go_wp2
      go_quiet (fail)
      go_wp2
      go_ret
      exact ⟨by rw [hl'.out]; rfl, _, rfl⟩
    · have d2 : (a1 == b1) = false := by simpa using c2
      go_enter Try.func166, Try.ntmps166
      go_wp2
      go_quiet (fail)
      go_wp2
      go_ret
      exact ⟨by simp [lt, c1, c2], _, rfl⟩
theorem less_calls {r cap : Nat} {l : List Ent} {w : World} (h : QRow 142 w r cap l) (n i j : Nat) (b : Bool) (hb : lt (at_ l i) (at_ l j) = b) (hn : l.length = n) (hi : i < n) (hj : j < n) :
    Calls Try.prog 166 #[.slice (some ⟨r, 0, none⟩) n cap, .int .i64 i, .int .i64 j] w fun e w' => e = .returned (.bool b) ∧ ∃ k, w' = w.drewN k := by
  subst hn
  subst hb
  exact less_cells r l.length cap i j _ _ _ _ w hi hj (h.cell0 i hi) (h.cell1 i hi) (h.cell0 j hj) (h.cell1 j hj)

set_option maxHeartbeats 2000000 in
theorem swap_cells (g n c : Nat) (i j : Nat) (a1 a2 b1 b2 : Int) (w : World) (hi2 : i < n) (hj2 : j < n) (hij : i ≠ j)
    (h1 : w.cell? ⟨g, i * 2, none⟩ = some (.int .i64 a1)) (h2 : w.cell? ⟨g, i * 2 + 1, none⟩ = some (.int .i64 a2))
    (h3 : w.cell? ⟨g, j * 2, none⟩ = some (.int .i64 b1)) (h4 : w.cell? ⟨g, j * 2 + 1, none⟩ = some (.int .i64 b2))
    (f : ∀ k, w.frozen? ⟨g, k, none⟩ = false) :
    Calls Try.prog 167 #[.slice (some ⟨g, 0, none⟩) n c, .int .i64 i, .int .i64 j] w fun e w' => e = .returned (.tuple #[]) ∧
      w' = ((((w.setCell ⟨g, i * 2, none⟩ (.int .i64 b1)).setCell ⟨g, i * 2 + 1, none⟩ (.int .i64 b2)).setCell ⟨g, j * 2, none⟩ (.int .i64 a1)).setCell ⟨g, j * 2 + 1, none⟩ (.int .i64 a2)).drew := by
  have e1 : ¬ (i * 2 = j * 2) := by omega
  have e2 : ¬ (i * 2 + 1 = j * 2) := by omega
  have e3 : ¬ (i * 2 = j * 2 + 1) := by omega
  have e4 : ¬ (j * 2 = i * 2) := by omega
  have e5 : ¬ (j * 2 + 1 = i * 2) := by omega
  have e6 : ¬ (j * 2 = i * 2 + 1) := by omega
  have e7 : ¬ (i * 2 + 1 = j * 2 + 1) := by omega
  have e8 : ¬ (j * 2 + 1 = i * 2 + 1) := by omega
  go_enter Try.func167, Try.ntmps167
  go_wp2
  go_region
  all_goals (go_end0; exact ⟨rfl, rfl⟩)

set_option maxHeartbeats 2000000 in
theorem swap_self (g n c : Nat) (i : Nat) (a1 a2 : Int) (w : World) (hi2 : i < n)
    (h1 : w.cell? ⟨g, i * 2, none⟩ = some (.int .i64 a1)) (h2 : w.cell? ⟨g, i * 2 + 1, none⟩ = some (.int .i64 a2))
    (f : ∀ k, w.frozen? ⟨g, k, none⟩ = false) :
    Calls Try.prog 167 #[.slice (some ⟨g, 0, none⟩) n c, .int .i64 i, .int .i64 i] w fun e w' => e = .returned (.tuple #[]) ∧
      w' = ((((w.setCell ⟨g, i * 2, none⟩ (.int .i64 a1)).setCell ⟨g, i * 2 + 1, none⟩ (.int .i64 a2)).setCell ⟨g, i * 2, none⟩ (.int .i64 a1)).setCell ⟨g, i * 2 + 1, none⟩ (.int .i64 a2)).drew := by
  go_enter Try.func167, Try.ntmps167
  go_wp2
  go_region
  all_goals (go_end0; exact ⟨rfl, rfl⟩)

theorem swap_calls {r cap : Nat} {l : List Ent} {w : World} (h : QRow 142 w r cap l) (n i j : Nat) (hn : l.length = n) (hi : i < n) (hj : j < n) :
    Calls Try.prog 167 #[.slice (some ⟨r, 0, none⟩) n cap, .int .i64 i, .int .i64 j] w fun e w' => e = .returned (.tuple #[]) ∧
      QRow 142 w' r cap (swp l i j) ∧ Kp (fun k => k = r) w w' := by
  subst hn
  have hk : ∀ (a b : Value) (c d : Value), Kp (fun k => k = r) w ((((w.setCell ⟨r, i * 2, none⟩ a).setCell ⟨r, i * 2 + 1, none⟩ b).setCell ⟨r, j * 2, none⟩ c).setCell ⟨r, j * 2 + 1, none⟩ d).drew :=
    fun a b c d => (((((Kp.refl (fun k => k = r) w).setCell ⟨r, i * 2, none⟩ a (fun _ => rfl)).setCell ⟨r, i * 2 + 1, none⟩ b (fun _ => rfl)).setCell ⟨r, j * 2, none⟩ c (fun _ => rfl)).setCell ⟨r, j * 2 + 1, none⟩ d (fun _ => rfl)).drew
  by_cases e : i = j
  · subst e
    refine (swap_self r l.length cap i _ _ w hi (h.cell0 i hi) (h.cell1 i hi) h.free).mono ?_
    rintro e w' ⟨rfl, rfl⟩
    exact ⟨rfl, (h.swap i i hi hi).at_world rfl, hk _ _ _ _⟩
  · refine (swap_cells r l.length cap i j _ _ _ _ w hi hj e (h.cell0 i hi) (h.cell1 i hi) (h.cell0 j hj) (h.cell1 j hj) h.free).mono ?_
    rintro e w' ⟨rfl, rfl⟩
    exact ⟨rfl, (h.swap i j hi hj).at_world rfl, hk _ _ _ _⟩

end Go.Proofs.Ytdmeepjefccpgaa.QW
