/- money: sums, differences, products, rates. -/
import Derived.Test.YtonpcolkmecddaaProg
import Derived.Below
import Derived.Deep.Draws
import Derived.Deep.AppendLies
import Derived.Maps.AppendAt
import Derived.OwnWalk
import Derived.Laws.BytesArg
import Derived.Laws.MakeOwn
import Derived.Laws.OwnMore
import Derived.Deep.OwnRows
import Derived.Tactics
import Derived.Lib.ConvBytes
import Derived.Laws.Slices
import Derived.WalkKit
import Derived.KernelRfl
import Derived.RowKit3
import Derived.Deep.LoopGhost
import Derived.Deep.QuietTactic
import Derived.BigQuiet
import Derived.WideLaws
import Derived.Deep.DeepCutAuto
import Derived.Deep.CutBlock
import Derived.Deep.RegionHeld3
import Derived.Laws.Rows
import Derived.Lib.AppendStr
import Derived.ArgAppend
import Derived.Laws.IdiomCopy
import Derived.OrdersHeld
import Derived.Laws.BitsLemmas
import Derived.RowKit
import Derived.BigRegion
import Derived.Outline
import Derived.RegionTactic
import Derived.StillTailTactics
import Derived.Deep.RegionLaw
import Derived.Test.YtonpcolkmecddaaVMoney
set_option linter.unusedVariables false
set_option linter.unusedSimpArgs false
namespace Go.Proofs.Ytonpcolkmecddaa.MN
open Go Go.RowKit Go.Proofs.Ytonpcolkmecddaa.QR Go.Proofs.Ytonpcolkmecddaa.DV

theorem right_of {n : Int} (h0 : 0 ≤ n) (h1 : n ≤ 100000000000000) : right n = true := by unfold right; simp; omega
theorem right_iff {n : Int} : right n = true ↔ 0 ≤ n ∧ n ≤ 100000000000000 := by unfold right; simp
theorem right_isnt (n : Int) (w : World) (h : right n = false) : Calls Try.prog 41 #[.int .i64 n] w fun e w' => e = .returned (.bool false) ∧ ∃ k, w' = w.drewN k := by
  rw [← h]; exact right_calls n w

def add (a b : Int) : Int × Int := if right a = false ∨ right b = false then (0, 2) else if 100000000000000 < a + b then (0, 5) else (a + b, 0)
def sub (a b : Int) : Int × Int := if right a = false ∨ right b = false then (0, 2) else if a < b then (0, 5) else (a - b, 0)
def mul (a b : Int) : Int × Int := if right a = false ∨ right b = false then (0, 2) else if 100000000000000 < a * b then (0, 5) else (a * b, 0)

set_option maxRecDepth 100000 in
set_option maxHeartbeats 4000000 in
theorem bad_Add (a b : Int) (w : World) (h : right a = false ∨ right b = false) :
    Calls Try.prog 33 #[.int .i64 a, .int .i64 b] w fun e w' => e = .returned (.tuple #[.int .i64 0, .int .i64 2]) ∧ ∃ k, w' = w.drewN k := by
  by_cases ha : right a = false
  · clear h
    go_enter Try.func33, Try.ntmps33
    go_wp2_with fail
    refine (right_isnt a _ ha).mono ?_; rintro _ _ ⟨rfl, _, rfl⟩
    go_wp2
    go_ret2
    exact ⟨rfl, _, rfl⟩
  · have hb : right b = false := by rcases h with h | h; exact absurd h ha; exact h
    replace ha : right a = true := by simpa using ha
    clear h
    go_enter Try.func33, Try.ntmps33
    go_wp2_with fail
    refine (right_is a _ ha).mono ?_; rintro _ _ ⟨rfl, _, rfl⟩
    go_wp2_with fail
    refine (right_isnt b _ hb).mono ?_; rintro _ _ ⟨rfl, _, rfl⟩
    go_wp2
    go_ret2
    exact ⟨rfl, _, rfl⟩
set_option maxRecDepth 100000 in
set_option maxHeartbeats 4000000 in
theorem bad_Sub (a b : Int) (w : World) (h : right a = false ∨ right b = false) :
    Calls Try.prog 34 #[.int .i64 a, .int .i64 b] w fun e w' => e = .returned (.tuple #[.int .i64 0, .int .i64 2]) ∧ ∃ k, w' = w.drewN k := by
  by_cases ha : right a = false
  · clear h
    go_enter Try.func34, Try.ntmps34
    go_wp2_with fail
    refine (right_isnt a _ ha).mono ?_; rintro _ _ ⟨rfl, _, rfl⟩
    go_wp2
    go_ret2
    exact ⟨rfl, _, rfl⟩
  · have hb : right b = false := by rcases h with h | h; exact absurd h ha; exact h
    replace ha : right a = true := by simpa using ha
    clear h
    go_enter Try.func34, Try.ntmps34
    go_wp2_with fail
    refine (right_is a _ ha).mono ?_; rintro _ _ ⟨rfl, _, rfl⟩
    go_wp2_with fail
    refine (right_isnt b _ hb).mono ?_; rintro _ _ ⟨rfl, _, rfl⟩
    go_wp2
    go_ret2
    exact ⟨rfl, _, rfl⟩
set_option maxRecDepth 100000 in
set_option maxHeartbeats 4000000 in
theorem bad_Mul (a b : Int) (w : World) (h : right a = false ∨ right b = false) :
    Calls Try.prog 35 #[.int .i64 a, .int .i64 b] w fun e w' => e = .returned (.tuple #[.int .i64 0, .int .i64 2]) ∧ ∃ k, w' = w.drewN k := by
  by_cases ha : right a = false
  · clear h
    go_enter Try.func35, Try.ntmps35
    go_wp2_with fail
    refine (right_isnt a _ ha).mono ?_; rintro _ _ ⟨rfl, _, rfl⟩
    go_wp2
    go_ret2
    exact ⟨rfl, _, rfl⟩
  · have hb : right b = false := by rcases h with h | h; exact absurd h ha; exact h
    replace ha : right a = true := by simpa using ha
    clear h
    go_enter Try.func35, Try.ntmps35
    go_wp2_with fail
    refine (right_is a _ ha).mono ?_; rintro _ _ ⟨rfl, _, rfl⟩
    go_wp2_with fail
    refine (right_isnt b _ hb).mono ?_; rintro _ _ ⟨rfl, _, rfl⟩
    go_wp2
    go_ret2
    exact ⟨rfl, _, rfl⟩

theorem wrap_in64 (V : Int) (h0 : -9223372036854775808 ≤ V) (h1 : V < 9223372036854775808) : IntKind.i64.wrap V = V := by rw [IntKind.wrap_i64]; omega

set_option maxRecDepth 100000 in
set_option maxHeartbeats 4000000 in
theorem good_Add (a b : Int) (w : World) (ha : right a = true) (hb : right b = true) :
    Calls Try.prog 33 #[.int .i64 a, .int .i64 b] w fun e w' => e = .returned (.tuple #[.int .i64 (add a b).1, .int .i64 (add a b).2]) ∧ ∃ k, w' = w.drewN k := by
  obtain ⟨ha0, ha1⟩ := right_iff.1 ha
  obtain ⟨hb0, hb1⟩ := right_iff.1 hb
  have c1 : IntKind.i64.wrap (100000000000000 - b) = 100000000000000 - b := wrap_in64 _ (by omega) (by omega)
  have c2 : IntKind.i64.wrap (a + b) = a + b := wrap_in64 _ (by omega) (by omega)
  unfold add
  rw [if_neg (by rw [ha, hb]; simp)]
  by_cases h : 100000000000000 < a + b
  · have t : decide (100000000000000 - b < a) = true := decide_eq_true (by omega)
    rw [if_pos h]
    clear h ha0 ha1 hb0 hb1
    go_enter Try.func33, Try.ntmps33
    go_wp2_with fail
    refine (right_is a _ ha).mono ?_; rintro _ _ ⟨rfl, _, rfl⟩
    go_wp2_with fail
    refine (right_is b _ hb).mono ?_; rintro _ _ ⟨rfl, _, rfl⟩
    go_wp2
    go_ret2
    exact ⟨rfl, _, rfl⟩
  · have t : decide (100000000000000 - b < a) = false := decide_eq_false (by omega)
    rw [if_neg h]
    clear h ha0 ha1 hb0 hb1
    go_enter Try.func33, Try.ntmps33
    go_wp2_with fail
    refine (right_is a _ ha).mono ?_; rintro _ _ ⟨rfl, _, rfl⟩
    go_wp2_with fail
    refine (right_is b _ hb).mono ?_; rintro _ _ ⟨rfl, _, rfl⟩
    go_wp2
    go_ret2
    exact ⟨rfl, _, rfl⟩

set_option maxRecDepth 100000 in
set_option maxHeartbeats 4000000 in
theorem good_Sub (a b : Int) (w : World) (ha : right a = true) (hb : right b = true) :
    Calls Try.prog 34 #[.int .i64 a, .int .i64 b] w fun e w' => e = .returned (.tuple #[.int .i64 (sub a b).1, .int .i64 (sub a b).2]) ∧ ∃ k, w' = w.drewN k := by
  obtain ⟨ha0, ha1⟩ := right_iff.1 ha
  obtain ⟨hb0, hb1⟩ := right_iff.1 hb
  have c2 : IntKind.i64.wrap (a - b) = a - b := wrap_in64 _ (by omega) (by omega)
  unfold sub
  rw [if_neg (by rw [ha, hb]; simp)]
  by_cases h : a < b
  · have t : decide (a < b) = true := decide_eq_true (by omega)
    rw [if_pos h]
    clear h ha0 ha1 hb0 hb1
    go_enter Try.func34, Try.ntmps34
    go_wp2_with fail
    refine (right_is a _ ha).mono ?_; rintro _ _ ⟨rfl, _, rfl⟩
    go_wp2_with fail
    refine (right_is b _ hb).mono ?_; rintro _ _ ⟨rfl, _, rfl⟩
    go_wp2
    go_ret2
    exact ⟨rfl, _, rfl⟩
  · have t : decide (a < b) = false := decide_eq_false (by omega)
    rw [if_neg h]
    clear h ha0 ha1 hb0 hb1
    go_enter Try.func34, Try.ntmps34
    go_wp2_with fail
    refine (right_is a _ ha).mono ?_; rintro _ _ ⟨rfl, _, rfl⟩
    go_wp2_with fail
    refine (right_is b _ hb).mono ?_; rintro _ _ ⟨rfl, _, rfl⟩
    go_wp2
    go_ret2
    exact ⟨rfl, _, rfl⟩

theorem mul_test (a b : Int) (ha0 : 0 ≤ a) (hb : 0 < b) : (100000000000000 / b < a) ↔ (100000000000000 < a * b) := by
  rw [Int.ediv_lt_iff_lt_mul hb]

set_option maxRecDepth 100000 in
set_option maxHeartbeats 4000000 in
theorem good_Mul (a b : Int) (w : World) (ha : right a = true) (hb : right b = true) :
    Calls Try.prog 35 #[.int .i64 a, .int .i64 b] w fun e w' => e = .returned (.tuple #[.int .i64 (mul a b).1, .int .i64 (mul a b).2]) ∧ ∃ k, w' = w.drewN k := by
  obtain ⟨ha0, ha1⟩ := right_iff.1 ha
  obtain ⟨hb0, hb1⟩ := right_iff.1 hb
  unfold mul
  rw [if_neg (by rw [ha, hb]; simp)]
  by_cases hp : 0 < b
  · have t0 : decide (0 < b) = true := decide_eq_true hp
    have hz : ¬ (b = 0) := by omega
    have hz2 : (b == 0) = false := beq_eq_false_iff_ne.2 hz
    have c1 : IntKind.i64.wrap ((100000000000000 : Int).tdiv b) = 100000000000000 / b := by
      rw [Int.tdiv_eq_ediv_of_nonneg (by decide)]
      have := Int.ediv_nonneg (show (0 : Int) ≤ 100000000000000 by decide) hb0
      have h2 : 100000000000000 / b ≤ 100000000000000 := Int.ediv_le_self _ (by decide)
      exact wrap_in64 _ (by omega) (by omega)
    by_cases h : 100000000000000 < a * b
    · have t : decide (100000000000000 / b < a) = true := decide_eq_true ((mul_test a b ha0 hp).2 h)
      rw [if_pos h]
      clear h ha0 ha1 hb0 hb1 hp
      go_enter Try.func35, Try.ntmps35
      go_wp2_with fail
      refine (right_is a _ ha).mono ?_; rintro _ _ ⟨rfl, _, rfl⟩
      go_wp2_with fail
      refine (right_is b _ hb).mono ?_; rintro _ _ ⟨rfl, _, rfl⟩
      go_wp2
      go_ret2
      exact ⟨rfl, _, rfl⟩
    · have t : decide (100000000000000 / b < a) = false := decide_eq_false (fun h2 => h ((mul_test a b ha0 hp).1 h2))
      rw [if_neg h]
      have c2 : IntKind.i64.wrap (a * b) = a * b := wrap_in64 _ (by have := Int.mul_nonneg ha0 hb0; omega) (by omega)
      clear h ha0 ha1 hb0 hb1 hp
      go_enter Try.func35, Try.ntmps35
      go_wp2_with fail
      refine (right_is a _ ha).mono ?_; rintro _ _ ⟨rfl, _, rfl⟩
      go_wp2_with fail
      refine (right_is b _ hb).mono ?_; rintro _ _ ⟨rfl, _, rfl⟩
      go_wp2
      go_ret2
      exact ⟨rfl, _, rfl⟩
  · obtain rfl : b = 0 := by omega
    have c2 : IntKind.i64.wrap (a * 0) = a * 0 := by rw [Int.mul_zero]; rfl
    rw [if_neg (by omega)]
    clear ha0 ha1 hb0 hb1 hp
    go_enter Try.func35, Try.ntmps35
    go_wp2_with fail
    refine (right_is a _ ha).mono ?_; rintro _ _ ⟨rfl, _, rfl⟩
    go_wp2_with fail
    refine (right_is 0 _ hb).mono ?_; rintro _ _ ⟨rfl, _, rfl⟩
    go_wp2
    go_ret2
    exact ⟨by simp, _, rfl⟩

theorem calls_Add (a b u v : Int) (w : World) (h : add a b = (u, v)) :
    Calls Try.prog 33 #[.int .i64 a, .int .i64 b] w fun e w' => e = .returned (.tuple #[.int .i64 u, .int .i64 v]) ∧ ∃ k, w' = w.drewN k := by
  by_cases hr : right a = false ∨ right b = false
  · have h2 := h
    unfold add at h2
    rw [if_pos hr] at h2
    cases h2
    exact bad_Add a b w hr
  · have h3 := good_Add a b w (by simpa using fun h => hr (Or.inl h)) (by simpa using fun h => hr (Or.inr h))
    rw [h] at h3
    exact h3

theorem calls_Sub (a b u v : Int) (w : World) (h : sub a b = (u, v)) :
    Calls Try.prog 34 #[.int .i64 a, .int .i64 b] w fun e w' => e = .returned (.tuple #[.int .i64 u, .int .i64 v]) ∧ ∃ k, w' = w.drewN k := by
  by_cases hr : right a = false ∨ right b = false
  · have h2 := h
    unfold sub at h2
    rw [if_pos hr] at h2
    cases h2
    exact bad_Sub a b w hr
  · have h3 := good_Sub a b w (by simpa using fun h => hr (Or.inl h)) (by simpa using fun h => hr (Or.inr h))
    rw [h] at h3
    exact h3

theorem calls_Mul (a b u v : Int) (w : World) (h : mul a b = (u, v)) :
    Calls Try.prog 35 #[.int .i64 a, .int .i64 b] w fun e w' => e = .returned (.tuple #[.int .i64 u, .int .i64 v]) ∧ ∃ k, w' = w.drewN k := by
  by_cases hr : right a = false ∨ right b = false
  · have h2 := h
    unfold mul at h2
    rw [if_pos hr] at h2
    cases h2
    exact bad_Mul a b w hr
  · have h3 := good_Mul a b w (by simpa using fun h => hr (Or.inl h)) (by simpa using fun h => hr (Or.inr h))
    rw [h] at h3
    exact h3

end Go.Proofs.Ytonpcolkmecddaa.MN
