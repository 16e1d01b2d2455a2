/- The laws of money: their small functions, and sums and products at the edge. -/
import Derived.Test.YtonpcolkmecddaaProg
import Derived.Below
import Derived.Deep.Draws
import Derived.Deep.AppendLies
import Derived.Maps.AppendAt
import Derived.OwnWalk
import Derived.Laws.BytesArg
import Derived.Laws.MakeOwn
import Derived.Laws.OwnMore
import Derived.Deep.OwnRows
import Derived.Tactics
import Derived.Lib.ConvBytes
import Derived.Laws.Slices
import Derived.WalkKit
import Derived.KernelRfl
import Derived.RowKit3
import Derived.Deep.LoopGhost
import Derived.Deep.QuietTactic
import Derived.BigQuiet
import Derived.WideLaws
import Derived.Deep.DeepCutAuto
import Derived.Deep.CutBlock
import Derived.Deep.RegionHeld3
import Derived.Laws.Rows
import Derived.Lib.AppendStr
import Derived.ArgAppend
import Derived.Laws.IdiomCopy
import Derived.OrdersHeld
import Derived.Laws.BitsLemmas
import Derived.RowKit
import Derived.BigRegion
import Derived.Outline
import Derived.RegionTactic
import Derived.StillTailTactics
import Derived.Deep.RegionLaw
import Derived.Test.YtonpcolkmecddaaMoney3
import Derived.Test.YtonpcolkmecddaaWWords
set_option linter.unusedVariables false
set_option linter.unusedSimpArgs false
namespace Go.Proofs.Ytonpcolkmecddaa.ML
open Go Go.RowKit Go.Proofs.Ytonpcolkmecddaa.QR Go.Proofs.Ytonpcolkmecddaa.DV Go.Proofs.Ytonpcolkmecddaa.MN

theorem _root_.Go.RowKit.Hid.mk' {p : Prop} (h : p) : Hid p := h

set_option maxRecDepth 100000 in
theorem mod64_calls (x m : Int) (w : World) (hm : 0 < m) (hm' : m < 9223372036854775808) :
    Calls Try.prog 27 #[.int .i64 x, .int .i64 m] w fun e w' => ∃ y : Int, e = .returned (.int .i64 y) ∧ 0 ≤ y ∧ y < m ∧ w' = w := by
  have c1 : IntKind.u64.wrap m = m := wrap_in _ (by omega) (by omega)
  have hz : ¬ (m = 0) := by omega
  have hz2 : (m == 0) = false := beq_eq_false_iff_ne.2 hz
  obtain ⟨X, hX⟩ : ∃ X, X = IntKind.u64.wrap x := ⟨_, rfl⟩
  have hX0 : 0 ≤ X := by rw [hX, IntKind.wrap_u64]; omega
  have c2 : IntKind.u64.wrap x = X := hX.symm
  obtain ⟨Y, hY⟩ : ∃ Y, Y = X % m := ⟨_, rfl⟩
  have h1 : 0 ≤ Y ∧ Y < m := by rw [hY]; exact ⟨Int.emod_nonneg _ hz, Int.emod_lt_of_pos _ hm⟩
  have c3 : X.tmod m = Y := by rw [hY]; exact Int.tmod_eq_emod_of_nonneg hX0
  have c4 : IntKind.i64.wrap Y = Y := by rw [IntKind.wrap_i64]; omega
  have c5 : IntKind.u64.wrap Y = Y := wrap_in _ (by omega) (by omega)
  clear hX hX0 hY hm hm'
  have H : Hid (0 ≤ Y ∧ Y < m) := h1
  clear h1
  go_enter Try.func27, Try.ntmps27
  go_wp2
  go_ret
  exact ⟨Y, rfl, H.out.1, H.out.2, rfl⟩

set_option maxRecDepth 100000 in
theorem mod_calls (x m : Int) (w : World) (hm : 0 < m) (hm' : m < 2147483648) :
    Calls Try.prog 30 #[.int .i64 x, .int .i64 m] w fun e w' => ∃ y : Int, e = .returned (.int .i64 y) ∧ 0 ≤ y ∧ y < m ∧ w' = w := by
  have c1 : IntKind.u64.wrap m = m := wrap_in _ (by omega) (by omega)
  have hz : ¬ (m = 0) := by omega
  have hz2 : (m == 0) = false := beq_eq_false_iff_ne.2 hz
  obtain ⟨X, hX⟩ : ∃ X, X = IntKind.u64.wrap x := ⟨_, rfl⟩
  have hX0 : 0 ≤ X := by rw [hX, IntKind.wrap_u64]; omega
  have c2 : IntKind.u64.wrap x = X := hX.symm
  obtain ⟨Y, hY⟩ : ∃ Y, Y = X % m := ⟨_, rfl⟩
  have h1 : 0 ≤ Y ∧ Y < m := by rw [hY]; exact ⟨Int.emod_nonneg _ hz, Int.emod_lt_of_pos _ hm⟩
  have c3 : X.tmod m = Y := by rw [hY]; exact Int.tmod_eq_emod_of_nonneg hX0
  have c4 : IntKind.i64.wrap Y = Y := by rw [IntKind.wrap_i64]; omega
  have c5 : IntKind.u64.wrap Y = Y := wrap_in _ (by omega) (by omega)
  clear hX hX0 hY hm hm'
  have H : Hid (0 ≤ Y ∧ Y < m) := h1
  clear h1
  go_enter Try.func30, Try.ntmps30
  go_wp2
  go_ret
  exact ⟨Y, rfl, H.out.1, H.out.2, rfl⟩

set_option maxRecDepth 100000 in
theorem awake_calls (w : World) : Calls Try.prog 29 #[] w fun e w' => e = .returned (.bool true) ∧ Kp (fun _ => False) w w' := by
  go_enter Try.func29, Try.ntmps29
  go_wp2_with fail
  refine (rate_good 199 1500 1 30 0 _ (by decide) (by decide) (by decide) (by decide)).mono ?_; rintro _ w1 ⟨rfl, hk⟩
  go_wp2_with fail
  refine (calls_Add 2 3 5 0 _ (by decide)).mono ?_; rintro _ _ ⟨rfl, _, rfl⟩
  go_wp2
  go_ret
  exact ⟨rfl, hk.drewN _⟩

theorem add_edge (x : Int) (h0 : 0 ≤ x) (h1 : x ≤ 100000000000000) : add x (100000000000000 - x) = (100000000000000, 0) := by
  unfold add
  rw [if_neg (by rw [right_of h0 h1, right_of (by omega) (by omega)]; simp), if_neg (by omega)]
  exact Prod.ext (by show x + _ = _; omega) rfl
theorem right_no {n : Int} (h : ¬ (0 ≤ n ∧ n ≤ 100000000000000)) : right n = false := by
  cases e : right n with
  | false => rfl
  | true => exact absurd (right_iff.1 e) h
theorem add_over (x : Int) (h0 : 0 ≤ x) (h1 : x ≤ 100000000000000) : add x (100000000000000 - x + 1) = (0, if x = 0 then 2 else 5) := by
  unfold add
  by_cases hx : x = 0
  · subst hx; rw [if_pos (Or.inr (right_no (by omega))), if_pos rfl]
  · rw [if_neg (by rw [right_of h0 h1, right_of (by omega) (by omega)]; simp), if_pos (by omega), if_neg hx]
theorem sub_same (x : Int) (h0 : 0 ≤ x) (h1 : x ≤ 100000000000000) : sub x x = (0, 0) := by
  unfold sub
  rw [if_neg (by rw [right_of h0 h1]; simp), if_neg (by omega)]
  exact Prod.ext (by show x - x = _; omega) rfl
theorem sub_less (x : Int) (h0 : 0 ≤ x) (h1 : x ≤ 100000000000000) : sub x (x + 1) = (0, if x = 100000000000000 then 2 else 5) := by
  unfold sub
  by_cases hx : x = 100000000000000
  · subst hx; rw [if_pos (Or.inr (right_no (by omega))), if_pos rfl]
  · rw [if_neg (by rw [right_of h0 h1, right_of (by omega) (by omega)]; simp), if_pos (by omega), if_neg hx]
theorem mul_edge (n : Int) (h0 : 1 ≤ n) (h1 : n ≤ 1048576) : mul (100000000000000 / n) n = (100000000000000 / n * n, 0) := by
  have hd := Int.mul_ediv_add_emod 100000000000000 n
  have hm := Int.emod_nonneg 100000000000000 (show n ≠ 0 by omega)
  have hc : n * (100000000000000 / n) = 100000000000000 / n * n := Int.mul_comm _ _
  have hq := Int.ediv_nonneg (show (0 : Int) ≤ 100000000000000 by decide) (show 0 ≤ n by omega)
  have hq2 : 100000000000000 / n ≤ 100000000000000 := Int.ediv_le_self _ (by decide)
  unfold mul
  rw [if_neg (by rw [right_of hq hq2, right_of (by omega) (by omega)]; simp), if_neg (by omega)]
theorem mul_over (n : Int) (h0 : 1 ≤ n) (h1 : n ≤ 1048576) : mul (100000000000000 / n + 1) n = (0, if n = 1 then 2 else 5) := by
  have hd := Int.mul_ediv_add_emod 100000000000000 n
  have hm := Int.emod_lt_of_pos 100000000000000 (show 0 < n by omega)
  have hc : n * (100000000000000 / n) = 100000000000000 / n * n := Int.mul_comm _ _
  have hq := Int.ediv_nonneg (show (0 : Int) ≤ 100000000000000 by decide) (show 0 ≤ n by omega)
  unfold mul
  by_cases hn : n = 1
  · subst hn; rw [if_pos (Or.inl (right_no (by omega))), if_pos rfl]
  · have hq2 : 100000000000000 / n < 100000000000000 := Int.ediv_lt_self_of_pos_of_ne_one (by decide) (by omega)
    have he : (100000000000000 / n + 1) * n = 100000000000000 / n * n + n := by rw [Int.add_mul, Int.one_mul]
    rw [if_neg (by rw [right_of (by omega) (by omega), right_of (by omega) (by omega)]; simp), if_pos (by omega), if_neg hn]

end Go.Proofs.Ytonpcolkmecddaa.ML
