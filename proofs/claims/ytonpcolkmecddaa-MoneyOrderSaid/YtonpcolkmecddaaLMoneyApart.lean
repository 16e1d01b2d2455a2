/- The statement MoneyApart. -/
import Derived.Test.YtonpcolkmecddaaProg
import Derived.Below
import Derived.Deep.Draws
import Derived.Deep.AppendLies
import Derived.Maps.AppendAt
import Derived.OwnWalk
import Derived.Laws.BytesArg
import Derived.Laws.MakeOwn
import Derived.Laws.OwnMore
import Derived.Deep.OwnRows
import Derived.Tactics
import Derived.Lib.ConvBytes
import Derived.Laws.Slices
import Derived.WalkKit
import Derived.KernelRfl
import Derived.RowKit3
import Derived.Deep.LoopGhost
import Derived.Deep.QuietTactic
import Derived.BigQuiet
import Derived.WideLaws
import Derived.Deep.DeepCutAuto
import Derived.Deep.CutBlock
import Derived.Deep.RegionHeld3
import Derived.Laws.Rows
import Derived.Lib.AppendStr
import Derived.ArgAppend
import Derived.Laws.IdiomCopy
import Derived.OrdersHeld
import Derived.Laws.BitsLemmas
import Derived.RowKit
import Derived.BigRegion
import Derived.Outline
import Derived.RegionTactic
import Derived.StillTailTactics
import Derived.Deep.RegionLaw
import Derived.Test.YtonpcolkmecddaaLMoneyHalves
set_option linter.unusedVariables false
set_option linter.unusedSimpArgs false
namespace Go.Proofs.Ytonpcolkmecddaa.ML
open Go Go.RowKit Go.Proofs.Ytonpcolkmecddaa.QR Go.Proofs.Ytonpcolkmecddaa.DV Go.Proofs.Ytonpcolkmecddaa.MN

/-- What a rate of an amount is: a number of its own that is no greater than the amount; between the two whole numbers that it stands between. -/
theorem rate_is (x r k : Int) (hx : 0 ≤ x ∧ x ≤ 100000000000000) (hr : 0 ≤ r ∧ r ≤ 10000) (hk : 0 ≤ k ∧ k < 3) :
    ∃ v, times x r 10000 k = (v, 0) ∧ v = rnd k (x * r / 10000) (x * r % 10000) 10000 ∧ x * r / 10000 ≤ v ∧ v ≤ x * r / 10000 + 1 ∧ (x * r % 10000 = 0 → v = x * r / 10000) ∧ 0 ≤ v ∧ v ≤ x := by
  have h0 : 0 ≤ x * r := Int.mul_nonneg hx.1 hr.1
  have h1 : x * r ≤ x * 10000 := Int.mul_le_mul_of_nonneg_left hr.2 hx.1
  have hlo : x * r / 10000 ≤ rnd k (x * r / 10000) (x * r % 10000) 10000 := by
    unfold rnd
    (repeat' split) <;> omega
  have hhi : rnd k (x * r / 10000) (x * r % 10000) 10000 ≤ x * r / 10000 + 1 := by
    unfold rnd
    (repeat' split) <;> omega
  have hz : x * r % 10000 = 0 → rnd k (x * r / 10000) (x * r % 10000) 10000 = x * r / 10000 := by
    intro h
    unfold rnd
    rw [h]
    (repeat' split) <;> omega
  have hle : rnd k (x * r / 10000) (x * r % 10000) 10000 ≤ x := by
    rcases Classical.em (x * r % 10000 = 0) with h | h
    · rw [hz h]; omega
    · omega
  exact ⟨_, times_ok x r 10000 k _ _ hx ⟨hr.1, by omega⟩ (by decide) hk rfl rfl (by omega) (by omega), rfl, hlo, hhi, hz, by omega, hle⟩

theorem apart (x r u v a b : Int) (hu : u = x * r) (hv : v = x * (10000 - r)) (h0 : u / 10000 ≤ a) (h1 : a ≤ u / 10000 + 1) (h2 : u % 10000 = 0 → a = u / 10000)
    (g0 : v / 10000 ≤ b) (g1 : b ≤ v / 10000 + 1) (g2 : v % 10000 = 0 → b = v / 10000) : x - 1 ≤ a + b ∧ a + b ≤ x + 1 := by
  have h : u + v = x * 10000 := by rw [hu, hv, ← Int.mul_add]; congr 1; omega
  rcases Classical.em (u % 10000 = 0) with e | e
  · have := h2 e; omega
  · omega

set_option maxRecDepth 100000 in
set_option maxHeartbeats 8000000 in
theorem moneyApart_calls (a b c : Int) (w : World) :
    Calls Try.prog 12 #[.int .i64 a, .int .i64 b, .int .i64 c] w fun e w' => e = .returned (.bool true) ∧ Kp (fun _ => False) w w' := by
  go_enter Try.func12, Try.ntmps12
  go_wp2_with fail
  refine (mod64_calls _ _ _ (by decide) (by decide)).mono ?_; rintro _ _ ⟨x, rfl, hx0, hx1, rfl⟩
  go_wp2_with fail
  refine (mod64_calls _ _ _ (by decide) (by decide)).mono ?_; rintro _ _ ⟨r, rfl, hr0, hr1, rfl⟩
  go_wp2_with fail
  refine (mod_calls _ _ _ (by decide) (by decide)).mono ?_; rintro _ w ⟨k, rfl, hk0, hk1, rfl⟩
  obtain ⟨u, U, -, u0, u1, u2, u3, u4⟩ := rate_is x r k ⟨hx0, by omega⟩ ⟨hr0, by omega⟩ ⟨hk0, hk1⟩
  obtain ⟨v, V, -, v0, v1, v2, v3, v4⟩ := rate_is x (10000 - r) k ⟨hx0, by omega⟩ ⟨by omega, by omega⟩ ⟨hk0, hk1⟩
  have hap := apart x r _ _ u v rfl rfl u0 u1 u2 v0 v1 v2
  have g0 : IntKind.i64.wrap (10000 - r) = 10000 - r := wrap_in64 _ (by omega) (by omega)
  have g1 : IntKind.i64.wrap (u + v) = u + v := wrap_in64 _ (by omega) (by omega)
  have g2 : IntKind.i64.wrap (x - 1) = x - 1 := wrap_in64 _ (by omega) (by omega)
  have g3 : IntKind.i64.wrap (x + 1) = x + 1 := wrap_in64 _ (by omega) (by omega)
  have f1 : decide (x - 1 ≤ u + v) = true := decide_eq_true hap.1
  have f2 : decide (u + v ≤ x + 1) = true := decide_eq_true hap.2
  replace U := Hid.mk' U
  replace V := Hid.mk' V
  have hx : Hid (0 ≤ x ∧ x ≤ 100000000000000) := ⟨by omega, by omega⟩
  have hr : Hid (0 ≤ r ∧ r ≤ 10000) := ⟨by omega, by omega⟩
  have hr' : Hid (0 ≤ 10000 - r ∧ 10000 - r ≤ 10000) := ⟨by omega, by omega⟩
  have hk : Hid (0 ≤ k ∧ k < 3) := ⟨hk0, hk1⟩
  clear hap u0 u1 u2 u3 u4 v0 v1 v2 v3 v4 hx0 hx1 hr0 hr1 hk0 hk1
  go_wp2_with fail
  refine (rate_good _ _ _ _ _ _ hx.out hr.out hk.out U.out).mono ?_; rintro _ w1 ⟨rfl, k1⟩
  go_wp2_with fail
  refine (rate_good _ _ _ _ _ _ hx.out hr'.out hk.out V.out).mono ?_; rintro _ w2 ⟨rfl, k2⟩
  go_wp2_with fail
  refine (awake_calls _).mono ?_; rintro _ w5 ⟨rfl, k6⟩
  go_wp2
  all_goals (go_ret; exact ⟨rfl, (k1.trans k2).trans k6⟩)

theorem moneyApart_law (a b c : Int) (w : World) (_ : (Lit.int .i64 a).wf = true) (_ : (Lit.int .i64 b).wf = true) (_ : (Lit.int .i64 c).wf = true) :
    Calls Try.prog 12 #[.int .i64 a, .int .i64 b, .int .i64 c] w fun e w' => e = .returned (.bool true) ∧ Below w.heap.size w w' :=
  (moneyApart_calls a b c w).mono fun _ _ h => ⟨h.1, h.2.to_below (Nat.le_refl _) (fun _ h => h.elim)⟩

end Go.Proofs.Ytonpcolkmecddaa.ML
