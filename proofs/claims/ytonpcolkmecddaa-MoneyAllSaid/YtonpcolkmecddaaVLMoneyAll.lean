/- The statement MoneyAll. -/
import Derived.Test.YtonpcolkmecddaaProg
import Derived.Below
import Derived.Deep.Draws
import Derived.Deep.AppendLies
import Derived.Maps.AppendAt
import Derived.OwnWalk
import Derived.Laws.BytesArg
import Derived.Laws.MakeOwn
import Derived.Laws.OwnMore
import Derived.Deep.OwnRows
import Derived.Tactics
import Derived.Lib.ConvBytes
import Derived.Laws.Slices
import Derived.WalkKit
import Derived.KernelRfl
import Derived.RowKit3
import Derived.Deep.LoopGhost
import Derived.Deep.QuietTactic
import Derived.BigQuiet
import Derived.WideLaws
import Derived.Deep.DeepCutAuto
import Derived.Deep.CutBlock
import Derived.Deep.RegionHeld3
import Derived.Laws.Rows
import Derived.Lib.AppendStr
import Derived.ArgAppend
import Derived.Laws.IdiomCopy
import Derived.OrdersHeld
import Derived.Laws.BitsLemmas
import Derived.RowKit
import Derived.BigRegion
import Derived.Outline
import Derived.RegionTactic
import Derived.StillTailTactics
import Derived.Deep.RegionLaw
import Derived.Test.YtonpcolkmecddaaVMoneyRef3
import Derived.Test.YtonpcolkmecddaaVLMoney
set_option linter.unusedVariables false
set_option linter.unusedSimpArgs false
namespace Go.Proofs.Ytonpcolkmecddaa.ML
open Go Go.RowKit Go.Proofs.Ytonpcolkmecddaa.QR Go.Proofs.Ytonpcolkmecddaa.DV Go.Proofs.Ytonpcolkmecddaa.MN

/-- What near answers. -/
def near (x : Int) (b : Bool) : Int := if b then x else IntKind.u64.wrap x % 100000000000002

set_option maxRecDepth 100000 in
theorem modv_calls (x : Int) (w : World) :
    Calls Try.prog 27 #[.int .i64 x, .int .i64 100000000000002] w fun e w' => e = .returned (.int .i64 (IntKind.u64.wrap x % 100000000000002)) ∧ w' = w := by
  obtain ⟨X, hX⟩ : ∃ X, X = IntKind.u64.wrap x := ⟨_, rfl⟩
  have hX0 : 0 ≤ X := by rw [hX, IntKind.wrap_u64]; omega
  rw [← hX]
  have c2 : IntKind.u64.wrap x = X := hX.symm
  have c3 : X.tmod 100000000000002 = X % 100000000000002 := Int.tmod_eq_emod_of_nonneg hX0
  have c4 : IntKind.i64.wrap (X % 100000000000002) = X % 100000000000002 := by rw [IntKind.wrap_i64]; omega
  have c5 : IntKind.u64.wrap (X % 100000000000002) = X % 100000000000002 := wrap_in _ (by omega) (by omega)
  clear hX hX0
  go_enter Try.func27, Try.ntmps27
  go_wp2
  go_ret
  exact ⟨rfl, rfl⟩

set_option maxRecDepth 100000 in
theorem near_calls (x : Int) (b : Bool) (w : World) :
    Calls Try.prog 32 #[.int .i64 x, .bool b] w fun e w' => e = .returned (.int .i64 (near x b)) ∧ w' = w := by
  cases b with
  | true =>
    have e : near x true = x := rfl
    go_enter Try.func32, Try.ntmps32
    go_wp2
    go_ret
    exact ⟨by first | rfl | (rw [e]; rfl), rfl⟩
  | false =>
    have e : near x false = IntKind.u64.wrap x % 100000000000002 := rfl
    go_enter Try.func32, Try.ntmps32
    go_wp2_with fail
    refine (modv_calls _ _).mono ?_; rintro _ _ ⟨rfl, rfl⟩
    go_wp2
    go_ret
    exact ⟨by first | rfl | (rw [e]; rfl), rfl⟩

theorem near_is (x : Int) (b : Bool) (y : Int) (w : World) (h : near x b = y) : Calls Try.prog 32 #[.int .i64 x, .bool b] w fun e w' => e = .returned (.int .i64 y) ∧ w' = w := by
  rw [← h]; exact near_calls x b w

set_option maxRecDepth 100000 in
set_option maxHeartbeats 8000000 in
theorem moneyAll_calls (a b c k : Int) (p q r : Bool) (w : World) (B : Nat) (hB : w.heap.size = B) :
    Calls Try.prog 13 #[.int .i64 a, .int .i64 b, .int .i64 c, .int .i64 k, .agg #[.bool p, .bool q, .bool r]] w fun e w' => e = .returned (.bool true) ∧ Kp (fun _ => False) w w' := by
  have HB : Hid (w.heap.size = B) := hB
  go_enter Try.func13, Try.ntmps13
  go_upto_region 0 with (fail)
  go_cut [9] (fun v wc => v = .pointer (some ⟨B, 0, none⟩) ∧ Kp (fun _ => False) w wc ∧ wc.heap[B]? = some (.cells #[.bool p, .bool q, .bool r] 55 (0, 0)))
  case first =>
    go_wp2
    go_meet
    case rel => exact ⟨rfl, (Kp.refl _ _).alloc _, by rw [← HB.out]; exact alloc_new _ _⟩
  case rest =>
  obtain ⟨rfl, hkp, hcell⟩ := hcut
  have hc0 : wc.cell? ⟨B, 0, none⟩ = some (.bool p) := by rw [cell_of_row wc B 0 _ _ (0, 0) hcell]; rfl
  have hc1 : wc.cell? ⟨B, 1, none⟩ = some (.bool q) := by rw [cell_of_row wc B 1 _ _ (0, 0) hcell]; rfl
  have hc2 : wc.cell? ⟨B, 2, none⟩ = some (.bool r) := by rw [cell_of_row wc B 2 _ _ (0, 0) hcell]; rfl
  clear hcell
  go_upto_region 1 with (fail)
  obtain ⟨x, hx⟩ : ∃ x, near a p = x := ⟨_, rfl⟩
  obtain ⟨y, hy⟩ : ∃ x, near b q = x := ⟨_, rfl⟩
  obtain ⟨z, hz⟩ : ∃ x, near c r = x := ⟨_, rfl⟩
  have HX : Hid (near a p = x ∧ near b q = y ∧ near c r = z) := ⟨hx, hy, hz⟩
  clear hx hy hz
  go_quiet ((go_at_call 32; first | exact Calls.quiet_of_same (near_is a p x _ HX.out.1) | exact Calls.quiet_of_same (near_is b q y _ HX.out.2.1) | exact Calls.quiet_of_same (near_is c r z _ HX.out.2.2)))
  obtain ⟨⟨a1, a2⟩, h1⟩ : ∃ t, add x y = t := ⟨_, rfl⟩
  obtain ⟨⟨b1, b2⟩, h2⟩ : ∃ t, sub x y = t := ⟨_, rfl⟩
  obtain ⟨⟨c1, c2⟩, h3⟩ : ∃ t, mul x y = t := ⟨_, rfl⟩
  obtain ⟨⟨d1, d2⟩, h4⟩ : ∃ t, times x y z k = t := ⟨_, rfl⟩
  obtain ⟨⟨f1, f2⟩, h5⟩ : ∃ t, (if y < 0 ∨ 10000 < y then ((0, 2) : Int × Int) else times x y 10000 k) = t := ⟨_, rfl⟩
  replace h1 := Hid.mk' h1
  replace h2 := Hid.mk' h2
  replace h3 := Hid.mk' h3
  replace h4 := Hid.mk' h4
  replace h5 := Hid.mk' h5
  go_wp2_with fail
  refine (calls_Add _ _ _ _ _ h1.out).mono ?_; rintro _ _ ⟨rfl, _, rfl⟩
  go_wp2_with fail
  refine (calls_Sub _ _ _ _ _ h2.out).mono ?_; rintro _ _ ⟨rfl, _, rfl⟩
  go_wp2_with fail
  refine (calls_Mul _ _ _ _ _ h3.out).mono ?_; rintro _ _ ⟨rfl, _, rfl⟩
  go_wp2_with fail
  refine (times_calls _ _ _ _ _ _ _ h4.out).mono ?_; rintro _ w1 ⟨rfl, k1⟩
  go_wp2_with fail
  refine (rate_calls _ _ _ _ _ _ h5.out).mono ?_; rintro _ w2 ⟨rfl, k2⟩
  have k3 := (hkp.drewN _).trans (k1.trans k2)
  clear k1 k2 hkp
  go_wp2_with fail
  refine (rcalls_Add _ _ _ _ _ h1.out).mono ?_; rintro _ _ ⟨rfl, _, rfl⟩
  go_wp2_with fail
  refine (rcalls_Sub _ _ _ _ _ h2.out).mono ?_; rintro _ _ ⟨rfl, _, rfl⟩
  go_wp2_with fail
  refine (rcalls_Mul _ _ _ _ _ h3.out).mono ?_; rintro _ _ ⟨rfl, _, rfl⟩
  go_wp2_with fail
  refine (rtimes_calls _ _ _ _ _ _ _ h4.out).mono ?_; rintro _ _ ⟨rfl, _, rfl⟩
  go_wp2_with fail
  refine (rrate_calls _ _ _ _ _ _ h5.out).mono ?_; rintro _ _ ⟨rfl, _, rfl⟩
  go_wp2_with fail
  refine (awake_calls _).mono ?_; rintro _ w3 ⟨rfl, k4⟩
  have k5 := (k3.drewN _).trans k4
  clear k3 k4
  have n1 : ∀ t : Int, (t == t) = true := fun t => by simp
  cases hR : right x with
  | true =>
    go_wp2_with fail
    refine (right_is x _ hR).mono ?_; rintro _ _ ⟨rfl, _, rfl⟩
    go_wp2_with fail
    refine (rright_is x _ hR).mono ?_; rintro _ _ ⟨rfl, _, rfl⟩
    go_wp2
    go_ret
    exact ⟨by simp, (k5.drewN _)⟩
  | false =>
    go_wp2_with fail
    refine (right_isnt x _ hR).mono ?_; rintro _ _ ⟨rfl, _, rfl⟩
    go_wp2_with fail
    refine (rright_isnt x _ hR).mono ?_; rintro _ _ ⟨rfl, _, rfl⟩
    go_wp2
    go_ret
    exact ⟨by simp, (k5.drewN _)⟩
def f (k : Nat) (a b c d : Int) (p q r : Bool) : Option Bool := some true
theorem calls (k : Nat) (a b c d : Int) (p q r : Bool) (y : Bool) (w : World) (h : f k a b c d p q r = some y) :
    Calls Try.prog 13 #[.int .i64 a, .int .i64 b, .int .i64 c, .int .i64 d, .agg #[.bool p, .bool q, .bool r]] w fun e w' => e = .returned (.bool y) ∧ Below w.heap.size w w' := by
  obtain rfl : y = true := by injection h with h; exact h.symm
  refine (moneyAll_calls a b c d p q r w _ rfl).mono ?_
  rintro e w' ⟨rfl, hk⟩
  exact ⟨rfl, hk.to_below (Nat.le_refl _) (fun _ h => h.elim)⟩
theorem Pure (a b c d : Int) (p q r : Bool) : ∃ k, f k a b c d p q r = some true := ⟨0, rfl⟩
end Go.Proofs.Ytonpcolkmecddaa.ML
