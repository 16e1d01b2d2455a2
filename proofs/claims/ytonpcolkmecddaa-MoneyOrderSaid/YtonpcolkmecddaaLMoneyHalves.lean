/- The statement MoneyHalves. -/
import Derived.Test.YtonpcolkmecddaaProg
import Derived.Below
import Derived.Deep.Draws
import Derived.Deep.AppendLies
import Derived.Maps.AppendAt
import Derived.OwnWalk
import Derived.Laws.BytesArg
import Derived.Laws.MakeOwn
import Derived.Laws.OwnMore
import Derived.Deep.OwnRows
import Derived.Tactics
import Derived.Lib.ConvBytes
import Derived.Laws.Slices
import Derived.WalkKit
import Derived.KernelRfl
import Derived.RowKit3
import Derived.Deep.LoopGhost
import Derived.Deep.QuietTactic
import Derived.BigQuiet
import Derived.WideLaws
import Derived.Deep.DeepCutAuto
import Derived.Deep.CutBlock
import Derived.Deep.RegionHeld3
import Derived.Laws.Rows
import Derived.Lib.AppendStr
import Derived.ArgAppend
import Derived.Laws.IdiomCopy
import Derived.OrdersHeld
import Derived.Laws.BitsLemmas
import Derived.RowKit
import Derived.BigRegion
import Derived.Outline
import Derived.RegionTactic
import Derived.StillTailTactics
import Derived.Deep.RegionLaw
import Derived.Test.YtonpcolkmecddaaLMoney
set_option linter.unusedVariables false
set_option linter.unusedSimpArgs false
namespace Go.Proofs.Ytonpcolkmecddaa.ML
open Go Go.RowKit Go.Proofs.Ytonpcolkmecddaa.QR Go.Proofs.Ytonpcolkmecddaa.DV Go.Proofs.Ytonpcolkmecddaa.MN

theorem times_ok (x n d k q r : Int) (hx : 0 ≤ x ∧ x ≤ 100000000000000) (hn : 0 ≤ n ∧ n ≤ 100000000000000) (hd : 1 ≤ d ∧ d ≤ 100000000000000) (hk : 0 ≤ k ∧ k < 3)
    (hq : x * n / d = q) (hr : x * n % d = r) (hb : q ≤ 100000000000000) (hb2 : rnd k q r d ≤ 100000000000000) : times x n d k = (rnd k q r d, 0) := by
  subst hq; subst hr
  have hask : asked x n d k = true := by unfold asked; rw [right_of hx.1 hx.2, right_of hn.1 hn.2, right_of (by omega) hd.2]; simp; omega
  unfold times
  rw [if_neg (by rw [hask]; decide), if_neg (by omega), if_neg (by omega)]

theorem halves (x q r : Int) (h0 : 0 ≤ x) (h1 : x ≤ 100000000000000) (hq : q = x / 2) (hr : r = x % 2) :
    ∃ b c, times x 1 2 0 = (q, 0) ∧ times x 1 2 1 = (b, 0) ∧ times x 1 2 2 = (c, 0) ∧ times x 5000 10000 2 = (c, 0) ∧ b = x - q ∧ 0 ≤ c ∧ c ≤ 100000000000000 ∧ ((r = 0 ∧ c = q) ∨ (r = 1 ∧ c % 2 = 0 ∧ (c = q ∨ (c ≠ q ∧ c = b)))) := by
  have e0 : rnd 0 q r 2 = q := rfl
  have e1 : rnd 1 q r 2 = x - q := by
    show (if (2 : Int) ≤ 2 * r then q + 1 else q) = _
    split <;> omega
  have e2 : rnd 2 q (5000 * r) 10000 = rnd 2 q r 2 := by
    show (if (10000 : Int) < 2 * (5000 * r) ∨ (2 * (5000 * r) = 10000 ∧ q % 2 = 1) then q + 1 else q) = (if (2 : Int) < 2 * r ∨ (2 * r = 2 ∧ q % 2 = 1) then q + 1 else q)
    split <;> split <;> omega
  obtain ⟨c, hc⟩ : ∃ c, rnd 2 q r 2 = c := ⟨_, rfl⟩
  have hc2 : (if (2 : Int) < 2 * r ∨ (2 * r = 2 ∧ q % 2 = 1) then q + 1 else q) = c := hc
  have hcb : 0 ≤ c ∧ c ≤ 100000000000000 ∧ ((r = 0 ∧ c = q) ∨ (r = 1 ∧ c % 2 = 0 ∧ (c = q ∨ (c ≠ q ∧ c = x - q)))) := by
    split at hc2 <;> omega
  refine ⟨x - q, c, ?_, ?_, ?_, ?_, rfl, hcb⟩
  · rw [times_ok x 1 2 0 q r ⟨h0, h1⟩ (by decide) (by decide) (by decide) (by omega) (by omega) (by omega) (by rw [e0]; omega), e0]
  · rw [times_ok x 1 2 1 q r ⟨h0, h1⟩ (by decide) (by decide) (by decide) (by omega) (by omega) (by omega) (by rw [e1]; omega), e1]
  · rw [times_ok x 1 2 2 q r ⟨h0, h1⟩ (by decide) (by decide) (by decide) (by omega) (by omega) (by omega) (by rw [hc]; omega), hc]
  · rw [times_ok x 5000 10000 2 q (5000 * r) ⟨h0, h1⟩ (by decide) (by decide) (by decide) (by omega) (by omega) (by omega) (by rw [e2, hc]; omega), e2, hc]

set_option maxRecDepth 100000 in
set_option maxHeartbeats 8000000 in
theorem moneyHalves_calls (a : Int) (w : World) :
    Calls Try.prog 10 #[.int .i64 a] w fun e w' => e = .returned (.bool true) ∧ Kp (fun _ => False) w w' := by
  go_enter Try.func10, Try.ntmps10
  go_wp2_with fail
  refine (mod64_calls _ _ _ (by decide) (by decide)).mono ?_; rintro _ w ⟨x, rfl, hx0, hx1, rfl⟩
  obtain ⟨b, c, T0, T1, T2, T3, hb, hc0, hc1, hc⟩ := halves x (x / 2) (x % 2) hx0 (by omega) rfl rfl
  subst hb
  replace T0 := Hid.mk' T0
  replace T1 := Hid.mk' T1
  replace T2 := Hid.mk' T2
  replace T3 := Hid.mk' T3
  go_wp2_with fail
  refine (times_good _ _ _ _ _ _ rfl ⟨hx0, by omega⟩ (by decide) (by decide) (by decide)).mono ?_; rw [T0.out]; rintro _ w1 ⟨rfl, k1⟩
  go_wp2_with fail
  refine (times_good _ _ _ _ _ _ rfl ⟨hx0, by omega⟩ (by decide) (by decide) (by decide)).mono ?_; rw [T1.out]; rintro _ w2 ⟨rfl, k2⟩
  go_wp2_with fail
  refine (times_good _ _ _ _ _ _ rfl ⟨hx0, by omega⟩ (by decide) (by decide) (by decide)).mono ?_; rw [T2.out]; rintro _ w3 ⟨rfl, k3⟩
  go_wp2_with fail
  refine (times_good _ _ _ _ _ _ rfl ⟨hx0, by omega⟩ (by decide) (by decide) (by decide)).mono ?_; rw [T3.out]; rintro _ w4 ⟨rfl, k4⟩
  have g1 : IntKind.i64.wrap (x.tdiv 2) = x / 2 := by rw [Int.tdiv_eq_ediv_of_nonneg hx0]; exact wrap_in64 _ (by omega) (by omega)
  have g2 : IntKind.i64.wrap (x - x / 2) = x - x / 2 := wrap_in64 _ (by omega) (by omega)
  have g3 : x.tmod 2 = x % 2 := Int.tmod_eq_emod_of_nonneg hx0
  have k5 := ((k1.trans k2).trans k3).trans k4
  clear k1 k2 k3 k4
  rcases hc with ⟨r0, hc⟩ | ⟨r1, hc2, hc⟩
  · have f1 : (x % 2 == 0) = true := beq_iff_eq.2 r0
    have f2 : (c == x / 2) = true := beq_iff_eq.2 hc
    clear hx0 hx1 hc0 hc1 hc r0
    go_wp2_with fail
    refine (awake_calls _).mono ?_; rintro _ w5 ⟨rfl, k6⟩
    go_wp2
    all_goals (go_ret; exact ⟨rfl, k5.trans k6⟩)
  · have f0 : (x % 2 == 0) = false := beq_eq_false_iff_ne.2 (by omega)
    have f1 : (x % 2 == 1) = true := beq_iff_eq.2 r1
    have f3 : (c.tmod 2 == 0) = true := by rw [Int.tmod_eq_emod_of_nonneg hc0]; exact beq_iff_eq.2 hc2
    rcases hc with hc | ⟨hcn, hc⟩
    · have f2 : (c == x / 2) = true := beq_iff_eq.2 hc
      clear hx0 hx1 hc0 hc1 hc r1 hc2
      go_wp2_with fail
      refine (awake_calls _).mono ?_; rintro _ w5 ⟨rfl, k6⟩
      go_wp2
      all_goals (go_ret; exact ⟨rfl, k5.trans k6⟩)
    · have f2 : (c == x / 2) = false := beq_eq_false_iff_ne.2 hcn
      have f4 : (c == x - x / 2) = true := beq_iff_eq.2 hc
      clear hx0 hx1 hc0 hc1 hc r1 hc2 hcn
      go_wp2_with fail
      refine (awake_calls _).mono ?_; rintro _ w5 ⟨rfl, k6⟩
      go_wp2
      all_goals (go_ret; exact ⟨rfl, k5.trans k6⟩)

theorem moneyHalves_law (a : Int) (w : World) (_ : (Lit.int .i64 a).wf = true) :
    Calls Try.prog 10 #[.int .i64 a] w fun e w' => e = .returned (.bool true) ∧ Below w.heap.size w w' :=
  (moneyHalves_calls a w).mono fun _ _ h => ⟨h.1, h.2.to_below (Nat.le_refl _) (fun _ h => h.elim)⟩

end Go.Proofs.Ytonpcolkmecddaa.ML
