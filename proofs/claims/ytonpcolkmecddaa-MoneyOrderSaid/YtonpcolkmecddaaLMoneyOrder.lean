/- The statement MoneyOrder. -/
import Derived.Test.YtonpcolkmecddaaProg
import Derived.Below
import Derived.Deep.Draws
import Derived.Deep.AppendLies
import Derived.Maps.AppendAt
import Derived.OwnWalk
import Derived.Laws.BytesArg
import Derived.Laws.MakeOwn
import Derived.Laws.OwnMore
import Derived.Deep.OwnRows
import Derived.Tactics
import Derived.Lib.ConvBytes
import Derived.Laws.Slices
import Derived.WalkKit
import Derived.KernelRfl
import Derived.RowKit3
import Derived.Deep.LoopGhost
import Derived.Deep.QuietTactic
import Derived.BigQuiet
import Derived.WideLaws
import Derived.Deep.DeepCutAuto
import Derived.Deep.CutBlock
import Derived.Deep.RegionHeld3
import Derived.Laws.Rows
import Derived.Lib.AppendStr
import Derived.ArgAppend
import Derived.Laws.IdiomCopy
import Derived.OrdersHeld
import Derived.Laws.BitsLemmas
import Derived.RowKit
import Derived.BigRegion
import Derived.Outline
import Derived.RegionTactic
import Derived.StillTailTactics
import Derived.Deep.RegionLaw
import Derived.Test.YtonpcolkmecddaaLMoneyApart
set_option linter.unusedVariables false
set_option linter.unusedSimpArgs false
namespace Go.Proofs.Ytonpcolkmecddaa.ML
open Go Go.RowKit Go.Proofs.Ytonpcolkmecddaa.QR Go.Proofs.Ytonpcolkmecddaa.DV Go.Proofs.Ytonpcolkmecddaa.MN

theorem rnd_mono (k u v : Int) (h : u ≤ v) : rnd k (u / 10000) (u % 10000) 10000 ≤ rnd k (v / 10000) (v % 10000) 10000 := by
  unfold rnd
  (repeat' split) <;> omega

theorem rate_more (x y r s k : Int) (hx : 0 ≤ x) (hxy : x ≤ y) (hr : 0 ≤ r) (hrs : r ≤ s) : rnd k (x * r / 10000) (x * r % 10000) 10000 ≤ rnd k (y * s / 10000) (y * s % 10000) 10000 := by
  refine rnd_mono k _ _ ?_
  exact Int.le_trans (Int.mul_le_mul_of_nonneg_right hxy hr) (Int.mul_le_mul_of_nonneg_left hrs (by omega))

set_option maxRecDepth 100000 in
set_option maxHeartbeats 8000000 in
theorem moneyOrder_calls (a b c d f : Int) (w : World) :
    Calls Try.prog 11 #[.int .i64 a, .int .i64 b, .int .i64 c, .int .i64 d, .int .i64 f] w fun e w' => e = .returned (.bool true) ∧ Kp (fun _ => False) w w' := by
  go_enter Try.func11, Try.ntmps11
  go_wp2_with fail
  refine (mod64_calls _ _ _ (by decide) (by decide)).mono ?_; rintro _ _ ⟨x, rfl, hx0, hx1, rfl⟩
  go_wp2_with fail
  refine (mod64_calls _ _ _ (by decide) (by decide)).mono ?_; rintro _ _ ⟨y, rfl, hy0, hy1, rfl⟩
  go_wp2_with fail
  refine (mod64_calls _ _ _ (by decide) (by decide)).mono ?_; rintro _ _ ⟨r, rfl, hr0, hr1, rfl⟩
  go_wp2_with fail
  refine (mod64_calls _ _ _ (by decide) (by decide)).mono ?_; rintro _ _ ⟨s, rfl, hs0, hs1, rfl⟩
  go_wp2_with fail
  refine (mod_calls _ _ _ (by decide) (by decide)).mono ?_; rintro _ w ⟨k, rfl, hk0, hk1, rfl⟩
  obtain ⟨p, hp⟩ : ∃ p, min x y = p := ⟨_, rfl⟩
  obtain ⟨P, hP⟩ : ∃ p, max x y = p := ⟨_, rfl⟩
  obtain ⟨q, hq⟩ : ∃ p, min r s = p := ⟨_, rfl⟩
  obtain ⟨Q, hQ⟩ : ∃ p, max r s = p := ⟨_, rfl⟩
  have bx : Hid (0 ≤ x ∧ x ≤ 100000000000000) := ⟨by omega, by omega⟩
  have bp : Hid (0 ≤ p ∧ p ≤ 100000000000000) := ⟨by omega, by omega⟩
  have bP : Hid (0 ≤ P ∧ P ≤ 100000000000000) := ⟨by omega, by omega⟩
  have bq : Hid (0 ≤ q ∧ q ≤ 10000) := ⟨by omega, by omega⟩
  have bQ : Hid (0 ≤ Q ∧ Q ≤ 10000) := ⟨by omega, by omega⟩
  have hk : Hid (0 ≤ k ∧ k < 3) := ⟨hk0, hk1⟩
  obtain ⟨A, HA, eA, -⟩ := rate_is p q k bp.out bq.out hk.out
  obtain ⟨B, HB, eB, -⟩ := rate_is P q k bP.out bq.out hk.out
  obtain ⟨C, HC, eC, c1, c2, c3, c4, c5⟩ := rate_is P Q k bP.out bQ.out hk.out
  obtain ⟨D, HD, eD, d1, d2, d3, d4⟩ := rate_is x 10000 k bx.out (by decide) hk.out
  obtain ⟨E, HE, eE, n1, n2, n3, n4⟩ := rate_is x 0 k bx.out (by decide) hk.out
  have f1 : decide (A ≤ B) = true := decide_eq_true (by rw [eA, eB]; exact rate_more p P q q k bp.out.1 (by omega) bq.out.1 (Int.le_refl _))
  have f2 : decide (B ≤ C) = true := decide_eq_true (by rw [eB, eC]; exact rate_more P P q Q k bP.out.1 (Int.le_refl _) bq.out.1 (by omega))
  have f3 : decide (C ≤ P) = true := decide_eq_true c5
  have f4 : (D == x) = true := beq_iff_eq.2 (by have := d3 (by omega); omega)
  have f5 : (E == 0) = true := beq_iff_eq.2 (by have := n3 (by omega); omega)
  replace HA := Hid.mk' HA
  replace HB := Hid.mk' HB
  replace HC := Hid.mk' HC
  replace HD := Hid.mk' HD
  replace HE := Hid.mk' HE
  have b1 : Hid ((0 : Int) ≤ 10000 ∧ (10000 : Int) ≤ 10000) := ⟨by decide, by decide⟩
  have b0 : Hid ((0 : Int) ≤ 0 ∧ (0 : Int) ≤ 10000) := ⟨by decide, by decide⟩
  clear c1 c2 c3 c4 c5 d1 d2 d3 d4 n1 n2 n3 n4 eA eB eC eD eE hx0 hx1 hy0 hy1 hr0 hr1 hs0 hs1 hk0 hk1
  go_wp2_with fail
  refine (rate_good _ _ _ _ _ _ bp.out bq.out hk.out HA.out).mono ?_; rintro _ w1 ⟨rfl, k1⟩
  go_wp2_with fail
  refine (rate_good _ _ _ _ _ _ bP.out bq.out hk.out HB.out).mono ?_; rintro _ w2 ⟨rfl, k2⟩
  go_wp2_with fail
  refine (rate_good _ _ _ _ _ _ bP.out bQ.out hk.out HC.out).mono ?_; rintro _ w3 ⟨rfl, k3⟩
  go_wp2_with fail
  refine (rate_good _ _ _ _ _ _ bx.out b1.out hk.out HD.out).mono ?_; rintro _ w4 ⟨rfl, k4⟩
  go_wp2_with fail
  refine (rate_good _ _ _ _ _ _ bx.out b0.out hk.out HE.out).mono ?_; rintro _ w5 ⟨rfl, k5⟩
  have k6 := (((k1.trans k2).trans k3).trans k4).trans k5
  clear k1 k2 k3 k4 k5
  go_wp2_with fail
  refine (awake_calls _).mono ?_; rintro _ w6 ⟨rfl, k7⟩
  go_wp2
  all_goals (go_ret; exact ⟨rfl, k6.trans k7⟩)

theorem moneyOrder_law (a b c d f : Int) (w : World) (_ : (Lit.int .i64 a).wf = true) (_ : (Lit.int .i64 b).wf = true) (_ : (Lit.int .i64 c).wf = true) (_ : (Lit.int .i64 d).wf = true) (_ : (Lit.int .i64 f).wf = true) :
    Calls Try.prog 11 #[.int .i64 a, .int .i64 b, .int .i64 c, .int .i64 d, .int .i64 f] w fun e w' => e = .returned (.bool true) ∧ Below w.heap.size w w' :=
  (moneyOrder_calls a b c d f w).mono fun _ _ h => ⟨h.1, h.2.to_below (Nat.le_refl _) (fun _ h => h.elim)⟩

end Go.Proofs.Ytonpcolkmecddaa.ML
