/- The statement MoneySmall. -/
import Derived.Test.YtonpcolkmecddaaProg
import Derived.Below
import Derived.Deep.Draws
import Derived.Deep.AppendLies
import Derived.Maps.AppendAt
import Derived.OwnWalk
import Derived.Laws.BytesArg
import Derived.Laws.MakeOwn
import Derived.Laws.OwnMore
import Derived.Deep.OwnRows
import Derived.Tactics
import Derived.Lib.ConvBytes
import Derived.Laws.Slices
import Derived.WalkKit
import Derived.KernelRfl
import Derived.RowKit3
import Derived.Deep.LoopGhost
import Derived.Deep.QuietTactic
import Derived.BigQuiet
import Derived.WideLaws
import Derived.Deep.DeepCutAuto
import Derived.Deep.CutBlock
import Derived.Deep.RegionHeld3
import Derived.Laws.Rows
import Derived.Lib.AppendStr
import Derived.ArgAppend
import Derived.Laws.IdiomCopy
import Derived.OrdersHeld
import Derived.Laws.BitsLemmas
import Derived.RowKit
import Derived.BigRegion
import Derived.Outline
import Derived.RegionTactic
import Derived.StillTailTactics
import Derived.Deep.RegionLaw
import Derived.Test.YtonpcolkmecddaaLMoney
set_option linter.unusedVariables false
set_option linter.unusedSimpArgs false
namespace Go.Proofs.Ytonpcolkmecddaa.ML
open Go Go.RowKit Go.Proofs.Ytonpcolkmecddaa.QR Go.Proofs.Ytonpcolkmecddaa.DV Go.Proofs.Ytonpcolkmecddaa.MN

theorem times_fine (x n d k q r : Int) (hx : 0 ≤ x ∧ x ≤ 100000000000000) (hn : 0 ≤ n ∧ n ≤ 100000000000000) (hd : 1 ≤ d ∧ d ≤ 100000000000000) (hk : 0 ≤ k ∧ k < 3)
    (hq : x * n / d = q) (hr : x * n % d = r) (hb : q ≤ 100000000000000) (hb2 : rnd k q r d ≤ 100000000000000) : times x n d k = (rnd k q r d, 0) := by
  subst hq; subst hr
  have hask : asked x n d k = true := by unfold asked; rw [right_of hx.1 hx.2, right_of hn.1 hn.2, right_of (by omega) hd.2]; simp; omega
  unfold times
  rw [if_neg (by rw [hask]; decide), if_neg (by omega), if_neg (by omega)]

theorem rnd_le (k q r d : Int) : rnd k q r d ≤ q + 1 := by
  unfold rnd
  (repeat' split) <;> omega

theorem small (x n d : Int) (hx : 0 ≤ x ∧ x < 1048576) (hn : 0 ≤ n ∧ n < 1048576) (hd : 1 ≤ d ∧ d ≤ 1048576) :
    ∃ q r b c, (x * n).tdiv d = q ∧ (x * n).tmod d = r ∧ 0 ≤ q ∧ q < 1099511627776 ∧ 0 ≤ r ∧ r < d ∧ 0 ≤ x * n ∧ x * n < 1099511627776 ∧
      times x n d 0 = (q, 0) ∧ times x n d 1 = (b, 0) ∧ times x n d 2 = (c, 0) ∧ b = (if d ≤ 2 * r then q + 1 else q) ∧ c = (if d < 2 * r ∨ (2 * r = d ∧ q % 2 = 1) then q + 1 else q) := by
  have h0 : 0 ≤ x * n := Int.mul_nonneg hx.1 hn.1
  have h1 : x * n < 1099511627776 := by
    have h2 : x * n ≤ 1048575 * n := Int.mul_le_mul_of_nonneg_right (by omega) hn.1
    omega
  have hq0 : 0 ≤ x * n / d := Int.ediv_nonneg h0 (by omega)
  have hq1 : x * n / d ≤ x * n := Int.ediv_le_self _ h0
  have hr0 := Int.emod_nonneg (x * n) (show d ≠ 0 by omega)
  have hr1 := Int.emod_lt_of_pos (x * n) (show 0 < d by omega)
  refine ⟨x * n / d, x * n % d, _, _, Int.tdiv_eq_ediv_of_nonneg h0, Int.tmod_eq_emod_of_nonneg h0, hq0, by omega, hr0, hr1, h0, h1, ?_, ?_, ?_, rfl, rfl⟩
  · exact times_fine x n d 0 _ _ ⟨hx.1, by omega⟩ ⟨hn.1, by omega⟩ ⟨hd.1, by omega⟩ (by decide) rfl rfl (by omega) (by show x * n / d ≤ _; omega)
  · exact times_fine x n d 1 _ _ ⟨hx.1, by omega⟩ ⟨hn.1, by omega⟩ ⟨hd.1, by omega⟩ (by decide) rfl rfl (by omega) (by have := rnd_le 1 (x * n / d) (x * n % d) d; omega)
  · exact times_fine x n d 2 _ _ ⟨hx.1, by omega⟩ ⟨hn.1, by omega⟩ ⟨hd.1, by omega⟩ (by decide) rfl rfl (by omega) (by have := rnd_le 2 (x * n / d) (x * n % d) d; omega)

set_option maxRecDepth 100000 in
set_option maxHeartbeats 8000000 in
theorem moneySmall_calls (a b c : Int) (w : World) :
    Calls Try.prog 9 #[.int .i64 a, .int .i64 b, .int .i64 c] w fun e w' => e = .returned (.bool true) ∧ Kp (fun _ => False) w w' := by
  go_enter Try.func9, Try.ntmps9
  go_wp2_with fail
  refine (mod64_calls _ _ _ (by decide) (by decide)).mono ?_; rintro _ _ ⟨x, rfl, hx0, hx1, rfl⟩
  go_wp2_with fail
  refine (mod64_calls _ _ _ (by decide) (by decide)).mono ?_; rintro _ _ ⟨n, rfl, hn0, hn1, rfl⟩
  go_wp2_with fail
  refine (mod64_calls _ _ _ (by decide) (by decide)).mono ?_; rintro _ w ⟨y, rfl, hy0, hy1, rfl⟩
  obtain ⟨d, hd⟩ : ∃ d, d = 1 + y := ⟨_, rfl⟩
  obtain ⟨q, r, b, c, hq, hr, hq0, hq1, hr0, hr1, hxn0, hxn1, T0, T1, T2, hb, hc⟩ := small x n d ⟨hx0, hx1⟩ ⟨hn0, hn1⟩ ⟨by omega, by omega⟩
  replace T0 := Hid.mk' T0
  replace T1 := Hid.mk' T1
  replace T2 := Hid.mk' T2
  have HBC := Hid.mk' (And.intro hb hc)
  clear hb hc
  have g0 : IntKind.i64.wrap (1 + y) = d := by rw [hd]; exact wrap_in64 _ (by omega) (by omega)
  have hx : Hid (0 ≤ x ∧ x ≤ 100000000000000) := ⟨by omega, by omega⟩
  have hn : Hid (0 ≤ n ∧ n ≤ 100000000000000) := ⟨by omega, by omega⟩
  have hdd : Hid (1 ≤ d ∧ d ≤ 100000000000000) := ⟨by omega, by omega⟩
  have HR := Hid.mk' (And.intro (And.intro hq hr) (And.intro (And.intro hq0 hq1) (And.intro (And.intro hr0 hr1) (And.intro hxn0 hxn1))))
  clear hd hq hr hq0 hq1 hr0 hr1 hxn0 hxn1 hx0 hx1 hn0 hn1 hy0 hy1
  go_wp2_with fail
  refine (times_good _ _ _ _ _ _ rfl hx.out hn.out hdd.out (by decide)).mono ?_; rw [T0.out]; rintro _ w1 ⟨rfl, k1⟩
  go_wp2_with fail
  refine (times_good _ _ _ _ _ _ rfl hx.out hn.out hdd.out (by decide)).mono ?_; rw [T1.out]; rintro _ w2 ⟨rfl, k2⟩
  go_wp2_with fail
  refine (times_good _ _ _ _ _ _ rfl hx.out hn.out hdd.out (by decide)).mono ?_; rw [T2.out]; rintro _ w3 ⟨rfl, k3⟩
  obtain ⟨⟨hq, hr⟩, ⟨hq0, hq1⟩, ⟨hr0, hr1⟩, hxn0, hxn1⟩ := HR.out
  clear HR
  have hd1 := hdd.out.1
  have hd2 := hdd.out.2
  have nz : ¬ (d = 0) := by omega
  have nz2 : (d == 0) = false := beq_eq_false_iff_ne.2 nz
  have g1 : IntKind.i64.wrap (x * n) = x * n := wrap_in64 _ (by omega) (by omega)
  have g2 : IntKind.i64.wrap ((x * n).tdiv d) = q := by rw [hq]; exact wrap_in64 _ (by omega) (by omega)
  have g3 : IntKind.i64.wrap (2 * r) = 2 * r := wrap_in64 _ (by omega) (by omega)
  have g4 : IntKind.i64.wrap (q + 1) = q + 1 := wrap_in64 _ (by omega) (by omega)
  have k4 := (k1.trans k2).trans k3
  clear k1 k2 k3
  have gq : q.tmod 2 = q % 2 := Int.tmod_eq_emod_of_nonneg hq0
  have HQR : Hid ((x * n).tdiv d = q) := hq
  clear hq hq0 hq1 hr0 hxn0 hxn1 hd1 hd2
  go_upto_region 5 with (fail)
  go_quiet (fail)
  obtain ⟨hb, hc⟩ := HBC.out
  clear HBC
  by_cases h1 : d ≤ 2 * r
  · have f1 : decide (d ≤ 2 * r) = true := decide_eq_true h1
    rw [if_pos h1] at hb
    subst hb
    by_cases h2 : d < 2 * r
    · have f2 : decide (d < 2 * r) = true := decide_eq_true h2
      rw [if_pos (Or.inl h2)] at hc
      subst hc
      clear h1 h2 hr1 nz
      go_wp2_with fail
      refine (awake_calls _).mono ?_; rintro _ w5 ⟨rfl, k6⟩
      go_wp2
      all_goals (go_ret; exact ⟨rfl, (k4.drewN _).trans k6⟩)
    · have f2 : decide (d < 2 * r) = false := decide_eq_false h2
      have f3 : (2 * r == d) = true := beq_iff_eq.2 (by omega)
      by_cases h3 : q % 2 = 1
      · have f4 : (q % 2 == 1) = true := beq_iff_eq.2 h3
        rw [if_pos (Or.inr ⟨by omega, h3⟩)] at hc
        subst hc
        clear h1 h2 hr1 nz h3
        go_wp2_with fail
        refine (awake_calls _).mono ?_; rintro _ w5 ⟨rfl, k6⟩
        go_wp2
        all_goals (go_ret; exact ⟨rfl, (k4.drewN _).trans k6⟩)
      · have f4 : (q % 2 == 1) = false := beq_eq_false_iff_ne.2 h3
        rw [if_neg (by omega)] at hc
        subst hc
        clear h1 h2 hr1 nz h3
        go_wp2_with fail
        refine (awake_calls _).mono ?_; rintro _ w5 ⟨rfl, k6⟩
        go_wp2
        all_goals (go_ret; exact ⟨rfl, (k4.drewN _).trans k6⟩)
  · have f1 : decide (d ≤ 2 * r) = false := decide_eq_false h1
    have f2 : decide (d < 2 * r) = false := decide_eq_false (by omega)
    have f3 : (2 * r == d) = false := beq_eq_false_iff_ne.2 (by omega)
    rw [if_neg h1] at hb
    subst hb
    rw [if_neg (by omega)] at hc
    subst hc
    clear h1 hr1 nz
    go_wp2_with fail
    refine (awake_calls _).mono ?_; rintro _ w5 ⟨rfl, k6⟩
    go_wp2
    all_goals (go_ret; exact ⟨rfl, (k4.drewN _).trans k6⟩)

theorem moneySmall_law (a b c : Int) (w : World) (_ : (Lit.int .i64 a).wf = true) (_ : (Lit.int .i64 b).wf = true) (_ : (Lit.int .i64 c).wf = true) :
    Calls Try.prog 9 #[.int .i64 a, .int .i64 b, .int .i64 c] w fun e w' => e = .returned (.bool true) ∧ Below w.heap.size w w' :=
  (moneySmall_calls a b c w).mono fun _ _ h => ⟨h.1, h.2.to_below (Nat.le_refl _) (fun _ h => h.elim)⟩

end Go.Proofs.Ytonpcolkmecddaa.ML
