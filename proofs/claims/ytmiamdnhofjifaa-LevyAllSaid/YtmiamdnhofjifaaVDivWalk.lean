/- math/bits.Div64: the quotient and the rest of a number of two words, whose upper one is below the divisor. -/
import Derived.Test.YtmiamdnhofjifaaProg
import Derived.Below
import Derived.Deep.Draws
import Derived.Deep.AppendLies
import Derived.Maps.AppendAt
import Derived.OwnWalk
import Derived.Laws.BytesArg
import Derived.Laws.MakeOwn
import Derived.Laws.OwnMore
import Derived.Deep.OwnRows
import Derived.Tactics
import Derived.Lib.ConvBytes
import Derived.Laws.Slices
import Derived.WalkKit
import Derived.KernelRfl
import Derived.RowKit3
import Derived.Deep.LoopGhost
import Derived.Deep.QuietTactic
import Derived.BigQuiet
import Derived.WideLaws
import Derived.Deep.DeepCutAuto
import Derived.Deep.CutBlock
import Derived.Deep.RegionHeld3
import Derived.Laws.Rows
import Derived.Lib.AppendStr
import Derived.ArgAppend
import Derived.Laws.IdiomCopy
import Derived.OrdersHeld
import Derived.Laws.BitsLemmas
import Derived.RowKit
import Derived.BigRegion
import Derived.Outline
import Derived.RegionTactic
import Derived.StillTailTactics
import Derived.Deep.RegionLaw
import Derived.Test.YtmiamdnhofjifaaVDivBits
import Derived.Test.YtmiamdnhofjifaaVShelf
set_option linter.unusedVariables false
set_option linter.unusedSimpArgs false
namespace Go.Proofs.Ytmiamdnhofjifaa.DV
open Go Go.RowKit

set_option maxRecDepth 100000 in
set_option maxHeartbeats 4000000 in
theorem div64_small (lo y : Int) (w : World) (h0 : 0 ≤ lo) (h1 : lo < 18446744073709551616) (hy : 0 < y) (hy' : y < 18446744073709551616) :
    Calls Try.prog 64 #[.int .u64 0, .int .u64 lo, .int .u64 y] w fun e w' => e = .returned (.tuple #[.int .u64 (lo / y), .int .u64 (lo % y)]) ∧ ∃ k, w' = w.drewN k := by
  have e1 : (y == 0) = false := beq_eq_false_iff_ne.2 (by omega)
  have e2 : decide (y ≤ 0) = false := decide_eq_false (by omega)
  go_enter Try.func64, Try.ntmps64
  go_wp2
  go_quiet (fail)
  go_wp2
  go_ret2
  exact ⟨rfl, _, rfl⟩

theorem first_all {y y1 y0 u d : Int} (h : Step y y1 y0 u d) : Hid (Guess y y1 y0 u d (u / y1) (u - u / y1 * y1)) ∧ Hid (u - u / y1 * y1 < 4294967296) ∧ Hid (u / y1 ≤ 4294967297) := by
  refine ⟨first_guess h, ?_, first_le h⟩
  show _ < _
  have h1 := h.h1
  have := Int.emod_lt_of_pos u (show 0 < y1 by omega)
  have hdm := Int.mul_ediv_add_emod u y1
  have hdm2 : u / y1 * y1 = y1 * (u / y1) := Int.mul_comm _ _
  have := h.h1'
  omega

theorem wrap_first {y y1 y0 u d : Int} (h : Step y y1 y0 u d) : IntKind.u64.wrap (u - IntKind.u64.wrap (u / y1 * y1)) = u - u / y1 * y1 := by
  have h1 := h.h1
  have := Int.emod_lt_of_pos u (show 0 < y1 by omega)
  have := Int.emod_nonneg u (show y1 ≠ 0 by omega)
  have hdm := Int.mul_ediv_add_emod u y1
  have hdm2 : u / y1 * y1 = y1 * (u / y1) := Int.mul_comm _ _
  have := h.h1'; have := h.hu; have := h.hu'; have := h.hy; have := h.h0'
  have hq := Int.ediv_nonneg h.hu (show 0 ≤ y1 by omega)
  have hqq : 0 ≤ u / y1 * y1 := Int.mul_nonneg hq (by omega)
  rw [wrap_in (u / y1 * y1) hqq (by omega), wrap_in _ (by omega) (by omega)]

theorem wrap_div {y y1 y0 u d : Int} (h : Step y y1 y0 u d) : IntKind.u64.wrap (u.tdiv y1) = u / y1 := by
  rw [Int.tdiv_eq_ediv_of_nonneg h.hu]
  refine wrap_in _ (Int.ediv_nonneg h.hu (by have := h.h1; omega)) ?_
  have := first_le h
  omega

/-- What the last line answers. -/
theorem last {hi lo y Y Y1 Y0 A L D1 D0 U qf q0 r0 : Int} {s : Nat} 
    (hz : Hid (0 < y ∧ Y = y * 2 ^ s ∧ (hi * 18446744073709551616 + lo) * 2 ^ s = A * 18446744073709551616 + L ∧ L = D1 * 4294967296 + D0 ∧ Y < 18446744073709551616))
    (hw : Hid (Step Y Y1 Y0 U D0)) (Q1 : Hid (U = A * 4294967296 + D1 - qf * Y ∧ 0 ≤ qf ∧ qf < 4294967296)) (hG2 : Hid (Guess Y Y1 Y0 U D0 q0 r0)) (hR : Hid (q0 * Y0 ≤ r0 * 4294967296 + D0)) :
    IntKind.u64.wrap (IntKind.u64.wrap (qf * 4294967296) + q0) = (hi * 18446744073709551616 + lo) / y ∧
    IntKind.u64.wrap (IntKind.u64.wrap (IntKind.u64.wrap (U * 4294967296) + D0) - IntKind.u64.wrap (q0 * Y)) / 2 ^ s = (hi * 18446744073709551616 + lo) % y := by
  have hR2 := right_guess hw.out hG2.out hR.out
  have hY0 : 0 < Y := by have := hw.out.hu; have := hw.out.hu'; omega
  have h2 := two_steps Y qf q0 U (A * 4294967296 + D1) D0 hY0 Q1.out.1 hR2.1
  have hS : (0 : Int) < 2 ^ s := Int.pow_pos (by decide)
  have hsh := shifted (hi * 18446744073709551616 + lo) y (2 ^ s) hS
  have e : (A * 4294967296 + D1) * 4294967296 + D0 = (hi * 18446744073709551616 + lo) * 2 ^ s := by
    rw [hz.out.2.2.1, hz.out.2.2.2.1]; omega
  rw [e, hz.out.2.1] at h2
  have := Q1.out.2; have := hG2.out.hq; have := hR2.2
  have e1 : IntKind.u64.wrap (IntKind.u64.wrap (qf * 4294967296) + q0) = qf * 4294967296 + q0 := by
    simp only [IntKind.wrap_u64]; omega
  have e2 := wrap_step U D0 (q0 * Y) hR2.2.1 (by have := hR2.2.2.1; have := hz.out.2.2.2.2; omega)
  refine ⟨?_, ?_⟩
  · rw [e1, ← hsh.1, h2.1]
  · rw [e2, ← hsh.2, h2.2, hz.out.2.1]

set_option maxRecDepth 100000 in
set_option maxHeartbeats 16000000 in
theorem div64_great (hi lo y : Int) (w : World) (h0 : 0 ≤ lo) (h1 : lo < 18446744073709551616) (hh : 0 < hi) (hy : hi < y) (hy' : y < 18446744073709551616) :
    Calls Try.prog 64 #[.int .u64 hi, .int .u64 lo, .int .u64 y] w fun e w' => e = .returned (.tuple #[.int .u64 ((hi * 18446744073709551616 + lo) / y), .int .u64 ((hi * 18446744073709551616 + lo) % y)]) ∧ ∃ k, w' = w.drewN k := by
  have e1 : (y == 0) = false := beq_eq_false_iff_ne.2 (by omega)
  have e2 : decide (y ≤ hi) = false := decide_eq_false (by omega)
  have e3 : (hi == 0) = false := beq_eq_false_iff_ne.2 (by omega)
  obtain ⟨s, hs63, hs, hn1, hn2⟩ := norm y (by omega) hy'
  obtain ⟨ehi, A, L, fA, fL, eAL, hL0, hL1, hA0, hA1⟩ := shift_two hi lo y s hs63 h0 h1 (by omega) hy hn2
  obtain ⟨Y, hY⟩ : ∃ Y, Y = y * 2 ^ s := ⟨_, rfl⟩
  rw [← hY] at hn1 hn2 hA1
  have f2 : IntKind.u64.wrap (y * 2 ^ s) = Y := by rw [← hY]; exact wrap_in _ (by omega) hn2
  obtain ⟨s2, hs2⟩ : ∃ s2, s2 = 64 - s := ⟨_, rfl⟩
  rw [← hs2] at fA
  have f8a : min ((s : Int)).toNat 64 = s := by rw [Int.toNat_natCast]; omega
  have f8b : IntKind.u64.wrap (64 - (s : Int)) = (s2 : Int) := by rw [IntKind.wrap_u64]; omega
  have f8c : min ((s2 : Int)).toNat 64 = s2 := by rw [Int.toNat_natCast]; omega
  have f8d : min s 64 = s := by omega
  have f8e : min s2 64 = s2 := by omega
  obtain ⟨Y1, f9⟩ : ∃ Y1, Y / 4294967296 = Y1 := ⟨_, rfl⟩
  obtain ⟨Y0, hY0⟩ : ∃ Y0, Y % 4294967296 = Y0 := ⟨_, rfl⟩
  have f10 : bits .and .u64 Y 4294967295 = Y0 := by rw [mask Y (by omega) hn2]; exact hY0
  obtain ⟨D1, f13⟩ : ∃ D1, L / 4294967296 = D1 := ⟨_, rfl⟩
  obtain ⟨D0, hD0⟩ : ∃ D0, L % 4294967296 = D0 := ⟨_, rfl⟩
  have f14 : bits .and .u64 L 4294967295 = D0 := by rw [mask L hL0 hL1]; exact hD0
  have hS1 : Hid (Step Y Y1 Y0 A D1) := ⟨by omega, by omega, by omega, by omega, by omega, hA0, hA1, by omega, by omega⟩
  have hD : Hid (0 ≤ D0 ∧ D0 < 4294967296) := ⟨by omega, by omega⟩
  have hz : Hid (0 < y ∧ Y = y * 2 ^ s ∧ (hi * 18446744073709551616 + lo) * 2 ^ s = A * 18446744073709551616 + L ∧ L = D1 * 4294967296 + D0 ∧ Y < 18446744073709551616) := ⟨by omega, hY, eAL, by omega, hn2⟩
  have e4 : (Y1 == 0) = false := beq_eq_false_iff_ne.2 (by omega)
  have e4p : ¬ (Y1 = 0) := by omega
  have hlz : 0 ≤ y ∧ y < 18446744073709551616 := ⟨by omega, hy'⟩
  obtain ⟨QA, hQA⟩ : ∃ QA, QA = A / Y1 := ⟨_, rfl⟩
  obtain ⟨RA, hRA⟩ : ∃ RA, RA = A - A / Y1 * Y1 := ⟨_, rfl⟩
  have f15 : IntKind.u64.wrap (A.tdiv Y1) = QA := by rw [hQA]; exact wrap_div hS1.out
  have hF1 : Hid (Guess Y Y1 Y0 A D1 QA RA) ∧ Hid (RA < 4294967296) ∧ Hid (QA ≤ 4294967297) := by rw [hQA, hRA]; exact first_all hS1.out
  have f16a : IntKind.u64.wrap (A - IntKind.u64.wrap (QA * Y1)) = RA := by rw [hRA, hQA]; exact wrap_first hS1.out
  have Hlz : Hid (0 ≤ y ∧ y < 18446744073709551616) := hlz
  clear hQA hRA hD0 hY0 hlz hs2 hY hn1 hn2 hs63 eAL hL0 hL1 hA0 hA1 h0 h1 hh hy hy'
  go_enter Try.func64, Try.ntmps64
  go_wp2_with fail
  refine (Sh.Try.bits_LeadingZeros64 y w Hlz.out.1 (by have := Hlz.out.2; omega)).mono ?_
  rintro e w' ⟨rfl, rfl⟩
  go_wp2
  go_loop [15, 16] (fun a b => ∃ (q r : Int), a = .int .u64 q ∧ b = .int .u64 r ∧ Hid (Guess Y Y1 Y0 A D1 q r) ∧ Hid (r < 4294967296) ∧ Hid (q ≤ 4294967297)) (fun a b => (intOf a).toNat)
  case atStart => exact ⟨QA, RA, by simp only [f15, f16a], by simp only [f15, f16a], hF1⟩
  case round =>
    obtain ⟨q, r, rfl, rfl, hG, hr, hq⟩ := hrel
    have hSt := hS1.out
    have hfit := fits q Y0 hG.out.hq hq.out hSt.h0 hSt.h0'
    obtain ⟨P, hP⟩ : ∃ P, P = q * Y0 := ⟨_, rfl⟩
    have g1 : IntKind.u64.wrap (q * Y0) = P := by rw [hP]; exact wrap_in _ hfit.1 hfit.2
    obtain ⟨R5, hR5⟩ : ∃ R5, R5 = r * 4294967296 + D1 := ⟨_, rfl⟩
    have g2 : IntKind.u64.wrap (IntKind.u64.wrap (4294967296 * r) + D1) = R5 := by
      have := hG.out.hr; have := hr.out; have := hSt.hd; have := hSt.hd'
      rw [hR5, IntKind.wrap_u64, IntKind.wrap_u64]; omega
    have Hfit : Hid (P = q * Y0 ∧ R5 = r * 4294967296 + D1) := ⟨hP, hR5⟩
    clear hfit hP hR5
    by_cases hge : 4294967296 ≤ q ∨ R5 < P
    · have hng := next_guess hSt hG.out (by rw [Hfit.out.1, Hfit.out.2] at hge; exact hge)
      obtain ⟨qf, hqf⟩ : ∃ qf, qf = q - 1 := ⟨_, rfl⟩
      obtain ⟨rf, hrf⟩ : ∃ rf, rf = r + Y1 := ⟨_, rfl⟩
      have hG2 : Hid (Guess Y Y1 Y0 A D1 qf rf) := by rw [hqf, hrf]; exact hng.2
      have g3 : IntKind.u64.wrap (q - 1) = qf := by rw [hqf]; exact wrap_in _ (by have := hng.1; omega) (by have := hq.out; omega)
      have g4 : IntKind.u64.wrap (r + Y1) = rf := by
        rw [hrf]; refine wrap_in _ ?_ ?_
        · have := hG.out.hr; have := hSt.h1; omega
        · have := hr.out; have := hSt.h1'; omega
      have Hqf : Hid (qf = q - 1 ∧ qf ≤ 4294967296 ∧ 0 < q) := ⟨hqf, by have := hq.out; omega, hng.1⟩
      clear hqf hrf hng hSt
      by_cases hbr : 4294967296 ≤ rf
      · have g5 : decide (4294967296 ≤ rf) = true := decide_eq_true hbr
        have hR : Hid (qf * Y0 ≤ rf * 4294967296 + D1) := past hS1.out Hqf.out.2.1 hbr
        clear hbr
        by_cases hq1 : 4294967296 ≤ q
        · have g6 : decide (4294967296 ≤ q) = true := decide_eq_true hq1
          clear hge hq1
          go_wp2
          have hRt := right_guess hS1.out hG2.out hR.out
          obtain ⟨U, hU⟩ : ∃ U, U = A * 4294967296 + D1 - qf * Y := ⟨_, rfl⟩
          have f17 : IntKind.u64.wrap (IntKind.u64.wrap (IntKind.u64.wrap (A * 4294967296) + D1) - IntKind.u64.wrap (qf * Y)) = U := by
            rw [hU]; exact wrap_step A D1 (qf * Y) hRt.2.1 (by have := hRt.2.2.1; have := hS1.out.hy; have := hS1.out.h1'; have := hS1.out.h0'; omega)
          have hS2 : Hid (Step Y Y1 Y0 U D0) := ⟨hS1.out.hy, hS1.out.h0, hS1.out.h0', hS1.out.h1, hS1.out.h1', by rw [hU]; exact hRt.2.1, by rw [hU]; exact hRt.2.2.1, hD.out.1, hD.out.2⟩
          have Q1 : Hid (U = A * 4294967296 + D1 - qf * Y ∧ 0 ≤ qf ∧ qf < 4294967296) := ⟨hU, hG2.out.hq, hRt.2.2.2⟩
          clear hU hRt hR hG2 hS1
          obtain ⟨Q0, hQ0⟩ : ∃ Q0, Q0 = U / Y1 := ⟨_, rfl⟩
          obtain ⟨R0, hR0⟩ : ∃ R0, R0 = U - U / Y1 * Y1 := ⟨_, rfl⟩
          have f18 : IntKind.u64.wrap (U.tdiv Y1) = Q0 := by rw [hQ0]; exact wrap_div hS2.out
          have hF2 : Hid (Guess Y Y1 Y0 U D0 Q0 R0) ∧ Hid (R0 < 4294967296) ∧ Hid (Q0 ≤ 4294967297) := by rw [hQ0, hR0]; exact first_all hS2.out
          have f16 : IntKind.u64.wrap (U - IntKind.u64.wrap (Q0 * Y1)) = R0 := by rw [hR0, hQ0]; exact wrap_first hS2.out
          clear hQ0 hR0
          go_wp2
          go_loop [18, 16] (fun a b => ∃ (q r : Int), a = .int .u64 q ∧ b = .int .u64 r ∧ Hid (Guess Y Y1 Y0 U D0 q r) ∧ Hid (r < 4294967296) ∧ Hid (q ≤ 4294967297)) (fun a b => (intOf a).toNat)
          case atStart => exact ⟨Q0, R0, by simp only [f17, f18, f16], by simp only [f17, f18, f16], hF2⟩
          case round =>
            obtain ⟨q, r, rfl, rfl, hG, hr, hq⟩ := hrel
            have hSt := hS2.out
            have hfit := fits q Y0 hG.out.hq hq.out hSt.h0 hSt.h0'
            obtain ⟨P, hP⟩ : ∃ P, P = q * Y0 := ⟨_, rfl⟩
            have g1 : IntKind.u64.wrap (q * Y0) = P := by rw [hP]; exact wrap_in _ hfit.1 hfit.2
            obtain ⟨R5, hR5⟩ : ∃ R5, R5 = r * 4294967296 + D0 := ⟨_, rfl⟩
            have g2 : IntKind.u64.wrap (IntKind.u64.wrap (4294967296 * r) + D0) = R5 := by
              have := hG.out.hr; have := hr.out; have := hSt.hd; have := hSt.hd'
              rw [hR5, IntKind.wrap_u64, IntKind.wrap_u64]; omega
            have Hfit : Hid (P = q * Y0 ∧ R5 = r * 4294967296 + D0) := ⟨hP, hR5⟩
            clear hfit hP hR5
            by_cases hge : 4294967296 ≤ q ∨ R5 < P
            · have hng := next_guess hSt hG.out (by rw [Hfit.out.1, Hfit.out.2] at hge; exact hge)
              obtain ⟨qf, hqf⟩ : ∃ qf, qf = q - 1 := ⟨_, rfl⟩
              obtain ⟨rf, hrf⟩ : ∃ rf, rf = r + Y1 := ⟨_, rfl⟩
              have hG2 : Hid (Guess Y Y1 Y0 U D0 qf rf) := by rw [hqf, hrf]; exact hng.2
              have g3 : IntKind.u64.wrap (q - 1) = qf := by rw [hqf]; exact wrap_in _ (by have := hng.1; omega) (by have := hq.out; omega)
              have g4 : IntKind.u64.wrap (r + Y1) = rf := by
                rw [hrf]; refine wrap_in _ ?_ ?_
                · have := hG.out.hr; have := hSt.h1; omega
                · have := hr.out; have := hSt.h1'; omega
              have Hqf : Hid (qf = q - 1 ∧ qf ≤ 4294967296 ∧ 0 < q) := ⟨hqf, by have := hq.out; omega, hng.1⟩
              clear hqf hrf hng hSt
              by_cases hbr : 4294967296 ≤ rf
              · have g5 : decide (4294967296 ≤ rf) = true := decide_eq_true hbr
                have hR : Hid (qf * Y0 ≤ rf * 4294967296 + D0) := past hS2.out Hqf.out.2.1 hbr
                clear hbr
                by_cases hq1 : 4294967296 ≤ q
                · have g6 : decide (4294967296 ≤ q) = true := decide_eq_true hq1
                  clear hge hq1
                  go_wp2
                  go_ret2
                  have hl := last (hi := hi) (lo := lo) hz hS2 Q1 hG2 hR
                  exact ⟨by rw [hl.1, hl.2]; rfl, 0, rfl⟩
                · have g6 : decide (4294967296 ≤ q) = false := decide_eq_false hq1
                  have g7 : decide (R5 < P) = true := decide_eq_true (by rcases hge with h | h; exact absurd h hq1; exact h)
                  clear hge hq1
                  go_wp2
                  go_ret2
                  have hl := last (hi := hi) (lo := lo) hz hS2 Q1 hG2 hR
                  exact ⟨by rw [hl.1, hl.2]; rfl, 0, rfl⟩
              · have g5 : decide (4294967296 ≤ rf) = false := decide_eq_false hbr
                have hr2 : Hid (rf < 4294967296) := by show rf < _; omega
                clear hbr
                by_cases hq1 : 4294967296 ≤ q
                · have g6 : decide (4294967296 ≤ q) = true := decide_eq_true hq1
                  clear hge hq1
                  go_wp2
                  go_round
                  case rel => exact ⟨qf, rf, rfl, rfl, hG2, hr2, by have := Hqf.out; show qf ≤ _; omega⟩
                  case measure => have := Hqf.out; simp [intOf]; omega
                · have g6 : decide (4294967296 ≤ q) = false := decide_eq_false hq1
                  have g7 : decide (R5 < P) = true := decide_eq_true (by rcases hge with h | h; exact absurd h hq1; exact h)
                  clear hge hq1
                  go_wp2
                  go_round
                  case rel => exact ⟨qf, rf, rfl, rfl, hG2, hr2, by have := Hqf.out; show qf ≤ _; omega⟩
                  case measure => have := Hqf.out; simp [intOf]; omega
            · have hR : Hid (q * Y0 ≤ r * 4294967296 + D0) := by show _ ≤ _; rw [← Hfit.out.1, ← Hfit.out.2]; omega
              have g6 : decide (4294967296 ≤ q) = false := decide_eq_false (by omega)
              have g7 : decide (R5 < P) = false := decide_eq_false (by omega)
              clear hge hSt
              obtain ⟨qf, hqf⟩ : ∃ qf, qf = q := ⟨_, rfl⟩
              obtain ⟨rf, hrf⟩ : ∃ rf, rf = r := ⟨_, rfl⟩
              subst hqf; subst hrf
              have hG2 := hG
              go_wp2
              go_ret2
              have hl := last (hi := hi) (lo := lo) hz hS2 Q1 hG2 hR
              exact ⟨by rw [hl.1, hl.2]; rfl, 0, rfl⟩
        · have g6 : decide (4294967296 ≤ q) = false := decide_eq_false hq1
          have g7 : decide (R5 < P) = true := decide_eq_true (by rcases hge with h | h; exact absurd h hq1; exact h)
          clear hge hq1
          go_wp2
          have hRt := right_guess hS1.out hG2.out hR.out
          obtain ⟨U, hU⟩ : ∃ U, U = A * 4294967296 + D1 - qf * Y := ⟨_, rfl⟩
          have f17 : IntKind.u64.wrap (IntKind.u64.wrap (IntKind.u64.wrap (A * 4294967296) + D1) - IntKind.u64.wrap (qf * Y)) = U := by
            rw [hU]; exact wrap_step A D1 (qf * Y) hRt.2.1 (by have := hRt.2.2.1; have := hS1.out.hy; have := hS1.out.h1'; have := hS1.out.h0'; omega)
          have hS2 : Hid (Step Y Y1 Y0 U D0) := ⟨hS1.out.hy, hS1.out.h0, hS1.out.h0', hS1.out.h1, hS1.out.h1', by rw [hU]; exact hRt.2.1, by rw [hU]; exact hRt.2.2.1, hD.out.1, hD.out.2⟩
          have Q1 : Hid (U = A * 4294967296 + D1 - qf * Y ∧ 0 ≤ qf ∧ qf < 4294967296) := ⟨hU, hG2.out.hq, hRt.2.2.2⟩
          clear hU hRt hR hG2 hS1
          obtain ⟨Q0, hQ0⟩ : ∃ Q0, Q0 = U / Y1 := ⟨_, rfl⟩
          obtain ⟨R0, hR0⟩ : ∃ R0, R0 = U - U / Y1 * Y1 := ⟨_, rfl⟩
          have f18 : IntKind.u64.wrap (U.tdiv Y1) = Q0 := by rw [hQ0]; exact wrap_div hS2.out
          have hF2 : Hid (Guess Y Y1 Y0 U D0 Q0 R0) ∧ Hid (R0 < 4294967296) ∧ Hid (Q0 ≤ 4294967297) := by rw [hQ0, hR0]; exact first_all hS2.out
          have f16 : IntKind.u64.wrap (U - IntKind.u64.wrap (Q0 * Y1)) = R0 := by rw [hR0, hQ0]; exact wrap_first hS2.out
          clear hQ0 hR0
          go_wp2
          go_loop [18, 16] (fun a b => ∃ (q r : Int), a = .int .u64 q ∧ b = .int .u64 r ∧ Hid (Guess Y Y1 Y0 U D0 q r) ∧ Hid (r < 4294967296) ∧ Hid (q ≤ 4294967297)) (fun a b => (intOf a).toNat)
          case atStart => exact ⟨Q0, R0, by simp only [f17, f18, f16], by simp only [f17, f18, f16], hF2⟩
          case round =>
            obtain ⟨q, r, rfl, rfl, hG, hr, hq⟩ := hrel
            have hSt := hS2.out
            have hfit := fits q Y0 hG.out.hq hq.out hSt.h0 hSt.h0'
            obtain ⟨P, hP⟩ : ∃ P, P = q * Y0 := ⟨_, rfl⟩
            have g1 : IntKind.u64.wrap (q * Y0) = P := by rw [hP]; exact wrap_in _ hfit.1 hfit.2
            obtain ⟨R5, hR5⟩ : ∃ R5, R5 = r * 4294967296 + D0 := ⟨_, rfl⟩
            have g2 : IntKind.u64.wrap (IntKind.u64.wrap (4294967296 * r) + D0) = R5 := by
              have := hG.out.hr; have := hr.out; have := hSt.hd; have := hSt.hd'
              rw [hR5, IntKind.wrap_u64, IntKind.wrap_u64]; omega
            have Hfit : Hid (P = q * Y0 ∧ R5 = r * 4294967296 + D0) := ⟨hP, hR5⟩
            clear hfit hP hR5
            by_cases hge : 4294967296 ≤ q ∨ R5 < P
            · have hng := next_guess hSt hG.out (by rw [Hfit.out.1, Hfit.out.2] at hge; exact hge)
              obtain ⟨qf, hqf⟩ : ∃ qf, qf = q - 1 := ⟨_, rfl⟩
              obtain ⟨rf, hrf⟩ : ∃ rf, rf = r + Y1 := ⟨_, rfl⟩
              have hG2 : Hid (Guess Y Y1 Y0 U D0 qf rf) := by rw [hqf, hrf]; exact hng.2
              have g3 : IntKind.u64.wrap (q - 1) = qf := by rw [hqf]; exact wrap_in _ (by have := hng.1; omega) (by have := hq.out; omega)
              have g4 : IntKind.u64.wrap (r + Y1) = rf := by
                rw [hrf]; refine wrap_in _ ?_ ?_
                · have := hG.out.hr; have := hSt.h1; omega
                · have := hr.out; have := hSt.h1'; omega
              have Hqf : Hid (qf = q - 1 ∧ qf ≤ 4294967296 ∧ 0 < q) := ⟨hqf, by have := hq.out; omega, hng.1⟩
              clear hqf hrf hng hSt
              by_cases hbr : 4294967296 ≤ rf
              · have g5 : decide (4294967296 ≤ rf) = true := decide_eq_true hbr
                have hR : Hid (qf * Y0 ≤ rf * 4294967296 + D0) := past hS2.out Hqf.out.2.1 hbr
                clear hbr
                by_cases hq1 : 4294967296 ≤ q
                · have g6 : decide (4294967296 ≤ q) = true := decide_eq_true hq1
                  clear hge hq1
                  go_wp2
                  go_ret2
                  have hl := last (hi := hi) (lo := lo) hz hS2 Q1 hG2 hR
                  exact ⟨by rw [hl.1, hl.2]; rfl, 0, rfl⟩
                · have g6 : decide (4294967296 ≤ q) = false := decide_eq_false hq1
                  have g7 : decide (R5 < P) = true := decide_eq_true (by rcases hge with h | h; exact absurd h hq1; exact h)
                  clear hge hq1
                  go_wp2
                  go_ret2
                  have hl := last (hi := hi) (lo := lo) hz hS2 Q1 hG2 hR
                  exact ⟨by rw [hl.1, hl.2]; rfl, 0, rfl⟩
              · have g5 : decide (4294967296 ≤ rf) = false := decide_eq_false hbr
                have hr2 : Hid (rf < 4294967296) := by show rf < _; omega
                clear hbr
                by_cases hq1 : 4294967296 ≤ q
                · have g6 : decide (4294967296 ≤ q) = true := decide_eq_true hq1
                  clear hge hq1
                  go_wp2
                  go_round
                  case rel => exact ⟨qf, rf, rfl, rfl, hG2, hr2, by have := Hqf.out; show qf ≤ _; omega⟩
                  case measure => have := Hqf.out; simp [intOf]; omega
                · have g6 : decide (4294967296 ≤ q) = false := decide_eq_false hq1
                  have g7 : decide (R5 < P) = true := decide_eq_true (by rcases hge with h | h; exact absurd h hq1; exact h)
                  clear hge hq1
                  go_wp2
                  go_round
                  case rel => exact ⟨qf, rf, rfl, rfl, hG2, hr2, by have := Hqf.out; show qf ≤ _; omega⟩
                  case measure => have := Hqf.out; simp [intOf]; omega
            · have hR : Hid (q * Y0 ≤ r * 4294967296 + D0) := by show _ ≤ _; rw [← Hfit.out.1, ← Hfit.out.2]; omega
              have g6 : decide (4294967296 ≤ q) = false := decide_eq_false (by omega)
              have g7 : decide (R5 < P) = false := decide_eq_false (by omega)
              clear hge hSt
              obtain ⟨qf, hqf⟩ : ∃ qf, qf = q := ⟨_, rfl⟩
              obtain ⟨rf, hrf⟩ : ∃ rf, rf = r := ⟨_, rfl⟩
              subst hqf; subst hrf
              have hG2 := hG
              go_wp2
              go_ret2
              have hl := last (hi := hi) (lo := lo) hz hS2 Q1 hG2 hR
              exact ⟨by rw [hl.1, hl.2]; rfl, 0, rfl⟩
      · have g5 : decide (4294967296 ≤ rf) = false := decide_eq_false hbr
        have hr2 : Hid (rf < 4294967296) := by show rf < _; omega
        clear hbr
        by_cases hq1 : 4294967296 ≤ q
        · have g6 : decide (4294967296 ≤ q) = true := decide_eq_true hq1
          clear hge hq1
          go_wp2
          go_round
          case rel => exact ⟨qf, rf, rfl, rfl, hG2, hr2, by have := Hqf.out; show qf ≤ _; omega⟩
          case measure => have := Hqf.out; simp [intOf]; omega
        · have g6 : decide (4294967296 ≤ q) = false := decide_eq_false hq1
          have g7 : decide (R5 < P) = true := decide_eq_true (by rcases hge with h | h; exact absurd h hq1; exact h)
          clear hge hq1
          go_wp2
          go_round
          case rel => exact ⟨qf, rf, rfl, rfl, hG2, hr2, by have := Hqf.out; show qf ≤ _; omega⟩
          case measure => have := Hqf.out; simp [intOf]; omega
    · have hR : Hid (q * Y0 ≤ r * 4294967296 + D1) := by show _ ≤ _; rw [← Hfit.out.1, ← Hfit.out.2]; omega
      have g6 : decide (4294967296 ≤ q) = false := decide_eq_false (by omega)
      have g7 : decide (R5 < P) = false := decide_eq_false (by omega)
      clear hge hSt
      obtain ⟨qf, hqf⟩ : ∃ qf, qf = q := ⟨_, rfl⟩
      obtain ⟨rf, hrf⟩ : ∃ rf, rf = r := ⟨_, rfl⟩
      subst hqf; subst hrf
      have hG2 := hG
      go_wp2
      have hRt := right_guess hS1.out hG2.out hR.out
      obtain ⟨U, hU⟩ : ∃ U, U = A * 4294967296 + D1 - qf * Y := ⟨_, rfl⟩
      have f17 : IntKind.u64.wrap (IntKind.u64.wrap (IntKind.u64.wrap (A * 4294967296) + D1) - IntKind.u64.wrap (qf * Y)) = U := by
        rw [hU]; exact wrap_step A D1 (qf * Y) hRt.2.1 (by have := hRt.2.2.1; have := hS1.out.hy; have := hS1.out.h1'; have := hS1.out.h0'; omega)
      have hS2 : Hid (Step Y Y1 Y0 U D0) := ⟨hS1.out.hy, hS1.out.h0, hS1.out.h0', hS1.out.h1, hS1.out.h1', by rw [hU]; exact hRt.2.1, by rw [hU]; exact hRt.2.2.1, hD.out.1, hD.out.2⟩
      have Q1 : Hid (U = A * 4294967296 + D1 - qf * Y ∧ 0 ≤ qf ∧ qf < 4294967296) := ⟨hU, hG2.out.hq, hRt.2.2.2⟩
      clear hU hRt hR hG2 hS1
      obtain ⟨Q0, hQ0⟩ : ∃ Q0, Q0 = U / Y1 := ⟨_, rfl⟩
      obtain ⟨R0, hR0⟩ : ∃ R0, R0 = U - U / Y1 * Y1 := ⟨_, rfl⟩
      have f18 : IntKind.u64.wrap (U.tdiv Y1) = Q0 := by rw [hQ0]; exact wrap_div hS2.out
      have hF2 : Hid (Guess Y Y1 Y0 U D0 Q0 R0) ∧ Hid (R0 < 4294967296) ∧ Hid (Q0 ≤ 4294967297) := by rw [hQ0, hR0]; exact first_all hS2.out
      have f16 : IntKind.u64.wrap (U - IntKind.u64.wrap (Q0 * Y1)) = R0 := by rw [hR0, hQ0]; exact wrap_first hS2.out
      clear hQ0 hR0
      go_wp2
      go_loop [18, 16] (fun a b => ∃ (q r : Int), a = .int .u64 q ∧ b = .int .u64 r ∧ Hid (Guess Y Y1 Y0 U D0 q r) ∧ Hid (r < 4294967296) ∧ Hid (q ≤ 4294967297)) (fun a b => (intOf a).toNat)
      case atStart => exact ⟨Q0, R0, by simp only [f17, f18, f16], by simp only [f17, f18, f16], hF2⟩
      case round =>
        obtain ⟨q, r, rfl, rfl, hG, hr, hq⟩ := hrel
        have hSt := hS2.out
        have hfit := fits q Y0 hG.out.hq hq.out hSt.h0 hSt.h0'
        obtain ⟨P, hP⟩ : ∃ P, P = q * Y0 := ⟨_, rfl⟩
        have g1 : IntKind.u64.wrap (q * Y0) = P := by rw [hP]; exact wrap_in _ hfit.1 hfit.2
        obtain ⟨R5, hR5⟩ : ∃ R5, R5 = r * 4294967296 + D0 := ⟨_, rfl⟩
        have g2 : IntKind.u64.wrap (IntKind.u64.wrap (4294967296 * r) + D0) = R5 := by
          have := hG.out.hr; have := hr.out; have := hSt.hd; have := hSt.hd'
          rw [hR5, IntKind.wrap_u64, IntKind.wrap_u64]; omega
        have Hfit : Hid (P = q * Y0 ∧ R5 = r * 4294967296 + D0) := ⟨hP, hR5⟩
        clear hfit hP hR5
        by_cases hge : 4294967296 ≤ q ∨ R5 < P
        · have hng := next_guess hSt hG.out (by rw [Hfit.out.1, Hfit.out.2] at hge; exact hge)
          obtain ⟨qf, hqf⟩ : ∃ qf, qf = q - 1 := ⟨_, rfl⟩
          obtain ⟨rf, hrf⟩ : ∃ rf, rf = r + Y1 := ⟨_, rfl⟩
          have hG2 : Hid (Guess Y Y1 Y0 U D0 qf rf) := by rw [hqf, hrf]; exact hng.2
          have g3 : IntKind.u64.wrap (q - 1) = qf := by rw [hqf]; exact wrap_in _ (by have := hng.1; omega) (by have := hq.out; omega)
          have g4 : IntKind.u64.wrap (r + Y1) = rf := by
            rw [hrf]; refine wrap_in _ ?_ ?_
            · have := hG.out.hr; have := hSt.h1; omega
            · have := hr.out; have := hSt.h1'; omega
          have Hqf : Hid (qf = q - 1 ∧ qf ≤ 4294967296 ∧ 0 < q) := ⟨hqf, by have := hq.out; omega, hng.1⟩
          clear hqf hrf hng hSt
          by_cases hbr : 4294967296 ≤ rf
          · have g5 : decide (4294967296 ≤ rf) = true := decide_eq_true hbr
            have hR : Hid (qf * Y0 ≤ rf * 4294967296 + D0) := past hS2.out Hqf.out.2.1 hbr
            clear hbr
            by_cases hq1 : 4294967296 ≤ q
            · have g6 : decide (4294967296 ≤ q) = true := decide_eq_true hq1
              clear hge hq1
              go_wp2
              go_ret2
              have hl := last (hi := hi) (lo := lo) hz hS2 Q1 hG2 hR
              exact ⟨by rw [hl.1, hl.2]; rfl, 0, rfl⟩
            · have g6 : decide (4294967296 ≤ q) = false := decide_eq_false hq1
              have g7 : decide (R5 < P) = true := decide_eq_true (by rcases hge with h | h; exact absurd h hq1; exact h)
              clear hge hq1
              go_wp2
              go_ret2
              have hl := last (hi := hi) (lo := lo) hz hS2 Q1 hG2 hR
              exact ⟨by rw [hl.1, hl.2]; rfl, 0, rfl⟩
          · have g5 : decide (4294967296 ≤ rf) = false := decide_eq_false hbr
            have hr2 : Hid (rf < 4294967296) := by show rf < _; omega
            clear hbr
            by_cases hq1 : 4294967296 ≤ q
            · have g6 : decide (4294967296 ≤ q) = true := decide_eq_true hq1
              clear hge hq1
              go_wp2
              go_round
              case rel => exact ⟨qf, rf, rfl, rfl, hG2, hr2, by have := Hqf.out; show qf ≤ _; omega⟩
              case measure => have := Hqf.out; simp [intOf]; omega
            · have g6 : decide (4294967296 ≤ q) = false := decide_eq_false hq1
              have g7 : decide (R5 < P) = true := decide_eq_true (by rcases hge with h | h; exact absurd h hq1; exact h)
              clear hge hq1
              go_wp2
              go_round
              case rel => exact ⟨qf, rf, rfl, rfl, hG2, hr2, by have := Hqf.out; show qf ≤ _; omega⟩
              case measure => have := Hqf.out; simp [intOf]; omega
        · have hR : Hid (q * Y0 ≤ r * 4294967296 + D0) := by show _ ≤ _; rw [← Hfit.out.1, ← Hfit.out.2]; omega
          have g6 : decide (4294967296 ≤ q) = false := decide_eq_false (by omega)
          have g7 : decide (R5 < P) = false := decide_eq_false (by omega)
          clear hge hSt
          obtain ⟨qf, hqf⟩ : ∃ qf, qf = q := ⟨_, rfl⟩
          obtain ⟨rf, hrf⟩ : ∃ rf, rf = r := ⟨_, rfl⟩
          subst hqf; subst hrf
          have hG2 := hG
          go_wp2
          go_ret2
          have hl := last (hi := hi) (lo := lo) hz hS2 Q1 hG2 hR
          exact ⟨by rw [hl.1, hl.2]; rfl, 0, rfl⟩
end Go.Proofs.Ytmiamdnhofjifaa.DV
