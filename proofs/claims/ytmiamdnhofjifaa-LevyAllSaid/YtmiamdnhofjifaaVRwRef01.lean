/- Functions of the program as Lean functions, each with its contract: out of what the kit's printer wrote for this seat. -/
import Derived.Test.YtmiamdnhofjifaaVRwA
namespace Go.Proofs.Ytmiamdnhofjifaa.Rw
open Go.RowKit Go.Proofs.YtmiamdnhofjifaaW.PrintWords Go.Proofs.YtmiamdnhofjifaaW.PrintLast Go.Proofs.YtmiamdnhofjifaaW.PrintMore
attribute [local go_sem] max2_int min2_int max_two min_two max_three min_three max_four min_four   -- for this text's walks alone
set_option linter.unusedVariables false
set_option linter.unusedSimpArgs false
attribute [local go_sem high] leqS gtrS

/-! ### haberdashref01_Right: function 66 -/
def haberdashref01_Right.f (a0 : Int) : Option (Bool) := if a0 ≥ 0 then (some (decide (a0 ≤ 100000000000000))) else (some false)
set_option maxHeartbeats 8000000 in
set_option maxRecDepth 100000 in
theorem haberdashref01_Right.calls (a0 : Int) (r : Bool) (w : World) (h : haberdashref01_Right.f a0 = some r) :
 Calls Try.prog 66 #[.int .i64 a0] w fun e w' => e = .returned (.bool r) ∧ Drawn0 w w' := by
 have H : (if a0 ≥ 0 then (some (decide (a0 ≤ 100000000000000))) else (some false)) = some r := h
 clear h
 by_cases c2 : a0 ≥ 0
 rotate_left
 ·
  rw [if_neg c2] at H; have c2b0 := decide_eq_false c2; clear c2; obtain rfl := Option.some.inj H
  go_enter Try.func66, Try.ntmps66
  go_wp2
  go_ret
  exact ⟨rf_, dr_⟩
 rw [if_pos c2] at H
 have c2b0 := decide_eq_true c2
 clear c2
 obtain rfl := Option.some.inj H
 go_enter Try.func66, Try.ntmps66
 go_wp2
 go_ret
 exact ⟨rf_, dr_⟩

/-! ### haberdashref01_parts: function 67 -/
mutual
def haberdashref01_parts.l0 : Nat → Int → Int → Int → Int → Int → Int → Option (Int × Int × Bool)
 | 0, _, _, _, _, _, _ => none
 | k + 1, x0, x1, x2, x9, x10, x11 => if x11 ≥ 0 then (if (wrap64 (2 * x10)) ≥ x2 then (haberdashref01_parts.j1 k x0 x1 x2 (wrap64 ((wrap64 (2 * x9)) + 1)) (wrap64 ((wrap64 (2 * x10)) - x2)) x11) else (haberdashref01_parts.j1 k x0 x1 x2 (wrap64 (2 * x9)) (wrap64 (2 * x10)) x11)) else (some (x9, x10, true))
def haberdashref01_parts.j1 : Nat → Int → Int → Int → Int → Int → Int → Option (Int × Int × Bool)
 | 0, _, _, _, _, _, _ => none
 | k + 1, x0, x1, x2, x9, x10, x11 => if 0 ≤ (IntKind.u64.wrap (x11)) then (if (Go.bits .and .i64 (shr .i64 x1 (IntKind.u64.wrap (x11))) 1) = 1 then (if x2 = 0 then (none) else (if (wrap64 (x10 + (Int.tmod x0 x2))) ≥ x2 then (if (wrap64 ((wrap64 (x9 + (wrap64 (Int.tdiv x0 x2)))) + 1)) > 100000000000000 then (some (0, 0, false)) else (haberdashref01_parts.l0 k x0 x1 x2 (wrap64 ((wrap64 (x9 + (wrap64 (Int.tdiv x0 x2)))) + 1)) (wrap64 ((wrap64 (x10 + (Int.tmod x0 x2))) - x2)) (wrap64 (x11 - 1)))) else (if (wrap64 (x9 + (wrap64 (Int.tdiv x0 x2)))) > 100000000000000 then (some (0, 0, false)) else (haberdashref01_parts.l0 k x0 x1 x2 (wrap64 (x9 + (wrap64 (Int.tdiv x0 x2)))) (wrap64 (x10 + (Int.tmod x0 x2))) (wrap64 (x11 - 1)))))) else (if x9 > 100000000000000 then (some (0, 0, false)) else (haberdashref01_parts.l0 k x0 x1 x2 x9 x10 (wrap64 (x11 - 1))))) else (none)
end
def haberdashref01_parts.f (k : Nat) (a0 : Int) (a1 : Int) (a2 : Int) : Option (Int × Int × Bool) := haberdashref01_parts.l0 k a0 a1 a2 0 0 62
set_option maxHeartbeats 8000000 in
set_option maxRecDepth 100000 in
theorem haberdashref01_parts.calls (k : Nat) (a0 : Int) (a1 : Int) (a2 : Int) (r1 : Int) (r2 : Int) (r3 : Bool) (w : World) (h : haberdashref01_parts.f k a0 a1 a2 = some (r1, r2, r3)) :
 Calls Try.prog 67 #[.int .i64 a0, .int .i64 a1, .int .i64 a2] w fun e w' => e = .returned (.tuple #[.int .i64 r1, .int .i64 r2, .bool r3]) ∧ Drawn0 w w' := by
 have H : (haberdashref01_parts.l0 k a0 a1 a2 0 0 62) = some (r1, r2, r3) := h
 clear h
 have H' := Aside0.mk H
 clear H
 go_enter Try.func67, Try.ntmps67
 go_wp2
 repeat (go_quiet (fail); try go_wp2)
 go_loopg [9, 10, 11] k (fun kq v9 v10 v11 w' => ∃ (x9_1 : Int) (x10_1 : Int) (x11_1 : Int), v9 = .int .i64 x9_1 ∧ v10 = .int .i64 x10_1 ∧ v11 = .int .i64 x11_1 ∧ Aside0 (haberdashref01_parts.l0 kq a0 a1 a2 x9_1 x10_1 x11_1 = some (r1, r2, r3)) ∧ Aside0 (kq ≤ k) ∧ Drawn0 w w')
 case atStart => exact ⟨(0), (0), (62), rf_, rf_, rf_, H', ⟨Nat.le_refl _⟩, dr_⟩
 case round =>
  clear H'; (try clear p2); obtain ⟨x9_1, x10_1, x11_1, rfl, rfl, rfl, HA, HK1, ⟨m1, rfl⟩⟩ := hrel
  cases gk with
  | zero => exact absurd HA.out (by simp [haberdashref01_parts.l0])
  | succ k1 =>
   have H := HA.out; clear HA
   simp only [haberdashref01_parts.l0] at H
   by_cases c4 : x11_1 ≥ 0
   rotate_left
   ·
    rw [if_neg c4] at H; have c4b0 := decide_eq_false c4; clear c4
    simp only [Option.some.injEq, Prod.mk.injEq] at H
    obtain ⟨rfl, rfl, rfl⟩ := H
    go_wp2
    repeat (go_quiet (fail); try go_wp2)
    go_ret3
    exact ⟨rf_, dr_⟩
   rw [if_pos c4] at H; have c4b0 := decide_eq_true c4; clear c4; have HC5 := Aside0.mk H; clear H
   go_upto_if 22 with (fail)
   repeat (go_quiet (fail); go_upto_if 22 with (fail))
   go_cut [9, 10] (fun v9 v10 wc => ∃ (kq : Nat) (x9_4 : Int) (x10_4 : Int), v9 = .int .i64 x9_4 ∧ v10 = .int .i64 x10_4 ∧ Aside0 (haberdashref01_parts.j1 kq a0 a1 a2 x9_4 x10_4 x11_1 = some (r1, r2, r3)) ∧ Aside0 (kq ≤ k1) ∧ Drawn0 w wc)
   case first =>
    have H := HC5.out; clear HC5
    by_cases c6 : (wrap64 (2 * x10_1)) ≥ a2
    rotate_left
    ·
     rw [if_neg c6] at H; have c6b0 := decide_eq_false c6; clear c6
     (first | rw [c6b0] | (simp only [i64_w, i32_w]; rw [c6b0]) | skip)
     have H' := Aside0.mk H; clear H
     go_wp2
     repeat (go_quiet (fail); try go_wp2)
     go_meet
     case rel => exact ⟨_, (wrap64 (2 * x9_1)), (wrap64 (2 * x10_1)), rf_, rf_, H', ⟨by have := HK1.out; first | omega | exact Nat.le_refl _⟩, dr_⟩
    rw [if_pos c6] at H; have c6b0 := decide_eq_true c6; clear c6
    (first | rw [c6b0] | (simp only [i64_w, i32_w]; rw [c6b0]) | skip)
    have H' := Aside0.mk H; clear H
    go_wp2
    repeat (go_quiet (fail); try go_wp2)
    go_meet
    case rel => exact ⟨_, (wrap64 ((wrap64 (2 * x9_1)) + 1)), (wrap64 ((wrap64 (2 * x10_1)) - a2)), rf_, rf_, H', ⟨by have := HK1.out; first | omega | exact Nat.le_refl _⟩, dr_⟩
   case rest =>
    clear HC5; (try clear p2); (try clear c4); (try clear c4b0); (try clear c6); (try clear c6b0); (try clear p6); (try clear p2); obtain ⟨kq, x9_4, x10_4, rfl, rfl, HA, HJ4, ⟨mc4, rfl⟩⟩ := hcut
    cases kq with
    | zero => exact absurd HA.out (by simp [haberdashref01_parts.j1])
    | succ kj4 =>
     have H := HA.out; clear HA
     simp only [haberdashref01_parts.j1] at H
     obtain ⟨ji7, hji7⟩ : ∃ j_ : Int, (IntKind.u64.wrap (x11_1)) = j_ := ⟨_, rfl⟩
     replace H : (if 0 ≤ (ji7) then (if (Go.bits .and .i64 (shr .i64 a1 (ji7)) 1) = 1 then (if a2 = 0 then (none) else (if (wrap64 (x10_4 + (Int.tmod a0 a2))) ≥ a2 then (if (wrap64 ((wrap64 (x9_4 + (wrap64 (Int.tdiv a0 a2)))) + 1)) > 100000000000000 then (some (0, 0, false)) else (haberdashref01_parts.l0 kj4 a0 a1 a2 (wrap64 ((wrap64 (x9_4 + (wrap64 (Int.tdiv a0 a2)))) + 1)) (wrap64 ((wrap64 (x10_4 + (Int.tmod a0 a2))) - a2)) (wrap64 (x11_1 - 1)))) else (if (wrap64 (x9_4 + (wrap64 (Int.tdiv a0 a2)))) > 100000000000000 then (some (0, 0, false)) else (haberdashref01_parts.l0 kj4 a0 a1 a2 (wrap64 (x9_4 + (wrap64 (Int.tdiv a0 a2)))) (wrap64 (x10_4 + (Int.tmod a0 a2))) (wrap64 (x11_1 - 1)))))) else (if x9_4 > 100000000000000 then (some (0, 0, false)) else (haberdashref01_parts.l0 kj4 a0 a1 a2 x9_4 x10_4 (wrap64 (x11_1 - 1))))) else (none)) = some (r1, r2, r3) := by first | (rw [hji7] at H; exact H) | (simp only [hji7] at H ⊢; exact H)
     replace H := ip_ H; obtain ⟨c8, H⟩ := H; have c8b0 := eq_true c8; have c8b1 := decide_eq_true c8; clear c8; obtain ⟨ji9, hji9⟩ : ∃ j_ : Int, (shr .i64 a1 (ji7)) = j_ := ⟨_, rfl⟩
     replace H : (if (Go.bits .and .i64 (ji9) 1) = 1 then (if a2 = 0 then (none) else (if (wrap64 (x10_4 + (Int.tmod a0 a2))) ≥ a2 then (if (wrap64 ((wrap64 (x9_4 + (wrap64 (Int.tdiv a0 a2)))) + 1)) > 100000000000000 then (some (0, 0, false)) else (haberdashref01_parts.l0 kj4 a0 a1 a2 (wrap64 ((wrap64 (x9_4 + (wrap64 (Int.tdiv a0 a2)))) + 1)) (wrap64 ((wrap64 (x10_4 + (Int.tmod a0 a2))) - a2)) (wrap64 (x11_1 - 1)))) else (if (wrap64 (x9_4 + (wrap64 (Int.tdiv a0 a2)))) > 100000000000000 then (some (0, 0, false)) else (haberdashref01_parts.l0 kj4 a0 a1 a2 (wrap64 (x9_4 + (wrap64 (Int.tdiv a0 a2)))) (wrap64 (x10_4 + (Int.tmod a0 a2))) (wrap64 (x11_1 - 1)))))) else (if x9_4 > 100000000000000 then (some (0, 0, false)) else (haberdashref01_parts.l0 kj4 a0 a1 a2 x9_4 x10_4 (wrap64 (x11_1 - 1))))) = some (r1, r2, r3) := by first | (rw [hji9] at H; exact H) | (simp only [hji9] at H ⊢; exact H)
     have hji9_ : (a1 / 2 ^ min (ji7).toNat 64) = ji9 := hji9; have hji9z : (ji7) ≤ 64 → (a1 / 2 ^ (ji7).toNat) = ji9 := shr_small hji9
     by_cases c10 : (Go.bits .and .i64 (ji9) 1) = 1
     rotate_left
     ·
      rw [if_neg c10] at H; have c10b0 : ((Go.bits .and .i64 (ji9) 1) == 1) = false := beq_eq_false_iff_ne.mpr c10; have c10b1 : ((Go.bits .and .i64 (ji9) 1) != 1) = true := bne_iff_ne.mpr c10
      by_cases c15 : x9_4 > 100000000000000
      ·
       rw [if_pos c15] at H; have c15b0 := decide_eq_true c15; clear c15
       simp only [Option.some.injEq, Prod.mk.injEq] at H
       obtain ⟨rfl, rfl, rfl⟩ := H
       go_wp2
       repeat (go_quiet (fail); try go_wp2)
       go_ret3
       exact ⟨by first | rfl | (simp; done) | (simp only [← hji7, ← hji9] <;> (first | rfl | simp)) | (simp [*]; done), dr_⟩
      rw [if_neg c15] at H; have c15b0 := decide_eq_false c15; clear c15; have H' := Aside0.mk H; clear H
      go_wp2
      repeat (go_quiet (fail); try go_wp2)
      go_roundg kj4
      case measure => have := HK1.out; have := HJ4.out; omega
      case rel => exact ⟨(x9_4), (x10_4), (wrap64 (x11_1 - 1)), rf_, rf_, rf_, H', ⟨ho2_ HK1 HJ4⟩, dr_⟩
     rw [if_pos c10] at H; have c10b0 : ((Go.bits .and .i64 (ji9) 1) == 1) = true := beq_iff_eq.mpr c10; have c10b1 : ((Go.bits .and .i64 (ji9) 1) != 1) = false := bne_eq_false_iff_eq.mpr c10; clear c10
     by_cases c11 : a2 = 0
     ·
      rw [if_pos c11] at H
      exact absurd H (by simp)
     rw [if_neg c11] at H; have c11b0 : (a2 == 0) = false := beq_eq_false_iff_ne.mpr c11; have c11b1 : (a2 != 0) = true := bne_iff_ne.mpr c11
     by_cases c12 : (wrap64 (x10_4 + (Int.tmod a0 a2))) ≥ a2
     rotate_left
     ·
      rw [if_neg c12] at H; have c12b0 := decide_eq_false c12; clear c12
      by_cases c14 : (wrap64 (x9_4 + (wrap64 (Int.tdiv a0 a2)))) > 100000000000000
      ·
       rw [if_pos c14] at H; have c14b0 := decide_eq_true c14; clear c14
       simp only [Option.some.injEq, Prod.mk.injEq] at H
       obtain ⟨rfl, rfl, rfl⟩ := H
       go_wp2
       repeat (go_quiet (fail); try go_wp2)
       go_ret3
       exact ⟨by first | rfl | (simp; done) | (simp only [← hji7, ← hji9] <;> (first | rfl | simp)) | (simp [*]; done), dr_⟩
      rw [if_neg c14] at H; have c14b0 := decide_eq_false c14; clear c14; have H' := Aside0.mk H; clear H
      go_wp2
      repeat (go_quiet (fail); try go_wp2)
      go_roundg kj4
      case measure => have := HK1.out; have := HJ4.out; omega
      case rel => exact ⟨(wrap64 (x9_4 + (wrap64 (Int.tdiv a0 a2)))), (wrap64 (x10_4 + (Int.tmod a0 a2))), (wrap64 (x11_1 - 1)), rf_, rf_, rf_, H', ⟨ho2_ HK1 HJ4⟩, dr_⟩
     rw [if_pos c12] at H; have c12b0 := decide_eq_true c12; clear c12
     by_cases c13 : (wrap64 ((wrap64 (x9_4 + (wrap64 (Int.tdiv a0 a2)))) + 1)) > 100000000000000
     ·
      rw [if_pos c13] at H; have c13b0 := decide_eq_true c13; clear c13
      simp only [Option.some.injEq, Prod.mk.injEq] at H
      obtain ⟨rfl, rfl, rfl⟩ := H
      go_wp2
      repeat (go_quiet (fail); try go_wp2)
      go_ret3
      exact ⟨by first | rfl | (simp; done) | (simp only [← hji7, ← hji9] <;> (first | rfl | simp)) | (simp [*]; done), dr_⟩
     rw [if_neg c13] at H; have c13b0 := decide_eq_false c13; clear c13; have H' := Aside0.mk H; clear H
     go_wp2
     repeat (go_quiet (fail); try go_wp2)
     go_roundg kj4
     case measure => have := HK1.out; have := HJ4.out; omega
     case rel => exact ⟨(wrap64 ((wrap64 (x9_4 + (wrap64 (Int.tdiv a0 a2)))) + 1)), (wrap64 ((wrap64 (x10_4 + (Int.tmod a0 a2))) - a2)), (wrap64 (x11_1 - 1)), rf_, rf_, rf_, H', ⟨ho2_ HK1 HJ4⟩, dr_⟩

/-! ### haberdashref01_Times: function 47 -/
mutual
def haberdashref01_Times.j0 : Nat → Int → Int → Int → Int → Bool → Option (Int × Int)
 | 0, _, _, _, _, _ => none
 | k + 1, x0, x1, x2, x3, x36 => if x36 = true then (some (0, 2)) else ((haberdashref01_parts.f k x0 x1 x2).bind fun bt308 => (if bt308.2.2 = true then (if x3 = 1 then (if (wrap64 (2 * bt308.2.1)) ≥ x2 then (haberdashref01_Times.j1 k bt308.1 true) else (if x3 = 2 then (if (wrap64 (2 * bt308.2.1)) > x2 then (haberdashref01_Times.j1 k bt308.1 true) else (if (wrap64 (2 * bt308.2.1)) = x2 then (haberdashref01_Times.j1 k bt308.1 ((Int.tmod bt308.1 2) == 1)) else (haberdashref01_Times.j1 k bt308.1 false))) else (haberdashref01_Times.j1 k bt308.1 false))) else (if x3 = 2 then (if (wrap64 (2 * bt308.2.1)) > x2 then (haberdashref01_Times.j1 k bt308.1 true) else (if (wrap64 (2 * bt308.2.1)) = x2 then (haberdashref01_Times.j1 k bt308.1 ((Int.tmod bt308.1 2) == 1)) else (haberdashref01_Times.j1 k bt308.1 false))) else (haberdashref01_Times.j1 k bt308.1 false))) else (some (0, 5))))
def haberdashref01_Times.j1 : Nat → Int → Bool → Option (Int × Int)
 | 0, _, _ => none
 | k + 1, x10, x75 => if x75 = true then ((haberdashref01_Right.f (wrap64 (x10 + 1))).bind fun t311 => (if t311 = true then (some (wrap64 (x10 + 1), 0)) else (some (0, 5)))) else ((haberdashref01_Right.f x10).bind fun t312 => (if t312 = true then (some (x10, 0)) else (some (0, 5))))
end
def haberdashref01_Times.f (k : Nat) (a0 : Int) (a1 : Int) (a2 : Int) (a3 : Int) : Option (Int × Int) := (haberdashref01_Right.f a0).bind fun t306 => (if t306 = true then ((haberdashref01_Right.f a1).bind fun t307 => (if t307 = true then (if a2 < 1 then (haberdashref01_Times.j0 k a0 a1 a2 a3 true) else (if a2 > 100000000000000 then (haberdashref01_Times.j0 k a0 a1 a2 a3 true) else (if a3 < 0 then (haberdashref01_Times.j0 k a0 a1 a2 a3 true) else (haberdashref01_Times.j0 k a0 a1 a2 a3 (decide (a3 > 2)))))) else (haberdashref01_Times.j0 k a0 a1 a2 a3 true))) else (haberdashref01_Times.j0 k a0 a1 a2 a3 true))
set_option maxHeartbeats 8000000 in
set_option maxRecDepth 100000 in
theorem haberdashref01_Times.calls (k : Nat) (a0 : Int) (a1 : Int) (a2 : Int) (a3 : Int) (r1 : Int) (r2 : Int) (w : World) (h : haberdashref01_Times.f k a0 a1 a2 a3 = some (r1, r2)) :
 Calls Try.prog 47 #[.int .i64 a0, .int .i64 a1, .int .i64 a2, .int .i64 a3] w fun e w' => e = .returned (.tuple #[.int .i64 r1, .int .i64 r2]) ∧ Drawn0 w w' := by
 have H : ((haberdashref01_Right.f a0).bind fun t306 => (if t306 = true then ((haberdashref01_Right.f a1).bind fun t307 => (if t307 = true then (if a2 < 1 then (haberdashref01_Times.j0 k a0 a1 a2 a3 true) else (if a2 > 100000000000000 then (haberdashref01_Times.j0 k a0 a1 a2 a3 true) else (if a3 < 0 then (haberdashref01_Times.j0 k a0 a1 a2 a3 true) else (haberdashref01_Times.j0 k a0 a1 a2 a3 (decide (a3 > 2)))))) else (haberdashref01_Times.j0 k a0 a1 a2 a3 true))) else (haberdashref01_Times.j0 k a0 a1 a2 a3 true))) = some (r1, r2) := h
 clear h
 have HC5 := Aside0.mk H
 clear H
 go_enter Try.func47, Try.ntmps47
 go_upto_region 1 with (fail)
 go_cut [36] (fun v36 wc => ∃ (kq : Nat) (x36_4 : Bool), v36 = .bool x36_4 ∧ Aside0 (haberdashref01_Times.j0 kq a0 a1 a2 a3 x36_4 = some (r1, r2)) ∧ Aside0 (kq ≤ k) ∧ Drawn0 w wc)
 case first =>
  have H := HC5.out; clear HC5; replace H := Option.bind_eq_some_iff.mp H; obtain ⟨t306, A60, H⟩ := H
  replace H : (if t306 = true then ((haberdashref01_Right.f a1).bind fun t307 => (if t307 = true then (if a2 < 1 then (haberdashref01_Times.j0 k a0 a1 a2 a3 true) else (if a2 > 100000000000000 then (haberdashref01_Times.j0 k a0 a1 a2 a3 true) else (if a3 < 0 then (haberdashref01_Times.j0 k a0 a1 a2 a3 true) else (haberdashref01_Times.j0 k a0 a1 a2 a3 (decide (a3 > 2)))))) else (haberdashref01_Times.j0 k a0 a1 a2 a3 true))) else (haberdashref01_Times.j0 k a0 a1 a2 a3 true)) = some (r1, r2) := H
  have A6 := Aside0.mk A60; clear A60
  by_cases c7 : t306 = true
  rotate_left
  ·
   replace c7 := Bool.eq_false_iff.mpr c7; subst c7; rw [if_neg nf_] at H; have H' := Aside0.mk H; clear H
   go_wp2_with (first | (refine gl_ 66 14 Try.func66 #[.int .i64 a0] ?_; (with_reducible refine (haberdashref01_Right.calls a0 false _ A6.out).mono ?_); rintro e w' ⟨rfl, ⟨nd, rfl⟩⟩; refine ⟨_, rfl, ?_⟩))
   go_meet
   case rel => exact ⟨_, (true), rf_, H', ⟨om_⟩, dr_⟩
  subst c7; rw [if_pos rfl] at H; replace H := Option.bind_eq_some_iff.mp H; obtain ⟨t307, A80, H⟩ := H; replace H : (if t307 = true then (if a2 < 1 then (haberdashref01_Times.j0 k a0 a1 a2 a3 true) else (if a2 > 100000000000000 then (haberdashref01_Times.j0 k a0 a1 a2 a3 true) else (if a3 < 0 then (haberdashref01_Times.j0 k a0 a1 a2 a3 true) else (haberdashref01_Times.j0 k a0 a1 a2 a3 (decide (a3 > 2)))))) else (haberdashref01_Times.j0 k a0 a1 a2 a3 true)) = some (r1, r2) := H
  have A8 := Aside0.mk A80; clear A80
  by_cases c9 : t307 = true
  rotate_left
  ·
   replace c9 := Bool.eq_false_iff.mpr c9; subst c9; rw [if_neg nf_] at H; have H' := Aside0.mk H; clear H
   go_wp2_with (first | (refine gl_ 66 14 Try.func66 #[.int .i64 a0] ?_; (with_reducible refine (haberdashref01_Right.calls a0 true _ A6.out).mono ?_); rintro e w' ⟨rfl, ⟨nd, rfl⟩⟩; refine ⟨_, rfl, ?_⟩) | (go_at_call 66; (with_reducible refine (haberdashref01_Right.calls a1 false _ A8.out).mono ?_); rintro e w' ⟨rfl, ⟨nd, rfl⟩⟩))
   go_meet
   case rel => exact ⟨_, (true), rf_, H', ⟨om_⟩, dr_⟩
  subst c9; rw [if_pos rfl] at H
  by_cases c10 : a2 < 1
  ·
   rw [if_pos c10] at H; have c10b0 := decide_eq_true c10; clear c10
   (first | rw [c10b0] | (simp only [i64_w, i32_w]; rw [c10b0]) | skip)
   have H' := Aside0.mk H; clear H
   go_wp2_with (first | (refine gl_ 66 14 Try.func66 #[.int .i64 a0] ?_; (with_reducible refine (haberdashref01_Right.calls a0 true _ A6.out).mono ?_); rintro e w' ⟨rfl, ⟨nd, rfl⟩⟩; refine ⟨_, rfl, ?_⟩) | (go_at_call 66; (with_reducible refine (haberdashref01_Right.calls a1 true _ A8.out).mono ?_); rintro e w' ⟨rfl, ⟨nd, rfl⟩⟩))
   go_meet
   case rel => exact ⟨_, (true), rf_, H', ⟨om_⟩, dr_⟩
  rw [if_neg c10] at H; have c10b0 := decide_eq_false c10; clear c10
  (first | rw [c10b0] | (simp only [i64_w, i32_w]; rw [c10b0]) | skip)
  by_cases c11 : a2 > 100000000000000
  ·
   rw [if_pos c11] at H; have c11b0 := decide_eq_true c11; clear c11; have H' := Aside0.mk H; clear H
   go_wp2_with (first | (refine gl_ 66 14 Try.func66 #[.int .i64 a0] ?_; (with_reducible refine (haberdashref01_Right.calls a0 true _ A6.out).mono ?_); rintro e w' ⟨rfl, ⟨nd, rfl⟩⟩; refine ⟨_, rfl, ?_⟩) | (go_at_call 66; (with_reducible refine (haberdashref01_Right.calls a1 true _ A8.out).mono ?_); rintro e w' ⟨rfl, ⟨nd, rfl⟩⟩))
   go_meet
   case rel => exact ⟨_, (true), rf_, H', ⟨om_⟩, dr_⟩
  rw [if_neg c11] at H; have c11b0 := decide_eq_false c11; clear c11
  by_cases c12 : a3 < 0
  rotate_left
  ·
   rw [if_neg c12] at H; have c12b0 := decide_eq_false c12; clear c12; have H' := Aside0.mk H; clear H
   go_wp2_with (first | (refine gl_ 66 14 Try.func66 #[.int .i64 a0] ?_; (with_reducible refine (haberdashref01_Right.calls a0 true _ A6.out).mono ?_); rintro e w' ⟨rfl, ⟨nd, rfl⟩⟩; refine ⟨_, rfl, ?_⟩) | (go_at_call 66; (with_reducible refine (haberdashref01_Right.calls a1 true _ A8.out).mono ?_); rintro e w' ⟨rfl, ⟨nd, rfl⟩⟩))
   go_meet
   case rel => exact ⟨_, (decide (a3 > 2)), rf_, H', ⟨om_⟩, dr_⟩
  rw [if_pos c12] at H; have c12b0 := decide_eq_true c12; clear c12; have H' := Aside0.mk H; clear H
  go_wp2_with (first | (refine gl_ 66 14 Try.func66 #[.int .i64 a0] ?_; (with_reducible refine (haberdashref01_Right.calls a0 true _ A6.out).mono ?_); rintro e w' ⟨rfl, ⟨nd, rfl⟩⟩; refine ⟨_, rfl, ?_⟩) | (go_at_call 66; (with_reducible refine (haberdashref01_Right.calls a1 true _ A8.out).mono ?_); rintro e w' ⟨rfl, ⟨nd, rfl⟩⟩))
  go_meet
  case rel => exact ⟨_, (true), rf_, H', ⟨om_⟩, dr_⟩
 case rest =>
  clear HC5; (try clear c1); (try clear p2); (try clear c4); (try clear c6); (try clear c7); (try clear c9); (try clear c10); (try clear c10b0); (try clear c11); (try clear c11b0); (try clear c12); (try clear c12b0); obtain ⟨kq, x36_4, rfl, HA, HJ4, ⟨mc4, rfl⟩⟩ := hcut
  cases kq with
  | zero => exact absurd HA.out (by simp [haberdashref01_Times.j0])
  | succ kj4 =>
   have H := HA.out; clear HA
   simp only [haberdashref01_Times.j0] at H
   by_cases c13 : x36_4 = true
   ·
    subst c13; rw [if_pos rfl] at H
    simp only [Option.some.injEq, Prod.mk.injEq] at H
    obtain ⟨rfl, rfl⟩ := H
    go_wp2
    go_ret2
    exact ⟨rf_, dr_⟩
   replace c13 := Bool.eq_false_iff.mpr c13; subst c13; rw [if_neg nf_] at H; replace H := Option.bind_eq_some_iff.mp H; obtain ⟨⟨t308, t309, t310⟩, A140, H⟩ := H; replace H : (if t310 = true then (if a3 = 1 then (if (wrap64 (2 * t309)) ≥ a2 then (haberdashref01_Times.j1 kj4 t308 true) else (if a3 = 2 then (if (wrap64 (2 * t309)) > a2 then (haberdashref01_Times.j1 kj4 t308 true) else (if (wrap64 (2 * t309)) = a2 then (haberdashref01_Times.j1 kj4 t308 ((Int.tmod t308 2) == 1)) else (haberdashref01_Times.j1 kj4 t308 false))) else (haberdashref01_Times.j1 kj4 t308 false))) else (if a3 = 2 then (if (wrap64 (2 * t309)) > a2 then (haberdashref01_Times.j1 kj4 t308 true) else (if (wrap64 (2 * t309)) = a2 then (haberdashref01_Times.j1 kj4 t308 ((Int.tmod t308 2) == 1)) else (haberdashref01_Times.j1 kj4 t308 false))) else (haberdashref01_Times.j1 kj4 t308 false))) else (some (0, 5))) = some (r1, r2) := H
   have A14 := Aside0.mk A140; clear A140
   by_cases c15 : t310 = true
   rotate_left
   ·
    replace c15 := Bool.eq_false_iff.mpr c15; subst c15; rw [if_neg nf_] at H
    simp only [Option.some.injEq, Prod.mk.injEq] at H
    obtain ⟨rfl, rfl⟩ := H
    go_wp2_with (first | (refine gl_ 67 41 Try.func67 #[.int .i64 a0, .int .i64 a1, .int .i64 a2] ?_; (with_reducible refine (haberdashref01_parts.calls kj4 a0 a1 a2 t308 t309 false _ A14.out).mono ?_); rintro e w' ⟨rfl, ⟨nd, rfl⟩⟩; refine ⟨_, rfl, ?_⟩))
    go_ret2
    exact ⟨rf_, dr_⟩
   subst c15; rw [if_pos rfl] at H; have HC16 := Aside0.mk H; clear H
   go_upto_region 6 with (first | (refine gl_ 67 41 Try.func67 #[.int .i64 a0, .int .i64 a1, .int .i64 a2] ?_; (with_reducible refine (haberdashref01_parts.calls kj4 a0 a1 a2 t308 t309 true _ A14.out).mono ?_); rintro e w' ⟨rfl, ⟨nd, rfl⟩⟩; refine ⟨_, rfl, ?_⟩))
   (try simp only [Act.put, List.setIfInBounds_toArray, List.set_cons_zero, List.set_cons_succ])
   go_cut [75] (fun v75 wc => ∃ (kq : Nat) (x75_15 : Bool), v75 = .bool x75_15 ∧ Aside0 (haberdashref01_Times.j1 kq t308 x75_15 = some (r1, r2)) ∧ Aside0 (kq ≤ kj4) ∧ Drawn0 w wc)
   case first =>
    have H := HC16.out; clear HC16
    by_cases c17 : a3 = 1
    rotate_left
    ·
     rw [if_neg c17] at H; have c17b0 : (a3 == 1) = false := beq_eq_false_iff_ne.mpr c17; have c17b1 : (a3 != 1) = true := bne_iff_ne.mpr c17
     (first | rw [c17b0] | (simp only [i64_w, i32_w]; rw [c17b0]) | skip)
     by_cases c22 : a3 = 2
     rotate_left
     ·
      rw [if_neg c22] at H; have c22b0 : (a3 == 2) = false := beq_eq_false_iff_ne.mpr c22; have c22b1 : (a3 != 2) = true := bne_iff_ne.mpr c22; have H' := Aside0.mk H; clear H
      go_wp2
      go_meet
      case rel => exact ⟨_, (false), rf_, H', ⟨by have := HJ4.out; first | omega | exact Nat.le_refl _⟩, dr_⟩
     rw [if_pos c22] at H; have c22b0 : (a3 == 2) = true := beq_iff_eq.mpr c22; have c22b1 : (a3 != 2) = false := bne_eq_false_iff_eq.mpr c22; clear c22
     by_cases c23 : (wrap64 (2 * t309)) > a2
     ·
      rw [if_pos c23] at H; have c23b0 := decide_eq_true c23; clear c23; have H' := Aside0.mk H; clear H
      go_wp2
      go_meet
      case rel => exact ⟨_, (true), rf_, H', ⟨by have := HJ4.out; first | omega | exact Nat.le_refl _⟩, dr_⟩
     rw [if_neg c23] at H; have c23b0 := decide_eq_false c23; clear c23
     by_cases c24 : (wrap64 (2 * t309)) = a2
     rotate_left
     ·
      rw [if_neg c24] at H; have c24b0 : ((wrap64 (2 * t309)) == a2) = false := beq_eq_false_iff_ne.mpr c24; have c24b1 : ((wrap64 (2 * t309)) != a2) = true := bne_iff_ne.mpr c24; have H' := Aside0.mk H; clear H
      go_wp2
      go_meet
      case rel => exact ⟨_, (false), rf_, H', ⟨by have := HJ4.out; first | omega | exact Nat.le_refl _⟩, dr_⟩
     rw [if_pos c24] at H; have c24b0 : ((wrap64 (2 * t309)) == a2) = true := beq_iff_eq.mpr c24; have c24b1 : ((wrap64 (2 * t309)) != a2) = false := bne_eq_false_iff_eq.mpr c24; clear c24; have H' := Aside0.mk H; clear H
     go_wp2
     go_meet
     case rel => exact ⟨_, (((Int.tmod t308 2) == 1)), rf_, H', ⟨by have := HJ4.out; first | omega | exact Nat.le_refl _⟩, dr_⟩
    rw [if_pos c17] at H; have c17b0 : (a3 == 1) = true := beq_iff_eq.mpr c17; have c17b1 : (a3 != 1) = false := bne_eq_false_iff_eq.mpr c17; clear c17
    (first | rw [c17b0] | (simp only [i64_w, i32_w]; rw [c17b0]) | skip)
    by_cases c18 : (wrap64 (2 * t309)) ≥ a2
    ·
     rw [if_pos c18] at H; have c18b0 := decide_eq_true c18; clear c18; have H' := Aside0.mk H; clear H
     go_wp2
     go_meet
     case rel => exact ⟨_, (true), rf_, H', ⟨by have := HJ4.out; first | omega | exact Nat.le_refl _⟩, dr_⟩
    rw [if_neg c18] at H; have c18b0 := decide_eq_false c18; clear c18
    by_cases c19 : a3 = 2
    rotate_left
    ·
     rw [if_neg c19] at H; have c19b0 : (a3 == 2) = false := beq_eq_false_iff_ne.mpr c19; have c19b1 : (a3 != 2) = true := bne_iff_ne.mpr c19; have H' := Aside0.mk H; clear H
     go_wp2
     go_meet
     case rel => exact ⟨_, (false), rf_, H', ⟨by have := HJ4.out; first | omega | exact Nat.le_refl _⟩, dr_⟩
    rw [if_pos c19] at H; have c19b0 : (a3 == 2) = true := beq_iff_eq.mpr c19; have c19b1 : (a3 != 2) = false := bne_eq_false_iff_eq.mpr c19; clear c19
    by_cases c20 : (wrap64 (2 * t309)) > a2
    ·
     rw [if_pos c20] at H; have c20b0 := decide_eq_true c20; clear c20; have H' := Aside0.mk H; clear H
     go_wp2
     go_meet
     case rel => exact ⟨_, (true), rf_, H', ⟨by have := HJ4.out; first | omega | exact Nat.le_refl _⟩, dr_⟩
    rw [if_neg c20] at H; have c20b0 := decide_eq_false c20; clear c20
    by_cases c21 : (wrap64 (2 * t309)) = a2
    rotate_left
    ·
     rw [if_neg c21] at H; have c21b0 : ((wrap64 (2 * t309)) == a2) = false := beq_eq_false_iff_ne.mpr c21; have c21b1 : ((wrap64 (2 * t309)) != a2) = true := bne_iff_ne.mpr c21; have H' := Aside0.mk H; clear H
     go_wp2
     go_meet
     case rel => exact ⟨_, (false), rf_, H', ⟨by have := HJ4.out; first | omega | exact Nat.le_refl _⟩, dr_⟩
    rw [if_pos c21] at H; have c21b0 : ((wrap64 (2 * t309)) == a2) = true := beq_iff_eq.mpr c21; have c21b1 : ((wrap64 (2 * t309)) != a2) = false := bne_eq_false_iff_eq.mpr c21; clear c21; have H' := Aside0.mk H; clear H
    go_wp2
    go_meet
    case rel => exact ⟨_, (((Int.tmod t308 2) == 1)), rf_, H', ⟨by have := HJ4.out; first | omega | exact Nat.le_refl _⟩, dr_⟩
   case rest =>
    clear HC16; (try clear c1); (try clear c2); (try clear p2); (try clear c4); (try clear c6); (try clear p6); (try clear c7); (try clear c9); (try clear c10); (try clear c10b0); (try clear c11); (try clear c11b0); (try clear c12); (try clear c12b0); (try clear c13); (try clear c15); (try clear c17)
    (try clear c17b0); (try clear c17b1); (try clear c18); (try clear c18b0); (try clear c19); (try clear c19b0); (try clear c19b1); (try clear c20); (try clear c20b0); (try clear c21); (try clear c21b0); (try clear c21b1); (try clear c22); (try clear c22b0); (try clear c22b1); (try clear c23); (try clear c23b0)
    (try clear c24); (try clear c24b0); (try clear c24b1); (try clear p2); obtain ⟨kq, x75_15, rfl, HA, HJ15, ⟨mc15, rfl⟩⟩ := hcut
    cases kq with
    | zero => exact absurd HA.out (by simp [haberdashref01_Times.j1])
    | succ kj15 =>
     have H := HA.out; clear HA
     simp only [haberdashref01_Times.j1] at H
     by_cases c25 : x75_15 = true
     ·
      subst c25; rw [if_pos rfl] at H; replace H := Option.bind_eq_some_iff.mp H; obtain ⟨t311, A260, H⟩ := H; replace H : (if t311 = true then (some (wrap64 (t308 + 1), 0)) else (some (0, 5))) = some (r1, r2) := H; have A26 := Aside0.mk A260; clear A260
      by_cases c27 : t311 = true
      ·
       subst c27; rw [if_pos rfl] at H
       simp only [Option.some.injEq, Prod.mk.injEq] at H
       obtain ⟨rfl, rfl⟩ := H
       go_wp2_with (first | (refine gl_ 66 79 Try.func66 #[.int .i64 (wrap64 (t308 + 1))] ?_; (with_reducible refine (haberdashref01_Right.calls (wrap64 (t308 + 1)) true _ A26.out).mono ?_); rintro e w' ⟨rfl, ⟨nd, rfl⟩⟩; refine ⟨_, rfl, ?_⟩))
       go_ret2
       exact ⟨rf_, dr_⟩
      replace c27 := Bool.eq_false_iff.mpr c27; subst c27; rw [if_neg nf_] at H
      simp only [Option.some.injEq, Prod.mk.injEq] at H
      obtain ⟨rfl, rfl⟩ := H
      go_wp2_with (first | (refine gl_ 66 79 Try.func66 #[.int .i64 (wrap64 (t308 + 1))] ?_; (with_reducible refine (haberdashref01_Right.calls (wrap64 (t308 + 1)) false _ A26.out).mono ?_); rintro e w' ⟨rfl, ⟨nd, rfl⟩⟩; refine ⟨_, rfl, ?_⟩))
      go_ret2
      exact ⟨rf_, dr_⟩
     replace c25 := Bool.eq_false_iff.mpr c25; subst c25; rw [if_neg nf_] at H; replace H := Option.bind_eq_some_iff.mp H; obtain ⟨t312, A280, H⟩ := H; replace H : (if t312 = true then (some (t308, 0)) else (some (0, 5))) = some (r1, r2) := H; have A28 := Aside0.mk A280; clear A280
     by_cases c29 : t312 = true
     ·
      subst c29; rw [if_pos rfl] at H
      simp only [Option.some.injEq, Prod.mk.injEq] at H
      obtain ⟨rfl, rfl⟩ := H
      go_wp2_with (first | (refine gl_ 66 79 Try.func66 #[.int .i64 t308] ?_; (with_reducible refine (haberdashref01_Right.calls t308 true _ A28.out).mono ?_); rintro e w' ⟨rfl, ⟨nd, rfl⟩⟩; refine ⟨_, rfl, ?_⟩))
      go_ret2
      exact ⟨rf_, dr_⟩
     replace c29 := Bool.eq_false_iff.mpr c29; subst c29; rw [if_neg nf_] at H
     simp only [Option.some.injEq, Prod.mk.injEq] at H
     obtain ⟨rfl, rfl⟩ := H
     go_wp2_with (first | (refine gl_ 66 79 Try.func66 #[.int .i64 t308] ?_; (with_reducible refine (haberdashref01_Right.calls t308 false _ A28.out).mono ?_); rintro e w' ⟨rfl, ⟨nd, rfl⟩⟩; refine ⟨_, rfl, ?_⟩))
     go_ret2
     exact ⟨rf_, dr_⟩

/-! ### haberdashref01_Order: function 68 -/
mutual
def haberdashref01_Order.l0 : Nat → List Int → List Int → Int → Option (List Int)
 | 0, _, _, _ => none
 | k + 1, x0, x3, x4 => if x4 < (x0.length : Int) then (haberdashref01_Order.l1 k x0 x3 x4 0) else (some x3)
def haberdashref01_Order.j2 : Nat → List Int → List Int → Int → Int → Option (List Int)
 | 0, _, _, _, _ => none
 | k + 1, x0, x3, x4, x5 => if x3.length < 17592186044416 then ((some (x3 ++ [0] : List Int)).bind fun y324 => (haberdashref01_Order.l2 k x0 y324 x4 x5 (wrap64 ((y324.length : Int) - 1)))) else (none)
def haberdashref01_Order.l2 : Nat → List Int → List Int → Int → Int → Int → Option (List Int)
 | 0, _, _, _, _, _ => none
 | k + 1, x0, x3, x4, x5, x6 => if x6 > x5 then (if 0 ≤ (wrap64 (x6 - 1)) then (if (wrap64 (x6 - 1)) < (x3.length : Int) then (if 0 ≤ x6 then (if x6 < (x3.length : Int) then (haberdashref01_Order.l2 k x0 (x3.set (x6 : Int).toNat (rd x3 (wrap64 (x6 - 1)))) x4 x5 (wrap64 (x6 - 1))) else (none)) else (none)) else (none)) else (none)) else (if 0 ≤ x5 then (if x5 < (x3.length : Int) then (haberdashref01_Order.l0 k x0 (x3.set (x5 : Int).toNat x4) (wrap64 (x4 + 1))) else (none)) else (none))
def haberdashref01_Order.l1 : Nat → List Int → List Int → Int → Int → Option (List Int)
 | 0, _, _, _, _ => none
 | k + 1, x0, x3, x4, x5 => if x5 < (x3.length : Int) then (if 0 ≤ x5 then (if 0 ≤ (rd x3 x5) then (if (rd x3 x5) < (x0.length : Int) then (if 0 ≤ x4 then (if x4 < (x0.length : Int) then (if (rd x0 (rd x3 x5)) ≥ (rd x0 x4) then (haberdashref01_Order.l1 k x0 x3 x4 (wrap64 (x5 + 1))) else (haberdashref01_Order.j2 k x0 x3 x4 x5)) else (none)) else (none)) else (none)) else (none)) else (none)) else (haberdashref01_Order.j2 k x0 x3 x4 x5)
end
def haberdashref01_Order.f (k : Nat) (l0 : List Int) : Option (List Int) := haberdashref01_Order.l0 k l0 ([] : List Int) 0
set_option maxHeartbeats 8000000 in
set_option maxRecDepth 100000 in
theorem haberdashref01_Order.calls (k : Nat) (A0 : Option Addr) (c0 : Nat) (l0 : List Int) (r : List Int) (w : World) (hr0 : Kd.C (Kd.int .i64) w A0 l0.length l0) (hc0 : l0.length ≤ c0) (h : haberdashref01_Order.f k l0 = some r) :
 Calls Try.prog 68 #[.slice A0 l0.length c0] w fun e w' => ∃ v0_ : Value, e = .returned (v0_) ∧ Kd.R (Kd.int .i64) 3 w' w.heap.size (fun _ => True) v0_ r ∧ Below w.heap.size w w' := by
 have HR0 := Aside0.mk hr0
 have HC0 := Aside0.mk hc0
 clear hr0 hc0
 have HB := Aside0.mk (Below.refl w.heap.size w)
 have H : (haberdashref01_Order.l0 k l0 ([] : List Int) 0) = some r := h
 clear h
 have H' := Aside0.mk H
 clear H
 go_enter Try.func68, Try.ntmps68
 go_wp2
 repeat (go_quiet (fail); try go_wp2)
 (try simp only [addr0])
 go_loopg [3, 4] k (fun kq v3 v4 w' => ∃ (x3_1 : List Int) (x4_1 : Int), v4 = .int .i64 x4_1 ∧ Aside0 (haberdashref01_Order.l0 kq l0 x3_1 x4_1 = some r) ∧ Aside0 (kq ≤ k) ∧ Aside0 (Kd.R (Kd.int .i64) 3 w' w.heap.size (fun _ => True) v3 x3_1) ∧ Aside0 (Below w.heap.size w w'))
 case atStart => exact ⟨(([] : List Int)), (0), rf_, H', ⟨Nat.le_refl _⟩, ⟨ni_⟩, ⟨hb0_ HB⟩⟩
 case round =>
  clear H'; obtain ⟨x3_1, x4_1, rfl, HA, HK1, HO_3, HB⟩ := hrel
  cases gk with
  | zero => exact absurd HA.out (by simp [haberdashref01_Order.l0])
  | succ k1 =>
   have H := HA.out; clear HA
   simp only [haberdashref01_Order.l0] at H
   by_cases c2 : x4_1 < (l0.length : Int)
   rotate_left
   ·
    rw [if_neg c2] at H; have c2b0 := decide_eq_false c2; clear c2; obtain rfl := Option.some.inj H
    go_wp2
    repeat (go_quiet (fail); try go_wp2)
    go_ret
    exact ⟨_, er_, ro_ HO_3, hb0_ HB⟩
   rw [if_pos c2] at H; have c2b0 := decide_eq_true c2; clear c2; have HC3 := Aside0.mk H; clear H
   go_upto_block 2 with (fail)
   repeat (go_quiet (fail); go_upto_block 2 with (fail))
   go_cut [5] (fun v5 wc => ∃ (kq : Nat) (x5_2 : Int), v5 = .int .i64 x5_2 ∧ Aside0 (haberdashref01_Order.j2 kq l0 x3_1 x4_1 x5_2 = some r) ∧ Aside0 (kq ≤ k1) ∧ Aside0 (Kd.R (Kd.int .i64) 3 wc w.heap.size (fun _ => True) u3 x3_1) ∧ Aside0 (Below w.heap.size w wc))
   case first =>
    have H := HC3.out; clear HC3; have H' := Aside0.mk H; clear H
    go_wp2
    repeat (go_quiet (fail); try go_wp2)
    (try simp only [addr0])
    go_loopg [5] k1 (fun kq v5 w' => ∃ (x5_2 : Int), v5 = .int .i64 x5_2 ∧ Aside0 (haberdashref01_Order.l1 kq l0 x3_1 x4_1 x5_2 = some r) ∧ Aside0 (kq ≤ k1) ∧ Aside0 (Kd.R (Kd.int .i64) 3 w' w.heap.size (fun _ => True) u3 x3_1) ∧ Aside0 (Below w.heap.size w w'))
    case atStart => exact ⟨(0), rf_, H', ⟨Nat.le_refl _⟩, ⟨ro_ HO_3⟩, ⟨hb0_ HB⟩⟩
    case round =>
     clear H'; (try clear c2); (try clear c2b0); (try clear p2); obtain ⟨x5_2, rfl, HA, HK2, HO_3, HB⟩ := hrel
     cases gk with
     | zero => exact absurd HA.out (by simp [haberdashref01_Order.l1])
     | succ k2 =>
      have H := HA.out; clear HA
      simp only [haberdashref01_Order.l1] at H
      by_cases c4 : x5_2 < (x3_1.length : Int)
      rotate_left
      ·
       rw [if_neg c4] at H; have c4b0 := decide_eq_false c4; clear c4
       (first | rw [c4b0] | (simp only [i64_w, i32_w]; rw [c4b0]) | skip)
       have H' := Aside0.mk H; clear H; obtain ⟨Ao13, co13, eo13⟩ := Kd.R_slice HO_3.out; subst eo13
       go_wp2
       repeat (go_quiet (fail); try go_wp2)
       go_meet
       case rel => exact ⟨_, (x5_2), rf_, H', ⟨by have := HK1.out; have := HK2.out; first | omega | exact Nat.le_refl _⟩, ⟨ro_ HO_3⟩, ⟨hb0_ HB⟩⟩
      rw [if_pos c4] at H; have c4b0 := decide_eq_true c4; clear c4
      (first | rw [c4b0] | (simp only [i64_w, i32_w]; rw [c4b0]) | skip)
      replace H := ip_ H; obtain ⟨c5, H⟩ := H; have c5b0 := decide_eq_true c5; clear c5; replace H := ip_ H; obtain ⟨c6, H⟩ := H; have c6b0 := decide_eq_true c6; clear c6; replace H := ip_ H; obtain ⟨c7, H⟩ := H; have c7b0 := decide_eq_true c7; clear c7; replace H := ip_ H; obtain ⟨c8, H⟩ := H; have c8b0 := decide_eq_true c8
      clear c8; replace H := ip_ H; obtain ⟨c9, H⟩ := H; have c9b0 := decide_eq_true c9; clear c9
      by_cases c10 : (rd l0 (rd x3_1 x5_2)) ≥ (rd l0 x4_1)
      rotate_left
      ·
       rw [if_neg c10] at H; have c10b0 := decide_eq_false c10; clear c10; have H' := Aside0.mk H; clear H; obtain ⟨Ao12, co12, eo12⟩ := Kd.R_slice HO_3.out; subst eo12; have p321 : 0 ≤ (x5_2 : Int) := of_decide_eq_true as_; have q321 : x5_2 < (x3_1.length : Int) := of_decide_eq_true as_; obtain ⟨ad321, e321, hx321_0⟩ := Kd.at_int (Kd.R_reads' HO_3.out).2.2 x5_2 p321 q321
       cases e321; replace p321 := eq_true p321; replace q321 := eq_true q321; have p322 : 0 ≤ ((rd x3_1 x5_2) : Int) := of_decide_eq_true as_; have q322 : (rd x3_1 x5_2) < (l0.length : Int) := of_decide_eq_true as_; obtain ⟨ad322, e322, hx322_0⟩ := Kd.at_int HR0.out (rd x3_1 x5_2) p322 q322; cases e322
       replace hx322_0 := hd_ HB hx322_0; replace p322 := eq_true p322; replace q322 := eq_true q322; have p323 : 0 ≤ (x4_1 : Int) := of_decide_eq_true as_; have q323 : x4_1 < (l0.length : Int) := of_decide_eq_true as_; obtain ⟨ad323, e323, hx323_0⟩ := Kd.at_int HR0.out x4_1 p323 q323
       obtain rfl : ad322 = ad323 := (by injection e323)
       replace hx323_0 := hd_ HB hx323_0; replace p323 := eq_true p323; replace q323 := eq_true q323
       go_wp2
       repeat (go_quiet (fail); try go_wp2)
       go_meet
       case rel => exact ⟨_, (x5_2), rf_, H', ⟨by have := HK1.out; have := HK2.out; first | omega | exact Nat.le_refl _⟩, ⟨ro_ HO_3⟩, ⟨hb0_ HB⟩⟩
      rw [if_pos c10] at H; have c10b0 := decide_eq_true c10; clear c10; have H' := Aside0.mk H; clear H; obtain ⟨Ao11, co11, eo11⟩ := Kd.R_slice HO_3.out; subst eo11; have p321 : 0 ≤ (x5_2 : Int) := of_decide_eq_true as_; have q321 : x5_2 < (x3_1.length : Int) := of_decide_eq_true as_; obtain ⟨ad321, e321, hx321_0⟩ := Kd.at_int (Kd.R_reads' HO_3.out).2.2 x5_2 p321 q321
      cases e321; replace p321 := eq_true p321; replace q321 := eq_true q321; have p322 : 0 ≤ ((rd x3_1 x5_2) : Int) := of_decide_eq_true as_; have q322 : (rd x3_1 x5_2) < (l0.length : Int) := of_decide_eq_true as_; obtain ⟨ad322, e322, hx322_0⟩ := Kd.at_int HR0.out (rd x3_1 x5_2) p322 q322; cases e322
      replace hx322_0 := hd_ HB hx322_0; replace p322 := eq_true p322; replace q322 := eq_true q322; have p323 : 0 ≤ (x4_1 : Int) := of_decide_eq_true as_; have q323 : x4_1 < (l0.length : Int) := of_decide_eq_true as_; obtain ⟨ad323, e323, hx323_0⟩ := Kd.at_int HR0.out x4_1 p323 q323
      obtain rfl : ad322 = ad323 := (by injection e323)
      replace hx323_0 := hd_ HB hx323_0; replace p323 := eq_true p323; replace q323 := eq_true q323
      go_wp2
      repeat (go_quiet (fail); try go_wp2)
      go_roundg k2
      case measure => have := HK1.out; have := HK2.out; omega
      case rel => exact ⟨(wrap64 (x5_2 + 1)), rf_, H', ⟨ho2_ HK1 HK2⟩, ⟨ro_ HO_3⟩, ⟨hb0_ HB⟩⟩
   case rest =>
    clear HC3; (try clear c1); (try clear c2); (try clear c2b0); (try clear p2); (try clear p3); (try clear q3); (try clear hx3); (try clear c4); (try clear c4b0); (try clear c5); (try clear c5b0); (try clear c6); (try clear c6b0); (try clear p6); (try clear c7); (try clear c7b0); (try clear c8); (try clear c8b0)
    (try clear c9); (try clear c9b0); (try clear c10); (try clear c10b0); (try clear hx321_0); (try clear hx322_0); (try clear hx323_0); (try clear p2); (try clear p321); (try clear p322); (try clear p323); (try clear q321); (try clear q322); (try clear q323); obtain ⟨kq, x5_2, rfl, HA, HJ2, HO_3, HB⟩ := hcut
    cases kq with
    | zero => exact absurd HA.out (by simp [haberdashref01_Order.j2])
    | succ kj2 =>
     have H := HA.out; clear HA
     simp only [haberdashref01_Order.j2] at H
     replace H := ip_ H; obtain ⟨c14, H⟩ := H; have LMc14 := Aside0.mk c14; clear c14; obtain ⟨y324, hy324⟩ : ∃ y_ : List Int, y_ = (x3_1 ++ [0]) := ⟨_, rfl⟩; replace H : (haberdashref01_Order.l2 kj2 l0 y324 x4_1 x5_2 (wrap64 ((y324.length : Int) - 1))) = some r := hy_ hy324 H; have Ny324 := Aside0.mk hy324
     clear hy324; have H' := Aside0.mk H; clear H
     go_wp2_with (first | ((with_reducible refine gate_builtin (b := .append) (xs := #[.tmp 33, .tmp 34]) rfl ?_); at_builtin; refine Kd.R_append (Kd.int .i64) (w0 := w) w.heap.size rfl (.tmp 33) (.tmp 34) 44 3 (.int .i64 0) 8 rfl Try.underlying44 info3 rfl (by decide) (by omega) u3 x3_1 0 [.int .i64 0] (fun _ => True) (fun _ => False) rfl rfl ?aP (fun _ hk => hk.elim) ?aF ?aO ?aB ?aS ?aL ?_; (case aP => exact rfl); (case aB => exact (hb0_ HB)); (case aF => exact (fun _ _ => trivial)); (case aO => exact (ro_ HO_3)); (case aS => exact (below_size (hb0_ HB))); (case aL => have := LMc14.out; omega); intro v325 w15 ho hb hg hat; rw [← Ny324.out] at ho; have n0_ := Aside0.mk hb; have n1_ := Aside0.mk ho; clear HB; clear HO_3; have HB := n0_; have HO326 := n1_; clear n0_ n1_; clear ho hb hg hat; obtain ⟨Ao16, co16, eo16⟩ := Kd.R_slice HO326.out; subst eo16))
     repeat (go_quiet (first | ((with_reducible refine gate_builtin (b := .append) (xs := #[.tmp 33, .tmp 34]) rfl ?_); at_builtin; refine Kd.R_append (Kd.int .i64) (w0 := w) w.heap.size rfl (.tmp 33) (.tmp 34) 44 3 (.int .i64 0) 8 rfl Try.underlying44 info3 rfl (by decide) (by omega) u3 x3_1 0 [.int .i64 0] (fun _ => True) (fun _ => False) rfl rfl ?aP (fun _ hk => hk.elim) ?aF ?aO ?aB ?aS ?aL ?_; (case aP => exact rfl); (case aB => exact (hb0_ HB)); (case aF => exact (fun _ _ => trivial)); (case aO => exact (ro_ HO_3)); (case aS => exact (below_size (hb0_ HB))); (case aL => have := LMc14.out; omega); intro v325 w15 ho hb hg hat; rw [← Ny324.out] at ho; have n0_ := Aside0.mk hb; have n1_ := Aside0.mk ho; clear HB; clear HO_3; have HB := n0_; have HO326 := n1_; clear n0_ n1_; clear ho hb hg hat; obtain ⟨Ao16, co16, eo16⟩ := Kd.R_slice HO326.out; subst eo16)); try go_wp2_with (first | ((with_reducible refine gate_builtin (b := .append) (xs := #[.tmp 33, .tmp 34]) rfl ?_); at_builtin; refine Kd.R_append (Kd.int .i64) (w0 := w) w.heap.size rfl (.tmp 33) (.tmp 34) 44 3 (.int .i64 0) 8 rfl Try.underlying44 info3 rfl (by decide) (by omega) u3 x3_1 0 [.int .i64 0] (fun _ => True) (fun _ => False) rfl rfl ?aP (fun _ hk => hk.elim) ?aF ?aO ?aB ?aS ?aL ?_; (case aP => exact rfl); (case aB => exact (hb0_ HB)); (case aF => exact (fun _ _ => trivial)); (case aO => exact (ro_ HO_3)); (case aS => exact (below_size (hb0_ HB))); (case aL => have := LMc14.out; omega); intro v325 w15 ho hb hg hat; rw [← Ny324.out] at ho; have n0_ := Aside0.mk hb; have n1_ := Aside0.mk ho; clear HB; clear HO_3; have HB := n0_; have HO326 := n1_; clear n0_ n1_; clear ho hb hg hat; obtain ⟨Ao16, co16, eo16⟩ := Kd.R_slice HO326.out; subst eo16)))
     (try simp only [addr0])
     go_loopg [6] kj2 (fun kq v6 w' => ∃ (x3_3 : List Int) (x6_3 : Int), v6 = .int .i64 x6_3 ∧ Aside0 (haberdashref01_Order.l2 kq l0 x3_3 x4_1 x5_2 x6_3 = some r) ∧ Aside0 (kq ≤ kj2) ∧ Aside0 (Kd.R (Kd.int .i64) 3 w' w.heap.size (fun _ => True) (.slice Ao16 y324.length co16) x3_3) ∧ Aside0 (Below w.heap.size w w'))
     case atStart => exact ⟨(y324), (wrap64 ((y324.length : Int) - 1)), rf_, H', ⟨Nat.le_refl _⟩, ⟨ro_ HO326⟩, ⟨hb0_ HB⟩⟩
     case round =>
      clear H'; (try clear c1); (try clear c2); (try clear c2b0); (try clear p2); (try clear p3); (try clear q3); (try clear hx3); (try clear c4); (try clear c4b0); (try clear c5); (try clear c5b0); (try clear c6); (try clear c6b0); (try clear p6); (try clear c7); (try clear c7b0); (try clear c8); (try clear c8b0)
      (try clear c9); (try clear c9b0); (try clear c10); (try clear c10b0); (try clear c14); (try clear hx321_0); (try clear hx322_0); (try clear hx323_0); (try clear p2); (try clear p3); (try clear p321); (try clear p322); (try clear p323); (try clear p6); (try clear q3); (try clear q321); (try clear q322)
      (try clear q323); obtain ⟨x3_3, x6_3, rfl, HA, HK3, HO_3, HB⟩ := hrel; have hl3_3 := (Kd.R_reads' HO_3.out).1; rw [hl3_3] at HO_3
      (try simp only [hl3_3])
      cases gk with
      | zero => exact absurd HA.out (by simp [haberdashref01_Order.l2])
      | succ k3 =>
       have H := HA.out; clear HA
       simp only [haberdashref01_Order.l2] at H
       by_cases c17 : x6_3 > x5_2
       rotate_left
       ·
        rw [if_neg c17] at H; have c17b0 := decide_eq_false c17; clear c17; replace H := ip_ H; obtain ⟨c26, H⟩ := H; have c26b0 := decide_eq_true c26; clear c26; replace H := ip_ H; obtain ⟨c27, H⟩ := H; have c27b0 := decide_eq_true c27; clear c27; obtain ⟨y329, hy329⟩ : ∃ y_ : List Int, y_ = (x3_3.set (x5_2 : Int).toNat x4_1) := ⟨_, rfl⟩
        replace H : (haberdashref01_Order.l0 k3 l0 y329 (wrap64 (x4_1 + 1))) = some r := hy_ hy329 H; have Ny329 := Aside0.mk hy329; clear hy329; have H' := Aside0.mk H; clear H; have p28 : 0 ≤ (x5_2 : Int) := of_decide_eq_true as_; have q28 : (x5_2 : Int) < ((x3_3.length : Int) : Int) := of_decide_eq_true as_
        obtain ⟨go28, co28, eo28, gb28, gl28, cl28, HG28⟩ := Kd.R_form HO_3.out (by omega)
        (first | cases eo28 | (injection eo28 with ea_ en_ ec_; (first | subst ea_ | (injection ea_ with ea_; subst ea_)); subst ec_; clear en_))
        have GB28 := Aside0.mk gb28; have GG28 := Aside0.mk HG28; clear gb28 gl28 HG28; obtain ⟨hx28_0, hf28_0⟩ := Kd.R_celln 0 HO_3.out (x5_2 : Int) p28 q28; replace p28 := eq_true p28; replace q28 := eq_true q28; have HP29 := Kd.R_putg HO_3.out (x5_2 : Int) x4_1
        go_wp2_with (first | ((with_reducible refine gate_store (t := 3) (p := 55) rfl ?_); (try (rw [drewN_self wr]; generalize hq_ : World.drewN wr _ = wr; have n0_ := Aside0.mk (Kd.R_at hq_ HO_3.out); have n1_ := Aside0.mk (below_at hq_ HB.out); clear hq_ HO_3 HB; have HO_3 := n0_; have HB := n1_; clear n0_ n1_; (try (have HP29 := Kd.R_putg HO_3.out (x5_2 : Int) x4_1)))); refine store_event (t := 3) (p := 55) (v := ?vo_w30) (w1 := (wr.setCell ⟨go28, (x5_2 : Int).toNat, none⟩ (.int .i64 x4_1))) ?hg ?ho ?hn ?hr ?_; (case ho => rfl); (case hg => rfl); (case hn => rfl); (case hr => first | (go_simp; done) | (go_simp; rfl)); intro w30 hw; have hg : wr.grownBy w30 (some go28) := (by rw [hw]; exact HP29.2); have hp_ : Kd.R (Kd.int .i64) 3 w30 w.heap.size (fun _ => True) (.slice (some ⟨go28, 0, none⟩) x3_3.length co16) y329 := (by rw [hw, Ny329.out]; exact HP29.1); clear HP29; replace HO_3 := Aside0.mk hp_; replace HB := Aside0.mk ((by rw [hw]; exact below_set (HB.out) GB28.out : Below w.heap.size w w30)); clear hg hw hp_))
        repeat (go_quiet (first | ((with_reducible refine gate_store (t := 3) (p := 55) rfl ?_); (try (rw [drewN_self wr]; generalize hq_ : World.drewN wr _ = wr; have n0_ := Aside0.mk (Kd.R_at hq_ HO_3.out); have n1_ := Aside0.mk (below_at hq_ HB.out); clear hq_ HO_3 HB; have HO_3 := n0_; have HB := n1_; clear n0_ n1_; (try (have HP29 := Kd.R_putg HO_3.out (x5_2 : Int) x4_1)))); refine store_event (t := 3) (p := 55) (v := ?vo_w30) (w1 := (wr.setCell ⟨go28, (x5_2 : Int).toNat, none⟩ (.int .i64 x4_1))) ?hg ?ho ?hn ?hr ?_; (case ho => rfl); (case hg => rfl); (case hn => rfl); (case hr => first | (go_simp; done) | (go_simp; rfl)); intro w30 hw; have hg : wr.grownBy w30 (some go28) := (by rw [hw]; exact HP29.2); have hp_ : Kd.R (Kd.int .i64) 3 w30 w.heap.size (fun _ => True) (.slice (some ⟨go28, 0, none⟩) x3_3.length co16) y329 := (by rw [hw, Ny329.out]; exact HP29.1); clear HP29; replace HO_3 := Aside0.mk hp_; replace HB := Aside0.mk ((by rw [hw]; exact below_set (HB.out) GB28.out : Below w.heap.size w w30)); clear hg hw hp_)); try go_wp2_with (first | ((with_reducible refine gate_store (t := 3) (p := 55) rfl ?_); (try (rw [drewN_self wr]; generalize hq_ : World.drewN wr _ = wr; have n0_ := Aside0.mk (Kd.R_at hq_ HO_3.out); have n1_ := Aside0.mk (below_at hq_ HB.out); clear hq_ HO_3 HB; have HO_3 := n0_; have HB := n1_; clear n0_ n1_; (try (have HP29 := Kd.R_putg HO_3.out (x5_2 : Int) x4_1)))); refine store_event (t := 3) (p := 55) (v := ?vo_w30) (w1 := (wr.setCell ⟨go28, (x5_2 : Int).toNat, none⟩ (.int .i64 x4_1))) ?hg ?ho ?hn ?hr ?_; (case ho => rfl); (case hg => rfl); (case hn => rfl); (case hr => first | (go_simp; done) | (go_simp; rfl)); intro w30 hw; have hg : wr.grownBy w30 (some go28) := (by rw [hw]; exact HP29.2); have hp_ : Kd.R (Kd.int .i64) 3 w30 w.heap.size (fun _ => True) (.slice (some ⟨go28, 0, none⟩) x3_3.length co16) y329 := (by rw [hw, Ny329.out]; exact HP29.1); clear HP29; replace HO_3 := Aside0.mk hp_; replace HB := Aside0.mk ((by rw [hw]; exact below_set (HB.out) GB28.out : Below w.heap.size w w30)); clear hg hw hp_)))
        (try simp only [← hl3_3])
        go_roundg k3
        case measure => have := HK1.out; have := HJ2.out; have := HK3.out; omega
        case rel => exact ⟨(y329), (wrap64 (x4_1 + 1)), rf_, H', ⟨ho3_ HK1 HJ2 HK3⟩, ⟨by (try simp only [hl3_3]); (with_reducible repeat (first | apply Kd.R_alloc | apply Kd.R_drewN | apply Kd.R_drew)); exact HO_3.out⟩, ⟨hb0_ HB⟩⟩
       rw [if_pos c17] at H; have c17b0 := decide_eq_true c17; clear c17; obtain ⟨ji18, hji18⟩ : ∃ j_ : Int, (wrap64 (x6_3 - 1)) = j_ := ⟨_, rfl⟩
       replace H : (if 0 ≤ (ji18) then (if (ji18) < (x3_3.length : Int) then (if 0 ≤ x6_3 then (if x6_3 < (x3_3.length : Int) then (haberdashref01_Order.l2 k3 l0 (x3_3.set (x6_3 : Int).toNat (rd x3_3 (ji18))) x4_1 x5_2 ji18) else (none)) else (none)) else (none)) else (none)) = some r := by first | (rw [hji18] at H; exact H) | (simp only [hji18] at H ⊢; exact H)
       have hji18w : (IntKind.i64.wrap (x6_3 - 1)) = ji18 := (i64_w _).trans hji18; replace H := ip_ H; obtain ⟨c19, H⟩ := H; have c19b0 := decide_eq_true c19; clear c19; replace H := ip_ H; obtain ⟨c20, H⟩ := H; have c20b0 := decide_eq_true c20; clear c20; replace H := ip_ H; obtain ⟨c21, H⟩ := H; have c21b0 := decide_eq_true c21
       clear c21; replace H := ip_ H; obtain ⟨c22, H⟩ := H; have c22b0 := decide_eq_true c22; clear c22; obtain ⟨y328, hy328⟩ : ∃ y_ : List Int, y_ = (x3_3.set (x6_3 : Int).toNat (rd x3_3 (ji18))) := ⟨_, rfl⟩; replace H : (haberdashref01_Order.l2 k3 l0 y328 x4_1 x5_2 ji18) = some r := hy_ hy328 H; have Ny328 := Aside0.mk hy328
       clear hy328; have H' := Aside0.mk H; clear H; have p327 : 0 ≤ ((ji18) : Int) := of_decide_eq_true as_; have q327 : (ji18) < (x3_3.length : Int) := of_decide_eq_true as_; obtain ⟨ad327, e327, hx327_0⟩ := Kd.at_int (Kd.R_reads' HO_3.out).2.2 (ji18) p327 q327; cases e327; replace p327 := eq_true p327
       replace q327 := eq_true q327; have p23 : 0 ≤ (x6_3 : Int) := of_decide_eq_true as_; have q23 : (x6_3 : Int) < ((x3_3.length : Int) : Int) := of_decide_eq_true as_
       obtain ⟨go23, co23, eo23, gb23, gl23, cl23, HG23⟩ := Kd.R_form HO_3.out (by omega)
       (first | cases eo23 | (injection eo23 with ea_ en_ ec_; (first | subst ea_ | (injection ea_ with ea_; subst ea_)); subst ec_; clear en_))
       have GB23 := Aside0.mk gb23; have GG23 := Aside0.mk HG23; clear gb23 gl23 HG23
       (first | simp only [add_plain] at hx327_0 | skip)
       obtain ⟨hx23_0, hf23_0⟩ := Kd.R_celln 0 HO_3.out (x6_3 : Int) p23 q23; replace p23 := eq_true p23; replace q23 := eq_true q23; have HP24 := Kd.R_putg HO_3.out (x6_3 : Int) (rd x3_3 (ji18))
       go_wp2_with (first | ((with_reducible refine gate_store (t := 3) (p := 51) rfl ?_); (try (rw [drewN_self wr]; generalize hq_ : World.drewN wr _ = wr; have n0_ := Aside0.mk (Kd.R_at hq_ HO_3.out); have n1_ := Aside0.mk (below_at hq_ HB.out); clear hq_ HO_3 HB; have HO_3 := n0_; have HB := n1_; clear n0_ n1_; (try (have HP24 := Kd.R_putg HO_3.out (x6_3 : Int) (rd x3_3 (ji18)))))); refine store_event (t := 3) (p := 51) (v := ?vo_w25) (w1 := (wr.setCell ⟨go23, (x6_3 : Int).toNat, none⟩ (.int .i64 (rd x3_3 (ji18))))) ?hg ?ho ?hn ?hr ?_; (case ho => rfl); (case hg => rfl); (case hn => rfl); (case hr => first | (go_simp; done) | (go_simp; rfl)); intro w25 hw; have hg : wr.grownBy w25 (some go23) := (by rw [hw]; exact HP24.2); have hp_ : Kd.R (Kd.int .i64) 3 w25 w.heap.size (fun _ => True) (.slice (some ⟨go23, 0, none⟩) x3_3.length co16) y328 := (by rw [hw, Ny328.out]; exact HP24.1); clear HP24; replace HO_3 := Aside0.mk hp_; replace HB := Aside0.mk ((by rw [hw]; exact below_set (HB.out) GB23.out : Below w.heap.size w w25)); clear hg hw hp_))
       repeat (go_quiet (first | ((with_reducible refine gate_store (t := 3) (p := 51) rfl ?_); (try (rw [drewN_self wr]; generalize hq_ : World.drewN wr _ = wr; have n0_ := Aside0.mk (Kd.R_at hq_ HO_3.out); have n1_ := Aside0.mk (below_at hq_ HB.out); clear hq_ HO_3 HB; have HO_3 := n0_; have HB := n1_; clear n0_ n1_; (try (have HP24 := Kd.R_putg HO_3.out (x6_3 : Int) (rd x3_3 (ji18)))))); refine store_event (t := 3) (p := 51) (v := ?vo_w25) (w1 := (wr.setCell ⟨go23, (x6_3 : Int).toNat, none⟩ (.int .i64 (rd x3_3 (ji18))))) ?hg ?ho ?hn ?hr ?_; (case ho => rfl); (case hg => rfl); (case hn => rfl); (case hr => first | (go_simp; done) | (go_simp; rfl)); intro w25 hw; have hg : wr.grownBy w25 (some go23) := (by rw [hw]; exact HP24.2); have hp_ : Kd.R (Kd.int .i64) 3 w25 w.heap.size (fun _ => True) (.slice (some ⟨go23, 0, none⟩) x3_3.length co16) y328 := (by rw [hw, Ny328.out]; exact HP24.1); clear HP24; replace HO_3 := Aside0.mk hp_; replace HB := Aside0.mk ((by rw [hw]; exact below_set (HB.out) GB23.out : Below w.heap.size w w25)); clear hg hw hp_)); try go_wp2_with (first | ((with_reducible refine gate_store (t := 3) (p := 51) rfl ?_); (try (rw [drewN_self wr]; generalize hq_ : World.drewN wr _ = wr; have n0_ := Aside0.mk (Kd.R_at hq_ HO_3.out); have n1_ := Aside0.mk (below_at hq_ HB.out); clear hq_ HO_3 HB; have HO_3 := n0_; have HB := n1_; clear n0_ n1_; (try (have HP24 := Kd.R_putg HO_3.out (x6_3 : Int) (rd x3_3 (ji18)))))); refine store_event (t := 3) (p := 51) (v := ?vo_w25) (w1 := (wr.setCell ⟨go23, (x6_3 : Int).toNat, none⟩ (.int .i64 (rd x3_3 (ji18))))) ?hg ?ho ?hn ?hr ?_; (case ho => rfl); (case hg => rfl); (case hn => rfl); (case hr => first | (go_simp; done) | (go_simp; rfl)); intro w25 hw; have hg : wr.grownBy w25 (some go23) := (by rw [hw]; exact HP24.2); have hp_ : Kd.R (Kd.int .i64) 3 w25 w.heap.size (fun _ => True) (.slice (some ⟨go23, 0, none⟩) x3_3.length co16) y328 := (by rw [hw, Ny328.out]; exact HP24.1); clear HP24; replace HO_3 := Aside0.mk hp_; replace HB := Aside0.mk ((by rw [hw]; exact below_set (HB.out) GB23.out : Below w.heap.size w w25)); clear hg hw hp_)))
       (try simp only [← hl3_3])
       go_roundg k3
       case measure => have := HK1.out; have := HJ2.out; have := HK3.out; omega
       case rel => exact ⟨(y328), (ji18), (by first | rfl | (simp; done) | (simp only [← hji18] <;> (first | rfl | simp)) | (simp [*]; done)), H', ⟨ho3_ HK1 HJ2 HK3⟩, ⟨by (try simp only [hl3_3]); (with_reducible repeat (first | apply Kd.R_alloc | apply Kd.R_drewN | apply Kd.R_drew)); exact HO_3.out⟩, ⟨hb0_ HB⟩⟩

/-! ### haberdashref01_Largest: function 48 -/
mutual
def haberdashref01_Largest.j0 : Nat → Int → List Int → Bool → Option (List Int × Int)
 | 0, _, _, _ => none
 | k + 1, x0, x1, x22 => if x22 = true then (some (([] : List Int), 2)) else (haberdashref01_Largest.l0 k x0 x1 0)
def haberdashref01_Largest.l0 : Nat → Int → List Int → Int → Option (List Int × Int)
 | 0, _, _, _ => none
 | k + 1, x0, x1, x6 => if x6 < (x1.length : Int) then (if 0 ≤ x6 then ((haberdashref01_Right.f (rd x1 x6)).bind fun t332 => (if t332 = true then (haberdashref01_Largest.l0 k x0 x1 (wrap64 (x6 + 1))) else (some (([] : List Int), 2)))) else (none)) else (haberdashref01_Largest.l1 k x0 x1 0 0)
def haberdashref01_Largest.l1 : Nat → Int → List Int → Int → Int → Option (List Int × Int)
 | 0, _, _, _, _ => none
 | k + 1, x0, x1, x7, x8 => if x8 < (x1.length : Int) then (if 0 ≤ x8 then (if (wrap64 (x7 + (rd x1 x8))) > 100000000000000 then (some (([] : List Int), 5)) else (haberdashref01_Largest.l1 k x0 x1 (wrap64 (x7 + (rd x1 x8))) (wrap64 (x8 + 1)))) else (none)) else (if x7 = 0 then (haberdashref01_Largest.j3 k x0 x1 x7 (x0 != 0)) else (haberdashref01_Largest.j3 k x0 x1 x7 false))
def haberdashref01_Largest.j3 : Nat → Int → List Int → Int → Bool → Option (List Int × Int)
 | 0, _, _, _, _ => none
 | k + 1, x0, x1, x7, x54 => if x54 = true then (some (([] : List Int), 7)) else (if 0 ≤ (x1.length : Int) then (if ((x1.length : Int) : Int).toNat ≤ 35184372088832 then (haberdashref01_Largest.l2 k x0 x1 x7 (List.replicate ((x1.length : Int) : Int).toNat 0) (List.replicate ((x1.length : Int) : Int).toNat 0) x0 0) else (none)) else (none))
def haberdashref01_Largest.j5 : Nat → List Int → List Int → Int → Option (List Int × Int)
 | 0, _, _, _ => none
 | k + 1, x9, x10, x11 => (haberdashref01_Order.f k x10).bind fun t347 => (haberdashref01_Largest.l3 k x9 x11 t347 0)
def haberdashref01_Largest.l3 : Nat → List Int → Int → List Int → Int → Option (List Int × Int)
 | 0, _, _, _, _ => none
 | k + 1, x9, x11, x13, x14 => if x14 < x11 then (if 0 ≤ x14 then (if x14 < (x13.length : Int) then (if 0 ≤ (rd x13 x14) then (if (rd x13 x14) < (x9.length : Int) then (haberdashref01_Largest.l3 k (x9.set ((rd x13 x14) : Int).toNat (wrap64 ((rd x9 (rd x13 x14)) + 1))) x11 x13 (wrap64 (x14 + 1))) else (none)) else (none)) else (none)) else (none)) else (some (x9, 0))
def haberdashref01_Largest.l2 : Nat → Int → List Int → Int → List Int → List Int → Int → Int → Option (List Int × Int)
 | 0, _, _, _, _, _, _, _ => none
 | k + 1, x0, x1, x7, x9, x10, x11, x12 => if x12 < (x1.length : Int) then (if x7 > 0 then (if 0 ≤ x12 then ((haberdashref01_parts.f k x0 (rd x1 x12) x7).bind fun bt341 => (if x12 < (x9.length : Int) then ((some (x9.set (x12 : Int).toNat bt341.1 : List Int)).bind fun y344 => (if x12 < (x10.length : Int) then (haberdashref01_Largest.l2 k x0 x1 x7 y344 (x10.set (x12 : Int).toNat bt341.2.1) (wrap64 (x11 - (rd y344 x12))) (wrap64 (x12 + 1))) else (none))) else (none))) else (none)) else (haberdashref01_Largest.j5 k x9 x10 x11)) else (haberdashref01_Largest.j5 k x9 x10 x11)
end
def haberdashref01_Largest.f (k : Nat) (a0 : Int) (l1 : List Int) : Option (List Int × Int) := (haberdashref01_Right.f a0).bind fun t330 => (if t330 = true then (haberdashref01_Largest.j0 k a0 l1 (decide ((l1.length : Int) > 100000))) else (haberdashref01_Largest.j0 k a0 l1 true))
set_option maxHeartbeats 8000000 in
set_option maxRecDepth 100000 in
theorem haberdashref01_Largest.calls (k : Nat) (a0 : Int) (A1 : Option Addr) (c1 : Nat) (l1 : List Int) (r1 : List Int) (r2 : Int) (w : World) (hr1 : Kd.C (Kd.int .i64) w A1 l1.length l1) (hc1 : l1.length ≤ c1) (h : haberdashref01_Largest.f k a0 l1 = some (r1, r2)) :
 Calls Try.prog 48 #[.int .i64 a0, .slice A1 l1.length c1] w fun e w' => ∃ v0_ : Value, e = .returned (.tuple #[v0_, .int .i64 r2]) ∧ Kd.R (Kd.int .i64) 2 w' w.heap.size (fun _ => True) v0_ r1 ∧ Below w.heap.size w w' := by
 have HR1 := Aside0.mk hr1
 have HC1 := Aside0.mk hc1
 clear hr1 hc1
 have HB := Aside0.mk (Below.refl w.heap.size w)
 have H : ((haberdashref01_Right.f a0).bind fun t330 => (if t330 = true then (haberdashref01_Largest.j0 k a0 l1 (decide ((l1.length : Int) > 100000))) else (haberdashref01_Largest.j0 k a0 l1 true))) = some (r1, r2) := h
 clear h
 have HC3 := Aside0.mk H
 clear H
 go_enter Try.func48, Try.ntmps48
 go_upto_region 1 with (fail)
 go_cut [22] (fun v22 wc => ∃ (kq : Nat) (x22_2 : Bool), v22 = .bool x22_2 ∧ Aside0 (haberdashref01_Largest.j0 kq a0 l1 x22_2 = some (r1, r2)) ∧ Aside0 (kq ≤ k) ∧ Aside0 (Below w.heap.size w wc))
 case first =>
  have H := HC3.out; clear HC3; replace H := Option.bind_eq_some_iff.mp H; obtain ⟨t330, A40, H⟩ := H; replace H : (if t330 = true then (haberdashref01_Largest.j0 k a0 l1 (decide ((l1.length : Int) > 100000))) else (haberdashref01_Largest.j0 k a0 l1 true)) = some (r1, r2) := H; have A4 := Aside0.mk A40
  clear A40
  by_cases c5 : t330 = true
  ·
   subst c5; rw [if_pos rfl] at H; have H' := Aside0.mk H; clear H
   go_wp2_with (first | (refine gl_ 66 16 Try.func66 #[.int .i64 a0] ?_; (with_reducible refine (haberdashref01_Right.calls a0 true _ A4.out).mono ?_); rintro e w' ⟨rfl, ⟨nd, rfl⟩⟩; refine ⟨_, rfl, ?_⟩))
   go_meet
   case rel => exact ⟨_, (decide ((l1.length : Int) > 100000)), rf_, H', ⟨om_⟩, ⟨hb0_ HB⟩⟩
  replace c5 := Bool.eq_false_iff.mpr c5; subst c5; rw [if_neg nf_] at H; have H' := Aside0.mk H; clear H
  go_wp2_with (first | (refine gl_ 66 16 Try.func66 #[.int .i64 a0] ?_; (with_reducible refine (haberdashref01_Right.calls a0 false _ A4.out).mono ?_); rintro e w' ⟨rfl, ⟨nd, rfl⟩⟩; refine ⟨_, rfl, ?_⟩))
  go_meet
  case rel => exact ⟨_, (true), rf_, H', ⟨om_⟩, ⟨hb0_ HB⟩⟩
 case rest =>
  clear HC3; (try clear c1); (try clear p2); (try clear c4); (try clear c5); obtain ⟨kq, x22_2, rfl, HA, HJ2, HB⟩ := hcut
  cases kq with
  | zero => exact absurd HA.out (by simp [haberdashref01_Largest.j0])
  | succ kj2 =>
   have H := HA.out; clear HA
   simp only [haberdashref01_Largest.j0] at H
   by_cases c6 : x22_2 = true
   ·
    subst c6; rw [if_pos rfl] at H
    simp only [Option.some.injEq, Prod.mk.injEq] at H
    obtain ⟨rfl, rfl⟩ := H
    go_wp2
    go_ret2
    exact ⟨_, er_, ni_, hb0_ HB⟩
   replace c6 := Bool.eq_false_iff.mpr c6; subst c6; rw [if_neg nf_] at H; have H' := Aside0.mk H; clear H
   go_wp2
   (try simp only [addr0])
   go_loopg [6] kj2 (fun kq v6 w' => ∃ (x6_2 : Int), v6 = .int .i64 x6_2 ∧ Aside0 (haberdashref01_Largest.l0 kq a0 l1 x6_2 = some (r1, r2)) ∧ Aside0 (kq ≤ kj2) ∧ Aside0 (Below w.heap.size w w'))
   case atStart => exact ⟨(0), rf_, H', ⟨Nat.le_refl _⟩, ⟨hb0_ HB⟩⟩
   case round =>
    clear H'; (try clear c1); (try clear p2); (try clear c4); (try clear c5); (try clear c6); (try clear p2); obtain ⟨x6_2, rfl, HA, HK2, HB⟩ := hrel
    cases gk with
    | zero => exact absurd HA.out (by simp [haberdashref01_Largest.l0])
    | succ k2 =>
     have H := HA.out; clear HA
     simp only [haberdashref01_Largest.l0] at H
     by_cases c7 : x6_2 < (l1.length : Int)
     ·
      rw [if_pos c7] at H; have c7b0 := decide_eq_true c7; clear c7; replace H := ip_ H; obtain ⟨c8, H⟩ := H; have c8b0 := decide_eq_true c8; clear c8; replace H := Option.bind_eq_some_iff.mp H; obtain ⟨t332, A90, H⟩ := H; replace H : (if t332 = true then (haberdashref01_Largest.l0 k2 a0 l1 (wrap64 (x6_2 + 1))) else (some (([] : List Int), 2))) = some (r1, r2) := H
      have A9 := Aside0.mk A90; clear A90
      by_cases c10 : t332 = true
      rotate_left
      ·
       replace c10 := Bool.eq_false_iff.mpr c10; subst c10; rw [if_neg nf_] at H
       simp only [Option.some.injEq, Prod.mk.injEq] at H
       obtain ⟨rfl, rfl⟩ := H; have p331 : 0 ≤ (x6_2 : Int) := of_decide_eq_true as_; have q331 : x6_2 < (l1.length : Int) := of_decide_eq_true as_; obtain ⟨ad331, e331, hx331_0⟩ := Kd.at_int HR1.out x6_2 p331 q331; cases e331; replace hx331_0 := hd_ HB hx331_0; replace p331 := eq_true p331; replace q331 := eq_true q331
       go_wp2_with (first | (refine gl_ 66 33 Try.func66 #[.int .i64 (rd l1 x6_2)] ?_; (with_reducible refine (haberdashref01_Right.calls (rd l1 x6_2) false _ A9.out).mono ?_); rintro e w' ⟨rfl, ⟨nd, rfl⟩⟩; refine ⟨_, rfl, ?_⟩))
       go_ret2
       exact ⟨_, er_, ni_, hb0_ HB⟩
      subst c10; rw [if_pos rfl] at H; have H' := Aside0.mk H; clear H; have p331 : 0 ≤ (x6_2 : Int) := of_decide_eq_true as_; have q331 : x6_2 < (l1.length : Int) := of_decide_eq_true as_; obtain ⟨ad331, e331, hx331_0⟩ := Kd.at_int HR1.out x6_2 p331 q331; cases e331; replace hx331_0 := hd_ HB hx331_0
      replace p331 := eq_true p331; replace q331 := eq_true q331
      go_wp2_with (first | (refine gl_ 66 33 Try.func66 #[.int .i64 (rd l1 x6_2)] ?_; (with_reducible refine (haberdashref01_Right.calls (rd l1 x6_2) true _ A9.out).mono ?_); rintro e w' ⟨rfl, ⟨nd, rfl⟩⟩; refine ⟨_, rfl, ?_⟩))
      go_roundg k2
      case measure => have := HJ2.out; have := HK2.out; omega
      case rel => exact ⟨(wrap64 (x6_2 + 1)), rf_, H', ⟨ho2_ HJ2 HK2⟩, ⟨hb0_ HB⟩⟩
     rw [if_neg c7] at H; have c7b0 := decide_eq_false c7; clear c7; have H' := Aside0.mk H; clear H
     go_wp2
     (try simp only [addr0])
     go_loopg [7, 8] k2 (fun kq v7 v8 w' => ∃ (x7_3 : Int) (x8_3 : Int), v7 = .int .i64 x7_3 ∧ v8 = .int .i64 x8_3 ∧ Aside0 (haberdashref01_Largest.l1 kq a0 l1 x7_3 x8_3 = some (r1, r2)) ∧ Aside0 (kq ≤ k2) ∧ Aside0 (Below w.heap.size w w'))
     case atStart => exact ⟨(0), (0), rf_, rf_, H', ⟨Nat.le_refl _⟩, ⟨hb0_ HB⟩⟩
     case round =>
      clear H'; (try clear c1); (try clear p2); (try clear p3); (try clear q3); (try clear hx3); (try clear c4); (try clear c5); (try clear c6); (try clear p6); (try clear c7); (try clear c7b0); (try clear c8); (try clear c8b0); (try clear c10); (try clear hx331_0); (try clear p2); (try clear p331); (try clear q331)
      obtain ⟨x7_3, x8_3, rfl, rfl, HA, HK3, HB⟩ := hrel
      cases gk with
      | zero => exact absurd HA.out (by simp [haberdashref01_Largest.l1])
      | succ k3 =>
       have H := HA.out; clear HA
       simp only [haberdashref01_Largest.l1] at H
       by_cases c11 : x8_3 < (l1.length : Int)
       ·
        rw [if_pos c11] at H; have c11b0 := decide_eq_true c11; clear c11; replace H := ip_ H; obtain ⟨c12, H⟩ := H; have c12b0 := decide_eq_true c12; clear c12
        by_cases c13 : (wrap64 (x7_3 + (rd l1 x8_3))) > 100000000000000
        ·
         rw [if_pos c13] at H; have c13b0 := decide_eq_true c13; clear c13
         simp only [Option.some.injEq, Prod.mk.injEq] at H
         obtain ⟨rfl, rfl⟩ := H; have p333 : 0 ≤ (x8_3 : Int) := of_decide_eq_true as_; have q333 : x8_3 < (l1.length : Int) := of_decide_eq_true as_; obtain ⟨ad333, e333, hx333_0⟩ := Kd.at_int HR1.out x8_3 p333 q333; cases e333; replace hx333_0 := hd_ HB hx333_0; replace p333 := eq_true p333; replace q333 := eq_true q333
         go_wp2
         go_ret2
         exact ⟨_, er_, ni_, hb0_ HB⟩
        rw [if_neg c13] at H; have c13b0 := decide_eq_false c13; clear c13; have H' := Aside0.mk H; clear H; have p333 : 0 ≤ (x8_3 : Int) := of_decide_eq_true as_; have q333 : x8_3 < (l1.length : Int) := of_decide_eq_true as_; obtain ⟨ad333, e333, hx333_0⟩ := Kd.at_int HR1.out x8_3 p333 q333; cases e333
        replace hx333_0 := hd_ HB hx333_0; replace p333 := eq_true p333; replace q333 := eq_true q333
        go_wp2
        go_roundg k3
        case measure => have := HJ2.out; have := HK2.out; have := HK3.out; omega
        case rel => exact ⟨(wrap64 (x7_3 + (rd l1 x8_3))), (wrap64 (x8_3 + 1)), rf_, rf_, H', ⟨ho3_ HJ2 HK2 HK3⟩, ⟨hb0_ HB⟩⟩
       rw [if_neg c11] at H; have c11b0 := decide_eq_false c11; clear c11; have HC14 := Aside0.mk H; clear H
       go_upto_region 15 with (fail)
       go_cut [54] (fun v54 wc => ∃ (kq : Nat) (x54_13 : Bool), v54 = .bool x54_13 ∧ Aside0 (haberdashref01_Largest.j3 kq a0 l1 x7_3 x54_13 = some (r1, r2)) ∧ Aside0 (kq ≤ k3) ∧ Aside0 (Below w.heap.size w wc))
       case first =>
        have H := HC14.out; clear HC14
        by_cases c15 : x7_3 = 0
        rotate_left
        ·
         rw [if_neg c15] at H; have c15b0 : (x7_3 == 0) = false := beq_eq_false_iff_ne.mpr c15; have c15b1 : (x7_3 != 0) = true := bne_iff_ne.mpr c15
         (first | rw [c15b0] | (simp only [i64_w, i32_w]; rw [c15b0]) | skip)
         have H' := Aside0.mk H; clear H
         go_wp2
         go_meet
         case rel => exact ⟨_, (false), rf_, H', ⟨by have := HJ2.out; have := HK2.out; have := HK3.out; first | omega | exact Nat.le_refl _⟩, ⟨hb0_ HB⟩⟩
        rw [if_pos c15] at H; have c15b0 : (x7_3 == 0) = true := beq_iff_eq.mpr c15; have c15b1 : (x7_3 != 0) = false := bne_eq_false_iff_eq.mpr c15; clear c15
        (first | rw [c15b0] | (simp only [i64_w, i32_w]; rw [c15b0]) | skip)
        have H' := Aside0.mk H; clear H
        go_wp2
        go_meet
        case rel => exact ⟨_, ((a0 != 0)), rf_, H', ⟨by have := HJ2.out; have := HK2.out; have := HK3.out; first | omega | exact Nat.le_refl _⟩, ⟨hb0_ HB⟩⟩
       case rest =>
        clear HC14; (try clear c1); (try clear p2); (try clear p3); (try clear q3); (try clear hx3); (try clear c4); (try clear c5); (try clear c6); (try clear p6); (try clear c7); (try clear c7b0); (try clear c8); (try clear c8b0); (try clear c10); (try clear c11); (try clear c11b0); (try clear c12)
        (try clear c12b0); (try clear c13); (try clear c13b0); (try clear c15); (try clear c15b0); (try clear c15b1); (try clear hx331_0); (try clear hx333_0); (try clear p2); (try clear p3); (try clear p331); (try clear p333); (try clear p6); (try clear q3); (try clear q331); (try clear q333); obtain ⟨kq, x54_13, rfl, HA, HJ13, HB⟩ := hcut
        cases kq with
        | zero => exact absurd HA.out (by simp [haberdashref01_Largest.j3])
        | succ kj13 =>
         have H := HA.out; clear HA
         simp only [haberdashref01_Largest.j3] at H
         by_cases c16 : x54_13 = true
         ·
          subst c16; rw [if_pos rfl] at H
          simp only [Option.some.injEq, Prod.mk.injEq] at H
          obtain ⟨rfl, rfl⟩ := H
          go_wp2
          go_ret2
          exact ⟨_, er_, ni_, hb0_ HB⟩
         replace c16 := Bool.eq_false_iff.mpr c16; subst c16; rw [if_neg nf_] at H; replace H := ip_ H; obtain ⟨c17, H⟩ := H; have c17b0 := eq_true c17; have c17b1 := decide_eq_true c17; clear c17; replace H := ip_ H; obtain ⟨c18, H⟩ := H; have c18b0 := eq_true c18; have c18b1 := decide_eq_true c18; clear c18
         obtain ⟨y334, hy334⟩ : ∃ y_ : List Int, y_ = (List.replicate ((l1.length : Int) : Int).toNat 0) := ⟨_, rfl⟩; replace H : (haberdashref01_Largest.l2 kj13 a0 l1 x7_3 y334 (List.replicate ((l1.length : Int) : Int).toNat 0) a0 0) = some (r1, r2) := hy_ hy334 H; have Ny334 := Aside0.mk hy334; clear hy334
         obtain ⟨y337, hy337⟩ : ∃ y_ : List Int, y_ = (List.replicate ((l1.length : Int) : Int).toNat 0) := ⟨_, rfl⟩; replace H : (haberdashref01_Largest.l2 kj13 a0 l1 x7_3 y334 y337 a0 0) = some (r1, r2) := hy_ hy337 H; have Ny337 := Aside0.mk hy337; clear hy337; have HC19 := Aside0.mk H; clear H
         go_upto_block 4 with (first | ((with_reducible refine gate_dst (N := 57) rfl ?_); (try (refine gate_guard (by rfl) ?_; dsimp only)); refine Kd.R_make (Kd.int .i64) _ 2 rfl (N := 57) rfl 26 _ _ rfl (l1.length : Int) rfl rfl Try.underlying26 (.int .i64 0) 8 info2 rfl (by decide) (by omega) 0 (ok := fun _ => True) (okp := fun _ => True) rfl (fun _ hk => hk) trivial (of_decide_eq_true as_) (Nat.le_trans (Nat.mul_le_mul_right _ (of_decide_eq_true as_ : (l1.length : Int).toNat ≤ 35184372088832)) (by omega)) (Below.refl _ _) (Nat.le_refl _) ?_; intro v335 w20 ho21 hb hg_ hnew_; clear hg_ hnew_; (first | rw [← Ny334.out] at ho21 | (simp only [Int.reduceToNat] at ho21; rw [← Ny334.out] at ho21)); have HO336 := Aside0.mk (Kd.R_lower ho21 (below_size (hb0_ HB))); replace HB := Aside0.mk (below_step (hb0_ HB) hb); clear hb ho21) | ((with_reducible refine gate_dst (N := 60) rfl ?_); (try (refine gate_guard (by rfl) ?_; dsimp only)); refine Kd.R_make (Kd.int .i64) _ 2 rfl (N := 60) rfl 26 _ _ rfl (l1.length : Int) rfl rfl Try.underlying26 (.int .i64 0) 8 info2 rfl (by decide) (by omega) 0 (ok := fun _ => True) (okp := fun _ => True) rfl (fun _ hk => hk) trivial (of_decide_eq_true as_) (Nat.le_trans (Nat.mul_le_mul_right _ (of_decide_eq_true as_ : (l1.length : Int).toNat ≤ 35184372088832)) (by omega)) (Below.refl _ _) (Nat.le_refl _) ?_; intro v338 w22 ho23 hb hg_ hnew_; clear hg_ hnew_; (first | rw [← Ny337.out] at ho23 | (simp only [Int.reduceToNat] at ho23; rw [← Ny337.out] at ho23)); have HO339 := Aside0.mk (Kd.R_lower (Kd.R_new' ho23 (Kd.R_lt (ro_ HO336))) (below_size (hb0_ HB))); replace HO336 := Aside0.mk (Kd.R_elder' (ro_ HO336) (Kd.R_base ho23) hb); replace HB := Aside0.mk (below_step (hb0_ HB) hb); clear hb ho23))
         (try simp only [Act.put, List.setIfInBounds_toArray, List.set_cons_zero, List.set_cons_succ])
         go_cut [11] (fun v11 wc => ∃ (kq : Nat) (x9_18 : List Int) (x10_18 : List Int) (x11_18 : Int), v11 = .int .i64 x11_18 ∧ Aside0 (haberdashref01_Largest.j5 kq x9_18 x10_18 x11_18 = some (r1, r2)) ∧ Aside0 (kq ≤ kj13) ∧ Aside0 (Kd.R (Kd.int .i64) 2 wc w.heap.size (fun k_ => some k_ ≠ (v338 : Value).ownBlock) v335 x9_18) ∧ Aside0 (Kd.R (Kd.int .i64) 2 wc w.heap.size (fun k_ => some k_ ≠ (v335 : Value).ownBlock) v338 x10_18) ∧ Aside0 (Below w.heap.size w wc))
         case first =>
          have H := HC19.out; clear HC19; have H' := Aside0.mk H; clear H
          go_wp2
          (try simp only [addr0])
          go_loopg [11, 12] kj13 (fun kq v11 v12 w' => ∃ (x9_5 : List Int) (x10_5 : List Int) (x11_5 : Int) (x12_5 : Int), v11 = .int .i64 x11_5 ∧ v12 = .int .i64 x12_5 ∧ Aside0 (haberdashref01_Largest.l2 kq a0 l1 x7_3 x9_5 x10_5 x11_5 x12_5 = some (r1, r2)) ∧ Aside0 (kq ≤ kj13) ∧ Aside0 (Kd.R (Kd.int .i64) 2 w' w.heap.size (fun k_ => some k_ ≠ (v338 : Value).ownBlock) v335 x9_5) ∧ Aside0 (Kd.R (Kd.int .i64) 2 w' w.heap.size (fun k_ => some k_ ≠ (v335 : Value).ownBlock) v338 x10_5) ∧ Aside0 (Below w.heap.size w w'))
          case atStart => exact ⟨(y334), (y337), (a0), (0), rf_, rf_, H', ⟨Nat.le_refl _⟩, ⟨rm_ HO336 (fun _ hk => hk.2)⟩, ⟨rm_ HO339 (fun _ hk => hk.2)⟩, ⟨hb0_ HB⟩⟩
          case round =>
           clear H'; (try clear c1); (try clear p2); (try clear p3); (try clear q3); (try clear hx3); (try clear c4); (try clear c5); (try clear c6); (try clear p6); (try clear c7); (try clear c7b0); (try clear c8); (try clear c8b0); (try clear c10); (try clear c11); (try clear c11b0); (try clear c12)
           (try clear c12b0); (try clear c13); (try clear c13b0); (try clear c15); (try clear c15b0); (try clear c15b1); (try clear c16); (try clear c17); (try clear c17b0); (try clear c17b1); (try clear c18); (try clear c18b0); (try clear c18b1); (try clear hx331_0); (try clear hx333_0); (try clear p2)
           (try clear p3); (try clear p331); (try clear p333); (try clear p6); (try clear q3); (try clear q331); (try clear q333); obtain ⟨x9_5, x10_5, x11_5, x12_5, rfl, rfl, HA, HK5, HO_9, HO_10, HB⟩ := hrel
           cases gk with
           | zero => exact absurd HA.out (by simp [haberdashref01_Largest.l2])
           | succ k5 =>
            have H := HA.out; clear HA
            simp only [haberdashref01_Largest.l2] at H
            by_cases c24 : x12_5 < (l1.length : Int)
            rotate_left
            ·
             rw [if_neg c24] at H; have c24b0 := decide_eq_false c24; clear c24
             (first | rw [c24b0] | (simp only [i64_w, i32_w]; rw [c24b0]) | skip)
             have H' := Aside0.mk H; clear H
             go_wp2
             go_meet
             case rel => exact ⟨_, (x9_5), (x10_5), (x11_5), rf_, H', ⟨by have := HJ2.out; have := HK2.out; have := HK3.out; have := HJ13.out; have := HK5.out; first | omega | exact Nat.le_refl _⟩, ⟨ro_ HO_9⟩, ⟨ro_ HO_10⟩, ⟨hb0_ HB⟩⟩
            rw [if_pos c24] at H; have c24b0 := decide_eq_true c24; clear c24
            (first | rw [c24b0] | (simp only [i64_w, i32_w]; rw [c24b0]) | skip)
            by_cases c25 : x7_3 > 0
            rotate_left
            ·
             rw [if_neg c25] at H; have c25b0 := decide_eq_false c25; clear c25; have H' := Aside0.mk H; clear H
             go_wp2
             go_meet
             case rel => exact ⟨_, (x9_5), (x10_5), (x11_5), rf_, H', ⟨by have := HJ2.out; have := HK2.out; have := HK3.out; have := HJ13.out; have := HK5.out; first | omega | exact Nat.le_refl _⟩, ⟨ro_ HO_9⟩, ⟨ro_ HO_10⟩, ⟨hb0_ HB⟩⟩
            rw [if_pos c25] at H; have c25b0 := decide_eq_true c25; clear c25; replace H := ip_ H; obtain ⟨c26, H⟩ := H; have c26b0 := decide_eq_true c26; clear c26; replace H := Option.bind_eq_some_iff.mp H; obtain ⟨⟨t341, t342, t343⟩, A270, H⟩ := H
            replace H : (if x12_5 < (x9_5.length : Int) then ((some (x9_5.set (x12_5 : Int).toNat t341 : List Int)).bind fun y344 => (if x12_5 < (x10_5.length : Int) then (haberdashref01_Largest.l2 k5 a0 l1 x7_3 y344 (x10_5.set (x12_5 : Int).toNat t342) (wrap64 (x11_5 - (rd y344 x12_5))) (wrap64 (x12_5 + 1))) else (none))) else (none)) = some (r1, r2) := H
            have A27 := Aside0.mk A270; clear A270; replace H := ip_ H; obtain ⟨c28, H⟩ := H; have c28b0 := decide_eq_true c28; clear c28; obtain ⟨y344, hy344⟩ : ∃ y_ : List Int, y_ = (x9_5.set (x12_5 : Int).toNat t341) := ⟨_, rfl⟩; replace H : (if x12_5 < (x10_5.length : Int) then (haberdashref01_Largest.l2 k5 a0 l1 x7_3 y344 (x10_5.set (x12_5 : Int).toNat t342) (wrap64 (x11_5 - (rd y344 x12_5))) (wrap64 (x12_5 + 1))) else (none)) = some (r1, r2) := hy_ hy344 H
            have Ny344 := Aside0.mk hy344; clear hy344; replace H := ip_ H; obtain ⟨c30, H⟩ := H; have c30b0 := decide_eq_true c30; clear c30; obtain ⟨y345, hy345⟩ : ∃ y_ : List Int, y_ = (x10_5.set (x12_5 : Int).toNat t342) := ⟨_, rfl⟩; replace H : (haberdashref01_Largest.l2 k5 a0 l1 x7_3 y344 y345 (wrap64 (x11_5 - (rd y344 x12_5))) (wrap64 (x12_5 + 1))) = some (r1, r2) := hy_ hy345 H
            have Ny345 := Aside0.mk hy345; clear hy345; have H' := Aside0.mk H; clear H; have p340 : 0 ≤ (x12_5 : Int) := of_decide_eq_true as_; have q340 : x12_5 < (l1.length : Int) := of_decide_eq_true as_; obtain ⟨ad340, e340, hx340_0⟩ := Kd.at_int HR1.out x12_5 p340 q340; cases e340; replace hx340_0 := hd_ HB hx340_0
            replace p340 := eq_true p340; replace q340 := eq_true q340
            go_wp2_with (first | (refine gl_ 67 83 Try.func67 #[.int .i64 a0, .int .i64 (rd l1 x12_5), .int .i64 x7_3] ?_; (with_reducible refine (haberdashref01_parts.calls k5 a0 (rd l1 x12_5) x7_3 t341 t342 t343 _ A27.out).mono ?_); rintro e w' ⟨rfl, ⟨nd, rfl⟩⟩; refine ⟨_, rfl, ?_⟩; (try (rw [drewN_self wr]; generalize hq_ : World.drewN wr _ = wr; have n0_ : Aside0 (Kd.R (Kd.int .i64) 2 wr w.heap.size (fun k_ => some k_ ≠ (v335 : Value).ownBlock) v338 x10_5) := ⟨by rw [← hq_]; exact (ro_ HO_10)⟩; have n1_ : Aside0 (Kd.R (Kd.int .i64) 2 wr w.heap.size (fun k_ => some k_ ≠ (v338 : Value).ownBlock) v335 x9_5) := ⟨by rw [← hq_]; exact (ro_ HO_9)⟩; have n2_ : Aside0 (Below w.heap.size w wr) := ⟨by rw [← hq_]; exact (hb0_ HB)⟩; clear HO_10 HO_9 HB hq_; have HO_10 := n0_; have HO_9 := n1_; have HB := n2_; clear n0_ n1_ n2_)); have p29 : 0 ≤ (x12_5 : Int) := of_decide_eq_true as_; have q29 : (x12_5 : Int) < ((x9_5.length : Int) : Int) := of_decide_eq_true as_; obtain ⟨go29, co29, eo29, gb29, gl29, cl29, HG29⟩ := Kd.R_form HO_9.out (by omega); (first | cases eo29 | (injection eo29 with ea_ en_ ec_; (first | subst ea_ | (injection ea_ with ea_; subst ea_)); subst ec_; clear en_)); have GB29 := Aside0.mk gb29; have GG29 := Aside0.mk HG29; clear gb29 gl29 HG29; obtain ⟨hx29_0, hf29_0⟩ := Kd.R_celln 0 HO_9.out (x12_5 : Int) p29 q29; replace p29 := eq_true p29; replace q29 := eq_true q29; obtain ⟨hy32_, hz32_⟩ := Kd.R_celln 0 HO_9.out (x12_5 : Int) (of_decide_eq_true as_) (of_decide_eq_true as_); have HP32 := Kd.R_putg HO_9.out (x12_5 : Int) t341) | ((with_reducible refine gate_store (t := 2) (p := 87) rfl ?_); refine store_event (t := 2) (p := 87) (v := ?vo_w33) (w1 := (wr.setCell ⟨go29, (x12_5 : Int).toNat, none⟩ (.int .i64 t341))) ?hg ?ho ?hn ?hr ?_; (case ho => rfl); (case hg => rfl); (case hn => rfl); (case hr => first | (go_simp; done) | (go_simp; rfl)); intro w33 hw; have hg : wr.grownBy w33 (some go29) := (by rw [hw]; exact HP32.2); have hp_ : Kd.R (Kd.int .i64) 2 w33 w.heap.size (fun k_ => some k_ ≠ (v338 : Value).ownBlock) (.slice (some ⟨go29, 0, none⟩) x9_5.length co29) y344 := (by rw [hw, Ny344.out]; exact HP32.1); clear HP32; replace HO_9 := Aside0.mk hp_; replace HO_10 := Aside0.mk (Kd.R_after (v := (.slice (some ⟨go29, 0, none⟩) x9_5.length co29)) (v1 := (.slice (some ⟨go29, 0, none⟩) x9_5.length co29)) (ok := (fun _ => True)) (rm_ HO_10 (fun _ hk => ⟨trivial, hk⟩)) hg (.inl rfl)); replace HB := Aside0.mk ((by rw [hw]; exact below_set (HB.out) GB29.out : Below w.heap.size w w33)); clear hg hw hp_; have p31 : 0 ≤ (x12_5 : Int) := of_decide_eq_true as_; have q31 : (x12_5 : Int) < ((x10_5.length : Int) : Int) := of_decide_eq_true as_; obtain ⟨go31, co31, eo31, gb31, gl31, cl31, HG31⟩ := Kd.R_form HO_10.out (by omega); (first | cases eo31 | (injection eo31 with ea_ en_ ec_; (first | subst ea_ | (injection ea_ with ea_; subst ea_)); subst ec_; clear en_)); have GB31 := Aside0.mk gb31; have GG31 := Aside0.mk HG31; clear gb31 gl31 HG31; obtain ⟨hx31_0, hf31_0⟩ := Kd.R_celln 0 HO_10.out (x12_5 : Int) p31 q31; replace p31 := eq_true p31; replace q31 := eq_true q31; have n_ := Aside0.mk (Kd.R_mono (ok' := (fun k_ => some k_ ≠ (.slice (some ⟨go29, 0, none⟩) x9_5.length co29 : Value).ownBlock)) HO_10.out (fun k_ hk => hk.2)); clear HO_10; have HO_10 := n_; clear n_; obtain ⟨hy34_, hz34_⟩ := Kd.R_celln 0 HO_10.out (x12_5 : Int) (of_decide_eq_true as_) (of_decide_eq_true as_); have HP34 := Kd.R_putg HO_10.out (x12_5 : Int) t342) | ((with_reducible refine gate_store (t := 2) (p := 88) rfl ?_); refine store_event (t := 2) (p := 88) (v := ?vo_w35) (w1 := (w33.setCell ⟨go31, (x12_5 : Int).toNat, none⟩ (.int .i64 t342))) ?hg ?ho ?hn ?hr ?_; (case ho => rfl); (case hg => rfl); (case hn => rfl); (case hr => first | (go_simp; done) | (go_simp; rfl)); intro w35 hw; have hg : w33.grownBy w35 (some go31) := (by rw [hw]; exact HP34.2); have hp_ : Kd.R (Kd.int .i64) 2 w35 w.heap.size (fun k_ => some k_ ≠ (.slice (some ⟨go29, 0, none⟩) x9_5.length co29 : Value).ownBlock) (.slice (some ⟨go31, 0, none⟩) x10_5.length co31) y345 := (by rw [hw, Ny345.out]; exact HP34.1); clear HP34; replace HO_9 := Aside0.mk (Kd.R_after (v := (.slice (some ⟨go31, 0, none⟩) x10_5.length co31)) (v1 := (.slice (some ⟨go31, 0, none⟩) x10_5.length co31)) (ok := (fun _ => True)) (rm_ HO_9 (fun _ hk => ⟨trivial, hk⟩)) hg (.inl rfl)); replace HO_10 := Aside0.mk hp_; replace HB := Aside0.mk ((by rw [hw]; exact below_set (HB.out) GB31.out : Below w.heap.size w w35)); clear hg hw hp_; have p346 : 0 ≤ (x12_5 : Int) := of_decide_eq_true as_; have q346 : x12_5 < (y344.length : Int) := (by have h_ : (x12_5 : Int) < ((x9_5.length : Int) : Int) := of_decide_eq_true as_; first | (have e_ := (Kd.R_reads' HO_9.out).1; omega) | simpa only [Ny344.out, List.length_set] using h_); have ql346 : ((x12_5 : Int) < ((x9_5.length : Int) : Int)) = True := eq_true (of_decide_eq_true as_); obtain ⟨ad346, e346, hx346_0⟩ := Kd.at_int (Kd.R_reads' HO_9.out).2.2 x12_5 p346 q346; obtain rfl : (⟨go29, 0, none⟩ : Addr) = ad346 := (by injection e346); (first | simp only [add_plain] at hx346_0 | simp only [add_at] at hx346_0 | simp only [Addr.add, Nat.zero_add] at hx346_0 | skip); replace p346 := eq_true p346; replace q346 := eq_true q346))
            go_roundg k5
            case measure => have := HJ2.out; have := HK2.out; have := HK3.out; have := HJ13.out; have := HK5.out; omega
            case rel => exact ⟨(y344), (y345), (wrap64 (x11_5 - (rd y344 x12_5))), (wrap64 (x12_5 + 1)), rf_, rf_, H', ⟨by have := HJ2.out; have := HK2.out; have := HK3.out; have := HJ13.out; have := HK5.out; omega⟩, ⟨rm_ HO_9 (fun _ hk => hk.2)⟩, ⟨ro_ HO_10⟩, ⟨hb0_ HB⟩⟩
         case rest =>
          clear HC19; (try clear c1); (try clear c2); (try clear p2); (try clear q2); (try clear hx2); (try clear hf2); (try clear c3); (try clear p3); (try clear q3); (try clear hx3); (try clear hf3); (try clear c4); (try clear c5); (try clear c6); (try clear p6); (try clear c7); (try clear c7b0); (try clear c8)
          (try clear c8b0); (try clear c10); (try clear c11); (try clear c11b0); (try clear c12); (try clear c12b0); (try clear c13); (try clear c13b0); (try clear c15); (try clear c15b0); (try clear c15b1); (try clear c16); (try clear c17); (try clear c17b0); (try clear c17b1); (try clear c18); (try clear c18b0)
          (try clear c18b1); (try clear c24); (try clear c24b0); (try clear c25); (try clear c25b0); (try clear c26); (try clear c26b0); (try clear c28); (try clear c28b0); (try clear p29); (try clear q29); (try clear hx29); (try clear hf29); (try clear c30); (try clear c30b0); (try clear p31); (try clear q31)
          (try clear hx31); (try clear hf31); (try clear p33); (try clear q33); (try clear hx33); (try clear p34); (try clear q34); (try clear hx34); (try clear hx29_0); (try clear hx31_0); (try clear hx331_0); (try clear hx333_0); (try clear hx340_0); (try clear hx346_0); (try clear p2); (try clear p29)
          (try clear p3); (try clear p31); (try clear p331); (try clear p333); (try clear p340); (try clear p346); (try clear p6); (try clear q29); (try clear q3); (try clear q31); (try clear q331); (try clear q333); (try clear q340); (try clear q346); obtain ⟨kq, x9_18, x10_18, x11_18, rfl, HA, HJ18, HO_9, HO_10, HB⟩ := hcut
          cases kq with
          | zero => exact absurd HA.out (by simp [haberdashref01_Largest.j5])
          | succ kj18 =>
           have H := HA.out; clear HA
           simp only [haberdashref01_Largest.j5] at H
           replace H := Option.bind_eq_some_iff.mp H; obtain ⟨t347, A360, H⟩ := H; replace H : (haberdashref01_Largest.l3 kj18 x9_18 x11_18 t347 0) = some (r1, r2) := H; have A36 := Aside0.mk A360; clear A360; have H' := Aside0.mk H; clear H; obtain ⟨Ao37, co37, eo37⟩ := Kd.R_slice HO_10.out; subst eo37
           go_wp2_with (first | (refine gl_ 68 96 Try.func68 #[.slice Ao37 x10_18.length co37] ?_; (with_reducible refine (haberdashref01_Order.calls kj18 _ _ x10_18 t347 _ ?side1 ?side2 A36.out).mono ?_); (case side1 => exact sc_ (Kd.R_reads' HO_10.out).2.2); (case side2 => exact (Kd.R_reads' HO_10.out).2.1); rintro e w38 ⟨v348, rfl, ho0, hb⟩; refine ⟨_, rfl, ?_⟩; replace HO_9 := Aside0.mk (Kd.R_below (ro_ HO_9) hb); replace HO_10 := Aside0.mk (Kd.R_below (ro_ HO_10) hb); have HO349 := Aside0.mk (Kd.R_lower ho0 (below_size (hb0_ HB))); replace HB := Aside0.mk (below_step (hb0_ HB) hb); (try clear hb); (try clear ho0)))
           (try simp only [addr0])
           go_loopg [14] kj18 (fun kq v14 w' => ∃ (x9_6 : List Int) (x14_6 : Int), v14 = .int .i64 x14_6 ∧ Aside0 (haberdashref01_Largest.l3 kq x9_6 x11_18 t347 x14_6 = some (r1, r2)) ∧ Aside0 (kq ≤ kj18) ∧ Aside0 (Kd.R (Kd.int .i64) 2 w' w.heap.size (fun _ => True) v335 x9_6) ∧ Aside0 (Kd.R (Kd.int .i64) 3 w' w.heap.size (fun _ => True) v348 t347) ∧ Aside0 (Below w.heap.size w w'))
           case atStart => exact ⟨(x9_18), (0), rf_, H', ⟨Nat.le_refl _⟩, ⟨rm_ HO_9 (fun _ hk => trivial)⟩, ⟨ro_ HO349⟩, ⟨hb0_ HB⟩⟩
           case round =>
            clear H'; (try clear c1); (try clear c2); (try clear p2); (try clear q2); (try clear hx2); (try clear hf2); (try clear c3); (try clear p3); (try clear q3); (try clear hx3); (try clear hf3); (try clear c4); (try clear c5); (try clear c6); (try clear p6); (try clear c7); (try clear c7b0); (try clear c8)
            (try clear c8b0); (try clear c10); (try clear c11); (try clear c11b0); (try clear c12); (try clear c12b0); (try clear c13); (try clear c13b0); (try clear c15); (try clear c15b0); (try clear c15b1); (try clear c16); (try clear c17); (try clear c17b0); (try clear c17b1); (try clear c18); (try clear c18b0)
            (try clear c18b1); (try clear c24); (try clear c24b0); (try clear c25); (try clear c25b0); (try clear c26); (try clear c26b0); (try clear c28); (try clear c28b0); (try clear p29); (try clear q29); (try clear hx29); (try clear hf29); (try clear c30); (try clear c30b0); (try clear p31); (try clear q31)
            (try clear hx31); (try clear hf31); (try clear p33); (try clear q33); (try clear hx33); (try clear p34); (try clear q34); (try clear hx34); (try clear hx29_0); (try clear hx31_0); (try clear hx331_0); (try clear hx333_0); (try clear hx340_0); (try clear hx346_0); (try clear p2); (try clear p29)
            (try clear p3); (try clear p31); (try clear p33); (try clear p331); (try clear p333); (try clear p34); (try clear p340); (try clear p346); (try clear p6); (try clear q2); (try clear q29); (try clear q3); (try clear q31); (try clear q33); (try clear q331); (try clear q333); (try clear q34)
            (try clear q340); (try clear q346); obtain ⟨x9_6, x14_6, rfl, HA, HK6, HO_9, HO_13, HB⟩ := hrel
            cases gk with
            | zero => exact absurd HA.out (by simp [haberdashref01_Largest.l3])
            | succ k6 =>
             have H := HA.out; clear HA
             simp only [haberdashref01_Largest.l3] at H
             by_cases c39 : x14_6 < x11_18
             rotate_left
             ·
              rw [if_neg c39] at H; have c39b0 := decide_eq_false c39; clear c39
              simp only [Option.some.injEq, Prod.mk.injEq] at H
              obtain ⟨rfl, rfl⟩ := H
              go_wp2
              go_ret2
              exact ⟨_, er_, ro_ HO_9, hb0_ HB⟩
             rw [if_pos c39] at H; have c39b0 := decide_eq_true c39; clear c39; replace H := ip_ H; obtain ⟨c40, H⟩ := H; have c40b0 := decide_eq_true c40; clear c40; replace H := ip_ H; obtain ⟨c41, H⟩ := H; have c41b0 := decide_eq_true c41; clear c41; replace H := ip_ H; obtain ⟨c42, H⟩ := H; have c42b0 := decide_eq_true c42
             clear c42; replace H := ip_ H; obtain ⟨c43, H⟩ := H; have c43b0 := decide_eq_true c43; clear c43; obtain ⟨y352, hy352⟩ : ∃ y_ : List Int, y_ = (x9_6.set ((rd t347 x14_6) : Int).toNat (wrap64 ((rd x9_6 (rd t347 x14_6)) + 1))) := ⟨_, rfl⟩; replace H : (haberdashref01_Largest.l3 k6 y352 x11_18 t347 (wrap64 (x14_6 + 1))) = some (r1, r2) := hy_ hy352 H
             have Ny352 := Aside0.mk hy352; clear hy352; have H' := Aside0.mk H; clear H; obtain ⟨Ao45, co45, eo45⟩ := Kd.R_slice HO_13.out; subst eo45; have p350 : 0 ≤ (x14_6 : Int) := of_decide_eq_true as_; have q350 : x14_6 < (t347.length : Int) := of_decide_eq_true as_; obtain ⟨ad350, e350, hx350_0⟩ := Kd.at_int (Kd.R_reads' HO_13.out).2.2 x14_6 p350 q350
             cases e350; replace p350 := eq_true p350; replace q350 := eq_true q350; obtain ⟨Ao46, co46, eo46⟩ := Kd.R_slice HO_9.out; subst eo46; have p351 : 0 ≤ ((rd t347 x14_6) : Int) := of_decide_eq_true as_; have q351 : (rd t347 x14_6) < (x9_6.length : Int) := of_decide_eq_true as_; obtain ⟨ad351, e351, hx351_0⟩ := Kd.at_int (Kd.R_reads' HO_9.out).2.2 (rd t347 x14_6) p351 q351
             cases e351; replace p351 := eq_true p351; replace q351 := eq_true q351; have p44 : 0 ≤ ((rd t347 x14_6) : Int) := of_decide_eq_true as_; have q44 : ((rd t347 x14_6) : Int) < ((x9_6.length : Int) : Int) := of_decide_eq_true as_
             obtain ⟨go44, co44, eo44, gb44, gl44, cl44, HG44⟩ := Kd.R_form HO_9.out (by omega)
             (first | cases eo44 | (injection eo44 with ea_ en_ ec_; (first | subst ea_ | (injection ea_ with ea_; subst ea_)); subst ec_; clear en_))
             have GB44 := Aside0.mk gb44; have GG44 := Aside0.mk HG44; clear gb44 gl44 HG44
             (first | simp only [add_plain] at hx351_0 | skip)
             obtain ⟨hx44_0, hf44_0⟩ := Kd.R_celln 0 HO_9.out ((rd t347 x14_6) : Int) p44 q44; replace p44 := eq_true p44; replace q44 := eq_true q44; have HP47 := Kd.R_putg HO_9.out ((rd t347 x14_6) : Int) (wrap64 ((rd x9_6 (rd t347 x14_6)) + 1))
             go_wp2_with (first | ((with_reducible refine gate_store (t := 2) (p := 110) rfl ?_); refine store_event (t := 2) (p := 110) (v := ?vo_w48) (w1 := (wr.setCell ⟨go44, ((rd t347 x14_6) : Int).toNat, none⟩ (.int .i64 (wrap64 ((rd x9_6 (rd t347 x14_6)) + 1))))) ?hg ?ho ?hn ?hr ?_; (case ho => rfl); (case hg => rfl); (case hn => rfl); (case hr => first | (go_simp; done) | (go_simp; rfl)); intro w48 hw; have hg : wr.grownBy w48 (some go44) := (by rw [hw]; exact HP47.2); have hp_ : Kd.R (Kd.int .i64) 2 w48 w.heap.size (fun _ => True) (.slice (some ⟨go44, 0, none⟩) x9_6.length co46) y352 := (by rw [hw, Ny352.out]; exact HP47.1); clear HP47; replace HO_13 := Aside0.mk (Kd.R_over' (v := (.slice (some ⟨go44, 0, none⟩) x9_6.length co46)) (ro_ HO_13) (Kd.R_typed HO_9.out) (by decide) hg); replace HO_9 := Aside0.mk hp_; replace HB := Aside0.mk ((by rw [hw]; exact below_set (HB.out) GB44.out : Below w.heap.size w w48)); clear hg hw hp_))
             go_roundg k6
             case measure => have := HJ2.out; have := HK2.out; have := HK3.out; have := HJ13.out; have := HJ18.out; have := HK6.out; omega
             case rel => exact ⟨(y352), (wrap64 (x14_6 + 1)), rf_, H', ⟨by have := HJ2.out; have := HK2.out; have := HK3.out; have := HJ13.out; have := HJ18.out; have := HK6.out; omega⟩, ⟨ro_ HO_9⟩, ⟨ro_ HO_13⟩, ⟨hb0_ HB⟩⟩

end Go.Proofs.Ytmiamdnhofjifaa.Rw
