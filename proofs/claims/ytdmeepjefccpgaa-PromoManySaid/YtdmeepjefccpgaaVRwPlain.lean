/- Functions of the program as Lean functions, each with its contract: out of what the kit's printer wrote for this seat. -/
import Derived.Test.YtdmeepjefccpgaaVRwA
import Derived.Test.YtdmeepjefccpgaaVRwAb
import Derived.Test.YtdmeepjefccpgaaVHFun
namespace Go.Proofs.Ytdmeepjefccpgaa.Rw
open Go.RowKit Go.Proofs.YtdmeepjefccpgaaW.PrintWords Go.Proofs.YtdmeepjefccpgaaW.PrintLast Go.Proofs.YtdmeepjefccpgaaW.PrintMore
attribute [local go_sem] max2_int min2_int max_two min_two max_three min_three max_four min_four   -- for this text's walks alone
set_option linter.unusedVariables false
set_option linter.unusedSimpArgs false
attribute [local go_sem high] leqS gtrS
attribute [local go_sem high] eqA52

/-! ### api_CatRate_1: function 115 -/
/-! ### api_CatRate_114: function 114 -/
/-! ### api_CatRate_59: function 59 -/
/-! ### haberdashhelp_Plain_int_1: function 93 -/
def haberdashhelp_Plain_int_1.f (a0 : Int) (a1 : Int) : Option (Bool) := some (a0 == a1)
set_option maxHeartbeats 8000000 in
set_option maxRecDepth 100000 in
theorem haberdashhelp_Plain_int_1.calls (a0 : Int) (a1 : Int) (r : Bool) (w : World) (h : haberdashhelp_Plain_int_1.f a0 a1 = some r) :
 Calls Try.prog 93 #[.int .i64 a0, .int .i64 a1] w fun e w' => e = .returned (.bool r) ∧ Drawn0 w w' := by
 have H : (some (a0 == a1)) = some r := h
 clear h
 obtain rfl := Option.some.inj H
 go_enter Try.func93, Try.ntmps93
 go_wp2
 go_ret
 exact ⟨rf_, dr_⟩

/-! ### haberdashhelp_Same_int: function 92 -/
def haberdashhelp_Same_int.l0 : Nat → List Int → List Int → Int → Option (Bool)
 | 0, _, _, _ => none
 | k + 1, x0, x1, x7 => if x7 < (x0.length : Int) then (if 0 ≤ x7 then (if x7 < (x1.length : Int) then ((haberdashhelp_Plain_int_1.f (rd x0 x7) (rd x1 x7)).bind fun t668 => (if t668 = true then (haberdashhelp_Same_int.l0 k x0 x1 (wrap64 (x7 + 1))) else (some false))) else (none)) else (none)) else (some true)
def haberdashhelp_Same_int.f (k : Nat) (l0 : List Int) (l1 : List Int) (a2 : Int) : Option (Bool) := if (l0.length : Int) = (l1.length : Int) then (haberdashhelp_Same_int.l0 k l0 l1 0) else (some false)
set_option maxHeartbeats 8000000 in
set_option maxRecDepth 100000 in
theorem haberdashhelp_Same_int.calls (k : Nat) (A0 : Option Addr) (c0 : Nat) (l0 : List Int) (A1 : Option Addr) (c1 : Nat) (l1 : List Int) (a2 : Int) (r : Bool) (w : World) (hr0 : Kd.C (Kd.int .i64) w A0 l0.length l0) (hc0 : l0.length ≤ c0) (hr1 : Kd.C (Kd.int .i64) w A1 l1.length l1) (hc1 : l1.length ≤ c1) (h : haberdashhelp_Same_int.f k l0 l1 a2 = some r) :
 Calls Try.prog 92 #[.slice A0 l0.length c0, .slice A1 l1.length c1, .func (.func 93) #[] #[]] w fun e w' => e = .returned (.bool r) ∧ Drawn0 w w' := by
 have HR0 := Aside0.mk hr0
 have HC0 := Aside0.mk hc0
 clear hr0 hc0
 have HR1 := Aside0.mk hr1
 have HC1 := Aside0.mk hc1
 clear hr1 hc1
 have H : (if (l0.length : Int) = (l1.length : Int) then (haberdashhelp_Same_int.l0 k l0 l1 0) else (some false)) = some r := h
 clear h
 by_cases c4 : (l0.length : Int) = (l1.length : Int)
 rotate_left
 ·
  rw [if_neg c4] at H; have c4b0 : ((l0.length : Int) == (l1.length : Int)) = false := beq_eq_false_iff_ne.mpr c4; have c4b1 : ((l0.length : Int) != (l1.length : Int)) = true := bne_iff_ne.mpr c4
  have c4b2 : (l0.length == l1.length) = false := by first | simpa using c4 | (simp at c4 ⊢; omega)
  obtain rfl := Option.some.inj H
  go_enter Try.func92, Try.ntmps92
  go_wp2
  repeat (go_quiet (fail); try go_wp2)
  go_ret
  exact ⟨rf_, dr_⟩
 rw [if_pos c4] at H
 have c4b0 : ((l0.length : Int) == (l1.length : Int)) = true := beq_iff_eq.mpr c4
 have c4b1 : ((l0.length : Int) != (l1.length : Int)) = false := bne_eq_false_iff_eq.mpr c4
 have c4b2 : (l0.length == l1.length) = true := by first | simpa using c4 | (simp at c4 ⊢; omega)
 clear c4
 have H' := Aside0.mk H
 clear H
 go_enter Try.func92, Try.ntmps92
 go_wp2
 repeat (go_quiet (fail); try go_wp2)
 go_loopg [7] k (fun kq v7 w' => ∃ (x7_1 : Int), v7 = .int .i64 x7_1 ∧ Aside0 (haberdashhelp_Same_int.l0 kq l0 l1 x7_1 = some r) ∧ Aside0 (kq ≤ k) ∧ Drawn0 w w')
 case atStart => exact ⟨(0), rf_, H', ⟨Nat.le_refl _⟩, dr_⟩
 case round =>
  clear H'; (try clear c1); (try clear p2); (try clear c4); (try clear c4b0); (try clear c4b1); (try clear c4b2); obtain ⟨x7_1, rfl, HA, HK1, ⟨m1, rfl⟩⟩ := hrel
  cases gk with
  | zero => exact absurd HA.out (by simp [haberdashhelp_Same_int.l0])
  | succ k1 =>
   have H := HA.out; clear HA
   simp only [haberdashhelp_Same_int.l0] at H
   by_cases c5 : x7_1 < (l0.length : Int)
   rotate_left
   ·
    rw [if_neg c5] at H; have c5b0 := decide_eq_false c5; clear c5; obtain rfl := Option.some.inj H
    go_wp2
    repeat (go_quiet (fail); try go_wp2)
    go_ret
    exact ⟨rf_, dr_⟩
   rw [if_pos c5] at H; have c5b0 := decide_eq_true c5; clear c5; replace H := ip_ H; obtain ⟨c6, H⟩ := H; have c6b0 := decide_eq_true c6; clear c6; replace H := ip_ H; obtain ⟨c7, H⟩ := H; have c7b0 := decide_eq_true c7; clear c7; replace H := Option.bind_eq_some_iff.mp H; obtain ⟨t668, A80, H⟩ := H
   (try dsimp only at H)
   have A8 := Aside0.mk A80; clear A80
   by_cases c9 : t668 = true
   rotate_left
   ·
    replace c9 := Bool.eq_false_iff.mpr c9; subst c9; rw [if_neg nf_] at H; obtain rfl := Option.some.inj H; have p666 : 0 ≤ (x7_1 : Int) := of_decide_eq_true as_; have q666 : x7_1 < (l0.length : Int) := of_decide_eq_true as_; obtain ⟨ad666, e666, hx666_0⟩ := Kd.at_int HR0.out x7_1 p666 q666; cases e666
    replace p666 := eq_true p666; replace q666 := eq_true q666; have p667 : 0 ≤ (x7_1 : Int) := of_decide_eq_true as_; have q667 : x7_1 < (l1.length : Int) := of_decide_eq_true as_; obtain ⟨ad667, e667, hx667_0⟩ := Kd.at_int HR1.out x7_1 p667 q667; cases e667; replace p667 := eq_true p667; replace q667 := eq_true q667
    go_wp2_with (first | (go_at_call 93; (with_reducible refine (haberdashhelp_Plain_int_1.calls (rd l0 x7_1) (rd l1 x7_1) false _ A8.out).mono ?_); rintro e w' ⟨rfl, ⟨nd, rfl⟩⟩; (try exact dq_)))
    repeat (go_quiet (first | (go_at_call 93; (with_reducible refine (haberdashhelp_Plain_int_1.calls (rd l0 x7_1) (rd l1 x7_1) false _ A8.out).mono ?_); rintro e w' ⟨rfl, ⟨nd, rfl⟩⟩; (try exact dq_))); try go_wp2_with (first | (go_at_call 93; (with_reducible refine (haberdashhelp_Plain_int_1.calls (rd l0 x7_1) (rd l1 x7_1) false _ A8.out).mono ?_); rintro e w' ⟨rfl, ⟨nd, rfl⟩⟩; (try exact dq_))))
    go_ret
    exact ⟨rf_, dr_⟩
   subst c9; rw [if_pos rfl] at H; have H' := Aside0.mk H; clear H; have p666 : 0 ≤ (x7_1 : Int) := of_decide_eq_true as_; have q666 : x7_1 < (l0.length : Int) := of_decide_eq_true as_; obtain ⟨ad666, e666, hx666_0⟩ := Kd.at_int HR0.out x7_1 p666 q666; cases e666; replace p666 := eq_true p666; replace q666 := eq_true q666
   have p667 : 0 ≤ (x7_1 : Int) := of_decide_eq_true as_; have q667 : x7_1 < (l1.length : Int) := of_decide_eq_true as_; obtain ⟨ad667, e667, hx667_0⟩ := Kd.at_int HR1.out x7_1 p667 q667; cases e667; replace p667 := eq_true p667; replace q667 := eq_true q667
   go_wp2_with (first | (go_at_call 93; (with_reducible refine (haberdashhelp_Plain_int_1.calls (rd l0 x7_1) (rd l1 x7_1) true _ A8.out).mono ?_); rintro e w' ⟨rfl, ⟨nd, rfl⟩⟩; (try exact dq_)))
   repeat (go_quiet (first | (go_at_call 93; (with_reducible refine (haberdashhelp_Plain_int_1.calls (rd l0 x7_1) (rd l1 x7_1) true _ A8.out).mono ?_); rintro e w' ⟨rfl, ⟨nd, rfl⟩⟩; (try exact dq_))); try go_wp2_with (first | (go_at_call 93; (with_reducible refine (haberdashhelp_Plain_int_1.calls (rd l0 x7_1) (rd l1 x7_1) true _ A8.out).mono ?_); rintro e w' ⟨rfl, ⟨nd, rfl⟩⟩; (try exact dq_))))
   go_roundg k1
   case measure => have := HK1.out; omega
   case rel => exact ⟨(wrap64 (x7_1 + 1)), rf_, H', ⟨ho_ HK1⟩, dr_⟩

/-! ### haberdashhelp_Plain_int: function 41 -/
def haberdashhelp_Plain_int.f (k : Nat) (l0 : List Int) (l1 : List Int) : Option (Bool) := (haberdashhelp_Same_int.f k l0 l1 77700093).bind fun t669 => (some t669)
set_option maxHeartbeats 8000000 in
set_option maxRecDepth 100000 in
theorem haberdashhelp_Plain_int.calls (k : Nat) (A0 : Option Addr) (c0 : Nat) (l0 : List Int) (A1 : Option Addr) (c1 : Nat) (l1 : List Int) (r : Bool) (w : World) (hr0 : Kd.C (Kd.int .i64) w A0 l0.length l0) (hc0 : l0.length ≤ c0) (hr1 : Kd.C (Kd.int .i64) w A1 l1.length l1) (hc1 : l1.length ≤ c1) (h : haberdashhelp_Plain_int.f k l0 l1 = some r) :
 Calls Try.prog 41 #[.slice A0 l0.length c0, .slice A1 l1.length c1] w fun e w' => e = .returned (.bool r) ∧ Drawn0 w w' := by
 have HR0 := Aside0.mk hr0
 have HC0 := Aside0.mk hc0
 clear hr0 hc0
 have HR1 := Aside0.mk hr1
 have HC1 := Aside0.mk hc1
 clear hr1 hc1
 have H : ((haberdashhelp_Same_int.f k l0 l1 77700093).bind fun t669 => (some t669)) = some r := h
 clear h
 replace H := Option.bind_eq_some_iff.mp H
 obtain ⟨t669, A30, H⟩ := H
 (try dsimp only at H)
 have A3 := Aside0.mk A30
 clear A30
 obtain rfl := Option.some.inj H
 go_enter Try.func41, Try.ntmps41
 go_wp2_with (first | (refine gl_ 92 7 Try.func92 #[.slice A0 l0.length c0, .slice A1 l1.length c1, .func (.func 93) #[] #[]] ?_; (with_reducible refine (haberdashhelp_Same_int.calls k _ _ l0 _ _ l1 77700093 t669 _ ?side1 ?side2 ?side3 ?side4 A3.out).mono ?_); (case side1 => exact sc_ HR0.out); (case side2 => exact HC0.out); (case side3 => exact sc_ HR1.out); (case side4 => exact HC1.out); rintro e w' ⟨rfl, ⟨nd, rfl⟩⟩; refine ⟨_, rfl, ?_⟩))
 go_ret
 exact ⟨rf_, dr_⟩

end Go.Proofs.Ytdmeepjefccpgaa.Rw
