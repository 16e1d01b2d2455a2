/- Functions of the program as Lean functions, each with its contract: out of what the kit's printer wrote for this seat. -/
import Derived.Test.YtdmeepjefccpgaaVRwA
import Derived.Test.YtdmeepjefccpgaaVRwAb
import Derived.Test.YtdmeepjefccpgaaVHFun
import Derived.Test.YtdmeepjefccpgaaVRwGoods
namespace Go.Proofs.Ytdmeepjefccpgaa.Rw
open Go.RowKit Go.Proofs.YtdmeepjefccpgaaW.PrintWords Go.Proofs.YtdmeepjefccpgaaW.PrintLast Go.Proofs.YtdmeepjefccpgaaW.PrintMore
attribute [local go_sem] max2_int min2_int max_two min_two max_three min_three max_four min_four   -- for this text's walks alone
set_option linter.unusedVariables false
set_option linter.unusedSimpArgs false
attribute [local go_sem high] leqS gtrS

/-! ### promo_Codes_1: function 89 -/
def promo_Codes_1.f (k : Nat) (a0 : ByteArray) : Option (Bool) := (goods_Name.f k a0).bind fun t660 => (some (!t660))
set_option maxHeartbeats 8000000 in
set_option maxRecDepth 100000 in
theorem promo_Codes_1.calls (k : Nat) (a0 : ByteArray) (r : Bool) (w : World) (h : promo_Codes_1.f k a0 = some r) :
 Calls Try.prog 89 #[.string a0] w fun e w' => e = .returned (.bool r) ∧ Drawn0 w w' := by
 have H : ((goods_Name.f k a0).bind fun t660 => (some (!t660))) = some r := h
 clear h
 replace H := Option.bind_eq_some_iff.mp H
 obtain ⟨t660, A20, H⟩ := H
 (try dsimp only at H)
 have A2 := Aside0.mk A20
 clear A20
 obtain rfl := Option.some.inj H
 go_enter Try.func89, Try.ntmps89
 go_wp2_with (first | (refine gl_ 90 4 Try.func90 #[.string a0] ?_; (with_reducible refine (goods_Name.calls k a0 t660 _ A2.out).mono ?_); rintro e w' ⟨rfl, ⟨nd, rfl⟩⟩; refine ⟨_, rfl, ?_⟩))
 go_ret
 exact ⟨rf_, dr_⟩

/-! ### slices_IndexFunc_string_string: function 126 -/
def slices_IndexFunc_string_string.l0 : Nat → List ByteArray → Int → Int → Option (Int)
 | 0, _, _, _ => none
 | k + 1, x0, x7, x8 => if x8 < x7 then (if 0 ≤ x8 then (if x8 < (x0.length : Int) then ((promo_Codes_1.f k (rdOf ByteArray.empty x0 x8)).bind fun t662 => (if t662 = true then (some x8) else (slices_IndexFunc_string_string.l0 k x0 x7 (wrap64 (x8 + 1))))) else (none)) else (none)) else (some (-1))
def slices_IndexFunc_string_string.f (k : Nat) (l0 : List ByteArray) (a1 : Int) : Option (Int) := slices_IndexFunc_string_string.l0 k l0 (l0.length : Int) 0
set_option maxHeartbeats 8000000 in
set_option maxRecDepth 100000 in
theorem slices_IndexFunc_string_string.calls (k : Nat) (A0 : Option Addr) (c0 : Nat) (l0 : List ByteArray) (a1 : Int) (r : Int) (w : World) (hr0 : Kd.C Kd.string w A0 l0.length l0) (hc0 : l0.length ≤ c0) (h : slices_IndexFunc_string_string.f k l0 a1 = some r) :
 Calls Try.prog 126 #[.slice A0 l0.length c0, .func (.func 89) #[] #[]] w fun e w' => e = .returned (.int .i64 r) ∧ Drawn0 w w' := by
 have HR0 := Aside0.mk hr0
 have HC0 := Aside0.mk hc0
 clear hr0 hc0
 have H : (slices_IndexFunc_string_string.l0 k l0 (l0.length : Int) 0) = some r := h
 clear h
 have H' := Aside0.mk H
 clear H
 go_enter Try.func126, Try.ntmps126
 go_wp2
 go_loopg [8] k (fun kq v8 w' => ∃ (x8_1 : Int), v8 = .int .i64 x8_1 ∧ Aside0 (slices_IndexFunc_string_string.l0 kq l0 (l0.length : Int) x8_1 = some r) ∧ Aside0 (kq ≤ k) ∧ Drawn0 w w')
 case atStart => exact ⟨(0), rf_, H', ⟨Nat.le_refl _⟩, dr_⟩
 case round =>
  clear H'; (try clear c1); (try clear p2); obtain ⟨x8_1, rfl, HA, HK1, ⟨m1, rfl⟩⟩ := hrel
  cases gk with
  | zero => exact absurd HA.out (by simp [slices_IndexFunc_string_string.l0])
  | succ k1 =>
   have H := HA.out; clear HA
   simp only [slices_IndexFunc_string_string.l0] at H
   by_cases c3 : x8_1 < (l0.length : Int)
   rotate_left
   ·
    rw [if_neg c3] at H; have c3b0 := decide_eq_false c3; clear c3; obtain rfl := Option.some.inj H
    go_wp2
    go_ret
    exact ⟨rf_, dr_⟩
   rw [if_pos c3] at H; have c3b0 := decide_eq_true c3; clear c3; replace H := ip_ H; obtain ⟨c4, H⟩ := H; have c4b0 := decide_eq_true c4; clear c4; replace H := ip_ H; obtain ⟨c5, H⟩ := H; have c5b0 := decide_eq_true c5; clear c5; replace H := Option.bind_eq_some_iff.mp H; obtain ⟨t662, A60, H⟩ := H
   (try dsimp only at H)
   have A6 := Aside0.mk A60; clear A60
   by_cases c7 : t662 = true
   ·
    subst c7; rw [if_pos rfl] at H; obtain rfl := Option.some.inj H; have p661 : 0 ≤ (x8_1 : Int) := of_decide_eq_true as_; have q661 : x8_1 < (l0.length : Int) := of_decide_eq_true as_; obtain ⟨ad661, e661, hx661_0⟩ := Kd.at_string HR0.out x8_1 p661 q661; cases e661; replace p661 := eq_true p661; replace q661 := eq_true q661
    go_wp2_with (first | ((with_reducible refine HF.gate_calleev (t := 11) rfl ?_); refine HF.goesLv_ (some 16) rfl rfl 11 Try.func89 (by kernel_rfl) rfl #[.string (rdOf ByteArray.empty l0 x8_1)] rfl rfl am_ ?_; (with_reducible refine (promo_Codes_1.calls k1 (rdOf ByteArray.empty l0 x8_1) true _ A6.out).mono ?_); rintro e w' ⟨rfl, ⟨nd, rfl⟩⟩; refine ⟨_, rfl, ?_⟩))
    go_ret
    exact ⟨rf_, dr_⟩
   replace c7 := Bool.eq_false_iff.mpr c7; subst c7; rw [if_neg nf_] at H; have H' := Aside0.mk H; clear H; have p661 : 0 ≤ (x8_1 : Int) := of_decide_eq_true as_; have q661 : x8_1 < (l0.length : Int) := of_decide_eq_true as_; obtain ⟨ad661, e661, hx661_0⟩ := Kd.at_string HR0.out x8_1 p661 q661; cases e661
   replace p661 := eq_true p661; replace q661 := eq_true q661
   go_wp2_with (first | ((with_reducible refine HF.gate_calleev (t := 11) rfl ?_); refine HF.goesLv_ (some 16) rfl rfl 11 Try.func89 (by kernel_rfl) rfl #[.string (rdOf ByteArray.empty l0 x8_1)] rfl rfl am_ ?_; (with_reducible refine (promo_Codes_1.calls k1 (rdOf ByteArray.empty l0 x8_1) false _ A6.out).mono ?_); rintro e w' ⟨rfl, ⟨nd, rfl⟩⟩; refine ⟨_, rfl, ?_⟩))
   go_roundg k1
   case measure => have := HK1.out; omega
   case rel => exact ⟨(wrap64 (x8_1 + 1)), rf_, H', ⟨ho_ HK1⟩, dr_⟩

/-! ### slices_ContainsFunc_string_string: function 88 -/
def slices_ContainsFunc_string_string.f (k : Nat) (l0 : List ByteArray) (a1 : Int) : Option (Bool) := (slices_IndexFunc_string_string.f k l0 a1).bind fun t663 => (some (decide (t663 ≥ 0)))
set_option maxHeartbeats 8000000 in
set_option maxRecDepth 100000 in
theorem slices_ContainsFunc_string_string.calls (k : Nat) (A0 : Option Addr) (c0 : Nat) (l0 : List ByteArray) (a1 : Int) (r : Bool) (w : World) (hr0 : Kd.C Kd.string w A0 l0.length l0) (hc0 : l0.length ≤ c0) (h : slices_ContainsFunc_string_string.f k l0 a1 = some r) :
 Calls Try.prog 88 #[.slice A0 l0.length c0, .func (.func 89) #[] #[]] w fun e w' => e = .returned (.bool r) ∧ Drawn0 w w' := by
 have HR0 := Aside0.mk hr0
 have HC0 := Aside0.mk hc0
 clear hr0 hc0
 have H : ((slices_IndexFunc_string_string.f k l0 a1).bind fun t663 => (some (decide (t663 ≥ 0)))) = some r := h
 clear h
 replace H := Option.bind_eq_some_iff.mp H
 obtain ⟨t663, A30, H⟩ := H
 (try dsimp only at H)
 have A3 := Aside0.mk A30
 clear A30
 obtain rfl := Option.some.inj H
 go_enter Try.func88, Try.ntmps88
 go_wp2_with (first | (refine gl_ 126 7 Try.func126 #[.slice A0 l0.length c0, .func (.func 89) #[] #[]] ?_; (with_reducible refine (slices_IndexFunc_string_string.calls k _ _ l0 a1 t663 _ ?side1 ?side2 A3.out).mono ?_); (case side1 => exact sc_ HR0.out); (case side2 => exact HC0.out); rintro e w' ⟨rfl, ⟨nd, rfl⟩⟩; refine ⟨_, rfl, ?_⟩))
 go_ret
 exact ⟨rf_, dr_⟩

/-! ### promo_Codes: function 39 -/
def promo_Codes.f (k : Nat) (l0 : List ByteArray) : Option (Bool) := if (l0.length : Int) ≤ 4 then ((goods_Rise.f k l0).bind fun t664 => (if t664 = true then ((slices_ContainsFunc_string_string.f k l0 77700089).bind fun t665 => (some (!t665))) else (some false))) else (some false)
set_option maxHeartbeats 8000000 in
set_option maxRecDepth 100000 in
theorem promo_Codes.calls (k : Nat) (A0 : Option Addr) (c0 : Nat) (l0 : List ByteArray) (r : Bool) (w : World) (hr0 : Kd.C Kd.string w A0 l0.length l0) (hc0 : l0.length ≤ c0) (h : promo_Codes.f k l0 = some r) :
 Calls Try.prog 39 #[.slice A0 l0.length c0] w fun e w' => e = .returned (.bool r) ∧ Drawn0 w w' := by
 have HR0 := Aside0.mk hr0
 have HC0 := Aside0.mk hc0
 clear hr0 hc0
 have H : (if (l0.length : Int) ≤ 4 then ((goods_Rise.f k l0).bind fun t664 => (if t664 = true then ((slices_ContainsFunc_string_string.f k l0 77700089).bind fun t665 => (some (!t665))) else (some false))) else (some false)) = some r := h
 clear h
 by_cases c2 : (l0.length : Int) ≤ 4
 rotate_left
 ·
  rw [if_neg c2] at H; have c2b0 := decide_eq_false c2
  have c2b1 : decide (l0.length ≤ 4) = false := decide_eq_false (by omega)
  clear c2; obtain rfl := Option.some.inj H
  go_enter Try.func39, Try.ntmps39
  go_wp2
  go_ret
  exact ⟨rf_, dr_⟩
 rw [if_pos c2] at H
 have c2b0 := decide_eq_true c2
 have c2b1 : decide (l0.length ≤ 4) = true := decide_eq_true (by omega)
 clear c2
 replace H := Option.bind_eq_some_iff.mp H
 obtain ⟨t664, A30, H⟩ := H
 (try dsimp only at H)
 have A3 := Aside0.mk A30
 clear A30
 by_cases c4 : t664 = true
 rotate_left
 ·
  replace c4 := Bool.eq_false_iff.mpr c4; subst c4; rw [if_neg nf_] at H; obtain rfl := Option.some.inj H
  go_enter Try.func39, Try.ntmps39
  go_wp2_with (first | (go_at_call 55; (with_reducible refine (goods_Rise.calls k _ _ l0 false _ ?side1 ?side2 A3.out).mono ?_); (case side1 => exact sc_ HR0.out); (case side2 => exact HC0.out); rintro e w' ⟨rfl, ⟨nd, rfl⟩⟩))
  go_ret
  exact ⟨rf_, dr_⟩
 subst c4
 rw [if_pos rfl] at H
 replace H := Option.bind_eq_some_iff.mp H
 obtain ⟨t665, A50, H⟩ := H
 (try dsimp only at H)
 have A5 := Aside0.mk A50
 clear A50
 obtain rfl := Option.some.inj H
 go_enter Try.func39, Try.ntmps39
 go_wp2_with (first | (go_at_call 55; (with_reducible refine (goods_Rise.calls k _ _ l0 true _ ?side1 ?side2 A3.out).mono ?_); (case side1 => exact sc_ HR0.out); (case side2 => exact HC0.out); rintro e w' ⟨rfl, ⟨nd, rfl⟩⟩) | (go_at_call 88; (with_reducible refine (slices_ContainsFunc_string_string.calls k _ _ l0 77700089 t665 _ ?side1 ?side2 A5.out).mono ?_); (case side1 => exact sc_ HR0.out); (case side2 => exact HC0.out); rintro e w' ⟨rfl, ⟨nd, rfl⟩⟩))
 go_ret
 exact ⟨rf_, dr_⟩

end Go.Proofs.Ytdmeepjefccpgaa.Rw
