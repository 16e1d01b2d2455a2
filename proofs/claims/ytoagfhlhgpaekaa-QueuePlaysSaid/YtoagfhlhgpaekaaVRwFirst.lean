/- Functions of the program as Lean functions, each with its contract: out of what the kit's printer wrote for this seat. -/
import Derived.Test.YtoagfhlhgpaekaaVRwA
import Derived.Test.YtoagfhlhgpaekaaVRwAb
namespace Go.Proofs.Ytoagfhlhgpaekaa.Rw
open Go.RowKit Go.Proofs.YtoagfhlhgpaekaaW.PrintWords Go.Proofs.YtoagfhlhgpaekaaW.PrintLast Go.Proofs.YtoagfhlhgpaekaaW.PrintMore
attribute [local go_sem] max2_int min2_int max_two min_two max_three min_three max_four min_four   -- for this text's walks alone
set_option linter.unusedVariables false
set_option linter.unusedSimpArgs false
attribute [local go_sem high] leqS gtrS

/-! ### haberdashlaw02_first: function 8 -/
def haberdashlaw02_first.l0 : Nat → List (S27) → Int → Int → Option (Int)
 | 0, _, _, _ => none
 | k + 1, x0, x3, x4 => if x4 < (x0.length : Int) then (if x3 < 0 then (haberdashlaw02_first.l0 k x0 x4 (wrap64 (x4 + 1))) else (if 0 ≤ x4 then (if 0 ≤ x3 then (if x3 < (x0.length : Int) then (if ((rd_T27 x0 x4).f2) > ((rd_T27 x0 x3).f2) then (haberdashlaw02_first.l0 k x0 x4 (wrap64 (x4 + 1))) else (if ((rd_T27 x0 x4).f2) = ((rd_T27 x0 x3).f2) then (if ((rd_T27 x0 x4).f1) < ((rd_T27 x0 x3).f1) then (haberdashlaw02_first.l0 k x0 x4 (wrap64 (x4 + 1))) else (haberdashlaw02_first.l0 k x0 x3 (wrap64 (x4 + 1)))) else (haberdashlaw02_first.l0 k x0 x3 (wrap64 (x4 + 1))))) else (none)) else (none)) else (none))) else (some x3)
def haberdashlaw02_first.f (k : Nat) (l0 : List (S27)) : Option (Int) := haberdashlaw02_first.l0 k l0 (-1) 0
set_option maxHeartbeats 8000000 in
set_option maxRecDepth 100000 in
theorem haberdashlaw02_first.calls (k : Nat) (A0 : Option Addr) (c0 : Nat) (l0 : List (S27)) (r : Int) (w : World) (hr0 : Kd.C k27 w A0 l0.length l0) (hc0 : l0.length ≤ c0) (h : haberdashlaw02_first.f k l0 = some r) :
 Calls Try.prog 8 #[.slice A0 l0.length c0] w fun e w' => e = .returned (.int .i64 r) ∧ Drawn0 w w' := by
 have HR0 := Aside0.mk hr0
 have HC0 := Aside0.mk hc0
 clear hr0 hc0
 have H : (haberdashlaw02_first.l0 k l0 (-1) 0) = some r := h
 clear h
 have H' := Aside0.mk H
 clear H
 go_enter Try.func8, Try.ntmps8
 go_wp2
 repeat (go_quiet (fail); try go_wp2)
 go_loopg [3, 4] k (fun kq v3 v4 w' => ∃ (x3_1 : Int) (x4_1 : Int), v3 = .int .i64 x3_1 ∧ v4 = .int .i64 x4_1 ∧ Aside0 (haberdashlaw02_first.l0 kq l0 x3_1 x4_1 = some r) ∧ Aside0 (kq ≤ k) ∧ Drawn0 w w')
 case atStart => exact ⟨((-1)), (0), rf_, rf_, H', ⟨Nat.le_refl _⟩, by repeat (first | exact Drawn0.refl _ | apply Drawn0.step)⟩
 case round =>
  clear H'
  obtain ⟨x3_1, x4_1, rfl, rfl, HA, HK1, ⟨m1, rfl⟩⟩ := hrel
  cases gk with
  | zero => exact absurd HA.out (by simp [haberdashlaw02_first.l0])
  | succ k1 =>
   have H := HA.out
   clear HA
   simp only [haberdashlaw02_first.l0] at H
   by_cases c2 : x4_1 < (l0.length : Int)
   rotate_left
   ·
    rw [if_neg c2] at H
    have c2b0 := decide_eq_false c2
    clear c2
    obtain rfl := Option.some.inj H
    go_wp2
    repeat (go_quiet (fail); try go_wp2)
    go_ret
    exact ⟨by first | rfl | (simp; done) | (simp [*]; done), by repeat (first | exact Drawn0.refl _ | apply Drawn0.step)⟩
   rw [if_pos c2] at H
   have c2b0 := decide_eq_true c2
   clear c2
   by_cases c3 : x3_1 < 0
   ·
    rw [if_pos c3] at H
    have c3b0 := decide_eq_true c3
    clear c3
    have H' := Aside0.mk H
    clear H
    go_wp2
    repeat (go_quiet (fail); try go_wp2)
    go_roundg k1
    case measure => have := HK1.out; omega
    case rel => exact ⟨(x4_1), (wrap64 (x4_1 + 1)), rf_, rf_, H', ⟨by have := HK1.out; omega⟩, by repeat (first | exact Drawn0.refl _ | apply Drawn0.step)⟩
   rw [if_neg c3] at H
   have c3b0 := decide_eq_false c3
   clear c3
   by_cases c4 : 0 ≤ x4_1
   rotate_left
   ·
    rw [if_neg c4] at H
    exact absurd H (by simp)
   rw [if_pos c4] at H
   have c4b0 := decide_eq_true c4
   clear c4
   by_cases c5 : 0 ≤ x3_1
   rotate_left
   ·
    rw [if_neg c5] at H
    exact absurd H (by simp)
   rw [if_pos c5] at H
   have c5b0 := decide_eq_true c5
   clear c5
   by_cases c6 : x3_1 < (l0.length : Int)
   rotate_left
   ·
    rw [if_neg c6] at H
    exact absurd H (by simp)
   rw [if_pos c6] at H
   have c6b0 := decide_eq_true c6
   clear c6
   by_cases c7 : ((rd_T27 l0 x4_1).f2) > ((rd_T27 l0 x3_1).f2)
   ·
    rw [if_pos c7] at H
    have c7b0 := decide_eq_true c7
    clear c7
    have H' := Aside0.mk H
    clear H
    have p104 : 0 ≤ (x4_1 : Int) := of_decide_eq_true as_
    have q104 : x4_1 < (l0.length : Int) := of_decide_eq_true as_
    obtain ⟨ad104, e104, hx104_0, hx104_1, hx104_2⟩ := at_T27 HR0.out x4_1 p104 q104
    cases e104
    replace p104 := eq_true p104
    replace q104 := eq_true q104
    have p105 : 0 ≤ (x3_1 : Int) := of_decide_eq_true as_
    have q105 : x3_1 < (l0.length : Int) := of_decide_eq_true as_
    obtain ⟨ad105, e105, hx105_0, hx105_1, hx105_2⟩ := at_T27 HR0.out x3_1 p105 q105
    obtain rfl : ad104 = ad105 := (by injection e105)
    replace p105 := eq_true p105
    replace q105 := eq_true q105
    go_wp2
    repeat (go_quiet (fail); try go_wp2)
    go_roundg k1
    case measure => have := HK1.out; omega
    case rel => exact ⟨(x4_1), (wrap64 (x4_1 + 1)), rf_, rf_, H', ⟨by have := HK1.out; omega⟩, by repeat (first | exact Drawn0.refl _ | apply Drawn0.step)⟩
   rw [if_neg c7] at H
   have c7b0 := decide_eq_false c7
   clear c7
   by_cases c8 : ((rd_T27 l0 x4_1).f2) = ((rd_T27 l0 x3_1).f2)
   rotate_left
   ·
    rw [if_neg c8] at H
    have c8b0 : (((rd_T27 l0 x4_1).f2) == ((rd_T27 l0 x3_1).f2)) = false := beq_eq_false_iff_ne.mpr c8
    have c8b1 : (((rd_T27 l0 x4_1).f2) != ((rd_T27 l0 x3_1).f2)) = true := bne_iff_ne.mpr c8
    have H' := Aside0.mk H
    clear H
    have p104 : 0 ≤ (x4_1 : Int) := of_decide_eq_true as_
    have q104 : x4_1 < (l0.length : Int) := of_decide_eq_true as_
    obtain ⟨ad104, e104, hx104_0, hx104_1, hx104_2⟩ := at_T27 HR0.out x4_1 p104 q104
    cases e104
    replace p104 := eq_true p104
    replace q104 := eq_true q104
    have p105 : 0 ≤ (x3_1 : Int) := of_decide_eq_true as_
    have q105 : x3_1 < (l0.length : Int) := of_decide_eq_true as_
    obtain ⟨ad105, e105, hx105_0, hx105_1, hx105_2⟩ := at_T27 HR0.out x3_1 p105 q105
    obtain rfl : ad104 = ad105 := (by injection e105)
    replace p105 := eq_true p105
    replace q105 := eq_true q105
    have p106 : 0 ≤ (x4_1 : Int) := of_decide_eq_true as_
    have q106 : x4_1 < (l0.length : Int) := of_decide_eq_true as_
    obtain ⟨ad106, e106, hx106_0, hx106_1, hx106_2⟩ := at_T27 HR0.out x4_1 p106 q106
    obtain rfl : ad104 = ad106 := (by injection e106)
    replace p106 := eq_true p106
    replace q106 := eq_true q106
    have p107 : 0 ≤ (x3_1 : Int) := of_decide_eq_true as_
    have q107 : x3_1 < (l0.length : Int) := of_decide_eq_true as_
    obtain ⟨ad107, e107, hx107_0, hx107_1, hx107_2⟩ := at_T27 HR0.out x3_1 p107 q107
    obtain rfl : ad104 = ad107 := (by injection e107)
    replace p107 := eq_true p107
    replace q107 := eq_true q107
    go_wp2
    repeat (go_quiet (fail); try go_wp2)
    go_roundg k1
    case measure => have := HK1.out; omega
    case rel => exact ⟨(x3_1), (wrap64 (x4_1 + 1)), rf_, rf_, H', ⟨by have := HK1.out; omega⟩, by repeat (first | exact Drawn0.refl _ | apply Drawn0.step)⟩
   rw [if_pos c8] at H
   have c8b0 : (((rd_T27 l0 x4_1).f2) == ((rd_T27 l0 x3_1).f2)) = true := beq_iff_eq.mpr c8
   have c8b1 : (((rd_T27 l0 x4_1).f2) != ((rd_T27 l0 x3_1).f2)) = false := bne_eq_false_iff_eq.mpr c8
   clear c8
   by_cases c9 : ((rd_T27 l0 x4_1).f1) < ((rd_T27 l0 x3_1).f1)
   rotate_left
   ·
    rw [if_neg c9] at H
    have c9b0 := decide_eq_false c9
    clear c9
    have H' := Aside0.mk H
    clear H
    have p104 : 0 ≤ (x4_1 : Int) := of_decide_eq_true as_
    have q104 : x4_1 < (l0.length : Int) := of_decide_eq_true as_
    obtain ⟨ad104, e104, hx104_0, hx104_1, hx104_2⟩ := at_T27 HR0.out x4_1 p104 q104
    cases e104
    replace p104 := eq_true p104
    replace q104 := eq_true q104
    have p105 : 0 ≤ (x3_1 : Int) := of_decide_eq_true as_
    have q105 : x3_1 < (l0.length : Int) := of_decide_eq_true as_
    obtain ⟨ad105, e105, hx105_0, hx105_1, hx105_2⟩ := at_T27 HR0.out x3_1 p105 q105
    obtain rfl : ad104 = ad105 := (by injection e105)
    replace p105 := eq_true p105
    replace q105 := eq_true q105
    have p106 : 0 ≤ (x4_1 : Int) := of_decide_eq_true as_
    have q106 : x4_1 < (l0.length : Int) := of_decide_eq_true as_
    obtain ⟨ad106, e106, hx106_0, hx106_1, hx106_2⟩ := at_T27 HR0.out x4_1 p106 q106
    obtain rfl : ad104 = ad106 := (by injection e106)
    replace p106 := eq_true p106
    replace q106 := eq_true q106
    have p107 : 0 ≤ (x3_1 : Int) := of_decide_eq_true as_
    have q107 : x3_1 < (l0.length : Int) := of_decide_eq_true as_
    obtain ⟨ad107, e107, hx107_0, hx107_1, hx107_2⟩ := at_T27 HR0.out x3_1 p107 q107
    obtain rfl : ad104 = ad107 := (by injection e107)
    replace p107 := eq_true p107
    replace q107 := eq_true q107
    have p108 : 0 ≤ (x4_1 : Int) := of_decide_eq_true as_
    have q108 : x4_1 < (l0.length : Int) := of_decide_eq_true as_
    obtain ⟨ad108, e108, hx108_0, hx108_1, hx108_2⟩ := at_T27 HR0.out x4_1 p108 q108
    obtain rfl : ad104 = ad108 := (by injection e108)
    replace p108 := eq_true p108
    replace q108 := eq_true q108
    have p109 : 0 ≤ (x3_1 : Int) := of_decide_eq_true as_
    have q109 : x3_1 < (l0.length : Int) := of_decide_eq_true as_
    obtain ⟨ad109, e109, hx109_0, hx109_1, hx109_2⟩ := at_T27 HR0.out x3_1 p109 q109
    obtain rfl : ad104 = ad109 := (by injection e109)
    replace p109 := eq_true p109
    replace q109 := eq_true q109
    go_wp2
    repeat (go_quiet (fail); try go_wp2)
    go_roundg k1
    case measure => have := HK1.out; omega
    case rel => exact ⟨(x3_1), (wrap64 (x4_1 + 1)), rf_, rf_, H', ⟨by have := HK1.out; omega⟩, by repeat (first | exact Drawn0.refl _ | apply Drawn0.step)⟩
   rw [if_pos c9] at H
   have c9b0 := decide_eq_true c9
   clear c9
   have H' := Aside0.mk H
   clear H
   have p104 : 0 ≤ (x4_1 : Int) := of_decide_eq_true as_
   have q104 : x4_1 < (l0.length : Int) := of_decide_eq_true as_
   obtain ⟨ad104, e104, hx104_0, hx104_1, hx104_2⟩ := at_T27 HR0.out x4_1 p104 q104
   cases e104
   replace p104 := eq_true p104
   replace q104 := eq_true q104
   have p105 : 0 ≤ (x3_1 : Int) := of_decide_eq_true as_
   have q105 : x3_1 < (l0.length : Int) := of_decide_eq_true as_
   obtain ⟨ad105, e105, hx105_0, hx105_1, hx105_2⟩ := at_T27 HR0.out x3_1 p105 q105
   obtain rfl : ad104 = ad105 := (by injection e105)
   replace p105 := eq_true p105
   replace q105 := eq_true q105
   have p106 : 0 ≤ (x4_1 : Int) := of_decide_eq_true as_
   have q106 : x4_1 < (l0.length : Int) := of_decide_eq_true as_
   obtain ⟨ad106, e106, hx106_0, hx106_1, hx106_2⟩ := at_T27 HR0.out x4_1 p106 q106
   obtain rfl : ad104 = ad106 := (by injection e106)
   replace p106 := eq_true p106
   replace q106 := eq_true q106
   have p107 : 0 ≤ (x3_1 : Int) := of_decide_eq_true as_
   have q107 : x3_1 < (l0.length : Int) := of_decide_eq_true as_
   obtain ⟨ad107, e107, hx107_0, hx107_1, hx107_2⟩ := at_T27 HR0.out x3_1 p107 q107
   obtain rfl : ad104 = ad107 := (by injection e107)
   replace p107 := eq_true p107
   replace q107 := eq_true q107
   have p108 : 0 ≤ (x4_1 : Int) := of_decide_eq_true as_
   have q108 : x4_1 < (l0.length : Int) := of_decide_eq_true as_
   obtain ⟨ad108, e108, hx108_0, hx108_1, hx108_2⟩ := at_T27 HR0.out x4_1 p108 q108
   obtain rfl : ad104 = ad108 := (by injection e108)
   replace p108 := eq_true p108
   replace q108 := eq_true q108
   have p109 : 0 ≤ (x3_1 : Int) := of_decide_eq_true as_
   have q109 : x3_1 < (l0.length : Int) := of_decide_eq_true as_
   obtain ⟨ad109, e109, hx109_0, hx109_1, hx109_2⟩ := at_T27 HR0.out x3_1 p109 q109
   obtain rfl : ad104 = ad109 := (by injection e109)
   replace p109 := eq_true p109
   replace q109 := eq_true q109
   go_wp2
   repeat (go_quiet (fail); try go_wp2)
   go_roundg k1
   case measure => have := HK1.out; omega
   case rel => exact ⟨(x4_1), (wrap64 (x4_1 + 1)), rf_, rf_, H', ⟨by have := HK1.out; omega⟩, by repeat (first | exact Drawn0.refl _ | apply Drawn0.step)⟩

end Go.Proofs.Ytoagfhlhgpaekaa.Rw
