/- RwGoods. -/
import Derived.Test.YtmiamdnhofjifaaVRwA
import Derived.Test.YtmiamdnhofjifaaVHTimes
section
/- Functions of the program as Lean functions, each with its contract: out of what the kit's printer wrote for this seat. -/
namespace Go.Proofs.Ytmiamdnhofjifaa.Rw
open Go.RowKit Go.Proofs.YtmiamdnhofjifaaW.PrintWords Go.Proofs.YtmiamdnhofjifaaW.PrintLast Go.Proofs.YtmiamdnhofjifaaW.PrintMore
attribute [local go_sem] max2_int min2_int max_two min_two max_three min_three max_four min_four   -- for this text's walks alone
set_option linter.unusedVariables false
set_option linter.unusedSimpArgs false
attribute [local go_sem high] leqS gtrS

/-! ### goods_Rise: function 53 -/
def goods_Rise.l0 : Nat → List ByteArray → Int → Int → Option (Bool)
 | 0, _, _, _ => none
 | k + 1, x0, x5, x6 => if x6 < x5 then (if x6 > 0 then (if 0 ≤ (wrap64 (x6 - 1)) then (if (wrap64 (x6 - 1)) < (x0.length : Int) then (if 0 ≤ x6 then (if x6 < (x0.length : Int) then (if ((Op.bytesLess ((rdOf ByteArray.empty x0 (wrap64 (x6 - 1))).toList) ((rdOf ByteArray.empty x0 x6).toList)) = true) then (goods_Rise.l0 k x0 x5 (wrap64 (x6 + 1))) else (some false)) else (none)) else (none)) else (none)) else (none)) else (goods_Rise.l0 k x0 x5 (wrap64 (x6 + 1)))) else (some true)
def goods_Rise.f (k : Nat) (l0 : List ByteArray) : Option (Bool) := goods_Rise.l0 k l0 (l0.length : Int) 0
set_option maxHeartbeats 8000000 in
set_option maxRecDepth 100000 in
theorem goods_Rise.calls (k : Nat) (A0 : Option Addr) (c0 : Nat) (l0 : List ByteArray) (r : Bool) (w : World) (hr0 : Kd.C Kd.string w A0 l0.length l0) (hc0 : l0.length ≤ c0) (h : goods_Rise.f k l0 = some r) :
 Calls Try.prog 53 #[.slice A0 l0.length c0] w fun e w' => e = .returned (.bool r) ∧ Drawn0 w w' := by
 have HR0 := Aside0.mk hr0
 have HC0 := Aside0.mk hc0
 clear hr0 hc0
 have H : (goods_Rise.l0 k l0 (l0.length : Int) 0) = some r := h
 clear h
 have H' := Aside0.mk H
 clear H
 go_enter Try.func53, Try.ntmps53
 go_wp2
 repeat (go_quiet (fail); try go_wp2)
 go_loopg [6] k (fun kq v6 w' => ∃ (x6_1 : Int), v6 = .int .i64 x6_1 ∧ Aside0 (goods_Rise.l0 kq l0 (l0.length : Int) x6_1 = some r) ∧ Aside0 (kq ≤ k) ∧ Drawn0 w w')
 case atStart => exact ⟨(0), rf_, H', ⟨Nat.le_refl _⟩, dr_⟩
 case round =>
  clear H'; obtain ⟨x6_1, rfl, HA, HK1, ⟨m1, rfl⟩⟩ := hrel
  cases gk with
  | zero => exact absurd HA.out (by simp [goods_Rise.l0])
  | succ k1 =>
   have H := HA.out; clear HA
   simp only [goods_Rise.l0] at H
   by_cases c2 : x6_1 < (l0.length : Int)
   rotate_left
   ·
    rw [if_neg c2] at H; have c2b0 := decide_eq_false c2; clear c2; obtain rfl := Option.some.inj H
    go_wp2
    repeat (go_quiet (fail); try go_wp2)
    go_ret
    exact ⟨rf_, dr_⟩
   rw [if_pos c2] at H; have c2b0 := decide_eq_true c2; clear c2
   by_cases c3 : x6_1 > 0
   rotate_left
   ·
    rw [if_neg c3] at H; have c3b0 := decide_eq_false c3; clear c3; have H' := Aside0.mk H; clear H
    go_wp2
    repeat (go_quiet (fail); try go_wp2)
    go_roundg k1
    case measure => have := HK1.out; omega
    case rel => exact ⟨(wrap64 (x6_1 + 1)), rf_, H', ⟨ho_ HK1⟩, dr_⟩
   rw [if_pos c3] at H; have c3b0 := decide_eq_true c3; clear c3; obtain ⟨ji4, hji4⟩ : ∃ j_ : Int, (wrap64 (x6_1 - 1)) = j_ := ⟨_, rfl⟩
   replace H : (if 0 ≤ (ji4) then (if (ji4) < (l0.length : Int) then (if 0 ≤ x6_1 then (if x6_1 < (l0.length : Int) then (if ((Op.bytesLess ((rdOf ByteArray.empty l0 (ji4)).toList) ((rdOf ByteArray.empty l0 x6_1).toList)) = true) then (goods_Rise.l0 k1 l0 (l0.length : Int) (wrap64 (x6_1 + 1))) else (some false)) else (none)) else (none)) else (none)) else (none)) = some r := by first | (rw [hji4] at H; exact H) | (simp only [hji4] at H ⊢; exact H)
   have hji4w : (IntKind.i64.wrap (x6_1 - 1)) = ji4 := (i64_w _).trans hji4; replace H := ip_ H; obtain ⟨c5, H⟩ := H; have c5b0 := decide_eq_true c5; clear c5; replace H := ip_ H; obtain ⟨c6, H⟩ := H; have c6b0 := decide_eq_true c6; clear c6; replace H := ip_ H; obtain ⟨c7, H⟩ := H; have c7b0 := decide_eq_true c7
   clear c7; replace H := ip_ H; obtain ⟨c8, H⟩ := H; have c8b0 := decide_eq_true c8; clear c8
   by_cases c9 : ((Op.bytesLess ((rdOf ByteArray.empty l0 (ji4)).toList) ((rdOf ByteArray.empty l0 x6_1).toList)) = true)
   rotate_left
   ·
    rw [if_neg c9] at H
    have c9b0 : (Op.bytesLess ((rdOf ByteArray.empty l0 (ji4)).toList) ((rdOf ByteArray.empty l0 x6_1).toList)) = false := by simpa using c9
    clear c9; obtain rfl := Option.some.inj H; have p103 : 0 ≤ ((ji4) : Int) := of_decide_eq_true as_; have q103 : (ji4) < (l0.length : Int) := of_decide_eq_true as_; obtain ⟨ad103, e103, hx103_0⟩ := Kd.at_string HR0.out (ji4) p103 q103; cases e103; replace p103 := eq_true p103; replace q103 := eq_true q103
    have p104 : 0 ≤ (x6_1 : Int) := of_decide_eq_true as_; have q104 : x6_1 < (l0.length : Int) := of_decide_eq_true as_; obtain ⟨ad104, e104, hx104_0⟩ := Kd.at_string HR0.out x6_1 p104 q104
    obtain rfl : ad103 = ad104 := (by injection e104)
    replace p104 := eq_true p104; replace q104 := eq_true q104
    go_wp2
    repeat (go_quiet (fail); try go_wp2)
    go_ret
    exact ⟨by first | rfl | (simp; done) | (simp only [← hji4] <;> (first | rfl | simp)) | (simp [*]; done), dr_⟩
   rw [if_pos c9] at H; have c9b0 : (Op.bytesLess ((rdOf ByteArray.empty l0 (ji4)).toList) ((rdOf ByteArray.empty l0 x6_1).toList)) = true := c9; clear c9; have H' := Aside0.mk H; clear H; have p103 : 0 ≤ ((ji4) : Int) := of_decide_eq_true as_; have q103 : (ji4) < (l0.length : Int) := of_decide_eq_true as_
   obtain ⟨ad103, e103, hx103_0⟩ := Kd.at_string HR0.out (ji4) p103 q103; cases e103; replace p103 := eq_true p103; replace q103 := eq_true q103; have p104 : 0 ≤ (x6_1 : Int) := of_decide_eq_true as_; have q104 : x6_1 < (l0.length : Int) := of_decide_eq_true as_; obtain ⟨ad104, e104, hx104_0⟩ := Kd.at_string HR0.out x6_1 p104 q104
   obtain rfl : ad103 = ad104 := (by injection e104)
   replace p104 := eq_true p104; replace q104 := eq_true q104
   go_wp2
   repeat (go_quiet (fail); try go_wp2)
   go_roundg k1
   case measure => have := HK1.out; omega
   case rel => exact ⟨(wrap64 (x6_1 + 1)), rf_, H', ⟨ho_ HK1⟩, dr_⟩

/-! ### goods_Name: function 69 -/
mutual
def goods_Name.j0 : Nat → ByteArray → Bool → Option (Bool)
 | 0, _, _ => none
 | k + 1, x0, x12 => if x12 = true then (some false) else (goods_Name.l0 k x0 (x0.size : Int) 0)
def goods_Name.l0 : Nat → ByteArray → Int → Int → Option (Bool)
 | 0, _, _, _ => none
 | k + 1, x0, x14, x15 => if x15 < x14 then (if 0 ≤ x15 then (if x15 < (x0.size : Int) then (if (bt x0 x15) = 45 then (goods_Name.l0 k x0 x14 (wrap64 (x15 + 1))) else (if (bt x0 x15) < 48 then (if (bt x0 x15) < 97 then (some false) else (if (bt x0 x15) > 122 then (some false) else (goods_Name.l0 k x0 x14 (wrap64 (x15 + 1))))) else (if (bt x0 x15) > 57 then (if (bt x0 x15) < 97 then (some false) else (if (bt x0 x15) > 122 then (some false) else (goods_Name.l0 k x0 x14 (wrap64 (x15 + 1))))) else (goods_Name.l0 k x0 x14 (wrap64 (x15 + 1)))))) else (none)) else (none)) else (some true)
end
def goods_Name.f (k : Nat) (a0 : ByteArray) : Option (Bool) := if (a0.size : Int) < 1 then (goods_Name.j0 k a0 true) else (goods_Name.j0 k a0 (decide ((a0.size : Int) > 12)))
set_option maxHeartbeats 8000000 in
set_option maxRecDepth 100000 in
theorem goods_Name.calls (k : Nat) (a0 : ByteArray) (r : Bool) (w : World) (h : goods_Name.f k a0 = some r) :
 Calls Try.prog 69 #[.string a0] w fun e w' => e = .returned (.bool r) ∧ Drawn0 w w' := by
 have H : (if (a0.size : Int) < 1 then (goods_Name.j0 k a0 true) else (goods_Name.j0 k a0 (decide ((a0.size : Int) > 12)))) = some r := h
 clear h
 have HC2 := Aside0.mk H
 clear H
 go_enter Try.func69, Try.ntmps69
 go_upto_region 1 with (fail)
 go_cut [12] (fun v12 wc => ∃ (kq : Nat) (x12_1 : Bool), v12 = .bool x12_1 ∧ Aside0 (goods_Name.j0 kq a0 x12_1 = some r) ∧ Aside0 (kq ≤ k) ∧ Drawn0 w wc)
 case first =>
  have H := HC2.out; clear HC2
  by_cases c3 : (a0.size : Int) < 1
  rotate_left
  ·
   rw [if_neg c3] at H; have c3b0 := decide_eq_false c3
   have c3b1 : decide (a0.size < 1) = false := decide_eq_false (by omega)
   clear c3
   (first | rw [c3b0] | (simp only [i64_w, i32_w]; rw [c3b0]) | skip)
   have H' := Aside0.mk H; clear H
   go_wp2
   go_meet
   case rel => exact ⟨_, (decide ((a0.size : Int) > 12)), rf_, H', ⟨om_⟩, dr_⟩
  rw [if_pos c3] at H; have c3b0 := decide_eq_true c3
  have c3b1 : decide (a0.size < 1) = true := decide_eq_true (by omega)
  clear c3
  (first | rw [c3b0] | (simp only [i64_w, i32_w]; rw [c3b0]) | skip)
  have H' := Aside0.mk H; clear H
  go_wp2
  go_meet
  case rel => exact ⟨_, (true), rf_, H', ⟨om_⟩, dr_⟩
 case rest =>
  clear HC2; (try clear p2); (try clear c3); (try clear c3b0); (try clear c3b1); obtain ⟨kq, x12_1, rfl, HA, HJ1, ⟨mc1, rfl⟩⟩ := hcut
  cases kq with
  | zero => exact absurd HA.out (by simp [goods_Name.j0])
  | succ kj1 =>
   have H := HA.out; clear HA
   simp only [goods_Name.j0] at H
   by_cases c4 : x12_1 = true
   ·
    subst c4; rw [if_pos rfl] at H; obtain rfl := Option.some.inj H
    go_wp2
    go_ret
    exact ⟨rf_, dr_⟩
   replace c4 := Bool.eq_false_iff.mpr c4; subst c4; rw [if_neg nf_] at H; have H' := Aside0.mk H; clear H
   go_wp2
   go_loopg [15] kj1 (fun kq v15 w' => ∃ (x15_2 : Int), v15 = .int .i64 x15_2 ∧ Aside0 (goods_Name.l0 kq a0 (a0.size : Int) x15_2 = some r) ∧ Aside0 (kq ≤ kj1) ∧ Drawn0 w w')
   case atStart => exact ⟨(0), rf_, H', ⟨Nat.le_refl _⟩, dr_⟩
   case round =>
    clear H'; (try clear c1); (try clear p2); (try clear c3); (try clear c3b0); (try clear c3b1); (try clear c4); (try clear p2); obtain ⟨x15_2, rfl, HA, HK2, ⟨m2, rfl⟩⟩ := hrel
    cases gk with
    | zero => exact absurd HA.out (by simp [goods_Name.l0])
    | succ k2 =>
     have H := HA.out; clear HA
     simp only [goods_Name.l0] at H
     by_cases c5 : x15_2 < (a0.size : Int)
     rotate_left
     ·
      rw [if_neg c5] at H; have c5b0 := decide_eq_false c5; clear c5; obtain rfl := Option.some.inj H
      go_wp2
      go_ret
      exact ⟨rf_, dr_⟩
     rw [if_pos c5] at H; have c5b0 := decide_eq_true c5; clear c5; replace H := ip_ H; obtain ⟨c6, H⟩ := H; have c6b0 := decide_eq_true c6; clear c6; replace H := ip_ H; obtain ⟨c7, H⟩ := H; have c7b0 := decide_eq_true c7; clear c7
     by_cases c9 : (bt a0 x15_2) = 45
     ·
      rw [if_pos c9] at H; have c9b0 : ((bt a0 x15_2) == 45) = true := beq_iff_eq.mpr c9; have c9b1 : ((bt a0 x15_2) != 45) = false := bne_eq_false_iff_eq.mpr c9; clear c9; have H' := Aside0.mk H; clear H; have p8 : 0 ≤ (x15_2 : Int) := of_decide_eq_true as_; have q8 : x15_2 < (a0.size : Int) := of_decide_eq_true as_
      have hx8 := bt_at a0 x15_2; replace p8 := eq_true p8; replace q8 := eq_true q8
      go_wp2
      go_roundg k2
      case measure => have := HJ1.out; have := HK2.out; omega
      case rel => exact ⟨(wrap64 (x15_2 + 1)), rf_, H', ⟨ho2_ HJ1 HK2⟩, dr_⟩
     rw [if_neg c9] at H; have c9b0 : ((bt a0 x15_2) == 45) = false := beq_eq_false_iff_ne.mpr c9; have c9b1 : ((bt a0 x15_2) != 45) = true := bne_iff_ne.mpr c9
     by_cases c10 : (bt a0 x15_2) < 48
     ·
      rw [if_pos c10] at H; have c10b0 := decide_eq_true c10; clear c10
      by_cases c11 : (bt a0 x15_2) < 97
      ·
       rw [if_pos c11] at H; have c11b0 := decide_eq_true c11; clear c11; obtain rfl := Option.some.inj H; have p8 : 0 ≤ (x15_2 : Int) := of_decide_eq_true as_; have q8 : x15_2 < (a0.size : Int) := of_decide_eq_true as_; have hx8 := bt_at a0 x15_2; replace p8 := eq_true p8; replace q8 := eq_true q8
       go_wp2
       go_ret
       exact ⟨rf_, dr_⟩
      rw [if_neg c11] at H; have c11b0 := decide_eq_false c11; clear c11
      by_cases c12 : (bt a0 x15_2) > 122
      ·
       rw [if_pos c12] at H; have c12b0 := decide_eq_true c12; clear c12; obtain rfl := Option.some.inj H; have p8 : 0 ≤ (x15_2 : Int) := of_decide_eq_true as_; have q8 : x15_2 < (a0.size : Int) := of_decide_eq_true as_; have hx8 := bt_at a0 x15_2; replace p8 := eq_true p8; replace q8 := eq_true q8
       go_wp2
       go_ret
       exact ⟨rf_, dr_⟩
      rw [if_neg c12] at H; have c12b0 := decide_eq_false c12; clear c12; have H' := Aside0.mk H; clear H; have p8 : 0 ≤ (x15_2 : Int) := of_decide_eq_true as_; have q8 : x15_2 < (a0.size : Int) := of_decide_eq_true as_; have hx8 := bt_at a0 x15_2; replace p8 := eq_true p8; replace q8 := eq_true q8
      go_wp2
      go_roundg k2
      case measure => have := HJ1.out; have := HK2.out; omega
      case rel => exact ⟨(wrap64 (x15_2 + 1)), rf_, H', ⟨ho2_ HJ1 HK2⟩, dr_⟩
     rw [if_neg c10] at H; have c10b0 := decide_eq_false c10; clear c10
     by_cases c13 : (bt a0 x15_2) > 57
     rotate_left
     ·
      rw [if_neg c13] at H; have c13b0 := decide_eq_false c13; clear c13; have H' := Aside0.mk H; clear H; have p8 : 0 ≤ (x15_2 : Int) := of_decide_eq_true as_; have q8 : x15_2 < (a0.size : Int) := of_decide_eq_true as_; have hx8 := bt_at a0 x15_2; replace p8 := eq_true p8; replace q8 := eq_true q8
      go_wp2
      go_roundg k2
      case measure => have := HJ1.out; have := HK2.out; omega
      case rel => exact ⟨(wrap64 (x15_2 + 1)), rf_, H', ⟨ho2_ HJ1 HK2⟩, dr_⟩
     rw [if_pos c13] at H; have c13b0 := decide_eq_true c13; clear c13
     by_cases c14 : (bt a0 x15_2) < 97
     ·
      rw [if_pos c14] at H; have c14b0 := decide_eq_true c14; clear c14; obtain rfl := Option.some.inj H; have p8 : 0 ≤ (x15_2 : Int) := of_decide_eq_true as_; have q8 : x15_2 < (a0.size : Int) := of_decide_eq_true as_; have hx8 := bt_at a0 x15_2; replace p8 := eq_true p8; replace q8 := eq_true q8
      go_wp2
      go_ret
      exact ⟨rf_, dr_⟩
     rw [if_neg c14] at H; have c14b0 := decide_eq_false c14; clear c14
     by_cases c15 : (bt a0 x15_2) > 122
     ·
      rw [if_pos c15] at H; have c15b0 := decide_eq_true c15; clear c15; obtain rfl := Option.some.inj H; have p8 : 0 ≤ (x15_2 : Int) := of_decide_eq_true as_; have q8 : x15_2 < (a0.size : Int) := of_decide_eq_true as_; have hx8 := bt_at a0 x15_2; replace p8 := eq_true p8; replace q8 := eq_true q8
      go_wp2
      go_ret
      exact ⟨rf_, dr_⟩
     rw [if_neg c15] at H; have c15b0 := decide_eq_false c15; clear c15; have H' := Aside0.mk H; clear H; have p8 : 0 ≤ (x15_2 : Int) := of_decide_eq_true as_; have q8 : x15_2 < (a0.size : Int) := of_decide_eq_true as_; have hx8 := bt_at a0 x15_2; replace p8 := eq_true p8; replace q8 := eq_true q8
     go_wp2
     go_roundg k2
     case measure => have := HJ1.out; have := HK2.out; omega
     case rel => exact ⟨(wrap64 (x15_2 + 1)), rf_, H', ⟨ho2_ HJ1 HK2⟩, dr_⟩

end Go.Proofs.Ytmiamdnhofjifaa.Rw
end
section
/- Functions of the program as Lean functions, each with its contract: out of what the kit's printer wrote for this seat. -/
namespace Go.Proofs.Ytmiamdnhofjifaa.Rw
open Go.RowKit Go.Proofs.YtmiamdnhofjifaaW.PrintWords Go.Proofs.YtmiamdnhofjifaaW.PrintLast Go.Proofs.YtmiamdnhofjifaaW.PrintMore
attribute [local go_sem] max2_int min2_int max_two min_two max_three min_three max_four min_four   -- for this text's walks alone
set_option linter.unusedVariables false
set_option linter.unusedSimpArgs false
attribute [local go_sem high] leqS gtrS

/-! ### rules_rate: function 70 -/
def rules_rate.f (a0 : Int) : Option (Bool) := if a0 ≥ 0 then (some (decide (a0 ≤ 10000))) else (some false)
set_option maxHeartbeats 8000000 in
set_option maxRecDepth 100000 in
theorem rules_rate.calls (a0 : Int) (r : Bool) (w : World) (h : rules_rate.f a0 = some r) :
 Calls Try.prog 70 #[.int .i64 a0] w fun e w' => e = .returned (.bool r) ∧ Drawn0 w w' := by
 have H : (if a0 ≥ 0 then (some (decide (a0 ≤ 10000))) else (some false)) = some r := h
 clear h
 by_cases c2 : a0 ≥ 0
 rotate_left
 ·
  rw [if_neg c2] at H; have c2b0 := decide_eq_false c2; clear c2; obtain rfl := Option.some.inj H
  go_enter Try.func70, Try.ntmps70
  go_wp2
  go_ret
  exact ⟨rf_, dr_⟩
 rw [if_pos c2] at H
 have c2b0 := decide_eq_true c2
 clear c2
 obtain rfl := Option.some.inj H
 go_enter Try.func70, Try.ntmps70
 go_wp2
 go_ret
 exact ⟨rf_, dr_⟩

/-! ### rules_zone: function 52 -/
mutual
def rules_zone.j0 : Nat → Bool → ByteArray → List (S56) → Int → Int → Option (Bool)
 | 0, _, _, _, _, _ => none
 | k + 1, x27, x106000, x106001, x106002, x106003 => if x27 = true then (some false) else (rules_zone.l0 k ([] : List ByteArray) x106001 (x106001.length : Int) 0)
def rules_zone.l0 : Nat → List ByteArray → List (S56) → Int → Int → Option (Bool)
 | 0, _, _, _, _ => none
 | k + 1, x3, x29, x30, x31 => if x31 < x30 then (if 0 ≤ x31 then (if x31 < (x29.length : Int) then ((goods_Name.f k ((rd_T56 x29 x31).f0)).bind fun t112 => (if t112 = true then ((rules_rate.f ((rd_T56 x29 x31).f1)).bind fun t113 => (if t113 = true then (if x3.length < 8796093022208 then (rules_zone.l0 k (x3 ++ [(rd_T56 x29 x31).f0]) x29 x30 (wrap64 (x31 + 1))) else (none)) else (some false))) else (some false))) else (none)) else (none)) else ((goods_Rise.f k x3).bind fun t109 => (some t109))
end
def rules_zone.f (k : Nat) (a0_0 : ByteArray) (l0_1 : List (S56)) (a0_2 : Int) (a0_3 : Int) : Option (Bool) := (goods_Name.f k a0_0).bind fun t106 => (if t106 = true then ((rules_rate.f a0_2).bind fun t107 => (if t107 = true then ((rules_rate.f a0_3).bind fun t108 => (if t108 = true then (rules_zone.j0 k (decide ((l0_1.length : Int) > 40)) a0_0 l0_1 a0_2 a0_3) else (rules_zone.j0 k true a0_0 l0_1 a0_2 a0_3))) else (rules_zone.j0 k true a0_0 l0_1 a0_2 a0_3))) else (rules_zone.j0 k true a0_0 l0_1 a0_2 a0_3))
set_option maxHeartbeats 8000000 in
set_option maxRecDepth 100000 in
theorem rules_zone.calls (k : Nat) (a0_0 : ByteArray) (A0_1 : Option Addr) (c0_1 : Nat) (l0_1 : List (S56)) (a0_2 : Int) (a0_3 : Int) (r : Bool) (w : World) (hr0_1 : Kd.C k56 w A0_1 l0_1.length l0_1) (hc0_1 : l0_1.length ≤ c0_1) (h : rules_zone.f k a0_0 l0_1 a0_2 a0_3 = some r) :
 Calls Try.prog 52 #[.agg #[.string a0_0, .slice A0_1 l0_1.length c0_1, .int .i64 a0_2, .int .i64 a0_3]] w fun e w' => e = .returned (.bool r) ∧ Below w.heap.size w w' := by
 have hu51 := Try.underlying51
 have hu56 := Try.underlying56
 have HR0_1 := Aside0.mk hr0_1
 have HC0_1 := Aside0.mk hc0_1
 clear hr0_1 hc0_1
 have HB := Aside0.mk (Below.refl w.heap.size w)
 have H : ((goods_Name.f k a0_0).bind fun t106 => (if t106 = true then ((rules_rate.f a0_2).bind fun t107 => (if t107 = true then ((rules_rate.f a0_3).bind fun t108 => (if t108 = true then (rules_zone.j0 k (decide ((l0_1.length : Int) > 40)) a0_0 l0_1 a0_2 a0_3) else (rules_zone.j0 k true a0_0 l0_1 a0_2 a0_3))) else (rules_zone.j0 k true a0_0 l0_1 a0_2 a0_3))) else (rules_zone.j0 k true a0_0 l0_1 a0_2 a0_3))) = some r := h
 clear h
 have HC2 := Aside0.mk H
 clear H
 go_enter Try.func52, Try.ntmps52
 go_upto_region 1 with (first | ((with_reducible refine gate_dst (N := 1) rfl ?_); (try (refine gate_guard (by rfl) ?_; dsimp only)); refine box_event rf_ (N := 1) rf_ (cs := #[.string a0_0, .slice A0_1 l0_1.length c0_1, .int .i64 a0_2, .int .i64 a0_3]) (t := 51) lr_ ?_; intro gb105 hg w3 hbox hb; have BK105 := Aside0.mk hbox; have GE105 := Aside0.mk (ge_ HB hg (hb0_ HB)); replace HB := Aside0.mk (below_step (hb0_ HB) hb); clear hb hbox hg))
 (try simp only [Act.put, List.setIfInBounds_toArray, List.set_cons_zero, List.set_cons_succ])
 go_cut [27] (fun v27 wc => ∃ (kq : Nat) (x27_1 : Bool), v27 = .bool x27_1 ∧ Aside0 (rules_zone.j0 kq x27_1 a0_0 l0_1 a0_2 a0_3 = some r) ∧ Aside0 (kq ≤ k) ∧ Aside0 (wc.heap[gb105]? = some (.cells #[.string a0_0, (.slice A0_1 l0_1.length c0_1), .int .i64 a0_2, .int .i64 a0_3] 51 (0, 0))) ∧ Aside0 (Below w.heap.size w wc))
 case first =>
  have H := HC2.out; clear HC2; replace H := Option.bind_eq_some_iff.mp H; obtain ⟨t106, A40, H⟩ := H
  (try dsimp only at H)
  have A4 := Aside0.mk A40; clear A40
  by_cases c5 : t106 = true
  rotate_left
  ·
   replace c5 := Bool.eq_false_iff.mpr c5; subst c5; rw [if_neg nf_] at H; have H' := Aside0.mk H; clear H; obtain ⟨hcz13_0, hcz13_1, hcz13_2, hcz13_3⟩ := cz4_ BK105; obtain ⟨hfz13_0, hfz13_1, hfz13_2, hfz13_3⟩ := fz4_ BK105
   go_wp2_with (first | (refine gl_ 69 8 Try.func69 #[.string a0_0] ?_; (with_reducible refine (goods_Name.calls k a0_0 false _ A4.out).mono ?_); rintro e w' ⟨rfl, ⟨nd, rfl⟩⟩; refine ⟨_, rfl, ?_⟩))
   go_meet
   case rel => exact ⟨_, (true), rf_, H', ⟨om_⟩, ⟨bk_ BK105⟩, ⟨hb1_ HB GE105⟩⟩
  subst c5; rw [if_pos rfl] at H; replace H := Option.bind_eq_some_iff.mp H; obtain ⟨t107, A60, H⟩ := H
  (try dsimp only at H)
  have A6 := Aside0.mk A60; clear A60
  by_cases c7 : t107 = true
  rotate_left
  ·
   replace c7 := Bool.eq_false_iff.mpr c7; subst c7; rw [if_neg nf_] at H; have H' := Aside0.mk H; clear H; obtain ⟨hcz12_0, hcz12_1, hcz12_2, hcz12_3⟩ := cz4_ BK105; obtain ⟨hfz12_0, hfz12_1, hfz12_2, hfz12_3⟩ := fz4_ BK105
   go_wp2_with (first | (refine gl_ 69 8 Try.func69 #[.string a0_0] ?_; (with_reducible refine (goods_Name.calls k a0_0 true _ A4.out).mono ?_); rintro e w' ⟨rfl, ⟨nd, rfl⟩⟩; refine ⟨_, rfl, ?_⟩) | (go_at_call 70; (with_reducible refine (rules_rate.calls a0_2 false _ A6.out).mono ?_); rintro e w' ⟨rfl, ⟨nd, rfl⟩⟩))
   go_meet
   case rel => exact ⟨_, (true), rf_, H', ⟨om_⟩, ⟨bk_ BK105⟩, ⟨hb1_ HB GE105⟩⟩
  subst c7; rw [if_pos rfl] at H; replace H := Option.bind_eq_some_iff.mp H; obtain ⟨t108, A80, H⟩ := H
  (try dsimp only at H)
  have A8 := Aside0.mk A80; clear A80
  by_cases c9 : t108 = true
  ·
   subst c9; rw [if_pos rfl] at H; have H' := Aside0.mk H; clear H; obtain ⟨hcz10_0, hcz10_1, hcz10_2, hcz10_3⟩ := cz4_ BK105; obtain ⟨hfz10_0, hfz10_1, hfz10_2, hfz10_3⟩ := fz4_ BK105
   go_wp2_with (first | (refine gl_ 69 8 Try.func69 #[.string a0_0] ?_; (with_reducible refine (goods_Name.calls k a0_0 true _ A4.out).mono ?_); rintro e w' ⟨rfl, ⟨nd, rfl⟩⟩; refine ⟨_, rfl, ?_⟩) | (go_at_call 70; (with_reducible refine (rules_rate.calls a0_2 true _ A6.out).mono ?_); rintro e w' ⟨rfl, ⟨nd, rfl⟩⟩) | (go_at_call 70; (with_reducible refine (rules_rate.calls a0_3 true _ A8.out).mono ?_); rintro e w' ⟨rfl, ⟨nd, rfl⟩⟩))
   go_meet
   case rel => exact ⟨_, (decide ((l0_1.length : Int) > 40)), rf_, H', ⟨om_⟩, ⟨bk_ BK105⟩, ⟨hb1_ HB GE105⟩⟩
  replace c9 := Bool.eq_false_iff.mpr c9; subst c9; rw [if_neg nf_] at H; have H' := Aside0.mk H; clear H; obtain ⟨hcz11_0, hcz11_1, hcz11_2, hcz11_3⟩ := cz4_ BK105; obtain ⟨hfz11_0, hfz11_1, hfz11_2, hfz11_3⟩ := fz4_ BK105
  go_wp2_with (first | (refine gl_ 69 8 Try.func69 #[.string a0_0] ?_; (with_reducible refine (goods_Name.calls k a0_0 true _ A4.out).mono ?_); rintro e w' ⟨rfl, ⟨nd, rfl⟩⟩; refine ⟨_, rfl, ?_⟩) | (go_at_call 70; (with_reducible refine (rules_rate.calls a0_2 true _ A6.out).mono ?_); rintro e w' ⟨rfl, ⟨nd, rfl⟩⟩) | (go_at_call 70; (with_reducible refine (rules_rate.calls a0_3 false _ A8.out).mono ?_); rintro e w' ⟨rfl, ⟨nd, rfl⟩⟩))
  go_meet
  case rel => exact ⟨_, (true), rf_, H', ⟨om_⟩, ⟨bk_ BK105⟩, ⟨hb1_ HB GE105⟩⟩
 case rest =>
  clear HC2; (try clear p2); (try clear c5); (try clear c6); (try clear c7); (try clear c9); (try clear hcz10_0 hcz10_1 hcz10_2 hcz10_3); (try clear hcz11_0 hcz11_1 hcz11_2 hcz11_3); (try clear hcz12_0 hcz12_1 hcz12_2 hcz12_3); (try clear hcz13_0 hcz13_1 hcz13_2 hcz13_3); (try clear hfz10_0 hfz10_1 hfz10_2 hfz10_3)
  (try clear hfz11_0 hfz11_1 hfz11_2 hfz11_3); (try clear hfz12_0 hfz12_1 hfz12_2 hfz12_3); (try clear hfz13_0 hfz13_1 hfz13_2 hfz13_3); obtain ⟨kq, x27_1, rfl, HA, HJ1, BK105, HB⟩ := hcut
  cases kq with
  | zero => exact absurd HA.out (by simp [rules_zone.j0])
  | succ kj1 =>
   have H := HA.out; clear HA
   simp only [rules_zone.j0] at H
   by_cases c14 : x27_1 = true
   ·
    subst c14; rw [if_pos rfl] at H; obtain rfl := Option.some.inj H
    go_wp2
    go_ret
    exact ⟨er_, hb1_ HB GE105⟩
   replace c14 := Bool.eq_false_iff.mpr c14; subst c14; rw [if_neg nf_] at H; have H' := Aside0.mk H; clear H; obtain ⟨hcz15_0, hcz15_1, hcz15_2, hcz15_3⟩ := cz4_ BK105; obtain ⟨hfz15_0, hfz15_1, hfz15_2, hfz15_3⟩ := fz4_ BK105
   go_wp2
   go_loopg [3, 31] kj1 (fun kq v3 v31 w' => ∃ (x3_2 : List ByteArray) (x31_2 : Int), v31 = .int .i64 x31_2 ∧ Aside0 (rules_zone.l0 kq x3_2 l0_1 (l0_1.length : Int) x31_2 = some r) ∧ Aside0 (kq ≤ kj1) ∧ Aside0 (Kd.R Kd.string 9 w' w.heap.size (fun _ => True) v3 x3_2) ∧ Aside0 (w'.heap[gb105]? = some (.cells #[.string a0_0, (.slice A0_1 l0_1.length c0_1), .int .i64 a0_2, .int .i64 a0_3] 51 (0, 0))) ∧ Aside0 (Below w.heap.size w w'))
   case atStart => exact ⟨(([] : List ByteArray)), (0), rf_, H', ⟨Nat.le_refl _⟩, ⟨ni_⟩, ⟨bk_ BK105⟩, ⟨hb1_ HB GE105⟩⟩
   case round =>
    clear H'; (try clear c1); (try clear p2); (try clear c5); (try clear c6); (try clear c7); (try clear c9); (try clear c14); (try clear hcz10_0 hcz10_1 hcz10_2 hcz10_3); (try clear hcz11_0 hcz11_1 hcz11_2 hcz11_3); (try clear hcz12_0 hcz12_1 hcz12_2 hcz12_3); (try clear hcz13_0 hcz13_1 hcz13_2 hcz13_3)
    (try clear hcz15_0 hcz15_1 hcz15_2 hcz15_3); (try clear hfz10_0 hfz10_1 hfz10_2 hfz10_3); (try clear hfz11_0 hfz11_1 hfz11_2 hfz11_3); (try clear hfz12_0 hfz12_1 hfz12_2 hfz12_3); (try clear hfz13_0 hfz13_1 hfz13_2 hfz13_3); (try clear hfz15_0 hfz15_1 hfz15_2 hfz15_3); (try clear p2); obtain ⟨x3_2, x31_2, rfl, HA, HK2, HO_3, BK105, HB⟩ := hrel
    cases gk with
    | zero => exact absurd HA.out (by simp [rules_zone.l0])
    | succ k2 =>
     have H := HA.out; clear HA
     simp only [rules_zone.l0] at H
     by_cases c16 : x31_2 < (l0_1.length : Int)
     rotate_left
     ·
      rw [if_neg c16] at H; have c16b0 := decide_eq_false c16; clear c16; replace H := Option.bind_eq_some_iff.mp H; obtain ⟨t109, A340, H⟩ := H
      (try dsimp only at H)
      have A34 := Aside0.mk A340; clear A340; obtain rfl := Option.some.inj H; obtain ⟨Ao35, co35, eo35⟩ := Kd.R_slice HO_3.out; subst eo35
      go_wp2_with (first | (refine gl_ 53 52 Try.func53 #[.slice Ao35 x3_2.length co35] ?_; (with_reducible refine (goods_Rise.calls k2 _ _ x3_2 t109 _ ?side1 ?side2 A34.out).mono ?_); (case side1 => exact sc_ (Kd.R_reads' HO_3.out).2.2); (case side2 => exact (Kd.R_reads' HO_3.out).2.1); rintro e w' ⟨rfl, ⟨nd, rfl⟩⟩; refine ⟨_, rfl, ?_⟩))
      go_ret
      exact ⟨er_, hb1_ HB GE105⟩
     rw [if_pos c16] at H; have c16b0 := decide_eq_true c16; clear c16; replace H := ip_ H; obtain ⟨c17, H⟩ := H; have c17b0 := decide_eq_true c17; clear c17; replace H := ip_ H; obtain ⟨c18, H⟩ := H; have c18b0 := decide_eq_true c18; clear c18; replace H := Option.bind_eq_some_iff.mp H; obtain ⟨t112, A190, H⟩ := H
     (try dsimp only at H)
     have A19 := Aside0.mk A190; clear A190
     by_cases c20 : t112 = true
     rotate_left
     ·
      replace c20 := Bool.eq_false_iff.mpr c20; subst c20; rw [if_neg nf_] at H; obtain rfl := Option.some.inj H; have p110 : 0 ≤ (x31_2 : Int) := of_decide_eq_true as_; have q110 : x31_2 < (l0_1.length : Int) := of_decide_eq_true as_; obtain ⟨ad110, e110, hx110_0, hx110_1⟩ := at_T56 HR0_1.out x31_2 p110 q110
      cases e110; replace hx110_0 := hd_ HB hx110_0; replace hx110_1 := hd_ HB hx110_1; replace p110 := eq_true p110; replace q110 := eq_true q110
      go_wp2_with (first | ((with_reducible refine gate_dst (N := 5) rfl ?_); (try (refine gate_guard (by rfl) ?_; dsimp only)); refine box_event rf_ (N := 5) rf_ (cs := #[.string (⟨#[]⟩ : ByteArray), .int .i64 0]) (t := 56) lr_ ?_; intro gb111 hg w31 hbox hb; replace HO_3 := Aside0.mk (Kd.R_below (ro_ HO_3) hb); have BK111 := Aside0.mk hbox; have GE111 := Aside0.mk (ge_ HB hg (hb1_ HB GE105)); replace HB := Aside0.mk (below_step (hb1_ HB GE105) hb); have NB105_111 := Aside0.mk (nl_ BK105 hg); have NB111_105 := Aside0.mk (ng_ BK105 hg); replace BK105 := Aside0.mk (bb_ BK105 hb); clear hb hbox hg; have hnb32 := NB111_105.out; have hnc32 := NB105_111.out; obtain ⟨hcz33_0, hcz33_1⟩ := cz2_ BK111; obtain ⟨hfz33_0, hfz33_1⟩ := fz2_ BK111) | (refine gl_ 69 37 Try.func69 #[.string ((rd_T56 l0_1 x31_2).f0)] ?_; (with_reducible refine (goods_Name.calls k2 ((rd_T56 l0_1 x31_2).f0) false _ A19.out).mono ?_); rintro e w' ⟨rfl, ⟨nd, rfl⟩⟩; refine ⟨_, rfl, ?_⟩))
      go_ret
      exact ⟨er_, hb2_ HB GE105 GE111⟩
     subst c20; rw [if_pos rfl] at H; replace H := Option.bind_eq_some_iff.mp H; obtain ⟨t113, A210, H⟩ := H
     (try dsimp only at H)
     have A21 := Aside0.mk A210; clear A210
     by_cases c22 : t113 = true
     rotate_left
     ·
      replace c22 := Bool.eq_false_iff.mpr c22; subst c22; rw [if_neg nf_] at H; obtain rfl := Option.some.inj H; have p110 : 0 ≤ (x31_2 : Int) := of_decide_eq_true as_; have q110 : x31_2 < (l0_1.length : Int) := of_decide_eq_true as_; obtain ⟨ad110, e110, hx110_0, hx110_1⟩ := at_T56 HR0_1.out x31_2 p110 q110
      cases e110; replace hx110_0 := hd_ HB hx110_0; replace hx110_1 := hd_ HB hx110_1; replace p110 := eq_true p110; replace q110 := eq_true q110
      go_wp2_with (first | ((with_reducible refine gate_dst (N := 5) rfl ?_); (try (refine gate_guard (by rfl) ?_; dsimp only)); refine box_event rf_ (N := 5) rf_ (cs := #[.string (⟨#[]⟩ : ByteArray), .int .i64 0]) (t := 56) lr_ ?_; intro gb111 hg w28 hbox hb; replace HO_3 := Aside0.mk (Kd.R_below (ro_ HO_3) hb); have BK111 := Aside0.mk hbox; have GE111 := Aside0.mk (ge_ HB hg (hb1_ HB GE105)); replace HB := Aside0.mk (below_step (hb1_ HB GE105) hb); have NB105_111 := Aside0.mk (nl_ BK105 hg); have NB111_105 := Aside0.mk (ng_ BK105 hg); replace BK105 := Aside0.mk (bb_ BK105 hb); clear hb hbox hg; have hnb29 := NB111_105.out; have hnc29 := NB105_111.out; obtain ⟨hcz30_0, hcz30_1⟩ := cz2_ BK111; obtain ⟨hfz30_0, hfz30_1⟩ := fz2_ BK111) | (refine gl_ 69 37 Try.func69 #[.string ((rd_T56 l0_1 x31_2).f0)] ?_; (with_reducible refine (goods_Name.calls k2 ((rd_T56 l0_1 x31_2).f0) true _ A19.out).mono ?_); rintro e w' ⟨rfl, ⟨nd, rfl⟩⟩; refine ⟨_, rfl, ?_⟩) | (go_at_call 70; (with_reducible refine (rules_rate.calls ((rd_T56 l0_1 x31_2).f1) false _ A21.out).mono ?_); rintro e w' ⟨rfl, ⟨nd, rfl⟩⟩))
      go_ret
      exact ⟨er_, hb2_ HB GE105 GE111⟩
     subst c22; rw [if_pos rfl] at H; replace H := ip_ H; obtain ⟨c23, H⟩ := H; have LMc23 := Aside0.mk c23; clear c23; obtain ⟨y114, hy114⟩ : ∃ y_ : List ByteArray, y_ = (x3_2 ++ [(rd_T56 l0_1 x31_2).f0]) := ⟨_, rfl⟩; replace H : (rules_zone.l0 k2 y114 l0_1 (l0_1.length : Int) (wrap64 (x31_2 + 1))) = some r := hy_ hy114 H
     have Ny114 := Aside0.mk hy114; clear hy114; have H' := Aside0.mk H; clear H; have p110 : 0 ≤ (x31_2 : Int) := of_decide_eq_true as_; have q110 : x31_2 < (l0_1.length : Int) := of_decide_eq_true as_; obtain ⟨ad110, e110, hx110_0, hx110_1⟩ := at_T56 HR0_1.out x31_2 p110 q110; cases e110; replace hx110_0 := hd_ HB hx110_0
     replace hx110_1 := hd_ HB hx110_1; replace p110 := eq_true p110; replace q110 := eq_true q110
     go_wp2_with (first | ((with_reducible refine gate_dst (N := 5) rfl ?_); (try (refine gate_guard (by rfl) ?_; dsimp only)); refine box_event rf_ (N := 5) rf_ (cs := #[.string (⟨#[]⟩ : ByteArray), .int .i64 0]) (t := 56) lr_ ?_; intro gb111 hg w24 hbox hb; replace HO_3 := Aside0.mk (Kd.R_below (ro_ HO_3) hb); have BK111 := Aside0.mk hbox; have GE111 := Aside0.mk (ge_ HB hg (hb1_ HB GE105)); replace HB := Aside0.mk (below_step (hb1_ HB GE105) hb); have NB105_111 := Aside0.mk (nl_ BK105 hg); have NB111_105 := Aside0.mk (ng_ BK105 hg); replace BK105 := Aside0.mk (bb_ BK105 hb); clear hb hbox hg; have hnb25 := NB111_105.out; have hnc25 := NB105_111.out; obtain ⟨hcz26_0, hcz26_1⟩ := cz2_ BK111; obtain ⟨hfz26_0, hfz26_1⟩ := fz2_ BK111) | (refine gl_ 69 37 Try.func69 #[.string ((rd_T56 l0_1 x31_2).f0)] ?_; (with_reducible refine (goods_Name.calls k2 ((rd_T56 l0_1 x31_2).f0) true _ A19.out).mono ?_); rintro e w' ⟨rfl, ⟨nd, rfl⟩⟩; refine ⟨_, rfl, ?_⟩) | (go_at_call 70; (with_reducible refine (rules_rate.calls ((rd_T56 l0_1 x31_2).f1) true _ A21.out).mono ?_); rintro e w' ⟨rfl, ⟨nd, rfl⟩⟩) | ((with_reducible refine gate_builtin (b := .append) (xs := #[.tmp 45, .tmp 48]) rfl ?_); (try (refine gate_guard (by rfl) ?_; dsimp only)); at_builtin; refine Kd.R_append Kd.string (w0 := w) w.heap.size rfl (.tmp 45) (.tmp 48) 25 9 (.string ⟨#[]⟩) 16 rfl Try.underlying25 info9 rfl (by decide) (by omega) u3 x3_2 ((rd_T56 l0_1 x31_2).f0) [.string ((rd_T56 l0_1 x31_2).f0)] (fun _ => True) (fun _ => False) rfl (by first | (go_simp; done) | (go_simp; rfl)) ?aP (fun _ hk => hk.elim) ?aF ?aO ?aB ?aS ?aL ?_; (case aP => exact rfl); (case aB => exact (hb2_ HB GE105 GE111)); (case aF => exact (fun _ _ => trivial)); (case aO => exact (rf1_ HO_3 BK111)); (case aS => exact (below_size (hb2_ HB GE105 GE111))); (case aL => have := LMc23.out; omega); intro v115 w27 ho hb hg hat; rw [← Ny114.out] at ho; have n0_ := Aside0.mk (blk_grown (g := gb105) (o := .cells #[.string a0_0, .slice (some ad110) l0_1.length c0_1, .int .i64 a0_2, .int .i64 a0_3] 51 (0, 0)) (bf2_ BK105 NB105_111 NB105_111) hg (Kd.R_ne HO_3.out BK105.out (by decide))); have n1_ := Aside0.mk (blk_grown (g := gb111) (o := .cells #[.string ((rd_T56 l0_1 x31_2).f0), .int .i64 ((rd_T56 l0_1 x31_2).f1)] 56 (0, 0)) (bq0_ BK111) hg (Kd.R_ne HO_3.out BK111.out (by decide))); have n2_ := Aside0.mk hb; have n3_ := Aside0.mk ho; clear BK105; clear BK111; clear HB; clear HO_3; have BK105 := n0_; have BK111 := n1_; have HB := n2_; have HO116 := n3_; clear n0_ n1_ n2_ n3_; clear ho hb hg hat))
     go_roundg k2
     case measure => have := HJ1.out; have := HK2.out; omega
     case rel => exact ⟨(y114), (wrap64 (x31_2 + 1)), rf_, H', ⟨ho2_ HJ1 HK2⟩, ⟨ro_ HO116⟩, ⟨bk_ BK105⟩, ⟨hb2_ HB GE105 GE111⟩⟩

/-! ### rules_Tax: function 35 -/
mutual
def rules_Tax.j0 : Nat → Bool → Bool → Bool → Int → List (S51) → Option (Bool)
 | 0, _, _, _, _, _ => none
 | k + 1, x19, x118000, x118001, x118002, x118003 => if x19 = true then (some false) else (rules_Tax.l0 k ([] : List ByteArray) x118003 (x118003.length : Int) 0)
def rules_Tax.l0 : Nat → List ByteArray → List (S51) → Int → Int → Option (Bool)
 | 0, _, _, _, _ => none
 | k + 1, x3, x21, x22, x23 => if x23 < x22 then (if 0 ≤ x23 then (if x23 < (x21.length : Int) then ((rules_zone.f k ((rd_T51 x21 x23).f0) ((rd_T51 x21 x23).f1) ((rd_T51 x21 x23).f2) ((rd_T51 x21 x23).f3)).bind fun t120 => (if t120 = true then (if x3.length < 8796093022208 then (rules_Tax.l0 k (x3 ++ [(rd_T51 x21 x23).f0]) x21 x22 (wrap64 (x23 + 1))) else (none)) else (some false))) else (none)) else (none)) else ((goods_Rise.f k x3).bind fun t124 => (some t124))
end
def rules_Tax.f (k : Nat) (a0_0 : Bool) (a0_1 : Bool) (a0_2 : Int) (l0_3 : List (S51)) : Option (Bool) := if a0_2 < 0 then (rules_Tax.j0 k true a0_0 a0_1 a0_2 l0_3) else (if a0_2 > 2 then (rules_Tax.j0 k true a0_0 a0_1 a0_2 l0_3) else (rules_Tax.j0 k (decide ((l0_3.length : Int) > 20)) a0_0 a0_1 a0_2 l0_3))
set_option maxHeartbeats 8000000 in
set_option maxRecDepth 100000 in
theorem rules_Tax.calls (k : Nat) (a0_0 : Bool) (a0_1 : Bool) (a0_2 : Int) (A0_3 : Option Addr) (c0_3 : Nat) (l0_3 : List (S51)) (r : Bool) (w : World) (hr0_3 : Kd.C k51 w A0_3 l0_3.length l0_3) (hc0_3 : l0_3.length ≤ c0_3) (h : rules_Tax.f k a0_0 a0_1 a0_2 l0_3 = some r) :
 Calls Try.prog 35 #[.agg #[.bool a0_0, .bool a0_1, .int .i64 a0_2, .slice A0_3 l0_3.length c0_3]] w fun e w' => e = .returned (.bool r) ∧ Below w.heap.size w w' := by
 have hu24 := Try.underlying24
 have hu51 := Try.underlying51
 have HR0_3 := Aside0.mk hr0_3
 have HC0_3 := Aside0.mk hc0_3
 clear hr0_3 hc0_3
 have HB := Aside0.mk (Below.refl w.heap.size w)
 have H : (if a0_2 < 0 then (rules_Tax.j0 k true a0_0 a0_1 a0_2 l0_3) else (if a0_2 > 2 then (rules_Tax.j0 k true a0_0 a0_1 a0_2 l0_3) else (rules_Tax.j0 k (decide ((l0_3.length : Int) > 20)) a0_0 a0_1 a0_2 l0_3))) = some r := h
 clear h
 have HC2 := Aside0.mk H
 clear H
 go_enter Try.func35, Try.ntmps35
 go_upto_region 1 with (first | ((with_reducible refine gate_dst (N := 1) rfl ?_); (try (refine gate_guard (by rfl) ?_; dsimp only)); refine box_event rf_ (N := 1) rf_ (cs := #[.bool a0_0, .bool a0_1, .int .i64 a0_2, .slice A0_3 l0_3.length c0_3]) (t := 24) lr_ ?_; intro gb117 hg w3 hbox hb; have BK117 := Aside0.mk hbox; have GE117 := Aside0.mk (ge_ HB hg (hb0_ HB)); replace HB := Aside0.mk (below_step (hb0_ HB) hb); clear hb hbox hg))
 (try simp only [Act.put, List.setIfInBounds_toArray, List.set_cons_zero, List.set_cons_succ])
 go_cut [19] (fun v19 wc => ∃ (kq : Nat) (x19_1 : Bool), v19 = .bool x19_1 ∧ Aside0 (rules_Tax.j0 kq x19_1 a0_0 a0_1 a0_2 l0_3 = some r) ∧ Aside0 (kq ≤ k) ∧ Aside0 (wc.heap[gb117]? = some (.cells #[.bool a0_0, .bool a0_1, .int .i64 a0_2, (.slice A0_3 l0_3.length c0_3)] 24 (0, 0))) ∧ Aside0 (Below w.heap.size w wc))
 case first =>
  have H := HC2.out; clear HC2
  by_cases c4 : a0_2 < 0
  ·
   rw [if_pos c4] at H; have c4b0 := decide_eq_true c4; clear c4
   (first | rw [c4b0] | (simp only [i64_w, i32_w]; rw [c4b0]) | skip)
   have H' := Aside0.mk H; clear H; obtain ⟨hcz5_0, hcz5_1, hcz5_2, hcz5_3⟩ := cz4_ BK117; obtain ⟨hfz5_0, hfz5_1, hfz5_2, hfz5_3⟩ := fz4_ BK117
   go_wp2
   go_meet
   case rel => exact ⟨_, (true), rf_, H', ⟨om_⟩, ⟨bk_ BK117⟩, ⟨hb1_ HB GE117⟩⟩
  rw [if_neg c4] at H; have c4b0 := decide_eq_false c4; clear c4
  (first | rw [c4b0] | (simp only [i64_w, i32_w]; rw [c4b0]) | skip)
  by_cases c6 : a0_2 > 2
  rotate_left
  ·
   rw [if_neg c6] at H; have c6b0 := decide_eq_false c6; clear c6; have H' := Aside0.mk H; clear H; obtain ⟨hcz8_0, hcz8_1, hcz8_2, hcz8_3⟩ := cz4_ BK117; obtain ⟨hfz8_0, hfz8_1, hfz8_2, hfz8_3⟩ := fz4_ BK117
   go_wp2
   go_meet
   case rel => exact ⟨_, (decide ((l0_3.length : Int) > 20)), rf_, H', ⟨om_⟩, ⟨bk_ BK117⟩, ⟨hb1_ HB GE117⟩⟩
  rw [if_pos c6] at H; have c6b0 := decide_eq_true c6; clear c6; have H' := Aside0.mk H; clear H; obtain ⟨hcz7_0, hcz7_1, hcz7_2, hcz7_3⟩ := cz4_ BK117; obtain ⟨hfz7_0, hfz7_1, hfz7_2, hfz7_3⟩ := fz4_ BK117
  go_wp2
  go_meet
  case rel => exact ⟨_, (true), rf_, H', ⟨om_⟩, ⟨bk_ BK117⟩, ⟨hb1_ HB GE117⟩⟩
 case rest =>
  clear HC2; (try clear p2); (try clear c3); (try clear c4); (try clear c4b0); (try clear c6); (try clear c6b0); (try clear hcz5_0 hcz5_1 hcz5_2 hcz5_3); (try clear hcz7_0 hcz7_1 hcz7_2 hcz7_3); (try clear hcz8_0 hcz8_1 hcz8_2 hcz8_3); (try clear hfz5_0 hfz5_1 hfz5_2 hfz5_3); (try clear hfz7_0 hfz7_1 hfz7_2 hfz7_3)
  (try clear hfz8_0 hfz8_1 hfz8_2 hfz8_3); obtain ⟨kq, x19_1, rfl, HA, HJ1, BK117, HB⟩ := hcut
  cases kq with
  | zero => exact absurd HA.out (by simp [rules_Tax.j0])
  | succ kj1 =>
   have H := HA.out; clear HA
   simp only [rules_Tax.j0] at H
   by_cases c9 : x19_1 = true
   ·
    subst c9; rw [if_pos rfl] at H; obtain rfl := Option.some.inj H
    go_wp2
    go_ret
    exact ⟨er_, hb1_ HB GE117⟩
   replace c9 := Bool.eq_false_iff.mpr c9; subst c9; rw [if_neg nf_] at H; have H' := Aside0.mk H; clear H; obtain ⟨hcz10_0, hcz10_1, hcz10_2, hcz10_3⟩ := cz4_ BK117; obtain ⟨hfz10_0, hfz10_1, hfz10_2, hfz10_3⟩ := fz4_ BK117
   go_wp2
   go_loopg [3, 23] kj1 (fun kq v3 v23 w' => ∃ (x3_2 : List ByteArray) (x23_2 : Int), v23 = .int .i64 x23_2 ∧ Aside0 (rules_Tax.l0 kq x3_2 l0_3 (l0_3.length : Int) x23_2 = some r) ∧ Aside0 (kq ≤ kj1) ∧ Aside0 (Kd.R Kd.string 9 w' w.heap.size (fun _ => True) v3 x3_2) ∧ Aside0 (w'.heap[gb117]? = some (.cells #[.bool a0_0, .bool a0_1, .int .i64 a0_2, (.slice A0_3 l0_3.length c0_3)] 24 (0, 0))) ∧ Aside0 (Below w.heap.size w w'))
   case atStart => exact ⟨(([] : List ByteArray)), (0), rf_, H', ⟨Nat.le_refl _⟩, ⟨ni_⟩, ⟨bk_ BK117⟩, ⟨hb1_ HB GE117⟩⟩
   case round =>
    clear H'; (try clear p2); (try clear c3); (try clear c4); (try clear c4b0); (try clear c6); (try clear c6b0); (try clear c9); (try clear hcz10_0 hcz10_1 hcz10_2 hcz10_3); (try clear hcz5_0 hcz5_1 hcz5_2 hcz5_3); (try clear hcz7_0 hcz7_1 hcz7_2 hcz7_3); (try clear hcz8_0 hcz8_1 hcz8_2 hcz8_3); (try clear hfz10_0 hfz10_1 hfz10_2 hfz10_3)
    (try clear hfz5_0 hfz5_1 hfz5_2 hfz5_3); (try clear hfz7_0 hfz7_1 hfz7_2 hfz7_3); (try clear hfz8_0 hfz8_1 hfz8_2 hfz8_3); (try clear p2); obtain ⟨x3_2, x23_2, rfl, HA, HK2, HO_3, BK117, HB⟩ := hrel
    cases gk with
    | zero => exact absurd HA.out (by simp [rules_Tax.l0])
    | succ k2 =>
     have H := HA.out; clear HA
     simp only [rules_Tax.l0] at H
     by_cases c11 : x23_2 < (l0_3.length : Int)
     rotate_left
     ·
      rw [if_neg c11] at H; have c11b0 := decide_eq_false c11; clear c11; replace H := Option.bind_eq_some_iff.mp H; obtain ⟨t124, A270, H⟩ := H
      (try dsimp only at H)
      have A27 := Aside0.mk A270; clear A270; obtain rfl := Option.some.inj H; obtain ⟨Ao28, co28, eo28⟩ := Kd.R_slice HO_3.out; subst eo28
      go_wp2_with (first | (refine gl_ 53 37 Try.func53 #[.slice Ao28 x3_2.length co28] ?_; (with_reducible refine (goods_Rise.calls k2 _ _ x3_2 t124 _ ?side1 ?side2 A27.out).mono ?_); (case side1 => exact sc_ (Kd.R_reads' HO_3.out).2.2); (case side2 => exact (Kd.R_reads' HO_3.out).2.1); rintro e w' ⟨rfl, ⟨nd, rfl⟩⟩; refine ⟨_, rfl, ?_⟩))
      go_ret
      exact ⟨er_, hb1_ HB GE117⟩
     rw [if_pos c11] at H; have c11b0 := decide_eq_true c11; clear c11; replace H := ip_ H; obtain ⟨c12, H⟩ := H; have c12b0 := decide_eq_true c12; clear c12; replace H := ip_ H; obtain ⟨c13, H⟩ := H; have c13b0 := decide_eq_true c13; clear c13; replace H := Option.bind_eq_some_iff.mp H; obtain ⟨t120, A140, H⟩ := H
     (try dsimp only at H)
     have A14 := Aside0.mk A140; clear A140
     by_cases c15 : t120 = true
     rotate_left
     ·
      replace c15 := Bool.eq_false_iff.mpr c15; subst c15; rw [if_neg nf_] at H; obtain rfl := Option.some.inj H; have p118 : 0 ≤ (x23_2 : Int) := of_decide_eq_true as_; have q118 : x23_2 < (l0_3.length : Int) := of_decide_eq_true as_; obtain ⟨ad118, A118_1, c118_1, e118, hx118_0, hx118_1, hx118_2, hx118_3, hl118_1, hi118_1⟩ := at_T51 HR0_3.out x23_2 p118 q118
      cases e118; replace hx118_0 := hd_ HB hx118_0; replace hx118_1 := hd_ HB hx118_1; replace hx118_2 := hd_ HB hx118_2; replace hx118_3 := hd_ HB hx118_3; have HR118_1 := Aside0.mk hi118_1; have HC118_1 := Aside0.mk hl118_1; clear hi118_1 hl118_1; replace p118 := eq_true p118; replace q118 := eq_true q118
      go_wp2_with (first | ((with_reducible refine gate_dst (N := 5) rfl ?_); (try (refine gate_guard (by rfl) ?_; dsimp only)); refine box_event rf_ (N := 5) rf_ (cs := #[.string (⟨#[]⟩ : ByteArray), .slice none 0 0, .int .i64 0, .int .i64 0]) (t := 51) lr_ ?_; intro gb119 hg w23 hbox hb; replace HO_3 := Aside0.mk (Kd.R_below (ro_ HO_3) hb); have BK119 := Aside0.mk hbox; have GE119 := Aside0.mk (ge_ HB hg (hb1_ HB GE117)); replace HB := Aside0.mk (below_step (hb1_ HB GE117) hb); have NB117_119 := Aside0.mk (nl_ BK117 hg); have NB119_117 := Aside0.mk (ng_ BK117 hg); replace BK117 := Aside0.mk (bb_ BK117 hb); clear hb hbox hg; have hnb24 := NB119_117.out; have hnc24 := NB117_119.out; obtain ⟨hcz25_0, hcz25_1, hcz25_2, hcz25_3⟩ := cz4_ BK119; obtain ⟨hfz25_0, hfz25_1, hfz25_2, hfz25_3⟩ := fz4_ BK119) | (refine gl_ 52 28 Try.func52 #[.agg #[.string ((rd_T51 l0_3 x23_2).f0), .slice A118_1 ((rd_T51 l0_3 x23_2).f1).length c118_1, .int .i64 ((rd_T51 l0_3 x23_2).f2), .int .i64 ((rd_T51 l0_3 x23_2).f3)]] ?_; (with_reducible refine (rules_zone.calls k2 ((rd_T51 l0_3 x23_2).f0) _ _ ((rd_T51 l0_3 x23_2).f1) ((rd_T51 l0_3 x23_2).f2) ((rd_T51 l0_3 x23_2).f3) false _ ?side1 ?side2 A14.out).mono ?_); (case side1 => exact Kd.C_below HR118_1.out (hb2_ HB GE117 GE119)); (case side2 => exact HC118_1.out); rintro e w26 ⟨rfl, hb⟩; refine ⟨_, rfl, ?_⟩; replace HO_3 := Aside0.mk (Kd.R_below (by (with_reducible repeat (first | apply Kd.R_alloc | apply Kd.R_drewN | apply Kd.R_drew)); exact (rf1_ HO_3 BK119)) hb); replace BK117 := Aside0.mk (blk_below (g := gb117) (o := .cells #[.bool a0_0, .bool a0_1, .int .i64 a0_2, .slice (some ad118) l0_3.length c0_3] 24 (0, 0)) (bf4_ BK117 NB117_119 NB117_119 NB117_119 NB117_119) hb); replace BK119 := Aside0.mk (blk_below (g := gb119) (o := .cells #[.string ((rd_T51 l0_3 x23_2).f0), .slice A118_1 ((rd_T51 l0_3 x23_2).f1).length c118_1, .int .i64 ((rd_T51 l0_3 x23_2).f2), .int .i64 ((rd_T51 l0_3 x23_2).f3)] 51 (0, 0)) (bq0_ BK119) hb); replace HB := Aside0.mk (below_step (hb2_ HB GE117 GE119) hb); (try clear hb); (try clear hk)))
      go_ret
      exact ⟨er_, hb2_ HB GE117 GE119⟩
     subst c15; rw [if_pos rfl] at H; replace H := ip_ H; obtain ⟨c16, H⟩ := H; have LMc16 := Aside0.mk c16; clear c16; obtain ⟨y121, hy121⟩ : ∃ y_ : List ByteArray, y_ = (x3_2 ++ [(rd_T51 l0_3 x23_2).f0]) := ⟨_, rfl⟩; replace H : (rules_Tax.l0 k2 y121 l0_3 (l0_3.length : Int) (wrap64 (x23_2 + 1))) = some r := hy_ hy121 H
     have Ny121 := Aside0.mk hy121; clear hy121; have H' := Aside0.mk H; clear H; have p118 : 0 ≤ (x23_2 : Int) := of_decide_eq_true as_; have q118 : x23_2 < (l0_3.length : Int) := of_decide_eq_true as_; obtain ⟨ad118, A118_1, c118_1, e118, hx118_0, hx118_1, hx118_2, hx118_3, hl118_1, hi118_1⟩ := at_T51 HR0_3.out x23_2 p118 q118
     cases e118; replace hx118_0 := hd_ HB hx118_0; replace hx118_1 := hd_ HB hx118_1; replace hx118_2 := hd_ HB hx118_2; replace hx118_3 := hd_ HB hx118_3; have HR118_1 := Aside0.mk hi118_1; have HC118_1 := Aside0.mk hl118_1; clear hi118_1 hl118_1; replace p118 := eq_true p118; replace q118 := eq_true q118
     go_wp2_with (first | ((with_reducible refine gate_dst (N := 5) rfl ?_); (try (refine gate_guard (by rfl) ?_; dsimp only)); refine box_event rf_ (N := 5) rf_ (cs := #[.string (⟨#[]⟩ : ByteArray), .slice none 0 0, .int .i64 0, .int .i64 0]) (t := 51) lr_ ?_; intro gb119 hg w17 hbox hb; replace HO_3 := Aside0.mk (Kd.R_below (ro_ HO_3) hb); have BK119 := Aside0.mk hbox; have GE119 := Aside0.mk (ge_ HB hg (hb1_ HB GE117)); replace HB := Aside0.mk (below_step (hb1_ HB GE117) hb); have NB117_119 := Aside0.mk (nl_ BK117 hg); have NB119_117 := Aside0.mk (ng_ BK117 hg); replace BK117 := Aside0.mk (bb_ BK117 hb); clear hb hbox hg; have hnb18 := NB119_117.out; have hnc18 := NB117_119.out; obtain ⟨hcz19_0, hcz19_1, hcz19_2, hcz19_3⟩ := cz4_ BK119; obtain ⟨hfz19_0, hfz19_1, hfz19_2, hfz19_3⟩ := fz4_ BK119) | (refine gl_ 52 28 Try.func52 #[.agg #[.string ((rd_T51 l0_3 x23_2).f0), .slice A118_1 ((rd_T51 l0_3 x23_2).f1).length c118_1, .int .i64 ((rd_T51 l0_3 x23_2).f2), .int .i64 ((rd_T51 l0_3 x23_2).f3)]] ?_; (with_reducible refine (rules_zone.calls k2 ((rd_T51 l0_3 x23_2).f0) _ _ ((rd_T51 l0_3 x23_2).f1) ((rd_T51 l0_3 x23_2).f2) ((rd_T51 l0_3 x23_2).f3) true _ ?side1 ?side2 A14.out).mono ?_); (case side1 => exact Kd.C_below HR118_1.out (hb2_ HB GE117 GE119)); (case side2 => exact HC118_1.out); rintro e w20 ⟨rfl, hb⟩; refine ⟨_, rfl, ?_⟩; replace HO_3 := Aside0.mk (Kd.R_below (by (with_reducible repeat (first | apply Kd.R_alloc | apply Kd.R_drewN | apply Kd.R_drew)); exact (rf1_ HO_3 BK119)) hb); replace BK117 := Aside0.mk (blk_below (g := gb117) (o := .cells #[.bool a0_0, .bool a0_1, .int .i64 a0_2, .slice (some ad118) l0_3.length c0_3] 24 (0, 0)) (bf4_ BK117 NB117_119 NB117_119 NB117_119 NB117_119) hb); replace BK119 := Aside0.mk (blk_below (g := gb119) (o := .cells #[.string ((rd_T51 l0_3 x23_2).f0), .slice A118_1 ((rd_T51 l0_3 x23_2).f1).length c118_1, .int .i64 ((rd_T51 l0_3 x23_2).f2), .int .i64 ((rd_T51 l0_3 x23_2).f3)] 51 (0, 0)) (bq0_ BK119) hb); replace HB := Aside0.mk (below_step (hb2_ HB GE117 GE119) hb); (try clear hb); (try clear hk); obtain ⟨hcz21_0, hcz21_1, hcz21_2, hcz21_3⟩ := cz4_ BK119; obtain ⟨hfz21_0, hfz21_1, hfz21_2, hfz21_3⟩ := fz4_ BK119) | ((with_reducible refine gate_builtin (b := .append) (xs := #[.tmp 30, .tmp 33]) rfl ?_); (try (refine gate_guard (by rfl) ?_; dsimp only)); at_builtin; refine Kd.R_append Kd.string (w0 := w) w.heap.size rfl (.tmp 30) (.tmp 33) 25 9 (.string ⟨#[]⟩) 16 rfl Try.underlying25 info9 rfl (by decide) (by omega) u3 x3_2 ((rd_T51 l0_3 x23_2).f0) [.string ((rd_T51 l0_3 x23_2).f0)] (fun _ => True) (fun _ => False) rfl rfl ?aP (fun _ hk => hk.elim) ?aF ?aO ?aB ?aS ?aL ?_; (case aP => exact rfl); (case aB => exact (hb2_ HB GE117 GE119)); (case aF => exact (fun _ _ => trivial)); (case aO => exact (ro_ HO_3)); (case aS => exact (below_size (hb2_ HB GE117 GE119))); (case aL => have := LMc16.out; omega); intro v122 w22 ho hb hg hat; rw [← Ny121.out] at ho; have n0_ := Aside0.mk (blk_grown (g := gb117) (o := .cells #[.bool a0_0, .bool a0_1, .int .i64 a0_2, .slice (some ad118) l0_3.length c0_3] 24 (0, 0)) (bk_ BK117) hg (Kd.R_ne HO_3.out BK117.out (by decide))); have n1_ := Aside0.mk (blk_grown (g := gb119) (o := .cells #[.string ((rd_T51 l0_3 x23_2).f0), .slice A118_1 ((rd_T51 l0_3 x23_2).f1).length c118_1, .int .i64 ((rd_T51 l0_3 x23_2).f2), .int .i64 ((rd_T51 l0_3 x23_2).f3)] 51 (0, 0)) (bk_ BK119) hg (Kd.R_ne HO_3.out BK119.out (by decide))); have n2_ := Aside0.mk hb; have n3_ := Aside0.mk ho; clear BK117; clear BK119; clear HB; clear HO_3; have BK117 := n0_; have BK119 := n1_; have HB := n2_; have HO123 := n3_; clear n0_ n1_ n2_ n3_; clear ho hb hg hat))
     go_roundg k2
     case measure => have := HJ1.out; have := HK2.out; omega
     case rel => exact ⟨(y121), (wrap64 (x23_2 + 1)), rf_, H', ⟨ho2_ HJ1 HK2⟩, ⟨ro_ HO123⟩, ⟨bk_ BK117⟩, ⟨hb2_ HB GE117 GE119⟩⟩

end Go.Proofs.Ytmiamdnhofjifaa.Rw
end
section
/- Functions of the program as Lean functions, each with its contract: out of what the kit's printer wrote for this seat. -/
namespace Go.Proofs.Ytmiamdnhofjifaa.Rw
open Go.RowKit Go.Proofs.YtmiamdnhofjifaaW.PrintWords Go.Proofs.YtmiamdnhofjifaaW.PrintLast Go.Proofs.YtmiamdnhofjifaaW.PrintMore
attribute [local go_sem] max2_int min2_int max_two min_two max_three min_three max_four min_four   -- for this text's walks alone
set_option linter.unusedVariables false
set_option linter.unusedSimpArgs false
attribute [local go_sem high] leqS gtrS

/-! ### levy_amount: function 36 -/
def levy_amount.f (a0 : Int) : Option (Bool) := if a0 ≥ 0 then (some (decide (a0 ≤ 10000000000000))) else (some false)
set_option maxHeartbeats 8000000 in
set_option maxRecDepth 100000 in
theorem levy_amount.calls (a0 : Int) (r : Bool) (w : World) (h : levy_amount.f a0 = some r) :
 Calls Try.prog 36 #[.int .i64 a0] w fun e w' => e = .returned (.bool r) ∧ Drawn0 w w' := by
 have H : (if a0 ≥ 0 then (some (decide (a0 ≤ 10000000000000))) else (some false)) = some r := h
 clear h
 by_cases c2 : a0 ≥ 0
 rotate_left
 ·
  rw [if_neg c2] at H; have c2b0 := decide_eq_false c2; clear c2; obtain rfl := Option.some.inj H
  go_enter Try.func36, Try.ntmps36
  go_wp2
  go_ret
  exact ⟨rf_, dr_⟩
 rw [if_pos c2] at H
 have c2b0 := decide_eq_true c2
 clear c2
 obtain rfl := Option.some.inj H
 go_enter Try.func36, Try.ntmps36
 go_wp2
 go_ret
 exact ⟨rf_, dr_⟩

/-! ### levy_may: function 21 -/
mutual
def levy_may.j0 : Nat → List Int → Bool → Option (Bool)
 | 0, _, _ => none
 | k + 1, x2, x31 => if x31 = true then (some false) else (levy_may.l0 k 0 x2 (x2.length : Int) 0)
def levy_may.l0 : Nat → Int → List Int → Int → Int → Option (Bool)
 | 0, _, _, _, _ => none
 | k + 1, x9, x32, x33, x34 => if x34 < x33 then (if 0 ≤ x34 then (if x34 < (x32.length : Int) then ((levy_amount.f (rd x32 x34)).bind fun t129 => (if t129 = true then (levy_may.l0 k (wrap64 (x9 + (rd x32 x34))) x32 x33 (wrap64 (x34 + 1))) else (some false))) else (none)) else (none)) else ((levy_amount.f x9).bind fun t130 => (some t130))
end
def levy_may.f (k : Nat) (a0_0 : Bool) (a0_1 : Bool) (a0_2 : Int) (l0_3 : List (S51)) (l1 : List ByteArray) (l2 : List Int) (a3 : Int) : Option (Bool) := (rules_Tax.f k a0_0 a0_1 a0_2 l0_3).bind fun t126 => (if t126 = true then (if (l1.length : Int) = (l2.length : Int) then (if (l2.length : Int) > 1000 then (levy_may.j0 k l2 true) else ((levy_amount.f a3).bind fun t127 => (levy_may.j0 k l2 (!t127)))) else (levy_may.j0 k l2 true)) else (levy_may.j0 k l2 true))
set_option maxHeartbeats 8000000 in
set_option maxRecDepth 100000 in
theorem levy_may.calls (k : Nat) (a0_0 : Bool) (a0_1 : Bool) (a0_2 : Int) (A0_3 : Option Addr) (c0_3 : Nat) (l0_3 : List (S51)) (A1 : Option Addr) (c1 : Nat) (l1 : List ByteArray) (A2 : Option Addr) (c2 : Nat) (l2 : List Int) (a3 : Int) (r : Bool) (w : World) (hr0_3 : Kd.C k51 w A0_3 l0_3.length l0_3) (hc0_3 : l0_3.length ≤ c0_3) (hr1 : Kd.C Kd.string w A1 l1.length l1) (hc1 : l1.length ≤ c1) (hr2 : Kd.C (Kd.int .i64) w A2 l2.length l2) (hc2 : l2.length ≤ c2) (h : levy_may.f k a0_0 a0_1 a0_2 l0_3 l1 l2 a3 = some r) :
 Calls Try.prog 21 #[.agg #[.bool a0_0, .bool a0_1, .int .i64 a0_2, .slice A0_3 l0_3.length c0_3], .slice A1 l1.length c1, .slice A2 l2.length c2, .int .i64 a3] w fun e w' => e = .returned (.bool r) ∧ Below w.heap.size w w' := by
 have hu24 := Try.underlying24
 have HR0_3 := Aside0.mk hr0_3
 have HC0_3 := Aside0.mk hc0_3
 clear hr0_3 hc0_3
 have HR1 := Aside0.mk hr1
 have HC1 := Aside0.mk hc1
 clear hr1 hc1
 have HR2 := Aside0.mk hr2
 have HC2 := Aside0.mk hc2
 clear hr2 hc2
 have HB := Aside0.mk (Below.refl w.heap.size w)
 have H : ((rules_Tax.f k a0_0 a0_1 a0_2 l0_3).bind fun t126 => (if t126 = true then (if (l1.length : Int) = (l2.length : Int) then (if (l2.length : Int) > 1000 then (levy_may.j0 k l2 true) else ((levy_amount.f a3).bind fun t127 => (levy_may.j0 k l2 (!t127)))) else (levy_may.j0 k l2 true)) else (levy_may.j0 k l2 true))) = some r := h
 clear h
 have HC5 := Aside0.mk H
 clear H
 go_enter Try.func21, Try.ntmps21
 go_upto_region 1 with (first | ((with_reducible refine gate_dst (N := 4) rfl ?_); (try (refine gate_guard (by rfl) ?_; dsimp only)); refine box_event rf_ (N := 4) rf_ (cs := #[.bool a0_0, .bool a0_1, .int .i64 a0_2, .slice A0_3 l0_3.length c0_3]) (t := 24) lr_ ?_; intro gb125 hg w6 hbox hb; have BK125 := Aside0.mk hbox; have GE125 := Aside0.mk (ge_ HB hg (hb0_ HB)); replace HB := Aside0.mk (below_step (hb0_ HB) hb); clear hb hbox hg))
 (try simp only [Act.put, List.setIfInBounds_toArray, List.set_cons_zero, List.set_cons_succ])
 go_cut [31] (fun v31 wc => ∃ (kq : Nat) (x31_4 : Bool), v31 = .bool x31_4 ∧ Aside0 (levy_may.j0 kq l2 x31_4 = some r) ∧ Aside0 (kq ≤ k) ∧ Aside0 (wc.heap[gb125]? = some (.cells #[.bool a0_0, .bool a0_1, .int .i64 a0_2, (.slice A0_3 l0_3.length c0_3)] 24 (0, 0))) ∧ Aside0 (Below w.heap.size w wc))
 case first =>
  have H := HC5.out; clear HC5; replace H := Option.bind_eq_some_iff.mp H; obtain ⟨t126, A70, H⟩ := H
  (try dsimp only at H)
  have A7 := Aside0.mk A70; clear A70
  by_cases c8 : t126 = true
  rotate_left
  ·
   replace c8 := Bool.eq_false_iff.mpr c8; subst c8; rw [if_neg nf_] at H; have H' := Aside0.mk H; clear H; obtain ⟨hcz18_0, hcz18_1, hcz18_2, hcz18_3⟩ := cz4_ BK125; obtain ⟨hfz18_0, hfz18_1, hfz18_2, hfz18_3⟩ := fz4_ BK125
   go_wp2_with (first | (refine gl_ 35 13 Try.func35 #[.agg #[.bool a0_0, .bool a0_1, .int .i64 a0_2, .slice A0_3 l0_3.length c0_3]] ?_; (with_reducible refine (rules_Tax.calls k a0_0 a0_1 a0_2 _ _ l0_3 false _ ?side1 ?side2 A7.out).mono ?_); (case side1 => exact sc_ (Kd.C_below HR0_3.out HB.out)); (case side2 => exact HC0_3.out); rintro e w19 ⟨rfl, hb⟩; refine ⟨_, rfl, ?_⟩; replace BK125 := Aside0.mk (bb_ BK125 hb); replace HB := Aside0.mk (below_step (hb1_ HB GE125) hb); (try clear hb)))
   go_meet
   case rel => exact ⟨_, (true), rf_, H', ⟨om_⟩, ⟨bk_ BK125⟩, ⟨hb1_ HB GE125⟩⟩
  subst c8; rw [if_pos rfl] at H
  by_cases c9 : (l1.length : Int) = (l2.length : Int)
  rotate_left
  ·
   rw [if_neg c9] at H; have c9b0 : ((l1.length : Int) == (l2.length : Int)) = false := beq_eq_false_iff_ne.mpr c9; have c9b1 : ((l1.length : Int) != (l2.length : Int)) = true := bne_iff_ne.mpr c9
   have c9b2 : (l1.length == l2.length) = false := by first | simpa using c9 | (simp at c9 ⊢; omega)
   (first | rw [c9b0] | (simp only [i64_w, i32_w]; rw [c9b0]) | skip)
   have H' := Aside0.mk H; clear H; obtain ⟨hcz16_0, hcz16_1, hcz16_2, hcz16_3⟩ := cz4_ BK125; obtain ⟨hfz16_0, hfz16_1, hfz16_2, hfz16_3⟩ := fz4_ BK125
   go_wp2_with (first | (refine gl_ 35 13 Try.func35 #[.agg #[.bool a0_0, .bool a0_1, .int .i64 a0_2, .slice A0_3 l0_3.length c0_3]] ?_; (with_reducible refine (rules_Tax.calls k a0_0 a0_1 a0_2 _ _ l0_3 true _ ?side1 ?side2 A7.out).mono ?_); (case side1 => exact sc_ (Kd.C_below HR0_3.out HB.out)); (case side2 => exact HC0_3.out); rintro e w17 ⟨rfl, hb⟩; refine ⟨_, rfl, ?_⟩; replace BK125 := Aside0.mk (bb_ BK125 hb); replace HB := Aside0.mk (below_step (hb1_ HB GE125) hb); (try clear hb)))
   go_meet
   case rel => exact ⟨_, (true), rf_, H', ⟨om_⟩, ⟨bk_ BK125⟩, ⟨hb1_ HB GE125⟩⟩
  rw [if_pos c9] at H; have c9b0 : ((l1.length : Int) == (l2.length : Int)) = true := beq_iff_eq.mpr c9; have c9b1 : ((l1.length : Int) != (l2.length : Int)) = false := bne_eq_false_iff_eq.mpr c9
  have c9b2 : (l1.length == l2.length) = true := by first | simpa using c9 | (simp at c9 ⊢; omega)
  clear c9
  (first | rw [c9b0] | (simp only [i64_w, i32_w]; rw [c9b0]) | skip)
  by_cases c10 : (l2.length : Int) > 1000
  ·
   rw [if_pos c10] at H; have c10b0 := decide_eq_true c10
   have c10b1 : decide (1000 < l2.length) = true := decide_eq_true (by omega)
   clear c10; have H' := Aside0.mk H; clear H; obtain ⟨hcz11_0, hcz11_1, hcz11_2, hcz11_3⟩ := cz4_ BK125; obtain ⟨hfz11_0, hfz11_1, hfz11_2, hfz11_3⟩ := fz4_ BK125
   go_wp2_with (first | (refine gl_ 35 13 Try.func35 #[.agg #[.bool a0_0, .bool a0_1, .int .i64 a0_2, .slice A0_3 l0_3.length c0_3]] ?_; (with_reducible refine (rules_Tax.calls k a0_0 a0_1 a0_2 _ _ l0_3 true _ ?side1 ?side2 A7.out).mono ?_); (case side1 => exact sc_ (Kd.C_below HR0_3.out HB.out)); (case side2 => exact HC0_3.out); rintro e w12 ⟨rfl, hb⟩; refine ⟨_, rfl, ?_⟩; replace BK125 := Aside0.mk (bb_ BK125 hb); replace HB := Aside0.mk (below_step (hb1_ HB GE125) hb); (try clear hb)))
   go_meet
   case rel => exact ⟨_, (true), rf_, H', ⟨om_⟩, ⟨bk_ BK125⟩, ⟨hb1_ HB GE125⟩⟩
  rw [if_neg c10] at H; have c10b0 := decide_eq_false c10
  have c10b1 : decide (1000 < l2.length) = false := decide_eq_false (by omega)
  clear c10; replace H := Option.bind_eq_some_iff.mp H; obtain ⟨t127, A130, H⟩ := H
  (try dsimp only at H)
  have A13 := Aside0.mk A130; clear A130; have H' := Aside0.mk H; clear H; obtain ⟨hcz14_0, hcz14_1, hcz14_2, hcz14_3⟩ := cz4_ BK125; obtain ⟨hfz14_0, hfz14_1, hfz14_2, hfz14_3⟩ := fz4_ BK125
  go_wp2_with (first | (refine gl_ 35 13 Try.func35 #[.agg #[.bool a0_0, .bool a0_1, .int .i64 a0_2, .slice A0_3 l0_3.length c0_3]] ?_; (with_reducible refine (rules_Tax.calls k a0_0 a0_1 a0_2 _ _ l0_3 true _ ?side1 ?side2 A7.out).mono ?_); (case side1 => exact sc_ (Kd.C_below HR0_3.out HB.out)); (case side2 => exact HC0_3.out); rintro e w15 ⟨rfl, hb⟩; refine ⟨_, rfl, ?_⟩; replace BK125 := Aside0.mk (bb_ BK125 hb); replace HB := Aside0.mk (below_step (hb1_ HB GE125) hb); (try clear hb)) | (go_at_call 36; (with_reducible refine (levy_amount.calls a3 t127 _ A13.out).mono ?_); rintro e w' ⟨rfl, ⟨nd, rfl⟩⟩))
  go_meet
  case rel => exact ⟨_, (!t127), rf_, H', ⟨om_⟩, ⟨bk_ BK125⟩, ⟨hb1_ HB GE125⟩⟩
 case rest =>
  clear HC5; (try clear c1); (try clear c2); (try clear p2); (try clear c3); (try clear c8); (try clear c9); (try clear c9b0); (try clear c9b1); (try clear c9b2); (try clear c10); (try clear c10b0); (try clear c10b1); (try clear hcz11_0 hcz11_1 hcz11_2 hcz11_3); (try clear hcz14_0 hcz14_1 hcz14_2 hcz14_3)
  (try clear hcz16_0 hcz16_1 hcz16_2 hcz16_3); (try clear hcz18_0 hcz18_1 hcz18_2 hcz18_3); (try clear hfz11_0 hfz11_1 hfz11_2 hfz11_3); (try clear hfz14_0 hfz14_1 hfz14_2 hfz14_3); (try clear hfz16_0 hfz16_1 hfz16_2 hfz16_3); (try clear hfz18_0 hfz18_1 hfz18_2 hfz18_3); obtain ⟨kq, x31_4, rfl, HA, HJ4, BK125, HB⟩ := hcut
  cases kq with
  | zero => exact absurd HA.out (by simp [levy_may.j0])
  | succ kj4 =>
   have H := HA.out; clear HA
   simp only [levy_may.j0] at H
   by_cases c20 : x31_4 = true
   ·
    subst c20; rw [if_pos rfl] at H; obtain rfl := Option.some.inj H
    go_wp2
    go_ret
    exact ⟨er_, hb1_ HB GE125⟩
   replace c20 := Bool.eq_false_iff.mpr c20; subst c20; rw [if_neg nf_] at H; have H' := Aside0.mk H; clear H
   go_wp2
   go_loopg [9, 34] kj4 (fun kq v9 v34 w' => ∃ (x9_2 : Int) (x34_2 : Int), v9 = .int .i64 x9_2 ∧ v34 = .int .i64 x34_2 ∧ Aside0 (levy_may.l0 kq x9_2 l2 (l2.length : Int) x34_2 = some r) ∧ Aside0 (kq ≤ kj4) ∧ Aside0 (w'.heap[gb125]? = some (.cells #[.bool a0_0, .bool a0_1, .int .i64 a0_2, (.slice A0_3 l0_3.length c0_3)] 24 (0, 0))) ∧ Aside0 (Below w.heap.size w w'))
   case atStart => exact ⟨(0), (0), rf_, rf_, H', ⟨Nat.le_refl _⟩, ⟨bk_ BK125⟩, ⟨hb1_ HB GE125⟩⟩
   case round =>
    clear H'; (try clear c1); (try clear c2); (try clear p2); (try clear c3); (try clear c8); (try clear c9); (try clear c9b0); (try clear c9b1); (try clear c9b2); (try clear c10); (try clear c10b0); (try clear c10b1); (try clear c20); (try clear hcz11_0 hcz11_1 hcz11_2 hcz11_3); (try clear hcz14_0 hcz14_1 hcz14_2 hcz14_3)
    (try clear hcz16_0 hcz16_1 hcz16_2 hcz16_3); (try clear hcz18_0 hcz18_1 hcz18_2 hcz18_3); (try clear hfz11_0 hfz11_1 hfz11_2 hfz11_3); (try clear hfz14_0 hfz14_1 hfz14_2 hfz14_3); (try clear hfz16_0 hfz16_1 hfz16_2 hfz16_3); (try clear hfz18_0 hfz18_1 hfz18_2 hfz18_3); (try clear p2); obtain ⟨x9_2, x34_2, rfl, rfl, HA, HK2, BK125, HB⟩ := hrel
    cases gk with
    | zero => exact absurd HA.out (by simp [levy_may.l0])
    | succ k2 =>
     have H := HA.out; clear HA
     simp only [levy_may.l0] at H
     by_cases c21 : x34_2 < (l2.length : Int)
     rotate_left
     ·
      rw [if_neg c21] at H; have c21b0 := decide_eq_false c21; clear c21; replace H := Option.bind_eq_some_iff.mp H; obtain ⟨t130, A260, H⟩ := H
      (try dsimp only at H)
      have A26 := Aside0.mk A260; clear A260; obtain rfl := Option.some.inj H
      go_wp2_with (first | (refine gl_ 36 46 Try.func36 #[.int .i64 x9_2] ?_; (with_reducible refine (levy_amount.calls x9_2 t130 _ A26.out).mono ?_); rintro e w' ⟨rfl, ⟨nd, rfl⟩⟩; refine ⟨_, rfl, ?_⟩))
      go_ret
      exact ⟨er_, hb1_ HB GE125⟩
     rw [if_pos c21] at H; have c21b0 := decide_eq_true c21; clear c21; replace H := ip_ H; obtain ⟨c22, H⟩ := H; have c22b0 := decide_eq_true c22; clear c22; replace H := ip_ H; obtain ⟨c23, H⟩ := H; have c23b0 := decide_eq_true c23; clear c23; replace H := Option.bind_eq_some_iff.mp H; obtain ⟨t129, A240, H⟩ := H
     (try dsimp only at H)
     have A24 := Aside0.mk A240; clear A240
     by_cases c25 : t129 = true
     rotate_left
     ·
      replace c25 := Bool.eq_false_iff.mpr c25; subst c25; rw [if_neg nf_] at H; obtain rfl := Option.some.inj H; have p128 : 0 ≤ (x34_2 : Int) := of_decide_eq_true as_; have q128 : x34_2 < (l2.length : Int) := of_decide_eq_true as_; obtain ⟨ad128, e128, hx128_0⟩ := Kd.at_int HR2.out x34_2 p128 q128
      cases e128; replace hx128_0 := hd_ HB hx128_0; replace p128 := eq_true p128; replace q128 := eq_true q128
      go_wp2_with (first | (refine gl_ 36 39 Try.func36 #[.int .i64 (rd l2 x34_2)] ?_; (with_reducible refine (levy_amount.calls (rd l2 x34_2) false _ A24.out).mono ?_); rintro e w' ⟨rfl, ⟨nd, rfl⟩⟩; refine ⟨_, rfl, ?_⟩))
      go_ret
      exact ⟨er_, hb1_ HB GE125⟩
     subst c25; rw [if_pos rfl] at H; have H' := Aside0.mk H; clear H; have p128 : 0 ≤ (x34_2 : Int) := of_decide_eq_true as_; have q128 : x34_2 < (l2.length : Int) := of_decide_eq_true as_; obtain ⟨ad128, e128, hx128_0⟩ := Kd.at_int HR2.out x34_2 p128 q128; cases e128; replace hx128_0 := hd_ HB hx128_0
     replace p128 := eq_true p128; replace q128 := eq_true q128
     go_wp2_with (first | (refine gl_ 36 39 Try.func36 #[.int .i64 (rd l2 x34_2)] ?_; (with_reducible refine (levy_amount.calls (rd l2 x34_2) true _ A24.out).mono ?_); rintro e w' ⟨rfl, ⟨nd, rfl⟩⟩; refine ⟨_, rfl, ?_⟩))
     go_roundg k2
     case measure => have := HJ4.out; have := HK2.out; omega
     case rel => exact ⟨(wrap64 (x9_2 + (rd l2 x34_2))), (wrap64 (x34_2 + 1)), rf_, rf_, H', ⟨ho2_ HJ4 HK2⟩, ⟨bk_ BK125⟩, ⟨hb1_ HB GE125⟩⟩

/-! ### levy_much: function 26 -/
def levy_much.f (a0_0 : Bool) (a0_1 : Bool) (a0_2 : Int) (l0_3 : List (S51)) (a1 : Int) (a2 : Int) : Option (Int) := if a0_0 = true then ((money_Times.f a1 a2 (wrap64 (10000 + a2)) a0_2).bind fun bt159 => (some bt159.1)) else ((money_Times.f a1 a2 10000 a0_2).bind fun bt161 => (some bt161.1))
set_option maxHeartbeats 8000000 in
set_option maxRecDepth 100000 in
theorem levy_much.calls (a0_0 : Bool) (a0_1 : Bool) (a0_2 : Int) (A0_3 : Option Addr) (c0_3 : Nat) (l0_3 : List (S51)) (a1 : Int) (a2 : Int) (r : Int) (w : World) (hr0_3 : Kd.C k51 w A0_3 l0_3.length l0_3) (hc0_3 : l0_3.length ≤ c0_3) (h : levy_much.f a0_0 a0_1 a0_2 l0_3 a1 a2 = some r) :
 Calls Try.prog 26 #[.agg #[.bool a0_0, .bool a0_1, .int .i64 a0_2, .slice A0_3 l0_3.length c0_3], .int .i64 a1, .int .i64 a2] w fun e w' => e = .returned (.int .i64 r) ∧ Below w.heap.size w w' := by
 have hu24 := Try.underlying24
 have HR0_3 := Aside0.mk hr0_3
 have HC0_3 := Aside0.mk hc0_3
 clear hr0_3 hc0_3
 have HB := Aside0.mk (Below.refl w.heap.size w)
 have H : (if a0_0 = true then ((money_Times.f a1 a2 (wrap64 (10000 + a2)) a0_2).bind fun bt159 => (some bt159.1)) else ((money_Times.f a1 a2 10000 a0_2).bind fun bt161 => (some bt161.1))) = some r := h
 clear h
 by_cases c4 : a0_0 = true
 ·
  subst c4; rw [if_pos rfl] at H; replace H := Option.bind_eq_some_iff.mp H; obtain ⟨⟨t159, t160⟩, A50, H⟩ := H
  (try dsimp only at H)
  have A5 := Aside0.mk A50; clear A50; obtain rfl := Option.some.inj H
  go_enter Try.func26, Try.ntmps26
  go_wp2_with (first | ((with_reducible refine gate_dst (N := 3) rfl ?_); refine box_event rf_ (N := 3) rf_ (cs := #[.bool true, .bool a0_1, .int .i64 a0_2, .slice A0_3 l0_3.length c0_3]) (t := 24) lr_ ?_; intro gb158 hg w6 hbox hb; have BK158 := Aside0.mk hbox; have GE158 := Aside0.mk (ge_ HB hg (hb0_ HB)); replace HB := Aside0.mk (below_step (hb0_ HB) hb); clear hb hbox hg; obtain ⟨hcz7_0, hcz7_1, hcz7_2, hcz7_3⟩ := cz4_ BK158; obtain ⟨hfz7_0, hfz7_1, hfz7_2, hfz7_3⟩ := fz4_ BK158) | (refine gl_ 44 21 Try.func44 #[.int .i64 a1, .int .i64 a2, .int .i64 (wrap64 (10000 + a2)), .int .i64 a0_2] ?_; (with_reducible refine (money_Times.calls a1 a2 (wrap64 (10000 + a2)) a0_2 t159 t160 _ A5.out).mono ?_); rintro e w8 ⟨rfl, hb⟩; refine ⟨_, rfl, ?_⟩; replace BK158 := Aside0.mk (bb_ BK158 hb); replace HB := Aside0.mk (below_step (hb1_ HB GE158) hb); (try clear hb)))
  go_ret
  exact ⟨er_, hb1_ HB GE158⟩
 replace c4 := Bool.eq_false_iff.mpr c4
 subst c4
 rw [if_neg nf_] at H
 replace H := Option.bind_eq_some_iff.mp H
 obtain ⟨⟨t161, t162⟩, A90, H⟩ := H
 (try dsimp only at H)
 have A9 := Aside0.mk A90
 clear A90
 obtain rfl := Option.some.inj H
 go_enter Try.func26, Try.ntmps26
 go_wp2_with (first | ((with_reducible refine gate_dst (N := 3) rfl ?_); refine box_event rf_ (N := 3) rf_ (cs := #[.bool false, .bool a0_1, .int .i64 a0_2, .slice A0_3 l0_3.length c0_3]) (t := 24) lr_ ?_; intro gb158 hg w10 hbox hb; have BK158 := Aside0.mk hbox; have GE158 := Aside0.mk (ge_ HB hg (hb0_ HB)); replace HB := Aside0.mk (below_step (hb0_ HB) hb); clear hb hbox hg; obtain ⟨hcz11_0, hcz11_1, hcz11_2, hcz11_3⟩ := cz4_ BK158; obtain ⟨hfz11_0, hfz11_1, hfz11_2, hfz11_3⟩ := fz4_ BK158) | (refine gl_ 44 21 Try.func44 #[.int .i64 a1, .int .i64 a2, .int .i64 10000, .int .i64 a0_2] ?_; (with_reducible refine (money_Times.calls a1 a2 10000 a0_2 t161 t162 _ A9.out).mono ?_); rintro e w12 ⟨rfl, hb⟩; refine ⟨_, rfl, ?_⟩; replace BK158 := Aside0.mk (bb_ BK158 hb); replace HB := Aside0.mk (below_step (hb1_ HB GE158) hb); (try clear hb)))
 go_ret
 exact ⟨er_, hb1_ HB GE158⟩

end Go.Proofs.Ytmiamdnhofjifaa.Rw
end
section
/- Functions of the program as Lean functions, each with its contract: out of what the kit's printer wrote for this seat. -/
namespace Go.Proofs.Ytmiamdnhofjifaa.Rw
open Go.RowKit Go.Proofs.YtmiamdnhofjifaaW.PrintWords Go.Proofs.YtmiamdnhofjifaaW.PrintLast Go.Proofs.YtmiamdnhofjifaaW.PrintMore
attribute [local go_sem] max2_int min2_int max_two min_two max_three min_three max_four min_four   -- for this text's walks alone
set_option linter.unusedVariables false
set_option linter.unusedSimpArgs false
attribute [local go_sem high] leqS gtrS

/-! ### levy_byLine: function 24 -/
def levy_byLine.l0 : Nat → List Int → List Int → List Int → Int → Int → Bool → Bool → Int → List (S51) → Option (List Int)
 | 0, _, _, _, _, _, _, _, _, _ => none
 | k + 1, x1, x7, x10, x11, x12, x164000, x164001, x164002, x164003 => if x12 < x11 then (if 0 ≤ x12 then (if x12 < (x10.length : Int) then (if x12 < (x1.length : Int) then ((levy_much.f x164000 x164001 x164002 x164003 (rd x10 x12) (rd x1 x12)).bind fun t166 => (if x7.length < 17592186044416 then (levy_byLine.l0 k x1 (x7 ++ [t166]) x10 x11 (wrap64 (x12 + 1)) x164000 x164001 x164002 x164003) else (none))) else (none)) else (none)) else (none)) else (some x7)
def levy_byLine.f (k : Nat) (a0_0 : Bool) (a0_1 : Bool) (a0_2 : Int) (l0_3 : List (S51)) (l1 : List Int) (l2 : List Int) : Option (List Int) := levy_byLine.l0 k l1 ([] : List Int) l2 (l2.length : Int) 0 a0_0 a0_1 a0_2 l0_3
def levy_byLine.T5 : Bool × List (List Nat × List Nat) := (true, [([], []), ([], []), ([], []), ([], []), ([], []), ([3, 4], [3, 4]), ([5], [5]), ([1, 2, 6], [1, 2, 6]), ([7], [7]), ([0, 8, 7], [0, 8]), ([9, 9, 0, 1, 2, 3, 4, 5, 6, 7, 8, 9], [0, 9])])
def levy_byLine.B5 : List Nat := [0, 0, 0, 0, 0, 24, 56, 126, 254, 511, 1023]
theorem levy_byLine.tab5 : rtab .any (opsOf Try.f24 5) = levy_byLine.T5 := by kernel_rfl
theorem levy_byLine.bits5 : waitsOk levy_byLine.T5.2 levy_byLine.B5 = true := by kernel_rfl
set_option maxHeartbeats 8000000 in
set_option maxRecDepth 100000 in
theorem levy_byLine.calls (k : Nat) (a0_0 : Bool) (a0_1 : Bool) (a0_2 : Int) (A0_3 : Option Addr) (c0_3 : Nat) (l0_3 : List (S51)) (A1 : Option Addr) (c1 : Nat) (l1 : List Int) (A2 : Option Addr) (c2 : Nat) (l2 : List Int) (r : List Int) (w : World) (hr0_3 : Kd.C k51 w A0_3 l0_3.length l0_3) (hc0_3 : l0_3.length ≤ c0_3) (hr1 : Kd.C (Kd.int .i64) w A1 l1.length l1) (hc1 : l1.length ≤ c1) (hr2 : Kd.C (Kd.int .i64) w A2 l2.length l2) (hc2 : l2.length ≤ c2) (h : levy_byLine.f k a0_0 a0_1 a0_2 l0_3 l1 l2 = some r) :
 Calls Try.prog 24 #[.agg #[.bool a0_0, .bool a0_1, .int .i64 a0_2, .slice A0_3 l0_3.length c0_3], .slice A1 l1.length c1, .slice A2 l2.length c2] w fun e w' => ∃ v0_ : Value, e = .returned (v0_) ∧ Kd.R (Kd.int .i64) 2 w' w.heap.size (fun _ => True) v0_ r ∧ Below w.heap.size w w' := by
 have hu24 := Try.underlying24
 have HR0_3 := Aside0.mk hr0_3
 have HC0_3 := Aside0.mk hc0_3
 clear hr0_3 hc0_3
 have HR1 := Aside0.mk hr1
 have HC1 := Aside0.mk hc1
 clear hr1 hc1
 have HR2 := Aside0.mk hr2
 have HC2 := Aside0.mk hc2
 clear hr2 hc2
 have HB := Aside0.mk (Below.refl w.heap.size w)
 have H : (levy_byLine.l0 k l1 ([] : List Int) l2 (l2.length : Int) 0 a0_0 a0_1 a0_2 l0_3) = some r := h
 clear h
 have H' := Aside0.mk H
 clear H
 go_enter Try.func24, Try.ntmps24
 go_wp2_with (first | ((with_reducible refine gate_dst (N := 3) rfl ?_); refine box_event rf_ (N := 3) rf_ (cs := #[.bool a0_0, .bool a0_1, .int .i64 a0_2, .slice A0_3 l0_3.length c0_3]) (t := 24) lr_ ?_; intro gb163 hg w4 hbox hb; have BK163 := Aside0.mk hbox; have GE163 := Aside0.mk (ge_ HB hg (hb0_ HB)); replace HB := Aside0.mk (below_step (hb0_ HB) hb); clear hb hbox hg))
 go_loopg [7, 12] k (fun kq v7 v12 w' => ∃ (x7_1 : List Int) (x12_1 : Int), v12 = .int .i64 x12_1 ∧ Aside0 (levy_byLine.l0 kq l1 x7_1 l2 (l2.length : Int) x12_1 a0_0 a0_1 a0_2 l0_3 = some r) ∧ Aside0 (kq ≤ k) ∧ Aside0 (Kd.R (Kd.int .i64) 2 w' w.heap.size (fun _ => True) v7 x7_1) ∧ Aside0 (w'.heap[gb163]? = some (.cells #[.bool a0_0, .bool a0_1, .int .i64 a0_2, (.slice A0_3 l0_3.length c0_3)] 24 (0, 0))) ∧ Aside0 (Below w.heap.size w w'))
 case atStart => exact ⟨(([] : List Int)), (0), rf_, H', ⟨Nat.le_refl _⟩, ⟨ni_⟩, ⟨bk_ BK163⟩, ⟨hb1_ HB GE163⟩⟩
 case round =>
  clear H'; (try clear c1); (try clear c2); (try clear p2); obtain ⟨x7_1, x12_1, rfl, HA, HK1, HO_7, BK163, HB⟩ := hrel
  cases gk with
  | zero => exact absurd HA.out (by simp [levy_byLine.l0])
  | succ k1 =>
   have H := HA.out; clear HA
   simp only [levy_byLine.l0] at H
   by_cases c5 : x12_1 < (l2.length : Int)
   rotate_left
   ·
    rw [if_neg c5] at H; have c5b0 := decide_eq_false c5; clear c5; obtain rfl := Option.some.inj H
    go_wp2
    go_ret
    exact ⟨_, er_, ro_ HO_7, hb1_ HB GE163⟩
   rw [if_pos c5] at H; have c5b0 := decide_eq_true c5; clear c5; replace H := ip_ H; obtain ⟨c6, H⟩ := H; have c6b0 := decide_eq_true c6; clear c6; replace H := ip_ H; obtain ⟨c7, H⟩ := H; have c7b0 := decide_eq_true c7; clear c7; replace H := ip_ H; obtain ⟨c8, H⟩ := H; have c8b0 := decide_eq_true c8
   clear c8; replace H := Option.bind_eq_some_iff.mp H; obtain ⟨t166, A90, H⟩ := H
   (try dsimp only at H)
   have A9 := Aside0.mk A90; clear A90; replace H := ip_ H; obtain ⟨c10, H⟩ := H; have LMc10 := Aside0.mk c10; clear c10; obtain ⟨y167, hy167⟩ : ∃ y_ : List Int, y_ = (x7_1 ++ [t166]) := ⟨_, rfl⟩; replace H : (levy_byLine.l0 k1 l1 y167 l2 (l2.length : Int) (wrap64 (x12_1 + 1)) a0_0 a0_1 a0_2 l0_3) = some r := hy_ hy167 H
   have Ny167 := Aside0.mk hy167; clear hy167; have H' := Aside0.mk H; clear H; have p164 : 0 ≤ (x12_1 : Int) := of_decide_eq_true as_; have q164 : x12_1 < (l2.length : Int) := of_decide_eq_true as_; obtain ⟨ad164, e164, hx164_0⟩ := Kd.at_int HR2.out x12_1 p164 q164; cases e164; replace hx164_0 := hd_ HB hx164_0
   replace p164 := eq_true p164; replace q164 := eq_true q164
   try go_wp2
   replace HO_7 := Aside0.mk (Kd.R_drew HO_7.out); replace BK163 := Aside0.mk (blk_drew BK163.out); replace HB := Aside0.mk (below_drew1 HB.out); have p165 : 0 ≤ (x12_1 : Int) := of_decide_eq_true as_; have q165 : x12_1 < (l1.length : Int) := of_decide_eq_true as_; obtain ⟨ad165, e165, hx165_0⟩ := Kd.at_int HR1.out x12_1 p165 q165
   have hw165_0 := hx165_0; cases e165; replace hx165_0 := hd_ HB hx165_0; replace p165 := eq_true p165; replace q165 := eq_true q165
   refine start_ (n := 11) (S := fun w' => w'.cell? ⟨gb163, 0, none⟩ = some (.bool a0_0) ∧ w'.cell? ⟨gb163, 1, none⟩ = some (.bool a0_1) ∧ w'.cell? ⟨gb163, 2, none⟩ = some (.int .i64 a0_2) ∧ w'.cell? ⟨gb163, 3, none⟩ = some (.slice A0_3 l0_3.length c0_3) ∧ w'.cell? (ad165.add (x12_1).toNat) = some (.int .i64 (rd l1 x12_1))) (ds := []) (mk 11 0) (by kernel_rfl) rfl rfl ⟨cl_ BK163 0, cl_ BK163 1, cl_ BK163 2, cl_ BK163 3, (hc_ HB hw165_0)⟩ (fun hHeld => ?_); refine with_tabW levy_byLine.tab5 levy_byLine.bits5 (fun HT_ HW_ => ?_)
   generalize wr.drew = w11 at HO_7 BK163 HB hx165_0 hHeld ⊢
   refine ahead_ [(0, 17), (2, 19), (3, 20), (4, 21), (5, 22)] ?_
   iterate 5 (refine pB_ HT_ ?_)
   refine aheadE_ (mk 11 61) kr_ ?_
   refine ahead_ [(1, 18), (6, 23)] ?_
   iterate 2 (refine tA_ (v := ?_) (a' := ?_) rfl rfl HT_.out HW_.out (by kernel_rfl) (fun _ _ _ h => h) (Or.inl ⟨by rfl, ?_⟩) hHeld ?_ ?_; rotate_left; (rintro w' ⟨s0, s1, s2, s3, s4⟩; go_simp; with_reducible rfl); rotate_left; (exact pu_))
   refine aheadE_ (mk 11 127) kr_ ?_
   refine one_ (i := 7) (N := some 24) (mk 11 255) rfl rfl (on_ HT_) de_ (fun K hK => ?_)
   refine goes_ Try.func26 (by kernel_rfl) rfl #[.agg #[.bool a0_0, .bool a0_1, .int .i64 a0_2, .slice A0_3 l0_3.length c0_3], .int .i64 (rd l2 x12_1), .int .i64 (rd l1 x12_1)] (by rfl) rfl rfl am_ ?_
   with_reducible refine (levy_much.calls a0_0 a0_1 a0_2 _ _ l0_3 (rd l2 x12_1) (rd l1 x12_1) t166 _ ?side1 ?side2 A9.out).mono ?_
   (case side1 => exact sc_ (Kd.C_below HR0_3.out HB.out))
   (case side2 => exact HC0_3.out)
   rintro e w12 ⟨rfl, hb⟩
   refine ⟨_, rfl, ?_⟩
   replace HO_7 := Aside0.mk (Kd.R_below (ro_ HO_7) hb); replace BK163 := Aside0.mk (bb_ BK163 hb); replace HB := Aside0.mk (below_step (hb1_ HB GE163) hb); (try clear hb); (try clear hb2); (try clear hk); (try clear hi)
   refine hK.out _ _ ⟨cl_ BK163 0, cl_ BK163 1, cl_ BK163 2, cl_ BK163 3, (hc_ HB hw165_0)⟩ (fun hHeld => ?_)
   clear hK K
   refine norm_ pv_ ?_
   refine one_ (i := 8) (N := some 25) (mk 11 511) rfl rfl (on_ HT_) de_ (fun K hK => ?_)
   refine value_ (w1 := ?_) (v := ?_) (by rfl) rfl ?_ ?_
   rotate_left 2
   ·
    go_simp
    constructor
    ·
     rfl
    ·
     rfl
   refine hK.out _ _ ⟨(blk_cell (blk_alloc BK163.out _) 0).trans rfl, (blk_cell (blk_alloc BK163.out _) 1).trans rfl, (blk_cell (blk_alloc BK163.out _) 2).trans rfl, (blk_cell (blk_alloc BK163.out _) 3).trans rfl, (World.cell?_alloc_lt _ _ _ (World.block_lt_of_cell? _ _ ((hc_ HB hw165_0)))).trans ((hc_ HB hw165_0))⟩ (fun hHeld => ?_)
   clear hK K
   refine norm_ pv_ ?_
   refine one_ (i := 9) (N := some 26) (mk 11 1023) rfl rfl (on_ HT_) de_ (fun K hK => ?_)
   refine Kd.R_append_step (Kd.int .i64) (w0 := w) w.heap.size (by rfl) (.tmp 17) (.tmp 25) 26 2 (.int .i64 0) 8 rfl Try.underlying26 info2 rfl (by decide) (by omega) u7 x7_1 t166 [.int .i64 t166] (fun _ => True) (fun _ => False) rfl rfl ?aP (fun _ hk => hk.elim) ?aF ?aO ?aB ?aS ?aL ?_
   (case aP => exact rfl)
   (case aB => exact (hb1_ HB GE163))
   (case aF => exact (fun _ _ => trivial))
   (case aO => exact (ro_ HO_7))
   (case aS => exact (below_size (hb1_ HB GE163)))
   (case aL => have := LMc10.out; omega)
   intro v168 w13 ho hb hg hat
   rw [← Ny167.out] at ho
   have n0_ := Aside0.mk (blk_grown (g := gb163) (o := .cells #[.bool a0_0, .bool a0_1, .int .i64 a0_2, .slice A0_3 l0_3.length c0_3] 24 (0, 0)) (bk_ BK163) hg (Kd.R_ne HO_7.out BK163.out (by decide)))
   have n1_ := Aside0.mk hb; have n2_ := Aside0.mk ho; clear BK163; clear HB; clear HO_7; have BK163 := n0_; have HB := n1_; have HO169 := n2_; clear n0_ n1_ n2_; clear ho hb hg hat
   refine hK.out _ _ ⟨cl_ BK163 0, cl_ BK163 1, cl_ BK163 2, cl_ BK163 3, (hc_ HB hw165_0)⟩ (fun hHeld => ?_)
   clear hK K
   refine norm_ pv_ ?_
   refine pure_ (i := 10) (N := some 7) (v := ?_) (a' := ?_) (mk 11 2047) rfl rfl (an_ HT_) nh_ (Or.inl ⟨ry_, ?_⟩) ?_ ?_
   rotate_left; (intro w'; go_simp; with_reducible rfl)
   rotate_left; (exact pu_)
   refine done_ (done_of HT_.out (by kernel_rfl)) ?_
   try go_wp2
   go_roundg k1
   case measure => have := HK1.out; omega
   case rel => exact ⟨(y167), (wrap64 (x12_1 + 1)), rf_, H', ⟨ho_ HK1⟩, ⟨ro_ HO169⟩, ⟨bk_ BK163⟩, ⟨hb1_ HB GE163⟩⟩

end Go.Proofs.Ytmiamdnhofjifaa.Rw
end
