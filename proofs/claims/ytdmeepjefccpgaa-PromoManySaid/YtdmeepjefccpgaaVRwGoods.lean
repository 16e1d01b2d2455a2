/- Functions of the program as Lean functions, each with its contract: out of what the kit's printer wrote for this seat. -/
import Derived.Test.YtdmeepjefccpgaaVRwA
import Derived.Test.YtdmeepjefccpgaaVRwAb
namespace Go.Proofs.Ytdmeepjefccpgaa.Rw
open Go.RowKit Go.Proofs.YtdmeepjefccpgaaW.PrintWords Go.Proofs.YtdmeepjefccpgaaW.PrintLast Go.Proofs.YtdmeepjefccpgaaW.PrintMore
attribute [local go_sem] max2_int min2_int max_two min_two max_three min_three max_four min_four   -- for this text's walks alone
set_option linter.unusedVariables false
set_option linter.unusedSimpArgs false
attribute [local go_sem high] leqS gtrS

/-! ### goods_Rise: function 55 -/
def goods_Rise.l0 : Nat → List ByteArray → Int → Int → Option (Bool)
 | 0, _, _, _ => none
 | k + 1, x0, x5, x6 => if x6 < x5 then (if x6 > 0 then (if 0 ≤ (wrap64 (x6 - 1)) then (if (wrap64 (x6 - 1)) < (x0.length : Int) then (if 0 ≤ x6 then (if x6 < (x0.length : Int) then (if ((Op.bytesLess ((rdOf ByteArray.empty x0 (wrap64 (x6 - 1))).toList) ((rdOf ByteArray.empty x0 x6).toList)) = true) then (goods_Rise.l0 k x0 x5 (wrap64 (x6 + 1))) else (some false)) else (none)) else (none)) else (none)) else (none)) else (goods_Rise.l0 k x0 x5 (wrap64 (x6 + 1)))) else (some true)
def goods_Rise.f (k : Nat) (l0 : List ByteArray) : Option (Bool) := goods_Rise.l0 k l0 (l0.length : Int) 0
set_option maxHeartbeats 8000000 in
set_option maxRecDepth 100000 in
theorem goods_Rise.calls (k : Nat) (A0 : Option Addr) (c0 : Nat) (l0 : List ByteArray) (r : Bool) (w : World) (hr0 : Kd.C Kd.string w A0 l0.length l0) (hc0 : l0.length ≤ c0) (h : goods_Rise.f k l0 = some r) :
 Calls Try.prog 55 #[.slice A0 l0.length c0] w fun e w' => e = .returned (.bool r) ∧ Drawn0 w w' := by
 have HR0 := Aside0.mk hr0
 have HC0 := Aside0.mk hc0
 clear hr0 hc0
 have H : (goods_Rise.l0 k l0 (l0.length : Int) 0) = some r := h
 clear h
 have H' := Aside0.mk H
 clear H
 go_enter Try.func55, Try.ntmps55
 go_wp2
 repeat (go_quiet (fail); try go_wp2)
 go_loopg [6] k (fun kq v6 w' => ∃ (x6_1 : Int), v6 = .int .i64 x6_1 ∧ Aside0 (goods_Rise.l0 kq l0 (l0.length : Int) x6_1 = some r) ∧ Aside0 (kq ≤ k) ∧ Drawn0 w w')
 case atStart => exact ⟨(0), rf_, H', ⟨Nat.le_refl _⟩, dr_⟩
 case round =>
  clear H'; obtain ⟨x6_1, rfl, HA, HK1, ⟨m1, rfl⟩⟩ := hrel
  cases gk with
  | zero => exact absurd HA.out (by simp [goods_Rise.l0])
  | succ k1 =>
   have H := HA.out; clear HA
   simp only [goods_Rise.l0] at H
   by_cases c2 : x6_1 < (l0.length : Int)
   rotate_left
   ·
    rw [if_neg c2] at H; have c2b0 := decide_eq_false c2; clear c2; obtain rfl := Option.some.inj H
    go_wp2
    repeat (go_quiet (fail); try go_wp2)
    go_ret
    exact ⟨rf_, dr_⟩
   rw [if_pos c2] at H; have c2b0 := decide_eq_true c2; clear c2
   by_cases c3 : x6_1 > 0
   rotate_left
   ·
    rw [if_neg c3] at H; have c3b0 := decide_eq_false c3; clear c3; have H' := Aside0.mk H; clear H
    go_wp2
    repeat (go_quiet (fail); try go_wp2)
    go_roundg k1
    case measure => have := HK1.out; omega
    case rel => exact ⟨(wrap64 (x6_1 + 1)), rf_, H', ⟨ho_ HK1⟩, dr_⟩
   rw [if_pos c3] at H; have c3b0 := decide_eq_true c3; clear c3; obtain ⟨ji4, hji4⟩ : ∃ j_ : Int, (wrap64 (x6_1 - 1)) = j_ := ⟨_, rfl⟩
   replace H : (if 0 ≤ (ji4) then (if (ji4) < (l0.length : Int) then (if 0 ≤ x6_1 then (if x6_1 < (l0.length : Int) then (if ((Op.bytesLess ((rdOf ByteArray.empty l0 (ji4)).toList) ((rdOf ByteArray.empty l0 x6_1).toList)) = true) then (goods_Rise.l0 k1 l0 (l0.length : Int) (wrap64 (x6_1 + 1))) else (some false)) else (none)) else (none)) else (none)) else (none)) = some r := by first | (rw [hji4] at H; exact H) | (simp only [hji4] at H ⊢; exact H)
   have hji4w : (IntKind.i64.wrap (x6_1 - 1)) = ji4 := (i64_w _).trans hji4; replace H := ip_ H; obtain ⟨c5, H⟩ := H; have c5b0 := decide_eq_true c5; clear c5; replace H := ip_ H; obtain ⟨c6, H⟩ := H; have c6b0 := decide_eq_true c6; clear c6; replace H := ip_ H; obtain ⟨c7, H⟩ := H; have c7b0 := decide_eq_true c7
   clear c7; replace H := ip_ H; obtain ⟨c8, H⟩ := H; have c8b0 := decide_eq_true c8; clear c8
   by_cases c9 : ((Op.bytesLess ((rdOf ByteArray.empty l0 (ji4)).toList) ((rdOf ByteArray.empty l0 x6_1).toList)) = true)
   rotate_left
   ·
    rw [if_neg c9] at H
    have c9b0 : (Op.bytesLess ((rdOf ByteArray.empty l0 (ji4)).toList) ((rdOf ByteArray.empty l0 x6_1).toList)) = false := by simpa using c9
    clear c9; obtain rfl := Option.some.inj H; have p107 : 0 ≤ ((ji4) : Int) := of_decide_eq_true as_; have q107 : (ji4) < (l0.length : Int) := of_decide_eq_true as_; obtain ⟨ad107, e107, hx107_0⟩ := Kd.at_string HR0.out (ji4) p107 q107; cases e107; replace p107 := eq_true p107; replace q107 := eq_true q107
    have p108 : 0 ≤ (x6_1 : Int) := of_decide_eq_true as_; have q108 : x6_1 < (l0.length : Int) := of_decide_eq_true as_; obtain ⟨ad108, e108, hx108_0⟩ := Kd.at_string HR0.out x6_1 p108 q108
    obtain rfl : ad107 = ad108 := (by injection e108)
    replace p108 := eq_true p108; replace q108 := eq_true q108
    go_wp2
    repeat (go_quiet (fail); try go_wp2)
    go_ret
    exact ⟨by first | rfl | (simp; done) | (simp only [← hji4] <;> (first | rfl | simp)) | (simp [*]; done), dr_⟩
   rw [if_pos c9] at H; have c9b0 : (Op.bytesLess ((rdOf ByteArray.empty l0 (ji4)).toList) ((rdOf ByteArray.empty l0 x6_1).toList)) = true := c9; clear c9; have H' := Aside0.mk H; clear H; have p107 : 0 ≤ ((ji4) : Int) := of_decide_eq_true as_; have q107 : (ji4) < (l0.length : Int) := of_decide_eq_true as_
   obtain ⟨ad107, e107, hx107_0⟩ := Kd.at_string HR0.out (ji4) p107 q107; cases e107; replace p107 := eq_true p107; replace q107 := eq_true q107; have p108 : 0 ≤ (x6_1 : Int) := of_decide_eq_true as_; have q108 : x6_1 < (l0.length : Int) := of_decide_eq_true as_; obtain ⟨ad108, e108, hx108_0⟩ := Kd.at_string HR0.out x6_1 p108 q108
   obtain rfl : ad107 = ad108 := (by injection e108)
   replace p108 := eq_true p108; replace q108 := eq_true q108
   go_wp2
   repeat (go_quiet (fail); try go_wp2)
   go_roundg k1
   case measure => have := HK1.out; omega
   case rel => exact ⟨(wrap64 (x6_1 + 1)), rf_, H', ⟨ho_ HK1⟩, dr_⟩

/-! ### goods_Name: function 90 -/
mutual
def goods_Name.j0 : Nat → ByteArray → Bool → Option (Bool)
 | 0, _, _ => none
 | k + 1, x0, x12 => if x12 = true then (some false) else (goods_Name.l0 k x0 (x0.size : Int) 0)
def goods_Name.l0 : Nat → ByteArray → Int → Int → Option (Bool)
 | 0, _, _, _ => none
 | k + 1, x0, x14, x15 => if x15 < x14 then (if 0 ≤ x15 then (if x15 < (x0.size : Int) then (if (bt x0 x15) = 45 then (goods_Name.l0 k x0 x14 (wrap64 (x15 + 1))) else (if (bt x0 x15) < 48 then (if (bt x0 x15) < 97 then (some false) else (if (bt x0 x15) > 122 then (some false) else (goods_Name.l0 k x0 x14 (wrap64 (x15 + 1))))) else (if (bt x0 x15) > 57 then (if (bt x0 x15) < 97 then (some false) else (if (bt x0 x15) > 122 then (some false) else (goods_Name.l0 k x0 x14 (wrap64 (x15 + 1))))) else (goods_Name.l0 k x0 x14 (wrap64 (x15 + 1)))))) else (none)) else (none)) else (some true)
end
def goods_Name.f (k : Nat) (a0 : ByteArray) : Option (Bool) := if (a0.size : Int) < 1 then (goods_Name.j0 k a0 true) else (goods_Name.j0 k a0 (decide ((a0.size : Int) > 12)))
set_option maxHeartbeats 8000000 in
set_option maxRecDepth 100000 in
theorem goods_Name.calls (k : Nat) (a0 : ByteArray) (r : Bool) (w : World) (h : goods_Name.f k a0 = some r) :
 Calls Try.prog 90 #[.string a0] w fun e w' => e = .returned (.bool r) ∧ Drawn0 w w' := by
 have H : (if (a0.size : Int) < 1 then (goods_Name.j0 k a0 true) else (goods_Name.j0 k a0 (decide ((a0.size : Int) > 12)))) = some r := h
 clear h
 have HC2 := Aside0.mk H
 clear H
 go_enter Try.func90, Try.ntmps90
 go_upto_region 1 with (fail)
 go_cut [12] (fun v12 wc => ∃ (kq : Nat) (x12_1 : Bool), v12 = .bool x12_1 ∧ Aside0 (goods_Name.j0 kq a0 x12_1 = some r) ∧ Aside0 (kq ≤ k) ∧ Drawn0 w wc)
 case first =>
  have H := HC2.out; clear HC2
  by_cases c3 : (a0.size : Int) < 1
  rotate_left
  ·
   rw [if_neg c3] at H; have c3b0 := decide_eq_false c3
   have c3b1 : decide (a0.size < 1) = false := decide_eq_false (by omega)
   clear c3
   (first | rw [c3b0] | (simp only [i64_w, i32_w]; rw [c3b0]) | skip)
   have H' := Aside0.mk H; clear H
   go_wp2
   go_meet
   case rel => exact ⟨_, (decide ((a0.size : Int) > 12)), rf_, H', ⟨om_⟩, dr_⟩
  rw [if_pos c3] at H; have c3b0 := decide_eq_true c3
  have c3b1 : decide (a0.size < 1) = true := decide_eq_true (by omega)
  clear c3
  (first | rw [c3b0] | (simp only [i64_w, i32_w]; rw [c3b0]) | skip)
  have H' := Aside0.mk H; clear H
  go_wp2
  go_meet
  case rel => exact ⟨_, (true), rf_, H', ⟨om_⟩, dr_⟩
 case rest =>
  clear HC2; (try clear p2); (try clear c3); (try clear c3b0); (try clear c3b1); obtain ⟨kq, x12_1, rfl, HA, HJ1, ⟨mc1, rfl⟩⟩ := hcut
  cases kq with
  | zero => exact absurd HA.out (by simp [goods_Name.j0])
  | succ kj1 =>
   have H := HA.out; clear HA
   simp only [goods_Name.j0] at H
   by_cases c4 : x12_1 = true
   ·
    subst c4; rw [if_pos rfl] at H; obtain rfl := Option.some.inj H
    go_wp2
    go_ret
    exact ⟨rf_, dr_⟩
   replace c4 := Bool.eq_false_iff.mpr c4; subst c4; rw [if_neg nf_] at H; have H' := Aside0.mk H; clear H
   go_wp2
   go_loopg [15] kj1 (fun kq v15 w' => ∃ (x15_2 : Int), v15 = .int .i64 x15_2 ∧ Aside0 (goods_Name.l0 kq a0 (a0.size : Int) x15_2 = some r) ∧ Aside0 (kq ≤ kj1) ∧ Drawn0 w w')
   case atStart => exact ⟨(0), rf_, H', ⟨Nat.le_refl _⟩, dr_⟩
   case round =>
    clear H'; (try clear c1); (try clear p2); (try clear c3); (try clear c3b0); (try clear c3b1); (try clear c4); (try clear p2); obtain ⟨x15_2, rfl, HA, HK2, ⟨m2, rfl⟩⟩ := hrel
    cases gk with
    | zero => exact absurd HA.out (by simp [goods_Name.l0])
    | succ k2 =>
     have H := HA.out; clear HA
     simp only [goods_Name.l0] at H
     by_cases c5 : x15_2 < (a0.size : Int)
     rotate_left
     ·
      rw [if_neg c5] at H; have c5b0 := decide_eq_false c5; clear c5; obtain rfl := Option.some.inj H
      go_wp2
      go_ret
      exact ⟨rf_, dr_⟩
     rw [if_pos c5] at H; have c5b0 := decide_eq_true c5; clear c5; replace H := ip_ H; obtain ⟨c6, H⟩ := H; have c6b0 := decide_eq_true c6; clear c6; replace H := ip_ H; obtain ⟨c7, H⟩ := H; have c7b0 := decide_eq_true c7; clear c7
     by_cases c9 : (bt a0 x15_2) = 45
     ·
      rw [if_pos c9] at H; have c9b0 : ((bt a0 x15_2) == 45) = true := beq_iff_eq.mpr c9; have c9b1 : ((bt a0 x15_2) != 45) = false := bne_eq_false_iff_eq.mpr c9; clear c9; have H' := Aside0.mk H; clear H; have p8 : 0 ≤ (x15_2 : Int) := of_decide_eq_true as_; have q8 : x15_2 < (a0.size : Int) := of_decide_eq_true as_
      have hx8 := bt_at a0 x15_2; replace p8 := eq_true p8; replace q8 := eq_true q8
      go_wp2
      go_roundg k2
      case measure => have := HJ1.out; have := HK2.out; omega
      case rel => exact ⟨(wrap64 (x15_2 + 1)), rf_, H', ⟨ho2_ HJ1 HK2⟩, dr_⟩
     rw [if_neg c9] at H; have c9b0 : ((bt a0 x15_2) == 45) = false := beq_eq_false_iff_ne.mpr c9; have c9b1 : ((bt a0 x15_2) != 45) = true := bne_iff_ne.mpr c9
     by_cases c10 : (bt a0 x15_2) < 48
     ·
      rw [if_pos c10] at H; have c10b0 := decide_eq_true c10; clear c10
      by_cases c11 : (bt a0 x15_2) < 97
      ·
       rw [if_pos c11] at H; have c11b0 := decide_eq_true c11; clear c11; obtain rfl := Option.some.inj H; have p8 : 0 ≤ (x15_2 : Int) := of_decide_eq_true as_; have q8 : x15_2 < (a0.size : Int) := of_decide_eq_true as_; have hx8 := bt_at a0 x15_2; replace p8 := eq_true p8; replace q8 := eq_true q8
       go_wp2
       go_ret
       exact ⟨rf_, dr_⟩
      rw [if_neg c11] at H; have c11b0 := decide_eq_false c11; clear c11
      by_cases c12 : (bt a0 x15_2) > 122
      ·
       rw [if_pos c12] at H; have c12b0 := decide_eq_true c12; clear c12; obtain rfl := Option.some.inj H; have p8 : 0 ≤ (x15_2 : Int) := of_decide_eq_true as_; have q8 : x15_2 < (a0.size : Int) := of_decide_eq_true as_; have hx8 := bt_at a0 x15_2; replace p8 := eq_true p8; replace q8 := eq_true q8
       go_wp2
       go_ret
       exact ⟨rf_, dr_⟩
      rw [if_neg c12] at H; have c12b0 := decide_eq_false c12; clear c12; have H' := Aside0.mk H; clear H; have p8 : 0 ≤ (x15_2 : Int) := of_decide_eq_true as_; have q8 : x15_2 < (a0.size : Int) := of_decide_eq_true as_; have hx8 := bt_at a0 x15_2; replace p8 := eq_true p8; replace q8 := eq_true q8
      go_wp2
      go_roundg k2
      case measure => have := HJ1.out; have := HK2.out; omega
      case rel => exact ⟨(wrap64 (x15_2 + 1)), rf_, H', ⟨ho2_ HJ1 HK2⟩, dr_⟩
     rw [if_neg c10] at H; have c10b0 := decide_eq_false c10; clear c10
     by_cases c13 : (bt a0 x15_2) > 57
     rotate_left
     ·
      rw [if_neg c13] at H; have c13b0 := decide_eq_false c13; clear c13; have H' := Aside0.mk H; clear H; have p8 : 0 ≤ (x15_2 : Int) := of_decide_eq_true as_; have q8 : x15_2 < (a0.size : Int) := of_decide_eq_true as_; have hx8 := bt_at a0 x15_2; replace p8 := eq_true p8; replace q8 := eq_true q8
      go_wp2
      go_roundg k2
      case measure => have := HJ1.out; have := HK2.out; omega
      case rel => exact ⟨(wrap64 (x15_2 + 1)), rf_, H', ⟨ho2_ HJ1 HK2⟩, dr_⟩
     rw [if_pos c13] at H; have c13b0 := decide_eq_true c13; clear c13
     by_cases c14 : (bt a0 x15_2) < 97
     ·
      rw [if_pos c14] at H; have c14b0 := decide_eq_true c14; clear c14; obtain rfl := Option.some.inj H; have p8 : 0 ≤ (x15_2 : Int) := of_decide_eq_true as_; have q8 : x15_2 < (a0.size : Int) := of_decide_eq_true as_; have hx8 := bt_at a0 x15_2; replace p8 := eq_true p8; replace q8 := eq_true q8
      go_wp2
      go_ret
      exact ⟨rf_, dr_⟩
     rw [if_neg c14] at H; have c14b0 := decide_eq_false c14; clear c14
     by_cases c15 : (bt a0 x15_2) > 122
     ·
      rw [if_pos c15] at H; have c15b0 := decide_eq_true c15; clear c15; obtain rfl := Option.some.inj H; have p8 : 0 ≤ (x15_2 : Int) := of_decide_eq_true as_; have q8 : x15_2 < (a0.size : Int) := of_decide_eq_true as_; have hx8 := bt_at a0 x15_2; replace p8 := eq_true p8; replace q8 := eq_true q8
      go_wp2
      go_ret
      exact ⟨rf_, dr_⟩
     rw [if_neg c15] at H; have c15b0 := decide_eq_false c15; clear c15; have H' := Aside0.mk H; clear H; have p8 : 0 ≤ (x15_2 : Int) := of_decide_eq_true as_; have q8 : x15_2 < (a0.size : Int) := of_decide_eq_true as_; have hx8 := bt_at a0 x15_2; replace p8 := eq_true p8; replace q8 := eq_true q8
     go_wp2
     go_roundg k2
     case measure => have := HJ1.out; have := HK2.out; omega
     case rel => exact ⟨(wrap64 (x15_2 + 1)), rf_, H', ⟨ho2_ HJ1 HK2⟩, dr_⟩

end Go.Proofs.Ytdmeepjefccpgaa.Rw
