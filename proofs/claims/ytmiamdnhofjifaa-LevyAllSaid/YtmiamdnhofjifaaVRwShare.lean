/- Functions of the program as Lean functions, each with its contract: out of what the kit's printer wrote for this seat. -/
import Derived.Test.YtmiamdnhofjifaaVRwA
import Derived.Test.YtmiamdnhofjifaaVHDiv
namespace Go.Proofs.Ytmiamdnhofjifaa.Rw
open Go.RowKit Go.Proofs.YtmiamdnhofjifaaW.PrintWords Go.Proofs.YtmiamdnhofjifaaW.PrintLast Go.Proofs.YtmiamdnhofjifaaW.PrintMore
attribute [local go_sem] max2_int min2_int max_two min_two max_three min_three max_four min_four   -- for this text's walks alone
set_option linter.unusedVariables false
set_option linter.unusedSimpArgs false
attribute [local go_sem high] leqS gtrS

/-! ### share_sum: function 57 -/
mutual
def share_sum.j0 : Nat → Int → List Int → Bool → Option (Int × Int)
 | 0, _, _, _ => none
 | k + 1, x0, x1, x19 => if x19 = true then (some (0, 2)) else (share_sum.l0 k x0 x1 x1 (x1.length : Int) 0)
def share_sum.l0 : Nat → Int → List Int → List Int → Int → Int → Option (Int × Int)
 | 0, _, _, _, _, _ => none
 | k + 1, x0, x1, x20, x21, x22 => if x22 < x21 then (if 0 ≤ x22 then (if x22 < (x20.length : Int) then ((money_Right.f (rd x20 x22)).bind fun t174 => (if t174 = true then (share_sum.l0 k x0 x1 x20 x21 (wrap64 (x22 + 1))) else (some (0, 2)))) else (none)) else (none)) else (share_sum.l1 k x0 0 x1 (x1.length : Int) 0)
def share_sum.l1 : Nat → Int → Int → List Int → Int → Int → Option (Int × Int)
 | 0, _, _, _, _, _ => none
 | k + 1, x0, x8, x30, x31, x32 => if x32 < x31 then (if 0 ≤ x32 then (if x32 < (x30.length : Int) then ((money_Add.f k x8 (rd x30 x32)).bind fun bt176 => (if bt176.2 = 0 then (share_sum.l1 k x0 bt176.1 x30 x31 (wrap64 (x32 + 1))) else (some (0, bt176.2)))) else (none)) else (none)) else (if x8 = 0 then (if x0 = 0 then (some (x8, 0)) else (some (0, 7))) else (some (x8, 0)))
end
def share_sum.f (k : Nat) (a0 : Int) (l1 : List Int) : Option (Int × Int) := (money_Right.f a0).bind fun t172 => (if t172 = true then (share_sum.j0 k a0 l1 (decide ((l1.length : Int) > 100000))) else (share_sum.j0 k a0 l1 true))
set_option maxHeartbeats 8000000 in
set_option maxRecDepth 100000 in
theorem share_sum.calls (k : Nat) (a0 : Int) (A1 : Option Addr) (c1 : Nat) (l1 : List Int) (r1 : Int) (r2 : Int) (w : World) (hr1 : Kd.C (Kd.int .i64) w A1 l1.length l1) (hc1 : l1.length ≤ c1) (h : share_sum.f k a0 l1 = some (r1, r2)) :
 Calls Try.prog 57 #[.int .i64 a0, .slice A1 l1.length c1] w fun e w' => e = .returned (.tuple #[.int .i64 r1, .int .i64 r2]) ∧ Drawn0 w w' := by
 have HR1 := Aside0.mk hr1
 have HC1 := Aside0.mk hc1
 clear hr1 hc1
 have H : ((money_Right.f a0).bind fun t172 => (if t172 = true then (share_sum.j0 k a0 l1 (decide ((l1.length : Int) > 100000))) else (share_sum.j0 k a0 l1 true))) = some (r1, r2) := h
 clear h
 have HC3 := Aside0.mk H
 clear H
 go_enter Try.func57, Try.ntmps57
 go_upto_region 1 with (fail)
 go_cut [19] (fun v19 wc => ∃ (kq : Nat) (x19_2 : Bool), v19 = .bool x19_2 ∧ Aside0 (share_sum.j0 kq a0 l1 x19_2 = some (r1, r2)) ∧ Aside0 (kq ≤ k) ∧ Drawn0 w wc)
 case first =>
  have H := HC3.out; clear HC3; replace H := Option.bind_eq_some_iff.mp H; obtain ⟨t172, A40, H⟩ := H; replace H : (if t172 = true then (share_sum.j0 k a0 l1 (decide ((l1.length : Int) > 100000))) else (share_sum.j0 k a0 l1 true)) = some (r1, r2) := H; have A4 := Aside0.mk A40; clear A40
  by_cases c5 : t172 = true
  ·
   subst c5; rw [if_pos rfl] at H; have H' := Aside0.mk H; clear H
   go_wp2_with (first | (refine gl_ 62 13 Try.func62 #[.int .i64 a0] ?_; (with_reducible refine (money_Right.calls a0 true _ A4.out).mono ?_); rintro e w' ⟨rfl, ⟨nd, rfl⟩⟩; refine ⟨_, rfl, ?_⟩))
   go_meet
   case rel => exact ⟨_, (decide ((l1.length : Int) > 100000)), rf_, H', ⟨om_⟩, dr_⟩
  replace c5 := Bool.eq_false_iff.mpr c5; subst c5; rw [if_neg nf_] at H; have H' := Aside0.mk H; clear H
  go_wp2_with (first | (refine gl_ 62 13 Try.func62 #[.int .i64 a0] ?_; (with_reducible refine (money_Right.calls a0 false _ A4.out).mono ?_); rintro e w' ⟨rfl, ⟨nd, rfl⟩⟩; refine ⟨_, rfl, ?_⟩))
  go_meet
  case rel => exact ⟨_, (true), rf_, H', ⟨om_⟩, dr_⟩
 case rest =>
  clear HC3; (try clear c1); (try clear p2); (try clear c5); obtain ⟨kq, x19_2, rfl, HA, HJ2, ⟨mc2, rfl⟩⟩ := hcut
  cases kq with
  | zero => exact absurd HA.out (by simp [share_sum.j0])
  | succ kj2 =>
   have H := HA.out; clear HA
   simp only [share_sum.j0] at H
   by_cases c6 : x19_2 = true
   ·
    subst c6; rw [if_pos rfl] at H
    simp only [Option.some.injEq, Prod.mk.injEq] at H
    obtain ⟨rfl, rfl⟩ := H
    go_wp2
    go_ret2
    exact ⟨rf_, dr_⟩
   replace c6 := Bool.eq_false_iff.mpr c6; subst c6; rw [if_neg nf_] at H; have H' := Aside0.mk H; clear H
   go_wp2
   go_loopg [22] kj2 (fun kq v22 w' => ∃ (x22_2 : Int), v22 = .int .i64 x22_2 ∧ Aside0 (share_sum.l0 kq a0 l1 l1 (l1.length : Int) x22_2 = some (r1, r2)) ∧ Aside0 (kq ≤ kj2) ∧ Drawn0 w w')
   case atStart => exact ⟨(0), rf_, H', ⟨Nat.le_refl _⟩, dr_⟩
   case round =>
    clear H'; (try clear c1); (try clear c2); (try clear p2); (try clear c5); (try clear c6); (try clear p2); obtain ⟨x22_2, rfl, HA, HK2, ⟨m2, rfl⟩⟩ := hrel
    cases gk with
    | zero => exact absurd HA.out (by simp [share_sum.l0])
    | succ k2 =>
     have H := HA.out; clear HA
     simp only [share_sum.l0] at H
     by_cases c7 : x22_2 < (l1.length : Int)
     ·
      rw [if_pos c7] at H; have c7b0 := decide_eq_true c7; clear c7; replace H := ip_ H; obtain ⟨c8, H⟩ := H; have c8b0 := decide_eq_true c8; clear c8; replace H := ip_ H; obtain ⟨c9, H⟩ := H; have c9b0 := decide_eq_true c9; clear c9; replace H := Option.bind_eq_some_iff.mp H; obtain ⟨t174, A100, H⟩ := H
      replace H : (if t174 = true then (share_sum.l0 k2 a0 l1 l1 (l1.length : Int) (wrap64 (x22_2 + 1))) else (some (0, 2))) = some (r1, r2) := H; have A10 := Aside0.mk A100; clear A100
      by_cases c11 : t174 = true
      rotate_left
      ·
       replace c11 := Bool.eq_false_iff.mpr c11; subst c11; rw [if_neg nf_] at H
       simp only [Option.some.injEq, Prod.mk.injEq] at H
       obtain ⟨rfl, rfl⟩ := H; have p173 : 0 ≤ (x22_2 : Int) := of_decide_eq_true as_; have q173 : x22_2 < (l1.length : Int) := of_decide_eq_true as_; obtain ⟨ad173, e173, hx173_0⟩ := Kd.at_int HR1.out x22_2 p173 q173; cases e173; replace p173 := eq_true p173; replace q173 := eq_true q173
       go_wp2_with (first | (refine gl_ 62 27 Try.func62 #[.int .i64 (rd l1 x22_2)] ?_; (with_reducible refine (money_Right.calls (rd l1 x22_2) false _ A10.out).mono ?_); rintro e w' ⟨rfl, ⟨nd, rfl⟩⟩; refine ⟨_, rfl, ?_⟩))
       go_ret2
       exact ⟨rf_, dr_⟩
      subst c11; rw [if_pos rfl] at H; have H' := Aside0.mk H; clear H; have p173 : 0 ≤ (x22_2 : Int) := of_decide_eq_true as_; have q173 : x22_2 < (l1.length : Int) := of_decide_eq_true as_; obtain ⟨ad173, e173, hx173_0⟩ := Kd.at_int HR1.out x22_2 p173 q173; cases e173; replace p173 := eq_true p173
      replace q173 := eq_true q173
      go_wp2_with (first | (refine gl_ 62 27 Try.func62 #[.int .i64 (rd l1 x22_2)] ?_; (with_reducible refine (money_Right.calls (rd l1 x22_2) true _ A10.out).mono ?_); rintro e w' ⟨rfl, ⟨nd, rfl⟩⟩; refine ⟨_, rfl, ?_⟩))
      go_roundg k2
      case measure => have := HJ2.out; have := HK2.out; omega
      case rel => exact ⟨(wrap64 (x22_2 + 1)), rf_, H', ⟨ho2_ HJ2 HK2⟩, dr_⟩
     rw [if_neg c7] at H; have c7b0 := decide_eq_false c7; clear c7; have H' := Aside0.mk H; clear H
     go_wp2
     go_loopg [8, 32] k2 (fun kq v8 v32 w' => ∃ (x8_3 : Int) (x32_3 : Int), v8 = .int .i64 x8_3 ∧ v32 = .int .i64 x32_3 ∧ Aside0 (share_sum.l1 kq a0 x8_3 l1 (l1.length : Int) x32_3 = some (r1, r2)) ∧ Aside0 (kq ≤ k2) ∧ Drawn0 w w')
     case atStart => exact ⟨(0), (0), rf_, rf_, H', ⟨Nat.le_refl _⟩, dr_⟩
     case round =>
      clear H'; (try clear c1); (try clear p1); (try clear q1); (try clear hx1); (try clear c2); (try clear p2); (try clear c5); (try clear c6); (try clear p6); (try clear c7); (try clear c7b0); (try clear c8); (try clear c8b0); (try clear c9); (try clear c9b0); (try clear c11); (try clear hx173_0); (try clear p173)
      (try clear p2); (try clear q173); obtain ⟨x8_3, x32_3, rfl, rfl, HA, HK3, ⟨m3, rfl⟩⟩ := hrel
      cases gk with
      | zero => exact absurd HA.out (by simp [share_sum.l1])
      | succ k3 =>
       have H := HA.out; clear HA
       simp only [share_sum.l1] at H
       by_cases c12 : x32_3 < (l1.length : Int)
       rotate_left
       ·
        rw [if_neg c12] at H; have c12b0 := decide_eq_false c12; clear c12
        by_cases c17 : x8_3 = 0
        rotate_left
        ·
         rw [if_neg c17] at H; have c17b0 : (x8_3 == 0) = false := beq_eq_false_iff_ne.mpr c17; have c17b1 : (x8_3 != 0) = true := bne_iff_ne.mpr c17
         simp only [Option.some.injEq, Prod.mk.injEq] at H
         obtain ⟨rfl, rfl⟩ := H
         go_wp2
         go_ret2
         exact ⟨rf_, dr_⟩
        rw [if_pos c17] at H; have c17b0 : (x8_3 == 0) = true := beq_iff_eq.mpr c17; have c17b1 : (x8_3 != 0) = false := bne_eq_false_iff_eq.mpr c17; clear c17
        by_cases c18 : a0 = 0
        rotate_left
        ·
         rw [if_neg c18] at H; have c18b0 : (a0 == 0) = false := beq_eq_false_iff_ne.mpr c18; have c18b1 : (a0 != 0) = true := bne_iff_ne.mpr c18
         simp only [Option.some.injEq, Prod.mk.injEq] at H
         obtain ⟨rfl, rfl⟩ := H
         go_wp2
         go_ret2
         exact ⟨rf_, dr_⟩
        rw [if_pos c18] at H; have c18b0 : (a0 == 0) = true := beq_iff_eq.mpr c18; have c18b1 : (a0 != 0) = false := bne_eq_false_iff_eq.mpr c18; clear c18
        simp only [Option.some.injEq, Prod.mk.injEq] at H
        obtain ⟨rfl, rfl⟩ := H
        go_wp2
        go_ret2
        exact ⟨rf_, dr_⟩
       rw [if_pos c12] at H; have c12b0 := decide_eq_true c12; clear c12; replace H := ip_ H; obtain ⟨c13, H⟩ := H; have c13b0 := decide_eq_true c13; clear c13; replace H := ip_ H; obtain ⟨c14, H⟩ := H; have c14b0 := decide_eq_true c14; clear c14; replace H := Option.bind_eq_some_iff.mp H; obtain ⟨⟨t176, t177⟩, A150, H⟩ := H
       replace H : (if t177 = 0 then (share_sum.l1 k3 a0 t176 l1 (l1.length : Int) (wrap64 (x32_3 + 1))) else (some (0, t177))) = some (r1, r2) := H; have A15 := Aside0.mk A150; clear A150
       by_cases c16 : t177 = 0
       rotate_left
       ·
        rw [if_neg c16] at H; have c16b0 : (t177 == 0) = false := beq_eq_false_iff_ne.mpr c16; have c16b1 : (t177 != 0) = true := bne_iff_ne.mpr c16
        simp only [Option.some.injEq, Prod.mk.injEq] at H
        obtain ⟨rfl, rfl⟩ := H; have p175 : 0 ≤ (x32_3 : Int) := of_decide_eq_true as_; have q175 : x32_3 < (l1.length : Int) := of_decide_eq_true as_; obtain ⟨ad175, e175, hx175_0⟩ := Kd.at_int HR1.out x32_3 p175 q175; cases e175; replace p175 := eq_true p175; replace q175 := eq_true q175
        go_wp2_with (first | (refine gl_ 73 39 Try.func73 #[.int .i64 x8_3, .int .i64 (rd l1 x32_3)] ?_; (with_reducible refine (money_Add.calls k3 x8_3 (rd l1 x32_3) t176 t177 _ A15.out).mono ?_); rintro e w' ⟨rfl, ⟨nd, rfl⟩⟩; refine ⟨_, rfl, ?_⟩))
        go_ret2
        exact ⟨rf_, dr_⟩
       rw [if_pos c16] at H; have c16b0 : (t177 == 0) = true := beq_iff_eq.mpr c16; have c16b1 : (t177 != 0) = false := bne_eq_false_iff_eq.mpr c16; clear c16; have H' := Aside0.mk H; clear H; have p175 : 0 ≤ (x32_3 : Int) := of_decide_eq_true as_; have q175 : x32_3 < (l1.length : Int) := of_decide_eq_true as_
       obtain ⟨ad175, e175, hx175_0⟩ := Kd.at_int HR1.out x32_3 p175 q175; cases e175; replace p175 := eq_true p175; replace q175 := eq_true q175
       go_wp2_with (first | (refine gl_ 73 39 Try.func73 #[.int .i64 x8_3, .int .i64 (rd l1 x32_3)] ?_; (with_reducible refine (money_Add.calls k3 x8_3 (rd l1 x32_3) t176 t177 _ A15.out).mono ?_); rintro e w' ⟨rfl, ⟨nd, rfl⟩⟩; refine ⟨_, rfl, ?_⟩))
       go_roundg k3
       case measure => have := HJ2.out; have := HK2.out; have := HK3.out; omega
       case rel => exact ⟨(t176), (wrap64 (x32_3 + 1)), rf_, rf_, H', ⟨ho3_ HJ2 HK2 HK3⟩, dr_⟩

/-! ### share_part: function 58 -/
def share_part.f (a0 : Int) (a1 : Int) (a2 : Int) : Option (Int × Int) := (bits_Mul64.f (IntKind.u64.wrap (a0)) (IntKind.u64.wrap (a1))).bind fun bt178 => ((bits_Div64.f bt178.1 bt178.2 (IntKind.u64.wrap (a2))).bind fun bt180 => (some (wrap64 (bt180.1), wrap64 (bt180.2))))
set_option maxHeartbeats 8000000 in
set_option maxRecDepth 100000 in
theorem share_part.calls (a0 : Int) (a1 : Int) (a2 : Int) (r1 : Int) (r2 : Int) (w : World) (h : share_part.f a0 a1 a2 = some (r1, r2)) :
 Calls Try.prog 58 #[.int .i64 a0, .int .i64 a1, .int .i64 a2] w fun e w' => e = .returned (.tuple #[.int .i64 r1, .int .i64 r2]) ∧ Drawn0 w w' := by
 have H : ((bits_Mul64.f (IntKind.u64.wrap (a0)) (IntKind.u64.wrap (a1))).bind fun bt178 => ((bits_Div64.f bt178.1 bt178.2 (IntKind.u64.wrap (a2))).bind fun bt180 => (some (wrap64 (bt180.1), wrap64 (bt180.2))))) = some (r1, r2) := h
 clear h
 replace H := Option.bind_eq_some_iff.mp H
 obtain ⟨⟨t178, t179⟩, A40, H⟩ := H
 replace H : ((bits_Div64.f t178 t179 (IntKind.u64.wrap (a2))).bind fun bt180 => (some (wrap64 (bt180.1), wrap64 (bt180.2)))) = some (r1, r2) := H
 have A4 := Aside0.mk A40
 clear A40
 replace H := Option.bind_eq_some_iff.mp H
 obtain ⟨⟨t180, t181⟩, A50, H⟩ := H
 replace H : (some (wrap64 (t180), wrap64 (t181))) = some (r1, r2) := H
 have A5 := Aside0.mk A50
 clear A50
 simp only [Option.some.injEq, Prod.mk.injEq] at H
 obtain ⟨rfl, rfl⟩ := H
 go_enter Try.func58, Try.ntmps58
 go_wp2_with (first | (refine gl_ 63 17 Try.func63 #[.int .u64 (IntKind.u64.wrap (a0)), .int .u64 (IntKind.u64.wrap (a1))] ?_; (with_reducible refine (bits_Mul64.calls (IntKind.u64.wrap (a0)) (IntKind.u64.wrap (a1)) t178 t179 _ A4.out).mono ?_); rintro e w' ⟨rfl, ⟨nd, rfl⟩⟩; refine ⟨_, rfl, ?_⟩) | (refine gl_ 64 25 Try.func64 #[.int .u64 t178, .int .u64 t179, .int .u64 (IntKind.u64.wrap (a2))] ?_; (with_reducible refine (bits_Div64.calls t178 t179 (IntKind.u64.wrap (a2)) t180 t181 _ A5.out).mono ?_); rintro e w' ⟨rfl, ⟨nd, rfl⟩⟩; refine ⟨_, rfl, ?_⟩))
 go_ret2
 exact ⟨rf_, dr_⟩

end Go.Proofs.Ytmiamdnhofjifaa.Rw
