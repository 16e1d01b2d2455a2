/- Functions of the program as Lean functions, each with its contract: out of what the kit's printer wrote for this seat. -/
import Derived.Test.YtdmeepjefccpgaaVRwA
namespace Go.Proofs.Ytdmeepjefccpgaa.Rw
open Go.RowKit Go.Proofs.YtdmeepjefccpgaaW.PrintWords Go.Proofs.YtdmeepjefccpgaaW.PrintLast Go.Proofs.YtdmeepjefccpgaaW.PrintMore
attribute [local go_sem] max2_int min2_int max_two min_two max_three min_three max_four min_four   -- for this text's walks alone
set_option linter.unusedVariables false
set_option linter.unusedSimpArgs false
attribute [local go_sem high] leqS gtrS

/-! ### haberdashlaw12_few: function 27 -/
def haberdashlaw12_few.l0 : Nat → Int → ByteArray → Int → Int → ByteArray → ByteArray → Bool → List ByteArray → List ByteArray → Int → Int → Int → Int → Int → List (S65) → List (S67) → Option (Bool)
 | 0, _, _, _, _, _, _, _, _, _, _, _, _, _, _, _, _ => none
 | k + 1, x3, x651000, x651001, x651002, x651003, x651004, x651005, x651006, x651007, x651008, x651009, x651010, x651011, x651012, x651013, x651014 => if x3 < (x651013.length : Int) then (if 0 ≤ x3 then (if (((rd_T65 x651013 x3).f0.f0).length : Int) > 40 then (some false) else (if (((rd_T65 x651013 x3).f0.f1).length : Int) > 40 then (some false) else (haberdashlaw12_few.l0 k (wrap64 (x3 + 1)) x651000 x651001 x651002 x651003 x651004 x651005 x651006 x651007 x651008 x651009 x651010 x651011 x651012 x651013 x651014))) else (none)) else (if (x651013.length : Int) ≤ 20 then (if (x651014.length : Int) ≤ 20 then (if (x651006.length : Int) ≤ 40 then (some (decide ((x651007.length : Int) ≤ 40))) else (some false)) else (some false)) else (some false))
def haberdashlaw12_few.f (k : Nat) (a0_0 : ByteArray) (a0_1 : Int) (a0_2 : Int) (a0_3 : ByteArray) (a0_4 : ByteArray) (a0_5 : Bool) (l0_6 : List ByteArray) (l0_7 : List ByteArray) (a0_8 : Int) (a0_9 : Int) (a0_10 : Int) (a0_11 : Int) (a0_12 : Int) (l0_13 : List (S65)) (l0_14 : List (S67)) : Option (Bool) := haberdashlaw12_few.l0 k 0 a0_0 a0_1 a0_2 a0_3 a0_4 a0_5 l0_6 l0_7 a0_8 a0_9 a0_10 a0_11 a0_12 l0_13 l0_14
set_option maxHeartbeats 8000000 in
set_option maxRecDepth 100000 in
theorem haberdashlaw12_few.calls (k : Nat) (a0_0 : ByteArray) (a0_1 : Int) (a0_2 : Int) (a0_3 : ByteArray) (a0_4 : ByteArray) (a0_5 : Bool) (A0_6 : Option Addr) (c0_6 : Nat) (l0_6 : List ByteArray) (A0_7 : Option Addr) (c0_7 : Nat) (l0_7 : List ByteArray) (a0_8 : Int) (a0_9 : Int) (a0_10 : Int) (a0_11 : Int) (a0_12 : Int) (A0_13 : Option Addr) (c0_13 : Nat) (l0_13 : List (S65)) (A0_14 : Option Addr) (c0_14 : Nat) (l0_14 : List (S67)) (r : Bool) (w : World) (hr0_6 : Kd.C Kd.string w A0_6 l0_6.length l0_6) (hc0_6 : l0_6.length ≤ c0_6) (hr0_7 : Kd.C Kd.string w A0_7 l0_7.length l0_7) (hc0_7 : l0_7.length ≤ c0_7) (hr0_13 : Kd.C k65 w A0_13 l0_13.length l0_13) (hc0_13 : l0_13.length ≤ c0_13) (hr0_14 : Kd.C k67 w A0_14 l0_14.length l0_14) (hc0_14 : l0_14.length ≤ c0_14) (h : haberdashlaw12_few.f k a0_0 a0_1 a0_2 a0_3 a0_4 a0_5 l0_6 l0_7 a0_8 a0_9 a0_10 a0_11 a0_12 l0_13 l0_14 = some r) :
 Calls Try.prog 27 #[.agg #[.string a0_0, .int .i64 a0_1, .int .i64 a0_2, .string a0_3, .string a0_4, .bool a0_5, .slice A0_6 l0_6.length c0_6, .slice A0_7 l0_7.length c0_7, .int .i64 a0_8, .int .i64 a0_9, .int .i64 a0_10, .int .i64 a0_11, .int .i64 a0_12, .slice A0_13 l0_13.length c0_13, .slice A0_14 l0_14.length c0_14]] w fun e w' => e = .returned (.bool r) ∧ Below w.heap.size w w' := by
 have hu60 := Try.underlying60
 have HR0_6 := Aside0.mk hr0_6
 have HC0_6 := Aside0.mk hc0_6
 clear hr0_6 hc0_6
 have HR0_7 := Aside0.mk hr0_7
 have HC0_7 := Aside0.mk hc0_7
 clear hr0_7 hc0_7
 have HR0_13 := Aside0.mk hr0_13
 have HC0_13 := Aside0.mk hc0_13
 clear hr0_13 hc0_13
 have HR0_14 := Aside0.mk hr0_14
 have HC0_14 := Aside0.mk hc0_14
 clear hr0_14 hc0_14
 have HB := Aside0.mk (Below.refl w.heap.size w)
 have H : (haberdashlaw12_few.l0 k 0 a0_0 a0_1 a0_2 a0_3 a0_4 a0_5 l0_6 l0_7 a0_8 a0_9 a0_10 a0_11 a0_12 l0_13 l0_14) = some r := h
 clear h
 have H' := Aside0.mk H
 clear H
 go_enter Try.func27, Try.ntmps27
 go_wp2_with (first | ((with_reducible refine gate_dst (N := 1) rfl ?_); (try (refine gate_guard (by rfl) ?_; dsimp only)); refine box_event rf_ (N := 1) rf_ (cs := #[.string a0_0, .int .i64 a0_1, .int .i64 a0_2, .string a0_3, .string a0_4, .bool a0_5, .slice A0_6 l0_6.length c0_6, .slice A0_7 l0_7.length c0_7, .int .i64 a0_8, .int .i64 a0_9, .int .i64 a0_10, .int .i64 a0_11, .int .i64 a0_12, .slice A0_13 l0_13.length c0_13, .slice A0_14 l0_14.length c0_14]) (t := 60) lr_ ?_; intro gb650 hg w2 hbox hb; have BK650 := Aside0.mk hbox; have GE650 := Aside0.mk (ge_ HB hg (hb0_ HB)); replace HB := Aside0.mk (below_step (hb0_ HB) hb); clear hb hbox hg))
 go_loopg [3] k (fun kq v3 w' => ∃ (x3_1 : Int), v3 = .int .i64 x3_1 ∧ Aside0 (haberdashlaw12_few.l0 kq x3_1 a0_0 a0_1 a0_2 a0_3 a0_4 a0_5 l0_6 l0_7 a0_8 a0_9 a0_10 a0_11 a0_12 l0_13 l0_14 = some r) ∧ Aside0 (kq ≤ k) ∧ Aside0 (w'.heap[gb650]? = some (.cells #[.string a0_0, .int .i64 a0_1, .int .i64 a0_2, .string a0_3, .string a0_4, .bool a0_5, (.slice A0_6 l0_6.length c0_6), (.slice A0_7 l0_7.length c0_7), .int .i64 a0_8, .int .i64 a0_9, .int .i64 a0_10, .int .i64 a0_11, .int .i64 a0_12, (.slice A0_13 l0_13.length c0_13), (.slice A0_14 l0_14.length c0_14)] 60 (0, 0))) ∧ Aside0 (Below w.heap.size w w'))
 case atStart => exact ⟨(0), rf_, H', ⟨Nat.le_refl _⟩, ⟨bk_ BK650⟩, ⟨hb1_ HB GE650⟩⟩
 case round =>
  clear H'; (try clear c2); (try clear p2); obtain ⟨x3_1, rfl, HA, HK1, BK650, HB⟩ := hrel
  cases gk with
  | zero => exact absurd HA.out (by simp [haberdashlaw12_few.l0])
  | succ k1 =>
   have H := HA.out; clear HA
   simp only [haberdashlaw12_few.l0] at H
   by_cases c3 : x3_1 < (l0_13.length : Int)
   rotate_left
   ·
    rw [if_neg c3] at H; have c3b0 := decide_eq_false c3; clear c3
    by_cases c10 : (l0_13.length : Int) ≤ 20
    rotate_left
    ·
     rw [if_neg c10] at H; have c10b0 := decide_eq_false c10
     have c10b1 : decide (l0_13.length ≤ 20) = false := decide_eq_false (by omega)
     clear c10; obtain rfl := Option.some.inj H; obtain ⟨hcz16_0, hcz16_1, hcz16_2, hcz16_3, hcz16_4, hcz16_5, hcz16_6, hcz16_7, hcz16_8, hcz16_9, hcz16_10, hcz16_11, hcz16_12, hcz16_13, hcz16_14⟩ := cz15_ BK650; obtain ⟨hfz16_0, hfz16_1, hfz16_2, hfz16_3, hfz16_4, hfz16_5, hfz16_6, hfz16_7, hfz16_8, hfz16_9, hfz16_10, hfz16_11, hfz16_12, hfz16_13, hfz16_14⟩ := fz15_ BK650
     go_wp2
     go_ret
     exact ⟨er_, hb1_ HB GE650⟩
    rw [if_pos c10] at H; have c10b0 := decide_eq_true c10
    have c10b1 : decide (l0_13.length ≤ 20) = true := decide_eq_true (by omega)
    clear c10
    by_cases c11 : (l0_14.length : Int) ≤ 20
    rotate_left
    ·
     rw [if_neg c11] at H; have c11b0 := decide_eq_false c11
     have c11b1 : decide (l0_14.length ≤ 20) = false := decide_eq_false (by omega)
     clear c11; obtain rfl := Option.some.inj H; obtain ⟨hcz15_0, hcz15_1, hcz15_2, hcz15_3, hcz15_4, hcz15_5, hcz15_6, hcz15_7, hcz15_8, hcz15_9, hcz15_10, hcz15_11, hcz15_12, hcz15_13, hcz15_14⟩ := cz15_ BK650; obtain ⟨hfz15_0, hfz15_1, hfz15_2, hfz15_3, hfz15_4, hfz15_5, hfz15_6, hfz15_7, hfz15_8, hfz15_9, hfz15_10, hfz15_11, hfz15_12, hfz15_13, hfz15_14⟩ := fz15_ BK650
     go_wp2
     go_ret
     exact ⟨er_, hb1_ HB GE650⟩
    rw [if_pos c11] at H; have c11b0 := decide_eq_true c11
    have c11b1 : decide (l0_14.length ≤ 20) = true := decide_eq_true (by omega)
    clear c11
    by_cases c12 : (l0_6.length : Int) ≤ 40
    rotate_left
    ·
     rw [if_neg c12] at H; have c12b0 := decide_eq_false c12
     have c12b1 : decide (l0_6.length ≤ 40) = false := decide_eq_false (by omega)
     clear c12; obtain rfl := Option.some.inj H; obtain ⟨hcz14_0, hcz14_1, hcz14_2, hcz14_3, hcz14_4, hcz14_5, hcz14_6, hcz14_7, hcz14_8, hcz14_9, hcz14_10, hcz14_11, hcz14_12, hcz14_13, hcz14_14⟩ := cz15_ BK650; obtain ⟨hfz14_0, hfz14_1, hfz14_2, hfz14_3, hfz14_4, hfz14_5, hfz14_6, hfz14_7, hfz14_8, hfz14_9, hfz14_10, hfz14_11, hfz14_12, hfz14_13, hfz14_14⟩ := fz15_ BK650
     go_wp2
     go_ret
     exact ⟨er_, hb1_ HB GE650⟩
    rw [if_pos c12] at H; have c12b0 := decide_eq_true c12
    have c12b1 : decide (l0_6.length ≤ 40) = true := decide_eq_true (by omega)
    clear c12; obtain rfl := Option.some.inj H; obtain ⟨hcz13_0, hcz13_1, hcz13_2, hcz13_3, hcz13_4, hcz13_5, hcz13_6, hcz13_7, hcz13_8, hcz13_9, hcz13_10, hcz13_11, hcz13_12, hcz13_13, hcz13_14⟩ := cz15_ BK650; obtain ⟨hfz13_0, hfz13_1, hfz13_2, hfz13_3, hfz13_4, hfz13_5, hfz13_6, hfz13_7, hfz13_8, hfz13_9, hfz13_10, hfz13_11, hfz13_12, hfz13_13, hfz13_14⟩ := fz15_ BK650
    go_wp2
    go_ret
    exact ⟨er_, hb1_ HB GE650⟩
   rw [if_pos c3] at H; have c3b0 := decide_eq_true c3; clear c3; replace H := ip_ H; obtain ⟨c4, H⟩ := H; have c4b0 := decide_eq_true c4; clear c4
   by_cases c5 : (((rd_T65 l0_13 x3_1).f0.f0).length : Int) > 40
   ·
    rw [if_pos c5] at H; have c5b0 := decide_eq_true c5
    have c5b1 : decide (40 < ((rd_T65 l0_13 x3_1).f0.f0).length) = true := decide_eq_true (by omega)
    clear c5; obtain rfl := Option.some.inj H; obtain ⟨hcz6_0, hcz6_1, hcz6_2, hcz6_3, hcz6_4, hcz6_5, hcz6_6, hcz6_7, hcz6_8, hcz6_9, hcz6_10, hcz6_11, hcz6_12, hcz6_13, hcz6_14⟩ := cz15_ BK650; obtain ⟨hfz6_0, hfz6_1, hfz6_2, hfz6_3, hfz6_4, hfz6_5, hfz6_6, hfz6_7, hfz6_8, hfz6_9, hfz6_10, hfz6_11, hfz6_12, hfz6_13, hfz6_14⟩ := fz15_ BK650
    have p651 : 0 ≤ (x3_1 : Int) := of_decide_eq_true as_; have q651 : x3_1 < (l0_13.length : Int) := of_decide_eq_true as_; obtain ⟨ad651, A651_0, c651_0, A651_1, c651_1, e651, hx651_0, hx651_1, hx651_2, hl651_0, hi651_0, hl651_1, hi651_1⟩ := at_T65 HR0_13.out x3_1 p651 q651; cases e651; replace hx651_0 := hd_ HB hx651_0
    replace hx651_1 := hd_ HB hx651_1; replace hx651_2 := hd_ HB hx651_2; have HR651_0 := Aside0.mk hi651_0; have HC651_0 := Aside0.mk hl651_0; clear hi651_0 hl651_0; have HR651_1 := Aside0.mk hi651_1; have HC651_1 := Aside0.mk hl651_1; clear hi651_1 hl651_1; replace p651 := eq_true p651; replace q651 := eq_true q651
    go_wp2
    go_ret
    exact ⟨er_, hb1_ HB GE650⟩
   rw [if_neg c5] at H; have c5b0 := decide_eq_false c5
   have c5b1 : decide (40 < ((rd_T65 l0_13 x3_1).f0.f0).length) = false := decide_eq_false (by omega)
   clear c5
   by_cases c7 : (((rd_T65 l0_13 x3_1).f0.f1).length : Int) > 40
   ·
    rw [if_pos c7] at H; have c7b0 := decide_eq_true c7
    have c7b1 : decide (40 < ((rd_T65 l0_13 x3_1).f0.f1).length) = true := decide_eq_true (by omega)
    clear c7; obtain rfl := Option.some.inj H; obtain ⟨hcz8_0, hcz8_1, hcz8_2, hcz8_3, hcz8_4, hcz8_5, hcz8_6, hcz8_7, hcz8_8, hcz8_9, hcz8_10, hcz8_11, hcz8_12, hcz8_13, hcz8_14⟩ := cz15_ BK650; obtain ⟨hfz8_0, hfz8_1, hfz8_2, hfz8_3, hfz8_4, hfz8_5, hfz8_6, hfz8_7, hfz8_8, hfz8_9, hfz8_10, hfz8_11, hfz8_12, hfz8_13, hfz8_14⟩ := fz15_ BK650
    have p651 : 0 ≤ (x3_1 : Int) := of_decide_eq_true as_; have q651 : x3_1 < (l0_13.length : Int) := of_decide_eq_true as_; obtain ⟨ad651, A651_0, c651_0, A651_1, c651_1, e651, hx651_0, hx651_1, hx651_2, hl651_0, hi651_0, hl651_1, hi651_1⟩ := at_T65 HR0_13.out x3_1 p651 q651; cases e651; replace hx651_0 := hd_ HB hx651_0
    replace hx651_1 := hd_ HB hx651_1; replace hx651_2 := hd_ HB hx651_2; have HR651_0 := Aside0.mk hi651_0; have HC651_0 := Aside0.mk hl651_0; clear hi651_0 hl651_0; have HR651_1 := Aside0.mk hi651_1; have HC651_1 := Aside0.mk hl651_1; clear hi651_1 hl651_1; replace p651 := eq_true p651; replace q651 := eq_true q651
    have p652 : 0 ≤ (x3_1 : Int) := of_decide_eq_true as_; have q652 : x3_1 < (l0_13.length : Int) := of_decide_eq_true as_; obtain ⟨ad652, A652_0, c652_0, A652_1, c652_1, e652, hx652_0, hx652_1, hx652_2, hl652_0, hi652_0, hl652_1, hi652_1⟩ := at_T65 HR0_13.out x3_1 p652 q652
    obtain rfl : ad651 = ad652 := (by injection e652)
    replace hx652_0 := hd_ HB hx652_0; replace hx652_1 := hd_ HB hx652_1; replace hx652_2 := hd_ HB hx652_2; have HR652_0 := Aside0.mk hi652_0; have HC652_0 := Aside0.mk hl652_0; clear hi652_0 hl652_0; have HR652_1 := Aside0.mk hi652_1; have HC652_1 := Aside0.mk hl652_1; clear hi652_1 hl652_1; replace p652 := eq_true p652
    replace q652 := eq_true q652; have ea_ := Option.some.inj (hx651_0.symm.trans hx652_0)
    injection ea_ with ea_ en_ ec_
    subst ea_; subst ec_; clear en_; have ea_ := Option.some.inj (hx651_1.symm.trans hx652_1)
    injection ea_ with ea_ en_ ec_
    subst ea_; subst ec_; clear en_
    go_wp2
    go_ret
    exact ⟨er_, hb1_ HB GE650⟩
   rw [if_neg c7] at H; have c7b0 := decide_eq_false c7
   have c7b1 : decide (40 < ((rd_T65 l0_13 x3_1).f0.f1).length) = false := decide_eq_false (by omega)
   clear c7; have H' := Aside0.mk H; clear H; obtain ⟨hcz9_0, hcz9_1, hcz9_2, hcz9_3, hcz9_4, hcz9_5, hcz9_6, hcz9_7, hcz9_8, hcz9_9, hcz9_10, hcz9_11, hcz9_12, hcz9_13, hcz9_14⟩ := cz15_ BK650; obtain ⟨hfz9_0, hfz9_1, hfz9_2, hfz9_3, hfz9_4, hfz9_5, hfz9_6, hfz9_7, hfz9_8, hfz9_9, hfz9_10, hfz9_11, hfz9_12, hfz9_13, hfz9_14⟩ := fz15_ BK650
   have p651 : 0 ≤ (x3_1 : Int) := of_decide_eq_true as_; have q651 : x3_1 < (l0_13.length : Int) := of_decide_eq_true as_; obtain ⟨ad651, A651_0, c651_0, A651_1, c651_1, e651, hx651_0, hx651_1, hx651_2, hl651_0, hi651_0, hl651_1, hi651_1⟩ := at_T65 HR0_13.out x3_1 p651 q651; cases e651; replace hx651_0 := hd_ HB hx651_0
   replace hx651_1 := hd_ HB hx651_1; replace hx651_2 := hd_ HB hx651_2; have HR651_0 := Aside0.mk hi651_0; have HC651_0 := Aside0.mk hl651_0; clear hi651_0 hl651_0; have HR651_1 := Aside0.mk hi651_1; have HC651_1 := Aside0.mk hl651_1; clear hi651_1 hl651_1; replace p651 := eq_true p651; replace q651 := eq_true q651
   have p652 : 0 ≤ (x3_1 : Int) := of_decide_eq_true as_; have q652 : x3_1 < (l0_13.length : Int) := of_decide_eq_true as_; obtain ⟨ad652, A652_0, c652_0, A652_1, c652_1, e652, hx652_0, hx652_1, hx652_2, hl652_0, hi652_0, hl652_1, hi652_1⟩ := at_T65 HR0_13.out x3_1 p652 q652
   obtain rfl : ad651 = ad652 := (by injection e652)
   replace hx652_0 := hd_ HB hx652_0; replace hx652_1 := hd_ HB hx652_1; replace hx652_2 := hd_ HB hx652_2; have HR652_0 := Aside0.mk hi652_0; have HC652_0 := Aside0.mk hl652_0; clear hi652_0 hl652_0; have HR652_1 := Aside0.mk hi652_1; have HC652_1 := Aside0.mk hl652_1; clear hi652_1 hl652_1; replace p652 := eq_true p652
   replace q652 := eq_true q652; have ea_ := Option.some.inj (hx651_0.symm.trans hx652_0)
   injection ea_ with ea_ en_ ec_
   subst ea_; subst ec_; clear en_; have ea_ := Option.some.inj (hx651_1.symm.trans hx652_1)
   injection ea_ with ea_ en_ ec_
   subst ea_; subst ec_; clear en_
   go_wp2
   go_roundg k1
   case measure => have := HK1.out; omega
   case rel => exact ⟨(wrap64 (x3_1 + 1)), rf_, H', ⟨ho_ HK1⟩, ⟨bk_ BK650⟩, ⟨hb1_ HB GE650⟩⟩

end Go.Proofs.Ytdmeepjefccpgaa.Rw
