/- Functions of the program as Lean functions, each with its contract: out of what the kit's printer wrote for this seat. -/
import Derived.Test.YtmiamdnhofjifaaVRwA
import Derived.Test.YtmiamdnhofjifaaVRwAb
import Derived.Test.YtmiamdnhofjifaaVRwMon
import Derived.Test.YtmiamdnhofjifaaVRwRulesZ
namespace Go.Proofs.Ytmiamdnhofjifaa.Rw
open Go.RowKit Go.Proofs.YtmiamdnhofjifaaW.PrintWords Go.Proofs.YtmiamdnhofjifaaW.PrintLast Go.Proofs.YtmiamdnhofjifaaW.PrintMore
attribute [local go_sem] max2_int min2_int max_two min_two max_three min_three max_four min_four   -- for this text's walks alone
set_option linter.unusedVariables false
set_option linter.unusedSimpArgs false
attribute [local go_sem high] leqS gtrS

/-! ### haberdashlaw19_few: function 5 -/
def haberdashlaw19_few.l0 : Nat → List ByteArray → List Int → Int → Bool → Bool → Int → List (S51) → Option (Bool)
 | 0, _, _, _, _, _, _, _ => none
 | k + 1, x1, x2, x7, x102000, x102001, x102002, x102003 => if x7 < (x102003.length : Int) then (if 0 ≤ x7 then (if (((rd_T51 x102003 x7).f1).length : Int) > 60 then (some false) else (haberdashlaw19_few.l0 k x1 x2 (wrap64 (x7 + 1)) x102000 x102001 x102002 x102003)) else (none)) else (if (x102003.length : Int) ≤ 30 then (if (x1.length : Int) ≤ 60 then (some (decide ((x2.length : Int) ≤ 60))) else (some false)) else (some false))
def haberdashlaw19_few.f (k : Nat) (a0_0 : Bool) (a0_1 : Bool) (a0_2 : Int) (l0_3 : List (S51)) (l1 : List ByteArray) (l2 : List Int) : Option (Bool) := haberdashlaw19_few.l0 k l1 l2 0 a0_0 a0_1 a0_2 l0_3
set_option maxHeartbeats 8000000 in
set_option maxRecDepth 100000 in
theorem haberdashlaw19_few.calls (k : Nat) (a0_0 : Bool) (a0_1 : Bool) (a0_2 : Int) (A0_3 : Option Addr) (c0_3 : Nat) (l0_3 : List (S51)) (A1 : Option Addr) (c1 : Nat) (l1 : List ByteArray) (A2 : Option Addr) (c2 : Nat) (l2 : List Int) (r : Bool) (w : World) (hr0_3 : Kd.C k51 w A0_3 l0_3.length l0_3) (hc0_3 : l0_3.length ≤ c0_3) (hr1 : Kd.C Kd.string w A1 l1.length l1) (hc1 : l1.length ≤ c1) (hr2 : Kd.C (Kd.int .i64) w A2 l2.length l2) (hc2 : l2.length ≤ c2) (h : haberdashlaw19_few.f k a0_0 a0_1 a0_2 l0_3 l1 l2 = some r) :
 Calls Try.prog 5 #[.agg #[.bool a0_0, .bool a0_1, .int .i64 a0_2, .slice A0_3 l0_3.length c0_3], .slice A1 l1.length c1, .slice A2 l2.length c2] w fun e w' => e = .returned (.bool r) ∧ Below w.heap.size w w' := by
 have hu24 := Try.underlying24
 have HR0_3 := Aside0.mk hr0_3
 have HC0_3 := Aside0.mk hc0_3
 clear hr0_3 hc0_3
 have HR1 := Aside0.mk hr1
 have HC1 := Aside0.mk hc1
 clear hr1 hc1
 have HR2 := Aside0.mk hr2
 have HC2 := Aside0.mk hc2
 clear hr2 hc2
 have HB := Aside0.mk (Below.refl w.heap.size w)
 have H : (haberdashlaw19_few.l0 k l1 l2 0 a0_0 a0_1 a0_2 l0_3) = some r := h
 clear h
 have H' := Aside0.mk H
 clear H
 go_enter Try.func5, Try.ntmps5
 go_wp2_with (first | ((with_reducible refine gate_dst (N := 3) rfl ?_); (try (refine gate_guard (by rfl) ?_; dsimp only)); refine box_event rf_ (N := 3) rf_ (cs := #[.bool a0_0, .bool a0_1, .int .i64 a0_2, .slice A0_3 l0_3.length c0_3]) (t := 24) lr_ ?_; intro gb101 hg w4 hbox hb; have BK101 := Aside0.mk hbox; have GE101 := Aside0.mk (ge_ HB hg (hb0_ HB)); replace HB := Aside0.mk (below_step (hb0_ HB) hb); clear hb hbox hg))
 go_loopg [7] k (fun kq v7 w' => ∃ (x7_1 : Int), v7 = .int .i64 x7_1 ∧ Aside0 (haberdashlaw19_few.l0 kq l1 l2 x7_1 a0_0 a0_1 a0_2 l0_3 = some r) ∧ Aside0 (kq ≤ k) ∧ Aside0 (w'.heap[gb101]? = some (.cells #[.bool a0_0, .bool a0_1, .int .i64 a0_2, (.slice A0_3 l0_3.length c0_3)] 24 (0, 0))) ∧ Aside0 (Below w.heap.size w w'))
 case atStart => exact ⟨(0), rf_, H', ⟨Nat.le_refl _⟩, ⟨bk_ BK101⟩, ⟨hb1_ HB GE101⟩⟩
 case round =>
  clear H'; (try clear c1); (try clear c2); (try clear p2); obtain ⟨x7_1, rfl, HA, HK1, BK101, HB⟩ := hrel
  cases gk with
  | zero => exact absurd HA.out (by simp [haberdashlaw19_few.l0])
  | succ k1 =>
   have H := HA.out; clear HA
   simp only [haberdashlaw19_few.l0] at H
   by_cases c5 : x7_1 < (l0_3.length : Int)
   rotate_left
   ·
    rw [if_neg c5] at H; have c5b0 := decide_eq_false c5; clear c5
    by_cases c10 : (l0_3.length : Int) ≤ 30
    rotate_left
    ·
     rw [if_neg c10] at H; have c10b0 := decide_eq_false c10
     have c10b1 : decide (l0_3.length ≤ 30) = false := decide_eq_false (by omega)
     clear c10; obtain rfl := Option.some.inj H; obtain ⟨hcz14_0, hcz14_1, hcz14_2, hcz14_3⟩ := cz4_ BK101; obtain ⟨hfz14_0, hfz14_1, hfz14_2, hfz14_3⟩ := fz4_ BK101
     go_wp2
     go_ret
     exact ⟨er_, hb1_ HB GE101⟩
    rw [if_pos c10] at H; have c10b0 := decide_eq_true c10
    have c10b1 : decide (l0_3.length ≤ 30) = true := decide_eq_true (by omega)
    clear c10
    by_cases c11 : (l1.length : Int) ≤ 60
    rotate_left
    ·
     rw [if_neg c11] at H; have c11b0 := decide_eq_false c11
     have c11b1 : decide (l1.length ≤ 60) = false := decide_eq_false (by omega)
     clear c11; obtain rfl := Option.some.inj H; obtain ⟨hcz13_0, hcz13_1, hcz13_2, hcz13_3⟩ := cz4_ BK101; obtain ⟨hfz13_0, hfz13_1, hfz13_2, hfz13_3⟩ := fz4_ BK101
     go_wp2
     go_ret
     exact ⟨er_, hb1_ HB GE101⟩
    rw [if_pos c11] at H; have c11b0 := decide_eq_true c11
    have c11b1 : decide (l1.length ≤ 60) = true := decide_eq_true (by omega)
    clear c11; obtain rfl := Option.some.inj H; obtain ⟨hcz12_0, hcz12_1, hcz12_2, hcz12_3⟩ := cz4_ BK101; obtain ⟨hfz12_0, hfz12_1, hfz12_2, hfz12_3⟩ := fz4_ BK101
    go_wp2
    go_ret
    exact ⟨er_, hb1_ HB GE101⟩
   rw [if_pos c5] at H; have c5b0 := decide_eq_true c5; clear c5; replace H := ip_ H; obtain ⟨c6, H⟩ := H; have c6b0 := decide_eq_true c6; clear c6
   by_cases c7 : (((rd_T51 l0_3 x7_1).f1).length : Int) > 60
   ·
    rw [if_pos c7] at H; have c7b0 := decide_eq_true c7
    have c7b1 : decide (60 < ((rd_T51 l0_3 x7_1).f1).length) = true := decide_eq_true (by omega)
    clear c7; obtain rfl := Option.some.inj H; obtain ⟨hcz8_0, hcz8_1, hcz8_2, hcz8_3⟩ := cz4_ BK101; obtain ⟨hfz8_0, hfz8_1, hfz8_2, hfz8_3⟩ := fz4_ BK101; have p102 : 0 ≤ (x7_1 : Int) := of_decide_eq_true as_; have q102 : x7_1 < (l0_3.length : Int) := of_decide_eq_true as_; obtain ⟨ad102, A102_1, c102_1, e102, hx102_0, hx102_1, hx102_2, hx102_3, hl102_1, hi102_1⟩ := at_T51 HR0_3.out x7_1 p102 q102
    cases e102; replace hx102_0 := hd_ HB hx102_0; replace hx102_1 := hd_ HB hx102_1; replace hx102_2 := hd_ HB hx102_2; replace hx102_3 := hd_ HB hx102_3; have HR102_1 := Aside0.mk hi102_1; have HC102_1 := Aside0.mk hl102_1; clear hi102_1 hl102_1; replace p102 := eq_true p102; replace q102 := eq_true q102
    go_wp2
    go_ret
    exact ⟨er_, hb1_ HB GE101⟩
   rw [if_neg c7] at H; have c7b0 := decide_eq_false c7
   have c7b1 : decide (60 < ((rd_T51 l0_3 x7_1).f1).length) = false := decide_eq_false (by omega)
   clear c7; have H' := Aside0.mk H; clear H; obtain ⟨hcz9_0, hcz9_1, hcz9_2, hcz9_3⟩ := cz4_ BK101; obtain ⟨hfz9_0, hfz9_1, hfz9_2, hfz9_3⟩ := fz4_ BK101; have p102 : 0 ≤ (x7_1 : Int) := of_decide_eq_true as_; have q102 : x7_1 < (l0_3.length : Int) := of_decide_eq_true as_; obtain ⟨ad102, A102_1, c102_1, e102, hx102_0, hx102_1, hx102_2, hx102_3, hl102_1, hi102_1⟩ := at_T51 HR0_3.out x7_1 p102 q102
   cases e102; replace hx102_0 := hd_ HB hx102_0; replace hx102_1 := hd_ HB hx102_1; replace hx102_2 := hd_ HB hx102_2; replace hx102_3 := hd_ HB hx102_3; have HR102_1 := Aside0.mk hi102_1; have HC102_1 := Aside0.mk hl102_1; clear hi102_1 hl102_1; replace p102 := eq_true p102; replace q102 := eq_true q102
   go_wp2
   go_roundg k1
   case measure => have := HK1.out; omega
   case rel => exact ⟨(wrap64 (x7_1 + 1)), rf_, H', ⟨ho_ HK1⟩, ⟨bk_ BK101⟩, ⟨hb1_ HB GE101⟩⟩

/-! ### haberdashlaw19_same5: function 13 -/
def haberdashlaw19_same5.f (k : Nat) (l0_0 : List Int) (l0_1 : List Int) (a0_2 : Int) (a0_3 : Int) (a1 : Int) (l2 : List Int) (l3 : List Int) (a4 : Int) (a5 : Int) (a6 : Int) : Option (Bool) := if a6 = a1 then ((haberdashhelp_Plain_int64.f k l2 l0_0).bind fun t434 => (if t434 = true then ((haberdashhelp_Plain_int64.f k l3 l0_1).bind fun t435 => (if t435 = true then (if a4 = a0_2 then (some (a5 == a0_3)) else (some false)) else (some false))) else (some false))) else (some false)
set_option maxHeartbeats 8000000 in
set_option maxRecDepth 100000 in
theorem haberdashlaw19_same5.calls (k : Nat) (A0_0 : Option Addr) (c0_0 : Nat) (l0_0 : List Int) (A0_1 : Option Addr) (c0_1 : Nat) (l0_1 : List Int) (a0_2 : Int) (a0_3 : Int) (a1 : Int) (A2 : Option Addr) (c2 : Nat) (l2 : List Int) (A3 : Option Addr) (c3 : Nat) (l3 : List Int) (a4 : Int) (a5 : Int) (a6 : Int) (r : Bool) (w : World) (hr0_0 : Kd.C (Kd.int .i64) w A0_0 l0_0.length l0_0) (hc0_0 : l0_0.length ≤ c0_0) (hr0_1 : Kd.C (Kd.int .i64) w A0_1 l0_1.length l0_1) (hc0_1 : l0_1.length ≤ c0_1) (hr2 : Kd.C (Kd.int .i64) w A2 l2.length l2) (hc2 : l2.length ≤ c2) (hr3 : Kd.C (Kd.int .i64) w A3 l3.length l3) (hc3 : l3.length ≤ c3) (h : haberdashlaw19_same5.f k l0_0 l0_1 a0_2 a0_3 a1 l2 l3 a4 a5 a6 = some r) :
 Calls Try.prog 13 #[.agg #[.slice A0_0 l0_0.length c0_0, .slice A0_1 l0_1.length c0_1, .int .i64 a0_2, .int .i64 a0_3], .int .i64 a1, .slice A2 l2.length c2, .slice A3 l3.length c3, .int .i64 a4, .int .i64 a5, .int .i64 a6] w fun e w' => e = .returned (.bool r) ∧ Below w.heap.size w w' := by
 have hu37 := Try.underlying37
 have HR0_0 := Aside0.mk hr0_0
 have HC0_0 := Aside0.mk hc0_0
 clear hr0_0 hc0_0
 have HR0_1 := Aside0.mk hr0_1
 have HC0_1 := Aside0.mk hc0_1
 clear hr0_1 hc0_1
 have HR2 := Aside0.mk hr2
 have HC2 := Aside0.mk hc2
 clear hr2 hc2
 have HR3 := Aside0.mk hr3
 have HC3 := Aside0.mk hc3
 clear hr3 hc3
 have HB := Aside0.mk (Below.refl w.heap.size w)
 have H : (if a6 = a1 then ((haberdashhelp_Plain_int64.f k l2 l0_0).bind fun t434 => (if t434 = true then ((haberdashhelp_Plain_int64.f k l3 l0_1).bind fun t435 => (if t435 = true then (if a4 = a0_2 then (some (a5 == a0_3)) else (some false)) else (some false))) else (some false))) else (some false)) = some r := h
 clear h
 by_cases c8 : a6 = a1
 rotate_left
 ·
  rw [if_neg c8] at H; have c8b0 : (a6 == a1) = false := beq_eq_false_iff_ne.mpr c8; have c8b1 : (a6 != a1) = true := bne_iff_ne.mpr c8; obtain rfl := Option.some.inj H
  go_enter Try.func13, Try.ntmps13
  go_wp2_with (first | ((with_reducible refine gate_dst (N := 7) rfl ?_); refine box_event rf_ (N := 7) rf_ (cs := #[.slice A0_0 l0_0.length c0_0, .slice A0_1 l0_1.length c0_1, .int .i64 a0_2, .int .i64 a0_3]) (t := 37) lr_ ?_; intro gb433 hg w22 hbox hb; have BK433 := Aside0.mk hbox; have GE433 := Aside0.mk (ge_ HB hg (hb0_ HB)); replace HB := Aside0.mk (below_step (hb0_ HB) hb); clear hb hbox hg))
  go_ret
  exact ⟨er_, hb1_ HB GE433⟩
 rw [if_pos c8] at H
 have c8b0 : (a6 == a1) = true := beq_iff_eq.mpr c8
 have c8b1 : (a6 != a1) = false := bne_eq_false_iff_eq.mpr c8
 clear c8
 replace H := Option.bind_eq_some_iff.mp H
 obtain ⟨t434, A90, H⟩ := H
 (try dsimp only at H)
 have A9 := Aside0.mk A90
 clear A90
 by_cases c10 : t434 = true
 rotate_left
 ·
  replace c10 := Bool.eq_false_iff.mpr c10; subst c10; rw [if_neg nf_] at H; obtain rfl := Option.some.inj H
  go_enter Try.func13, Try.ntmps13
  go_wp2_with (first | ((with_reducible refine gate_dst (N := 7) rfl ?_); refine box_event rf_ (N := 7) rf_ (cs := #[.slice A0_0 l0_0.length c0_0, .slice A0_1 l0_1.length c0_1, .int .i64 a0_2, .int .i64 a0_3]) (t := 37) lr_ ?_; intro gb433 hg w20 hbox hb; have BK433 := Aside0.mk hbox; have GE433 := Aside0.mk (ge_ HB hg (hb0_ HB)); replace HB := Aside0.mk (below_step (hb0_ HB) hb); clear hb hbox hg; obtain ⟨hcz21_0, hcz21_1, hcz21_2, hcz21_3⟩ := cz4_ BK433; obtain ⟨hfz21_0, hfz21_1, hfz21_2, hfz21_3⟩ := fz4_ BK433) | (go_at_call 18; (with_reducible refine (haberdashhelp_Plain_int64.calls k _ _ l2 _ _ l0_0 false _ ?side1 ?side2 ?side3 ?side4 A9.out).mono ?_); (case side1 => exact sc_ (Kd.C_below HR2.out HB.out)); (case side2 => exact HC2.out); (case side3 => exact sc_ (Kd.C_below HR0_0.out HB.out)); (case side4 => exact HC0_0.out); rintro e w' ⟨rfl, ⟨nd, rfl⟩⟩))
  go_ret
  exact ⟨er_, hb1_ HB GE433⟩
 subst c10
 rw [if_pos rfl] at H
 replace H := Option.bind_eq_some_iff.mp H
 obtain ⟨t435, A110, H⟩ := H
 (try dsimp only at H)
 have A11 := Aside0.mk A110
 clear A110
 by_cases c12 : t435 = true
 rotate_left
 ·
  replace c12 := Bool.eq_false_iff.mpr c12; subst c12; rw [if_neg nf_] at H; obtain rfl := Option.some.inj H
  go_enter Try.func13, Try.ntmps13
  go_wp2_with (first | ((with_reducible refine gate_dst (N := 7) rfl ?_); refine box_event rf_ (N := 7) rf_ (cs := #[.slice A0_0 l0_0.length c0_0, .slice A0_1 l0_1.length c0_1, .int .i64 a0_2, .int .i64 a0_3]) (t := 37) lr_ ?_; intro gb433 hg w18 hbox hb; have BK433 := Aside0.mk hbox; have GE433 := Aside0.mk (ge_ HB hg (hb0_ HB)); replace HB := Aside0.mk (below_step (hb0_ HB) hb); clear hb hbox hg; obtain ⟨hcz19_0, hcz19_1, hcz19_2, hcz19_3⟩ := cz4_ BK433; obtain ⟨hfz19_0, hfz19_1, hfz19_2, hfz19_3⟩ := fz4_ BK433) | (go_at_call 18; (with_reducible refine (haberdashhelp_Plain_int64.calls k _ _ l2 _ _ l0_0 true _ ?side1 ?side2 ?side3 ?side4 A9.out).mono ?_); (case side1 => exact sc_ (Kd.C_below HR2.out HB.out)); (case side2 => exact HC2.out); (case side3 => exact sc_ (Kd.C_below HR0_0.out HB.out)); (case side4 => exact HC0_0.out); rintro e w' ⟨rfl, ⟨nd, rfl⟩⟩) | (go_at_call 18; (with_reducible refine (haberdashhelp_Plain_int64.calls k _ _ l3 _ _ l0_1 false _ ?side1 ?side2 ?side3 ?side4 A11.out).mono ?_); (case side1 => exact (Kd.C_below HR3.out (hb1_ HB GE433))); (case side2 => exact HC3.out); (case side3 => exact (Kd.C_below HR0_1.out (hb1_ HB GE433))); (case side4 => exact HC0_1.out); rintro e w' ⟨rfl, ⟨nd, rfl⟩⟩))
  go_ret
  exact ⟨er_, hb1_ HB GE433⟩
 subst c12
 rw [if_pos rfl] at H
 by_cases c13 : a4 = a0_2
 rotate_left
 ·
  rw [if_neg c13] at H; have c13b0 : (a4 == a0_2) = false := beq_eq_false_iff_ne.mpr c13; have c13b1 : (a4 != a0_2) = true := bne_iff_ne.mpr c13; obtain rfl := Option.some.inj H
  go_enter Try.func13, Try.ntmps13
  go_wp2_with (first | ((with_reducible refine gate_dst (N := 7) rfl ?_); refine box_event rf_ (N := 7) rf_ (cs := #[.slice A0_0 l0_0.length c0_0, .slice A0_1 l0_1.length c0_1, .int .i64 a0_2, .int .i64 a0_3]) (t := 37) lr_ ?_; intro gb433 hg w16 hbox hb; have BK433 := Aside0.mk hbox; have GE433 := Aside0.mk (ge_ HB hg (hb0_ HB)); replace HB := Aside0.mk (below_step (hb0_ HB) hb); clear hb hbox hg; obtain ⟨hcz17_0, hcz17_1, hcz17_2, hcz17_3⟩ := cz4_ BK433; obtain ⟨hfz17_0, hfz17_1, hfz17_2, hfz17_3⟩ := fz4_ BK433) | (go_at_call 18; (with_reducible refine (haberdashhelp_Plain_int64.calls k _ _ l2 _ _ l0_0 true _ ?side1 ?side2 ?side3 ?side4 A9.out).mono ?_); (case side1 => exact sc_ (Kd.C_below HR2.out HB.out)); (case side2 => exact HC2.out); (case side3 => exact sc_ (Kd.C_below HR0_0.out HB.out)); (case side4 => exact HC0_0.out); rintro e w' ⟨rfl, ⟨nd, rfl⟩⟩) | (go_at_call 18; (with_reducible refine (haberdashhelp_Plain_int64.calls k _ _ l3 _ _ l0_1 true _ ?side1 ?side2 ?side3 ?side4 A11.out).mono ?_); (case side1 => exact (Kd.C_below HR3.out (hb1_ HB GE433))); (case side2 => exact HC3.out); (case side3 => exact (Kd.C_below HR0_1.out (hb1_ HB GE433))); (case side4 => exact HC0_1.out); rintro e w' ⟨rfl, ⟨nd, rfl⟩⟩))
  go_ret
  exact ⟨er_, hb1_ HB GE433⟩
 rw [if_pos c13] at H
 have c13b0 : (a4 == a0_2) = true := beq_iff_eq.mpr c13
 have c13b1 : (a4 != a0_2) = false := bne_eq_false_iff_eq.mpr c13
 clear c13
 obtain rfl := Option.some.inj H
 go_enter Try.func13, Try.ntmps13
 go_wp2_with (first | ((with_reducible refine gate_dst (N := 7) rfl ?_); refine box_event rf_ (N := 7) rf_ (cs := #[.slice A0_0 l0_0.length c0_0, .slice A0_1 l0_1.length c0_1, .int .i64 a0_2, .int .i64 a0_3]) (t := 37) lr_ ?_; intro gb433 hg w14 hbox hb; have BK433 := Aside0.mk hbox; have GE433 := Aside0.mk (ge_ HB hg (hb0_ HB)); replace HB := Aside0.mk (below_step (hb0_ HB) hb); clear hb hbox hg; obtain ⟨hcz15_0, hcz15_1, hcz15_2, hcz15_3⟩ := cz4_ BK433; obtain ⟨hfz15_0, hfz15_1, hfz15_2, hfz15_3⟩ := fz4_ BK433) | (go_at_call 18; (with_reducible refine (haberdashhelp_Plain_int64.calls k _ _ l2 _ _ l0_0 true _ ?side1 ?side2 ?side3 ?side4 A9.out).mono ?_); (case side1 => exact sc_ (Kd.C_below HR2.out HB.out)); (case side2 => exact HC2.out); (case side3 => exact sc_ (Kd.C_below HR0_0.out HB.out)); (case side4 => exact HC0_0.out); rintro e w' ⟨rfl, ⟨nd, rfl⟩⟩) | (go_at_call 18; (with_reducible refine (haberdashhelp_Plain_int64.calls k _ _ l3 _ _ l0_1 true _ ?side1 ?side2 ?side3 ?side4 A11.out).mono ?_); (case side1 => exact (Kd.C_below HR3.out (hb1_ HB GE433))); (case side2 => exact HC3.out); (case side3 => exact (Kd.C_below HR0_1.out (hb1_ HB GE433))); (case side4 => exact HC0_1.out); rintro e w' ⟨rfl, ⟨nd, rfl⟩⟩))
 go_ret
 exact ⟨er_, hb1_ HB GE433⟩

/-! ### haberdashlaw19_near: function 17 -/
end Go.Proofs.Ytmiamdnhofjifaa.Rw
