/- RwPlain. -/
import Derived.Test.YtmiamdnhofjifaaVRwA
import Derived.Test.YtmiamdnhofjifaaVHFun
section
/- Functions of the program as Lean functions, each with its contract: out of what the kit's printer wrote for this seat. -/
namespace Go.Proofs.Ytmiamdnhofjifaa.Rw
open Go.RowKit Go.Proofs.YtmiamdnhofjifaaW.PrintWords Go.Proofs.YtmiamdnhofjifaaW.PrintLast Go.Proofs.YtmiamdnhofjifaaW.PrintMore
attribute [local go_sem] max2_int min2_int max_two min_two max_three min_three max_four min_four   -- for this text's walks alone
set_option linter.unusedVariables false
set_option linter.unusedSimpArgs false
attribute [local go_sem high] leqS gtrS

/-! ### haberdashhelp_Plain_int64_1: function 34 -/
def haberdashhelp_Plain_int64_1.f (a0 : Int) (a1 : Int) : Option (Bool) := some (a0 == a1)
set_option maxHeartbeats 8000000 in
set_option maxRecDepth 100000 in
theorem haberdashhelp_Plain_int64_1.calls (a0 : Int) (a1 : Int) (r : Bool) (w : World) (h : haberdashhelp_Plain_int64_1.f a0 a1 = some r) :
 Calls Try.prog 34 #[.int .i64 a0, .int .i64 a1] w fun e w' => e = .returned (.bool r) ∧ Drawn0 w w' := by
 have H : (some (a0 == a1)) = some r := h
 clear h
 obtain rfl := Option.some.inj H
 go_enter Try.func34, Try.ntmps34
 go_wp2
 go_ret
 exact ⟨rf_, dr_⟩

/-! ### haberdashhelp_Same_int64: function 33 -/
def haberdashhelp_Same_int64.l0 : Nat → List Int → List Int → Int → Option (Bool)
 | 0, _, _, _ => none
 | k + 1, x0, x1, x7 => if x7 < (x0.length : Int) then (if 0 ≤ x7 then (if x7 < (x1.length : Int) then ((haberdashhelp_Plain_int64_1.f (rd x0 x7) (rd x1 x7)).bind fun t223 => (if t223 = true then (haberdashhelp_Same_int64.l0 k x0 x1 (wrap64 (x7 + 1))) else (some false))) else (none)) else (none)) else (some true)
def haberdashhelp_Same_int64.f (k : Nat) (l0 : List Int) (l1 : List Int) (a2 : Int) : Option (Bool) := if (l0.length : Int) = (l1.length : Int) then (haberdashhelp_Same_int64.l0 k l0 l1 0) else (some false)
set_option maxHeartbeats 8000000 in
set_option maxRecDepth 100000 in
theorem haberdashhelp_Same_int64.calls (k : Nat) (A0 : Option Addr) (c0 : Nat) (l0 : List Int) (A1 : Option Addr) (c1 : Nat) (l1 : List Int) (a2 : Int) (r : Bool) (w : World) (hr0 : Kd.C (Kd.int .i64) w A0 l0.length l0) (hc0 : l0.length ≤ c0) (hr1 : Kd.C (Kd.int .i64) w A1 l1.length l1) (hc1 : l1.length ≤ c1) (h : haberdashhelp_Same_int64.f k l0 l1 a2 = some r) :
 Calls Try.prog 33 #[.slice A0 l0.length c0, .slice A1 l1.length c1, .func (.func 34) #[] #[]] w fun e w' => e = .returned (.bool r) ∧ Drawn0 w w' := by
 have HR0 := Aside0.mk hr0
 have HC0 := Aside0.mk hc0
 clear hr0 hc0
 have HR1 := Aside0.mk hr1
 have HC1 := Aside0.mk hc1
 clear hr1 hc1
 have H : (if (l0.length : Int) = (l1.length : Int) then (haberdashhelp_Same_int64.l0 k l0 l1 0) else (some false)) = some r := h
 clear h
 by_cases c4 : (l0.length : Int) = (l1.length : Int)
 rotate_left
 ·
  rw [if_neg c4] at H; have c4b0 : ((l0.length : Int) == (l1.length : Int)) = false := beq_eq_false_iff_ne.mpr c4; have c4b1 : ((l0.length : Int) != (l1.length : Int)) = true := bne_iff_ne.mpr c4
  have c4b2 : (l0.length == l1.length) = false := by first | simpa using c4 | (simp at c4 ⊢; omega)
  obtain rfl := Option.some.inj H
  go_enter Try.func33, Try.ntmps33
  go_wp2
  repeat (go_quiet (fail); try go_wp2)
  go_ret
  exact ⟨rf_, dr_⟩
 rw [if_pos c4] at H
 have c4b0 : ((l0.length : Int) == (l1.length : Int)) = true := beq_iff_eq.mpr c4
 have c4b1 : ((l0.length : Int) != (l1.length : Int)) = false := bne_eq_false_iff_eq.mpr c4
 have c4b2 : (l0.length == l1.length) = true := by first | simpa using c4 | (simp at c4 ⊢; omega)
 clear c4
 have H' := Aside0.mk H
 clear H
 go_enter Try.func33, Try.ntmps33
 go_wp2
 repeat (go_quiet (fail); try go_wp2)
 go_loopg [7] k (fun kq v7 w' => ∃ (x7_1 : Int), v7 = .int .i64 x7_1 ∧ Aside0 (haberdashhelp_Same_int64.l0 kq l0 l1 x7_1 = some r) ∧ Aside0 (kq ≤ k) ∧ Drawn0 w w')
 case atStart => exact ⟨(0), rf_, H', ⟨Nat.le_refl _⟩, dr_⟩
 case round =>
  clear H'; (try clear c1); (try clear p2); (try clear c3); (try clear c4); (try clear c4b0); (try clear c4b1); (try clear c4b2); obtain ⟨x7_1, rfl, HA, HK1, ⟨m1, rfl⟩⟩ := hrel
  cases gk with
  | zero => exact absurd HA.out (by simp [haberdashhelp_Same_int64.l0])
  | succ k1 =>
   have H := HA.out; clear HA
   simp only [haberdashhelp_Same_int64.l0] at H
   by_cases c5 : x7_1 < (l0.length : Int)
   rotate_left
   ·
    rw [if_neg c5] at H; have c5b0 := decide_eq_false c5; clear c5; obtain rfl := Option.some.inj H
    go_wp2
    repeat (go_quiet (fail); try go_wp2)
    go_ret
    exact ⟨rf_, dr_⟩
   rw [if_pos c5] at H; have c5b0 := decide_eq_true c5; clear c5; replace H := ip_ H; obtain ⟨c6, H⟩ := H; have c6b0 := decide_eq_true c6; clear c6; replace H := ip_ H; obtain ⟨c7, H⟩ := H; have c7b0 := decide_eq_true c7; clear c7; replace H := Option.bind_eq_some_iff.mp H; obtain ⟨t223, A80, H⟩ := H
   (try dsimp only at H)
   have A8 := Aside0.mk A80; clear A80
   by_cases c9 : t223 = true
   rotate_left
   ·
    replace c9 := Bool.eq_false_iff.mpr c9; subst c9; rw [if_neg nf_] at H; obtain rfl := Option.some.inj H; have p221 : 0 ≤ (x7_1 : Int) := of_decide_eq_true as_; have q221 : x7_1 < (l0.length : Int) := of_decide_eq_true as_; obtain ⟨ad221, e221, hx221_0⟩ := Kd.at_int HR0.out x7_1 p221 q221; cases e221
    replace p221 := eq_true p221; replace q221 := eq_true q221; have p222 : 0 ≤ (x7_1 : Int) := of_decide_eq_true as_; have q222 : x7_1 < (l1.length : Int) := of_decide_eq_true as_; obtain ⟨ad222, e222, hx222_0⟩ := Kd.at_int HR1.out x7_1 p222 q222; cases e222; replace p222 := eq_true p222; replace q222 := eq_true q222
    go_wp2_with (first | (go_at_call 34; (with_reducible refine (haberdashhelp_Plain_int64_1.calls (rd l0 x7_1) (rd l1 x7_1) false _ A8.out).mono ?_); rintro e w' ⟨rfl, ⟨nd, rfl⟩⟩; (try exact dq_)))
    repeat (go_quiet (first | (go_at_call 34; (with_reducible refine (haberdashhelp_Plain_int64_1.calls (rd l0 x7_1) (rd l1 x7_1) false _ A8.out).mono ?_); rintro e w' ⟨rfl, ⟨nd, rfl⟩⟩; (try exact dq_))); try go_wp2_with (first | (go_at_call 34; (with_reducible refine (haberdashhelp_Plain_int64_1.calls (rd l0 x7_1) (rd l1 x7_1) false _ A8.out).mono ?_); rintro e w' ⟨rfl, ⟨nd, rfl⟩⟩; (try exact dq_))))
    go_ret
    exact ⟨rf_, dr_⟩
   subst c9; rw [if_pos rfl] at H; have H' := Aside0.mk H; clear H; have p221 : 0 ≤ (x7_1 : Int) := of_decide_eq_true as_; have q221 : x7_1 < (l0.length : Int) := of_decide_eq_true as_; obtain ⟨ad221, e221, hx221_0⟩ := Kd.at_int HR0.out x7_1 p221 q221; cases e221; replace p221 := eq_true p221; replace q221 := eq_true q221
   have p222 : 0 ≤ (x7_1 : Int) := of_decide_eq_true as_; have q222 : x7_1 < (l1.length : Int) := of_decide_eq_true as_; obtain ⟨ad222, e222, hx222_0⟩ := Kd.at_int HR1.out x7_1 p222 q222; cases e222; replace p222 := eq_true p222; replace q222 := eq_true q222
   go_wp2_with (first | (go_at_call 34; (with_reducible refine (haberdashhelp_Plain_int64_1.calls (rd l0 x7_1) (rd l1 x7_1) true _ A8.out).mono ?_); rintro e w' ⟨rfl, ⟨nd, rfl⟩⟩; (try exact dq_)))
   repeat (go_quiet (first | (go_at_call 34; (with_reducible refine (haberdashhelp_Plain_int64_1.calls (rd l0 x7_1) (rd l1 x7_1) true _ A8.out).mono ?_); rintro e w' ⟨rfl, ⟨nd, rfl⟩⟩; (try exact dq_))); try go_wp2_with (first | (go_at_call 34; (with_reducible refine (haberdashhelp_Plain_int64_1.calls (rd l0 x7_1) (rd l1 x7_1) true _ A8.out).mono ?_); rintro e w' ⟨rfl, ⟨nd, rfl⟩⟩; (try exact dq_))))
   go_roundg k1
   case measure => have := HK1.out; omega
   case rel => exact ⟨(wrap64 (x7_1 + 1)), rf_, H', ⟨ho_ HK1⟩, dr_⟩

/-! ### haberdashhelp_Plain_int64: function 18 -/
def haberdashhelp_Plain_int64.f (k : Nat) (l0 : List Int) (l1 : List Int) : Option (Bool) := (haberdashhelp_Same_int64.f k l0 l1 77700034).bind fun t224 => (some t224)
set_option maxHeartbeats 8000000 in
set_option maxRecDepth 100000 in
theorem haberdashhelp_Plain_int64.calls (k : Nat) (A0 : Option Addr) (c0 : Nat) (l0 : List Int) (A1 : Option Addr) (c1 : Nat) (l1 : List Int) (r : Bool) (w : World) (hr0 : Kd.C (Kd.int .i64) w A0 l0.length l0) (hc0 : l0.length ≤ c0) (hr1 : Kd.C (Kd.int .i64) w A1 l1.length l1) (hc1 : l1.length ≤ c1) (h : haberdashhelp_Plain_int64.f k l0 l1 = some r) :
 Calls Try.prog 18 #[.slice A0 l0.length c0, .slice A1 l1.length c1] w fun e w' => e = .returned (.bool r) ∧ Drawn0 w w' := by
 have HR0 := Aside0.mk hr0
 have HC0 := Aside0.mk hc0
 clear hr0 hc0
 have HR1 := Aside0.mk hr1
 have HC1 := Aside0.mk hc1
 clear hr1 hc1
 have H : ((haberdashhelp_Same_int64.f k l0 l1 77700034).bind fun t224 => (some t224)) = some r := h
 clear h
 replace H := Option.bind_eq_some_iff.mp H
 obtain ⟨t224, A30, H⟩ := H
 (try dsimp only at H)
 have A3 := Aside0.mk A30
 clear A30
 obtain rfl := Option.some.inj H
 go_enter Try.func18, Try.ntmps18
 go_wp2_with (first | (refine gl_ 33 7 Try.func33 #[.slice A0 l0.length c0, .slice A1 l1.length c1, .func (.func 34) #[] #[]] ?_; (with_reducible refine (haberdashhelp_Same_int64.calls k _ _ l0 _ _ l1 77700034 t224 _ ?side1 ?side2 ?side3 ?side4 A3.out).mono ?_); (case side1 => exact sc_ HR0.out); (case side2 => exact HC0.out); (case side3 => exact sc_ HR1.out); (case side4 => exact HC1.out); rintro e w' ⟨rfl, ⟨nd, rfl⟩⟩; refine ⟨_, rfl, ?_⟩))
 go_ret
 exact ⟨rf_, dr_⟩

end Go.Proofs.Ytmiamdnhofjifaa.Rw
end
section
/- Functions of the program as Lean functions, each with its contract: out of what the kit's printer wrote for this seat. -/
namespace Go.Proofs.Ytmiamdnhofjifaa.Rw
open Go.RowKit Go.Proofs.YtmiamdnhofjifaaW.PrintWords Go.Proofs.YtmiamdnhofjifaaW.PrintLast Go.Proofs.YtmiamdnhofjifaaW.PrintMore
attribute [local go_sem] max2_int min2_int max_two min_two max_three min_three max_four min_four   -- for this text's walks alone
set_option linter.unusedVariables false
set_option linter.unusedSimpArgs false
attribute [local go_sem high] leqS gtrS

/-! ### haberdashlaw19_few: function 5 -/
def haberdashlaw19_few.l0 : Nat → List ByteArray → List Int → Int → Bool → Bool → Int → List (S51) → Option (Bool)
 | 0, _, _, _, _, _, _, _ => none
 | k + 1, x1, x2, x7, x102000, x102001, x102002, x102003 => if x7 < (x102003.length : Int) then (if 0 ≤ x7 then (if (((rd_T51 x102003 x7).f1).length : Int) > 60 then (some false) else (haberdashlaw19_few.l0 k x1 x2 (wrap64 (x7 + 1)) x102000 x102001 x102002 x102003)) else (none)) else (if (x102003.length : Int) ≤ 30 then (if (x1.length : Int) ≤ 60 then (some (decide ((x2.length : Int) ≤ 60))) else (some false)) else (some false))
def haberdashlaw19_few.f (k : Nat) (a0_0 : Bool) (a0_1 : Bool) (a0_2 : Int) (l0_3 : List (S51)) (l1 : List ByteArray) (l2 : List Int) : Option (Bool) := haberdashlaw19_few.l0 k l1 l2 0 a0_0 a0_1 a0_2 l0_3
set_option maxHeartbeats 8000000 in
set_option maxRecDepth 100000 in
theorem haberdashlaw19_few.calls (k : Nat) (a0_0 : Bool) (a0_1 : Bool) (a0_2 : Int) (A0_3 : Option Addr) (c0_3 : Nat) (l0_3 : List (S51)) (A1 : Option Addr) (c1 : Nat) (l1 : List ByteArray) (A2 : Option Addr) (c2 : Nat) (l2 : List Int) (r : Bool) (w : World) (hr0_3 : Kd.C k51 w A0_3 l0_3.length l0_3) (hc0_3 : l0_3.length ≤ c0_3) (hr1 : Kd.C Kd.string w A1 l1.length l1) (hc1 : l1.length ≤ c1) (hr2 : Kd.C (Kd.int .i64) w A2 l2.length l2) (hc2 : l2.length ≤ c2) (h : haberdashlaw19_few.f k a0_0 a0_1 a0_2 l0_3 l1 l2 = some r) :
 Calls Try.prog 5 #[.agg #[.bool a0_0, .bool a0_1, .int .i64 a0_2, .slice A0_3 l0_3.length c0_3], .slice A1 l1.length c1, .slice A2 l2.length c2] w fun e w' => e = .returned (.bool r) ∧ Below w.heap.size w w' := by
 have hu24 := Try.underlying24
 have HR0_3 := Aside0.mk hr0_3
 have HC0_3 := Aside0.mk hc0_3
 clear hr0_3 hc0_3
 have HR1 := Aside0.mk hr1
 have HC1 := Aside0.mk hc1
 clear hr1 hc1
 have HR2 := Aside0.mk hr2
 have HC2 := Aside0.mk hc2
 clear hr2 hc2
 have HB := Aside0.mk (Below.refl w.heap.size w)
 have H : (haberdashlaw19_few.l0 k l1 l2 0 a0_0 a0_1 a0_2 l0_3) = some r := h
 clear h
 have H' := Aside0.mk H
 clear H
 go_enter Try.func5, Try.ntmps5
 go_wp2_with (first | ((with_reducible refine gate_dst (N := 3) rfl ?_); (try (refine gate_guard (by rfl) ?_; dsimp only)); refine box_event rf_ (N := 3) rf_ (cs := #[.bool a0_0, .bool a0_1, .int .i64 a0_2, .slice A0_3 l0_3.length c0_3]) (t := 24) lr_ ?_; intro gb101 hg w4 hbox hb; have BK101 := Aside0.mk hbox; have GE101 := Aside0.mk (ge_ HB hg (hb0_ HB)); replace HB := Aside0.mk (below_step (hb0_ HB) hb); clear hb hbox hg))
 go_loopg [7] k (fun kq v7 w' => ∃ (x7_1 : Int), v7 = .int .i64 x7_1 ∧ Aside0 (haberdashlaw19_few.l0 kq l1 l2 x7_1 a0_0 a0_1 a0_2 l0_3 = some r) ∧ Aside0 (kq ≤ k) ∧ Aside0 (w'.heap[gb101]? = some (.cells #[.bool a0_0, .bool a0_1, .int .i64 a0_2, (.slice A0_3 l0_3.length c0_3)] 24 (0, 0))) ∧ Aside0 (Below w.heap.size w w'))
 case atStart => exact ⟨(0), rf_, H', ⟨Nat.le_refl _⟩, ⟨bk_ BK101⟩, ⟨hb1_ HB GE101⟩⟩
 case round =>
  clear H'; (try clear c1); (try clear c2); (try clear p2); obtain ⟨x7_1, rfl, HA, HK1, BK101, HB⟩ := hrel
  cases gk with
  | zero => exact absurd HA.out (by simp [haberdashlaw19_few.l0])
  | succ k1 =>
   have H := HA.out; clear HA
   simp only [haberdashlaw19_few.l0] at H
   by_cases c5 : x7_1 < (l0_3.length : Int)
   rotate_left
   ·
    rw [if_neg c5] at H; have c5b0 := decide_eq_false c5; clear c5
    by_cases c10 : (l0_3.length : Int) ≤ 30
    rotate_left
    ·
     rw [if_neg c10] at H; have c10b0 := decide_eq_false c10
     have c10b1 : decide (l0_3.length ≤ 30) = false := decide_eq_false (by omega)
     clear c10; obtain rfl := Option.some.inj H; obtain ⟨hcz14_0, hcz14_1, hcz14_2, hcz14_3⟩ := cz4_ BK101; obtain ⟨hfz14_0, hfz14_1, hfz14_2, hfz14_3⟩ := fz4_ BK101
     go_wp2
     go_ret
     exact ⟨er_, hb1_ HB GE101⟩
    rw [if_pos c10] at H; have c10b0 := decide_eq_true c10
    have c10b1 : decide (l0_3.length ≤ 30) = true := decide_eq_true (by omega)
    clear c10
    by_cases c11 : (l1.length : Int) ≤ 60
    rotate_left
    ·
     rw [if_neg c11] at H; have c11b0 := decide_eq_false c11
     have c11b1 : decide (l1.length ≤ 60) = false := decide_eq_false (by omega)
     clear c11; obtain rfl := Option.some.inj H; obtain ⟨hcz13_0, hcz13_1, hcz13_2, hcz13_3⟩ := cz4_ BK101; obtain ⟨hfz13_0, hfz13_1, hfz13_2, hfz13_3⟩ := fz4_ BK101
     go_wp2
     go_ret
     exact ⟨er_, hb1_ HB GE101⟩
    rw [if_pos c11] at H; have c11b0 := decide_eq_true c11
    have c11b1 : decide (l1.length ≤ 60) = true := decide_eq_true (by omega)
    clear c11; obtain rfl := Option.some.inj H; obtain ⟨hcz12_0, hcz12_1, hcz12_2, hcz12_3⟩ := cz4_ BK101; obtain ⟨hfz12_0, hfz12_1, hfz12_2, hfz12_3⟩ := fz4_ BK101
    go_wp2
    go_ret
    exact ⟨er_, hb1_ HB GE101⟩
   rw [if_pos c5] at H; have c5b0 := decide_eq_true c5; clear c5; replace H := ip_ H; obtain ⟨c6, H⟩ := H; have c6b0 := decide_eq_true c6; clear c6
   by_cases c7 : (((rd_T51 l0_3 x7_1).f1).length : Int) > 60
   ·
    rw [if_pos c7] at H; have c7b0 := decide_eq_true c7
    have c7b1 : decide (60 < ((rd_T51 l0_3 x7_1).f1).length) = true := decide_eq_true (by omega)
    clear c7; obtain rfl := Option.some.inj H; obtain ⟨hcz8_0, hcz8_1, hcz8_2, hcz8_3⟩ := cz4_ BK101; obtain ⟨hfz8_0, hfz8_1, hfz8_2, hfz8_3⟩ := fz4_ BK101; have p102 : 0 ≤ (x7_1 : Int) := of_decide_eq_true as_; have q102 : x7_1 < (l0_3.length : Int) := of_decide_eq_true as_; obtain ⟨ad102, A102_1, c102_1, e102, hx102_0, hx102_1, hx102_2, hx102_3, hl102_1, hi102_1⟩ := at_T51 HR0_3.out x7_1 p102 q102
    cases e102; replace hx102_0 := hd_ HB hx102_0; replace hx102_1 := hd_ HB hx102_1; replace hx102_2 := hd_ HB hx102_2; replace hx102_3 := hd_ HB hx102_3; have HR102_1 := Aside0.mk hi102_1; have HC102_1 := Aside0.mk hl102_1; clear hi102_1 hl102_1; replace p102 := eq_true p102; replace q102 := eq_true q102
    go_wp2
    go_ret
    exact ⟨er_, hb1_ HB GE101⟩
   rw [if_neg c7] at H; have c7b0 := decide_eq_false c7
   have c7b1 : decide (60 < ((rd_T51 l0_3 x7_1).f1).length) = false := decide_eq_false (by omega)
   clear c7; have H' := Aside0.mk H; clear H; obtain ⟨hcz9_0, hcz9_1, hcz9_2, hcz9_3⟩ := cz4_ BK101; obtain ⟨hfz9_0, hfz9_1, hfz9_2, hfz9_3⟩ := fz4_ BK101; have p102 : 0 ≤ (x7_1 : Int) := of_decide_eq_true as_; have q102 : x7_1 < (l0_3.length : Int) := of_decide_eq_true as_; obtain ⟨ad102, A102_1, c102_1, e102, hx102_0, hx102_1, hx102_2, hx102_3, hl102_1, hi102_1⟩ := at_T51 HR0_3.out x7_1 p102 q102
   cases e102; replace hx102_0 := hd_ HB hx102_0; replace hx102_1 := hd_ HB hx102_1; replace hx102_2 := hd_ HB hx102_2; replace hx102_3 := hd_ HB hx102_3; have HR102_1 := Aside0.mk hi102_1; have HC102_1 := Aside0.mk hl102_1; clear hi102_1 hl102_1; replace p102 := eq_true p102; replace q102 := eq_true q102
   go_wp2
   go_roundg k1
   case measure => have := HK1.out; omega
   case rel => exact ⟨(wrap64 (x7_1 + 1)), rf_, H', ⟨ho_ HK1⟩, ⟨bk_ BK101⟩, ⟨hb1_ HB GE101⟩⟩

/-! ### haberdashlaw19_same5: function 13 -/
def haberdashlaw19_same5.f (k : Nat) (l0_0 : List Int) (l0_1 : List Int) (a0_2 : Int) (a0_3 : Int) (a1 : Int) (l2 : List Int) (l3 : List Int) (a4 : Int) (a5 : Int) (a6 : Int) : Option (Bool) := if a6 = a1 then ((haberdashhelp_Plain_int64.f k l2 l0_0).bind fun t434 => (if t434 = true then ((haberdashhelp_Plain_int64.f k l3 l0_1).bind fun t435 => (if t435 = true then (if a4 = a0_2 then (some (a5 == a0_3)) else (some false)) else (some false))) else (some false))) else (some false)
set_option maxHeartbeats 8000000 in
set_option maxRecDepth 100000 in
theorem haberdashlaw19_same5.calls (k : Nat) (A0_0 : Option Addr) (c0_0 : Nat) (l0_0 : List Int) (A0_1 : Option Addr) (c0_1 : Nat) (l0_1 : List Int) (a0_2 : Int) (a0_3 : Int) (a1 : Int) (A2 : Option Addr) (c2 : Nat) (l2 : List Int) (A3 : Option Addr) (c3 : Nat) (l3 : List Int) (a4 : Int) (a5 : Int) (a6 : Int) (r : Bool) (w : World) (hr0_0 : Kd.C (Kd.int .i64) w A0_0 l0_0.length l0_0) (hc0_0 : l0_0.length ≤ c0_0) (hr0_1 : Kd.C (Kd.int .i64) w A0_1 l0_1.length l0_1) (hc0_1 : l0_1.length ≤ c0_1) (hr2 : Kd.C (Kd.int .i64) w A2 l2.length l2) (hc2 : l2.length ≤ c2) (hr3 : Kd.C (Kd.int .i64) w A3 l3.length l3) (hc3 : l3.length ≤ c3) (h : haberdashlaw19_same5.f k l0_0 l0_1 a0_2 a0_3 a1 l2 l3 a4 a5 a6 = some r) :
 Calls Try.prog 13 #[.agg #[.slice A0_0 l0_0.length c0_0, .slice A0_1 l0_1.length c0_1, .int .i64 a0_2, .int .i64 a0_3], .int .i64 a1, .slice A2 l2.length c2, .slice A3 l3.length c3, .int .i64 a4, .int .i64 a5, .int .i64 a6] w fun e w' => e = .returned (.bool r) ∧ Below w.heap.size w w' := by
 have hu37 := Try.underlying37
 have HR0_0 := Aside0.mk hr0_0
 have HC0_0 := Aside0.mk hc0_0
 clear hr0_0 hc0_0
 have HR0_1 := Aside0.mk hr0_1
 have HC0_1 := Aside0.mk hc0_1
 clear hr0_1 hc0_1
 have HR2 := Aside0.mk hr2
 have HC2 := Aside0.mk hc2
 clear hr2 hc2
 have HR3 := Aside0.mk hr3
 have HC3 := Aside0.mk hc3
 clear hr3 hc3
 have HB := Aside0.mk (Below.refl w.heap.size w)
 have H : (if a6 = a1 then ((haberdashhelp_Plain_int64.f k l2 l0_0).bind fun t434 => (if t434 = true then ((haberdashhelp_Plain_int64.f k l3 l0_1).bind fun t435 => (if t435 = true then (if a4 = a0_2 then (some (a5 == a0_3)) else (some false)) else (some false))) else (some false))) else (some false)) = some r := h
 clear h
 by_cases c8 : a6 = a1
 rotate_left
 ·
  rw [if_neg c8] at H; have c8b0 : (a6 == a1) = false := beq_eq_false_iff_ne.mpr c8; have c8b1 : (a6 != a1) = true := bne_iff_ne.mpr c8; obtain rfl := Option.some.inj H
  go_enter Try.func13, Try.ntmps13
  go_wp2_with (first | ((with_reducible refine gate_dst (N := 7) rfl ?_); refine box_event rf_ (N := 7) rf_ (cs := #[.slice A0_0 l0_0.length c0_0, .slice A0_1 l0_1.length c0_1, .int .i64 a0_2, .int .i64 a0_3]) (t := 37) lr_ ?_; intro gb433 hg w22 hbox hb; have BK433 := Aside0.mk hbox; have GE433 := Aside0.mk (ge_ HB hg (hb0_ HB)); replace HB := Aside0.mk (below_step (hb0_ HB) hb); clear hb hbox hg))
  go_ret
  exact ⟨er_, hb1_ HB GE433⟩
 rw [if_pos c8] at H
 have c8b0 : (a6 == a1) = true := beq_iff_eq.mpr c8
 have c8b1 : (a6 != a1) = false := bne_eq_false_iff_eq.mpr c8
 clear c8
 replace H := Option.bind_eq_some_iff.mp H
 obtain ⟨t434, A90, H⟩ := H
 (try dsimp only at H)
 have A9 := Aside0.mk A90
 clear A90
 by_cases c10 : t434 = true
 rotate_left
 ·
  replace c10 := Bool.eq_false_iff.mpr c10; subst c10; rw [if_neg nf_] at H; obtain rfl := Option.some.inj H
  go_enter Try.func13, Try.ntmps13
  go_wp2_with (first | ((with_reducible refine gate_dst (N := 7) rfl ?_); refine box_event rf_ (N := 7) rf_ (cs := #[.slice A0_0 l0_0.length c0_0, .slice A0_1 l0_1.length c0_1, .int .i64 a0_2, .int .i64 a0_3]) (t := 37) lr_ ?_; intro gb433 hg w20 hbox hb; have BK433 := Aside0.mk hbox; have GE433 := Aside0.mk (ge_ HB hg (hb0_ HB)); replace HB := Aside0.mk (below_step (hb0_ HB) hb); clear hb hbox hg; obtain ⟨hcz21_0, hcz21_1, hcz21_2, hcz21_3⟩ := cz4_ BK433; obtain ⟨hfz21_0, hfz21_1, hfz21_2, hfz21_3⟩ := fz4_ BK433) | (go_at_call 18; (with_reducible refine (haberdashhelp_Plain_int64.calls k _ _ l2 _ _ l0_0 false _ ?side1 ?side2 ?side3 ?side4 A9.out).mono ?_); (case side1 => exact sc_ (Kd.C_below HR2.out HB.out)); (case side2 => exact HC2.out); (case side3 => exact sc_ (Kd.C_below HR0_0.out HB.out)); (case side4 => exact HC0_0.out); rintro e w' ⟨rfl, ⟨nd, rfl⟩⟩))
  go_ret
  exact ⟨er_, hb1_ HB GE433⟩
 subst c10
 rw [if_pos rfl] at H
 replace H := Option.bind_eq_some_iff.mp H
 obtain ⟨t435, A110, H⟩ := H
 (try dsimp only at H)
 have A11 := Aside0.mk A110
 clear A110
 by_cases c12 : t435 = true
 rotate_left
 ·
  replace c12 := Bool.eq_false_iff.mpr c12; subst c12; rw [if_neg nf_] at H; obtain rfl := Option.some.inj H
  go_enter Try.func13, Try.ntmps13
  go_wp2_with (first | ((with_reducible refine gate_dst (N := 7) rfl ?_); refine box_event rf_ (N := 7) rf_ (cs := #[.slice A0_0 l0_0.length c0_0, .slice A0_1 l0_1.length c0_1, .int .i64 a0_2, .int .i64 a0_3]) (t := 37) lr_ ?_; intro gb433 hg w18 hbox hb; have BK433 := Aside0.mk hbox; have GE433 := Aside0.mk (ge_ HB hg (hb0_ HB)); replace HB := Aside0.mk (below_step (hb0_ HB) hb); clear hb hbox hg; obtain ⟨hcz19_0, hcz19_1, hcz19_2, hcz19_3⟩ := cz4_ BK433; obtain ⟨hfz19_0, hfz19_1, hfz19_2, hfz19_3⟩ := fz4_ BK433) | (go_at_call 18; (with_reducible refine (haberdashhelp_Plain_int64.calls k _ _ l2 _ _ l0_0 true _ ?side1 ?side2 ?side3 ?side4 A9.out).mono ?_); (case side1 => exact sc_ (Kd.C_below HR2.out HB.out)); (case side2 => exact HC2.out); (case side3 => exact sc_ (Kd.C_below HR0_0.out HB.out)); (case side4 => exact HC0_0.out); rintro e w' ⟨rfl, ⟨nd, rfl⟩⟩) | (go_at_call 18; (with_reducible refine (haberdashhelp_Plain_int64.calls k _ _ l3 _ _ l0_1 false _ ?side1 ?side2 ?side3 ?side4 A11.out).mono ?_); (case side1 => exact (Kd.C_below HR3.out (hb1_ HB GE433))); (case side2 => exact HC3.out); (case side3 => exact (Kd.C_below HR0_1.out (hb1_ HB GE433))); (case side4 => exact HC0_1.out); rintro e w' ⟨rfl, ⟨nd, rfl⟩⟩))
  go_ret
  exact ⟨er_, hb1_ HB GE433⟩
 subst c12
 rw [if_pos rfl] at H
 by_cases c13 : a4 = a0_2
 rotate_left
 ·
  rw [if_neg c13] at H; have c13b0 : (a4 == a0_2) = false := beq_eq_false_iff_ne.mpr c13; have c13b1 : (a4 != a0_2) = true := bne_iff_ne.mpr c13; obtain rfl := Option.some.inj H
  go_enter Try.func13, Try.ntmps13
  go_wp2_with (first | ((with_reducible refine gate_dst (N := 7) rfl ?_); refine box_event rf_ (N := 7) rf_ (cs := #[.slice A0_0 l0_0.length c0_0, .slice A0_1 l0_1.length c0_1, .int .i64 a0_2, .int .i64 a0_3]) (t := 37) lr_ ?_; intro gb433 hg w16 hbox hb; have BK433 := Aside0.mk hbox; have GE433 := Aside0.mk (ge_ HB hg (hb0_ HB)); replace HB := Aside0.mk (below_step (hb0_ HB) hb); clear hb hbox hg; obtain ⟨hcz17_0, hcz17_1, hcz17_2, hcz17_3⟩ := cz4_ BK433; obtain ⟨hfz17_0, hfz17_1, hfz17_2, hfz17_3⟩ := fz4_ BK433) | (go_at_call 18; (with_reducible refine (haberdashhelp_Plain_int64.calls k _ _ l2 _ _ l0_0 true _ ?side1 ?side2 ?side3 ?side4 A9.out).mono ?_); (case side1 => exact sc_ (Kd.C_below HR2.out HB.out)); (case side2 => exact HC2.out); (case side3 => exact sc_ (Kd.C_below HR0_0.out HB.out)); (case side4 => exact HC0_0.out); rintro e w' ⟨rfl, ⟨nd, rfl⟩⟩) | (go_at_call 18; (with_reducible refine (haberdashhelp_Plain_int64.calls k _ _ l3 _ _ l0_1 true _ ?side1 ?side2 ?side3 ?side4 A11.out).mono ?_); (case side1 => exact (Kd.C_below HR3.out (hb1_ HB GE433))); (case side2 => exact HC3.out); (case side3 => exact (Kd.C_below HR0_1.out (hb1_ HB GE433))); (case side4 => exact HC0_1.out); rintro e w' ⟨rfl, ⟨nd, rfl⟩⟩))
  go_ret
  exact ⟨er_, hb1_ HB GE433⟩
 rw [if_pos c13] at H
 have c13b0 : (a4 == a0_2) = true := beq_iff_eq.mpr c13
 have c13b1 : (a4 != a0_2) = false := bne_eq_false_iff_eq.mpr c13
 clear c13
 obtain rfl := Option.some.inj H
 go_enter Try.func13, Try.ntmps13
 go_wp2_with (first | ((with_reducible refine gate_dst (N := 7) rfl ?_); refine box_event rf_ (N := 7) rf_ (cs := #[.slice A0_0 l0_0.length c0_0, .slice A0_1 l0_1.length c0_1, .int .i64 a0_2, .int .i64 a0_3]) (t := 37) lr_ ?_; intro gb433 hg w14 hbox hb; have BK433 := Aside0.mk hbox; have GE433 := Aside0.mk (ge_ HB hg (hb0_ HB)); replace HB := Aside0.mk (below_step (hb0_ HB) hb); clear hb hbox hg; obtain ⟨hcz15_0, hcz15_1, hcz15_2, hcz15_3⟩ := cz4_ BK433; obtain ⟨hfz15_0, hfz15_1, hfz15_2, hfz15_3⟩ := fz4_ BK433) | (go_at_call 18; (with_reducible refine (haberdashhelp_Plain_int64.calls k _ _ l2 _ _ l0_0 true _ ?side1 ?side2 ?side3 ?side4 A9.out).mono ?_); (case side1 => exact sc_ (Kd.C_below HR2.out HB.out)); (case side2 => exact HC2.out); (case side3 => exact sc_ (Kd.C_below HR0_0.out HB.out)); (case side4 => exact HC0_0.out); rintro e w' ⟨rfl, ⟨nd, rfl⟩⟩) | (go_at_call 18; (with_reducible refine (haberdashhelp_Plain_int64.calls k _ _ l3 _ _ l0_1 true _ ?side1 ?side2 ?side3 ?side4 A11.out).mono ?_); (case side1 => exact (Kd.C_below HR3.out (hb1_ HB GE433))); (case side2 => exact HC3.out); (case side3 => exact (Kd.C_below HR0_1.out (hb1_ HB GE433))); (case side4 => exact HC0_1.out); rintro e w' ⟨rfl, ⟨nd, rfl⟩⟩))
 go_ret
 exact ⟨er_, hb1_ HB GE433⟩

/-! ### haberdashlaw19_near: function 17 -/
mutual
def haberdashlaw19_near.l0 : Nat → List Int → List Int → List ByteArray → List Int → Int → Option (List ByteArray × List Int)
 | 0, _, _, _, _, _ => none
 | k + 1, x0, x1, x6, x7, x8 => if x8 < (x1.length : Int) then (haberdashlaw19_near.j1 k x0 x1 x6 x7 x8 (decide (x8 < 30))) else (haberdashlaw19_near.j1 k x0 x1 x6 x7 x8 false)
def haberdashlaw19_near.j1 : Nat → List Int → List Int → List ByteArray → List Int → Int → Bool → Option (List ByteArray × List Int)
 | 0, _, _, _, _, _, _ => none
 | k + 1, x0, x1, x6, x7, x8, x17 => if x17 = true then (if x8 < (x0.length : Int) then (if 0 ≤ x8 then ((haberdashplay_Category.f (rd x0 x8)).bind fun t453 => (if x6.length < 8796093022208 then (if x8 < (x1.length : Int) then ((haberdashplay_Mod64.f (rd x1 x8) 20000).bind fun t458 => (if x7.length < 17592186044416 then (haberdashlaw19_near.l0 k x0 x1 (x6 ++ [t453]) (x7 ++ [t458]) (wrap64 (x8 + 1))) else (none))) else (none)) else (none))) else (none)) else ((haberdashplay_Category.f x8).bind fun t462 => (if x6.length < 8796093022208 then (if 0 ≤ x8 then (if x8 < (x1.length : Int) then ((haberdashplay_Mod64.f (rd x1 x8) 20000).bind fun t467 => (if x7.length < 17592186044416 then (haberdashlaw19_near.l0 k x0 x1 (x6 ++ [t462]) (x7 ++ [t467]) (wrap64 (x8 + 1))) else (none))) else (none)) else (none)) else (none)))) else (some (x6, x7))
end
def haberdashlaw19_near.f (k : Nat) (l0 : List Int) (l1 : List Int) : Option (List ByteArray × List Int) := haberdashlaw19_near.l0 k l0 l1 ([] : List ByteArray) ([] : List Int) 0
def haberdashlaw19_near.T9 : Bool × List (List Nat × List Nat) := (true, [([], []), ([], []), ([1], [1]), ([2], [2]), ([0, 3, 2], [0, 3]), ([], []), ([], []), ([], []), ([6, 7], [6, 7]), ([8], [8]), ([9, 4], [9]), ([10], [10]), ([5, 11, 10], [5, 11]), ([4, 12, 0, 1, 2, 3, 4], [0, 4]), ([12, 13, 0, 1, 2, 3, 4, 5, 6, 7, 8, 9, 10, 11, 12, 13], [5, 12])])
def haberdashlaw19_near.B9 : List Nat := [0, 0, 2, 6, 15, 0, 0, 0, 192, 448, 991, 2015, 4095, 8191, 16383]
theorem haberdashlaw19_near.tab9 : rtab .any (opsOf Try.f17 9) = haberdashlaw19_near.T9 := by kernel_rfl
theorem haberdashlaw19_near.bits9 : waitsOk haberdashlaw19_near.T9.2 haberdashlaw19_near.B9 = true := by kernel_rfl
set_option maxHeartbeats 8000000 in
set_option maxRecDepth 100000 in
theorem haberdashlaw19_near.calls (k : Nat) (A0 : Option Addr) (c0 : Nat) (l0 : List Int) (A1 : Option Addr) (c1 : Nat) (l1 : List Int) (r1 : List ByteArray) (r2 : List Int) (w : World) (hr0 : Kd.C (Kd.int .i64) w A0 l0.length l0) (hc0 : l0.length ≤ c0) (hr1 : Kd.C (Kd.int .i64) w A1 l1.length l1) (hc1 : l1.length ≤ c1) (h : haberdashlaw19_near.f k l0 l1 = some (r1, r2)) :
 Calls Try.prog 17 #[.slice A0 l0.length c0, .slice A1 l1.length c1] w fun e w' => ∃ v0_ v1_ : Value, e = .returned (.tuple #[v0_, v1_]) ∧ Kd.R Kd.string 9 w' w.heap.size (fun _ => True) v0_ r1 ∧ Kd.R (Kd.int .i64) 2 w' w.heap.size (fun _ => True) v1_ r2 ∧ Below w.heap.size w w' := by
 have HR0 := Aside0.mk hr0
 have HC0 := Aside0.mk hc0
 clear hr0 hc0
 have HR1 := Aside0.mk hr1
 have HC1 := Aside0.mk hc1
 clear hr1 hc1
 have HB := Aside0.mk (Below.refl w.heap.size w)
 have H : (haberdashlaw19_near.l0 k l0 l1 ([] : List ByteArray) ([] : List Int) 0) = some (r1, r2) := h
 clear h
 have H' := Aside0.mk H
 clear H
 go_enter Try.func17, Try.ntmps17
 go_wp2
 go_loopg [6, 7, 8] k (fun kq v6 v7 v8 w' => ∃ (x6_1 : List ByteArray) (x7_1 : List Int) (x8_1 : Int), v8 = .int .i64 x8_1 ∧ Aside0 (haberdashlaw19_near.l0 kq l0 l1 x6_1 x7_1 x8_1 = some (r1, r2)) ∧ Aside0 (kq ≤ k) ∧ Aside0 (Kd.R Kd.string 9 w' w.heap.size (fun _ => True) v6 x6_1) ∧ Aside0 (Kd.R (Kd.int .i64) 2 w' w.heap.size (fun _ => True) v7 x7_1) ∧ Aside0 (Below w.heap.size w w'))
 case atStart => exact ⟨(([] : List ByteArray)), (([] : List Int)), (0), rf_, H', ⟨Nat.le_refl _⟩, ⟨ni_⟩, ⟨ni_⟩, ⟨hb0_ HB⟩⟩
 case round =>
  clear H'; (try clear c1); (try clear p2); obtain ⟨x6_1, x7_1, x8_1, rfl, HA, HK1, HO_6, HO_7, HB⟩ := hrel
  cases gk with
  | zero => exact absurd HA.out (by simp [haberdashlaw19_near.l0])
  | succ k1 =>
   have H := HA.out; clear HA
   simp only [haberdashlaw19_near.l0] at H
   have HC3 := Aside0.mk H; clear H
   go_upto_region 4 with (fail)
   go_cut [17] (fun v17 wc => ∃ (kq : Nat) (x17_2 : Bool), v17 = .bool x17_2 ∧ Aside0 (haberdashlaw19_near.j1 kq l0 l1 x6_1 x7_1 x8_1 x17_2 = some (r1, r2)) ∧ Aside0 (kq ≤ k1) ∧ Aside0 (Kd.R Kd.string 9 wc w.heap.size (fun _ => True) u6 x6_1) ∧ Aside0 (Kd.R (Kd.int .i64) 2 wc w.heap.size (fun _ => True) u7 x7_1) ∧ Aside0 (Below w.heap.size w wc))
   case first =>
    have H := HC3.out; clear HC3
    by_cases c4 : x8_1 < (l1.length : Int)
    rotate_left
    ·
     rw [if_neg c4] at H; have c4b0 := decide_eq_false c4; clear c4
     (first | rw [c4b0] | (simp only [i64_w, i32_w]; rw [c4b0]) | skip)
     have H' := Aside0.mk H; clear H
     go_wp2
     go_meet
     case rel => exact ⟨_, (false), rf_, H', ⟨by have := HK1.out; first | omega | exact Nat.le_refl _⟩, ⟨ro_ HO_6⟩, ⟨ro_ HO_7⟩, ⟨hb0_ HB⟩⟩
    rw [if_pos c4] at H; have c4b0 := decide_eq_true c4; clear c4
    (first | rw [c4b0] | (simp only [i64_w, i32_w]; rw [c4b0]) | skip)
    have H' := Aside0.mk H; clear H
    go_wp2
    go_meet
    case rel => exact ⟨_, (decide (x8_1 < 30)), rf_, H', ⟨by have := HK1.out; first | omega | exact Nat.le_refl _⟩, ⟨ro_ HO_6⟩, ⟨ro_ HO_7⟩, ⟨hb0_ HB⟩⟩
   case rest =>
    clear HC3; (try clear c1); (try clear p2); (try clear c4); (try clear c4b0); (try clear p2); obtain ⟨kq, x17_2, rfl, HA, HJ2, HO_6, HO_7, HB⟩ := hcut
    cases kq with
    | zero => exact absurd HA.out (by simp [haberdashlaw19_near.j1])
    | succ kj2 =>
     have H := HA.out; clear HA
     simp only [haberdashlaw19_near.j1] at H
     by_cases c5 : x17_2 = true
     rotate_left
     ·
      replace c5 := Bool.eq_false_iff.mpr c5; subst c5; rw [if_neg nf_] at H
      simp only [Option.some.injEq, Prod.mk.injEq] at H
      obtain ⟨rfl, rfl⟩ := H
      go_wp2
      go_ret2
      exact ⟨_, _, er_, ro_ HO_6, ro_ HO_7, hb0_ HB⟩
     subst c5; rw [if_pos rfl] at H
     by_cases c6 : x8_1 < (l0.length : Int)
     rotate_left
     ·
      rw [if_neg c6] at H; have c6b0 := decide_eq_false c6; clear c6; replace H := Option.bind_eq_some_iff.mp H; obtain ⟨t462, A170, H⟩ := H
      replace H : (if x6_1.length < 8796093022208 then (if 0 ≤ x8_1 then (if x8_1 < (l1.length : Int) then ((haberdashplay_Mod64.f (rd l1 x8_1) 20000).bind fun t467 => (if x7_1.length < 17592186044416 then (haberdashlaw19_near.l0 kj2 l0 l1 (x6_1 ++ [t462]) (x7_1 ++ [t467]) (wrap64 (x8_1 + 1))) else (none))) else (none)) else (none)) else (none)) = some (r1, r2) := H
      have A17 := Aside0.mk A170; clear A170; replace H := ip_ H; obtain ⟨c18, H⟩ := H; have LMc18 := Aside0.mk c18; clear c18; obtain ⟨y463, hy463⟩ : ∃ y_ : List ByteArray, y_ = (x6_1 ++ [t462]) := ⟨_, rfl⟩
      replace H : (if 0 ≤ x8_1 then (if x8_1 < (l1.length : Int) then ((haberdashplay_Mod64.f (rd l1 x8_1) 20000).bind fun t467 => (if x7_1.length < 17592186044416 then (haberdashlaw19_near.l0 kj2 l0 l1 y463 (x7_1 ++ [t467]) (wrap64 (x8_1 + 1))) else (none))) else (none)) else (none)) = some (r1, r2) := hy_ hy463 H
      have Ny463 := Aside0.mk hy463; clear hy463; replace H := ip_ H; obtain ⟨c19, H⟩ := H; have c19b0 := decide_eq_true c19; clear c19; replace H := ip_ H; obtain ⟨c20, H⟩ := H; have c20b0 := decide_eq_true c20; clear c20; replace H := Option.bind_eq_some_iff.mp H; obtain ⟨t467, A210, H⟩ := H; replace H : (if x7_1.length < 17592186044416 then (haberdashlaw19_near.l0 kj2 l0 l1 y463 (x7_1 ++ [t467]) (wrap64 (x8_1 + 1))) else (none)) = some (r1, r2) := H
      have A21 := Aside0.mk A210; clear A210; replace H := ip_ H; obtain ⟨c22, H⟩ := H; have LMc22 := Aside0.mk c22; clear c22; obtain ⟨y468, hy468⟩ : ∃ y_ : List Int, y_ = (x7_1 ++ [t467]) := ⟨_, rfl⟩; replace H : (haberdashlaw19_near.l0 kj2 l0 l1 y463 y468 (wrap64 (x8_1 + 1))) = some (r1, r2) := hy_ hy468 H
      have Ny468 := Aside0.mk hy468; clear hy468; have H' := Aside0.mk H; clear H
      try go_wp2
      replace HO_6 := Aside0.mk (Kd.R_drew HO_6.out); replace HO_7 := Aside0.mk (Kd.R_drew HO_7.out); replace HB := Aside0.mk (below_drew1 HB.out); have p466 : 0 ≤ (x8_1 : Int) := of_decide_eq_true as_; have q466 : x8_1 < (l1.length : Int) := of_decide_eq_true as_; obtain ⟨ad466, e466, hx466_0⟩ := Kd.at_int HR1.out x8_1 p466 q466
      have hw466_0 := hx466_0; cases e466; replace hx466_0 := hd_ HB hx466_0; replace p466 := eq_true p466; replace q466 := eq_true q466
      refine start_ (n := 15) (S := fun w' => w'.cell? (ad466.add (x8_1).toNat) = some (.int .i64 (rd l1 x8_1))) (ds := []) (mk 15 0) (by kernel_rfl) rfl rfl ((hc_ HB hw466_0)) (fun hHeld => ?_); refine with_tabW haberdashlaw19_near.tab9 haberdashlaw19_near.bits9 (fun HT_ HW_ => ?_)
      generalize wc.drew = w23 at HO_6 HO_7 HB hx466_0 hHeld ⊢
      refine ahead_ [(0, 29), (1, 30), (5, 34), (6, 35), (7, 36), (8, 37)] ?_
      iterate 6 (refine pB_ HT_ ?_)
      refine aheadE_ (mk 15 483) kr_ ?_
      refine take_ (i := 9) (N := some 38) (v := ?_) (a' := ?_) (mk 15 995) rfl rfl (tw_ HT_ HW_) nh_ (Or.inl ⟨by rfl, ?_⟩) hHeld ?_ ?_
      rotate_left
      ·
       intro w' s0
       go_simp
       with_reducible rfl
      rotate_left; (exact pu_)
      refine one_ (i := 2) (N := some 31) (mk 15 999) rfl rfl (on_ HT_) de_ (fun K hK => ?_)
      refine goes_ Try.func20 (by kernel_rfl) rfl #[.int .i64 x8_1] (by rfl) rfl rfl am_ ?_
      with_reducible refine (haberdashplay_Category.calls x8_1 t462 _ A17.out).mono ?_
      rintro e w24 ⟨rfl, hb⟩
      refine ⟨_, rfl, ?_⟩
      replace HO_6 := Aside0.mk (Kd.R_below (ro_ HO_6) hb); replace HO_7 := Aside0.mk (Kd.R_below (ro_ HO_7) hb); replace HB := Aside0.mk (below_step (hb0_ HB) hb); (try clear hb); (try clear hb2); (try clear hk); (try clear hi)
      refine hK.out _ _ ((hc_ HB hw466_0)) (fun hHeld => ?_)
      clear hK K
      refine norm_ pv_ ?_
      refine one_ (i := 3) (N := some 32) (mk 15 1007) rfl rfl (on_ HT_) de_ (fun K hK => ?_)
      refine value_ (w1 := ?_) (v := ?_) (by rfl) rfl ?_ ?_
      rotate_left 2
      ·
       go_simp
       constructor
       ·
        rfl
       ·
        rfl
      refine hK.out _ _ ((World.cell?_alloc_lt _ _ _ (World.block_lt_of_cell? _ _ ((hc_ HB hw466_0)))).trans ((hc_ HB hw466_0))) (fun hHeld => ?_)
      clear hK K
      refine norm_ pv_ ?_
      refine one_ (i := 4) (N := some 33) (mk 15 1023) rfl rfl (on_ HT_) de_ (fun K hK => ?_)
      refine Kd.R_append_step Kd.string (w0 := w) w.heap.size (by rfl) (.tmp 29) (.tmp 32) 25 9 (.string ⟨#[]⟩) 16 rfl Try.underlying25 info9 rfl (by decide) (by omega) u6 x6_1 t462 [.string t462] (fun _ => True) (fun _ => False) rfl rfl ?aP (fun _ hk => hk.elim) ?aF ?aO ?aB ?aS ?aL ?_
      (case aP => exact rfl)
      (case aB => exact (hb0_ HB))
      (case aF => exact (fun _ _ => trivial))
      (case aO => exact (ro_ HO_6))
      (case aS => exact (below_size (hb0_ HB)))
      (case aL => have := LMc18.out; omega)
      intro v464 w25 ho hb hg hat
      rw [← Ny463.out] at ho
      have n0_ := Aside0.mk (Kd.R_over' (ro_ HO_7) (Kd.R_typed (ro_ HO_6)) (by decide) hg)
      have n1_ := Aside0.mk hb; have n2_ := Aside0.mk ho; clear HO_7; clear HB; clear HO_6; have HO_7 := n0_; have HB := n1_; have HO465 := n2_; clear n0_ n1_ n2_; clear ho hb hg hat
      refine hK.out _ _ ((hc_ HB hw466_0)) (fun hHeld => ?_)
      clear hK K
      refine norm_ pv_ ?_
      refine one_ (i := 10) (N := some 39) (mk 15 2047) rfl rfl (on_ HT_) de_ (fun K hK => ?_)
      refine goes_ Try.func16 (by kernel_rfl) rfl #[.int .i64 (rd l1 x8_1), .int .i64 20000] (by rfl) rfl rfl am_ ?_
      with_reducible refine (haberdashplay_Mod64.calls (rd l1 x8_1) 20000 t467 _ A21.out).mono ?_
      rintro e w' ⟨rfl, ⟨nd, rfl⟩⟩
      refine ⟨_, rfl, ?_⟩
      refine hK.out _ _ ((hc_ HB hw466_0)) (fun hHeld => ?_)
      clear hK K
      refine norm_ pv_ ?_
      refine one_ (i := 11) (N := some 40) (mk 15 4095) rfl rfl (on_ HT_) de_ (fun K hK => ?_)
      refine value_ (w1 := ?_) (v := ?_) (by rfl) rfl ?_ ?_
      rotate_left 2
      ·
       go_simp
       constructor
       ·
        rfl
       ·
        rfl
      refine hK.out _ _ ((World.cell?_alloc_lt _ _ _ (World.block_lt_of_cell? _ _ ((hc_ HB hw466_0)))).trans ((hc_ HB hw466_0))) (fun hHeld => ?_)
      clear hK K
      refine norm_ pv_ ?_
      refine one_ (i := 12) (N := some 41) (mk 15 8191) rfl rfl (on_ HT_) de_ (fun K hK => ?_)
      refine Kd.R_append_step (Kd.int .i64) (w0 := w) w.heap.size (by rfl) (.tmp 34) (.tmp 40) 26 2 (.int .i64 0) 8 rfl Try.underlying26 info2 rfl (by decide) (by omega) u7 x7_1 t467 [.int .i64 t467] (fun _ => True) (fun _ => False) rfl rfl ?aP (fun _ hk => hk.elim) ?aF ?aO ?aB ?aS ?aL ?_
      (case aP => exact rfl)
      (case aB => exact (hb0_ HB))
      (case aF => exact (fun _ _ => trivial))
      (case aO => exact (ro_ HO_7))
      (case aS => exact (below_size (hb0_ HB)))
      (case aL => have := LMc22.out; omega)
      intro v469 w26 ho hb hg hat
      rw [← Ny468.out] at ho
      have n0_ := Aside0.mk (Kd.R_over' (ro_ HO465) (Kd.R_typed (ro_ HO_7)) (by decide) hg)
      have n1_ := Aside0.mk hb; have n2_ := Aside0.mk ho; clear HO465; clear HB; clear HO_7; have HO465 := n0_; have HB := n1_; have HO470 := n2_; clear n0_ n1_ n2_; clear ho hb hg hat
      refine hK.out _ _ ((hc_ HB hw466_0)) (fun hHeld => ?_)
      clear hK K
      refine norm_ pv_ ?_
      refine ahead_ [(13, 6), (14, 7)] ?_
      iterate 2 (refine pB_ HT_ ?_)
      refine aheadE_ (mk 15 32767) kr_ ?_
      refine done_ (done_of HT_.out (by kernel_rfl)) ?_
      try go_wp2
      go_roundg kj2
      case measure => have := HK1.out; have := HJ2.out; omega
      case rel => exact ⟨(y463), (y468), (wrap64 (x8_1 + 1)), rf_, H', ⟨ho2_ HK1 HJ2⟩, ⟨ro_ HO465⟩, ⟨ro_ HO470⟩, ⟨hb0_ HB⟩⟩
     rw [if_pos c6] at H; have c6b0 := decide_eq_true c6; clear c6; replace H := ip_ H; obtain ⟨c7, H⟩ := H; have c7b0 := decide_eq_true c7; clear c7; replace H := Option.bind_eq_some_iff.mp H; obtain ⟨t453, A80, H⟩ := H
     replace H : (if x6_1.length < 8796093022208 then (if x8_1 < (l1.length : Int) then ((haberdashplay_Mod64.f (rd l1 x8_1) 20000).bind fun t458 => (if x7_1.length < 17592186044416 then (haberdashlaw19_near.l0 kj2 l0 l1 (x6_1 ++ [t453]) (x7_1 ++ [t458]) (wrap64 (x8_1 + 1))) else (none))) else (none)) else (none)) = some (r1, r2) := H
     have A8 := Aside0.mk A80; clear A80; replace H := ip_ H; obtain ⟨c9, H⟩ := H; have LMc9 := Aside0.mk c9; clear c9; obtain ⟨y454, hy454⟩ : ∃ y_ : List ByteArray, y_ = (x6_1 ++ [t453]) := ⟨_, rfl⟩
     replace H : (if x8_1 < (l1.length : Int) then ((haberdashplay_Mod64.f (rd l1 x8_1) 20000).bind fun t458 => (if x7_1.length < 17592186044416 then (haberdashlaw19_near.l0 kj2 l0 l1 y454 (x7_1 ++ [t458]) (wrap64 (x8_1 + 1))) else (none))) else (none)) = some (r1, r2) := hy_ hy454 H
     have Ny454 := Aside0.mk hy454; clear hy454; replace H := ip_ H; obtain ⟨c10, H⟩ := H; have c10b0 := decide_eq_true c10; clear c10; replace H := Option.bind_eq_some_iff.mp H; obtain ⟨t458, A110, H⟩ := H; replace H : (if x7_1.length < 17592186044416 then (haberdashlaw19_near.l0 kj2 l0 l1 y454 (x7_1 ++ [t458]) (wrap64 (x8_1 + 1))) else (none)) = some (r1, r2) := H
     have A11 := Aside0.mk A110; clear A110; replace H := ip_ H; obtain ⟨c12, H⟩ := H; have LMc12 := Aside0.mk c12; clear c12; obtain ⟨y459, hy459⟩ : ∃ y_ : List Int, y_ = (x7_1 ++ [t458]) := ⟨_, rfl⟩; replace H : (haberdashlaw19_near.l0 kj2 l0 l1 y454 y459 (wrap64 (x8_1 + 1))) = some (r1, r2) := hy_ hy459 H
     have Ny459 := Aside0.mk hy459; clear hy459; have H' := Aside0.mk H; clear H; have p452 : 0 ≤ (x8_1 : Int) := of_decide_eq_true as_; have q452 : x8_1 < (l0.length : Int) := of_decide_eq_true as_; obtain ⟨ad452, e452, hx452_0⟩ := Kd.at_int HR0.out x8_1 p452 q452; cases e452; replace hx452_0 := hd_ HB hx452_0
     replace p452 := eq_true p452; replace q452 := eq_true q452
     try go_wp2
     replace HO_6 := Aside0.mk (Kd.R_drew HO_6.out); replace HO_7 := Aside0.mk (Kd.R_drew HO_7.out); replace HB := Aside0.mk (below_drew1 HB.out); have p457 : 0 ≤ (x8_1 : Int) := of_decide_eq_true as_; have q457 : x8_1 < (l1.length : Int) := of_decide_eq_true as_; obtain ⟨ad457, e457, hx457_0⟩ := Kd.at_int HR1.out x8_1 p457 q457
     have hw457_0 := hx457_0; cases e457; replace hx457_0 := hd_ HB hx457_0; replace p457 := eq_true p457; replace q457 := eq_true q457
     refine start_ (n := 15) (S := fun w' => w'.cell? (ad457.add (x8_1).toNat) = some (.int .i64 (rd l1 x8_1))) (ds := []) (mk 15 0) (by kernel_rfl) rfl rfl ((hc_ HB hw457_0)) (fun hHeld => ?_); refine with_tabW haberdashlaw19_near.tab9 haberdashlaw19_near.bits9 (fun HT_ HW_ => ?_)
     generalize wc.drew = w13 at HO_6 HO_7 HB hx457_0 hHeld ⊢
     refine ahead_ [(0, 29), (1, 30), (5, 34), (6, 35), (7, 36), (8, 37)] ?_
     iterate 6 (refine pB_ HT_ ?_)
     refine aheadE_ (mk 15 483) kr_ ?_
     refine take_ (i := 9) (N := some 38) (v := ?_) (a' := ?_) (mk 15 995) rfl rfl (tw_ HT_ HW_) nh_ (Or.inl ⟨by rfl, ?_⟩) hHeld ?_ ?_
     rotate_left
     ·
      intro w' s0
      go_simp
      with_reducible rfl
     rotate_left; (exact pu_)
     refine one_ (i := 2) (N := some 31) (mk 15 999) rfl rfl (on_ HT_) de_ (fun K hK => ?_)
     refine goes_ Try.func20 (by kernel_rfl) rfl #[.int .i64 (rd l0 x8_1)] (by rfl) rfl rfl am_ ?_
     with_reducible refine (haberdashplay_Category.calls (rd l0 x8_1) t453 _ A8.out).mono ?_
     rintro e w14 ⟨rfl, hb⟩
     refine ⟨_, rfl, ?_⟩
     replace HO_6 := Aside0.mk (Kd.R_below (ro_ HO_6) hb); replace HO_7 := Aside0.mk (Kd.R_below (ro_ HO_7) hb); replace HB := Aside0.mk (below_step (hb0_ HB) hb); (try clear hb); (try clear hb2); (try clear hk); (try clear hi)
     refine hK.out _ _ ((hc_ HB hw457_0)) (fun hHeld => ?_)
     clear hK K
     refine norm_ pv_ ?_
     refine one_ (i := 3) (N := some 32) (mk 15 1007) rfl rfl (on_ HT_) de_ (fun K hK => ?_)
     refine value_ (w1 := ?_) (v := ?_) (by rfl) rfl ?_ ?_
     rotate_left 2
     ·
      go_simp
      constructor
      ·
       rfl
      ·
       rfl
     refine hK.out _ _ ((World.cell?_alloc_lt _ _ _ (World.block_lt_of_cell? _ _ ((hc_ HB hw457_0)))).trans ((hc_ HB hw457_0))) (fun hHeld => ?_)
     clear hK K
     refine norm_ pv_ ?_
     refine one_ (i := 4) (N := some 33) (mk 15 1023) rfl rfl (on_ HT_) de_ (fun K hK => ?_)
     refine Kd.R_append_step Kd.string (w0 := w) w.heap.size (by rfl) (.tmp 29) (.tmp 32) 25 9 (.string ⟨#[]⟩) 16 rfl Try.underlying25 info9 rfl (by decide) (by omega) u6 x6_1 t453 [.string t453] (fun _ => True) (fun _ => False) rfl rfl ?aP (fun _ hk => hk.elim) ?aF ?aO ?aB ?aS ?aL ?_
     (case aP => exact rfl)
     (case aB => exact (hb0_ HB))
     (case aF => exact (fun _ _ => trivial))
     (case aO => exact (ro_ HO_6))
     (case aS => exact (below_size (hb0_ HB)))
     (case aL => have := LMc9.out; omega)
     intro v455 w15 ho hb hg hat
     rw [← Ny454.out] at ho
     have n0_ := Aside0.mk (Kd.R_over' (ro_ HO_7) (Kd.R_typed (ro_ HO_6)) (by decide) hg)
     have n1_ := Aside0.mk hb; have n2_ := Aside0.mk ho; clear HO_7; clear HB; clear HO_6; have HO_7 := n0_; have HB := n1_; have HO456 := n2_; clear n0_ n1_ n2_; clear ho hb hg hat
     refine hK.out _ _ ((hc_ HB hw457_0)) (fun hHeld => ?_)
     clear hK K
     refine norm_ pv_ ?_
     refine one_ (i := 10) (N := some 39) (mk 15 2047) rfl rfl (on_ HT_) de_ (fun K hK => ?_)
     refine goes_ Try.func16 (by kernel_rfl) rfl #[.int .i64 (rd l1 x8_1), .int .i64 20000] (by rfl) rfl rfl am_ ?_
     with_reducible refine (haberdashplay_Mod64.calls (rd l1 x8_1) 20000 t458 _ A11.out).mono ?_
     rintro e w' ⟨rfl, ⟨nd, rfl⟩⟩
     refine ⟨_, rfl, ?_⟩
     refine hK.out _ _ ((hc_ HB hw457_0)) (fun hHeld => ?_)
     clear hK K
     refine norm_ pv_ ?_
     refine one_ (i := 11) (N := some 40) (mk 15 4095) rfl rfl (on_ HT_) de_ (fun K hK => ?_)
     refine value_ (w1 := ?_) (v := ?_) (by rfl) rfl ?_ ?_
     rotate_left 2
     ·
      go_simp
      constructor
      ·
       rfl
      ·
       rfl
     refine hK.out _ _ ((World.cell?_alloc_lt _ _ _ (World.block_lt_of_cell? _ _ ((hc_ HB hw457_0)))).trans ((hc_ HB hw457_0))) (fun hHeld => ?_)
     clear hK K
     refine norm_ pv_ ?_
     refine one_ (i := 12) (N := some 41) (mk 15 8191) rfl rfl (on_ HT_) de_ (fun K hK => ?_)
     refine Kd.R_append_step (Kd.int .i64) (w0 := w) w.heap.size (by rfl) (.tmp 34) (.tmp 40) 26 2 (.int .i64 0) 8 rfl Try.underlying26 info2 rfl (by decide) (by omega) u7 x7_1 t458 [.int .i64 t458] (fun _ => True) (fun _ => False) rfl rfl ?aP (fun _ hk => hk.elim) ?aF ?aO ?aB ?aS ?aL ?_
     (case aP => exact rfl)
     (case aB => exact (hb0_ HB))
     (case aF => exact (fun _ _ => trivial))
     (case aO => exact (ro_ HO_7))
     (case aS => exact (below_size (hb0_ HB)))
     (case aL => have := LMc12.out; omega)
     intro v460 w16 ho hb hg hat
     rw [← Ny459.out] at ho
     have n0_ := Aside0.mk (Kd.R_over' (ro_ HO456) (Kd.R_typed (ro_ HO_7)) (by decide) hg)
     have n1_ := Aside0.mk hb; have n2_ := Aside0.mk ho; clear HO456; clear HB; clear HO_7; have HO456 := n0_; have HB := n1_; have HO461 := n2_; clear n0_ n1_ n2_; clear ho hb hg hat
     refine hK.out _ _ ((hc_ HB hw457_0)) (fun hHeld => ?_)
     clear hK K
     refine norm_ pv_ ?_
     refine ahead_ [(13, 6), (14, 7)] ?_
     iterate 2 (refine pB_ HT_ ?_)
     refine aheadE_ (mk 15 32767) kr_ ?_
     refine done_ (done_of HT_.out (by kernel_rfl)) ?_
     try go_wp2
     go_roundg kj2
     case measure => have := HK1.out; have := HJ2.out; omega
     case rel => exact ⟨(y454), (y459), (wrap64 (x8_1 + 1)), rf_, H', ⟨ho2_ HK1 HJ2⟩, ⟨ro_ HO456⟩, ⟨ro_ HO461⟩, ⟨hb0_ HB⟩⟩

end Go.Proofs.Ytmiamdnhofjifaa.Rw
end
