/- Functions of the program as Lean functions, each with its contract: out of what the kit's printer wrote for this seat. -/
import Derived.Test.YtgfhjamaabaleaaVRwA
import Derived.Test.YtgfhjamaabaleaaVRwAb
import Derived.Test.YtgfhjamaabaleaaVRwRules
namespace Go.Proofs.Ytgfhjamaabaleaa.Rw
open Go.RowKit Go.Proofs.YtgfhjamaabaleaaW.PrintWords Go.Proofs.YtgfhjamaabaleaaW.PrintLast Go.Proofs.YtgfhjamaabaleaaW.PrintMore
attribute [local go_sem] max2_int min2_int max_two min_two max_three min_three max_four min_four   -- for this text's walks alone
set_option linter.unusedVariables false
set_option linter.unusedSimpArgs false
attribute [local go_sem high] leqS gtrS

/-! ### rules_ship: function 25 -/
def rules_ship.f (a0_0 : Int) (a0_1 : Int) : Option (Bool) := if a0_0 ≥ 0 then (if a0_0 ≤ 1000000000 then (if a0_1 ≥ 0 then (some (decide (a0_1 ≤ 10000000000000))) else (some false)) else (some false)) else (some false)
set_option maxHeartbeats 8000000 in
set_option maxRecDepth 100000 in
theorem rules_ship.calls (a0_0 : Int) (a0_1 : Int) (r : Bool) (w : World) (h : rules_ship.f a0_0 a0_1 = some r) :
 Calls Try.prog 25 #[.agg #[.int .i64 a0_0, .int .i64 a0_1]] w fun e w' => e = .returned (.bool r) ∧ Below w.heap.size w w' := by
 have hu46 := Try.underlying46
 have HB := Aside0.mk (Below.refl w.heap.size w)
 have H : (if a0_0 ≥ 0 then (if a0_0 ≤ 1000000000 then (if a0_1 ≥ 0 then (some (decide (a0_1 ≤ 10000000000000))) else (some false)) else (some false)) else (some false)) = some r := h
 clear h
 by_cases c2 : a0_0 ≥ 0
 rotate_left
 ·
  rw [if_neg c2] at H; have c2b0 := decide_eq_false c2; clear c2; obtain rfl := Option.some.inj H
  go_enter Try.func25, Try.ntmps25
  go_wp2_with (first | ((with_reducible refine gate_dst (N := 1) rfl ?_); refine box_event rf_ (N := 1) rf_ (cs := #[.int .i64 a0_0, .int .i64 a0_1]) (t := 46) lr_ ?_; intro gb158 hg w11 hbox hb; have BK158 := Aside0.mk hbox; have GE158 := Aside0.mk (ge_ HB hg (hb0_ HB)); replace HB := Aside0.mk (below_step (hb0_ HB) hb); clear hb hbox hg; obtain ⟨hcz12_0, hcz12_1⟩ := cz2_ BK158; obtain ⟨hfz12_0, hfz12_1⟩ := fz2_ BK158))
  go_ret
  exact ⟨er_, hb1_ HB GE158⟩
 rw [if_pos c2] at H
 have c2b0 := decide_eq_true c2
 clear c2
 by_cases c3 : a0_0 ≤ 1000000000
 rotate_left
 ·
  rw [if_neg c3] at H; have c3b0 := decide_eq_false c3; clear c3; obtain rfl := Option.some.inj H
  go_enter Try.func25, Try.ntmps25
  go_wp2_with (first | ((with_reducible refine gate_dst (N := 1) rfl ?_); refine box_event rf_ (N := 1) rf_ (cs := #[.int .i64 a0_0, .int .i64 a0_1]) (t := 46) lr_ ?_; intro gb158 hg w9 hbox hb; have BK158 := Aside0.mk hbox; have GE158 := Aside0.mk (ge_ HB hg (hb0_ HB)); replace HB := Aside0.mk (below_step (hb0_ HB) hb); clear hb hbox hg; obtain ⟨hcz10_0, hcz10_1⟩ := cz2_ BK158; obtain ⟨hfz10_0, hfz10_1⟩ := fz2_ BK158))
  go_ret
  exact ⟨er_, hb1_ HB GE158⟩
 rw [if_pos c3] at H
 have c3b0 := decide_eq_true c3
 clear c3
 by_cases c4 : a0_1 ≥ 0
 rotate_left
 ·
  rw [if_neg c4] at H; have c4b0 := decide_eq_false c4; clear c4; obtain rfl := Option.some.inj H
  go_enter Try.func25, Try.ntmps25
  go_wp2_with (first | ((with_reducible refine gate_dst (N := 1) rfl ?_); refine box_event rf_ (N := 1) rf_ (cs := #[.int .i64 a0_0, .int .i64 a0_1]) (t := 46) lr_ ?_; intro gb158 hg w7 hbox hb; have BK158 := Aside0.mk hbox; have GE158 := Aside0.mk (ge_ HB hg (hb0_ HB)); replace HB := Aside0.mk (below_step (hb0_ HB) hb); clear hb hbox hg; obtain ⟨hcz8_0, hcz8_1⟩ := cz2_ BK158; obtain ⟨hfz8_0, hfz8_1⟩ := fz2_ BK158))
  go_ret
  exact ⟨er_, hb1_ HB GE158⟩
 rw [if_pos c4] at H
 have c4b0 := decide_eq_true c4
 clear c4
 obtain rfl := Option.some.inj H
 go_enter Try.func25, Try.ntmps25
 go_wp2_with (first | ((with_reducible refine gate_dst (N := 1) rfl ?_); refine box_event rf_ (N := 1) rf_ (cs := #[.int .i64 a0_0, .int .i64 a0_1]) (t := 46) lr_ ?_; intro gb158 hg w5 hbox hb; have BK158 := Aside0.mk hbox; have GE158 := Aside0.mk (ge_ HB hg (hb0_ HB)); replace HB := Aside0.mk (below_step (hb0_ HB) hb); clear hb hbox hg; obtain ⟨hcz6_0, hcz6_1⟩ := cz2_ BK158; obtain ⟨hfz6_0, hfz6_1⟩ := fz2_ BK158))
 go_ret
 exact ⟨er_, hb1_ HB GE158⟩

/-! ### rules_Day: function 49 -/
def rules_Day.f (a0 : Int) : Option (Bool) := if a0 ≥ 0 then (some (decide (a0 ≤ 100000))) else (some false)
set_option maxHeartbeats 8000000 in
set_option maxRecDepth 100000 in
theorem rules_Day.calls (a0 : Int) (r : Bool) (w : World) (h : rules_Day.f a0 = some r) :
 Calls Try.prog 49 #[.int .i64 a0] w fun e w' => e = .returned (.bool r) ∧ Drawn0 w w' := by
 have H : (if a0 ≥ 0 then (some (decide (a0 ≤ 100000))) else (some false)) = some r := h
 clear h
 by_cases c2 : a0 ≥ 0
 rotate_left
 ·
  rw [if_neg c2] at H; have c2b0 := decide_eq_false c2; clear c2; obtain rfl := Option.some.inj H
  go_enter Try.func49, Try.ntmps49
  go_wp2
  go_ret
  exact ⟨rf_, dr_⟩
 rw [if_pos c2] at H
 have c2b0 := decide_eq_true c2
 clear c2
 obtain rfl := Option.some.inj H
 go_enter Try.func49, Try.ntmps49
 go_wp2
 go_ret
 exact ⟨rf_, dr_⟩

/-! ### rules_Kind: function 64 -/
def rules_Kind.f (a0 : Int) : Option (Bool) := if a0 ≥ 1 then (some (decide (a0 ≤ 9))) else (some false)
set_option maxHeartbeats 8000000 in
set_option maxRecDepth 100000 in
theorem rules_Kind.calls (a0 : Int) (r : Bool) (w : World) (h : rules_Kind.f a0 = some r) :
 Calls Try.prog 64 #[.int .i64 a0] w fun e w' => e = .returned (.bool r) ∧ Drawn0 w w' := by
 have H : (if a0 ≥ 1 then (some (decide (a0 ≤ 9))) else (some false)) = some r := h
 clear h
 by_cases c2 : a0 ≥ 1
 rotate_left
 ·
  rw [if_neg c2] at H; have c2b0 := decide_eq_false c2; clear c2; obtain rfl := Option.some.inj H
  go_enter Try.func64, Try.ntmps64
  go_wp2
  go_ret
  exact ⟨rf_, dr_⟩
 rw [if_pos c2] at H
 have c2b0 := decide_eq_true c2
 clear c2
 obtain rfl := Option.some.inj H
 go_enter Try.func64, Try.ntmps64
 go_wp2
 go_ret
 exact ⟨rf_, dr_⟩

/-! ### slices_Index_int_int: function 71 -/
def slices_Index_int_int.l0 : Nat → List Int → Int → Int → Int → Option (Int)
 | 0, _, _, _, _ => none
 | k + 1, x0, x1, x7, x8 => if x8 < x7 then (if 0 ≤ x8 then (if x8 < (x0.length : Int) then (if x1 = (rd x0 x8) then (some x8) else (slices_Index_int_int.l0 k x0 x1 x7 (wrap64 (x8 + 1)))) else (none)) else (none)) else (some (-1))
def slices_Index_int_int.f (k : Nat) (l0 : List Int) (a1 : Int) : Option (Int) := slices_Index_int_int.l0 k l0 a1 (l0.length : Int) 0
theorem slices_Index_int_int.mono_l : ∀ k, (∀ y0 y1 y2 y3, LeO (slices_Index_int_int.l0 k y0 y1 y2 y3) (slices_Index_int_int.l0 (k + 1) y0 y1 y2 y3))
 | 0 => fun _ _ _ _ r h => by simp [slices_Index_int_int.l0] at h
 | k + 1 => by
  have ih0 := slices_Index_int_int.mono_l k
  intros; unfold slices_Index_int_int.l0; with_reducible repeat' first | exact ih0 .. | exact lo_ | refine LeO.ite ?_ ?_ | refine LeO.bind ?_ (fun _ => ?_)
theorem slices_Index_int_int.mono : ∀ a0 a1 k, LeO (slices_Index_int_int.f k a0 a1) (slices_Index_int_int.f (k + 1) a0 a1) := by
 intro a0 a1 k
 have ih0 := slices_Index_int_int.mono_l k
 unfold slices_Index_int_int.f
 with_reducible repeat' first | exact ih0 .. | exact lo_ | refine LeO.ite ?_ ?_ | refine LeO.bind ?_ (fun _ => ?_)
set_option maxHeartbeats 8000000 in
set_option maxRecDepth 100000 in
theorem slices_Index_int_int.calls (k : Nat) (A0 : Option Addr) (c0 : Nat) (l0 : List Int) (a1 : Int) (r : Int) (w : World) (hr0 : Kd.C (Kd.int .i64) w A0 l0.length l0) (hc0 : l0.length ≤ c0) (h : slices_Index_int_int.f k l0 a1 = some r) :
 Calls Try.prog 71 #[.slice A0 l0.length c0, .int .i64 a1] w fun e w' => e = .returned (.int .i64 r) ∧ Drawn0 w w' := by
 have HR0 := Aside0.mk hr0
 have HC0 := Aside0.mk hc0
 clear hr0 hc0
 have H : (slices_Index_int_int.l0 k l0 a1 (l0.length : Int) 0) = some r := h
 clear h
 have H' := Aside0.mk H
 clear H
 go_enter Try.func71, Try.ntmps71
 go_wp2
 go_loopg [8] k (fun kq v8 w' => ∃ (x8_1 : Int), v8 = .int .i64 x8_1 ∧ Aside0 (slices_Index_int_int.l0 kq l0 a1 (l0.length : Int) x8_1 = some r) ∧ Aside0 (kq ≤ k) ∧ Drawn0 w w')
 case atStart => exact ⟨(0), rf_, H', ⟨Nat.le_refl _⟩, dr_⟩
 case round =>
  clear H'; (try clear p2); obtain ⟨x8_1, rfl, HA, HK1, ⟨m1, rfl⟩⟩ := hrel
  cases gk with
  | zero => exact absurd HA.out (by simp [slices_Index_int_int.l0])
  | succ k1 =>
   have H := HA.out; clear HA
   simp only [slices_Index_int_int.l0] at H
   by_cases c3 : x8_1 < (l0.length : Int)
   rotate_left
   ·
    rw [if_neg c3] at H; have c3b0 := decide_eq_false c3; clear c3; obtain rfl := Option.some.inj H
    go_wp2
    go_ret
    exact ⟨rf_, dr_⟩
   rw [if_pos c3] at H; have c3b0 := decide_eq_true c3; clear c3; replace H := ip_ H; obtain ⟨c4, H⟩ := H; have c4b0 := decide_eq_true c4; clear c4; replace H := ip_ H; obtain ⟨c5, H⟩ := H; have c5b0 := decide_eq_true c5; clear c5
   by_cases c6 : a1 = (rd l0 x8_1)
   ·
    rw [if_pos c6] at H; have c6b0 : (a1 == (rd l0 x8_1)) = true := beq_iff_eq.mpr c6; have c6b1 : (a1 != (rd l0 x8_1)) = false := bne_eq_false_iff_eq.mpr c6; clear c6; obtain rfl := Option.some.inj H; have p159 : 0 ≤ (x8_1 : Int) := of_decide_eq_true as_; have q159 : x8_1 < (l0.length : Int) := of_decide_eq_true as_
    obtain ⟨ad159, e159, hx159_0⟩ := Kd.at_int HR0.out x8_1 p159 q159; cases e159; replace p159 := eq_true p159; replace q159 := eq_true q159
    go_wp2
    go_ret
    exact ⟨rf_, dr_⟩
   rw [if_neg c6] at H; have c6b0 : (a1 == (rd l0 x8_1)) = false := beq_eq_false_iff_ne.mpr c6; have c6b1 : (a1 != (rd l0 x8_1)) = true := bne_iff_ne.mpr c6; have H' := Aside0.mk H; clear H; have p159 : 0 ≤ (x8_1 : Int) := of_decide_eq_true as_; have q159 : x8_1 < (l0.length : Int) := of_decide_eq_true as_
   obtain ⟨ad159, e159, hx159_0⟩ := Kd.at_int HR0.out x8_1 p159 q159; cases e159; replace p159 := eq_true p159; replace q159 := eq_true q159
   go_wp2
   go_roundg k1
   case measure => have := HK1.out; omega
   case rel => exact ⟨(wrap64 (x8_1 + 1)), rf_, H', ⟨ho_ HK1⟩, dr_⟩

/-! ### slices_Contains_int_int: function 65 -/
def slices_Contains_int_int.f (k : Nat) (l0 : List Int) (a1 : Int) : Option (Bool) := (slices_Index_int_int.f k l0 a1).bind fun t160 => (some (decide (t160 ≥ 0)))
theorem slices_Contains_int_int.mono : ∀ a0 a1 k, LeO (slices_Contains_int_int.f k a0 a1) (slices_Contains_int_int.f (k + 1) a0 a1) := by
 intro a0 a1 k
 unfold slices_Contains_int_int.f
 with_reducible repeat' first | exact slices_Index_int_int.mono .. | exact lo_ | refine LeO.ite ?_ ?_ | refine LeO.bind ?_ (fun _ => ?_)
set_option maxHeartbeats 8000000 in
set_option maxRecDepth 100000 in
theorem slices_Contains_int_int.calls (k : Nat) (A0 : Option Addr) (c0 : Nat) (l0 : List Int) (a1 : Int) (r : Bool) (w : World) (hr0 : Kd.C (Kd.int .i64) w A0 l0.length l0) (hc0 : l0.length ≤ c0) (h : slices_Contains_int_int.f k l0 a1 = some r) :
 Calls Try.prog 65 #[.slice A0 l0.length c0, .int .i64 a1] w fun e w' => e = .returned (.bool r) ∧ Drawn0 w w' := by
 have HR0 := Aside0.mk hr0
 have HC0 := Aside0.mk hc0
 clear hr0 hc0
 have H : ((slices_Index_int_int.f k l0 a1).bind fun t160 => (some (decide (t160 ≥ 0)))) = some r := h
 clear h
 replace H := Option.bind_eq_some_iff.mp H
 obtain ⟨t160, A30, H⟩ := H
 (try dsimp only at H)
 have A3 := Aside0.mk A30
 clear A30
 obtain rfl := Option.some.inj H
 go_enter Try.func65, Try.ntmps65
 go_wp2_with (first | (refine gl_ 71 7 Try.func71 #[.slice A0 l0.length c0, .int .i64 a1] ?_; (with_reducible refine (slices_Index_int_int.calls k _ _ l0 a1 t160 _ ?side1 ?side2 A3.out).mono ?_); (case side1 => exact sc_ HR0.out); (case side2 => exact HC0.out); rintro e w' ⟨rfl, ⟨nd, rfl⟩⟩; refine ⟨_, rfl, ?_⟩))
 go_ret
 exact ⟨rf_, dr_⟩

/-! ### rules_kinds: function 50 -/
def rules_kinds.l0 : Nat → List Int → List Int → Int → Int → Option (Bool)
 | 0, _, _, _, _ => none
 | k + 1, x0, x5, x6, x7 => if x7 < x6 then (if 0 ≤ x7 then (if x7 < (x5.length : Int) then ((rules_Kind.f (rd x5 x7)).bind fun t162 => (if t162 = true then (if x7 ≤ (x0.length : Int) then ((slices_Contains_int_int.f k (x0.take (x7 : Int).toNat) (rd x5 x7)).bind fun t164 => (if t164 = true then (some false) else (rules_kinds.l0 k x0 x5 x6 (wrap64 (x7 + 1))))) else (none)) else (some false))) else (none)) else (none)) else (some true)
def rules_kinds.f (k : Nat) (l0 : List Int) : Option (Bool) := rules_kinds.l0 k l0 l0 (l0.length : Int) 0
theorem rules_kinds.mono_l : ∀ k, (∀ y0 y1 y2 y3, LeO (rules_kinds.l0 k y0 y1 y2 y3) (rules_kinds.l0 (k + 1) y0 y1 y2 y3))
 | 0 => fun _ _ _ _ r h => by simp [rules_kinds.l0] at h
 | k + 1 => by
  have ih0 := rules_kinds.mono_l k
  intros; unfold rules_kinds.l0; with_reducible repeat' first | exact ih0 .. | exact slices_Contains_int_int.mono .. | exact lo_ | refine LeO.ite ?_ ?_ | refine LeO.bind ?_ (fun _ => ?_)
theorem rules_kinds.mono : ∀ a0 k, LeO (rules_kinds.f k a0) (rules_kinds.f (k + 1) a0) := by
 intro a0 k
 have ih0 := rules_kinds.mono_l k
 unfold rules_kinds.f
 with_reducible repeat' first | exact ih0 .. | exact slices_Contains_int_int.mono .. | exact lo_ | refine LeO.ite ?_ ?_ | refine LeO.bind ?_ (fun _ => ?_)
set_option maxHeartbeats 8000000 in
set_option maxRecDepth 100000 in
theorem rules_kinds.calls (k : Nat) (A0 : Option Addr) (c0 : Nat) (l0 : List Int) (r : Bool) (w : World) (hr0 : Kd.C (Kd.int .i64) w A0 l0.length l0) (hc0 : l0.length ≤ c0) (h : rules_kinds.f k l0 = some r) :
 Calls Try.prog 50 #[.slice A0 l0.length c0] w fun e w' => e = .returned (.bool r) ∧ Drawn0 w w' := by
 have HR0 := Aside0.mk hr0
 have HC0 := Aside0.mk hc0
 clear hr0 hc0
 have H : (rules_kinds.l0 k l0 l0 (l0.length : Int) 0) = some r := h
 clear h
 have H' := Aside0.mk H
 clear H
 go_enter Try.func50, Try.ntmps50
 go_wp2
 go_loopg [7] k (fun kq v7 w' => ∃ (x7_1 : Int), v7 = .int .i64 x7_1 ∧ Aside0 (rules_kinds.l0 kq l0 l0 (l0.length : Int) x7_1 = some r) ∧ Aside0 (kq ≤ k) ∧ Drawn0 w w')
 case atStart => exact ⟨(0), rf_, H', ⟨Nat.le_refl _⟩, dr_⟩
 case round =>
  clear H'; obtain ⟨x7_1, rfl, HA, HK1, ⟨m1, rfl⟩⟩ := hrel
  cases gk with
  | zero => exact absurd HA.out (by simp [rules_kinds.l0])
  | succ k1 =>
   have H := HA.out; clear HA
   simp only [rules_kinds.l0] at H
   by_cases c2 : x7_1 < (l0.length : Int)
   rotate_left
   ·
    rw [if_neg c2] at H; have c2b0 := decide_eq_false c2; clear c2; obtain rfl := Option.some.inj H
    go_wp2
    go_ret
    exact ⟨rf_, dr_⟩
   rw [if_pos c2] at H; have c2b0 := decide_eq_true c2; clear c2; replace H := ip_ H; obtain ⟨c3, H⟩ := H; have c3b0 := decide_eq_true c3; clear c3; replace H := ip_ H; obtain ⟨c4, H⟩ := H; have c4b0 := decide_eq_true c4; clear c4; replace H := Option.bind_eq_some_iff.mp H; obtain ⟨t162, A50, H⟩ := H
   (try dsimp only at H)
   have A5 := Aside0.mk A50; clear A50
   by_cases c6 : t162 = true
   rotate_left
   ·
    replace c6 := Bool.eq_false_iff.mpr c6; subst c6; rw [if_neg nf_] at H; obtain rfl := Option.some.inj H; have p161 : 0 ≤ (x7_1 : Int) := of_decide_eq_true as_; have q161 : x7_1 < (l0.length : Int) := of_decide_eq_true as_; obtain ⟨ad161, e161, hx161_0⟩ := Kd.at_int HR0.out x7_1 p161 q161; cases e161
    replace p161 := eq_true p161; replace q161 := eq_true q161
    go_wp2_with (first | (refine gl_ 64 13 Try.func64 #[.int .i64 (rd l0 x7_1)] ?_; (with_reducible refine (rules_Kind.calls (rd l0 x7_1) false _ A5.out).mono ?_); rintro e w' ⟨rfl, ⟨nd, rfl⟩⟩; refine ⟨_, rfl, ?_⟩))
    go_ret
    exact ⟨rf_, dr_⟩
   subst c6; rw [if_pos rfl] at H; have c7b0 := eq_true (of_decide_eq_true as_ : 0 ≤ x7_1); replace H := ip_ H; obtain ⟨c8, H⟩ := H; have c8b0 := eq_true c8; have c8b1 := decide_eq_true c8; clear c8; replace H := Option.bind_eq_some_iff.mp H; obtain ⟨t164, A90, H⟩ := H
   (try dsimp only at H)
   have A9 := Aside0.mk A90; clear A90
   by_cases c10 : t164 = true
   ·
    subst c10; rw [if_pos rfl] at H; obtain rfl := Option.some.inj H; have p161 : 0 ≤ (x7_1 : Int) := of_decide_eq_true as_; have q161 : x7_1 < (l0.length : Int) := of_decide_eq_true as_; obtain ⟨ad161, e161, hx161_0⟩ := Kd.at_int HR0.out x7_1 p161 q161; cases e161; replace p161 := eq_true p161; replace q161 := eq_true q161
    go_wp2_with (first | (refine gl_ 64 13 Try.func64 #[.int .i64 (rd l0 x7_1)] ?_; (with_reducible refine (rules_Kind.calls (rd l0 x7_1) true _ A5.out).mono ?_); rintro e w' ⟨rfl, ⟨nd, rfl⟩⟩; refine ⟨_, rfl, ?_⟩; obtain ⟨i011, hi011, _, hsz11, _⟩ := info_parts info3; obtain ⟨hcut11, hA11, hC11⟩ := print_take_of (P := Try.prog) (Value.int .i64) 0 40 3 .i64 Try.underlying40 hi011 hsz11 (some ad161) c0 l0 x7_1 (of_decide_eq_true as_) (of_decide_eq_true as_) HC0.out; have HR163 := Aside0.mk (Kd.C_of_reads (h1 := fun _ => rfl) (hA11 _ (Kd.reads_of_C HR0.out))); have HC163 := Aside0.mk hC11; clear hA11 hC11 hi011 hsz11) | (go_at_call 65; refine (cutl_ ?eL (slices_Contains_int_int.calls k1 _ _ (l0.take (x7_1 : Int).toNat) (rd l0 x7_1) true _ ?side1 ?side2 A9.out)).mono ?_; (case eL => have hq_ := of_eq_true ‹(x7_1 < (l0.length : Int)) = True›; have hp_ := of_eq_true ‹(0 ≤ x7_1) = True›; rw [List.length_take]; omega); (case side1 => exact sc_ HR163.out); (case side2 => exact HC163.out); rintro e w' ⟨rfl, ⟨nd, rfl⟩⟩))
    go_ret
    exact ⟨rf_, dr_⟩
   replace c10 := Bool.eq_false_iff.mpr c10; subst c10; rw [if_neg nf_] at H; have H' := Aside0.mk H; clear H; have p161 : 0 ≤ (x7_1 : Int) := of_decide_eq_true as_; have q161 : x7_1 < (l0.length : Int) := of_decide_eq_true as_; obtain ⟨ad161, e161, hx161_0⟩ := Kd.at_int HR0.out x7_1 p161 q161; cases e161
   replace p161 := eq_true p161; replace q161 := eq_true q161
   go_wp2_with (first | (refine gl_ 64 13 Try.func64 #[.int .i64 (rd l0 x7_1)] ?_; (with_reducible refine (rules_Kind.calls (rd l0 x7_1) true _ A5.out).mono ?_); rintro e w' ⟨rfl, ⟨nd, rfl⟩⟩; refine ⟨_, rfl, ?_⟩; obtain ⟨i012, hi012, _, hsz12, _⟩ := info_parts info3; obtain ⟨hcut12, hA12, hC12⟩ := print_take_of (P := Try.prog) (Value.int .i64) 0 40 3 .i64 Try.underlying40 hi012 hsz12 (some ad161) c0 l0 x7_1 (of_decide_eq_true as_) (of_decide_eq_true as_) HC0.out; have HR163 := Aside0.mk (Kd.C_of_reads (h1 := fun _ => rfl) (hA12 _ (Kd.reads_of_C HR0.out))); have HC163 := Aside0.mk hC12; clear hA12 hC12 hi012 hsz12) | (go_at_call 65; refine (cutl_ ?eL (slices_Contains_int_int.calls k1 _ _ (l0.take (x7_1 : Int).toNat) (rd l0 x7_1) false _ ?side1 ?side2 A9.out)).mono ?_; (case eL => have hq_ := of_eq_true ‹(x7_1 < (l0.length : Int)) = True›; have hp_ := of_eq_true ‹(0 ≤ x7_1) = True›; rw [List.length_take]; omega); (case side1 => exact sc_ HR163.out); (case side2 => exact HC163.out); rintro e w' ⟨rfl, ⟨nd, rfl⟩⟩))
   go_roundg k1
   case measure => have := HK1.out; omega
   case rel => exact ⟨(wrap64 (x7_1 + 1)), rf_, H', ⟨ho_ HK1⟩, dr_⟩

/-! ### rules_policy: function 26 -/
def rules_policy.f (k : Nat) (a0_0 : Int) (a0_1 : Int) (a0_2 : Int) (a0_3 : Int) (l0_4 : List Int) (l0_5 : List Int) : Option (Bool) := (rules_Day.f a0_0).bind fun t166 => (if t166 = true then ((rules_Day.f a0_1).bind fun t167 => (if t167 = true then (if a0_2 ≥ 1 then (if a0_2 ≤ 3 then ((rules_rate.f a0_3).bind fun t168 => (if t168 = true then ((rules_kinds.f k l0_4).bind fun t169 => (if t169 = true then ((rules_kinds.f k l0_5).bind fun t170 => (some t170)) else (some false))) else (some false))) else (some false)) else (some false)) else (some false))) else (some false))
theorem rules_policy.mono : ∀ a0 a1 a2 a3 a4 a5 k, LeO (rules_policy.f k a0 a1 a2 a3 a4 a5) (rules_policy.f (k + 1) a0 a1 a2 a3 a4 a5) := by
 intro a0 a1 a2 a3 a4 a5 k
 unfold rules_policy.f
 with_reducible repeat' first | exact rules_kinds.mono .. | exact lo_ | refine LeO.ite ?_ ?_ | refine LeO.bind ?_ (fun _ => ?_)
set_option maxHeartbeats 8000000 in
set_option maxRecDepth 100000 in
theorem rules_policy.calls (k : Nat) (a0_0 : Int) (a0_1 : Int) (a0_2 : Int) (a0_3 : Int) (A0_4 : Option Addr) (c0_4 : Nat) (l0_4 : List Int) (A0_5 : Option Addr) (c0_5 : Nat) (l0_5 : List Int) (r : Bool) (w : World) (hr0_4 : Kd.C (Kd.int .i64) w A0_4 l0_4.length l0_4) (hc0_4 : l0_4.length ≤ c0_4) (hr0_5 : Kd.C (Kd.int .i64) w A0_5 l0_5.length l0_5) (hc0_5 : l0_5.length ≤ c0_5) (h : rules_policy.f k a0_0 a0_1 a0_2 a0_3 l0_4 l0_5 = some r) :
 Calls Try.prog 26 #[.agg #[.int .i64 a0_0, .int .i64 a0_1, .int .i64 a0_2, .int .i64 a0_3, .slice A0_4 l0_4.length c0_4, .slice A0_5 l0_5.length c0_5]] w fun e w' => e = .returned (.bool r) ∧ Below w.heap.size w w' := by
 have hu42 := Try.underlying42
 have HR0_4 := Aside0.mk hr0_4
 have HC0_4 := Aside0.mk hc0_4
 clear hr0_4 hc0_4
 have HR0_5 := Aside0.mk hr0_5
 have HC0_5 := Aside0.mk hc0_5
 clear hr0_5 hc0_5
 have HB := Aside0.mk (Below.refl w.heap.size w)
 have H : ((rules_Day.f a0_0).bind fun t166 => (if t166 = true then ((rules_Day.f a0_1).bind fun t167 => (if t167 = true then (if a0_2 ≥ 1 then (if a0_2 ≤ 3 then ((rules_rate.f a0_3).bind fun t168 => (if t168 = true then ((rules_kinds.f k l0_4).bind fun t169 => (if t169 = true then ((rules_kinds.f k l0_5).bind fun t170 => (some t170)) else (some false))) else (some false))) else (some false)) else (some false)) else (some false))) else (some false))) = some r := h
 clear h
 replace H := Option.bind_eq_some_iff.mp H
 obtain ⟨t166, A20, H⟩ := H
 (try dsimp only at H)
 have A2 := Aside0.mk A20
 clear A20
 by_cases c3 : t166 = true
 rotate_left
 ·
  replace c3 := Bool.eq_false_iff.mpr c3; subst c3; rw [if_neg nf_] at H; obtain rfl := Option.some.inj H
  go_enter Try.func26, Try.ntmps26
  go_wp2_with (first | ((with_reducible refine gate_dst (N := 1) rfl ?_); refine box_event rf_ (N := 1) rf_ (cs := #[.int .i64 a0_0, .int .i64 a0_1, .int .i64 a0_2, .int .i64 a0_3, .slice A0_4 l0_4.length c0_4, .slice A0_5 l0_5.length c0_5]) (t := 42) lr_ ?_; intro gb165 hg w25 hbox hb; have BK165 := Aside0.mk hbox; have GE165 := Aside0.mk (ge_ HB hg (hb0_ HB)); replace HB := Aside0.mk (below_step (hb0_ HB) hb); clear hb hbox hg; obtain ⟨hcz26_0, hcz26_1, hcz26_2, hcz26_3, hcz26_4, hcz26_5⟩ := cz6_ BK165; obtain ⟨hfz26_0, hfz26_1, hfz26_2, hfz26_3, hfz26_4, hfz26_5⟩ := fz6_ BK165) | (refine gl_ 49 5 Try.func49 #[.int .i64 a0_0] ?_; (with_reducible refine (rules_Day.calls a0_0 false _ A2.out).mono ?_); rintro e w' ⟨rfl, ⟨nd, rfl⟩⟩; refine ⟨_, rfl, ?_⟩))
  go_ret
  exact ⟨er_, hb1_ HB GE165⟩
 subst c3
 rw [if_pos rfl] at H
 replace H := Option.bind_eq_some_iff.mp H
 obtain ⟨t167, A40, H⟩ := H
 (try dsimp only at H)
 have A4 := Aside0.mk A40
 clear A40
 by_cases c5 : t167 = true
 rotate_left
 ·
  replace c5 := Bool.eq_false_iff.mpr c5; subst c5; rw [if_neg nf_] at H; obtain rfl := Option.some.inj H
  go_enter Try.func26, Try.ntmps26
  go_wp2_with (first | ((with_reducible refine gate_dst (N := 1) rfl ?_); refine box_event rf_ (N := 1) rf_ (cs := #[.int .i64 a0_0, .int .i64 a0_1, .int .i64 a0_2, .int .i64 a0_3, .slice A0_4 l0_4.length c0_4, .slice A0_5 l0_5.length c0_5]) (t := 42) lr_ ?_; intro gb165 hg w23 hbox hb; have BK165 := Aside0.mk hbox; have GE165 := Aside0.mk (ge_ HB hg (hb0_ HB)); replace HB := Aside0.mk (below_step (hb0_ HB) hb); clear hb hbox hg; obtain ⟨hcz24_0, hcz24_1, hcz24_2, hcz24_3, hcz24_4, hcz24_5⟩ := cz6_ BK165; obtain ⟨hfz24_0, hfz24_1, hfz24_2, hfz24_3, hfz24_4, hfz24_5⟩ := fz6_ BK165) | (refine gl_ 49 5 Try.func49 #[.int .i64 a0_0] ?_; (with_reducible refine (rules_Day.calls a0_0 true _ A2.out).mono ?_); rintro e w' ⟨rfl, ⟨nd, rfl⟩⟩; refine ⟨_, rfl, ?_⟩) | (go_at_call 49; (with_reducible refine (rules_Day.calls a0_1 false _ A4.out).mono ?_); rintro e w' ⟨rfl, ⟨nd, rfl⟩⟩))
  go_ret
  exact ⟨er_, hb1_ HB GE165⟩
 subst c5
 rw [if_pos rfl] at H
 by_cases c6 : a0_2 ≥ 1
 rotate_left
 ·
  rw [if_neg c6] at H; have c6b0 := decide_eq_false c6; clear c6; obtain rfl := Option.some.inj H
  go_enter Try.func26, Try.ntmps26
  go_wp2_with (first | ((with_reducible refine gate_dst (N := 1) rfl ?_); refine box_event rf_ (N := 1) rf_ (cs := #[.int .i64 a0_0, .int .i64 a0_1, .int .i64 a0_2, .int .i64 a0_3, .slice A0_4 l0_4.length c0_4, .slice A0_5 l0_5.length c0_5]) (t := 42) lr_ ?_; intro gb165 hg w21 hbox hb; have BK165 := Aside0.mk hbox; have GE165 := Aside0.mk (ge_ HB hg (hb0_ HB)); replace HB := Aside0.mk (below_step (hb0_ HB) hb); clear hb hbox hg; obtain ⟨hcz22_0, hcz22_1, hcz22_2, hcz22_3, hcz22_4, hcz22_5⟩ := cz6_ BK165; obtain ⟨hfz22_0, hfz22_1, hfz22_2, hfz22_3, hfz22_4, hfz22_5⟩ := fz6_ BK165) | (refine gl_ 49 5 Try.func49 #[.int .i64 a0_0] ?_; (with_reducible refine (rules_Day.calls a0_0 true _ A2.out).mono ?_); rintro e w' ⟨rfl, ⟨nd, rfl⟩⟩; refine ⟨_, rfl, ?_⟩) | (go_at_call 49; (with_reducible refine (rules_Day.calls a0_1 true _ A4.out).mono ?_); rintro e w' ⟨rfl, ⟨nd, rfl⟩⟩))
  go_ret
  exact ⟨er_, hb1_ HB GE165⟩
 rw [if_pos c6] at H
 have c6b0 := decide_eq_true c6
 clear c6
 by_cases c7 : a0_2 ≤ 3
 rotate_left
 ·
  rw [if_neg c7] at H; have c7b0 := decide_eq_false c7; clear c7; obtain rfl := Option.some.inj H
  go_enter Try.func26, Try.ntmps26
  go_wp2_with (first | ((with_reducible refine gate_dst (N := 1) rfl ?_); refine box_event rf_ (N := 1) rf_ (cs := #[.int .i64 a0_0, .int .i64 a0_1, .int .i64 a0_2, .int .i64 a0_3, .slice A0_4 l0_4.length c0_4, .slice A0_5 l0_5.length c0_5]) (t := 42) lr_ ?_; intro gb165 hg w19 hbox hb; have BK165 := Aside0.mk hbox; have GE165 := Aside0.mk (ge_ HB hg (hb0_ HB)); replace HB := Aside0.mk (below_step (hb0_ HB) hb); clear hb hbox hg; obtain ⟨hcz20_0, hcz20_1, hcz20_2, hcz20_3, hcz20_4, hcz20_5⟩ := cz6_ BK165; obtain ⟨hfz20_0, hfz20_1, hfz20_2, hfz20_3, hfz20_4, hfz20_5⟩ := fz6_ BK165) | (refine gl_ 49 5 Try.func49 #[.int .i64 a0_0] ?_; (with_reducible refine (rules_Day.calls a0_0 true _ A2.out).mono ?_); rintro e w' ⟨rfl, ⟨nd, rfl⟩⟩; refine ⟨_, rfl, ?_⟩) | (go_at_call 49; (with_reducible refine (rules_Day.calls a0_1 true _ A4.out).mono ?_); rintro e w' ⟨rfl, ⟨nd, rfl⟩⟩))
  go_ret
  exact ⟨er_, hb1_ HB GE165⟩
 rw [if_pos c7] at H
 have c7b0 := decide_eq_true c7
 clear c7
 replace H := Option.bind_eq_some_iff.mp H
 obtain ⟨t168, A80, H⟩ := H
 (try dsimp only at H)
 have A8 := Aside0.mk A80
 clear A80
 by_cases c9 : t168 = true
 rotate_left
 ·
  replace c9 := Bool.eq_false_iff.mpr c9; subst c9; rw [if_neg nf_] at H; obtain rfl := Option.some.inj H
  go_enter Try.func26, Try.ntmps26
  go_wp2_with (first | ((with_reducible refine gate_dst (N := 1) rfl ?_); refine box_event rf_ (N := 1) rf_ (cs := #[.int .i64 a0_0, .int .i64 a0_1, .int .i64 a0_2, .int .i64 a0_3, .slice A0_4 l0_4.length c0_4, .slice A0_5 l0_5.length c0_5]) (t := 42) lr_ ?_; intro gb165 hg w17 hbox hb; have BK165 := Aside0.mk hbox; have GE165 := Aside0.mk (ge_ HB hg (hb0_ HB)); replace HB := Aside0.mk (below_step (hb0_ HB) hb); clear hb hbox hg; obtain ⟨hcz18_0, hcz18_1, hcz18_2, hcz18_3, hcz18_4, hcz18_5⟩ := cz6_ BK165; obtain ⟨hfz18_0, hfz18_1, hfz18_2, hfz18_3, hfz18_4, hfz18_5⟩ := fz6_ BK165) | (refine gl_ 49 5 Try.func49 #[.int .i64 a0_0] ?_; (with_reducible refine (rules_Day.calls a0_0 true _ A2.out).mono ?_); rintro e w' ⟨rfl, ⟨nd, rfl⟩⟩; refine ⟨_, rfl, ?_⟩) | (go_at_call 49; (with_reducible refine (rules_Day.calls a0_1 true _ A4.out).mono ?_); rintro e w' ⟨rfl, ⟨nd, rfl⟩⟩) | (go_at_call 45; (with_reducible refine (rules_rate.calls a0_3 false _ A8.out).mono ?_); rintro e w' ⟨rfl, ⟨nd, rfl⟩⟩))
  go_ret
  exact ⟨er_, hb1_ HB GE165⟩
 subst c9
 rw [if_pos rfl] at H
 replace H := Option.bind_eq_some_iff.mp H
 obtain ⟨t169, A100, H⟩ := H
 (try dsimp only at H)
 have A10 := Aside0.mk A100
 clear A100
 by_cases c11 : t169 = true
 rotate_left
 ·
  replace c11 := Bool.eq_false_iff.mpr c11; subst c11; rw [if_neg nf_] at H; obtain rfl := Option.some.inj H
  go_enter Try.func26, Try.ntmps26
  go_wp2_with (first | ((with_reducible refine gate_dst (N := 1) rfl ?_); refine box_event rf_ (N := 1) rf_ (cs := #[.int .i64 a0_0, .int .i64 a0_1, .int .i64 a0_2, .int .i64 a0_3, .slice A0_4 l0_4.length c0_4, .slice A0_5 l0_5.length c0_5]) (t := 42) lr_ ?_; intro gb165 hg w15 hbox hb; have BK165 := Aside0.mk hbox; have GE165 := Aside0.mk (ge_ HB hg (hb0_ HB)); replace HB := Aside0.mk (below_step (hb0_ HB) hb); clear hb hbox hg; obtain ⟨hcz16_0, hcz16_1, hcz16_2, hcz16_3, hcz16_4, hcz16_5⟩ := cz6_ BK165; obtain ⟨hfz16_0, hfz16_1, hfz16_2, hfz16_3, hfz16_4, hfz16_5⟩ := fz6_ BK165) | (refine gl_ 49 5 Try.func49 #[.int .i64 a0_0] ?_; (with_reducible refine (rules_Day.calls a0_0 true _ A2.out).mono ?_); rintro e w' ⟨rfl, ⟨nd, rfl⟩⟩; refine ⟨_, rfl, ?_⟩) | (go_at_call 49; (with_reducible refine (rules_Day.calls a0_1 true _ A4.out).mono ?_); rintro e w' ⟨rfl, ⟨nd, rfl⟩⟩) | (go_at_call 45; (with_reducible refine (rules_rate.calls a0_3 true _ A8.out).mono ?_); rintro e w' ⟨rfl, ⟨nd, rfl⟩⟩) | (go_at_call 50; (with_reducible refine (rules_kinds.calls k _ _ l0_4 false _ ?side1 ?side2 A10.out).mono ?_); (case side1 => exact (Kd.C_below HR0_4.out (hb1_ HB GE165))); (case side2 => exact HC0_4.out); rintro e w' ⟨rfl, ⟨nd, rfl⟩⟩))
  go_ret
  exact ⟨er_, hb1_ HB GE165⟩
 subst c11
 rw [if_pos rfl] at H
 replace H := Option.bind_eq_some_iff.mp H
 obtain ⟨t170, A120, H⟩ := H
 (try dsimp only at H)
 have A12 := Aside0.mk A120
 clear A120
 obtain rfl := Option.some.inj H
 go_enter Try.func26, Try.ntmps26
 go_wp2_with (first | ((with_reducible refine gate_dst (N := 1) rfl ?_); refine box_event rf_ (N := 1) rf_ (cs := #[.int .i64 a0_0, .int .i64 a0_1, .int .i64 a0_2, .int .i64 a0_3, .slice A0_4 l0_4.length c0_4, .slice A0_5 l0_5.length c0_5]) (t := 42) lr_ ?_; intro gb165 hg w13 hbox hb; have BK165 := Aside0.mk hbox; have GE165 := Aside0.mk (ge_ HB hg (hb0_ HB)); replace HB := Aside0.mk (below_step (hb0_ HB) hb); clear hb hbox hg; obtain ⟨hcz14_0, hcz14_1, hcz14_2, hcz14_3, hcz14_4, hcz14_5⟩ := cz6_ BK165; obtain ⟨hfz14_0, hfz14_1, hfz14_2, hfz14_3, hfz14_4, hfz14_5⟩ := fz6_ BK165) | (refine gl_ 49 5 Try.func49 #[.int .i64 a0_0] ?_; (with_reducible refine (rules_Day.calls a0_0 true _ A2.out).mono ?_); rintro e w' ⟨rfl, ⟨nd, rfl⟩⟩; refine ⟨_, rfl, ?_⟩) | (go_at_call 49; (with_reducible refine (rules_Day.calls a0_1 true _ A4.out).mono ?_); rintro e w' ⟨rfl, ⟨nd, rfl⟩⟩) | (go_at_call 45; (with_reducible refine (rules_rate.calls a0_3 true _ A8.out).mono ?_); rintro e w' ⟨rfl, ⟨nd, rfl⟩⟩) | (go_at_call 50; (with_reducible refine (rules_kinds.calls k _ _ l0_4 true _ ?side1 ?side2 A10.out).mono ?_); (case side1 => exact (Kd.C_below HR0_4.out (hb1_ HB GE165))); (case side2 => exact HC0_4.out); rintro e w' ⟨rfl, ⟨nd, rfl⟩⟩) | (go_at_call 50; (with_reducible refine (rules_kinds.calls k _ _ l0_5 t170 _ ?side1 ?side2 A12.out).mono ?_); (case side1 => exact (Kd.C_below HR0_5.out (hb1_ HB GE165))); (case side2 => exact HC0_5.out); rintro e w' ⟨rfl, ⟨nd, rfl⟩⟩))
 go_ret
 exact ⟨er_, hb1_ HB GE165⟩

end Go.Proofs.Ytgfhjamaabaleaa.Rw
