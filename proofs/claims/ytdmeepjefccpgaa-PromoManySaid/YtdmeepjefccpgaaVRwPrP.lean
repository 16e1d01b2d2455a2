/- Functions of the program as Lean functions, each with its contract: out of what the kit's printer wrote for this seat. -/
import Derived.Test.YtdmeepjefccpgaaVRwA
import Derived.Test.YtdmeepjefccpgaaVRwAb
import Derived.Test.YtdmeepjefccpgaaVHFun
import Derived.Test.YtdmeepjefccpgaaVRwScope
namespace Go.Proofs.Ytdmeepjefccpgaa.Rw
open Go.RowKit Go.Proofs.YtdmeepjefccpgaaW.PrintWords Go.Proofs.YtdmeepjefccpgaaW.PrintLast Go.Proofs.YtdmeepjefccpgaaW.PrintMore
attribute [local go_sem] max2_int min2_int max_two min_two max_three min_three max_four min_four   -- for this text's walks alone
set_option linter.unusedVariables false
set_option linter.unusedSimpArgs false
attribute [local go_sem high] leqS gtrS

/-! ### promo_one_bundle_1: function 117 -/
def promo_one_bundle_1.f (k : Nat) (l0_0 : List ByteArray) (l0_1 : List ByteArray) (a0_2 : Int) : Option (Bool) := (scope_Right.f k l0_0 l0_1).bind fun t143 => (if t143 = true then (if a0_2 < 1 then (some true) else (some (decide (a0_2 > 100)))) else (some true))
set_option maxHeartbeats 8000000 in
set_option maxRecDepth 100000 in
theorem promo_one_bundle_1.calls (k : Nat) (A0_0 : Option Addr) (c0_0 : Nat) (l0_0 : List ByteArray) (A0_1 : Option Addr) (c0_1 : Nat) (l0_1 : List ByteArray) (a0_2 : Int) (r : Bool) (w : World) (hr0_0 : Kd.C Kd.string w A0_0 l0_0.length l0_0) (hc0_0 : l0_0.length ≤ c0_0) (hr0_1 : Kd.C Kd.string w A0_1 l0_1.length l0_1) (hc0_1 : l0_1.length ≤ c0_1) (h : promo_one_bundle_1.f k l0_0 l0_1 a0_2 = some r) :
 Calls Try.prog 117 #[.agg #[.slice A0_0 l0_0.length c0_0, .slice A0_1 l0_1.length c0_1, .int .i64 a0_2]] w fun e w' => e = .returned (.bool r) ∧ Below w.heap.size w w' := by
 have hu65 := Try.underlying65
 have hu56 := Try.underlying56
 have HR0_0 := Aside0.mk hr0_0
 have HC0_0 := Aside0.mk hc0_0
 clear hr0_0 hc0_0
 have HR0_1 := Aside0.mk hr0_1
 have HC0_1 := Aside0.mk hc0_1
 clear hr0_1 hc0_1
 have HB := Aside0.mk (Below.refl w.heap.size w)
 have H : ((scope_Right.f k l0_0 l0_1).bind fun t143 => (if t143 = true then (if a0_2 < 1 then (some true) else (some (decide (a0_2 > 100)))) else (some true))) = some r := h
 clear h
 replace H := Option.bind_eq_some_iff.mp H
 obtain ⟨t143, A20, H⟩ := H
 (try dsimp only at H)
 have A2 := Aside0.mk A20
 clear A20
 by_cases c3 : t143 = true
 rotate_left
 ·
  replace c3 := Bool.eq_false_iff.mpr c3; subst c3; rw [if_neg nf_] at H; obtain rfl := Option.some.inj H
  go_enter Try.func117, Try.ntmps117
  go_wp2_with (first | ((with_reducible refine gate_dst (N := 1) rfl ?_); refine box_event rf_ (N := 1) rf_ (cs := #[.slice A0_0 l0_0.length c0_0, .slice A0_1 l0_1.length c0_1, .int .i64 a0_2]) (t := 65) lr_ ?_; intro gb142 hg w13 hbox hb; have BK142 := Aside0.mk hbox; have GE142 := Aside0.mk (ge_ HB hg (hb0_ HB)); replace HB := Aside0.mk (below_step (hb0_ HB) hb); clear hb hbox hg; obtain ⟨hcz14_0, hcz14_1, hcz14_2⟩ := cz3_ BK142; obtain ⟨hfz14_0, hfz14_1, hfz14_2⟩ := fz3_ BK142) | (refine gl_ 118 5 Try.func118 #[.agg #[.slice A0_0 l0_0.length c0_0, .slice A0_1 l0_1.length c0_1]] ?_; (with_reducible refine (scope_Right.calls k _ _ l0_0 _ _ l0_1 false _ ?side1 ?side2 ?side3 ?side4 A2.out).mono ?_); (case side1 => exact sc_ (Kd.C_below HR0_0.out HB.out)); (case side2 => exact HC0_0.out); (case side3 => exact sc_ (Kd.C_below HR0_1.out HB.out)); (case side4 => exact HC0_1.out); rintro e w15 ⟨rfl, hb⟩; refine ⟨_, rfl, ?_⟩; replace BK142 := Aside0.mk (bb_ BK142 hb); replace HB := Aside0.mk (below_step (hb1_ HB GE142) hb); (try clear hb)))
  go_ret
  exact ⟨er_, hb1_ HB GE142⟩
 subst c3
 rw [if_pos rfl] at H
 by_cases c4 : a0_2 < 1
 rotate_left
 ·
  rw [if_neg c4] at H; have c4b0 := decide_eq_false c4; clear c4; obtain rfl := Option.some.inj H
  go_enter Try.func117, Try.ntmps117
  go_wp2_with (first | ((with_reducible refine gate_dst (N := 1) rfl ?_); refine box_event rf_ (N := 1) rf_ (cs := #[.slice A0_0 l0_0.length c0_0, .slice A0_1 l0_1.length c0_1, .int .i64 a0_2]) (t := 65) lr_ ?_; intro gb142 hg w9 hbox hb; have BK142 := Aside0.mk hbox; have GE142 := Aside0.mk (ge_ HB hg (hb0_ HB)); replace HB := Aside0.mk (below_step (hb0_ HB) hb); clear hb hbox hg; obtain ⟨hcz10_0, hcz10_1, hcz10_2⟩ := cz3_ BK142; obtain ⟨hfz10_0, hfz10_1, hfz10_2⟩ := fz3_ BK142) | (refine gl_ 118 5 Try.func118 #[.agg #[.slice A0_0 l0_0.length c0_0, .slice A0_1 l0_1.length c0_1]] ?_; (with_reducible refine (scope_Right.calls k _ _ l0_0 _ _ l0_1 true _ ?side1 ?side2 ?side3 ?side4 A2.out).mono ?_); (case side1 => exact sc_ (Kd.C_below HR0_0.out HB.out)); (case side2 => exact HC0_0.out); (case side3 => exact sc_ (Kd.C_below HR0_1.out HB.out)); (case side4 => exact HC0_1.out); rintro e w11 ⟨rfl, hb⟩; refine ⟨_, rfl, ?_⟩; replace BK142 := Aside0.mk (bb_ BK142 hb); replace HB := Aside0.mk (below_step (hb1_ HB GE142) hb); (try clear hb); obtain ⟨hcz12_0, hcz12_1, hcz12_2⟩ := cz3_ BK142; obtain ⟨hfz12_0, hfz12_1, hfz12_2⟩ := fz3_ BK142))
  go_ret
  exact ⟨er_, hb1_ HB GE142⟩
 rw [if_pos c4] at H
 have c4b0 := decide_eq_true c4
 clear c4
 obtain rfl := Option.some.inj H
 go_enter Try.func117, Try.ntmps117
 go_wp2_with (first | ((with_reducible refine gate_dst (N := 1) rfl ?_); refine box_event rf_ (N := 1) rf_ (cs := #[.slice A0_0 l0_0.length c0_0, .slice A0_1 l0_1.length c0_1, .int .i64 a0_2]) (t := 65) lr_ ?_; intro gb142 hg w5 hbox hb; have BK142 := Aside0.mk hbox; have GE142 := Aside0.mk (ge_ HB hg (hb0_ HB)); replace HB := Aside0.mk (below_step (hb0_ HB) hb); clear hb hbox hg; obtain ⟨hcz6_0, hcz6_1, hcz6_2⟩ := cz3_ BK142; obtain ⟨hfz6_0, hfz6_1, hfz6_2⟩ := fz3_ BK142) | (refine gl_ 118 5 Try.func118 #[.agg #[.slice A0_0 l0_0.length c0_0, .slice A0_1 l0_1.length c0_1]] ?_; (with_reducible refine (scope_Right.calls k _ _ l0_0 _ _ l0_1 true _ ?side1 ?side2 ?side3 ?side4 A2.out).mono ?_); (case side1 => exact sc_ (Kd.C_below HR0_0.out HB.out)); (case side2 => exact HC0_0.out); (case side3 => exact sc_ (Kd.C_below HR0_1.out HB.out)); (case side4 => exact HC0_1.out); rintro e w7 ⟨rfl, hb⟩; refine ⟨_, rfl, ?_⟩; replace BK142 := Aside0.mk (bb_ BK142 hb); replace HB := Aside0.mk (below_step (hb1_ HB GE142) hb); (try clear hb); obtain ⟨hcz8_0, hcz8_1, hcz8_2⟩ := cz3_ BK142; obtain ⟨hfz8_0, hfz8_1, hfz8_2⟩ := fz3_ BK142))
 go_ret
 exact ⟨er_, hb1_ HB GE142⟩

/-! ### api_Part_136: function 136 -/
def api_Part_136.l0 : Nat → List (S65) → Int → Int → Option (Int)
 | 0, _, _, _ => none
 | k + 1, x0, x7, x8 => if x8 < x7 then (if 0 ≤ x8 then (if x8 < (x0.length : Int) then ((promo_one_bundle_1.f k ((rd_T65 x0 x8).f0.f0) ((rd_T65 x0 x8).f0.f1) ((rd_T65 x0 x8).f1)).bind fun t145 => (if t145 = true then (some x8) else (api_Part_136.l0 k x0 x7 (wrap64 (x8 + 1))))) else (none)) else (none)) else (some (-1))
def api_Part_136.f (k : Nat) (l0 : List (S65)) (a1 : Int) : Option (Int) := api_Part_136.l0 k l0 (l0.length : Int) 0
set_option maxHeartbeats 8000000 in
set_option maxRecDepth 100000 in
theorem api_Part_136.calls (k : Nat) (A0 : Option Addr) (c0 : Nat) (l0 : List (S65)) (a1 : Int) (r : Int) (w : World) (hr0 : Kd.C k65 w A0 l0.length l0) (hc0 : l0.length ≤ c0) (h : api_Part_136.f k l0 a1 = some r) :
 Calls Try.prog 136 #[.slice A0 l0.length c0, .func (.func 117) #[] #[]] w fun e w' => e = .returned (.int .i64 r) ∧ Below w.heap.size w w' := by
 have hu65 := Try.underlying65
 have HR0 := Aside0.mk hr0
 have HC0 := Aside0.mk hc0
 clear hr0 hc0
 have HB := Aside0.mk (Below.refl w.heap.size w)
 have H : (api_Part_136.l0 k l0 (l0.length : Int) 0) = some r := h
 clear h
 have H' := Aside0.mk H
 clear H
 go_enter Try.func136, Try.ntmps136
 go_wp2
 go_loopg [8] k (fun kq v8 w' => ∃ (x8_1 : Int), v8 = .int .i64 x8_1 ∧ Aside0 (api_Part_136.l0 kq l0 (l0.length : Int) x8_1 = some r) ∧ Aside0 (kq ≤ k) ∧ Aside0 (Below w.heap.size w w'))
 case atStart => exact ⟨(0), rf_, H', ⟨Nat.le_refl _⟩, ⟨hb0_ HB⟩⟩
 case round =>
  clear H'; (try clear c1); (try clear p2); obtain ⟨x8_1, rfl, HA, HK1, HB⟩ := hrel
  cases gk with
  | zero => exact absurd HA.out (by simp [api_Part_136.l0])
  | succ k1 =>
   have H := HA.out; clear HA
   simp only [api_Part_136.l0] at H
   by_cases c3 : x8_1 < (l0.length : Int)
   rotate_left
   ·
    rw [if_neg c3] at H; have c3b0 := decide_eq_false c3; clear c3; obtain rfl := Option.some.inj H
    go_wp2
    go_ret
    exact ⟨er_, hb0_ HB⟩
   rw [if_pos c3] at H; have c3b0 := decide_eq_true c3; clear c3; replace H := ip_ H; obtain ⟨c4, H⟩ := H; have c4b0 := decide_eq_true c4; clear c4; replace H := ip_ H; obtain ⟨c5, H⟩ := H; have c5b0 := decide_eq_true c5; clear c5; replace H := Option.bind_eq_some_iff.mp H; obtain ⟨t145, A60, H⟩ := H
   (try dsimp only at H)
   have A6 := Aside0.mk A60; clear A60
   by_cases c7 : t145 = true
   ·
    subst c7; rw [if_pos rfl] at H; obtain rfl := Option.some.inj H; have p144 : 0 ≤ (x8_1 : Int) := of_decide_eq_true as_; have q144 : x8_1 < (l0.length : Int) := of_decide_eq_true as_; obtain ⟨ad144, A144_0, c144_0, A144_1, c144_1, e144, hx144_0, hx144_1, hx144_2, hl144_0, hi144_0, hl144_1, hi144_1⟩ := at_T65 HR0.out x8_1 p144 q144
    cases e144; replace hx144_0 := hd_ HB hx144_0; replace hx144_1 := hd_ HB hx144_1; replace hx144_2 := hd_ HB hx144_2; have HR144_0 := Aside0.mk hi144_0; have HC144_0 := Aside0.mk hl144_0; clear hi144_0 hl144_0; have HR144_1 := Aside0.mk hi144_1; have HC144_1 := Aside0.mk hl144_1; clear hi144_1 hl144_1
    replace p144 := eq_true p144; replace q144 := eq_true q144
    go_wp2_with (first | ((with_reducible refine HF.gate_calleev (t := 11) rfl ?_); refine HF.goesLv_ (some 16) rfl rfl 11 Try.func117 (by kernel_rfl) rfl #[.agg #[.slice A144_0 ((rd_T65 l0 x8_1).f0.f0).length c144_0, .slice A144_1 ((rd_T65 l0 x8_1).f0.f1).length c144_1, .int .i64 ((rd_T65 l0 x8_1).f1)]] rfl rfl am_ ?_; (with_reducible refine (promo_one_bundle_1.calls k1 _ _ ((rd_T65 l0 x8_1).f0.f0) _ _ ((rd_T65 l0 x8_1).f0.f1) ((rd_T65 l0 x8_1).f1) true _ ?side1 ?side2 ?side3 ?side4 A6.out).mono ?_); (case side1 => exact sc_ (Kd.C_below HR144_0.out HB.out)); (case side2 => exact HC144_0.out); (case side3 => exact sc_ (Kd.C_below HR144_1.out HB.out)); (case side4 => exact HC144_1.out); rintro e w8 ⟨rfl, hb⟩; refine ⟨_, rfl, ?_⟩; replace HB := Aside0.mk (below_step (hb0_ HB) hb); (try clear hb)))
    go_ret
    exact ⟨er_, hb0_ HB⟩
   replace c7 := Bool.eq_false_iff.mpr c7; subst c7; rw [if_neg nf_] at H; have H' := Aside0.mk H; clear H; have p144 : 0 ≤ (x8_1 : Int) := of_decide_eq_true as_; have q144 : x8_1 < (l0.length : Int) := of_decide_eq_true as_; obtain ⟨ad144, A144_0, c144_0, A144_1, c144_1, e144, hx144_0, hx144_1, hx144_2, hl144_0, hi144_0, hl144_1, hi144_1⟩ := at_T65 HR0.out x8_1 p144 q144
   cases e144; replace hx144_0 := hd_ HB hx144_0; replace hx144_1 := hd_ HB hx144_1; replace hx144_2 := hd_ HB hx144_2; have HR144_0 := Aside0.mk hi144_0; have HC144_0 := Aside0.mk hl144_0; clear hi144_0 hl144_0; have HR144_1 := Aside0.mk hi144_1; have HC144_1 := Aside0.mk hl144_1; clear hi144_1 hl144_1
   replace p144 := eq_true p144; replace q144 := eq_true q144
   go_wp2_with (first | ((with_reducible refine HF.gate_calleev (t := 11) rfl ?_); refine HF.goesLv_ (some 16) rfl rfl 11 Try.func117 (by kernel_rfl) rfl #[.agg #[.slice A144_0 ((rd_T65 l0 x8_1).f0.f0).length c144_0, .slice A144_1 ((rd_T65 l0 x8_1).f0.f1).length c144_1, .int .i64 ((rd_T65 l0 x8_1).f1)]] rfl rfl am_ ?_; (with_reducible refine (promo_one_bundle_1.calls k1 _ _ ((rd_T65 l0 x8_1).f0.f0) _ _ ((rd_T65 l0 x8_1).f0.f1) ((rd_T65 l0 x8_1).f1) false _ ?side1 ?side2 ?side3 ?side4 A6.out).mono ?_); (case side1 => exact sc_ (Kd.C_below HR144_0.out HB.out)); (case side2 => exact HC144_0.out); (case side3 => exact sc_ (Kd.C_below HR144_1.out HB.out)); (case side4 => exact HC144_1.out); rintro e w9 ⟨rfl, hb⟩; refine ⟨_, rfl, ?_⟩; replace HB := Aside0.mk (below_step (hb0_ HB) hb); (try clear hb)))
   go_roundg k1
   case measure => have := HK1.out; omega
   case rel => exact ⟨(wrap64 (x8_1 + 1)), rf_, H', ⟨ho_ HK1⟩, ⟨hb0_ HB⟩⟩

/-! ### api_Part_116: function 116 -/
def api_Part_116.f (k : Nat) (l0 : List (S65)) (a1 : Int) : Option (Bool) := (api_Part_136.f k l0 a1).bind fun t146 => (some (decide (t146 ≥ 0)))
set_option maxHeartbeats 8000000 in
set_option maxRecDepth 100000 in
theorem api_Part_116.calls (k : Nat) (A0 : Option Addr) (c0 : Nat) (l0 : List (S65)) (a1 : Int) (r : Bool) (w : World) (hr0 : Kd.C k65 w A0 l0.length l0) (hc0 : l0.length ≤ c0) (h : api_Part_116.f k l0 a1 = some r) :
 Calls Try.prog 116 #[.slice A0 l0.length c0, .func (.func 117) #[] #[]] w fun e w' => e = .returned (.bool r) ∧ Below w.heap.size w w' := by
 have HR0 := Aside0.mk hr0
 have HC0 := Aside0.mk hc0
 clear hr0 hc0
 have HB := Aside0.mk (Below.refl w.heap.size w)
 have H : ((api_Part_136.f k l0 a1).bind fun t146 => (some (decide (t146 ≥ 0)))) = some r := h
 clear h
 replace H := Option.bind_eq_some_iff.mp H
 obtain ⟨t146, A30, H⟩ := H
 (try dsimp only at H)
 have A3 := Aside0.mk A30
 clear A30
 obtain rfl := Option.some.inj H
 go_enter Try.func116, Try.ntmps116
 go_wp2_with (first | (refine gl_ 136 7 Try.func136 #[.slice A0 l0.length c0, .func (.func 117) #[] #[]] ?_; (with_reducible refine (api_Part_136.calls k _ _ l0 a1 t146 _ ?side1 ?side2 A3.out).mono ?_); (case side1 => exact sc_ HR0.out); (case side2 => exact HC0.out); rintro e w4 ⟨rfl, hb⟩; refine ⟨_, rfl, ?_⟩; replace HB := Aside0.mk (below_step (hb0_ HB) hb); (try clear hb)))
 go_ret
 exact ⟨er_, hb0_ HB⟩

end Go.Proofs.Ytdmeepjefccpgaa.Rw
