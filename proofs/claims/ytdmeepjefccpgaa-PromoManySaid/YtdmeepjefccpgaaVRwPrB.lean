/- Functions of the program as Lean functions, each with its contract: out of what the kit's printer wrote for this seat. -/
import Derived.Test.YtdmeepjefccpgaaVRwA
import Derived.Test.YtdmeepjefccpgaaVRwAb
import Derived.Test.YtdmeepjefccpgaaVRwPrA
namespace Go.Proofs.Ytdmeepjefccpgaa.Rw
open Go.RowKit Go.Proofs.YtdmeepjefccpgaaW.PrintWords Go.Proofs.YtdmeepjefccpgaaW.PrintLast Go.Proofs.YtdmeepjefccpgaaW.PrintMore
attribute [local go_sem] max2_int min2_int max_two min_two max_three min_three max_four min_four   -- for this text's walks alone
set_option linter.unusedVariables false
set_option linter.unusedSimpArgs false
attribute [local go_sem high] leqS gtrS

/-! ### promo_one_buyGet: function 67 -/
def promo_one_buyGet.f (a0_0 : ByteArray) (a0_1 : Int) (a0_2 : Int) (a0_3 : ByteArray) (a0_4 : ByteArray) (a0_5 : Bool) (l0_6 : List ByteArray) (l0_7 : List ByteArray) (a0_8 : Int) (a0_9 : Int) (a0_10 : Int) (a0_11 : Int) (a0_12 : Int) (l0_13 : List (S65)) (l0_14 : List (S67)) : Option (Bool) := (promo_one_rate.f a0_0 a0_1 a0_2 a0_3 a0_4 a0_5 l0_6 l0_7 a0_8 a0_9 a0_10 a0_11 a0_12 l0_13 l0_14).bind fun t132 => (if t132 = true then (if a0_11 ≥ 1 then (if a0_11 ≤ 100 then (if a0_12 ≥ 1 then (some (decide (a0_12 ≤ 100))) else (some false)) else (some false)) else (some false)) else (some false))
set_option maxHeartbeats 8000000 in
set_option maxRecDepth 100000 in
theorem promo_one_buyGet.calls (a0_0 : ByteArray) (a0_1 : Int) (a0_2 : Int) (a0_3 : ByteArray) (a0_4 : ByteArray) (a0_5 : Bool) (A0_6 : Option Addr) (c0_6 : Nat) (l0_6 : List ByteArray) (A0_7 : Option Addr) (c0_7 : Nat) (l0_7 : List ByteArray) (a0_8 : Int) (a0_9 : Int) (a0_10 : Int) (a0_11 : Int) (a0_12 : Int) (A0_13 : Option Addr) (c0_13 : Nat) (l0_13 : List (S65)) (A0_14 : Option Addr) (c0_14 : Nat) (l0_14 : List (S67)) (r : Bool) (w : World) (hr0_6 : Kd.C Kd.string w A0_6 l0_6.length l0_6) (hc0_6 : l0_6.length ≤ c0_6) (hr0_7 : Kd.C Kd.string w A0_7 l0_7.length l0_7) (hc0_7 : l0_7.length ≤ c0_7) (hr0_13 : Kd.C k65 w A0_13 l0_13.length l0_13) (hc0_13 : l0_13.length ≤ c0_13) (hr0_14 : Kd.C k67 w A0_14 l0_14.length l0_14) (hc0_14 : l0_14.length ≤ c0_14) (h : promo_one_buyGet.f a0_0 a0_1 a0_2 a0_3 a0_4 a0_5 l0_6 l0_7 a0_8 a0_9 a0_10 a0_11 a0_12 l0_13 l0_14 = some r) :
 Calls Try.prog 67 #[.agg #[.string a0_0, .int .i64 a0_1, .int .i64 a0_2, .string a0_3, .string a0_4, .bool a0_5, .slice A0_6 l0_6.length c0_6, .slice A0_7 l0_7.length c0_7, .int .i64 a0_8, .int .i64 a0_9, .int .i64 a0_10, .int .i64 a0_11, .int .i64 a0_12, .slice A0_13 l0_13.length c0_13, .slice A0_14 l0_14.length c0_14]] w fun e w' => e = .returned (.bool r) ∧ Below w.heap.size w w' := by
 have hu99 := Try.underlying99
 have HR0_6 := Aside0.mk hr0_6
 have HC0_6 := Aside0.mk hc0_6
 clear hr0_6 hc0_6
 have HR0_7 := Aside0.mk hr0_7
 have HC0_7 := Aside0.mk hc0_7
 clear hr0_7 hc0_7
 have HR0_13 := Aside0.mk hr0_13
 have HC0_13 := Aside0.mk hc0_13
 clear hr0_13 hc0_13
 have HR0_14 := Aside0.mk hr0_14
 have HC0_14 := Aside0.mk hc0_14
 clear hr0_14 hc0_14
 have HB := Aside0.mk (Below.refl w.heap.size w)
 have H : ((promo_one_rate.f a0_0 a0_1 a0_2 a0_3 a0_4 a0_5 l0_6 l0_7 a0_8 a0_9 a0_10 a0_11 a0_12 l0_13 l0_14).bind fun t132 => (if t132 = true then (if a0_11 ≥ 1 then (if a0_11 ≤ 100 then (if a0_12 ≥ 1 then (some (decide (a0_12 ≤ 100))) else (some false)) else (some false)) else (some false)) else (some false))) = some r := h
 clear h
 replace H := Option.bind_eq_some_iff.mp H
 obtain ⟨t132, A20, H⟩ := H
 (try dsimp only at H)
 have A2 := Aside0.mk A20
 clear A20
 by_cases c3 : t132 = true
 rotate_left
 ·
  replace c3 := Bool.eq_false_iff.mpr c3; subst c3; rw [if_neg nf_] at H; obtain rfl := Option.some.inj H
  go_enter Try.func67, Try.ntmps67
  go_wp2_with (first | ((with_reducible refine gate_dst (N := 1) rfl ?_); refine box_event rf_ (N := 1) rf_ (cs := #[.string a0_0, .int .i64 a0_1, .int .i64 a0_2, .string a0_3, .string a0_4, .bool a0_5, .slice A0_6 l0_6.length c0_6, .slice A0_7 l0_7.length c0_7, .int .i64 a0_8, .int .i64 a0_9, .int .i64 a0_10, .int .i64 a0_11, .int .i64 a0_12, .slice A0_13 l0_13.length c0_13, .slice A0_14 l0_14.length c0_14]) (t := 99) lr_ ?_; intro gb131 hg w23 hbox hb; have BK131 := Aside0.mk hbox; have GE131 := Aside0.mk (ge_ HB hg (hb0_ HB)); replace HB := Aside0.mk (below_step (hb0_ HB) hb); clear hb hbox hg; obtain ⟨hcz24_0, hcz24_1, hcz24_2, hcz24_3, hcz24_4, hcz24_5, hcz24_6, hcz24_7, hcz24_8, hcz24_9, hcz24_10, hcz24_11, hcz24_12, hcz24_13, hcz24_14⟩ := cz15_ BK131; obtain ⟨hfz24_0, hfz24_1, hfz24_2, hfz24_3, hfz24_4, hfz24_5, hfz24_6, hfz24_7, hfz24_8, hfz24_9, hfz24_10, hfz24_11, hfz24_12, hfz24_13, hfz24_14⟩ := fz15_ BK131) | (refine gl_ 65 4 Try.func65 #[.agg #[.string a0_0, .int .i64 a0_1, .int .i64 a0_2, .string a0_3, .string a0_4, .bool a0_5, .slice A0_6 l0_6.length c0_6, .slice A0_7 l0_7.length c0_7, .int .i64 a0_8, .int .i64 a0_9, .int .i64 a0_10, .int .i64 a0_11, .int .i64 a0_12, .slice A0_13 l0_13.length c0_13, .slice A0_14 l0_14.length c0_14]] ?_; (with_reducible refine (promo_one_rate.calls a0_0 a0_1 a0_2 a0_3 a0_4 a0_5 _ _ l0_6 _ _ l0_7 a0_8 a0_9 a0_10 a0_11 a0_12 _ _ l0_13 _ _ l0_14 false _ ?side1 ?side2 ?side3 ?side4 ?side5 ?side6 ?side7 ?side8 A2.out).mono ?_); (case side1 => exact sc_ (Kd.C_below HR0_6.out HB.out)); (case side2 => exact HC0_6.out); (case side3 => exact sc_ (Kd.C_below HR0_7.out HB.out)); (case side4 => exact HC0_7.out); (case side5 => exact sc_ (Kd.C_below HR0_13.out HB.out)); (case side6 => exact HC0_13.out); (case side7 => exact sc_ (Kd.C_below HR0_14.out HB.out)); (case side8 => exact HC0_14.out); rintro e w25 ⟨rfl, hb⟩; refine ⟨_, rfl, ?_⟩; replace BK131 := Aside0.mk (bb_ BK131 hb); replace HB := Aside0.mk (below_step (hb1_ HB GE131) hb); (try clear hb)))
  go_ret
  exact ⟨er_, hb1_ HB GE131⟩
 subst c3
 rw [if_pos rfl] at H
 by_cases c4 : a0_11 ≥ 1
 rotate_left
 ·
  rw [if_neg c4] at H; have c4b0 := decide_eq_false c4; clear c4; obtain rfl := Option.some.inj H
  go_enter Try.func67, Try.ntmps67
  go_wp2_with (first | ((with_reducible refine gate_dst (N := 1) rfl ?_); refine box_event rf_ (N := 1) rf_ (cs := #[.string a0_0, .int .i64 a0_1, .int .i64 a0_2, .string a0_3, .string a0_4, .bool a0_5, .slice A0_6 l0_6.length c0_6, .slice A0_7 l0_7.length c0_7, .int .i64 a0_8, .int .i64 a0_9, .int .i64 a0_10, .int .i64 a0_11, .int .i64 a0_12, .slice A0_13 l0_13.length c0_13, .slice A0_14 l0_14.length c0_14]) (t := 99) lr_ ?_; intro gb131 hg w19 hbox hb; have BK131 := Aside0.mk hbox; have GE131 := Aside0.mk (ge_ HB hg (hb0_ HB)); replace HB := Aside0.mk (below_step (hb0_ HB) hb); clear hb hbox hg; obtain ⟨hcz20_0, hcz20_1, hcz20_2, hcz20_3, hcz20_4, hcz20_5, hcz20_6, hcz20_7, hcz20_8, hcz20_9, hcz20_10, hcz20_11, hcz20_12, hcz20_13, hcz20_14⟩ := cz15_ BK131; obtain ⟨hfz20_0, hfz20_1, hfz20_2, hfz20_3, hfz20_4, hfz20_5, hfz20_6, hfz20_7, hfz20_8, hfz20_9, hfz20_10, hfz20_11, hfz20_12, hfz20_13, hfz20_14⟩ := fz15_ BK131) | (refine gl_ 65 4 Try.func65 #[.agg #[.string a0_0, .int .i64 a0_1, .int .i64 a0_2, .string a0_3, .string a0_4, .bool a0_5, .slice A0_6 l0_6.length c0_6, .slice A0_7 l0_7.length c0_7, .int .i64 a0_8, .int .i64 a0_9, .int .i64 a0_10, .int .i64 a0_11, .int .i64 a0_12, .slice A0_13 l0_13.length c0_13, .slice A0_14 l0_14.length c0_14]] ?_; (with_reducible refine (promo_one_rate.calls a0_0 a0_1 a0_2 a0_3 a0_4 a0_5 _ _ l0_6 _ _ l0_7 a0_8 a0_9 a0_10 a0_11 a0_12 _ _ l0_13 _ _ l0_14 true _ ?side1 ?side2 ?side3 ?side4 ?side5 ?side6 ?side7 ?side8 A2.out).mono ?_); (case side1 => exact sc_ (Kd.C_below HR0_6.out HB.out)); (case side2 => exact HC0_6.out); (case side3 => exact sc_ (Kd.C_below HR0_7.out HB.out)); (case side4 => exact HC0_7.out); (case side5 => exact sc_ (Kd.C_below HR0_13.out HB.out)); (case side6 => exact HC0_13.out); (case side7 => exact sc_ (Kd.C_below HR0_14.out HB.out)); (case side8 => exact HC0_14.out); rintro e w21 ⟨rfl, hb⟩; refine ⟨_, rfl, ?_⟩; replace BK131 := Aside0.mk (bb_ BK131 hb); replace HB := Aside0.mk (below_step (hb1_ HB GE131) hb); (try clear hb); obtain ⟨hcz22_0, hcz22_1, hcz22_2, hcz22_3, hcz22_4, hcz22_5, hcz22_6, hcz22_7, hcz22_8, hcz22_9, hcz22_10, hcz22_11, hcz22_12, hcz22_13, hcz22_14⟩ := cz15_ BK131; obtain ⟨hfz22_0, hfz22_1, hfz22_2, hfz22_3, hfz22_4, hfz22_5, hfz22_6, hfz22_7, hfz22_8, hfz22_9, hfz22_10, hfz22_11, hfz22_12, hfz22_13, hfz22_14⟩ := fz15_ BK131))
  go_ret
  exact ⟨er_, hb1_ HB GE131⟩
 rw [if_pos c4] at H
 have c4b0 := decide_eq_true c4
 clear c4
 by_cases c5 : a0_11 ≤ 100
 rotate_left
 ·
  rw [if_neg c5] at H; have c5b0 := decide_eq_false c5; clear c5; obtain rfl := Option.some.inj H
  go_enter Try.func67, Try.ntmps67
  go_wp2_with (first | ((with_reducible refine gate_dst (N := 1) rfl ?_); refine box_event rf_ (N := 1) rf_ (cs := #[.string a0_0, .int .i64 a0_1, .int .i64 a0_2, .string a0_3, .string a0_4, .bool a0_5, .slice A0_6 l0_6.length c0_6, .slice A0_7 l0_7.length c0_7, .int .i64 a0_8, .int .i64 a0_9, .int .i64 a0_10, .int .i64 a0_11, .int .i64 a0_12, .slice A0_13 l0_13.length c0_13, .slice A0_14 l0_14.length c0_14]) (t := 99) lr_ ?_; intro gb131 hg w15 hbox hb; have BK131 := Aside0.mk hbox; have GE131 := Aside0.mk (ge_ HB hg (hb0_ HB)); replace HB := Aside0.mk (below_step (hb0_ HB) hb); clear hb hbox hg; obtain ⟨hcz16_0, hcz16_1, hcz16_2, hcz16_3, hcz16_4, hcz16_5, hcz16_6, hcz16_7, hcz16_8, hcz16_9, hcz16_10, hcz16_11, hcz16_12, hcz16_13, hcz16_14⟩ := cz15_ BK131; obtain ⟨hfz16_0, hfz16_1, hfz16_2, hfz16_3, hfz16_4, hfz16_5, hfz16_6, hfz16_7, hfz16_8, hfz16_9, hfz16_10, hfz16_11, hfz16_12, hfz16_13, hfz16_14⟩ := fz15_ BK131) | (refine gl_ 65 4 Try.func65 #[.agg #[.string a0_0, .int .i64 a0_1, .int .i64 a0_2, .string a0_3, .string a0_4, .bool a0_5, .slice A0_6 l0_6.length c0_6, .slice A0_7 l0_7.length c0_7, .int .i64 a0_8, .int .i64 a0_9, .int .i64 a0_10, .int .i64 a0_11, .int .i64 a0_12, .slice A0_13 l0_13.length c0_13, .slice A0_14 l0_14.length c0_14]] ?_; (with_reducible refine (promo_one_rate.calls a0_0 a0_1 a0_2 a0_3 a0_4 a0_5 _ _ l0_6 _ _ l0_7 a0_8 a0_9 a0_10 a0_11 a0_12 _ _ l0_13 _ _ l0_14 true _ ?side1 ?side2 ?side3 ?side4 ?side5 ?side6 ?side7 ?side8 A2.out).mono ?_); (case side1 => exact sc_ (Kd.C_below HR0_6.out HB.out)); (case side2 => exact HC0_6.out); (case side3 => exact sc_ (Kd.C_below HR0_7.out HB.out)); (case side4 => exact HC0_7.out); (case side5 => exact sc_ (Kd.C_below HR0_13.out HB.out)); (case side6 => exact HC0_13.out); (case side7 => exact sc_ (Kd.C_below HR0_14.out HB.out)); (case side8 => exact HC0_14.out); rintro e w17 ⟨rfl, hb⟩; refine ⟨_, rfl, ?_⟩; replace BK131 := Aside0.mk (bb_ BK131 hb); replace HB := Aside0.mk (below_step (hb1_ HB GE131) hb); (try clear hb); obtain ⟨hcz18_0, hcz18_1, hcz18_2, hcz18_3, hcz18_4, hcz18_5, hcz18_6, hcz18_7, hcz18_8, hcz18_9, hcz18_10, hcz18_11, hcz18_12, hcz18_13, hcz18_14⟩ := cz15_ BK131; obtain ⟨hfz18_0, hfz18_1, hfz18_2, hfz18_3, hfz18_4, hfz18_5, hfz18_6, hfz18_7, hfz18_8, hfz18_9, hfz18_10, hfz18_11, hfz18_12, hfz18_13, hfz18_14⟩ := fz15_ BK131))
  go_ret
  exact ⟨er_, hb1_ HB GE131⟩
 rw [if_pos c5] at H
 have c5b0 := decide_eq_true c5
 clear c5
 by_cases c6 : a0_12 ≥ 1
 rotate_left
 ·
  rw [if_neg c6] at H; have c6b0 := decide_eq_false c6; clear c6; obtain rfl := Option.some.inj H
  go_enter Try.func67, Try.ntmps67
  go_wp2_with (first | ((with_reducible refine gate_dst (N := 1) rfl ?_); refine box_event rf_ (N := 1) rf_ (cs := #[.string a0_0, .int .i64 a0_1, .int .i64 a0_2, .string a0_3, .string a0_4, .bool a0_5, .slice A0_6 l0_6.length c0_6, .slice A0_7 l0_7.length c0_7, .int .i64 a0_8, .int .i64 a0_9, .int .i64 a0_10, .int .i64 a0_11, .int .i64 a0_12, .slice A0_13 l0_13.length c0_13, .slice A0_14 l0_14.length c0_14]) (t := 99) lr_ ?_; intro gb131 hg w11 hbox hb; have BK131 := Aside0.mk hbox; have GE131 := Aside0.mk (ge_ HB hg (hb0_ HB)); replace HB := Aside0.mk (below_step (hb0_ HB) hb); clear hb hbox hg; obtain ⟨hcz12_0, hcz12_1, hcz12_2, hcz12_3, hcz12_4, hcz12_5, hcz12_6, hcz12_7, hcz12_8, hcz12_9, hcz12_10, hcz12_11, hcz12_12, hcz12_13, hcz12_14⟩ := cz15_ BK131; obtain ⟨hfz12_0, hfz12_1, hfz12_2, hfz12_3, hfz12_4, hfz12_5, hfz12_6, hfz12_7, hfz12_8, hfz12_9, hfz12_10, hfz12_11, hfz12_12, hfz12_13, hfz12_14⟩ := fz15_ BK131) | (refine gl_ 65 4 Try.func65 #[.agg #[.string a0_0, .int .i64 a0_1, .int .i64 a0_2, .string a0_3, .string a0_4, .bool a0_5, .slice A0_6 l0_6.length c0_6, .slice A0_7 l0_7.length c0_7, .int .i64 a0_8, .int .i64 a0_9, .int .i64 a0_10, .int .i64 a0_11, .int .i64 a0_12, .slice A0_13 l0_13.length c0_13, .slice A0_14 l0_14.length c0_14]] ?_; (with_reducible refine (promo_one_rate.calls a0_0 a0_1 a0_2 a0_3 a0_4 a0_5 _ _ l0_6 _ _ l0_7 a0_8 a0_9 a0_10 a0_11 a0_12 _ _ l0_13 _ _ l0_14 true _ ?side1 ?side2 ?side3 ?side4 ?side5 ?side6 ?side7 ?side8 A2.out).mono ?_); (case side1 => exact sc_ (Kd.C_below HR0_6.out HB.out)); (case side2 => exact HC0_6.out); (case side3 => exact sc_ (Kd.C_below HR0_7.out HB.out)); (case side4 => exact HC0_7.out); (case side5 => exact sc_ (Kd.C_below HR0_13.out HB.out)); (case side6 => exact HC0_13.out); (case side7 => exact sc_ (Kd.C_below HR0_14.out HB.out)); (case side8 => exact HC0_14.out); rintro e w13 ⟨rfl, hb⟩; refine ⟨_, rfl, ?_⟩; replace BK131 := Aside0.mk (bb_ BK131 hb); replace HB := Aside0.mk (below_step (hb1_ HB GE131) hb); (try clear hb); obtain ⟨hcz14_0, hcz14_1, hcz14_2, hcz14_3, hcz14_4, hcz14_5, hcz14_6, hcz14_7, hcz14_8, hcz14_9, hcz14_10, hcz14_11, hcz14_12, hcz14_13, hcz14_14⟩ := cz15_ BK131; obtain ⟨hfz14_0, hfz14_1, hfz14_2, hfz14_3, hfz14_4, hfz14_5, hfz14_6, hfz14_7, hfz14_8, hfz14_9, hfz14_10, hfz14_11, hfz14_12, hfz14_13, hfz14_14⟩ := fz15_ BK131))
  go_ret
  exact ⟨er_, hb1_ HB GE131⟩
 rw [if_pos c6] at H
 have c6b0 := decide_eq_true c6
 clear c6
 obtain rfl := Option.some.inj H
 go_enter Try.func67, Try.ntmps67
 go_wp2_with (first | ((with_reducible refine gate_dst (N := 1) rfl ?_); refine box_event rf_ (N := 1) rf_ (cs := #[.string a0_0, .int .i64 a0_1, .int .i64 a0_2, .string a0_3, .string a0_4, .bool a0_5, .slice A0_6 l0_6.length c0_6, .slice A0_7 l0_7.length c0_7, .int .i64 a0_8, .int .i64 a0_9, .int .i64 a0_10, .int .i64 a0_11, .int .i64 a0_12, .slice A0_13 l0_13.length c0_13, .slice A0_14 l0_14.length c0_14]) (t := 99) lr_ ?_; intro gb131 hg w7 hbox hb; have BK131 := Aside0.mk hbox; have GE131 := Aside0.mk (ge_ HB hg (hb0_ HB)); replace HB := Aside0.mk (below_step (hb0_ HB) hb); clear hb hbox hg; obtain ⟨hcz8_0, hcz8_1, hcz8_2, hcz8_3, hcz8_4, hcz8_5, hcz8_6, hcz8_7, hcz8_8, hcz8_9, hcz8_10, hcz8_11, hcz8_12, hcz8_13, hcz8_14⟩ := cz15_ BK131; obtain ⟨hfz8_0, hfz8_1, hfz8_2, hfz8_3, hfz8_4, hfz8_5, hfz8_6, hfz8_7, hfz8_8, hfz8_9, hfz8_10, hfz8_11, hfz8_12, hfz8_13, hfz8_14⟩ := fz15_ BK131) | (refine gl_ 65 4 Try.func65 #[.agg #[.string a0_0, .int .i64 a0_1, .int .i64 a0_2, .string a0_3, .string a0_4, .bool a0_5, .slice A0_6 l0_6.length c0_6, .slice A0_7 l0_7.length c0_7, .int .i64 a0_8, .int .i64 a0_9, .int .i64 a0_10, .int .i64 a0_11, .int .i64 a0_12, .slice A0_13 l0_13.length c0_13, .slice A0_14 l0_14.length c0_14]] ?_; (with_reducible refine (promo_one_rate.calls a0_0 a0_1 a0_2 a0_3 a0_4 a0_5 _ _ l0_6 _ _ l0_7 a0_8 a0_9 a0_10 a0_11 a0_12 _ _ l0_13 _ _ l0_14 true _ ?side1 ?side2 ?side3 ?side4 ?side5 ?side6 ?side7 ?side8 A2.out).mono ?_); (case side1 => exact sc_ (Kd.C_below HR0_6.out HB.out)); (case side2 => exact HC0_6.out); (case side3 => exact sc_ (Kd.C_below HR0_7.out HB.out)); (case side4 => exact HC0_7.out); (case side5 => exact sc_ (Kd.C_below HR0_13.out HB.out)); (case side6 => exact HC0_13.out); (case side7 => exact sc_ (Kd.C_below HR0_14.out HB.out)); (case side8 => exact HC0_14.out); rintro e w9 ⟨rfl, hb⟩; refine ⟨_, rfl, ?_⟩; replace BK131 := Aside0.mk (bb_ BK131 hb); replace HB := Aside0.mk (below_step (hb1_ HB GE131) hb); (try clear hb); obtain ⟨hcz10_0, hcz10_1, hcz10_2, hcz10_3, hcz10_4, hcz10_5, hcz10_6, hcz10_7, hcz10_8, hcz10_9, hcz10_10, hcz10_11, hcz10_12, hcz10_13, hcz10_14⟩ := cz15_ BK131; obtain ⟨hfz10_0, hfz10_1, hfz10_2, hfz10_3, hfz10_4, hfz10_5, hfz10_6, hfz10_7, hfz10_8, hfz10_9, hfz10_10, hfz10_11, hfz10_12, hfz10_13, hfz10_14⟩ := fz15_ BK131))
 go_ret
 exact ⟨er_, hb1_ HB GE131⟩

/-! ### promo_one_tiers: function 69 -/
mutual
def promo_one_tiers.j0 : Nat → Bool → ByteArray → Int → Int → ByteArray → ByteArray → Bool → List ByteArray → List ByteArray → Int → Int → Int → Int → Int → List (S65) → List (S67) → Option (Bool)
 | 0, _, _, _, _, _, _, _, _, _, _, _, _, _, _, _, _ => none
 | k + 1, x17, x150000, x150001, x150002, x150003, x150004, x150005, x150006, x150007, x150008, x150009, x150010, x150011, x150012, x150013, x150014 => if x17 = true then (some false) else (promo_one_tiers.l0 k (-1) x150014 (x150014.length : Int) 0)
def promo_one_tiers.l0 : Nat → Int → List (S67) → Int → Int → Option (Bool)
 | 0, _, _, _, _ => none
 | k + 1, x3, x20, x21, x22 => if x22 < x21 then (if 0 ≤ x22 then (if x22 < (x20.length : Int) then (if ((rd_T67 x20 x22).f0) ≤ x3 then (some false) else (if ((rd_T67 x20 x22).f0) > 10000000000000 then (some false) else (if ((rd_T67 x20 x22).f1) < 0 then (some false) else (if ((rd_T67 x20 x22).f1) > 10000 then (some false) else (if ((rd_T67 x20 x22).f2) < 0 then (some false) else (if ((rd_T67 x20 x22).f2) > 10000000000000 then (some false) else (if ((rd_T67 x20 x22).f1) = 0 then (if ((rd_T67 x20 x22).f2) = 0 then (some false) else (promo_one_tiers.l0 k ((rd_T67 x20 x22).f0) x20 x21 (wrap64 (x22 + 1)))) else (promo_one_tiers.l0 k ((rd_T67 x20 x22).f0) x20 x21 (wrap64 (x22 + 1)))))))))) else (none)) else (none)) else (some true)
end
def promo_one_tiers.f (k : Nat) (a0_0 : ByteArray) (a0_1 : Int) (a0_2 : Int) (a0_3 : ByteArray) (a0_4 : ByteArray) (a0_5 : Bool) (l0_6 : List ByteArray) (l0_7 : List ByteArray) (a0_8 : Int) (a0_9 : Int) (a0_10 : Int) (a0_11 : Int) (a0_12 : Int) (l0_13 : List (S65)) (l0_14 : List (S67)) : Option (Bool) := if (l0_14.length : Int) < 1 then (promo_one_tiers.j0 k true a0_0 a0_1 a0_2 a0_3 a0_4 a0_5 l0_6 l0_7 a0_8 a0_9 a0_10 a0_11 a0_12 l0_13 l0_14) else (promo_one_tiers.j0 k (decide ((l0_14.length : Int) > 6)) a0_0 a0_1 a0_2 a0_3 a0_4 a0_5 l0_6 l0_7 a0_8 a0_9 a0_10 a0_11 a0_12 l0_13 l0_14)
set_option maxHeartbeats 8000000 in
set_option maxRecDepth 100000 in
theorem promo_one_tiers.calls (k : Nat) (a0_0 : ByteArray) (a0_1 : Int) (a0_2 : Int) (a0_3 : ByteArray) (a0_4 : ByteArray) (a0_5 : Bool) (A0_6 : Option Addr) (c0_6 : Nat) (l0_6 : List ByteArray) (A0_7 : Option Addr) (c0_7 : Nat) (l0_7 : List ByteArray) (a0_8 : Int) (a0_9 : Int) (a0_10 : Int) (a0_11 : Int) (a0_12 : Int) (A0_13 : Option Addr) (c0_13 : Nat) (l0_13 : List (S65)) (A0_14 : Option Addr) (c0_14 : Nat) (l0_14 : List (S67)) (r : Bool) (w : World) (hr0_6 : Kd.C Kd.string w A0_6 l0_6.length l0_6) (hc0_6 : l0_6.length ≤ c0_6) (hr0_7 : Kd.C Kd.string w A0_7 l0_7.length l0_7) (hc0_7 : l0_7.length ≤ c0_7) (hr0_13 : Kd.C k65 w A0_13 l0_13.length l0_13) (hc0_13 : l0_13.length ≤ c0_13) (hr0_14 : Kd.C k67 w A0_14 l0_14.length l0_14) (hc0_14 : l0_14.length ≤ c0_14) (h : promo_one_tiers.f k a0_0 a0_1 a0_2 a0_3 a0_4 a0_5 l0_6 l0_7 a0_8 a0_9 a0_10 a0_11 a0_12 l0_13 l0_14 = some r) :
 Calls Try.prog 69 #[.agg #[.string a0_0, .int .i64 a0_1, .int .i64 a0_2, .string a0_3, .string a0_4, .bool a0_5, .slice A0_6 l0_6.length c0_6, .slice A0_7 l0_7.length c0_7, .int .i64 a0_8, .int .i64 a0_9, .int .i64 a0_10, .int .i64 a0_11, .int .i64 a0_12, .slice A0_13 l0_13.length c0_13, .slice A0_14 l0_14.length c0_14]] w fun e w' => e = .returned (.bool r) ∧ Below w.heap.size w w' := by
 have hu99 := Try.underlying99
 have hu67 := Try.underlying67
 have HR0_6 := Aside0.mk hr0_6
 have HC0_6 := Aside0.mk hc0_6
 clear hr0_6 hc0_6
 have HR0_7 := Aside0.mk hr0_7
 have HC0_7 := Aside0.mk hc0_7
 clear hr0_7 hc0_7
 have HR0_13 := Aside0.mk hr0_13
 have HC0_13 := Aside0.mk hc0_13
 clear hr0_13 hc0_13
 have HR0_14 := Aside0.mk hr0_14
 have HC0_14 := Aside0.mk hc0_14
 clear hr0_14 hc0_14
 have HB := Aside0.mk (Below.refl w.heap.size w)
 have H : (if (l0_14.length : Int) < 1 then (promo_one_tiers.j0 k true a0_0 a0_1 a0_2 a0_3 a0_4 a0_5 l0_6 l0_7 a0_8 a0_9 a0_10 a0_11 a0_12 l0_13 l0_14) else (promo_one_tiers.j0 k (decide ((l0_14.length : Int) > 6)) a0_0 a0_1 a0_2 a0_3 a0_4 a0_5 l0_6 l0_7 a0_8 a0_9 a0_10 a0_11 a0_12 l0_13 l0_14)) = some r := h
 clear h
 have HC2 := Aside0.mk H
 clear H
 go_enter Try.func69, Try.ntmps69
 go_upto_region 1 with (first | ((with_reducible refine gate_dst (N := 1) rfl ?_); (try (refine gate_guard (by rfl) ?_; dsimp only)); refine box_event rf_ (N := 1) rf_ (cs := #[.string a0_0, .int .i64 a0_1, .int .i64 a0_2, .string a0_3, .string a0_4, .bool a0_5, .slice A0_6 l0_6.length c0_6, .slice A0_7 l0_7.length c0_7, .int .i64 a0_8, .int .i64 a0_9, .int .i64 a0_10, .int .i64 a0_11, .int .i64 a0_12, .slice A0_13 l0_13.length c0_13, .slice A0_14 l0_14.length c0_14]) (t := 99) lr_ ?_; intro gb149 hg w3 hbox hb; have BK149 := Aside0.mk hbox; have GE149 := Aside0.mk (ge_ HB hg (hb0_ HB)); replace HB := Aside0.mk (below_step (hb0_ HB) hb); clear hb hbox hg))
 (try simp only [Act.put, List.setIfInBounds_toArray, List.set_cons_zero, List.set_cons_succ])
 go_cut [17] (fun v17 wc => ∃ (kq : Nat) (x17_1 : Bool), v17 = .bool x17_1 ∧ Aside0 (promo_one_tiers.j0 kq x17_1 a0_0 a0_1 a0_2 a0_3 a0_4 a0_5 l0_6 l0_7 a0_8 a0_9 a0_10 a0_11 a0_12 l0_13 l0_14 = some r) ∧ Aside0 (kq ≤ k) ∧ Aside0 (wc.heap[gb149]? = some (.cells #[.string a0_0, .int .i64 a0_1, .int .i64 a0_2, .string a0_3, .string a0_4, .bool a0_5, (.slice A0_6 l0_6.length c0_6), (.slice A0_7 l0_7.length c0_7), .int .i64 a0_8, .int .i64 a0_9, .int .i64 a0_10, .int .i64 a0_11, .int .i64 a0_12, (.slice A0_13 l0_13.length c0_13), (.slice A0_14 l0_14.length c0_14)] 99 (0, 0))) ∧ Aside0 (Below w.heap.size w wc))
 case first =>
  have H := HC2.out; clear HC2
  by_cases c4 : (l0_14.length : Int) < 1
  rotate_left
  ·
   rw [if_neg c4] at H; have c4b0 := decide_eq_false c4
   have c4b1 : decide (l0_14.length < 1) = false := decide_eq_false (by omega)
   clear c4
   (first | rw [c4b0] | (simp only [i64_w, i32_w]; rw [c4b0]) | skip)
   have H' := Aside0.mk H; clear H; obtain ⟨hcz6_0, hcz6_1, hcz6_2, hcz6_3, hcz6_4, hcz6_5, hcz6_6, hcz6_7, hcz6_8, hcz6_9, hcz6_10, hcz6_11, hcz6_12, hcz6_13, hcz6_14⟩ := cz15_ BK149; obtain ⟨hfz6_0, hfz6_1, hfz6_2, hfz6_3, hfz6_4, hfz6_5, hfz6_6, hfz6_7, hfz6_8, hfz6_9, hfz6_10, hfz6_11, hfz6_12, hfz6_13, hfz6_14⟩ := fz15_ BK149
   go_wp2
   go_meet
   case rel => exact ⟨_, (decide ((l0_14.length : Int) > 6)), rf_, H', ⟨om_⟩, ⟨bk_ BK149⟩, ⟨hb1_ HB GE149⟩⟩
  rw [if_pos c4] at H; have c4b0 := decide_eq_true c4
  have c4b1 : decide (l0_14.length < 1) = true := decide_eq_true (by omega)
  clear c4
  (first | rw [c4b0] | (simp only [i64_w, i32_w]; rw [c4b0]) | skip)
  have H' := Aside0.mk H; clear H; obtain ⟨hcz5_0, hcz5_1, hcz5_2, hcz5_3, hcz5_4, hcz5_5, hcz5_6, hcz5_7, hcz5_8, hcz5_9, hcz5_10, hcz5_11, hcz5_12, hcz5_13, hcz5_14⟩ := cz15_ BK149; obtain ⟨hfz5_0, hfz5_1, hfz5_2, hfz5_3, hfz5_4, hfz5_5, hfz5_6, hfz5_7, hfz5_8, hfz5_9, hfz5_10, hfz5_11, hfz5_12, hfz5_13, hfz5_14⟩ := fz15_ BK149
  go_wp2
  go_meet
  case rel => exact ⟨_, (true), rf_, H', ⟨om_⟩, ⟨bk_ BK149⟩, ⟨hb1_ HB GE149⟩⟩
 case rest =>
  clear HC2; (try clear p2); (try clear c4); (try clear c4b0); (try clear c4b1); (try clear c6); (try clear hcz5_0 hcz5_1 hcz5_10 hcz5_11 hcz5_12 hcz5_13 hcz5_14 hcz5_2 hcz5_3 hcz5_4 hcz5_5 hcz5_6 hcz5_7 hcz5_8 hcz5_9); (try clear hcz6_0 hcz6_1 hcz6_10 hcz6_11 hcz6_12 hcz6_13 hcz6_14 hcz6_2 hcz6_3 hcz6_4 hcz6_5 hcz6_6 hcz6_7 hcz6_8 hcz6_9)
  (try clear hfz5_0 hfz5_1 hfz5_10 hfz5_11 hfz5_12 hfz5_13 hfz5_14 hfz5_2 hfz5_3 hfz5_4 hfz5_5 hfz5_6 hfz5_7 hfz5_8 hfz5_9); (try clear hfz6_0 hfz6_1 hfz6_10 hfz6_11 hfz6_12 hfz6_13 hfz6_14 hfz6_2 hfz6_3 hfz6_4 hfz6_5 hfz6_6 hfz6_7 hfz6_8 hfz6_9); obtain ⟨kq, x17_1, rfl, HA, HJ1, BK149, HB⟩ := hcut
  cases kq with
  | zero => exact absurd HA.out (by simp [promo_one_tiers.j0])
  | succ kj1 =>
   have H := HA.out; clear HA
   simp only [promo_one_tiers.j0] at H
   by_cases c7 : x17_1 = true
   ·
    subst c7; rw [if_pos rfl] at H; obtain rfl := Option.some.inj H
    go_wp2
    go_ret
    exact ⟨er_, hb1_ HB GE149⟩
   replace c7 := Bool.eq_false_iff.mpr c7; subst c7; rw [if_neg nf_] at H; have H' := Aside0.mk H; clear H; obtain ⟨hcz8_0, hcz8_1, hcz8_2, hcz8_3, hcz8_4, hcz8_5, hcz8_6, hcz8_7, hcz8_8, hcz8_9, hcz8_10, hcz8_11, hcz8_12, hcz8_13, hcz8_14⟩ := cz15_ BK149; obtain ⟨hfz8_0, hfz8_1, hfz8_2, hfz8_3, hfz8_4, hfz8_5, hfz8_6, hfz8_7, hfz8_8, hfz8_9, hfz8_10, hfz8_11, hfz8_12, hfz8_13, hfz8_14⟩ := fz15_ BK149
   go_wp2
   go_loopg [3, 22] kj1 (fun kq v3 v22 w' => ∃ (x3_2 : Int) (x22_2 : Int), v3 = .int .i64 x3_2 ∧ v22 = .int .i64 x22_2 ∧ Aside0 (promo_one_tiers.l0 kq x3_2 l0_14 (l0_14.length : Int) x22_2 = some r) ∧ Aside0 (kq ≤ kj1) ∧ Aside0 (w'.heap[gb149]? = some (.cells #[.string a0_0, .int .i64 a0_1, .int .i64 a0_2, .string a0_3, .string a0_4, .bool a0_5, (.slice A0_6 l0_6.length c0_6), (.slice A0_7 l0_7.length c0_7), .int .i64 a0_8, .int .i64 a0_9, .int .i64 a0_10, .int .i64 a0_11, .int .i64 a0_12, (.slice A0_13 l0_13.length c0_13), (.slice A0_14 l0_14.length c0_14)] 99 (0, 0))) ∧ Aside0 (Below w.heap.size w w'))
   case atStart => exact ⟨((-1)), (0), rf_, rf_, H', ⟨Nat.le_refl _⟩, ⟨bk_ BK149⟩, ⟨hb1_ HB GE149⟩⟩
   case round =>
    clear H'; (try clear p2); (try clear c4); (try clear c4b0); (try clear c4b1); (try clear c6); (try clear c7); (try clear hcz5_0 hcz5_1 hcz5_10 hcz5_11 hcz5_12 hcz5_13 hcz5_14 hcz5_2 hcz5_3 hcz5_4 hcz5_5 hcz5_6 hcz5_7 hcz5_8 hcz5_9); (try clear hcz6_0 hcz6_1 hcz6_10 hcz6_11 hcz6_12 hcz6_13 hcz6_14 hcz6_2 hcz6_3 hcz6_4 hcz6_5 hcz6_6 hcz6_7 hcz6_8 hcz6_9)
    (try clear hcz8_0 hcz8_1 hcz8_10 hcz8_11 hcz8_12 hcz8_13 hcz8_14 hcz8_2 hcz8_3 hcz8_4 hcz8_5 hcz8_6 hcz8_7 hcz8_8 hcz8_9); (try clear hfz5_0 hfz5_1 hfz5_10 hfz5_11 hfz5_12 hfz5_13 hfz5_14 hfz5_2 hfz5_3 hfz5_4 hfz5_5 hfz5_6 hfz5_7 hfz5_8 hfz5_9); (try clear hfz6_0 hfz6_1 hfz6_10 hfz6_11 hfz6_12 hfz6_13 hfz6_14 hfz6_2 hfz6_3 hfz6_4 hfz6_5 hfz6_6 hfz6_7 hfz6_8 hfz6_9)
    (try clear hfz8_0 hfz8_1 hfz8_10 hfz8_11 hfz8_12 hfz8_13 hfz8_14 hfz8_2 hfz8_3 hfz8_4 hfz8_5 hfz8_6 hfz8_7 hfz8_8 hfz8_9); (try clear p2); obtain ⟨x3_2, x22_2, rfl, rfl, HA, HK2, BK149, HB⟩ := hrel
    cases gk with
    | zero => exact absurd HA.out (by simp [promo_one_tiers.l0])
    | succ k2 =>
     have H := HA.out; clear HA
     simp only [promo_one_tiers.l0] at H
     by_cases c9 : x22_2 < (l0_14.length : Int)
     rotate_left
     ·
      rw [if_neg c9] at H; have c9b0 := decide_eq_false c9; clear c9; obtain rfl := Option.some.inj H
      go_wp2
      go_ret
      exact ⟨er_, hb1_ HB GE149⟩
     rw [if_pos c9] at H; have c9b0 := decide_eq_true c9; clear c9; replace H := ip_ H; obtain ⟨c10, H⟩ := H; have c10b0 := decide_eq_true c10; clear c10; replace H := ip_ H; obtain ⟨c11, H⟩ := H; have c11b0 := decide_eq_true c11; clear c11
     by_cases c12 : ((rd_T67 l0_14 x22_2).f0) ≤ x3_2
     ·
      rw [if_pos c12] at H; have c12b0 := decide_eq_true c12; clear c12; obtain rfl := Option.some.inj H; have p150 : 0 ≤ (x22_2 : Int) := of_decide_eq_true as_; have q150 : x22_2 < (l0_14.length : Int) := of_decide_eq_true as_; obtain ⟨ad150, e150, hx150_0, hx150_1, hx150_2⟩ := at_T67 HR0_14.out x22_2 p150 q150
      cases e150; replace hx150_0 := hd_ HB hx150_0; replace hx150_1 := hd_ HB hx150_1; replace hx150_2 := hd_ HB hx150_2; replace p150 := eq_true p150; replace q150 := eq_true q150
      go_wp2_with (first | ((with_reducible refine gate_dst (N := 5) rfl ?_); (try (refine gate_guard (by rfl) ?_; dsimp only)); refine box_event rf_ (N := 5) rf_ (cs := #[.int .i64 0, .int .i64 0, .int .i64 0]) (t := 67) lr_ ?_; intro gb151 hg w13 hbox hb; have BK151 := Aside0.mk hbox; have GE151 := Aside0.mk (ge_ HB hg (hb1_ HB GE149)); replace HB := Aside0.mk (below_step (hb1_ HB GE149) hb); have NB149_151 := Aside0.mk (nl_ BK149 hg); have NB151_149 := Aside0.mk (ng_ BK149 hg); replace BK149 := Aside0.mk (bb_ BK149 hb); clear hb hbox hg; have hnb14 := NB151_149.out; have hnc14 := NB149_151.out; obtain ⟨hcz15_0, hcz15_1, hcz15_2⟩ := cz3_ BK151; obtain ⟨hfz15_0, hfz15_1, hfz15_2⟩ := fz3_ BK151))
      go_ret
      exact ⟨er_, hb2_ HB GE149 GE151⟩
     rw [if_neg c12] at H; have c12b0 := decide_eq_false c12; clear c12
     by_cases c16 : ((rd_T67 l0_14 x22_2).f0) > 10000000000000
     ·
      rw [if_pos c16] at H; have c16b0 := decide_eq_true c16; clear c16; obtain rfl := Option.some.inj H; have p150 : 0 ≤ (x22_2 : Int) := of_decide_eq_true as_; have q150 : x22_2 < (l0_14.length : Int) := of_decide_eq_true as_; obtain ⟨ad150, e150, hx150_0, hx150_1, hx150_2⟩ := at_T67 HR0_14.out x22_2 p150 q150
      cases e150; replace hx150_0 := hd_ HB hx150_0; replace hx150_1 := hd_ HB hx150_1; replace hx150_2 := hd_ HB hx150_2; replace p150 := eq_true p150; replace q150 := eq_true q150
      go_wp2_with (first | ((with_reducible refine gate_dst (N := 5) rfl ?_); (try (refine gate_guard (by rfl) ?_; dsimp only)); refine box_event rf_ (N := 5) rf_ (cs := #[.int .i64 0, .int .i64 0, .int .i64 0]) (t := 67) lr_ ?_; intro gb151 hg w17 hbox hb; have BK151 := Aside0.mk hbox; have GE151 := Aside0.mk (ge_ HB hg (hb1_ HB GE149)); replace HB := Aside0.mk (below_step (hb1_ HB GE149) hb); have NB149_151 := Aside0.mk (nl_ BK149 hg); have NB151_149 := Aside0.mk (ng_ BK149 hg); replace BK149 := Aside0.mk (bb_ BK149 hb); clear hb hbox hg; have hnb18 := NB151_149.out; have hnc18 := NB149_151.out; obtain ⟨hcz19_0, hcz19_1, hcz19_2⟩ := cz3_ BK151; obtain ⟨hfz19_0, hfz19_1, hfz19_2⟩ := fz3_ BK151))
      go_ret
      exact ⟨er_, hb2_ HB GE149 GE151⟩
     rw [if_neg c16] at H; have c16b0 := decide_eq_false c16; clear c16
     by_cases c20 : ((rd_T67 l0_14 x22_2).f1) < 0
     ·
      rw [if_pos c20] at H; have c20b0 := decide_eq_true c20; clear c20; obtain rfl := Option.some.inj H; have p150 : 0 ≤ (x22_2 : Int) := of_decide_eq_true as_; have q150 : x22_2 < (l0_14.length : Int) := of_decide_eq_true as_; obtain ⟨ad150, e150, hx150_0, hx150_1, hx150_2⟩ := at_T67 HR0_14.out x22_2 p150 q150
      cases e150; replace hx150_0 := hd_ HB hx150_0; replace hx150_1 := hd_ HB hx150_1; replace hx150_2 := hd_ HB hx150_2; replace p150 := eq_true p150; replace q150 := eq_true q150
      go_wp2_with (first | ((with_reducible refine gate_dst (N := 5) rfl ?_); (try (refine gate_guard (by rfl) ?_; dsimp only)); refine box_event rf_ (N := 5) rf_ (cs := #[.int .i64 0, .int .i64 0, .int .i64 0]) (t := 67) lr_ ?_; intro gb151 hg w21 hbox hb; have BK151 := Aside0.mk hbox; have GE151 := Aside0.mk (ge_ HB hg (hb1_ HB GE149)); replace HB := Aside0.mk (below_step (hb1_ HB GE149) hb); have NB149_151 := Aside0.mk (nl_ BK149 hg); have NB151_149 := Aside0.mk (ng_ BK149 hg); replace BK149 := Aside0.mk (bb_ BK149 hb); clear hb hbox hg; have hnb22 := NB151_149.out; have hnc22 := NB149_151.out; obtain ⟨hcz23_0, hcz23_1, hcz23_2⟩ := cz3_ BK151; obtain ⟨hfz23_0, hfz23_1, hfz23_2⟩ := fz3_ BK151))
      go_ret
      exact ⟨er_, hb2_ HB GE149 GE151⟩
     rw [if_neg c20] at H; have c20b0 := decide_eq_false c20; clear c20
     by_cases c24 : ((rd_T67 l0_14 x22_2).f1) > 10000
     ·
      rw [if_pos c24] at H; have c24b0 := decide_eq_true c24; clear c24; obtain rfl := Option.some.inj H; have p150 : 0 ≤ (x22_2 : Int) := of_decide_eq_true as_; have q150 : x22_2 < (l0_14.length : Int) := of_decide_eq_true as_; obtain ⟨ad150, e150, hx150_0, hx150_1, hx150_2⟩ := at_T67 HR0_14.out x22_2 p150 q150
      cases e150; replace hx150_0 := hd_ HB hx150_0; replace hx150_1 := hd_ HB hx150_1; replace hx150_2 := hd_ HB hx150_2; replace p150 := eq_true p150; replace q150 := eq_true q150
      go_wp2_with (first | ((with_reducible refine gate_dst (N := 5) rfl ?_); (try (refine gate_guard (by rfl) ?_; dsimp only)); refine box_event rf_ (N := 5) rf_ (cs := #[.int .i64 0, .int .i64 0, .int .i64 0]) (t := 67) lr_ ?_; intro gb151 hg w25 hbox hb; have BK151 := Aside0.mk hbox; have GE151 := Aside0.mk (ge_ HB hg (hb1_ HB GE149)); replace HB := Aside0.mk (below_step (hb1_ HB GE149) hb); have NB149_151 := Aside0.mk (nl_ BK149 hg); have NB151_149 := Aside0.mk (ng_ BK149 hg); replace BK149 := Aside0.mk (bb_ BK149 hb); clear hb hbox hg; have hnb26 := NB151_149.out; have hnc26 := NB149_151.out; obtain ⟨hcz27_0, hcz27_1, hcz27_2⟩ := cz3_ BK151; obtain ⟨hfz27_0, hfz27_1, hfz27_2⟩ := fz3_ BK151))
      go_ret
      exact ⟨er_, hb2_ HB GE149 GE151⟩
     rw [if_neg c24] at H; have c24b0 := decide_eq_false c24; clear c24
     by_cases c28 : ((rd_T67 l0_14 x22_2).f2) < 0
     ·
      rw [if_pos c28] at H; have c28b0 := decide_eq_true c28; clear c28; obtain rfl := Option.some.inj H; have p150 : 0 ≤ (x22_2 : Int) := of_decide_eq_true as_; have q150 : x22_2 < (l0_14.length : Int) := of_decide_eq_true as_; obtain ⟨ad150, e150, hx150_0, hx150_1, hx150_2⟩ := at_T67 HR0_14.out x22_2 p150 q150
      cases e150; replace hx150_0 := hd_ HB hx150_0; replace hx150_1 := hd_ HB hx150_1; replace hx150_2 := hd_ HB hx150_2; replace p150 := eq_true p150; replace q150 := eq_true q150
      go_wp2_with (first | ((with_reducible refine gate_dst (N := 5) rfl ?_); (try (refine gate_guard (by rfl) ?_; dsimp only)); refine box_event rf_ (N := 5) rf_ (cs := #[.int .i64 0, .int .i64 0, .int .i64 0]) (t := 67) lr_ ?_; intro gb151 hg w29 hbox hb; have BK151 := Aside0.mk hbox; have GE151 := Aside0.mk (ge_ HB hg (hb1_ HB GE149)); replace HB := Aside0.mk (below_step (hb1_ HB GE149) hb); have NB149_151 := Aside0.mk (nl_ BK149 hg); have NB151_149 := Aside0.mk (ng_ BK149 hg); replace BK149 := Aside0.mk (bb_ BK149 hb); clear hb hbox hg; have hnb30 := NB151_149.out; have hnc30 := NB149_151.out; obtain ⟨hcz31_0, hcz31_1, hcz31_2⟩ := cz3_ BK151; obtain ⟨hfz31_0, hfz31_1, hfz31_2⟩ := fz3_ BK151))
      go_ret
      exact ⟨er_, hb2_ HB GE149 GE151⟩
     rw [if_neg c28] at H; have c28b0 := decide_eq_false c28; clear c28
     by_cases c32 : ((rd_T67 l0_14 x22_2).f2) > 10000000000000
     ·
      rw [if_pos c32] at H; have c32b0 := decide_eq_true c32; clear c32; obtain rfl := Option.some.inj H; have p150 : 0 ≤ (x22_2 : Int) := of_decide_eq_true as_; have q150 : x22_2 < (l0_14.length : Int) := of_decide_eq_true as_; obtain ⟨ad150, e150, hx150_0, hx150_1, hx150_2⟩ := at_T67 HR0_14.out x22_2 p150 q150
      cases e150; replace hx150_0 := hd_ HB hx150_0; replace hx150_1 := hd_ HB hx150_1; replace hx150_2 := hd_ HB hx150_2; replace p150 := eq_true p150; replace q150 := eq_true q150
      go_wp2_with (first | ((with_reducible refine gate_dst (N := 5) rfl ?_); (try (refine gate_guard (by rfl) ?_; dsimp only)); refine box_event rf_ (N := 5) rf_ (cs := #[.int .i64 0, .int .i64 0, .int .i64 0]) (t := 67) lr_ ?_; intro gb151 hg w33 hbox hb; have BK151 := Aside0.mk hbox; have GE151 := Aside0.mk (ge_ HB hg (hb1_ HB GE149)); replace HB := Aside0.mk (below_step (hb1_ HB GE149) hb); have NB149_151 := Aside0.mk (nl_ BK149 hg); have NB151_149 := Aside0.mk (ng_ BK149 hg); replace BK149 := Aside0.mk (bb_ BK149 hb); clear hb hbox hg; have hnb34 := NB151_149.out; have hnc34 := NB149_151.out; obtain ⟨hcz35_0, hcz35_1, hcz35_2⟩ := cz3_ BK151; obtain ⟨hfz35_0, hfz35_1, hfz35_2⟩ := fz3_ BK151))
      go_ret
      exact ⟨er_, hb2_ HB GE149 GE151⟩
     rw [if_neg c32] at H; have c32b0 := decide_eq_false c32; clear c32
     by_cases c36 : ((rd_T67 l0_14 x22_2).f1) = 0
     rotate_left
     ·
      rw [if_neg c36] at H; have c36b0 : (((rd_T67 l0_14 x22_2).f1) == 0) = false := beq_eq_false_iff_ne.mpr c36; have c36b1 : (((rd_T67 l0_14 x22_2).f1) != 0) = true := bne_iff_ne.mpr c36; have H' := Aside0.mk H; clear H; have p150 : 0 ≤ (x22_2 : Int) := of_decide_eq_true as_; have q150 : x22_2 < (l0_14.length : Int) := of_decide_eq_true as_
      obtain ⟨ad150, e150, hx150_0, hx150_1, hx150_2⟩ := at_T67 HR0_14.out x22_2 p150 q150; cases e150; replace hx150_0 := hd_ HB hx150_0; replace hx150_1 := hd_ HB hx150_1; replace hx150_2 := hd_ HB hx150_2; replace p150 := eq_true p150; replace q150 := eq_true q150
      go_wp2_with (first | ((with_reducible refine gate_dst (N := 5) rfl ?_); (try (refine gate_guard (by rfl) ?_; dsimp only)); refine box_event rf_ (N := 5) rf_ (cs := #[.int .i64 0, .int .i64 0, .int .i64 0]) (t := 67) lr_ ?_; intro gb151 hg w44 hbox hb; have BK151 := Aside0.mk hbox; have GE151 := Aside0.mk (ge_ HB hg (hb1_ HB GE149)); replace HB := Aside0.mk (below_step (hb1_ HB GE149) hb); have NB149_151 := Aside0.mk (nl_ BK149 hg); have NB151_149 := Aside0.mk (ng_ BK149 hg); replace BK149 := Aside0.mk (bb_ BK149 hb); clear hb hbox hg; have hnb45 := NB151_149.out; have hnc45 := NB149_151.out; obtain ⟨hcz46_0, hcz46_1, hcz46_2⟩ := cz3_ BK151; obtain ⟨hfz46_0, hfz46_1, hfz46_2⟩ := fz3_ BK151))
      go_roundg k2
      case measure => have := HJ1.out; have := HK2.out; omega
      case rel => exact ⟨((rd_T67 l0_14 x22_2).f0), (wrap64 (x22_2 + 1)), rf_, rf_, H', ⟨ho2_ HJ1 HK2⟩, ⟨bf3_ BK149 NB149_151 NB149_151 NB149_151⟩, ⟨hb2_ HB GE149 GE151⟩⟩
     rw [if_pos c36] at H; have c36b0 : (((rd_T67 l0_14 x22_2).f1) == 0) = true := beq_iff_eq.mpr c36; have c36b1 : (((rd_T67 l0_14 x22_2).f1) != 0) = false := bne_eq_false_iff_eq.mpr c36; clear c36
     by_cases c37 : ((rd_T67 l0_14 x22_2).f2) = 0
     ·
      rw [if_pos c37] at H; have c37b0 : (((rd_T67 l0_14 x22_2).f2) == 0) = true := beq_iff_eq.mpr c37; have c37b1 : (((rd_T67 l0_14 x22_2).f2) != 0) = false := bne_eq_false_iff_eq.mpr c37; clear c37; obtain rfl := Option.some.inj H; have p150 : 0 ≤ (x22_2 : Int) := of_decide_eq_true as_; have q150 : x22_2 < (l0_14.length : Int) := of_decide_eq_true as_
      obtain ⟨ad150, e150, hx150_0, hx150_1, hx150_2⟩ := at_T67 HR0_14.out x22_2 p150 q150; cases e150; replace hx150_0 := hd_ HB hx150_0; replace hx150_1 := hd_ HB hx150_1; replace hx150_2 := hd_ HB hx150_2; replace p150 := eq_true p150; replace q150 := eq_true q150
      go_wp2_with (first | ((with_reducible refine gate_dst (N := 5) rfl ?_); (try (refine gate_guard (by rfl) ?_; dsimp only)); refine box_event rf_ (N := 5) rf_ (cs := #[.int .i64 0, .int .i64 0, .int .i64 0]) (t := 67) lr_ ?_; intro gb151 hg w38 hbox hb; have BK151 := Aside0.mk hbox; have GE151 := Aside0.mk (ge_ HB hg (hb1_ HB GE149)); replace HB := Aside0.mk (below_step (hb1_ HB GE149) hb); have NB149_151 := Aside0.mk (nl_ BK149 hg); have NB151_149 := Aside0.mk (ng_ BK149 hg); replace BK149 := Aside0.mk (bb_ BK149 hb); clear hb hbox hg; have hnb39 := NB151_149.out; have hnc39 := NB149_151.out; obtain ⟨hcz40_0, hcz40_1, hcz40_2⟩ := cz3_ BK151; obtain ⟨hfz40_0, hfz40_1, hfz40_2⟩ := fz3_ BK151))
      go_ret
      exact ⟨er_, hb2_ HB GE149 GE151⟩
     rw [if_neg c37] at H; have c37b0 : (((rd_T67 l0_14 x22_2).f2) == 0) = false := beq_eq_false_iff_ne.mpr c37; have c37b1 : (((rd_T67 l0_14 x22_2).f2) != 0) = true := bne_iff_ne.mpr c37; have H' := Aside0.mk H; clear H; have p150 : 0 ≤ (x22_2 : Int) := of_decide_eq_true as_; have q150 : x22_2 < (l0_14.length : Int) := of_decide_eq_true as_
     obtain ⟨ad150, e150, hx150_0, hx150_1, hx150_2⟩ := at_T67 HR0_14.out x22_2 p150 q150; cases e150; replace hx150_0 := hd_ HB hx150_0; replace hx150_1 := hd_ HB hx150_1; replace hx150_2 := hd_ HB hx150_2; replace p150 := eq_true p150; replace q150 := eq_true q150
     go_wp2_with (first | ((with_reducible refine gate_dst (N := 5) rfl ?_); (try (refine gate_guard (by rfl) ?_; dsimp only)); refine box_event rf_ (N := 5) rf_ (cs := #[.int .i64 0, .int .i64 0, .int .i64 0]) (t := 67) lr_ ?_; intro gb151 hg w41 hbox hb; have BK151 := Aside0.mk hbox; have GE151 := Aside0.mk (ge_ HB hg (hb1_ HB GE149)); replace HB := Aside0.mk (below_step (hb1_ HB GE149) hb); have NB149_151 := Aside0.mk (nl_ BK149 hg); have NB151_149 := Aside0.mk (ng_ BK149 hg); replace BK149 := Aside0.mk (bb_ BK149 hb); clear hb hbox hg; have hnb42 := NB151_149.out; have hnc42 := NB149_151.out; obtain ⟨hcz43_0, hcz43_1, hcz43_2⟩ := cz3_ BK151; obtain ⟨hfz43_0, hfz43_1, hfz43_2⟩ := fz3_ BK151))
     go_roundg k2
     case measure => have := HJ1.out; have := HK2.out; omega
     case rel => exact ⟨((rd_T67 l0_14 x22_2).f0), (wrap64 (x22_2 + 1)), rf_, rf_, H', ⟨ho2_ HJ1 HK2⟩, ⟨bf3_ BK149 NB149_151 NB149_151 NB149_151⟩, ⟨hb2_ HB GE149 GE151⟩⟩

end Go.Proofs.Ytdmeepjefccpgaa.Rw
