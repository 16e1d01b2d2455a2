/- Functions of the program as Lean functions, each with its contract: out of what the kit's printer wrote for this seat. -/
import Derived.Test.YtgfhjamaabaleaaVRwA
import Derived.Test.YtgfhjamaabaleaaVRwAb
import Derived.Test.YtgfhjamaabaleaaVRwPlain
namespace Go.Proofs.Ytgfhjamaabaleaa.Rw
open Go.RowKit Go.Proofs.YtgfhjamaabaleaaW.PrintWords Go.Proofs.YtgfhjamaabaleaaW.PrintLast Go.Proofs.YtgfhjamaabaleaaW.PrintMore
attribute [local go_sem] max2_int min2_int max_two min_two max_three min_three max_four min_four   -- for this text's walks alone
set_option linter.unusedVariables false
set_option linter.unusedSimpArgs false
attribute [local go_sem high] leqS gtrS
attribute [local go_sem high] eqA39

/-! ### haberdashhelp_Zone: function 11 -/
def haberdashhelp_Zone.f (k : Nat) (a0_0 : ByteArray) (l0_1 : List (S39)) (a0_2 : Int) (a0_3 : Int) (a1_0 : ByteArray) (l1_1 : List (S39)) (a1_2 : Int) (a1_3 : Int) : Option (Bool) := if a0_0.toList = a1_0.toList then (if a0_2 = a1_2 then (if a0_3 = a1_3 then ((api_CatRate_20.f k l0_1 l1_1).bind fun t243 => (some t243)) else (some false)) else (some false)) else (some false)
set_option maxHeartbeats 8000000 in
set_option maxRecDepth 100000 in
theorem haberdashhelp_Zone.calls (k : Nat) (a0_0 : ByteArray) (A0_1 : Option Addr) (c0_1 : Nat) (l0_1 : List (S39)) (a0_2 : Int) (a0_3 : Int) (a1_0 : ByteArray) (A1_1 : Option Addr) (c1_1 : Nat) (l1_1 : List (S39)) (a1_2 : Int) (a1_3 : Int) (r : Bool) (w : World) (hr0_1 : Kd.C k39 w A0_1 l0_1.length l0_1) (hc0_1 : l0_1.length ≤ c0_1) (hr1_1 : Kd.C k39 w A1_1 l1_1.length l1_1) (hc1_1 : l1_1.length ≤ c1_1) (h : haberdashhelp_Zone.f k a0_0 l0_1 a0_2 a0_3 a1_0 l1_1 a1_2 a1_3 = some r) :
 Calls Try.prog 11 #[.agg #[.string a0_0, .slice A0_1 l0_1.length c0_1, .int .i64 a0_2, .int .i64 a0_3], .agg #[.string a1_0, .slice A1_1 l1_1.length c1_1, .int .i64 a1_2, .int .i64 a1_3]] w fun e w' => e = .returned (.bool r) ∧ Below w.heap.size w w' := by
 have hu28 := Try.underlying28
 have HR0_1 := Aside0.mk hr0_1
 have HC0_1 := Aside0.mk hc0_1
 clear hr0_1 hc0_1
 have HR1_1 := Aside0.mk hr1_1
 have HC1_1 := Aside0.mk hc1_1
 clear hr1_1 hc1_1
 have HB := Aside0.mk (Below.refl w.heap.size w)
 have H : (if a0_0.toList = a1_0.toList then (if a0_2 = a1_2 then (if a0_3 = a1_3 then ((api_CatRate_20.f k l0_1 l1_1).bind fun t243 => (some t243)) else (some false)) else (some false)) else (some false)) = some r := h
 clear h
 by_cases c3 : a0_0.toList = a1_0.toList
 rotate_left
 ·
  rw [if_neg c3] at H; have c3b0 : (a0_0.toList == a1_0.toList) = false := beq_eq_false_iff_ne.mpr c3; have c3b1 : (a0_0.toList != a1_0.toList) = true := bne_iff_ne.mpr c3; obtain rfl := Option.some.inj H
  go_enter Try.func11, Try.ntmps11
  go_wp2_with (first | ((with_reducible refine gate_dst (N := 2) rfl ?_); refine box_event rf_ (N := 2) rf_ (cs := #[.string a0_0, .slice A0_1 l0_1.length c0_1, .int .i64 a0_2, .int .i64 a0_3]) (t := 28) lr_ ?_; intro gb241 hg w23 hbox hb; have BK241 := Aside0.mk hbox; have GE241 := Aside0.mk (ge_ HB hg (hb0_ HB)); replace HB := Aside0.mk (below_step (hb0_ HB) hb); clear hb hbox hg) | ((with_reducible refine gate_dst (N := 3) rfl ?_); refine box_event rf_ (N := 3) rf_ (cs := #[.string a1_0, .slice A1_1 l1_1.length c1_1, .int .i64 a1_2, .int .i64 a1_3]) (t := 28) lr_ ?_; intro gb242 hg w24 hbox hb; have BK242 := Aside0.mk hbox; have GE242 := Aside0.mk (ge_ HB hg (hb1_ HB GE241)); replace HB := Aside0.mk (below_step (hb1_ HB GE241) hb); have NB241_242 := Aside0.mk (nl_ BK241 hg); have NB242_241 := Aside0.mk (ng_ BK241 hg); replace BK241 := Aside0.mk (bb_ BK241 hb); clear hb hbox hg; have hnb25 := NB241_242.out; have hnc25 := NB242_241.out; obtain ⟨hcz26_0, hcz26_1, hcz26_2, hcz26_3⟩ := cz4_ BK241; obtain ⟨hfz26_0, hfz26_1, hfz26_2, hfz26_3⟩ := fz4_ BK241; obtain ⟨hcz27_0, hcz27_1, hcz27_2, hcz27_3⟩ := cz4_ BK242; obtain ⟨hfz27_0, hfz27_1, hfz27_2, hfz27_3⟩ := fz4_ BK242))
  go_ret
  exact ⟨er_, hb2_ HB GE241 GE242⟩
 rw [if_pos c3] at H
 have c3b0 : (a0_0.toList == a1_0.toList) = true := beq_iff_eq.mpr c3
 have c3b1 : (a0_0.toList != a1_0.toList) = false := bne_eq_false_iff_eq.mpr c3
 clear c3
 by_cases c4 : a0_2 = a1_2
 rotate_left
 ·
  rw [if_neg c4] at H; have c4b0 : (a0_2 == a1_2) = false := beq_eq_false_iff_ne.mpr c4; have c4b1 : (a0_2 != a1_2) = true := bne_iff_ne.mpr c4; obtain rfl := Option.some.inj H
  go_enter Try.func11, Try.ntmps11
  go_wp2_with (first | ((with_reducible refine gate_dst (N := 2) rfl ?_); refine box_event rf_ (N := 2) rf_ (cs := #[.string a0_0, .slice A0_1 l0_1.length c0_1, .int .i64 a0_2, .int .i64 a0_3]) (t := 28) lr_ ?_; intro gb241 hg w18 hbox hb; have BK241 := Aside0.mk hbox; have GE241 := Aside0.mk (ge_ HB hg (hb0_ HB)); replace HB := Aside0.mk (below_step (hb0_ HB) hb); clear hb hbox hg) | ((with_reducible refine gate_dst (N := 3) rfl ?_); refine box_event rf_ (N := 3) rf_ (cs := #[.string a1_0, .slice A1_1 l1_1.length c1_1, .int .i64 a1_2, .int .i64 a1_3]) (t := 28) lr_ ?_; intro gb242 hg w19 hbox hb; have BK242 := Aside0.mk hbox; have GE242 := Aside0.mk (ge_ HB hg (hb1_ HB GE241)); replace HB := Aside0.mk (below_step (hb1_ HB GE241) hb); have NB241_242 := Aside0.mk (nl_ BK241 hg); have NB242_241 := Aside0.mk (ng_ BK241 hg); replace BK241 := Aside0.mk (bb_ BK241 hb); clear hb hbox hg; have hnb20 := NB241_242.out; have hnc20 := NB242_241.out; obtain ⟨hcz21_0, hcz21_1, hcz21_2, hcz21_3⟩ := cz4_ BK241; obtain ⟨hfz21_0, hfz21_1, hfz21_2, hfz21_3⟩ := fz4_ BK241; obtain ⟨hcz22_0, hcz22_1, hcz22_2, hcz22_3⟩ := cz4_ BK242; obtain ⟨hfz22_0, hfz22_1, hfz22_2, hfz22_3⟩ := fz4_ BK242))
  go_ret
  exact ⟨er_, hb2_ HB GE241 GE242⟩
 rw [if_pos c4] at H
 have c4b0 : (a0_2 == a1_2) = true := beq_iff_eq.mpr c4
 have c4b1 : (a0_2 != a1_2) = false := bne_eq_false_iff_eq.mpr c4
 clear c4
 by_cases c5 : a0_3 = a1_3
 rotate_left
 ·
  rw [if_neg c5] at H; have c5b0 : (a0_3 == a1_3) = false := beq_eq_false_iff_ne.mpr c5; have c5b1 : (a0_3 != a1_3) = true := bne_iff_ne.mpr c5; obtain rfl := Option.some.inj H
  go_enter Try.func11, Try.ntmps11
  go_wp2_with (first | ((with_reducible refine gate_dst (N := 2) rfl ?_); refine box_event rf_ (N := 2) rf_ (cs := #[.string a0_0, .slice A0_1 l0_1.length c0_1, .int .i64 a0_2, .int .i64 a0_3]) (t := 28) lr_ ?_; intro gb241 hg w13 hbox hb; have BK241 := Aside0.mk hbox; have GE241 := Aside0.mk (ge_ HB hg (hb0_ HB)); replace HB := Aside0.mk (below_step (hb0_ HB) hb); clear hb hbox hg) | ((with_reducible refine gate_dst (N := 3) rfl ?_); refine box_event rf_ (N := 3) rf_ (cs := #[.string a1_0, .slice A1_1 l1_1.length c1_1, .int .i64 a1_2, .int .i64 a1_3]) (t := 28) lr_ ?_; intro gb242 hg w14 hbox hb; have BK242 := Aside0.mk hbox; have GE242 := Aside0.mk (ge_ HB hg (hb1_ HB GE241)); replace HB := Aside0.mk (below_step (hb1_ HB GE241) hb); have NB241_242 := Aside0.mk (nl_ BK241 hg); have NB242_241 := Aside0.mk (ng_ BK241 hg); replace BK241 := Aside0.mk (bb_ BK241 hb); clear hb hbox hg; have hnb15 := NB241_242.out; have hnc15 := NB242_241.out; obtain ⟨hcz16_0, hcz16_1, hcz16_2, hcz16_3⟩ := cz4_ BK241; obtain ⟨hfz16_0, hfz16_1, hfz16_2, hfz16_3⟩ := fz4_ BK241; obtain ⟨hcz17_0, hcz17_1, hcz17_2, hcz17_3⟩ := cz4_ BK242; obtain ⟨hfz17_0, hfz17_1, hfz17_2, hfz17_3⟩ := fz4_ BK242))
  go_ret
  exact ⟨er_, hb2_ HB GE241 GE242⟩
 rw [if_pos c5] at H
 have c5b0 : (a0_3 == a1_3) = true := beq_iff_eq.mpr c5
 have c5b1 : (a0_3 != a1_3) = false := bne_eq_false_iff_eq.mpr c5
 clear c5
 replace H := Option.bind_eq_some_iff.mp H
 obtain ⟨t243, A60, H⟩ := H
 (try dsimp only at H)
 have A6 := Aside0.mk A60
 clear A60
 obtain rfl := Option.some.inj H
 go_enter Try.func11, Try.ntmps11
 go_wp2_with (first | ((with_reducible refine gate_dst (N := 2) rfl ?_); refine box_event rf_ (N := 2) rf_ (cs := #[.string a0_0, .slice A0_1 l0_1.length c0_1, .int .i64 a0_2, .int .i64 a0_3]) (t := 28) lr_ ?_; intro gb241 hg w7 hbox hb; have BK241 := Aside0.mk hbox; have GE241 := Aside0.mk (ge_ HB hg (hb0_ HB)); replace HB := Aside0.mk (below_step (hb0_ HB) hb); clear hb hbox hg) | ((with_reducible refine gate_dst (N := 3) rfl ?_); refine box_event rf_ (N := 3) rf_ (cs := #[.string a1_0, .slice A1_1 l1_1.length c1_1, .int .i64 a1_2, .int .i64 a1_3]) (t := 28) lr_ ?_; intro gb242 hg w8 hbox hb; have BK242 := Aside0.mk hbox; have GE242 := Aside0.mk (ge_ HB hg (hb1_ HB GE241)); replace HB := Aside0.mk (below_step (hb1_ HB GE241) hb); have NB241_242 := Aside0.mk (nl_ BK241 hg); have NB242_241 := Aside0.mk (ng_ BK241 hg); replace BK241 := Aside0.mk (bb_ BK241 hb); clear hb hbox hg; have hnb9 := NB241_242.out; have hnc9 := NB242_241.out; obtain ⟨hcz10_0, hcz10_1, hcz10_2, hcz10_3⟩ := cz4_ BK241; obtain ⟨hfz10_0, hfz10_1, hfz10_2, hfz10_3⟩ := fz4_ BK241; obtain ⟨hcz11_0, hcz11_1, hcz11_2, hcz11_3⟩ := cz4_ BK242; obtain ⟨hfz11_0, hfz11_1, hfz11_2, hfz11_3⟩ := fz4_ BK242) | (go_at_call 20; (with_reducible refine (api_CatRate_20.calls k _ _ l0_1 _ _ l1_1 t243 _ ?side1 ?side2 ?side3 ?side4 A6.out).mono ?_); (case side1 => exact sc_ (Kd.C_below HR0_1.out HB.out)); (case side2 => exact HC0_1.out); (case side3 => exact sc_ (Kd.C_below HR1_1.out HB.out)); (case side4 => exact HC1_1.out); rintro e w12 ⟨rfl, hb⟩; replace BK241 := Aside0.mk (bb_ BK241 hb); replace BK242 := Aside0.mk (bb_ BK242 hb); replace HB := Aside0.mk (below_step (hb2_ HB GE241 GE242) hb); (try clear hb)))
 go_ret
 exact ⟨er_, hb2_ HB GE241 GE242⟩

end Go.Proofs.Ytgfhjamaabaleaa.Rw
