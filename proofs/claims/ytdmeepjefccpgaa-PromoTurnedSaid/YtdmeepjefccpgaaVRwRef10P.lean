/- A contract of the program: out of what the kit's printer wrote for this seat. -/
import Derived.Test.YtdmeepjefccpgaaVRwRef10p
import Derived.Test.YtdmeepjefccpgaaVRwA
namespace Go.Proofs.Ytdmeepjefccpgaa.Rw
open Go.RowKit Go.Proofs.YtdmeepjefccpgaaW.PrintWords Go.Proofs.YtdmeepjefccpgaaW.PrintLast Go.Proofs.YtdmeepjefccpgaaW.PrintMore
attribute [local go_sem] max2_int min2_int max_two min_two max_three min_three max_four min_four   -- for this text's walks alone
set_option linter.unusedVariables false
set_option linter.unusedSimpArgs false
attribute [local go_sem high] leqS gtrS
set_option maxHeartbeats 8000000 in
set_option maxRecDepth 100000 in
theorem haberdashref10_Promo.calls (k : Nat) (a0_0 : ByteArray) (a0_1 : Int) (a0_2 : Int) (a0_3 : ByteArray) (a0_4 : ByteArray) (a0_5 : Bool) (A0_6 : Option Addr) (c0_6 : Nat) (l0_6 : List ByteArray) (A0_7 : Option Addr) (c0_7 : Nat) (l0_7 : List ByteArray) (a0_8 : Int) (a0_9 : Int) (a0_10 : Int) (a0_11 : Int) (a0_12 : Int) (A0_13 : Option Addr) (c0_13 : Nat) (l0_13 : List (S65)) (A0_14 : Option Addr) (c0_14 : Nat) (l0_14 : List (S67)) (r : Bool) (w : World) (hr0_6 : Kd.C Kd.string w A0_6 l0_6.length l0_6) (hc0_6 : l0_6.length ≤ c0_6) (hr0_7 : Kd.C Kd.string w A0_7 l0_7.length l0_7) (hc0_7 : l0_7.length ≤ c0_7) (hr0_13 : Kd.C k65 w A0_13 l0_13.length l0_13) (hc0_13 : l0_13.length ≤ c0_13) (hr0_14 : Kd.C k67 w A0_14 l0_14.length l0_14) (hc0_14 : l0_14.length ≤ c0_14) (h : haberdashref10_Promo.f k a0_0 a0_1 a0_2 a0_3 a0_4 a0_5 l0_6 l0_7 a0_8 a0_9 a0_10 a0_11 a0_12 l0_13 l0_14 = some r) :
 Calls Try.prog 31 #[.agg #[.string a0_0, .int .i64 a0_1, .int .i64 a0_2, .string a0_3, .string a0_4, .bool a0_5, .slice A0_6 l0_6.length c0_6, .slice A0_7 l0_7.length c0_7, .int .i64 a0_8, .int .i64 a0_9, .int .i64 a0_10, .int .i64 a0_11, .int .i64 a0_12, .slice A0_13 l0_13.length c0_13, .slice A0_14 l0_14.length c0_14]] w fun e w' => e = .returned (.bool r) ∧ Below w.heap.size w w' := by
 have hu60 := Try.underlying60
 have hu56 := Try.underlying56
 have HR0_6 := Aside0.mk hr0_6
 have HC0_6 := Aside0.mk hc0_6
 clear hr0_6 hc0_6
 have HR0_7 := Aside0.mk hr0_7
 have HC0_7 := Aside0.mk hc0_7
 clear hr0_7 hc0_7
 have HR0_13 := Aside0.mk hr0_13
 have HC0_13 := Aside0.mk hc0_13
 clear hr0_13 hc0_13
 have HR0_14 := Aside0.mk hr0_14
 have HC0_14 := Aside0.mk hc0_14
 clear hr0_14 hc0_14
 have HB := Aside0.mk (Below.refl w.heap.size w)
 have H : ((haberdashref10_Name.f k a0_0).bind fun t518 => (if t518 = true then (if a0_1 < 1 then (haberdashref10_Promo.j0 k true a0_0 a0_1 a0_2 a0_3 a0_4 a0_5 l0_6 l0_7 a0_8 a0_9 a0_10 a0_11 a0_12 l0_13 l0_14) else (if a0_1 > 7 then (haberdashref10_Promo.j0 k true a0_0 a0_1 a0_2 a0_3 a0_4 a0_5 l0_6 l0_7 a0_8 a0_9 a0_10 a0_11 a0_12 l0_13 l0_14) else (if a0_2 < 0 then (haberdashref10_Promo.j0 k true a0_0 a0_1 a0_2 a0_3 a0_4 a0_5 l0_6 l0_7 a0_8 a0_9 a0_10 a0_11 a0_12 l0_13 l0_14) else (if a0_2 > 1000 then (haberdashref10_Promo.j0 k true a0_0 a0_1 a0_2 a0_3 a0_4 a0_5 l0_6 l0_7 a0_8 a0_9 a0_10 a0_11 a0_12 l0_13 l0_14) else (if a0_3.toList = ([] : List UInt8) then (if a0_4.toList = ([] : List UInt8) then ((haberdashref10_Scope.f k l0_6 l0_7).bind fun t519 => (if t519 = true then ((haberdashref10_in.f a0_8 10000000000000).bind fun t520 => (haberdashref10_Promo.j0 k (!t520) a0_0 a0_1 a0_2 a0_3 a0_4 a0_5 l0_6 l0_7 a0_8 a0_9 a0_10 a0_11 a0_12 l0_13 l0_14)) else (haberdashref10_Promo.j0 k true a0_0 a0_1 a0_2 a0_3 a0_4 a0_5 l0_6 l0_7 a0_8 a0_9 a0_10 a0_11 a0_12 l0_13 l0_14))) else ((haberdashref10_Name.f k a0_4).bind fun t521 => (if t521 = true then ((haberdashref10_Scope.f k l0_6 l0_7).bind fun t522 => (if t522 = true then ((haberdashref10_in.f a0_8 10000000000000).bind fun t523 => (haberdashref10_Promo.j0 k (!t523) a0_0 a0_1 a0_2 a0_3 a0_4 a0_5 l0_6 l0_7 a0_8 a0_9 a0_10 a0_11 a0_12 l0_13 l0_14)) else (haberdashref10_Promo.j0 k true a0_0 a0_1 a0_2 a0_3 a0_4 a0_5 l0_6 l0_7 a0_8 a0_9 a0_10 a0_11 a0_12 l0_13 l0_14))) else (haberdashref10_Promo.j0 k true a0_0 a0_1 a0_2 a0_3 a0_4 a0_5 l0_6 l0_7 a0_8 a0_9 a0_10 a0_11 a0_12 l0_13 l0_14)))) else ((haberdashref10_Name.f k a0_3).bind fun t524 => (if t524 = true then (if a0_4.toList = ([] : List UInt8) then ((haberdashref10_Scope.f k l0_6 l0_7).bind fun t525 => (if t525 = true then ((haberdashref10_in.f a0_8 10000000000000).bind fun t526 => (haberdashref10_Promo.j0 k (!t526) a0_0 a0_1 a0_2 a0_3 a0_4 a0_5 l0_6 l0_7 a0_8 a0_9 a0_10 a0_11 a0_12 l0_13 l0_14)) else (haberdashref10_Promo.j0 k true a0_0 a0_1 a0_2 a0_3 a0_4 a0_5 l0_6 l0_7 a0_8 a0_9 a0_10 a0_11 a0_12 l0_13 l0_14))) else ((haberdashref10_Name.f k a0_4).bind fun t527 => (if t527 = true then ((haberdashref10_Scope.f k l0_6 l0_7).bind fun t528 => (if t528 = true then ((haberdashref10_in.f a0_8 10000000000000).bind fun t529 => (haberdashref10_Promo.j0 k (!t529) a0_0 a0_1 a0_2 a0_3 a0_4 a0_5 l0_6 l0_7 a0_8 a0_9 a0_10 a0_11 a0_12 l0_13 l0_14)) else (haberdashref10_Promo.j0 k true a0_0 a0_1 a0_2 a0_3 a0_4 a0_5 l0_6 l0_7 a0_8 a0_9 a0_10 a0_11 a0_12 l0_13 l0_14))) else (haberdashref10_Promo.j0 k true a0_0 a0_1 a0_2 a0_3 a0_4 a0_5 l0_6 l0_7 a0_8 a0_9 a0_10 a0_11 a0_12 l0_13 l0_14)))) else (haberdashref10_Promo.j0 k true a0_0 a0_1 a0_2 a0_3 a0_4 a0_5 l0_6 l0_7 a0_8 a0_9 a0_10 a0_11 a0_12 l0_13 l0_14)))))))) else (haberdashref10_Promo.j0 k true a0_0 a0_1 a0_2 a0_3 a0_4 a0_5 l0_6 l0_7 a0_8 a0_9 a0_10 a0_11 a0_12 l0_13 l0_14))) = some r := h
 clear h
 have HC2 := Aside0.mk H
 clear H
 go_enter Try.func31, Try.ntmps31
 go_upto_region 1 with (first | ((with_reducible refine gate_dst (N := 1) rfl ?_); (try (refine gate_guard (by rfl) ?_; dsimp only)); refine box_event rf_ (N := 1) rf_ (cs := #[.string a0_0, .int .i64 a0_1, .int .i64 a0_2, .string a0_3, .string a0_4, .bool a0_5, .slice A0_6 l0_6.length c0_6, .slice A0_7 l0_7.length c0_7, .int .i64 a0_8, .int .i64 a0_9, .int .i64 a0_10, .int .i64 a0_11, .int .i64 a0_12, .slice A0_13 l0_13.length c0_13, .slice A0_14 l0_14.length c0_14]) (t := 60) lr_ ?_; intro gb517 hg w3 hbox hb; have BK517 := Aside0.mk hbox; have GE517 := Aside0.mk (ge_ HB hg (hb0_ HB)); replace HB := Aside0.mk (below_step (hb0_ HB) hb); clear hb hbox hg))
 repeat (go_quiet (first | ((with_reducible refine gate_dst (N := 1) rfl ?_); (try (refine gate_guard (by rfl) ?_; dsimp only)); refine box_event rf_ (N := 1) rf_ (cs := #[.string a0_0, .int .i64 a0_1, .int .i64 a0_2, .string a0_3, .string a0_4, .bool a0_5, .slice A0_6 l0_6.length c0_6, .slice A0_7 l0_7.length c0_7, .int .i64 a0_8, .int .i64 a0_9, .int .i64 a0_10, .int .i64 a0_11, .int .i64 a0_12, .slice A0_13 l0_13.length c0_13, .slice A0_14 l0_14.length c0_14]) (t := 60) lr_ ?_; intro gb517 hg w3 hbox hb; have BK517 := Aside0.mk hbox; have GE517 := Aside0.mk (ge_ HB hg (hb0_ HB)); replace HB := Aside0.mk (below_step (hb0_ HB) hb); clear hb hbox hg)); go_upto_region 1 with (first | ((with_reducible refine gate_dst (N := 1) rfl ?_); (try (refine gate_guard (by rfl) ?_; dsimp only)); refine box_event rf_ (N := 1) rf_ (cs := #[.string a0_0, .int .i64 a0_1, .int .i64 a0_2, .string a0_3, .string a0_4, .bool a0_5, .slice A0_6 l0_6.length c0_6, .slice A0_7 l0_7.length c0_7, .int .i64 a0_8, .int .i64 a0_9, .int .i64 a0_10, .int .i64 a0_11, .int .i64 a0_12, .slice A0_13 l0_13.length c0_13, .slice A0_14 l0_14.length c0_14]) (t := 60) lr_ ?_; intro gb517 hg w3 hbox hb; have BK517 := Aside0.mk hbox; have GE517 := Aside0.mk (ge_ HB hg (hb0_ HB)); replace HB := Aside0.mk (below_step (hb0_ HB) hb); clear hb hbox hg)))
 (try simp only [Act.put, List.setIfInBounds_toArray, List.set_cons_zero, List.set_cons_succ])
 go_cut [67] (fun v67 wc => ∃ (kq : Nat) (x67_1 : Bool), v67 = .bool x67_1 ∧ Aside0 (haberdashref10_Promo.j0 kq x67_1 a0_0 a0_1 a0_2 a0_3 a0_4 a0_5 l0_6 l0_7 a0_8 a0_9 a0_10 a0_11 a0_12 l0_13 l0_14 = some r) ∧ Aside0 (kq ≤ k) ∧ Aside0 (wc.heap[gb517]? = some (.cells #[.string a0_0, .int .i64 a0_1, .int .i64 a0_2, .string a0_3, .string a0_4, .bool a0_5, (.slice A0_6 l0_6.length c0_6), (.slice A0_7 l0_7.length c0_7), .int .i64 a0_8, .int .i64 a0_9, .int .i64 a0_10, .int .i64 a0_11, .int .i64 a0_12, (.slice A0_13 l0_13.length c0_13), (.slice A0_14 l0_14.length c0_14)] 60 (0, 0))) ∧ Aside0 (Below w.heap.size w wc))
 case first => as_aux_lemma =>
  have H := HC2.out; clear HC2; replace H := Option.bind_eq_some_iff.mp H; obtain ⟨t518, A40, H⟩ := H
  (try dsimp only at H)
  have A4 := Aside0.mk A40; clear A40
  by_cases c5 : t518 = true
  rotate_left
  ·
   replace c5 := Bool.eq_false_iff.mpr c5; subst c5; rw [if_neg nf_] at H; have H' := Aside0.mk H; clear H; obtain ⟨hcz58_0, hcz58_1, hcz58_2, hcz58_3, hcz58_4, hcz58_5, hcz58_6, hcz58_7, hcz58_8, hcz58_9, hcz58_10, hcz58_11, hcz58_12, hcz58_13, hcz58_14⟩ := cz15_ BK517; obtain ⟨hfz58_0, hfz58_1, hfz58_2, hfz58_3, hfz58_4, hfz58_5, hfz58_6, hfz58_7, hfz58_8, hfz58_9, hfz58_10, hfz58_11, hfz58_12, hfz58_13, hfz58_14⟩ := fz15_ BK517
   go_wp2_with (first | (go_at_call 56; (with_reducible refine (haberdashref10_Name.calls k a0_0 false _ A4.out).mono ?_); rintro e w' ⟨rfl, ⟨nd, rfl⟩⟩; (try exact dq_)))
   repeat (go_quiet (first | (go_at_call 56; (with_reducible refine (haberdashref10_Name.calls k a0_0 false _ A4.out).mono ?_); rintro e w' ⟨rfl, ⟨nd, rfl⟩⟩; (try exact dq_))); try go_wp2_with (first | (go_at_call 56; (with_reducible refine (haberdashref10_Name.calls k a0_0 false _ A4.out).mono ?_); rintro e w' ⟨rfl, ⟨nd, rfl⟩⟩; (try exact dq_))))
   go_meet
   case rel => exact ⟨_, (true), rf_, H', ⟨om_⟩, ⟨bk_ BK517⟩, ⟨hb1_ HB GE517⟩⟩
  subst c5; rw [if_pos rfl] at H
  by_cases c6 : a0_1 < 1
  ·
   rw [if_pos c6] at H; have c6b0 := decide_eq_true c6; clear c6
   (first | rw [c6b0] | (simp only [i64_w, i32_w]; rw [c6b0]) | skip)
   have H' := Aside0.mk H; clear H; obtain ⟨hcz7_0, hcz7_1, hcz7_2, hcz7_3, hcz7_4, hcz7_5, hcz7_6, hcz7_7, hcz7_8, hcz7_9, hcz7_10, hcz7_11, hcz7_12, hcz7_13, hcz7_14⟩ := cz15_ BK517; obtain ⟨hfz7_0, hfz7_1, hfz7_2, hfz7_3, hfz7_4, hfz7_5, hfz7_6, hfz7_7, hfz7_8, hfz7_9, hfz7_10, hfz7_11, hfz7_12, hfz7_13, hfz7_14⟩ := fz15_ BK517
   go_wp2_with (first | (go_at_call 56; (with_reducible refine (haberdashref10_Name.calls k a0_0 true _ A4.out).mono ?_); rintro e w' ⟨rfl, ⟨nd, rfl⟩⟩; (try exact dq_)))
   repeat (go_quiet (first | (go_at_call 56; (with_reducible refine (haberdashref10_Name.calls k a0_0 true _ A4.out).mono ?_); rintro e w' ⟨rfl, ⟨nd, rfl⟩⟩; (try exact dq_))); try go_wp2_with (first | (go_at_call 56; (with_reducible refine (haberdashref10_Name.calls k a0_0 true _ A4.out).mono ?_); rintro e w' ⟨rfl, ⟨nd, rfl⟩⟩; (try exact dq_))))
   go_meet
   case rel => exact ⟨_, (true), rf_, H', ⟨om_⟩, ⟨bk_ BK517⟩, ⟨hb1_ HB GE517⟩⟩
  rw [if_neg c6] at H; have c6b0 := decide_eq_false c6; clear c6
  (first | rw [c6b0] | (simp only [i64_w, i32_w]; rw [c6b0]) | skip)
  by_cases c8 : a0_1 > 7
  ·
   rw [if_pos c8] at H; have c8b0 := decide_eq_true c8; clear c8; have H' := Aside0.mk H; clear H; obtain ⟨hcz9_0, hcz9_1, hcz9_2, hcz9_3, hcz9_4, hcz9_5, hcz9_6, hcz9_7, hcz9_8, hcz9_9, hcz9_10, hcz9_11, hcz9_12, hcz9_13, hcz9_14⟩ := cz15_ BK517; obtain ⟨hfz9_0, hfz9_1, hfz9_2, hfz9_3, hfz9_4, hfz9_5, hfz9_6, hfz9_7, hfz9_8, hfz9_9, hfz9_10, hfz9_11, hfz9_12, hfz9_13, hfz9_14⟩ := fz15_ BK517
   go_wp2_with (first | (go_at_call 56; (with_reducible refine (haberdashref10_Name.calls k a0_0 true _ A4.out).mono ?_); rintro e w' ⟨rfl, ⟨nd, rfl⟩⟩; (try exact dq_)))
   repeat (go_quiet (first | (go_at_call 56; (with_reducible refine (haberdashref10_Name.calls k a0_0 true _ A4.out).mono ?_); rintro e w' ⟨rfl, ⟨nd, rfl⟩⟩; (try exact dq_))); try go_wp2_with (first | (go_at_call 56; (with_reducible refine (haberdashref10_Name.calls k a0_0 true _ A4.out).mono ?_); rintro e w' ⟨rfl, ⟨nd, rfl⟩⟩; (try exact dq_))))
   go_meet
   case rel => exact ⟨_, (true), rf_, H', ⟨om_⟩, ⟨bk_ BK517⟩, ⟨hb1_ HB GE517⟩⟩
  rw [if_neg c8] at H; have c8b0 := decide_eq_false c8; clear c8
  by_cases c10 : a0_2 < 0
  ·
   rw [if_pos c10] at H; have c10b0 := decide_eq_true c10; clear c10; have H' := Aside0.mk H; clear H; obtain ⟨hcz11_0, hcz11_1, hcz11_2, hcz11_3, hcz11_4, hcz11_5, hcz11_6, hcz11_7, hcz11_8, hcz11_9, hcz11_10, hcz11_11, hcz11_12, hcz11_13, hcz11_14⟩ := cz15_ BK517; obtain ⟨hfz11_0, hfz11_1, hfz11_2, hfz11_3, hfz11_4, hfz11_5, hfz11_6, hfz11_7, hfz11_8, hfz11_9, hfz11_10, hfz11_11, hfz11_12, hfz11_13, hfz11_14⟩ := fz15_ BK517
   go_wp2_with (first | (go_at_call 56; (with_reducible refine (haberdashref10_Name.calls k a0_0 true _ A4.out).mono ?_); rintro e w' ⟨rfl, ⟨nd, rfl⟩⟩; (try exact dq_)))
   repeat (go_quiet (first | (go_at_call 56; (with_reducible refine (haberdashref10_Name.calls k a0_0 true _ A4.out).mono ?_); rintro e w' ⟨rfl, ⟨nd, rfl⟩⟩; (try exact dq_))); try go_wp2_with (first | (go_at_call 56; (with_reducible refine (haberdashref10_Name.calls k a0_0 true _ A4.out).mono ?_); rintro e w' ⟨rfl, ⟨nd, rfl⟩⟩; (try exact dq_))))
   go_meet
   case rel => exact ⟨_, (true), rf_, H', ⟨om_⟩, ⟨bk_ BK517⟩, ⟨hb1_ HB GE517⟩⟩
  rw [if_neg c10] at H; have c10b0 := decide_eq_false c10; clear c10
  by_cases c12 : a0_2 > 1000
  ·
   rw [if_pos c12] at H; have c12b0 := decide_eq_true c12; clear c12; have H' := Aside0.mk H; clear H; obtain ⟨hcz13_0, hcz13_1, hcz13_2, hcz13_3, hcz13_4, hcz13_5, hcz13_6, hcz13_7, hcz13_8, hcz13_9, hcz13_10, hcz13_11, hcz13_12, hcz13_13, hcz13_14⟩ := cz15_ BK517; obtain ⟨hfz13_0, hfz13_1, hfz13_2, hfz13_3, hfz13_4, hfz13_5, hfz13_6, hfz13_7, hfz13_8, hfz13_9, hfz13_10, hfz13_11, hfz13_12, hfz13_13, hfz13_14⟩ := fz15_ BK517
   go_wp2_with (first | (go_at_call 56; (with_reducible refine (haberdashref10_Name.calls k a0_0 true _ A4.out).mono ?_); rintro e w' ⟨rfl, ⟨nd, rfl⟩⟩; (try exact dq_)))
   repeat (go_quiet (first | (go_at_call 56; (with_reducible refine (haberdashref10_Name.calls k a0_0 true _ A4.out).mono ?_); rintro e w' ⟨rfl, ⟨nd, rfl⟩⟩; (try exact dq_))); try go_wp2_with (first | (go_at_call 56; (with_reducible refine (haberdashref10_Name.calls k a0_0 true _ A4.out).mono ?_); rintro e w' ⟨rfl, ⟨nd, rfl⟩⟩; (try exact dq_))))
   go_meet
   case rel => exact ⟨_, (true), rf_, H', ⟨om_⟩, ⟨bk_ BK517⟩, ⟨hb1_ HB GE517⟩⟩
  rw [if_neg c12] at H; have c12b0 := decide_eq_false c12; clear c12
  by_cases c14 : a0_3.toList = ([] : List UInt8)
  ·
   rw [if_pos c14] at H; have c14b0 : (a0_3.toList == ([] : List UInt8)) = true := beq_iff_eq.mpr c14; have c14b1 : (a0_3.toList != ([] : List UInt8)) = false := bne_eq_false_iff_eq.mpr c14; clear c14
   by_cases c15 : a0_4.toList = ([] : List UInt8)
   ·
    rw [if_pos c15] at H; have c15b0 : (a0_4.toList == ([] : List UInt8)) = true := beq_iff_eq.mpr c15; have c15b1 : (a0_4.toList != ([] : List UInt8)) = false := bne_eq_false_iff_eq.mpr c15; clear c15; replace H := Option.bind_eq_some_iff.mp H; obtain ⟨t519, A160, H⟩ := H
    (try dsimp only at H)
    have A16 := Aside0.mk A160; clear A160
    by_cases c17 : t519 = true
    rotate_left
    ·
     replace c17 := Bool.eq_false_iff.mpr c17; subst c17; rw [if_neg nf_] at H; have H' := Aside0.mk H; clear H; obtain ⟨hcz22_0, hcz22_1, hcz22_2, hcz22_3, hcz22_4, hcz22_5, hcz22_6, hcz22_7, hcz22_8, hcz22_9, hcz22_10, hcz22_11, hcz22_12, hcz22_13, hcz22_14⟩ := cz15_ BK517; obtain ⟨hfz22_0, hfz22_1, hfz22_2, hfz22_3, hfz22_4, hfz22_5, hfz22_6, hfz22_7, hfz22_8, hfz22_9, hfz22_10, hfz22_11, hfz22_12, hfz22_13, hfz22_14⟩ := fz15_ BK517
     go_wp2_with (first | (go_at_call 56; (with_reducible refine (haberdashref10_Name.calls k a0_0 true _ A4.out).mono ?_); rintro e w' ⟨rfl, ⟨nd, rfl⟩⟩; (try exact dq_)) | (go_at_call 72; (with_reducible refine (haberdashref10_Scope.calls k _ _ l0_6 _ _ l0_7 false _ ?side1 ?side2 ?side3 ?side4 A16.out).mono ?_); (case side1 => exact (Kd.C_below HR0_6.out (hb1_ HB GE517))); (case side2 => exact HC0_6.out); (case side3 => exact (Kd.C_below HR0_7.out (hb1_ HB GE517))); (case side4 => exact HC0_7.out); rintro e w23 ⟨rfl, hb⟩; replace BK517 := Aside0.mk (bb_ BK517 hb); replace HB := Aside0.mk (below_step (hb1_ HB GE517) hb); (try clear hb)))
     repeat (go_quiet (first | (go_at_call 56; (with_reducible refine (haberdashref10_Name.calls k a0_0 true _ A4.out).mono ?_); rintro e w' ⟨rfl, ⟨nd, rfl⟩⟩; (try exact dq_)) | (go_at_call 72; (with_reducible refine (haberdashref10_Scope.calls k _ _ l0_6 _ _ l0_7 false _ ?side1 ?side2 ?side3 ?side4 A16.out).mono ?_); (case side1 => exact (Kd.C_below HR0_6.out (hb1_ HB GE517))); (case side2 => exact HC0_6.out); (case side3 => exact (Kd.C_below HR0_7.out (hb1_ HB GE517))); (case side4 => exact HC0_7.out); rintro e w23 ⟨rfl, hb⟩; replace BK517 := Aside0.mk (bb_ BK517 hb); replace HB := Aside0.mk (below_step (hb1_ HB GE517) hb); (try clear hb))); try go_wp2_with (first | (go_at_call 56; (with_reducible refine (haberdashref10_Name.calls k a0_0 true _ A4.out).mono ?_); rintro e w' ⟨rfl, ⟨nd, rfl⟩⟩; (try exact dq_)) | (go_at_call 72; (with_reducible refine (haberdashref10_Scope.calls k _ _ l0_6 _ _ l0_7 false _ ?side1 ?side2 ?side3 ?side4 A16.out).mono ?_); (case side1 => exact (Kd.C_below HR0_6.out (hb1_ HB GE517))); (case side2 => exact HC0_6.out); (case side3 => exact (Kd.C_below HR0_7.out (hb1_ HB GE517))); (case side4 => exact HC0_7.out); rintro e w23 ⟨rfl, hb⟩; replace BK517 := Aside0.mk (bb_ BK517 hb); replace HB := Aside0.mk (below_step (hb1_ HB GE517) hb); (try clear hb))))
     go_meet
     case rel => exact ⟨_, (true), rf_, H', ⟨om_⟩, ⟨bk_ BK517⟩, ⟨hb1_ HB GE517⟩⟩
    subst c17; rw [if_pos rfl] at H; replace H := Option.bind_eq_some_iff.mp H; obtain ⟨t520, A180, H⟩ := H
    (try dsimp only at H)
    have A18 := Aside0.mk A180; clear A180; have H' := Aside0.mk H; clear H; obtain ⟨hcz19_0, hcz19_1, hcz19_2, hcz19_3, hcz19_4, hcz19_5, hcz19_6, hcz19_7, hcz19_8, hcz19_9, hcz19_10, hcz19_11, hcz19_12, hcz19_13, hcz19_14⟩ := cz15_ BK517; obtain ⟨hfz19_0, hfz19_1, hfz19_2, hfz19_3, hfz19_4, hfz19_5, hfz19_6, hfz19_7, hfz19_8, hfz19_9, hfz19_10, hfz19_11, hfz19_12, hfz19_13, hfz19_14⟩ := fz15_ BK517
    go_wp2_with (first | (go_at_call 56; (with_reducible refine (haberdashref10_Name.calls k a0_0 true _ A4.out).mono ?_); rintro e w' ⟨rfl, ⟨nd, rfl⟩⟩; (try exact dq_)) | (go_at_call 72; (with_reducible refine (haberdashref10_Scope.calls k _ _ l0_6 _ _ l0_7 true _ ?side1 ?side2 ?side3 ?side4 A16.out).mono ?_); (case side1 => exact (Kd.C_below HR0_6.out (hb1_ HB GE517))); (case side2 => exact HC0_6.out); (case side3 => exact (Kd.C_below HR0_7.out (hb1_ HB GE517))); (case side4 => exact HC0_7.out); rintro e w20 ⟨rfl, hb⟩; replace BK517 := Aside0.mk (bb_ BK517 hb); replace HB := Aside0.mk (below_step (hb1_ HB GE517) hb); (try clear hb); obtain ⟨hcz21_0, hcz21_1, hcz21_2, hcz21_3, hcz21_4, hcz21_5, hcz21_6, hcz21_7, hcz21_8, hcz21_9, hcz21_10, hcz21_11, hcz21_12, hcz21_13, hcz21_14⟩ := cz15_ BK517; obtain ⟨hfz21_0, hfz21_1, hfz21_2, hfz21_3, hfz21_4, hfz21_5, hfz21_6, hfz21_7, hfz21_8, hfz21_9, hfz21_10, hfz21_11, hfz21_12, hfz21_13, hfz21_14⟩ := fz15_ BK517) | (go_at_call 52; (with_reducible refine (haberdashref10_in.calls a0_8 10000000000000 t520 _ A18.out).mono ?_); rintro e w' ⟨rfl, ⟨nd, rfl⟩⟩; (try exact dq_)))
    repeat (go_quiet (first | (go_at_call 56; (with_reducible refine (haberdashref10_Name.calls k a0_0 true _ A4.out).mono ?_); rintro e w' ⟨rfl, ⟨nd, rfl⟩⟩; (try exact dq_)) | (go_at_call 72; (with_reducible refine (haberdashref10_Scope.calls k _ _ l0_6 _ _ l0_7 true _ ?side1 ?side2 ?side3 ?side4 A16.out).mono ?_); (case side1 => exact (Kd.C_below HR0_6.out (hb1_ HB GE517))); (case side2 => exact HC0_6.out); (case side3 => exact (Kd.C_below HR0_7.out (hb1_ HB GE517))); (case side4 => exact HC0_7.out); rintro e w20 ⟨rfl, hb⟩; replace BK517 := Aside0.mk (bb_ BK517 hb); replace HB := Aside0.mk (below_step (hb1_ HB GE517) hb); (try clear hb); obtain ⟨hcz21_0, hcz21_1, hcz21_2, hcz21_3, hcz21_4, hcz21_5, hcz21_6, hcz21_7, hcz21_8, hcz21_9, hcz21_10, hcz21_11, hcz21_12, hcz21_13, hcz21_14⟩ := cz15_ BK517; obtain ⟨hfz21_0, hfz21_1, hfz21_2, hfz21_3, hfz21_4, hfz21_5, hfz21_6, hfz21_7, hfz21_8, hfz21_9, hfz21_10, hfz21_11, hfz21_12, hfz21_13, hfz21_14⟩ := fz15_ BK517) | (go_at_call 52; (with_reducible refine (haberdashref10_in.calls a0_8 10000000000000 t520 _ A18.out).mono ?_); rintro e w' ⟨rfl, ⟨nd, rfl⟩⟩; (try exact dq_))); try go_wp2_with (first | (go_at_call 56; (with_reducible refine (haberdashref10_Name.calls k a0_0 true _ A4.out).mono ?_); rintro e w' ⟨rfl, ⟨nd, rfl⟩⟩; (try exact dq_)) | (go_at_call 72; (with_reducible refine (haberdashref10_Scope.calls k _ _ l0_6 _ _ l0_7 true _ ?side1 ?side2 ?side3 ?side4 A16.out).mono ?_); (case side1 => exact (Kd.C_below HR0_6.out (hb1_ HB GE517))); (case side2 => exact HC0_6.out); (case side3 => exact (Kd.C_below HR0_7.out (hb1_ HB GE517))); (case side4 => exact HC0_7.out); rintro e w20 ⟨rfl, hb⟩; replace BK517 := Aside0.mk (bb_ BK517 hb); replace HB := Aside0.mk (below_step (hb1_ HB GE517) hb); (try clear hb); obtain ⟨hcz21_0, hcz21_1, hcz21_2, hcz21_3, hcz21_4, hcz21_5, hcz21_6, hcz21_7, hcz21_8, hcz21_9, hcz21_10, hcz21_11, hcz21_12, hcz21_13, hcz21_14⟩ := cz15_ BK517; obtain ⟨hfz21_0, hfz21_1, hfz21_2, hfz21_3, hfz21_4, hfz21_5, hfz21_6, hfz21_7, hfz21_8, hfz21_9, hfz21_10, hfz21_11, hfz21_12, hfz21_13, hfz21_14⟩ := fz15_ BK517) | (go_at_call 52; (with_reducible refine (haberdashref10_in.calls a0_8 10000000000000 t520 _ A18.out).mono ?_); rintro e w' ⟨rfl, ⟨nd, rfl⟩⟩; (try exact dq_))))
    go_meet
    case rel => exact ⟨_, (!t520), rf_, H', ⟨om_⟩, ⟨bk_ BK517⟩, ⟨hb1_ HB GE517⟩⟩
   rw [if_neg c15] at H; have c15b0 : (a0_4.toList == ([] : List UInt8)) = false := beq_eq_false_iff_ne.mpr c15; have c15b1 : (a0_4.toList != ([] : List UInt8)) = true := bne_iff_ne.mpr c15; replace H := Option.bind_eq_some_iff.mp H; obtain ⟨t521, A240, H⟩ := H
   (try dsimp only at H)
   have A24 := Aside0.mk A240; clear A240
   by_cases c25 : t521 = true
   rotate_left
   ·
    replace c25 := Bool.eq_false_iff.mpr c25; subst c25; rw [if_neg nf_] at H; have H' := Aside0.mk H; clear H; obtain ⟨hcz34_0, hcz34_1, hcz34_2, hcz34_3, hcz34_4, hcz34_5, hcz34_6, hcz34_7, hcz34_8, hcz34_9, hcz34_10, hcz34_11, hcz34_12, hcz34_13, hcz34_14⟩ := cz15_ BK517; obtain ⟨hfz34_0, hfz34_1, hfz34_2, hfz34_3, hfz34_4, hfz34_5, hfz34_6, hfz34_7, hfz34_8, hfz34_9, hfz34_10, hfz34_11, hfz34_12, hfz34_13, hfz34_14⟩ := fz15_ BK517
    go_wp2_with (first | (go_at_call 56; (with_reducible refine (haberdashref10_Name.calls k a0_0 true _ A4.out).mono ?_); rintro e w' ⟨rfl, ⟨nd, rfl⟩⟩; (try exact dq_)) | (go_at_call 56; (with_reducible refine (haberdashref10_Name.calls k a0_4 false _ A24.out).mono ?_); rintro e w' ⟨rfl, ⟨nd, rfl⟩⟩; (try exact dq_)))
    repeat (go_quiet (first | (go_at_call 56; (with_reducible refine (haberdashref10_Name.calls k a0_0 true _ A4.out).mono ?_); rintro e w' ⟨rfl, ⟨nd, rfl⟩⟩; (try exact dq_)) | (go_at_call 56; (with_reducible refine (haberdashref10_Name.calls k a0_4 false _ A24.out).mono ?_); rintro e w' ⟨rfl, ⟨nd, rfl⟩⟩; (try exact dq_))); try go_wp2_with (first | (go_at_call 56; (with_reducible refine (haberdashref10_Name.calls k a0_0 true _ A4.out).mono ?_); rintro e w' ⟨rfl, ⟨nd, rfl⟩⟩; (try exact dq_)) | (go_at_call 56; (with_reducible refine (haberdashref10_Name.calls k a0_4 false _ A24.out).mono ?_); rintro e w' ⟨rfl, ⟨nd, rfl⟩⟩; (try exact dq_))))
    go_meet
    case rel => exact ⟨_, (true), rf_, H', ⟨om_⟩, ⟨bk_ BK517⟩, ⟨hb1_ HB GE517⟩⟩
   subst c25; rw [if_pos rfl] at H; replace H := Option.bind_eq_some_iff.mp H; obtain ⟨t522, A260, H⟩ := H
   (try dsimp only at H)
   have A26 := Aside0.mk A260; clear A260
   by_cases c27 : t522 = true
   rotate_left
   ·
    replace c27 := Bool.eq_false_iff.mpr c27; subst c27; rw [if_neg nf_] at H; have H' := Aside0.mk H; clear H; obtain ⟨hcz32_0, hcz32_1, hcz32_2, hcz32_3, hcz32_4, hcz32_5, hcz32_6, hcz32_7, hcz32_8, hcz32_9, hcz32_10, hcz32_11, hcz32_12, hcz32_13, hcz32_14⟩ := cz15_ BK517; obtain ⟨hfz32_0, hfz32_1, hfz32_2, hfz32_3, hfz32_4, hfz32_5, hfz32_6, hfz32_7, hfz32_8, hfz32_9, hfz32_10, hfz32_11, hfz32_12, hfz32_13, hfz32_14⟩ := fz15_ BK517
    go_wp2_with (first | (go_at_call 56; (with_reducible refine (haberdashref10_Name.calls k a0_0 true _ A4.out).mono ?_); rintro e w' ⟨rfl, ⟨nd, rfl⟩⟩; (try exact dq_)) | (go_at_call 56; (with_reducible refine (haberdashref10_Name.calls k a0_4 true _ A24.out).mono ?_); rintro e w' ⟨rfl, ⟨nd, rfl⟩⟩; (try exact dq_)) | (go_at_call 72; (with_reducible refine (haberdashref10_Scope.calls k _ _ l0_6 _ _ l0_7 false _ ?side1 ?side2 ?side3 ?side4 A26.out).mono ?_); (case side1 => exact (Kd.C_below HR0_6.out (hb1_ HB GE517))); (case side2 => exact HC0_6.out); (case side3 => exact (Kd.C_below HR0_7.out (hb1_ HB GE517))); (case side4 => exact HC0_7.out); rintro e w33 ⟨rfl, hb⟩; replace BK517 := Aside0.mk (bb_ BK517 hb); replace HB := Aside0.mk (below_step (hb1_ HB GE517) hb); (try clear hb)))
    repeat (go_quiet (first | (go_at_call 56; (with_reducible refine (haberdashref10_Name.calls k a0_0 true _ A4.out).mono ?_); rintro e w' ⟨rfl, ⟨nd, rfl⟩⟩; (try exact dq_)) | (go_at_call 56; (with_reducible refine (haberdashref10_Name.calls k a0_4 true _ A24.out).mono ?_); rintro e w' ⟨rfl, ⟨nd, rfl⟩⟩; (try exact dq_)) | (go_at_call 72; (with_reducible refine (haberdashref10_Scope.calls k _ _ l0_6 _ _ l0_7 false _ ?side1 ?side2 ?side3 ?side4 A26.out).mono ?_); (case side1 => exact (Kd.C_below HR0_6.out (hb1_ HB GE517))); (case side2 => exact HC0_6.out); (case side3 => exact (Kd.C_below HR0_7.out (hb1_ HB GE517))); (case side4 => exact HC0_7.out); rintro e w33 ⟨rfl, hb⟩; replace BK517 := Aside0.mk (bb_ BK517 hb); replace HB := Aside0.mk (below_step (hb1_ HB GE517) hb); (try clear hb))); try go_wp2_with (first | (go_at_call 56; (with_reducible refine (haberdashref10_Name.calls k a0_0 true _ A4.out).mono ?_); rintro e w' ⟨rfl, ⟨nd, rfl⟩⟩; (try exact dq_)) | (go_at_call 56; (with_reducible refine (haberdashref10_Name.calls k a0_4 true _ A24.out).mono ?_); rintro e w' ⟨rfl, ⟨nd, rfl⟩⟩; (try exact dq_)) | (go_at_call 72; (with_reducible refine (haberdashref10_Scope.calls k _ _ l0_6 _ _ l0_7 false _ ?side1 ?side2 ?side3 ?side4 A26.out).mono ?_); (case side1 => exact (Kd.C_below HR0_6.out (hb1_ HB GE517))); (case side2 => exact HC0_6.out); (case side3 => exact (Kd.C_below HR0_7.out (hb1_ HB GE517))); (case side4 => exact HC0_7.out); rintro e w33 ⟨rfl, hb⟩; replace BK517 := Aside0.mk (bb_ BK517 hb); replace HB := Aside0.mk (below_step (hb1_ HB GE517) hb); (try clear hb))))
    go_meet
    case rel => exact ⟨_, (true), rf_, H', ⟨om_⟩, ⟨bk_ BK517⟩, ⟨hb1_ HB GE517⟩⟩
   subst c27; rw [if_pos rfl] at H; replace H := Option.bind_eq_some_iff.mp H; obtain ⟨t523, A280, H⟩ := H
   (try dsimp only at H)
   have A28 := Aside0.mk A280; clear A280; have H' := Aside0.mk H; clear H; obtain ⟨hcz29_0, hcz29_1, hcz29_2, hcz29_3, hcz29_4, hcz29_5, hcz29_6, hcz29_7, hcz29_8, hcz29_9, hcz29_10, hcz29_11, hcz29_12, hcz29_13, hcz29_14⟩ := cz15_ BK517; obtain ⟨hfz29_0, hfz29_1, hfz29_2, hfz29_3, hfz29_4, hfz29_5, hfz29_6, hfz29_7, hfz29_8, hfz29_9, hfz29_10, hfz29_11, hfz29_12, hfz29_13, hfz29_14⟩ := fz15_ BK517
   go_wp2_with (first | (go_at_call 56; (with_reducible refine (haberdashref10_Name.calls k a0_0 true _ A4.out).mono ?_); rintro e w' ⟨rfl, ⟨nd, rfl⟩⟩; (try exact dq_)) | (go_at_call 56; (with_reducible refine (haberdashref10_Name.calls k a0_4 true _ A24.out).mono ?_); rintro e w' ⟨rfl, ⟨nd, rfl⟩⟩; (try exact dq_)) | (go_at_call 72; (with_reducible refine (haberdashref10_Scope.calls k _ _ l0_6 _ _ l0_7 true _ ?side1 ?side2 ?side3 ?side4 A26.out).mono ?_); (case side1 => exact (Kd.C_below HR0_6.out (hb1_ HB GE517))); (case side2 => exact HC0_6.out); (case side3 => exact (Kd.C_below HR0_7.out (hb1_ HB GE517))); (case side4 => exact HC0_7.out); rintro e w30 ⟨rfl, hb⟩; replace BK517 := Aside0.mk (bb_ BK517 hb); replace HB := Aside0.mk (below_step (hb1_ HB GE517) hb); (try clear hb); obtain ⟨hcz31_0, hcz31_1, hcz31_2, hcz31_3, hcz31_4, hcz31_5, hcz31_6, hcz31_7, hcz31_8, hcz31_9, hcz31_10, hcz31_11, hcz31_12, hcz31_13, hcz31_14⟩ := cz15_ BK517; obtain ⟨hfz31_0, hfz31_1, hfz31_2, hfz31_3, hfz31_4, hfz31_5, hfz31_6, hfz31_7, hfz31_8, hfz31_9, hfz31_10, hfz31_11, hfz31_12, hfz31_13, hfz31_14⟩ := fz15_ BK517) | (go_at_call 52; (with_reducible refine (haberdashref10_in.calls a0_8 10000000000000 t523 _ A28.out).mono ?_); rintro e w' ⟨rfl, ⟨nd, rfl⟩⟩; (try exact dq_)))
   repeat (go_quiet (first | (go_at_call 56; (with_reducible refine (haberdashref10_Name.calls k a0_0 true _ A4.out).mono ?_); rintro e w' ⟨rfl, ⟨nd, rfl⟩⟩; (try exact dq_)) | (go_at_call 56; (with_reducible refine (haberdashref10_Name.calls k a0_4 true _ A24.out).mono ?_); rintro e w' ⟨rfl, ⟨nd, rfl⟩⟩; (try exact dq_)) | (go_at_call 72; (with_reducible refine (haberdashref10_Scope.calls k _ _ l0_6 _ _ l0_7 true _ ?side1 ?side2 ?side3 ?side4 A26.out).mono ?_); (case side1 => exact (Kd.C_below HR0_6.out (hb1_ HB GE517))); (case side2 => exact HC0_6.out); (case side3 => exact (Kd.C_below HR0_7.out (hb1_ HB GE517))); (case side4 => exact HC0_7.out); rintro e w30 ⟨rfl, hb⟩; replace BK517 := Aside0.mk (bb_ BK517 hb); replace HB := Aside0.mk (below_step (hb1_ HB GE517) hb); (try clear hb); obtain ⟨hcz31_0, hcz31_1, hcz31_2, hcz31_3, hcz31_4, hcz31_5, hcz31_6, hcz31_7, hcz31_8, hcz31_9, hcz31_10, hcz31_11, hcz31_12, hcz31_13, hcz31_14⟩ := cz15_ BK517; obtain ⟨hfz31_0, hfz31_1, hfz31_2, hfz31_3, hfz31_4, hfz31_5, hfz31_6, hfz31_7, hfz31_8, hfz31_9, hfz31_10, hfz31_11, hfz31_12, hfz31_13, hfz31_14⟩ := fz15_ BK517) | (go_at_call 52; (with_reducible refine (haberdashref10_in.calls a0_8 10000000000000 t523 _ A28.out).mono ?_); rintro e w' ⟨rfl, ⟨nd, rfl⟩⟩; (try exact dq_))); try go_wp2_with (first | (go_at_call 56; (with_reducible refine (haberdashref10_Name.calls k a0_0 true _ A4.out).mono ?_); rintro e w' ⟨rfl, ⟨nd, rfl⟩⟩; (try exact dq_)) | (go_at_call 56; (with_reducible refine (haberdashref10_Name.calls k a0_4 true _ A24.out).mono ?_); rintro e w' ⟨rfl, ⟨nd, rfl⟩⟩; (try exact dq_)) | (go_at_call 72; (with_reducible refine (haberdashref10_Scope.calls k _ _ l0_6 _ _ l0_7 true _ ?side1 ?side2 ?side3 ?side4 A26.out).mono ?_); (case side1 => exact (Kd.C_below HR0_6.out (hb1_ HB GE517))); (case side2 => exact HC0_6.out); (case side3 => exact (Kd.C_below HR0_7.out (hb1_ HB GE517))); (case side4 => exact HC0_7.out); rintro e w30 ⟨rfl, hb⟩; replace BK517 := Aside0.mk (bb_ BK517 hb); replace HB := Aside0.mk (below_step (hb1_ HB GE517) hb); (try clear hb); obtain ⟨hcz31_0, hcz31_1, hcz31_2, hcz31_3, hcz31_4, hcz31_5, hcz31_6, hcz31_7, hcz31_8, hcz31_9, hcz31_10, hcz31_11, hcz31_12, hcz31_13, hcz31_14⟩ := cz15_ BK517; obtain ⟨hfz31_0, hfz31_1, hfz31_2, hfz31_3, hfz31_4, hfz31_5, hfz31_6, hfz31_7, hfz31_8, hfz31_9, hfz31_10, hfz31_11, hfz31_12, hfz31_13, hfz31_14⟩ := fz15_ BK517) | (go_at_call 52; (with_reducible refine (haberdashref10_in.calls a0_8 10000000000000 t523 _ A28.out).mono ?_); rintro e w' ⟨rfl, ⟨nd, rfl⟩⟩; (try exact dq_))))
   go_meet
   case rel => exact ⟨_, (!t523), rf_, H', ⟨om_⟩, ⟨bk_ BK517⟩, ⟨hb1_ HB GE517⟩⟩
  rw [if_neg c14] at H; have c14b0 : (a0_3.toList == ([] : List UInt8)) = false := beq_eq_false_iff_ne.mpr c14; have c14b1 : (a0_3.toList != ([] : List UInt8)) = true := bne_iff_ne.mpr c14; replace H := Option.bind_eq_some_iff.mp H; obtain ⟨t524, A350, H⟩ := H
  (try dsimp only at H)
  have A35 := Aside0.mk A350; clear A350
  by_cases c36 : t524 = true
  rotate_left
  ·
   replace c36 := Bool.eq_false_iff.mpr c36; subst c36; rw [if_neg nf_] at H; have H' := Aside0.mk H; clear H; obtain ⟨hcz57_0, hcz57_1, hcz57_2, hcz57_3, hcz57_4, hcz57_5, hcz57_6, hcz57_7, hcz57_8, hcz57_9, hcz57_10, hcz57_11, hcz57_12, hcz57_13, hcz57_14⟩ := cz15_ BK517; obtain ⟨hfz57_0, hfz57_1, hfz57_2, hfz57_3, hfz57_4, hfz57_5, hfz57_6, hfz57_7, hfz57_8, hfz57_9, hfz57_10, hfz57_11, hfz57_12, hfz57_13, hfz57_14⟩ := fz15_ BK517
   go_wp2_with (first | (go_at_call 56; (with_reducible refine (haberdashref10_Name.calls k a0_0 true _ A4.out).mono ?_); rintro e w' ⟨rfl, ⟨nd, rfl⟩⟩; (try exact dq_)) | (go_at_call 56; (with_reducible refine (haberdashref10_Name.calls k a0_3 false _ A35.out).mono ?_); rintro e w' ⟨rfl, ⟨nd, rfl⟩⟩; (try exact dq_)))
   repeat (go_quiet (first | (go_at_call 56; (with_reducible refine (haberdashref10_Name.calls k a0_0 true _ A4.out).mono ?_); rintro e w' ⟨rfl, ⟨nd, rfl⟩⟩; (try exact dq_)) | (go_at_call 56; (with_reducible refine (haberdashref10_Name.calls k a0_3 false _ A35.out).mono ?_); rintro e w' ⟨rfl, ⟨nd, rfl⟩⟩; (try exact dq_))); try go_wp2_with (first | (go_at_call 56; (with_reducible refine (haberdashref10_Name.calls k a0_0 true _ A4.out).mono ?_); rintro e w' ⟨rfl, ⟨nd, rfl⟩⟩; (try exact dq_)) | (go_at_call 56; (with_reducible refine (haberdashref10_Name.calls k a0_3 false _ A35.out).mono ?_); rintro e w' ⟨rfl, ⟨nd, rfl⟩⟩; (try exact dq_))))
   go_meet
   case rel => exact ⟨_, (true), rf_, H', ⟨om_⟩, ⟨bk_ BK517⟩, ⟨hb1_ HB GE517⟩⟩
  subst c36; rw [if_pos rfl] at H
  by_cases c37 : a0_4.toList = ([] : List UInt8)
  ·
   rw [if_pos c37] at H; have c37b0 : (a0_4.toList == ([] : List UInt8)) = true := beq_iff_eq.mpr c37; have c37b1 : (a0_4.toList != ([] : List UInt8)) = false := bne_eq_false_iff_eq.mpr c37; clear c37; replace H := Option.bind_eq_some_iff.mp H; obtain ⟨t525, A380, H⟩ := H
   (try dsimp only at H)
   have A38 := Aside0.mk A380; clear A380
   by_cases c39 : t525 = true
   rotate_left
   ·
    replace c39 := Bool.eq_false_iff.mpr c39; subst c39; rw [if_neg nf_] at H; have H' := Aside0.mk H; clear H; obtain ⟨hcz44_0, hcz44_1, hcz44_2, hcz44_3, hcz44_4, hcz44_5, hcz44_6, hcz44_7, hcz44_8, hcz44_9, hcz44_10, hcz44_11, hcz44_12, hcz44_13, hcz44_14⟩ := cz15_ BK517; obtain ⟨hfz44_0, hfz44_1, hfz44_2, hfz44_3, hfz44_4, hfz44_5, hfz44_6, hfz44_7, hfz44_8, hfz44_9, hfz44_10, hfz44_11, hfz44_12, hfz44_13, hfz44_14⟩ := fz15_ BK517
    go_wp2_with (first | (go_at_call 56; (with_reducible refine (haberdashref10_Name.calls k a0_0 true _ A4.out).mono ?_); rintro e w' ⟨rfl, ⟨nd, rfl⟩⟩; (try exact dq_)) | (go_at_call 56; (with_reducible refine (haberdashref10_Name.calls k a0_3 true _ A35.out).mono ?_); rintro e w' ⟨rfl, ⟨nd, rfl⟩⟩; (try exact dq_)) | (go_at_call 72; (with_reducible refine (haberdashref10_Scope.calls k _ _ l0_6 _ _ l0_7 false _ ?side1 ?side2 ?side3 ?side4 A38.out).mono ?_); (case side1 => exact (Kd.C_below HR0_6.out (hb1_ HB GE517))); (case side2 => exact HC0_6.out); (case side3 => exact (Kd.C_below HR0_7.out (hb1_ HB GE517))); (case side4 => exact HC0_7.out); rintro e w45 ⟨rfl, hb⟩; replace BK517 := Aside0.mk (bb_ BK517 hb); replace HB := Aside0.mk (below_step (hb1_ HB GE517) hb); (try clear hb)))
    repeat (go_quiet (first | (go_at_call 56; (with_reducible refine (haberdashref10_Name.calls k a0_0 true _ A4.out).mono ?_); rintro e w' ⟨rfl, ⟨nd, rfl⟩⟩; (try exact dq_)) | (go_at_call 56; (with_reducible refine (haberdashref10_Name.calls k a0_3 true _ A35.out).mono ?_); rintro e w' ⟨rfl, ⟨nd, rfl⟩⟩; (try exact dq_)) | (go_at_call 72; (with_reducible refine (haberdashref10_Scope.calls k _ _ l0_6 _ _ l0_7 false _ ?side1 ?side2 ?side3 ?side4 A38.out).mono ?_); (case side1 => exact (Kd.C_below HR0_6.out (hb1_ HB GE517))); (case side2 => exact HC0_6.out); (case side3 => exact (Kd.C_below HR0_7.out (hb1_ HB GE517))); (case side4 => exact HC0_7.out); rintro e w45 ⟨rfl, hb⟩; replace BK517 := Aside0.mk (bb_ BK517 hb); replace HB := Aside0.mk (below_step (hb1_ HB GE517) hb); (try clear hb))); try go_wp2_with (first | (go_at_call 56; (with_reducible refine (haberdashref10_Name.calls k a0_0 true _ A4.out).mono ?_); rintro e w' ⟨rfl, ⟨nd, rfl⟩⟩; (try exact dq_)) | (go_at_call 56; (with_reducible refine (haberdashref10_Name.calls k a0_3 true _ A35.out).mono ?_); rintro e w' ⟨rfl, ⟨nd, rfl⟩⟩; (try exact dq_)) | (go_at_call 72; (with_reducible refine (haberdashref10_Scope.calls k _ _ l0_6 _ _ l0_7 false _ ?side1 ?side2 ?side3 ?side4 A38.out).mono ?_); (case side1 => exact (Kd.C_below HR0_6.out (hb1_ HB GE517))); (case side2 => exact HC0_6.out); (case side3 => exact (Kd.C_below HR0_7.out (hb1_ HB GE517))); (case side4 => exact HC0_7.out); rintro e w45 ⟨rfl, hb⟩; replace BK517 := Aside0.mk (bb_ BK517 hb); replace HB := Aside0.mk (below_step (hb1_ HB GE517) hb); (try clear hb))))
    go_meet
    case rel => exact ⟨_, (true), rf_, H', ⟨om_⟩, ⟨bk_ BK517⟩, ⟨hb1_ HB GE517⟩⟩
   subst c39; rw [if_pos rfl] at H; replace H := Option.bind_eq_some_iff.mp H; obtain ⟨t526, A400, H⟩ := H
   (try dsimp only at H)
   have A40 := Aside0.mk A400; clear A400; have H' := Aside0.mk H; clear H; obtain ⟨hcz41_0, hcz41_1, hcz41_2, hcz41_3, hcz41_4, hcz41_5, hcz41_6, hcz41_7, hcz41_8, hcz41_9, hcz41_10, hcz41_11, hcz41_12, hcz41_13, hcz41_14⟩ := cz15_ BK517; obtain ⟨hfz41_0, hfz41_1, hfz41_2, hfz41_3, hfz41_4, hfz41_5, hfz41_6, hfz41_7, hfz41_8, hfz41_9, hfz41_10, hfz41_11, hfz41_12, hfz41_13, hfz41_14⟩ := fz15_ BK517
   go_wp2_with (first | (go_at_call 56; (with_reducible refine (haberdashref10_Name.calls k a0_0 true _ A4.out).mono ?_); rintro e w' ⟨rfl, ⟨nd, rfl⟩⟩; (try exact dq_)) | (go_at_call 56; (with_reducible refine (haberdashref10_Name.calls k a0_3 true _ A35.out).mono ?_); rintro e w' ⟨rfl, ⟨nd, rfl⟩⟩; (try exact dq_)) | (go_at_call 72; (with_reducible refine (haberdashref10_Scope.calls k _ _ l0_6 _ _ l0_7 true _ ?side1 ?side2 ?side3 ?side4 A38.out).mono ?_); (case side1 => exact (Kd.C_below HR0_6.out (hb1_ HB GE517))); (case side2 => exact HC0_6.out); (case side3 => exact (Kd.C_below HR0_7.out (hb1_ HB GE517))); (case side4 => exact HC0_7.out); rintro e w42 ⟨rfl, hb⟩; replace BK517 := Aside0.mk (bb_ BK517 hb); replace HB := Aside0.mk (below_step (hb1_ HB GE517) hb); (try clear hb); obtain ⟨hcz43_0, hcz43_1, hcz43_2, hcz43_3, hcz43_4, hcz43_5, hcz43_6, hcz43_7, hcz43_8, hcz43_9, hcz43_10, hcz43_11, hcz43_12, hcz43_13, hcz43_14⟩ := cz15_ BK517; obtain ⟨hfz43_0, hfz43_1, hfz43_2, hfz43_3, hfz43_4, hfz43_5, hfz43_6, hfz43_7, hfz43_8, hfz43_9, hfz43_10, hfz43_11, hfz43_12, hfz43_13, hfz43_14⟩ := fz15_ BK517) | (go_at_call 52; (with_reducible refine (haberdashref10_in.calls a0_8 10000000000000 t526 _ A40.out).mono ?_); rintro e w' ⟨rfl, ⟨nd, rfl⟩⟩; (try exact dq_)))
   repeat (go_quiet (first | (go_at_call 56; (with_reducible refine (haberdashref10_Name.calls k a0_0 true _ A4.out).mono ?_); rintro e w' ⟨rfl, ⟨nd, rfl⟩⟩; (try exact dq_)) | (go_at_call 56; (with_reducible refine (haberdashref10_Name.calls k a0_3 true _ A35.out).mono ?_); rintro e w' ⟨rfl, ⟨nd, rfl⟩⟩; (try exact dq_)) | (go_at_call 72; (with_reducible refine (haberdashref10_Scope.calls k _ _ l0_6 _ _ l0_7 true _ ?side1 ?side2 ?side3 ?side4 A38.out).mono ?_); (case side1 => exact (Kd.C_below HR0_6.out (hb1_ HB GE517))); (case side2 => exact HC0_6.out); (case side3 => exact (Kd.C_below HR0_7.out (hb1_ HB GE517))); (case side4 => exact HC0_7.out); rintro e w42 ⟨rfl, hb⟩; replace BK517 := Aside0.mk (bb_ BK517 hb); replace HB := Aside0.mk (below_step (hb1_ HB GE517) hb); (try clear hb); obtain ⟨hcz43_0, hcz43_1, hcz43_2, hcz43_3, hcz43_4, hcz43_5, hcz43_6, hcz43_7, hcz43_8, hcz43_9, hcz43_10, hcz43_11, hcz43_12, hcz43_13, hcz43_14⟩ := cz15_ BK517; obtain ⟨hfz43_0, hfz43_1, hfz43_2, hfz43_3, hfz43_4, hfz43_5, hfz43_6, hfz43_7, hfz43_8, hfz43_9, hfz43_10, hfz43_11, hfz43_12, hfz43_13, hfz43_14⟩ := fz15_ BK517) | (go_at_call 52; (with_reducible refine (haberdashref10_in.calls a0_8 10000000000000 t526 _ A40.out).mono ?_); rintro e w' ⟨rfl, ⟨nd, rfl⟩⟩; (try exact dq_))); try go_wp2_with (first | (go_at_call 56; (with_reducible refine (haberdashref10_Name.calls k a0_0 true _ A4.out).mono ?_); rintro e w' ⟨rfl, ⟨nd, rfl⟩⟩; (try exact dq_)) | (go_at_call 56; (with_reducible refine (haberdashref10_Name.calls k a0_3 true _ A35.out).mono ?_); rintro e w' ⟨rfl, ⟨nd, rfl⟩⟩; (try exact dq_)) | (go_at_call 72; (with_reducible refine (haberdashref10_Scope.calls k _ _ l0_6 _ _ l0_7 true _ ?side1 ?side2 ?side3 ?side4 A38.out).mono ?_); (case side1 => exact (Kd.C_below HR0_6.out (hb1_ HB GE517))); (case side2 => exact HC0_6.out); (case side3 => exact (Kd.C_below HR0_7.out (hb1_ HB GE517))); (case side4 => exact HC0_7.out); rintro e w42 ⟨rfl, hb⟩; replace BK517 := Aside0.mk (bb_ BK517 hb); replace HB := Aside0.mk (below_step (hb1_ HB GE517) hb); (try clear hb); obtain ⟨hcz43_0, hcz43_1, hcz43_2, hcz43_3, hcz43_4, hcz43_5, hcz43_6, hcz43_7, hcz43_8, hcz43_9, hcz43_10, hcz43_11, hcz43_12, hcz43_13, hcz43_14⟩ := cz15_ BK517; obtain ⟨hfz43_0, hfz43_1, hfz43_2, hfz43_3, hfz43_4, hfz43_5, hfz43_6, hfz43_7, hfz43_8, hfz43_9, hfz43_10, hfz43_11, hfz43_12, hfz43_13, hfz43_14⟩ := fz15_ BK517) | (go_at_call 52; (with_reducible refine (haberdashref10_in.calls a0_8 10000000000000 t526 _ A40.out).mono ?_); rintro e w' ⟨rfl, ⟨nd, rfl⟩⟩; (try exact dq_))))
   go_meet
   case rel => exact ⟨_, (!t526), rf_, H', ⟨om_⟩, ⟨bk_ BK517⟩, ⟨hb1_ HB GE517⟩⟩
  rw [if_neg c37] at H; have c37b0 : (a0_4.toList == ([] : List UInt8)) = false := beq_eq_false_iff_ne.mpr c37; have c37b1 : (a0_4.toList != ([] : List UInt8)) = true := bne_iff_ne.mpr c37; replace H := Option.bind_eq_some_iff.mp H; obtain ⟨t527, A460, H⟩ := H
  (try dsimp only at H)
  have A46 := Aside0.mk A460; clear A460
  by_cases c47 : t527 = true
  rotate_left
  ·
   replace c47 := Bool.eq_false_iff.mpr c47; subst c47; rw [if_neg nf_] at H; have H' := Aside0.mk H; clear H; obtain ⟨hcz56_0, hcz56_1, hcz56_2, hcz56_3, hcz56_4, hcz56_5, hcz56_6, hcz56_7, hcz56_8, hcz56_9, hcz56_10, hcz56_11, hcz56_12, hcz56_13, hcz56_14⟩ := cz15_ BK517; obtain ⟨hfz56_0, hfz56_1, hfz56_2, hfz56_3, hfz56_4, hfz56_5, hfz56_6, hfz56_7, hfz56_8, hfz56_9, hfz56_10, hfz56_11, hfz56_12, hfz56_13, hfz56_14⟩ := fz15_ BK517
   go_wp2_with (first | (go_at_call 56; (with_reducible refine (haberdashref10_Name.calls k a0_0 true _ A4.out).mono ?_); rintro e w' ⟨rfl, ⟨nd, rfl⟩⟩; (try exact dq_)) | (go_at_call 56; (with_reducible refine (haberdashref10_Name.calls k a0_3 true _ A35.out).mono ?_); rintro e w' ⟨rfl, ⟨nd, rfl⟩⟩; (try exact dq_)) | (go_at_call 56; (with_reducible refine (haberdashref10_Name.calls k a0_4 false _ A46.out).mono ?_); rintro e w' ⟨rfl, ⟨nd, rfl⟩⟩; (try exact dq_)))
   repeat (go_quiet (first | (go_at_call 56; (with_reducible refine (haberdashref10_Name.calls k a0_0 true _ A4.out).mono ?_); rintro e w' ⟨rfl, ⟨nd, rfl⟩⟩; (try exact dq_)) | (go_at_call 56; (with_reducible refine (haberdashref10_Name.calls k a0_3 true _ A35.out).mono ?_); rintro e w' ⟨rfl, ⟨nd, rfl⟩⟩; (try exact dq_)) | (go_at_call 56; (with_reducible refine (haberdashref10_Name.calls k a0_4 false _ A46.out).mono ?_); rintro e w' ⟨rfl, ⟨nd, rfl⟩⟩; (try exact dq_))); try go_wp2_with (first | (go_at_call 56; (with_reducible refine (haberdashref10_Name.calls k a0_0 true _ A4.out).mono ?_); rintro e w' ⟨rfl, ⟨nd, rfl⟩⟩; (try exact dq_)) | (go_at_call 56; (with_reducible refine (haberdashref10_Name.calls k a0_3 true _ A35.out).mono ?_); rintro e w' ⟨rfl, ⟨nd, rfl⟩⟩; (try exact dq_)) | (go_at_call 56; (with_reducible refine (haberdashref10_Name.calls k a0_4 false _ A46.out).mono ?_); rintro e w' ⟨rfl, ⟨nd, rfl⟩⟩; (try exact dq_))))
   go_meet
   case rel => exact ⟨_, (true), rf_, H', ⟨om_⟩, ⟨bk_ BK517⟩, ⟨hb1_ HB GE517⟩⟩
  subst c47; rw [if_pos rfl] at H; replace H := Option.bind_eq_some_iff.mp H; obtain ⟨t528, A480, H⟩ := H
  (try dsimp only at H)
  have A48 := Aside0.mk A480; clear A480
  by_cases c49 : t528 = true
  rotate_left
  ·
   replace c49 := Bool.eq_false_iff.mpr c49; subst c49; rw [if_neg nf_] at H; have H' := Aside0.mk H; clear H; obtain ⟨hcz54_0, hcz54_1, hcz54_2, hcz54_3, hcz54_4, hcz54_5, hcz54_6, hcz54_7, hcz54_8, hcz54_9, hcz54_10, hcz54_11, hcz54_12, hcz54_13, hcz54_14⟩ := cz15_ BK517; obtain ⟨hfz54_0, hfz54_1, hfz54_2, hfz54_3, hfz54_4, hfz54_5, hfz54_6, hfz54_7, hfz54_8, hfz54_9, hfz54_10, hfz54_11, hfz54_12, hfz54_13, hfz54_14⟩ := fz15_ BK517
   go_wp2_with (first | (go_at_call 56; (with_reducible refine (haberdashref10_Name.calls k a0_0 true _ A4.out).mono ?_); rintro e w' ⟨rfl, ⟨nd, rfl⟩⟩; (try exact dq_)) | (go_at_call 56; (with_reducible refine (haberdashref10_Name.calls k a0_3 true _ A35.out).mono ?_); rintro e w' ⟨rfl, ⟨nd, rfl⟩⟩; (try exact dq_)) | (go_at_call 56; (with_reducible refine (haberdashref10_Name.calls k a0_4 true _ A46.out).mono ?_); rintro e w' ⟨rfl, ⟨nd, rfl⟩⟩; (try exact dq_)) | (go_at_call 72; (with_reducible refine (haberdashref10_Scope.calls k _ _ l0_6 _ _ l0_7 false _ ?side1 ?side2 ?side3 ?side4 A48.out).mono ?_); (case side1 => exact (Kd.C_below HR0_6.out (hb1_ HB GE517))); (case side2 => exact HC0_6.out); (case side3 => exact (Kd.C_below HR0_7.out (hb1_ HB GE517))); (case side4 => exact HC0_7.out); rintro e w55 ⟨rfl, hb⟩; replace BK517 := Aside0.mk (bb_ BK517 hb); replace HB := Aside0.mk (below_step (hb1_ HB GE517) hb); (try clear hb)))
   repeat (go_quiet (first | (go_at_call 56; (with_reducible refine (haberdashref10_Name.calls k a0_0 true _ A4.out).mono ?_); rintro e w' ⟨rfl, ⟨nd, rfl⟩⟩; (try exact dq_)) | (go_at_call 56; (with_reducible refine (haberdashref10_Name.calls k a0_3 true _ A35.out).mono ?_); rintro e w' ⟨rfl, ⟨nd, rfl⟩⟩; (try exact dq_)) | (go_at_call 56; (with_reducible refine (haberdashref10_Name.calls k a0_4 true _ A46.out).mono ?_); rintro e w' ⟨rfl, ⟨nd, rfl⟩⟩; (try exact dq_)) | (go_at_call 72; (with_reducible refine (haberdashref10_Scope.calls k _ _ l0_6 _ _ l0_7 false _ ?side1 ?side2 ?side3 ?side4 A48.out).mono ?_); (case side1 => exact (Kd.C_below HR0_6.out (hb1_ HB GE517))); (case side2 => exact HC0_6.out); (case side3 => exact (Kd.C_below HR0_7.out (hb1_ HB GE517))); (case side4 => exact HC0_7.out); rintro e w55 ⟨rfl, hb⟩; replace BK517 := Aside0.mk (bb_ BK517 hb); replace HB := Aside0.mk (below_step (hb1_ HB GE517) hb); (try clear hb))); try go_wp2_with (first | (go_at_call 56; (with_reducible refine (haberdashref10_Name.calls k a0_0 true _ A4.out).mono ?_); rintro e w' ⟨rfl, ⟨nd, rfl⟩⟩; (try exact dq_)) | (go_at_call 56; (with_reducible refine (haberdashref10_Name.calls k a0_3 true _ A35.out).mono ?_); rintro e w' ⟨rfl, ⟨nd, rfl⟩⟩; (try exact dq_)) | (go_at_call 56; (with_reducible refine (haberdashref10_Name.calls k a0_4 true _ A46.out).mono ?_); rintro e w' ⟨rfl, ⟨nd, rfl⟩⟩; (try exact dq_)) | (go_at_call 72; (with_reducible refine (haberdashref10_Scope.calls k _ _ l0_6 _ _ l0_7 false _ ?side1 ?side2 ?side3 ?side4 A48.out).mono ?_); (case side1 => exact (Kd.C_below HR0_6.out (hb1_ HB GE517))); (case side2 => exact HC0_6.out); (case side3 => exact (Kd.C_below HR0_7.out (hb1_ HB GE517))); (case side4 => exact HC0_7.out); rintro e w55 ⟨rfl, hb⟩; replace BK517 := Aside0.mk (bb_ BK517 hb); replace HB := Aside0.mk (below_step (hb1_ HB GE517) hb); (try clear hb))))
   go_meet
   case rel => exact ⟨_, (true), rf_, H', ⟨om_⟩, ⟨bk_ BK517⟩, ⟨hb1_ HB GE517⟩⟩
  subst c49; rw [if_pos rfl] at H; replace H := Option.bind_eq_some_iff.mp H; obtain ⟨t529, A500, H⟩ := H
  (try dsimp only at H)
  have A50 := Aside0.mk A500; clear A500; have H' := Aside0.mk H; clear H; obtain ⟨hcz51_0, hcz51_1, hcz51_2, hcz51_3, hcz51_4, hcz51_5, hcz51_6, hcz51_7, hcz51_8, hcz51_9, hcz51_10, hcz51_11, hcz51_12, hcz51_13, hcz51_14⟩ := cz15_ BK517; obtain ⟨hfz51_0, hfz51_1, hfz51_2, hfz51_3, hfz51_4, hfz51_5, hfz51_6, hfz51_7, hfz51_8, hfz51_9, hfz51_10, hfz51_11, hfz51_12, hfz51_13, hfz51_14⟩ := fz15_ BK517
  go_wp2_with (first | (go_at_call 56; (with_reducible refine (haberdashref10_Name.calls k a0_0 true _ A4.out).mono ?_); rintro e w' ⟨rfl, ⟨nd, rfl⟩⟩; (try exact dq_)) | (go_at_call 56; (with_reducible refine (haberdashref10_Name.calls k a0_3 true _ A35.out).mono ?_); rintro e w' ⟨rfl, ⟨nd, rfl⟩⟩; (try exact dq_)) | (go_at_call 56; (with_reducible refine (haberdashref10_Name.calls k a0_4 true _ A46.out).mono ?_); rintro e w' ⟨rfl, ⟨nd, rfl⟩⟩; (try exact dq_)) | (go_at_call 72; (with_reducible refine (haberdashref10_Scope.calls k _ _ l0_6 _ _ l0_7 true _ ?side1 ?side2 ?side3 ?side4 A48.out).mono ?_); (case side1 => exact (Kd.C_below HR0_6.out (hb1_ HB GE517))); (case side2 => exact HC0_6.out); (case side3 => exact (Kd.C_below HR0_7.out (hb1_ HB GE517))); (case side4 => exact HC0_7.out); rintro e w52 ⟨rfl, hb⟩; replace BK517 := Aside0.mk (bb_ BK517 hb); replace HB := Aside0.mk (below_step (hb1_ HB GE517) hb); (try clear hb); obtain ⟨hcz53_0, hcz53_1, hcz53_2, hcz53_3, hcz53_4, hcz53_5, hcz53_6, hcz53_7, hcz53_8, hcz53_9, hcz53_10, hcz53_11, hcz53_12, hcz53_13, hcz53_14⟩ := cz15_ BK517; obtain ⟨hfz53_0, hfz53_1, hfz53_2, hfz53_3, hfz53_4, hfz53_5, hfz53_6, hfz53_7, hfz53_8, hfz53_9, hfz53_10, hfz53_11, hfz53_12, hfz53_13, hfz53_14⟩ := fz15_ BK517) | (go_at_call 52; (with_reducible refine (haberdashref10_in.calls a0_8 10000000000000 t529 _ A50.out).mono ?_); rintro e w' ⟨rfl, ⟨nd, rfl⟩⟩; (try exact dq_)))
  repeat (go_quiet (first | (go_at_call 56; (with_reducible refine (haberdashref10_Name.calls k a0_0 true _ A4.out).mono ?_); rintro e w' ⟨rfl, ⟨nd, rfl⟩⟩; (try exact dq_)) | (go_at_call 56; (with_reducible refine (haberdashref10_Name.calls k a0_3 true _ A35.out).mono ?_); rintro e w' ⟨rfl, ⟨nd, rfl⟩⟩; (try exact dq_)) | (go_at_call 56; (with_reducible refine (haberdashref10_Name.calls k a0_4 true _ A46.out).mono ?_); rintro e w' ⟨rfl, ⟨nd, rfl⟩⟩; (try exact dq_)) | (go_at_call 72; (with_reducible refine (haberdashref10_Scope.calls k _ _ l0_6 _ _ l0_7 true _ ?side1 ?side2 ?side3 ?side4 A48.out).mono ?_); (case side1 => exact (Kd.C_below HR0_6.out (hb1_ HB GE517))); (case side2 => exact HC0_6.out); (case side3 => exact (Kd.C_below HR0_7.out (hb1_ HB GE517))); (case side4 => exact HC0_7.out); rintro e w52 ⟨rfl, hb⟩; replace BK517 := Aside0.mk (bb_ BK517 hb); replace HB := Aside0.mk (below_step (hb1_ HB GE517) hb); (try clear hb); obtain ⟨hcz53_0, hcz53_1, hcz53_2, hcz53_3, hcz53_4, hcz53_5, hcz53_6, hcz53_7, hcz53_8, hcz53_9, hcz53_10, hcz53_11, hcz53_12, hcz53_13, hcz53_14⟩ := cz15_ BK517; obtain ⟨hfz53_0, hfz53_1, hfz53_2, hfz53_3, hfz53_4, hfz53_5, hfz53_6, hfz53_7, hfz53_8, hfz53_9, hfz53_10, hfz53_11, hfz53_12, hfz53_13, hfz53_14⟩ := fz15_ BK517) | (go_at_call 52; (with_reducible refine (haberdashref10_in.calls a0_8 10000000000000 t529 _ A50.out).mono ?_); rintro e w' ⟨rfl, ⟨nd, rfl⟩⟩; (try exact dq_))); try go_wp2_with (first | (go_at_call 56; (with_reducible refine (haberdashref10_Name.calls k a0_0 true _ A4.out).mono ?_); rintro e w' ⟨rfl, ⟨nd, rfl⟩⟩; (try exact dq_)) | (go_at_call 56; (with_reducible refine (haberdashref10_Name.calls k a0_3 true _ A35.out).mono ?_); rintro e w' ⟨rfl, ⟨nd, rfl⟩⟩; (try exact dq_)) | (go_at_call 56; (with_reducible refine (haberdashref10_Name.calls k a0_4 true _ A46.out).mono ?_); rintro e w' ⟨rfl, ⟨nd, rfl⟩⟩; (try exact dq_)) | (go_at_call 72; (with_reducible refine (haberdashref10_Scope.calls k _ _ l0_6 _ _ l0_7 true _ ?side1 ?side2 ?side3 ?side4 A48.out).mono ?_); (case side1 => exact (Kd.C_below HR0_6.out (hb1_ HB GE517))); (case side2 => exact HC0_6.out); (case side3 => exact (Kd.C_below HR0_7.out (hb1_ HB GE517))); (case side4 => exact HC0_7.out); rintro e w52 ⟨rfl, hb⟩; replace BK517 := Aside0.mk (bb_ BK517 hb); replace HB := Aside0.mk (below_step (hb1_ HB GE517) hb); (try clear hb); obtain ⟨hcz53_0, hcz53_1, hcz53_2, hcz53_3, hcz53_4, hcz53_5, hcz53_6, hcz53_7, hcz53_8, hcz53_9, hcz53_10, hcz53_11, hcz53_12, hcz53_13, hcz53_14⟩ := cz15_ BK517; obtain ⟨hfz53_0, hfz53_1, hfz53_2, hfz53_3, hfz53_4, hfz53_5, hfz53_6, hfz53_7, hfz53_8, hfz53_9, hfz53_10, hfz53_11, hfz53_12, hfz53_13, hfz53_14⟩ := fz15_ BK517) | (go_at_call 52; (with_reducible refine (haberdashref10_in.calls a0_8 10000000000000 t529 _ A50.out).mono ?_); rintro e w' ⟨rfl, ⟨nd, rfl⟩⟩; (try exact dq_))))
  go_meet
  case rel => exact ⟨_, (!t529), rf_, H', ⟨om_⟩, ⟨bk_ BK517⟩, ⟨hb1_ HB GE517⟩⟩
 case rest => as_aux_lemma =>
  clear HC2; (try clear c1); (try clear c2); (try clear p2); (try clear c3); (try clear c4); (try clear c5); (try clear c14); (try clear c14b0); (try clear c14b1); (try clear c15); (try clear c15b0); (try clear c15b1); (try clear c17); (try clear c25); (try clear c27); (try clear c36); (try clear c37)
  (try clear c37b0); (try clear c37b1); (try clear c39); (try clear c47); (try clear c49); (try clear hcz19_0 hcz19_1 hcz19_10 hcz19_11 hcz19_12 hcz19_13 hcz19_14 hcz19_2 hcz19_3 hcz19_4 hcz19_5 hcz19_6 hcz19_7 hcz19_8 hcz19_9); (try clear hcz21_0 hcz21_1 hcz21_10 hcz21_11 hcz21_12 hcz21_13 hcz21_14 hcz21_2 hcz21_3 hcz21_4 hcz21_5 hcz21_6 hcz21_7 hcz21_8 hcz21_9)
  (try clear hcz22_0 hcz22_1 hcz22_10 hcz22_11 hcz22_12 hcz22_13 hcz22_14 hcz22_2 hcz22_3 hcz22_4 hcz22_5 hcz22_6 hcz22_7 hcz22_8 hcz22_9); (try clear hcz29_0 hcz29_1 hcz29_10 hcz29_11 hcz29_12 hcz29_13 hcz29_14 hcz29_2 hcz29_3 hcz29_4 hcz29_5 hcz29_6 hcz29_7 hcz29_8 hcz29_9); (try clear hcz31_0 hcz31_1 hcz31_10 hcz31_11 hcz31_12 hcz31_13 hcz31_14 hcz31_2 hcz31_3 hcz31_4 hcz31_5 hcz31_6 hcz31_7 hcz31_8 hcz31_9)
  (try clear hcz32_0 hcz32_1 hcz32_10 hcz32_11 hcz32_12 hcz32_13 hcz32_14 hcz32_2 hcz32_3 hcz32_4 hcz32_5 hcz32_6 hcz32_7 hcz32_8 hcz32_9); (try clear hcz34_0 hcz34_1 hcz34_10 hcz34_11 hcz34_12 hcz34_13 hcz34_14 hcz34_2 hcz34_3 hcz34_4 hcz34_5 hcz34_6 hcz34_7 hcz34_8 hcz34_9); (try clear hcz41_0 hcz41_1 hcz41_10 hcz41_11 hcz41_12 hcz41_13 hcz41_14 hcz41_2 hcz41_3 hcz41_4 hcz41_5 hcz41_6 hcz41_7 hcz41_8 hcz41_9)
  (try clear hcz43_0 hcz43_1 hcz43_10 hcz43_11 hcz43_12 hcz43_13 hcz43_14 hcz43_2 hcz43_3 hcz43_4 hcz43_5 hcz43_6 hcz43_7 hcz43_8 hcz43_9); (try clear hcz44_0 hcz44_1 hcz44_10 hcz44_11 hcz44_12 hcz44_13 hcz44_14 hcz44_2 hcz44_3 hcz44_4 hcz44_5 hcz44_6 hcz44_7 hcz44_8 hcz44_9); (try clear hcz51_0 hcz51_1 hcz51_10 hcz51_11 hcz51_12 hcz51_13 hcz51_14 hcz51_2 hcz51_3 hcz51_4 hcz51_5 hcz51_6 hcz51_7 hcz51_8 hcz51_9)
  (try clear hcz53_0 hcz53_1 hcz53_10 hcz53_11 hcz53_12 hcz53_13 hcz53_14 hcz53_2 hcz53_3 hcz53_4 hcz53_5 hcz53_6 hcz53_7 hcz53_8 hcz53_9); (try clear hcz54_0 hcz54_1 hcz54_10 hcz54_11 hcz54_12 hcz54_13 hcz54_14 hcz54_2 hcz54_3 hcz54_4 hcz54_5 hcz54_6 hcz54_7 hcz54_8 hcz54_9); (try clear hcz56_0 hcz56_1 hcz56_10 hcz56_11 hcz56_12 hcz56_13 hcz56_14 hcz56_2 hcz56_3 hcz56_4 hcz56_5 hcz56_6 hcz56_7 hcz56_8 hcz56_9)
  (try clear hcz57_0 hcz57_1 hcz57_10 hcz57_11 hcz57_12 hcz57_13 hcz57_14 hcz57_2 hcz57_3 hcz57_4 hcz57_5 hcz57_6 hcz57_7 hcz57_8 hcz57_9); (try clear hcz58_0 hcz58_1 hcz58_10 hcz58_11 hcz58_12 hcz58_13 hcz58_14 hcz58_2 hcz58_3 hcz58_4 hcz58_5 hcz58_6 hcz58_7 hcz58_8 hcz58_9); (try clear hfz19_0 hfz19_1 hfz19_10 hfz19_11 hfz19_12 hfz19_13 hfz19_14 hfz19_2 hfz19_3 hfz19_4 hfz19_5 hfz19_6 hfz19_7 hfz19_8 hfz19_9)
  (try clear hfz21_0 hfz21_1 hfz21_10 hfz21_11 hfz21_12 hfz21_13 hfz21_14 hfz21_2 hfz21_3 hfz21_4 hfz21_5 hfz21_6 hfz21_7 hfz21_8 hfz21_9); (try clear hfz22_0 hfz22_1 hfz22_10 hfz22_11 hfz22_12 hfz22_13 hfz22_14 hfz22_2 hfz22_3 hfz22_4 hfz22_5 hfz22_6 hfz22_7 hfz22_8 hfz22_9); (try clear hfz29_0 hfz29_1 hfz29_10 hfz29_11 hfz29_12 hfz29_13 hfz29_14 hfz29_2 hfz29_3 hfz29_4 hfz29_5 hfz29_6 hfz29_7 hfz29_8 hfz29_9)
  (try clear hfz31_0 hfz31_1 hfz31_10 hfz31_11 hfz31_12 hfz31_13 hfz31_14 hfz31_2 hfz31_3 hfz31_4 hfz31_5 hfz31_6 hfz31_7 hfz31_8 hfz31_9); (try clear hfz32_0 hfz32_1 hfz32_10 hfz32_11 hfz32_12 hfz32_13 hfz32_14 hfz32_2 hfz32_3 hfz32_4 hfz32_5 hfz32_6 hfz32_7 hfz32_8 hfz32_9); (try clear hfz34_0 hfz34_1 hfz34_10 hfz34_11 hfz34_12 hfz34_13 hfz34_14 hfz34_2 hfz34_3 hfz34_4 hfz34_5 hfz34_6 hfz34_7 hfz34_8 hfz34_9)
  (try clear hfz41_0 hfz41_1 hfz41_10 hfz41_11 hfz41_12 hfz41_13 hfz41_14 hfz41_2 hfz41_3 hfz41_4 hfz41_5 hfz41_6 hfz41_7 hfz41_8 hfz41_9); (try clear hfz43_0 hfz43_1 hfz43_10 hfz43_11 hfz43_12 hfz43_13 hfz43_14 hfz43_2 hfz43_3 hfz43_4 hfz43_5 hfz43_6 hfz43_7 hfz43_8 hfz43_9); (try clear hfz44_0 hfz44_1 hfz44_10 hfz44_11 hfz44_12 hfz44_13 hfz44_14 hfz44_2 hfz44_3 hfz44_4 hfz44_5 hfz44_6 hfz44_7 hfz44_8 hfz44_9)
  (try clear hfz51_0 hfz51_1 hfz51_10 hfz51_11 hfz51_12 hfz51_13 hfz51_14 hfz51_2 hfz51_3 hfz51_4 hfz51_5 hfz51_6 hfz51_7 hfz51_8 hfz51_9); (try clear hfz53_0 hfz53_1 hfz53_10 hfz53_11 hfz53_12 hfz53_13 hfz53_14 hfz53_2 hfz53_3 hfz53_4 hfz53_5 hfz53_6 hfz53_7 hfz53_8 hfz53_9); (try clear hfz54_0 hfz54_1 hfz54_10 hfz54_11 hfz54_12 hfz54_13 hfz54_14 hfz54_2 hfz54_3 hfz54_4 hfz54_5 hfz54_6 hfz54_7 hfz54_8 hfz54_9)
  (try clear hfz56_0 hfz56_1 hfz56_10 hfz56_11 hfz56_12 hfz56_13 hfz56_14 hfz56_2 hfz56_3 hfz56_4 hfz56_5 hfz56_6 hfz56_7 hfz56_8 hfz56_9); (try clear hfz57_0 hfz57_1 hfz57_10 hfz57_11 hfz57_12 hfz57_13 hfz57_14 hfz57_2 hfz57_3 hfz57_4 hfz57_5 hfz57_6 hfz57_7 hfz57_8 hfz57_9); (try clear hfz58_0 hfz58_1 hfz58_10 hfz58_11 hfz58_12 hfz58_13 hfz58_14 hfz58_2 hfz58_3 hfz58_4 hfz58_5 hfz58_6 hfz58_7 hfz58_8 hfz58_9)
  obtain ⟨kq, x67_1, rfl, HA, HJ1, BK517, HB⟩ := hcut
  cases kq with
  | zero => exact absurd HA.out (by simp [haberdashref10_Promo.j0])
  | succ kj1 =>
   have H := HA.out; clear HA
   simp only [haberdashref10_Promo.j0] at H
   by_cases c59 : x67_1 = true
   ·
    subst c59; rw [if_pos rfl] at H; obtain rfl := Option.some.inj H
    go_wp2
    repeat (go_quiet (fail); try go_wp2)
    go_ret
    exact ⟨er_, hb1_ HB GE517⟩
   replace c59 := Bool.eq_false_iff.mpr c59; subst c59; rw [if_neg nf_] at H; have HC60 := Aside0.mk H; clear H
   go_upto_region 3 with (fail)
   repeat (go_quiet (fail); go_upto_region 3 with (fail))
   go_cut [3, 4, 5, 6, 7] (fun v3 v4 v5 v6 v7 wc => ∃ (kq : Nat) (x3_59 : Bool) (x4_59 : Bool) (x5_59 : Bool) (x6_59 : Bool) (x7_59 : Bool), v3 = .bool x3_59 ∧ v4 = .bool x4_59 ∧ v5 = .bool x5_59 ∧ v6 = .bool x6_59 ∧ v7 = .bool x7_59 ∧ Aside0 (haberdashref10_Promo.j1 kq x3_59 x4_59 x5_59 x6_59 x7_59 a0_0 a0_1 a0_2 a0_3 a0_4 a0_5 l0_6 l0_7 a0_8 a0_9 a0_10 a0_11 a0_12 l0_13 l0_14 = some r) ∧ Aside0 (kq ≤ kj1) ∧ Aside0 (wc.heap[gb517]? = some (.cells #[.string a0_0, .int .i64 a0_1, .int .i64 a0_2, .string a0_3, .string a0_4, .bool a0_5, (.slice A0_6 l0_6.length c0_6), (.slice A0_7 l0_7.length c0_7), .int .i64 a0_8, .int .i64 a0_9, .int .i64 a0_10, .int .i64 a0_11, .int .i64 a0_12, (.slice A0_13 l0_13.length c0_13), (.slice A0_14 l0_14.length c0_14)] 60 (0, 0))) ∧ Aside0 (Below w.heap.size w wc))
   case first => as_aux_lemma =>
    have H := HC60.out; clear HC60
    by_cases c61 : a0_11 = 0
    rotate_left
    ·
     rw [if_neg c61] at H; have c61b0 : (a0_11 == 0) = false := beq_eq_false_iff_ne.mpr c61; have c61b1 : (a0_11 != 0) = true := bne_iff_ne.mpr c61
     (first | rw [c61b0] | (simp only [i64_w, i32_w]; rw [c61b0]) | skip)
     have H' := Aside0.mk H; clear H; obtain ⟨hcz63_0, hcz63_1, hcz63_2, hcz63_3, hcz63_4, hcz63_5, hcz63_6, hcz63_7, hcz63_8, hcz63_9, hcz63_10, hcz63_11, hcz63_12, hcz63_13, hcz63_14⟩ := cz15_ BK517; obtain ⟨hfz63_0, hfz63_1, hfz63_2, hfz63_3, hfz63_4, hfz63_5, hfz63_6, hfz63_7, hfz63_8, hfz63_9, hfz63_10, hfz63_11, hfz63_12, hfz63_13, hfz63_14⟩ := fz15_ BK517
     go_wp2
     repeat (go_quiet (fail); try go_wp2)
     go_meet
     case rel => exact ⟨_, ((a0_9 == 0)), ((a0_10 == 0)), (false), (((l0_13.length : Int) == 0)), (((l0_14.length : Int) == 0)), rf_, rf_, rf_, rf_, rf_, H', ⟨by have := HJ1.out; first | omega | exact Nat.le_refl _⟩, ⟨bk_ BK517⟩, ⟨hb1_ HB GE517⟩⟩
    rw [if_pos c61] at H; have c61b0 : (a0_11 == 0) = true := beq_iff_eq.mpr c61; have c61b1 : (a0_11 != 0) = false := bne_eq_false_iff_eq.mpr c61; clear c61
    (first | rw [c61b0] | (simp only [i64_w, i32_w]; rw [c61b0]) | skip)
    have H' := Aside0.mk H; clear H; obtain ⟨hcz62_0, hcz62_1, hcz62_2, hcz62_3, hcz62_4, hcz62_5, hcz62_6, hcz62_7, hcz62_8, hcz62_9, hcz62_10, hcz62_11, hcz62_12, hcz62_13, hcz62_14⟩ := cz15_ BK517; obtain ⟨hfz62_0, hfz62_1, hfz62_2, hfz62_3, hfz62_4, hfz62_5, hfz62_6, hfz62_7, hfz62_8, hfz62_9, hfz62_10, hfz62_11, hfz62_12, hfz62_13, hfz62_14⟩ := fz15_ BK517
    go_wp2
    repeat (go_quiet (fail); try go_wp2)
    go_meet
    case rel => exact ⟨_, ((a0_9 == 0)), ((a0_10 == 0)), ((a0_12 == 0)), (((l0_13.length : Int) == 0)), (((l0_14.length : Int) == 0)), rf_, rf_, rf_, rf_, rf_, H', ⟨by have := HJ1.out; first | omega | exact Nat.le_refl _⟩, ⟨bk_ BK517⟩, ⟨hb1_ HB GE517⟩⟩
   case rest => as_aux_lemma =>
    clear HC60; (try clear p2); (try clear c3); (try clear c4); (try clear c5); (try clear c6); (try clear c37); (try clear c37b1); (try clear c39); (try clear c47); (try clear c49); (try clear c59); (try clear c61); (try clear c61b0); (try clear c61b1); (try clear hcz19_0 hcz19_1 hcz19_10 hcz19_11 hcz19_12 hcz19_13 hcz19_14 hcz19_2 hcz19_3 hcz19_4 hcz19_5 hcz19_6 hcz19_7 hcz19_8 hcz19_9)
    (try clear hcz21_0 hcz21_1 hcz21_10 hcz21_11 hcz21_12 hcz21_13 hcz21_14 hcz21_2 hcz21_3 hcz21_4 hcz21_5 hcz21_6 hcz21_7 hcz21_8 hcz21_9); (try clear hcz22_0 hcz22_1 hcz22_10 hcz22_11 hcz22_12 hcz22_13 hcz22_14 hcz22_2 hcz22_3 hcz22_4 hcz22_5 hcz22_6 hcz22_7 hcz22_8 hcz22_9); (try clear hcz29_0 hcz29_1 hcz29_10 hcz29_11 hcz29_12 hcz29_13 hcz29_14 hcz29_2 hcz29_3 hcz29_4 hcz29_5 hcz29_6 hcz29_7 hcz29_8 hcz29_9)
    (try clear hcz31_0 hcz31_1 hcz31_10 hcz31_11 hcz31_12 hcz31_13 hcz31_14 hcz31_2 hcz31_3 hcz31_4 hcz31_5 hcz31_6 hcz31_7 hcz31_8 hcz31_9); (try clear hcz32_0 hcz32_1 hcz32_10 hcz32_11 hcz32_12 hcz32_13 hcz32_14 hcz32_2 hcz32_3 hcz32_4 hcz32_5 hcz32_6 hcz32_7 hcz32_8 hcz32_9); (try clear hcz34_0 hcz34_1 hcz34_10 hcz34_11 hcz34_12 hcz34_13 hcz34_14 hcz34_2 hcz34_3 hcz34_4 hcz34_5 hcz34_6 hcz34_7 hcz34_8 hcz34_9)
    (try clear hcz41_0 hcz41_1 hcz41_10 hcz41_11 hcz41_12 hcz41_13 hcz41_14 hcz41_2 hcz41_3 hcz41_4 hcz41_5 hcz41_6 hcz41_7 hcz41_8 hcz41_9); (try clear hcz43_0 hcz43_1 hcz43_10 hcz43_11 hcz43_12 hcz43_13 hcz43_14 hcz43_2 hcz43_3 hcz43_4 hcz43_5 hcz43_6 hcz43_7 hcz43_8 hcz43_9); (try clear hcz44_0 hcz44_1 hcz44_10 hcz44_11 hcz44_12 hcz44_13 hcz44_14 hcz44_2 hcz44_3 hcz44_4 hcz44_5 hcz44_6 hcz44_7 hcz44_8 hcz44_9)
    (try clear hcz51_0 hcz51_1 hcz51_10 hcz51_11 hcz51_12 hcz51_13 hcz51_14 hcz51_2 hcz51_3 hcz51_4 hcz51_5 hcz51_6 hcz51_7 hcz51_8 hcz51_9); (try clear hcz53_0 hcz53_1 hcz53_10 hcz53_11 hcz53_12 hcz53_13 hcz53_14 hcz53_2 hcz53_3 hcz53_4 hcz53_5 hcz53_6 hcz53_7 hcz53_8 hcz53_9); (try clear hcz54_0 hcz54_1 hcz54_10 hcz54_11 hcz54_12 hcz54_13 hcz54_14 hcz54_2 hcz54_3 hcz54_4 hcz54_5 hcz54_6 hcz54_7 hcz54_8 hcz54_9)
    (try clear hcz56_0 hcz56_1 hcz56_10 hcz56_11 hcz56_12 hcz56_13 hcz56_14 hcz56_2 hcz56_3 hcz56_4 hcz56_5 hcz56_6 hcz56_7 hcz56_8 hcz56_9); (try clear hcz57_0 hcz57_1 hcz57_10 hcz57_11 hcz57_12 hcz57_13 hcz57_14 hcz57_2 hcz57_3 hcz57_4 hcz57_5 hcz57_6 hcz57_7 hcz57_8 hcz57_9); (try clear hcz58_0 hcz58_1 hcz58_10 hcz58_11 hcz58_12 hcz58_13 hcz58_14 hcz58_2 hcz58_3 hcz58_4 hcz58_5 hcz58_6 hcz58_7 hcz58_8 hcz58_9)
    (try clear hcz62_0 hcz62_1 hcz62_10 hcz62_11 hcz62_12 hcz62_13 hcz62_14 hcz62_2 hcz62_3 hcz62_4 hcz62_5 hcz62_6 hcz62_7 hcz62_8 hcz62_9); (try clear hcz63_0 hcz63_1 hcz63_10 hcz63_11 hcz63_12 hcz63_13 hcz63_14 hcz63_2 hcz63_3 hcz63_4 hcz63_5 hcz63_6 hcz63_7 hcz63_8 hcz63_9); (try clear hfz19_0 hfz19_1 hfz19_10 hfz19_11 hfz19_12 hfz19_13 hfz19_14 hfz19_2 hfz19_3 hfz19_4 hfz19_5 hfz19_6 hfz19_7 hfz19_8 hfz19_9)
    (try clear hfz21_0 hfz21_1 hfz21_10 hfz21_11 hfz21_12 hfz21_13 hfz21_14 hfz21_2 hfz21_3 hfz21_4 hfz21_5 hfz21_6 hfz21_7 hfz21_8 hfz21_9); (try clear hfz22_0 hfz22_1 hfz22_10 hfz22_11 hfz22_12 hfz22_13 hfz22_14 hfz22_2 hfz22_3 hfz22_4 hfz22_5 hfz22_6 hfz22_7 hfz22_8 hfz22_9); (try clear hfz29_0 hfz29_1 hfz29_10 hfz29_11 hfz29_12 hfz29_13 hfz29_14 hfz29_2 hfz29_3 hfz29_4 hfz29_5 hfz29_6 hfz29_7 hfz29_8 hfz29_9)
    (try clear hfz31_0 hfz31_1 hfz31_10 hfz31_11 hfz31_12 hfz31_13 hfz31_14 hfz31_2 hfz31_3 hfz31_4 hfz31_5 hfz31_6 hfz31_7 hfz31_8 hfz31_9); (try clear hfz32_0 hfz32_1 hfz32_10 hfz32_11 hfz32_12 hfz32_13 hfz32_14 hfz32_2 hfz32_3 hfz32_4 hfz32_5 hfz32_6 hfz32_7 hfz32_8 hfz32_9); (try clear hfz34_0 hfz34_1 hfz34_10 hfz34_11 hfz34_12 hfz34_13 hfz34_14 hfz34_2 hfz34_3 hfz34_4 hfz34_5 hfz34_6 hfz34_7 hfz34_8 hfz34_9)
    (try clear hfz41_0 hfz41_1 hfz41_10 hfz41_11 hfz41_12 hfz41_13 hfz41_14 hfz41_2 hfz41_3 hfz41_4 hfz41_5 hfz41_6 hfz41_7 hfz41_8 hfz41_9); (try clear hfz43_0 hfz43_1 hfz43_10 hfz43_11 hfz43_12 hfz43_13 hfz43_14 hfz43_2 hfz43_3 hfz43_4 hfz43_5 hfz43_6 hfz43_7 hfz43_8 hfz43_9); (try clear hfz44_0 hfz44_1 hfz44_10 hfz44_11 hfz44_12 hfz44_13 hfz44_14 hfz44_2 hfz44_3 hfz44_4 hfz44_5 hfz44_6 hfz44_7 hfz44_8 hfz44_9)
    (try clear hfz51_0 hfz51_1 hfz51_10 hfz51_11 hfz51_12 hfz51_13 hfz51_14 hfz51_2 hfz51_3 hfz51_4 hfz51_5 hfz51_6 hfz51_7 hfz51_8 hfz51_9); (try clear hfz53_0 hfz53_1 hfz53_10 hfz53_11 hfz53_12 hfz53_13 hfz53_14 hfz53_2 hfz53_3 hfz53_4 hfz53_5 hfz53_6 hfz53_7 hfz53_8 hfz53_9); (try clear hfz54_0 hfz54_1 hfz54_10 hfz54_11 hfz54_12 hfz54_13 hfz54_14 hfz54_2 hfz54_3 hfz54_4 hfz54_5 hfz54_6 hfz54_7 hfz54_8 hfz54_9)
    (try clear hfz56_0 hfz56_1 hfz56_10 hfz56_11 hfz56_12 hfz56_13 hfz56_14 hfz56_2 hfz56_3 hfz56_4 hfz56_5 hfz56_6 hfz56_7 hfz56_8 hfz56_9); (try clear hfz57_0 hfz57_1 hfz57_10 hfz57_11 hfz57_12 hfz57_13 hfz57_14 hfz57_2 hfz57_3 hfz57_4 hfz57_5 hfz57_6 hfz57_7 hfz57_8 hfz57_9); (try clear hfz58_0 hfz58_1 hfz58_10 hfz58_11 hfz58_12 hfz58_13 hfz58_14 hfz58_2 hfz58_3 hfz58_4 hfz58_5 hfz58_6 hfz58_7 hfz58_8 hfz58_9)
    (try clear hfz62_0 hfz62_1 hfz62_10 hfz62_11 hfz62_12 hfz62_13 hfz62_14 hfz62_2 hfz62_3 hfz62_4 hfz62_5 hfz62_6 hfz62_7 hfz62_8 hfz62_9); (try clear hfz63_0 hfz63_1 hfz63_10 hfz63_11 hfz63_12 hfz63_13 hfz63_14 hfz63_2 hfz63_3 hfz63_4 hfz63_5 hfz63_6 hfz63_7 hfz63_8 hfz63_9); obtain ⟨kq, x3_59, x4_59, x5_59, x6_59, x7_59, rfl, rfl, rfl, rfl, rfl, HA, HJ59, BK517, HB⟩ := hcut
    cases kq with
    | zero => exact absurd HA.out (by simp [haberdashref10_Promo.j1])
    | succ kj59 =>
     have H := HA.out; clear HA
     simp only [haberdashref10_Promo.j1] at H
     have HC64 := Aside0.mk H; clear H
     go_upto_region 4 with (fail)
     repeat (go_quiet (fail); go_upto_region 4 with (fail))
     go_cut [8] (fun v8 wc => ∃ (kq : Nat) (x8_63 : Bool), v8 = .bool x8_63 ∧ Aside0 (haberdashref10_Promo.j2 kq x3_59 x4_59 x5_59 x6_59 x7_59 x8_63 a0_0 a0_1 a0_2 a0_3 a0_4 a0_5 l0_6 l0_7 a0_8 a0_9 a0_10 a0_11 a0_12 l0_13 l0_14 = some r) ∧ Aside0 (kq ≤ kj59) ∧ Aside0 (wc.heap[gb517]? = some (.cells #[.string a0_0, .int .i64 a0_1, .int .i64 a0_2, .string a0_3, .string a0_4, .bool a0_5, (.slice A0_6 l0_6.length c0_6), (.slice A0_7 l0_7.length c0_7), .int .i64 a0_8, .int .i64 a0_9, .int .i64 a0_10, .int .i64 a0_11, .int .i64 a0_12, (.slice A0_13 l0_13.length c0_13), (.slice A0_14 l0_14.length c0_14)] 60 (0, 0))) ∧ Aside0 (Below w.heap.size w wc))
     case first => as_aux_lemma =>
      have H := HC64.out; clear HC64
      by_cases c65 : (l0_6.length : Int) = 0
      rotate_left
      ·
       rw [if_neg c65] at H; have c65b0 : ((l0_6.length : Int) == 0) = false := beq_eq_false_iff_ne.mpr c65; have c65b1 : ((l0_6.length : Int) != 0) = true := bne_iff_ne.mpr c65
       have c65b2 : ¬ (l0_6 = []) := fun h_ => c65 (by rw [h_]; rfl)
       (first | rw [c65b0] | (simp only [i64_w, i32_w]; rw [c65b0]) | skip)
       have H' := Aside0.mk H; clear H; obtain ⟨hcz67_0, hcz67_1, hcz67_2, hcz67_3, hcz67_4, hcz67_5, hcz67_6, hcz67_7, hcz67_8, hcz67_9, hcz67_10, hcz67_11, hcz67_12, hcz67_13, hcz67_14⟩ := cz15_ BK517; obtain ⟨hfz67_0, hfz67_1, hfz67_2, hfz67_3, hfz67_4, hfz67_5, hfz67_6, hfz67_7, hfz67_8, hfz67_9, hfz67_10, hfz67_11, hfz67_12, hfz67_13, hfz67_14⟩ := fz15_ BK517
       go_wp2
       repeat (go_quiet (fail); try go_wp2)
       go_meet
       case rel => exact ⟨_, (false), rf_, H', ⟨by have := HJ1.out; have := HJ59.out; first | omega | exact Nat.le_refl _⟩, ⟨bk_ BK517⟩, ⟨hb1_ HB GE517⟩⟩
      rw [if_pos c65] at H; have c65b0 : ((l0_6.length : Int) == 0) = true := beq_iff_eq.mpr c65; have c65b1 : ((l0_6.length : Int) != 0) = false := bne_eq_false_iff_eq.mpr c65; clear c65
      (first | rw [c65b0] | (simp only [i64_w, i32_w]; rw [c65b0]) | skip)
      have H' := Aside0.mk H; clear H; obtain ⟨hcz66_0, hcz66_1, hcz66_2, hcz66_3, hcz66_4, hcz66_5, hcz66_6, hcz66_7, hcz66_8, hcz66_9, hcz66_10, hcz66_11, hcz66_12, hcz66_13, hcz66_14⟩ := cz15_ BK517; obtain ⟨hfz66_0, hfz66_1, hfz66_2, hfz66_3, hfz66_4, hfz66_5, hfz66_6, hfz66_7, hfz66_8, hfz66_9, hfz66_10, hfz66_11, hfz66_12, hfz66_13, hfz66_14⟩ := fz15_ BK517
      go_wp2
      repeat (go_quiet (fail); try go_wp2)
      go_meet
      case rel => exact ⟨_, (((l0_7.length : Int) == 0)), rf_, H', ⟨by have := HJ1.out; have := HJ59.out; first | omega | exact Nat.le_refl _⟩, ⟨bk_ BK517⟩, ⟨hb1_ HB GE517⟩⟩
     case rest => as_aux_lemma =>
      clear HC64; (try clear p2); (try clear c6); (try clear c65); (try clear c65b0); (try clear c65b1); (try clear c65b2); (try clear hcz22_5 hcz22_6 hcz22_7 hcz22_8 hcz22_9); (try clear hcz29_0 hcz29_1 hcz29_10 hcz29_11 hcz29_12 hcz29_13 hcz29_14 hcz29_2 hcz29_3 hcz29_4 hcz29_5 hcz29_6 hcz29_7 hcz29_8 hcz29_9)
      (try clear hcz31_0 hcz31_1 hcz31_10 hcz31_11 hcz31_12 hcz31_13 hcz31_14 hcz31_2 hcz31_3 hcz31_4 hcz31_5 hcz31_6 hcz31_7 hcz31_8 hcz31_9); (try clear hcz32_0 hcz32_1 hcz32_10 hcz32_11 hcz32_12 hcz32_13 hcz32_14 hcz32_2 hcz32_3 hcz32_4 hcz32_5 hcz32_6 hcz32_7 hcz32_8 hcz32_9); (try clear hcz34_0 hcz34_1 hcz34_10 hcz34_11 hcz34_12 hcz34_13 hcz34_14 hcz34_2 hcz34_3 hcz34_4 hcz34_5 hcz34_6 hcz34_7 hcz34_8 hcz34_9)
      (try clear hcz41_0 hcz41_1 hcz41_10 hcz41_11 hcz41_12 hcz41_13 hcz41_14 hcz41_2 hcz41_3 hcz41_4 hcz41_5 hcz41_6 hcz41_7 hcz41_8 hcz41_9); (try clear hcz43_0 hcz43_1 hcz43_10 hcz43_11 hcz43_12 hcz43_13 hcz43_14 hcz43_2 hcz43_3 hcz43_4 hcz43_5 hcz43_6 hcz43_7 hcz43_8 hcz43_9); (try clear hcz44_0 hcz44_1 hcz44_10 hcz44_11 hcz44_12 hcz44_13 hcz44_14 hcz44_2 hcz44_3 hcz44_4 hcz44_5 hcz44_6 hcz44_7 hcz44_8 hcz44_9)
      (try clear hcz51_0 hcz51_1 hcz51_10 hcz51_11 hcz51_12 hcz51_13 hcz51_14 hcz51_2 hcz51_3 hcz51_4 hcz51_5 hcz51_6 hcz51_7 hcz51_8 hcz51_9); (try clear hcz53_0 hcz53_1 hcz53_10 hcz53_11 hcz53_12 hcz53_13 hcz53_14 hcz53_2 hcz53_3 hcz53_4 hcz53_5 hcz53_6 hcz53_7 hcz53_8 hcz53_9); (try clear hcz54_0 hcz54_1 hcz54_10 hcz54_11 hcz54_12 hcz54_13 hcz54_14 hcz54_2 hcz54_3 hcz54_4 hcz54_5 hcz54_6 hcz54_7 hcz54_8 hcz54_9)
      (try clear hcz56_0 hcz56_1 hcz56_10 hcz56_11 hcz56_12 hcz56_13 hcz56_14 hcz56_2 hcz56_3 hcz56_4 hcz56_5 hcz56_6 hcz56_7 hcz56_8 hcz56_9); (try clear hcz57_0 hcz57_1 hcz57_10 hcz57_11 hcz57_12 hcz57_13 hcz57_14 hcz57_2 hcz57_3 hcz57_4 hcz57_5 hcz57_6 hcz57_7 hcz57_8 hcz57_9); (try clear hcz58_0 hcz58_1 hcz58_10 hcz58_11 hcz58_12 hcz58_13 hcz58_14 hcz58_2 hcz58_3 hcz58_4 hcz58_5 hcz58_6 hcz58_7 hcz58_8 hcz58_9)
      (try clear hcz62_0 hcz62_1 hcz62_10 hcz62_11 hcz62_12 hcz62_13 hcz62_14 hcz62_2 hcz62_3 hcz62_4 hcz62_5 hcz62_6 hcz62_7 hcz62_8 hcz62_9); (try clear hcz63_0 hcz63_1 hcz63_10 hcz63_11 hcz63_12 hcz63_13 hcz63_14 hcz63_2 hcz63_3 hcz63_4 hcz63_5 hcz63_6 hcz63_7 hcz63_8 hcz63_9); (try clear hcz66_0 hcz66_1 hcz66_10 hcz66_11 hcz66_12 hcz66_13 hcz66_14 hcz66_2 hcz66_3 hcz66_4 hcz66_5 hcz66_6 hcz66_7 hcz66_8 hcz66_9)
      (try clear hcz67_0 hcz67_1 hcz67_10 hcz67_11 hcz67_12 hcz67_13 hcz67_14 hcz67_2 hcz67_3 hcz67_4 hcz67_5 hcz67_6 hcz67_7 hcz67_8 hcz67_9); (try clear hfz19_0 hfz19_1 hfz19_10 hfz19_11 hfz19_12 hfz19_13 hfz19_14 hfz19_2 hfz19_3 hfz19_4 hfz19_5 hfz19_6 hfz19_7 hfz19_8 hfz19_9); (try clear hfz21_0 hfz21_1 hfz21_10 hfz21_11 hfz21_12 hfz21_13 hfz21_14 hfz21_2 hfz21_3 hfz21_4 hfz21_5 hfz21_6 hfz21_7 hfz21_8 hfz21_9)
      (try clear hfz22_0 hfz22_1 hfz22_10 hfz22_11 hfz22_12 hfz22_13 hfz22_14 hfz22_2 hfz22_3 hfz22_4 hfz22_5 hfz22_6 hfz22_7 hfz22_8 hfz22_9); (try clear hfz29_0 hfz29_1 hfz29_10 hfz29_11 hfz29_12 hfz29_13 hfz29_14 hfz29_2 hfz29_3 hfz29_4 hfz29_5 hfz29_6 hfz29_7 hfz29_8 hfz29_9); (try clear hfz31_0 hfz31_1 hfz31_10 hfz31_11 hfz31_12 hfz31_13 hfz31_14 hfz31_2 hfz31_3 hfz31_4 hfz31_5 hfz31_6 hfz31_7 hfz31_8 hfz31_9)
      (try clear hfz32_0 hfz32_1 hfz32_10 hfz32_11 hfz32_12 hfz32_13 hfz32_14 hfz32_2 hfz32_3 hfz32_4 hfz32_5 hfz32_6 hfz32_7 hfz32_8 hfz32_9); (try clear hfz34_0 hfz34_1 hfz34_10 hfz34_11 hfz34_12 hfz34_13 hfz34_14 hfz34_2 hfz34_3 hfz34_4 hfz34_5 hfz34_6 hfz34_7 hfz34_8 hfz34_9); (try clear hfz41_0 hfz41_1 hfz41_10 hfz41_11 hfz41_12 hfz41_13 hfz41_14 hfz41_2 hfz41_3 hfz41_4 hfz41_5 hfz41_6 hfz41_7 hfz41_8 hfz41_9)
      (try clear hfz43_0 hfz43_1 hfz43_10 hfz43_11 hfz43_12 hfz43_13 hfz43_14 hfz43_2 hfz43_3 hfz43_4 hfz43_5 hfz43_6 hfz43_7 hfz43_8 hfz43_9); (try clear hfz44_0 hfz44_1 hfz44_10 hfz44_11 hfz44_12 hfz44_13 hfz44_14 hfz44_2 hfz44_3 hfz44_4 hfz44_5 hfz44_6 hfz44_7 hfz44_8 hfz44_9); (try clear hfz51_0 hfz51_1 hfz51_10 hfz51_11 hfz51_12 hfz51_13 hfz51_14 hfz51_2 hfz51_3 hfz51_4 hfz51_5 hfz51_6 hfz51_7 hfz51_8 hfz51_9)
      (try clear hfz53_0 hfz53_1 hfz53_10 hfz53_11 hfz53_12 hfz53_13 hfz53_14 hfz53_2 hfz53_3 hfz53_4 hfz53_5 hfz53_6 hfz53_7 hfz53_8 hfz53_9); (try clear hfz54_0 hfz54_1 hfz54_10 hfz54_11 hfz54_12 hfz54_13 hfz54_14 hfz54_2 hfz54_3 hfz54_4 hfz54_5 hfz54_6 hfz54_7 hfz54_8 hfz54_9); (try clear hfz56_0 hfz56_1 hfz56_10 hfz56_11 hfz56_12 hfz56_13 hfz56_14 hfz56_2 hfz56_3 hfz56_4 hfz56_5 hfz56_6 hfz56_7 hfz56_8 hfz56_9)
      (try clear hfz57_0 hfz57_1 hfz57_10 hfz57_11 hfz57_12 hfz57_13 hfz57_14 hfz57_2 hfz57_3 hfz57_4 hfz57_5 hfz57_6 hfz57_7 hfz57_8 hfz57_9); (try clear hfz58_0 hfz58_1 hfz58_10 hfz58_11 hfz58_12 hfz58_13 hfz58_14 hfz58_2 hfz58_3 hfz58_4 hfz58_5 hfz58_6 hfz58_7 hfz58_8 hfz58_9); (try clear hfz62_0 hfz62_1 hfz62_10 hfz62_11 hfz62_12 hfz62_13 hfz62_14 hfz62_2 hfz62_3 hfz62_4 hfz62_5 hfz62_6 hfz62_7 hfz62_8 hfz62_9)
      (try clear hfz63_0 hfz63_1 hfz63_10 hfz63_11 hfz63_12 hfz63_13 hfz63_14 hfz63_2 hfz63_3 hfz63_4 hfz63_5 hfz63_6 hfz63_7 hfz63_8 hfz63_9); (try clear hfz66_0 hfz66_1 hfz66_10 hfz66_11 hfz66_12 hfz66_13 hfz66_14 hfz66_2 hfz66_3 hfz66_4 hfz66_5 hfz66_6 hfz66_7 hfz66_8 hfz66_9); (try clear hfz67_0 hfz67_1 hfz67_10 hfz67_11 hfz67_12 hfz67_13 hfz67_14 hfz67_2 hfz67_3 hfz67_4 hfz67_5 hfz67_6 hfz67_7 hfz67_8 hfz67_9)
      obtain ⟨kq, x8_63, rfl, HA, HJ63, BK517, HB⟩ := hcut
      cases kq with
      | zero => exact absurd HA.out (by simp [haberdashref10_Promo.j2])
      | succ kj63 =>
       have H := HA.out; clear HA
       simp only [haberdashref10_Promo.j2] at H
       have HC68 := Aside0.mk H; clear H
       go_upto_region 5 with (fail)
       repeat (go_quiet (fail); go_upto_region 5 with (fail))
       go_cut [9] (fun v9 wc => ∃ (kq : Nat) (x9_67 : Bool), v9 = .bool x9_67 ∧ Aside0 (haberdashref10_Promo.j3 kq x3_59 x4_59 x5_59 x6_59 x7_59 x8_63 x9_67 a0_0 a0_1 a0_2 a0_3 a0_4 a0_5 l0_6 l0_7 a0_8 a0_9 a0_10 a0_11 a0_12 l0_13 l0_14 = some r) ∧ Aside0 (kq ≤ kj63) ∧ Aside0 (wc.heap[gb517]? = some (.cells #[.string a0_0, .int .i64 a0_1, .int .i64 a0_2, .string a0_3, .string a0_4, .bool a0_5, (.slice A0_6 l0_6.length c0_6), (.slice A0_7 l0_7.length c0_7), .int .i64 a0_8, .int .i64 a0_9, .int .i64 a0_10, .int .i64 a0_11, .int .i64 a0_12, (.slice A0_13 l0_13.length c0_13), (.slice A0_14 l0_14.length c0_14)] 60 (0, 0))) ∧ Aside0 (Below w.heap.size w wc))
       case first => as_aux_lemma =>
        have H := HC68.out; clear HC68
        by_cases c69 : a0_9 ≥ 1
        rotate_left
        ·
         rw [if_neg c69] at H; have c69b0 := decide_eq_false c69; clear c69
         (first | rw [c69b0] | (simp only [i64_w, i32_w]; rw [c69b0]) | skip)
         have H' := Aside0.mk H; clear H; obtain ⟨hcz71_0, hcz71_1, hcz71_2, hcz71_3, hcz71_4, hcz71_5, hcz71_6, hcz71_7, hcz71_8, hcz71_9, hcz71_10, hcz71_11, hcz71_12, hcz71_13, hcz71_14⟩ := cz15_ BK517; obtain ⟨hfz71_0, hfz71_1, hfz71_2, hfz71_3, hfz71_4, hfz71_5, hfz71_6, hfz71_7, hfz71_8, hfz71_9, hfz71_10, hfz71_11, hfz71_12, hfz71_13, hfz71_14⟩ := fz15_ BK517
         go_wp2
         repeat (go_quiet (fail); try go_wp2)
         go_meet
         case rel => exact ⟨_, (false), rf_, H', ⟨by have := HJ1.out; have := HJ59.out; have := HJ63.out; first | omega | exact Nat.le_refl _⟩, ⟨bk_ BK517⟩, ⟨hb1_ HB GE517⟩⟩
        rw [if_pos c69] at H; have c69b0 := decide_eq_true c69; clear c69
        (first | rw [c69b0] | (simp only [i64_w, i32_w]; rw [c69b0]) | skip)
        have H' := Aside0.mk H; clear H; obtain ⟨hcz70_0, hcz70_1, hcz70_2, hcz70_3, hcz70_4, hcz70_5, hcz70_6, hcz70_7, hcz70_8, hcz70_9, hcz70_10, hcz70_11, hcz70_12, hcz70_13, hcz70_14⟩ := cz15_ BK517; obtain ⟨hfz70_0, hfz70_1, hfz70_2, hfz70_3, hfz70_4, hfz70_5, hfz70_6, hfz70_7, hfz70_8, hfz70_9, hfz70_10, hfz70_11, hfz70_12, hfz70_13, hfz70_14⟩ := fz15_ BK517
        go_wp2
        repeat (go_quiet (fail); try go_wp2)
        go_meet
        case rel => exact ⟨_, (decide (a0_9 ≤ 10000)), rf_, H', ⟨by have := HJ1.out; have := HJ59.out; have := HJ63.out; first | omega | exact Nat.le_refl _⟩, ⟨bk_ BK517⟩, ⟨hb1_ HB GE517⟩⟩
       case rest => as_aux_lemma =>
        clear HC68; (try clear p2); (try clear c6); (try clear c69); (try clear c69b0); (try clear hcz34_3 hcz34_4 hcz34_5 hcz34_6 hcz34_7 hcz34_8 hcz34_9); (try clear hcz41_0 hcz41_1 hcz41_10 hcz41_11 hcz41_12 hcz41_13 hcz41_14 hcz41_2 hcz41_3 hcz41_4 hcz41_5 hcz41_6 hcz41_7 hcz41_8 hcz41_9); (try clear hcz43_0 hcz43_1 hcz43_10 hcz43_11 hcz43_12 hcz43_13 hcz43_14 hcz43_2 hcz43_3 hcz43_4 hcz43_5 hcz43_6 hcz43_7 hcz43_8 hcz43_9)
        (try clear hcz44_0 hcz44_1 hcz44_10 hcz44_11 hcz44_12 hcz44_13 hcz44_14 hcz44_2 hcz44_3 hcz44_4 hcz44_5 hcz44_6 hcz44_7 hcz44_8 hcz44_9); (try clear hcz51_0 hcz51_1 hcz51_10 hcz51_11 hcz51_12 hcz51_13 hcz51_14 hcz51_2 hcz51_3 hcz51_4 hcz51_5 hcz51_6 hcz51_7 hcz51_8 hcz51_9); (try clear hcz53_0 hcz53_1 hcz53_10 hcz53_11 hcz53_12 hcz53_13 hcz53_14 hcz53_2 hcz53_3 hcz53_4 hcz53_5 hcz53_6 hcz53_7 hcz53_8 hcz53_9)
        (try clear hcz54_0 hcz54_1 hcz54_10 hcz54_11 hcz54_12 hcz54_13 hcz54_14 hcz54_2 hcz54_3 hcz54_4 hcz54_5 hcz54_6 hcz54_7 hcz54_8 hcz54_9); (try clear hcz56_0 hcz56_1 hcz56_10 hcz56_11 hcz56_12 hcz56_13 hcz56_14 hcz56_2 hcz56_3 hcz56_4 hcz56_5 hcz56_6 hcz56_7 hcz56_8 hcz56_9); (try clear hcz57_0 hcz57_1 hcz57_10 hcz57_11 hcz57_12 hcz57_13 hcz57_14 hcz57_2 hcz57_3 hcz57_4 hcz57_5 hcz57_6 hcz57_7 hcz57_8 hcz57_9)
        (try clear hcz58_0 hcz58_1 hcz58_10 hcz58_11 hcz58_12 hcz58_13 hcz58_14 hcz58_2 hcz58_3 hcz58_4 hcz58_5 hcz58_6 hcz58_7 hcz58_8 hcz58_9); (try clear hcz62_0 hcz62_1 hcz62_10 hcz62_11 hcz62_12 hcz62_13 hcz62_14 hcz62_2 hcz62_3 hcz62_4 hcz62_5 hcz62_6 hcz62_7 hcz62_8 hcz62_9); (try clear hcz63_0 hcz63_1 hcz63_10 hcz63_11 hcz63_12 hcz63_13 hcz63_14 hcz63_2 hcz63_3 hcz63_4 hcz63_5 hcz63_6 hcz63_7 hcz63_8 hcz63_9)
        (try clear hcz66_0 hcz66_1 hcz66_10 hcz66_11 hcz66_12 hcz66_13 hcz66_14 hcz66_2 hcz66_3 hcz66_4 hcz66_5 hcz66_6 hcz66_7 hcz66_8 hcz66_9); (try clear hcz67_0 hcz67_1 hcz67_10 hcz67_11 hcz67_12 hcz67_13 hcz67_14 hcz67_2 hcz67_3 hcz67_4 hcz67_5 hcz67_6 hcz67_7 hcz67_8 hcz67_9); (try clear hcz70_0 hcz70_1 hcz70_10 hcz70_11 hcz70_12 hcz70_13 hcz70_14 hcz70_2 hcz70_3 hcz70_4 hcz70_5 hcz70_6 hcz70_7 hcz70_8 hcz70_9)
        (try clear hcz71_0 hcz71_1 hcz71_10 hcz71_11 hcz71_12 hcz71_13 hcz71_14 hcz71_2 hcz71_3 hcz71_4 hcz71_5 hcz71_6 hcz71_7 hcz71_8 hcz71_9); (try clear hfz19_0 hfz19_1 hfz19_10 hfz19_11 hfz19_12 hfz19_13 hfz19_14 hfz19_2 hfz19_3 hfz19_4 hfz19_5 hfz19_6 hfz19_7 hfz19_8 hfz19_9); (try clear hfz21_0 hfz21_1 hfz21_10 hfz21_11 hfz21_12 hfz21_13 hfz21_14 hfz21_2 hfz21_3 hfz21_4 hfz21_5 hfz21_6 hfz21_7 hfz21_8 hfz21_9)
        (try clear hfz22_0 hfz22_1 hfz22_10 hfz22_11 hfz22_12 hfz22_13 hfz22_14 hfz22_2 hfz22_3 hfz22_4 hfz22_5 hfz22_6 hfz22_7 hfz22_8 hfz22_9); (try clear hfz29_0 hfz29_1 hfz29_10 hfz29_11 hfz29_12 hfz29_13 hfz29_14 hfz29_2 hfz29_3 hfz29_4 hfz29_5 hfz29_6 hfz29_7 hfz29_8 hfz29_9); (try clear hfz31_0 hfz31_1 hfz31_10 hfz31_11 hfz31_12 hfz31_13 hfz31_14 hfz31_2 hfz31_3 hfz31_4 hfz31_5 hfz31_6 hfz31_7 hfz31_8 hfz31_9)
        (try clear hfz32_0 hfz32_1 hfz32_10 hfz32_11 hfz32_12 hfz32_13 hfz32_14 hfz32_2 hfz32_3 hfz32_4 hfz32_5 hfz32_6 hfz32_7 hfz32_8 hfz32_9); (try clear hfz34_0 hfz34_1 hfz34_10 hfz34_11 hfz34_12 hfz34_13 hfz34_14 hfz34_2 hfz34_3 hfz34_4 hfz34_5 hfz34_6 hfz34_7 hfz34_8 hfz34_9); (try clear hfz41_0 hfz41_1 hfz41_10 hfz41_11 hfz41_12 hfz41_13 hfz41_14 hfz41_2 hfz41_3 hfz41_4 hfz41_5 hfz41_6 hfz41_7 hfz41_8 hfz41_9)
        (try clear hfz43_0 hfz43_1 hfz43_10 hfz43_11 hfz43_12 hfz43_13 hfz43_14 hfz43_2 hfz43_3 hfz43_4 hfz43_5 hfz43_6 hfz43_7 hfz43_8 hfz43_9); (try clear hfz44_0 hfz44_1 hfz44_10 hfz44_11 hfz44_12 hfz44_13 hfz44_14 hfz44_2 hfz44_3 hfz44_4 hfz44_5 hfz44_6 hfz44_7 hfz44_8 hfz44_9); (try clear hfz51_0 hfz51_1 hfz51_10 hfz51_11 hfz51_12 hfz51_13 hfz51_14 hfz51_2 hfz51_3 hfz51_4 hfz51_5 hfz51_6 hfz51_7 hfz51_8 hfz51_9)
        (try clear hfz53_0 hfz53_1 hfz53_10 hfz53_11 hfz53_12 hfz53_13 hfz53_14 hfz53_2 hfz53_3 hfz53_4 hfz53_5 hfz53_6 hfz53_7 hfz53_8 hfz53_9); (try clear hfz54_0 hfz54_1 hfz54_10 hfz54_11 hfz54_12 hfz54_13 hfz54_14 hfz54_2 hfz54_3 hfz54_4 hfz54_5 hfz54_6 hfz54_7 hfz54_8 hfz54_9); (try clear hfz56_0 hfz56_1 hfz56_10 hfz56_11 hfz56_12 hfz56_13 hfz56_14 hfz56_2 hfz56_3 hfz56_4 hfz56_5 hfz56_6 hfz56_7 hfz56_8 hfz56_9)
        (try clear hfz57_0 hfz57_1 hfz57_10 hfz57_11 hfz57_12 hfz57_13 hfz57_14 hfz57_2 hfz57_3 hfz57_4 hfz57_5 hfz57_6 hfz57_7 hfz57_8 hfz57_9); (try clear hfz58_0 hfz58_1 hfz58_10 hfz58_11 hfz58_12 hfz58_13 hfz58_14 hfz58_2 hfz58_3 hfz58_4 hfz58_5 hfz58_6 hfz58_7 hfz58_8 hfz58_9); (try clear hfz62_0 hfz62_1 hfz62_10 hfz62_11 hfz62_12 hfz62_13 hfz62_14 hfz62_2 hfz62_3 hfz62_4 hfz62_5 hfz62_6 hfz62_7 hfz62_8 hfz62_9)
        (try clear hfz63_0 hfz63_1 hfz63_10 hfz63_11 hfz63_12 hfz63_13 hfz63_14 hfz63_2 hfz63_3 hfz63_4 hfz63_5 hfz63_6 hfz63_7 hfz63_8 hfz63_9); (try clear hfz66_0 hfz66_1 hfz66_10 hfz66_11 hfz66_12 hfz66_13 hfz66_14 hfz66_2 hfz66_3 hfz66_4 hfz66_5 hfz66_6 hfz66_7 hfz66_8 hfz66_9); (try clear hfz67_0 hfz67_1 hfz67_10 hfz67_11 hfz67_12 hfz67_13 hfz67_14 hfz67_2 hfz67_3 hfz67_4 hfz67_5 hfz67_6 hfz67_7 hfz67_8 hfz67_9)
        (try clear hfz70_0 hfz70_1 hfz70_10 hfz70_11 hfz70_12 hfz70_13 hfz70_14 hfz70_2 hfz70_3 hfz70_4 hfz70_5 hfz70_6 hfz70_7 hfz70_8 hfz70_9); (try clear hfz71_0 hfz71_1 hfz71_10 hfz71_11 hfz71_12 hfz71_13 hfz71_14 hfz71_2 hfz71_3 hfz71_4 hfz71_5 hfz71_6 hfz71_7 hfz71_8 hfz71_9); obtain ⟨kq, x9_67, rfl, HA, HJ67, BK517, HB⟩ := hcut
        cases kq with
        | zero => exact absurd HA.out (by simp [haberdashref10_Promo.j3])
        | succ kj67 =>
         have H := HA.out; clear HA
         simp only [haberdashref10_Promo.j3] at H
         by_cases c72 : a0_1 = 1
         ·
          rw [if_pos c72] at H; have c72b0 : (a0_1 == 1) = true := beq_iff_eq.mpr c72; have c72b1 : (a0_1 != 1) = false := bne_eq_false_iff_eq.mpr c72; clear c72
          by_cases c73 : x9_67 = true
          rotate_left
          ·
           replace c73 := Bool.eq_false_iff.mpr c73; subst c73; rw [if_neg nf_] at H; obtain rfl := Option.some.inj H; obtain ⟨hcz81_0, hcz81_1, hcz81_2, hcz81_3, hcz81_4, hcz81_5, hcz81_6, hcz81_7, hcz81_8, hcz81_9, hcz81_10, hcz81_11, hcz81_12, hcz81_13, hcz81_14⟩ := cz15_ BK517; obtain ⟨hfz81_0, hfz81_1, hfz81_2, hfz81_3, hfz81_4, hfz81_5, hfz81_6, hfz81_7, hfz81_8, hfz81_9, hfz81_10, hfz81_11, hfz81_12, hfz81_13, hfz81_14⟩ := fz15_ BK517
           go_wp2
           repeat (go_quiet (fail); try go_wp2)
           go_ret
           exact ⟨er_, hb1_ HB GE517⟩
          subst c73; rw [if_pos rfl] at H
          by_cases c74 : x4_59 = true
          rotate_left
          ·
           replace c74 := Bool.eq_false_iff.mpr c74; subst c74; rw [if_neg nf_] at H; obtain rfl := Option.some.inj H; obtain ⟨hcz80_0, hcz80_1, hcz80_2, hcz80_3, hcz80_4, hcz80_5, hcz80_6, hcz80_7, hcz80_8, hcz80_9, hcz80_10, hcz80_11, hcz80_12, hcz80_13, hcz80_14⟩ := cz15_ BK517; obtain ⟨hfz80_0, hfz80_1, hfz80_2, hfz80_3, hfz80_4, hfz80_5, hfz80_6, hfz80_7, hfz80_8, hfz80_9, hfz80_10, hfz80_11, hfz80_12, hfz80_13, hfz80_14⟩ := fz15_ BK517
           go_wp2
           repeat (go_quiet (fail); try go_wp2)
           go_ret
           exact ⟨er_, hb1_ HB GE517⟩
          subst c74; rw [if_pos rfl] at H
          by_cases c75 : x5_59 = true
          rotate_left
          ·
           replace c75 := Bool.eq_false_iff.mpr c75; subst c75; rw [if_neg nf_] at H; obtain rfl := Option.some.inj H; obtain ⟨hcz79_0, hcz79_1, hcz79_2, hcz79_3, hcz79_4, hcz79_5, hcz79_6, hcz79_7, hcz79_8, hcz79_9, hcz79_10, hcz79_11, hcz79_12, hcz79_13, hcz79_14⟩ := cz15_ BK517; obtain ⟨hfz79_0, hfz79_1, hfz79_2, hfz79_3, hfz79_4, hfz79_5, hfz79_6, hfz79_7, hfz79_8, hfz79_9, hfz79_10, hfz79_11, hfz79_12, hfz79_13, hfz79_14⟩ := fz15_ BK517
           go_wp2
           repeat (go_quiet (fail); try go_wp2)
           go_ret
           exact ⟨er_, hb1_ HB GE517⟩
          subst c75; rw [if_pos rfl] at H
          by_cases c76 : x6_59 = true
          ·
           subst c76; rw [if_pos rfl] at H; obtain rfl := Option.some.inj H; obtain ⟨hcz77_0, hcz77_1, hcz77_2, hcz77_3, hcz77_4, hcz77_5, hcz77_6, hcz77_7, hcz77_8, hcz77_9, hcz77_10, hcz77_11, hcz77_12, hcz77_13, hcz77_14⟩ := cz15_ BK517; obtain ⟨hfz77_0, hfz77_1, hfz77_2, hfz77_3, hfz77_4, hfz77_5, hfz77_6, hfz77_7, hfz77_8, hfz77_9, hfz77_10, hfz77_11, hfz77_12, hfz77_13, hfz77_14⟩ := fz15_ BK517
           go_wp2
           repeat (go_quiet (fail); try go_wp2)
           go_ret
           exact ⟨er_, hb1_ HB GE517⟩
          replace c76 := Bool.eq_false_iff.mpr c76; subst c76; rw [if_neg nf_] at H; obtain rfl := Option.some.inj H; obtain ⟨hcz78_0, hcz78_1, hcz78_2, hcz78_3, hcz78_4, hcz78_5, hcz78_6, hcz78_7, hcz78_8, hcz78_9, hcz78_10, hcz78_11, hcz78_12, hcz78_13, hcz78_14⟩ := cz15_ BK517; obtain ⟨hfz78_0, hfz78_1, hfz78_2, hfz78_3, hfz78_4, hfz78_5, hfz78_6, hfz78_7, hfz78_8, hfz78_9, hfz78_10, hfz78_11, hfz78_12, hfz78_13, hfz78_14⟩ := fz15_ BK517
          go_wp2
          repeat (go_quiet (fail); try go_wp2)
          go_ret
          exact ⟨er_, hb1_ HB GE517⟩
         rw [if_neg c72] at H; have c72b0 : (a0_1 == 1) = false := beq_eq_false_iff_ne.mpr c72; have c72b1 : (a0_1 != 1) = true := bne_iff_ne.mpr c72
         by_cases c82 : a0_1 = 2
         ·
          rw [if_pos c82] at H; have c82b0 : (a0_1 == 2) = true := beq_iff_eq.mpr c82; have c82b1 : (a0_1 != 2) = false := bne_eq_false_iff_eq.mpr c82; clear c82
          by_cases c83 : x3_59 = true
          rotate_left
          ·
           replace c83 := Bool.eq_false_iff.mpr c83; subst c83; rw [if_neg nf_] at H; obtain rfl := Option.some.inj H; obtain ⟨hcz93_0, hcz93_1, hcz93_2, hcz93_3, hcz93_4, hcz93_5, hcz93_6, hcz93_7, hcz93_8, hcz93_9, hcz93_10, hcz93_11, hcz93_12, hcz93_13, hcz93_14⟩ := cz15_ BK517; obtain ⟨hfz93_0, hfz93_1, hfz93_2, hfz93_3, hfz93_4, hfz93_5, hfz93_6, hfz93_7, hfz93_8, hfz93_9, hfz93_10, hfz93_11, hfz93_12, hfz93_13, hfz93_14⟩ := fz15_ BK517
           go_wp2
           repeat (go_quiet (fail); try go_wp2)
           go_ret
           exact ⟨er_, hb1_ HB GE517⟩
          subst c83; rw [if_pos rfl] at H
          by_cases c84 : a0_10 ≥ 1
          rotate_left
          ·
           rw [if_neg c84] at H; have c84b0 := decide_eq_false c84; clear c84; obtain rfl := Option.some.inj H; obtain ⟨hcz92_0, hcz92_1, hcz92_2, hcz92_3, hcz92_4, hcz92_5, hcz92_6, hcz92_7, hcz92_8, hcz92_9, hcz92_10, hcz92_11, hcz92_12, hcz92_13, hcz92_14⟩ := cz15_ BK517; obtain ⟨hfz92_0, hfz92_1, hfz92_2, hfz92_3, hfz92_4, hfz92_5, hfz92_6, hfz92_7, hfz92_8, hfz92_9, hfz92_10, hfz92_11, hfz92_12, hfz92_13, hfz92_14⟩ := fz15_ BK517
           go_wp2
           repeat (go_quiet (fail); try go_wp2)
           go_ret
           exact ⟨er_, hb1_ HB GE517⟩
          rw [if_pos c84] at H; have c84b0 := decide_eq_true c84; clear c84
          by_cases c85 : a0_10 ≤ 1000000000
          rotate_left
          ·
           rw [if_neg c85] at H; have c85b0 := decide_eq_false c85; clear c85; obtain rfl := Option.some.inj H; obtain ⟨hcz91_0, hcz91_1, hcz91_2, hcz91_3, hcz91_4, hcz91_5, hcz91_6, hcz91_7, hcz91_8, hcz91_9, hcz91_10, hcz91_11, hcz91_12, hcz91_13, hcz91_14⟩ := cz15_ BK517; obtain ⟨hfz91_0, hfz91_1, hfz91_2, hfz91_3, hfz91_4, hfz91_5, hfz91_6, hfz91_7, hfz91_8, hfz91_9, hfz91_10, hfz91_11, hfz91_12, hfz91_13, hfz91_14⟩ := fz15_ BK517
           go_wp2
           repeat (go_quiet (fail); try go_wp2)
           go_ret
           exact ⟨er_, hb1_ HB GE517⟩
          rw [if_pos c85] at H; have c85b0 := decide_eq_true c85; clear c85
          by_cases c86 : x5_59 = true
          rotate_left
          ·
           replace c86 := Bool.eq_false_iff.mpr c86; subst c86; rw [if_neg nf_] at H; obtain rfl := Option.some.inj H; obtain ⟨hcz90_0, hcz90_1, hcz90_2, hcz90_3, hcz90_4, hcz90_5, hcz90_6, hcz90_7, hcz90_8, hcz90_9, hcz90_10, hcz90_11, hcz90_12, hcz90_13, hcz90_14⟩ := cz15_ BK517; obtain ⟨hfz90_0, hfz90_1, hfz90_2, hfz90_3, hfz90_4, hfz90_5, hfz90_6, hfz90_7, hfz90_8, hfz90_9, hfz90_10, hfz90_11, hfz90_12, hfz90_13, hfz90_14⟩ := fz15_ BK517
           go_wp2
           repeat (go_quiet (fail); try go_wp2)
           go_ret
           exact ⟨er_, hb1_ HB GE517⟩
          subst c86; rw [if_pos rfl] at H
          by_cases c87 : x6_59 = true
          ·
           subst c87; rw [if_pos rfl] at H; obtain rfl := Option.some.inj H; obtain ⟨hcz88_0, hcz88_1, hcz88_2, hcz88_3, hcz88_4, hcz88_5, hcz88_6, hcz88_7, hcz88_8, hcz88_9, hcz88_10, hcz88_11, hcz88_12, hcz88_13, hcz88_14⟩ := cz15_ BK517; obtain ⟨hfz88_0, hfz88_1, hfz88_2, hfz88_3, hfz88_4, hfz88_5, hfz88_6, hfz88_7, hfz88_8, hfz88_9, hfz88_10, hfz88_11, hfz88_12, hfz88_13, hfz88_14⟩ := fz15_ BK517
           go_wp2
           repeat (go_quiet (fail); try go_wp2)
           go_ret
           exact ⟨er_, hb1_ HB GE517⟩
          replace c87 := Bool.eq_false_iff.mpr c87; subst c87; rw [if_neg nf_] at H; obtain rfl := Option.some.inj H; obtain ⟨hcz89_0, hcz89_1, hcz89_2, hcz89_3, hcz89_4, hcz89_5, hcz89_6, hcz89_7, hcz89_8, hcz89_9, hcz89_10, hcz89_11, hcz89_12, hcz89_13, hcz89_14⟩ := cz15_ BK517; obtain ⟨hfz89_0, hfz89_1, hfz89_2, hfz89_3, hfz89_4, hfz89_5, hfz89_6, hfz89_7, hfz89_8, hfz89_9, hfz89_10, hfz89_11, hfz89_12, hfz89_13, hfz89_14⟩ := fz15_ BK517
          go_wp2
          repeat (go_quiet (fail); try go_wp2)
          go_ret
          exact ⟨er_, hb1_ HB GE517⟩
         rw [if_neg c82] at H; have c82b0 : (a0_1 == 2) = false := beq_eq_false_iff_ne.mpr c82; have c82b1 : (a0_1 != 2) = true := bne_iff_ne.mpr c82
         by_cases c94 : a0_1 = 3
         ·
          rw [if_pos c94] at H; have c94b0 : (a0_1 == 3) = true := beq_iff_eq.mpr c94; have c94b1 : (a0_1 != 3) = false := bne_eq_false_iff_eq.mpr c94; clear c94
          by_cases c95 : x9_67 = true
          rotate_left
          ·
           replace c95 := Bool.eq_false_iff.mpr c95; subst c95; rw [if_neg nf_] at H; obtain rfl := Option.some.inj H; obtain ⟨hcz109_0, hcz109_1, hcz109_2, hcz109_3, hcz109_4, hcz109_5, hcz109_6, hcz109_7, hcz109_8, hcz109_9, hcz109_10, hcz109_11, hcz109_12, hcz109_13, hcz109_14⟩ := cz15_ BK517; obtain ⟨hfz109_0, hfz109_1, hfz109_2, hfz109_3, hfz109_4, hfz109_5, hfz109_6, hfz109_7, hfz109_8, hfz109_9, hfz109_10, hfz109_11, hfz109_12, hfz109_13, hfz109_14⟩ := fz15_ BK517
           go_wp2
           repeat (go_quiet (fail); try go_wp2)
           go_ret
           exact ⟨er_, hb1_ HB GE517⟩
          subst c95; rw [if_pos rfl] at H
          by_cases c96 : x4_59 = true
          rotate_left
          ·
           replace c96 := Bool.eq_false_iff.mpr c96; subst c96; rw [if_neg nf_] at H; obtain rfl := Option.some.inj H; obtain ⟨hcz108_0, hcz108_1, hcz108_2, hcz108_3, hcz108_4, hcz108_5, hcz108_6, hcz108_7, hcz108_8, hcz108_9, hcz108_10, hcz108_11, hcz108_12, hcz108_13, hcz108_14⟩ := cz15_ BK517; obtain ⟨hfz108_0, hfz108_1, hfz108_2, hfz108_3, hfz108_4, hfz108_5, hfz108_6, hfz108_7, hfz108_8, hfz108_9, hfz108_10, hfz108_11, hfz108_12, hfz108_13, hfz108_14⟩ := fz15_ BK517
           go_wp2
           repeat (go_quiet (fail); try go_wp2)
           go_ret
           exact ⟨er_, hb1_ HB GE517⟩
          subst c96; rw [if_pos rfl] at H
          by_cases c97 : a0_11 ≥ 1
          rotate_left
          ·
           rw [if_neg c97] at H; have c97b0 := decide_eq_false c97; clear c97; obtain rfl := Option.some.inj H; obtain ⟨hcz107_0, hcz107_1, hcz107_2, hcz107_3, hcz107_4, hcz107_5, hcz107_6, hcz107_7, hcz107_8, hcz107_9, hcz107_10, hcz107_11, hcz107_12, hcz107_13, hcz107_14⟩ := cz15_ BK517; obtain ⟨hfz107_0, hfz107_1, hfz107_2, hfz107_3, hfz107_4, hfz107_5, hfz107_6, hfz107_7, hfz107_8, hfz107_9, hfz107_10, hfz107_11, hfz107_12, hfz107_13, hfz107_14⟩ := fz15_ BK517
           go_wp2
           repeat (go_quiet (fail); try go_wp2)
           go_ret
           exact ⟨er_, hb1_ HB GE517⟩
          rw [if_pos c97] at H; have c97b0 := decide_eq_true c97; clear c97
          by_cases c98 : a0_11 ≤ 100
          rotate_left
          ·
           rw [if_neg c98] at H; have c98b0 := decide_eq_false c98; clear c98; obtain rfl := Option.some.inj H; obtain ⟨hcz106_0, hcz106_1, hcz106_2, hcz106_3, hcz106_4, hcz106_5, hcz106_6, hcz106_7, hcz106_8, hcz106_9, hcz106_10, hcz106_11, hcz106_12, hcz106_13, hcz106_14⟩ := cz15_ BK517; obtain ⟨hfz106_0, hfz106_1, hfz106_2, hfz106_3, hfz106_4, hfz106_5, hfz106_6, hfz106_7, hfz106_8, hfz106_9, hfz106_10, hfz106_11, hfz106_12, hfz106_13, hfz106_14⟩ := fz15_ BK517
           go_wp2
           repeat (go_quiet (fail); try go_wp2)
           go_ret
           exact ⟨er_, hb1_ HB GE517⟩
          rw [if_pos c98] at H; have c98b0 := decide_eq_true c98; clear c98
          by_cases c99 : a0_12 ≥ 1
          rotate_left
          ·
           rw [if_neg c99] at H; have c99b0 := decide_eq_false c99; clear c99; obtain rfl := Option.some.inj H; obtain ⟨hcz105_0, hcz105_1, hcz105_2, hcz105_3, hcz105_4, hcz105_5, hcz105_6, hcz105_7, hcz105_8, hcz105_9, hcz105_10, hcz105_11, hcz105_12, hcz105_13, hcz105_14⟩ := cz15_ BK517; obtain ⟨hfz105_0, hfz105_1, hfz105_2, hfz105_3, hfz105_4, hfz105_5, hfz105_6, hfz105_7, hfz105_8, hfz105_9, hfz105_10, hfz105_11, hfz105_12, hfz105_13, hfz105_14⟩ := fz15_ BK517
           go_wp2
           repeat (go_quiet (fail); try go_wp2)
           go_ret
           exact ⟨er_, hb1_ HB GE517⟩
          rw [if_pos c99] at H; have c99b0 := decide_eq_true c99; clear c99
          by_cases c100 : a0_12 ≤ 100
          rotate_left
          ·
           rw [if_neg c100] at H; have c100b0 := decide_eq_false c100; clear c100; obtain rfl := Option.some.inj H; obtain ⟨hcz104_0, hcz104_1, hcz104_2, hcz104_3, hcz104_4, hcz104_5, hcz104_6, hcz104_7, hcz104_8, hcz104_9, hcz104_10, hcz104_11, hcz104_12, hcz104_13, hcz104_14⟩ := cz15_ BK517; obtain ⟨hfz104_0, hfz104_1, hfz104_2, hfz104_3, hfz104_4, hfz104_5, hfz104_6, hfz104_7, hfz104_8, hfz104_9, hfz104_10, hfz104_11, hfz104_12, hfz104_13, hfz104_14⟩ := fz15_ BK517
           go_wp2
           repeat (go_quiet (fail); try go_wp2)
           go_ret
           exact ⟨er_, hb1_ HB GE517⟩
          rw [if_pos c100] at H; have c100b0 := decide_eq_true c100; clear c100
          by_cases c101 : x6_59 = true
          ·
           subst c101; rw [if_pos rfl] at H; obtain rfl := Option.some.inj H; obtain ⟨hcz102_0, hcz102_1, hcz102_2, hcz102_3, hcz102_4, hcz102_5, hcz102_6, hcz102_7, hcz102_8, hcz102_9, hcz102_10, hcz102_11, hcz102_12, hcz102_13, hcz102_14⟩ := cz15_ BK517; obtain ⟨hfz102_0, hfz102_1, hfz102_2, hfz102_3, hfz102_4, hfz102_5, hfz102_6, hfz102_7, hfz102_8, hfz102_9, hfz102_10, hfz102_11, hfz102_12, hfz102_13, hfz102_14⟩ := fz15_ BK517
           go_wp2
           repeat (go_quiet (fail); try go_wp2)
           go_ret
           exact ⟨er_, hb1_ HB GE517⟩
          replace c101 := Bool.eq_false_iff.mpr c101; subst c101; rw [if_neg nf_] at H; obtain rfl := Option.some.inj H; obtain ⟨hcz103_0, hcz103_1, hcz103_2, hcz103_3, hcz103_4, hcz103_5, hcz103_6, hcz103_7, hcz103_8, hcz103_9, hcz103_10, hcz103_11, hcz103_12, hcz103_13, hcz103_14⟩ := cz15_ BK517; obtain ⟨hfz103_0, hfz103_1, hfz103_2, hfz103_3, hfz103_4, hfz103_5, hfz103_6, hfz103_7, hfz103_8, hfz103_9, hfz103_10, hfz103_11, hfz103_12, hfz103_13, hfz103_14⟩ := fz15_ BK517
          go_wp2
          repeat (go_quiet (fail); try go_wp2)
          go_ret
          exact ⟨er_, hb1_ HB GE517⟩
         rw [if_neg c94] at H; have c94b0 : (a0_1 == 3) = false := beq_eq_false_iff_ne.mpr c94; have c94b1 : (a0_1 != 3) = true := bne_iff_ne.mpr c94
         by_cases c110 : a0_1 = 4
         ·
          rw [if_pos c110] at H; have c110b0 : (a0_1 == 4) = true := beq_iff_eq.mpr c110; have c110b1 : (a0_1 != 4) = false := bne_eq_false_iff_eq.mpr c110; clear c110
          by_cases c111 : x3_59 = true
          rotate_left
          ·
           replace c111 := Bool.eq_false_iff.mpr c111; subst c111; rw [if_neg nf_] at H; obtain rfl := Option.some.inj H; obtain ⟨hcz126_0, hcz126_1, hcz126_2, hcz126_3, hcz126_4, hcz126_5, hcz126_6, hcz126_7, hcz126_8, hcz126_9, hcz126_10, hcz126_11, hcz126_12, hcz126_13, hcz126_14⟩ := cz15_ BK517; obtain ⟨hfz126_0, hfz126_1, hfz126_2, hfz126_3, hfz126_4, hfz126_5, hfz126_6, hfz126_7, hfz126_8, hfz126_9, hfz126_10, hfz126_11, hfz126_12, hfz126_13, hfz126_14⟩ := fz15_ BK517
           go_wp2
           repeat (go_quiet (fail); try go_wp2)
           go_ret
           exact ⟨er_, hb1_ HB GE517⟩
          subst c111; rw [if_pos rfl] at H; replace H := Option.bind_eq_some_iff.mp H; obtain ⟨t530, A1120, H⟩ := H
          (try dsimp only at H)
          have A112 := Aside0.mk A1120; clear A1120
          by_cases c113 : t530 = true
          rotate_left
          ·
           replace c113 := Bool.eq_false_iff.mpr c113; subst c113; rw [if_neg nf_] at H; obtain rfl := Option.some.inj H; obtain ⟨hcz125_0, hcz125_1, hcz125_2, hcz125_3, hcz125_4, hcz125_5, hcz125_6, hcz125_7, hcz125_8, hcz125_9, hcz125_10, hcz125_11, hcz125_12, hcz125_13, hcz125_14⟩ := cz15_ BK517; obtain ⟨hfz125_0, hfz125_1, hfz125_2, hfz125_3, hfz125_4, hfz125_5, hfz125_6, hfz125_7, hfz125_8, hfz125_9, hfz125_10, hfz125_11, hfz125_12, hfz125_13, hfz125_14⟩ := fz15_ BK517
           go_wp2_with (first | (go_at_call 52; (with_reducible refine (haberdashref10_in.calls a0_10 10000000000000 false _ A112.out).mono ?_); rintro e w' ⟨rfl, ⟨nd, rfl⟩⟩; (try exact dq_)))
           repeat (go_quiet (first | (go_at_call 52; (with_reducible refine (haberdashref10_in.calls a0_10 10000000000000 false _ A112.out).mono ?_); rintro e w' ⟨rfl, ⟨nd, rfl⟩⟩; (try exact dq_))); try go_wp2_with (first | (go_at_call 52; (with_reducible refine (haberdashref10_in.calls a0_10 10000000000000 false _ A112.out).mono ?_); rintro e w' ⟨rfl, ⟨nd, rfl⟩⟩; (try exact dq_))))
           go_ret
           exact ⟨er_, hb1_ HB GE517⟩
          subst c113; rw [if_pos rfl] at H
          by_cases c114 : x5_59 = true
          rotate_left
          ·
           replace c114 := Bool.eq_false_iff.mpr c114; subst c114; rw [if_neg nf_] at H; obtain rfl := Option.some.inj H; obtain ⟨hcz124_0, hcz124_1, hcz124_2, hcz124_3, hcz124_4, hcz124_5, hcz124_6, hcz124_7, hcz124_8, hcz124_9, hcz124_10, hcz124_11, hcz124_12, hcz124_13, hcz124_14⟩ := cz15_ BK517; obtain ⟨hfz124_0, hfz124_1, hfz124_2, hfz124_3, hfz124_4, hfz124_5, hfz124_6, hfz124_7, hfz124_8, hfz124_9, hfz124_10, hfz124_11, hfz124_12, hfz124_13, hfz124_14⟩ := fz15_ BK517
           go_wp2_with (first | (go_at_call 52; (with_reducible refine (haberdashref10_in.calls a0_10 10000000000000 true _ A112.out).mono ?_); rintro e w' ⟨rfl, ⟨nd, rfl⟩⟩; (try exact dq_)))
           repeat (go_quiet (first | (go_at_call 52; (with_reducible refine (haberdashref10_in.calls a0_10 10000000000000 true _ A112.out).mono ?_); rintro e w' ⟨rfl, ⟨nd, rfl⟩⟩; (try exact dq_))); try go_wp2_with (first | (go_at_call 52; (with_reducible refine (haberdashref10_in.calls a0_10 10000000000000 true _ A112.out).mono ?_); rintro e w' ⟨rfl, ⟨nd, rfl⟩⟩; (try exact dq_))))
           go_ret
           exact ⟨er_, hb1_ HB GE517⟩
          subst c114; rw [if_pos rfl] at H; replace H := Option.bind_eq_some_iff.mp H; obtain ⟨t531, A1150, H⟩ := H
          (try dsimp only at H)
          have A115 := Aside0.mk A1150; clear A1150
          by_cases c116 : t531 = true
          rotate_left
          ·
           replace c116 := Bool.eq_false_iff.mpr c116; subst c116; rw [if_neg nf_] at H; obtain rfl := Option.some.inj H; obtain ⟨hcz122_0, hcz122_1, hcz122_2, hcz122_3, hcz122_4, hcz122_5, hcz122_6, hcz122_7, hcz122_8, hcz122_9, hcz122_10, hcz122_11, hcz122_12, hcz122_13, hcz122_14⟩ := cz15_ BK517; obtain ⟨hfz122_0, hfz122_1, hfz122_2, hfz122_3, hfz122_4, hfz122_5, hfz122_6, hfz122_7, hfz122_8, hfz122_9, hfz122_10, hfz122_11, hfz122_12, hfz122_13, hfz122_14⟩ := fz15_ BK517
           go_wp2_with (first | (go_at_call 52; (with_reducible refine (haberdashref10_in.calls a0_10 10000000000000 true _ A112.out).mono ?_); rintro e w' ⟨rfl, ⟨nd, rfl⟩⟩; (try exact dq_)) | (go_at_call 73; (with_reducible refine (haberdashref10_parts.calls kj67 _ _ l0_13 false _ ?side1 ?side2 A115.out).mono ?_); (case side1 => exact (Kd.C_below HR0_13.out (hb1_ HB GE517))); (case side2 => exact HC0_13.out); rintro e w123 ⟨rfl, hb⟩; replace BK517 := Aside0.mk (bb_ BK517 hb); replace HB := Aside0.mk (below_step (hb1_ HB GE517) hb); (try clear hb)))
           repeat (go_quiet (first | (go_at_call 52; (with_reducible refine (haberdashref10_in.calls a0_10 10000000000000 true _ A112.out).mono ?_); rintro e w' ⟨rfl, ⟨nd, rfl⟩⟩; (try exact dq_)) | (go_at_call 73; (with_reducible refine (haberdashref10_parts.calls kj67 _ _ l0_13 false _ ?side1 ?side2 A115.out).mono ?_); (case side1 => exact (Kd.C_below HR0_13.out (hb1_ HB GE517))); (case side2 => exact HC0_13.out); rintro e w123 ⟨rfl, hb⟩; replace BK517 := Aside0.mk (bb_ BK517 hb); replace HB := Aside0.mk (below_step (hb1_ HB GE517) hb); (try clear hb))); try go_wp2_with (first | (go_at_call 52; (with_reducible refine (haberdashref10_in.calls a0_10 10000000000000 true _ A112.out).mono ?_); rintro e w' ⟨rfl, ⟨nd, rfl⟩⟩; (try exact dq_)) | (go_at_call 73; (with_reducible refine (haberdashref10_parts.calls kj67 _ _ l0_13 false _ ?side1 ?side2 A115.out).mono ?_); (case side1 => exact (Kd.C_below HR0_13.out (hb1_ HB GE517))); (case side2 => exact HC0_13.out); rintro e w123 ⟨rfl, hb⟩; replace BK517 := Aside0.mk (bb_ BK517 hb); replace HB := Aside0.mk (below_step (hb1_ HB GE517) hb); (try clear hb))))
           go_ret
           exact ⟨er_, hb1_ HB GE517⟩
          subst c116; rw [if_pos rfl] at H
          by_cases c117 : x7_59 = true
          ·
           subst c117; rw [if_pos rfl] at H; obtain rfl := Option.some.inj H; obtain ⟨hcz118_0, hcz118_1, hcz118_2, hcz118_3, hcz118_4, hcz118_5, hcz118_6, hcz118_7, hcz118_8, hcz118_9, hcz118_10, hcz118_11, hcz118_12, hcz118_13, hcz118_14⟩ := cz15_ BK517; obtain ⟨hfz118_0, hfz118_1, hfz118_2, hfz118_3, hfz118_4, hfz118_5, hfz118_6, hfz118_7, hfz118_8, hfz118_9, hfz118_10, hfz118_11, hfz118_12, hfz118_13, hfz118_14⟩ := fz15_ BK517
           go_wp2_with (first | (go_at_call 52; (with_reducible refine (haberdashref10_in.calls a0_10 10000000000000 true _ A112.out).mono ?_); rintro e w' ⟨rfl, ⟨nd, rfl⟩⟩; (try exact dq_)) | (go_at_call 73; (with_reducible refine (haberdashref10_parts.calls kj67 _ _ l0_13 true _ ?side1 ?side2 A115.out).mono ?_); (case side1 => exact (Kd.C_below HR0_13.out (hb1_ HB GE517))); (case side2 => exact HC0_13.out); rintro e w119 ⟨rfl, hb⟩; replace BK517 := Aside0.mk (bb_ BK517 hb); replace HB := Aside0.mk (below_step (hb1_ HB GE517) hb); (try clear hb)))
           repeat (go_quiet (first | (go_at_call 52; (with_reducible refine (haberdashref10_in.calls a0_10 10000000000000 true _ A112.out).mono ?_); rintro e w' ⟨rfl, ⟨nd, rfl⟩⟩; (try exact dq_)) | (go_at_call 73; (with_reducible refine (haberdashref10_parts.calls kj67 _ _ l0_13 true _ ?side1 ?side2 A115.out).mono ?_); (case side1 => exact (Kd.C_below HR0_13.out (hb1_ HB GE517))); (case side2 => exact HC0_13.out); rintro e w119 ⟨rfl, hb⟩; replace BK517 := Aside0.mk (bb_ BK517 hb); replace HB := Aside0.mk (below_step (hb1_ HB GE517) hb); (try clear hb))); try go_wp2_with (first | (go_at_call 52; (with_reducible refine (haberdashref10_in.calls a0_10 10000000000000 true _ A112.out).mono ?_); rintro e w' ⟨rfl, ⟨nd, rfl⟩⟩; (try exact dq_)) | (go_at_call 73; (with_reducible refine (haberdashref10_parts.calls kj67 _ _ l0_13 true _ ?side1 ?side2 A115.out).mono ?_); (case side1 => exact (Kd.C_below HR0_13.out (hb1_ HB GE517))); (case side2 => exact HC0_13.out); rintro e w119 ⟨rfl, hb⟩; replace BK517 := Aside0.mk (bb_ BK517 hb); replace HB := Aside0.mk (below_step (hb1_ HB GE517) hb); (try clear hb))))
           go_ret
           exact ⟨er_, hb1_ HB GE517⟩
          replace c117 := Bool.eq_false_iff.mpr c117; subst c117; rw [if_neg nf_] at H; obtain rfl := Option.some.inj H; obtain ⟨hcz120_0, hcz120_1, hcz120_2, hcz120_3, hcz120_4, hcz120_5, hcz120_6, hcz120_7, hcz120_8, hcz120_9, hcz120_10, hcz120_11, hcz120_12, hcz120_13, hcz120_14⟩ := cz15_ BK517; obtain ⟨hfz120_0, hfz120_1, hfz120_2, hfz120_3, hfz120_4, hfz120_5, hfz120_6, hfz120_7, hfz120_8, hfz120_9, hfz120_10, hfz120_11, hfz120_12, hfz120_13, hfz120_14⟩ := fz15_ BK517
          go_wp2_with (first | (go_at_call 52; (with_reducible refine (haberdashref10_in.calls a0_10 10000000000000 true _ A112.out).mono ?_); rintro e w' ⟨rfl, ⟨nd, rfl⟩⟩; (try exact dq_)) | (go_at_call 73; (with_reducible refine (haberdashref10_parts.calls kj67 _ _ l0_13 true _ ?side1 ?side2 A115.out).mono ?_); (case side1 => exact (Kd.C_below HR0_13.out (hb1_ HB GE517))); (case side2 => exact HC0_13.out); rintro e w121 ⟨rfl, hb⟩; replace BK517 := Aside0.mk (bb_ BK517 hb); replace HB := Aside0.mk (below_step (hb1_ HB GE517) hb); (try clear hb)))
          repeat (go_quiet (first | (go_at_call 52; (with_reducible refine (haberdashref10_in.calls a0_10 10000000000000 true _ A112.out).mono ?_); rintro e w' ⟨rfl, ⟨nd, rfl⟩⟩; (try exact dq_)) | (go_at_call 73; (with_reducible refine (haberdashref10_parts.calls kj67 _ _ l0_13 true _ ?side1 ?side2 A115.out).mono ?_); (case side1 => exact (Kd.C_below HR0_13.out (hb1_ HB GE517))); (case side2 => exact HC0_13.out); rintro e w121 ⟨rfl, hb⟩; replace BK517 := Aside0.mk (bb_ BK517 hb); replace HB := Aside0.mk (below_step (hb1_ HB GE517) hb); (try clear hb))); try go_wp2_with (first | (go_at_call 52; (with_reducible refine (haberdashref10_in.calls a0_10 10000000000000 true _ A112.out).mono ?_); rintro e w' ⟨rfl, ⟨nd, rfl⟩⟩; (try exact dq_)) | (go_at_call 73; (with_reducible refine (haberdashref10_parts.calls kj67 _ _ l0_13 true _ ?side1 ?side2 A115.out).mono ?_); (case side1 => exact (Kd.C_below HR0_13.out (hb1_ HB GE517))); (case side2 => exact HC0_13.out); rintro e w121 ⟨rfl, hb⟩; replace BK517 := Aside0.mk (bb_ BK517 hb); replace HB := Aside0.mk (below_step (hb1_ HB GE517) hb); (try clear hb))))
          go_ret
          exact ⟨er_, hb1_ HB GE517⟩
         rw [if_neg c110] at H; have c110b0 : (a0_1 == 4) = false := beq_eq_false_iff_ne.mpr c110; have c110b1 : (a0_1 != 4) = true := bne_iff_ne.mpr c110
         by_cases c127 : a0_1 = 7
         rotate_left
         ·
          rw [if_neg c127] at H; have c127b0 : (a0_1 == 7) = false := beq_eq_false_iff_ne.mpr c127; have c127b1 : (a0_1 != 7) = true := bne_iff_ne.mpr c127
          by_cases c141 : x3_59 = true
          rotate_left
          ·
           replace c141 := Bool.eq_false_iff.mpr c141; subst c141; rw [if_neg nf_] at H; obtain rfl := Option.some.inj H; obtain ⟨hcz151_0, hcz151_1, hcz151_2, hcz151_3, hcz151_4, hcz151_5, hcz151_6, hcz151_7, hcz151_8, hcz151_9, hcz151_10, hcz151_11, hcz151_12, hcz151_13, hcz151_14⟩ := cz15_ BK517; obtain ⟨hfz151_0, hfz151_1, hfz151_2, hfz151_3, hfz151_4, hfz151_5, hfz151_6, hfz151_7, hfz151_8, hfz151_9, hfz151_10, hfz151_11, hfz151_12, hfz151_13, hfz151_14⟩ := fz15_ BK517
           go_wp2
           repeat (go_quiet (fail); try go_wp2)
           go_ret
           exact ⟨er_, hb1_ HB GE517⟩
          subst c141; rw [if_pos rfl] at H
          by_cases c142 : x4_59 = true
          rotate_left
          ·
           replace c142 := Bool.eq_false_iff.mpr c142; subst c142; rw [if_neg nf_] at H; obtain rfl := Option.some.inj H; obtain ⟨hcz150_0, hcz150_1, hcz150_2, hcz150_3, hcz150_4, hcz150_5, hcz150_6, hcz150_7, hcz150_8, hcz150_9, hcz150_10, hcz150_11, hcz150_12, hcz150_13, hcz150_14⟩ := cz15_ BK517; obtain ⟨hfz150_0, hfz150_1, hfz150_2, hfz150_3, hfz150_4, hfz150_5, hfz150_6, hfz150_7, hfz150_8, hfz150_9, hfz150_10, hfz150_11, hfz150_12, hfz150_13, hfz150_14⟩ := fz15_ BK517
           go_wp2
           repeat (go_quiet (fail); try go_wp2)
           go_ret
           exact ⟨er_, hb1_ HB GE517⟩
          subst c142; rw [if_pos rfl] at H
          by_cases c143 : x5_59 = true
          rotate_left
          ·
           replace c143 := Bool.eq_false_iff.mpr c143; subst c143; rw [if_neg nf_] at H; obtain rfl := Option.some.inj H; obtain ⟨hcz149_0, hcz149_1, hcz149_2, hcz149_3, hcz149_4, hcz149_5, hcz149_6, hcz149_7, hcz149_8, hcz149_9, hcz149_10, hcz149_11, hcz149_12, hcz149_13, hcz149_14⟩ := cz15_ BK517; obtain ⟨hfz149_0, hfz149_1, hfz149_2, hfz149_3, hfz149_4, hfz149_5, hfz149_6, hfz149_7, hfz149_8, hfz149_9, hfz149_10, hfz149_11, hfz149_12, hfz149_13, hfz149_14⟩ := fz15_ BK517
           go_wp2
           repeat (go_quiet (fail); try go_wp2)
           go_ret
           exact ⟨er_, hb1_ HB GE517⟩
          subst c143; rw [if_pos rfl] at H
          by_cases c144 : x6_59 = true
          rotate_left
          ·
           replace c144 := Bool.eq_false_iff.mpr c144; subst c144; rw [if_neg nf_] at H; obtain rfl := Option.some.inj H; obtain ⟨hcz148_0, hcz148_1, hcz148_2, hcz148_3, hcz148_4, hcz148_5, hcz148_6, hcz148_7, hcz148_8, hcz148_9, hcz148_10, hcz148_11, hcz148_12, hcz148_13, hcz148_14⟩ := cz15_ BK517; obtain ⟨hfz148_0, hfz148_1, hfz148_2, hfz148_3, hfz148_4, hfz148_5, hfz148_6, hfz148_7, hfz148_8, hfz148_9, hfz148_10, hfz148_11, hfz148_12, hfz148_13, hfz148_14⟩ := fz15_ BK517
           go_wp2
           repeat (go_quiet (fail); try go_wp2)
           go_ret
           exact ⟨er_, hb1_ HB GE517⟩
          subst c144; rw [if_pos rfl] at H; replace H := Option.bind_eq_some_iff.mp H; obtain ⟨t532, A1450, H⟩ := H
          (try dsimp only at H)
          have A145 := Aside0.mk A1450; clear A1450; obtain rfl := Option.some.inj H; obtain ⟨hcz146_0, hcz146_1, hcz146_2, hcz146_3, hcz146_4, hcz146_5, hcz146_6, hcz146_7, hcz146_8, hcz146_9, hcz146_10, hcz146_11, hcz146_12, hcz146_13, hcz146_14⟩ := cz15_ BK517; obtain ⟨hfz146_0, hfz146_1, hfz146_2, hfz146_3, hfz146_4, hfz146_5, hfz146_6, hfz146_7, hfz146_8, hfz146_9, hfz146_10, hfz146_11, hfz146_12, hfz146_13, hfz146_14⟩ := fz15_ BK517
          go_wp2_with (first | (go_at_call 74; (with_reducible refine (haberdashref10_tiers.calls kj67 _ _ l0_14 t532 _ ?side1 ?side2 A145.out).mono ?_); (case side1 => exact sc_ (Kd.C_below HR0_14.out HB.out)); (case side2 => exact HC0_14.out); rintro e w147 ⟨rfl, hb⟩; replace BK517 := Aside0.mk (bb_ BK517 hb); replace HB := Aside0.mk (below_step (hb1_ HB GE517) hb); (try clear hb)))
          repeat (go_quiet (first | (go_at_call 74; (with_reducible refine (haberdashref10_tiers.calls kj67 _ _ l0_14 t532 _ ?side1 ?side2 A145.out).mono ?_); (case side1 => exact sc_ (Kd.C_below HR0_14.out HB.out)); (case side2 => exact HC0_14.out); rintro e w147 ⟨rfl, hb⟩; replace BK517 := Aside0.mk (bb_ BK517 hb); replace HB := Aside0.mk (below_step (hb1_ HB GE517) hb); (try clear hb))); try go_wp2_with (first | (go_at_call 74; (with_reducible refine (haberdashref10_tiers.calls kj67 _ _ l0_14 t532 _ ?side1 ?side2 A145.out).mono ?_); (case side1 => exact sc_ (Kd.C_below HR0_14.out HB.out)); (case side2 => exact HC0_14.out); rintro e w147 ⟨rfl, hb⟩; replace BK517 := Aside0.mk (bb_ BK517 hb); replace HB := Aside0.mk (below_step (hb1_ HB GE517) hb); (try clear hb))))
          go_ret
          exact ⟨er_, hb1_ HB GE517⟩
         rw [if_pos c127] at H; have c127b0 : (a0_1 == 7) = true := beq_iff_eq.mpr c127; have c127b1 : (a0_1 != 7) = false := bne_eq_false_iff_eq.mpr c127; clear c127
         by_cases c128 : x9_67 = true
         rotate_left
         ·
          replace c128 := Bool.eq_false_iff.mpr c128; subst c128; rw [if_neg nf_] at H; obtain rfl := Option.some.inj H; obtain ⟨hcz140_0, hcz140_1, hcz140_2, hcz140_3, hcz140_4, hcz140_5, hcz140_6, hcz140_7, hcz140_8, hcz140_9, hcz140_10, hcz140_11, hcz140_12, hcz140_13, hcz140_14⟩ := cz15_ BK517; obtain ⟨hfz140_0, hfz140_1, hfz140_2, hfz140_3, hfz140_4, hfz140_5, hfz140_6, hfz140_7, hfz140_8, hfz140_9, hfz140_10, hfz140_11, hfz140_12, hfz140_13, hfz140_14⟩ := fz15_ BK517
          go_wp2
          repeat (go_quiet (fail); try go_wp2)
          go_ret
          exact ⟨er_, hb1_ HB GE517⟩
         subst c128; rw [if_pos rfl] at H
         by_cases c129 : x4_59 = true
         rotate_left
         ·
          replace c129 := Bool.eq_false_iff.mpr c129; subst c129; rw [if_neg nf_] at H; obtain rfl := Option.some.inj H; obtain ⟨hcz139_0, hcz139_1, hcz139_2, hcz139_3, hcz139_4, hcz139_5, hcz139_6, hcz139_7, hcz139_8, hcz139_9, hcz139_10, hcz139_11, hcz139_12, hcz139_13, hcz139_14⟩ := cz15_ BK517; obtain ⟨hfz139_0, hfz139_1, hfz139_2, hfz139_3, hfz139_4, hfz139_5, hfz139_6, hfz139_7, hfz139_8, hfz139_9, hfz139_10, hfz139_11, hfz139_12, hfz139_13, hfz139_14⟩ := fz15_ BK517
          go_wp2
          repeat (go_quiet (fail); try go_wp2)
          go_ret
          exact ⟨er_, hb1_ HB GE517⟩
         subst c129; rw [if_pos rfl] at H
         by_cases c130 : x5_59 = true
         rotate_left
         ·
          replace c130 := Bool.eq_false_iff.mpr c130; subst c130; rw [if_neg nf_] at H; obtain rfl := Option.some.inj H; obtain ⟨hcz138_0, hcz138_1, hcz138_2, hcz138_3, hcz138_4, hcz138_5, hcz138_6, hcz138_7, hcz138_8, hcz138_9, hcz138_10, hcz138_11, hcz138_12, hcz138_13, hcz138_14⟩ := cz15_ BK517; obtain ⟨hfz138_0, hfz138_1, hfz138_2, hfz138_3, hfz138_4, hfz138_5, hfz138_6, hfz138_7, hfz138_8, hfz138_9, hfz138_10, hfz138_11, hfz138_12, hfz138_13, hfz138_14⟩ := fz15_ BK517
          go_wp2
          repeat (go_quiet (fail); try go_wp2)
          go_ret
          exact ⟨er_, hb1_ HB GE517⟩
         subst c130; rw [if_pos rfl] at H
         by_cases c131 : x6_59 = true
         rotate_left
         ·
          replace c131 := Bool.eq_false_iff.mpr c131; subst c131; rw [if_neg nf_] at H; obtain rfl := Option.some.inj H; obtain ⟨hcz137_0, hcz137_1, hcz137_2, hcz137_3, hcz137_4, hcz137_5, hcz137_6, hcz137_7, hcz137_8, hcz137_9, hcz137_10, hcz137_11, hcz137_12, hcz137_13, hcz137_14⟩ := cz15_ BK517; obtain ⟨hfz137_0, hfz137_1, hfz137_2, hfz137_3, hfz137_4, hfz137_5, hfz137_6, hfz137_7, hfz137_8, hfz137_9, hfz137_10, hfz137_11, hfz137_12, hfz137_13, hfz137_14⟩ := fz15_ BK517
          go_wp2
          repeat (go_quiet (fail); try go_wp2)
          go_ret
          exact ⟨er_, hb1_ HB GE517⟩
         subst c131; rw [if_pos rfl] at H
         by_cases c132 : x7_59 = true
         rotate_left
         ·
          replace c132 := Bool.eq_false_iff.mpr c132; subst c132; rw [if_neg nf_] at H; obtain rfl := Option.some.inj H; obtain ⟨hcz136_0, hcz136_1, hcz136_2, hcz136_3, hcz136_4, hcz136_5, hcz136_6, hcz136_7, hcz136_8, hcz136_9, hcz136_10, hcz136_11, hcz136_12, hcz136_13, hcz136_14⟩ := cz15_ BK517; obtain ⟨hfz136_0, hfz136_1, hfz136_2, hfz136_3, hfz136_4, hfz136_5, hfz136_6, hfz136_7, hfz136_8, hfz136_9, hfz136_10, hfz136_11, hfz136_12, hfz136_13, hfz136_14⟩ := fz15_ BK517
          go_wp2
          repeat (go_quiet (fail); try go_wp2)
          go_ret
          exact ⟨er_, hb1_ HB GE517⟩
         subst c132; rw [if_pos rfl] at H
         by_cases c133 : x8_63 = true
         ·
          subst c133; rw [if_pos rfl] at H; obtain rfl := Option.some.inj H; obtain ⟨hcz134_0, hcz134_1, hcz134_2, hcz134_3, hcz134_4, hcz134_5, hcz134_6, hcz134_7, hcz134_8, hcz134_9, hcz134_10, hcz134_11, hcz134_12, hcz134_13, hcz134_14⟩ := cz15_ BK517; obtain ⟨hfz134_0, hfz134_1, hfz134_2, hfz134_3, hfz134_4, hfz134_5, hfz134_6, hfz134_7, hfz134_8, hfz134_9, hfz134_10, hfz134_11, hfz134_12, hfz134_13, hfz134_14⟩ := fz15_ BK517
          go_wp2
          repeat (go_quiet (fail); try go_wp2)
          go_ret
          exact ⟨er_, hb1_ HB GE517⟩
         replace c133 := Bool.eq_false_iff.mpr c133; subst c133; rw [if_neg nf_] at H; obtain rfl := Option.some.inj H; obtain ⟨hcz135_0, hcz135_1, hcz135_2, hcz135_3, hcz135_4, hcz135_5, hcz135_6, hcz135_7, hcz135_8, hcz135_9, hcz135_10, hcz135_11, hcz135_12, hcz135_13, hcz135_14⟩ := cz15_ BK517; obtain ⟨hfz135_0, hfz135_1, hfz135_2, hfz135_3, hfz135_4, hfz135_5, hfz135_6, hfz135_7, hfz135_8, hfz135_9, hfz135_10, hfz135_11, hfz135_12, hfz135_13, hfz135_14⟩ := fz15_ BK517
         go_wp2
         repeat (go_quiet (fail); try go_wp2)
         go_ret
         exact ⟨er_, hb1_ HB GE517⟩

end Go.Proofs.Ytdmeepjefccpgaa.Rw
