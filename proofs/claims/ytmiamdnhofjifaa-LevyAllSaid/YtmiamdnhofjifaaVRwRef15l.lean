/- A contract of the program: out of what the kit's printer wrote for this seat. -/
import Derived.Test.YtmiamdnhofjifaaVRwRef15a
import Derived.Test.YtmiamdnhofjifaaVRwA
namespace Go.Proofs.Ytmiamdnhofjifaa.Rw
open Go.RowKit Go.Proofs.YtmiamdnhofjifaaW.PrintWords Go.Proofs.YtmiamdnhofjifaaW.PrintLast Go.Proofs.YtmiamdnhofjifaaW.PrintMore
attribute [local go_sem] max2_int min2_int max_two min_two max_three min_three max_four min_four   -- for this text's walks alone
set_option linter.unusedVariables false
set_option linter.unusedSimpArgs false
attribute [local go_sem high] leqS gtrS
theorem haberdashref15_Levy.bits25 : waitsOk haberdashref15_Levy.T25.2 haberdashref15_Levy.B25 = true := by kernel_rfl
set_option maxHeartbeats 8000000 in
set_option maxRecDepth 100000 in
theorem haberdashref15_Levy.calls (k : Nat) (a0_0 : Bool) (a0_1 : Bool) (a0_2 : Int) (A0_3 : Option Addr) (c0_3 : Nat) (l0_3 : List (S51)) (a1 : ByteArray) (a2 : Bool) (A3 : Option Addr) (c3 : Nat) (l3 : List ByteArray) (A4 : Option Addr) (c4 : Nat) (l4 : List Int) (a5 : Int) (r1 : List Int) (r2 : List Int) (r3 : Int) (r4 : Int) (r5 : Int) (w : World) (hr0_3 : Kd.C k51 w A0_3 l0_3.length l0_3) (hc0_3 : l0_3.length ≤ c0_3) (hr3 : Kd.C Kd.string w A3 l3.length l3) (hc3 : l3.length ≤ c3) (hr4 : Kd.C (Kd.int .i64) w A4 l4.length l4) (hc4 : l4.length ≤ c4) (h : haberdashref15_Levy.f k a0_0 a0_1 a0_2 l0_3 a1 a2 l3 l4 a5 = some (r1, r2, r3, r4, r5)) :
 Calls Try.prog 12 #[.agg #[.bool a0_0, .bool a0_1, .int .i64 a0_2, .slice A0_3 l0_3.length c0_3], .string a1, .bool a2, .slice A3 l3.length c3, .slice A4 l4.length c4, .int .i64 a5] w fun e w' => ∃ v0_ v1_ : Value, e = .returned (.tuple #[.agg #[v0_, v1_, .int .i64 r3, .int .i64 r4], .int .i64 r5]) ∧ Kd.R (Kd.int .i64) 2 w' w.heap.size (fun k_ => some k_ ≠ (v1_ : Value).ownBlock) v0_ r1 ∧ Kd.R (Kd.int .i64) 2 w' w.heap.size (fun k_ => some k_ ≠ (v0_ : Value).ownBlock) v1_ r2 ∧ Below w.heap.size w w' := by
 have hu24 := Try.underlying24
 have hu37 := Try.underlying37
 have hu51 := Try.underlying51
 have HR0_3 := Aside0.mk hr0_3
 have HC0_3 := Aside0.mk hc0_3
 clear hr0_3 hc0_3
 have HR3 := Aside0.mk hr3
 have HC3 := Aside0.mk hc3
 clear hr3 hc3
 have HR4 := Aside0.mk hr4
 have HC4 := Aside0.mk hc4
 clear hr4 hc4
 have HB := Aside0.mk (Below.refl w.heap.size w)
 have H : ((haberdashref10_Tax.f k a0_0 a0_1 a0_2 l0_3).bind fun t390 => (if t390 = true then (if (l3.length : Int) = (l4.length : Int) then (if (l4.length : Int) > 1000 then (haberdashref15_Levy.j0 k a1 a2 l3 l4 a5 true a0_0 a0_1 a0_2 l0_3) else (if a5 < 0 then (haberdashref15_Levy.j0 k a1 a2 l3 l4 a5 true a0_0 a0_1 a0_2 l0_3) else (haberdashref15_Levy.j0 k a1 a2 l3 l4 a5 (decide (a5 > 10000000000000)) a0_0 a0_1 a0_2 l0_3))) else (haberdashref15_Levy.j0 k a1 a2 l3 l4 a5 true a0_0 a0_1 a0_2 l0_3)) else (haberdashref15_Levy.j0 k a1 a2 l3 l4 a5 true a0_0 a0_1 a0_2 l0_3))) = some (r1, r2, r3, r4, r5) := h
 clear h
 have HC7 := Aside0.mk H
 clear H
 go_enter Try.func12, Try.ntmps12
 go_upto_region 1 with (first | ((with_reducible refine gate_dst (N := 6) rfl ?_); (try (refine gate_guard (by rfl) ?_; dsimp only)); refine box_event rf_ (N := 6) rf_ (cs := #[.bool a0_0, .bool a0_1, .int .i64 a0_2, .slice A0_3 l0_3.length c0_3]) (t := 24) lr_ ?_; intro gb388 hg w8 hbox hb; have BK388 := Aside0.mk hbox; have GW388 := Aside0.mk (ge_ HB hg (hb0_ HB)); have GE388 := Aside0.mk (ge_ HB hg (hb0_ HB)); replace HB := Aside0.mk (below_step (hb0_ HB) hb); clear hb hbox hg) | ((with_reducible refine gate_dst (N := 12) rfl ?_); (try (refine gate_guard (by rfl) ?_; dsimp only)); refine box_event rf_ (N := 12) rf_ (cs := #[.slice none 0 0, .slice none 0 0, .int .i64 0, .int .i64 0]) (t := 37) lr_ ?_; intro gb389 hg w9 hbox hb; have BK389 := Aside0.mk hbox; have GW389 := Aside0.mk (ge_ HB hg (hb1_ HB GE388)); have GE389 := Aside0.mk (ge_ HB hg (hb1_ HB GE388)); replace HB := Aside0.mk (below_step (hb1_ HB GE388) hb); have NB388_389 := Aside0.mk (nl_ BK388 hg); have NB389_388 := Aside0.mk (ng_ BK388 hg); replace BK388 := Aside0.mk (bb_ BK388 hb); clear hb hbox hg))
 (try simp only [Act.put, List.setIfInBounds_toArray, List.set_cons_zero, List.set_cons_succ])
 go_cut [44] (fun v44 wc => ∃ (kq : Nat) (x44_6 : Bool), v44 = .bool x44_6 ∧ Aside0 (haberdashref15_Levy.j0 kq a1 a2 l3 l4 a5 x44_6 a0_0 a0_1 a0_2 l0_3 = some (r1, r2, r3, r4, r5)) ∧ Aside0 (kq ≤ k) ∧ Aside0 (wc.heap[gb388]? = some (.cells #[.bool a0_0, .bool a0_1, .int .i64 a0_2, (.slice A0_3 l0_3.length c0_3)] 24 (0, 0))) ∧ Aside0 (wc.heap[gb389]? = some (.cells #[(.slice none 0 0), (.slice none 0 0), .int .i64 0, .int .i64 0] 37 (0, 0))) ∧ Aside0 (Below w.heap.size w wc))
 case first =>
  have H := HC7.out; clear HC7; replace H := Option.bind_eq_some_iff.mp H; obtain ⟨t390, A100, H⟩ := H; replace H : (if t390 = true then (if (l3.length : Int) = (l4.length : Int) then (if (l4.length : Int) > 1000 then (haberdashref15_Levy.j0 k a1 a2 l3 l4 a5 true a0_0 a0_1 a0_2 l0_3) else (if a5 < 0 then (haberdashref15_Levy.j0 k a1 a2 l3 l4 a5 true a0_0 a0_1 a0_2 l0_3) else (haberdashref15_Levy.j0 k a1 a2 l3 l4 a5 (decide (a5 > 10000000000000)) a0_0 a0_1 a0_2 l0_3))) else (haberdashref15_Levy.j0 k a1 a2 l3 l4 a5 true a0_0 a0_1 a0_2 l0_3)) else (haberdashref15_Levy.j0 k a1 a2 l3 l4 a5 true a0_0 a0_1 a0_2 l0_3)) = some (r1, r2, r3, r4, r5) := H
  have A10 := Aside0.mk A100; clear A100
  by_cases c11 : t390 = true
  rotate_left
  ·
   replace c11 := Bool.eq_false_iff.mpr c11; subst c11; rw [if_neg nf_] at H; have H' := Aside0.mk H; clear H; have hnb27 := NB388_389.out; have hnc27 := NB389_388.out; obtain ⟨hcz28_0, hcz28_1, hcz28_2, hcz28_3⟩ := cz4_ BK388; obtain ⟨hfz28_0, hfz28_1, hfz28_2, hfz28_3⟩ := fz4_ BK388
   go_wp2_with (first | (refine gl_ 27 23 Try.func27 #[.agg #[.bool a0_0, .bool a0_1, .int .i64 a0_2, .slice A0_3 l0_3.length c0_3]] ?_; (with_reducible refine (haberdashref10_Tax.calls k a0_0 a0_1 a0_2 _ _ l0_3 false _ ?side1 ?side2 A10.out).mono ?_); (case side1 => exact sc_ (Kd.C_below HR0_3.out HB.out)); (case side2 => exact HC0_3.out); rintro e w29 ⟨rfl, hb⟩; refine ⟨_, rfl, ?_⟩; replace BK388 := Aside0.mk (bb_ BK388 hb); replace BK389 := Aside0.mk (bb_ BK389 hb); replace HB := Aside0.mk (below_step (hb2_ HB GE388 GE389) hb); (try clear hb)))
   go_meet
   case rel => exact ⟨_, (true), rf_, H', ⟨om_⟩, ⟨bk_ BK388⟩, ⟨bk_ BK389⟩, ⟨hb2_ HB GE388 GE389⟩⟩
  subst c11; rw [if_pos rfl] at H
  by_cases c12 : (l3.length : Int) = (l4.length : Int)
  rotate_left
  ·
   rw [if_neg c12] at H; have c12b0 : ((l3.length : Int) == (l4.length : Int)) = false := beq_eq_false_iff_ne.mpr c12; have c12b1 : ((l3.length : Int) != (l4.length : Int)) = true := bne_iff_ne.mpr c12
   have c12b2 : (l3.length == l4.length) = false := by first | simpa using c12 | (simp at c12 ⊢; omega)
   (first | rw [c12b0] | (simp only [i64_w, i32_w]; rw [c12b0]) | skip)
   have H' := Aside0.mk H; clear H; have hnb24 := NB388_389.out; have hnc24 := NB389_388.out; obtain ⟨hcz25_0, hcz25_1, hcz25_2, hcz25_3⟩ := cz4_ BK388; obtain ⟨hfz25_0, hfz25_1, hfz25_2, hfz25_3⟩ := fz4_ BK388
   go_wp2_with (first | (refine gl_ 27 23 Try.func27 #[.agg #[.bool a0_0, .bool a0_1, .int .i64 a0_2, .slice A0_3 l0_3.length c0_3]] ?_; (with_reducible refine (haberdashref10_Tax.calls k a0_0 a0_1 a0_2 _ _ l0_3 true _ ?side1 ?side2 A10.out).mono ?_); (case side1 => exact sc_ (Kd.C_below HR0_3.out HB.out)); (case side2 => exact HC0_3.out); rintro e w26 ⟨rfl, hb⟩; refine ⟨_, rfl, ?_⟩; replace BK388 := Aside0.mk (bb_ BK388 hb); replace BK389 := Aside0.mk (bb_ BK389 hb); replace HB := Aside0.mk (below_step (hb2_ HB GE388 GE389) hb); (try clear hb)))
   go_meet
   case rel => exact ⟨_, (true), rf_, H', ⟨om_⟩, ⟨bk_ BK388⟩, ⟨bk_ BK389⟩, ⟨hb2_ HB GE388 GE389⟩⟩
  rw [if_pos c12] at H; have c12b0 : ((l3.length : Int) == (l4.length : Int)) = true := beq_iff_eq.mpr c12; have c12b1 : ((l3.length : Int) != (l4.length : Int)) = false := bne_eq_false_iff_eq.mpr c12
  have c12b2 : (l3.length == l4.length) = true := by first | simpa using c12 | (simp at c12 ⊢; omega)
  clear c12
  (first | rw [c12b0] | (simp only [i64_w, i32_w]; rw [c12b0]) | skip)
  by_cases c13 : (l4.length : Int) > 1000
  ·
   rw [if_pos c13] at H; have c13b0 := decide_eq_true c13
   have c13b1 : decide (1000 < l4.length) = true := decide_eq_true (by omega)
   clear c13; have H' := Aside0.mk H; clear H; have hnb14 := NB388_389.out; have hnc14 := NB389_388.out; obtain ⟨hcz15_0, hcz15_1, hcz15_2, hcz15_3⟩ := cz4_ BK388; obtain ⟨hfz15_0, hfz15_1, hfz15_2, hfz15_3⟩ := fz4_ BK388
   go_wp2_with (first | (refine gl_ 27 23 Try.func27 #[.agg #[.bool a0_0, .bool a0_1, .int .i64 a0_2, .slice A0_3 l0_3.length c0_3]] ?_; (with_reducible refine (haberdashref10_Tax.calls k a0_0 a0_1 a0_2 _ _ l0_3 true _ ?side1 ?side2 A10.out).mono ?_); (case side1 => exact sc_ (Kd.C_below HR0_3.out HB.out)); (case side2 => exact HC0_3.out); rintro e w16 ⟨rfl, hb⟩; refine ⟨_, rfl, ?_⟩; replace BK388 := Aside0.mk (bb_ BK388 hb); replace BK389 := Aside0.mk (bb_ BK389 hb); replace HB := Aside0.mk (below_step (hb2_ HB GE388 GE389) hb); (try clear hb)))
   go_meet
   case rel => exact ⟨_, (true), rf_, H', ⟨om_⟩, ⟨bk_ BK388⟩, ⟨bk_ BK389⟩, ⟨hb2_ HB GE388 GE389⟩⟩
  rw [if_neg c13] at H; have c13b0 := decide_eq_false c13
  have c13b1 : decide (1000 < l4.length) = false := decide_eq_false (by omega)
  clear c13
  by_cases c17 : a5 < 0
  rotate_left
  ·
   rw [if_neg c17] at H; have c17b0 := decide_eq_false c17; clear c17; have H' := Aside0.mk H; clear H; have hnb21 := NB388_389.out; have hnc21 := NB389_388.out; obtain ⟨hcz22_0, hcz22_1, hcz22_2, hcz22_3⟩ := cz4_ BK388; obtain ⟨hfz22_0, hfz22_1, hfz22_2, hfz22_3⟩ := fz4_ BK388
   go_wp2_with (first | (refine gl_ 27 23 Try.func27 #[.agg #[.bool a0_0, .bool a0_1, .int .i64 a0_2, .slice A0_3 l0_3.length c0_3]] ?_; (with_reducible refine (haberdashref10_Tax.calls k a0_0 a0_1 a0_2 _ _ l0_3 true _ ?side1 ?side2 A10.out).mono ?_); (case side1 => exact sc_ (Kd.C_below HR0_3.out HB.out)); (case side2 => exact HC0_3.out); rintro e w23 ⟨rfl, hb⟩; refine ⟨_, rfl, ?_⟩; replace BK388 := Aside0.mk (bb_ BK388 hb); replace BK389 := Aside0.mk (bb_ BK389 hb); replace HB := Aside0.mk (below_step (hb2_ HB GE388 GE389) hb); (try clear hb)))
   go_meet
   case rel => exact ⟨_, (decide (a5 > 10000000000000)), rf_, H', ⟨om_⟩, ⟨bk_ BK388⟩, ⟨bk_ BK389⟩, ⟨hb2_ HB GE388 GE389⟩⟩
  rw [if_pos c17] at H; have c17b0 := decide_eq_true c17; clear c17; have H' := Aside0.mk H; clear H; have hnb18 := NB388_389.out; have hnc18 := NB389_388.out; obtain ⟨hcz19_0, hcz19_1, hcz19_2, hcz19_3⟩ := cz4_ BK388; obtain ⟨hfz19_0, hfz19_1, hfz19_2, hfz19_3⟩ := fz4_ BK388
  go_wp2_with (first | (refine gl_ 27 23 Try.func27 #[.agg #[.bool a0_0, .bool a0_1, .int .i64 a0_2, .slice A0_3 l0_3.length c0_3]] ?_; (with_reducible refine (haberdashref10_Tax.calls k a0_0 a0_1 a0_2 _ _ l0_3 true _ ?side1 ?side2 A10.out).mono ?_); (case side1 => exact sc_ (Kd.C_below HR0_3.out HB.out)); (case side2 => exact HC0_3.out); rintro e w20 ⟨rfl, hb⟩; refine ⟨_, rfl, ?_⟩; replace BK388 := Aside0.mk (bb_ BK388 hb); replace BK389 := Aside0.mk (bb_ BK389 hb); replace HB := Aside0.mk (below_step (hb2_ HB GE388 GE389) hb); (try clear hb)))
  go_meet
  case rel => exact ⟨_, (true), rf_, H', ⟨om_⟩, ⟨bk_ BK388⟩, ⟨bk_ BK389⟩, ⟨hb2_ HB GE388 GE389⟩⟩
 case rest =>
  clear HC7; (try clear c1); (try clear c2); (try clear p2); (try clear c3); (try clear c4); (try clear c11); (try clear c12); (try clear c12b0); (try clear c12b1); (try clear c12b2); (try clear c13); (try clear c13b0); (try clear c13b1); (try clear c14); (try clear c17); (try clear c17b0); (try clear c18)
  (try clear c21); (try clear c24); (try clear c27); (try clear hcz15_0 hcz15_1 hcz15_2 hcz15_3); (try clear hcz19_0 hcz19_1 hcz19_2 hcz19_3); (try clear hcz22_0 hcz22_1 hcz22_2 hcz22_3); (try clear hcz25_0 hcz25_1 hcz25_2 hcz25_3); (try clear hcz28_0 hcz28_1 hcz28_2 hcz28_3); (try clear hfz15_0 hfz15_1 hfz15_2 hfz15_3)
  (try clear hfz19_0 hfz19_1 hfz19_2 hfz19_3); (try clear hfz22_0 hfz22_1 hfz22_2 hfz22_3); (try clear hfz25_0 hfz25_1 hfz25_2 hfz25_3); (try clear hfz28_0 hfz28_1 hfz28_2 hfz28_3); obtain ⟨kq, x44_6, rfl, HA, HJ6, BK388, BK389, HB⟩ := hcut
  cases kq with
  | zero => exact absurd HA.out (by simp [haberdashref15_Levy.j0])
  | succ kj6 =>
   have H := HA.out; clear HA
   simp only [haberdashref15_Levy.j0] at H
   by_cases c30 : x44_6 = true
   ·
    subst c30; rw [if_pos rfl] at H
    simp only [Option.some.injEq, Prod.mk.injEq] at H
    obtain ⟨rfl, rfl, rfl, rfl, rfl⟩ := H; have hnb31 := NB389_388.out; have hnc31 := NB388_389.out; obtain ⟨hcz32_0, hcz32_1, hcz32_2, hcz32_3⟩ := cz4_ BK389; obtain ⟨hfz32_0, hfz32_1, hfz32_2, hfz32_3⟩ := fz4_ BK389
    go_wp2
    refine bodyPost_ret (results_ct rfl _ _ gb389 37 #[.slice none 0 0, .slice none 0 0, .int .i64 0, .int .i64 0] (0, 0) _ rfl (bq0_ BK389) Try.underlying37 rfl (by kernel_rfl)) rfl ?_
    exact ⟨_, _, er_, ni_, ni_, hb2_ HB GE388 GE389⟩
   replace c30 := Bool.eq_false_iff.mpr c30; subst c30; rw [if_neg nf_] at H; have H' := Aside0.mk H; clear H
   go_wp2
   (try simp only [addr0])
   go_loopg [14, 15] kj6 (fun kq v14 v15 w' => ∃ (x14_2 : Int) (x15_2 : Int) (x390002_2 : Int) (x390003_2 : Int), v14 = .int .i64 x14_2 ∧ v15 = .int .i64 x15_2 ∧ Aside0 (haberdashref15_Levy.l0 kq a1 a2 l3 l4 a5 x14_2 x15_2 a0_0 a0_1 a0_2 l0_3 = some (r1, r2, r3, r4, r5)) ∧ Aside0 (kq ≤ kj6) ∧ Aside0 (w'.heap[gb388]? = some (.cells #[.bool a0_0, .bool a0_1, .int .i64 a0_2, (.slice A0_3 l0_3.length c0_3)] 24 (0, 0))) ∧ Aside0 (w'.heap[gb389]? = some (.cells #[(.slice none 0 0), (.slice none 0 0), .int .i64 x390002_2, .int .i64 x390003_2] 37 (0, 0))) ∧ Aside0 (Below w.heap.size w w'))
   case atStart => exact ⟨(0), (0), (0), (0), rf_, rf_, H', ⟨Nat.le_refl _⟩, ⟨bk_ BK388⟩, ⟨bk_ BK389⟩, ⟨hb2_ HB GE388 GE389⟩⟩
   case round =>
    clear H'; (try clear c1); (try clear c2); (try clear p2); (try clear c3); (try clear c4); (try clear c11); (try clear c12); (try clear c12b0); (try clear c12b1); (try clear c12b2); (try clear c13); (try clear c13b0); (try clear c13b1); (try clear c14); (try clear c17); (try clear c17b0); (try clear c18)
    (try clear c21); (try clear c24); (try clear c27); (try clear c30); (try clear c31); (try clear hcz15_0 hcz15_1 hcz15_2 hcz15_3); (try clear hcz19_0 hcz19_1 hcz19_2 hcz19_3); (try clear hcz22_0 hcz22_1 hcz22_2 hcz22_3); (try clear hcz25_0 hcz25_1 hcz25_2 hcz25_3); (try clear hcz28_0 hcz28_1 hcz28_2 hcz28_3)
    (try clear hcz32_0 hcz32_1 hcz32_2 hcz32_3); (try clear hfz15_0 hfz15_1 hfz15_2 hfz15_3); (try clear hfz19_0 hfz19_1 hfz19_2 hfz19_3); (try clear hfz22_0 hfz22_1 hfz22_2 hfz22_3); (try clear hfz25_0 hfz25_1 hfz25_2 hfz25_3); (try clear hfz28_0 hfz28_1 hfz28_2 hfz28_3); (try clear hfz32_0 hfz32_1 hfz32_2 hfz32_3)
    (try clear p2); obtain ⟨x14_2, x15_2, x390002_2, x390003_2, rfl, rfl, HA, HK2, BK388, BK389, HB⟩ := hrel
    cases gk with
    | zero => exact absurd HA.out (by simp [haberdashref15_Levy.l0])
    | succ k2 =>
     have H := HA.out; clear HA
     simp only [haberdashref15_Levy.l0] at H
     by_cases c33 : x15_2 < (l4.length : Int)
     ·
      rw [if_pos c33] at H; have c33b0 := decide_eq_true c33; clear c33; replace H := ip_ H; obtain ⟨c34, H⟩ := H; have c34b0 := decide_eq_true c34; clear c34
      by_cases c35 : (rd l4 x15_2) < 0
      ·
       rw [if_pos c35] at H; have c35b0 := decide_eq_true c35; clear c35
       simp only [Option.some.injEq, Prod.mk.injEq] at H
       obtain ⟨rfl, rfl, rfl, rfl, rfl⟩ := H; have p391 : 0 ≤ (x15_2 : Int) := of_decide_eq_true as_; have q391 : x15_2 < (l4.length : Int) := of_decide_eq_true as_; obtain ⟨ad391, e391, hx391_0⟩ := Kd.at_int HR4.out x15_2 p391 q391; cases e391; replace hx391_0 := hd_ HB hx391_0; replace p391 := eq_true p391
       replace q391 := eq_true q391; have hnb36 := NB389_388.out; have hnc36 := NB388_389.out; obtain ⟨hcz37_0, hcz37_1, hcz37_2, hcz37_3⟩ := cz4_ BK389; obtain ⟨hfz37_0, hfz37_1, hfz37_2, hfz37_3⟩ := fz4_ BK389
       go_wp2
       refine bodyPost_ret (results_ct rfl _ _ gb389 37 #[.slice none 0 0, .slice none 0 0, .int .i64 0, .int .i64 0] (0, 0) _ rfl (bq0_ BK389) Try.underlying37 rfl (by kernel_rfl)) rfl ?_
       exact ⟨_, _, er_, ni_, ni_, hb2_ HB GE388 GE389⟩
      rw [if_neg c35] at H; have c35b0 := decide_eq_false c35; clear c35
      by_cases c38 : (rd l4 x15_2) > (wrap64 (10000000000000 - x14_2))
      ·
       rw [if_pos c38] at H; have c38b0 := decide_eq_true c38; clear c38
       simp only [Option.some.injEq, Prod.mk.injEq] at H
       obtain ⟨rfl, rfl, rfl, rfl, rfl⟩ := H; have p391 : 0 ≤ (x15_2 : Int) := of_decide_eq_true as_; have q391 : x15_2 < (l4.length : Int) := of_decide_eq_true as_; obtain ⟨ad391, e391, hx391_0⟩ := Kd.at_int HR4.out x15_2 p391 q391; cases e391; replace hx391_0 := hd_ HB hx391_0; replace p391 := eq_true p391
       replace q391 := eq_true q391; have p392 : 0 ≤ (x15_2 : Int) := of_decide_eq_true as_; have q392 : x15_2 < (l4.length : Int) := of_decide_eq_true as_; obtain ⟨ad392, e392, hx392_0⟩ := Kd.at_int HR4.out x15_2 p392 q392
       obtain rfl : ad391 = ad392 := (by injection e392)
       replace hx392_0 := hd_ HB hx392_0; replace p392 := eq_true p392; replace q392 := eq_true q392; have hnb39 := NB389_388.out; have hnc39 := NB388_389.out; obtain ⟨hcz40_0, hcz40_1, hcz40_2, hcz40_3⟩ := cz4_ BK389; obtain ⟨hfz40_0, hfz40_1, hfz40_2, hfz40_3⟩ := fz4_ BK389
       go_wp2
       refine bodyPost_ret (results_ct rfl _ _ gb389 37 #[.slice none 0 0, .slice none 0 0, .int .i64 0, .int .i64 0] (0, 0) _ rfl (bq0_ BK389) Try.underlying37 rfl (by kernel_rfl)) rfl ?_
       exact ⟨_, _, er_, ni_, ni_, hb2_ HB GE388 GE389⟩
      rw [if_neg c38] at H; have c38b0 := decide_eq_false c38; clear c38; have H' := Aside0.mk H; clear H; have p391 : 0 ≤ (x15_2 : Int) := of_decide_eq_true as_; have q391 : x15_2 < (l4.length : Int) := of_decide_eq_true as_; obtain ⟨ad391, e391, hx391_0⟩ := Kd.at_int HR4.out x15_2 p391 q391; cases e391
      replace hx391_0 := hd_ HB hx391_0; replace p391 := eq_true p391; replace q391 := eq_true q391; have p392 : 0 ≤ (x15_2 : Int) := of_decide_eq_true as_; have q392 : x15_2 < (l4.length : Int) := of_decide_eq_true as_; obtain ⟨ad392, e392, hx392_0⟩ := Kd.at_int HR4.out x15_2 p392 q392
      obtain rfl : ad391 = ad392 := (by injection e392)
      replace hx392_0 := hd_ HB hx392_0; replace p392 := eq_true p392; replace q392 := eq_true q392; have p393 : 0 ≤ (x15_2 : Int) := of_decide_eq_true as_; have q393 : x15_2 < (l4.length : Int) := of_decide_eq_true as_; obtain ⟨ad393, e393, hx393_0⟩ := Kd.at_int HR4.out x15_2 p393 q393
      obtain rfl : ad391 = ad393 := (by injection e393)
      replace hx393_0 := hd_ HB hx393_0; replace p393 := eq_true p393; replace q393 := eq_true q393
      go_wp2
      go_roundg k2
      case measure => have := HJ6.out; have := HK2.out; omega
      case rel => exact ⟨(wrap64 (x14_2 + (rd l4 x15_2))), (wrap64 (x15_2 + 1)), (x390002_2), (x390003_2), rf_, rf_, H', ⟨ho2_ HJ6 HK2⟩, ⟨bk_ BK388⟩, ⟨bk_ BK389⟩, ⟨hb2_ HB GE388 GE389⟩⟩
     rw [if_neg c33] at H; have c33b0 := decide_eq_false c33; clear c33; replace H := Option.bind_eq_some_iff.mp H; obtain ⟨⟨t394, t395, t398, t399, t400⟩, A410, H⟩ := H
     replace H : (if t400 = true then ((some (([] : List Int) : List Int)).bind fun y402 => (if y402.length + l4.length < 17592186044416 then ((haberdashref15_part.f k2 a0_0 a0_1 a0_2 l0_3 a5 t399).bind fun t408 => (haberdashref15_Levy.l1 k2 a2 l3 l4 a5 ([] : List Int) 0 a0_0 a0_1 a0_2 l0_3 t394 t395 t398 t399 (y402 ++ l4) ([] : List Int) a5 t408)) else (none))) else (some (([] : List Int), ([] : List Int), 0, 0, 7))) = some (r1, r2, r3, r4, r5) := H
     have A41 := Aside0.mk A410; clear A410
     by_cases c42 : t400 = true
     rotate_left
     ·
      replace c42 := Bool.eq_false_iff.mpr c42; subst c42; rw [if_neg nf_] at H
      simp only [Option.some.injEq, Prod.mk.injEq] at H
      obtain ⟨rfl, rfl, rfl, rfl, rfl⟩ := H; have hnb175 := NB388_389.out; have hnc175 := NB389_388.out; obtain ⟨hcz176_0, hcz176_1, hcz176_2, hcz176_3⟩ := cz4_ BK388; obtain ⟨hfz176_0, hfz176_1, hfz176_2, hfz176_3⟩ := fz4_ BK388
      go_wp2_with (first | (refine gl_ 28 76 Try.func28 #[.agg #[.bool a0_0, .bool a0_1, .int .i64 a0_2, .slice A0_3 l0_3.length c0_3], .string a1] ?_; (with_reducible refine (haberdashref10_Zone.calls k2 a0_0 a0_1 a0_2 (fun k_ => k_ < w.heap.size) _ _ l0_3 a1 t394 t395 t398 t399 false _ ?side1 A41.out).mono ?_); (case side1 => exact Kd.V_mk HC0_3.out (Kd.F_below (Kd.C_F k51_heap HR0_3.out) (hb2_ HB GE388 GE389))); rintro e w177 ⟨v396, rfl, ho0, hb⟩; refine ⟨_, rfl, ?_⟩; have HO397 := Aside0.mk (Kd.V_lower (Kd.V_mono (ok' := fun k_ => k_ ≠ gb388 ∧ k_ ≠ gb389) ho0 (fun k_ hk_ => ⟨Or.elim hk_ (fun hs_ => fun e_ => Nat.not_le.2 hs_ (by rw [e_]; exact GW388.out)) (fun hn_ => (Kd.freshB (g := gb388) (o := .cells #[.bool a0_0, .bool a0_1, .int .i64 a0_2, .slice A0_3 l0_3.length c0_3] 24 (0, 0)) (bk_ BK388) k_ hn_)), Or.elim hk_ (fun hs_ => fun e_ => Nat.not_le.2 hs_ (by rw [e_]; exact GW389.out)) (fun hn_ => (Kd.freshB (g := gb389) (o := .cells #[.slice none 0 0, .slice none 0 0, .int .i64 x390002_2, .int .i64 x390003_2] 37 (0, 0)) (bk_ BK389) k_ hn_))⟩)) (below_size (hb2_ HB GE388 GE389))); replace BK388 := Aside0.mk (bb_ BK388 hb); replace BK389 := Aside0.mk (bb_ BK389 hb); replace HB := Aside0.mk (below_step (hb2_ HB GE388 GE389) hb); (try clear hb); (try clear ho0)) | ((with_reducible refine gate_dst (N := 16) rfl ?_); (try (refine gate_guard (by rfl) ?_; dsimp only)); refine box_event rf_ (N := 16) rf_ (cs := #[.string (⟨#[]⟩ : ByteArray), .slice none 0 0, .int .i64 0, .int .i64 0]) (t := 51) lr_ ?_; intro gb401 hg w178 hbox hb; replace HO397 := Aside0.mk (Kd.V_below (Kd.V_elderB (vo_ HO397) gb401 (Nat.le_of_eq hg.symm)) hb); have BK401 := Aside0.mk hbox; have GE401 := Aside0.mk (ge_ HB hg (hb2_ HB GE388 GE389)); replace HB := Aside0.mk (below_step (hb2_ HB GE388 GE389) hb); have NB388_401 := Aside0.mk (nl_ BK388 hg); have NB401_388 := Aside0.mk (ng_ BK388 hg); replace BK388 := Aside0.mk (bb_ BK388 hb); have NB389_401 := Aside0.mk (nl_ BK389 hg); have NB401_389 := Aside0.mk (ng_ BK389 hg); replace BK389 := Aside0.mk (bb_ BK389 hb); clear hb hbox hg; have hnb179 := NB401_388.out; have hnc179 := NB388_401.out; have hnb180 := NB401_389.out; have hnc180 := NB389_401.out; obtain ⟨hcz181_0, hcz181_1, hcz181_2, hcz181_3⟩ := cz4_ BK401; obtain ⟨hfz181_0, hfz181_1, hfz181_2, hfz181_3⟩ := fz4_ BK401; obtain ⟨Ao182, co182, eo182⟩ := Kd.V_slice HO397.out; subst eo182; obtain ⟨hcz183_0, hcz183_1, hcz183_2, hcz183_3⟩ := cz4_ BK389; obtain ⟨hfz183_0, hfz183_1, hfz183_2, hfz183_3⟩ := fz4_ BK389))
      refine bodyPost_ret (results_ct rfl _ _ gb389 37 #[.slice none 0 0, .slice none 0 0, .int .i64 0, .int .i64 0] (0, 0) _ rfl (bq1_ BK389 NB389_401) Try.underlying37 rfl (by kernel_rfl)) rfl ?_
      exact ⟨_, _, er_, ni_, ni_, hb3_ HB GE388 GE389 GE401⟩
     subst c42; rw [if_pos rfl] at H; obtain ⟨y402, hy402⟩ : ∃ y_ : List Int, y_ = (([] : List Int)) := ⟨_, rfl⟩
     replace H : (if y402.length + l4.length < 17592186044416 then ((haberdashref15_part.f k2 a0_0 a0_1 a0_2 l0_3 a5 t399).bind fun t408 => (haberdashref15_Levy.l1 k2 a2 l3 l4 a5 ([] : List Int) 0 a0_0 a0_1 a0_2 l0_3 t394 t395 t398 t399 (y402 ++ l4) ([] : List Int) a5 t408)) else (none)) = some (r1, r2, r3, r4, r5) := hy_ hy402 H
     have Ny402 := Aside0.mk hy402; clear hy402; replace H := ip_ H; obtain ⟨c43, H⟩ := H; have LMc43 := Aside0.mk c43; clear c43; obtain ⟨y405, hy405⟩ : ∃ y_ : List Int, y_ = (y402 ++ l4) := ⟨_, rfl⟩
     replace H : ((haberdashref15_part.f k2 a0_0 a0_1 a0_2 l0_3 a5 t399).bind fun t408 => (haberdashref15_Levy.l1 k2 a2 l3 l4 a5 ([] : List Int) 0 a0_0 a0_1 a0_2 l0_3 t394 t395 t398 t399 y405 ([] : List Int) a5 t408)) = some (r1, r2, r3, r4, r5) := hy_ hy405 H
     have Ny405 := Aside0.mk hy405; clear hy405; replace H := Option.bind_eq_some_iff.mp H; obtain ⟨t408, A440, H⟩ := H; replace H : (haberdashref15_Levy.l1 k2 a2 l3 l4 a5 ([] : List Int) 0 a0_0 a0_1 a0_2 l0_3 t394 t395 t398 t399 y405 ([] : List Int) a5 t408) = some (r1, r2, r3, r4, r5) := H; have A44 := Aside0.mk A440
     clear A440; have H' := Aside0.mk H; clear H; have hnb45 := NB388_389.out; have hnc45 := NB389_388.out; obtain ⟨hcz46_0, hcz46_1, hcz46_2, hcz46_3⟩ := cz4_ BK388; obtain ⟨hfz46_0, hfz46_1, hfz46_2, hfz46_3⟩ := fz4_ BK388
     try go_wp2_with (first | (refine gl_ 28 76 Try.func28 #[.agg #[.bool a0_0, .bool a0_1, .int .i64 a0_2, .slice A0_3 l0_3.length c0_3], .string a1] ?_; (with_reducible refine (haberdashref10_Zone.calls k2 a0_0 a0_1 a0_2 (fun k_ => k_ < w.heap.size) _ _ l0_3 a1 t394 t395 t398 t399 true _ ?side1 A41.out).mono ?_); (case side1 => exact Kd.V_mk HC0_3.out (Kd.F_below (Kd.C_F k51_heap HR0_3.out) (hb2_ HB GE388 GE389))); rintro e w47 ⟨v396, rfl, ho0, hb⟩; refine ⟨_, rfl, ?_⟩; have HO397 := Aside0.mk (Kd.V_lower (Kd.V_mono (ok' := fun k_ => k_ ≠ gb388 ∧ k_ ≠ gb389) ho0 (fun k_ hk_ => ⟨Or.elim hk_ (fun hs_ => fun e_ => Nat.not_le.2 hs_ (by rw [e_]; exact GW388.out)) (fun hn_ => (Kd.freshB (g := gb388) (o := .cells #[.bool a0_0, .bool a0_1, .int .i64 a0_2, .slice A0_3 l0_3.length c0_3] 24 (0, 0)) (bk_ BK388) k_ hn_)), Or.elim hk_ (fun hs_ => fun e_ => Nat.not_le.2 hs_ (by rw [e_]; exact GW389.out)) (fun hn_ => (Kd.freshB (g := gb389) (o := .cells #[.slice none 0 0, .slice none 0 0, .int .i64 x390002_2, .int .i64 x390003_2] 37 (0, 0)) (bk_ BK389) k_ hn_))⟩)) (below_size (hb2_ HB GE388 GE389))); replace BK388 := Aside0.mk (bb_ BK388 hb); replace BK389 := Aside0.mk (bb_ BK389 hb); replace HB := Aside0.mk (below_step (hb2_ HB GE388 GE389) hb); (try clear hb); (try clear ho0)) | ((with_reducible refine gate_dst (N := 16) rfl ?_); (try (refine gate_guard (by rfl) ?_; dsimp only)); refine box_event rf_ (N := 16) rf_ (cs := #[.string (⟨#[]⟩ : ByteArray), .slice none 0 0, .int .i64 0, .int .i64 0]) (t := 51) lr_ ?_; intro gb401 hg w48 hbox hb; replace HO397 := Aside0.mk (Kd.V_below (Kd.V_elderB (vo_ HO397) gb401 (Nat.le_of_eq hg.symm)) hb); have BK401 := Aside0.mk hbox; have GE401 := Aside0.mk (ge_ HB hg (hb2_ HB GE388 GE389)); replace HB := Aside0.mk (below_step (hb2_ HB GE388 GE389) hb); have NB388_401 := Aside0.mk (nl_ BK388 hg); have NB401_388 := Aside0.mk (ng_ BK388 hg); replace BK388 := Aside0.mk (bb_ BK388 hb); have NB389_401 := Aside0.mk (nl_ BK389 hg); have NB401_389 := Aside0.mk (ng_ BK389 hg); replace BK389 := Aside0.mk (bb_ BK389 hb); clear hb hbox hg; have hnb49 := NB401_388.out; have hnc49 := NB388_401.out; have hnb50 := NB401_389.out; have hnc50 := NB389_401.out; obtain ⟨hcz51_0, hcz51_1, hcz51_2, hcz51_3⟩ := cz4_ BK401; obtain ⟨hfz51_0, hfz51_1, hfz51_2, hfz51_3⟩ := fz4_ BK401; obtain ⟨Ao52, co52, eo52⟩ := Kd.V_slice HO397.out; subst eo52))
     have n0_ : Aside0 (Kd.V k56 56 ((((w48.setCell ⟨gb401, 0, none⟩ (.string t394)).setCell ⟨gb401, 1, none⟩ (.slice Ao52 t395.length co52)).setCell ⟨gb401, 2, none⟩ (.int .i64 t398)).setCell ⟨gb401, 3, none⟩ (.int .i64 t399)) w.heap.size (fun k_ => k_ ≠ gb388 ∧ k_ ≠ gb389 ∧ k_ ≠ gb401) (.slice Ao52 t395.length co52) t395) := ⟨by (with_reducible repeat (first | apply Kd.V_alloc | apply Kd.V_drewN | apply Kd.V_drew)); exact Kd.V_mono (Kd.V_far (p := ⟨gb401, 3, none⟩) (Kd.V_far (p := ⟨gb401, 2, none⟩) (Kd.V_far (p := ⟨gb401, 1, none⟩) (Kd.V_far (p := ⟨gb401, 0, none⟩) (Kd.V_mono HO397.out (fun k_ hk => (⟨hk, hk.2⟩ : _ ∧ k_ ≠ gb401))) (fun _ hk => hk.2) (.string t394)) (fun _ hk => hk.2) (.slice Ao52 t395.length co52)) (fun _ hk => hk.2) (.int .i64 t398)) (fun _ hk => hk.2) (.int .i64 t399)) (fun _ hk => ⟨hk.1.1.1, ⟨hk.1.1.2, hk.1.2⟩⟩)⟩
     have n1_ : Aside0 (((((w48.setCell ⟨gb401, 0, none⟩ (.string t394)).setCell ⟨gb401, 1, none⟩ (.slice Ao52 t395.length co52)).setCell ⟨gb401, 2, none⟩ (.int .i64 t398)).setCell ⟨gb401, 3, none⟩ (.int .i64 t399)).heap[gb388]? = some (.cells #[.bool a0_0, .bool a0_1, .int .i64 a0_2, .slice A0_3 l0_3.length c0_3] 24 (0, 0))) := ⟨bf4_ BK388 NB388_401 NB388_401 NB388_401 NB388_401⟩
     have n2_ : Aside0 (((((w48.setCell ⟨gb401, 0, none⟩ (.string t394)).setCell ⟨gb401, 1, none⟩ (.slice Ao52 t395.length co52)).setCell ⟨gb401, 2, none⟩ (.int .i64 t398)).setCell ⟨gb401, 3, none⟩ (.int .i64 t399)).heap[gb389]? = some (.cells #[.slice none 0 0, .slice none 0 0, .int .i64 x390002_2, .int .i64 x390003_2] 37 (0, 0))) := ⟨bf4_ BK389 NB389_401 NB389_401 NB389_401 NB389_401⟩
     have n3_ : Aside0 (((((w48.setCell ⟨gb401, 0, none⟩ (.string t394)).setCell ⟨gb401, 1, none⟩ (.slice Ao52 t395.length co52)).setCell ⟨gb401, 2, none⟩ (.int .i64 t398)).setCell ⟨gb401, 3, none⟩ (.int .i64 t399)).heap[gb401]? = some (.cells #[.string t394, .slice Ao52 t395.length co52, .int .i64 t398, .int .i64 t399] 51 (0, 0))) := ⟨bq0_ BK401⟩
     have n4_ : Aside0 (Below w.heap.size w ((((w48.setCell ⟨gb401, 0, none⟩ (.string t394)).setCell ⟨gb401, 1, none⟩ (.slice Ao52 t395.length co52)).setCell ⟨gb401, 2, none⟩ (.int .i64 t398)).setCell ⟨gb401, 3, none⟩ (.int .i64 t399))) := ⟨hb3_ HB GE388 GE389 GE401⟩; (try clear HO397); (try clear BK388)
     (try clear BK389); (try clear BK401); (try clear HB)
     generalize ((((w48.setCell ⟨gb401, 0, none⟩ (.string t394)).setCell ⟨gb401, 1, none⟩ (.slice Ao52 t395.length co52)).setCell ⟨gb401, 2, none⟩ (.int .i64 t398)).setCell ⟨gb401, 3, none⟩ (.int .i64 t399)) = w53 at n0_ n1_ n2_ n3_ n4_ ⊢
     have HO397 := n0_; have BK388 := n1_; have BK389 := n2_; have BK401 := n3_; have HB := n4_; clear n0_ n1_ n2_ n3_ n4_; replace HO397 := Aside0.mk (Kd.V_drew HO397.out); replace BK388 := Aside0.mk (blk_drew BK388.out); replace BK389 := Aside0.mk (blk_drew BK389.out); replace BK401 := Aside0.mk (blk_drew BK401.out)
     replace HB := Aside0.mk (below_drew1 HB.out)
     refine start_ (n := 12) (S := fun w' => w'.cell? ⟨gb388, 0, none⟩ = some (.bool a0_0) ∧ w'.cell? ⟨gb388, 1, none⟩ = some (.bool a0_1) ∧ w'.cell? ⟨gb388, 2, none⟩ = some (.int .i64 a0_2) ∧ w'.cell? ⟨gb388, 3, none⟩ = some (.slice A0_3 l0_3.length c0_3) ∧ w'.cell? ⟨gb401, 0, none⟩ = some (.string t394) ∧ w'.cell? ⟨gb401, 1, none⟩ = some (.slice Ao52 t395.length co52) ∧ w'.cell? ⟨gb401, 2, none⟩ = some (.int .i64 t398) ∧ w'.cell? ⟨gb401, 3, none⟩ = some (.int .i64 t399)) (ds := []) (mk 12 0) (by kernel_rfl) rfl rfl ⟨cl_ BK388 0, cl_ BK388 1, cl_ BK388 2, cl_ BK388 3, cl_ BK401 0, cl_ BK401 1, cl_ BK401 2, cl_ BK401 3⟩ (fun hHeld => ?_); refine with_tabW haberdashref15_Levy.tab13 haberdashref15_Levy.bits13 (fun HT_ HW_ => ?_)
     generalize w53.drew = w54 at HO397 BK388 BK389 BK401 HB hHeld ⊢
     refine ahead_ [(1, 83), (3, 85), (5, 87), (6, 88)] ?_
     iterate 4 (refine pB_ HT_ ?_)
     refine aheadE_ (mk 12 106) kr_ ?_
     refine ahead_ [(4, 86), (7, 89)] ?_
     iterate 2 (refine tA_ (v := ?_) (a' := ?_) rfl rfl HT_.out HW_.out (by kernel_rfl) (fun _ _ _ h => h) (Or.inl ⟨by rfl, ?_⟩) hHeld ?_ ?_; rotate_left; (rintro w' ⟨s0, s1, s2, s3, s4, s5, s6, s7⟩; go_simp; with_reducible rfl); rotate_left; (exact pu_))
     refine aheadE_ (mk 12 250) kr_ ?_
     refine join_ (σ := Value × Value × Nat) 1 (mk 12 2047) (fun s_ => [(82, s_.1), (84, s_.2.1), (90, .int .i64 t408), (18, .pointer (some ⟨s_.2.2, 0, none⟩)), (91, .agg #[s_.2.1, .slice none 0 0, .int .i64 a5, .int .i64 t408])]) (fun s_ w' => (w'.cell? ⟨gb388, 0, none⟩ = some (.bool a0_0) ∧ w'.cell? ⟨gb388, 1, none⟩ = some (.bool a0_1) ∧ w'.cell? ⟨gb388, 2, none⟩ = some (.int .i64 a0_2) ∧ w'.cell? ⟨gb388, 3, none⟩ = some (.slice A0_3 l0_3.length c0_3) ∧ w'.cell? ⟨gb401, 0, none⟩ = some (.string t394) ∧ w'.cell? ⟨gb401, 1, none⟩ = some (.slice Ao52 t395.length co52) ∧ w'.cell? ⟨gb401, 2, none⟩ = some (.int .i64 t398) ∧ w'.cell? ⟨gb401, 3, none⟩ = some (.int .i64 t399)) ∧ (Kd.V k56 56 w' w.heap.size (fun k_ => some k_ ≠ (s_.2.1 : Value).ownBlock ∧ k_ ≠ gb388 ∧ k_ ≠ gb389 ∧ k_ ≠ gb401 ∧ k_ ≠ s_.2.2) (.slice Ao52 t395.length co52) t395) ∧ (Kd.R (Kd.int .i64) 2 w' w.heap.size (fun _ => True) s_.2.1 y405) ∧ (w'.heap[gb388]? = some (.cells #[.bool a0_0, .bool a0_1, .int .i64 a0_2, .slice A0_3 l0_3.length c0_3] 24 (0, 0))) ∧ (w'.heap[gb389]? = some (.cells #[.slice none 0 0, .slice none 0 0, .int .i64 x390002_2, .int .i64 x390003_2] 37 (0, 0))) ∧ (w'.heap[gb401]? = some (.cells #[.string t394, .slice Ao52 t395.length co52, .int .i64 t398, .int .i64 t399] 51 (0, 0))) ∧ (w'.heap[s_.2.2]? = some (.cells #[.slice none 0 0, .slice none 0 0, .int .i64 0, .int .i64 0] 37 (0, 0))) ∧ (w.heap.size ≤ s_.2.2) ∧ (w.heap.size ≤ s_.2.2) ∧ (gb388 ≠ s_.2.2) ∧ (s_.2.2 ≠ gb388) ∧ (gb389 ≠ s_.2.2) ∧ (s_.2.2 ≠ gb389) ∧ (gb401 ≠ s_.2.2) ∧ (s_.2.2 ≠ gb401) ∧ (Below w.heap.size w w')) ?_ ?_
     rotate_left
     ·
      intro hCont
      refine two_ (i := 0) (j := 10) (Ni := some 82) (Nj := some 18) (mk 12 251) (mk 12 1274) rfl rfl rfl rfl (two_of HT_.out (by kernel_rfl)) (by decide) (by decide) (fun K hK => ?_) (fun K hK => ?_)
      ·
       skip
       refine Kd.R_lit_step (Kd.int .i64) _ 2 rf_ (N := 82) rf_ (xs := ([] : List Int)) (inner := []) (ok := fun _ => True) (okp := fun _ => True) lr_ ?hp (fun _ hk => hk) trivial (Below.refl _ _) (Nat.le_refl _) (by simp) ?_; (case hp => exact (Reps.none _ _))
       intro v403 w55 ho56 hb hg_ hnew_
       clear hg_ hnew_
       (first | rw [← Ny402.out] at ho56 | (simp only [Int.reduceToNat] at ho56; rw [← Ny402.out] at ho56))
       replace HO397 := Aside0.mk (Kd.V_elder' (vo_ HO397) (Kd.R_base ho56) hb); have HO404 := Aside0.mk (Kd.R_lower ho56 (below_size (hb3_ HB GE388 GE389 GE401))); replace BK388 := Aside0.mk (bb_ BK388 hb); replace BK389 := Aside0.mk (bb_ BK389 hb); replace BK401 := Aside0.mk (bb_ BK401 hb); replace HB := Aside0.mk (below_step (hb3_ HB GE388 GE389 GE401) hb)
       clear hb ho56
       refine hK.out _ _ ⟨cl_ BK388 0, cl_ BK388 1, cl_ BK388 2, cl_ BK388 3, cl_ BK401 0, cl_ BK401 1, cl_ BK401 2, cl_ BK401 3⟩ (fun hHeld => ?_)
       clear hK K
       refine norm_ pv_ ?_
       refine two_ (i := 2) (j := 10) (Ni := some 84) (Nj := some 18) (mk 12 255) (mk 12 1275) rfl rfl rfl rfl (two_of HT_.out (by kernel_rfl)) (by decide) (by decide) (fun K hK => ?_) (fun K hK => ?_)
       ·
        skip
        refine Kd.R_append_rows_step (Kd.int .i64) (w0 := w) w.heap.size (by rfl) (.tmp 82) (.tmp 83) 26 2 (.int .i64 0) 8 rfl Try.underlying26 info2 rfl (by decide) (by omega) v403 y402 l4 _ _ _ (fun _ => True) (fun _ => False) rfl rfl ?aO ?aR (fun _ _ h => h) (fun _ h => h.elim) ?aF ?aB ?aS ?aL ?_
        (case aR => exact sc_ (Kd.C_below HR4.out HB.out))
        (case aB => exact (hb3_ HB GE388 GE389 GE401))
        (case aF => exact (fun _ _ => trivial))
        (case aO => exact (ro_ HO404))
        (case aS => exact (below_size (hb3_ HB GE388 GE389 GE401)))
        (case aL => have := LMc43.out; omega)
        intro v406 w57 ho hb hg hat
        rw [← Ny405.out] at ho
        have n0_ := Aside0.mk (blk_grown (g := gb388) (o := .cells #[.bool a0_0, .bool a0_1, .int .i64 a0_2, .slice A0_3 l0_3.length c0_3] 24 (0, 0)) (bk_ BK388) hg (Kd.R_ne HO404.out BK388.out (by decide)))
        have n1_ := Aside0.mk (blk_grown (g := gb389) (o := .cells #[.slice none 0 0, .slice none 0 0, .int .i64 x390002_2, .int .i64 x390003_2] 37 (0, 0)) (bk_ BK389) hg (Kd.R_ne HO404.out BK389.out (by decide)))
        have n2_ := Aside0.mk (Kd.V_afterv (ok := (fun k_ => k_ ≠ gb388 ∧ k_ ≠ gb389 ∧ k_ ≠ gb401)) (vo_ HO397) hg hat)
        have n3_ := Aside0.mk (blk_grown (g := gb401) (o := .cells #[.string t394, .slice Ao52 t395.length co52, .int .i64 t398, .int .i64 t399] 51 (0, 0)) (bk_ BK401) hg (Kd.R_ne HO404.out BK401.out (by decide)))
        have n4_ := Aside0.mk hb; have n5_ := Aside0.mk ho; clear BK388; clear BK389; clear HO397; clear BK401; clear HB; clear HO404; have BK388 := n0_; have BK389 := n1_; have HO397 := n2_; have BK401 := n3_; have HB := n4_; have HO407 := n5_; clear n0_ n1_ n2_ n3_ n4_ n5_; clear ho hb hg hat
        refine hK.out _ _ ⟨cl_ BK388 0, cl_ BK388 1, cl_ BK388 2, cl_ BK388 3, cl_ BK401 0, cl_ BK401 1, cl_ BK401 2, cl_ BK401 3⟩ (fun hHeld => ?_)
        clear hK K
        refine norm_ pv_ ?_
        refine two_ (i := 8) (j := 10) (Ni := some 90) (Nj := some 18) (mk 12 511) (mk 12 1279) rfl rfl rfl rfl (two_of HT_.out (by kernel_rfl)) (by decide) (by decide) (fun K hK => ?_) (fun K hK => ?_)
        ·
         skip
         refine goes_ Try.func29 (by kernel_rfl) rfl #[.agg #[.bool a0_0, .bool a0_1, .int .i64 a0_2, .slice A0_3 l0_3.length c0_3], .int .i64 a5, .int .i64 t399] (by rfl) rfl rfl am_ ?_
         with_reducible refine (haberdashref15_part.calls k2 a0_0 a0_1 a0_2 _ _ l0_3 a5 t399 t408 _ ?side1 ?side2 A44.out).mono ?_
         (case side1 => exact sc_ (Kd.C_below HR0_3.out HB.out))
         (case side2 => exact HC0_3.out)
         rintro e w58 ⟨rfl, hb⟩
         refine ⟨_, rfl, ?_⟩
         replace HO397 := Aside0.mk (Kd.V_below (vo_ HO397) hb); replace HO407 := Aside0.mk (Kd.R_below (ro_ HO407) hb); replace BK388 := Aside0.mk (bb_ BK388 hb); replace BK389 := Aside0.mk (bb_ BK389 hb); replace BK401 := Aside0.mk (bb_ BK401 hb); replace HB := Aside0.mk (below_step (hb3_ HB GE388 GE389 GE401) hb)
         (try clear hb); (try clear hb2); (try clear hk); (try clear hi); obtain ⟨Ao59, co59, eo59⟩ := Kd.R_slice HO407.out
         (first | subst eo59 | (injection eo59 with f1_ f2_ f3_; have f4_ := f1_.symm; have f5_ := f3_.symm; clear f1_ f2_ f3_; subst f4_; subst f5_))
         refine hK.out _ _ ⟨cl_ BK388 0, cl_ BK388 1, cl_ BK388 2, cl_ BK388 3, cl_ BK401 0, cl_ BK401 1, cl_ BK401 2, cl_ BK401 3⟩ (fun hHeld => ?_)
         clear hK K
         refine norm_ pv_ ?_
         refine pure_ (i := 9) (N := some 91) (v := ?_) (a' := ?_) (mk 12 1023) rfl rfl (an_ HT_) nh_ (Or.inl ⟨ry_, ?_⟩) ?_ ?_
         rotate_left; (intro w'; go_simp; with_reducible rfl)
         rotate_left; (exact pu_)
         refine one_ (i := 10) (N := some 18) (mk 12 2047) rfl rfl (on_ HT_) de_ (fun K hK => ?_)
         refine box_step ?hg (N := 18) ?hd (cs := #[.slice none 0 0, .slice none 0 0, .int .i64 0, .int .i64 0]) (t := 37) ?hr ?_; (case hd => rfl); (case hg => rfl); (case hr => first | (go_simp; done) | (go_simp; rfl))
         intro gb409 hg w60 hbox hb
         replace HO397 := Aside0.mk (Kd.V_below (Kd.V_elderB (vo_ HO397) gb409 (Nat.le_of_eq hg.symm)) hb); replace HO407 := Aside0.mk (Kd.R_below (ro_ HO407) hb); have BK409 := Aside0.mk hbox; have GW409 := Aside0.mk (ge_ HB hg (hb3_ HB GE388 GE389 GE401)); have GE409 := Aside0.mk (ge_ HB hg (hb3_ HB GE388 GE389 GE401))
         replace HB := Aside0.mk (below_step (hb3_ HB GE388 GE389 GE401) hb); have NB388_409 := Aside0.mk (nl_ BK388 hg); have NB409_388 := Aside0.mk (ng_ BK388 hg); replace BK388 := Aside0.mk (bb_ BK388 hb); have NB389_409 := Aside0.mk (nl_ BK389 hg); have NB409_389 := Aside0.mk (ng_ BK389 hg); replace BK389 := Aside0.mk (bb_ BK389 hb)
         have NB401_409 := Aside0.mk (nl_ BK401 hg); have NB409_401 := Aside0.mk (ng_ BK401 hg); replace BK401 := Aside0.mk (bb_ BK401 hb); clear hb hbox hg
         refine hK.out _ _ ⟨cl_ BK388 0, cl_ BK388 1, cl_ BK388 2, cl_ BK388 3, cl_ BK401 0, cl_ BK401 1, cl_ BK401 2, cl_ BK401 3⟩ (fun hHeld => ?_)
         clear hK K
         refine norm_ pv_ ?_
         exact norm_ (by simp only [putAll, Act.put, List.setIfInBounds_toArray, List.set_cons_zero, List.set_cons_succ]) (hCont (v403, .slice Ao59 y405.length co59, gb409) _ ⟨hHeld, (by (with_reducible repeat (first | apply Kd.V_alloc | apply Kd.V_drewN | apply Kd.V_drew)); exact Kd.V_mono HO397.out (fun _ hk => ⟨hk.1.2, ⟨hk.1.1.1, ⟨hk.1.1.2.1, ⟨hk.1.1.2.2, hk.2⟩⟩⟩⟩)), (ro_ HO407), (bk_ BK388), (bk_ BK389), (bk_ BK401), (bk_ BK409), GW409.out, GE409.out, NB388_409.out, NB409_388.out, NB389_409.out, NB409_389.out, NB401_409.out, NB409_401.out, (hb4_ HB GE388 GE389 GE401 GE409)⟩)
        ·
         skip
         refine box_step ?hg (N := 18) ?hd (cs := #[.slice none 0 0, .slice none 0 0, .int .i64 0, .int .i64 0]) (t := 37) ?hr ?_; (case hd => rfl); (case hg => rfl); (case hr => first | (go_simp; done) | (go_simp; rfl))
         intro gb409 hg w58 hbox hb
         replace HO397 := Aside0.mk (Kd.V_below (Kd.V_elderB (vo_ HO397) gb409 (Nat.le_of_eq hg.symm)) hb); replace HO407 := Aside0.mk (Kd.R_below (ro_ HO407) hb); have BK409 := Aside0.mk hbox; have GW409 := Aside0.mk (ge_ HB hg (hb3_ HB GE388 GE389 GE401)); have GE409 := Aside0.mk (ge_ HB hg (hb3_ HB GE388 GE389 GE401))
         replace HB := Aside0.mk (below_step (hb3_ HB GE388 GE389 GE401) hb); have NB388_409 := Aside0.mk (nl_ BK388 hg); have NB409_388 := Aside0.mk (ng_ BK388 hg); replace BK388 := Aside0.mk (bb_ BK388 hb); have NB389_409 := Aside0.mk (nl_ BK389 hg); have NB409_389 := Aside0.mk (ng_ BK389 hg); replace BK389 := Aside0.mk (bb_ BK389 hb)
         have NB401_409 := Aside0.mk (nl_ BK401 hg); have NB409_401 := Aside0.mk (ng_ BK401 hg); replace BK401 := Aside0.mk (bb_ BK401 hb); clear hb hbox hg
         refine hK.out _ _ ⟨cl_ BK388 0, cl_ BK388 1, cl_ BK388 2, cl_ BK388 3, cl_ BK401 0, cl_ BK401 1, cl_ BK401 2, cl_ BK401 3⟩ (fun hHeld => ?_)
         clear hK K
         refine norm_ pv_ ?_
         refine one_ (i := 8) (N := some 90) (mk 12 1535) rfl rfl (on_ HT_) de_ (fun K hK => ?_)
         refine goes_ Try.func29 (by kernel_rfl) rfl #[.agg #[.bool a0_0, .bool a0_1, .int .i64 a0_2, .slice A0_3 l0_3.length c0_3], .int .i64 a5, .int .i64 t399] (by rfl) rfl rfl am_ ?_
         with_reducible refine (haberdashref15_part.calls k2 a0_0 a0_1 a0_2 _ _ l0_3 a5 t399 t408 _ ?side1 ?side2 A44.out).mono ?_
         (case side1 => exact sc_ (Kd.C_below HR0_3.out HB.out))
         (case side2 => exact HC0_3.out)
         rintro e w59 ⟨rfl, hb⟩
         refine ⟨_, rfl, ?_⟩
         replace HO397 := Aside0.mk (Kd.V_below (vo_ HO397) hb); replace HO407 := Aside0.mk (Kd.R_below (ro_ HO407) hb); replace BK388 := Aside0.mk (bb_ BK388 hb); replace BK389 := Aside0.mk (bb_ BK389 hb); replace BK401 := Aside0.mk (bb_ BK401 hb); replace BK409 := Aside0.mk (bb_ BK409 hb); replace HB := Aside0.mk (below_step (hb4_ HB GE388 GE389 GE401 GE409) hb)
         (try clear hb); (try clear hb2); (try clear hk); (try clear hi); obtain ⟨Ao60, co60, eo60⟩ := Kd.R_slice HO407.out
         (first | subst eo60 | (injection eo60 with f1_ f2_ f3_; have f4_ := f1_.symm; have f5_ := f3_.symm; clear f1_ f2_ f3_; subst f4_; subst f5_))
         refine hK.out _ _ ⟨cl_ BK388 0, cl_ BK388 1, cl_ BK388 2, cl_ BK388 3, cl_ BK401 0, cl_ BK401 1, cl_ BK401 2, cl_ BK401 3⟩ (fun hHeld => ?_)
         clear hK K
         refine norm_ pv_ ?_
         refine pure_ (i := 9) (N := some 91) (v := ?_) (a' := ?_) (mk 12 2047) rfl rfl (an_ HT_) nh_ (Or.inl ⟨ry_, ?_⟩) ?_ ?_
         rotate_left; (intro w'; go_simp; with_reducible rfl)
         rotate_left; (exact pu_)
         exact norm_ (by simp only [putAll, Act.put, List.setIfInBounds_toArray, List.set_cons_zero, List.set_cons_succ]) (hCont (v403, .slice Ao60 y405.length co60, gb409) _ ⟨hHeld, (by (with_reducible repeat (first | apply Kd.V_alloc | apply Kd.V_drewN | apply Kd.V_drew)); exact Kd.V_mono HO397.out (fun _ hk => ⟨hk.1.2, ⟨hk.1.1.1, ⟨hk.1.1.2.1, ⟨hk.1.1.2.2, hk.2⟩⟩⟩⟩)), (ro_ HO407), (bk_ BK388), (bk_ BK389), (bk_ BK401), (bk_ BK409), GW409.out, GE409.out, NB388_409.out, NB409_388.out, NB389_409.out, NB409_389.out, NB401_409.out, NB409_401.out, (hb4_ HB GE388 GE389 GE401 GE409)⟩)
       ·
        skip
        refine box_step ?hg (N := 18) ?hd (cs := #[.slice none 0 0, .slice none 0 0, .int .i64 0, .int .i64 0]) (t := 37) ?hr ?_; (case hd => rfl); (case hg => rfl); (case hr => first | (go_simp; done) | (go_simp; rfl))
        intro gb409 hg w57 hbox hb
        replace HO397 := Aside0.mk (Kd.V_below (Kd.V_elderB (vo_ HO397) gb409 (Nat.le_of_eq hg.symm)) hb); replace HO404 := Aside0.mk (Kd.R_below (ro_ HO404) hb); have BK409 := Aside0.mk hbox; have GW409 := Aside0.mk (ge_ HB hg (hb3_ HB GE388 GE389 GE401)); have GE409 := Aside0.mk (ge_ HB hg (hb3_ HB GE388 GE389 GE401))
        replace HB := Aside0.mk (below_step (hb3_ HB GE388 GE389 GE401) hb); have NB388_409 := Aside0.mk (nl_ BK388 hg); have NB409_388 := Aside0.mk (ng_ BK388 hg); replace BK388 := Aside0.mk (bb_ BK388 hb); have NB389_409 := Aside0.mk (nl_ BK389 hg); have NB409_389 := Aside0.mk (ng_ BK389 hg); replace BK389 := Aside0.mk (bb_ BK389 hb)
        have NB401_409 := Aside0.mk (nl_ BK401 hg); have NB409_401 := Aside0.mk (ng_ BK401 hg); replace BK401 := Aside0.mk (bb_ BK401 hb); clear hb hbox hg
        refine hK.out _ _ ⟨cl_ BK388 0, cl_ BK388 1, cl_ BK388 2, cl_ BK388 3, cl_ BK401 0, cl_ BK401 1, cl_ BK401 2, cl_ BK401 3⟩ (fun hHeld => ?_)
        clear hK K
        refine norm_ pv_ ?_
        refine one_ (i := 2) (N := some 84) (mk 12 1279) rfl rfl (on_ HT_) de_ (fun K hK => ?_)
        refine Kd.R_append_rows_step (Kd.int .i64) (w0 := w) w.heap.size (by rfl) (.tmp 82) (.tmp 83) 26 2 (.int .i64 0) 8 rfl Try.underlying26 info2 rfl (by decide) (by omega) v403 y402 l4 _ _ _ (fun _ => True) (fun _ => False) rfl rfl ?aO ?aR (fun _ _ h => h) (fun _ h => h.elim) ?aF ?aB ?aS ?aL ?_
        (case aR => exact sc_ (Kd.C_below HR4.out HB.out))
        (case aB => exact (hb4_ HB GE388 GE389 GE401 GE409))
        (case aF => exact (fun _ _ => trivial))
        (case aO => exact (ro_ HO404))
        (case aS => exact (below_size (hb4_ HB GE388 GE389 GE401 GE409)))
        (case aL => have := LMc43.out; omega)
        intro v406 w58 ho hb hg hat
        rw [← Ny405.out] at ho
        have n0_ := Aside0.mk (blk_grown (g := gb388) (o := .cells #[.bool a0_0, .bool a0_1, .int .i64 a0_2, .slice A0_3 l0_3.length c0_3] 24 (0, 0)) (bk_ BK388) hg (Kd.R_ne HO404.out BK388.out (by decide)))
        have n1_ := Aside0.mk (blk_grown (g := gb389) (o := .cells #[.slice none 0 0, .slice none 0 0, .int .i64 x390002_2, .int .i64 x390003_2] 37 (0, 0)) (bk_ BK389) hg (Kd.R_ne HO404.out BK389.out (by decide)))
        have n2_ := Aside0.mk (Kd.V_afterv (ok := (fun k_ => k_ ≠ gb388 ∧ k_ ≠ gb389 ∧ k_ ≠ gb401 ∧ k_ ≠ gb409)) (by (with_reducible repeat (first | apply Kd.V_alloc | apply Kd.V_drewN | apply Kd.V_drew)); exact Kd.V_mono HO397.out (fun _ hk => ⟨⟨hk.1.1.1, ⟨hk.1.1.2.1, ⟨hk.1.1.2.2, hk.2⟩⟩⟩, hk.1.2⟩)) hg hat)
        have n3_ := Aside0.mk (blk_grown (g := gb401) (o := .cells #[.string t394, .slice Ao52 t395.length co52, .int .i64 t398, .int .i64 t399] 51 (0, 0)) (bk_ BK401) hg (Kd.R_ne HO404.out BK401.out (by decide)))
        have n4_ := Aside0.mk (blk_grown (g := gb409) (o := .cells #[.slice none 0 0, .slice none 0 0, .int .i64 0, .int .i64 0] 37 (0, 0)) (bk_ BK409) hg (Kd.R_ne HO404.out BK409.out (by decide)))
        have n5_ := Aside0.mk hb; have n6_ := Aside0.mk ho; clear BK388; clear BK389; clear HO397; clear BK401; clear BK409; clear HB; clear HO404; have BK388 := n0_; have BK389 := n1_; have HO397 := n2_; have BK401 := n3_; have BK409 := n4_; have HB := n5_; have HO407 := n6_; clear n0_ n1_ n2_ n3_ n4_ n5_ n6_
        clear ho hb hg hat
        refine hK.out _ _ ⟨cl_ BK388 0, cl_ BK388 1, cl_ BK388 2, cl_ BK388 3, cl_ BK401 0, cl_ BK401 1, cl_ BK401 2, cl_ BK401 3⟩ (fun hHeld => ?_)
        clear hK K
        refine norm_ pv_ ?_
        refine one_ (i := 8) (N := some 90) (mk 12 1535) rfl rfl (on_ HT_) de_ (fun K hK => ?_)
        refine goes_ Try.func29 (by kernel_rfl) rfl #[.agg #[.bool a0_0, .bool a0_1, .int .i64 a0_2, .slice A0_3 l0_3.length c0_3], .int .i64 a5, .int .i64 t399] (by rfl) rfl rfl am_ ?_
        with_reducible refine (haberdashref15_part.calls k2 a0_0 a0_1 a0_2 _ _ l0_3 a5 t399 t408 _ ?side1 ?side2 A44.out).mono ?_
        (case side1 => exact sc_ (Kd.C_below HR0_3.out HB.out))
        (case side2 => exact HC0_3.out)
        rintro e w59 ⟨rfl, hb⟩
        refine ⟨_, rfl, ?_⟩
        replace HO397 := Aside0.mk (Kd.V_below (vo_ HO397) hb); replace HO407 := Aside0.mk (Kd.R_below (ro_ HO407) hb); replace BK388 := Aside0.mk (bb_ BK388 hb); replace BK389 := Aside0.mk (bb_ BK389 hb); replace BK401 := Aside0.mk (bb_ BK401 hb); replace BK409 := Aside0.mk (bb_ BK409 hb); replace HB := Aside0.mk (below_step (hb4_ HB GE388 GE389 GE401 GE409) hb)
        (try clear hb); (try clear hb2); (try clear hk); (try clear hi); obtain ⟨Ao60, co60, eo60⟩ := Kd.R_slice HO407.out
        (first | subst eo60 | (injection eo60 with f1_ f2_ f3_; have f4_ := f1_.symm; have f5_ := f3_.symm; clear f1_ f2_ f3_; subst f4_; subst f5_))
        refine hK.out _ _ ⟨cl_ BK388 0, cl_ BK388 1, cl_ BK388 2, cl_ BK388 3, cl_ BK401 0, cl_ BK401 1, cl_ BK401 2, cl_ BK401 3⟩ (fun hHeld => ?_)
        clear hK K
        refine norm_ pv_ ?_
        refine pure_ (i := 9) (N := some 91) (v := ?_) (a' := ?_) (mk 12 2047) rfl rfl (an_ HT_) nh_ (Or.inl ⟨ry_, ?_⟩) ?_ ?_
        rotate_left; (intro w'; go_simp; with_reducible rfl)
        rotate_left; (exact pu_)
        exact norm_ (by simp only [putAll, Act.put, List.setIfInBounds_toArray, List.set_cons_zero, List.set_cons_succ]) (hCont (v403, .slice Ao60 y405.length co60, gb409) _ ⟨hHeld, (by (with_reducible repeat (first | apply Kd.V_alloc | apply Kd.V_drewN | apply Kd.V_drew)); exact Kd.V_mono HO397.out (fun _ hk => ⟨hk.2, ⟨hk.1.1, ⟨hk.1.2.1, ⟨hk.1.2.2.1, hk.1.2.2.2⟩⟩⟩⟩)), (ro_ HO407), (bk_ BK388), (bk_ BK389), (bk_ BK401), (bk_ BK409), GW409.out, GE409.out, NB388_409.out, NB409_388.out, NB389_409.out, NB409_389.out, NB401_409.out, NB409_401.out, (hb4_ HB GE388 GE389 GE401 GE409)⟩)
      ·
       skip
       refine box_step ?hg (N := 18) ?hd (cs := #[.slice none 0 0, .slice none 0 0, .int .i64 0, .int .i64 0]) (t := 37) ?hr ?_; (case hd => rfl); (case hg => rfl); (case hr => first | (go_simp; done) | (go_simp; rfl))
       intro gb409 hg w55 hbox hb
       replace HO397 := Aside0.mk (Kd.V_below (Kd.V_elderB (vo_ HO397) gb409 (Nat.le_of_eq hg.symm)) hb); have BK409 := Aside0.mk hbox; have GW409 := Aside0.mk (ge_ HB hg (hb3_ HB GE388 GE389 GE401)); have GE409 := Aside0.mk (ge_ HB hg (hb3_ HB GE388 GE389 GE401)); replace HB := Aside0.mk (below_step (hb3_ HB GE388 GE389 GE401) hb)
       have NB388_409 := Aside0.mk (nl_ BK388 hg); have NB409_388 := Aside0.mk (ng_ BK388 hg); replace BK388 := Aside0.mk (bb_ BK388 hb); have NB389_409 := Aside0.mk (nl_ BK389 hg); have NB409_389 := Aside0.mk (ng_ BK389 hg); replace BK389 := Aside0.mk (bb_ BK389 hb); have NB401_409 := Aside0.mk (nl_ BK401 hg)
       have NB409_401 := Aside0.mk (ng_ BK401 hg); replace BK401 := Aside0.mk (bb_ BK401 hb); clear hb hbox hg
       refine hK.out _ _ ⟨cl_ BK388 0, cl_ BK388 1, cl_ BK388 2, cl_ BK388 3, cl_ BK401 0, cl_ BK401 1, cl_ BK401 2, cl_ BK401 3⟩ (fun hHeld => ?_)
       clear hK K
       refine norm_ pv_ ?_
       refine one_ (i := 0) (N := some 82) (mk 12 1275) rfl rfl (on_ HT_) de_ (fun K hK => ?_)
       refine Kd.R_lit_step (Kd.int .i64) _ 2 rf_ (N := 82) rf_ (xs := ([] : List Int)) (inner := []) (ok := fun _ => True) (okp := fun _ => True) lr_ ?hp (fun _ hk => hk) trivial (Below.refl _ _) (Nat.le_refl _) (by simp) ?_; (case hp => exact (Reps.none _ _))
       intro v403 w56 ho57 hb hg_ hnew_
       clear hg_ hnew_
       (first | rw [← Ny402.out] at ho57 | (simp only [Int.reduceToNat] at ho57; rw [← Ny402.out] at ho57))
       replace HO397 := Aside0.mk (Kd.V_elder' (vo_ HO397) (Kd.R_base ho57) hb); have HO404 := Aside0.mk (Kd.R_lower ho57 (below_size (hb4_ HB GE388 GE389 GE401 GE409))); replace BK388 := Aside0.mk (bb_ BK388 hb); replace BK389 := Aside0.mk (bb_ BK389 hb); replace BK401 := Aside0.mk (bb_ BK401 hb); replace BK409 := Aside0.mk (bb_ BK409 hb)
       replace HB := Aside0.mk (below_step (hb4_ HB GE388 GE389 GE401 GE409) hb); clear hb ho57
       refine hK.out _ _ ⟨cl_ BK388 0, cl_ BK388 1, cl_ BK388 2, cl_ BK388 3, cl_ BK401 0, cl_ BK401 1, cl_ BK401 2, cl_ BK401 3⟩ (fun hHeld => ?_)
       clear hK K
       refine norm_ pv_ ?_
       refine one_ (i := 2) (N := some 84) (mk 12 1279) rfl rfl (on_ HT_) de_ (fun K hK => ?_)
       refine Kd.R_append_rows_step (Kd.int .i64) (w0 := w) w.heap.size (by rfl) (.tmp 82) (.tmp 83) 26 2 (.int .i64 0) 8 rfl Try.underlying26 info2 rfl (by decide) (by omega) v403 y402 l4 _ _ _ (fun _ => True) (fun _ => False) rfl rfl ?aO ?aR (fun _ _ h => h) (fun _ h => h.elim) ?aF ?aB ?aS ?aL ?_
       (case aR => exact sc_ (Kd.C_below HR4.out HB.out))
       (case aB => exact (hb4_ HB GE388 GE389 GE401 GE409))
       (case aF => exact (fun _ _ => trivial))
       (case aO => exact (ro_ HO404))
       (case aS => exact (below_size (hb4_ HB GE388 GE389 GE401 GE409)))
       (case aL => have := LMc43.out; omega)
       intro v406 w58 ho hb hg hat
       rw [← Ny405.out] at ho
       have n0_ := Aside0.mk (blk_grown (g := gb388) (o := .cells #[.bool a0_0, .bool a0_1, .int .i64 a0_2, .slice A0_3 l0_3.length c0_3] 24 (0, 0)) (bk_ BK388) hg (Kd.R_ne HO404.out BK388.out (by decide)))
       have n1_ := Aside0.mk (blk_grown (g := gb389) (o := .cells #[.slice none 0 0, .slice none 0 0, .int .i64 x390002_2, .int .i64 x390003_2] 37 (0, 0)) (bk_ BK389) hg (Kd.R_ne HO404.out BK389.out (by decide)))
       have n2_ := Aside0.mk (Kd.V_afterv (ok := (fun k_ => k_ ≠ gb388 ∧ k_ ≠ gb389 ∧ k_ ≠ gb401 ∧ k_ ≠ gb409)) (by (with_reducible repeat (first | apply Kd.V_alloc | apply Kd.V_drewN | apply Kd.V_drew)); exact Kd.V_mono HO397.out (fun _ hk => ⟨⟨hk.1.1.1, ⟨hk.1.1.2.1, ⟨hk.1.1.2.2, hk.1.2⟩⟩⟩, hk.2⟩)) hg hat)
       have n3_ := Aside0.mk (blk_grown (g := gb401) (o := .cells #[.string t394, .slice Ao52 t395.length co52, .int .i64 t398, .int .i64 t399] 51 (0, 0)) (bk_ BK401) hg (Kd.R_ne HO404.out BK401.out (by decide)))
       have n4_ := Aside0.mk (blk_grown (g := gb409) (o := .cells #[.slice none 0 0, .slice none 0 0, .int .i64 0, .int .i64 0] 37 (0, 0)) (bk_ BK409) hg (Kd.R_ne HO404.out BK409.out (by decide)))
       have n5_ := Aside0.mk hb; have n6_ := Aside0.mk ho; clear BK388; clear BK389; clear HO397; clear BK401; clear BK409; clear HB; clear HO404; have BK388 := n0_; have BK389 := n1_; have HO397 := n2_; have BK401 := n3_; have BK409 := n4_; have HB := n5_; have HO407 := n6_; clear n0_ n1_ n2_ n3_ n4_ n5_ n6_
       clear ho hb hg hat
       refine hK.out _ _ ⟨cl_ BK388 0, cl_ BK388 1, cl_ BK388 2, cl_ BK388 3, cl_ BK401 0, cl_ BK401 1, cl_ BK401 2, cl_ BK401 3⟩ (fun hHeld => ?_)
       clear hK K
       refine norm_ pv_ ?_
       refine one_ (i := 8) (N := some 90) (mk 12 1535) rfl rfl (on_ HT_) de_ (fun K hK => ?_)
       refine goes_ Try.func29 (by kernel_rfl) rfl #[.agg #[.bool a0_0, .bool a0_1, .int .i64 a0_2, .slice A0_3 l0_3.length c0_3], .int .i64 a5, .int .i64 t399] (by rfl) rfl rfl am_ ?_
       with_reducible refine (haberdashref15_part.calls k2 a0_0 a0_1 a0_2 _ _ l0_3 a5 t399 t408 _ ?side1 ?side2 A44.out).mono ?_
       (case side1 => exact sc_ (Kd.C_below HR0_3.out HB.out))
       (case side2 => exact HC0_3.out)
       rintro e w59 ⟨rfl, hb⟩
       refine ⟨_, rfl, ?_⟩
       replace HO397 := Aside0.mk (Kd.V_below (vo_ HO397) hb); replace HO407 := Aside0.mk (Kd.R_below (ro_ HO407) hb); replace BK388 := Aside0.mk (bb_ BK388 hb); replace BK389 := Aside0.mk (bb_ BK389 hb); replace BK401 := Aside0.mk (bb_ BK401 hb); replace BK409 := Aside0.mk (bb_ BK409 hb); replace HB := Aside0.mk (below_step (hb4_ HB GE388 GE389 GE401 GE409) hb)
       (try clear hb); (try clear hb2); (try clear hk); (try clear hi); obtain ⟨Ao60, co60, eo60⟩ := Kd.R_slice HO407.out
       (first | subst eo60 | (injection eo60 with f1_ f2_ f3_; have f4_ := f1_.symm; have f5_ := f3_.symm; clear f1_ f2_ f3_; subst f4_; subst f5_))
       refine hK.out _ _ ⟨cl_ BK388 0, cl_ BK388 1, cl_ BK388 2, cl_ BK388 3, cl_ BK401 0, cl_ BK401 1, cl_ BK401 2, cl_ BK401 3⟩ (fun hHeld => ?_)
       clear hK K
       refine norm_ pv_ ?_
       refine pure_ (i := 9) (N := some 91) (v := ?_) (a' := ?_) (mk 12 2047) rfl rfl (an_ HT_) nh_ (Or.inl ⟨ry_, ?_⟩) ?_ ?_
       rotate_left; (intro w'; go_simp; with_reducible rfl)
       rotate_left; (exact pu_)
       exact norm_ (by simp only [putAll, Act.put, List.setIfInBounds_toArray, List.set_cons_zero, List.set_cons_succ]) (hCont (v403, .slice Ao60 y405.length co60, gb409) _ ⟨hHeld, (by (with_reducible repeat (first | apply Kd.V_alloc | apply Kd.V_drewN | apply Kd.V_drew)); exact Kd.V_mono HO397.out (fun _ hk => ⟨hk.2, ⟨hk.1.1, ⟨hk.1.2.1, ⟨hk.1.2.2.1, hk.1.2.2.2⟩⟩⟩⟩)), (ro_ HO407), (bk_ BK388), (bk_ BK389), (bk_ BK401), (bk_ BK409), GW409.out, GE409.out, NB388_409.out, NB409_388.out, NB389_409.out, NB409_389.out, NB401_409.out, NB409_401.out, (hb4_ HB GE388 GE389 GE401 GE409)⟩)
     rintro ⟨v403, v406, gb409⟩ w61 ⟨hS_, h0_, h1_, h2_, h3_, h4_, h5_, h6_, h7_, h8_, h9_, h10_, h11_, h12_, h13_, h14_⟩
     have n0_ : Aside0 (Kd.V k56 56 w61 w.heap.size (fun k_ => some k_ ≠ (v406 : Value).ownBlock ∧ k_ ≠ gb388 ∧ k_ ≠ gb389 ∧ k_ ≠ gb401 ∧ k_ ≠ gb409) (.slice Ao52 t395.length co52) t395) := ⟨h0_⟩
     have n1_ : Aside0 (Kd.R (Kd.int .i64) 2 w61 w.heap.size (fun _ => True) v406 y405) := ⟨h1_⟩
     have n2_ : Aside0 (w61.heap[gb388]? = some (.cells #[.bool a0_0, .bool a0_1, .int .i64 a0_2, .slice A0_3 l0_3.length c0_3] 24 (0, 0))) := ⟨h2_⟩; have n3_ : Aside0 (w61.heap[gb389]? = some (.cells #[.slice none 0 0, .slice none 0 0, .int .i64 x390002_2, .int .i64 x390003_2] 37 (0, 0))) := ⟨h3_⟩; have n4_ : Aside0 (w61.heap[gb401]? = some (.cells #[.string t394, .slice Ao52 t395.length co52, .int .i64 t398, .int .i64 t399] 51 (0, 0))) := ⟨h4_⟩
     have n5_ : Aside0 (w61.heap[gb409]? = some (.cells #[.slice none 0 0, .slice none 0 0, .int .i64 0, .int .i64 0] 37 (0, 0))) := ⟨h5_⟩; have n6_ : Aside0 (w.heap.size ≤ gb409) := ⟨h6_⟩; have n7_ : Aside0 (w.heap.size ≤ gb409) := ⟨h7_⟩; have n8_ : Aside0 (gb388 ≠ gb409) := ⟨h8_⟩; have n9_ : Aside0 (gb409 ≠ gb388) := ⟨h9_⟩
     have n10_ : Aside0 (gb389 ≠ gb409) := ⟨h10_⟩; have n11_ : Aside0 (gb409 ≠ gb389) := ⟨h11_⟩; have n12_ : Aside0 (gb401 ≠ gb409) := ⟨h12_⟩; have n13_ : Aside0 (gb409 ≠ gb401) := ⟨h13_⟩; have n14_ : Aside0 (Below w.heap.size w w61) := ⟨h14_⟩; clear HO397; clear BK388; clear BK389; clear BK401; clear HB
     clear h0_ h1_ h2_ h3_ h4_ h5_ h6_ h7_ h8_ h9_ h10_ h11_ h12_ h13_ h14_; have HO397 := n0_; have HO407 := n1_; have BK388 := n2_; have BK389 := n3_; have BK401 := n4_; have BK409 := n5_; have GW409 := n6_; have GE409 := n7_; have NB388_409 := n8_; have NB409_388 := n9_; have NB389_409 := n10_; have NB409_389 := n11_
     have NB401_409 := n12_; have NB409_401 := n13_; have HB := n14_; clear n0_ n1_ n2_ n3_ n4_ n5_ n6_ n7_ n8_ n9_ n10_ n11_ n12_ n13_ n14_; have hHeld : w61.cell? ⟨gb388, 0, none⟩ = some (.bool a0_0) ∧ w61.cell? ⟨gb388, 1, none⟩ = some (.bool a0_1) ∧ w61.cell? ⟨gb388, 2, none⟩ = some (.int .i64 a0_2) ∧ w61.cell? ⟨gb388, 3, none⟩ = some (.slice A0_3 l0_3.length c0_3) ∧ w61.cell? ⟨gb401, 0, none⟩ = some (.string t394) ∧ w61.cell? ⟨gb401, 1, none⟩ = some (.slice Ao52 t395.length co52) ∧ w61.cell? ⟨gb401, 2, none⟩ = some (.int .i64 t398) ∧ w61.cell? ⟨gb401, 3, none⟩ = some (.int .i64 t399) := hS_
     obtain ⟨Ao62, co62, eo62⟩ := Kd.R_slice HO407.out
     (first | subst eo62 | (injection eo62 with f1_ f2_ f3_; have f4_ := f1_.symm; have f5_ := f3_.symm; clear f1_ f2_ f3_; subst f4_; subst f5_))
     refine norm_ (a' := ?_) ?_ ?_
     rotate_left
     ·
      simp only [putAll, Act.put, List.setIfInBounds_toArray, List.set_cons_zero, List.set_cons_succ]
      rfl
     refine one_ (i := 11) (N := none) (mk 12 4095) rfl rfl (on_ HT_) de_ (fun K hK => ?_)
     have hs63 : w61.cell? ⟨gb409, 0, none⟩ = some (.slice none 0 0) := (blk_cell BK409.out 0).trans rfl; have hfs63 := blk_frozen BK409.out 0; have hns63_0 := NB388_409.out; have hns63_1 := NB389_409.out; have hns63_2 := NB401_409.out; have hms63_0 := NB409_388.out; have hms63_1 := NB409_389.out; have hms63_2 := NB409_401.out
     have hs64 : w61.cell? ⟨gb409, 1, none⟩ = some (.slice none 0 0) := (blk_cell BK409.out 1).trans rfl; have hfs64 := blk_frozen BK409.out 1; have hns64_0 := NB388_409.out; have hns64_1 := NB389_409.out; have hns64_2 := NB401_409.out; have hms64_0 := NB409_388.out; have hms64_1 := NB409_389.out; have hms64_2 := NB409_401.out
     have hs65 : w61.cell? ⟨gb409, 2, none⟩ = some (.int .i64 0) := (blk_cell BK409.out 2).trans rfl; have hfs65 := blk_frozen BK409.out 2; have hns65_0 := NB388_409.out; have hns65_1 := NB389_409.out; have hns65_2 := NB401_409.out; have hms65_0 := NB409_388.out; have hms65_1 := NB409_389.out; have hms65_2 := NB409_401.out
     have hs66 : w61.cell? ⟨gb409, 3, none⟩ = some (.int .i64 0) := (blk_cell BK409.out 3).trans rfl; have hfs66 := blk_frozen BK409.out 3; have hns66_0 := NB388_409.out; have hns66_1 := NB389_409.out; have hns66_2 := NB401_409.out; have hms66_0 := NB409_388.out; have hms66_1 := NB409_389.out; have hms66_2 := NB409_401.out
     refine skip_ (w1 := ?_) (by rfl) rfl ?_ ?_
     rotate_left
     ·
      go_simp
      rfl
     refine hK.out _ _ ⟨(cf1_ NB388_409 (cf1_ NB388_409 (cf1_ NB388_409 (cf1_ NB388_409 (hHeld.1))))), (cf1_ NB388_409 (cf1_ NB388_409 (cf1_ NB388_409 (cf1_ NB388_409 (hHeld.2.1))))), (cf1_ NB388_409 (cf1_ NB388_409 (cf1_ NB388_409 (cf1_ NB388_409 (hHeld.2.2.1))))), (cf1_ NB388_409 (cf1_ NB388_409 (cf1_ NB388_409 (cf1_ NB388_409 (hHeld.2.2.2.1))))), (cf1_ NB401_409 (cf1_ NB401_409 (cf1_ NB401_409 (cf1_ NB401_409 (hHeld.2.2.2.2.1))))), (cf1_ NB401_409 (cf1_ NB401_409 (cf1_ NB401_409 (cf1_ NB401_409 (hHeld.2.2.2.2.2.1))))), (cf1_ NB401_409 (cf1_ NB401_409 (cf1_ NB401_409 (cf1_ NB401_409 (hHeld.2.2.2.2.2.2.1))))), (cf1_ NB401_409 (cf1_ NB401_409 (cf1_ NB401_409 (cf1_ NB401_409 (hHeld.2.2.2.2.2.2.2)))))⟩ (fun hHeld => ?_)
     clear hK K
     refine done_ (done_of HT_.out (by kernel_rfl)) ?_
     try go_wp2
     (try simp only [addr0])
     go_loopg [19, 20] k2 (fun kq v19 v20 w' => ∃ (x19_3 : List Int) (x20_3 : Int) (x410001_3 : List Int) (u410001 : Value), v20 = .int .i64 x20_3 ∧ Aside0 (haberdashref15_Levy.l1 kq a2 l3 l4 a5 x19_3 x20_3 a0_0 a0_1 a0_2 l0_3 t394 t395 t398 t399 y405 x410001_3 a5 t408 = some (r1, r2, r3, r4, r5)) ∧ Aside0 (kq ≤ k2) ∧ Aside0 (Kd.R (Kd.int .i64) 2 w' w.heap.size (fun k_ => some k_ ≠ ((.slice Ao62 y405.length co62) : Value).ownBlock ∧ some k_ ≠ (u410001 : Value).ownBlock) v19 x19_3) ∧ Aside0 (Kd.V k56 56 w' w.heap.size (fun k_ => some k_ ≠ (v19 : Value).ownBlock ∧ some k_ ≠ ((.slice Ao62 y405.length co62) : Value).ownBlock ∧ some k_ ≠ (u410001 : Value).ownBlock ∧ k_ ≠ gb388 ∧ k_ ≠ gb389 ∧ k_ ≠ gb401 ∧ k_ ≠ gb409) (.slice Ao52 t395.length co52) t395) ∧ Aside0 (Kd.R (Kd.int .i64) 2 w' w.heap.size (fun k_ => some k_ ≠ (v19 : Value).ownBlock ∧ some k_ ≠ (u410001 : Value).ownBlock) (.slice Ao62 y405.length co62) y405) ∧ Aside0 (Kd.R (Kd.int .i64) 2 w' w.heap.size (fun k_ => some k_ ≠ (v19 : Value).ownBlock ∧ some k_ ≠ ((.slice Ao62 y405.length co62) : Value).ownBlock) u410001 x410001_3) ∧ Aside0 (w'.heap[gb388]? = some (.cells #[.bool a0_0, .bool a0_1, .int .i64 a0_2, (.slice A0_3 l0_3.length c0_3)] 24 (0, 0))) ∧ Aside0 (w'.heap[gb389]? = some (.cells #[(.slice none 0 0), (.slice none 0 0), .int .i64 x390002_2, .int .i64 x390003_2] 37 (0, 0))) ∧ Aside0 (w'.heap[gb401]? = some (.cells #[.string t394, (.slice Ao52 t395.length co52), .int .i64 t398, .int .i64 t399] 51 (0, 0))) ∧ Aside0 (w'.heap[gb409]? = some (.cells #[(.slice Ao62 y405.length co62), u410001, .int .i64 a5, .int .i64 t408] 37 (0, 0))) ∧ Aside0 (Below w.heap.size w w'))
     case atStart => exact ⟨(([] : List Int)), (0), (([] : List Int)), (.slice none 0 0), rf_, H', ⟨Nat.le_refl _⟩, ⟨ni_⟩, ⟨by (with_reducible repeat (first | apply Kd.V_alloc | apply Kd.V_drewN | apply Kd.V_drew)); exact Kd.V_mono (Kd.V_far (p := ⟨gb409, 3, none⟩) (Kd.V_far (p := ⟨gb409, 2, none⟩) (Kd.V_far (p := ⟨gb409, 1, none⟩) (Kd.V_far (p := ⟨gb409, 0, none⟩) (Kd.V_mono HO397.out (fun k_ hk => (⟨hk, hk.2.2.2.2⟩ : _ ∧ k_ ≠ gb409))) (fun _ hk => hk.2) (.slice Ao62 y405.length co62)) (fun _ hk => hk.2) (.slice none 0 0)) (fun _ hk => hk.2) (.int .i64 a5)) (fun _ hk => hk.2) (.int .i64 t408)) (fun _ hk => ⟨(by simp [Value.ownBlock]), ⟨hk.1.1, ⟨(by simp [Value.ownBlock]), ⟨hk.1.2.1, ⟨hk.1.2.2.1, ⟨hk.1.2.2.2.1, hk.1.2.2.2.2⟩⟩⟩⟩⟩⟩)⟩, ⟨by (with_reducible repeat (first | apply Kd.R_alloc | apply Kd.R_drewN | apply Kd.R_drew)); exact Kd.R_mono (Kd.R_far (p := ⟨gb409, 3, none⟩) (Kd.R_far (p := ⟨gb409, 2, none⟩) (Kd.R_far (p := ⟨gb409, 1, none⟩) (Kd.R_far (p := ⟨gb409, 0, none⟩) (Kd.R_types HO407.out BK409.out (by decide)) (fun _ hk => hk.2) (.slice Ao62 y405.length co62)) (fun _ hk => hk.2) (.slice none 0 0)) (fun _ hk => hk.2) (.int .i64 a5)) (fun _ hk => hk.2) (.int .i64 t408)) (fun _ hk => ⟨(by simp [Value.ownBlock]), (by simp [Value.ownBlock])⟩)⟩, ⟨ni_⟩, ⟨bf4_ BK388 NB388_409 NB388_409 NB388_409 NB388_409⟩, ⟨bf4_ BK389 NB389_409 NB389_409 NB389_409 NB389_409⟩, ⟨bf4_ BK401 NB401_409 NB401_409 NB401_409 NB401_409⟩, ⟨bq0_ BK409⟩, ⟨hb4_ HB GE388 GE389 GE401 GE409⟩⟩
     case round =>
      clear H'; (try clear c2); (try clear p2); (try clear c4); (try clear c29); (try clear c43); obtain ⟨x19_3, x20_3, x410001_3, u410001, rfl, HA, HK3, HO_19, HO_402001, HO_410000, HO_410001, BK388, BK389, BK401, BK409, HB⟩ := hrel
      cases gk with
      | zero => exact absurd HA.out (by simp [haberdashref15_Levy.l1])
      | succ k3 =>
       have H := HA.out; clear HA
       simp only [haberdashref15_Levy.l1] at H
       by_cases c67 : x20_3 < (l4.length : Int)
       ·
        rw [if_pos c67] at H; have c67b0 := decide_eq_true c67; clear c67; replace H := ip_ H; obtain ⟨c68, H⟩ := H; have c68b0 := decide_eq_true c68; clear c68; replace H := ip_ H; obtain ⟨c69, H⟩ := H; have c69b0 := decide_eq_true c69; clear c69; replace H := Option.bind_eq_some_iff.mp H; obtain ⟨t411, A700, H⟩ := H
        replace H : (if x19_3.length < 17592186044416 then ((some (x19_3 ++ [t411] : List Int)).bind fun y412 => (if x20_3 < (y412.length : Int) then ((haberdashref15_part.f k3 a0_0 a0_1 a0_2 l0_3 (rd l4 x20_3) (rd y412 x20_3)).bind fun t417 => (if x410001_3.length < 17592186044416 then (haberdashref15_Levy.l1 k3 a2 l3 l4 a5 y412 (wrap64 (x20_3 + 1)) a0_0 a0_1 a0_2 l0_3 t394 t395 t398 t399 y405 (x410001_3 ++ [t417]) a5 t408) else (none))) else (none))) else (none)) = some (r1, r2, r3, r4, r5) := H
        have A70 := Aside0.mk A700; clear A700; replace H := ip_ H; obtain ⟨c71, H⟩ := H; have LMc71 := Aside0.mk c71; clear c71; obtain ⟨y412, hy412⟩ : ∃ y_ : List Int, y_ = (x19_3 ++ [t411]) := ⟨_, rfl⟩
        replace H : (if x20_3 < (y412.length : Int) then ((haberdashref15_part.f k3 a0_0 a0_1 a0_2 l0_3 (rd l4 x20_3) (rd y412 x20_3)).bind fun t417 => (if x410001_3.length < 17592186044416 then (haberdashref15_Levy.l1 k3 a2 l3 l4 a5 y412 (wrap64 (x20_3 + 1)) a0_0 a0_1 a0_2 l0_3 t394 t395 t398 t399 y405 (x410001_3 ++ [t417]) a5 t408) else (none))) else (none)) = some (r1, r2, r3, r4, r5) := hy_ hy412 H
        have Ny412 := Aside0.mk hy412; clear hy412; replace H := ip_ H; obtain ⟨c72, H⟩ := H; have c72b0 := decide_eq_true c72; clear c72; replace H := Option.bind_eq_some_iff.mp H; obtain ⟨t417, A730, H⟩ := H; replace H : (if x410001_3.length < 17592186044416 then (haberdashref15_Levy.l1 k3 a2 l3 l4 a5 y412 (wrap64 (x20_3 + 1)) a0_0 a0_1 a0_2 l0_3 t394 t395 t398 t399 y405 (x410001_3 ++ [t417]) a5 t408) else (none)) = some (r1, r2, r3, r4, r5) := H
        have A73 := Aside0.mk A730; clear A730; replace H := ip_ H; obtain ⟨c74, H⟩ := H; have LMc74 := Aside0.mk c74; clear c74; obtain ⟨y418, hy418⟩ : ∃ y_ : List Int, y_ = (x410001_3 ++ [t417]) := ⟨_, rfl⟩; replace H : (haberdashref15_Levy.l1 k3 a2 l3 l4 a5 y412 (wrap64 (x20_3 + 1)) a0_0 a0_1 a0_2 l0_3 t394 t395 t398 t399 y405 y418 a5 t408) = some (r1, r2, r3, r4, r5) := hy_ hy418 H
        have Ny418 := Aside0.mk hy418; clear hy418; have H' := Aside0.mk H; clear H
        try go_wp2
        replace HO_19 := Aside0.mk (Kd.R_drew HO_19.out); replace HO_402001 := Aside0.mk (Kd.V_drew HO_402001.out); replace HO_410000 := Aside0.mk (Kd.R_drew HO_410000.out); replace HO_410001 := Aside0.mk (Kd.R_drew HO_410001.out); replace BK388 := Aside0.mk (blk_drew BK388.out); replace BK389 := Aside0.mk (blk_drew BK389.out)
        replace BK401 := Aside0.mk (blk_drew BK401.out); replace BK409 := Aside0.mk (blk_drew BK409.out); replace HB := Aside0.mk (below_drew1 HB.out); have p410 : 0 ≤ (x20_3 : Int) := of_decide_eq_true as_; have q410 : x20_3 < (l3.length : Int) := of_decide_eq_true as_; obtain ⟨ad410, e410, hx410_0⟩ := Kd.at_string HR3.out x20_3 p410 q410
        have hw410_0 := hx410_0; cases e410; replace hx410_0 := hd_ HB hx410_0; replace p410 := eq_true p410; replace q410 := eq_true q410
        refine start_ (n := 10) (S := fun w' => w'.cell? ⟨gb401, 0, none⟩ = some (.string t394) ∧ w'.cell? ⟨gb401, 1, none⟩ = some (.slice Ao52 t395.length co52) ∧ w'.cell? ⟨gb401, 2, none⟩ = some (.int .i64 t398) ∧ w'.cell? ⟨gb401, 3, none⟩ = some (.int .i64 t399) ∧ w'.cell? (ad410.add (x20_3).toNat) = some (.string (rdOf ByteArray.empty l3 x20_3))) (ds := []) (mk 10 0) (by kernel_rfl) rfl rfl ⟨cl_ BK401 0, cl_ BK401 1, cl_ BK401 2, cl_ BK401 3, (hc_ HB hw410_0)⟩ (fun hHeld => ?_); refine with_tabW haberdashref15_Levy.tab18 haberdashref15_Levy.bits18 (fun HT_ HW_ => ?_)
        generalize wr.drew = w75 at HO_19 HO_402001 HO_410000 HO_410001 BK388 BK389 BK401 BK409 HB hx410_0 hHeld ⊢
        refine ahead_ [(0, 98), (2, 100), (3, 101), (4, 102)] ?_
        iterate 4 (refine pB_ HT_ ?_)
        refine aheadE_ (mk 10 29) kr_ ?_
        refine ahead_ [(1, 99), (5, 103)] ?_
        iterate 2 (refine tA_ (v := ?_) (a' := ?_) rfl rfl HT_.out HW_.out (by kernel_rfl) (fun _ _ _ h => h) (Or.inl ⟨by rfl, ?_⟩) hHeld ?_ ?_; rotate_left; (rintro w' ⟨s0, s1, s2, s3, s4⟩; go_simp; with_reducible rfl); rotate_left; (exact pu_))
        refine aheadE_ (mk 10 63) kr_ ?_
        refine one_ (i := 6) (N := some 104) (mk 10 127) rfl rfl (on_ HT_) de_ (fun K hK => ?_)
        refine goes_ Try.func30 (by kernel_rfl) rfl #[.agg #[.string t394, .slice Ao52 t395.length co52, .int .i64 t398, .int .i64 t399], .string (rdOf ByteArray.empty l3 x20_3)] (by rfl) rfl rfl am_ ?_
        with_reducible refine (haberdashref10_Rate.calls k3 t394 _ _ t395 t398 t399 (rdOf ByteArray.empty l3 x20_3) t411 _ ?side1 ?side2 A70.out).mono ?_
        (case side1 => exact sc_ (Kd.V_reads' HO_402001.out).2.2)
        (case side2 => exact (Kd.V_reads' HO_402001.out).2.1)
        rintro e w76 ⟨rfl, hb⟩
        refine ⟨_, rfl, ?_⟩
        replace HO_19 := Aside0.mk (Kd.R_below (ro_ HO_19) hb); replace HO_402001 := Aside0.mk (Kd.V_below (vo_ HO_402001) hb); replace HO_410000 := Aside0.mk (Kd.R_below (ro_ HO_410000) hb); replace HO_410001 := Aside0.mk (Kd.R_below (ro_ HO_410001) hb); replace BK388 := Aside0.mk (bb_ BK388 hb); replace BK389 := Aside0.mk (bb_ BK389 hb)
        replace BK401 := Aside0.mk (bb_ BK401 hb); replace BK409 := Aside0.mk (bb_ BK409 hb); replace HB := Aside0.mk (below_step (hb4_ HB GE388 GE389 GE401 GE409) hb); (try clear hb); (try clear hb2); (try clear hk); (try clear hi)
        refine hK.out _ _ ⟨cl_ BK401 0, cl_ BK401 1, cl_ BK401 2, cl_ BK401 3, (hc_ HB hw410_0)⟩ (fun hHeld => ?_)
        clear hK K
        refine norm_ pv_ ?_
        refine one_ (i := 7) (N := some 105) (mk 10 255) rfl rfl (on_ HT_) de_ (fun K hK => ?_)
        refine value_ (w1 := ?_) (v := ?_) (by rfl) rfl ?_ ?_
        rotate_left 2
        ·
         go_simp
         constructor
         ·
          rfl
         ·
          rfl
        refine hK.out _ _ ⟨(blk_cell (blk_alloc BK401.out _) 0).trans rfl, (blk_cell (blk_alloc BK401.out _) 1).trans rfl, (blk_cell (blk_alloc BK401.out _) 2).trans rfl, (blk_cell (blk_alloc BK401.out _) 3).trans rfl, (World.cell?_alloc_lt _ _ _ (World.block_lt_of_cell? _ _ ((hc_ HB hw410_0)))).trans ((hc_ HB hw410_0))⟩ (fun hHeld => ?_)
        clear hK K
        refine norm_ pv_ ?_
        refine one_ (i := 8) (N := some 106) (mk 10 511) rfl rfl (on_ HT_) de_ (fun K hK => ?_)
        refine Kd.R_append_step (Kd.int .i64) (w0 := w) w.heap.size (by rfl) (.tmp 98) (.tmp 105) 26 2 (.int .i64 0) 8 rfl Try.underlying26 info2 rfl (by decide) (by omega) u19 x19_3 t411 [.int .i64 t411] (fun k_ => some k_ ≠ (.slice Ao62 y405.length co62 : Value).ownBlock ∧ some k_ ≠ (u410001 : Value).ownBlock) (fun _ => False) rfl rfl ?aP (fun _ hk => hk.elim) ?aF ?aO ?aB ?aS ?aL ?_
        (case aP => exact rfl)
        (case aB => exact (hb4_ HB GE388 GE389 GE401 GE409))
        (case aF => exact (fun k_ hk => ⟨Kd.fresh' (Kd.R_lt (ro_ HO_410000)) k_ hk, Kd.fresh' (Kd.R_lt (ro_ HO_410001)) k_ hk⟩))
        (case aO => exact (ro_ HO_19))
        (case aS => exact (below_size (hb4_ HB GE388 GE389 GE401 GE409)))
        (case aL => have := LMc71.out; omega)
        intro v413 w77 ho hb hg hat
        rw [← Ny412.out] at ho
        have n0_ := Aside0.mk (Kd.V_afterv (ok := (fun k_ => some k_ ≠ (.slice Ao62 y405.length co62 : Value).ownBlock ∧ some k_ ≠ (u410001 : Value).ownBlock ∧ k_ ≠ gb388 ∧ k_ ≠ gb389 ∧ k_ ≠ gb401 ∧ k_ ≠ gb409)) (by (with_reducible repeat (first | apply Kd.V_alloc | apply Kd.V_drewN | apply Kd.V_drew)); exact Kd.V_mono HO_402001.out (fun _ hk => ⟨⟨hk.2.1, ⟨hk.2.2.1, ⟨hk.2.2.2.1, ⟨hk.2.2.2.2.1, ⟨hk.2.2.2.2.2.1, hk.2.2.2.2.2.2⟩⟩⟩⟩⟩, hk.1⟩)) hg hat)
        have n1_ := Aside0.mk (Kd.R_after (ok := (fun k_ => some k_ ≠ (u410001 : Value).ownBlock)) (rm_ HO_410000 (fun _ hk => ⟨hk.2, hk.1⟩)) hg hat)
        have n2_ := Aside0.mk (Kd.R_after (ok := (fun k_ => some k_ ≠ (.slice Ao62 y405.length co62 : Value).ownBlock)) (rm_ HO_410001 (fun _ hk => ⟨hk.2, hk.1⟩)) hg hat)
        have n3_ := Aside0.mk (blk_grown (g := gb388) (o := .cells #[.bool a0_0, .bool a0_1, .int .i64 a0_2, .slice A0_3 l0_3.length c0_3] 24 (0, 0)) (bk_ BK388) hg (Kd.R_ne HO_19.out BK388.out (by decide)))
        have n4_ := Aside0.mk (blk_grown (g := gb389) (o := .cells #[.slice none 0 0, .slice none 0 0, .int .i64 x390002_2, .int .i64 x390003_2] 37 (0, 0)) (bk_ BK389) hg (Kd.R_ne HO_19.out BK389.out (by decide)))
        have n5_ := Aside0.mk (blk_grown (g := gb401) (o := .cells #[.string t394, .slice Ao52 t395.length co52, .int .i64 t398, .int .i64 t399] 51 (0, 0)) (bk_ BK401) hg (Kd.R_ne HO_19.out BK401.out (by decide)))
        have n6_ := Aside0.mk (blk_grown (g := gb409) (o := .cells #[.slice Ao62 y405.length co62, u410001, .int .i64 a5, .int .i64 t408] 37 (0, 0)) (bk_ BK409) hg (Kd.R_ne HO_19.out BK409.out (by decide)))
        have n7_ := Aside0.mk hb; have n8_ := Aside0.mk ho; clear HO_402001; clear HO_410000; clear HO_410001; clear BK388; clear BK389; clear BK401; clear BK409; clear HB; clear HO_19; have HO_402001 := n0_; have HO_410000 := n1_; have HO_410001 := n2_; have BK388 := n3_; have BK389 := n4_; have BK401 := n5_
        have BK409 := n6_; have HB := n7_; have HO414 := n8_; clear n0_ n1_ n2_ n3_ n4_ n5_ n6_ n7_ n8_; clear ho hb hg hat
        refine hK.out _ _ ⟨cl_ BK401 0, cl_ BK401 1, cl_ BK401 2, cl_ BK401 3, (hc_ HB hw410_0)⟩ (fun hHeld => ?_)
        clear hK K
        refine norm_ pv_ ?_
        refine pure_ (i := 9) (N := some 19) (v := ?_) (a' := ?_) (mk 10 1023) rfl rfl (an_ HT_) nh_ (Or.inl ⟨ry_, ?_⟩) ?_ ?_
        rotate_left; (intro w'; go_simp; with_reducible rfl)
        rotate_left; (exact pu_)
        refine done_ (done_of HT_.out (by kernel_rfl)) ?_
        try go_wp2
        replace HO_402001 := Aside0.mk (Kd.V_drew HO_402001.out); replace HO_410000 := Aside0.mk (Kd.R_drew HO_410000.out); replace HO_410001 := Aside0.mk (Kd.R_drew HO_410001.out); replace HO414 := Aside0.mk (Kd.R_drew HO414.out); replace BK388 := Aside0.mk (blk_drew BK388.out); replace BK389 := Aside0.mk (blk_drew BK389.out)
        replace BK401 := Aside0.mk (blk_drew BK401.out); replace BK409 := Aside0.mk (blk_drew BK409.out); replace HB := Aside0.mk (below_drew1 HB.out); have p415 : 0 ≤ (x20_3 : Int) := of_decide_eq_true as_; have q415 : x20_3 < (l4.length : Int) := of_decide_eq_true as_; obtain ⟨ad415, e415, hx415_0⟩ := Kd.at_int HR4.out x20_3 p415 q415
        have hw415_0 := hx415_0; cases e415; replace hx415_0 := hd_ HB hx415_0; replace p415 := eq_true p415; replace q415 := eq_true q415; obtain ⟨Ao79, co79, eo79⟩ := Kd.R_slice HO414.out
        (first | subst eo79 | (injection eo79 with f1_ f2_ f3_; have f4_ := f1_.symm; have f5_ := f3_.symm; clear f1_ f2_ f3_; subst f4_; subst f5_))
        have p416 : 0 ≤ (x20_3 : Int) := of_decide_eq_true as_; have q416 : x20_3 < (y412.length : Int) := of_decide_eq_true as_; obtain ⟨ad416, e416, hx416_0⟩ := Kd.at_int (Kd.R_reads' HO414.out).2.2 x20_3 p416 q416; cases e416; replace p416 := eq_true p416; replace q416 := eq_true q416
        refine start_ (n := 16) (S := fun w' => w'.cell? ⟨gb409, 0, none⟩ = some (.slice Ao62 y405.length co62) ∧ w'.cell? ⟨gb409, 1, none⟩ = some (u410001) ∧ w'.cell? ⟨gb409, 2, none⟩ = some (.int .i64 a5) ∧ w'.cell? ⟨gb409, 3, none⟩ = some (.int .i64 t408) ∧ w'.cell? ⟨gb388, 0, none⟩ = some (.bool a0_0) ∧ w'.cell? ⟨gb388, 1, none⟩ = some (.bool a0_1) ∧ w'.cell? ⟨gb388, 2, none⟩ = some (.int .i64 a0_2) ∧ w'.cell? ⟨gb388, 3, none⟩ = some (.slice A0_3 l0_3.length c0_3) ∧ w'.cell? (ad415.add (x20_3).toNat) = some (.int .i64 (rd l4 x20_3)) ∧ w'.cell? (ad416.add (x20_3).toNat) = some (.int .i64 (rd y412 x20_3))) (ds := [13, 15]) (mk 16 0) (by kernel_rfl) rfl rfl ⟨cl_ BK409 0, cl_ BK409 1, cl_ BK409 2, cl_ BK409 3, cl_ BK388 0, cl_ BK388 1, cl_ BK388 2, cl_ BK388 3, (hc_ HB hw415_0), hx416_0⟩ (fun hHeld => ?_); refine with_tabW haberdashref15_Levy.tab19 haberdashref15_Levy.bits19 (fun HT_ HW_ => ?_)
        generalize w77.drew = w78 at HO_402001 HO_410000 HO_410001 HO414 BK388 BK389 BK401 BK409 HB hx415_0 hx416_0 hHeld ⊢
        refine ahead_ [(0, 107), (3, 110), (4, 111), (5, 112), (7, 114), (8, 115), (9, 116)] ?_
        iterate 7 (refine pB_ HT_ ?_)
        refine aheadE_ (mk 16 953) kr_ ?_
        refine ahead_ [(1, 108), (2, 109), (6, 113), (10, 117)] ?_
        iterate 4 (refine tA_ (v := ?_) (a' := ?_) rfl rfl HT_.out HW_.out (by kernel_rfl) (fun _ _ _ h => h) (Or.inl ⟨by rfl, ?_⟩) hHeld ?_ ?_; rotate_left; (rintro w' ⟨s0, s1, s2, s3, s4, s5, s6, s7, s8, s9⟩; go_simp; with_reducible rfl); rotate_left; (exact pu_))
        refine aheadE_ (mk 16 2047) kr_ ?_
        refine one_ (i := 11) (N := some 118) (mk 16 4095) rfl rfl (on_ HT_) de_ (fun K hK => ?_)
        refine goes_ Try.func29 (by kernel_rfl) rfl #[.agg #[.bool a0_0, .bool a0_1, .int .i64 a0_2, .slice A0_3 l0_3.length c0_3], .int .i64 (rd l4 x20_3), .int .i64 (rd y412 x20_3)] (by rfl) rfl rfl am_ ?_
        with_reducible refine (haberdashref15_part.calls k3 a0_0 a0_1 a0_2 _ _ l0_3 (rd l4 x20_3) (rd y412 x20_3) t417 _ ?side1 ?side2 A73.out).mono ?_
        (case side1 => exact sc_ (Kd.C_below HR0_3.out HB.out))
        (case side2 => exact HC0_3.out)
        rintro e w80 ⟨rfl, hb⟩
        have HS9_ := (hb.cell (World.block_lt_of_cell? _ _ (hHeld.2.2.2.2.2.2.2.2.2))).trans (hHeld.2.2.2.2.2.2.2.2.2)
        refine ⟨_, rfl, ?_⟩
        replace HO_402001 := Aside0.mk (Kd.V_below (vo_ HO_402001) hb); replace HO_410000 := Aside0.mk (Kd.R_below (ro_ HO_410000) hb); replace HO_410001 := Aside0.mk (Kd.R_below (ro_ HO_410001) hb); replace HO414 := Aside0.mk (Kd.R_below (ro_ HO414) hb); replace BK388 := Aside0.mk (bb_ BK388 hb); replace BK389 := Aside0.mk (bb_ BK389 hb)
        replace BK401 := Aside0.mk (bb_ BK401 hb); replace BK409 := Aside0.mk (bb_ BK409 hb); replace HB := Aside0.mk (below_step (hb4_ HB GE388 GE389 GE401 GE409) hb); (try clear hb); (try clear hb2); (try clear hk); (try clear hi)
        refine hK.out _ _ ⟨cl_ BK409 0, cl_ BK409 1, cl_ BK409 2, cl_ BK409 3, cl_ BK388 0, cl_ BK388 1, cl_ BK388 2, cl_ BK388 3, (hc_ HB hw415_0), HS9_⟩ (fun hHeld => ?_)
        clear hK K
        refine norm_ pv_ ?_
        refine one_ (i := 12) (N := some 119) (mk 16 8191) rfl rfl (on_ HT_) de_ (fun K hK => ?_)
        refine value_ (w1 := ?_) (v := ?_) (by rfl) rfl ?_ ?_
        rotate_left 2
        ·
         go_simp
         constructor
         ·
          rfl
         ·
          rfl
        refine hK.out _ _ ⟨(blk_cell (blk_alloc BK409.out _) 0).trans rfl, (blk_cell (blk_alloc BK409.out _) 1).trans rfl, (blk_cell (blk_alloc BK409.out _) 2).trans rfl, (blk_cell (blk_alloc BK409.out _) 3).trans rfl, (blk_cell (blk_alloc BK388.out _) 0).trans rfl, (blk_cell (blk_alloc BK388.out _) 1).trans rfl, (blk_cell (blk_alloc BK388.out _) 2).trans rfl, (blk_cell (blk_alloc BK388.out _) 3).trans rfl, (World.cell?_alloc_lt _ _ _ (World.block_lt_of_cell? _ _ ((hc_ HB hw415_0)))).trans ((hc_ HB hw415_0)), (World.cell?_alloc_lt _ _ _ (World.block_lt_of_cell? _ _ (hHeld.2.2.2.2.2.2.2.2.2))).trans (hHeld.2.2.2.2.2.2.2.2.2)⟩ (fun hHeld => ?_)
        clear hK K
        refine norm_ pv_ ?_
        refine last_ (i := 13) (N := some 120) (mk 16 16383) rfl rfl (on_ HT_) de_ (fun K hK => ?_)
        refine Kd.R_append_step (Kd.int .i64) (w0 := w) w.heap.size (by rfl) (.tmp 108) (.tmp 119) 26 2 (.int .i64 0) 8 rfl Try.underlying26 info2 rfl (by decide) (by omega) u410001 x410001_3 t417 [.int .i64 t417] (fun k_ => some k_ ≠ (.slice Ao62 y405.length co62 : Value).ownBlock ∧ some k_ ≠ (.slice (some ad416) y412.length co79 : Value).ownBlock) (fun _ => False) rfl rfl ?aP (fun _ hk => hk.elim) ?aF ?aO ?aB ?aS ?aL ?_
        (case aP => exact rfl)
        (case aB => exact (hb4_ HB GE388 GE389 GE401 GE409))
        (case aF => exact (fun k_ hk => ⟨Kd.fresh' (Kd.R_lt (ro_ HO_410000)) k_ hk, Kd.fresh' (Kd.R_lt (ro_ HO414)) k_ hk⟩))
        (case aO => exact (ro_ HO_410001))
        (case aS => exact (below_size (hb4_ HB GE388 GE389 GE401 GE409)))
        (case aL => have := LMc74.out; omega)
        intro v419 w81 ho hb hg hat
        rw [← Ny418.out] at ho
        have n0_ := Aside0.mk (Kd.V_afterv (ok := (fun k_ => some k_ ≠ (.slice Ao62 y405.length co62 : Value).ownBlock ∧ some k_ ≠ (.slice (some ad416) y412.length co79 : Value).ownBlock ∧ k_ ≠ gb388 ∧ k_ ≠ gb389 ∧ k_ ≠ gb401 ∧ k_ ≠ gb409)) (by (with_reducible repeat (first | apply Kd.V_alloc | apply Kd.V_drewN | apply Kd.V_drew)); exact Kd.V_mono HO_402001.out (fun _ hk => ⟨⟨hk.1.1, ⟨hk.2, ⟨hk.1.2.2.1, ⟨hk.1.2.2.2.1, ⟨hk.1.2.2.2.2.1, hk.1.2.2.2.2.2⟩⟩⟩⟩⟩, hk.1.2.1⟩)) hg hat)
        have n1_ := Aside0.mk (Kd.R_after (ok := (fun k_ => some k_ ≠ (.slice (some ad416) y412.length co79 : Value).ownBlock)) (rm_ HO_410000 (fun _ hk => ⟨hk.2, hk.1⟩)) hg hat)
        have n2_ := Aside0.mk (blk_grown (g := gb388) (o := .cells #[.bool a0_0, .bool a0_1, .int .i64 a0_2, .slice A0_3 l0_3.length c0_3] 24 (0, 0)) (bk_ BK388) hg (Kd.R_ne HO_410001.out BK388.out (by decide)))
        have n3_ := Aside0.mk (blk_grown (g := gb389) (o := .cells #[.slice none 0 0, .slice none 0 0, .int .i64 x390002_2, .int .i64 x390003_2] 37 (0, 0)) (bk_ BK389) hg (Kd.R_ne HO_410001.out BK389.out (by decide)))
        have n4_ := Aside0.mk (blk_grown (g := gb401) (o := .cells #[.string t394, .slice Ao52 t395.length co52, .int .i64 t398, .int .i64 t399] 51 (0, 0)) (bk_ BK401) hg (Kd.R_ne HO_410001.out BK401.out (by decide)))
        have n5_ := Aside0.mk (blk_grown (g := gb409) (o := .cells #[.slice Ao62 y405.length co62, u410001, .int .i64 a5, .int .i64 t408] 37 (0, 0)) (bk_ BK409) hg (Kd.R_ne HO_410001.out BK409.out (by decide)))
        have n6_ := Aside0.mk (Kd.R_after (ok := (fun k_ => some k_ ≠ (.slice Ao62 y405.length co62 : Value).ownBlock)) (ro_ HO414) hg hat)
        have n7_ := Aside0.mk hb; have n8_ := Aside0.mk ho; clear HO_402001; clear HO_410000; clear BK388; clear BK389; clear BK401; clear BK409; clear HO414; clear HB; clear HO_410001; have HO_402001 := n0_; have HO_410000 := n1_; have BK388 := n2_; have BK389 := n3_; have BK401 := n4_; have BK409 := n5_
        have HO414 := n6_; have HB := n7_; have HO420 := n8_; clear n0_ n1_ n2_ n3_ n4_ n5_ n6_ n7_ n8_; clear ho hb hg hat; obtain ⟨Ao82, co82, eo82⟩ := Kd.R_slice HO420.out
        (first | subst eo82 | (injection eo82 with f1_ f2_ f3_; have f4_ := f1_.symm; have f5_ := f3_.symm; clear f1_ f2_ f3_; subst f4_; subst f5_))
        refine hK.out _ _ ?_
        clear hK K
        refine norm_ pv_ ?_
        refine pure_ (i := 14) (N := some 121) (v := ?_) (a' := ?_) (mk 16 32767) rfl rfl (an_ HT_) nh_ (Or.inl ⟨ry_, ?_⟩) ?_ ?_
        rotate_left; (intro w'; go_simp; with_reducible rfl)
        rotate_left; (exact pu_)
        refine last_ (i := 15) (N := none) (mk 16 65535) rfl rfl (on_ HT_) de_ (fun K hK => ?_)
        have hs83 : w81.cell? ⟨gb409, 1, none⟩ = some (u410001) := (blk_cell BK409.out 1).trans rfl; have hfs83 := blk_frozen BK409.out 1; have hns83_0 := NB388_409.out; have hns83_1 := NB389_409.out; have hns83_2 := NB401_409.out; have hms83_0 := NB409_388.out; have hms83_1 := NB409_389.out; have hms83_2 := NB409_401.out
        refine skip_ (w1 := ?_) (by rfl) rfl ?_ ?_
        rotate_left
        ·
         go_simp
         rfl
        refine hK.out _ _ ?_
        clear hK K
        refine done_ (done_of HT_.out (by kernel_rfl)) ?_
        try go_wp2
        go_roundg k3
        case measure => have := HJ6.out; have := HK2.out; have := HK3.out; omega
        case rel => exact ⟨(y412), (wrap64 (x20_3 + 1)), (y418), (.slice Ao82 y418.length co82), rf_, H', ⟨ho3_ HJ6 HK2 HK3⟩, ⟨by (with_reducible repeat (first | apply Kd.R_alloc | apply Kd.R_drewN | apply Kd.R_drew)); exact Kd.R_mono (Kd.R_far (p := ⟨gb409, 1, none⟩) (Kd.R_types HO414.out BK409.out (by decide)) (fun _ hk => hk.2) (.slice Ao82 y418.length co82)) (fun _ hk => ⟨hk.1.1, hk.1.2⟩)⟩, ⟨by (with_reducible repeat (first | apply Kd.V_alloc | apply Kd.V_drewN | apply Kd.V_drew)); exact Kd.V_mono (Kd.V_far (p := ⟨gb409, 1, none⟩) (Kd.V_mono HO_402001.out (fun k_ hk => (⟨hk, hk.1.2.2.2.2.2⟩ : _ ∧ k_ ≠ gb409))) (fun _ hk => hk.2) (.slice Ao82 y418.length co82)) (fun _ hk => ⟨hk.1.1.2.1, ⟨hk.1.1.1, ⟨hk.1.2, ⟨hk.1.1.2.2.1, ⟨hk.1.1.2.2.2.1, ⟨hk.1.1.2.2.2.2.1, hk.1.1.2.2.2.2.2⟩⟩⟩⟩⟩⟩)⟩, ⟨by (with_reducible repeat (first | apply Kd.R_alloc | apply Kd.R_drewN | apply Kd.R_drew)); exact Kd.R_mono (Kd.R_far (p := ⟨gb409, 1, none⟩) (Kd.R_types HO_410000.out BK409.out (by decide)) (fun _ hk => hk.2) (.slice Ao82 y418.length co82)) (fun _ hk => ⟨hk.1.1, hk.1.2⟩)⟩, ⟨by (with_reducible repeat (first | apply Kd.R_alloc | apply Kd.R_drewN | apply Kd.R_drew)); exact Kd.R_mono (Kd.R_far (p := ⟨gb409, 1, none⟩) (Kd.R_types HO420.out BK409.out (by decide)) (fun _ hk => hk.2) (.slice Ao82 y418.length co82)) (fun _ hk => ⟨hk.1.2, hk.1.1⟩)⟩, ⟨bf1_ BK388 NB388_409⟩, ⟨bf1_ BK389 NB389_409⟩, ⟨bf1_ BK401 NB401_409⟩, ⟨bq0_ BK409⟩, ⟨hb4_ HB GE388 GE389 GE401 GE409⟩⟩
       rw [if_neg c67] at H; have c67b0 := decide_eq_false c67; clear c67; have HC84 := Aside0.mk H; clear H; have hnb85 := NB388_389.out; have hnc85 := NB389_388.out; have hnb86 := NB388_401.out; have hnc86 := NB401_388.out; have hnb87 := NB388_409.out; have hnc87 := NB409_388.out; obtain ⟨hcz88_0, hcz88_1, hcz88_2, hcz88_3⟩ := cz4_ BK388
       obtain ⟨hfz88_0, hfz88_1, hfz88_2, hfz88_3⟩ := fz4_ BK388
       go_upto_if 123 with (fail)
       go_cut [] (fun wc => ∃ (kq : Nat) (x410001_83 : List Int) (u410001 : Value), Aside0 (haberdashref15_Levy.j3 kq a2 l4 a5 a0_0 a0_1 a0_2 l0_3 y405 x410001_83 a5 t408 = some (r1, r2, r3, r4, r5)) ∧ Aside0 (kq ≤ k3) ∧ Aside0 (Kd.V k56 56 wc w.heap.size (fun k_ => some k_ ≠ ((.slice Ao62 y405.length co62) : Value).ownBlock ∧ some k_ ≠ (u410001 : Value).ownBlock ∧ k_ ≠ gb388 ∧ k_ ≠ gb389 ∧ k_ ≠ gb401 ∧ k_ ≠ gb409) (.slice Ao52 t395.length co52) t395) ∧ Aside0 (Kd.R (Kd.int .i64) 2 wc w.heap.size (fun k_ => some k_ ≠ (u410001 : Value).ownBlock) (.slice Ao62 y405.length co62) y405) ∧ Aside0 (Kd.R (Kd.int .i64) 2 wc w.heap.size (fun k_ => some k_ ≠ ((.slice Ao62 y405.length co62) : Value).ownBlock) u410001 x410001_83) ∧ Aside0 (wc.heap[gb388]? = some (.cells #[.bool a0_0, .bool a0_1, .int .i64 a0_2, (.slice A0_3 l0_3.length c0_3)] 24 (0, 0))) ∧ Aside0 (wc.heap[gb389]? = some (.cells #[(.slice none 0 0), (.slice none 0 0), .int .i64 x390002_2, .int .i64 x390003_2] 37 (0, 0))) ∧ Aside0 (wc.heap[gb401]? = some (.cells #[.string t394, (.slice Ao52 t395.length co52), .int .i64 t398, .int .i64 t399] 51 (0, 0))) ∧ Aside0 (wc.heap[gb409]? = some (.cells #[(.slice Ao62 y405.length co62), u410001, .int .i64 a5, .int .i64 t408] 37 (0, 0))) ∧ Aside0 (Below w.heap.size w wc))
       case first =>
        have H := HC84.out; clear HC84
        by_cases c89 : a0_1 = true
        rotate_left
        ·
         replace c89 := Bool.eq_false_iff.mpr c89; subst c89; rw [if_neg nf_] at H; have H' := Aside0.mk H; clear H
         go_wp2
         go_meet
         case rel => exact ⟨_, (x410001_3), (u410001), H', ⟨by have := HJ6.out; have := HK2.out; have := HK3.out; first | omega | exact Nat.le_refl _⟩, ⟨by (with_reducible repeat (first | apply Kd.V_alloc | apply Kd.V_drewN | apply Kd.V_drew)); exact Kd.V_mono HO_402001.out (fun _ hk => ⟨hk.2.1, ⟨hk.2.2.1, ⟨hk.2.2.2.1, ⟨hk.2.2.2.2.1, ⟨hk.2.2.2.2.2.1, hk.2.2.2.2.2.2⟩⟩⟩⟩⟩)⟩, ⟨rm_ HO_410000 (fun _ hk => hk.2)⟩, ⟨rm_ HO_410001 (fun _ hk => hk.2)⟩, ⟨bk_ BK388⟩, ⟨bk_ BK389⟩, ⟨bk_ BK401⟩, ⟨bk_ BK409⟩, ⟨hb4_ HB GE388 GE389 GE401 GE409⟩⟩
        subst c89; rw [if_pos rfl] at H; replace H := Option.bind_eq_some_iff.mp H; obtain ⟨t421, A900, H⟩ := H; replace H : (haberdashref15_Levy.j3 k3 a2 l4 a5 a0_0 true a0_2 l0_3 y405 t421 a5 t408) = some (r1, r2, r3, r4, r5) := H; have A90 := Aside0.mk A900; clear A900; have H' := Aside0.mk H; clear H
        have hnb91 := NB388_389.out; have hnc91 := NB389_388.out; have hnb92 := NB388_401.out; have hnc92 := NB401_388.out; have hnb93 := NB388_409.out; have hnc93 := NB409_388.out; obtain ⟨hcz94_0, hcz94_1, hcz94_2, hcz94_3⟩ := cz4_ BK388; obtain ⟨hfz94_0, hfz94_1, hfz94_2, hfz94_3⟩ := fz4_ BK388; obtain ⟨Ao95, co95, eo95⟩ := Kd.R_slice HO_19.out
        subst eo95
        go_wp2_with (first | (refine gl_ 31 127 Try.func31 #[.agg #[.bool a0_0, .bool true, .int .i64 a0_2, .slice A0_3 l0_3.length c0_3], .slice Ao95 x19_3.length co95, .slice A4 l4.length c4] ?_; (with_reducible refine (haberdashref15_byOrder.calls k3 a0_0 true a0_2 _ _ l0_3 _ _ x19_3 _ _ l4 t421 _ ?side1 ?side2 ?side3 ?side4 ?side5 ?side6 A90.out).mono ?_); (case side1 => exact sc_ (Kd.C_below HR0_3.out HB.out)); (case side2 => exact HC0_3.out); (case side3 => exact sc_ (Kd.R_reads' HO_19.out).2.2); (case side4 => exact (Kd.R_reads' HO_19.out).2.1); (case side5 => exact sc_ (Kd.C_below HR4.out HB.out)); (case side6 => exact HC4.out); rintro e w96 ⟨v422, rfl, ho0, hb⟩; refine ⟨_, rfl, ?_⟩; replace HO_402001 := Aside0.mk (Kd.V_elder' (vo_ HO_402001) (Kd.R_base ho0) hb); have HO423 := Aside0.mk (Kd.R_lower (Kd.R_new' (Kd.R_new' (Kd.R_new' ho0 (Kd.R_lt (ro_ HO_19))) (Kd.R_lt (ro_ HO_410000))) (Kd.R_lt (ro_ HO_410001))) (below_size (hb4_ HB GE388 GE389 GE401 GE409))); replace HO_19 := Aside0.mk (Kd.R_elder' (ro_ HO_19) (Kd.R_base ho0) hb); replace HO_410000 := Aside0.mk (Kd.R_elder' (ro_ HO_410000) (Kd.R_base ho0) hb); replace HO_410001 := Aside0.mk (Kd.R_elder' (ro_ HO_410001) (Kd.R_base ho0) hb); replace BK388 := Aside0.mk (bb_ BK388 hb); replace BK389 := Aside0.mk (bb_ BK389 hb); replace BK401 := Aside0.mk (bb_ BK401 hb); replace BK409 := Aside0.mk (bb_ BK409 hb); replace HB := Aside0.mk (below_step (hb4_ HB GE388 GE389 GE401 GE409) hb); (try clear hb); (try clear ho0); obtain ⟨Ao97, co97, eo97⟩ := Kd.R_slice HO423.out; subst eo97; have hnb98 := NB409_389.out; have hnc98 := NB389_409.out; have hnb99 := NB409_401.out; have hnc99 := NB401_409.out; obtain ⟨hcz100_0, hcz100_1, hcz100_2, hcz100_3⟩ := cz4_ BK409; obtain ⟨hfz100_0, hfz100_1, hfz100_2, hfz100_3⟩ := fz4_ BK409))
        go_meet
        case rel => exact ⟨_, (t421), (.slice Ao97 t421.length co97), H', ⟨by have := HJ6.out; have := HK2.out; have := HK3.out; first | omega | exact Nat.le_refl _⟩, ⟨by (with_reducible repeat (first | apply Kd.V_alloc | apply Kd.V_drewN | apply Kd.V_drew)); exact Kd.V_mono (Kd.V_far (p := ⟨gb409, 1, none⟩) (Kd.V_mono HO_402001.out (fun k_ hk => (⟨hk, hk.1.2.2.2.2.2.2⟩ : _ ∧ k_ ≠ gb409))) (fun _ hk => hk.2) (.slice Ao97 t421.length co97)) (fun _ hk => ⟨hk.1.1.2.1, ⟨hk.1.2, ⟨hk.1.1.2.2.2.1, ⟨hk.1.1.2.2.2.2.1, ⟨hk.1.1.2.2.2.2.2.1, hk.1.1.2.2.2.2.2.2⟩⟩⟩⟩⟩)⟩, ⟨rf1_ HO_410000 BK409⟩, ⟨rf1_ HO423 BK409⟩, ⟨bf1_ BK388 NB388_409⟩, ⟨bf1_ BK389 NB389_409⟩, ⟨bf1_ BK401 NB401_409⟩, ⟨bq0_ BK409⟩, ⟨hb4_ HB GE388 GE389 GE401 GE409⟩⟩
       case rest =>
        clear HC84; (try clear c2); (try clear p2); (try clear c3); (try clear c4); (try clear p4); (try clear q4); (try clear hx4); (try clear c6); (try clear p6); (try clear c7); (try clear c8); (try clear c9); (try clear c29); (try clear c30); (try clear c31); (try clear p41); (try clear q41); (try clear hx41)
        (try clear p64); (try clear c67); (try clear c67b0); (try clear c68); (try clear c68b0); (try clear c69); (try clear c69b0); (try clear c71); (try clear c72); (try clear c72b0); (try clear c74); (try clear c85); (try clear c86); (try clear c87); (try clear c89); (try clear c91); (try clear c92)
        (try clear c93); (try clear c98); (try clear c99); (try clear hcz100_0 hcz100_1 hcz100_2 hcz100_3); (try clear hcz88_0 hcz88_1 hcz88_2 hcz88_3); (try clear hcz94_0 hcz94_1 hcz94_2 hcz94_3); (try clear hfz100_0 hfz100_1 hfz100_2 hfz100_3); (try clear hfz88_0 hfz88_1 hfz88_2 hfz88_3); (try clear hfz94_0 hfz94_1 hfz94_2 hfz94_3)
        (try clear hx410_0); (try clear hx415_0); (try clear hx416_0); (try clear p410); (try clear p415); (try clear p416); (try clear q410); (try clear q415); (try clear q416); obtain ⟨kq, x410001_83, u410001, HA, HJ83, HO_402001, HO_410000, HO_410001, BK388, BK389, BK401, BK409, HB⟩ := hcut
        cases kq with
        | zero => exact absurd HA.out (by simp [haberdashref15_Levy.j3])
        | succ kj83 =>
         have H := HA.out; clear HA
         simp only [haberdashref15_Levy.j3] at H
         have HC101 := Aside0.mk H; clear H
         go_upto_block 4 with (fail)
         go_cut [] (fun wc => ∃ (kq : Nat) (x410000_100 : List Int) (x410001_100 : List Int) (u410000 : Value) (u410001 : Value), Aside0 (haberdashref15_Levy.j5 kq a2 l4 a5 a0_0 a0_1 a0_2 l0_3 x410000_100 x410001_100 a5 t408 = some (r1, r2, r3, r4, r5)) ∧ Aside0 (kq ≤ kj83) ∧ Aside0 (Kd.V k56 56 wc w.heap.size (fun k_ => some k_ ≠ (u410000 : Value).ownBlock ∧ some k_ ≠ (u410001 : Value).ownBlock ∧ k_ ≠ gb388 ∧ k_ ≠ gb389 ∧ k_ ≠ gb401 ∧ k_ ≠ gb409) (.slice Ao52 t395.length co52) t395) ∧ Aside0 (Kd.R (Kd.int .i64) 2 wc w.heap.size (fun k_ => some k_ ≠ (u410001 : Value).ownBlock) u410000 x410000_100) ∧ Aside0 (Kd.R (Kd.int .i64) 2 wc w.heap.size (fun k_ => some k_ ≠ (u410000 : Value).ownBlock) u410001 x410001_100) ∧ Aside0 (wc.heap[gb388]? = some (.cells #[.bool a0_0, .bool a0_1, .int .i64 a0_2, (.slice A0_3 l0_3.length c0_3)] 24 (0, 0))) ∧ Aside0 (wc.heap[gb389]? = some (.cells #[(.slice none 0 0), (.slice none 0 0), .int .i64 x390002_2, .int .i64 x390003_2] 37 (0, 0))) ∧ Aside0 (wc.heap[gb401]? = some (.cells #[.string t394, (.slice Ao52 t395.length co52), .int .i64 t398, .int .i64 t399] 51 (0, 0))) ∧ Aside0 (wc.heap[gb409]? = some (.cells #[u410000, u410001, .int .i64 a5, .int .i64 t408] 37 (0, 0))) ∧ Aside0 (Below w.heap.size w wc))
         case first =>
          have H := HC101.out; clear HC101; have H' := Aside0.mk H; clear H
          go_wp2
          (try simp only [addr0])
          go_loopg [21] kj83 (fun kq v21 w' => ∃ (x21_5 : Int) (x410000_5 : List Int) (x410001_5 : List Int) (u410000 : Value) (u410001 : Value), v21 = .int .i64 x21_5 ∧ Aside0 (haberdashref15_Levy.l2 kq a2 l4 a5 x21_5 a0_0 a0_1 a0_2 l0_3 x410000_5 x410001_5 a5 t408 = some (r1, r2, r3, r4, r5)) ∧ Aside0 (kq ≤ kj83) ∧ Aside0 (Kd.V k56 56 w' w.heap.size (fun k_ => some k_ ≠ (u410000 : Value).ownBlock ∧ some k_ ≠ (u410001 : Value).ownBlock ∧ k_ ≠ gb388 ∧ k_ ≠ gb389 ∧ k_ ≠ gb401 ∧ k_ ≠ gb409) (.slice Ao52 t395.length co52) t395) ∧ Aside0 (Kd.R (Kd.int .i64) 2 w' w.heap.size (fun k_ => some k_ ≠ (u410001 : Value).ownBlock) u410000 x410000_5) ∧ Aside0 (Kd.R (Kd.int .i64) 2 w' w.heap.size (fun k_ => some k_ ≠ (u410000 : Value).ownBlock) u410001 x410001_5) ∧ Aside0 (w'.heap[gb388]? = some (.cells #[.bool a0_0, .bool a0_1, .int .i64 a0_2, (.slice A0_3 l0_3.length c0_3)] 24 (0, 0))) ∧ Aside0 (w'.heap[gb389]? = some (.cells #[(.slice none 0 0), (.slice none 0 0), .int .i64 x390002_2, .int .i64 x390003_2] 37 (0, 0))) ∧ Aside0 (w'.heap[gb401]? = some (.cells #[.string t394, (.slice Ao52 t395.length co52), .int .i64 t398, .int .i64 t399] 51 (0, 0))) ∧ Aside0 (w'.heap[gb409]? = some (.cells #[u410000, u410001, .int .i64 a5, .int .i64 t408] 37 (0, 0))) ∧ Aside0 (Below w.heap.size w w'))
          case atStart => exact ⟨(0), (y405), (x410001_83), (.slice Ao62 y405.length co62), (u410001), rf_, H', ⟨Nat.le_refl _⟩, ⟨vo_ HO_402001⟩, ⟨ro_ HO_410000⟩, ⟨ro_ HO_410001⟩, ⟨bk_ BK388⟩, ⟨bk_ BK389⟩, ⟨bk_ BK401⟩, ⟨bk_ BK409⟩, ⟨hb4_ HB GE388 GE389 GE401 GE409⟩⟩
          case round =>
           clear H'; (try clear c2); (try clear p2); (try clear c3); (try clear c4); (try clear p4); (try clear q4); (try clear hx4); (try clear c6); (try clear p6); (try clear c7); (try clear c8); (try clear c9); (try clear c29); (try clear c30); (try clear c31); (try clear p41); (try clear q41); (try clear hx41)
           (try clear p64); (try clear c67); (try clear c67b0); (try clear c68); (try clear c68b0); (try clear c69); (try clear c69b0); (try clear c71); (try clear c72); (try clear c72b0); (try clear c74); (try clear c85); (try clear c86); (try clear c87); (try clear c89); (try clear c91); (try clear c92)
           (try clear c93); (try clear c98); (try clear c99); (try clear hcz100_0 hcz100_1 hcz100_2 hcz100_3); (try clear hcz88_0 hcz88_1 hcz88_2 hcz88_3); (try clear hcz94_0 hcz94_1 hcz94_2 hcz94_3); (try clear hfz100_0 hfz100_1 hfz100_2 hfz100_3); (try clear hfz88_0 hfz88_1 hfz88_2 hfz88_3); (try clear hfz94_0 hfz94_1 hfz94_2 hfz94_3)
           (try clear hx410_0); (try clear hx415_0); (try clear hx416_0); (try clear p2); (try clear p4); (try clear p41); (try clear p410); (try clear p415); (try clear p416); (try clear p6); (try clear p64); (try clear q4); (try clear q41); (try clear q410); (try clear q415); (try clear q416); obtain ⟨x21_5, x410000_5, x410001_5, u410000, u410001, rfl, HA, HK5, HO_402001, HO_410000, HO_410001, BK388, BK389, BK401, BK409, HB⟩ := hrel
           cases gk with
           | zero => exact absurd HA.out (by simp [haberdashref15_Levy.l2])
           | succ k5 =>
            have H := HA.out; clear HA
            simp only [haberdashref15_Levy.l2] at H
            by_cases c102 : x21_5 < (l4.length : Int)
            rotate_left
            ·
             rw [if_neg c102] at H; have c102b0 := decide_eq_false c102; clear c102
             (first | rw [c102b0] | (simp only [i64_w, i32_w]; rw [c102b0]) | skip)
             have H' := Aside0.mk H; clear H
             go_wp2
             go_meet
             case rel => exact ⟨_, (x410000_5), (x410001_5), (u410000), (u410001), H', ⟨by have := HJ6.out; have := HK2.out; have := HK3.out; have := HJ83.out; have := HK5.out; first | omega | exact Nat.le_refl _⟩, ⟨vo_ HO_402001⟩, ⟨ro_ HO_410000⟩, ⟨ro_ HO_410001⟩, ⟨bk_ BK388⟩, ⟨bk_ BK389⟩, ⟨bk_ BK401⟩, ⟨bk_ BK409⟩, ⟨hb4_ HB GE388 GE389 GE401 GE409⟩⟩
            rw [if_pos c102] at H; have c102b0 := decide_eq_true c102; clear c102
            (first | rw [c102b0] | (simp only [i64_w, i32_w]; rw [c102b0]) | skip)
            by_cases c103 : a0_0 = true
            rotate_left
            ·
             replace c103 := Bool.eq_false_iff.mpr c103; subst c103; rw [if_neg nf_] at H; have H' := Aside0.mk H; clear H; have hnb115 := NB388_389.out; have hnc115 := NB389_388.out; have hnb116 := NB388_401.out; have hnc116 := NB401_388.out; have hnb117 := NB388_409.out; have hnc117 := NB409_388.out
             obtain ⟨hcz118_0, hcz118_1, hcz118_2, hcz118_3⟩ := cz4_ BK388; obtain ⟨hfz118_0, hfz118_1, hfz118_2, hfz118_3⟩ := fz4_ BK388
             go_wp2
             go_meet
             case rel => exact ⟨_, (x410000_5), (x410001_5), (u410000), (u410001), H', ⟨by have := HJ6.out; have := HK2.out; have := HK3.out; have := HJ83.out; have := HK5.out; first | omega | exact Nat.le_refl _⟩, ⟨vo_ HO_402001⟩, ⟨ro_ HO_410000⟩, ⟨ro_ HO_410001⟩, ⟨bk_ BK388⟩, ⟨bk_ BK389⟩, ⟨bk_ BK401⟩, ⟨bk_ BK409⟩, ⟨hb4_ HB GE388 GE389 GE401 GE409⟩⟩
            subst c103; rw [if_pos rfl] at H; replace H := ip_ H; obtain ⟨c104, H⟩ := H; have c104b0 := decide_eq_true c104; clear c104; replace H := ip_ H; obtain ⟨c105, H⟩ := H; have c105b0 := decide_eq_true c105; clear c105; replace H := ip_ H; obtain ⟨c106, H⟩ := H; have c106b0 := decide_eq_true c106
            clear c106; obtain ⟨y426, hy426⟩ : ∃ y_ : List Int, y_ = (x410000_5.set (x21_5 : Int).toNat (wrap64 ((rd l4 x21_5) - (rd x410001_5 x21_5)))) := ⟨_, rfl⟩; replace H : (haberdashref15_Levy.l2 k5 a2 l4 a5 (wrap64 (x21_5 + 1)) true a0_1 a0_2 l0_3 y426 x410001_5 a5 t408) = some (r1, r2, r3, r4, r5) := hy_ hy426 H
            have Ny426 := Aside0.mk hy426; clear hy426; have H' := Aside0.mk H; clear H; have hnb108 := NB388_389.out; have hnc108 := NB389_388.out; have hnb109 := NB388_401.out; have hnc109 := NB401_388.out; have hnb110 := NB388_409.out; have hnc110 := NB409_388.out; obtain ⟨hcz111_0, hcz111_1, hcz111_2, hcz111_3⟩ := cz4_ BK388
            obtain ⟨hfz111_0, hfz111_1, hfz111_2, hfz111_3⟩ := fz4_ BK388
            try go_wp2
            replace HO_402001 := Aside0.mk (Kd.V_drew HO_402001.out); replace HO_410000 := Aside0.mk (Kd.R_drew HO_410000.out); replace HO_410001 := Aside0.mk (Kd.R_drew HO_410001.out); replace BK388 := Aside0.mk (blk_drew BK388.out); replace BK389 := Aside0.mk (blk_drew BK389.out); replace BK401 := Aside0.mk (blk_drew BK401.out)
            replace BK409 := Aside0.mk (blk_drew BK409.out); replace HB := Aside0.mk (below_drew1 HB.out); have p424 : 0 ≤ (x21_5 : Int) := of_decide_eq_true as_; have q424 : x21_5 < (l4.length : Int) := of_decide_eq_true as_; obtain ⟨ad424, e424, hx424_0⟩ := Kd.at_int HR4.out x21_5 p424 q424; have hw424_0 := hx424_0
            cases e424; replace hx424_0 := hd_ HB hx424_0; replace p424 := eq_true p424; replace q424 := eq_true q424; obtain ⟨Ao113, co113, eo113⟩ := Kd.R_slice HO_410001.out
            (first | subst eo113 | (injection eo113 with f1_ f2_ f3_; have f4_ := f1_.symm; have f5_ := f3_.symm; clear f1_ f2_ f3_; subst f4_; subst f5_))
            have p425 : 0 ≤ (x21_5 : Int) := of_decide_eq_true as_; have q425 : x21_5 < (x410001_5.length : Int) := of_decide_eq_true as_; obtain ⟨ad425, e425, hx425_0⟩ := Kd.at_int (Kd.R_reads' HO_410001.out).2.2 x21_5 p425 q425; cases e425; replace p425 := eq_true p425; replace q425 := eq_true q425
            have p107 : 0 ≤ (x21_5 : Int) := of_decide_eq_true as_; have q107 : (x21_5 : Int) < ((x410000_5.length : Int) : Int) := of_decide_eq_true as_
            obtain ⟨go107, co107, eo107, gb107, gl107, cl107, HG107⟩ := Kd.R_form HO_410000.out (by omega)
            (first | cases eo107 | (injection eo107 with ea_ en_ ec_; (first | subst ea_ | (injection ea_ with ea_; subst ea_)); subst ec_; clear en_))
            have GB107 := Aside0.mk gb107; have GG107 := Aside0.mk HG107; clear gb107 gl107 HG107; obtain ⟨hx107_0, hf107_0⟩ := Kd.R_celln 0 HO_410000.out (x21_5 : Int) p107 q107; replace p107 := eq_true p107; replace q107 := eq_true q107; have HP114 := Kd.R_putn HO_410000.out (x21_5 : Int) (wrap64 ((rd l4 x21_5) - (rd x410001_5 x21_5)))
            rw [← Ny426.out] at HP114; have HQ114 := Aside0.mk HP114; clear HP114
            refine start_ (n := 15) (S := fun w' => w'.cell? ⟨gb409, 0, none⟩ = some (.slice (some ⟨go107, 0, none⟩) x410000_5.length co107) ∧ w'.cell? ⟨gb409, 1, none⟩ = some (.slice (some ad425) x410001_5.length co113) ∧ w'.cell? ⟨gb409, 2, none⟩ = some (.int .i64 a5) ∧ w'.cell? ⟨gb409, 3, none⟩ = some (.int .i64 t408) ∧ w'.cell? (ad424.add (x21_5).toNat) = some (.int .i64 (rd l4 x21_5)) ∧ w'.cell? (ad425.add (x21_5).toNat) = some (.int .i64 (rd x410001_5 x21_5))) (ds := [14]) (mk 15 0) (by kernel_rfl) rfl rfl ⟨cl_ BK409 0, cl_ BK409 1, cl_ BK409 2, cl_ BK409 3, (hc_ HB hw424_0), hx425_0⟩ (fun hHeld => ?_); refine with_tabW haberdashref15_Levy.tab25 haberdashref15_Levy.bits25 (fun HT_ HW_ => ?_)
            generalize wr.drew = w112 at HO_402001 HO_410000 HO_410001 BK388 BK389 BK401 BK409 HB GG107 HQ114 hf107_0 hx107_0 hx424_0 hx425_0 hHeld ⊢
            refine ahead_ [(0, 139), (2, 141), (3, 142), (4, 143), (5, 144), (7, 146), (9, 148)] ?_
            iterate 7 (refine pB_ HT_ ?_)
            refine aheadE_ (mk 15 701) kr_ ?_
            refine ahead_ [(1, 140), (6, 145), (8, 147)] ?_
            iterate 3 (refine tA_ (v := ?_) (a' := ?_) rfl rfl HT_.out HW_.out (by kernel_rfl) (fun _ _ _ h => h) (Or.inl ⟨by rfl, ?_⟩) hHeld ?_ ?_; rotate_left; (rintro w' ⟨s0, s1, s2, s3, s4, s5⟩; go_simp; with_reducible rfl); rotate_left; (exact pu_))
            refine aheadE_ (mk 15 1023) kr_ ?_
            refine pure_ (i := 10) (N := some 149) (v := ?_) (a' := ?_) (mk 15 2047) rfl rfl (an_ HT_) nh_ (Or.inl ⟨ry_, ?_⟩) ?_ ?_
            rotate_left; (intro w'; go_simp; with_reducible rfl)
            rotate_left; (exact pu_)
            refine take_ (i := 11) (N := some 150) (v := ?_) (a' := ?_) (mk 15 4095) rfl rfl (tw_ HT_ HW_) nh_ (Or.inl ⟨by rfl, ?_⟩) hHeld ?_ ?_
            rotate_left
            ·
             rintro w' ⟨s0, s1, s2, s3, s4, s5⟩
             go_simp
             with_reducible rfl
            rotate_left; (exact pu_)
            refine ahead_ [(12, 151), (13, 152)] ?_
            iterate 2 (refine pB_ HT_ ?_)
            refine aheadE_ (mk 15 16383) kr_ ?_
            refine last_ (i := 14) (N := none) (mk 15 32767) rfl rfl (on_ HT_) de_ (fun K hK => ?_)
            refine skip_ (w1 := ?_) (by rfl) rfl ?_ ?_
            rotate_left
            ·
             go_simp
             rfl
            refine hK.out _ _ ?_
            clear hK K
            refine done_ (done_of HT_.out (by kernel_rfl)) ?_
            try go_wp2
            go_roundg k5
            case measure => have := HJ6.out; have := HK2.out; have := HK3.out; have := HJ83.out; have := HK5.out; omega
            case rel => exact ⟨(wrap64 (x21_5 + 1)), (y426), (x410001_5), (.slice (some ⟨go107, 0, none⟩) x410000_5.length co107), (.slice (some ad425) x410001_5.length co113), rf_, H', ⟨by have := HJ6.out; have := HK2.out; have := HK3.out; have := HJ83.out; have := HK5.out; omega⟩, ⟨by (with_reducible repeat (first | apply Kd.V_alloc | apply Kd.V_drewN | apply Kd.V_drew)); exact Kd.V_mono (Kd.V_far (p := ⟨go107, (x21_5 : Int).toNat, none⟩) (Kd.V_mono HO_402001.out (fun k_ hk => (⟨hk, fun e_ => hk.1 (by rw [e_]; rfl)⟩ : _ ∧ k_ ≠ go107))) (fun _ hk => hk.2) (.int .i64 (wrap64 ((rd l4 x21_5) - (rd x410001_5 x21_5))))) (fun _ hk => ⟨hk.1.1, ⟨hk.1.2.1, ⟨hk.1.2.2.1, ⟨hk.1.2.2.2.1, ⟨hk.1.2.2.2.2.1, hk.1.2.2.2.2.2⟩⟩⟩⟩⟩)⟩, ⟨ro_ HQ114⟩, ⟨by (with_reducible repeat (first | apply Kd.R_alloc | apply Kd.R_drewN | apply Kd.R_drew)); exact Kd.R_mono (Kd.R_far (p := ⟨go107, (x21_5 : Int).toNat, none⟩) (Kd.R_mono HO_410001.out (fun k_ hk => (⟨hk, fun e_ => hk (by rw [e_]; rfl)⟩ : _ ∧ k_ ≠ go107))) (fun _ hk => hk.2) (.int .i64 (wrap64 ((rd l4 x21_5) - (rd x410001_5 x21_5))))) (fun _ hk => hk.1)⟩, ⟨by (with_reducible repeat (first | refine blk_drewN ?_ _ | refine blk_drew ?_ | refine blk_alloc ?_ _)); refine blk_far ?_ (by have h_ := Kd.R_ne HO_410000.out BK388.out (by decide); intro e_; exact h_ (by rw [e_]; rfl)) _; (with_reducible repeat (first | refine blk_drewN ?_ _ | refine blk_drew ?_ | refine blk_alloc ?_ _)); exact BK388.out⟩, ⟨by (with_reducible repeat (first | refine blk_drewN ?_ _ | refine blk_drew ?_ | refine blk_alloc ?_ _)); refine blk_far ?_ (by have h_ := Kd.R_ne HO_410000.out BK389.out (by decide); intro e_; exact h_ (by rw [e_]; rfl)) _; (with_reducible repeat (first | refine blk_drewN ?_ _ | refine blk_drew ?_ | refine blk_alloc ?_ _)); exact BK389.out⟩, ⟨by (with_reducible repeat (first | refine blk_drewN ?_ _ | refine blk_drew ?_ | refine blk_alloc ?_ _)); refine blk_far ?_ (by have h_ := Kd.R_ne HO_410000.out BK401.out (by decide); intro e_; exact h_ (by rw [e_]; rfl)) _; (with_reducible repeat (first | refine blk_drewN ?_ _ | refine blk_drew ?_ | refine blk_alloc ?_ _)); exact BK401.out⟩, ⟨by (with_reducible repeat (first | refine blk_drewN ?_ _ | refine blk_drew ?_ | refine blk_alloc ?_ _)); refine blk_far ?_ (by have h_ := Kd.R_ne HO_410000.out BK409.out (by decide); intro e_; exact h_ (by rw [e_]; rfl)) _; (with_reducible repeat (first | refine blk_drewN ?_ _ | refine blk_drew ?_ | refine blk_alloc ?_ _)); exact BK409.out⟩, ⟨by repeat (first | (with_reducible first | exact HB.out | apply below_alloc | apply pw_below_drewN | apply below_drew1 | refine below_set ?_ GB107.out | refine below_set ?_ GE388.out | refine below_set ?_ GE389.out | refine below_set ?_ GE401.out | refine below_set ?_ GE409.out) | exact HB.out)⟩⟩
         case rest =>
          clear HC101; (try clear c1); (try clear p1); (try clear q1); (try clear hx1); (try clear c2); (try clear p2); (try clear c3); (try clear c4); (try clear p4); (try clear q4); (try clear hx4); (try clear c6); (try clear p6); (try clear c7); (try clear c8); (try clear c9); (try clear c10); (try clear p10)
          (try clear q10); (try clear hx10); (try clear hf10); (try clear c11); (try clear c29); (try clear c30); (try clear c31); (try clear p41); (try clear q41); (try clear hx41); (try clear p42); (try clear q42); (try clear hx42); (try clear p64); (try clear c67); (try clear c67b0); (try clear c68)
          (try clear c68b0); (try clear c69); (try clear c69b0); (try clear c71); (try clear c72); (try clear c72b0); (try clear c74); (try clear c85); (try clear c86); (try clear c87); (try clear c89); (try clear c91); (try clear c92); (try clear c93); (try clear c98); (try clear c99); (try clear c102)
          (try clear c102b0); (try clear c103); (try clear c104); (try clear c104b0); (try clear c105); (try clear c105b0); (try clear c106); (try clear c106b0); (try clear p107); (try clear q107); (try clear hx107); (try clear hf107); (try clear c108); (try clear c109); (try clear c110); (try clear c115)
          (try clear c116); (try clear c117); (try clear hcz100_0 hcz100_1 hcz100_2 hcz100_3); (try clear hcz111_0 hcz111_1 hcz111_2 hcz111_3); (try clear hcz118_0 hcz118_1 hcz118_2 hcz118_3); (try clear hcz88_0 hcz88_1 hcz88_2 hcz88_3); (try clear hcz94_0 hcz94_1 hcz94_2 hcz94_3); (try clear hfz100_0 hfz100_1 hfz100_2 hfz100_3)
          (try clear hfz111_0 hfz111_1 hfz111_2 hfz111_3); (try clear hfz118_0 hfz118_1 hfz118_2 hfz118_3); (try clear hfz88_0 hfz88_1 hfz88_2 hfz88_3); (try clear hfz94_0 hfz94_1 hfz94_2 hfz94_3); (try clear hx107_0); (try clear hx410_0); (try clear hx415_0); (try clear hx416_0); (try clear hx424_0)
          (try clear hx425_0); (try clear p107); (try clear p2); (try clear p4); (try clear p41); (try clear p410); (try clear p415); (try clear p416); (try clear p424); (try clear p425); (try clear p6); (try clear p64); (try clear q107); (try clear q4); (try clear q41); (try clear q410); (try clear q415)
          (try clear q416); (try clear q424); (try clear q425); obtain ⟨kq, x410000_100, x410001_100, u410000, u410001, HA, HJ100, HO_402001, HO_410000, HO_410001, BK388, BK389, BK401, BK409, HB⟩ := hcut
          cases kq with
          | zero => exact absurd HA.out (by simp [haberdashref15_Levy.j5])
          | succ kj100 =>
           have H := HA.out; clear HA
           simp only [haberdashref15_Levy.j5] at H
           by_cases c119 : a0_0 = true
           rotate_left
           ·
            replace c119 := Bool.eq_false_iff.mpr c119; subst c119; rw [if_neg nf_] at H
            by_cases c148 : a2 = true
            rotate_left
            ·
             replace c148 := Bool.eq_false_iff.mpr c148; subst c148; rw [if_neg nf_] at H
             simp only [Option.some.injEq, Prod.mk.injEq] at H
             obtain ⟨rfl, rfl, rfl, rfl, rfl⟩ := H; have hnb164 := NB388_389.out; have hnc164 := NB389_388.out; have hnb165 := NB388_401.out; have hnc165 := NB401_388.out; have hnb166 := NB388_409.out; have hnc166 := NB409_388.out; obtain ⟨hcz167_0, hcz167_1, hcz167_2, hcz167_3⟩ := cz4_ BK388; obtain ⟨hfz167_0, hfz167_1, hfz167_2, hfz167_3⟩ := fz4_ BK388
             have hnb168 := NB409_389.out; have hnc168 := NB389_409.out; have hnb169 := NB409_401.out; have hnc169 := NB401_409.out; obtain ⟨hcz170_0, hcz170_1, hcz170_2, hcz170_3⟩ := cz4_ BK409; obtain ⟨hfz170_0, hfz170_1, hfz170_2, hfz170_3⟩ := fz4_ BK409; obtain ⟨Ao171, co171, eo171⟩ := Kd.R_slice HO_410000.out
             subst eo171; have hnb172 := NB389_401.out; have hnc172 := NB401_389.out; obtain ⟨hcz173_0, hcz173_1, hcz173_2, hcz173_3⟩ := cz4_ BK389; obtain ⟨hfz173_0, hfz173_1, hfz173_2, hfz173_3⟩ := fz4_ BK389; obtain ⟨Ao174, co174, eo174⟩ := Kd.R_slice HO_410001.out; subst eo174
             go_wp2
             refine bodyPost_ret (results_ct rfl _ _ gb389 37 #[.slice Ao171 x410000_100.length co171, .slice Ao174 x410001_100.length co174, .int .i64 a5, .int .i64 t408] (0, 0) _ rfl (bq0_ BK389) Try.underlying37 rfl (by kernel_rfl)) rfl ?_
             exact ⟨_, _, er_, rf1_ HO_410000 BK389, rf1_ HO_410001 BK389, hb4_ HB GE388 GE389 GE401 GE409⟩
            subst c148; rw [if_pos rfl] at H; replace H := ip_ H; obtain ⟨c149, H⟩ := H; have c149b0 := eq_true c149; have c149b1 := decide_eq_true c149; clear c149; replace H := ip_ H; obtain ⟨c150, H⟩ := H; have c150b0 := eq_true c150; have c150b1 := decide_eq_true c150; clear c150; obtain ⟨y430, hy430⟩ : ∃ y_ : List Int, y_ = (List.replicate ((l4.length : Int) : Int).toNat 0) := ⟨_, rfl⟩
            replace H : (some (x410000_100, y430, a5, 0, 0)) = some (r1, r2, r3, r4, r5) := hy_ hy430 H; have Ny430 := Aside0.mk hy430; clear hy430
            simp only [Option.some.injEq, Prod.mk.injEq] at H
            obtain ⟨rfl, rfl, rfl, rfl, rfl⟩ := H; have hnb151 := NB388_389.out; have hnc151 := NB389_388.out; have hnb152 := NB388_401.out; have hnc152 := NB401_388.out; have hnb153 := NB388_409.out; have hnc153 := NB409_388.out; obtain ⟨hcz154_0, hcz154_1, hcz154_2, hcz154_3⟩ := cz4_ BK388; obtain ⟨hfz154_0, hfz154_1, hfz154_2, hfz154_3⟩ := fz4_ BK388
            go_wp2_with (first | ((with_reducible refine gate_dst (N := 163) rfl ?_); (try (refine gate_guard (by rfl) ?_; dsimp only)); refine Kd.R_make (Kd.int .i64) _ 2 rfl (N := 163) rfl 26 _ _ rfl (l4.length : Int) rfl rfl Try.underlying26 (.int .i64 0) 8 info2 rfl (by decide) (by omega) 0 (ok := fun _ => True) (okp := fun _ => True) rfl (fun _ hk => hk) trivial (of_decide_eq_true as_) (Nat.le_trans (Nat.mul_le_mul_right _ (of_decide_eq_true as_ : (l4.length : Int).toNat ≤ 35184372088832)) (by omega)) (Below.refl _ _) (Nat.le_refl _) ?_; intro v431 w155 ho156 hb hg_ hnew_; clear hg_ hnew_; (first | rw [← Ny430.out] at ho156 | (simp only [Int.reduceToNat] at ho156; rw [← Ny430.out] at ho156)); replace HO_402001 := Aside0.mk (Kd.V_elder' (vo_ HO_402001) (Kd.R_base ho156) hb); have HO432 := Aside0.mk (Kd.R_lower (Kd.R_new' (Kd.R_new' ho156 (Kd.R_lt (ro_ HO_410000))) (Kd.R_lt (ro_ HO_410001))) (below_size (hb4_ HB GE388 GE389 GE401 GE409))); replace HO_410000 := Aside0.mk (Kd.R_elder' (ro_ HO_410000) (Kd.R_base ho156) hb); replace HO_410001 := Aside0.mk (Kd.R_elder' (ro_ HO_410001) (Kd.R_base ho156) hb); replace BK388 := Aside0.mk (bb_ BK388 hb); replace BK389 := Aside0.mk (bb_ BK389 hb); replace BK401 := Aside0.mk (bb_ BK401 hb); replace BK409 := Aside0.mk (bb_ BK409 hb); replace HB := Aside0.mk (below_step (hb4_ HB GE388 GE389 GE401 GE409) hb); clear hb ho156; obtain ⟨Ao157, co157, eo157⟩ := Kd.R_slice HO432.out; subst eo157; have hnb158 := NB409_389.out; have hnc158 := NB389_409.out; have hnb159 := NB409_401.out; have hnc159 := NB401_409.out; obtain ⟨hcz160_0, hcz160_1, hcz160_2, hcz160_3⟩ := cz4_ BK409; obtain ⟨hfz160_0, hfz160_1, hfz160_2, hfz160_3⟩ := fz4_ BK409; obtain ⟨Ao161, co161, eo161⟩ := Kd.R_slice HO_410000.out; subst eo161; have hnb162 := NB389_401.out; have hnc162 := NB401_389.out; obtain ⟨hcz163_0, hcz163_1, hcz163_2, hcz163_3⟩ := cz4_ BK389; obtain ⟨hfz163_0, hfz163_1, hfz163_2, hfz163_3⟩ := fz4_ BK389))
            refine bodyPost_ret (results_ct rfl _ _ gb389 37 #[.slice Ao161 x410000_100.length co161, .slice Ao157 y430.length co157, .int .i64 a5, .int .i64 0] (0, 0) _ rfl (bq1_ BK389 NB389_409) Try.underlying37 rfl (by kernel_rfl)) rfl ?_
            exact ⟨_, _, er_, rf2_ HO_410000 BK409 BK389, rf2_ HO432 BK409 BK389, hb4_ HB GE388 GE389 GE401 GE409⟩
           subst c119; rw [if_pos rfl] at H
           by_cases c120 : a2 = true
           rotate_left
           ·
            replace c120 := Bool.eq_false_iff.mpr c120; subst c120; rw [if_neg nf_] at H
            simp only [Option.some.injEq, Prod.mk.injEq] at H
            obtain ⟨rfl, rfl, rfl, rfl, rfl⟩ := H; have hnb137 := NB388_389.out; have hnc137 := NB389_388.out; have hnb138 := NB388_401.out; have hnc138 := NB401_388.out; have hnb139 := NB388_409.out; have hnc139 := NB409_388.out; obtain ⟨hcz140_0, hcz140_1, hcz140_2, hcz140_3⟩ := cz4_ BK388; obtain ⟨hfz140_0, hfz140_1, hfz140_2, hfz140_3⟩ := fz4_ BK388
            have hnb141 := NB409_389.out; have hnc141 := NB389_409.out; have hnb142 := NB409_401.out; have hnc142 := NB401_409.out; obtain ⟨hcz143_0, hcz143_1, hcz143_2, hcz143_3⟩ := cz4_ BK409; obtain ⟨hfz143_0, hfz143_1, hfz143_2, hfz143_3⟩ := fz4_ BK409; obtain ⟨Ao144, co144, eo144⟩ := Kd.R_slice HO_410000.out
            subst eo144; have hnb145 := NB389_401.out; have hnc145 := NB401_389.out; obtain ⟨hcz146_0, hcz146_1, hcz146_2, hcz146_3⟩ := cz4_ BK389; obtain ⟨hfz146_0, hfz146_1, hfz146_2, hfz146_3⟩ := fz4_ BK389; obtain ⟨Ao147, co147, eo147⟩ := Kd.R_slice HO_410001.out; subst eo147
            go_wp2
            refine bodyPost_ret (results_ct rfl _ _ gb389 37 #[.slice Ao144 x410000_100.length co144, .slice Ao147 x410001_100.length co147, .int .i64 (wrap64 (a5 - t408)), .int .i64 t408] (0, 0) _ rfl (bq1_ BK389 NB389_409) Try.underlying37 rfl (by kernel_rfl)) rfl ?_
            exact ⟨_, _, er_, rf2_ HO_410000 BK409 BK389, rf2_ HO_410001 BK409 BK389, hb4_ HB GE388 GE389 GE401 GE409⟩
           subst c120; rw [if_pos rfl] at H; replace H := ip_ H; obtain ⟨c121, H⟩ := H; have c121b0 := eq_true c121; have c121b1 := decide_eq_true c121; clear c121; replace H := ip_ H; obtain ⟨c122, H⟩ := H; have c122b0 := eq_true c122; have c122b1 := decide_eq_true c122; clear c122; obtain ⟨y427, hy427⟩ : ∃ y_ : List Int, y_ = (List.replicate ((l4.length : Int) : Int).toNat 0) := ⟨_, rfl⟩
           replace H : (some (x410000_100, y427, wrap64 (a5 - t408), 0, 0)) = some (r1, r2, r3, r4, r5) := hy_ hy427 H; have Ny427 := Aside0.mk hy427; clear hy427
           simp only [Option.some.injEq, Prod.mk.injEq] at H
           obtain ⟨rfl, rfl, rfl, rfl, rfl⟩ := H; have hnb123 := NB388_389.out; have hnc123 := NB389_388.out; have hnb124 := NB388_401.out; have hnc124 := NB401_388.out; have hnb125 := NB388_409.out; have hnc125 := NB409_388.out; obtain ⟨hcz126_0, hcz126_1, hcz126_2, hcz126_3⟩ := cz4_ BK388; obtain ⟨hfz126_0, hfz126_1, hfz126_2, hfz126_3⟩ := fz4_ BK388
           have hnb127 := NB409_389.out; have hnc127 := NB389_409.out; have hnb128 := NB409_401.out; have hnc128 := NB401_409.out; obtain ⟨hcz129_0, hcz129_1, hcz129_2, hcz129_3⟩ := cz4_ BK409; obtain ⟨hfz129_0, hfz129_1, hfz129_2, hfz129_3⟩ := fz4_ BK409
           go_wp2_with (first | ((with_reducible refine gate_dst (N := 163) rfl ?_); (try (refine gate_guard (by rfl) ?_; dsimp only)); refine Kd.R_make (Kd.int .i64) _ 2 rfl (N := 163) rfl 26 _ _ rfl (l4.length : Int) rfl rfl Try.underlying26 (.int .i64 0) 8 info2 rfl (by decide) (by omega) 0 (ok := fun _ => True) (okp := fun _ => True) rfl (fun _ hk => hk) trivial (of_decide_eq_true as_) (Nat.le_trans (Nat.mul_le_mul_right _ (of_decide_eq_true as_ : (l4.length : Int).toNat ≤ 35184372088832)) (by omega)) (Below.refl _ _) (Nat.le_refl _) ?_; intro v428 w130 ho131 hb hg_ hnew_; clear hg_ hnew_; (first | rw [← Ny427.out] at ho131 | (simp only [Int.reduceToNat] at ho131; rw [← Ny427.out] at ho131)); replace HO_402001 := Aside0.mk (Kd.V_elder' (by (with_reducible repeat (first | apply Kd.V_alloc | apply Kd.V_drewN | apply Kd.V_drew)); exact (Kd.V_mono (Kd.V_far (p := ⟨gb409, 2, none⟩) (Kd.V_mono HO_402001.out (fun k_ hk => (⟨hk, hk.2.2.2.2.2⟩ : _ ∧ k_ ≠ gb409))) (fun _ hk => hk.2) (.int .i64 (wrap64 (a5 - t408)))) (fun _ h_ => h_.1))) (Kd.R_base ho131) hb); have HO429 := Aside0.mk (Kd.R_lower (Kd.R_new' (Kd.R_new' ho131 (Kd.R_lt (by (with_reducible repeat (first | apply Kd.R_alloc | apply Kd.R_drewN | apply Kd.R_drew)); exact (rf1_ HO_410000 BK409)))) (Kd.R_lt (by (with_reducible repeat (first | apply Kd.R_alloc | apply Kd.R_drewN | apply Kd.R_drew)); exact (rf1_ HO_410001 BK409)))) (below_size (hb4_ HB GE388 GE389 GE401 GE409))); replace HO_410000 := Aside0.mk (Kd.R_elder' (by (with_reducible repeat (first | apply Kd.R_alloc | apply Kd.R_drewN | apply Kd.R_drew)); exact (rf1_ HO_410000 BK409)) (Kd.R_base ho131) hb); replace HO_410001 := Aside0.mk (Kd.R_elder' (by (with_reducible repeat (first | apply Kd.R_alloc | apply Kd.R_drewN | apply Kd.R_drew)); exact (rf1_ HO_410001 BK409)) (Kd.R_base ho131) hb); replace BK388 := Aside0.mk (blk_below (g := gb388) (o := .cells #[.bool true, .bool a0_1, .int .i64 a0_2, .slice A0_3 l0_3.length c0_3] 24 (0, 0)) (bf1_ BK388 NB388_409) hb); replace BK389 := Aside0.mk (blk_below (g := gb389) (o := .cells #[.slice none 0 0, .slice none 0 0, .int .i64 x390002_2, .int .i64 x390003_2] 37 (0, 0)) (bf1_ BK389 NB389_409) hb); replace BK401 := Aside0.mk (blk_below (g := gb401) (o := .cells #[.string t394, .slice Ao52 t395.length co52, .int .i64 t398, .int .i64 t399] 51 (0, 0)) (bf1_ BK401 NB401_409) hb); replace BK409 := Aside0.mk (blk_below (g := gb409) (o := .cells #[u410000, u410001, .int .i64 (wrap64 (a5 - t408)), .int .i64 t408] 37 (0, 0)) (bq0_ BK409) hb); replace HB := Aside0.mk (below_step (hb4_ HB GE388 GE389 GE401 GE409) hb); clear hb ho131; obtain ⟨Ao132, co132, eo132⟩ := Kd.R_slice HO429.out; subst eo132; obtain ⟨hcz133_0, hcz133_1, hcz133_2, hcz133_3⟩ := cz4_ BK409; obtain ⟨hfz133_0, hfz133_1, hfz133_2, hfz133_3⟩ := fz4_ BK409; obtain ⟨Ao134, co134, eo134⟩ := Kd.R_slice HO_410000.out; subst eo134; have hnb135 := NB389_401.out; have hnc135 := NB401_389.out; obtain ⟨hcz136_0, hcz136_1, hcz136_2, hcz136_3⟩ := cz4_ BK389; obtain ⟨hfz136_0, hfz136_1, hfz136_2, hfz136_3⟩ := fz4_ BK389))
           refine bodyPost_ret (results_ct rfl _ _ gb389 37 #[.slice Ao134 x410000_100.length co134, .slice Ao132 y427.length co132, .int .i64 (wrap64 (a5 - t408)), .int .i64 0] (0, 0) _ rfl (bq1_ BK389 NB389_409) Try.underlying37 rfl (by kernel_rfl)) rfl ?_
           exact ⟨_, _, er_, rf2_ HO_410000 BK409 BK389, rf2_ HO429 BK409 BK389, hb4_ HB GE388 GE389 GE401 GE409⟩

end Go.Proofs.Ytmiamdnhofjifaa.Rw
