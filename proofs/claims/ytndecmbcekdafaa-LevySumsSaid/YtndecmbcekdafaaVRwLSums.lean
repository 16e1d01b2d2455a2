/- Functions of the program as Lean functions, each with its contract: out of what the kit's printer wrote for this seat. -/
import Derived.Test.YtndecmbcekdafaaVRwA
import Derived.Test.YtndecmbcekdafaaVRwPlain
import Derived.Test.YtndecmbcekdafaaVRwL19b
import Derived.Test.YtndecmbcekdafaaVRwLevy3
import Derived.Test.YtndecmbcekdafaaVRwPTax
namespace Go.Proofs.Ytndecmbcekdafaa.Rw
open Go.RowKit Go.Proofs.YtndecmbcekdafaaW.PrintWords Go.Proofs.YtndecmbcekdafaaW.PrintLast Go.Proofs.YtndecmbcekdafaaW.PrintMore
attribute [local go_sem] max2_int min2_int max_two min_two max_three min_three max_four min_four   -- for this text's walks alone
set_option linter.unusedVariables false
set_option linter.unusedSimpArgs false
attribute [local go_sem high] leqS gtrS

/-! ### haberdashlaw19_LevySums: function 5 -/
mutual
def haberdashlaw19_LevySums.j0 : Nat → Int → List Int → List Int → Int → Bool → Bool → Bool → Int → List (S56) → Option (Bool)
  | 0, _, _, _, _, _, _, _, _, _ => none
  | k + 1, x1, x2, x3, x4, x33, x511000, x511001, x511002, x511003 => if x33 = true then ((haberdashlaw19_awake.f k).bind fun t512 => (some t512)) else ((haberdashplay_Tax.f k x511000 x511001 x511002 x511003).bind fun bt513 => ((haberdashplay_Mod64.f x4 5000).bind fun t519 => ((haberdashlaw19_near.f k x2 x3).bind fun bt520 => ((haberdashplay_Zone.f x1).bind fun t526 => ((levy_Levy.f k bt513.1 bt513.2.1 bt513.2.2.1 bt513.2.2.2 t526 false bt520.1 bt520.2 t519).bind fun bt527 => ((haberdashplay_Zone.f x1).bind fun t536 => ((levy_Levy.f k bt513.1 bt513.2.1 bt513.2.2.1 bt513.2.2.2 t536 true bt520.1 bt520.2 t519).bind fun bt537 => ((haberdashlaw19_awake.f k).bind fun t546 => (if t546 = true then (if bt527.2.2.2.2 = 0 then (if bt537.2.2.2.2 = 0 then (if (bt527.1.length : Int) = (bt520.2.length : Int) then (if (bt527.2.1.length : Int) = (bt520.2.length : Int) then ((haberdashhelp_Plain_int64.f k bt537.1 bt527.1).bind fun t547 => (if t547 = true then (if (bt537.2.1.length : Int) = (bt520.2.length : Int) then (if bt537.2.2.1 = bt527.2.2.1 then (haberdashlaw19_LevySums.j1 k t519 bt520.2 bt527.1 bt527.2.1 bt527.2.2.1 bt527.2.2.2.1 bt537.2.1 (bt537.2.2.2.1 != 0) bt513.1 bt513.2.1 bt513.2.2.1 bt513.2.2.2) else (haberdashlaw19_LevySums.j1 k t519 bt520.2 bt527.1 bt527.2.1 bt527.2.2.1 bt527.2.2.2.1 bt537.2.1 true bt513.1 bt513.2.1 bt513.2.2.1 bt513.2.2.2)) else (haberdashlaw19_LevySums.j1 k t519 bt520.2 bt527.1 bt527.2.1 bt527.2.2.1 bt527.2.2.2.1 bt537.2.1 true bt513.1 bt513.2.1 bt513.2.2.1 bt513.2.2.2)) else (haberdashlaw19_LevySums.j1 k t519 bt520.2 bt527.1 bt527.2.1 bt527.2.2.1 bt527.2.2.2.1 bt537.2.1 true bt513.1 bt513.2.1 bt513.2.2.1 bt513.2.2.2))) else (haberdashlaw19_LevySums.j1 k t519 bt520.2 bt527.1 bt527.2.1 bt527.2.2.1 bt527.2.2.2.1 bt537.2.1 true bt513.1 bt513.2.1 bt513.2.2.1 bt513.2.2.2)) else (haberdashlaw19_LevySums.j1 k t519 bt520.2 bt527.1 bt527.2.1 bt527.2.2.1 bt527.2.2.2.1 bt537.2.1 true bt513.1 bt513.2.1 bt513.2.2.1 bt513.2.2.2)) else (haberdashlaw19_LevySums.j1 k t519 bt520.2 bt527.1 bt527.2.1 bt527.2.2.1 bt527.2.2.2.1 bt537.2.1 true bt513.1 bt513.2.1 bt513.2.2.1 bt513.2.2.2)) else (haberdashlaw19_LevySums.j1 k t519 bt520.2 bt527.1 bt527.2.1 bt527.2.2.1 bt527.2.2.2.1 bt537.2.1 true bt513.1 bt513.2.1 bt513.2.2.1 bt513.2.2.2)) else (haberdashlaw19_LevySums.j1 k t519 bt520.2 bt527.1 bt527.2.1 bt527.2.2.1 bt527.2.2.2.1 bt537.2.1 true bt513.1 bt513.2.1 bt513.2.2.1 bt513.2.2.2))))))))))
def haberdashlaw19_LevySums.j1 : Nat → Int → List Int → List Int → List Int → Int → Int → List Int → Bool → Bool → Bool → Int → List (S56) → Option (Bool)
  | 0, _, _, _, _, _, _, _, _, _, _, _, _ => none
  | k + 1, x4, x12, x13, x14, x15, x16, x19, x116, x511000, x511001, x511002, x511003 => if x116 = true then (some false) else (haberdashlaw19_LevySums.l0 k x4 x12 x13 x14 x15 x16 x19 0 x511000 x511001 x511002 x511003)
def haberdashlaw19_LevySums.l0 : Nat → Int → List Int → List Int → List Int → Int → Int → List Int → Int → Bool → Bool → Int → List (S56) → Option (Bool)
  | 0, _, _, _, _, _, _, _, _, _, _, _, _ => none
  | k + 1, x4, x12, x13, x14, x15, x16, x19, x23, x511000, x511001, x511002, x511003 => if x23 < (x12.length : Int) then (if 0 ≤ x23 then (if x511000 = true then (if x23 < (x14.length : Int) then (if x23 < (x13.length : Int) then (if (rd x13 x23) = (wrap64 ((rd x12 x23) - (rd x14 x23))) then (if (rd x13 x23) < 0 then (some false) else (if (rd x14 x23) < 0 then (some false) else (if x23 < (x19.length : Int) then (if (rd x19 x23) = 0 then (haberdashlaw19_LevySums.l0 k x4 x12 x13 x14 x15 x16 x19 (wrap64 (x23 + 1)) x511000 x511001 x511002 x511003) else (some false)) else (none)))) else (some false)) else (none)) else (none)) else (if x23 < (x13.length : Int) then (if (rd x13 x23) = (rd x12 x23) then (if (rd x13 x23) < 0 then (some false) else (if x23 < (x14.length : Int) then (if (rd x14 x23) < 0 then (some false) else (if x23 < (x19.length : Int) then (if (rd x19 x23) = 0 then (haberdashlaw19_LevySums.l0 k x4 x12 x13 x14 x15 x16 x19 (wrap64 (x23 + 1)) x511000 x511001 x511002 x511003) else (some false)) else (none))) else (none))) else (some false)) else (none))) else (none)) else (if x511000 = true then (if (wrap64 (x15 + x16)) = x4 then (some true) else (some false)) else (some (x15 == x4)))
end
def haberdashlaw19_LevySums.f (k : Nat) (a0_0 : Bool) (a0_1 : Bool) (a0_2 : Int) (l0_3 : List (S56)) (a1 : Int) (l2 : List Int) (l3 : List Int) (a4 : Int) : Option (Bool) := (haberdashlaw19_few.f k a0_0 a0_1 a0_2 l0_3 ([] : List ByteArray) l3).bind fun t511 => (if t511 = true then (haberdashlaw19_LevySums.j0 k a1 l2 l3 a4 (decide ((l2.length : Int) > 60)) a0_0 a0_1 a0_2 l0_3) else (haberdashlaw19_LevySums.j0 k a1 l2 l3 a4 true a0_0 a0_1 a0_2 l0_3))
def haberdashlaw19_LevySums.T5 : Bool × List (List Nat × List Nat) := (true, [([], []), ([], []), ([1], [1]), ([], []), ([], []), ([], []), ([0, 2, 3, 4, 5, 2], [0, 2, 3, 4, 5]), ([6], [6]), ([7], [7]), ([7], [7]), ([7], [7]), ([7], [7]), ([7], [7]), ([8, 6, 0, 1, 2, 3, 4, 5, 6, 7, 8], [8]), ([9, 13, 0, 1, 2, 3, 4, 5, 6, 7, 8, 9, 13], [9]), ([10, 14, 0, 1, 2, 3, 4, 5, 6, 7, 8, 9, 10, 13, 14], [10]), ([11, 15, 0, 1, 2, 3, 4, 5, 6, 7, 8, 9, 10, 11, 13, 14, 15], [11]), ([12, 16, 0, 1, 2, 3, 4, 5, 6, 7, 8, 9, 10, 11, 12, 13, 14, 15, 16], [12])])
def haberdashlaw19_LevySums.B5 : List Nat := [0, 0, 2, 0, 0, 0, 63, 127, 255, 255, 255, 255, 255, 511, 9215, 26623, 61439, 131071]
theorem haberdashlaw19_LevySums.tab5 : rtab .any (opsOf Try.f5 5) = haberdashlaw19_LevySums.T5 := by kernel_rfl
theorem haberdashlaw19_LevySums.bits5 : waitsOk haberdashlaw19_LevySums.T5.2 haberdashlaw19_LevySums.B5 = true := by kernel_rfl
def haberdashlaw19_LevySums.T6 : Bool × List (List Nat × List Nat) := (true, [([], []), ([], []), ([1], [1]), ([], []), ([], []), ([], []), ([0, 2, 3, 4, 5, 2], [0, 2, 3, 4, 5]), ([6], [6]), ([7], [7]), ([7], [7]), ([7], [7]), ([7], [7]), ([7], [7]), ([8, 6, 0, 1, 2, 3, 4, 5, 6, 7, 8], [8]), ([9, 13, 0, 1, 2, 3, 4, 5, 6, 7, 8, 9, 13], [9]), ([10, 14, 0, 1, 2, 3, 4, 5, 6, 7, 8, 9, 10, 13, 14], [10]), ([11, 15, 0, 1, 2, 3, 4, 5, 6, 7, 8, 9, 10, 11, 13, 14, 15], [11]), ([12, 16, 0, 1, 2, 3, 4, 5, 6, 7, 8, 9, 10, 11, 12, 13, 14, 15, 16], [12])])
def haberdashlaw19_LevySums.B6 : List Nat := [0, 0, 2, 0, 0, 0, 63, 127, 255, 255, 255, 255, 255, 511, 9215, 26623, 61439, 131071]
theorem haberdashlaw19_LevySums.tab6 : rtab .any (opsOf Try.f5 6) = haberdashlaw19_LevySums.T6 := by kernel_rfl
theorem haberdashlaw19_LevySums.bits6 : waitsOk haberdashlaw19_LevySums.T6.2 haberdashlaw19_LevySums.B6 = true := by kernel_rfl
def haberdashlaw19_LevySums.T14 : Bool × List (List Nat × List Nat) := (true, [([], []), ([], []), ([0, 1], [0, 1]), ([2], [2]), ([], []), ([], []), ([4, 5], [4, 5]), ([6], [6]), ([3, 7], [3, 7]), ([8, 0, 1, 2, 3, 4, 5, 6, 7, 8], [8])])
def haberdashlaw19_LevySums.B14 : List Nat := [0, 0, 3, 7, 0, 0, 48, 112, 255, 511]
theorem haberdashlaw19_LevySums.tab14 : rtab .any (opsOf Try.f5 14) = haberdashlaw19_LevySums.T14 := by kernel_rfl
theorem haberdashlaw19_LevySums.bits14 : waitsOk haberdashlaw19_LevySums.T14.2 haberdashlaw19_LevySums.B14 = true := by kernel_rfl
set_option maxHeartbeats 8000000 in
set_option maxRecDepth 100000 in
theorem haberdashlaw19_LevySums.calls (k : Nat) (a0_0 : Bool) (a0_1 : Bool) (a0_2 : Int) (A0_3 : Option Addr) (c0_3 : Nat) (l0_3 : List (S56)) (a1 : Int) (A2 : Option Addr) (c2 : Nat) (l2 : List Int) (A3 : Option Addr) (c3 : Nat) (l3 : List Int) (a4 : Int) (r : Bool) (w : World) (hr0_3 : Kd.C k56 w A0_3 l0_3.length l0_3) (hc0_3 : l0_3.length ≤ c0_3) (hr2 : Kd.C (Kd.int .i64) w A2 l2.length l2) (hc2 : l2.length ≤ c2) (hr3 : Kd.C (Kd.int .i64) w A3 l3.length l3) (hc3 : l3.length ≤ c3) (h : haberdashlaw19_LevySums.f k a0_0 a0_1 a0_2 l0_3 a1 l2 l3 a4 = some r) :
   Calls Try.prog 5 #[.agg #[.bool a0_0, .bool a0_1, .int .i64 a0_2, .slice A0_3 l0_3.length c0_3], .int .i64 a1, .slice A2 l2.length c2, .slice A3 l3.length c3, .int .i64 a4] w fun e w' => e = .returned (.bool r) ∧ Below w.heap.size w w' := by
  have hu24 := Try.underlying24
  have HR0_3 := Aside0.mk hr0_3
  have HC0_3 := Aside0.mk hc0_3
  clear hr0_3 hc0_3
  have HR2 := Aside0.mk hr2
  have HC2 := Aside0.mk hc2
  clear hr2 hc2
  have HR3 := Aside0.mk hr3
  have HC3 := Aside0.mk hc3
  clear hr3 hc3
  have HB := Aside0.mk (Below.refl w.heap.size w)
  have H : ((haberdashlaw19_few.f k a0_0 a0_1 a0_2 l0_3 ([] : List ByteArray) l3).bind fun t511 => (if t511 = true then (haberdashlaw19_LevySums.j0 k a1 l2 l3 a4 (decide ((l2.length : Int) > 60)) a0_0 a0_1 a0_2 l0_3) else (haberdashlaw19_LevySums.j0 k a1 l2 l3 a4 true a0_0 a0_1 a0_2 l0_3))) = some r := h
  clear h
  have HC6 := Aside0.mk H
  clear H
  go_enter Try.func5, Try.ntmps5
  go_upto_region 1 with (first | ((with_reducible refine gate_dst (N := 5) rfl ?_); (try (refine gate_guard (by rfl) ?_; dsimp only)); refine box_event ?hg (N := 5) ?hd (cs := #[.bool a0_0, .bool a0_1, .int .i64 a0_2, .slice A0_3 l0_3.length c0_3]) (t := 24) ?hr ?_; (case hd => rfl); (case hg => rfl); (case hr => first | (go_simp; done) | (go_simp; rfl)); intro gb510 hg w7 hbox hb; have BK510 := Aside0.mk (hbox); have GW510 := Aside0.mk ((by rw [hg]; exact (below_size (by repeat (first | (with_reducible first | exact HB.out | apply below_alloc | apply pw_below_drewN | apply below_drew1) | exact HB.out))) : w.heap.size ≤ gb510)); have GE510 := Aside0.mk ((by rw [hg]; exact (below_size (by repeat (first | (with_reducible first | exact HB.out | apply below_alloc | apply pw_below_drewN | apply below_drew1) | exact HB.out))) : w.heap.size ≤ gb510)); replace HB := Aside0.mk (below_step (by repeat (first | (with_reducible first | exact HB.out | apply below_alloc | apply pw_below_drewN | apply below_drew1) | exact HB.out)) hb); clear hb hbox hg))
  (try simp only [Act.put, List.setIfInBounds_toArray, List.set_cons_zero, List.set_cons_succ])
  go_cut [33] (fun v33 wc => ∃ (kq : Nat) (x33_5 : Bool), v33 = .bool x33_5 ∧ Aside0 (haberdashlaw19_LevySums.j0 kq a1 l2 l3 a4 x33_5 a0_0 a0_1 a0_2 l0_3 = some r) ∧ Aside0 (kq ≤ k) ∧ Aside0 (wc.heap[gb510]? = some (.cells #[.bool a0_0, .bool a0_1, .int .i64 a0_2, (.slice A0_3 l0_3.length c0_3)] 24 (0, 0))) ∧ Aside0 (Below w.heap.size w wc))
  case first => as_aux_lemma =>
   have H := HC6.out
   clear HC6
   replace H := Option.bind_eq_some_iff.mp H
   obtain ⟨t511, A80, H⟩ := H
   replace H : (if t511 = true then (haberdashlaw19_LevySums.j0 k a1 l2 l3 a4 (decide ((l2.length : Int) > 60)) a0_0 a0_1 a0_2 l0_3) else (haberdashlaw19_LevySums.j0 k a1 l2 l3 a4 true a0_0 a0_1 a0_2 l0_3)) = some r := H
   have A8 := Aside0.mk A80
   clear A80
   by_cases c9 : t511 = true
   ·
    subst c9
    have H1 : (haberdashlaw19_LevySums.j0 k a1 l2 l3 a4 (decide ((l2.length : Int) > 60)) a0_0 a0_1 a0_2 l0_3) = some r := by rw [if_pos rfl] at H; exact H
    clear H
    have H := H1
    clear H1
    have H' := Aside0.mk H
    clear H
    have hcz10_0 : w7.cell? ⟨gb510, 0, none⟩ = some (.bool a0_0) := (blk_cell BK510.out 0).trans rfl
    have hcz10_1 : w7.cell? ⟨gb510, 1, none⟩ = some (.bool a0_1) := (blk_cell BK510.out 1).trans rfl
    have hcz10_2 : w7.cell? ⟨gb510, 2, none⟩ = some (.int .i64 a0_2) := (blk_cell BK510.out 2).trans rfl
    have hcz10_3 : w7.cell? ⟨gb510, 3, none⟩ = some (.slice A0_3 l0_3.length c0_3) := (blk_cell BK510.out 3).trans rfl
    have hfz10_0 := blk_frozen BK510.out 0
    have hfz10_1 := blk_frozen BK510.out 1
    have hfz10_2 := blk_frozen BK510.out 2
    have hfz10_3 := blk_frozen BK510.out 3
    go_wp2_with (first | ((with_reducible refine gate_callee (f := 13) rfl ?_); refine goesL_ (some 27) rfl rfl Try.func13 (by kernel_rfl) rfl #[.agg #[.bool a0_0, .bool a0_1, .int .i64 a0_2, .slice A0_3 l0_3.length c0_3], .slice none 0 0, .slice A3 l3.length c3] rfl (by (try simp only [List.map_toArray, List.map_cons, List.map_nil]); first | done | rfl | (simp only [List.length_drop, List.length_take]; rfl)) ?_; (refine (haberdashlaw19_few.calls k a0_0 a0_1 a0_2 _ _ l0_3 _ _ ([] : List ByteArray) _ _ l3 true _ ?side1 ?side2 ?side3 ?side4 ?side5 ?side6 A8.out).mono ?_); (case side1 => repeat (first | exact (Kd.C_below HR0_3.out HB.out) | (with_reducible refine Kd.C_alloc ?_ _) | (with_reducible refine Kd.C_drewN ?_ _) | (with_reducible refine Kd.C_drew ?_))); (case side2 => exact HC0_3.out); (case side3 => exact Kd.C_nil _ _); (case side4 => exact Nat.le_refl _); (case side5 => repeat (first | exact (Kd.C_below HR3.out HB.out) | (with_reducible refine Kd.C_alloc ?_ _) | (with_reducible refine Kd.C_drewN ?_ _) | (with_reducible refine Kd.C_drew ?_))); (case side6 => exact HC3.out); rintro e w11 ⟨rfl, hb⟩; refine ⟨_, rfl, ?_⟩; replace BK510 := Aside0.mk (blk_below (g := gb510) (o := .cells #[.bool a0_0, .bool a0_1, .int .i64 a0_2, .slice A0_3 l0_3.length c0_3] 24 (0, 0)) (by (with_reducible repeat (first | refine blk_drewN ?_ _ | refine blk_drew ?_ | refine blk_alloc ?_ _)); exact BK510.out) hb); replace HB := Aside0.mk (below_step (by repeat (first | (with_reducible first | exact HB.out | apply below_alloc | apply pw_below_drewN | apply below_drew1 | refine below_set ?_ GE510.out) | exact HB.out)) hb); (try clear hb); (try clear hb2); (try clear hk); (try clear hi)))
    go_meet
    case rel => exact ⟨_, (decide ((l2.length : Int) > 60)), (by first | rfl | (simp; done) | (simp [*]; done)), H', ⟨by first | omega | exact Nat.le_refl _⟩, ⟨by (with_reducible repeat (first | refine blk_drewN ?_ _ | refine blk_drew ?_ | refine blk_alloc ?_ _)); exact BK510.out⟩, ⟨by repeat (first | (with_reducible first | exact HB.out | apply below_alloc | apply pw_below_drewN | apply below_drew1 | refine below_set ?_ GE510.out) | exact HB.out)⟩⟩
   ·
    replace c9 := Bool.eq_false_iff.mpr c9
    subst c9
    have H1 : (haberdashlaw19_LevySums.j0 k a1 l2 l3 a4 true a0_0 a0_1 a0_2 l0_3) = some r := by rw [if_neg (show ¬ (false = true) by decide)] at H; exact H
    clear H
    have H := H1
    clear H1
    have H' := Aside0.mk H
    clear H
    have hcz12_0 : w7.cell? ⟨gb510, 0, none⟩ = some (.bool a0_0) := (blk_cell BK510.out 0).trans rfl
    have hcz12_1 : w7.cell? ⟨gb510, 1, none⟩ = some (.bool a0_1) := (blk_cell BK510.out 1).trans rfl
    have hcz12_2 : w7.cell? ⟨gb510, 2, none⟩ = some (.int .i64 a0_2) := (blk_cell BK510.out 2).trans rfl
    have hcz12_3 : w7.cell? ⟨gb510, 3, none⟩ = some (.slice A0_3 l0_3.length c0_3) := (blk_cell BK510.out 3).trans rfl
    have hfz12_0 := blk_frozen BK510.out 0
    have hfz12_1 := blk_frozen BK510.out 1
    have hfz12_2 := blk_frozen BK510.out 2
    have hfz12_3 := blk_frozen BK510.out 3
    go_wp2_with (first | ((with_reducible refine gate_callee (f := 13) rfl ?_); refine goesL_ (some 27) rfl rfl Try.func13 (by kernel_rfl) rfl #[.agg #[.bool a0_0, .bool a0_1, .int .i64 a0_2, .slice A0_3 l0_3.length c0_3], .slice none 0 0, .slice A3 l3.length c3] rfl (by (try simp only [List.map_toArray, List.map_cons, List.map_nil]); first | done | rfl | (simp only [List.length_drop, List.length_take]; rfl)) ?_; (refine (haberdashlaw19_few.calls k a0_0 a0_1 a0_2 _ _ l0_3 _ _ ([] : List ByteArray) _ _ l3 false _ ?side1 ?side2 ?side3 ?side4 ?side5 ?side6 A8.out).mono ?_); (case side1 => repeat (first | exact (Kd.C_below HR0_3.out HB.out) | (with_reducible refine Kd.C_alloc ?_ _) | (with_reducible refine Kd.C_drewN ?_ _) | (with_reducible refine Kd.C_drew ?_))); (case side2 => exact HC0_3.out); (case side3 => exact Kd.C_nil _ _); (case side4 => exact Nat.le_refl _); (case side5 => repeat (first | exact (Kd.C_below HR3.out HB.out) | (with_reducible refine Kd.C_alloc ?_ _) | (with_reducible refine Kd.C_drewN ?_ _) | (with_reducible refine Kd.C_drew ?_))); (case side6 => exact HC3.out); rintro e w13 ⟨rfl, hb⟩; refine ⟨_, rfl, ?_⟩; replace BK510 := Aside0.mk (blk_below (g := gb510) (o := .cells #[.bool a0_0, .bool a0_1, .int .i64 a0_2, .slice A0_3 l0_3.length c0_3] 24 (0, 0)) (by (with_reducible repeat (first | refine blk_drewN ?_ _ | refine blk_drew ?_ | refine blk_alloc ?_ _)); exact BK510.out) hb); replace HB := Aside0.mk (below_step (by repeat (first | (with_reducible first | exact HB.out | apply below_alloc | apply pw_below_drewN | apply below_drew1 | refine below_set ?_ GE510.out) | exact HB.out)) hb); (try clear hb); (try clear hb2); (try clear hk); (try clear hi)))
    go_meet
    case rel => exact ⟨_, (true), (by first | rfl | (simp; done) | (simp [*]; done)), H', ⟨by first | omega | exact Nat.le_refl _⟩, ⟨by (with_reducible repeat (first | refine blk_drewN ?_ _ | refine blk_drew ?_ | refine blk_alloc ?_ _)); exact BK510.out⟩, ⟨by repeat (first | (with_reducible first | exact HB.out | apply below_alloc | apply pw_below_drewN | apply below_drew1 | refine below_set ?_ GE510.out) | exact HB.out)⟩⟩
  case rest => as_aux_lemma =>
   clear HC6
   try clear c1
   try clear c2
   try clear p2
   try clear c3
   try clear c5
   try clear c9
   try clear c13
   try clear hcz10_0
   try clear hcz10_1
   try clear hcz10_2
   try clear hcz10_3
   try clear hcz12_0
   try clear hcz12_1
   try clear hcz12_2
   try clear hcz12_3
   try clear hfz10_0
   try clear hfz10_1
   try clear hfz10_2
   try clear hfz10_3
   try clear hfz12_0
   try clear hfz12_1
   try clear hfz12_2
   try clear hfz12_3
   obtain ⟨kq, x33_5, rfl, HA, HJ5, BK510, HB⟩ := hcut
   cases kq with
   | zero => exact absurd HA.out (by simp [haberdashlaw19_LevySums.j0])
   | succ kj5 =>
    have H := HA.out
    clear HA
    simp only [haberdashlaw19_LevySums.j0] at H
    by_cases c14 : x33_5 = true
    ·
     subst c14
     have H1 : ((haberdashlaw19_awake.f kj5).bind fun t512 => (some t512)) = some r := by rw [if_pos rfl] at H; exact H
     clear H
     have H := H1
     clear H1
     replace H := Option.bind_eq_some_iff.mp H
     obtain ⟨t512, A150, H⟩ := H
     replace H : (some t512) = some r := H
     have A15 := Aside0.mk A150
     clear A150
     obtain rfl := Option.some.inj H
     go_wp2_with (first | ((with_reducible refine gate_callee (f := 14) rfl ?_); refine goesL_ (some 34) rfl rfl Try.func14 (by kernel_rfl) rfl #[] rfl (by (try simp only [List.map_toArray, List.map_cons, List.map_nil]); first | done | rfl | (simp only [List.length_drop, List.length_take]; rfl)) ?_; (with_reducible refine (haberdashlaw19_awake.calls kj5  t512 _ A15.out).mono ?_); rintro e w16 ⟨rfl, hb⟩; refine ⟨_, rfl, ?_⟩; replace BK510 := Aside0.mk (blk_below (g := gb510) (o := .cells #[.bool a0_0, .bool a0_1, .int .i64 a0_2, .slice A0_3 l0_3.length c0_3] 24 (0, 0)) (by (with_reducible repeat (first | refine blk_drewN ?_ _ | refine blk_drew ?_ | refine blk_alloc ?_ _)); exact BK510.out) hb); replace HB := Aside0.mk (below_step (by repeat (first | (with_reducible first | exact HB.out | apply below_alloc | apply pw_below_drewN | apply below_drew1 | refine below_set ?_ GE510.out) | exact HB.out)) hb); (try clear hb); (try clear hb2); (try clear hk); (try clear hi)))
     go_ret
     exact ⟨by first | rfl | (simp [errW_none, errW_some] <;> rfl) | (simp [*, errW_none, errW_some] <;> rfl), by repeat (first | (with_reducible first | exact HB.out | apply below_alloc | apply pw_below_drewN | apply below_drew1 | refine below_set ?_ GE510.out) | exact HB.out)⟩
    ·
     replace c14 := Bool.eq_false_iff.mpr c14
     subst c14
     have H1 : ((haberdashplay_Tax.f kj5 a0_0 a0_1 a0_2 l0_3).bind fun bt513 => ((haberdashplay_Mod64.f a4 5000).bind fun t519 => ((haberdashlaw19_near.f kj5 l2 l3).bind fun bt520 => ((haberdashplay_Zone.f a1).bind fun t526 => ((levy_Levy.f kj5 bt513.1 bt513.2.1 bt513.2.2.1 bt513.2.2.2 t526 false bt520.1 bt520.2 t519).bind fun bt527 => ((haberdashplay_Zone.f a1).bind fun t536 => ((levy_Levy.f kj5 bt513.1 bt513.2.1 bt513.2.2.1 bt513.2.2.2 t536 true bt520.1 bt520.2 t519).bind fun bt537 => ((haberdashlaw19_awake.f kj5).bind fun t546 => (if t546 = true then (if bt527.2.2.2.2 = 0 then (if bt537.2.2.2.2 = 0 then (if (bt527.1.length : Int) = (bt520.2.length : Int) then (if (bt527.2.1.length : Int) = (bt520.2.length : Int) then ((haberdashhelp_Plain_int64.f kj5 bt537.1 bt527.1).bind fun t547 => (if t547 = true then (if (bt537.2.1.length : Int) = (bt520.2.length : Int) then (if bt537.2.2.1 = bt527.2.2.1 then (haberdashlaw19_LevySums.j1 kj5 t519 bt520.2 bt527.1 bt527.2.1 bt527.2.2.1 bt527.2.2.2.1 bt537.2.1 (bt537.2.2.2.1 != 0) bt513.1 bt513.2.1 bt513.2.2.1 bt513.2.2.2) else (haberdashlaw19_LevySums.j1 kj5 t519 bt520.2 bt527.1 bt527.2.1 bt527.2.2.1 bt527.2.2.2.1 bt537.2.1 true bt513.1 bt513.2.1 bt513.2.2.1 bt513.2.2.2)) else (haberdashlaw19_LevySums.j1 kj5 t519 bt520.2 bt527.1 bt527.2.1 bt527.2.2.1 bt527.2.2.2.1 bt537.2.1 true bt513.1 bt513.2.1 bt513.2.2.1 bt513.2.2.2)) else (haberdashlaw19_LevySums.j1 kj5 t519 bt520.2 bt527.1 bt527.2.1 bt527.2.2.1 bt527.2.2.2.1 bt537.2.1 true bt513.1 bt513.2.1 bt513.2.2.1 bt513.2.2.2))) else (haberdashlaw19_LevySums.j1 kj5 t519 bt520.2 bt527.1 bt527.2.1 bt527.2.2.1 bt527.2.2.2.1 bt537.2.1 true bt513.1 bt513.2.1 bt513.2.2.1 bt513.2.2.2)) else (haberdashlaw19_LevySums.j1 kj5 t519 bt520.2 bt527.1 bt527.2.1 bt527.2.2.1 bt527.2.2.2.1 bt537.2.1 true bt513.1 bt513.2.1 bt513.2.2.1 bt513.2.2.2)) else (haberdashlaw19_LevySums.j1 kj5 t519 bt520.2 bt527.1 bt527.2.1 bt527.2.2.1 bt527.2.2.2.1 bt537.2.1 true bt513.1 bt513.2.1 bt513.2.2.1 bt513.2.2.2)) else (haberdashlaw19_LevySums.j1 kj5 t519 bt520.2 bt527.1 bt527.2.1 bt527.2.2.1 bt527.2.2.2.1 bt537.2.1 true bt513.1 bt513.2.1 bt513.2.2.1 bt513.2.2.2)) else (haberdashlaw19_LevySums.j1 kj5 t519 bt520.2 bt527.1 bt527.2.1 bt527.2.2.1 bt527.2.2.2.1 bt537.2.1 true bt513.1 bt513.2.1 bt513.2.2.1 bt513.2.2.2)))))))))) = some r := by rw [if_neg (show ¬ (false = true) by decide)] at H; exact H
     clear H
     have H := H1
     clear H1
     replace H := Option.bind_eq_some_iff.mp H
     obtain ⟨⟨t513, t514, t515, t516⟩, A170, H⟩ := H
     replace H : ((haberdashplay_Mod64.f a4 5000).bind fun t519 => ((haberdashlaw19_near.f kj5 l2 l3).bind fun bt520 => ((haberdashplay_Zone.f a1).bind fun t526 => ((levy_Levy.f kj5 t513 t514 t515 t516 t526 false bt520.1 bt520.2 t519).bind fun bt527 => ((haberdashplay_Zone.f a1).bind fun t536 => ((levy_Levy.f kj5 t513 t514 t515 t516 t536 true bt520.1 bt520.2 t519).bind fun bt537 => ((haberdashlaw19_awake.f kj5).bind fun t546 => (if t546 = true then (if bt527.2.2.2.2 = 0 then (if bt537.2.2.2.2 = 0 then (if (bt527.1.length : Int) = (bt520.2.length : Int) then (if (bt527.2.1.length : Int) = (bt520.2.length : Int) then ((haberdashhelp_Plain_int64.f kj5 bt537.1 bt527.1).bind fun t547 => (if t547 = true then (if (bt537.2.1.length : Int) = (bt520.2.length : Int) then (if bt537.2.2.1 = bt527.2.2.1 then (haberdashlaw19_LevySums.j1 kj5 t519 bt520.2 bt527.1 bt527.2.1 bt527.2.2.1 bt527.2.2.2.1 bt537.2.1 (bt537.2.2.2.1 != 0) t513 t514 t515 t516) else (haberdashlaw19_LevySums.j1 kj5 t519 bt520.2 bt527.1 bt527.2.1 bt527.2.2.1 bt527.2.2.2.1 bt537.2.1 true t513 t514 t515 t516)) else (haberdashlaw19_LevySums.j1 kj5 t519 bt520.2 bt527.1 bt527.2.1 bt527.2.2.1 bt527.2.2.2.1 bt537.2.1 true t513 t514 t515 t516)) else (haberdashlaw19_LevySums.j1 kj5 t519 bt520.2 bt527.1 bt527.2.1 bt527.2.2.1 bt527.2.2.2.1 bt537.2.1 true t513 t514 t515 t516))) else (haberdashlaw19_LevySums.j1 kj5 t519 bt520.2 bt527.1 bt527.2.1 bt527.2.2.1 bt527.2.2.2.1 bt537.2.1 true t513 t514 t515 t516)) else (haberdashlaw19_LevySums.j1 kj5 t519 bt520.2 bt527.1 bt527.2.1 bt527.2.2.1 bt527.2.2.2.1 bt537.2.1 true t513 t514 t515 t516)) else (haberdashlaw19_LevySums.j1 kj5 t519 bt520.2 bt527.1 bt527.2.1 bt527.2.2.1 bt527.2.2.2.1 bt537.2.1 true t513 t514 t515 t516)) else (haberdashlaw19_LevySums.j1 kj5 t519 bt520.2 bt527.1 bt527.2.1 bt527.2.2.1 bt527.2.2.2.1 bt537.2.1 true t513 t514 t515 t516)) else (haberdashlaw19_LevySums.j1 kj5 t519 bt520.2 bt527.1 bt527.2.1 bt527.2.2.1 bt527.2.2.2.1 bt537.2.1 true t513 t514 t515 t516))))))))) = some r := H
     have A17 := Aside0.mk A170
     clear A170
     replace H := Option.bind_eq_some_iff.mp H
     obtain ⟨t519, A180, H⟩ := H
     replace H : ((haberdashlaw19_near.f kj5 l2 l3).bind fun bt520 => ((haberdashplay_Zone.f a1).bind fun t526 => ((levy_Levy.f kj5 t513 t514 t515 t516 t526 false bt520.1 bt520.2 t519).bind fun bt527 => ((haberdashplay_Zone.f a1).bind fun t536 => ((levy_Levy.f kj5 t513 t514 t515 t516 t536 true bt520.1 bt520.2 t519).bind fun bt537 => ((haberdashlaw19_awake.f kj5).bind fun t546 => (if t546 = true then (if bt527.2.2.2.2 = 0 then (if bt537.2.2.2.2 = 0 then (if (bt527.1.length : Int) = (bt520.2.length : Int) then (if (bt527.2.1.length : Int) = (bt520.2.length : Int) then ((haberdashhelp_Plain_int64.f kj5 bt537.1 bt527.1).bind fun t547 => (if t547 = true then (if (bt537.2.1.length : Int) = (bt520.2.length : Int) then (if bt537.2.2.1 = bt527.2.2.1 then (haberdashlaw19_LevySums.j1 kj5 t519 bt520.2 bt527.1 bt527.2.1 bt527.2.2.1 bt527.2.2.2.1 bt537.2.1 (bt537.2.2.2.1 != 0) t513 t514 t515 t516) else (haberdashlaw19_LevySums.j1 kj5 t519 bt520.2 bt527.1 bt527.2.1 bt527.2.2.1 bt527.2.2.2.1 bt537.2.1 true t513 t514 t515 t516)) else (haberdashlaw19_LevySums.j1 kj5 t519 bt520.2 bt527.1 bt527.2.1 bt527.2.2.1 bt527.2.2.2.1 bt537.2.1 true t513 t514 t515 t516)) else (haberdashlaw19_LevySums.j1 kj5 t519 bt520.2 bt527.1 bt527.2.1 bt527.2.2.1 bt527.2.2.2.1 bt537.2.1 true t513 t514 t515 t516))) else (haberdashlaw19_LevySums.j1 kj5 t519 bt520.2 bt527.1 bt527.2.1 bt527.2.2.1 bt527.2.2.2.1 bt537.2.1 true t513 t514 t515 t516)) else (haberdashlaw19_LevySums.j1 kj5 t519 bt520.2 bt527.1 bt527.2.1 bt527.2.2.1 bt527.2.2.2.1 bt537.2.1 true t513 t514 t515 t516)) else (haberdashlaw19_LevySums.j1 kj5 t519 bt520.2 bt527.1 bt527.2.1 bt527.2.2.1 bt527.2.2.2.1 bt537.2.1 true t513 t514 t515 t516)) else (haberdashlaw19_LevySums.j1 kj5 t519 bt520.2 bt527.1 bt527.2.1 bt527.2.2.1 bt527.2.2.2.1 bt537.2.1 true t513 t514 t515 t516)) else (haberdashlaw19_LevySums.j1 kj5 t519 bt520.2 bt527.1 bt527.2.1 bt527.2.2.1 bt527.2.2.2.1 bt537.2.1 true t513 t514 t515 t516)))))))) = some r := H
     have A18 := Aside0.mk A180
     clear A180
     replace H := Option.bind_eq_some_iff.mp H
     obtain ⟨⟨t520, t521⟩, A190, H⟩ := H
     replace H : ((haberdashplay_Zone.f a1).bind fun t526 => ((levy_Levy.f kj5 t513 t514 t515 t516 t526 false t520 t521 t519).bind fun bt527 => ((haberdashplay_Zone.f a1).bind fun t536 => ((levy_Levy.f kj5 t513 t514 t515 t516 t536 true t520 t521 t519).bind fun bt537 => ((haberdashlaw19_awake.f kj5).bind fun t546 => (if t546 = true then (if bt527.2.2.2.2 = 0 then (if bt537.2.2.2.2 = 0 then (if (bt527.1.length : Int) = (t521.length : Int) then (if (bt527.2.1.length : Int) = (t521.length : Int) then ((haberdashhelp_Plain_int64.f kj5 bt537.1 bt527.1).bind fun t547 => (if t547 = true then (if (bt537.2.1.length : Int) = (t521.length : Int) then (if bt537.2.2.1 = bt527.2.2.1 then (haberdashlaw19_LevySums.j1 kj5 t519 t521 bt527.1 bt527.2.1 bt527.2.2.1 bt527.2.2.2.1 bt537.2.1 (bt537.2.2.2.1 != 0) t513 t514 t515 t516) else (haberdashlaw19_LevySums.j1 kj5 t519 t521 bt527.1 bt527.2.1 bt527.2.2.1 bt527.2.2.2.1 bt537.2.1 true t513 t514 t515 t516)) else (haberdashlaw19_LevySums.j1 kj5 t519 t521 bt527.1 bt527.2.1 bt527.2.2.1 bt527.2.2.2.1 bt537.2.1 true t513 t514 t515 t516)) else (haberdashlaw19_LevySums.j1 kj5 t519 t521 bt527.1 bt527.2.1 bt527.2.2.1 bt527.2.2.2.1 bt537.2.1 true t513 t514 t515 t516))) else (haberdashlaw19_LevySums.j1 kj5 t519 t521 bt527.1 bt527.2.1 bt527.2.2.1 bt527.2.2.2.1 bt537.2.1 true t513 t514 t515 t516)) else (haberdashlaw19_LevySums.j1 kj5 t519 t521 bt527.1 bt527.2.1 bt527.2.2.1 bt527.2.2.2.1 bt537.2.1 true t513 t514 t515 t516)) else (haberdashlaw19_LevySums.j1 kj5 t519 t521 bt527.1 bt527.2.1 bt527.2.2.1 bt527.2.2.2.1 bt537.2.1 true t513 t514 t515 t516)) else (haberdashlaw19_LevySums.j1 kj5 t519 t521 bt527.1 bt527.2.1 bt527.2.2.1 bt527.2.2.2.1 bt537.2.1 true t513 t514 t515 t516)) else (haberdashlaw19_LevySums.j1 kj5 t519 t521 bt527.1 bt527.2.1 bt527.2.2.1 bt527.2.2.2.1 bt537.2.1 true t513 t514 t515 t516))))))) = some r := H
     have A19 := Aside0.mk A190
     clear A190
     replace H := Option.bind_eq_some_iff.mp H
     obtain ⟨t526, A200, H⟩ := H
     replace H : ((levy_Levy.f kj5 t513 t514 t515 t516 t526 false t520 t521 t519).bind fun bt527 => ((haberdashplay_Zone.f a1).bind fun t536 => ((levy_Levy.f kj5 t513 t514 t515 t516 t536 true t520 t521 t519).bind fun bt537 => ((haberdashlaw19_awake.f kj5).bind fun t546 => (if t546 = true then (if bt527.2.2.2.2 = 0 then (if bt537.2.2.2.2 = 0 then (if (bt527.1.length : Int) = (t521.length : Int) then (if (bt527.2.1.length : Int) = (t521.length : Int) then ((haberdashhelp_Plain_int64.f kj5 bt537.1 bt527.1).bind fun t547 => (if t547 = true then (if (bt537.2.1.length : Int) = (t521.length : Int) then (if bt537.2.2.1 = bt527.2.2.1 then (haberdashlaw19_LevySums.j1 kj5 t519 t521 bt527.1 bt527.2.1 bt527.2.2.1 bt527.2.2.2.1 bt537.2.1 (bt537.2.2.2.1 != 0) t513 t514 t515 t516) else (haberdashlaw19_LevySums.j1 kj5 t519 t521 bt527.1 bt527.2.1 bt527.2.2.1 bt527.2.2.2.1 bt537.2.1 true t513 t514 t515 t516)) else (haberdashlaw19_LevySums.j1 kj5 t519 t521 bt527.1 bt527.2.1 bt527.2.2.1 bt527.2.2.2.1 bt537.2.1 true t513 t514 t515 t516)) else (haberdashlaw19_LevySums.j1 kj5 t519 t521 bt527.1 bt527.2.1 bt527.2.2.1 bt527.2.2.2.1 bt537.2.1 true t513 t514 t515 t516))) else (haberdashlaw19_LevySums.j1 kj5 t519 t521 bt527.1 bt527.2.1 bt527.2.2.1 bt527.2.2.2.1 bt537.2.1 true t513 t514 t515 t516)) else (haberdashlaw19_LevySums.j1 kj5 t519 t521 bt527.1 bt527.2.1 bt527.2.2.1 bt527.2.2.2.1 bt537.2.1 true t513 t514 t515 t516)) else (haberdashlaw19_LevySums.j1 kj5 t519 t521 bt527.1 bt527.2.1 bt527.2.2.1 bt527.2.2.2.1 bt537.2.1 true t513 t514 t515 t516)) else (haberdashlaw19_LevySums.j1 kj5 t519 t521 bt527.1 bt527.2.1 bt527.2.2.1 bt527.2.2.2.1 bt537.2.1 true t513 t514 t515 t516)) else (haberdashlaw19_LevySums.j1 kj5 t519 t521 bt527.1 bt527.2.1 bt527.2.2.1 bt527.2.2.2.1 bt537.2.1 true t513 t514 t515 t516)))))) = some r := H
     have A20 := Aside0.mk A200
     clear A200
     replace H := Option.bind_eq_some_iff.mp H
     obtain ⟨⟨t527, t530, t533, t534, t535⟩, A210, H⟩ := H
     replace H : ((haberdashplay_Zone.f a1).bind fun t536 => ((levy_Levy.f kj5 t513 t514 t515 t516 t536 true t520 t521 t519).bind fun bt537 => ((haberdashlaw19_awake.f kj5).bind fun t546 => (if t546 = true then (if t535 = 0 then (if bt537.2.2.2.2 = 0 then (if (t527.length : Int) = (t521.length : Int) then (if (t530.length : Int) = (t521.length : Int) then ((haberdashhelp_Plain_int64.f kj5 bt537.1 t527).bind fun t547 => (if t547 = true then (if (bt537.2.1.length : Int) = (t521.length : Int) then (if bt537.2.2.1 = t533 then (haberdashlaw19_LevySums.j1 kj5 t519 t521 t527 t530 t533 t534 bt537.2.1 (bt537.2.2.2.1 != 0) t513 t514 t515 t516) else (haberdashlaw19_LevySums.j1 kj5 t519 t521 t527 t530 t533 t534 bt537.2.1 true t513 t514 t515 t516)) else (haberdashlaw19_LevySums.j1 kj5 t519 t521 t527 t530 t533 t534 bt537.2.1 true t513 t514 t515 t516)) else (haberdashlaw19_LevySums.j1 kj5 t519 t521 t527 t530 t533 t534 bt537.2.1 true t513 t514 t515 t516))) else (haberdashlaw19_LevySums.j1 kj5 t519 t521 t527 t530 t533 t534 bt537.2.1 true t513 t514 t515 t516)) else (haberdashlaw19_LevySums.j1 kj5 t519 t521 t527 t530 t533 t534 bt537.2.1 true t513 t514 t515 t516)) else (haberdashlaw19_LevySums.j1 kj5 t519 t521 t527 t530 t533 t534 bt537.2.1 true t513 t514 t515 t516)) else (haberdashlaw19_LevySums.j1 kj5 t519 t521 t527 t530 t533 t534 bt537.2.1 true t513 t514 t515 t516)) else (haberdashlaw19_LevySums.j1 kj5 t519 t521 t527 t530 t533 t534 bt537.2.1 true t513 t514 t515 t516))))) = some r := H
     have A21 := Aside0.mk A210
     clear A210
     replace H := Option.bind_eq_some_iff.mp H
     obtain ⟨t536, A220, H⟩ := H
     replace H : ((levy_Levy.f kj5 t513 t514 t515 t516 t536 true t520 t521 t519).bind fun bt537 => ((haberdashlaw19_awake.f kj5).bind fun t546 => (if t546 = true then (if t535 = 0 then (if bt537.2.2.2.2 = 0 then (if (t527.length : Int) = (t521.length : Int) then (if (t530.length : Int) = (t521.length : Int) then ((haberdashhelp_Plain_int64.f kj5 bt537.1 t527).bind fun t547 => (if t547 = true then (if (bt537.2.1.length : Int) = (t521.length : Int) then (if bt537.2.2.1 = t533 then (haberdashlaw19_LevySums.j1 kj5 t519 t521 t527 t530 t533 t534 bt537.2.1 (bt537.2.2.2.1 != 0) t513 t514 t515 t516) else (haberdashlaw19_LevySums.j1 kj5 t519 t521 t527 t530 t533 t534 bt537.2.1 true t513 t514 t515 t516)) else (haberdashlaw19_LevySums.j1 kj5 t519 t521 t527 t530 t533 t534 bt537.2.1 true t513 t514 t515 t516)) else (haberdashlaw19_LevySums.j1 kj5 t519 t521 t527 t530 t533 t534 bt537.2.1 true t513 t514 t515 t516))) else (haberdashlaw19_LevySums.j1 kj5 t519 t521 t527 t530 t533 t534 bt537.2.1 true t513 t514 t515 t516)) else (haberdashlaw19_LevySums.j1 kj5 t519 t521 t527 t530 t533 t534 bt537.2.1 true t513 t514 t515 t516)) else (haberdashlaw19_LevySums.j1 kj5 t519 t521 t527 t530 t533 t534 bt537.2.1 true t513 t514 t515 t516)) else (haberdashlaw19_LevySums.j1 kj5 t519 t521 t527 t530 t533 t534 bt537.2.1 true t513 t514 t515 t516)) else (haberdashlaw19_LevySums.j1 kj5 t519 t521 t527 t530 t533 t534 bt537.2.1 true t513 t514 t515 t516)))) = some r := H
     have A22 := Aside0.mk A220
     clear A220
     replace H := Option.bind_eq_some_iff.mp H
     obtain ⟨⟨t537, t540, t543, t544, t545⟩, A230, H⟩ := H
     replace H : ((haberdashlaw19_awake.f kj5).bind fun t546 => (if t546 = true then (if t535 = 0 then (if t545 = 0 then (if (t527.length : Int) = (t521.length : Int) then (if (t530.length : Int) = (t521.length : Int) then ((haberdashhelp_Plain_int64.f kj5 t537 t527).bind fun t547 => (if t547 = true then (if (t540.length : Int) = (t521.length : Int) then (if t543 = t533 then (haberdashlaw19_LevySums.j1 kj5 t519 t521 t527 t530 t533 t534 t540 (t544 != 0) t513 t514 t515 t516) else (haberdashlaw19_LevySums.j1 kj5 t519 t521 t527 t530 t533 t534 t540 true t513 t514 t515 t516)) else (haberdashlaw19_LevySums.j1 kj5 t519 t521 t527 t530 t533 t534 t540 true t513 t514 t515 t516)) else (haberdashlaw19_LevySums.j1 kj5 t519 t521 t527 t530 t533 t534 t540 true t513 t514 t515 t516))) else (haberdashlaw19_LevySums.j1 kj5 t519 t521 t527 t530 t533 t534 t540 true t513 t514 t515 t516)) else (haberdashlaw19_LevySums.j1 kj5 t519 t521 t527 t530 t533 t534 t540 true t513 t514 t515 t516)) else (haberdashlaw19_LevySums.j1 kj5 t519 t521 t527 t530 t533 t534 t540 true t513 t514 t515 t516)) else (haberdashlaw19_LevySums.j1 kj5 t519 t521 t527 t530 t533 t534 t540 true t513 t514 t515 t516)) else (haberdashlaw19_LevySums.j1 kj5 t519 t521 t527 t530 t533 t534 t540 true t513 t514 t515 t516))) = some r := H
     have A23 := Aside0.mk A230
     clear A230
     have HC24 := Aside0.mk H
     clear H
     have hcz25_0 : wc.cell? ⟨gb510, 0, none⟩ = some (.bool a0_0) := (blk_cell BK510.out 0).trans rfl
     have hcz25_1 : wc.cell? ⟨gb510, 1, none⟩ = some (.bool a0_1) := (blk_cell BK510.out 1).trans rfl
     have hcz25_2 : wc.cell? ⟨gb510, 2, none⟩ = some (.int .i64 a0_2) := (blk_cell BK510.out 2).trans rfl
     have hcz25_3 : wc.cell? ⟨gb510, 3, none⟩ = some (.slice A0_3 l0_3.length c0_3) := (blk_cell BK510.out 3).trans rfl
     have hfz25_0 := blk_frozen BK510.out 0
     have hfz25_1 := blk_frozen BK510.out 1
     have hfz25_2 := blk_frozen BK510.out 2
     have hfz25_3 := blk_frozen BK510.out 3
     try go_wp2_with (first | ((with_reducible refine gate_callee (f := 15) rfl ?_); refine goesL_ (some 36) rfl rfl Try.func15 (by kernel_rfl) rfl #[.agg #[.bool a0_0, .bool a0_1, .int .i64 a0_2, .slice A0_3 l0_3.length c0_3]] rfl (by (try simp only [List.map_toArray, List.map_cons, List.map_nil]); first | done | rfl | (simp only [List.length_drop, List.length_take]; rfl)) ?_; (with_reducible refine (haberdashplay_Tax.calls kj5 a0_0 a0_1 a0_2 _ _ l0_3 t513 t514 t515 t516 _ ?side1 ?side2 A17.out).mono ?_); (case side1 => repeat (first | exact (Kd.C_below HR0_3.out HB.out) | (with_reducible refine Kd.C_alloc ?_ _) | (with_reducible refine Kd.C_drewN ?_ _) | (with_reducible refine Kd.C_drew ?_))); (case side2 => exact HC0_3.out); rintro e w26 ⟨v517, rfl, ho0, hb⟩; refine ⟨_, rfl, ?_⟩; have HO518 := Aside0.mk (Kd.S_lower ho0 (below_size (by repeat (first | (with_reducible first | exact HB.out | apply below_alloc | apply pw_below_drewN | apply below_drew1 | refine below_set ?_ GE510.out) | exact HB.out)))); replace BK510 := Aside0.mk (blk_below (g := gb510) (o := .cells #[.bool a0_0, .bool a0_1, .int .i64 a0_2, .slice A0_3 l0_3.length c0_3] 24 (0, 0)) (by (with_reducible repeat (first | refine blk_drewN ?_ _ | refine blk_drew ?_ | refine blk_alloc ?_ _)); exact BK510.out) hb); replace HB := Aside0.mk (below_step (by repeat (first | (with_reducible first | exact HB.out | apply below_alloc | apply pw_below_drewN | apply below_drew1 | refine below_set ?_ GE510.out) | exact HB.out)) hb); (try clear hb); (try clear hb2); (try clear hk); (try clear hi); (try clear ho0)) | ((with_reducible refine gate_callee (f := 24) rfl ?_); refine goesL_ (some 38) rfl rfl Try.func24 (by kernel_rfl) rfl #[.int .i64 a4, .int .i64 5000] rfl (by (try simp only [List.map_toArray, List.map_cons, List.map_nil]); first | done | rfl | (simp only [List.length_drop, List.length_take]; rfl)) ?_; (with_reducible refine (haberdashplay_Mod64.calls a4 5000 t519 _ A18.out).mono ?_); rintro e w' ⟨rfl, ⟨nd, rfl⟩⟩; refine ⟨_, rfl, ?_⟩; (try (rw [drewN_self w26]; generalize hq_ : World.drewN w26 _ = w26; have n0_ : Aside0 (Kd.S k56 56 w26 w.heap.size (fun _ => True) v517 t516) := ⟨by rw [← hq_]; exact (by (with_reducible repeat (first | apply Kd.S_alloc | apply Kd.S_drewN | apply Kd.S_drew)); exact HO518.out)⟩; have n1_ : Aside0 (w26.heap[gb510]? = some (.cells #[.bool a0_0, .bool a0_1, .int .i64 a0_2, .slice A0_3 l0_3.length c0_3] 24 (0, 0))) := ⟨by rw [← hq_]; exact (by (with_reducible repeat (first | refine blk_drewN ?_ _ | refine blk_drew ?_ | refine blk_alloc ?_ _)); exact BK510.out)⟩; have n2_ : Aside0 (Below w.heap.size w w26) := ⟨by rw [← hq_]; exact (by repeat (first | (with_reducible first | exact HB.out | apply below_alloc | apply pw_below_drewN | apply below_drew1 | refine below_set ?_ GE510.out) | exact HB.out))⟩; clear HO518 BK510 HB hq_; have HO518 := n0_; have BK510 := n1_; have HB := n2_; clear n0_ n1_ n2_)); have hcz27_0 : w26.cell? ⟨gb510, 0, none⟩ = some (.bool a0_0) := (blk_cell BK510.out 0).trans rfl; have hcz27_1 : w26.cell? ⟨gb510, 1, none⟩ = some (.bool a0_1) := (blk_cell BK510.out 1).trans rfl; have hcz27_2 : w26.cell? ⟨gb510, 2, none⟩ = some (.int .i64 a0_2) := (blk_cell BK510.out 2).trans rfl; have hcz27_3 : w26.cell? ⟨gb510, 3, none⟩ = some (.slice A0_3 l0_3.length c0_3) := (blk_cell BK510.out 3).trans rfl; have hfz27_0 := blk_frozen BK510.out 0; have hfz27_1 := blk_frozen BK510.out 1; have hfz27_2 := blk_frozen BK510.out 2; have hfz27_3 := blk_frozen BK510.out 3; obtain ⟨Ao28, co28, eo28⟩ := Kd.S_slice HO518.out; subst eo28) | ((with_reducible refine gate_callee (f := 25) rfl ?_); refine goesL_ (some 42) rfl rfl Try.func25 (by kernel_rfl) rfl #[.slice A2 l2.length c2, .slice A3 l3.length c3] rfl (by (try simp only [List.map_toArray, List.map_cons, List.map_nil]); first | done | rfl | (simp only [List.length_drop, List.length_take]; rfl)) ?_; (with_reducible refine (haberdashlaw19_near.calls kj5 _ _ l2 _ _ l3 t520 t521 _ ?side1 ?side2 ?side3 ?side4 A19.out).mono ?_); (case side1 => exact Kd.C_below HR2.out (by repeat (first | (with_reducible first | exact HB.out | apply below_alloc | apply pw_below_drewN | apply below_drew1 | refine below_set ?_ GE510.out) | exact HB.out))); (case side2 => exact HC2.out); (case side3 => exact Kd.C_below HR3.out (by repeat (first | (with_reducible first | exact HB.out | apply below_alloc | apply pw_below_drewN | apply below_drew1 | refine below_set ?_ GE510.out) | exact HB.out))); (case side4 => exact HC3.out); rintro e w29 ⟨v522, v524, rfl, ho0, ho1, hb⟩; refine ⟨_, rfl, ?_⟩; replace HO518 := Aside0.mk (Kd.S_below (by (with_reducible repeat (first | apply Kd.S_alloc | apply Kd.S_drewN | apply Kd.S_drew)); exact (Kd.S_mono (Kd.S_far (p := ⟨gb510, 3, none⟩) (Kd.S_far (p := ⟨gb510, 2, none⟩) (Kd.S_far (p := ⟨gb510, 1, none⟩) (Kd.S_far (p := ⟨gb510, 0, none⟩) (Kd.S_types HO518.out BK510.out (by decide)) (fun _ hk => hk.2) (.bool t513)) (fun _ hk => hk.2) (.bool t514)) (fun _ hk => hk.2) (.int .i64 t515)) (fun _ hk => hk.2) (.slice Ao28 t516.length co28)) (fun _ h_ => h_.1))) hb); have HO523 := Aside0.mk (Kd.R_lower ho0 (below_size (by repeat (first | (with_reducible first | exact HB.out | apply below_alloc | apply pw_below_drewN | apply below_drew1 | refine below_set ?_ GE510.out) | exact HB.out)))); have HO525 := Aside0.mk (Kd.R_lower ho1 (below_size (by repeat (first | (with_reducible first | exact HB.out | apply below_alloc | apply pw_below_drewN | apply below_drew1 | refine below_set ?_ GE510.out) | exact HB.out)))); replace BK510 := Aside0.mk (blk_below (g := gb510) (o := .cells #[.bool t513, .bool t514, .int .i64 t515, .slice Ao28 t516.length co28] 24 (0, 0)) (by (with_reducible repeat (first | refine blk_drewN ?_ _ | refine blk_drew ?_ | refine blk_alloc ?_ _)); refine blk_put (cs := #[.bool t513, .bool t514, .int .i64 t515, .slice A0_3 l0_3.length c0_3]) ?_ 3 _ rfl; (with_reducible repeat (first | refine blk_drewN ?_ _ | refine blk_drew ?_ | refine blk_alloc ?_ _)); refine blk_put (cs := #[.bool t513, .bool t514, .int .i64 a0_2, .slice A0_3 l0_3.length c0_3]) ?_ 2 _ rfl; (with_reducible repeat (first | refine blk_drewN ?_ _ | refine blk_drew ?_ | refine blk_alloc ?_ _)); refine blk_put (cs := #[.bool t513, .bool a0_1, .int .i64 a0_2, .slice A0_3 l0_3.length c0_3]) ?_ 1 _ rfl; (with_reducible repeat (first | refine blk_drewN ?_ _ | refine blk_drew ?_ | refine blk_alloc ?_ _)); refine blk_put (cs := #[.bool a0_0, .bool a0_1, .int .i64 a0_2, .slice A0_3 l0_3.length c0_3]) ?_ 0 _ rfl; (with_reducible repeat (first | refine blk_drewN ?_ _ | refine blk_drew ?_ | refine blk_alloc ?_ _)); exact BK510.out) hb); replace HB := Aside0.mk (below_step (by repeat (first | (with_reducible first | exact HB.out | apply below_alloc | apply pw_below_drewN | apply below_drew1 | refine below_set ?_ GE510.out) | exact HB.out)) hb); (try clear hb); (try clear hb2); (try clear hk); (try clear hi); (try clear ho0); (try clear ho1)))
     replace HO518 := Aside0.mk (Kd.S_drew HO518.out)
     replace HO523 := Aside0.mk (Kd.R_drew HO523.out)
     replace HO525 := Aside0.mk (Kd.R_drew HO525.out)
     replace BK510 := Aside0.mk (blk_drew BK510.out)
     replace HB := Aside0.mk (below_drew1 HB.out)
     refine start_ (n := 18) (S := fun w' => w'.cell? ⟨gb510, 0, none⟩ = some (.bool t513) ∧ w'.cell? ⟨gb510, 1, none⟩ = some (.bool t514) ∧ w'.cell? ⟨gb510, 2, none⟩ = some (.int .i64 t515) ∧ w'.cell? ⟨gb510, 3, none⟩ = some (.slice Ao28 t516.length co28)) (ds := []) (mk 18 0) (by kernel_rfl) rfl rfl ⟨(blk_cell BK510.out 0).trans rfl, (blk_cell BK510.out 1).trans rfl, (blk_cell BK510.out 2).trans rfl, (blk_cell BK510.out 3).trans rfl⟩ (fun hHeld => ?_); refine with_tabW haberdashlaw19_LevySums.tab5 haberdashlaw19_LevySums.bits5 (fun HT_ HW_ => ?_)
     generalize w29.drew = w30 at HO518 HO523 HO525 BK510 HB hHeld ⊢
     refine ahead_ [(1, 47), (3, 49), (4, 50), (5, 51)] ?_
     iterate 4 (refine pA_ (v := ?_) (a' := ?_) rfl rfl HT_.out (by kernel_rfl) (fun _ _ _ h => h) (Or.inl ⟨by rfl, ?_⟩) ?_ ?_; rotate_left; (intro w'; go_simp; with_reducible rfl); rotate_left; (simp only [Act.put, List.setIfInBounds_toArray, List.set_cons_zero, List.set_cons_succ, i64_w, i32_w]; rfl))
     refine aheadE_ (mk 18 58) (by kernel_rfl) ?_
     refine take_ (i := 0) (N := some 46) (v := ?_) (a' := ?_) (mk 18 59) rfl rfl (take_ofW HT_.out HW_.out (by kernel_rfl)) (fun _ _ _ h => h) (Or.inl ⟨by rfl, ?_⟩) hHeld ?_ ?_
     rotate_left
     ·
      rintro w' ⟨s0, s1, s2, s3⟩
      go_simp
      with_reducible rfl
     rotate_left; (simp only [Act.put, List.setIfInBounds_toArray, List.set_cons_zero, List.set_cons_succ, i64_w, i32_w]; rfl)
     refine one_ (i := 2) (N := some 48) (mk 18 63) rfl rfl (one_of HT_.out (by kernel_rfl)) (by decide) (fun K hK => ?_)
     refine goes_ Try.func16 (by kernel_rfl) rfl #[.int .i64 a1] (by rfl) rfl rfl (by (try simp only [List.map_toArray, List.map_cons, List.map_nil]); first | done | rfl | (simp only [List.length_drop, List.length_take]; rfl)) ?_
     with_reducible refine (haberdashplay_Zone.calls a1 t526 _ A20.out).mono ?_
     rintro e w31 ⟨rfl, hb⟩
     refine ⟨_, rfl, ?_⟩
     replace HO518 := Aside0.mk (Kd.S_below (by (with_reducible repeat (first | apply Kd.S_alloc | apply Kd.S_drewN | apply Kd.S_drew)); exact HO518.out) hb)
     replace HO523 := Aside0.mk (Kd.R_below (by (with_reducible repeat (first | apply Kd.R_alloc | apply Kd.R_drewN | apply Kd.R_drew)); exact HO523.out) hb)
     replace HO525 := Aside0.mk (Kd.R_below (by (with_reducible repeat (first | apply Kd.R_alloc | apply Kd.R_drewN | apply Kd.R_drew)); exact HO525.out) hb)
     replace BK510 := Aside0.mk (blk_below (g := gb510) (o := .cells #[.bool t513, .bool t514, .int .i64 t515, .slice Ao28 t516.length co28] 24 (0, 0)) (by (with_reducible repeat (first | refine blk_drewN ?_ _ | refine blk_drew ?_ | refine blk_alloc ?_ _)); exact BK510.out) hb)
     replace HB := Aside0.mk (below_step (by repeat (first | (with_reducible first | exact HB.out | apply below_alloc | apply pw_below_drewN | apply below_drew1 | refine below_set ?_ GE510.out) | exact HB.out)) hb)
     (try clear hb)
     (try clear hb2)
     (try clear hk)
     (try clear hi)
     obtain ⟨Ao32, co32, eo32⟩ := Kd.R_slice HO523.out
     (first | subst eo32 | (injection eo32 with f1_ f2_ f3_; have f4_ := f1_.symm; have f5_ := f3_.symm; clear f1_ f2_ f3_; subst f4_; subst f5_))
     obtain ⟨Ao33, co33, eo33⟩ := Kd.R_slice HO525.out
     (first | subst eo33 | (injection eo33 with f1_ f2_ f3_; have f4_ := f1_.symm; have f5_ := f3_.symm; clear f1_ f2_ f3_; subst f4_; subst f5_))
     refine hK.out _ _ ⟨(blk_cell BK510.out 0).trans rfl, (blk_cell BK510.out 1).trans rfl, (blk_cell BK510.out 2).trans rfl, (blk_cell BK510.out 3).trans rfl⟩ (fun hHeld => ?_)
     clear hK K
     refine norm_ (a' := ?_) ?_ ?_
     rotate_left; (show Act.put _ (some 48) _ = _; simp only [Act.put, List.setIfInBounds_toArray, List.set_cons_zero, List.set_cons_succ, i64_w, i32_w]; rfl)
     refine one_ (i := 6) (N := some 52) (mk 18 127) rfl rfl (one_of HT_.out (by kernel_rfl)) (by decide) (fun K hK => ?_)
     refine goes_ Try.func19 (by kernel_rfl) rfl #[.agg #[.bool t513, .bool t514, .int .i64 t515, .slice Ao28 t516.length co28], .string t526, .bool false, .slice Ao32 t520.length co32, .slice Ao33 t521.length co33, .int .i64 t519] (by rfl) rfl rfl (by (try simp only [List.map_toArray, List.map_cons, List.map_nil]); first | done | rfl | (simp only [List.length_drop, List.length_take]; rfl)) ?_
     with_reducible refine (levy_Levy.calls kj5 t513 t514 t515 _ _ t516 t526 false _ _ t520 _ _ t521 t519 t527 t530 t533 t534 t535 _ ?side1 ?side2 ?side3 ?side4 ?side5 ?side6 A21.out).mono ?_
     (case side1 => repeat (first | exact (Kd.S_reads' HO518.out).2.2 | (with_reducible refine Kd.C_alloc ?_ _) | (with_reducible refine Kd.C_drewN ?_ _) | (with_reducible refine Kd.C_drew ?_)))
     (case side2 => exact (Kd.S_reads' HO518.out).2.1)
     (case side3 => repeat (first | exact (Kd.R_reads' HO523.out).2.2 | (with_reducible refine Kd.C_alloc ?_ _) | (with_reducible refine Kd.C_drewN ?_ _) | (with_reducible refine Kd.C_drew ?_)))
     (case side4 => exact (Kd.R_reads' HO523.out).2.1)
     (case side5 => repeat (first | exact (Kd.R_reads' HO525.out).2.2 | (with_reducible refine Kd.C_alloc ?_ _) | (with_reducible refine Kd.C_drewN ?_ _) | (with_reducible refine Kd.C_drew ?_)))
     (case side6 => exact (Kd.R_reads' HO525.out).2.1)
     rintro e w34 ⟨v528, v531, rfl, ho0, ho1, hb⟩
     refine ⟨_, rfl, ?_⟩
     replace HO518 := Aside0.mk (Kd.S_below (by (with_reducible repeat (first | apply Kd.S_alloc | apply Kd.S_drewN | apply Kd.S_drew)); exact HO518.out) hb)
     replace HO523 := Aside0.mk (Kd.R_below (by (with_reducible repeat (first | apply Kd.R_alloc | apply Kd.R_drewN | apply Kd.R_drew)); exact HO523.out) hb)
     have HO529 := Aside0.mk (Kd.R_lower (Kd.R_new' ho0 (Kd.R_lt (by (with_reducible repeat (first | apply Kd.R_alloc | apply Kd.R_drewN | apply Kd.R_drew)); exact HO525.out))) (below_size (by repeat (first | (with_reducible first | exact HB.out | apply below_alloc | apply pw_below_drewN | apply below_drew1 | refine below_set ?_ GE510.out) | exact HB.out))))
     have HO532 := Aside0.mk (Kd.R_lower (Kd.R_new' ho1 (Kd.R_lt (by (with_reducible repeat (first | apply Kd.R_alloc | apply Kd.R_drewN | apply Kd.R_drew)); exact HO525.out))) (below_size (by repeat (first | (with_reducible first | exact HB.out | apply below_alloc | apply pw_below_drewN | apply below_drew1 | refine below_set ?_ GE510.out) | exact HB.out))))
     replace HO525 := Aside0.mk (Kd.R_mono (Kd.R_told (Kd.R_told (Kd.R_old (by (with_reducible repeat (first | apply Kd.R_alloc | apply Kd.R_drewN | apply Kd.R_drew)); exact HO525.out) hb) (Kd.R_base ho0)) (Kd.R_base ho1)) (fun _ h_ => h_.1))
     replace BK510 := Aside0.mk (blk_below (g := gb510) (o := .cells #[.bool t513, .bool t514, .int .i64 t515, .slice Ao28 t516.length co28] 24 (0, 0)) (by (with_reducible repeat (first | refine blk_drewN ?_ _ | refine blk_drew ?_ | refine blk_alloc ?_ _)); exact BK510.out) hb)
     replace HB := Aside0.mk (below_step (by repeat (first | (with_reducible first | exact HB.out | apply below_alloc | apply pw_below_drewN | apply below_drew1 | refine below_set ?_ GE510.out) | exact HB.out)) hb)
     (try clear hb)
     (try clear hb2)
     (try clear hk)
     (try clear hi)
     (try clear ho0)
     (try clear ho1)
     refine hK.out _ _ ⟨(blk_cell BK510.out 0).trans rfl, (blk_cell BK510.out 1).trans rfl, (blk_cell BK510.out 2).trans rfl, (blk_cell BK510.out 3).trans rfl⟩ (fun hHeld => ?_)
     clear hK K
     refine norm_ (a' := ?_) ?_ ?_
     rotate_left; (show Act.put _ (some 52) _ = _; simp only [Act.put, List.setIfInBounds_toArray, List.set_cons_zero, List.set_cons_succ, i64_w, i32_w]; rfl)
     refine ahead_ [(7, 45), (8, 53), (9, 54), (10, 55), (11, 56), (12, 57), (13, 13), (14, 14), (15, 15), (16, 16), (17, 17)] ?_
     iterate 11 (refine pA_ (v := ?_) (a' := ?_) rfl rfl HT_.out (by kernel_rfl) (fun _ _ _ h => h) (Or.inl ⟨by rfl, ?_⟩) ?_ ?_; rotate_left; (intro w'; go_simp; with_reducible rfl); rotate_left; (simp only [Act.put, List.setIfInBounds_toArray, List.set_cons_zero, List.set_cons_succ, i64_w, i32_w]; rfl))
     refine aheadE_ (mk 18 262143) (by kernel_rfl) ?_
     refine done_ (done_of HT_.out (by kernel_rfl)) ?_
     try go_wp2
     replace HO518 := Aside0.mk (Kd.S_drew HO518.out)
     replace HO523 := Aside0.mk (Kd.R_drew HO523.out)
     replace HO525 := Aside0.mk (Kd.R_drew HO525.out)
     replace HO529 := Aside0.mk (Kd.R_drew HO529.out)
     replace HO532 := Aside0.mk (Kd.R_drew HO532.out)
     replace BK510 := Aside0.mk (blk_drew BK510.out)
     replace HB := Aside0.mk (below_drew1 HB.out)
     refine start_ (n := 18) (S := fun w' => w'.cell? ⟨gb510, 0, none⟩ = some (.bool t513) ∧ w'.cell? ⟨gb510, 1, none⟩ = some (.bool t514) ∧ w'.cell? ⟨gb510, 2, none⟩ = some (.int .i64 t515) ∧ w'.cell? ⟨gb510, 3, none⟩ = some (.slice Ao28 t516.length co28)) (ds := []) (mk 18 0) (by kernel_rfl) rfl rfl ⟨(blk_cell BK510.out 0).trans rfl, (blk_cell BK510.out 1).trans rfl, (blk_cell BK510.out 2).trans rfl, (blk_cell BK510.out 3).trans rfl⟩ (fun hHeld => ?_); refine with_tabW haberdashlaw19_LevySums.tab6 haberdashlaw19_LevySums.bits6 (fun HT_ HW_ => ?_)
     generalize w34.drew = w35 at HO518 HO523 HO525 HO529 HO532 BK510 HB hHeld ⊢
     refine ahead_ [(1, 60), (3, 62), (4, 63), (5, 64)] ?_
     iterate 4 (refine pA_ (v := ?_) (a' := ?_) rfl rfl HT_.out (by kernel_rfl) (fun _ _ _ h => h) (Or.inl ⟨by rfl, ?_⟩) ?_ ?_; rotate_left; (intro w'; go_simp; with_reducible rfl); rotate_left; (simp only [Act.put, List.setIfInBounds_toArray, List.set_cons_zero, List.set_cons_succ, i64_w, i32_w]; rfl))
     refine aheadE_ (mk 18 58) (by kernel_rfl) ?_
     refine take_ (i := 0) (N := some 59) (v := ?_) (a' := ?_) (mk 18 59) rfl rfl (take_ofW HT_.out HW_.out (by kernel_rfl)) (fun _ _ _ h => h) (Or.inl ⟨by rfl, ?_⟩) hHeld ?_ ?_
     rotate_left
     ·
      rintro w' ⟨s0, s1, s2, s3⟩
      go_simp
      with_reducible rfl
     rotate_left; (simp only [Act.put, List.setIfInBounds_toArray, List.set_cons_zero, List.set_cons_succ, i64_w, i32_w]; rfl)
     refine one_ (i := 2) (N := some 61) (mk 18 63) rfl rfl (one_of HT_.out (by kernel_rfl)) (by decide) (fun K hK => ?_)
     refine goes_ Try.func16 (by kernel_rfl) rfl #[.int .i64 a1] (by rfl) rfl rfl (by (try simp only [List.map_toArray, List.map_cons, List.map_nil]); first | done | rfl | (simp only [List.length_drop, List.length_take]; rfl)) ?_
     with_reducible refine (haberdashplay_Zone.calls a1 t536 _ A22.out).mono ?_
     rintro e w36 ⟨rfl, hb⟩
     refine ⟨_, rfl, ?_⟩
     replace HO518 := Aside0.mk (Kd.S_below (by (with_reducible repeat (first | apply Kd.S_alloc | apply Kd.S_drewN | apply Kd.S_drew)); exact HO518.out) hb)
     replace HO523 := Aside0.mk (Kd.R_below (by (with_reducible repeat (first | apply Kd.R_alloc | apply Kd.R_drewN | apply Kd.R_drew)); exact HO523.out) hb)
     replace HO525 := Aside0.mk (Kd.R_below (by (with_reducible repeat (first | apply Kd.R_alloc | apply Kd.R_drewN | apply Kd.R_drew)); exact HO525.out) hb)
     replace HO529 := Aside0.mk (Kd.R_below (by (with_reducible repeat (first | apply Kd.R_alloc | apply Kd.R_drewN | apply Kd.R_drew)); exact HO529.out) hb)
     replace HO532 := Aside0.mk (Kd.R_below (by (with_reducible repeat (first | apply Kd.R_alloc | apply Kd.R_drewN | apply Kd.R_drew)); exact HO532.out) hb)
     replace BK510 := Aside0.mk (blk_below (g := gb510) (o := .cells #[.bool t513, .bool t514, .int .i64 t515, .slice Ao28 t516.length co28] 24 (0, 0)) (by (with_reducible repeat (first | refine blk_drewN ?_ _ | refine blk_drew ?_ | refine blk_alloc ?_ _)); exact BK510.out) hb)
     replace HB := Aside0.mk (below_step (by repeat (first | (with_reducible first | exact HB.out | apply below_alloc | apply pw_below_drewN | apply below_drew1 | refine below_set ?_ GE510.out) | exact HB.out)) hb)
     (try clear hb)
     (try clear hb2)
     (try clear hk)
     (try clear hi)
     refine hK.out _ _ ⟨(blk_cell BK510.out 0).trans rfl, (blk_cell BK510.out 1).trans rfl, (blk_cell BK510.out 2).trans rfl, (blk_cell BK510.out 3).trans rfl⟩ (fun hHeld => ?_)
     clear hK K
     refine norm_ (a' := ?_) ?_ ?_
     rotate_left; (show Act.put _ (some 61) _ = _; simp only [Act.put, List.setIfInBounds_toArray, List.set_cons_zero, List.set_cons_succ, i64_w, i32_w]; rfl)
     refine one_ (i := 6) (N := some 65) (mk 18 127) rfl rfl (one_of HT_.out (by kernel_rfl)) (by decide) (fun K hK => ?_)
     refine goes_ Try.func19 (by kernel_rfl) rfl #[.agg #[.bool t513, .bool t514, .int .i64 t515, .slice Ao28 t516.length co28], .string t536, .bool true, .slice Ao32 t520.length co32, .slice Ao33 t521.length co33, .int .i64 t519] (by rfl) rfl rfl (by (try simp only [List.map_toArray, List.map_cons, List.map_nil]); first | done | rfl | (simp only [List.length_drop, List.length_take]; rfl)) ?_
     with_reducible refine (levy_Levy.calls kj5 t513 t514 t515 _ _ t516 t536 true _ _ t520 _ _ t521 t519 t537 t540 t543 t544 t545 _ ?side1 ?side2 ?side3 ?side4 ?side5 ?side6 A23.out).mono ?_
     (case side1 => repeat (first | exact (Kd.S_reads' HO518.out).2.2 | (with_reducible refine Kd.C_alloc ?_ _) | (with_reducible refine Kd.C_drewN ?_ _) | (with_reducible refine Kd.C_drew ?_)))
     (case side2 => exact (Kd.S_reads' HO518.out).2.1)
     (case side3 => repeat (first | exact (Kd.R_reads' HO523.out).2.2 | (with_reducible refine Kd.C_alloc ?_ _) | (with_reducible refine Kd.C_drewN ?_ _) | (with_reducible refine Kd.C_drew ?_)))
     (case side4 => exact (Kd.R_reads' HO523.out).2.1)
     (case side5 => repeat (first | exact (Kd.R_reads' HO525.out).2.2 | (with_reducible refine Kd.C_alloc ?_ _) | (with_reducible refine Kd.C_drewN ?_ _) | (with_reducible refine Kd.C_drew ?_)))
     (case side6 => exact (Kd.R_reads' HO525.out).2.1)
     rintro e w37 ⟨v538, v541, rfl, ho0, ho1, hb⟩
     refine ⟨_, rfl, ?_⟩
     replace HO518 := Aside0.mk (Kd.S_below (by (with_reducible repeat (first | apply Kd.S_alloc | apply Kd.S_drewN | apply Kd.S_drew)); exact HO518.out) hb)
     replace HO523 := Aside0.mk (Kd.R_below (by (with_reducible repeat (first | apply Kd.R_alloc | apply Kd.R_drewN | apply Kd.R_drew)); exact HO523.out) hb)
     have HO539 := Aside0.mk (Kd.R_lower (Kd.R_new' (Kd.R_new' (Kd.R_new' ho0 (Kd.R_lt (by (with_reducible repeat (first | apply Kd.R_alloc | apply Kd.R_drewN | apply Kd.R_drew)); exact HO525.out))) (Kd.R_lt (by (with_reducible repeat (first | apply Kd.R_alloc | apply Kd.R_drewN | apply Kd.R_drew)); exact HO529.out))) (Kd.R_lt (by (with_reducible repeat (first | apply Kd.R_alloc | apply Kd.R_drewN | apply Kd.R_drew)); exact HO532.out))) (below_size (by repeat (first | (with_reducible first | exact HB.out | apply below_alloc | apply pw_below_drewN | apply below_drew1 | refine below_set ?_ GE510.out) | exact HB.out))))
     have HO542 := Aside0.mk (Kd.R_lower (Kd.R_new' (Kd.R_new' (Kd.R_new' ho1 (Kd.R_lt (by (with_reducible repeat (first | apply Kd.R_alloc | apply Kd.R_drewN | apply Kd.R_drew)); exact HO525.out))) (Kd.R_lt (by (with_reducible repeat (first | apply Kd.R_alloc | apply Kd.R_drewN | apply Kd.R_drew)); exact HO529.out))) (Kd.R_lt (by (with_reducible repeat (first | apply Kd.R_alloc | apply Kd.R_drewN | apply Kd.R_drew)); exact HO532.out))) (below_size (by repeat (first | (with_reducible first | exact HB.out | apply below_alloc | apply pw_below_drewN | apply below_drew1 | refine below_set ?_ GE510.out) | exact HB.out))))
     replace HO525 := Aside0.mk (Kd.R_mono (Kd.R_told (Kd.R_told (Kd.R_old (by (with_reducible repeat (first | apply Kd.R_alloc | apply Kd.R_drewN | apply Kd.R_drew)); exact HO525.out) hb) (Kd.R_base ho0)) (Kd.R_base ho1)) (fun _ h_ => h_.1))
     replace HO529 := Aside0.mk (Kd.R_mono (Kd.R_told (Kd.R_told (Kd.R_old (by (with_reducible repeat (first | apply Kd.R_alloc | apply Kd.R_drewN | apply Kd.R_drew)); exact HO529.out) hb) (Kd.R_base ho0)) (Kd.R_base ho1)) (fun _ h_ => h_.1))
     replace HO532 := Aside0.mk (Kd.R_mono (Kd.R_told (Kd.R_told (Kd.R_old (by (with_reducible repeat (first | apply Kd.R_alloc | apply Kd.R_drewN | apply Kd.R_drew)); exact HO532.out) hb) (Kd.R_base ho0)) (Kd.R_base ho1)) (fun _ h_ => h_.1))
     replace BK510 := Aside0.mk (blk_below (g := gb510) (o := .cells #[.bool t513, .bool t514, .int .i64 t515, .slice Ao28 t516.length co28] 24 (0, 0)) (by (with_reducible repeat (first | refine blk_drewN ?_ _ | refine blk_drew ?_ | refine blk_alloc ?_ _)); exact BK510.out) hb)
     replace HB := Aside0.mk (below_step (by repeat (first | (with_reducible first | exact HB.out | apply below_alloc | apply pw_below_drewN | apply below_drew1 | refine below_set ?_ GE510.out) | exact HB.out)) hb)
     (try clear hb)
     (try clear hb2)
     (try clear hk)
     (try clear hi)
     (try clear ho0)
     (try clear ho1)
     refine hK.out _ _ ⟨(blk_cell BK510.out 0).trans rfl, (blk_cell BK510.out 1).trans rfl, (blk_cell BK510.out 2).trans rfl, (blk_cell BK510.out 3).trans rfl⟩ (fun hHeld => ?_)
     clear hK K
     refine norm_ (a' := ?_) ?_ ?_
     rotate_left; (show Act.put _ (some 65) _ = _; simp only [Act.put, List.setIfInBounds_toArray, List.set_cons_zero, List.set_cons_succ, i64_w, i32_w]; rfl)
     refine ahead_ [(7, 58), (8, 66), (9, 67), (10, 68), (11, 69), (12, 70), (13, 18), (14, 19), (15, 20), (16, 21), (17, 22)] ?_
     iterate 11 (refine pA_ (v := ?_) (a' := ?_) rfl rfl HT_.out (by kernel_rfl) (fun _ _ _ h => h) (Or.inl ⟨by rfl, ?_⟩) ?_ ?_; rotate_left; (intro w'; go_simp; with_reducible rfl); rotate_left; (simp only [Act.put, List.setIfInBounds_toArray, List.set_cons_zero, List.set_cons_succ, i64_w, i32_w]; rfl))
     refine aheadE_ (mk 18 262143) (by kernel_rfl) ?_
     refine done_ (done_of HT_.out (by kernel_rfl)) ?_
     go_upto_region 7 with (fail)
     go_cut [116] (fun v116 wc => ∃ (kq : Nat) (x116_23 : Bool), v116 = .bool x116_23 ∧ Aside0 (haberdashlaw19_LevySums.j1 kq t519 t521 t527 t530 t533 t534 t540 x116_23 t513 t514 t515 t516 = some r) ∧ Aside0 (kq ≤ kj5) ∧ Aside0 (Kd.R (Kd.int .i64) 2 wc w.heap.size (fun k_ => some k_ ≠ (v528 : Value).ownBlock ∧ some k_ ≠ (v531 : Value).ownBlock ∧ some k_ ≠ (v541 : Value).ownBlock) (.slice Ao33 t521.length co33) t521) ∧ Aside0 (Kd.R (Kd.int .i64) 2 wc w.heap.size (fun k_ => some k_ ≠ ((.slice Ao33 t521.length co33) : Value).ownBlock ∧ some k_ ≠ (v531 : Value).ownBlock ∧ some k_ ≠ (v541 : Value).ownBlock) v528 t527) ∧ Aside0 (Kd.R (Kd.int .i64) 2 wc w.heap.size (fun k_ => some k_ ≠ ((.slice Ao33 t521.length co33) : Value).ownBlock ∧ some k_ ≠ (v528 : Value).ownBlock ∧ some k_ ≠ (v541 : Value).ownBlock) v531 t530) ∧ Aside0 (Kd.R (Kd.int .i64) 2 wc w.heap.size (fun k_ => some k_ ≠ ((.slice Ao33 t521.length co33) : Value).ownBlock ∧ some k_ ≠ (v528 : Value).ownBlock ∧ some k_ ≠ (v531 : Value).ownBlock) v541 t540) ∧ Aside0 (Kd.S k56 56 wc w.heap.size (fun _ => True) (.slice Ao28 t516.length co28) t516) ∧ Aside0 (wc.heap[gb510]? = some (.cells #[.bool t513, .bool t514, .int .i64 t515, (.slice Ao28 t516.length co28)] 24 (0, 0))) ∧ Aside0 (Below w.heap.size w wc))
     case first => as_aux_lemma =>
      have H := HC24.out
      clear HC24
      replace H := Option.bind_eq_some_iff.mp H
      obtain ⟨t546, A380, H⟩ := H
      replace H : (if t546 = true then (if t535 = 0 then (if t545 = 0 then (if (t527.length : Int) = (t521.length : Int) then (if (t530.length : Int) = (t521.length : Int) then ((haberdashhelp_Plain_int64.f kj5 t537 t527).bind fun t547 => (if t547 = true then (if (t540.length : Int) = (t521.length : Int) then (if t543 = t533 then (haberdashlaw19_LevySums.j1 kj5 t519 t521 t527 t530 t533 t534 t540 (t544 != 0) t513 t514 t515 t516) else (haberdashlaw19_LevySums.j1 kj5 t519 t521 t527 t530 t533 t534 t540 true t513 t514 t515 t516)) else (haberdashlaw19_LevySums.j1 kj5 t519 t521 t527 t530 t533 t534 t540 true t513 t514 t515 t516)) else (haberdashlaw19_LevySums.j1 kj5 t519 t521 t527 t530 t533 t534 t540 true t513 t514 t515 t516))) else (haberdashlaw19_LevySums.j1 kj5 t519 t521 t527 t530 t533 t534 t540 true t513 t514 t515 t516)) else (haberdashlaw19_LevySums.j1 kj5 t519 t521 t527 t530 t533 t534 t540 true t513 t514 t515 t516)) else (haberdashlaw19_LevySums.j1 kj5 t519 t521 t527 t530 t533 t534 t540 true t513 t514 t515 t516)) else (haberdashlaw19_LevySums.j1 kj5 t519 t521 t527 t530 t533 t534 t540 true t513 t514 t515 t516)) else (haberdashlaw19_LevySums.j1 kj5 t519 t521 t527 t530 t533 t534 t540 true t513 t514 t515 t516)) = some r := H
      have A38 := Aside0.mk A380
      clear A380
      by_cases c39 : t546 = true
      ·
       subst c39
       have H1 : (if t535 = 0 then (if t545 = 0 then (if (t527.length : Int) = (t521.length : Int) then (if (t530.length : Int) = (t521.length : Int) then ((haberdashhelp_Plain_int64.f kj5 t537 t527).bind fun t547 => (if t547 = true then (if (t540.length : Int) = (t521.length : Int) then (if t543 = t533 then (haberdashlaw19_LevySums.j1 kj5 t519 t521 t527 t530 t533 t534 t540 (t544 != 0) t513 t514 t515 t516) else (haberdashlaw19_LevySums.j1 kj5 t519 t521 t527 t530 t533 t534 t540 true t513 t514 t515 t516)) else (haberdashlaw19_LevySums.j1 kj5 t519 t521 t527 t530 t533 t534 t540 true t513 t514 t515 t516)) else (haberdashlaw19_LevySums.j1 kj5 t519 t521 t527 t530 t533 t534 t540 true t513 t514 t515 t516))) else (haberdashlaw19_LevySums.j1 kj5 t519 t521 t527 t530 t533 t534 t540 true t513 t514 t515 t516)) else (haberdashlaw19_LevySums.j1 kj5 t519 t521 t527 t530 t533 t534 t540 true t513 t514 t515 t516)) else (haberdashlaw19_LevySums.j1 kj5 t519 t521 t527 t530 t533 t534 t540 true t513 t514 t515 t516)) else (haberdashlaw19_LevySums.j1 kj5 t519 t521 t527 t530 t533 t534 t540 true t513 t514 t515 t516)) = some r := by rw [if_pos rfl] at H; exact H
       clear H
       have H := H1
       clear H1
       by_cases c40 : t535 = 0
       ·
        rw [if_pos c40] at H
        have c40b0 : (t535 == 0) = true := beq_iff_eq.mpr c40
        have c40b1 : (t535 != 0) = false := bne_eq_false_iff_eq.mpr c40
        clear c40
        (first | rw [c40b0] | (simp only [i64_w, i32_w]; rw [c40b0]) | skip)
        by_cases c41 : t545 = 0
        ·
         rw [if_pos c41] at H
         have c41b0 : (t545 == 0) = true := beq_iff_eq.mpr c41
         have c41b1 : (t545 != 0) = false := bne_eq_false_iff_eq.mpr c41
         clear c41
         by_cases c42 : (t527.length : Int) = (t521.length : Int)
         ·
          rw [if_pos c42] at H
          have c42b0 : ((t527.length : Int) == (t521.length : Int)) = true := beq_iff_eq.mpr c42
          have c42b1 : ((t527.length : Int) != (t521.length : Int)) = false := bne_eq_false_iff_eq.mpr c42
          have c42b2 : (t527.length == t521.length) = true := by first | simpa using c42 | (simp at c42 ⊢; omega)
          clear c42
          by_cases c43 : (t530.length : Int) = (t521.length : Int)
          ·
           rw [if_pos c43] at H
           have c43b0 : ((t530.length : Int) == (t521.length : Int)) = true := beq_iff_eq.mpr c43
           have c43b1 : ((t530.length : Int) != (t521.length : Int)) = false := bne_eq_false_iff_eq.mpr c43
           have c43b2 : (t530.length == t521.length) = true := by first | simpa using c43 | (simp at c43 ⊢; omega)
           clear c43
           replace H := Option.bind_eq_some_iff.mp H
           obtain ⟨t547, A440, H⟩ := H
           replace H : (if t547 = true then (if (t540.length : Int) = (t521.length : Int) then (if t543 = t533 then (haberdashlaw19_LevySums.j1 kj5 t519 t521 t527 t530 t533 t534 t540 (t544 != 0) t513 t514 t515 t516) else (haberdashlaw19_LevySums.j1 kj5 t519 t521 t527 t530 t533 t534 t540 true t513 t514 t515 t516)) else (haberdashlaw19_LevySums.j1 kj5 t519 t521 t527 t530 t533 t534 t540 true t513 t514 t515 t516)) else (haberdashlaw19_LevySums.j1 kj5 t519 t521 t527 t530 t533 t534 t540 true t513 t514 t515 t516)) = some r := H
           have A44 := Aside0.mk A440
           clear A440
           by_cases c45 : t547 = true
           ·
            subst c45
            have H1 : (if (t540.length : Int) = (t521.length : Int) then (if t543 = t533 then (haberdashlaw19_LevySums.j1 kj5 t519 t521 t527 t530 t533 t534 t540 (t544 != 0) t513 t514 t515 t516) else (haberdashlaw19_LevySums.j1 kj5 t519 t521 t527 t530 t533 t534 t540 true t513 t514 t515 t516)) else (haberdashlaw19_LevySums.j1 kj5 t519 t521 t527 t530 t533 t534 t540 true t513 t514 t515 t516)) = some r := by rw [if_pos rfl] at H; exact H
            clear H
            have H := H1
            clear H1
            by_cases c46 : (t540.length : Int) = (t521.length : Int)
            ·
             rw [if_pos c46] at H
             have c46b0 : ((t540.length : Int) == (t521.length : Int)) = true := beq_iff_eq.mpr c46
             have c46b1 : ((t540.length : Int) != (t521.length : Int)) = false := bne_eq_false_iff_eq.mpr c46
             have c46b2 : (t540.length == t521.length) = true := by first | simpa using c46 | (simp at c46 ⊢; omega)
             clear c46
             by_cases c47 : t543 = t533
             ·
              rw [if_pos c47] at H
              have c47b0 : (t543 == t533) = true := beq_iff_eq.mpr c47
              have c47b1 : (t543 != t533) = false := bne_eq_false_iff_eq.mpr c47
              clear c47
              have H' := Aside0.mk H
              clear H
              go_wp2_with (first | ((with_reducible refine gate_callee (f := 14) rfl ?_); refine goesL_ (some 71) rfl rfl Try.func14 (by kernel_rfl) rfl #[] rfl (by (try simp only [List.map_toArray, List.map_cons, List.map_nil]); first | done | rfl | (simp only [List.length_drop, List.length_take]; rfl)) ?_; (with_reducible refine (haberdashlaw19_awake.calls kj5  true _ A38.out).mono ?_); rintro e w48 ⟨rfl, hb⟩; refine ⟨_, rfl, ?_⟩; replace HO518 := Aside0.mk (Kd.S_below (by (with_reducible repeat (first | apply Kd.S_alloc | apply Kd.S_drewN | apply Kd.S_drew)); exact HO518.out) hb); replace HO523 := Aside0.mk (Kd.R_below (by (with_reducible repeat (first | apply Kd.R_alloc | apply Kd.R_drewN | apply Kd.R_drew)); exact HO523.out) hb); replace HO525 := Aside0.mk (Kd.R_below (by (with_reducible repeat (first | apply Kd.R_alloc | apply Kd.R_drewN | apply Kd.R_drew)); exact HO525.out) hb); replace HO529 := Aside0.mk (Kd.R_below (by (with_reducible repeat (first | apply Kd.R_alloc | apply Kd.R_drewN | apply Kd.R_drew)); exact HO529.out) hb); replace HO532 := Aside0.mk (Kd.R_below (by (with_reducible repeat (first | apply Kd.R_alloc | apply Kd.R_drewN | apply Kd.R_drew)); exact HO532.out) hb); replace HO539 := Aside0.mk (Kd.R_below (by (with_reducible repeat (first | apply Kd.R_alloc | apply Kd.R_drewN | apply Kd.R_drew)); exact HO539.out) hb); replace HO542 := Aside0.mk (Kd.R_below (by (with_reducible repeat (first | apply Kd.R_alloc | apply Kd.R_drewN | apply Kd.R_drew)); exact HO542.out) hb); replace BK510 := Aside0.mk (blk_below (g := gb510) (o := .cells #[.bool t513, .bool t514, .int .i64 t515, .slice Ao28 t516.length co28] 24 (0, 0)) (by (with_reducible repeat (first | refine blk_drewN ?_ _ | refine blk_drew ?_ | refine blk_alloc ?_ _)); exact BK510.out) hb); replace HB := Aside0.mk (below_step (by repeat (first | (with_reducible first | exact HB.out | apply below_alloc | apply pw_below_drewN | apply below_drew1 | refine below_set ?_ GE510.out) | exact HB.out)) hb); (try clear hb); (try clear hb2); (try clear hk); (try clear hi); obtain ⟨Ao49, co49, eo49⟩ := Kd.R_slice HO529.out; subst eo49; obtain ⟨Ao50, co50, eo50⟩ := Kd.R_slice HO532.out; subst eo50; obtain ⟨Ao51, co51, eo51⟩ := Kd.R_slice HO539.out; subst eo51) | (go_at_call 26; (with_reducible refine (haberdashhelp_Plain_int64.calls kj5 _ _ t537 _ _ t527 true _ ?side1 ?side2 ?side3 ?side4 A44.out).mono ?_); (case side1 => repeat (first | exact (Kd.R_reads' HO539.out).2.2 | (with_reducible refine Kd.C_alloc ?_ _) | (with_reducible refine Kd.C_drewN ?_ _) | (with_reducible refine Kd.C_drew ?_))); (case side2 => exact (Kd.R_reads' HO539.out).2.1); (case side3 => repeat (first | exact (Kd.R_reads' HO529.out).2.2 | (with_reducible refine Kd.C_alloc ?_ _) | (with_reducible refine Kd.C_drewN ?_ _) | (with_reducible refine Kd.C_drew ?_))); (case side4 => exact (Kd.R_reads' HO529.out).2.1); rintro e w' ⟨rfl, ⟨nd, rfl⟩⟩; obtain ⟨Ao52, co52, eo52⟩ := Kd.R_slice HO542.out; subst eo52))
              go_meet
              case rel => exact ⟨_, ((t544 != 0)), (by first | rfl | (simp; done) | (simp [*]; done)), H', ⟨by have := HJ5.out; first | omega | exact Nat.le_refl _⟩, ⟨by (with_reducible repeat (first | apply Kd.R_alloc | apply Kd.R_drewN | apply Kd.R_drew)); exact Kd.R_mono HO525.out (fun _ hk => ⟨hk.1.1.1.2, ⟨hk.1.1.2, hk.2⟩⟩)⟩, ⟨by (with_reducible repeat (first | apply Kd.R_alloc | apply Kd.R_drewN | apply Kd.R_drew)); exact Kd.R_mono HO529.out (fun _ hk => ⟨hk.1.1.2, ⟨hk.1.1.1, hk.2⟩⟩)⟩, ⟨by (with_reducible repeat (first | apply Kd.R_alloc | apply Kd.R_drewN | apply Kd.R_drew)); exact Kd.R_mono HO532.out (fun _ hk => ⟨hk.1.1.2, ⟨hk.1.1.1, hk.2⟩⟩)⟩, ⟨by (with_reducible repeat (first | apply Kd.R_alloc | apply Kd.R_drewN | apply Kd.R_drew)); exact Kd.R_mono HO542.out (fun _ hk => ⟨hk.1.1.2, ⟨hk.1.2, hk.2⟩⟩)⟩, ⟨by (with_reducible repeat (first | apply Kd.S_alloc | apply Kd.S_drewN | apply Kd.S_drew)); exact HO518.out⟩, ⟨by (with_reducible repeat (first | refine blk_drewN ?_ _ | refine blk_drew ?_ | refine blk_alloc ?_ _)); exact BK510.out⟩, ⟨by repeat (first | (with_reducible first | exact HB.out | apply below_alloc | apply pw_below_drewN | apply below_drew1 | refine below_set ?_ GE510.out) | exact HB.out)⟩⟩
             ·
              rw [if_neg c47] at H
              have c47b0 : (t543 == t533) = false := beq_eq_false_iff_ne.mpr c47
              have c47b1 : (t543 != t533) = true := bne_iff_ne.mpr c47
              have H' := Aside0.mk H
              clear H
              go_wp2_with (first | ((with_reducible refine gate_callee (f := 14) rfl ?_); refine goesL_ (some 71) rfl rfl Try.func14 (by kernel_rfl) rfl #[] rfl (by (try simp only [List.map_toArray, List.map_cons, List.map_nil]); first | done | rfl | (simp only [List.length_drop, List.length_take]; rfl)) ?_; (with_reducible refine (haberdashlaw19_awake.calls kj5  true _ A38.out).mono ?_); rintro e w53 ⟨rfl, hb⟩; refine ⟨_, rfl, ?_⟩; replace HO518 := Aside0.mk (Kd.S_below (by (with_reducible repeat (first | apply Kd.S_alloc | apply Kd.S_drewN | apply Kd.S_drew)); exact HO518.out) hb); replace HO523 := Aside0.mk (Kd.R_below (by (with_reducible repeat (first | apply Kd.R_alloc | apply Kd.R_drewN | apply Kd.R_drew)); exact HO523.out) hb); replace HO525 := Aside0.mk (Kd.R_below (by (with_reducible repeat (first | apply Kd.R_alloc | apply Kd.R_drewN | apply Kd.R_drew)); exact HO525.out) hb); replace HO529 := Aside0.mk (Kd.R_below (by (with_reducible repeat (first | apply Kd.R_alloc | apply Kd.R_drewN | apply Kd.R_drew)); exact HO529.out) hb); replace HO532 := Aside0.mk (Kd.R_below (by (with_reducible repeat (first | apply Kd.R_alloc | apply Kd.R_drewN | apply Kd.R_drew)); exact HO532.out) hb); replace HO539 := Aside0.mk (Kd.R_below (by (with_reducible repeat (first | apply Kd.R_alloc | apply Kd.R_drewN | apply Kd.R_drew)); exact HO539.out) hb); replace HO542 := Aside0.mk (Kd.R_below (by (with_reducible repeat (first | apply Kd.R_alloc | apply Kd.R_drewN | apply Kd.R_drew)); exact HO542.out) hb); replace BK510 := Aside0.mk (blk_below (g := gb510) (o := .cells #[.bool t513, .bool t514, .int .i64 t515, .slice Ao28 t516.length co28] 24 (0, 0)) (by (with_reducible repeat (first | refine blk_drewN ?_ _ | refine blk_drew ?_ | refine blk_alloc ?_ _)); exact BK510.out) hb); replace HB := Aside0.mk (below_step (by repeat (first | (with_reducible first | exact HB.out | apply below_alloc | apply pw_below_drewN | apply below_drew1 | refine below_set ?_ GE510.out) | exact HB.out)) hb); (try clear hb); (try clear hb2); (try clear hk); (try clear hi); obtain ⟨Ao54, co54, eo54⟩ := Kd.R_slice HO529.out; subst eo54; obtain ⟨Ao55, co55, eo55⟩ := Kd.R_slice HO532.out; subst eo55; obtain ⟨Ao56, co56, eo56⟩ := Kd.R_slice HO539.out; subst eo56) | (go_at_call 26; (with_reducible refine (haberdashhelp_Plain_int64.calls kj5 _ _ t537 _ _ t527 true _ ?side1 ?side2 ?side3 ?side4 A44.out).mono ?_); (case side1 => repeat (first | exact (Kd.R_reads' HO539.out).2.2 | (with_reducible refine Kd.C_alloc ?_ _) | (with_reducible refine Kd.C_drewN ?_ _) | (with_reducible refine Kd.C_drew ?_))); (case side2 => exact (Kd.R_reads' HO539.out).2.1); (case side3 => repeat (first | exact (Kd.R_reads' HO529.out).2.2 | (with_reducible refine Kd.C_alloc ?_ _) | (with_reducible refine Kd.C_drewN ?_ _) | (with_reducible refine Kd.C_drew ?_))); (case side4 => exact (Kd.R_reads' HO529.out).2.1); rintro e w' ⟨rfl, ⟨nd, rfl⟩⟩; obtain ⟨Ao57, co57, eo57⟩ := Kd.R_slice HO542.out; subst eo57))
              go_meet
              case rel => exact ⟨_, (true), (by first | rfl | (simp; done) | (simp [*]; done)), H', ⟨by have := HJ5.out; first | omega | exact Nat.le_refl _⟩, ⟨by (with_reducible repeat (first | apply Kd.R_alloc | apply Kd.R_drewN | apply Kd.R_drew)); exact Kd.R_mono HO525.out (fun _ hk => ⟨hk.1.1.1.2, ⟨hk.1.1.2, hk.2⟩⟩)⟩, ⟨by (with_reducible repeat (first | apply Kd.R_alloc | apply Kd.R_drewN | apply Kd.R_drew)); exact Kd.R_mono HO529.out (fun _ hk => ⟨hk.1.1.2, ⟨hk.1.1.1, hk.2⟩⟩)⟩, ⟨by (with_reducible repeat (first | apply Kd.R_alloc | apply Kd.R_drewN | apply Kd.R_drew)); exact Kd.R_mono HO532.out (fun _ hk => ⟨hk.1.1.2, ⟨hk.1.1.1, hk.2⟩⟩)⟩, ⟨by (with_reducible repeat (first | apply Kd.R_alloc | apply Kd.R_drewN | apply Kd.R_drew)); exact Kd.R_mono HO542.out (fun _ hk => ⟨hk.1.1.2, ⟨hk.1.2, hk.2⟩⟩)⟩, ⟨by (with_reducible repeat (first | apply Kd.S_alloc | apply Kd.S_drewN | apply Kd.S_drew)); exact HO518.out⟩, ⟨by (with_reducible repeat (first | refine blk_drewN ?_ _ | refine blk_drew ?_ | refine blk_alloc ?_ _)); exact BK510.out⟩, ⟨by repeat (first | (with_reducible first | exact HB.out | apply below_alloc | apply pw_below_drewN | apply below_drew1 | refine below_set ?_ GE510.out) | exact HB.out)⟩⟩
            ·
             rw [if_neg c46] at H
             have c46b0 : ((t540.length : Int) == (t521.length : Int)) = false := beq_eq_false_iff_ne.mpr c46
             have c46b1 : ((t540.length : Int) != (t521.length : Int)) = true := bne_iff_ne.mpr c46
             have c46b2 : (t540.length == t521.length) = false := by first | simpa using c46 | (simp at c46 ⊢; omega)
             have H' := Aside0.mk H
             clear H
             go_wp2_with (first | ((with_reducible refine gate_callee (f := 14) rfl ?_); refine goesL_ (some 71) rfl rfl Try.func14 (by kernel_rfl) rfl #[] rfl (by (try simp only [List.map_toArray, List.map_cons, List.map_nil]); first | done | rfl | (simp only [List.length_drop, List.length_take]; rfl)) ?_; (with_reducible refine (haberdashlaw19_awake.calls kj5  true _ A38.out).mono ?_); rintro e w58 ⟨rfl, hb⟩; refine ⟨_, rfl, ?_⟩; replace HO518 := Aside0.mk (Kd.S_below (by (with_reducible repeat (first | apply Kd.S_alloc | apply Kd.S_drewN | apply Kd.S_drew)); exact HO518.out) hb); replace HO523 := Aside0.mk (Kd.R_below (by (with_reducible repeat (first | apply Kd.R_alloc | apply Kd.R_drewN | apply Kd.R_drew)); exact HO523.out) hb); replace HO525 := Aside0.mk (Kd.R_below (by (with_reducible repeat (first | apply Kd.R_alloc | apply Kd.R_drewN | apply Kd.R_drew)); exact HO525.out) hb); replace HO529 := Aside0.mk (Kd.R_below (by (with_reducible repeat (first | apply Kd.R_alloc | apply Kd.R_drewN | apply Kd.R_drew)); exact HO529.out) hb); replace HO532 := Aside0.mk (Kd.R_below (by (with_reducible repeat (first | apply Kd.R_alloc | apply Kd.R_drewN | apply Kd.R_drew)); exact HO532.out) hb); replace HO539 := Aside0.mk (Kd.R_below (by (with_reducible repeat (first | apply Kd.R_alloc | apply Kd.R_drewN | apply Kd.R_drew)); exact HO539.out) hb); replace HO542 := Aside0.mk (Kd.R_below (by (with_reducible repeat (first | apply Kd.R_alloc | apply Kd.R_drewN | apply Kd.R_drew)); exact HO542.out) hb); replace BK510 := Aside0.mk (blk_below (g := gb510) (o := .cells #[.bool t513, .bool t514, .int .i64 t515, .slice Ao28 t516.length co28] 24 (0, 0)) (by (with_reducible repeat (first | refine blk_drewN ?_ _ | refine blk_drew ?_ | refine blk_alloc ?_ _)); exact BK510.out) hb); replace HB := Aside0.mk (below_step (by repeat (first | (with_reducible first | exact HB.out | apply below_alloc | apply pw_below_drewN | apply below_drew1 | refine below_set ?_ GE510.out) | exact HB.out)) hb); (try clear hb); (try clear hb2); (try clear hk); (try clear hi); obtain ⟨Ao59, co59, eo59⟩ := Kd.R_slice HO529.out; subst eo59; obtain ⟨Ao60, co60, eo60⟩ := Kd.R_slice HO532.out; subst eo60; obtain ⟨Ao61, co61, eo61⟩ := Kd.R_slice HO539.out; subst eo61) | (go_at_call 26; (with_reducible refine (haberdashhelp_Plain_int64.calls kj5 _ _ t537 _ _ t527 true _ ?side1 ?side2 ?side3 ?side4 A44.out).mono ?_); (case side1 => repeat (first | exact (Kd.R_reads' HO539.out).2.2 | (with_reducible refine Kd.C_alloc ?_ _) | (with_reducible refine Kd.C_drewN ?_ _) | (with_reducible refine Kd.C_drew ?_))); (case side2 => exact (Kd.R_reads' HO539.out).2.1); (case side3 => repeat (first | exact (Kd.R_reads' HO529.out).2.2 | (with_reducible refine Kd.C_alloc ?_ _) | (with_reducible refine Kd.C_drewN ?_ _) | (with_reducible refine Kd.C_drew ?_))); (case side4 => exact (Kd.R_reads' HO529.out).2.1); rintro e w' ⟨rfl, ⟨nd, rfl⟩⟩; obtain ⟨Ao62, co62, eo62⟩ := Kd.R_slice HO542.out; subst eo62))
             go_meet
             case rel => exact ⟨_, (true), (by first | rfl | (simp; done) | (simp [*]; done)), H', ⟨by have := HJ5.out; first | omega | exact Nat.le_refl _⟩, ⟨by (with_reducible repeat (first | apply Kd.R_alloc | apply Kd.R_drewN | apply Kd.R_drew)); exact Kd.R_mono HO525.out (fun _ hk => ⟨hk.1.1.1.2, ⟨hk.1.1.2, hk.2⟩⟩)⟩, ⟨by (with_reducible repeat (first | apply Kd.R_alloc | apply Kd.R_drewN | apply Kd.R_drew)); exact Kd.R_mono HO529.out (fun _ hk => ⟨hk.1.1.2, ⟨hk.1.1.1, hk.2⟩⟩)⟩, ⟨by (with_reducible repeat (first | apply Kd.R_alloc | apply Kd.R_drewN | apply Kd.R_drew)); exact Kd.R_mono HO532.out (fun _ hk => ⟨hk.1.1.2, ⟨hk.1.1.1, hk.2⟩⟩)⟩, ⟨by (with_reducible repeat (first | apply Kd.R_alloc | apply Kd.R_drewN | apply Kd.R_drew)); exact Kd.R_mono HO542.out (fun _ hk => ⟨hk.1.1.2, ⟨hk.1.2, hk.2⟩⟩)⟩, ⟨by (with_reducible repeat (first | apply Kd.S_alloc | apply Kd.S_drewN | apply Kd.S_drew)); exact HO518.out⟩, ⟨by (with_reducible repeat (first | refine blk_drewN ?_ _ | refine blk_drew ?_ | refine blk_alloc ?_ _)); exact BK510.out⟩, ⟨by repeat (first | (with_reducible first | exact HB.out | apply below_alloc | apply pw_below_drewN | apply below_drew1 | refine below_set ?_ GE510.out) | exact HB.out)⟩⟩
           ·
            replace c45 := Bool.eq_false_iff.mpr c45
            subst c45
            have H1 : (haberdashlaw19_LevySums.j1 kj5 t519 t521 t527 t530 t533 t534 t540 true t513 t514 t515 t516) = some r := by rw [if_neg (show ¬ (false = true) by decide)] at H; exact H
            clear H
            have H := H1
            clear H1
            have H' := Aside0.mk H
            clear H
            go_wp2_with (first | ((with_reducible refine gate_callee (f := 14) rfl ?_); refine goesL_ (some 71) rfl rfl Try.func14 (by kernel_rfl) rfl #[] rfl (by (try simp only [List.map_toArray, List.map_cons, List.map_nil]); first | done | rfl | (simp only [List.length_drop, List.length_take]; rfl)) ?_; (with_reducible refine (haberdashlaw19_awake.calls kj5  true _ A38.out).mono ?_); rintro e w63 ⟨rfl, hb⟩; refine ⟨_, rfl, ?_⟩; replace HO518 := Aside0.mk (Kd.S_below (by (with_reducible repeat (first | apply Kd.S_alloc | apply Kd.S_drewN | apply Kd.S_drew)); exact HO518.out) hb); replace HO523 := Aside0.mk (Kd.R_below (by (with_reducible repeat (first | apply Kd.R_alloc | apply Kd.R_drewN | apply Kd.R_drew)); exact HO523.out) hb); replace HO525 := Aside0.mk (Kd.R_below (by (with_reducible repeat (first | apply Kd.R_alloc | apply Kd.R_drewN | apply Kd.R_drew)); exact HO525.out) hb); replace HO529 := Aside0.mk (Kd.R_below (by (with_reducible repeat (first | apply Kd.R_alloc | apply Kd.R_drewN | apply Kd.R_drew)); exact HO529.out) hb); replace HO532 := Aside0.mk (Kd.R_below (by (with_reducible repeat (first | apply Kd.R_alloc | apply Kd.R_drewN | apply Kd.R_drew)); exact HO532.out) hb); replace HO539 := Aside0.mk (Kd.R_below (by (with_reducible repeat (first | apply Kd.R_alloc | apply Kd.R_drewN | apply Kd.R_drew)); exact HO539.out) hb); replace HO542 := Aside0.mk (Kd.R_below (by (with_reducible repeat (first | apply Kd.R_alloc | apply Kd.R_drewN | apply Kd.R_drew)); exact HO542.out) hb); replace BK510 := Aside0.mk (blk_below (g := gb510) (o := .cells #[.bool t513, .bool t514, .int .i64 t515, .slice Ao28 t516.length co28] 24 (0, 0)) (by (with_reducible repeat (first | refine blk_drewN ?_ _ | refine blk_drew ?_ | refine blk_alloc ?_ _)); exact BK510.out) hb); replace HB := Aside0.mk (below_step (by repeat (first | (with_reducible first | exact HB.out | apply below_alloc | apply pw_below_drewN | apply below_drew1 | refine below_set ?_ GE510.out) | exact HB.out)) hb); (try clear hb); (try clear hb2); (try clear hk); (try clear hi); obtain ⟨Ao64, co64, eo64⟩ := Kd.R_slice HO529.out; subst eo64; obtain ⟨Ao65, co65, eo65⟩ := Kd.R_slice HO532.out; subst eo65; obtain ⟨Ao66, co66, eo66⟩ := Kd.R_slice HO539.out; subst eo66) | (go_at_call 26; (with_reducible refine (haberdashhelp_Plain_int64.calls kj5 _ _ t537 _ _ t527 false _ ?side1 ?side2 ?side3 ?side4 A44.out).mono ?_); (case side1 => repeat (first | exact (Kd.R_reads' HO539.out).2.2 | (with_reducible refine Kd.C_alloc ?_ _) | (with_reducible refine Kd.C_drewN ?_ _) | (with_reducible refine Kd.C_drew ?_))); (case side2 => exact (Kd.R_reads' HO539.out).2.1); (case side3 => repeat (first | exact (Kd.R_reads' HO529.out).2.2 | (with_reducible refine Kd.C_alloc ?_ _) | (with_reducible refine Kd.C_drewN ?_ _) | (with_reducible refine Kd.C_drew ?_))); (case side4 => exact (Kd.R_reads' HO529.out).2.1); rintro e w' ⟨rfl, ⟨nd, rfl⟩⟩))
            go_meet
            case rel => exact ⟨_, (true), (by first | rfl | (simp; done) | (simp [*]; done)), H', ⟨by have := HJ5.out; first | omega | exact Nat.le_refl _⟩, ⟨by (with_reducible repeat (first | apply Kd.R_alloc | apply Kd.R_drewN | apply Kd.R_drew)); exact Kd.R_mono HO525.out (fun _ hk => ⟨hk.1.1.1.2, ⟨hk.1.1.2, hk.2⟩⟩)⟩, ⟨by (with_reducible repeat (first | apply Kd.R_alloc | apply Kd.R_drewN | apply Kd.R_drew)); exact Kd.R_mono HO529.out (fun _ hk => ⟨hk.1.1.2, ⟨hk.1.1.1, hk.2⟩⟩)⟩, ⟨by (with_reducible repeat (first | apply Kd.R_alloc | apply Kd.R_drewN | apply Kd.R_drew)); exact Kd.R_mono HO532.out (fun _ hk => ⟨hk.1.1.2, ⟨hk.1.1.1, hk.2⟩⟩)⟩, ⟨by (with_reducible repeat (first | apply Kd.R_alloc | apply Kd.R_drewN | apply Kd.R_drew)); exact Kd.R_mono HO542.out (fun _ hk => ⟨hk.1.1.2, ⟨hk.1.2, hk.2⟩⟩)⟩, ⟨by (with_reducible repeat (first | apply Kd.S_alloc | apply Kd.S_drewN | apply Kd.S_drew)); exact HO518.out⟩, ⟨by (with_reducible repeat (first | refine blk_drewN ?_ _ | refine blk_drew ?_ | refine blk_alloc ?_ _)); exact BK510.out⟩, ⟨by repeat (first | (with_reducible first | exact HB.out | apply below_alloc | apply pw_below_drewN | apply below_drew1 | refine below_set ?_ GE510.out) | exact HB.out)⟩⟩
          ·
           rw [if_neg c43] at H
           have c43b0 : ((t530.length : Int) == (t521.length : Int)) = false := beq_eq_false_iff_ne.mpr c43
           have c43b1 : ((t530.length : Int) != (t521.length : Int)) = true := bne_iff_ne.mpr c43
           have c43b2 : (t530.length == t521.length) = false := by first | simpa using c43 | (simp at c43 ⊢; omega)
           have H' := Aside0.mk H
           clear H
           go_wp2_with (first | ((with_reducible refine gate_callee (f := 14) rfl ?_); refine goesL_ (some 71) rfl rfl Try.func14 (by kernel_rfl) rfl #[] rfl (by (try simp only [List.map_toArray, List.map_cons, List.map_nil]); first | done | rfl | (simp only [List.length_drop, List.length_take]; rfl)) ?_; (with_reducible refine (haberdashlaw19_awake.calls kj5  true _ A38.out).mono ?_); rintro e w67 ⟨rfl, hb⟩; refine ⟨_, rfl, ?_⟩; replace HO518 := Aside0.mk (Kd.S_below (by (with_reducible repeat (first | apply Kd.S_alloc | apply Kd.S_drewN | apply Kd.S_drew)); exact HO518.out) hb); replace HO523 := Aside0.mk (Kd.R_below (by (with_reducible repeat (first | apply Kd.R_alloc | apply Kd.R_drewN | apply Kd.R_drew)); exact HO523.out) hb); replace HO525 := Aside0.mk (Kd.R_below (by (with_reducible repeat (first | apply Kd.R_alloc | apply Kd.R_drewN | apply Kd.R_drew)); exact HO525.out) hb); replace HO529 := Aside0.mk (Kd.R_below (by (with_reducible repeat (first | apply Kd.R_alloc | apply Kd.R_drewN | apply Kd.R_drew)); exact HO529.out) hb); replace HO532 := Aside0.mk (Kd.R_below (by (with_reducible repeat (first | apply Kd.R_alloc | apply Kd.R_drewN | apply Kd.R_drew)); exact HO532.out) hb); replace HO539 := Aside0.mk (Kd.R_below (by (with_reducible repeat (first | apply Kd.R_alloc | apply Kd.R_drewN | apply Kd.R_drew)); exact HO539.out) hb); replace HO542 := Aside0.mk (Kd.R_below (by (with_reducible repeat (first | apply Kd.R_alloc | apply Kd.R_drewN | apply Kd.R_drew)); exact HO542.out) hb); replace BK510 := Aside0.mk (blk_below (g := gb510) (o := .cells #[.bool t513, .bool t514, .int .i64 t515, .slice Ao28 t516.length co28] 24 (0, 0)) (by (with_reducible repeat (first | refine blk_drewN ?_ _ | refine blk_drew ?_ | refine blk_alloc ?_ _)); exact BK510.out) hb); replace HB := Aside0.mk (below_step (by repeat (first | (with_reducible first | exact HB.out | apply below_alloc | apply pw_below_drewN | apply below_drew1 | refine below_set ?_ GE510.out) | exact HB.out)) hb); (try clear hb); (try clear hb2); (try clear hk); (try clear hi); obtain ⟨Ao68, co68, eo68⟩ := Kd.R_slice HO529.out; subst eo68; obtain ⟨Ao69, co69, eo69⟩ := Kd.R_slice HO532.out; subst eo69))
           go_meet
           case rel => exact ⟨_, (true), (by first | rfl | (simp; done) | (simp [*]; done)), H', ⟨by have := HJ5.out; first | omega | exact Nat.le_refl _⟩, ⟨by (with_reducible repeat (first | apply Kd.R_alloc | apply Kd.R_drewN | apply Kd.R_drew)); exact Kd.R_mono HO525.out (fun _ hk => ⟨hk.1.1.1.2, ⟨hk.1.1.2, hk.2⟩⟩)⟩, ⟨by (with_reducible repeat (first | apply Kd.R_alloc | apply Kd.R_drewN | apply Kd.R_drew)); exact Kd.R_mono HO529.out (fun _ hk => ⟨hk.1.1.2, ⟨hk.1.1.1, hk.2⟩⟩)⟩, ⟨by (with_reducible repeat (first | apply Kd.R_alloc | apply Kd.R_drewN | apply Kd.R_drew)); exact Kd.R_mono HO532.out (fun _ hk => ⟨hk.1.1.2, ⟨hk.1.1.1, hk.2⟩⟩)⟩, ⟨by (with_reducible repeat (first | apply Kd.R_alloc | apply Kd.R_drewN | apply Kd.R_drew)); exact Kd.R_mono HO542.out (fun _ hk => ⟨hk.1.1.2, ⟨hk.1.2, hk.2⟩⟩)⟩, ⟨by (with_reducible repeat (first | apply Kd.S_alloc | apply Kd.S_drewN | apply Kd.S_drew)); exact HO518.out⟩, ⟨by (with_reducible repeat (first | refine blk_drewN ?_ _ | refine blk_drew ?_ | refine blk_alloc ?_ _)); exact BK510.out⟩, ⟨by repeat (first | (with_reducible first | exact HB.out | apply below_alloc | apply pw_below_drewN | apply below_drew1 | refine below_set ?_ GE510.out) | exact HB.out)⟩⟩
         ·
          rw [if_neg c42] at H
          have c42b0 : ((t527.length : Int) == (t521.length : Int)) = false := beq_eq_false_iff_ne.mpr c42
          have c42b1 : ((t527.length : Int) != (t521.length : Int)) = true := bne_iff_ne.mpr c42
          have c42b2 : (t527.length == t521.length) = false := by first | simpa using c42 | (simp at c42 ⊢; omega)
          have H' := Aside0.mk H
          clear H
          go_wp2_with (first | ((with_reducible refine gate_callee (f := 14) rfl ?_); refine goesL_ (some 71) rfl rfl Try.func14 (by kernel_rfl) rfl #[] rfl (by (try simp only [List.map_toArray, List.map_cons, List.map_nil]); first | done | rfl | (simp only [List.length_drop, List.length_take]; rfl)) ?_; (with_reducible refine (haberdashlaw19_awake.calls kj5  true _ A38.out).mono ?_); rintro e w70 ⟨rfl, hb⟩; refine ⟨_, rfl, ?_⟩; replace HO518 := Aside0.mk (Kd.S_below (by (with_reducible repeat (first | apply Kd.S_alloc | apply Kd.S_drewN | apply Kd.S_drew)); exact HO518.out) hb); replace HO523 := Aside0.mk (Kd.R_below (by (with_reducible repeat (first | apply Kd.R_alloc | apply Kd.R_drewN | apply Kd.R_drew)); exact HO523.out) hb); replace HO525 := Aside0.mk (Kd.R_below (by (with_reducible repeat (first | apply Kd.R_alloc | apply Kd.R_drewN | apply Kd.R_drew)); exact HO525.out) hb); replace HO529 := Aside0.mk (Kd.R_below (by (with_reducible repeat (first | apply Kd.R_alloc | apply Kd.R_drewN | apply Kd.R_drew)); exact HO529.out) hb); replace HO532 := Aside0.mk (Kd.R_below (by (with_reducible repeat (first | apply Kd.R_alloc | apply Kd.R_drewN | apply Kd.R_drew)); exact HO532.out) hb); replace HO539 := Aside0.mk (Kd.R_below (by (with_reducible repeat (first | apply Kd.R_alloc | apply Kd.R_drewN | apply Kd.R_drew)); exact HO539.out) hb); replace HO542 := Aside0.mk (Kd.R_below (by (with_reducible repeat (first | apply Kd.R_alloc | apply Kd.R_drewN | apply Kd.R_drew)); exact HO542.out) hb); replace BK510 := Aside0.mk (blk_below (g := gb510) (o := .cells #[.bool t513, .bool t514, .int .i64 t515, .slice Ao28 t516.length co28] 24 (0, 0)) (by (with_reducible repeat (first | refine blk_drewN ?_ _ | refine blk_drew ?_ | refine blk_alloc ?_ _)); exact BK510.out) hb); replace HB := Aside0.mk (below_step (by repeat (first | (with_reducible first | exact HB.out | apply below_alloc | apply pw_below_drewN | apply below_drew1 | refine below_set ?_ GE510.out) | exact HB.out)) hb); (try clear hb); (try clear hb2); (try clear hk); (try clear hi); obtain ⟨Ao71, co71, eo71⟩ := Kd.R_slice HO529.out; subst eo71))
          go_meet
          case rel => exact ⟨_, (true), (by first | rfl | (simp; done) | (simp [*]; done)), H', ⟨by have := HJ5.out; first | omega | exact Nat.le_refl _⟩, ⟨by (with_reducible repeat (first | apply Kd.R_alloc | apply Kd.R_drewN | apply Kd.R_drew)); exact Kd.R_mono HO525.out (fun _ hk => ⟨hk.1.1.1.2, ⟨hk.1.1.2, hk.2⟩⟩)⟩, ⟨by (with_reducible repeat (first | apply Kd.R_alloc | apply Kd.R_drewN | apply Kd.R_drew)); exact Kd.R_mono HO529.out (fun _ hk => ⟨hk.1.1.2, ⟨hk.1.1.1, hk.2⟩⟩)⟩, ⟨by (with_reducible repeat (first | apply Kd.R_alloc | apply Kd.R_drewN | apply Kd.R_drew)); exact Kd.R_mono HO532.out (fun _ hk => ⟨hk.1.1.2, ⟨hk.1.1.1, hk.2⟩⟩)⟩, ⟨by (with_reducible repeat (first | apply Kd.R_alloc | apply Kd.R_drewN | apply Kd.R_drew)); exact Kd.R_mono HO542.out (fun _ hk => ⟨hk.1.1.2, ⟨hk.1.2, hk.2⟩⟩)⟩, ⟨by (with_reducible repeat (first | apply Kd.S_alloc | apply Kd.S_drewN | apply Kd.S_drew)); exact HO518.out⟩, ⟨by (with_reducible repeat (first | refine blk_drewN ?_ _ | refine blk_drew ?_ | refine blk_alloc ?_ _)); exact BK510.out⟩, ⟨by repeat (first | (with_reducible first | exact HB.out | apply below_alloc | apply pw_below_drewN | apply below_drew1 | refine below_set ?_ GE510.out) | exact HB.out)⟩⟩
        ·
         rw [if_neg c41] at H
         have c41b0 : (t545 == 0) = false := beq_eq_false_iff_ne.mpr c41
         have c41b1 : (t545 != 0) = true := bne_iff_ne.mpr c41
         have H' := Aside0.mk H
         clear H
         go_wp2_with (first | ((with_reducible refine gate_callee (f := 14) rfl ?_); refine goesL_ (some 71) rfl rfl Try.func14 (by kernel_rfl) rfl #[] rfl (by (try simp only [List.map_toArray, List.map_cons, List.map_nil]); first | done | rfl | (simp only [List.length_drop, List.length_take]; rfl)) ?_; (with_reducible refine (haberdashlaw19_awake.calls kj5  true _ A38.out).mono ?_); rintro e w72 ⟨rfl, hb⟩; refine ⟨_, rfl, ?_⟩; replace HO518 := Aside0.mk (Kd.S_below (by (with_reducible repeat (first | apply Kd.S_alloc | apply Kd.S_drewN | apply Kd.S_drew)); exact HO518.out) hb); replace HO523 := Aside0.mk (Kd.R_below (by (with_reducible repeat (first | apply Kd.R_alloc | apply Kd.R_drewN | apply Kd.R_drew)); exact HO523.out) hb); replace HO525 := Aside0.mk (Kd.R_below (by (with_reducible repeat (first | apply Kd.R_alloc | apply Kd.R_drewN | apply Kd.R_drew)); exact HO525.out) hb); replace HO529 := Aside0.mk (Kd.R_below (by (with_reducible repeat (first | apply Kd.R_alloc | apply Kd.R_drewN | apply Kd.R_drew)); exact HO529.out) hb); replace HO532 := Aside0.mk (Kd.R_below (by (with_reducible repeat (first | apply Kd.R_alloc | apply Kd.R_drewN | apply Kd.R_drew)); exact HO532.out) hb); replace HO539 := Aside0.mk (Kd.R_below (by (with_reducible repeat (first | apply Kd.R_alloc | apply Kd.R_drewN | apply Kd.R_drew)); exact HO539.out) hb); replace HO542 := Aside0.mk (Kd.R_below (by (with_reducible repeat (first | apply Kd.R_alloc | apply Kd.R_drewN | apply Kd.R_drew)); exact HO542.out) hb); replace BK510 := Aside0.mk (blk_below (g := gb510) (o := .cells #[.bool t513, .bool t514, .int .i64 t515, .slice Ao28 t516.length co28] 24 (0, 0)) (by (with_reducible repeat (first | refine blk_drewN ?_ _ | refine blk_drew ?_ | refine blk_alloc ?_ _)); exact BK510.out) hb); replace HB := Aside0.mk (below_step (by repeat (first | (with_reducible first | exact HB.out | apply below_alloc | apply pw_below_drewN | apply below_drew1 | refine below_set ?_ GE510.out) | exact HB.out)) hb); (try clear hb); (try clear hb2); (try clear hk); (try clear hi)))
         go_meet
         case rel => exact ⟨_, (true), (by first | rfl | (simp; done) | (simp [*]; done)), H', ⟨by have := HJ5.out; first | omega | exact Nat.le_refl _⟩, ⟨by (with_reducible repeat (first | apply Kd.R_alloc | apply Kd.R_drewN | apply Kd.R_drew)); exact Kd.R_mono HO525.out (fun _ hk => ⟨hk.1.1.1.2, ⟨hk.1.1.2, hk.2⟩⟩)⟩, ⟨by (with_reducible repeat (first | apply Kd.R_alloc | apply Kd.R_drewN | apply Kd.R_drew)); exact Kd.R_mono HO529.out (fun _ hk => ⟨hk.1.1.2, ⟨hk.1.1.1, hk.2⟩⟩)⟩, ⟨by (with_reducible repeat (first | apply Kd.R_alloc | apply Kd.R_drewN | apply Kd.R_drew)); exact Kd.R_mono HO532.out (fun _ hk => ⟨hk.1.1.2, ⟨hk.1.1.1, hk.2⟩⟩)⟩, ⟨by (with_reducible repeat (first | apply Kd.R_alloc | apply Kd.R_drewN | apply Kd.R_drew)); exact Kd.R_mono HO542.out (fun _ hk => ⟨hk.1.1.2, ⟨hk.1.2, hk.2⟩⟩)⟩, ⟨by (with_reducible repeat (first | apply Kd.S_alloc | apply Kd.S_drewN | apply Kd.S_drew)); exact HO518.out⟩, ⟨by (with_reducible repeat (first | refine blk_drewN ?_ _ | refine blk_drew ?_ | refine blk_alloc ?_ _)); exact BK510.out⟩, ⟨by repeat (first | (with_reducible first | exact HB.out | apply below_alloc | apply pw_below_drewN | apply below_drew1 | refine below_set ?_ GE510.out) | exact HB.out)⟩⟩
       ·
        rw [if_neg c40] at H
        have c40b0 : (t535 == 0) = false := beq_eq_false_iff_ne.mpr c40
        have c40b1 : (t535 != 0) = true := bne_iff_ne.mpr c40
        (first | rw [c40b0] | (simp only [i64_w, i32_w]; rw [c40b0]) | skip)
        have H' := Aside0.mk H
        clear H
        go_wp2_with (first | ((with_reducible refine gate_callee (f := 14) rfl ?_); refine goesL_ (some 71) rfl rfl Try.func14 (by kernel_rfl) rfl #[] rfl (by (try simp only [List.map_toArray, List.map_cons, List.map_nil]); first | done | rfl | (simp only [List.length_drop, List.length_take]; rfl)) ?_; (with_reducible refine (haberdashlaw19_awake.calls kj5  true _ A38.out).mono ?_); rintro e w73 ⟨rfl, hb⟩; refine ⟨_, rfl, ?_⟩; replace HO518 := Aside0.mk (Kd.S_below (by (with_reducible repeat (first | apply Kd.S_alloc | apply Kd.S_drewN | apply Kd.S_drew)); exact HO518.out) hb); replace HO523 := Aside0.mk (Kd.R_below (by (with_reducible repeat (first | apply Kd.R_alloc | apply Kd.R_drewN | apply Kd.R_drew)); exact HO523.out) hb); replace HO525 := Aside0.mk (Kd.R_below (by (with_reducible repeat (first | apply Kd.R_alloc | apply Kd.R_drewN | apply Kd.R_drew)); exact HO525.out) hb); replace HO529 := Aside0.mk (Kd.R_below (by (with_reducible repeat (first | apply Kd.R_alloc | apply Kd.R_drewN | apply Kd.R_drew)); exact HO529.out) hb); replace HO532 := Aside0.mk (Kd.R_below (by (with_reducible repeat (first | apply Kd.R_alloc | apply Kd.R_drewN | apply Kd.R_drew)); exact HO532.out) hb); replace HO539 := Aside0.mk (Kd.R_below (by (with_reducible repeat (first | apply Kd.R_alloc | apply Kd.R_drewN | apply Kd.R_drew)); exact HO539.out) hb); replace HO542 := Aside0.mk (Kd.R_below (by (with_reducible repeat (first | apply Kd.R_alloc | apply Kd.R_drewN | apply Kd.R_drew)); exact HO542.out) hb); replace BK510 := Aside0.mk (blk_below (g := gb510) (o := .cells #[.bool t513, .bool t514, .int .i64 t515, .slice Ao28 t516.length co28] 24 (0, 0)) (by (with_reducible repeat (first | refine blk_drewN ?_ _ | refine blk_drew ?_ | refine blk_alloc ?_ _)); exact BK510.out) hb); replace HB := Aside0.mk (below_step (by repeat (first | (with_reducible first | exact HB.out | apply below_alloc | apply pw_below_drewN | apply below_drew1 | refine below_set ?_ GE510.out) | exact HB.out)) hb); (try clear hb); (try clear hb2); (try clear hk); (try clear hi)))
        go_meet
        case rel => exact ⟨_, (true), (by first | rfl | (simp; done) | (simp [*]; done)), H', ⟨by have := HJ5.out; first | omega | exact Nat.le_refl _⟩, ⟨by (with_reducible repeat (first | apply Kd.R_alloc | apply Kd.R_drewN | apply Kd.R_drew)); exact Kd.R_mono HO525.out (fun _ hk => ⟨hk.1.1.1.2, ⟨hk.1.1.2, hk.2⟩⟩)⟩, ⟨by (with_reducible repeat (first | apply Kd.R_alloc | apply Kd.R_drewN | apply Kd.R_drew)); exact Kd.R_mono HO529.out (fun _ hk => ⟨hk.1.1.2, ⟨hk.1.1.1, hk.2⟩⟩)⟩, ⟨by (with_reducible repeat (first | apply Kd.R_alloc | apply Kd.R_drewN | apply Kd.R_drew)); exact Kd.R_mono HO532.out (fun _ hk => ⟨hk.1.1.2, ⟨hk.1.1.1, hk.2⟩⟩)⟩, ⟨by (with_reducible repeat (first | apply Kd.R_alloc | apply Kd.R_drewN | apply Kd.R_drew)); exact Kd.R_mono HO542.out (fun _ hk => ⟨hk.1.1.2, ⟨hk.1.2, hk.2⟩⟩)⟩, ⟨by (with_reducible repeat (first | apply Kd.S_alloc | apply Kd.S_drewN | apply Kd.S_drew)); exact HO518.out⟩, ⟨by (with_reducible repeat (first | refine blk_drewN ?_ _ | refine blk_drew ?_ | refine blk_alloc ?_ _)); exact BK510.out⟩, ⟨by repeat (first | (with_reducible first | exact HB.out | apply below_alloc | apply pw_below_drewN | apply below_drew1 | refine below_set ?_ GE510.out) | exact HB.out)⟩⟩
      ·
       replace c39 := Bool.eq_false_iff.mpr c39
       subst c39
       have H1 : (haberdashlaw19_LevySums.j1 kj5 t519 t521 t527 t530 t533 t534 t540 true t513 t514 t515 t516) = some r := by rw [if_neg (show ¬ (false = true) by decide)] at H; exact H
       clear H
       have H := H1
       clear H1
       have H' := Aside0.mk H
       clear H
       go_wp2_with (first | ((with_reducible refine gate_callee (f := 14) rfl ?_); refine goesL_ (some 71) rfl rfl Try.func14 (by kernel_rfl) rfl #[] rfl (by (try simp only [List.map_toArray, List.map_cons, List.map_nil]); first | done | rfl | (simp only [List.length_drop, List.length_take]; rfl)) ?_; (with_reducible refine (haberdashlaw19_awake.calls kj5  false _ A38.out).mono ?_); rintro e w74 ⟨rfl, hb⟩; refine ⟨_, rfl, ?_⟩; replace HO518 := Aside0.mk (Kd.S_below (by (with_reducible repeat (first | apply Kd.S_alloc | apply Kd.S_drewN | apply Kd.S_drew)); exact HO518.out) hb); replace HO523 := Aside0.mk (Kd.R_below (by (with_reducible repeat (first | apply Kd.R_alloc | apply Kd.R_drewN | apply Kd.R_drew)); exact HO523.out) hb); replace HO525 := Aside0.mk (Kd.R_below (by (with_reducible repeat (first | apply Kd.R_alloc | apply Kd.R_drewN | apply Kd.R_drew)); exact HO525.out) hb); replace HO529 := Aside0.mk (Kd.R_below (by (with_reducible repeat (first | apply Kd.R_alloc | apply Kd.R_drewN | apply Kd.R_drew)); exact HO529.out) hb); replace HO532 := Aside0.mk (Kd.R_below (by (with_reducible repeat (first | apply Kd.R_alloc | apply Kd.R_drewN | apply Kd.R_drew)); exact HO532.out) hb); replace HO539 := Aside0.mk (Kd.R_below (by (with_reducible repeat (first | apply Kd.R_alloc | apply Kd.R_drewN | apply Kd.R_drew)); exact HO539.out) hb); replace HO542 := Aside0.mk (Kd.R_below (by (with_reducible repeat (first | apply Kd.R_alloc | apply Kd.R_drewN | apply Kd.R_drew)); exact HO542.out) hb); replace BK510 := Aside0.mk (blk_below (g := gb510) (o := .cells #[.bool t513, .bool t514, .int .i64 t515, .slice Ao28 t516.length co28] 24 (0, 0)) (by (with_reducible repeat (first | refine blk_drewN ?_ _ | refine blk_drew ?_ | refine blk_alloc ?_ _)); exact BK510.out) hb); replace HB := Aside0.mk (below_step (by repeat (first | (with_reducible first | exact HB.out | apply below_alloc | apply pw_below_drewN | apply below_drew1 | refine below_set ?_ GE510.out) | exact HB.out)) hb); (try clear hb); (try clear hb2); (try clear hk); (try clear hi)))
       go_meet
       case rel => exact ⟨_, (true), (by first | rfl | (simp; done) | (simp [*]; done)), H', ⟨by have := HJ5.out; first | omega | exact Nat.le_refl _⟩, ⟨by (with_reducible repeat (first | apply Kd.R_alloc | apply Kd.R_drewN | apply Kd.R_drew)); exact Kd.R_mono HO525.out (fun _ hk => ⟨hk.1.1.1.2, ⟨hk.1.1.2, hk.2⟩⟩)⟩, ⟨by (with_reducible repeat (first | apply Kd.R_alloc | apply Kd.R_drewN | apply Kd.R_drew)); exact Kd.R_mono HO529.out (fun _ hk => ⟨hk.1.1.2, ⟨hk.1.1.1, hk.2⟩⟩)⟩, ⟨by (with_reducible repeat (first | apply Kd.R_alloc | apply Kd.R_drewN | apply Kd.R_drew)); exact Kd.R_mono HO532.out (fun _ hk => ⟨hk.1.1.2, ⟨hk.1.1.1, hk.2⟩⟩)⟩, ⟨by (with_reducible repeat (first | apply Kd.R_alloc | apply Kd.R_drewN | apply Kd.R_drew)); exact Kd.R_mono HO542.out (fun _ hk => ⟨hk.1.1.2, ⟨hk.1.2, hk.2⟩⟩)⟩, ⟨by (with_reducible repeat (first | apply Kd.S_alloc | apply Kd.S_drewN | apply Kd.S_drew)); exact HO518.out⟩, ⟨by (with_reducible repeat (first | refine blk_drewN ?_ _ | refine blk_drew ?_ | refine blk_alloc ?_ _)); exact BK510.out⟩, ⟨by repeat (first | (with_reducible first | exact HB.out | apply below_alloc | apply pw_below_drewN | apply below_drew1 | refine below_set ?_ GE510.out) | exact HB.out)⟩⟩
     case rest => as_aux_lemma =>
      clear HC24
      try clear c1
      try clear p2
      try clear c3
      try clear c4
      try clear c14
      try clear c16
      try clear c19
      try clear c39
      try clear c40
      try clear c40b0
      try clear c40b1
      try clear c41
      try clear c41b0
      try clear c41b1
      try clear c42
      try clear c42b0
      try clear c42b1
      try clear c42b2
      try clear c43
      try clear c43b0
      try clear c43b1
      try clear c43b2
      try clear c45
      try clear c46
      try clear c46b0
      try clear c46b1
      try clear c46b2
      try clear c47
      try clear c47b0
      try clear c47b1
      obtain ⟨kq, x116_23, rfl, HA, HJ23, HO_12, HO_13, HO_14, HO_19, HO_511003, BK510, HB⟩ := hcut
      cases kq with
      | zero => exact absurd HA.out (by simp [haberdashlaw19_LevySums.j1])
      | succ kj23 =>
       have H := HA.out
       clear HA
       simp only [haberdashlaw19_LevySums.j1] at H
       by_cases c75 : x116_23 = true
       ·
        subst c75
        have H1 : (some false) = some r := by rw [if_pos rfl] at H; exact H
        clear H
        have H := H1
        clear H1
        obtain rfl := Option.some.inj H
        go_wp2
        go_ret
        exact ⟨by first | rfl | (simp [errW_none, errW_some] <;> rfl) | (simp [*, errW_none, errW_some] <;> rfl), by repeat (first | (with_reducible first | exact HB.out | apply below_alloc | apply pw_below_drewN | apply below_drew1 | refine below_set ?_ GE510.out) | exact HB.out)⟩
       ·
        replace c75 := Bool.eq_false_iff.mpr c75
        subst c75
        have H1 : (haberdashlaw19_LevySums.l0 kj23 t519 t521 t527 t530 t533 t534 t540 0 t513 t514 t515 t516) = some r := by rw [if_neg (show ¬ (false = true) by decide)] at H; exact H
        clear H
        have H := H1
        clear H1
        have H' := Aside0.mk H
        clear H
        go_wp2
        go_loopg [23] kj23 (fun kq v23 w' => ∃ (x23_3 : Int), v23 = .int .i64 x23_3 ∧ Aside0 (haberdashlaw19_LevySums.l0 kq t519 t521 t527 t530 t533 t534 t540 x23_3 t513 t514 t515 t516 = some r) ∧ Aside0 (kq ≤ kj23) ∧ Aside0 (Kd.R (Kd.int .i64) 2 w' w.heap.size (fun k_ => some k_ ≠ (v528 : Value).ownBlock ∧ some k_ ≠ (v531 : Value).ownBlock ∧ some k_ ≠ (v541 : Value).ownBlock) (.slice Ao33 t521.length co33) t521) ∧ Aside0 (Kd.R (Kd.int .i64) 2 w' w.heap.size (fun k_ => some k_ ≠ ((.slice Ao33 t521.length co33) : Value).ownBlock ∧ some k_ ≠ (v531 : Value).ownBlock ∧ some k_ ≠ (v541 : Value).ownBlock) v528 t527) ∧ Aside0 (Kd.R (Kd.int .i64) 2 w' w.heap.size (fun k_ => some k_ ≠ ((.slice Ao33 t521.length co33) : Value).ownBlock ∧ some k_ ≠ (v528 : Value).ownBlock ∧ some k_ ≠ (v541 : Value).ownBlock) v531 t530) ∧ Aside0 (Kd.R (Kd.int .i64) 2 w' w.heap.size (fun k_ => some k_ ≠ ((.slice Ao33 t521.length co33) : Value).ownBlock ∧ some k_ ≠ (v528 : Value).ownBlock ∧ some k_ ≠ (v531 : Value).ownBlock) v541 t540) ∧ Aside0 (Kd.S k56 56 w' w.heap.size (fun _ => True) (.slice Ao28 t516.length co28) t516) ∧ Aside0 (w'.heap[gb510]? = some (.cells #[.bool t513, .bool t514, .int .i64 t515, (.slice Ao28 t516.length co28)] 24 (0, 0))) ∧ Aside0 (Below w.heap.size w w'))
        case atStart => exact ⟨(0), (by first | rfl | (simp; done) | (simp [*]; done)), H', ⟨Nat.le_refl _⟩, ⟨by (with_reducible repeat (first | apply Kd.R_alloc | apply Kd.R_drewN | apply Kd.R_drew)); exact HO_12.out⟩, ⟨by (with_reducible repeat (first | apply Kd.R_alloc | apply Kd.R_drewN | apply Kd.R_drew)); exact HO_13.out⟩, ⟨by (with_reducible repeat (first | apply Kd.R_alloc | apply Kd.R_drewN | apply Kd.R_drew)); exact HO_14.out⟩, ⟨by (with_reducible repeat (first | apply Kd.R_alloc | apply Kd.R_drewN | apply Kd.R_drew)); exact HO_19.out⟩, ⟨by (with_reducible repeat (first | apply Kd.S_alloc | apply Kd.S_drewN | apply Kd.S_drew)); exact HO_511003.out⟩, ⟨by (with_reducible repeat (first | refine blk_drewN ?_ _ | refine blk_drew ?_ | refine blk_alloc ?_ _)); exact BK510.out⟩, ⟨by repeat (first | (with_reducible first | exact HB.out | apply below_alloc | apply pw_below_drewN | apply below_drew1 | refine below_set ?_ GE510.out) | exact HB.out)⟩⟩
        case round => as_aux_lemma =>
         clear H'
         try clear c1
         try clear p2
         try clear c3
         try clear c4
         try clear c7
         try clear c14
         try clear c16
         try clear c19
         try clear c39
         try clear c40
         try clear c40b0
         try clear c40b1
         try clear c41
         try clear c41b0
         try clear c41b1
         try clear c42
         try clear c42b0
         try clear c42b1
         try clear c42b2
         try clear c43
         try clear c43b0
         try clear c43b1
         try clear c43b2
         try clear c45
         try clear c46
         try clear c46b0
         try clear c46b1
         try clear c46b2
         try clear c47
         try clear c47b0
         try clear c47b1
         try clear c75
         try clear p2
         obtain ⟨x23_3, rfl, HA, HK3, HO_12, HO_13, HO_14, HO_19, HO_511003, BK510, HB⟩ := hrel
         cases gk with
         | zero => exact absurd HA.out (by simp [haberdashlaw19_LevySums.l0])
         | succ k3 =>
          have H := HA.out
          clear HA
          simp only [haberdashlaw19_LevySums.l0] at H
          by_cases c76 : x23_3 < (t521.length : Int)
          ·
           rw [if_pos c76] at H
           have c76b0 : decide (x23_3 < (t521.length : Int)) = true := decide_eq_true c76
           clear c76
           by_cases c77 : 0 ≤ x23_3
           ·
            rw [if_pos c77] at H
            have c77b0 : decide (0 ≤ x23_3) = true := decide_eq_true c77
            clear c77
            by_cases c78 : t513 = true
            ·
             subst c78
             have H1 : (if x23_3 < (t530.length : Int) then (if x23_3 < (t527.length : Int) then (if (rd t527 x23_3) = (wrap64 ((rd t521 x23_3) - (rd t530 x23_3))) then (if (rd t527 x23_3) < 0 then (some false) else (if (rd t530 x23_3) < 0 then (some false) else (if x23_3 < (t540.length : Int) then (if (rd t540 x23_3) = 0 then (haberdashlaw19_LevySums.l0 k3 t519 t521 t527 t530 t533 t534 t540 (wrap64 (x23_3 + 1)) true t514 t515 t516) else (some false)) else (none)))) else (some false)) else (none)) else (none)) = some r := by rw [if_pos rfl] at H; exact H
             clear H
             have H := H1
             clear H1
             by_cases c79 : x23_3 < (t530.length : Int)
             ·
              rw [if_pos c79] at H
              have c79b0 : decide (x23_3 < (t530.length : Int)) = true := decide_eq_true c79
              clear c79
              by_cases c80 : x23_3 < (t527.length : Int)
              ·
               rw [if_pos c80] at H
               have c80b0 : decide (x23_3 < (t527.length : Int)) = true := decide_eq_true c80
               clear c80
               by_cases c81 : (rd t527 x23_3) = (wrap64 ((rd t521 x23_3) - (rd t530 x23_3)))
               ·
                rw [if_pos c81] at H
                have c81b0 : ((rd t527 x23_3) == (wrap64 ((rd t521 x23_3) - (rd t530 x23_3)))) = true := beq_iff_eq.mpr c81
                have c81b1 : ((rd t527 x23_3) != (wrap64 ((rd t521 x23_3) - (rd t530 x23_3)))) = false := bne_eq_false_iff_eq.mpr c81
                clear c81
                by_cases c82 : (rd t527 x23_3) < 0
                ·
                 rw [if_pos c82] at H
                 have c82b0 : decide ((rd t527 x23_3) < 0) = true := decide_eq_true c82
                 clear c82
                 obtain rfl := Option.some.inj H
                 have p548 : 0 ≤ (x23_3 : Int) := of_decide_eq_true (by first | (with_reducible assumption) | assumption)
                 have q548 : x23_3 < (t521.length : Int) := of_decide_eq_true (by first | (with_reducible assumption) | assumption)
                 obtain ⟨ad548, e548, hx548_0⟩ := Kd.at_int (Kd.R_reads' HO_12.out).2.2 x23_3 p548 q548
                 cases e548
                 replace p548 := eq_true p548
                 replace q548 := eq_true q548
                 have hcz83_0 : wr.cell? ⟨gb510, 0, none⟩ = some (.bool true) := (blk_cell BK510.out 0).trans rfl
                 have hcz83_1 : wr.cell? ⟨gb510, 1, none⟩ = some (.bool t514) := (blk_cell BK510.out 1).trans rfl
                 have hcz83_2 : wr.cell? ⟨gb510, 2, none⟩ = some (.int .i64 t515) := (blk_cell BK510.out 2).trans rfl
                 have hcz83_3 : wr.cell? ⟨gb510, 3, none⟩ = some (.slice Ao28 t516.length co28) := (blk_cell BK510.out 3).trans rfl
                 have hfz83_0 := blk_frozen BK510.out 0
                 have hfz83_1 := blk_frozen BK510.out 1
                 have hfz83_2 := blk_frozen BK510.out 2
                 have hfz83_3 := blk_frozen BK510.out 3
                 try go_wp2
                 replace HO_12 := Aside0.mk (Kd.R_drew HO_12.out)
                 replace HO_13 := Aside0.mk (Kd.R_drew HO_13.out)
                 replace HO_14 := Aside0.mk (Kd.R_drew HO_14.out)
                 replace HO_19 := Aside0.mk (Kd.R_drew HO_19.out)
                 replace HO_511003 := Aside0.mk (Kd.S_drew HO_511003.out)
                 replace BK510 := Aside0.mk (blk_drew BK510.out)
                 replace HB := Aside0.mk (below_drew1 HB.out)
                 have p549 : 0 ≤ (x23_3 : Int) := of_decide_eq_true (by first | (with_reducible assumption) | assumption)
                 have q549 : x23_3 < (t521.length : Int) := of_decide_eq_true (by first | (with_reducible assumption) | assumption)
                 obtain ⟨ad549, e549, hx549_0⟩ := Kd.at_int (Kd.R_reads' HO_12.out).2.2 x23_3 p549 q549
                 obtain rfl : ad548 = ad549 := (by injection e549)
                 replace p549 := eq_true p549
                 replace q549 := eq_true q549
                 obtain ⟨Ao85, co85, eo85⟩ := Kd.R_slice HO_14.out
                 (first | subst eo85 | (injection eo85 with f1_ f2_ f3_; have f4_ := f1_.symm; have f5_ := f3_.symm; clear f1_ f2_ f3_; subst f4_; subst f5_))
                 have p550 : 0 ≤ (x23_3 : Int) := of_decide_eq_true (by first | (with_reducible assumption) | assumption)
                 have q550 : x23_3 < (t530.length : Int) := of_decide_eq_true (by first | (with_reducible assumption) | assumption)
                 obtain ⟨ad550, e550, hx550_0⟩ := Kd.at_int (Kd.R_reads' HO_14.out).2.2 x23_3 p550 q550
                 cases e550
                 replace p550 := eq_true p550
                 replace q550 := eq_true q550
                 refine start_ (n := 10) (S := fun w' => w'.cell? (ad548.add (x23_3).toNat) = some (.int .i64 (rd t521 x23_3)) ∧ w'.cell? (ad550.add (x23_3).toNat) = some (.int .i64 (rd t530 x23_3))) (ds := []) (mk 10 0) (by kernel_rfl) rfl rfl ⟨hx549_0, hx550_0⟩ (fun hHeld => ?_); refine with_tabW haberdashlaw19_LevySums.tab14 haberdashlaw19_LevySums.bits14 (fun HT_ HW_ => ?_)
                 generalize wr.drew = w84 at HO_12 HO_13 HO_14 HO_19 HO_511003 BK510 HB hx549_0 hx550_0 hHeld ⊢
                 refine ahead_ [(0, 129), (1, 130), (2, 131), (4, 133), (5, 134), (6, 135)] ?_
                 iterate 6 (refine pA_ (v := ?_) (a' := ?_) rfl rfl HT_.out (by kernel_rfl) (fun _ _ _ h => h) (Or.inl ⟨by rfl, ?_⟩) ?_ ?_; rotate_left; (intro w'; go_simp; with_reducible rfl); rotate_left; (simp only [Act.put, List.setIfInBounds_toArray, List.set_cons_zero, List.set_cons_succ, i64_w, i32_w]; rfl))
                 refine aheadE_ (mk 10 119) (by kernel_rfl) ?_
                 refine ahead_ [(3, 132), (7, 136)] ?_
                 iterate 2 (refine tA_ (v := ?_) (a' := ?_) rfl rfl HT_.out HW_.out (by kernel_rfl) (fun _ _ _ h => h) (Or.inl ⟨by rfl, ?_⟩) hHeld ?_ ?_; rotate_left; (rintro w' ⟨s0, s1⟩; go_simp; with_reducible rfl); rotate_left; (simp only [Act.put, List.setIfInBounds_toArray, List.set_cons_zero, List.set_cons_succ, i64_w, i32_w]; rfl))
                 refine aheadE_ (mk 10 255) (by kernel_rfl) ?_
                 refine ahead_ [(8, 137), (9, 24)] ?_
                 iterate 2 (refine pA_ (v := ?_) (a' := ?_) rfl rfl HT_.out (by kernel_rfl) (fun _ _ _ h => h) (Or.inl ⟨by rfl, ?_⟩) ?_ ?_; rotate_left; (intro w'; go_simp; with_reducible rfl); rotate_left; (simp only [Act.put, List.setIfInBounds_toArray, List.set_cons_zero, List.set_cons_succ, i64_w, i32_w]; rfl))
                 refine aheadE_ (mk 10 1023) (by kernel_rfl) ?_
                 refine done_ (done_of HT_.out (by kernel_rfl)) ?_
                 obtain ⟨Ao86, co86, eo86⟩ := Kd.R_slice HO_13.out
                 subst eo86
                 have p551 : 0 ≤ (x23_3 : Int) := of_decide_eq_true (by first | (with_reducible assumption) | assumption)
                 have q551 : x23_3 < (t527.length : Int) := of_decide_eq_true (by first | (with_reducible assumption) | assumption)
                 obtain ⟨ad551, e551, hx551_0⟩ := Kd.at_int (Kd.R_reads' HO_13.out).2.2 x23_3 p551 q551
                 cases e551
                 replace p551 := eq_true p551
                 replace q551 := eq_true q551
                 have p552 : 0 ≤ (x23_3 : Int) := of_decide_eq_true (by first | (with_reducible assumption) | assumption)
                 have q552 : x23_3 < (t527.length : Int) := of_decide_eq_true (by first | (with_reducible assumption) | assumption)
                 obtain ⟨ad552, e552, hx552_0⟩ := Kd.at_int (Kd.R_reads' HO_13.out).2.2 x23_3 p552 q552
                 obtain rfl : ad551 = ad552 := (by injection e552)
                 replace p552 := eq_true p552
                 replace q552 := eq_true q552
                 try go_wp2
                 go_ret
                 exact ⟨by first | rfl | (simp [errW_none, errW_some] <;> rfl) | (simp [*, errW_none, errW_some] <;> rfl), by repeat (first | (with_reducible first | exact HB.out | apply below_alloc | apply pw_below_drewN | apply below_drew1 | refine below_set ?_ GE510.out) | exact HB.out)⟩
                ·
                 rw [if_neg c82] at H
                 have c82b0 : decide ((rd t527 x23_3) < 0) = false := decide_eq_false c82
                 clear c82
                 by_cases c87 : (rd t530 x23_3) < 0
                 ·
                  rw [if_pos c87] at H
                  have c87b0 : decide ((rd t530 x23_3) < 0) = true := decide_eq_true c87
                  clear c87
                  obtain rfl := Option.some.inj H
                  have p548 : 0 ≤ (x23_3 : Int) := of_decide_eq_true (by first | (with_reducible assumption) | assumption)
                  have q548 : x23_3 < (t521.length : Int) := of_decide_eq_true (by first | (with_reducible assumption) | assumption)
                  obtain ⟨ad548, e548, hx548_0⟩ := Kd.at_int (Kd.R_reads' HO_12.out).2.2 x23_3 p548 q548
                  cases e548
                  replace p548 := eq_true p548
                  replace q548 := eq_true q548
                  have hcz88_0 : wr.cell? ⟨gb510, 0, none⟩ = some (.bool true) := (blk_cell BK510.out 0).trans rfl
                  have hcz88_1 : wr.cell? ⟨gb510, 1, none⟩ = some (.bool t514) := (blk_cell BK510.out 1).trans rfl
                  have hcz88_2 : wr.cell? ⟨gb510, 2, none⟩ = some (.int .i64 t515) := (blk_cell BK510.out 2).trans rfl
                  have hcz88_3 : wr.cell? ⟨gb510, 3, none⟩ = some (.slice Ao28 t516.length co28) := (blk_cell BK510.out 3).trans rfl
                  have hfz88_0 := blk_frozen BK510.out 0
                  have hfz88_1 := blk_frozen BK510.out 1
                  have hfz88_2 := blk_frozen BK510.out 2
                  have hfz88_3 := blk_frozen BK510.out 3
                  try go_wp2
                  replace HO_12 := Aside0.mk (Kd.R_drew HO_12.out)
                  replace HO_13 := Aside0.mk (Kd.R_drew HO_13.out)
                  replace HO_14 := Aside0.mk (Kd.R_drew HO_14.out)
                  replace HO_19 := Aside0.mk (Kd.R_drew HO_19.out)
                  replace HO_511003 := Aside0.mk (Kd.S_drew HO_511003.out)
                  replace BK510 := Aside0.mk (blk_drew BK510.out)
                  replace HB := Aside0.mk (below_drew1 HB.out)
                  have p549 : 0 ≤ (x23_3 : Int) := of_decide_eq_true (by first | (with_reducible assumption) | assumption)
                  have q549 : x23_3 < (t521.length : Int) := of_decide_eq_true (by first | (with_reducible assumption) | assumption)
                  obtain ⟨ad549, e549, hx549_0⟩ := Kd.at_int (Kd.R_reads' HO_12.out).2.2 x23_3 p549 q549
                  obtain rfl : ad548 = ad549 := (by injection e549)
                  replace p549 := eq_true p549
                  replace q549 := eq_true q549
                  obtain ⟨Ao90, co90, eo90⟩ := Kd.R_slice HO_14.out
                  (first | subst eo90 | (injection eo90 with f1_ f2_ f3_; have f4_ := f1_.symm; have f5_ := f3_.symm; clear f1_ f2_ f3_; subst f4_; subst f5_))
                  have p550 : 0 ≤ (x23_3 : Int) := of_decide_eq_true (by first | (with_reducible assumption) | assumption)
                  have q550 : x23_3 < (t530.length : Int) := of_decide_eq_true (by first | (with_reducible assumption) | assumption)
                  obtain ⟨ad550, e550, hx550_0⟩ := Kd.at_int (Kd.R_reads' HO_14.out).2.2 x23_3 p550 q550
                  cases e550
                  replace p550 := eq_true p550
                  replace q550 := eq_true q550
                  refine start_ (n := 10) (S := fun w' => w'.cell? (ad548.add (x23_3).toNat) = some (.int .i64 (rd t521 x23_3)) ∧ w'.cell? (ad550.add (x23_3).toNat) = some (.int .i64 (rd t530 x23_3))) (ds := []) (mk 10 0) (by kernel_rfl) rfl rfl ⟨hx549_0, hx550_0⟩ (fun hHeld => ?_); refine with_tabW haberdashlaw19_LevySums.tab14 haberdashlaw19_LevySums.bits14 (fun HT_ HW_ => ?_)
                  generalize wr.drew = w89 at HO_12 HO_13 HO_14 HO_19 HO_511003 BK510 HB hx549_0 hx550_0 hHeld ⊢
                  refine ahead_ [(0, 129), (1, 130), (2, 131), (4, 133), (5, 134), (6, 135)] ?_
                  iterate 6 (refine pA_ (v := ?_) (a' := ?_) rfl rfl HT_.out (by kernel_rfl) (fun _ _ _ h => h) (Or.inl ⟨by rfl, ?_⟩) ?_ ?_; rotate_left; (intro w'; go_simp; with_reducible rfl); rotate_left; (simp only [Act.put, List.setIfInBounds_toArray, List.set_cons_zero, List.set_cons_succ, i64_w, i32_w]; rfl))
                  refine aheadE_ (mk 10 119) (by kernel_rfl) ?_
                  refine ahead_ [(3, 132), (7, 136)] ?_
                  iterate 2 (refine tA_ (v := ?_) (a' := ?_) rfl rfl HT_.out HW_.out (by kernel_rfl) (fun _ _ _ h => h) (Or.inl ⟨by rfl, ?_⟩) hHeld ?_ ?_; rotate_left; (rintro w' ⟨s0, s1⟩; go_simp; with_reducible rfl); rotate_left; (simp only [Act.put, List.setIfInBounds_toArray, List.set_cons_zero, List.set_cons_succ, i64_w, i32_w]; rfl))
                  refine aheadE_ (mk 10 255) (by kernel_rfl) ?_
                  refine ahead_ [(8, 137), (9, 24)] ?_
                  iterate 2 (refine pA_ (v := ?_) (a' := ?_) rfl rfl HT_.out (by kernel_rfl) (fun _ _ _ h => h) (Or.inl ⟨by rfl, ?_⟩) ?_ ?_; rotate_left; (intro w'; go_simp; with_reducible rfl); rotate_left; (simp only [Act.put, List.setIfInBounds_toArray, List.set_cons_zero, List.set_cons_succ, i64_w, i32_w]; rfl))
                  refine aheadE_ (mk 10 1023) (by kernel_rfl) ?_
                  refine done_ (done_of HT_.out (by kernel_rfl)) ?_
                  obtain ⟨Ao91, co91, eo91⟩ := Kd.R_slice HO_13.out
                  subst eo91
                  have p551 : 0 ≤ (x23_3 : Int) := of_decide_eq_true (by first | (with_reducible assumption) | assumption)
                  have q551 : x23_3 < (t527.length : Int) := of_decide_eq_true (by first | (with_reducible assumption) | assumption)
                  obtain ⟨ad551, e551, hx551_0⟩ := Kd.at_int (Kd.R_reads' HO_13.out).2.2 x23_3 p551 q551
                  cases e551
                  replace p551 := eq_true p551
                  replace q551 := eq_true q551
                  have p552 : 0 ≤ (x23_3 : Int) := of_decide_eq_true (by first | (with_reducible assumption) | assumption)
                  have q552 : x23_3 < (t527.length : Int) := of_decide_eq_true (by first | (with_reducible assumption) | assumption)
                  obtain ⟨ad552, e552, hx552_0⟩ := Kd.at_int (Kd.R_reads' HO_13.out).2.2 x23_3 p552 q552
                  obtain rfl : ad551 = ad552 := (by injection e552)
                  replace p552 := eq_true p552
                  replace q552 := eq_true q552
                  have p553 : 0 ≤ (x23_3 : Int) := of_decide_eq_true (by first | (with_reducible assumption) | assumption)
                  have q553 : x23_3 < (t530.length : Int) := of_decide_eq_true (by first | (with_reducible assumption) | assumption)
                  obtain ⟨ad553, e553, hx553_0⟩ := Kd.at_int (Kd.R_reads' HO_14.out).2.2 x23_3 p553 q553
                  obtain rfl : ad550 = ad553 := (by injection e553)
                  replace p553 := eq_true p553
                  replace q553 := eq_true q553
                  try go_wp2
                  go_ret
                  exact ⟨by first | rfl | (simp [errW_none, errW_some] <;> rfl) | (simp [*, errW_none, errW_some] <;> rfl), by repeat (first | (with_reducible first | exact HB.out | apply below_alloc | apply pw_below_drewN | apply below_drew1 | refine below_set ?_ GE510.out) | exact HB.out)⟩
                 ·
                  rw [if_neg c87] at H
                  have c87b0 : decide ((rd t530 x23_3) < 0) = false := decide_eq_false c87
                  clear c87
                  by_cases c92 : x23_3 < (t540.length : Int)
                  ·
                   rw [if_pos c92] at H
                   have c92b0 : decide (x23_3 < (t540.length : Int)) = true := decide_eq_true c92
                   clear c92
                   by_cases c93 : (rd t540 x23_3) = 0
                   ·
                    rw [if_pos c93] at H
                    have c93b0 : ((rd t540 x23_3) == 0) = true := beq_iff_eq.mpr c93
                    have c93b1 : ((rd t540 x23_3) != 0) = false := bne_eq_false_iff_eq.mpr c93
                    clear c93
                    have H' := Aside0.mk H
                    clear H
                    have p548 : 0 ≤ (x23_3 : Int) := of_decide_eq_true (by first | (with_reducible assumption) | assumption)
                    have q548 : x23_3 < (t521.length : Int) := of_decide_eq_true (by first | (with_reducible assumption) | assumption)
                    obtain ⟨ad548, e548, hx548_0⟩ := Kd.at_int (Kd.R_reads' HO_12.out).2.2 x23_3 p548 q548
                    cases e548
                    replace p548 := eq_true p548
                    replace q548 := eq_true q548
                    have hcz94_0 : wr.cell? ⟨gb510, 0, none⟩ = some (.bool true) := (blk_cell BK510.out 0).trans rfl
                    have hcz94_1 : wr.cell? ⟨gb510, 1, none⟩ = some (.bool t514) := (blk_cell BK510.out 1).trans rfl
                    have hcz94_2 : wr.cell? ⟨gb510, 2, none⟩ = some (.int .i64 t515) := (blk_cell BK510.out 2).trans rfl
                    have hcz94_3 : wr.cell? ⟨gb510, 3, none⟩ = some (.slice Ao28 t516.length co28) := (blk_cell BK510.out 3).trans rfl
                    have hfz94_0 := blk_frozen BK510.out 0
                    have hfz94_1 := blk_frozen BK510.out 1
                    have hfz94_2 := blk_frozen BK510.out 2
                    have hfz94_3 := blk_frozen BK510.out 3
                    try go_wp2
                    replace HO_12 := Aside0.mk (Kd.R_drew HO_12.out)
                    replace HO_13 := Aside0.mk (Kd.R_drew HO_13.out)
                    replace HO_14 := Aside0.mk (Kd.R_drew HO_14.out)
                    replace HO_19 := Aside0.mk (Kd.R_drew HO_19.out)
                    replace HO_511003 := Aside0.mk (Kd.S_drew HO_511003.out)
                    replace BK510 := Aside0.mk (blk_drew BK510.out)
                    replace HB := Aside0.mk (below_drew1 HB.out)
                    have p549 : 0 ≤ (x23_3 : Int) := of_decide_eq_true (by first | (with_reducible assumption) | assumption)
                    have q549 : x23_3 < (t521.length : Int) := of_decide_eq_true (by first | (with_reducible assumption) | assumption)
                    obtain ⟨ad549, e549, hx549_0⟩ := Kd.at_int (Kd.R_reads' HO_12.out).2.2 x23_3 p549 q549
                    obtain rfl : ad548 = ad549 := (by injection e549)
                    replace p549 := eq_true p549
                    replace q549 := eq_true q549
                    obtain ⟨Ao96, co96, eo96⟩ := Kd.R_slice HO_14.out
                    (first | subst eo96 | (injection eo96 with f1_ f2_ f3_; have f4_ := f1_.symm; have f5_ := f3_.symm; clear f1_ f2_ f3_; subst f4_; subst f5_))
                    have p550 : 0 ≤ (x23_3 : Int) := of_decide_eq_true (by first | (with_reducible assumption) | assumption)
                    have q550 : x23_3 < (t530.length : Int) := of_decide_eq_true (by first | (with_reducible assumption) | assumption)
                    obtain ⟨ad550, e550, hx550_0⟩ := Kd.at_int (Kd.R_reads' HO_14.out).2.2 x23_3 p550 q550
                    cases e550
                    replace p550 := eq_true p550
                    replace q550 := eq_true q550
                    refine start_ (n := 10) (S := fun w' => w'.cell? (ad548.add (x23_3).toNat) = some (.int .i64 (rd t521 x23_3)) ∧ w'.cell? (ad550.add (x23_3).toNat) = some (.int .i64 (rd t530 x23_3))) (ds := []) (mk 10 0) (by kernel_rfl) rfl rfl ⟨hx549_0, hx550_0⟩ (fun hHeld => ?_); refine with_tabW haberdashlaw19_LevySums.tab14 haberdashlaw19_LevySums.bits14 (fun HT_ HW_ => ?_)
                    generalize wr.drew = w95 at HO_12 HO_13 HO_14 HO_19 HO_511003 BK510 HB hx549_0 hx550_0 hHeld ⊢
                    refine ahead_ [(0, 129), (1, 130), (2, 131), (4, 133), (5, 134), (6, 135)] ?_
                    iterate 6 (refine pA_ (v := ?_) (a' := ?_) rfl rfl HT_.out (by kernel_rfl) (fun _ _ _ h => h) (Or.inl ⟨by rfl, ?_⟩) ?_ ?_; rotate_left; (intro w'; go_simp; with_reducible rfl); rotate_left; (simp only [Act.put, List.setIfInBounds_toArray, List.set_cons_zero, List.set_cons_succ, i64_w, i32_w]; rfl))
                    refine aheadE_ (mk 10 119) (by kernel_rfl) ?_
                    refine ahead_ [(3, 132), (7, 136)] ?_
                    iterate 2 (refine tA_ (v := ?_) (a' := ?_) rfl rfl HT_.out HW_.out (by kernel_rfl) (fun _ _ _ h => h) (Or.inl ⟨by rfl, ?_⟩) hHeld ?_ ?_; rotate_left; (rintro w' ⟨s0, s1⟩; go_simp; with_reducible rfl); rotate_left; (simp only [Act.put, List.setIfInBounds_toArray, List.set_cons_zero, List.set_cons_succ, i64_w, i32_w]; rfl))
                    refine aheadE_ (mk 10 255) (by kernel_rfl) ?_
                    refine ahead_ [(8, 137), (9, 24)] ?_
                    iterate 2 (refine pA_ (v := ?_) (a' := ?_) rfl rfl HT_.out (by kernel_rfl) (fun _ _ _ h => h) (Or.inl ⟨by rfl, ?_⟩) ?_ ?_; rotate_left; (intro w'; go_simp; with_reducible rfl); rotate_left; (simp only [Act.put, List.setIfInBounds_toArray, List.set_cons_zero, List.set_cons_succ, i64_w, i32_w]; rfl))
                    refine aheadE_ (mk 10 1023) (by kernel_rfl) ?_
                    refine done_ (done_of HT_.out (by kernel_rfl)) ?_
                    obtain ⟨Ao97, co97, eo97⟩ := Kd.R_slice HO_13.out
                    subst eo97
                    have p551 : 0 ≤ (x23_3 : Int) := of_decide_eq_true (by first | (with_reducible assumption) | assumption)
                    have q551 : x23_3 < (t527.length : Int) := of_decide_eq_true (by first | (with_reducible assumption) | assumption)
                    obtain ⟨ad551, e551, hx551_0⟩ := Kd.at_int (Kd.R_reads' HO_13.out).2.2 x23_3 p551 q551
                    cases e551
                    replace p551 := eq_true p551
                    replace q551 := eq_true q551
                    have p552 : 0 ≤ (x23_3 : Int) := of_decide_eq_true (by first | (with_reducible assumption) | assumption)
                    have q552 : x23_3 < (t527.length : Int) := of_decide_eq_true (by first | (with_reducible assumption) | assumption)
                    obtain ⟨ad552, e552, hx552_0⟩ := Kd.at_int (Kd.R_reads' HO_13.out).2.2 x23_3 p552 q552
                    obtain rfl : ad551 = ad552 := (by injection e552)
                    replace p552 := eq_true p552
                    replace q552 := eq_true q552
                    have p553 : 0 ≤ (x23_3 : Int) := of_decide_eq_true (by first | (with_reducible assumption) | assumption)
                    have q553 : x23_3 < (t530.length : Int) := of_decide_eq_true (by first | (with_reducible assumption) | assumption)
                    obtain ⟨ad553, e553, hx553_0⟩ := Kd.at_int (Kd.R_reads' HO_14.out).2.2 x23_3 p553 q553
                    obtain rfl : ad550 = ad553 := (by injection e553)
                    replace p553 := eq_true p553
                    replace q553 := eq_true q553
                    obtain ⟨Ao98, co98, eo98⟩ := Kd.R_slice HO_19.out
                    subst eo98
                    have p554 : 0 ≤ (x23_3 : Int) := of_decide_eq_true (by first | (with_reducible assumption) | assumption)
                    have q554 : x23_3 < (t540.length : Int) := of_decide_eq_true (by first | (with_reducible assumption) | assumption)
                    obtain ⟨ad554, e554, hx554_0⟩ := Kd.at_int (Kd.R_reads' HO_19.out).2.2 x23_3 p554 q554
                    cases e554
                    replace p554 := eq_true p554
                    replace q554 := eq_true q554
                    try go_wp2
                    go_roundg k3
                    case measure => have := HJ5.out; have := HJ23.out; have := HK3.out; omega
                    case rel => exact ⟨(wrap64 (x23_3 + 1)), (by first | rfl | (simp; done) | (simp [*]; done)), H', ⟨by have := HJ5.out; have := HJ23.out; have := HK3.out; omega⟩, ⟨by (with_reducible repeat (first | apply Kd.R_alloc | apply Kd.R_drewN | apply Kd.R_drew)); exact HO_12.out⟩, ⟨by (with_reducible repeat (first | apply Kd.R_alloc | apply Kd.R_drewN | apply Kd.R_drew)); exact HO_13.out⟩, ⟨by (with_reducible repeat (first | apply Kd.R_alloc | apply Kd.R_drewN | apply Kd.R_drew)); exact HO_14.out⟩, ⟨by (with_reducible repeat (first | apply Kd.R_alloc | apply Kd.R_drewN | apply Kd.R_drew)); exact HO_19.out⟩, ⟨by (with_reducible repeat (first | apply Kd.S_alloc | apply Kd.S_drewN | apply Kd.S_drew)); exact HO_511003.out⟩, ⟨by (with_reducible repeat (first | refine blk_drewN ?_ _ | refine blk_drew ?_ | refine blk_alloc ?_ _)); exact BK510.out⟩, ⟨by repeat (first | (with_reducible first | exact HB.out | apply below_alloc | apply pw_below_drewN | apply below_drew1 | refine below_set ?_ GE510.out) | exact HB.out)⟩⟩
                   ·
                    rw [if_neg c93] at H
                    have c93b0 : ((rd t540 x23_3) == 0) = false := beq_eq_false_iff_ne.mpr c93
                    have c93b1 : ((rd t540 x23_3) != 0) = true := bne_iff_ne.mpr c93
                    obtain rfl := Option.some.inj H
                    have p548 : 0 ≤ (x23_3 : Int) := of_decide_eq_true (by first | (with_reducible assumption) | assumption)
                    have q548 : x23_3 < (t521.length : Int) := of_decide_eq_true (by first | (with_reducible assumption) | assumption)
                    obtain ⟨ad548, e548, hx548_0⟩ := Kd.at_int (Kd.R_reads' HO_12.out).2.2 x23_3 p548 q548
                    cases e548
                    replace p548 := eq_true p548
                    replace q548 := eq_true q548
                    have hcz99_0 : wr.cell? ⟨gb510, 0, none⟩ = some (.bool true) := (blk_cell BK510.out 0).trans rfl
                    have hcz99_1 : wr.cell? ⟨gb510, 1, none⟩ = some (.bool t514) := (blk_cell BK510.out 1).trans rfl
                    have hcz99_2 : wr.cell? ⟨gb510, 2, none⟩ = some (.int .i64 t515) := (blk_cell BK510.out 2).trans rfl
                    have hcz99_3 : wr.cell? ⟨gb510, 3, none⟩ = some (.slice Ao28 t516.length co28) := (blk_cell BK510.out 3).trans rfl
                    have hfz99_0 := blk_frozen BK510.out 0
                    have hfz99_1 := blk_frozen BK510.out 1
                    have hfz99_2 := blk_frozen BK510.out 2
                    have hfz99_3 := blk_frozen BK510.out 3
                    try go_wp2
                    replace HO_12 := Aside0.mk (Kd.R_drew HO_12.out)
                    replace HO_13 := Aside0.mk (Kd.R_drew HO_13.out)
                    replace HO_14 := Aside0.mk (Kd.R_drew HO_14.out)
                    replace HO_19 := Aside0.mk (Kd.R_drew HO_19.out)
                    replace HO_511003 := Aside0.mk (Kd.S_drew HO_511003.out)
                    replace BK510 := Aside0.mk (blk_drew BK510.out)
                    replace HB := Aside0.mk (below_drew1 HB.out)
                    have p549 : 0 ≤ (x23_3 : Int) := of_decide_eq_true (by first | (with_reducible assumption) | assumption)
                    have q549 : x23_3 < (t521.length : Int) := of_decide_eq_true (by first | (with_reducible assumption) | assumption)
                    obtain ⟨ad549, e549, hx549_0⟩ := Kd.at_int (Kd.R_reads' HO_12.out).2.2 x23_3 p549 q549
                    obtain rfl : ad548 = ad549 := (by injection e549)
                    replace p549 := eq_true p549
                    replace q549 := eq_true q549
                    obtain ⟨Ao101, co101, eo101⟩ := Kd.R_slice HO_14.out
                    (first | subst eo101 | (injection eo101 with f1_ f2_ f3_; have f4_ := f1_.symm; have f5_ := f3_.symm; clear f1_ f2_ f3_; subst f4_; subst f5_))
                    have p550 : 0 ≤ (x23_3 : Int) := of_decide_eq_true (by first | (with_reducible assumption) | assumption)
                    have q550 : x23_3 < (t530.length : Int) := of_decide_eq_true (by first | (with_reducible assumption) | assumption)
                    obtain ⟨ad550, e550, hx550_0⟩ := Kd.at_int (Kd.R_reads' HO_14.out).2.2 x23_3 p550 q550
                    cases e550
                    replace p550 := eq_true p550
                    replace q550 := eq_true q550
                    refine start_ (n := 10) (S := fun w' => w'.cell? (ad548.add (x23_3).toNat) = some (.int .i64 (rd t521 x23_3)) ∧ w'.cell? (ad550.add (x23_3).toNat) = some (.int .i64 (rd t530 x23_3))) (ds := []) (mk 10 0) (by kernel_rfl) rfl rfl ⟨hx549_0, hx550_0⟩ (fun hHeld => ?_); refine with_tabW haberdashlaw19_LevySums.tab14 haberdashlaw19_LevySums.bits14 (fun HT_ HW_ => ?_)
                    generalize wr.drew = w100 at HO_12 HO_13 HO_14 HO_19 HO_511003 BK510 HB hx549_0 hx550_0 hHeld ⊢
                    refine ahead_ [(0, 129), (1, 130), (2, 131), (4, 133), (5, 134), (6, 135)] ?_
                    iterate 6 (refine pA_ (v := ?_) (a' := ?_) rfl rfl HT_.out (by kernel_rfl) (fun _ _ _ h => h) (Or.inl ⟨by rfl, ?_⟩) ?_ ?_; rotate_left; (intro w'; go_simp; with_reducible rfl); rotate_left; (simp only [Act.put, List.setIfInBounds_toArray, List.set_cons_zero, List.set_cons_succ, i64_w, i32_w]; rfl))
                    refine aheadE_ (mk 10 119) (by kernel_rfl) ?_
                    refine ahead_ [(3, 132), (7, 136)] ?_
                    iterate 2 (refine tA_ (v := ?_) (a' := ?_) rfl rfl HT_.out HW_.out (by kernel_rfl) (fun _ _ _ h => h) (Or.inl ⟨by rfl, ?_⟩) hHeld ?_ ?_; rotate_left; (rintro w' ⟨s0, s1⟩; go_simp; with_reducible rfl); rotate_left; (simp only [Act.put, List.setIfInBounds_toArray, List.set_cons_zero, List.set_cons_succ, i64_w, i32_w]; rfl))
                    refine aheadE_ (mk 10 255) (by kernel_rfl) ?_
                    refine ahead_ [(8, 137), (9, 24)] ?_
                    iterate 2 (refine pA_ (v := ?_) (a' := ?_) rfl rfl HT_.out (by kernel_rfl) (fun _ _ _ h => h) (Or.inl ⟨by rfl, ?_⟩) ?_ ?_; rotate_left; (intro w'; go_simp; with_reducible rfl); rotate_left; (simp only [Act.put, List.setIfInBounds_toArray, List.set_cons_zero, List.set_cons_succ, i64_w, i32_w]; rfl))
                    refine aheadE_ (mk 10 1023) (by kernel_rfl) ?_
                    refine done_ (done_of HT_.out (by kernel_rfl)) ?_
                    obtain ⟨Ao102, co102, eo102⟩ := Kd.R_slice HO_13.out
                    subst eo102
                    have p551 : 0 ≤ (x23_3 : Int) := of_decide_eq_true (by first | (with_reducible assumption) | assumption)
                    have q551 : x23_3 < (t527.length : Int) := of_decide_eq_true (by first | (with_reducible assumption) | assumption)
                    obtain ⟨ad551, e551, hx551_0⟩ := Kd.at_int (Kd.R_reads' HO_13.out).2.2 x23_3 p551 q551
                    cases e551
                    replace p551 := eq_true p551
                    replace q551 := eq_true q551
                    have p552 : 0 ≤ (x23_3 : Int) := of_decide_eq_true (by first | (with_reducible assumption) | assumption)
                    have q552 : x23_3 < (t527.length : Int) := of_decide_eq_true (by first | (with_reducible assumption) | assumption)
                    obtain ⟨ad552, e552, hx552_0⟩ := Kd.at_int (Kd.R_reads' HO_13.out).2.2 x23_3 p552 q552
                    obtain rfl : ad551 = ad552 := (by injection e552)
                    replace p552 := eq_true p552
                    replace q552 := eq_true q552
                    have p553 : 0 ≤ (x23_3 : Int) := of_decide_eq_true (by first | (with_reducible assumption) | assumption)
                    have q553 : x23_3 < (t530.length : Int) := of_decide_eq_true (by first | (with_reducible assumption) | assumption)
                    obtain ⟨ad553, e553, hx553_0⟩ := Kd.at_int (Kd.R_reads' HO_14.out).2.2 x23_3 p553 q553
                    obtain rfl : ad550 = ad553 := (by injection e553)
                    replace p553 := eq_true p553
                    replace q553 := eq_true q553
                    obtain ⟨Ao103, co103, eo103⟩ := Kd.R_slice HO_19.out
                    subst eo103
                    have p554 : 0 ≤ (x23_3 : Int) := of_decide_eq_true (by first | (with_reducible assumption) | assumption)
                    have q554 : x23_3 < (t540.length : Int) := of_decide_eq_true (by first | (with_reducible assumption) | assumption)
                    obtain ⟨ad554, e554, hx554_0⟩ := Kd.at_int (Kd.R_reads' HO_19.out).2.2 x23_3 p554 q554
                    cases e554
                    replace p554 := eq_true p554
                    replace q554 := eq_true q554
                    try go_wp2
                    go_ret
                    exact ⟨by first | rfl | (simp [errW_none, errW_some] <;> rfl) | (simp [*, errW_none, errW_some] <;> rfl), by repeat (first | (with_reducible first | exact HB.out | apply below_alloc | apply pw_below_drewN | apply below_drew1 | refine below_set ?_ GE510.out) | exact HB.out)⟩
                  ·
                   rw [if_neg c92] at H
                   exact absurd H (by simp)
               ·
                rw [if_neg c81] at H
                have c81b0 : ((rd t527 x23_3) == (wrap64 ((rd t521 x23_3) - (rd t530 x23_3)))) = false := beq_eq_false_iff_ne.mpr c81
                have c81b1 : ((rd t527 x23_3) != (wrap64 ((rd t521 x23_3) - (rd t530 x23_3)))) = true := bne_iff_ne.mpr c81
                obtain rfl := Option.some.inj H
                have p548 : 0 ≤ (x23_3 : Int) := of_decide_eq_true (by first | (with_reducible assumption) | assumption)
                have q548 : x23_3 < (t521.length : Int) := of_decide_eq_true (by first | (with_reducible assumption) | assumption)
                obtain ⟨ad548, e548, hx548_0⟩ := Kd.at_int (Kd.R_reads' HO_12.out).2.2 x23_3 p548 q548
                cases e548
                replace p548 := eq_true p548
                replace q548 := eq_true q548
                have hcz104_0 : wr.cell? ⟨gb510, 0, none⟩ = some (.bool true) := (blk_cell BK510.out 0).trans rfl
                have hcz104_1 : wr.cell? ⟨gb510, 1, none⟩ = some (.bool t514) := (blk_cell BK510.out 1).trans rfl
                have hcz104_2 : wr.cell? ⟨gb510, 2, none⟩ = some (.int .i64 t515) := (blk_cell BK510.out 2).trans rfl
                have hcz104_3 : wr.cell? ⟨gb510, 3, none⟩ = some (.slice Ao28 t516.length co28) := (blk_cell BK510.out 3).trans rfl
                have hfz104_0 := blk_frozen BK510.out 0
                have hfz104_1 := blk_frozen BK510.out 1
                have hfz104_2 := blk_frozen BK510.out 2
                have hfz104_3 := blk_frozen BK510.out 3
                try go_wp2
                replace HO_12 := Aside0.mk (Kd.R_drew HO_12.out)
                replace HO_13 := Aside0.mk (Kd.R_drew HO_13.out)
                replace HO_14 := Aside0.mk (Kd.R_drew HO_14.out)
                replace HO_19 := Aside0.mk (Kd.R_drew HO_19.out)
                replace HO_511003 := Aside0.mk (Kd.S_drew HO_511003.out)
                replace BK510 := Aside0.mk (blk_drew BK510.out)
                replace HB := Aside0.mk (below_drew1 HB.out)
                have p549 : 0 ≤ (x23_3 : Int) := of_decide_eq_true (by first | (with_reducible assumption) | assumption)
                have q549 : x23_3 < (t521.length : Int) := of_decide_eq_true (by first | (with_reducible assumption) | assumption)
                obtain ⟨ad549, e549, hx549_0⟩ := Kd.at_int (Kd.R_reads' HO_12.out).2.2 x23_3 p549 q549
                obtain rfl : ad548 = ad549 := (by injection e549)
                replace p549 := eq_true p549
                replace q549 := eq_true q549
                obtain ⟨Ao106, co106, eo106⟩ := Kd.R_slice HO_14.out
                (first | subst eo106 | (injection eo106 with f1_ f2_ f3_; have f4_ := f1_.symm; have f5_ := f3_.symm; clear f1_ f2_ f3_; subst f4_; subst f5_))
                have p550 : 0 ≤ (x23_3 : Int) := of_decide_eq_true (by first | (with_reducible assumption) | assumption)
                have q550 : x23_3 < (t530.length : Int) := of_decide_eq_true (by first | (with_reducible assumption) | assumption)
                obtain ⟨ad550, e550, hx550_0⟩ := Kd.at_int (Kd.R_reads' HO_14.out).2.2 x23_3 p550 q550
                cases e550
                replace p550 := eq_true p550
                replace q550 := eq_true q550
                refine start_ (n := 10) (S := fun w' => w'.cell? (ad548.add (x23_3).toNat) = some (.int .i64 (rd t521 x23_3)) ∧ w'.cell? (ad550.add (x23_3).toNat) = some (.int .i64 (rd t530 x23_3))) (ds := []) (mk 10 0) (by kernel_rfl) rfl rfl ⟨hx549_0, hx550_0⟩ (fun hHeld => ?_); refine with_tabW haberdashlaw19_LevySums.tab14 haberdashlaw19_LevySums.bits14 (fun HT_ HW_ => ?_)
                generalize wr.drew = w105 at HO_12 HO_13 HO_14 HO_19 HO_511003 BK510 HB hx549_0 hx550_0 hHeld ⊢
                refine ahead_ [(0, 129), (1, 130), (2, 131), (4, 133), (5, 134), (6, 135)] ?_
                iterate 6 (refine pA_ (v := ?_) (a' := ?_) rfl rfl HT_.out (by kernel_rfl) (fun _ _ _ h => h) (Or.inl ⟨by rfl, ?_⟩) ?_ ?_; rotate_left; (intro w'; go_simp; with_reducible rfl); rotate_left; (simp only [Act.put, List.setIfInBounds_toArray, List.set_cons_zero, List.set_cons_succ, i64_w, i32_w]; rfl))
                refine aheadE_ (mk 10 119) (by kernel_rfl) ?_
                refine ahead_ [(3, 132), (7, 136)] ?_
                iterate 2 (refine tA_ (v := ?_) (a' := ?_) rfl rfl HT_.out HW_.out (by kernel_rfl) (fun _ _ _ h => h) (Or.inl ⟨by rfl, ?_⟩) hHeld ?_ ?_; rotate_left; (rintro w' ⟨s0, s1⟩; go_simp; with_reducible rfl); rotate_left; (simp only [Act.put, List.setIfInBounds_toArray, List.set_cons_zero, List.set_cons_succ, i64_w, i32_w]; rfl))
                refine aheadE_ (mk 10 255) (by kernel_rfl) ?_
                refine ahead_ [(8, 137), (9, 24)] ?_
                iterate 2 (refine pA_ (v := ?_) (a' := ?_) rfl rfl HT_.out (by kernel_rfl) (fun _ _ _ h => h) (Or.inl ⟨by rfl, ?_⟩) ?_ ?_; rotate_left; (intro w'; go_simp; with_reducible rfl); rotate_left; (simp only [Act.put, List.setIfInBounds_toArray, List.set_cons_zero, List.set_cons_succ, i64_w, i32_w]; rfl))
                refine aheadE_ (mk 10 1023) (by kernel_rfl) ?_
                refine done_ (done_of HT_.out (by kernel_rfl)) ?_
                obtain ⟨Ao107, co107, eo107⟩ := Kd.R_slice HO_13.out
                subst eo107
                have p551 : 0 ≤ (x23_3 : Int) := of_decide_eq_true (by first | (with_reducible assumption) | assumption)
                have q551 : x23_3 < (t527.length : Int) := of_decide_eq_true (by first | (with_reducible assumption) | assumption)
                obtain ⟨ad551, e551, hx551_0⟩ := Kd.at_int (Kd.R_reads' HO_13.out).2.2 x23_3 p551 q551
                cases e551
                replace p551 := eq_true p551
                replace q551 := eq_true q551
                try go_wp2
                go_ret
                exact ⟨by first | rfl | (simp [errW_none, errW_some] <;> rfl) | (simp [*, errW_none, errW_some] <;> rfl), by repeat (first | (with_reducible first | exact HB.out | apply below_alloc | apply pw_below_drewN | apply below_drew1 | refine below_set ?_ GE510.out) | exact HB.out)⟩
              ·
               rw [if_neg c80] at H
               exact absurd H (by simp)
             ·
              rw [if_neg c79] at H
              exact absurd H (by simp)
            ·
             replace c78 := Bool.eq_false_iff.mpr c78
             subst c78
             have H1 : (if x23_3 < (t527.length : Int) then (if (rd t527 x23_3) = (rd t521 x23_3) then (if (rd t527 x23_3) < 0 then (some false) else (if x23_3 < (t530.length : Int) then (if (rd t530 x23_3) < 0 then (some false) else (if x23_3 < (t540.length : Int) then (if (rd t540 x23_3) = 0 then (haberdashlaw19_LevySums.l0 k3 t519 t521 t527 t530 t533 t534 t540 (wrap64 (x23_3 + 1)) false t514 t515 t516) else (some false)) else (none))) else (none))) else (some false)) else (none)) = some r := by rw [if_neg (show ¬ (false = true) by decide)] at H; exact H
             clear H
             have H := H1
             clear H1
             by_cases c108 : x23_3 < (t527.length : Int)
             ·
              rw [if_pos c108] at H
              have c108b0 : decide (x23_3 < (t527.length : Int)) = true := decide_eq_true c108
              clear c108
              by_cases c109 : (rd t527 x23_3) = (rd t521 x23_3)
              ·
               rw [if_pos c109] at H
               have c109b0 : ((rd t527 x23_3) == (rd t521 x23_3)) = true := beq_iff_eq.mpr c109
               have c109b1 : ((rd t527 x23_3) != (rd t521 x23_3)) = false := bne_eq_false_iff_eq.mpr c109
               clear c109
               by_cases c110 : (rd t527 x23_3) < 0
               ·
                rw [if_pos c110] at H
                have c110b0 : decide ((rd t527 x23_3) < 0) = true := decide_eq_true c110
                clear c110
                obtain rfl := Option.some.inj H
                have p548 : 0 ≤ (x23_3 : Int) := of_decide_eq_true (by first | (with_reducible assumption) | assumption)
                have q548 : x23_3 < (t521.length : Int) := of_decide_eq_true (by first | (with_reducible assumption) | assumption)
                obtain ⟨ad548, e548, hx548_0⟩ := Kd.at_int (Kd.R_reads' HO_12.out).2.2 x23_3 p548 q548
                cases e548
                replace p548 := eq_true p548
                replace q548 := eq_true q548
                have hcz111_0 : wr.cell? ⟨gb510, 0, none⟩ = some (.bool false) := (blk_cell BK510.out 0).trans rfl
                have hcz111_1 : wr.cell? ⟨gb510, 1, none⟩ = some (.bool t514) := (blk_cell BK510.out 1).trans rfl
                have hcz111_2 : wr.cell? ⟨gb510, 2, none⟩ = some (.int .i64 t515) := (blk_cell BK510.out 2).trans rfl
                have hcz111_3 : wr.cell? ⟨gb510, 3, none⟩ = some (.slice Ao28 t516.length co28) := (blk_cell BK510.out 3).trans rfl
                have hfz111_0 := blk_frozen BK510.out 0
                have hfz111_1 := blk_frozen BK510.out 1
                have hfz111_2 := blk_frozen BK510.out 2
                have hfz111_3 := blk_frozen BK510.out 3
                obtain ⟨Ao112, co112, eo112⟩ := Kd.R_slice HO_13.out
                subst eo112
                have p555 : 0 ≤ (x23_3 : Int) := of_decide_eq_true (by first | (with_reducible assumption) | assumption)
                have q555 : x23_3 < (t527.length : Int) := of_decide_eq_true (by first | (with_reducible assumption) | assumption)
                obtain ⟨ad555, e555, hx555_0⟩ := Kd.at_int (Kd.R_reads' HO_13.out).2.2 x23_3 p555 q555
                cases e555
                replace p555 := eq_true p555
                replace q555 := eq_true q555
                have p556 : 0 ≤ (x23_3 : Int) := of_decide_eq_true (by first | (with_reducible assumption) | assumption)
                have q556 : x23_3 < (t527.length : Int) := of_decide_eq_true (by first | (with_reducible assumption) | assumption)
                obtain ⟨ad556, e556, hx556_0⟩ := Kd.at_int (Kd.R_reads' HO_13.out).2.2 x23_3 p556 q556
                obtain rfl : ad555 = ad556 := (by injection e556)
                replace p556 := eq_true p556
                replace q556 := eq_true q556
                go_wp2
                go_ret
                exact ⟨by first | rfl | (simp [errW_none, errW_some] <;> rfl) | (simp [*, errW_none, errW_some] <;> rfl), by repeat (first | (with_reducible first | exact HB.out | apply below_alloc | apply pw_below_drewN | apply below_drew1 | refine below_set ?_ GE510.out) | exact HB.out)⟩
               ·
                rw [if_neg c110] at H
                have c110b0 : decide ((rd t527 x23_3) < 0) = false := decide_eq_false c110
                clear c110
                by_cases c113 : x23_3 < (t530.length : Int)
                ·
                 rw [if_pos c113] at H
                 have c113b0 : decide (x23_3 < (t530.length : Int)) = true := decide_eq_true c113
                 clear c113
                 by_cases c114 : (rd t530 x23_3) < 0
                 ·
                  rw [if_pos c114] at H
                  have c114b0 : decide ((rd t530 x23_3) < 0) = true := decide_eq_true c114
                  clear c114
                  obtain rfl := Option.some.inj H
                  have p548 : 0 ≤ (x23_3 : Int) := of_decide_eq_true (by first | (with_reducible assumption) | assumption)
                  have q548 : x23_3 < (t521.length : Int) := of_decide_eq_true (by first | (with_reducible assumption) | assumption)
                  obtain ⟨ad548, e548, hx548_0⟩ := Kd.at_int (Kd.R_reads' HO_12.out).2.2 x23_3 p548 q548
                  cases e548
                  replace p548 := eq_true p548
                  replace q548 := eq_true q548
                  have hcz115_0 : wr.cell? ⟨gb510, 0, none⟩ = some (.bool false) := (blk_cell BK510.out 0).trans rfl
                  have hcz115_1 : wr.cell? ⟨gb510, 1, none⟩ = some (.bool t514) := (blk_cell BK510.out 1).trans rfl
                  have hcz115_2 : wr.cell? ⟨gb510, 2, none⟩ = some (.int .i64 t515) := (blk_cell BK510.out 2).trans rfl
                  have hcz115_3 : wr.cell? ⟨gb510, 3, none⟩ = some (.slice Ao28 t516.length co28) := (blk_cell BK510.out 3).trans rfl
                  have hfz115_0 := blk_frozen BK510.out 0
                  have hfz115_1 := blk_frozen BK510.out 1
                  have hfz115_2 := blk_frozen BK510.out 2
                  have hfz115_3 := blk_frozen BK510.out 3
                  obtain ⟨Ao116, co116, eo116⟩ := Kd.R_slice HO_13.out
                  subst eo116
                  have p555 : 0 ≤ (x23_3 : Int) := of_decide_eq_true (by first | (with_reducible assumption) | assumption)
                  have q555 : x23_3 < (t527.length : Int) := of_decide_eq_true (by first | (with_reducible assumption) | assumption)
                  obtain ⟨ad555, e555, hx555_0⟩ := Kd.at_int (Kd.R_reads' HO_13.out).2.2 x23_3 p555 q555
                  cases e555
                  replace p555 := eq_true p555
                  replace q555 := eq_true q555
                  have p556 : 0 ≤ (x23_3 : Int) := of_decide_eq_true (by first | (with_reducible assumption) | assumption)
                  have q556 : x23_3 < (t527.length : Int) := of_decide_eq_true (by first | (with_reducible assumption) | assumption)
                  obtain ⟨ad556, e556, hx556_0⟩ := Kd.at_int (Kd.R_reads' HO_13.out).2.2 x23_3 p556 q556
                  obtain rfl : ad555 = ad556 := (by injection e556)
                  replace p556 := eq_true p556
                  replace q556 := eq_true q556
                  obtain ⟨Ao117, co117, eo117⟩ := Kd.R_slice HO_14.out
                  subst eo117
                  have p557 : 0 ≤ (x23_3 : Int) := of_decide_eq_true (by first | (with_reducible assumption) | assumption)
                  have q557 : x23_3 < (t530.length : Int) := of_decide_eq_true (by first | (with_reducible assumption) | assumption)
                  obtain ⟨ad557, e557, hx557_0⟩ := Kd.at_int (Kd.R_reads' HO_14.out).2.2 x23_3 p557 q557
                  cases e557
                  replace p557 := eq_true p557
                  replace q557 := eq_true q557
                  go_wp2
                  go_ret
                  exact ⟨by first | rfl | (simp [errW_none, errW_some] <;> rfl) | (simp [*, errW_none, errW_some] <;> rfl), by repeat (first | (with_reducible first | exact HB.out | apply below_alloc | apply pw_below_drewN | apply below_drew1 | refine below_set ?_ GE510.out) | exact HB.out)⟩
                 ·
                  rw [if_neg c114] at H
                  have c114b0 : decide ((rd t530 x23_3) < 0) = false := decide_eq_false c114
                  clear c114
                  by_cases c118 : x23_3 < (t540.length : Int)
                  ·
                   rw [if_pos c118] at H
                   have c118b0 : decide (x23_3 < (t540.length : Int)) = true := decide_eq_true c118
                   clear c118
                   by_cases c119 : (rd t540 x23_3) = 0
                   ·
                    rw [if_pos c119] at H
                    have c119b0 : ((rd t540 x23_3) == 0) = true := beq_iff_eq.mpr c119
                    have c119b1 : ((rd t540 x23_3) != 0) = false := bne_eq_false_iff_eq.mpr c119
                    clear c119
                    have H' := Aside0.mk H
                    clear H
                    have p548 : 0 ≤ (x23_3 : Int) := of_decide_eq_true (by first | (with_reducible assumption) | assumption)
                    have q548 : x23_3 < (t521.length : Int) := of_decide_eq_true (by first | (with_reducible assumption) | assumption)
                    obtain ⟨ad548, e548, hx548_0⟩ := Kd.at_int (Kd.R_reads' HO_12.out).2.2 x23_3 p548 q548
                    cases e548
                    replace p548 := eq_true p548
                    replace q548 := eq_true q548
                    have hcz120_0 : wr.cell? ⟨gb510, 0, none⟩ = some (.bool false) := (blk_cell BK510.out 0).trans rfl
                    have hcz120_1 : wr.cell? ⟨gb510, 1, none⟩ = some (.bool t514) := (blk_cell BK510.out 1).trans rfl
                    have hcz120_2 : wr.cell? ⟨gb510, 2, none⟩ = some (.int .i64 t515) := (blk_cell BK510.out 2).trans rfl
                    have hcz120_3 : wr.cell? ⟨gb510, 3, none⟩ = some (.slice Ao28 t516.length co28) := (blk_cell BK510.out 3).trans rfl
                    have hfz120_0 := blk_frozen BK510.out 0
                    have hfz120_1 := blk_frozen BK510.out 1
                    have hfz120_2 := blk_frozen BK510.out 2
                    have hfz120_3 := blk_frozen BK510.out 3
                    obtain ⟨Ao121, co121, eo121⟩ := Kd.R_slice HO_13.out
                    subst eo121
                    have p555 : 0 ≤ (x23_3 : Int) := of_decide_eq_true (by first | (with_reducible assumption) | assumption)
                    have q555 : x23_3 < (t527.length : Int) := of_decide_eq_true (by first | (with_reducible assumption) | assumption)
                    obtain ⟨ad555, e555, hx555_0⟩ := Kd.at_int (Kd.R_reads' HO_13.out).2.2 x23_3 p555 q555
                    cases e555
                    replace p555 := eq_true p555
                    replace q555 := eq_true q555
                    have p556 : 0 ≤ (x23_3 : Int) := of_decide_eq_true (by first | (with_reducible assumption) | assumption)
                    have q556 : x23_3 < (t527.length : Int) := of_decide_eq_true (by first | (with_reducible assumption) | assumption)
                    obtain ⟨ad556, e556, hx556_0⟩ := Kd.at_int (Kd.R_reads' HO_13.out).2.2 x23_3 p556 q556
                    obtain rfl : ad555 = ad556 := (by injection e556)
                    replace p556 := eq_true p556
                    replace q556 := eq_true q556
                    obtain ⟨Ao122, co122, eo122⟩ := Kd.R_slice HO_14.out
                    subst eo122
                    have p557 : 0 ≤ (x23_3 : Int) := of_decide_eq_true (by first | (with_reducible assumption) | assumption)
                    have q557 : x23_3 < (t530.length : Int) := of_decide_eq_true (by first | (with_reducible assumption) | assumption)
                    obtain ⟨ad557, e557, hx557_0⟩ := Kd.at_int (Kd.R_reads' HO_14.out).2.2 x23_3 p557 q557
                    cases e557
                    replace p557 := eq_true p557
                    replace q557 := eq_true q557
                    obtain ⟨Ao123, co123, eo123⟩ := Kd.R_slice HO_19.out
                    subst eo123
                    have p558 : 0 ≤ (x23_3 : Int) := of_decide_eq_true (by first | (with_reducible assumption) | assumption)
                    have q558 : x23_3 < (t540.length : Int) := of_decide_eq_true (by first | (with_reducible assumption) | assumption)
                    obtain ⟨ad558, e558, hx558_0⟩ := Kd.at_int (Kd.R_reads' HO_19.out).2.2 x23_3 p558 q558
                    cases e558
                    replace p558 := eq_true p558
                    replace q558 := eq_true q558
                    go_wp2
                    go_roundg k3
                    case measure => have := HJ5.out; have := HJ23.out; have := HK3.out; omega
                    case rel => exact ⟨(wrap64 (x23_3 + 1)), (by first | rfl | (simp; done) | (simp [*]; done)), H', ⟨by have := HJ5.out; have := HJ23.out; have := HK3.out; omega⟩, ⟨by (with_reducible repeat (first | apply Kd.R_alloc | apply Kd.R_drewN | apply Kd.R_drew)); exact HO_12.out⟩, ⟨by (with_reducible repeat (first | apply Kd.R_alloc | apply Kd.R_drewN | apply Kd.R_drew)); exact HO_13.out⟩, ⟨by (with_reducible repeat (first | apply Kd.R_alloc | apply Kd.R_drewN | apply Kd.R_drew)); exact HO_14.out⟩, ⟨by (with_reducible repeat (first | apply Kd.R_alloc | apply Kd.R_drewN | apply Kd.R_drew)); exact HO_19.out⟩, ⟨by (with_reducible repeat (first | apply Kd.S_alloc | apply Kd.S_drewN | apply Kd.S_drew)); exact HO_511003.out⟩, ⟨by (with_reducible repeat (first | refine blk_drewN ?_ _ | refine blk_drew ?_ | refine blk_alloc ?_ _)); exact BK510.out⟩, ⟨by repeat (first | (with_reducible first | exact HB.out | apply below_alloc | apply pw_below_drewN | apply below_drew1 | refine below_set ?_ GE510.out) | exact HB.out)⟩⟩
                   ·
                    rw [if_neg c119] at H
                    have c119b0 : ((rd t540 x23_3) == 0) = false := beq_eq_false_iff_ne.mpr c119
                    have c119b1 : ((rd t540 x23_3) != 0) = true := bne_iff_ne.mpr c119
                    obtain rfl := Option.some.inj H
                    have p548 : 0 ≤ (x23_3 : Int) := of_decide_eq_true (by first | (with_reducible assumption) | assumption)
                    have q548 : x23_3 < (t521.length : Int) := of_decide_eq_true (by first | (with_reducible assumption) | assumption)
                    obtain ⟨ad548, e548, hx548_0⟩ := Kd.at_int (Kd.R_reads' HO_12.out).2.2 x23_3 p548 q548
                    cases e548
                    replace p548 := eq_true p548
                    replace q548 := eq_true q548
                    have hcz124_0 : wr.cell? ⟨gb510, 0, none⟩ = some (.bool false) := (blk_cell BK510.out 0).trans rfl
                    have hcz124_1 : wr.cell? ⟨gb510, 1, none⟩ = some (.bool t514) := (blk_cell BK510.out 1).trans rfl
                    have hcz124_2 : wr.cell? ⟨gb510, 2, none⟩ = some (.int .i64 t515) := (blk_cell BK510.out 2).trans rfl
                    have hcz124_3 : wr.cell? ⟨gb510, 3, none⟩ = some (.slice Ao28 t516.length co28) := (blk_cell BK510.out 3).trans rfl
                    have hfz124_0 := blk_frozen BK510.out 0
                    have hfz124_1 := blk_frozen BK510.out 1
                    have hfz124_2 := blk_frozen BK510.out 2
                    have hfz124_3 := blk_frozen BK510.out 3
                    obtain ⟨Ao125, co125, eo125⟩ := Kd.R_slice HO_13.out
                    subst eo125
                    have p555 : 0 ≤ (x23_3 : Int) := of_decide_eq_true (by first | (with_reducible assumption) | assumption)
                    have q555 : x23_3 < (t527.length : Int) := of_decide_eq_true (by first | (with_reducible assumption) | assumption)
                    obtain ⟨ad555, e555, hx555_0⟩ := Kd.at_int (Kd.R_reads' HO_13.out).2.2 x23_3 p555 q555
                    cases e555
                    replace p555 := eq_true p555
                    replace q555 := eq_true q555
                    have p556 : 0 ≤ (x23_3 : Int) := of_decide_eq_true (by first | (with_reducible assumption) | assumption)
                    have q556 : x23_3 < (t527.length : Int) := of_decide_eq_true (by first | (with_reducible assumption) | assumption)
                    obtain ⟨ad556, e556, hx556_0⟩ := Kd.at_int (Kd.R_reads' HO_13.out).2.2 x23_3 p556 q556
                    obtain rfl : ad555 = ad556 := (by injection e556)
                    replace p556 := eq_true p556
                    replace q556 := eq_true q556
                    obtain ⟨Ao126, co126, eo126⟩ := Kd.R_slice HO_14.out
                    subst eo126
                    have p557 : 0 ≤ (x23_3 : Int) := of_decide_eq_true (by first | (with_reducible assumption) | assumption)
                    have q557 : x23_3 < (t530.length : Int) := of_decide_eq_true (by first | (with_reducible assumption) | assumption)
                    obtain ⟨ad557, e557, hx557_0⟩ := Kd.at_int (Kd.R_reads' HO_14.out).2.2 x23_3 p557 q557
                    cases e557
                    replace p557 := eq_true p557
                    replace q557 := eq_true q557
                    obtain ⟨Ao127, co127, eo127⟩ := Kd.R_slice HO_19.out
                    subst eo127
                    have p558 : 0 ≤ (x23_3 : Int) := of_decide_eq_true (by first | (with_reducible assumption) | assumption)
                    have q558 : x23_3 < (t540.length : Int) := of_decide_eq_true (by first | (with_reducible assumption) | assumption)
                    obtain ⟨ad558, e558, hx558_0⟩ := Kd.at_int (Kd.R_reads' HO_19.out).2.2 x23_3 p558 q558
                    cases e558
                    replace p558 := eq_true p558
                    replace q558 := eq_true q558
                    go_wp2
                    go_ret
                    exact ⟨by first | rfl | (simp [errW_none, errW_some] <;> rfl) | (simp [*, errW_none, errW_some] <;> rfl), by repeat (first | (with_reducible first | exact HB.out | apply below_alloc | apply pw_below_drewN | apply below_drew1 | refine below_set ?_ GE510.out) | exact HB.out)⟩
                  ·
                   rw [if_neg c118] at H
                   exact absurd H (by simp)
                ·
                 rw [if_neg c113] at H
                 exact absurd H (by simp)
              ·
               rw [if_neg c109] at H
               have c109b0 : ((rd t527 x23_3) == (rd t521 x23_3)) = false := beq_eq_false_iff_ne.mpr c109
               have c109b1 : ((rd t527 x23_3) != (rd t521 x23_3)) = true := bne_iff_ne.mpr c109
               obtain rfl := Option.some.inj H
               have p548 : 0 ≤ (x23_3 : Int) := of_decide_eq_true (by first | (with_reducible assumption) | assumption)
               have q548 : x23_3 < (t521.length : Int) := of_decide_eq_true (by first | (with_reducible assumption) | assumption)
               obtain ⟨ad548, e548, hx548_0⟩ := Kd.at_int (Kd.R_reads' HO_12.out).2.2 x23_3 p548 q548
               cases e548
               replace p548 := eq_true p548
               replace q548 := eq_true q548
               have hcz128_0 : wr.cell? ⟨gb510, 0, none⟩ = some (.bool false) := (blk_cell BK510.out 0).trans rfl
               have hcz128_1 : wr.cell? ⟨gb510, 1, none⟩ = some (.bool t514) := (blk_cell BK510.out 1).trans rfl
               have hcz128_2 : wr.cell? ⟨gb510, 2, none⟩ = some (.int .i64 t515) := (blk_cell BK510.out 2).trans rfl
               have hcz128_3 : wr.cell? ⟨gb510, 3, none⟩ = some (.slice Ao28 t516.length co28) := (blk_cell BK510.out 3).trans rfl
               have hfz128_0 := blk_frozen BK510.out 0
               have hfz128_1 := blk_frozen BK510.out 1
               have hfz128_2 := blk_frozen BK510.out 2
               have hfz128_3 := blk_frozen BK510.out 3
               obtain ⟨Ao129, co129, eo129⟩ := Kd.R_slice HO_13.out
               subst eo129
               have p555 : 0 ≤ (x23_3 : Int) := of_decide_eq_true (by first | (with_reducible assumption) | assumption)
               have q555 : x23_3 < (t527.length : Int) := of_decide_eq_true (by first | (with_reducible assumption) | assumption)
               obtain ⟨ad555, e555, hx555_0⟩ := Kd.at_int (Kd.R_reads' HO_13.out).2.2 x23_3 p555 q555
               cases e555
               replace p555 := eq_true p555
               replace q555 := eq_true q555
               go_wp2
               go_ret
               exact ⟨by first | rfl | (simp [errW_none, errW_some] <;> rfl) | (simp [*, errW_none, errW_some] <;> rfl), by repeat (first | (with_reducible first | exact HB.out | apply below_alloc | apply pw_below_drewN | apply below_drew1 | refine below_set ?_ GE510.out) | exact HB.out)⟩
             ·
              rw [if_neg c108] at H
              exact absurd H (by simp)
           ·
            rw [if_neg c77] at H
            exact absurd H (by simp)
          ·
           rw [if_neg c76] at H
           have c76b0 : decide (x23_3 < (t521.length : Int)) = false := decide_eq_false c76
           clear c76
           by_cases c130 : t513 = true
           ·
            subst c130
            have H1 : (if (wrap64 (t533 + t534)) = t519 then (some true) else (some false)) = some r := by rw [if_pos rfl] at H; exact H
            clear H
            have H := H1
            clear H1
            by_cases c131 : (wrap64 (t533 + t534)) = t519
            ·
             rw [if_pos c131] at H
             have c131b0 : ((wrap64 (t533 + t534)) == t519) = true := beq_iff_eq.mpr c131
             have c131b1 : ((wrap64 (t533 + t534)) != t519) = false := bne_eq_false_iff_eq.mpr c131
             clear c131
             obtain rfl := Option.some.inj H
             have hcz132_0 : wr.cell? ⟨gb510, 0, none⟩ = some (.bool true) := (blk_cell BK510.out 0).trans rfl
             have hcz132_1 : wr.cell? ⟨gb510, 1, none⟩ = some (.bool t514) := (blk_cell BK510.out 1).trans rfl
             have hcz132_2 : wr.cell? ⟨gb510, 2, none⟩ = some (.int .i64 t515) := (blk_cell BK510.out 2).trans rfl
             have hcz132_3 : wr.cell? ⟨gb510, 3, none⟩ = some (.slice Ao28 t516.length co28) := (blk_cell BK510.out 3).trans rfl
             have hfz132_0 := blk_frozen BK510.out 0
             have hfz132_1 := blk_frozen BK510.out 1
             have hfz132_2 := blk_frozen BK510.out 2
             have hfz132_3 := blk_frozen BK510.out 3
             go_wp2
             go_ret
             exact ⟨by first | rfl | (simp [errW_none, errW_some] <;> rfl) | (simp [*, errW_none, errW_some] <;> rfl), by repeat (first | (with_reducible first | exact HB.out | apply below_alloc | apply pw_below_drewN | apply below_drew1 | refine below_set ?_ GE510.out) | exact HB.out)⟩
            ·
             rw [if_neg c131] at H
             have c131b0 : ((wrap64 (t533 + t534)) == t519) = false := beq_eq_false_iff_ne.mpr c131
             have c131b1 : ((wrap64 (t533 + t534)) != t519) = true := bne_iff_ne.mpr c131
             obtain rfl := Option.some.inj H
             have hcz133_0 : wr.cell? ⟨gb510, 0, none⟩ = some (.bool true) := (blk_cell BK510.out 0).trans rfl
             have hcz133_1 : wr.cell? ⟨gb510, 1, none⟩ = some (.bool t514) := (blk_cell BK510.out 1).trans rfl
             have hcz133_2 : wr.cell? ⟨gb510, 2, none⟩ = some (.int .i64 t515) := (blk_cell BK510.out 2).trans rfl
             have hcz133_3 : wr.cell? ⟨gb510, 3, none⟩ = some (.slice Ao28 t516.length co28) := (blk_cell BK510.out 3).trans rfl
             have hfz133_0 := blk_frozen BK510.out 0
             have hfz133_1 := blk_frozen BK510.out 1
             have hfz133_2 := blk_frozen BK510.out 2
             have hfz133_3 := blk_frozen BK510.out 3
             go_wp2
             go_ret
             exact ⟨by first | rfl | (simp [errW_none, errW_some] <;> rfl) | (simp [*, errW_none, errW_some] <;> rfl), by repeat (first | (with_reducible first | exact HB.out | apply below_alloc | apply pw_below_drewN | apply below_drew1 | refine below_set ?_ GE510.out) | exact HB.out)⟩
           ·
            replace c130 := Bool.eq_false_iff.mpr c130
            subst c130
            have H1 : (some (t533 == t519)) = some r := by rw [if_neg (show ¬ (false = true) by decide)] at H; exact H
            clear H
            have H := H1
            clear H1
            obtain rfl := Option.some.inj H
            have hcz134_0 : wr.cell? ⟨gb510, 0, none⟩ = some (.bool false) := (blk_cell BK510.out 0).trans rfl
            have hcz134_1 : wr.cell? ⟨gb510, 1, none⟩ = some (.bool t514) := (blk_cell BK510.out 1).trans rfl
            have hcz134_2 : wr.cell? ⟨gb510, 2, none⟩ = some (.int .i64 t515) := (blk_cell BK510.out 2).trans rfl
            have hcz134_3 : wr.cell? ⟨gb510, 3, none⟩ = some (.slice Ao28 t516.length co28) := (blk_cell BK510.out 3).trans rfl
            have hfz134_0 := blk_frozen BK510.out 0
            have hfz134_1 := blk_frozen BK510.out 1
            have hfz134_2 := blk_frozen BK510.out 2
            have hfz134_3 := blk_frozen BK510.out 3
            go_wp2
            go_ret
            exact ⟨by first | rfl | (simp [errW_none, errW_some] <;> rfl) | (simp [*, errW_none, errW_some] <;> rfl), by repeat (first | (with_reducible first | exact HB.out | apply below_alloc | apply pw_below_drewN | apply below_drew1 | refine below_set ?_ GE510.out) | exact HB.out)⟩

end Go.Proofs.Ytndecmbcekdafaa.Rw
