/- Functions of the program as Lean functions, each with its contract: out of what the kit's printer wrote for this seat. -/
import Derived.Test.YtegjbbblpnenfaaRwA
import Derived.Test.YtegjbbblpnenfaaHLargest
import Derived.Test.YtegjbbblpnenfaaRwL03
import Derived.Test.YtegjbbblpnenfaaRwMon
namespace Go.Proofs.Ytegjbbblpnenfaa.Rw
open Go.RowKit Go.Proofs.YtegjbbblpnenfaaW.PrintWords Go.Proofs.YtegjbbblpnenfaaW.PrintLast Go.Proofs.YtegjbbblpnenfaaW.PrintMore
attribute [local go_sem] max2_int min2_int max_two min_two max_three min_three max_four min_four   -- for this text's walks alone
set_option linter.unusedVariables false
set_option linter.unusedSimpArgs false

/-! ### haberdashlaw03_ShareFair: function 10 -/
mutual
def haberdashlaw03_ShareFair.j0 : Nat → Int → List Int → Int → List Int → Int → Bool → Option (Bool)
  | 0, _, _, _, _, _, _ => none
  | k + 1, x0, x5, x6, x7, x8, x30 => if x30 = true then ((haberdashlaw03_awake.f k).bind fun t475 => (some t475)) else (if x8 = 0 then (haberdashlaw03_ShareFair.j1 k x0 x5 x6 x7 ((x7.length : Int) != (x5.length : Int))) else (haberdashlaw03_ShareFair.j1 k x0 x5 x6 x7 true))
def haberdashlaw03_ShareFair.j1 : Nat → Int → List Int → Int → List Int → Bool → Option (Bool)
  | 0, _, _, _, _, _ => none
  | k + 1, x0, x5, x6, x7, x40 => if x40 = true then (some false) else (haberdashlaw03_ShareFair.l0 k x0 x5 x6 x7 0)
def haberdashlaw03_ShareFair.l0 : Nat → Int → List Int → Int → List Int → Int → Option (Bool)
  | 0, _, _, _, _, _ => none
  | k + 1, x0, x5, x6, x7, x9 => if x9 < (x7.length : Int) then (haberdashlaw03_ShareFair.l1 k x0 x5 x6 x7 x9 0) else (some true)
def haberdashlaw03_ShareFair.l1 : Nat → Int → List Int → Int → List Int → Int → Int → Option (Bool)
  | 0, _, _, _, _, _, _ => none
  | k + 1, x0, x5, x6, x7, x9, x10 => if x10 < (x7.length : Int) then (if 0 ≤ x9 then (if x9 < (x5.length : Int) then (if x6 = 0 then (none) else (if 0 ≤ x10 then (if x10 < (x5.length : Int) then (if x9 < (x7.length : Int) then (if (rd x7 x9) > (wrap64 (Int.tdiv (wrap64 (x0 * (rd x5 x9))) x6)) then (if (rd x7 x10) = (wrap64 (Int.tdiv (wrap64 (x0 * (rd x5 x10))) x6)) then (if (Int.tmod (wrap64 (x0 * (rd x5 x9))) x6) < (Int.tmod (wrap64 (x0 * (rd x5 x10))) x6) then (some false) else (if (Int.tmod (wrap64 (x0 * (rd x5 x9))) x6) = (Int.tmod (wrap64 (x0 * (rd x5 x10))) x6) then (if x9 > x10 then (some false) else (haberdashlaw03_ShareFair.l1 k x0 x5 x6 x7 x9 (wrap64 (x10 + 1)))) else (haberdashlaw03_ShareFair.l1 k x0 x5 x6 x7 x9 (wrap64 (x10 + 1))))) else (haberdashlaw03_ShareFair.l1 k x0 x5 x6 x7 x9 (wrap64 (x10 + 1)))) else (haberdashlaw03_ShareFair.l1 k x0 x5 x6 x7 x9 (wrap64 (x10 + 1)))) else (none)) else (none)) else (none))) else (none)) else (none)) else (haberdashlaw03_ShareFair.l0 k x0 x5 x6 x7 (wrap64 (x9 + 1)))
end
def haberdashlaw03_ShareFair.f (k : Nat) (a0 : Int) (l1 : List Int) : Option (Bool) := (haberdashplay_Mod64.f a0 1073741824).bind fun t465 => ((haberdashlaw03_weights.f k l1 30).bind fun t466 => ((haberdashlaw03_sum.f k t466).bind fun t469 => ((share_Largest.f t465 t466).bind fun bt470 => ((haberdashlaw03_awake.f k).bind fun t474 => (if t474 = true then (haberdashlaw03_ShareFair.j0 k t465 t466 t469 bt470.1 bt470.2 (t469 == 0)) else (haberdashlaw03_ShareFair.j0 k t465 t466 t469 bt470.1 bt470.2 true))))))
theorem haberdashlaw03_ShareFair.mono_l : ∀ k, (∀ y0 y1 y2 y3 y4 y5, LeO (haberdashlaw03_ShareFair.j0 k y0 y1 y2 y3 y4 y5) (haberdashlaw03_ShareFair.j0 (k + 1) y0 y1 y2 y3 y4 y5)) ∧ (∀ y0 y1 y2 y3 y4, LeO (haberdashlaw03_ShareFair.j1 k y0 y1 y2 y3 y4) (haberdashlaw03_ShareFair.j1 (k + 1) y0 y1 y2 y3 y4)) ∧ (∀ y0 y1 y2 y3 y4, LeO (haberdashlaw03_ShareFair.l0 k y0 y1 y2 y3 y4) (haberdashlaw03_ShareFair.l0 (k + 1) y0 y1 y2 y3 y4)) ∧ (∀ y0 y1 y2 y3 y4 y5, LeO (haberdashlaw03_ShareFair.l1 k y0 y1 y2 y3 y4 y5) (haberdashlaw03_ShareFair.l1 (k + 1) y0 y1 y2 y3 y4 y5))
  | 0 => ⟨fun _ _ _ _ _ _ r h => by simp [haberdashlaw03_ShareFair.j0] at h, fun _ _ _ _ _ r h => by simp [haberdashlaw03_ShareFair.j1] at h, fun _ _ _ _ _ r h => by simp [haberdashlaw03_ShareFair.l0] at h, fun _ _ _ _ _ _ r h => by simp [haberdashlaw03_ShareFair.l1] at h⟩
  | k + 1 => by
    obtain ⟨ih0, ih1, ih2, ih3⟩ := haberdashlaw03_ShareFair.mono_l k
    refine ⟨?_, ?_, ?_, ?_⟩
    · intro y0 y1 y2 y3 y4 y5
      unfold haberdashlaw03_ShareFair.j0
      repeat' first
      | (with_reducible exact ih0 _ _ _ _ _ _)
      | (with_reducible exact ih1 _ _ _ _ _)
      | (with_reducible exact ih2 _ _ _ _ _)
      | (with_reducible exact ih3 _ _ _ _ _ _)
      | (with_reducible exact haberdashlaw03_awake.mono _)
      | (with_reducible exact haberdashlaw03_sum.mono _ _)
      | (with_reducible exact haberdashlaw03_weights.mono _ _ _)
      | (with_reducible exact LeO.refl _)
      | (with_reducible exact LeO.none _)
      | (with_reducible refine LeO.ite ?_ ?_)
      | (with_reducible refine LeO.bind ?_ (fun _ => ?_))
      | exact ih0 _ _ _ _ _ _
      | exact ih1 _ _ _ _ _
      | exact ih2 _ _ _ _ _
      | exact ih3 _ _ _ _ _ _
      | exact haberdashlaw03_awake.mono _
      | exact haberdashlaw03_sum.mono _ _
      | exact haberdashlaw03_weights.mono _ _ _
      | exact LeO.none _
      | refine LeO.ite ?_ ?_
      | refine LeO.bind ?_ (fun _ => ?_)
    · intro y0 y1 y2 y3 y4
      unfold haberdashlaw03_ShareFair.j1
      repeat' first
      | (with_reducible exact ih0 _ _ _ _ _ _)
      | (with_reducible exact ih1 _ _ _ _ _)
      | (with_reducible exact ih2 _ _ _ _ _)
      | (with_reducible exact ih3 _ _ _ _ _ _)
      | (with_reducible exact haberdashlaw03_awake.mono _)
      | (with_reducible exact haberdashlaw03_sum.mono _ _)
      | (with_reducible exact haberdashlaw03_weights.mono _ _ _)
      | (with_reducible exact LeO.refl _)
      | (with_reducible exact LeO.none _)
      | (with_reducible refine LeO.ite ?_ ?_)
      | (with_reducible refine LeO.bind ?_ (fun _ => ?_))
      | exact ih0 _ _ _ _ _ _
      | exact ih1 _ _ _ _ _
      | exact ih2 _ _ _ _ _
      | exact ih3 _ _ _ _ _ _
      | exact haberdashlaw03_awake.mono _
      | exact haberdashlaw03_sum.mono _ _
      | exact haberdashlaw03_weights.mono _ _ _
      | exact LeO.none _
      | refine LeO.ite ?_ ?_
      | refine LeO.bind ?_ (fun _ => ?_)
    · intro y0 y1 y2 y3 y4
      unfold haberdashlaw03_ShareFair.l0
      repeat' first
      | (with_reducible exact ih0 _ _ _ _ _ _)
      | (with_reducible exact ih1 _ _ _ _ _)
      | (with_reducible exact ih2 _ _ _ _ _)
      | (with_reducible exact ih3 _ _ _ _ _ _)
      | (with_reducible exact haberdashlaw03_awake.mono _)
      | (with_reducible exact haberdashlaw03_sum.mono _ _)
      | (with_reducible exact haberdashlaw03_weights.mono _ _ _)
      | (with_reducible exact LeO.refl _)
      | (with_reducible exact LeO.none _)
      | (with_reducible refine LeO.ite ?_ ?_)
      | (with_reducible refine LeO.bind ?_ (fun _ => ?_))
      | exact ih0 _ _ _ _ _ _
      | exact ih1 _ _ _ _ _
      | exact ih2 _ _ _ _ _
      | exact ih3 _ _ _ _ _ _
      | exact haberdashlaw03_awake.mono _
      | exact haberdashlaw03_sum.mono _ _
      | exact haberdashlaw03_weights.mono _ _ _
      | exact LeO.none _
      | refine LeO.ite ?_ ?_
      | refine LeO.bind ?_ (fun _ => ?_)
    · intro y0 y1 y2 y3 y4 y5
      unfold haberdashlaw03_ShareFair.l1
      repeat' first
      | (with_reducible exact ih0 _ _ _ _ _ _)
      | (with_reducible exact ih1 _ _ _ _ _)
      | (with_reducible exact ih2 _ _ _ _ _)
      | (with_reducible exact ih3 _ _ _ _ _ _)
      | (with_reducible exact haberdashlaw03_awake.mono _)
      | (with_reducible exact haberdashlaw03_sum.mono _ _)
      | (with_reducible exact haberdashlaw03_weights.mono _ _ _)
      | (with_reducible exact LeO.refl _)
      | (with_reducible exact LeO.none _)
      | (with_reducible refine LeO.ite ?_ ?_)
      | (with_reducible refine LeO.bind ?_ (fun _ => ?_))
      | exact ih0 _ _ _ _ _ _
      | exact ih1 _ _ _ _ _
      | exact ih2 _ _ _ _ _
      | exact ih3 _ _ _ _ _ _
      | exact haberdashlaw03_awake.mono _
      | exact haberdashlaw03_sum.mono _ _
      | exact haberdashlaw03_weights.mono _ _ _
      | exact LeO.none _
      | refine LeO.ite ?_ ?_
      | refine LeO.bind ?_ (fun _ => ?_)
theorem haberdashlaw03_ShareFair.mono : ∀ a0 a1 k, LeO (haberdashlaw03_ShareFair.f k a0 a1) (haberdashlaw03_ShareFair.f (k + 1) a0 a1) := by
  intro a0 a1 k
  obtain ⟨ih0, ih1, ih2, ih3⟩ := haberdashlaw03_ShareFair.mono_l k
  unfold haberdashlaw03_ShareFair.f
  repeat' first
      | (with_reducible exact ih0 _ _ _ _ _ _)
      | (with_reducible exact ih1 _ _ _ _ _)
      | (with_reducible exact ih2 _ _ _ _ _)
      | (with_reducible exact ih3 _ _ _ _ _ _)
      | (with_reducible exact haberdashlaw03_awake.mono _)
      | (with_reducible exact haberdashlaw03_sum.mono _ _)
      | (with_reducible exact haberdashlaw03_weights.mono _ _ _)
      | (with_reducible exact LeO.refl _)
      | (with_reducible exact LeO.none _)
      | (with_reducible refine LeO.ite ?_ ?_)
      | (with_reducible refine LeO.bind ?_ (fun _ => ?_))
      | exact ih0 _ _ _ _ _ _
      | exact ih1 _ _ _ _ _
      | exact ih2 _ _ _ _ _
      | exact ih3 _ _ _ _ _ _
      | exact haberdashlaw03_awake.mono _
      | exact haberdashlaw03_sum.mono _ _
      | exact haberdashlaw03_weights.mono _ _ _
      | exact LeO.none _
      | refine LeO.ite ?_ ?_
      | refine LeO.bind ?_ (fun _ => ?_)
set_option maxHeartbeats 8000000 in
set_option maxRecDepth 100000 in
theorem haberdashlaw03_ShareFair.calls (k : Nat) (a0 : Int) (A1 : Option Addr) (c1 : Nat) (l1 : List Int) (r : Bool) (w : World) (hr1 : Kd.C (Kd.int .i64) w A1 l1.length l1) (hc1 : l1.length ≤ c1) (h : haberdashlaw03_ShareFair.f k a0 l1 = some r) :
    Calls Try.prog 10 #[.int .i64 a0, .slice A1 l1.length c1] w fun e w' => e = .returned (.bool r) ∧ Below w.heap.size w w' := by
  have HR1 := Aside0.mk hr1
  have HC1 := Aside0.mk hc1
  clear hr1 hc1
  have HB := Aside0.mk (Below.refl w.heap.size w)
  have H : ((haberdashplay_Mod64.f a0 1073741824).bind fun t465 => ((haberdashlaw03_weights.f k l1 30).bind fun t466 => ((haberdashlaw03_sum.f k t466).bind fun t469 => ((share_Largest.f t465 t466).bind fun bt470 => ((haberdashlaw03_awake.f k).bind fun t474 => (if t474 = true then (haberdashlaw03_ShareFair.j0 k t465 t466 t469 bt470.1 bt470.2 (t469 == 0)) else (haberdashlaw03_ShareFair.j0 k t465 t466 t469 bt470.1 bt470.2 true))))))) = some r := h
  clear h
  replace H := Option.bind_eq_some_iff.mp H
  obtain ⟨t465, A30, H⟩ := H
  replace H : ((haberdashlaw03_weights.f k l1 30).bind fun t466 => ((haberdashlaw03_sum.f k t466).bind fun t469 => ((share_Largest.f t465 t466).bind fun bt470 => ((haberdashlaw03_awake.f k).bind fun t474 => (if t474 = true then (haberdashlaw03_ShareFair.j0 k t465 t466 t469 bt470.1 bt470.2 (t469 == 0)) else (haberdashlaw03_ShareFair.j0 k t465 t466 t469 bt470.1 bt470.2 true)))))) = some r := H
  have A3 := Aside0.mk A30
  clear A30
  replace H := Option.bind_eq_some_iff.mp H
  obtain ⟨t466, A40, H⟩ := H
  replace H : ((haberdashlaw03_sum.f k t466).bind fun t469 => ((share_Largest.f t465 t466).bind fun bt470 => ((haberdashlaw03_awake.f k).bind fun t474 => (if t474 = true then (haberdashlaw03_ShareFair.j0 k t465 t466 t469 bt470.1 bt470.2 (t469 == 0)) else (haberdashlaw03_ShareFair.j0 k t465 t466 t469 bt470.1 bt470.2 true))))) = some r := H
  have A4 := Aside0.mk A40
  clear A40
  replace H := Option.bind_eq_some_iff.mp H
  obtain ⟨t469, A50, H⟩ := H
  replace H : ((share_Largest.f t465 t466).bind fun bt470 => ((haberdashlaw03_awake.f k).bind fun t474 => (if t474 = true then (haberdashlaw03_ShareFair.j0 k t465 t466 t469 bt470.1 bt470.2 (t469 == 0)) else (haberdashlaw03_ShareFair.j0 k t465 t466 t469 bt470.1 bt470.2 true)))) = some r := H
  have A5 := Aside0.mk A50
  clear A50
  replace H := Option.bind_eq_some_iff.mp H
  obtain ⟨⟨t470, t471⟩, A60, H⟩ := H
  replace H : ((haberdashlaw03_awake.f k).bind fun t474 => (if t474 = true then (haberdashlaw03_ShareFair.j0 k t465 t466 t469 t470 t471 (t469 == 0)) else (haberdashlaw03_ShareFair.j0 k t465 t466 t469 t470 t471 true))) = some r := H
  have A6 := Aside0.mk A60
  clear A60
  have HC7 := Aside0.mk H
  clear H
  go_enter Try.func10, Try.ntmps10
  go_upto_region 5 with (first | (go_at_call 17; (with_reducible refine (haberdashplay_Mod64.calls a0 1073741824 t465 _ A3.out).mono ?_); rintro e w' ⟨rfl, ⟨nd, rfl⟩⟩; (try first | exact ⟨rfl, _, World.drewN_drewN _ _ _⟩ | exact ⟨rfl, _, Eq.trans (World.drewN_drewN _ _ _) (congrArg (World.drewN _) (Nat.add_assoc _ _ _))⟩)) | (go_at_call 36; (with_reducible refine (haberdashlaw03_weights.calls k _ _ l1 30 t466 _ ?side1 ?side2 A4.out).mono ?_); (case side1 => repeat (first | exact HR1.out | (with_reducible refine Kd.C_alloc ?_ _) | (with_reducible refine Kd.C_drewN ?_ _) | (with_reducible refine Kd.C_drew ?_))); (case side2 => exact HC1.out); rintro e w8 ⟨v467, rfl, ho0, hb⟩; have n0_ := Aside0.mk (Kd.R_lower ho0 (below_size (by repeat (first | (with_reducible first | exact HB.out | apply below_alloc | apply pw_below_drewN | apply below_drew1) | exact HB.out)))); have n1_ := Aside0.mk (below_step (by repeat (first | (with_reducible first | exact HB.out | apply below_alloc | apply pw_below_drewN | apply below_drew1) | exact HB.out)) hb); clear HB; have HO468 := n0_; have HB := n1_; clear n0_ n1_; (try clear hb); (try clear hb2); (try clear hk); (try clear hi); (try clear ho0); obtain ⟨Ao9, co9, eo9⟩ := Kd.R_slice HO468.out; subst eo9) | (go_at_call 41; (with_reducible refine (haberdashlaw03_sum.calls k _ _ t466 t469 _ ?side1 ?side2 A5.out).mono ?_); (case side1 => repeat (first | exact (Kd.R_reads' HO468.out).2.2 | (with_reducible refine Kd.C_alloc ?_ _) | (with_reducible refine Kd.C_drewN ?_ _) | (with_reducible refine Kd.C_drew ?_))); (case side2 => exact (Kd.R_reads' HO468.out).2.1); rintro e w' ⟨rfl, ⟨nd, rfl⟩⟩; (try first | exact ⟨rfl, _, World.drewN_drewN _ _ _⟩ | exact ⟨rfl, _, Eq.trans (World.drewN_drewN _ _ _) (congrArg (World.drewN _) (Nat.add_assoc _ _ _))⟩)) | (go_at_call 37; (with_reducible refine (share_Largest.calls t465 _ _ t466 t470 t471 _ ?side1 ?side2 A6.out).mono ?_); (case side1 => repeat (first | exact (Kd.R_reads' HO468.out).2.2 | (with_reducible refine Kd.C_alloc ?_ _) | (with_reducible refine Kd.C_drewN ?_ _) | (with_reducible refine Kd.C_drew ?_))); (case side2 => exact (Kd.R_reads' HO468.out).2.1); rintro e w10 ⟨v472, rfl, ho0, hb⟩; have n0_ := Aside0.mk (Kd.R_elder' (by (with_reducible repeat (first | apply Kd.R_alloc | apply Kd.R_drewN | apply Kd.R_drew)); exact HO468.out) (Kd.R_base ho0) hb); have n1_ := Aside0.mk (Kd.R_lower (Kd.R_new' ho0 (Kd.R_lt (by (with_reducible repeat (first | apply Kd.R_alloc | apply Kd.R_drewN | apply Kd.R_drew)); exact HO468.out))) (below_size (by repeat (first | (with_reducible first | exact HB.out | apply below_alloc | apply pw_below_drewN | apply below_drew1) | exact HB.out)))); have n2_ := Aside0.mk (below_step (by repeat (first | (with_reducible first | exact HB.out | apply below_alloc | apply pw_below_drewN | apply below_drew1) | exact HB.out)) hb); clear HO468; clear HB; have HO468 := n0_; have HO473 := n1_; have HB := n2_; clear n0_ n1_ n2_; (try clear hb); (try clear hb2); (try clear hk); (try clear hi); (try clear ho0)))
  repeat (go_quiet (first | (go_at_call 17; (with_reducible refine (haberdashplay_Mod64.calls a0 1073741824 t465 _ A3.out).mono ?_); rintro e w' ⟨rfl, ⟨nd, rfl⟩⟩; (try first | exact ⟨rfl, _, World.drewN_drewN _ _ _⟩ | exact ⟨rfl, _, Eq.trans (World.drewN_drewN _ _ _) (congrArg (World.drewN _) (Nat.add_assoc _ _ _))⟩)) | (go_at_call 36; (with_reducible refine (haberdashlaw03_weights.calls k _ _ l1 30 t466 _ ?side1 ?side2 A4.out).mono ?_); (case side1 => repeat (first | exact HR1.out | (with_reducible refine Kd.C_alloc ?_ _) | (with_reducible refine Kd.C_drewN ?_ _) | (with_reducible refine Kd.C_drew ?_))); (case side2 => exact HC1.out); rintro e w8 ⟨v467, rfl, ho0, hb⟩; have n0_ := Aside0.mk (Kd.R_lower ho0 (below_size (by repeat (first | (with_reducible first | exact HB.out | apply below_alloc | apply pw_below_drewN | apply below_drew1) | exact HB.out)))); have n1_ := Aside0.mk (below_step (by repeat (first | (with_reducible first | exact HB.out | apply below_alloc | apply pw_below_drewN | apply below_drew1) | exact HB.out)) hb); clear HB; have HO468 := n0_; have HB := n1_; clear n0_ n1_; (try clear hb); (try clear hb2); (try clear hk); (try clear hi); (try clear ho0); obtain ⟨Ao9, co9, eo9⟩ := Kd.R_slice HO468.out; subst eo9) | (go_at_call 41; (with_reducible refine (haberdashlaw03_sum.calls k _ _ t466 t469 _ ?side1 ?side2 A5.out).mono ?_); (case side1 => repeat (first | exact (Kd.R_reads' HO468.out).2.2 | (with_reducible refine Kd.C_alloc ?_ _) | (with_reducible refine Kd.C_drewN ?_ _) | (with_reducible refine Kd.C_drew ?_))); (case side2 => exact (Kd.R_reads' HO468.out).2.1); rintro e w' ⟨rfl, ⟨nd, rfl⟩⟩; (try first | exact ⟨rfl, _, World.drewN_drewN _ _ _⟩ | exact ⟨rfl, _, Eq.trans (World.drewN_drewN _ _ _) (congrArg (World.drewN _) (Nat.add_assoc _ _ _))⟩)) | (go_at_call 37; (with_reducible refine (share_Largest.calls t465 _ _ t466 t470 t471 _ ?side1 ?side2 A6.out).mono ?_); (case side1 => repeat (first | exact (Kd.R_reads' HO468.out).2.2 | (with_reducible refine Kd.C_alloc ?_ _) | (with_reducible refine Kd.C_drewN ?_ _) | (with_reducible refine Kd.C_drew ?_))); (case side2 => exact (Kd.R_reads' HO468.out).2.1); rintro e w10 ⟨v472, rfl, ho0, hb⟩; have n0_ := Aside0.mk (Kd.R_elder' (by (with_reducible repeat (first | apply Kd.R_alloc | apply Kd.R_drewN | apply Kd.R_drew)); exact HO468.out) (Kd.R_base ho0) hb); have n1_ := Aside0.mk (Kd.R_lower (Kd.R_new' ho0 (Kd.R_lt (by (with_reducible repeat (first | apply Kd.R_alloc | apply Kd.R_drewN | apply Kd.R_drew)); exact HO468.out))) (below_size (by repeat (first | (with_reducible first | exact HB.out | apply below_alloc | apply pw_below_drewN | apply below_drew1) | exact HB.out)))); have n2_ := Aside0.mk (below_step (by repeat (first | (with_reducible first | exact HB.out | apply below_alloc | apply pw_below_drewN | apply below_drew1) | exact HB.out)) hb); clear HO468; clear HB; have HO468 := n0_; have HO473 := n1_; have HB := n2_; clear n0_ n1_ n2_; (try clear hb); (try clear hb2); (try clear hk); (try clear hi); (try clear ho0))); go_upto_region 5 with (first | (go_at_call 17; (with_reducible refine (haberdashplay_Mod64.calls a0 1073741824 t465 _ A3.out).mono ?_); rintro e w' ⟨rfl, ⟨nd, rfl⟩⟩; (try first | exact ⟨rfl, _, World.drewN_drewN _ _ _⟩ | exact ⟨rfl, _, Eq.trans (World.drewN_drewN _ _ _) (congrArg (World.drewN _) (Nat.add_assoc _ _ _))⟩)) | (go_at_call 36; (with_reducible refine (haberdashlaw03_weights.calls k _ _ l1 30 t466 _ ?side1 ?side2 A4.out).mono ?_); (case side1 => repeat (first | exact HR1.out | (with_reducible refine Kd.C_alloc ?_ _) | (with_reducible refine Kd.C_drewN ?_ _) | (with_reducible refine Kd.C_drew ?_))); (case side2 => exact HC1.out); rintro e w8 ⟨v467, rfl, ho0, hb⟩; have n0_ := Aside0.mk (Kd.R_lower ho0 (below_size (by repeat (first | (with_reducible first | exact HB.out | apply below_alloc | apply pw_below_drewN | apply below_drew1) | exact HB.out)))); have n1_ := Aside0.mk (below_step (by repeat (first | (with_reducible first | exact HB.out | apply below_alloc | apply pw_below_drewN | apply below_drew1) | exact HB.out)) hb); clear HB; have HO468 := n0_; have HB := n1_; clear n0_ n1_; (try clear hb); (try clear hb2); (try clear hk); (try clear hi); (try clear ho0); obtain ⟨Ao9, co9, eo9⟩ := Kd.R_slice HO468.out; subst eo9) | (go_at_call 41; (with_reducible refine (haberdashlaw03_sum.calls k _ _ t466 t469 _ ?side1 ?side2 A5.out).mono ?_); (case side1 => repeat (first | exact (Kd.R_reads' HO468.out).2.2 | (with_reducible refine Kd.C_alloc ?_ _) | (with_reducible refine Kd.C_drewN ?_ _) | (with_reducible refine Kd.C_drew ?_))); (case side2 => exact (Kd.R_reads' HO468.out).2.1); rintro e w' ⟨rfl, ⟨nd, rfl⟩⟩; (try first | exact ⟨rfl, _, World.drewN_drewN _ _ _⟩ | exact ⟨rfl, _, Eq.trans (World.drewN_drewN _ _ _) (congrArg (World.drewN _) (Nat.add_assoc _ _ _))⟩)) | (go_at_call 37; (with_reducible refine (share_Largest.calls t465 _ _ t466 t470 t471 _ ?side1 ?side2 A6.out).mono ?_); (case side1 => repeat (first | exact (Kd.R_reads' HO468.out).2.2 | (with_reducible refine Kd.C_alloc ?_ _) | (with_reducible refine Kd.C_drewN ?_ _) | (with_reducible refine Kd.C_drew ?_))); (case side2 => exact (Kd.R_reads' HO468.out).2.1); rintro e w10 ⟨v472, rfl, ho0, hb⟩; have n0_ := Aside0.mk (Kd.R_elder' (by (with_reducible repeat (first | apply Kd.R_alloc | apply Kd.R_drewN | apply Kd.R_drew)); exact HO468.out) (Kd.R_base ho0) hb); have n1_ := Aside0.mk (Kd.R_lower (Kd.R_new' ho0 (Kd.R_lt (by (with_reducible repeat (first | apply Kd.R_alloc | apply Kd.R_drewN | apply Kd.R_drew)); exact HO468.out))) (below_size (by repeat (first | (with_reducible first | exact HB.out | apply below_alloc | apply pw_below_drewN | apply below_drew1) | exact HB.out)))); have n2_ := Aside0.mk (below_step (by repeat (first | (with_reducible first | exact HB.out | apply below_alloc | apply pw_below_drewN | apply below_drew1) | exact HB.out)) hb); clear HO468; clear HB; have HO468 := n0_; have HO473 := n1_; have HB := n2_; clear n0_ n1_ n2_; (try clear hb); (try clear hb2); (try clear hk); (try clear hi); (try clear ho0))))
  (try simp only [Act.put, List.setIfInBounds_toArray, List.set_cons_zero, List.set_cons_succ])
  go_cut [30] (fun v30 wc => ∃ (kq : Nat) (x30_6 : Bool), v30 = .bool x30_6 ∧ Aside0 (haberdashlaw03_ShareFair.j0 kq t465 t466 t469 t470 t471 x30_6 = some r) ∧ Aside0 (kq ≤ k) ∧ Aside0 (Kd.R (Kd.int .i64) 2 wc w.heap.size (fun k_ => some k_ ≠ (v472 : Value).ownBlock) (.slice Ao9 t466.length co9) t466) ∧ Aside0 (Kd.R (Kd.int .i64) 2 wc w.heap.size (fun k_ => some k_ ≠ ((.slice Ao9 t466.length co9) : Value).ownBlock) v472 t470) ∧ Aside0 (Below w.heap.size w wc))
  case first =>
    have H := HC7.out
    clear HC7
    replace H := Option.bind_eq_some_iff.mp H
    obtain ⟨t474, A110, H⟩ := H
    replace H : (if t474 = true then (haberdashlaw03_ShareFair.j0 k t465 t466 t469 t470 t471 (t469 == 0)) else (haberdashlaw03_ShareFair.j0 k t465 t466 t469 t470 t471 true)) = some r := H
    have A11 := Aside0.mk A110
    clear A110
    by_cases c12 : t474 = true
    · subst c12
      have H1 : (haberdashlaw03_ShareFair.j0 k t465 t466 t469 t470 t471 (t469 == 0)) = some r := by rw [if_pos rfl] at H; exact H
      clear H
      have H := H1
      clear H1
      have H' := Aside0.mk H
      clear H
      go_wp2_with (first | (go_at_call 39; (with_reducible refine (haberdashlaw03_awake.calls k  true _ A11.out).mono ?_); rintro e w13 ⟨rfl, hb⟩; have n0_ := Aside0.mk (Kd.R_below (by (with_reducible repeat (first | apply Kd.R_alloc | apply Kd.R_drewN | apply Kd.R_drew)); exact HO468.out) hb); have n1_ := Aside0.mk (Kd.R_below (by (with_reducible repeat (first | apply Kd.R_alloc | apply Kd.R_drewN | apply Kd.R_drew)); exact HO473.out) hb); have n2_ := Aside0.mk (below_step (by repeat (first | (with_reducible first | exact HB.out | apply below_alloc | apply pw_below_drewN | apply below_drew1) | exact HB.out)) hb); clear HO468; clear HO473; clear HB; have HO468 := n0_; have HO473 := n1_; have HB := n2_; clear n0_ n1_ n2_; (try clear hb); (try clear hb2); (try clear hk); (try clear hi)))
      repeat (go_quiet (first | (go_at_call 39; (with_reducible refine (haberdashlaw03_awake.calls k  true _ A11.out).mono ?_); rintro e w13 ⟨rfl, hb⟩; have n0_ := Aside0.mk (Kd.R_below (by (with_reducible repeat (first | apply Kd.R_alloc | apply Kd.R_drewN | apply Kd.R_drew)); exact HO468.out) hb); have n1_ := Aside0.mk (Kd.R_below (by (with_reducible repeat (first | apply Kd.R_alloc | apply Kd.R_drewN | apply Kd.R_drew)); exact HO473.out) hb); have n2_ := Aside0.mk (below_step (by repeat (first | (with_reducible first | exact HB.out | apply below_alloc | apply pw_below_drewN | apply below_drew1) | exact HB.out)) hb); clear HO468; clear HO473; clear HB; have HO468 := n0_; have HO473 := n1_; have HB := n2_; clear n0_ n1_ n2_; (try clear hb); (try clear hb2); (try clear hk); (try clear hi))); try go_wp2_with (first | (go_at_call 39; (with_reducible refine (haberdashlaw03_awake.calls k  true _ A11.out).mono ?_); rintro e w13 ⟨rfl, hb⟩; have n0_ := Aside0.mk (Kd.R_below (by (with_reducible repeat (first | apply Kd.R_alloc | apply Kd.R_drewN | apply Kd.R_drew)); exact HO468.out) hb); have n1_ := Aside0.mk (Kd.R_below (by (with_reducible repeat (first | apply Kd.R_alloc | apply Kd.R_drewN | apply Kd.R_drew)); exact HO473.out) hb); have n2_ := Aside0.mk (below_step (by repeat (first | (with_reducible first | exact HB.out | apply below_alloc | apply pw_below_drewN | apply below_drew1) | exact HB.out)) hb); clear HO468; clear HO473; clear HB; have HO468 := n0_; have HO473 := n1_; have HB := n2_; clear n0_ n1_ n2_; (try clear hb); (try clear hb2); (try clear hk); (try clear hi))))
      go_meet
      case rel => exact ⟨_, ((t469 == 0)), (by first | rfl | (simp; done) | (simp [*]; done)), H', ⟨by first | omega | exact Nat.le_refl _⟩, ⟨by (with_reducible repeat (first | apply Kd.R_alloc | apply Kd.R_drewN | apply Kd.R_drew)); exact Kd.R_mono HO468.out (fun _ hk => hk.2)⟩, ⟨by (with_reducible repeat (first | apply Kd.R_alloc | apply Kd.R_drewN | apply Kd.R_drew)); exact Kd.R_mono HO473.out (fun _ hk => hk.2)⟩, ⟨by repeat (first | (with_reducible first | exact HB.out | apply below_alloc | apply pw_below_drewN | apply below_drew1) | exact HB.out)⟩⟩
    · replace c12 := Bool.eq_false_iff.mpr c12
      subst c12
      have H1 : (haberdashlaw03_ShareFair.j0 k t465 t466 t469 t470 t471 true) = some r := by rw [if_neg (show ¬ (false = true) by decide)] at H; exact H
      clear H
      have H := H1
      clear H1
      have H' := Aside0.mk H
      clear H
      go_wp2_with (first | (go_at_call 39; (with_reducible refine (haberdashlaw03_awake.calls k  false _ A11.out).mono ?_); rintro e w14 ⟨rfl, hb⟩; have n0_ := Aside0.mk (Kd.R_below (by (with_reducible repeat (first | apply Kd.R_alloc | apply Kd.R_drewN | apply Kd.R_drew)); exact HO468.out) hb); have n1_ := Aside0.mk (Kd.R_below (by (with_reducible repeat (first | apply Kd.R_alloc | apply Kd.R_drewN | apply Kd.R_drew)); exact HO473.out) hb); have n2_ := Aside0.mk (below_step (by repeat (first | (with_reducible first | exact HB.out | apply below_alloc | apply pw_below_drewN | apply below_drew1) | exact HB.out)) hb); clear HO468; clear HO473; clear HB; have HO468 := n0_; have HO473 := n1_; have HB := n2_; clear n0_ n1_ n2_; (try clear hb); (try clear hb2); (try clear hk); (try clear hi)))
      repeat (go_quiet (first | (go_at_call 39; (with_reducible refine (haberdashlaw03_awake.calls k  false _ A11.out).mono ?_); rintro e w14 ⟨rfl, hb⟩; have n0_ := Aside0.mk (Kd.R_below (by (with_reducible repeat (first | apply Kd.R_alloc | apply Kd.R_drewN | apply Kd.R_drew)); exact HO468.out) hb); have n1_ := Aside0.mk (Kd.R_below (by (with_reducible repeat (first | apply Kd.R_alloc | apply Kd.R_drewN | apply Kd.R_drew)); exact HO473.out) hb); have n2_ := Aside0.mk (below_step (by repeat (first | (with_reducible first | exact HB.out | apply below_alloc | apply pw_below_drewN | apply below_drew1) | exact HB.out)) hb); clear HO468; clear HO473; clear HB; have HO468 := n0_; have HO473 := n1_; have HB := n2_; clear n0_ n1_ n2_; (try clear hb); (try clear hb2); (try clear hk); (try clear hi))); try go_wp2_with (first | (go_at_call 39; (with_reducible refine (haberdashlaw03_awake.calls k  false _ A11.out).mono ?_); rintro e w14 ⟨rfl, hb⟩; have n0_ := Aside0.mk (Kd.R_below (by (with_reducible repeat (first | apply Kd.R_alloc | apply Kd.R_drewN | apply Kd.R_drew)); exact HO468.out) hb); have n1_ := Aside0.mk (Kd.R_below (by (with_reducible repeat (first | apply Kd.R_alloc | apply Kd.R_drewN | apply Kd.R_drew)); exact HO473.out) hb); have n2_ := Aside0.mk (below_step (by repeat (first | (with_reducible first | exact HB.out | apply below_alloc | apply pw_below_drewN | apply below_drew1) | exact HB.out)) hb); clear HO468; clear HO473; clear HB; have HO468 := n0_; have HO473 := n1_; have HB := n2_; clear n0_ n1_ n2_; (try clear hb); (try clear hb2); (try clear hk); (try clear hi))))
      go_meet
      case rel => exact ⟨_, (true), (by first | rfl | (simp; done) | (simp [*]; done)), H', ⟨by first | omega | exact Nat.le_refl _⟩, ⟨by (with_reducible repeat (first | apply Kd.R_alloc | apply Kd.R_drewN | apply Kd.R_drew)); exact Kd.R_mono HO468.out (fun _ hk => hk.2)⟩, ⟨by (with_reducible repeat (first | apply Kd.R_alloc | apply Kd.R_drewN | apply Kd.R_drew)); exact Kd.R_mono HO473.out (fun _ hk => hk.2)⟩, ⟨by repeat (first | (with_reducible first | exact HB.out | apply below_alloc | apply pw_below_drewN | apply below_drew1) | exact HB.out)⟩⟩
  case rest =>
    clear HC7
    try clear c1
    try clear p2
    try clear c10
    try clear c12
    obtain ⟨kq, x30_6, rfl, HA, HJ6, HO_5, HO_7, HB⟩ := hcut
    cases kq with
    | zero => exact absurd HA.out (by simp [haberdashlaw03_ShareFair.j0])
    | succ kj6 =>
      have H := HA.out
      clear HA
      simp only [haberdashlaw03_ShareFair.j0] at H
      by_cases c15 : x30_6 = true
      · subst c15
        have H1 : ((haberdashlaw03_awake.f kj6).bind fun t475 => (some t475)) = some r := by rw [if_pos rfl] at H; exact H
        clear H
        have H := H1
        clear H1
        replace H := Option.bind_eq_some_iff.mp H
        obtain ⟨t475, A160, H⟩ := H
        replace H : (some t475) = some r := H
        have A16 := Aside0.mk A160
        clear A160
        obtain rfl := Option.some.inj H
        go_wp2_with (first | (go_at_call 39; (with_reducible refine (haberdashlaw03_awake.calls kj6  t475 _ A16.out).mono ?_); rintro e w17 ⟨rfl, hb⟩; have n0_ := Aside0.mk (Kd.R_below (by (with_reducible repeat (first | apply Kd.R_alloc | apply Kd.R_drewN | apply Kd.R_drew)); exact HO_5.out) hb); have n1_ := Aside0.mk (Kd.R_below (by (with_reducible repeat (first | apply Kd.R_alloc | apply Kd.R_drewN | apply Kd.R_drew)); exact HO_7.out) hb); have n2_ := Aside0.mk (below_step (by repeat (first | (with_reducible first | exact HB.out | apply below_alloc | apply pw_below_drewN | apply below_drew1) | exact HB.out)) hb); clear HO_5; clear HO_7; clear HB; have HO_5 := n0_; have HO_7 := n1_; have HB := n2_; clear n0_ n1_ n2_; (try clear hb); (try clear hb2); (try clear hk); (try clear hi)))
        repeat (go_quiet (first | (go_at_call 39; (with_reducible refine (haberdashlaw03_awake.calls kj6  t475 _ A16.out).mono ?_); rintro e w17 ⟨rfl, hb⟩; have n0_ := Aside0.mk (Kd.R_below (by (with_reducible repeat (first | apply Kd.R_alloc | apply Kd.R_drewN | apply Kd.R_drew)); exact HO_5.out) hb); have n1_ := Aside0.mk (Kd.R_below (by (with_reducible repeat (first | apply Kd.R_alloc | apply Kd.R_drewN | apply Kd.R_drew)); exact HO_7.out) hb); have n2_ := Aside0.mk (below_step (by repeat (first | (with_reducible first | exact HB.out | apply below_alloc | apply pw_below_drewN | apply below_drew1) | exact HB.out)) hb); clear HO_5; clear HO_7; clear HB; have HO_5 := n0_; have HO_7 := n1_; have HB := n2_; clear n0_ n1_ n2_; (try clear hb); (try clear hb2); (try clear hk); (try clear hi))); try go_wp2_with (first | (go_at_call 39; (with_reducible refine (haberdashlaw03_awake.calls kj6  t475 _ A16.out).mono ?_); rintro e w17 ⟨rfl, hb⟩; have n0_ := Aside0.mk (Kd.R_below (by (with_reducible repeat (first | apply Kd.R_alloc | apply Kd.R_drewN | apply Kd.R_drew)); exact HO_5.out) hb); have n1_ := Aside0.mk (Kd.R_below (by (with_reducible repeat (first | apply Kd.R_alloc | apply Kd.R_drewN | apply Kd.R_drew)); exact HO_7.out) hb); have n2_ := Aside0.mk (below_step (by repeat (first | (with_reducible first | exact HB.out | apply below_alloc | apply pw_below_drewN | apply below_drew1) | exact HB.out)) hb); clear HO_5; clear HO_7; clear HB; have HO_5 := n0_; have HO_7 := n1_; have HB := n2_; clear n0_ n1_ n2_; (try clear hb); (try clear hb2); (try clear hk); (try clear hi))))
        go_ret
        exact ⟨by first | rfl | (simp [errW_none, errW_some] <;> rfl) | (simp [*, errW_none, errW_some] <;> rfl), by repeat (first | (with_reducible first | exact HB.out | apply below_alloc | apply pw_below_drewN | apply below_drew1) | exact HB.out)⟩
      · replace c15 := Bool.eq_false_iff.mpr c15
        subst c15
        have H1 : (if t471 = 0 then (haberdashlaw03_ShareFair.j1 kj6 t465 t466 t469 t470 ((t470.length : Int) != (t466.length : Int))) else (haberdashlaw03_ShareFair.j1 kj6 t465 t466 t469 t470 true)) = some r := by rw [if_neg (show ¬ (false = true) by decide)] at H; exact H
        clear H
        have H := H1
        clear H1
        have HC18 := Aside0.mk H
        clear H
        go_upto_region 7 with (fail)
        repeat (go_quiet (fail); go_upto_region 7 with (fail))
        go_cut [40] (fun v40 wc => ∃ (kq : Nat) (x40_17 : Bool), v40 = .bool x40_17 ∧ Aside0 (haberdashlaw03_ShareFair.j1 kq t465 t466 t469 t470 x40_17 = some r) ∧ Aside0 (kq ≤ kj6) ∧ Aside0 (Kd.R (Kd.int .i64) 2 wc w.heap.size (fun k_ => some k_ ≠ (v472 : Value).ownBlock) (.slice Ao9 t466.length co9) t466) ∧ Aside0 (Kd.R (Kd.int .i64) 2 wc w.heap.size (fun k_ => some k_ ≠ ((.slice Ao9 t466.length co9) : Value).ownBlock) v472 t470) ∧ Aside0 (Below w.heap.size w wc))
        case first =>
          have H := HC18.out
          clear HC18
          by_cases c19 : t471 = 0
          · rw [if_pos c19] at H
            have c19b0 : (t471 == 0) = true := beq_iff_eq.mpr c19
            have c19b1 : (t471 != 0) = false := bne_eq_false_iff_eq.mpr c19
            clear c19
            (first | rw [c19b0] | (simp only [i64_w, i32_w]; rw [c19b0]) | skip)
            have H' := Aside0.mk H
            clear H
            obtain ⟨Ao20, co20, eo20⟩ := Kd.R_slice HO_7.out
            subst eo20
            go_wp2
            repeat (go_quiet (fail); try go_wp2)
            go_meet
            case rel => exact ⟨_, (((t470.length : Int) != (t466.length : Int))), (by first | rfl | (simp; done) | (simp [*]; done)), H', ⟨by have := HJ6.out; first | omega | exact Nat.le_refl _⟩, ⟨by (with_reducible repeat (first | apply Kd.R_alloc | apply Kd.R_drewN | apply Kd.R_drew)); exact HO_5.out⟩, ⟨by (with_reducible repeat (first | apply Kd.R_alloc | apply Kd.R_drewN | apply Kd.R_drew)); exact HO_7.out⟩, ⟨by repeat (first | (with_reducible first | exact HB.out | apply below_alloc | apply pw_below_drewN | apply below_drew1) | exact HB.out)⟩⟩
          · rw [if_neg c19] at H
            have c19b0 : (t471 == 0) = false := beq_eq_false_iff_ne.mpr c19
            have c19b1 : (t471 != 0) = true := bne_iff_ne.mpr c19
            (first | rw [c19b0] | (simp only [i64_w, i32_w]; rw [c19b0]) | skip)
            have H' := Aside0.mk H
            clear H
            go_wp2
            repeat (go_quiet (fail); try go_wp2)
            go_meet
            case rel => exact ⟨_, (true), (by first | rfl | (simp; done) | (simp [*]; done)), H', ⟨by have := HJ6.out; first | omega | exact Nat.le_refl _⟩, ⟨by (with_reducible repeat (first | apply Kd.R_alloc | apply Kd.R_drewN | apply Kd.R_drew)); exact HO_5.out⟩, ⟨by (with_reducible repeat (first | apply Kd.R_alloc | apply Kd.R_drewN | apply Kd.R_drew)); exact HO_7.out⟩, ⟨by repeat (first | (with_reducible first | exact HB.out | apply below_alloc | apply pw_below_drewN | apply below_drew1) | exact HB.out)⟩⟩
        case rest =>
          clear HC18
          try clear c1
          try clear p2
          try clear c10
          try clear c12
          try clear c15
          try clear c19
          try clear c19b0
          try clear c19b1
          try clear p2
          obtain ⟨kq, x40_17, rfl, HA, HJ17, HO_5, HO_7, HB⟩ := hcut
          cases kq with
          | zero => exact absurd HA.out (by simp [haberdashlaw03_ShareFair.j1])
          | succ kj17 =>
            have H := HA.out
            clear HA
            simp only [haberdashlaw03_ShareFair.j1] at H
            by_cases c21 : x40_17 = true
            · subst c21
              have H1 : (some false) = some r := by rw [if_pos rfl] at H; exact H
              clear H
              have H := H1
              clear H1
              obtain rfl := Option.some.inj H
              go_wp2
              repeat (go_quiet (fail); try go_wp2)
              go_ret
              exact ⟨by first | rfl | (simp [errW_none, errW_some] <;> rfl) | (simp [*, errW_none, errW_some] <;> rfl), by repeat (first | (with_reducible first | exact HB.out | apply below_alloc | apply pw_below_drewN | apply below_drew1) | exact HB.out)⟩
            · replace c21 := Bool.eq_false_iff.mpr c21
              subst c21
              have H1 : (haberdashlaw03_ShareFair.l0 kj17 t465 t466 t469 t470 0) = some r := by rw [if_neg (show ¬ (false = true) by decide)] at H; exact H
              clear H
              have H := H1
              clear H1
              have H' := Aside0.mk H
              clear H
              go_wp2
              repeat (go_quiet (fail); try go_wp2)
              go_loopg [9] kj17 (fun kq v9 w' => ∃ (x9_3 : Int), v9 = .int .i64 x9_3 ∧ Aside0 (haberdashlaw03_ShareFair.l0 kq t465 t466 t469 t470 x9_3 = some r) ∧ Aside0 (kq ≤ kj17) ∧ Aside0 (Kd.R (Kd.int .i64) 2 w' w.heap.size (fun k_ => some k_ ≠ (v472 : Value).ownBlock) (.slice Ao9 t466.length co9) t466) ∧ Aside0 (Kd.R (Kd.int .i64) 2 w' w.heap.size (fun k_ => some k_ ≠ ((.slice Ao9 t466.length co9) : Value).ownBlock) v472 t470) ∧ Aside0 (Below w.heap.size w w'))
              case atStart => exact ⟨(0), (by first | rfl | (simp; done) | (simp [*]; done)), H', ⟨Nat.le_refl _⟩, ⟨by (with_reducible repeat (first | apply Kd.R_alloc | apply Kd.R_drewN | apply Kd.R_drew)); exact HO_5.out⟩, ⟨by (with_reducible repeat (first | apply Kd.R_alloc | apply Kd.R_drewN | apply Kd.R_drew)); exact HO_7.out⟩, ⟨by repeat (first | (with_reducible first | exact HB.out | apply below_alloc | apply pw_below_drewN | apply below_drew1) | exact HB.out)⟩⟩
              case round =>
                clear H'
                try clear c1
                try clear c2
                try clear p2
                try clear c10
                try clear c12
                try clear c15
                try clear c19
                try clear c19b0
                try clear c19b1
                try clear c21
                try clear p2
                obtain ⟨x9_3, rfl, HA, HK3, HO_5, HO_7, HB⟩ := hrel
                cases gk with
                | zero => exact absurd HA.out (by simp [haberdashlaw03_ShareFair.l0])
                | succ k3 =>
                  have H := HA.out
                  clear HA
                  simp only [haberdashlaw03_ShareFair.l0] at H
                  by_cases c22 : x9_3 < (t470.length : Int)
                  · rw [if_pos c22] at H
                    have c22b0 : decide (x9_3 < (t470.length : Int)) = true := decide_eq_true c22
                    clear c22
                    have H' := Aside0.mk H
                    clear H
                    obtain ⟨Ao23, co23, eo23⟩ := Kd.R_slice HO_7.out
                    subst eo23
                    go_wp2
                    repeat (go_quiet (fail); try go_wp2)
                    go_loopg [10] k3 (fun kq v10 w' => ∃ (x10_4 : Int), v10 = .int .i64 x10_4 ∧ Aside0 (haberdashlaw03_ShareFair.l1 kq t465 t466 t469 t470 x9_3 x10_4 = some r) ∧ Aside0 (kq ≤ k3) ∧ Aside0 (Kd.R (Kd.int .i64) 2 w' w.heap.size (fun k_ => some k_ ≠ ((.slice Ao23 t470.length co23) : Value).ownBlock) (.slice Ao9 t466.length co9) t466) ∧ Aside0 (Kd.R (Kd.int .i64) 2 w' w.heap.size (fun k_ => some k_ ≠ ((.slice Ao9 t466.length co9) : Value).ownBlock) (.slice Ao23 t470.length co23) t470) ∧ Aside0 (Below w.heap.size w w'))
                    case atStart => exact ⟨(0), (by first | rfl | (simp; done) | (simp [*]; done)), H', ⟨Nat.le_refl _⟩, ⟨by (with_reducible repeat (first | apply Kd.R_alloc | apply Kd.R_drewN | apply Kd.R_drew)); exact HO_5.out⟩, ⟨by (with_reducible repeat (first | apply Kd.R_alloc | apply Kd.R_drewN | apply Kd.R_drew)); exact HO_7.out⟩, ⟨by repeat (first | (with_reducible first | exact HB.out | apply below_alloc | apply pw_below_drewN | apply below_drew1) | exact HB.out)⟩⟩
                    case round =>
                      clear H'
                      try clear c1
                      try clear c2
                      try clear p2
                      try clear c10
                      try clear c12
                      try clear c15
                      try clear c19
                      try clear c19b0
                      try clear c19b1
                      try clear c21
                      try clear c22
                      try clear c22b0
                      try clear p2
                      obtain ⟨x10_4, rfl, HA, HK4, HO_5, HO_7, HB⟩ := hrel
                      cases gk with
                      | zero => exact absurd HA.out (by simp [haberdashlaw03_ShareFair.l1])
                      | succ k4 =>
                        have H := HA.out
                        clear HA
                        simp only [haberdashlaw03_ShareFair.l1] at H
                        by_cases c24 : x10_4 < (t470.length : Int)
                        · rw [if_pos c24] at H
                          have c24b0 : decide (x10_4 < (t470.length : Int)) = true := decide_eq_true c24
                          clear c24
                          by_cases c25 : 0 ≤ x9_3
                          · rw [if_pos c25] at H
                            have c25b0 : decide (0 ≤ x9_3) = true := decide_eq_true c25
                            clear c25
                            by_cases c26 : x9_3 < (t466.length : Int)
                            · rw [if_pos c26] at H
                              have c26b0 : decide (x9_3 < (t466.length : Int)) = true := decide_eq_true c26
                              clear c26
                              by_cases c27 : t469 = 0
                              · rw [if_pos c27] at H
                                exact absurd H (by simp)
                              · rw [if_neg c27] at H
                                have c27b0 : (t469 == 0) = false := beq_eq_false_iff_ne.mpr c27
                                have c27b1 : (t469 != 0) = true := bne_iff_ne.mpr c27
                                by_cases c28 : 0 ≤ x10_4
                                · rw [if_pos c28] at H
                                  have c28b0 : decide (0 ≤ x10_4) = true := decide_eq_true c28
                                  clear c28
                                  by_cases c29 : x10_4 < (t466.length : Int)
                                  · rw [if_pos c29] at H
                                    have c29b0 : decide (x10_4 < (t466.length : Int)) = true := decide_eq_true c29
                                    clear c29
                                    by_cases c30 : x9_3 < (t470.length : Int)
                                    · rw [if_pos c30] at H
                                      have c30b0 : decide (x9_3 < (t470.length : Int)) = true := decide_eq_true c30
                                      clear c30
                                      by_cases c31 : (rd t470 x9_3) > (wrap64 (Int.tdiv (wrap64 (t465 * (rd t466 x9_3))) t469))
                                      · rw [if_pos c31] at H
                                        have c31b0 : decide ((wrap64 (Int.tdiv (wrap64 (t465 * (rd t466 x9_3))) t469)) < (rd t470 x9_3)) = true := decide_eq_true c31
                                        clear c31
                                        by_cases c32 : (rd t470 x10_4) = (wrap64 (Int.tdiv (wrap64 (t465 * (rd t466 x10_4))) t469))
                                        · rw [if_pos c32] at H
                                          have c32b0 : ((rd t470 x10_4) == (wrap64 (Int.tdiv (wrap64 (t465 * (rd t466 x10_4))) t469))) = true := beq_iff_eq.mpr c32
                                          have c32b1 : ((rd t470 x10_4) != (wrap64 (Int.tdiv (wrap64 (t465 * (rd t466 x10_4))) t469))) = false := bne_eq_false_iff_eq.mpr c32
                                          clear c32
                                          by_cases c33 : (Int.tmod (wrap64 (t465 * (rd t466 x9_3))) t469) < (Int.tmod (wrap64 (t465 * (rd t466 x10_4))) t469)
                                          · rw [if_pos c33] at H
                                            have c33b0 : decide ((Int.tmod (wrap64 (t465 * (rd t466 x9_3))) t469) < (Int.tmod (wrap64 (t465 * (rd t466 x10_4))) t469)) = true := decide_eq_true c33
                                            clear c33
                                            obtain rfl := Option.some.inj H
                                            have p476 : 0 ≤ (x9_3 : Int) := of_decide_eq_true (by first | (with_reducible assumption) | assumption)
                                            have q476 : x9_3 < (t466.length : Int) := of_decide_eq_true (by first | (with_reducible assumption) | assumption)
                                            obtain ⟨ad476, e476, hx476_0⟩ := Kd.at_int (Kd.R_reads' HO_5.out).2.2 x9_3 p476 q476
                                            cases e476
                                            replace p476 := eq_true p476
                                            replace q476 := eq_true q476
                                            have p477 : 0 ≤ (x10_4 : Int) := of_decide_eq_true (by first | (with_reducible assumption) | assumption)
                                            have q477 : x10_4 < (t466.length : Int) := of_decide_eq_true (by first | (with_reducible assumption) | assumption)
                                            obtain ⟨ad477, e477, hx477_0⟩ := Kd.at_int (Kd.R_reads' HO_5.out).2.2 x10_4 p477 q477
                                            obtain rfl : ad476 = ad477 := (by injection e477)
                                            replace p477 := eq_true p477
                                            replace q477 := eq_true q477
                                            have p478 : 0 ≤ (x9_3 : Int) := of_decide_eq_true (by first | (with_reducible assumption) | assumption)
                                            have q478 : x9_3 < (t470.length : Int) := of_decide_eq_true (by first | (with_reducible assumption) | assumption)
                                            obtain ⟨ad478, e478, hx478_0⟩ := Kd.at_int (Kd.R_reads' HO_7.out).2.2 x9_3 p478 q478
                                            cases e478
                                            replace p478 := eq_true p478
                                            replace q478 := eq_true q478
                                            have p479 : 0 ≤ (x9_3 : Int) := of_decide_eq_true (by first | (with_reducible assumption) | assumption)
                                            have q479 : x9_3 < (t466.length : Int) := of_decide_eq_true (by first | (with_reducible assumption) | assumption)
                                            obtain ⟨ad479, e479, hx479_0⟩ := Kd.at_int (Kd.R_reads' HO_5.out).2.2 x9_3 p479 q479
                                            obtain rfl : ad476 = ad479 := (by injection e479)
                                            replace p479 := eq_true p479
                                            replace q479 := eq_true q479
                                            have p480 : 0 ≤ (x10_4 : Int) := of_decide_eq_true (by first | (with_reducible assumption) | assumption)
                                            have q480 : x10_4 < (t470.length : Int) := of_decide_eq_true (by first | (with_reducible assumption) | assumption)
                                            obtain ⟨ad480, e480, hx480_0⟩ := Kd.at_int (Kd.R_reads' HO_7.out).2.2 x10_4 p480 q480
                                            obtain rfl : ad478 = ad480 := (by injection e480)
                                            replace p480 := eq_true p480
                                            replace q480 := eq_true q480
                                            have p481 : 0 ≤ (x10_4 : Int) := of_decide_eq_true (by first | (with_reducible assumption) | assumption)
                                            have q481 : x10_4 < (t466.length : Int) := of_decide_eq_true (by first | (with_reducible assumption) | assumption)
                                            obtain ⟨ad481, e481, hx481_0⟩ := Kd.at_int (Kd.R_reads' HO_5.out).2.2 x10_4 p481 q481
                                            obtain rfl : ad476 = ad481 := (by injection e481)
                                            replace p481 := eq_true p481
                                            replace q481 := eq_true q481
                                            go_wp2
                                            repeat (go_quiet (fail); try go_wp2)
                                            go_ret
                                            exact ⟨by first | rfl | (simp [errW_none, errW_some] <;> rfl) | (simp [*, errW_none, errW_some] <;> rfl), by repeat (first | (with_reducible first | exact HB.out | apply below_alloc | apply pw_below_drewN | apply below_drew1) | exact HB.out)⟩
                                          · rw [if_neg c33] at H
                                            have c33b0 : decide ((Int.tmod (wrap64 (t465 * (rd t466 x9_3))) t469) < (Int.tmod (wrap64 (t465 * (rd t466 x10_4))) t469)) = false := decide_eq_false c33
                                            clear c33
                                            by_cases c34 : (Int.tmod (wrap64 (t465 * (rd t466 x9_3))) t469) = (Int.tmod (wrap64 (t465 * (rd t466 x10_4))) t469)
                                            · rw [if_pos c34] at H
                                              have c34b0 : ((Int.tmod (wrap64 (t465 * (rd t466 x9_3))) t469) == (Int.tmod (wrap64 (t465 * (rd t466 x10_4))) t469)) = true := beq_iff_eq.mpr c34
                                              have c34b1 : ((Int.tmod (wrap64 (t465 * (rd t466 x9_3))) t469) != (Int.tmod (wrap64 (t465 * (rd t466 x10_4))) t469)) = false := bne_eq_false_iff_eq.mpr c34
                                              clear c34
                                              by_cases c35 : x9_3 > x10_4
                                              · rw [if_pos c35] at H
                                                have c35b0 : decide (x10_4 < x9_3) = true := decide_eq_true c35
                                                clear c35
                                                obtain rfl := Option.some.inj H
                                                have p476 : 0 ≤ (x9_3 : Int) := of_decide_eq_true (by first | (with_reducible assumption) | assumption)
                                                have q476 : x9_3 < (t466.length : Int) := of_decide_eq_true (by first | (with_reducible assumption) | assumption)
                                                obtain ⟨ad476, e476, hx476_0⟩ := Kd.at_int (Kd.R_reads' HO_5.out).2.2 x9_3 p476 q476
                                                cases e476
                                                replace p476 := eq_true p476
                                                replace q476 := eq_true q476
                                                have p477 : 0 ≤ (x10_4 : Int) := of_decide_eq_true (by first | (with_reducible assumption) | assumption)
                                                have q477 : x10_4 < (t466.length : Int) := of_decide_eq_true (by first | (with_reducible assumption) | assumption)
                                                obtain ⟨ad477, e477, hx477_0⟩ := Kd.at_int (Kd.R_reads' HO_5.out).2.2 x10_4 p477 q477
                                                obtain rfl : ad476 = ad477 := (by injection e477)
                                                replace p477 := eq_true p477
                                                replace q477 := eq_true q477
                                                have p478 : 0 ≤ (x9_3 : Int) := of_decide_eq_true (by first | (with_reducible assumption) | assumption)
                                                have q478 : x9_3 < (t470.length : Int) := of_decide_eq_true (by first | (with_reducible assumption) | assumption)
                                                obtain ⟨ad478, e478, hx478_0⟩ := Kd.at_int (Kd.R_reads' HO_7.out).2.2 x9_3 p478 q478
                                                cases e478
                                                replace p478 := eq_true p478
                                                replace q478 := eq_true q478
                                                have p479 : 0 ≤ (x9_3 : Int) := of_decide_eq_true (by first | (with_reducible assumption) | assumption)
                                                have q479 : x9_3 < (t466.length : Int) := of_decide_eq_true (by first | (with_reducible assumption) | assumption)
                                                obtain ⟨ad479, e479, hx479_0⟩ := Kd.at_int (Kd.R_reads' HO_5.out).2.2 x9_3 p479 q479
                                                obtain rfl : ad476 = ad479 := (by injection e479)
                                                replace p479 := eq_true p479
                                                replace q479 := eq_true q479
                                                have p480 : 0 ≤ (x10_4 : Int) := of_decide_eq_true (by first | (with_reducible assumption) | assumption)
                                                have q480 : x10_4 < (t470.length : Int) := of_decide_eq_true (by first | (with_reducible assumption) | assumption)
                                                obtain ⟨ad480, e480, hx480_0⟩ := Kd.at_int (Kd.R_reads' HO_7.out).2.2 x10_4 p480 q480
                                                obtain rfl : ad478 = ad480 := (by injection e480)
                                                replace p480 := eq_true p480
                                                replace q480 := eq_true q480
                                                have p481 : 0 ≤ (x10_4 : Int) := of_decide_eq_true (by first | (with_reducible assumption) | assumption)
                                                have q481 : x10_4 < (t466.length : Int) := of_decide_eq_true (by first | (with_reducible assumption) | assumption)
                                                obtain ⟨ad481, e481, hx481_0⟩ := Kd.at_int (Kd.R_reads' HO_5.out).2.2 x10_4 p481 q481
                                                obtain rfl : ad476 = ad481 := (by injection e481)
                                                replace p481 := eq_true p481
                                                replace q481 := eq_true q481
                                                go_wp2
                                                repeat (go_quiet (fail); try go_wp2)
                                                go_ret
                                                exact ⟨by first | rfl | (simp [errW_none, errW_some] <;> rfl) | (simp [*, errW_none, errW_some] <;> rfl), by repeat (first | (with_reducible first | exact HB.out | apply below_alloc | apply pw_below_drewN | apply below_drew1) | exact HB.out)⟩
                                              · rw [if_neg c35] at H
                                                have c35b0 : decide (x10_4 < x9_3) = false := decide_eq_false c35
                                                clear c35
                                                have H' := Aside0.mk H
                                                clear H
                                                have p476 : 0 ≤ (x9_3 : Int) := of_decide_eq_true (by first | (with_reducible assumption) | assumption)
                                                have q476 : x9_3 < (t466.length : Int) := of_decide_eq_true (by first | (with_reducible assumption) | assumption)
                                                obtain ⟨ad476, e476, hx476_0⟩ := Kd.at_int (Kd.R_reads' HO_5.out).2.2 x9_3 p476 q476
                                                cases e476
                                                replace p476 := eq_true p476
                                                replace q476 := eq_true q476
                                                have p477 : 0 ≤ (x10_4 : Int) := of_decide_eq_true (by first | (with_reducible assumption) | assumption)
                                                have q477 : x10_4 < (t466.length : Int) := of_decide_eq_true (by first | (with_reducible assumption) | assumption)
                                                obtain ⟨ad477, e477, hx477_0⟩ := Kd.at_int (Kd.R_reads' HO_5.out).2.2 x10_4 p477 q477
                                                obtain rfl : ad476 = ad477 := (by injection e477)
                                                replace p477 := eq_true p477
                                                replace q477 := eq_true q477
                                                have p478 : 0 ≤ (x9_3 : Int) := of_decide_eq_true (by first | (with_reducible assumption) | assumption)
                                                have q478 : x9_3 < (t470.length : Int) := of_decide_eq_true (by first | (with_reducible assumption) | assumption)
                                                obtain ⟨ad478, e478, hx478_0⟩ := Kd.at_int (Kd.R_reads' HO_7.out).2.2 x9_3 p478 q478
                                                cases e478
                                                replace p478 := eq_true p478
                                                replace q478 := eq_true q478
                                                have p479 : 0 ≤ (x9_3 : Int) := of_decide_eq_true (by first | (with_reducible assumption) | assumption)
                                                have q479 : x9_3 < (t466.length : Int) := of_decide_eq_true (by first | (with_reducible assumption) | assumption)
                                                obtain ⟨ad479, e479, hx479_0⟩ := Kd.at_int (Kd.R_reads' HO_5.out).2.2 x9_3 p479 q479
                                                obtain rfl : ad476 = ad479 := (by injection e479)
                                                replace p479 := eq_true p479
                                                replace q479 := eq_true q479
                                                have p480 : 0 ≤ (x10_4 : Int) := of_decide_eq_true (by first | (with_reducible assumption) | assumption)
                                                have q480 : x10_4 < (t470.length : Int) := of_decide_eq_true (by first | (with_reducible assumption) | assumption)
                                                obtain ⟨ad480, e480, hx480_0⟩ := Kd.at_int (Kd.R_reads' HO_7.out).2.2 x10_4 p480 q480
                                                obtain rfl : ad478 = ad480 := (by injection e480)
                                                replace p480 := eq_true p480
                                                replace q480 := eq_true q480
                                                have p481 : 0 ≤ (x10_4 : Int) := of_decide_eq_true (by first | (with_reducible assumption) | assumption)
                                                have q481 : x10_4 < (t466.length : Int) := of_decide_eq_true (by first | (with_reducible assumption) | assumption)
                                                obtain ⟨ad481, e481, hx481_0⟩ := Kd.at_int (Kd.R_reads' HO_5.out).2.2 x10_4 p481 q481
                                                obtain rfl : ad476 = ad481 := (by injection e481)
                                                replace p481 := eq_true p481
                                                replace q481 := eq_true q481
                                                go_wp2
                                                repeat (go_quiet (fail); try go_wp2)
                                                go_roundg k4
                                                case measure => have := HJ6.out; have := HJ17.out; have := HK3.out; have := HK4.out; omega
                                                case rel => exact ⟨(wrap64 (x10_4 + 1)), (by first | rfl | (simp; done) | (simp [*]; done)), H', ⟨by have := HJ6.out; have := HJ17.out; have := HK3.out; have := HK4.out; omega⟩, ⟨by (with_reducible repeat (first | apply Kd.R_alloc | apply Kd.R_drewN | apply Kd.R_drew)); exact HO_5.out⟩, ⟨by (with_reducible repeat (first | apply Kd.R_alloc | apply Kd.R_drewN | apply Kd.R_drew)); exact HO_7.out⟩, ⟨by repeat (first | (with_reducible first | exact HB.out | apply below_alloc | apply pw_below_drewN | apply below_drew1) | exact HB.out)⟩⟩
                                            · rw [if_neg c34] at H
                                              have c34b0 : ((Int.tmod (wrap64 (t465 * (rd t466 x9_3))) t469) == (Int.tmod (wrap64 (t465 * (rd t466 x10_4))) t469)) = false := beq_eq_false_iff_ne.mpr c34
                                              have c34b1 : ((Int.tmod (wrap64 (t465 * (rd t466 x9_3))) t469) != (Int.tmod (wrap64 (t465 * (rd t466 x10_4))) t469)) = true := bne_iff_ne.mpr c34
                                              have H' := Aside0.mk H
                                              clear H
                                              have p476 : 0 ≤ (x9_3 : Int) := of_decide_eq_true (by first | (with_reducible assumption) | assumption)
                                              have q476 : x9_3 < (t466.length : Int) := of_decide_eq_true (by first | (with_reducible assumption) | assumption)
                                              obtain ⟨ad476, e476, hx476_0⟩ := Kd.at_int (Kd.R_reads' HO_5.out).2.2 x9_3 p476 q476
                                              cases e476
                                              replace p476 := eq_true p476
                                              replace q476 := eq_true q476
                                              have p477 : 0 ≤ (x10_4 : Int) := of_decide_eq_true (by first | (with_reducible assumption) | assumption)
                                              have q477 : x10_4 < (t466.length : Int) := of_decide_eq_true (by first | (with_reducible assumption) | assumption)
                                              obtain ⟨ad477, e477, hx477_0⟩ := Kd.at_int (Kd.R_reads' HO_5.out).2.2 x10_4 p477 q477
                                              obtain rfl : ad476 = ad477 := (by injection e477)
                                              replace p477 := eq_true p477
                                              replace q477 := eq_true q477
                                              have p478 : 0 ≤ (x9_3 : Int) := of_decide_eq_true (by first | (with_reducible assumption) | assumption)
                                              have q478 : x9_3 < (t470.length : Int) := of_decide_eq_true (by first | (with_reducible assumption) | assumption)
                                              obtain ⟨ad478, e478, hx478_0⟩ := Kd.at_int (Kd.R_reads' HO_7.out).2.2 x9_3 p478 q478
                                              cases e478
                                              replace p478 := eq_true p478
                                              replace q478 := eq_true q478
                                              have p479 : 0 ≤ (x9_3 : Int) := of_decide_eq_true (by first | (with_reducible assumption) | assumption)
                                              have q479 : x9_3 < (t466.length : Int) := of_decide_eq_true (by first | (with_reducible assumption) | assumption)
                                              obtain ⟨ad479, e479, hx479_0⟩ := Kd.at_int (Kd.R_reads' HO_5.out).2.2 x9_3 p479 q479
                                              obtain rfl : ad476 = ad479 := (by injection e479)
                                              replace p479 := eq_true p479
                                              replace q479 := eq_true q479
                                              have p480 : 0 ≤ (x10_4 : Int) := of_decide_eq_true (by first | (with_reducible assumption) | assumption)
                                              have q480 : x10_4 < (t470.length : Int) := of_decide_eq_true (by first | (with_reducible assumption) | assumption)
                                              obtain ⟨ad480, e480, hx480_0⟩ := Kd.at_int (Kd.R_reads' HO_7.out).2.2 x10_4 p480 q480
                                              obtain rfl : ad478 = ad480 := (by injection e480)
                                              replace p480 := eq_true p480
                                              replace q480 := eq_true q480
                                              have p481 : 0 ≤ (x10_4 : Int) := of_decide_eq_true (by first | (with_reducible assumption) | assumption)
                                              have q481 : x10_4 < (t466.length : Int) := of_decide_eq_true (by first | (with_reducible assumption) | assumption)
                                              obtain ⟨ad481, e481, hx481_0⟩ := Kd.at_int (Kd.R_reads' HO_5.out).2.2 x10_4 p481 q481
                                              obtain rfl : ad476 = ad481 := (by injection e481)
                                              replace p481 := eq_true p481
                                              replace q481 := eq_true q481
                                              go_wp2
                                              repeat (go_quiet (fail); try go_wp2)
                                              go_roundg k4
                                              case measure => have := HJ6.out; have := HJ17.out; have := HK3.out; have := HK4.out; omega
                                              case rel => exact ⟨(wrap64 (x10_4 + 1)), (by first | rfl | (simp; done) | (simp [*]; done)), H', ⟨by have := HJ6.out; have := HJ17.out; have := HK3.out; have := HK4.out; omega⟩, ⟨by (with_reducible repeat (first | apply Kd.R_alloc | apply Kd.R_drewN | apply Kd.R_drew)); exact HO_5.out⟩, ⟨by (with_reducible repeat (first | apply Kd.R_alloc | apply Kd.R_drewN | apply Kd.R_drew)); exact HO_7.out⟩, ⟨by repeat (first | (with_reducible first | exact HB.out | apply below_alloc | apply pw_below_drewN | apply below_drew1) | exact HB.out)⟩⟩
                                        · rw [if_neg c32] at H
                                          have c32b0 : ((rd t470 x10_4) == (wrap64 (Int.tdiv (wrap64 (t465 * (rd t466 x10_4))) t469))) = false := beq_eq_false_iff_ne.mpr c32
                                          have c32b1 : ((rd t470 x10_4) != (wrap64 (Int.tdiv (wrap64 (t465 * (rd t466 x10_4))) t469))) = true := bne_iff_ne.mpr c32
                                          have H' := Aside0.mk H
                                          clear H
                                          have p476 : 0 ≤ (x9_3 : Int) := of_decide_eq_true (by first | (with_reducible assumption) | assumption)
                                          have q476 : x9_3 < (t466.length : Int) := of_decide_eq_true (by first | (with_reducible assumption) | assumption)
                                          obtain ⟨ad476, e476, hx476_0⟩ := Kd.at_int (Kd.R_reads' HO_5.out).2.2 x9_3 p476 q476
                                          cases e476
                                          replace p476 := eq_true p476
                                          replace q476 := eq_true q476
                                          have p477 : 0 ≤ (x10_4 : Int) := of_decide_eq_true (by first | (with_reducible assumption) | assumption)
                                          have q477 : x10_4 < (t466.length : Int) := of_decide_eq_true (by first | (with_reducible assumption) | assumption)
                                          obtain ⟨ad477, e477, hx477_0⟩ := Kd.at_int (Kd.R_reads' HO_5.out).2.2 x10_4 p477 q477
                                          obtain rfl : ad476 = ad477 := (by injection e477)
                                          replace p477 := eq_true p477
                                          replace q477 := eq_true q477
                                          have p478 : 0 ≤ (x9_3 : Int) := of_decide_eq_true (by first | (with_reducible assumption) | assumption)
                                          have q478 : x9_3 < (t470.length : Int) := of_decide_eq_true (by first | (with_reducible assumption) | assumption)
                                          obtain ⟨ad478, e478, hx478_0⟩ := Kd.at_int (Kd.R_reads' HO_7.out).2.2 x9_3 p478 q478
                                          cases e478
                                          replace p478 := eq_true p478
                                          replace q478 := eq_true q478
                                          have p479 : 0 ≤ (x9_3 : Int) := of_decide_eq_true (by first | (with_reducible assumption) | assumption)
                                          have q479 : x9_3 < (t466.length : Int) := of_decide_eq_true (by first | (with_reducible assumption) | assumption)
                                          obtain ⟨ad479, e479, hx479_0⟩ := Kd.at_int (Kd.R_reads' HO_5.out).2.2 x9_3 p479 q479
                                          obtain rfl : ad476 = ad479 := (by injection e479)
                                          replace p479 := eq_true p479
                                          replace q479 := eq_true q479
                                          have p480 : 0 ≤ (x10_4 : Int) := of_decide_eq_true (by first | (with_reducible assumption) | assumption)
                                          have q480 : x10_4 < (t470.length : Int) := of_decide_eq_true (by first | (with_reducible assumption) | assumption)
                                          obtain ⟨ad480, e480, hx480_0⟩ := Kd.at_int (Kd.R_reads' HO_7.out).2.2 x10_4 p480 q480
                                          obtain rfl : ad478 = ad480 := (by injection e480)
                                          replace p480 := eq_true p480
                                          replace q480 := eq_true q480
                                          have p481 : 0 ≤ (x10_4 : Int) := of_decide_eq_true (by first | (with_reducible assumption) | assumption)
                                          have q481 : x10_4 < (t466.length : Int) := of_decide_eq_true (by first | (with_reducible assumption) | assumption)
                                          obtain ⟨ad481, e481, hx481_0⟩ := Kd.at_int (Kd.R_reads' HO_5.out).2.2 x10_4 p481 q481
                                          obtain rfl : ad476 = ad481 := (by injection e481)
                                          replace p481 := eq_true p481
                                          replace q481 := eq_true q481
                                          go_wp2
                                          repeat (go_quiet (fail); try go_wp2)
                                          go_roundg k4
                                          case measure => have := HJ6.out; have := HJ17.out; have := HK3.out; have := HK4.out; omega
                                          case rel => exact ⟨(wrap64 (x10_4 + 1)), (by first | rfl | (simp; done) | (simp [*]; done)), H', ⟨by have := HJ6.out; have := HJ17.out; have := HK3.out; have := HK4.out; omega⟩, ⟨by (with_reducible repeat (first | apply Kd.R_alloc | apply Kd.R_drewN | apply Kd.R_drew)); exact HO_5.out⟩, ⟨by (with_reducible repeat (first | apply Kd.R_alloc | apply Kd.R_drewN | apply Kd.R_drew)); exact HO_7.out⟩, ⟨by repeat (first | (with_reducible first | exact HB.out | apply below_alloc | apply pw_below_drewN | apply below_drew1) | exact HB.out)⟩⟩
                                      · rw [if_neg c31] at H
                                        have c31b0 : decide ((wrap64 (Int.tdiv (wrap64 (t465 * (rd t466 x9_3))) t469)) < (rd t470 x9_3)) = false := decide_eq_false c31
                                        clear c31
                                        have H' := Aside0.mk H
                                        clear H
                                        have p476 : 0 ≤ (x9_3 : Int) := of_decide_eq_true (by first | (with_reducible assumption) | assumption)
                                        have q476 : x9_3 < (t466.length : Int) := of_decide_eq_true (by first | (with_reducible assumption) | assumption)
                                        obtain ⟨ad476, e476, hx476_0⟩ := Kd.at_int (Kd.R_reads' HO_5.out).2.2 x9_3 p476 q476
                                        cases e476
                                        replace p476 := eq_true p476
                                        replace q476 := eq_true q476
                                        have p477 : 0 ≤ (x10_4 : Int) := of_decide_eq_true (by first | (with_reducible assumption) | assumption)
                                        have q477 : x10_4 < (t466.length : Int) := of_decide_eq_true (by first | (with_reducible assumption) | assumption)
                                        obtain ⟨ad477, e477, hx477_0⟩ := Kd.at_int (Kd.R_reads' HO_5.out).2.2 x10_4 p477 q477
                                        obtain rfl : ad476 = ad477 := (by injection e477)
                                        replace p477 := eq_true p477
                                        replace q477 := eq_true q477
                                        have p478 : 0 ≤ (x9_3 : Int) := of_decide_eq_true (by first | (with_reducible assumption) | assumption)
                                        have q478 : x9_3 < (t470.length : Int) := of_decide_eq_true (by first | (with_reducible assumption) | assumption)
                                        obtain ⟨ad478, e478, hx478_0⟩ := Kd.at_int (Kd.R_reads' HO_7.out).2.2 x9_3 p478 q478
                                        cases e478
                                        replace p478 := eq_true p478
                                        replace q478 := eq_true q478
                                        have p479 : 0 ≤ (x9_3 : Int) := of_decide_eq_true (by first | (with_reducible assumption) | assumption)
                                        have q479 : x9_3 < (t466.length : Int) := of_decide_eq_true (by first | (with_reducible assumption) | assumption)
                                        obtain ⟨ad479, e479, hx479_0⟩ := Kd.at_int (Kd.R_reads' HO_5.out).2.2 x9_3 p479 q479
                                        obtain rfl : ad476 = ad479 := (by injection e479)
                                        replace p479 := eq_true p479
                                        replace q479 := eq_true q479
                                        go_wp2
                                        repeat (go_quiet (fail); try go_wp2)
                                        go_roundg k4
                                        case measure => have := HJ6.out; have := HJ17.out; have := HK3.out; have := HK4.out; omega
                                        case rel => exact ⟨(wrap64 (x10_4 + 1)), (by first | rfl | (simp; done) | (simp [*]; done)), H', ⟨by have := HJ6.out; have := HJ17.out; have := HK3.out; have := HK4.out; omega⟩, ⟨by (with_reducible repeat (first | apply Kd.R_alloc | apply Kd.R_drewN | apply Kd.R_drew)); exact HO_5.out⟩, ⟨by (with_reducible repeat (first | apply Kd.R_alloc | apply Kd.R_drewN | apply Kd.R_drew)); exact HO_7.out⟩, ⟨by repeat (first | (with_reducible first | exact HB.out | apply below_alloc | apply pw_below_drewN | apply below_drew1) | exact HB.out)⟩⟩
                                    · rw [if_neg c30] at H
                                      exact absurd H (by simp)
                                  · rw [if_neg c29] at H
                                    exact absurd H (by simp)
                                · rw [if_neg c28] at H
                                  exact absurd H (by simp)
                            · rw [if_neg c26] at H
                              exact absurd H (by simp)
                          · rw [if_neg c25] at H
                            exact absurd H (by simp)
                        · rw [if_neg c24] at H
                          have c24b0 : decide (x10_4 < (t470.length : Int)) = false := decide_eq_false c24
                          clear c24
                          have H' := Aside0.mk H
                          clear H
                          go_wp2
                          repeat (go_quiet (fail); try go_wp2)
                          go_roundg k4
                          case measure => have := HJ6.out; have := HJ17.out; have := HK3.out; have := HK4.out; omega
                          case rel => exact ⟨(wrap64 (x9_3 + 1)), (by first | rfl | (simp; done) | (simp [*]; done)), H', ⟨by have := HJ6.out; have := HJ17.out; have := HK3.out; have := HK4.out; omega⟩, ⟨by (with_reducible repeat (first | apply Kd.R_alloc | apply Kd.R_drewN | apply Kd.R_drew)); exact HO_5.out⟩, ⟨by (with_reducible repeat (first | apply Kd.R_alloc | apply Kd.R_drewN | apply Kd.R_drew)); exact HO_7.out⟩, ⟨by repeat (first | (with_reducible first | exact HB.out | apply below_alloc | apply pw_below_drewN | apply below_drew1) | exact HB.out)⟩⟩
                  · rw [if_neg c22] at H
                    have c22b0 : decide (x9_3 < (t470.length : Int)) = false := decide_eq_false c22
                    clear c22
                    obtain rfl := Option.some.inj H
                    obtain ⟨Ao36, co36, eo36⟩ := Kd.R_slice HO_7.out
                    subst eo36
                    go_wp2
                    repeat (go_quiet (fail); try go_wp2)
                    go_ret
                    exact ⟨by first | rfl | (simp [errW_none, errW_some] <;> rfl) | (simp [*, errW_none, errW_some] <;> rfl), by repeat (first | (with_reducible first | exact HB.out | apply below_alloc | apply pw_below_drewN | apply below_drew1) | exact HB.out)⟩

/-- THE ONE PURE STATEMENT of haberdashlaw03_ShareFair: yours. -/
def haberdashlaw03_ShareFair.Pure : Prop := ∀ (a0 : Int) (l1 : List Int), (Lit.int .i64 a0).wf = true → l1.length ≤ maxLen → l1.length * 8 ≤ 140737488351232 → (∀ x ∈ l1, (Lit.int .i64 x).wf = true) → ∃ k, haberdashlaw03_ShareFair.f k a0 l1 = some true
theorem haberdashlaw03_ShareFair.walk (P : haberdashlaw03_ShareFair.Pure) (a0 : Int) (a1 : Option Addr) (len1 cap1 : Nat) (z1 : List Int) (w : World) (w0 : (Lit.int .i64 a0).wf = true) (w1 : (a1 = none ∧ len1 = 0 ∧ cap1 = 0 ∧ z1 = []) ∨ ∃ x, a1 = some x ∧ len1 ≤ cap1 ∧ cap1 ≤ maxLen ∧ z1.length = cap1 ∧ (∀ i, i < z1.length → w.cell? (x.add i) = some (.int .i64 (z1.getD i 0))) ∧ ∀ n ∈ z1, (Lit.int .i64 n).wf = true) (y1 : len1 * 8 ≤ 140737488351232) :
    Calls Try.prog 10 #[.int .i64 a0, .slice a1 len1 cap1] w fun e w' => e = .returned (.bool true) ∧ Below w.heap.size w w' := by
  obtain ⟨l1, rfl, hr1, hm1, hw1, hc1⟩ := ReadsInt.ofRowC w1
  obtain ⟨k, h⟩ := P a0 l1 w0 hm1 y1 hw1
  refine (haberdashlaw03_ShareFair.calls k a0 _ _ l1 true w (Kd.C_of_reads (d := (0 : Int)) (h1 := fun _ => rfl) hr1) hc1 h).mono ?_
  rintro e w' ⟨rfl, hd⟩
  exact ⟨rfl, hd⟩


end Go.Proofs.Ytegjbbblpnenfaa.Rw
