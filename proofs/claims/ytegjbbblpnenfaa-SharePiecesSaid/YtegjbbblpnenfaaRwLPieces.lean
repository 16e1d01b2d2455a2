/- Functions of the program as Lean functions, each with its contract: out of what the kit's printer wrote for this seat. -/
import Derived.Test.YtegjbbblpnenfaaRwA
import Derived.Test.YtegjbbblpnenfaaRwL03
import Derived.Test.YtegjbbblpnenfaaRwMon
import Derived.Test.YtegjbbblpnenfaaRwShare2
namespace Go.Proofs.Ytegjbbblpnenfaa.Rw
open Go.RowKit Go.Proofs.YtegjbbblpnenfaaW.PrintWords Go.Proofs.YtegjbbblpnenfaaW.PrintLast Go.Proofs.YtegjbbblpnenfaaW.PrintMore
attribute [local go_sem] max2_int min2_int max_two min_two max_three min_three max_four min_four   -- for this text's walks alone
set_option linter.unusedVariables false
set_option linter.unusedSimpArgs false

/-! ### haberdashlaw03_SharePieces: function 13 -/
mutual
def haberdashlaw03_SharePieces.l0 : Nat → Int → Int → List Int → Int → Int → Int → Option (Bool)
  | 0, _, _, _, _, _, _ => none
  | k + 1, x0, x1, x2, x7, x8, x9 => if x9 < (x2.length : Int) then (haberdashlaw03_SharePieces.j1 k x0 x1 x2 x7 x8 x9 (decide (x9 < 40))) else (haberdashlaw03_SharePieces.j1 k x0 x1 x2 x7 x8 x9 false)
def haberdashlaw03_SharePieces.j1 : Nat → Int → Int → List Int → Int → Int → Int → Bool → Option (Bool)
  | 0, _, _, _, _, _, _, _ => none
  | k + 1, x0, x1, x2, x7, x8, x9, x29 => if x29 = true then (if 0 ≤ x9 then (if x9 < (x2.length : Int) then ((haberdashplay_Mod.f (rd x2 x9) (wrap64 ((wrap64 (x1 - x7)) + 1))).bind fun t530 => ((share_Piece.f x0 x1 x7 (wrap64 (x7 + t530))).bind fun bt531 => (if bt531.2 = 0 then (if x1 = 0 then (none) else (if bt531.1 < (wrap64 (Int.tdiv (wrap64 (x0 * (wrap64 ((wrap64 (x7 + t530)) - x7)))) x1)) then (haberdashlaw03_SharePieces.j2 k x0 x1 x2 x8 x9 (wrap64 (x7 + t530)) bt531.1 true) else (haberdashlaw03_SharePieces.j2 k x0 x1 x2 x8 x9 (wrap64 (x7 + t530)) bt531.1 (decide (bt531.1 > (wrap64 ((wrap64 (Int.tdiv (wrap64 (x0 * (wrap64 ((wrap64 (x7 + t530)) - x7)))) x1)) + 1))))))) else (haberdashlaw03_SharePieces.j2 k x0 x1 x2 x8 x9 (wrap64 (x7 + t530)) bt531.1 true)))) else (none)) else (none)) else ((share_Piece.f x0 x1 x7 x1).bind fun bt526 => ((haberdashlaw03_awake.f k).bind fun t528 => (if t528 = true then (if bt526.2 = 0 then (some ((wrap64 (x8 + bt526.1)) == x0)) else (some false)) else (some false))))
def haberdashlaw03_SharePieces.j2 : Nat → Int → Int → List Int → Int → Int → Int → Int → Bool → Option (Bool)
  | 0, _, _, _, _, _, _, _, _ => none
  | k + 1, x0, x1, x2, x8, x9, x10, x11, x75 => if x75 = true then (some false) else ((share_Upto.f x0 x1 x10).bind fun bt533 => (if bt533.2 = 0 then (if bt533.1 = (wrap64 (x8 + x11)) then (haberdashlaw03_SharePieces.l0 k x0 x1 x2 x10 (wrap64 (x8 + x11)) (wrap64 (x9 + 1))) else (some false)) else (some false)))
end
def haberdashlaw03_SharePieces.f (k : Nat) (a0 : Int) (a1 : Int) (l2 : List Int) : Option (Bool) := (haberdashplay_Mod64.f a0 1099511627776).bind fun t524 => ((haberdashplay_Mod.f a1 1000).bind fun t525 => (haberdashlaw03_SharePieces.l0 k t524 (wrap64 (1 + t525)) l2 0 0 0))
theorem haberdashlaw03_SharePieces.mono_l : ∀ k, (∀ y0 y1 y2 y3 y4 y5, LeO (haberdashlaw03_SharePieces.l0 k y0 y1 y2 y3 y4 y5) (haberdashlaw03_SharePieces.l0 (k + 1) y0 y1 y2 y3 y4 y5)) ∧ (∀ y0 y1 y2 y3 y4 y5 y6, LeO (haberdashlaw03_SharePieces.j1 k y0 y1 y2 y3 y4 y5 y6) (haberdashlaw03_SharePieces.j1 (k + 1) y0 y1 y2 y3 y4 y5 y6)) ∧ (∀ y0 y1 y2 y3 y4 y5 y6 y7, LeO (haberdashlaw03_SharePieces.j2 k y0 y1 y2 y3 y4 y5 y6 y7) (haberdashlaw03_SharePieces.j2 (k + 1) y0 y1 y2 y3 y4 y5 y6 y7))
  | 0 => ⟨fun _ _ _ _ _ _ r h => by simp [haberdashlaw03_SharePieces.l0] at h, fun _ _ _ _ _ _ _ r h => by simp [haberdashlaw03_SharePieces.j1] at h, fun _ _ _ _ _ _ _ _ r h => by simp [haberdashlaw03_SharePieces.j2] at h⟩
  | k + 1 => by
    obtain ⟨ih0, ih1, ih2⟩ := haberdashlaw03_SharePieces.mono_l k
    refine ⟨?_, ?_, ?_⟩
    · intro y0 y1 y2 y3 y4 y5
      unfold haberdashlaw03_SharePieces.l0
      repeat' first
      | (with_reducible exact ih0 _ _ _ _ _ _)
      | (with_reducible exact ih1 _ _ _ _ _ _ _)
      | (with_reducible exact ih2 _ _ _ _ _ _ _ _)
      | (with_reducible exact haberdashlaw03_awake.mono _)
      | (with_reducible exact LeO.refl _)
      | (with_reducible exact LeO.none _)
      | (with_reducible refine LeO.ite ?_ ?_)
      | (with_reducible refine LeO.bind ?_ (fun _ => ?_))
      | exact ih0 _ _ _ _ _ _
      | exact ih1 _ _ _ _ _ _ _
      | exact ih2 _ _ _ _ _ _ _ _
      | exact haberdashlaw03_awake.mono _
      | exact LeO.none _
      | refine LeO.ite ?_ ?_
      | refine LeO.bind ?_ (fun _ => ?_)
    · intro y0 y1 y2 y3 y4 y5 y6
      unfold haberdashlaw03_SharePieces.j1
      repeat' first
      | (with_reducible exact ih0 _ _ _ _ _ _)
      | (with_reducible exact ih1 _ _ _ _ _ _ _)
      | (with_reducible exact ih2 _ _ _ _ _ _ _ _)
      | (with_reducible exact haberdashlaw03_awake.mono _)
      | (with_reducible exact LeO.refl _)
      | (with_reducible exact LeO.none _)
      | (with_reducible refine LeO.ite ?_ ?_)
      | (with_reducible refine LeO.bind ?_ (fun _ => ?_))
      | exact ih0 _ _ _ _ _ _
      | exact ih1 _ _ _ _ _ _ _
      | exact ih2 _ _ _ _ _ _ _ _
      | exact haberdashlaw03_awake.mono _
      | exact LeO.none _
      | refine LeO.ite ?_ ?_
      | refine LeO.bind ?_ (fun _ => ?_)
    · intro y0 y1 y2 y3 y4 y5 y6 y7
      unfold haberdashlaw03_SharePieces.j2
      repeat' first
      | (with_reducible exact ih0 _ _ _ _ _ _)
      | (with_reducible exact ih1 _ _ _ _ _ _ _)
      | (with_reducible exact ih2 _ _ _ _ _ _ _ _)
      | (with_reducible exact haberdashlaw03_awake.mono _)
      | (with_reducible exact LeO.refl _)
      | (with_reducible exact LeO.none _)
      | (with_reducible refine LeO.ite ?_ ?_)
      | (with_reducible refine LeO.bind ?_ (fun _ => ?_))
      | exact ih0 _ _ _ _ _ _
      | exact ih1 _ _ _ _ _ _ _
      | exact ih2 _ _ _ _ _ _ _ _
      | exact haberdashlaw03_awake.mono _
      | exact LeO.none _
      | refine LeO.ite ?_ ?_
      | refine LeO.bind ?_ (fun _ => ?_)
theorem haberdashlaw03_SharePieces.mono : ∀ a0 a1 a2 k, LeO (haberdashlaw03_SharePieces.f k a0 a1 a2) (haberdashlaw03_SharePieces.f (k + 1) a0 a1 a2) := by
  intro a0 a1 a2 k
  obtain ⟨ih0, ih1, ih2⟩ := haberdashlaw03_SharePieces.mono_l k
  unfold haberdashlaw03_SharePieces.f
  repeat' first
      | (with_reducible exact ih0 _ _ _ _ _ _)
      | (with_reducible exact ih1 _ _ _ _ _ _ _)
      | (with_reducible exact ih2 _ _ _ _ _ _ _ _)
      | (with_reducible exact haberdashlaw03_awake.mono _)
      | (with_reducible exact LeO.refl _)
      | (with_reducible exact LeO.none _)
      | (with_reducible refine LeO.ite ?_ ?_)
      | (with_reducible refine LeO.bind ?_ (fun _ => ?_))
      | exact ih0 _ _ _ _ _ _
      | exact ih1 _ _ _ _ _ _ _
      | exact ih2 _ _ _ _ _ _ _ _
      | exact haberdashlaw03_awake.mono _
      | exact LeO.none _
      | refine LeO.ite ?_ ?_
      | refine LeO.bind ?_ (fun _ => ?_)
set_option maxHeartbeats 8000000 in
set_option maxRecDepth 100000 in
theorem haberdashlaw03_SharePieces.calls (k : Nat) (a0 : Int) (a1 : Int) (A2 : Option Addr) (c2 : Nat) (l2 : List Int) (r : Bool) (w : World) (hr2 : Kd.C (Kd.int .i64) w A2 l2.length l2) (hc2 : l2.length ≤ c2) (h : haberdashlaw03_SharePieces.f k a0 a1 l2 = some r) :
    Calls Try.prog 13 #[.int .i64 a0, .int .i64 a1, .slice A2 l2.length c2] w fun e w' => e = .returned (.bool r) ∧ Below w.heap.size w w' := by
  have HR2 := Aside0.mk hr2
  have HC2 := Aside0.mk hc2
  clear hr2 hc2
  have HB := Aside0.mk (Below.refl w.heap.size w)
  have H : ((haberdashplay_Mod64.f a0 1099511627776).bind fun t524 => ((haberdashplay_Mod.f a1 1000).bind fun t525 => (haberdashlaw03_SharePieces.l0 k t524 (wrap64 (1 + t525)) l2 0 0 0))) = some r := h
  clear h
  replace H := Option.bind_eq_some_iff.mp H
  obtain ⟨t524, A40, H⟩ := H
  replace H : ((haberdashplay_Mod.f a1 1000).bind fun t525 => (haberdashlaw03_SharePieces.l0 k t524 (wrap64 (1 + t525)) l2 0 0 0)) = some r := H
  have A4 := Aside0.mk A40
  clear A40
  replace H := Option.bind_eq_some_iff.mp H
  obtain ⟨t525, A50, H⟩ := H
  replace H : (haberdashlaw03_SharePieces.l0 k t524 (wrap64 (1 + t525)) l2 0 0 0) = some r := H
  have A5 := Aside0.mk A50
  clear A50
  have H' := Aside0.mk H
  clear H
  go_enter Try.func13, Try.ntmps13
  go_wp2_with (first | ((with_reducible refine gate_callee (f := 17) rfl ?_); refine goesL_ (some 18) rfl rfl Try.func17 (by kernel_rfl) rfl #[.int .i64 a0, .int .i64 1099511627776] rfl (by (try simp only [List.map_toArray, List.map_cons, List.map_nil]); first | done | rfl | (simp only [List.length_drop, List.length_take]; rfl)) ?_; (with_reducible refine (haberdashplay_Mod64.calls a0 1099511627776 t524 _ A4.out).mono ?_); rintro e w' ⟨rfl, ⟨nd, rfl⟩⟩; refine ⟨_, rfl, ?_⟩) | ((with_reducible refine gate_callee (f := 35) rfl ?_); refine goesL_ (some 20) rfl rfl Try.func35 (by kernel_rfl) rfl #[.int .i64 a1, .int .i64 1000] rfl (by (try simp only [List.map_toArray, List.map_cons, List.map_nil]); first | done | rfl | (simp only [List.length_drop, List.length_take]; rfl)) ?_; (with_reducible refine (haberdashplay_Mod.calls a1 1000 t525 _ A5.out).mono ?_); rintro e w' ⟨rfl, ⟨nd, rfl⟩⟩; refine ⟨_, rfl, ?_⟩))
  go_loopg [7, 8, 9] k (fun kq v7 v8 v9 w' => ∃ (x7_1 : Int) (x8_1 : Int) (x9_1 : Int), v7 = .int .i64 x7_1 ∧ v8 = .int .i64 x8_1 ∧ v9 = .int .i64 x9_1 ∧ Aside0 (haberdashlaw03_SharePieces.l0 kq t524 (wrap64 (1 + t525)) l2 x7_1 x8_1 x9_1 = some r) ∧ Aside0 (kq ≤ k) ∧ Aside0 (Below w.heap.size w w'))
  case atStart => exact ⟨(0), (0), (0), (by first | rfl | (simp; done) | (simp [*]; done)), (by first | rfl | (simp; done) | (simp [*]; done)), (by first | rfl | (simp; done) | (simp [*]; done)), H', ⟨Nat.le_refl _⟩, ⟨by repeat (first | (with_reducible first | exact HB.out | apply below_alloc | apply pw_below_drewN | apply below_drew1) | exact HB.out)⟩⟩
  case round =>
    clear H'
    try clear c1
    try clear c2
    try clear p2
    try clear c3
    obtain ⟨x7_1, x8_1, x9_1, rfl, rfl, rfl, HA, HK1, HB⟩ := hrel
    cases gk with
    | zero => exact absurd HA.out (by simp [haberdashlaw03_SharePieces.l0])
    | succ k1 =>
      have H := HA.out
      clear HA
      simp only [haberdashlaw03_SharePieces.l0] at H
      have HC6 := Aside0.mk H
      clear H
      go_upto_region 4 with (fail)
      go_cut [29] (fun v29 wc => ∃ (kq : Nat) (x29_5 : Bool), v29 = .bool x29_5 ∧ Aside0 (haberdashlaw03_SharePieces.j1 kq t524 (wrap64 (1 + t525)) l2 x7_1 x8_1 x9_1 x29_5 = some r) ∧ Aside0 (kq ≤ k1) ∧ Aside0 (Below w.heap.size w wc))
      case first =>
        have H := HC6.out
        clear HC6
        by_cases c7 : x9_1 < (l2.length : Int)
        · rw [if_pos c7] at H
          have c7b0 : decide (x9_1 < (l2.length : Int)) = true := decide_eq_true c7
          clear c7
          (first | rw [c7b0] | (simp only [i64_w, i32_w]; rw [c7b0]) | skip)
          have H' := Aside0.mk H
          clear H
          go_wp2
          go_meet
          case rel => exact ⟨_, (decide (x9_1 < 40)), (by first | rfl | (simp; done) | (simp [*]; done)), H', ⟨by have := HK1.out; first | omega | exact Nat.le_refl _⟩, ⟨by repeat (first | (with_reducible first | exact HB.out | apply below_alloc | apply pw_below_drewN | apply below_drew1) | exact HB.out)⟩⟩
        · rw [if_neg c7] at H
          have c7b0 : decide (x9_1 < (l2.length : Int)) = false := decide_eq_false c7
          clear c7
          (first | rw [c7b0] | (simp only [i64_w, i32_w]; rw [c7b0]) | skip)
          have H' := Aside0.mk H
          clear H
          go_wp2
          go_meet
          case rel => exact ⟨_, (false), (by first | rfl | (simp; done) | (simp [*]; done)), H', ⟨by have := HK1.out; first | omega | exact Nat.le_refl _⟩, ⟨by repeat (first | (with_reducible first | exact HB.out | apply below_alloc | apply pw_below_drewN | apply below_drew1) | exact HB.out)⟩⟩
      case rest =>
        clear HC6
        try clear c1
        try clear c2
        try clear p2
        try clear c3
        try clear p6
        try clear c7
        try clear c7b0
        try clear p2
        obtain ⟨kq, x29_5, rfl, HA, HJ5, HB⟩ := hcut
        cases kq with
        | zero => exact absurd HA.out (by simp [haberdashlaw03_SharePieces.j1])
        | succ kj5 =>
          have H := HA.out
          clear HA
          simp only [haberdashlaw03_SharePieces.j1] at H
          by_cases c8 : x29_5 = true
          · subst c8
            have H1 : (if 0 ≤ x9_1 then (if x9_1 < (l2.length : Int) then ((haberdashplay_Mod.f (rd l2 x9_1) (wrap64 ((wrap64 ((wrap64 (1 + t525)) - x7_1)) + 1))).bind fun t530 => ((share_Piece.f t524 (wrap64 (1 + t525)) x7_1 (wrap64 (x7_1 + t530))).bind fun bt531 => (if bt531.2 = 0 then (if (wrap64 (1 + t525)) = 0 then (none) else (if bt531.1 < (wrap64 (Int.tdiv (wrap64 (t524 * (wrap64 ((wrap64 (x7_1 + t530)) - x7_1)))) (wrap64 (1 + t525)))) then (haberdashlaw03_SharePieces.j2 kj5 t524 (wrap64 (1 + t525)) l2 x8_1 x9_1 (wrap64 (x7_1 + t530)) bt531.1 true) else (haberdashlaw03_SharePieces.j2 kj5 t524 (wrap64 (1 + t525)) l2 x8_1 x9_1 (wrap64 (x7_1 + t530)) bt531.1 (decide (bt531.1 > (wrap64 ((wrap64 (Int.tdiv (wrap64 (t524 * (wrap64 ((wrap64 (x7_1 + t530)) - x7_1)))) (wrap64 (1 + t525)))) + 1))))))) else (haberdashlaw03_SharePieces.j2 kj5 t524 (wrap64 (1 + t525)) l2 x8_1 x9_1 (wrap64 (x7_1 + t530)) bt531.1 true)))) else (none)) else (none)) = some r := by rw [if_pos rfl] at H; exact H
            clear H
            have H := H1
            clear H1
            by_cases c9 : 0 ≤ x9_1
            · rw [if_pos c9] at H
              have c9b0 : decide (0 ≤ x9_1) = true := decide_eq_true c9
              clear c9
              by_cases c10 : x9_1 < (l2.length : Int)
              · rw [if_pos c10] at H
                have c10b0 : decide (x9_1 < (l2.length : Int)) = true := decide_eq_true c10
                clear c10
                replace H := Option.bind_eq_some_iff.mp H
                obtain ⟨t530, A110, H⟩ := H
                replace H : ((share_Piece.f t524 (wrap64 (1 + t525)) x7_1 (wrap64 (x7_1 + t530))).bind fun bt531 => (if bt531.2 = 0 then (if (wrap64 (1 + t525)) = 0 then (none) else (if bt531.1 < (wrap64 (Int.tdiv (wrap64 (t524 * (wrap64 ((wrap64 (x7_1 + t530)) - x7_1)))) (wrap64 (1 + t525)))) then (haberdashlaw03_SharePieces.j2 kj5 t524 (wrap64 (1 + t525)) l2 x8_1 x9_1 (wrap64 (x7_1 + t530)) bt531.1 true) else (haberdashlaw03_SharePieces.j2 kj5 t524 (wrap64 (1 + t525)) l2 x8_1 x9_1 (wrap64 (x7_1 + t530)) bt531.1 (decide (bt531.1 > (wrap64 ((wrap64 (Int.tdiv (wrap64 (t524 * (wrap64 ((wrap64 (x7_1 + t530)) - x7_1)))) (wrap64 (1 + t525)))) + 1))))))) else (haberdashlaw03_SharePieces.j2 kj5 t524 (wrap64 (1 + t525)) l2 x8_1 x9_1 (wrap64 (x7_1 + t530)) bt531.1 true))) = some r := H
                have A11 := Aside0.mk A110
                clear A110
                replace H := Option.bind_eq_some_iff.mp H
                obtain ⟨⟨t531, t532⟩, A120, H⟩ := H
                replace H : (if t532 = 0 then (if (wrap64 (1 + t525)) = 0 then (none) else (if t531 < (wrap64 (Int.tdiv (wrap64 (t524 * (wrap64 ((wrap64 (x7_1 + t530)) - x7_1)))) (wrap64 (1 + t525)))) then (haberdashlaw03_SharePieces.j2 kj5 t524 (wrap64 (1 + t525)) l2 x8_1 x9_1 (wrap64 (x7_1 + t530)) t531 true) else (haberdashlaw03_SharePieces.j2 kj5 t524 (wrap64 (1 + t525)) l2 x8_1 x9_1 (wrap64 (x7_1 + t530)) t531 (decide (t531 > (wrap64 ((wrap64 (Int.tdiv (wrap64 (t524 * (wrap64 ((wrap64 (x7_1 + t530)) - x7_1)))) (wrap64 (1 + t525)))) + 1))))))) else (haberdashlaw03_SharePieces.j2 kj5 t524 (wrap64 (1 + t525)) l2 x8_1 x9_1 (wrap64 (x7_1 + t530)) t531 true)) = some r := H
                have A12 := Aside0.mk A120
                clear A120
                have HC13 := Aside0.mk H
                clear H
                have p529 : 0 ≤ (x9_1 : Int) := of_decide_eq_true (by first | (with_reducible assumption) | assumption)
                have q529 : x9_1 < (l2.length : Int) := of_decide_eq_true (by first | (with_reducible assumption) | assumption)
                obtain ⟨ad529, e529, hx529_0⟩ := Kd.at_int HR2.out x9_1 p529 q529
                cases e529
                replace hx529_0 := (HB.out.cell (World.block_lt_of_cell? w _ hx529_0)).trans hx529_0
                replace p529 := eq_true p529
                replace q529 := eq_true q529
                go_upto_region 8 with (first | ((with_reducible refine gate_callee (f := 35) rfl ?_); refine goesL_ (some 41) rfl rfl Try.func35 (by kernel_rfl) rfl #[.int .i64 (rd l2 x9_1), .int .i64 (wrap64 ((wrap64 ((wrap64 (1 + t525)) - x7_1)) + 1))] rfl (by (try simp only [List.map_toArray, List.map_cons, List.map_nil]); first | done | rfl | (simp only [List.length_drop, List.length_take]; rfl)) ?_; (with_reducible refine (haberdashplay_Mod.calls (rd l2 x9_1) (wrap64 ((wrap64 ((wrap64 (1 + t525)) - x7_1)) + 1)) t530 _ A11.out).mono ?_); rintro e w' ⟨rfl, ⟨nd, rfl⟩⟩; refine ⟨_, rfl, ?_⟩) | ((with_reducible refine gate_callee (f := 45) rfl ?_); refine goesL_ (some 48) rfl rfl Try.func45 (by kernel_rfl) rfl #[.int .i64 t524, .int .i64 (wrap64 (1 + t525)), .int .i64 x7_1, .int .i64 (wrap64 (x7_1 + t530))] rfl (by (try simp only [List.map_toArray, List.map_cons, List.map_nil]); first | done | rfl | (simp only [List.length_drop, List.length_take]; rfl)) ?_; (with_reducible refine (share_Piece.calls t524 (wrap64 (1 + t525)) x7_1 (wrap64 (x7_1 + t530)) t531 t532 _ A12.out).mono ?_); rintro e w' ⟨rfl, ⟨nd, rfl⟩⟩; refine ⟨_, rfl, ?_⟩))
                (try simp only [Act.put, List.setIfInBounds_toArray, List.set_cons_zero, List.set_cons_succ])
                go_cut [75] (fun v75 wc => ∃ (kq : Nat) (x75_12 : Bool), v75 = .bool x75_12 ∧ Aside0 (haberdashlaw03_SharePieces.j2 kq t524 (wrap64 (1 + t525)) l2 x8_1 x9_1 (wrap64 (x7_1 + t530)) t531 x75_12 = some r) ∧ Aside0 (kq ≤ kj5) ∧ Aside0 (Below w.heap.size w wc))
                case first =>
                  have H := HC13.out
                  clear HC13
                  by_cases c14 : t532 = 0
                  · rw [if_pos c14] at H
                    have c14b0 : (t532 == 0) = true := beq_iff_eq.mpr c14
                    have c14b1 : (t532 != 0) = false := bne_eq_false_iff_eq.mpr c14
                    clear c14
                    (first | rw [c14b0] | (simp only [i64_w, i32_w]; rw [c14b0]) | skip)
                    by_cases c15 : (wrap64 (1 + t525)) = 0
                    · rw [if_pos c15] at H
                      exact absurd H (by simp)
                    · rw [if_neg c15] at H
                      have c15b0 : ((wrap64 (1 + t525)) == 0) = false := beq_eq_false_iff_ne.mpr c15
                      have c15b1 : ((wrap64 (1 + t525)) != 0) = true := bne_iff_ne.mpr c15
                      by_cases c16 : t531 < (wrap64 (Int.tdiv (wrap64 (t524 * (wrap64 ((wrap64 (x7_1 + t530)) - x7_1)))) (wrap64 (1 + t525))))
                      · rw [if_pos c16] at H
                        have c16b0 : decide (t531 < (wrap64 (Int.tdiv (wrap64 (t524 * (wrap64 ((wrap64 (x7_1 + t530)) - x7_1)))) (wrap64 (1 + t525))))) = true := decide_eq_true c16
                        clear c16
                        have H' := Aside0.mk H
                        clear H
                        go_wp2
                        go_meet
                        case rel => exact ⟨_, (true), (by first | rfl | (simp; done) | (simp [*]; done)), H', ⟨by have := HK1.out; have := HJ5.out; first | omega | exact Nat.le_refl _⟩, ⟨by repeat (first | (with_reducible first | exact HB.out | apply below_alloc | apply pw_below_drewN | apply below_drew1) | exact HB.out)⟩⟩
                      · rw [if_neg c16] at H
                        have c16b0 : decide (t531 < (wrap64 (Int.tdiv (wrap64 (t524 * (wrap64 ((wrap64 (x7_1 + t530)) - x7_1)))) (wrap64 (1 + t525))))) = false := decide_eq_false c16
                        clear c16
                        have H' := Aside0.mk H
                        clear H
                        go_wp2
                        go_meet
                        case rel => exact ⟨_, (decide (t531 > (wrap64 ((wrap64 (Int.tdiv (wrap64 (t524 * (wrap64 ((wrap64 (x7_1 + t530)) - x7_1)))) (wrap64 (1 + t525)))) + 1)))), (by first | rfl | (simp; done) | (simp [*]; done)), H', ⟨by have := HK1.out; have := HJ5.out; first | omega | exact Nat.le_refl _⟩, ⟨by repeat (first | (with_reducible first | exact HB.out | apply below_alloc | apply pw_below_drewN | apply below_drew1) | exact HB.out)⟩⟩
                  · rw [if_neg c14] at H
                    have c14b0 : (t532 == 0) = false := beq_eq_false_iff_ne.mpr c14
                    have c14b1 : (t532 != 0) = true := bne_iff_ne.mpr c14
                    (first | rw [c14b0] | (simp only [i64_w, i32_w]; rw [c14b0]) | skip)
                    have H' := Aside0.mk H
                    clear H
                    go_wp2
                    go_meet
                    case rel => exact ⟨_, (true), (by first | rfl | (simp; done) | (simp [*]; done)), H', ⟨by have := HK1.out; have := HJ5.out; first | omega | exact Nat.le_refl _⟩, ⟨by repeat (first | (with_reducible first | exact HB.out | apply below_alloc | apply pw_below_drewN | apply below_drew1) | exact HB.out)⟩⟩
                case rest =>
                  clear HC13
                  try clear c1
                  try clear c2
                  try clear p2
                  try clear c3
                  try clear c4
                  try clear p5
                  try clear q5
                  try clear hx5
                  try clear p6
                  try clear c7
                  try clear c7b0
                  try clear c8
                  try clear c9
                  try clear c9b0
                  try clear c10
                  try clear c10b0
                  try clear c13
                  try clear c14
                  try clear c14b0
                  try clear c14b1
                  try clear c15
                  try clear c15b0
                  try clear c15b1
                  try clear c16
                  try clear c16b0
                  try clear hx529_0
                  try clear p2
                  try clear p529
                  try clear p6
                  try clear q529
                  obtain ⟨kq, x75_12, rfl, HA, HJ12, HB⟩ := hcut
                  cases kq with
                  | zero => exact absurd HA.out (by simp [haberdashlaw03_SharePieces.j2])
                  | succ kj12 =>
                    have H := HA.out
                    clear HA
                    simp only [haberdashlaw03_SharePieces.j2] at H
                    by_cases c17 : x75_12 = true
                    · subst c17
                      have H1 : (some false) = some r := by rw [if_pos rfl] at H; exact H
                      clear H
                      have H := H1
                      clear H1
                      obtain rfl := Option.some.inj H
                      go_wp2
                      go_ret
                      exact ⟨by first | rfl | (simp [errW_none, errW_some] <;> rfl) | (simp [*, errW_none, errW_some] <;> rfl), by repeat (first | (with_reducible first | exact HB.out | apply below_alloc | apply pw_below_drewN | apply below_drew1) | exact HB.out)⟩
                    · replace c17 := Bool.eq_false_iff.mpr c17
                      subst c17
                      have H1 : ((share_Upto.f t524 (wrap64 (1 + t525)) (wrap64 (x7_1 + t530))).bind fun bt533 => (if bt533.2 = 0 then (if bt533.1 = (wrap64 (x8_1 + t531)) then (haberdashlaw03_SharePieces.l0 kj12 t524 (wrap64 (1 + t525)) l2 (wrap64 (x7_1 + t530)) (wrap64 (x8_1 + t531)) (wrap64 (x9_1 + 1))) else (some false)) else (some false))) = some r := by rw [if_neg (show ¬ (false = true) by decide)] at H; exact H
                      clear H
                      have H := H1
                      clear H1
                      replace H := Option.bind_eq_some_iff.mp H
                      obtain ⟨⟨t533, t534⟩, A180, H⟩ := H
                      replace H : (if t534 = 0 then (if t533 = (wrap64 (x8_1 + t531)) then (haberdashlaw03_SharePieces.l0 kj12 t524 (wrap64 (1 + t525)) l2 (wrap64 (x7_1 + t530)) (wrap64 (x8_1 + t531)) (wrap64 (x9_1 + 1))) else (some false)) else (some false)) = some r := H
                      have A18 := Aside0.mk A180
                      clear A180
                      by_cases c19 : t534 = 0
                      · rw [if_pos c19] at H
                        have c19b0 : (t534 == 0) = true := beq_iff_eq.mpr c19
                        have c19b1 : (t534 != 0) = false := bne_eq_false_iff_eq.mpr c19
                        clear c19
                        by_cases c20 : t533 = (wrap64 (x8_1 + t531))
                        · rw [if_pos c20] at H
                          have c20b0 : (t533 == (wrap64 (x8_1 + t531))) = true := beq_iff_eq.mpr c20
                          have c20b1 : (t533 != (wrap64 (x8_1 + t531))) = false := bne_eq_false_iff_eq.mpr c20
                          clear c20
                          have H' := Aside0.mk H
                          clear H
                          go_wp2_with (first | ((with_reducible refine gate_callee (f := 43) rfl ?_); refine goesL_ (some 84) rfl rfl Try.func43 (by kernel_rfl) rfl #[.int .i64 t524, .int .i64 (wrap64 (1 + t525)), .int .i64 (wrap64 (x7_1 + t530))] rfl (by (try simp only [List.map_toArray, List.map_cons, List.map_nil]); first | done | rfl | (simp only [List.length_drop, List.length_take]; rfl)) ?_; (with_reducible refine (share_Upto.calls t524 (wrap64 (1 + t525)) (wrap64 (x7_1 + t530)) t533 t534 _ A18.out).mono ?_); rintro e w' ⟨rfl, ⟨nd, rfl⟩⟩; refine ⟨_, rfl, ?_⟩))
                          go_roundg kj12
                          case measure => have := HK1.out; have := HJ5.out; have := HJ12.out; omega
                          case rel => exact ⟨((wrap64 (x7_1 + t530))), (wrap64 (x8_1 + t531)), (wrap64 (x9_1 + 1)), (by first | rfl | (simp; done) | (simp [*]; done)), (by first | rfl | (simp; done) | (simp [*]; done)), (by first | rfl | (simp; done) | (simp [*]; done)), H', ⟨by have := HK1.out; have := HJ5.out; have := HJ12.out; omega⟩, ⟨by repeat (first | (with_reducible first | exact HB.out | apply below_alloc | apply pw_below_drewN | apply below_drew1) | exact HB.out)⟩⟩
                        · rw [if_neg c20] at H
                          have c20b0 : (t533 == (wrap64 (x8_1 + t531))) = false := beq_eq_false_iff_ne.mpr c20
                          have c20b1 : (t533 != (wrap64 (x8_1 + t531))) = true := bne_iff_ne.mpr c20
                          obtain rfl := Option.some.inj H
                          go_wp2_with (first | ((with_reducible refine gate_callee (f := 43) rfl ?_); refine goesL_ (some 84) rfl rfl Try.func43 (by kernel_rfl) rfl #[.int .i64 t524, .int .i64 (wrap64 (1 + t525)), .int .i64 (wrap64 (x7_1 + t530))] rfl (by (try simp only [List.map_toArray, List.map_cons, List.map_nil]); first | done | rfl | (simp only [List.length_drop, List.length_take]; rfl)) ?_; (with_reducible refine (share_Upto.calls t524 (wrap64 (1 + t525)) (wrap64 (x7_1 + t530)) t533 t534 _ A18.out).mono ?_); rintro e w' ⟨rfl, ⟨nd, rfl⟩⟩; refine ⟨_, rfl, ?_⟩))
                          go_ret
                          exact ⟨by first | rfl | (simp [errW_none, errW_some] <;> rfl) | (simp [*, errW_none, errW_some] <;> rfl), by repeat (first | (with_reducible first | exact HB.out | apply below_alloc | apply pw_below_drewN | apply below_drew1) | exact HB.out)⟩
                      · rw [if_neg c19] at H
                        have c19b0 : (t534 == 0) = false := beq_eq_false_iff_ne.mpr c19
                        have c19b1 : (t534 != 0) = true := bne_iff_ne.mpr c19
                        obtain rfl := Option.some.inj H
                        go_wp2_with (first | ((with_reducible refine gate_callee (f := 43) rfl ?_); refine goesL_ (some 84) rfl rfl Try.func43 (by kernel_rfl) rfl #[.int .i64 t524, .int .i64 (wrap64 (1 + t525)), .int .i64 (wrap64 (x7_1 + t530))] rfl (by (try simp only [List.map_toArray, List.map_cons, List.map_nil]); first | done | rfl | (simp only [List.length_drop, List.length_take]; rfl)) ?_; (with_reducible refine (share_Upto.calls t524 (wrap64 (1 + t525)) (wrap64 (x7_1 + t530)) t533 t534 _ A18.out).mono ?_); rintro e w' ⟨rfl, ⟨nd, rfl⟩⟩; refine ⟨_, rfl, ?_⟩))
                        go_ret
                        exact ⟨by first | rfl | (simp [errW_none, errW_some] <;> rfl) | (simp [*, errW_none, errW_some] <;> rfl), by repeat (first | (with_reducible first | exact HB.out | apply below_alloc | apply pw_below_drewN | apply below_drew1) | exact HB.out)⟩
              · rw [if_neg c10] at H
                exact absurd H (by simp)
            · rw [if_neg c9] at H
              exact absurd H (by simp)
          · replace c8 := Bool.eq_false_iff.mpr c8
            subst c8
            have H1 : ((share_Piece.f t524 (wrap64 (1 + t525)) x7_1 (wrap64 (1 + t525))).bind fun bt526 => ((haberdashlaw03_awake.f kj5).bind fun t528 => (if t528 = true then (if bt526.2 = 0 then (some ((wrap64 (x8_1 + bt526.1)) == t524)) else (some false)) else (some false)))) = some r := by rw [if_neg (show ¬ (false = true) by decide)] at H; exact H
            clear H
            have H := H1
            clear H1
            replace H := Option.bind_eq_some_iff.mp H
            obtain ⟨⟨t526, t527⟩, A210, H⟩ := H
            replace H : ((haberdashlaw03_awake.f kj5).bind fun t528 => (if t528 = true then (if t527 = 0 then (some ((wrap64 (x8_1 + t526)) == t524)) else (some false)) else (some false))) = some r := H
            have A21 := Aside0.mk A210
            clear A210
            replace H := Option.bind_eq_some_iff.mp H
            obtain ⟨t528, A220, H⟩ := H
            replace H : (if t528 = true then (if t527 = 0 then (some ((wrap64 (x8_1 + t526)) == t524)) else (some false)) else (some false)) = some r := H
            have A22 := Aside0.mk A220
            clear A220
            by_cases c23 : t528 = true
            · subst c23
              have H1 : (if t527 = 0 then (some ((wrap64 (x8_1 + t526)) == t524)) else (some false)) = some r := by rw [if_pos rfl] at H; exact H
              clear H
              have H := H1
              clear H1
              by_cases c24 : t527 = 0
              · rw [if_pos c24] at H
                have c24b0 : (t527 == 0) = true := beq_iff_eq.mpr c24
                have c24b1 : (t527 != 0) = false := bne_eq_false_iff_eq.mpr c24
                clear c24
                obtain rfl := Option.some.inj H
                go_wp2_with (first | ((with_reducible refine gate_callee (f := 45) rfl ?_); refine goesL_ (some 99) rfl rfl Try.func45 (by kernel_rfl) rfl #[.int .i64 t524, .int .i64 (wrap64 (1 + t525)), .int .i64 x7_1, .int .i64 (wrap64 (1 + t525))] rfl (by (try simp only [List.map_toArray, List.map_cons, List.map_nil]); first | done | rfl | (simp only [List.length_drop, List.length_take]; rfl)) ?_; (with_reducible refine (share_Piece.calls t524 (wrap64 (1 + t525)) x7_1 (wrap64 (1 + t525)) t526 t527 _ A21.out).mono ?_); rintro e w' ⟨rfl, ⟨nd, rfl⟩⟩; refine ⟨_, rfl, ?_⟩) | ((with_reducible refine gate_callee (f := 39) rfl ?_); refine goesL_ (some 102) rfl rfl Try.func39 (by kernel_rfl) rfl #[] rfl (by (try simp only [List.map_toArray, List.map_cons, List.map_nil]); first | done | rfl | (simp only [List.length_drop, List.length_take]; rfl)) ?_; (with_reducible refine (haberdashlaw03_awake.calls kj5  true _ A22.out).mono ?_); rintro e w25 ⟨rfl, hb⟩; refine ⟨_, rfl, ?_⟩; have n0_ := Aside0.mk (below_step (by repeat (first | (with_reducible first | exact HB.out | apply below_alloc | apply pw_below_drewN | apply below_drew1) | exact HB.out)) hb); clear HB; have HB := n0_; clear n0_; (try clear hb); (try clear hb2); (try clear hk); (try clear hi)))
                go_ret
                exact ⟨by first | rfl | (simp [errW_none, errW_some] <;> rfl) | (simp [*, errW_none, errW_some] <;> rfl), by repeat (first | (with_reducible first | exact HB.out | apply below_alloc | apply pw_below_drewN | apply below_drew1) | exact HB.out)⟩
              · rw [if_neg c24] at H
                have c24b0 : (t527 == 0) = false := beq_eq_false_iff_ne.mpr c24
                have c24b1 : (t527 != 0) = true := bne_iff_ne.mpr c24
                obtain rfl := Option.some.inj H
                go_wp2_with (first | ((with_reducible refine gate_callee (f := 45) rfl ?_); refine goesL_ (some 99) rfl rfl Try.func45 (by kernel_rfl) rfl #[.int .i64 t524, .int .i64 (wrap64 (1 + t525)), .int .i64 x7_1, .int .i64 (wrap64 (1 + t525))] rfl (by (try simp only [List.map_toArray, List.map_cons, List.map_nil]); first | done | rfl | (simp only [List.length_drop, List.length_take]; rfl)) ?_; (with_reducible refine (share_Piece.calls t524 (wrap64 (1 + t525)) x7_1 (wrap64 (1 + t525)) t526 t527 _ A21.out).mono ?_); rintro e w' ⟨rfl, ⟨nd, rfl⟩⟩; refine ⟨_, rfl, ?_⟩) | ((with_reducible refine gate_callee (f := 39) rfl ?_); refine goesL_ (some 102) rfl rfl Try.func39 (by kernel_rfl) rfl #[] rfl (by (try simp only [List.map_toArray, List.map_cons, List.map_nil]); first | done | rfl | (simp only [List.length_drop, List.length_take]; rfl)) ?_; (with_reducible refine (haberdashlaw03_awake.calls kj5  true _ A22.out).mono ?_); rintro e w26 ⟨rfl, hb⟩; refine ⟨_, rfl, ?_⟩; have n0_ := Aside0.mk (below_step (by repeat (first | (with_reducible first | exact HB.out | apply below_alloc | apply pw_below_drewN | apply below_drew1) | exact HB.out)) hb); clear HB; have HB := n0_; clear n0_; (try clear hb); (try clear hb2); (try clear hk); (try clear hi)))
                go_ret
                exact ⟨by first | rfl | (simp [errW_none, errW_some] <;> rfl) | (simp [*, errW_none, errW_some] <;> rfl), by repeat (first | (with_reducible first | exact HB.out | apply below_alloc | apply pw_below_drewN | apply below_drew1) | exact HB.out)⟩
            · replace c23 := Bool.eq_false_iff.mpr c23
              subst c23
              have H1 : (some false) = some r := by rw [if_neg (show ¬ (false = true) by decide)] at H; exact H
              clear H
              have H := H1
              clear H1
              obtain rfl := Option.some.inj H
              go_wp2_with (first | ((with_reducible refine gate_callee (f := 45) rfl ?_); refine goesL_ (some 99) rfl rfl Try.func45 (by kernel_rfl) rfl #[.int .i64 t524, .int .i64 (wrap64 (1 + t525)), .int .i64 x7_1, .int .i64 (wrap64 (1 + t525))] rfl (by (try simp only [List.map_toArray, List.map_cons, List.map_nil]); first | done | rfl | (simp only [List.length_drop, List.length_take]; rfl)) ?_; (with_reducible refine (share_Piece.calls t524 (wrap64 (1 + t525)) x7_1 (wrap64 (1 + t525)) t526 t527 _ A21.out).mono ?_); rintro e w' ⟨rfl, ⟨nd, rfl⟩⟩; refine ⟨_, rfl, ?_⟩) | ((with_reducible refine gate_callee (f := 39) rfl ?_); refine goesL_ (some 102) rfl rfl Try.func39 (by kernel_rfl) rfl #[] rfl (by (try simp only [List.map_toArray, List.map_cons, List.map_nil]); first | done | rfl | (simp only [List.length_drop, List.length_take]; rfl)) ?_; (with_reducible refine (haberdashlaw03_awake.calls kj5  false _ A22.out).mono ?_); rintro e w27 ⟨rfl, hb⟩; refine ⟨_, rfl, ?_⟩; have n0_ := Aside0.mk (below_step (by repeat (first | (with_reducible first | exact HB.out | apply below_alloc | apply pw_below_drewN | apply below_drew1) | exact HB.out)) hb); clear HB; have HB := n0_; clear n0_; (try clear hb); (try clear hb2); (try clear hk); (try clear hi)))
              go_ret
              exact ⟨by first | rfl | (simp [errW_none, errW_some] <;> rfl) | (simp [*, errW_none, errW_some] <;> rfl), by repeat (first | (with_reducible first | exact HB.out | apply below_alloc | apply pw_below_drewN | apply below_drew1) | exact HB.out)⟩

/-- THE ONE PURE STATEMENT of haberdashlaw03_SharePieces: yours. -/
def haberdashlaw03_SharePieces.Pure : Prop := ∀ (a0 : Int) (a1 : Int) (l2 : List Int), (Lit.int .i64 a0).wf = true → (Lit.int .i64 a1).wf = true → l2.length ≤ maxLen → l2.length * 8 ≤ 140737488351232 → (∀ x ∈ l2, (Lit.int .i64 x).wf = true) → ∃ k, haberdashlaw03_SharePieces.f k a0 a1 l2 = some true
theorem haberdashlaw03_SharePieces.walk (P : haberdashlaw03_SharePieces.Pure) (a0 : Int) (a1 : Int) (a2 : Option Addr) (len2 cap2 : Nat) (z2 : List Int) (w : World) (w0 : (Lit.int .i64 a0).wf = true) (w1 : (Lit.int .i64 a1).wf = true) (w2 : (a2 = none ∧ len2 = 0 ∧ cap2 = 0 ∧ z2 = []) ∨ ∃ x, a2 = some x ∧ len2 ≤ cap2 ∧ cap2 ≤ maxLen ∧ z2.length = cap2 ∧ (∀ i, i < z2.length → w.cell? (x.add i) = some (.int .i64 (z2.getD i 0))) ∧ ∀ n ∈ z2, (Lit.int .i64 n).wf = true) (y2 : len2 * 8 ≤ 140737488351232) :
    Calls Try.prog 13 #[.int .i64 a0, .int .i64 a1, .slice a2 len2 cap2] w fun e w' => e = .returned (.bool true) ∧ Below w.heap.size w w' := by
  obtain ⟨l2, rfl, hr2, hm2, hw2, hc2⟩ := ReadsInt.ofRowC w2
  obtain ⟨k, h⟩ := P a0 a1 l2 w0 w1 hm2 y2 hw2
  refine (haberdashlaw03_SharePieces.calls k a0 a1 _ _ l2 true w (Kd.C_of_reads (d := (0 : Int)) (h1 := fun _ => rfl) hr2) hc2 h).mono ?_
  rintro e w' ⟨rfl, hd⟩
  exact ⟨rfl, hd⟩



end Go.Proofs.Ytegjbbblpnenfaa.Rw
