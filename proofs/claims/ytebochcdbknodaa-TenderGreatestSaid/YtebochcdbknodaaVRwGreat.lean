/- Functions of the program as Lean functions, each with its contract: out of what the kit's printer wrote for this seat. -/
import Derived.Test.YtebochcdbknodaaVRwA
import Derived.Test.YtebochcdbknodaaVRwAb
import Derived.Test.YtebochcdbknodaaVHSplit
import Derived.Test.YtebochcdbknodaaVRwL22
import Derived.Test.YtebochcdbknodaaVRwL22b
import Derived.Test.YtebochcdbknodaaVRwMon
import Derived.Test.YtebochcdbknodaaVRwOne
import Derived.Test.YtebochcdbknodaaVRwRef21
import Derived.Test.YtebochcdbknodaaVRwTend
namespace Go.Proofs.Ytebochcdbknodaa.Rw
open Go.RowKit Go.Proofs.YtebochcdbknodaaW.PrintWords Go.Proofs.YtebochcdbknodaaW.PrintLast Go.Proofs.YtebochcdbknodaaW.PrintMore
attribute [local go_sem] max2_int min2_int max_two min_two max_three min_three max_four min_four   -- for this text's walks alone
set_option linter.unusedVariables false
set_option linter.unusedSimpArgs false
attribute [local go_sem high] leqS gtrS

/-! ### haberdashlaw22_TenderGreatest: function 4 -/
mutual
def haberdashlaw22_TenderGreatest.j0 : Nat → List (S39) → List Int → Int → Bool → Option (Bool)
 | 0, _, _, _, _ => none
 | k + 1, x0, x1, x2, x23 => if x23 = true then ((haberdashlaw22_awake.f k).bind fun t230 => (some t230)) else ((haberdashlaw22_near.f k x0).bind fun t231 => ((haberdashref21_Left.f k t231).bind fun t234 => ((haberdashplay_Mod64.f x2 (wrap64 (t234 + 1))).bind fun t235 => ((tender_Split.f t231 x1 ([] : List Int) t235).bind fun bt236 => ((tender_Give.f k t231 bt236.1).bind fun bt240 => ((haberdashlaw22_awake.f k).bind fun t244 => (if t244 = true then (if bt236.2 = 0 then (if bt240.2 = 0 then (haberdashlaw22_TenderGreatest.j1 k t231 x1 t235 t234 bt236.1 bt240.1 ((bt240.1.length : Int) != (t231.length : Int))) else (haberdashlaw22_TenderGreatest.j1 k t231 x1 t235 t234 bt236.1 bt240.1 true)) else (haberdashlaw22_TenderGreatest.j1 k t231 x1 t235 t234 bt236.1 bt240.1 true)) else (haberdashlaw22_TenderGreatest.j1 k t231 x1 t235 t234 bt236.1 bt240.1 true))))))))
def haberdashlaw22_TenderGreatest.j1 : Nat → List (S39) → List Int → Int → Int → List (S34) → List (S39) → Bool → Option (Bool)
 | 0, _, _, _, _, _, _, _ => none
 | k + 1, x0, x1, x2, x7, x8, x10, x62 => if x62 = true then (some false) else (haberdashlaw22_TenderGreatest.l0 k x0 x1 x2 x7 x8 x10 0 0)
def haberdashlaw22_TenderGreatest.l0 : Nat → List (S39) → List Int → Int → Int → List (S34) → List (S39) → Int → Int → Option (Bool)
 | 0, _, _, _, _, _, _, _, _ => none
 | k + 1, x0, x1, x2, x7, x8, x10, x12, x13 => if x13 < (x8.length : Int) then (if 0 ≤ x13 then (if ((rd_T34 x8 x13).f0) < 0 then (some false) else (if ((rd_T34 x8 x13).f0) ≥ (x0.length : Int) then (some false) else (if ((rd_T34 x8 x13).f1) < 1 then (some false) else (if 0 ≤ ((rd_T34 x8 x13).f0) then (if ((rd_T34 x8 x13).f0) < (x0.length : Int) then (if ((rd_T34 x8 x13).f1) > (wrap64 (((rd_T39 x0 ((rd_T34 x8 x13).f0)).f1) - ((rd_T39 x0 ((rd_T34 x8 x13).f0)).f2))) then (some false) else (if x13 < (wrap64 ((x8.length : Int) - 1)) then (if ((rd_T34 x8 x13).f1) = (wrap64 (((rd_T39 x0 ((rd_T34 x8 x13).f0)).f1) - ((rd_T39 x0 ((rd_T34 x8 x13).f0)).f2))) then (haberdashlaw22_TenderGreatest.l0 k x0 x1 x2 x7 x8 x10 (wrap64 (x12 + ((rd_T34 x8 x13).f1))) (wrap64 (x13 + 1))) else (some false)) else (haberdashlaw22_TenderGreatest.l0 k x0 x1 x2 x7 x8 x10 (wrap64 (x12 + ((rd_T34 x8 x13).f1))) (wrap64 (x13 + 1))))) else (none)) else (none))))) else (none)) else (haberdashlaw22_TenderGreatest.l1 k x0 x1 x2 x7 x10 x12 0)
def haberdashlaw22_TenderGreatest.l1 : Nat → List (S39) → List Int → Int → Int → List (S39) → Int → Int → Option (Bool)
 | 0, _, _, _, _, _, _, _ => none
 | k + 1, x0, x1, x2, x7, x10, x12, x14 => if x14 < (x0.length : Int) then (haberdashlaw22_TenderGreatest.l2 k x0 x1 x2 x7 x10 x12 x14 0) else (if x12 = x2 then ((tender_Left.f k x10).bind fun t260 => (if t260 = (wrap64 (x7 - x2)) then ((tender_Right.f k x10).bind fun t261 => (some t261)) else (some false))) else (some false))
def haberdashlaw22_TenderGreatest.l2 : Nat → List (S39) → List Int → Int → Int → List (S39) → Int → Int → Int → Option (Bool)
 | 0, _, _, _, _, _, _, _, _ => none
 | k + 1, x0, x1, x2, x7, x10, x12, x14, x15 => if x15 < (x0.length : Int) then ((haberdashlaw22_earlier.f k x0 x1 x14 x15).bind fun t262 => (if t262 = true then (if 0 ≤ x14 then (if x14 < (x10.length : Int) then (if ((rd_T39 x10 x14).f2) < ((rd_T39 x10 x14).f1) then (if 0 ≤ x15 then (if x15 < (x10.length : Int) then (if ((rd_T39 x10 x15).f2) = ((rd_T39 x0 x15).f2) then (haberdashlaw22_TenderGreatest.l2 k x0 x1 x2 x7 x10 x12 x14 (wrap64 (x15 + 1))) else (some false)) else (none)) else (none)) else (haberdashlaw22_TenderGreatest.l2 k x0 x1 x2 x7 x10 x12 x14 (wrap64 (x15 + 1)))) else (none)) else (none)) else (haberdashlaw22_TenderGreatest.l2 k x0 x1 x2 x7 x10 x12 x14 (wrap64 (x15 + 1))))) else (haberdashlaw22_TenderGreatest.l1 k x0 x1 x2 x7 x10 x12 (wrap64 (x14 + 1)))
end
def haberdashlaw22_TenderGreatest.f (k : Nat) (l0 : List (S39)) (l1 : List Int) (a2 : Int) : Option (Bool) := if (l0.length : Int) > 40 then (haberdashlaw22_TenderGreatest.j0 k l0 l1 a2 true) else (haberdashlaw22_TenderGreatest.j0 k l0 l1 a2 (decide ((l1.length : Int) > 40)))
def haberdashlaw22_TenderGreatest.T14 : Bool × List (List Nat × List Nat) := (true, [([], []), ([], []), ([0, 1], [0, 1]), ([2], [2]), ([3], [3]), ([4], [4]), ([5], [5]), ([6], [6]), ([6], [6]), ([7, 8, 6], [6, 7, 8]), ([9, 6], [6, 9]), ([10, 6], [6, 10]), ([6], [6]), ([12, 6], [6, 12]), ([11, 13, 6], [6, 11, 13]), ([6, 14], [6, 14]), ([15, 6], [15]), ([16], [16]), ([16], [16]), ([17, 18, 16], [16, 17, 18]), ([19, 16], [16, 19]), ([20, 16], [16, 20]), ([21, 16], [16, 21]), ([16, 22], [16, 22]), ([23, 16], [23]), ([24], [24]), ([24], [24]), ([25, 26, 24], [24, 25, 26]), ([27, 24], [24, 27]), ([28, 24], [24, 28]), ([24], [24]), ([24], [24]), ([24], [24]), ([31, 32, 24], [24, 31, 32]), ([33, 24], [24, 33]), ([34, 24], [24, 34]), ([30, 35, 24], [24, 30, 35]), ([36, 24], [24, 36]), ([37, 24], [24, 37]), ([24], [24]), ([24], [24]), ([24], [24]), ([40, 41, 24], [24, 40, 41]), ([42, 24], [24, 42]), ([43, 24], [24, 43]), ([39, 44, 24], [24, 39, 44]), ([45, 24], [24, 45]), ([46, 24], [24, 46]), ([38, 47, 24], [24, 38, 47]), ([29, 48, 24], [24, 29, 48]), ([24, 49], [24, 49]), ([50, 24], [50]), ([51], [51]), ([51], [51]), ([53, 51], [51, 53]), ([54, 51], [51, 54]), ([52, 55, 51], [51, 52, 55]), ([56, 51, 51], [51, 56]), ([57], [57]), ([57], [57]), ([58, 59, 57], [57, 58, 59]), ([60, 57], [57, 60]), ([61, 57], [57, 61]), ([57], [57]), ([57], [57]), ([57], [57]), ([64, 65, 57], [57, 64, 65]), ([66, 57], [57, 66]), ([67, 57], [57, 67]), ([63, 68, 57], [57, 63, 68]), ([69, 57], [57, 69]), ([70, 57], [57, 70]), ([57], [57]), ([57], [57]), ([57], [57]), ([73, 74, 57], [57, 73, 74]), ([75, 57], [57, 75]), ([76, 57], [57, 76]), ([72, 77, 57], [57, 72, 77]), ([78, 57], [57, 78]), ([79, 57], [57, 79]), ([71, 80, 57], [57, 71, 80]), ([62, 81, 57], [57, 62, 81]), ([57, 82, 51], [51, 57, 82]), ([51, 83], [51, 83])])
def haberdashlaw22_TenderGreatest.B14 : List Nat := [0, 0, 3, 7, 15, 31, 63, 127, 127, 511, 1023, 2047, 127, 4223, 16383, 32767, 65535, 131071, 131071, 524287, 1048575, 2097151, 4194303, 8388607, 16777215, 33554431, 33554431, 134217727, 268435455, 536870911, 33554431, 33554431, 33554431, 6476005375, 15065939967, 32245809151, 67679289343, 136398766079, 273837719551, 33554431, 33554431, 33554431, 3298568437759, 7696614948863, 16492707971071, 34634649829375, 69819021918207, 140187766095871, 281473936523263, 562949953421311, 1125899906842623, 2251799813685247, 4503599627370495, 4503599627370495, 13510798882111487, 31525197391593471, 72057594037927935, 144115188075855871, 288230376151711743, 288230376151711743, 1152921504606846975, 2305843009213693951, 4611686018427387903, 288230376151711743, 288230376151711743, 288230376151711743, 55628462597280366591, 129415438892118573055, 276989391481794985983, 581360668698002587647, 1171656479056708239359, 2352248099774119542783, 288230376151711743, 288230376151711743, 288230376151711743, 28334487127594022993919, 66113418990551184703487, 141671282716465508122623, 297509376651163800174591, 599740831554821093851135, 1204203741362135681204223, 2417842704087597646348287, 4835703278458516698824703, 9671406556917033397649407, 19342813113834066795298815]
theorem haberdashlaw22_TenderGreatest.tab14 : rtab .any (opsOf Try.f4 14) = haberdashlaw22_TenderGreatest.T14 := by kernel_rfl
theorem haberdashlaw22_TenderGreatest.bits14 : waitsOk haberdashlaw22_TenderGreatest.T14.2 haberdashlaw22_TenderGreatest.B14 = true := by kernel_rfl
def haberdashlaw22_TenderGreatest.T23 : Bool × List (List Nat × List Nat) := (true, [([], []), ([], []), ([], []), ([], []), ([0, 1, 2, 3], [0, 1, 2, 3]), ([4, 4], [4]), ([5], [5]), ([5], [5]), ([6, 7, 5], [5, 6, 7]), ([8, 5], [5, 8]), ([9, 5], [5, 9]), ([5], [5]), ([5], [5]), ([11, 12, 5], [5, 11, 12]), ([13, 5], [5, 13]), ([14, 5], [5, 14]), ([10, 15, 5], [5, 10, 15]), ([5, 16], [5, 16]), ([17, 5], [17]), ([18], [18]), ([18], [18]), ([19, 20, 18], [18, 19, 20]), ([21, 18], [18, 21]), ([22, 18], [18, 22]), ([18], [18]), ([18], [18]), ([24, 25, 18], [18, 24, 25]), ([26, 18], [18, 26]), ([27, 18], [18, 27]), ([23, 28, 18], [18, 23, 28]), ([18, 29], [18, 29])])
def haberdashlaw22_TenderGreatest.B23 : List Nat := [0, 0, 0, 0, 15, 31, 63, 63, 255, 511, 1023, 63, 63, 6207, 14399, 30783, 65535, 131071, 262143, 524287, 524287, 2097151, 4194303, 8388607, 524287, 524287, 50855935, 117964799, 252182527, 536870911, 1073741823]
theorem haberdashlaw22_TenderGreatest.tab23 : rtab .any (opsOf Try.f4 23) = haberdashlaw22_TenderGreatest.T23 := by kernel_rfl
theorem haberdashlaw22_TenderGreatest.bits23 : waitsOk haberdashlaw22_TenderGreatest.T23.2 haberdashlaw22_TenderGreatest.B23 = true := by kernel_rfl
set_option maxHeartbeats 8000000 in
set_option maxRecDepth 100000 in
theorem haberdashlaw22_TenderGreatest.calls (k : Nat) (A0 : Option Addr) (c0 : Nat) (l0 : List (S39)) (A1 : Option Addr) (c1 : Nat) (l1 : List Int) (a2 : Int) (r : Bool) (w : World) (hr0 : Kd.C k39 w A0 l0.length l0) (hc0 : l0.length ≤ c0) (hr1 : Kd.C (Kd.int .i64) w A1 l1.length l1) (hc1 : l1.length ≤ c1) (h : haberdashlaw22_TenderGreatest.f k l0 l1 a2 = some r) :
 Calls Try.prog 4 #[.slice A0 l0.length c0, .slice A1 l1.length c1, .int .i64 a2] w fun e w' => e = .returned (.bool r) ∧ Below w.heap.size w w' := by
 have HR0 := Aside0.mk hr0
 have HC0 := Aside0.mk hc0
 clear hr0 hc0
 have HR1 := Aside0.mk hr1
 have HC1 := Aside0.mk hc1
 clear hr1 hc1
 have HB := Aside0.mk (Below.refl w.heap.size w)
 have H : (if (l0.length : Int) > 40 then (haberdashlaw22_TenderGreatest.j0 k l0 l1 a2 true) else (haberdashlaw22_TenderGreatest.j0 k l0 l1 a2 (decide ((l1.length : Int) > 40)))) = some r := h
 clear h
 have HC4 := Aside0.mk H
 clear H
 go_enter Try.func4, Try.ntmps4
 go_upto_region 1 with (fail)
 go_cut [23] (fun v23 wc => ∃ (kq : Nat) (x23_3 : Bool), v23 = .bool x23_3 ∧ Aside0 (haberdashlaw22_TenderGreatest.j0 kq l0 l1 a2 x23_3 = some r) ∧ Aside0 (kq ≤ k) ∧ Aside0 (Below w.heap.size w wc))
 case first => as_aux_lemma =>
  have H := HC4.out
  clear HC4
  by_cases c5 : (l0.length : Int) > 40
  rotate_left
  ·
   rw [if_neg c5] at H
   have c5b0 := decide_eq_false c5
   have c5b1 : decide (40 < l0.length) = false := decide_eq_false (by omega)
   clear c5
   (first | rw [c5b0] | (simp only [i64_w, i32_w]; rw [c5b0]) | skip)
   have H' := Aside0.mk H
   clear H
   go_wp2
   go_meet
   case rel => exact ⟨_, (decide ((l1.length : Int) > 40)), rf_, H', ⟨om_⟩, ⟨hb0_ HB⟩⟩
  rw [if_pos c5] at H
  have c5b0 := decide_eq_true c5
  have c5b1 : decide (40 < l0.length) = true := decide_eq_true (by omega)
  clear c5
  (first | rw [c5b0] | (simp only [i64_w, i32_w]; rw [c5b0]) | skip)
  have H' := Aside0.mk H
  clear H
  go_wp2
  go_meet
  case rel => exact ⟨_, (true), rf_, H', ⟨om_⟩, ⟨hb0_ HB⟩⟩
 case rest => as_aux_lemma =>
  clear HC4
  try clear c1
  try clear p2
  try clear c4
  try clear c5
  try clear c5b0
  try clear c5b1
  obtain ⟨kq, x23_3, rfl, HA, HJ3, HB⟩ := hcut
  cases kq with
  | zero => exact absurd HA.out (by simp [haberdashlaw22_TenderGreatest.j0])
  | succ kj3 =>
   have H := HA.out
   clear HA
   simp only [haberdashlaw22_TenderGreatest.j0] at H
   by_cases c6 : x23_3 = true
   ·
    subst c6
    rw [if_pos rfl] at H
    replace H := Option.bind_eq_some_iff.mp H
    obtain ⟨t230, A70, H⟩ := H
    (try dsimp only at H)
    have A7 := Aside0.mk A70
    clear A70
    obtain rfl := Option.some.inj H
    go_wp2_with (first | ((with_reducible refine gate_callee (f := 8) rfl ?_); refine goesL_ (some 24) rfl rfl Try.func8 (by kernel_rfl) rfl #[] rfl am_ ?_; (with_reducible refine (haberdashlaw22_awake.calls kj3  t230 _ A7.out).mono ?_); rintro e w8 ⟨rfl, hb⟩; refine ⟨_, rfl, ?_⟩; replace HB := Aside0.mk (below_step (hb0_ HB) hb); (try clear hb)))
    go_ret
    exact ⟨er_, hb0_ HB⟩
   replace c6 := Bool.eq_false_iff.mpr c6
   subst c6
   rw [if_neg nf_] at H
   replace H := Option.bind_eq_some_iff.mp H
   obtain ⟨t231, A90, H⟩ := H
   (try dsimp only at H)
   have A9 := Aside0.mk A90
   clear A90
   replace H := Option.bind_eq_some_iff.mp H
   obtain ⟨t234, A100, H⟩ := H
   (try dsimp only at H)
   have A10 := Aside0.mk A100
   clear A100
   replace H := Option.bind_eq_some_iff.mp H
   obtain ⟨t235, A110, H⟩ := H
   (try dsimp only at H)
   have A11 := Aside0.mk A110
   clear A110
   replace H := Option.bind_eq_some_iff.mp H
   obtain ⟨⟨t236, t237⟩, A120, H⟩ := H
   (try dsimp only at H)
   have A12 := Aside0.mk A120
   clear A120
   replace H := Option.bind_eq_some_iff.mp H
   obtain ⟨⟨t240, t241⟩, A130, H⟩ := H
   (try dsimp only at H)
   have A13 := Aside0.mk A130
   clear A130
   have HC14 := Aside0.mk H
   clear H
   go_upto_region 8 with (first | ((with_reducible refine gate_callee (f := 9) rfl ?_); refine goesL_ (some 26) rfl rfl Try.func9 (by kernel_rfl) rfl #[.slice A0 l0.length c0] rfl am_ ?_; (with_reducible refine (haberdashlaw22_near.calls kj3 _ _ l0 t231 _ ?side1 ?side2 A9.out).mono ?_); (case side1 => repeat (first | exact (Kd.C_below HR0.out HB.out) | (with_reducible refine Kd.C_alloc ?_ _) | (with_reducible refine Kd.C_drewN ?_ _) | (with_reducible refine Kd.C_drew ?_))); (case side2 => exact HC0.out); rintro e w15 ⟨v232, rfl, ho0, hb⟩; refine ⟨_, rfl, ?_⟩; have HO233 := Aside0.mk (Kd.R_lower ho0 (below_size (hb0_ HB))); replace HB := Aside0.mk (below_step (hb0_ HB) hb); (try clear hb); (try clear ho0); obtain ⟨Ao16, co16, eo16⟩ := Kd.R_slice HO233.out; subst eo16) | ((with_reducible refine gate_callee (f := 11) rfl ?_); refine goesL_ (some 28) rfl rfl Try.func11 (by kernel_rfl) rfl #[.slice Ao16 t231.length co16] rfl am_ ?_; (with_reducible refine (haberdashref21_Left.calls kj3 _ _ t231 t234 _ ?side1 ?side2 A10.out).mono ?_); (case side1 => repeat (first | exact (Kd.R_reads' HO233.out).2.2 | (with_reducible refine Kd.C_alloc ?_ _) | (with_reducible refine Kd.C_drewN ?_ _) | (with_reducible refine Kd.C_drew ?_))); (case side2 => exact (Kd.R_reads' HO233.out).2.1); rintro e w17 ⟨rfl, hb⟩; refine ⟨_, rfl, ?_⟩; replace HO233 := Aside0.mk (Kd.R_below (ro_ HO233) hb); replace HB := Aside0.mk (below_step (hb0_ HB) hb); (try clear hb)) | ((with_reducible refine gate_callee (f := 10) rfl ?_); refine goesL_ (some 32) rfl rfl Try.func10 (by kernel_rfl) rfl #[.int .i64 a2, .int .i64 (wrap64 (t234 + 1))] rfl am_ ?_; (with_reducible refine (haberdashplay_Mod64.calls a2 (wrap64 (t234 + 1)) t235 _ A11.out).mono ?_); rintro e w' ⟨rfl, ⟨nd, rfl⟩⟩; refine ⟨_, rfl, ?_⟩) | ((with_reducible refine gate_callee (f := 12) rfl ?_); refine goesL_ (some 37) rfl rfl Try.func12 (by kernel_rfl) rfl #[.slice Ao16 t231.length co16, .slice A1 l1.length c1, .slice none 0 0, .int .i64 t235] rfl am_ ?_; (refine (tender_Split.calls _ _ t231 _ _ l1 _ _ ([] : List Int) t235 t236 t237 _ ?side1 ?side2 ?side3 ?side4 ?side5 ?side6 A12.out).mono ?_); (case side1 => repeat (first | exact (Kd.R_reads' HO233.out).2.2 | (with_reducible refine Kd.C_alloc ?_ _) | (with_reducible refine Kd.C_drewN ?_ _) | (with_reducible refine Kd.C_drew ?_))); (case side2 => exact (Kd.R_reads' HO233.out).2.1); (case side3 => exact (Kd.C_below HR1.out (hb0_ HB))); (case side4 => exact HC1.out); (case side5 => exact Kd.C_nil _ _); (case side6 => exact Nat.le_refl _); rintro e w18 ⟨v238, rfl, ho0, hb⟩; refine ⟨_, rfl, ?_⟩; replace HO233 := Aside0.mk (Kd.R_below (ro_ HO233) hb); have HO239 := Aside0.mk (Kd.R_lower ho0 (below_size (hb0_ HB))); replace HB := Aside0.mk (below_step (hb0_ HB) hb); (try clear hb); (try clear ho0); obtain ⟨Ao19, co19, eo19⟩ := Kd.R_slice HO239.out; subst eo19) | ((with_reducible refine gate_callee (f := 15) rfl ?_); refine goesL_ (some 43) rfl rfl Try.func15 (by kernel_rfl) rfl #[.slice Ao16 t231.length co16, .slice Ao19 t236.length co19] rfl am_ ?_; (with_reducible refine (tender_Give.calls kj3 _ _ t231 _ _ t236 t240 t241 _ ?side1 ?side2 ?side3 ?side4 A13.out).mono ?_); (case side1 => repeat (first | exact (Kd.R_reads' HO233.out).2.2 | (with_reducible refine Kd.C_alloc ?_ _) | (with_reducible refine Kd.C_drewN ?_ _) | (with_reducible refine Kd.C_drew ?_))); (case side2 => exact (Kd.R_reads' HO233.out).2.1); (case side3 => repeat (first | exact (Kd.R_reads' HO239.out).2.2 | (with_reducible refine Kd.C_alloc ?_ _) | (with_reducible refine Kd.C_drewN ?_ _) | (with_reducible refine Kd.C_drew ?_))); (case side4 => exact (Kd.R_reads' HO239.out).2.1); rintro e w20 ⟨v242, rfl, ho0, hb⟩; refine ⟨_, rfl, ?_⟩; replace HO239 := Aside0.mk (Kd.R_below (ro_ HO239) hb); have HO243 := Aside0.mk (Kd.R_lower (Kd.R_new' ho0 (Kd.R_lt (ro_ HO233))) (below_size (hb0_ HB))); replace HO233 := Aside0.mk (Kd.R_elder' (ro_ HO233) (Kd.R_base ho0) hb); replace HB := Aside0.mk (below_step (hb0_ HB) hb); (try clear hb); (try clear ho0)))
   (try simp only [Act.put, List.setIfInBounds_toArray, List.set_cons_zero, List.set_cons_succ])
   go_cut [62] (fun v62 wc => ∃ (kq : Nat) (x62_13 : Bool), v62 = .bool x62_13 ∧ Aside0 (haberdashlaw22_TenderGreatest.j1 kq t231 l1 t235 t234 t236 t240 x62_13 = some r) ∧ Aside0 (kq ≤ kj3) ∧ Aside0 (Kd.R k39 39 wc w.heap.size (fun k_ => some k_ ≠ (v242 : Value).ownBlock) (.slice Ao16 t231.length co16) t231) ∧ Aside0 (Kd.R k34 34 wc w.heap.size (fun _ => True) (.slice Ao19 t236.length co19) t236) ∧ Aside0 (Kd.R k39 39 wc w.heap.size (fun k_ => some k_ ≠ ((.slice Ao16 t231.length co16) : Value).ownBlock) v242 t240) ∧ Aside0 (Below w.heap.size w wc))
   case first => as_aux_lemma =>
    have H := HC14.out
    clear HC14
    replace H := Option.bind_eq_some_iff.mp H
    obtain ⟨t244, A210, H⟩ := H
    (try dsimp only at H)
    have A21 := Aside0.mk A210
    clear A210
    by_cases c22 : t244 = true
    rotate_left
    ·
     replace c22 := Bool.eq_false_iff.mpr c22
     subst c22
     rw [if_neg nf_] at H
     have H' := Aside0.mk H
     clear H
     go_wp2_with (first | ((with_reducible refine gate_callee (f := 8) rfl ?_); refine goesL_ (some 46) rfl rfl Try.func8 (by kernel_rfl) rfl #[] rfl am_ ?_; (with_reducible refine (haberdashlaw22_awake.calls kj3  false _ A21.out).mono ?_); rintro e w29 ⟨rfl, hb⟩; refine ⟨_, rfl, ?_⟩; replace HO233 := Aside0.mk (Kd.R_below (ro_ HO233) hb); replace HO239 := Aside0.mk (Kd.R_below (ro_ HO239) hb); replace HO243 := Aside0.mk (Kd.R_below (ro_ HO243) hb); replace HB := Aside0.mk (below_step (hb0_ HB) hb); (try clear hb)))
     go_meet
     case rel => exact ⟨_, (true), rf_, H', ⟨by have := HJ3.out; first | omega | exact Nat.le_refl _⟩, ⟨by (with_reducible repeat (first | apply Kd.R_alloc | apply Kd.R_drewN | apply Kd.R_drew)); exact Kd.R_mono HO233.out (fun _ hk => hk.2)⟩, ⟨ro_ HO239⟩, ⟨by (with_reducible repeat (first | apply Kd.R_alloc | apply Kd.R_drewN | apply Kd.R_drew)); exact Kd.R_mono HO243.out (fun _ hk => hk.2)⟩, ⟨hb0_ HB⟩⟩
    subst c22
    rw [if_pos rfl] at H
    by_cases c23 : t237 = 0
    rotate_left
    ·
     rw [if_neg c23] at H
     have c23b0 : (t237 == 0) = false := beq_eq_false_iff_ne.mpr c23
     have c23b1 : (t237 != 0) = true := bne_iff_ne.mpr c23
     (first | rw [c23b0] | (simp only [i64_w, i32_w]; rw [c23b0]) | skip)
     have H' := Aside0.mk H
     clear H
     go_wp2_with (first | ((with_reducible refine gate_callee (f := 8) rfl ?_); refine goesL_ (some 46) rfl rfl Try.func8 (by kernel_rfl) rfl #[] rfl am_ ?_; (with_reducible refine (haberdashlaw22_awake.calls kj3  true _ A21.out).mono ?_); rintro e w28 ⟨rfl, hb⟩; refine ⟨_, rfl, ?_⟩; replace HO233 := Aside0.mk (Kd.R_below (ro_ HO233) hb); replace HO239 := Aside0.mk (Kd.R_below (ro_ HO239) hb); replace HO243 := Aside0.mk (Kd.R_below (ro_ HO243) hb); replace HB := Aside0.mk (below_step (hb0_ HB) hb); (try clear hb)))
     go_meet
     case rel => exact ⟨_, (true), rf_, H', ⟨by have := HJ3.out; first | omega | exact Nat.le_refl _⟩, ⟨by (with_reducible repeat (first | apply Kd.R_alloc | apply Kd.R_drewN | apply Kd.R_drew)); exact Kd.R_mono HO233.out (fun _ hk => hk.2)⟩, ⟨ro_ HO239⟩, ⟨by (with_reducible repeat (first | apply Kd.R_alloc | apply Kd.R_drewN | apply Kd.R_drew)); exact Kd.R_mono HO243.out (fun _ hk => hk.2)⟩, ⟨hb0_ HB⟩⟩
    rw [if_pos c23] at H
    have c23b0 : (t237 == 0) = true := beq_iff_eq.mpr c23
    have c23b1 : (t237 != 0) = false := bne_eq_false_iff_eq.mpr c23
    clear c23
    (first | rw [c23b0] | (simp only [i64_w, i32_w]; rw [c23b0]) | skip)
    by_cases c24 : t241 = 0
    rotate_left
    ·
     rw [if_neg c24] at H
     have c24b0 : (t241 == 0) = false := beq_eq_false_iff_ne.mpr c24
     have c24b1 : (t241 != 0) = true := bne_iff_ne.mpr c24
     have H' := Aside0.mk H
     clear H
     go_wp2_with (first | ((with_reducible refine gate_callee (f := 8) rfl ?_); refine goesL_ (some 46) rfl rfl Try.func8 (by kernel_rfl) rfl #[] rfl am_ ?_; (with_reducible refine (haberdashlaw22_awake.calls kj3  true _ A21.out).mono ?_); rintro e w27 ⟨rfl, hb⟩; refine ⟨_, rfl, ?_⟩; replace HO233 := Aside0.mk (Kd.R_below (ro_ HO233) hb); replace HO239 := Aside0.mk (Kd.R_below (ro_ HO239) hb); replace HO243 := Aside0.mk (Kd.R_below (ro_ HO243) hb); replace HB := Aside0.mk (below_step (hb0_ HB) hb); (try clear hb)))
     go_meet
     case rel => exact ⟨_, (true), rf_, H', ⟨by have := HJ3.out; first | omega | exact Nat.le_refl _⟩, ⟨by (with_reducible repeat (first | apply Kd.R_alloc | apply Kd.R_drewN | apply Kd.R_drew)); exact Kd.R_mono HO233.out (fun _ hk => hk.2)⟩, ⟨ro_ HO239⟩, ⟨by (with_reducible repeat (first | apply Kd.R_alloc | apply Kd.R_drewN | apply Kd.R_drew)); exact Kd.R_mono HO243.out (fun _ hk => hk.2)⟩, ⟨hb0_ HB⟩⟩
    rw [if_pos c24] at H
    have c24b0 : (t241 == 0) = true := beq_iff_eq.mpr c24
    have c24b1 : (t241 != 0) = false := bne_eq_false_iff_eq.mpr c24
    clear c24
    have H' := Aside0.mk H
    clear H
    go_wp2_with (first | ((with_reducible refine gate_callee (f := 8) rfl ?_); refine goesL_ (some 46) rfl rfl Try.func8 (by kernel_rfl) rfl #[] rfl am_ ?_; (with_reducible refine (haberdashlaw22_awake.calls kj3  true _ A21.out).mono ?_); rintro e w25 ⟨rfl, hb⟩; refine ⟨_, rfl, ?_⟩; replace HO233 := Aside0.mk (Kd.R_below (ro_ HO233) hb); replace HO239 := Aside0.mk (Kd.R_below (ro_ HO239) hb); replace HO243 := Aside0.mk (Kd.R_below (ro_ HO243) hb); replace HB := Aside0.mk (below_step (hb0_ HB) hb); (try clear hb); obtain ⟨Ao26, co26, eo26⟩ := Kd.R_slice HO243.out; subst eo26))
    go_meet
    case rel => exact ⟨_, (((t240.length : Int) != (t231.length : Int))), rf_, H', ⟨by have := HJ3.out; first | omega | exact Nat.le_refl _⟩, ⟨by (with_reducible repeat (first | apply Kd.R_alloc | apply Kd.R_drewN | apply Kd.R_drew)); exact Kd.R_mono HO233.out (fun _ hk => hk.2)⟩, ⟨ro_ HO239⟩, ⟨by (with_reducible repeat (first | apply Kd.R_alloc | apply Kd.R_drewN | apply Kd.R_drew)); exact Kd.R_mono HO243.out (fun _ hk => hk.2)⟩, ⟨hb0_ HB⟩⟩
   case rest => as_aux_lemma =>
    clear HC14
    try clear c1
    try clear c2
    try clear p2
    try clear c4
    try clear c5
    try clear c5b0
    try clear c5b1
    try clear c6
    try clear p6
    try clear c8
    try clear c9
    try clear c10
    try clear c11
    try clear c12
    try clear c15
    try clear c22
    try clear c23
    try clear c23b0
    try clear c23b1
    try clear c24
    try clear c24b0
    try clear c24b1
    try clear p2
    obtain ⟨kq, x62_13, rfl, HA, HJ13, HO_0, HO_8, HO_10, HB⟩ := hcut
    cases kq with
    | zero => exact absurd HA.out (by simp [haberdashlaw22_TenderGreatest.j1])
    | succ kj13 =>
     have H := HA.out
     clear HA
     simp only [haberdashlaw22_TenderGreatest.j1] at H
     by_cases c30 : x62_13 = true
     ·
      subst c30
      rw [if_pos rfl] at H
      obtain rfl := Option.some.inj H
      go_wp2
      go_ret
      exact ⟨er_, hb0_ HB⟩
     replace c30 := Bool.eq_false_iff.mpr c30
     subst c30
     rw [if_neg nf_] at H
     have H' := Aside0.mk H
     clear H
     go_wp2
     go_loopg [12, 13] kj13 (fun kq v12 v13 w' => ∃ (x12_3 : Int) (x13_3 : Int), v12 = .int .i64 x12_3 ∧ v13 = .int .i64 x13_3 ∧ Aside0 (haberdashlaw22_TenderGreatest.l0 kq t231 l1 t235 t234 t236 t240 x12_3 x13_3 = some r) ∧ Aside0 (kq ≤ kj13) ∧ Aside0 (Kd.R k39 39 w' w.heap.size (fun k_ => some k_ ≠ (v242 : Value).ownBlock) (.slice Ao16 t231.length co16) t231) ∧ Aside0 (Kd.R k34 34 w' w.heap.size (fun _ => True) (.slice Ao19 t236.length co19) t236) ∧ Aside0 (Kd.R k39 39 w' w.heap.size (fun k_ => some k_ ≠ ((.slice Ao16 t231.length co16) : Value).ownBlock) v242 t240) ∧ Aside0 (Below w.heap.size w w'))
     case atStart => exact ⟨(0), (0), rf_, rf_, H', ⟨Nat.le_refl _⟩, ⟨ro_ HO_0⟩, ⟨ro_ HO_8⟩, ⟨ro_ HO_10⟩, ⟨hb0_ HB⟩⟩
     case round => as_aux_lemma =>
      clear H'
      try clear c1
      try clear c2
      try clear p2
      try clear c3
      try clear c4
      try clear c5
      try clear c5b0
      try clear c5b1
      try clear c6
      try clear p6
      try clear c8
      try clear c9
      try clear c10
      try clear c11
      try clear c12
      try clear c15
      try clear c22
      try clear c23
      try clear c23b0
      try clear c23b1
      try clear c24
      try clear c24b0
      try clear c24b1
      try clear c30
      try clear p2
      try clear p6
      obtain ⟨x12_3, x13_3, rfl, rfl, HA, HK3, HO_0, HO_8, HO_10, HB⟩ := hrel
      cases gk with
      | zero => exact absurd HA.out (by simp [haberdashlaw22_TenderGreatest.l0])
      | succ k3 =>
       have H := HA.out
       clear HA
       simp only [haberdashlaw22_TenderGreatest.l0] at H
       by_cases c31 : x13_3 < (t236.length : Int)
       rotate_left
       ·
        rw [if_neg c31] at H
        have c31b0 := decide_eq_false c31
        clear c31
        have H' := Aside0.mk H
        clear H
        go_wp2
        go_loopg [14] k3 (fun kq v14 w' => ∃ (x14_4 : Int), v14 = .int .i64 x14_4 ∧ Aside0 (haberdashlaw22_TenderGreatest.l1 kq t231 l1 t235 t234 t240 x12_3 x14_4 = some r) ∧ Aside0 (kq ≤ k3) ∧ Aside0 (Kd.R k39 39 w' w.heap.size (fun k_ => some k_ ≠ (v242 : Value).ownBlock) (.slice Ao16 t231.length co16) t231) ∧ Aside0 (Kd.R k39 39 w' w.heap.size (fun k_ => some k_ ≠ ((.slice Ao16 t231.length co16) : Value).ownBlock) v242 t240) ∧ Aside0 (Below w.heap.size w w'))
        case atStart => exact ⟨(0), rf_, H', ⟨Nat.le_refl _⟩, ⟨ro_ HO_0⟩, ⟨ro_ HO_10⟩, ⟨hb0_ HB⟩⟩
        case round => as_aux_lemma =>
         clear H'
         try clear p2
         try clear q2
         try clear hx2
         try clear c3
         try clear c4
         try clear p6
         try clear p25
         try clear q25
         try clear hx25
         try clear c31
         try clear c31b0
         try clear c32
         try clear c39
         try clear c40
         try clear hx259_0
         try clear hx259_1
         try clear hx259_2
         try clear p259
         try clear q259
         obtain ⟨x14_4, rfl, HA, HK4, HO_0, HO_10, HB⟩ := hrel
         cases gk with
         | zero => exact absurd HA.out (by simp [haberdashlaw22_TenderGreatest.l1])
         | succ k4 =>
          have H := HA.out
          clear HA
          simp only [haberdashlaw22_TenderGreatest.l1] at H
          by_cases c48 : x14_4 < (t231.length : Int)
          rotate_left
          ·
           rw [if_neg c48] at H
           have c48b0 := decide_eq_false c48
           clear c48
           by_cases c65 : x12_3 = t235
           rotate_left
           ·
            rw [if_neg c65] at H
            have c65b0 : (x12_3 == t235) = false := beq_eq_false_iff_ne.mpr c65
            have c65b1 : (x12_3 != t235) = true := bne_iff_ne.mpr c65
            obtain rfl := Option.some.inj H
            go_wp2
            go_ret
            exact ⟨er_, hb0_ HB⟩
           rw [if_pos c65] at H
           have c65b0 : (x12_3 == t235) = true := beq_iff_eq.mpr c65
           have c65b1 : (x12_3 != t235) = false := bne_eq_false_iff_eq.mpr c65
           clear c65
           replace H := Option.bind_eq_some_iff.mp H
           obtain ⟨t260, A660, H⟩ := H
           (try dsimp only at H)
           have A66 := Aside0.mk A660
           clear A660
           by_cases c67 : t260 = (wrap64 (t234 - t235))
           rotate_left
           ·
            rw [if_neg c67] at H
            have c67b0 : (t260 == (wrap64 (t234 - t235))) = false := beq_eq_false_iff_ne.mpr c67
            have c67b1 : (t260 != (wrap64 (t234 - t235))) = true := bne_iff_ne.mpr c67
            obtain rfl := Option.some.inj H
            obtain ⟨Ao72, co72, eo72⟩ := Kd.R_slice HO_10.out
            subst eo72
            go_wp2_with (first | (go_at_call 17; (with_reducible refine (tender_Left.calls k4 _ _ t240 t260 _ ?side1 ?side2 A66.out).mono ?_); (case side1 => repeat (first | exact (Kd.R_reads' HO_10.out).2.2 | (with_reducible refine Kd.C_alloc ?_ _) | (with_reducible refine Kd.C_drewN ?_ _) | (with_reducible refine Kd.C_drew ?_))); (case side2 => exact (Kd.R_reads' HO_10.out).2.1); rintro e w73 ⟨rfl, hb⟩; replace HO_0 := Aside0.mk (Kd.R_below (ro_ HO_0) hb); replace HO_10 := Aside0.mk (Kd.R_below (ro_ HO_10) hb); replace HB := Aside0.mk (below_step (hb0_ HB) hb); (try clear hb)))
            go_ret
            exact ⟨er_, hb0_ HB⟩
           rw [if_pos c67] at H
           have c67b0 : (t260 == (wrap64 (t234 - t235))) = true := beq_iff_eq.mpr c67
           have c67b1 : (t260 != (wrap64 (t234 - t235))) = false := bne_eq_false_iff_eq.mpr c67
           clear c67
           replace H := Option.bind_eq_some_iff.mp H
           obtain ⟨t261, A680, H⟩ := H
           (try dsimp only at H)
           have A68 := Aside0.mk A680
           clear A680
           obtain rfl := Option.some.inj H
           obtain ⟨Ao69, co69, eo69⟩ := Kd.R_slice HO_10.out
           subst eo69
           go_wp2_with (first | (go_at_call 17; (with_reducible refine (tender_Left.calls k4 _ _ t240 t260 _ ?side1 ?side2 A66.out).mono ?_); (case side1 => repeat (first | exact (Kd.R_reads' HO_10.out).2.2 | (with_reducible refine Kd.C_alloc ?_ _) | (with_reducible refine Kd.C_drewN ?_ _) | (with_reducible refine Kd.C_drew ?_))); (case side2 => exact (Kd.R_reads' HO_10.out).2.1); rintro e w70 ⟨rfl, hb⟩; replace HO_0 := Aside0.mk (Kd.R_below (ro_ HO_0) hb); replace HO_10 := Aside0.mk (Kd.R_below (ro_ HO_10) hb); replace HB := Aside0.mk (below_step (hb0_ HB) hb); (try clear hb)) | (go_at_call 18; (with_reducible refine (tender_Right.calls k4 _ _ t240 t261 _ ?side1 ?side2 A68.out).mono ?_); (case side1 => repeat (first | exact (Kd.R_reads' HO_10.out).2.2 | (with_reducible refine Kd.C_alloc ?_ _) | (with_reducible refine Kd.C_drewN ?_ _) | (with_reducible refine Kd.C_drew ?_))); (case side2 => exact (Kd.R_reads' HO_10.out).2.1); rintro e w71 ⟨rfl, hb⟩; replace HO_0 := Aside0.mk (Kd.R_below (ro_ HO_0) hb); replace HO_10 := Aside0.mk (Kd.R_below (ro_ HO_10) hb); replace HB := Aside0.mk (below_step (hb0_ HB) hb); (try clear hb)))
           go_ret
           exact ⟨er_, hb0_ HB⟩
          rw [if_pos c48] at H
          have c48b0 := decide_eq_true c48
          clear c48
          have H' := Aside0.mk H
          clear H
          go_wp2
          go_loopg [15] k4 (fun kq v15 w' => ∃ (x15_5 : Int), v15 = .int .i64 x15_5 ∧ Aside0 (haberdashlaw22_TenderGreatest.l2 kq t231 l1 t235 t234 t240 x12_3 x14_4 x15_5 = some r) ∧ Aside0 (kq ≤ k4) ∧ Aside0 (Kd.R k39 39 w' w.heap.size (fun k_ => some k_ ≠ (v242 : Value).ownBlock) (.slice Ao16 t231.length co16) t231) ∧ Aside0 (Kd.R k39 39 w' w.heap.size (fun k_ => some k_ ≠ ((.slice Ao16 t231.length co16) : Value).ownBlock) v242 t240) ∧ Aside0 (Below w.heap.size w w'))
          case atStart => exact ⟨(0), rf_, H', ⟨Nat.le_refl _⟩, ⟨ro_ HO_0⟩, ⟨ro_ HO_10⟩, ⟨hb0_ HB⟩⟩
          case round => as_aux_lemma =>
           clear H'
           try clear p2
           try clear q2
           try clear hx2
           try clear c3
           try clear c4
           try clear p6
           try clear p25
           try clear q25
           try clear hx25
           try clear c31
           try clear c31b0
           try clear c32
           try clear c39
           try clear c40
           try clear c48
           try clear c48b0
           try clear hx259_0
           try clear hx259_1
           try clear hx259_2
           try clear p2
           try clear p25
           try clear p259
           try clear p6
           try clear q2
           try clear q25
           try clear q259
           obtain ⟨x15_5, rfl, HA, HK5, HO_0, HO_10, HB⟩ := hrel
           cases gk with
           | zero => exact absurd HA.out (by simp [haberdashlaw22_TenderGreatest.l2])
           | succ k5 =>
            have H := HA.out
            clear HA
            simp only [haberdashlaw22_TenderGreatest.l2] at H
            by_cases c49 : x15_5 < (t231.length : Int)
            rotate_left
            ·
             rw [if_neg c49] at H
             have c49b0 := decide_eq_false c49
             clear c49
             have H' := Aside0.mk H
             clear H
             go_wp2
             go_roundg k5
             case measure => have := HJ3.out; have := HJ13.out; have := HK3.out; have := HK4.out; have := HK5.out; omega
             case rel => exact ⟨(wrap64 (x14_4 + 1)), rf_, H', ⟨by have := HJ3.out; have := HJ13.out; have := HK3.out; have := HK4.out; have := HK5.out; omega⟩, ⟨ro_ HO_0⟩, ⟨ro_ HO_10⟩, ⟨hb0_ HB⟩⟩
            rw [if_pos c49] at H
            have c49b0 := decide_eq_true c49
            clear c49
            replace H := Option.bind_eq_some_iff.mp H
            obtain ⟨t262, A500, H⟩ := H
            (try dsimp only at H)
            have A50 := Aside0.mk A500
            clear A500
            by_cases c51 : t262 = true
            rotate_left
            ·
             replace c51 := Bool.eq_false_iff.mpr c51
             subst c51
             rw [if_neg nf_] at H
             have H' := Aside0.mk H
             clear H
             try go_wp2
             replace HO_0 := Aside0.mk (Kd.R_drew HO_0.out)
             replace HO_10 := Aside0.mk (Kd.R_drew HO_10.out)
             replace HB := Aside0.mk (below_drew1 HB.out)
             refine start_ (n := 31) (S := fun w' => True) (ds := []) (mk 31 0) (by kernel_rfl) rfl rfl trivial (fun hHeld => ?_); refine with_tabW haberdashlaw22_TenderGreatest.tab23 haberdashlaw22_TenderGreatest.bits23 (fun HT_ HW_ => ?_)
             generalize wr.drew = w64 at HO_0 HO_10 HB hHeld ⊢
             refine ahead_ [(0, 173), (1, 174), (2, 175), (3, 176)] ?_
             iterate 4 (refine pA_ (v := ?_) (a' := ?_) rfl rfl HT_.out kr_ nh_ (Or.inl ⟨ry_, ?_⟩) ?_ ?_; rotate_left; (intro w'; go_simp; with_reducible rfl); rotate_left; (exact pu_))
             refine aheadE_ (mk 31 15) (by kernel_rfl) ?_
             refine one_ (i := 4) (N := some 177) (mk 31 31) rfl rfl (on_ HT_) de_ (fun K hK => ?_)
             refine goes_ Try.func16 (by kernel_rfl) rfl #[.slice Ao16 t231.length co16, .slice A1 l1.length c1, .int .i64 x14_4, .int .i64 x15_5] (by rfl) rfl rfl am_ ?_
             with_reducible refine (haberdashlaw22_earlier.calls k5 _ _ t231 _ _ l1 x14_4 x15_5 false _ ?side1 ?side2 ?side3 ?side4 A50.out).mono ?_
             (case side1 => repeat (first | exact (Kd.R_reads' HO_0.out).2.2 | (with_reducible refine Kd.C_alloc ?_ _) | (with_reducible refine Kd.C_drewN ?_ _) | (with_reducible refine Kd.C_drew ?_)))
             (case side2 => exact (Kd.R_reads' HO_0.out).2.1)
             (case side3 => repeat (first | exact (Kd.C_below HR1.out HB.out) | (with_reducible refine Kd.C_alloc ?_ _) | (with_reducible refine Kd.C_drewN ?_ _) | (with_reducible refine Kd.C_drew ?_)))
             (case side4 => exact HC1.out)
             rintro e w' ⟨rfl, ⟨nd, rfl⟩⟩
             refine ⟨_, rfl, ?_⟩
             refine hK.out _ _ trivial (fun hHeld => ?_)
             clear hK K
             refine norm_ (a' := ?_) ?_ ?_
             rotate_left; (show Act.put _ (some 177) _ = _; exact pu_)
             refine pure_ (i := 5) (N := some 178) (v := ?_) (a' := ?_) (mk 31 63) rfl rfl (an_ HT_) nh_ (Or.inl ⟨ry_, ?_⟩) ?_ ?_
             rotate_left; (intro w'; go_simp; with_reducible rfl)
             rotate_left; (exact pu_)
             refine ahead_ [(6, 179), (7, 180), (8, 181), (9, 182), (10, 183), (11, 184), (12, 185), (13, 186), (14, 187), (15, 188), (16, 189)] ?_
             iterate 11 (refine pA_ (v := undef) (a' := ?_) rfl rfl HT_.out kr_ nh_ ru_ ?_ ?_; rotate_left; (exact pu_))
             refine aheadE_ (mk 31 131071) (by kernel_rfl) ?_
             refine ahead_ [(17, 190), (18, 191)] ?_
             iterate 2 (refine pA_ (v := ?_) (a' := ?_) rfl rfl HT_.out kr_ nh_ (Or.inl ⟨ry_, ?_⟩) ?_ ?_; rotate_left; (intro w'; go_simp; with_reducible rfl); rotate_left; (exact pu_))
             refine aheadE_ (mk 31 524287) (by kernel_rfl) ?_
             refine ahead_ [(19, 192), (20, 193), (21, 194), (22, 195), (23, 196), (24, 197), (25, 198), (26, 199), (27, 200), (28, 201), (29, 202)] ?_
             iterate 11 (refine pA_ (v := undef) (a' := ?_) rfl rfl HT_.out kr_ nh_ ru_ ?_ ?_; rotate_left; (exact pu_))
             refine aheadE_ (mk 31 1073741823) (by kernel_rfl) ?_
             refine pure_ (i := 30) (N := some 203) (v := ?_) (a' := ?_) (mk 31 2147483647) rfl rfl (an_ HT_) nh_ (Or.inl ⟨ry_, ?_⟩) ?_ ?_
             rotate_left; (intro w'; go_simp; with_reducible rfl)
             rotate_left; (exact pu_)
             refine done_ (done_of HT_.out (by kernel_rfl)) ?_
             try go_wp2
             go_roundg k5
             case measure => have := HJ3.out; have := HJ13.out; have := HK3.out; have := HK4.out; have := HK5.out; omega
             case rel => exact ⟨(wrap64 (x15_5 + 1)), rf_, H', ⟨by have := HJ3.out; have := HJ13.out; have := HK3.out; have := HK4.out; have := HK5.out; omega⟩, ⟨ro_ HO_0⟩, ⟨ro_ HO_10⟩, ⟨hb0_ HB⟩⟩
            subst c51
            rw [if_pos rfl] at H
            by_cases c52 : 0 ≤ x14_4
            rotate_left
            ·
             rw [if_neg c52] at H
             exact absurd H (by simp)
            rw [if_pos c52] at H
            have c52b0 := decide_eq_true c52
            clear c52
            by_cases c53 : x14_4 < (t240.length : Int)
            rotate_left
            ·
             rw [if_neg c53] at H
             exact absurd H (by simp)
            rw [if_pos c53] at H
            have c53b0 := decide_eq_true c53
            clear c53
            by_cases c54 : ((rd_T39 t240 x14_4).f2) < ((rd_T39 t240 x14_4).f1)
            rotate_left
            ·
             rw [if_neg c54] at H
             have c54b0 := decide_eq_false c54
             clear c54
             have H' := Aside0.mk H
             clear H
             try go_wp2
             replace HO_0 := Aside0.mk (Kd.R_drew HO_0.out)
             replace HO_10 := Aside0.mk (Kd.R_drew HO_10.out)
             replace HB := Aside0.mk (below_drew1 HB.out)
             obtain ⟨Ao63, co63, eo63⟩ := Kd.R_slice HO_10.out
             (first | subst eo63 | (injection eo63 with f1_ f2_ f3_; have f4_ := f1_.symm; have f5_ := f3_.symm; clear f1_ f2_ f3_; subst f4_; subst f5_))
             have p263 : 0 ≤ (x14_4 : Int) := of_decide_eq_true as_
             have q263 : x14_4 < (t240.length : Int) := of_decide_eq_true as_
             obtain ⟨ad263, e263, hx263_0, hx263_1, hx263_2⟩ := at_T39 (Kd.R_reads' HO_10.out).2.2 x14_4 p263 q263
             cases e263
             replace p263 := eq_true p263
             replace q263 := eq_true q263
             have p264 : 0 ≤ (x14_4 : Int) := of_decide_eq_true as_
             have q264 : x14_4 < (t240.length : Int) := of_decide_eq_true as_
             obtain ⟨ad264, e264, hx264_0, hx264_1, hx264_2⟩ := at_T39 (Kd.R_reads' HO_10.out).2.2 x14_4 p264 q264
             obtain rfl : ad263 = ad264 := (by injection e264)
             replace p264 := eq_true p264
             replace q264 := eq_true q264
             refine start_ (n := 31) (S := fun w' => w'.cell? (ad263.add ((x14_4).toNat * 3)) = some (.int .i64 ((rd_T39 t240 x14_4).f0)) ∧ w'.cell? ⟨(ad263.add ((x14_4).toNat * 3)).block, (ad263.add ((x14_4).toNat * 3)).off + 1, none⟩ = some (.int .i64 ((rd_T39 t240 x14_4).f1)) ∧ w'.cell? ⟨(ad263.add ((x14_4).toNat * 3)).block, (ad263.add ((x14_4).toNat * 3)).off + 2, none⟩ = some (.int .i64 ((rd_T39 t240 x14_4).f2)) ∧ w'.cell? (ad263.add ((x14_4).toNat * 3)) = some (.int .i64 ((rd_T39 t240 x14_4).f0)) ∧ w'.cell? ⟨(ad263.add ((x14_4).toNat * 3)).block, (ad263.add ((x14_4).toNat * 3)).off + 1, none⟩ = some (.int .i64 ((rd_T39 t240 x14_4).f1)) ∧ w'.cell? ⟨(ad263.add ((x14_4).toNat * 3)).block, (ad263.add ((x14_4).toNat * 3)).off + 2, none⟩ = some (.int .i64 ((rd_T39 t240 x14_4).f2))) (ds := []) (mk 31 0) (by kernel_rfl) rfl rfl ⟨hx263_0, hx263_1, hx263_2, hx264_0, hx264_1, hx264_2⟩ (fun hHeld => ?_); refine with_tabW haberdashlaw22_TenderGreatest.tab23 haberdashlaw22_TenderGreatest.bits23 (fun HT_ HW_ => ?_)
             generalize wr.drew = w62 at HO_0 HO_10 HB hx263_0 hx263_1 hx263_2 hx264_0 hx264_1 hx264_2 hHeld ⊢
             refine ahead_ [(0, 173), (1, 174), (2, 175), (3, 176)] ?_
             iterate 4 (refine pA_ (v := ?_) (a' := ?_) rfl rfl HT_.out kr_ nh_ (Or.inl ⟨ry_, ?_⟩) ?_ ?_; rotate_left; (intro w'; go_simp; with_reducible rfl); rotate_left; (exact pu_))
             refine aheadE_ (mk 31 15) (by kernel_rfl) ?_
             refine one_ (i := 4) (N := some 177) (mk 31 31) rfl rfl (on_ HT_) de_ (fun K hK => ?_)
             refine goes_ Try.func16 (by kernel_rfl) rfl #[.slice Ao16 t231.length co16, .slice A1 l1.length c1, .int .i64 x14_4, .int .i64 x15_5] (by rfl) rfl rfl am_ ?_
             with_reducible refine (haberdashlaw22_earlier.calls k5 _ _ t231 _ _ l1 x14_4 x15_5 true _ ?side1 ?side2 ?side3 ?side4 A50.out).mono ?_
             (case side1 => repeat (first | exact (Kd.R_reads' HO_0.out).2.2 | (with_reducible refine Kd.C_alloc ?_ _) | (with_reducible refine Kd.C_drewN ?_ _) | (with_reducible refine Kd.C_drew ?_)))
             (case side2 => exact (Kd.R_reads' HO_0.out).2.1)
             (case side3 => repeat (first | exact (Kd.C_below HR1.out HB.out) | (with_reducible refine Kd.C_alloc ?_ _) | (with_reducible refine Kd.C_drewN ?_ _) | (with_reducible refine Kd.C_drew ?_)))
             (case side4 => exact HC1.out)
             rintro e w' ⟨rfl, ⟨nd, rfl⟩⟩
             refine ⟨_, rfl, ?_⟩
             refine hK.out _ _ ⟨hHeld.1, hHeld.2.1, hHeld.2.2.1, hHeld.2.2.2.1, hHeld.2.2.2.2.1, hHeld.2.2.2.2.2⟩ (fun hHeld => ?_)
             clear hK K
             refine norm_ (a' := ?_) ?_ ?_
             rotate_left; (show Act.put _ (some 177) _ = _; exact pu_)
             refine ahead_ [(5, 178), (6, 179), (7, 180), (8, 181), (9, 182), (11, 184), (12, 185), (13, 186), (14, 187)] ?_
             iterate 9 (refine pA_ (v := ?_) (a' := ?_) rfl rfl HT_.out kr_ nh_ (Or.inl ⟨ry_, ?_⟩) ?_ ?_; rotate_left; (intro w'; go_simp; with_reducible rfl); rotate_left; (exact pu_))
             refine aheadE_ (mk 31 31743) (by kernel_rfl) ?_
             refine ahead_ [(10, 183), (15, 188)] ?_
             iterate 2 (refine tA_ (v := ?_) (a' := ?_) rfl rfl HT_.out HW_.out (by kernel_rfl) (fun _ _ _ h => h) (Or.inl ⟨by rfl, ?_⟩) hHeld ?_ ?_; rotate_left; (rintro w' ⟨s0, s1, s2, s3, s4, s5⟩; go_simp; with_reducible rfl); rotate_left; (exact pu_))
             refine aheadE_ (mk 31 65535) (by kernel_rfl) ?_
             refine ahead_ [(16, 189), (17, 190), (18, 191)] ?_
             iterate 3 (refine pA_ (v := ?_) (a' := ?_) rfl rfl HT_.out kr_ nh_ (Or.inl ⟨ry_, ?_⟩) ?_ ?_; rotate_left; (intro w'; go_simp; with_reducible rfl); rotate_left; (exact pu_))
             refine aheadE_ (mk 31 524287) (by kernel_rfl) ?_
             refine ahead_ [(19, 192), (20, 193), (21, 194), (22, 195), (23, 196), (24, 197), (25, 198), (26, 199), (27, 200), (28, 201), (29, 202)] ?_
             iterate 11 (refine pA_ (v := undef) (a' := ?_) rfl rfl HT_.out kr_ nh_ ru_ ?_ ?_; rotate_left; (exact pu_))
             refine aheadE_ (mk 31 1073741823) (by kernel_rfl) ?_
             refine pure_ (i := 30) (N := some 203) (v := ?_) (a' := ?_) (mk 31 2147483647) rfl rfl (an_ HT_) nh_ (Or.inl ⟨ry_, ?_⟩) ?_ ?_
             rotate_left; (intro w'; go_simp; with_reducible rfl)
             rotate_left; (exact pu_)
             refine done_ (done_of HT_.out (by kernel_rfl)) ?_
             try go_wp2
             go_roundg k5
             case measure => have := HJ3.out; have := HJ13.out; have := HK3.out; have := HK4.out; have := HK5.out; omega
             case rel => exact ⟨(wrap64 (x15_5 + 1)), rf_, H', ⟨by have := HJ3.out; have := HJ13.out; have := HK3.out; have := HK4.out; have := HK5.out; omega⟩, ⟨ro_ HO_0⟩, ⟨ro_ HO_10⟩, ⟨hb0_ HB⟩⟩
            rw [if_pos c54] at H
            have c54b0 := decide_eq_true c54
            clear c54
            by_cases c55 : 0 ≤ x15_5
            rotate_left
            ·
             rw [if_neg c55] at H
             exact absurd H (by simp)
            rw [if_pos c55] at H
            have c55b0 := decide_eq_true c55
            clear c55
            by_cases c56 : x15_5 < (t240.length : Int)
            rotate_left
            ·
             rw [if_neg c56] at H
             exact absurd H (by simp)
            rw [if_pos c56] at H
            have c56b0 := decide_eq_true c56
            clear c56
            by_cases c57 : ((rd_T39 t240 x15_5).f2) = ((rd_T39 t231 x15_5).f2)
            rotate_left
            ·
             rw [if_neg c57] at H
             have c57b0 : (((rd_T39 t240 x15_5).f2) == ((rd_T39 t231 x15_5).f2)) = false := beq_eq_false_iff_ne.mpr c57
             have c57b1 : (((rd_T39 t240 x15_5).f2) != ((rd_T39 t231 x15_5).f2)) = true := bne_iff_ne.mpr c57
             obtain rfl := Option.some.inj H
             try go_wp2
             replace HO_0 := Aside0.mk (Kd.R_drew HO_0.out)
             replace HO_10 := Aside0.mk (Kd.R_drew HO_10.out)
             replace HB := Aside0.mk (below_drew1 HB.out)
             obtain ⟨Ao61, co61, eo61⟩ := Kd.R_slice HO_10.out
             (first | subst eo61 | (injection eo61 with f1_ f2_ f3_; have f4_ := f1_.symm; have f5_ := f3_.symm; clear f1_ f2_ f3_; subst f4_; subst f5_))
             have p263 : 0 ≤ (x14_4 : Int) := of_decide_eq_true as_
             have q263 : x14_4 < (t240.length : Int) := of_decide_eq_true as_
             obtain ⟨ad263, e263, hx263_0, hx263_1, hx263_2⟩ := at_T39 (Kd.R_reads' HO_10.out).2.2 x14_4 p263 q263
             cases e263
             replace p263 := eq_true p263
             replace q263 := eq_true q263
             have p264 : 0 ≤ (x14_4 : Int) := of_decide_eq_true as_
             have q264 : x14_4 < (t240.length : Int) := of_decide_eq_true as_
             obtain ⟨ad264, e264, hx264_0, hx264_1, hx264_2⟩ := at_T39 (Kd.R_reads' HO_10.out).2.2 x14_4 p264 q264
             obtain rfl : ad263 = ad264 := (by injection e264)
             replace p264 := eq_true p264
             replace q264 := eq_true q264
             have p265 : 0 ≤ (x15_5 : Int) := of_decide_eq_true as_
             have q265 : x15_5 < (t240.length : Int) := of_decide_eq_true as_
             obtain ⟨ad265, e265, hx265_0, hx265_1, hx265_2⟩ := at_T39 (Kd.R_reads' HO_10.out).2.2 x15_5 p265 q265
             obtain rfl : ad263 = ad265 := (by injection e265)
             replace p265 := eq_true p265
             replace q265 := eq_true q265
             have p266 : 0 ≤ (x15_5 : Int) := of_decide_eq_true as_
             have q266 : x15_5 < (t231.length : Int) := of_decide_eq_true as_
             obtain ⟨ad266, e266, hx266_0, hx266_1, hx266_2⟩ := at_T39 (Kd.R_reads' HO_0.out).2.2 x15_5 p266 q266
             cases e266
             replace p266 := eq_true p266
             replace q266 := eq_true q266
             refine start_ (n := 31) (S := fun w' => w'.cell? (ad263.add ((x14_4).toNat * 3)) = some (.int .i64 ((rd_T39 t240 x14_4).f0)) ∧ w'.cell? ⟨(ad263.add ((x14_4).toNat * 3)).block, (ad263.add ((x14_4).toNat * 3)).off + 1, none⟩ = some (.int .i64 ((rd_T39 t240 x14_4).f1)) ∧ w'.cell? ⟨(ad263.add ((x14_4).toNat * 3)).block, (ad263.add ((x14_4).toNat * 3)).off + 2, none⟩ = some (.int .i64 ((rd_T39 t240 x14_4).f2)) ∧ w'.cell? (ad263.add ((x14_4).toNat * 3)) = some (.int .i64 ((rd_T39 t240 x14_4).f0)) ∧ w'.cell? ⟨(ad263.add ((x14_4).toNat * 3)).block, (ad263.add ((x14_4).toNat * 3)).off + 1, none⟩ = some (.int .i64 ((rd_T39 t240 x14_4).f1)) ∧ w'.cell? ⟨(ad263.add ((x14_4).toNat * 3)).block, (ad263.add ((x14_4).toNat * 3)).off + 2, none⟩ = some (.int .i64 ((rd_T39 t240 x14_4).f2)) ∧ w'.cell? (ad263.add ((x15_5).toNat * 3)) = some (.int .i64 ((rd_T39 t240 x15_5).f0)) ∧ w'.cell? ⟨(ad263.add ((x15_5).toNat * 3)).block, (ad263.add ((x15_5).toNat * 3)).off + 1, none⟩ = some (.int .i64 ((rd_T39 t240 x15_5).f1)) ∧ w'.cell? ⟨(ad263.add ((x15_5).toNat * 3)).block, (ad263.add ((x15_5).toNat * 3)).off + 2, none⟩ = some (.int .i64 ((rd_T39 t240 x15_5).f2)) ∧ w'.cell? (ad266.add ((x15_5).toNat * 3)) = some (.int .i64 ((rd_T39 t231 x15_5).f0)) ∧ w'.cell? ⟨(ad266.add ((x15_5).toNat * 3)).block, (ad266.add ((x15_5).toNat * 3)).off + 1, none⟩ = some (.int .i64 ((rd_T39 t231 x15_5).f1)) ∧ w'.cell? ⟨(ad266.add ((x15_5).toNat * 3)).block, (ad266.add ((x15_5).toNat * 3)).off + 2, none⟩ = some (.int .i64 ((rd_T39 t231 x15_5).f2))) (ds := []) (mk 31 0) (by kernel_rfl) rfl rfl ⟨hx263_0, hx263_1, hx263_2, hx264_0, hx264_1, hx264_2, hx265_0, hx265_1, hx265_2, hx266_0, hx266_1, hx266_2⟩ (fun hHeld => ?_); refine with_tabW haberdashlaw22_TenderGreatest.tab23 haberdashlaw22_TenderGreatest.bits23 (fun HT_ HW_ => ?_)
             generalize wr.drew = w60 at HO_0 HO_10 HB hx263_0 hx263_1 hx263_2 hx264_0 hx264_1 hx264_2 hx265_0 hx265_1 hx265_2 hx266_0 hx266_1 hx266_2 hHeld ⊢
             refine ahead_ [(0, 173), (1, 174), (2, 175), (3, 176)] ?_
             iterate 4 (refine pA_ (v := ?_) (a' := ?_) rfl rfl HT_.out kr_ nh_ (Or.inl ⟨ry_, ?_⟩) ?_ ?_; rotate_left; (intro w'; go_simp; with_reducible rfl); rotate_left; (exact pu_))
             refine aheadE_ (mk 31 15) (by kernel_rfl) ?_
             refine one_ (i := 4) (N := some 177) (mk 31 31) rfl rfl (on_ HT_) de_ (fun K hK => ?_)
             refine goes_ Try.func16 (by kernel_rfl) rfl #[.slice (some ad266) t231.length co16, .slice A1 l1.length c1, .int .i64 x14_4, .int .i64 x15_5] (by rfl) rfl rfl am_ ?_
             with_reducible refine (haberdashlaw22_earlier.calls k5 _ _ t231 _ _ l1 x14_4 x15_5 true _ ?side1 ?side2 ?side3 ?side4 A50.out).mono ?_
             (case side1 => repeat (first | exact (Kd.R_reads' HO_0.out).2.2 | (with_reducible refine Kd.C_alloc ?_ _) | (with_reducible refine Kd.C_drewN ?_ _) | (with_reducible refine Kd.C_drew ?_)))
             (case side2 => exact (Kd.R_reads' HO_0.out).2.1)
             (case side3 => repeat (first | exact (Kd.C_below HR1.out HB.out) | (with_reducible refine Kd.C_alloc ?_ _) | (with_reducible refine Kd.C_drewN ?_ _) | (with_reducible refine Kd.C_drew ?_)))
             (case side4 => exact HC1.out)
             rintro e w' ⟨rfl, ⟨nd, rfl⟩⟩
             refine ⟨_, rfl, ?_⟩
             refine hK.out _ _ ⟨hHeld.1, hHeld.2.1, hHeld.2.2.1, hHeld.2.2.2.1, hHeld.2.2.2.2.1, hHeld.2.2.2.2.2.1, hHeld.2.2.2.2.2.2.1, hHeld.2.2.2.2.2.2.2.1, hHeld.2.2.2.2.2.2.2.2.1, hHeld.2.2.2.2.2.2.2.2.2.1, hHeld.2.2.2.2.2.2.2.2.2.2.1, hHeld.2.2.2.2.2.2.2.2.2.2.2⟩ (fun hHeld => ?_)
             clear hK K
             refine norm_ (a' := ?_) ?_ ?_
             rotate_left; (show Act.put _ (some 177) _ = _; exact pu_)
             refine ahead_ [(5, 178), (6, 179), (7, 180), (8, 181), (9, 182), (11, 184), (12, 185), (13, 186), (14, 187)] ?_
             iterate 9 (refine pA_ (v := ?_) (a' := ?_) rfl rfl HT_.out kr_ nh_ (Or.inl ⟨ry_, ?_⟩) ?_ ?_; rotate_left; (intro w'; go_simp; with_reducible rfl); rotate_left; (exact pu_))
             refine aheadE_ (mk 31 31743) (by kernel_rfl) ?_
             refine ahead_ [(10, 183), (15, 188)] ?_
             iterate 2 (refine tA_ (v := ?_) (a' := ?_) rfl rfl HT_.out HW_.out (by kernel_rfl) (fun _ _ _ h => h) (Or.inl ⟨by rfl, ?_⟩) hHeld ?_ ?_; rotate_left; (rintro w' ⟨s0, s1, s2, s3, s4, s5, s6, s7, s8, s9, s10, s11⟩; go_simp; with_reducible rfl); rotate_left; (exact pu_))
             refine aheadE_ (mk 31 65535) (by kernel_rfl) ?_
             refine ahead_ [(16, 189), (17, 190), (18, 191), (19, 192), (20, 193), (21, 194), (22, 195), (24, 197), (25, 198), (26, 199), (27, 200)] ?_
             iterate 11 (refine pA_ (v := ?_) (a' := ?_) rfl rfl HT_.out kr_ nh_ (Or.inl ⟨ry_, ?_⟩) ?_ ?_; rotate_left; (intro w'; go_simp; with_reducible rfl); rotate_left; (exact pu_))
             refine aheadE_ (mk 31 260046847) (by kernel_rfl) ?_
             refine ahead_ [(23, 196), (28, 201)] ?_
             iterate 2 (refine tA_ (v := ?_) (a' := ?_) rfl rfl HT_.out HW_.out (by kernel_rfl) (fun _ _ _ h => h) (Or.inl ⟨by rfl, ?_⟩) hHeld ?_ ?_; rotate_left; (rintro w' ⟨s0, s1, s2, s3, s4, s5, s6, s7, s8, s9, s10, s11⟩; go_simp; with_reducible rfl); rotate_left; (exact pu_))
             refine aheadE_ (mk 31 536870911) (by kernel_rfl) ?_
             refine ahead_ [(29, 202), (30, 203)] ?_
             iterate 2 (refine pA_ (v := ?_) (a' := ?_) rfl rfl HT_.out kr_ nh_ (Or.inl ⟨ry_, ?_⟩) ?_ ?_; rotate_left; (intro w'; go_simp; with_reducible rfl); rotate_left; (exact pu_))
             refine aheadE_ (mk 31 2147483647) (by kernel_rfl) ?_
             refine done_ (done_of HT_.out (by kernel_rfl)) ?_
             try go_wp2
             go_ret
             exact ⟨er_, hb0_ HB⟩
            rw [if_pos c57] at H
            have c57b0 : (((rd_T39 t240 x15_5).f2) == ((rd_T39 t231 x15_5).f2)) = true := beq_iff_eq.mpr c57
            have c57b1 : (((rd_T39 t240 x15_5).f2) != ((rd_T39 t231 x15_5).f2)) = false := bne_eq_false_iff_eq.mpr c57
            clear c57
            have H' := Aside0.mk H
            clear H
            try go_wp2
            replace HO_0 := Aside0.mk (Kd.R_drew HO_0.out)
            replace HO_10 := Aside0.mk (Kd.R_drew HO_10.out)
            replace HB := Aside0.mk (below_drew1 HB.out)
            obtain ⟨Ao59, co59, eo59⟩ := Kd.R_slice HO_10.out
            (first | subst eo59 | (injection eo59 with f1_ f2_ f3_; have f4_ := f1_.symm; have f5_ := f3_.symm; clear f1_ f2_ f3_; subst f4_; subst f5_))
            have p263 : 0 ≤ (x14_4 : Int) := of_decide_eq_true as_
            have q263 : x14_4 < (t240.length : Int) := of_decide_eq_true as_
            obtain ⟨ad263, e263, hx263_0, hx263_1, hx263_2⟩ := at_T39 (Kd.R_reads' HO_10.out).2.2 x14_4 p263 q263
            cases e263
            replace p263 := eq_true p263
            replace q263 := eq_true q263
            have p264 : 0 ≤ (x14_4 : Int) := of_decide_eq_true as_
            have q264 : x14_4 < (t240.length : Int) := of_decide_eq_true as_
            obtain ⟨ad264, e264, hx264_0, hx264_1, hx264_2⟩ := at_T39 (Kd.R_reads' HO_10.out).2.2 x14_4 p264 q264
            obtain rfl : ad263 = ad264 := (by injection e264)
            replace p264 := eq_true p264
            replace q264 := eq_true q264
            have p265 : 0 ≤ (x15_5 : Int) := of_decide_eq_true as_
            have q265 : x15_5 < (t240.length : Int) := of_decide_eq_true as_
            obtain ⟨ad265, e265, hx265_0, hx265_1, hx265_2⟩ := at_T39 (Kd.R_reads' HO_10.out).2.2 x15_5 p265 q265
            obtain rfl : ad263 = ad265 := (by injection e265)
            replace p265 := eq_true p265
            replace q265 := eq_true q265
            have p266 : 0 ≤ (x15_5 : Int) := of_decide_eq_true as_
            have q266 : x15_5 < (t231.length : Int) := of_decide_eq_true as_
            obtain ⟨ad266, e266, hx266_0, hx266_1, hx266_2⟩ := at_T39 (Kd.R_reads' HO_0.out).2.2 x15_5 p266 q266
            cases e266
            replace p266 := eq_true p266
            replace q266 := eq_true q266
            refine start_ (n := 31) (S := fun w' => w'.cell? (ad263.add ((x14_4).toNat * 3)) = some (.int .i64 ((rd_T39 t240 x14_4).f0)) ∧ w'.cell? ⟨(ad263.add ((x14_4).toNat * 3)).block, (ad263.add ((x14_4).toNat * 3)).off + 1, none⟩ = some (.int .i64 ((rd_T39 t240 x14_4).f1)) ∧ w'.cell? ⟨(ad263.add ((x14_4).toNat * 3)).block, (ad263.add ((x14_4).toNat * 3)).off + 2, none⟩ = some (.int .i64 ((rd_T39 t240 x14_4).f2)) ∧ w'.cell? (ad263.add ((x14_4).toNat * 3)) = some (.int .i64 ((rd_T39 t240 x14_4).f0)) ∧ w'.cell? ⟨(ad263.add ((x14_4).toNat * 3)).block, (ad263.add ((x14_4).toNat * 3)).off + 1, none⟩ = some (.int .i64 ((rd_T39 t240 x14_4).f1)) ∧ w'.cell? ⟨(ad263.add ((x14_4).toNat * 3)).block, (ad263.add ((x14_4).toNat * 3)).off + 2, none⟩ = some (.int .i64 ((rd_T39 t240 x14_4).f2)) ∧ w'.cell? (ad263.add ((x15_5).toNat * 3)) = some (.int .i64 ((rd_T39 t240 x15_5).f0)) ∧ w'.cell? ⟨(ad263.add ((x15_5).toNat * 3)).block, (ad263.add ((x15_5).toNat * 3)).off + 1, none⟩ = some (.int .i64 ((rd_T39 t240 x15_5).f1)) ∧ w'.cell? ⟨(ad263.add ((x15_5).toNat * 3)).block, (ad263.add ((x15_5).toNat * 3)).off + 2, none⟩ = some (.int .i64 ((rd_T39 t240 x15_5).f2)) ∧ w'.cell? (ad266.add ((x15_5).toNat * 3)) = some (.int .i64 ((rd_T39 t231 x15_5).f0)) ∧ w'.cell? ⟨(ad266.add ((x15_5).toNat * 3)).block, (ad266.add ((x15_5).toNat * 3)).off + 1, none⟩ = some (.int .i64 ((rd_T39 t231 x15_5).f1)) ∧ w'.cell? ⟨(ad266.add ((x15_5).toNat * 3)).block, (ad266.add ((x15_5).toNat * 3)).off + 2, none⟩ = some (.int .i64 ((rd_T39 t231 x15_5).f2))) (ds := []) (mk 31 0) (by kernel_rfl) rfl rfl ⟨hx263_0, hx263_1, hx263_2, hx264_0, hx264_1, hx264_2, hx265_0, hx265_1, hx265_2, hx266_0, hx266_1, hx266_2⟩ (fun hHeld => ?_); refine with_tabW haberdashlaw22_TenderGreatest.tab23 haberdashlaw22_TenderGreatest.bits23 (fun HT_ HW_ => ?_)
            generalize wr.drew = w58 at HO_0 HO_10 HB hx263_0 hx263_1 hx263_2 hx264_0 hx264_1 hx264_2 hx265_0 hx265_1 hx265_2 hx266_0 hx266_1 hx266_2 hHeld ⊢
            refine ahead_ [(0, 173), (1, 174), (2, 175), (3, 176)] ?_
            iterate 4 (refine pA_ (v := ?_) (a' := ?_) rfl rfl HT_.out kr_ nh_ (Or.inl ⟨ry_, ?_⟩) ?_ ?_; rotate_left; (intro w'; go_simp; with_reducible rfl); rotate_left; (exact pu_))
            refine aheadE_ (mk 31 15) (by kernel_rfl) ?_
            refine one_ (i := 4) (N := some 177) (mk 31 31) rfl rfl (on_ HT_) de_ (fun K hK => ?_)
            refine goes_ Try.func16 (by kernel_rfl) rfl #[.slice (some ad266) t231.length co16, .slice A1 l1.length c1, .int .i64 x14_4, .int .i64 x15_5] (by rfl) rfl rfl am_ ?_
            with_reducible refine (haberdashlaw22_earlier.calls k5 _ _ t231 _ _ l1 x14_4 x15_5 true _ ?side1 ?side2 ?side3 ?side4 A50.out).mono ?_
            (case side1 => repeat (first | exact (Kd.R_reads' HO_0.out).2.2 | (with_reducible refine Kd.C_alloc ?_ _) | (with_reducible refine Kd.C_drewN ?_ _) | (with_reducible refine Kd.C_drew ?_)))
            (case side2 => exact (Kd.R_reads' HO_0.out).2.1)
            (case side3 => repeat (first | exact (Kd.C_below HR1.out HB.out) | (with_reducible refine Kd.C_alloc ?_ _) | (with_reducible refine Kd.C_drewN ?_ _) | (with_reducible refine Kd.C_drew ?_)))
            (case side4 => exact HC1.out)
            rintro e w' ⟨rfl, ⟨nd, rfl⟩⟩
            refine ⟨_, rfl, ?_⟩
            refine hK.out _ _ ⟨hHeld.1, hHeld.2.1, hHeld.2.2.1, hHeld.2.2.2.1, hHeld.2.2.2.2.1, hHeld.2.2.2.2.2.1, hHeld.2.2.2.2.2.2.1, hHeld.2.2.2.2.2.2.2.1, hHeld.2.2.2.2.2.2.2.2.1, hHeld.2.2.2.2.2.2.2.2.2.1, hHeld.2.2.2.2.2.2.2.2.2.2.1, hHeld.2.2.2.2.2.2.2.2.2.2.2⟩ (fun hHeld => ?_)
            clear hK K
            refine norm_ (a' := ?_) ?_ ?_
            rotate_left; (show Act.put _ (some 177) _ = _; exact pu_)
            refine ahead_ [(5, 178), (6, 179), (7, 180), (8, 181), (9, 182), (11, 184), (12, 185), (13, 186), (14, 187)] ?_
            iterate 9 (refine pA_ (v := ?_) (a' := ?_) rfl rfl HT_.out kr_ nh_ (Or.inl ⟨ry_, ?_⟩) ?_ ?_; rotate_left; (intro w'; go_simp; with_reducible rfl); rotate_left; (exact pu_))
            refine aheadE_ (mk 31 31743) (by kernel_rfl) ?_
            refine ahead_ [(10, 183), (15, 188)] ?_
            iterate 2 (refine tA_ (v := ?_) (a' := ?_) rfl rfl HT_.out HW_.out (by kernel_rfl) (fun _ _ _ h => h) (Or.inl ⟨by rfl, ?_⟩) hHeld ?_ ?_; rotate_left; (rintro w' ⟨s0, s1, s2, s3, s4, s5, s6, s7, s8, s9, s10, s11⟩; go_simp; with_reducible rfl); rotate_left; (exact pu_))
            refine aheadE_ (mk 31 65535) (by kernel_rfl) ?_
            refine ahead_ [(16, 189), (17, 190), (18, 191), (19, 192), (20, 193), (21, 194), (22, 195), (24, 197), (25, 198), (26, 199), (27, 200)] ?_
            iterate 11 (refine pA_ (v := ?_) (a' := ?_) rfl rfl HT_.out kr_ nh_ (Or.inl ⟨ry_, ?_⟩) ?_ ?_; rotate_left; (intro w'; go_simp; with_reducible rfl); rotate_left; (exact pu_))
            refine aheadE_ (mk 31 260046847) (by kernel_rfl) ?_
            refine ahead_ [(23, 196), (28, 201)] ?_
            iterate 2 (refine tA_ (v := ?_) (a' := ?_) rfl rfl HT_.out HW_.out (by kernel_rfl) (fun _ _ _ h => h) (Or.inl ⟨by rfl, ?_⟩) hHeld ?_ ?_; rotate_left; (rintro w' ⟨s0, s1, s2, s3, s4, s5, s6, s7, s8, s9, s10, s11⟩; go_simp; with_reducible rfl); rotate_left; (exact pu_))
            refine aheadE_ (mk 31 536870911) (by kernel_rfl) ?_
            refine ahead_ [(29, 202), (30, 203)] ?_
            iterate 2 (refine pA_ (v := ?_) (a' := ?_) rfl rfl HT_.out kr_ nh_ (Or.inl ⟨ry_, ?_⟩) ?_ ?_; rotate_left; (intro w'; go_simp; with_reducible rfl); rotate_left; (exact pu_))
            refine aheadE_ (mk 31 2147483647) (by kernel_rfl) ?_
            refine done_ (done_of HT_.out (by kernel_rfl)) ?_
            try go_wp2
            go_roundg k5
            case measure => have := HJ3.out; have := HJ13.out; have := HK3.out; have := HK4.out; have := HK5.out; omega
            case rel => exact ⟨(wrap64 (x15_5 + 1)), rf_, H', ⟨by have := HJ3.out; have := HJ13.out; have := HK3.out; have := HK4.out; have := HK5.out; omega⟩, ⟨ro_ HO_0⟩, ⟨ro_ HO_10⟩, ⟨hb0_ HB⟩⟩
       rw [if_pos c31] at H
       have c31b0 := decide_eq_true c31
       clear c31
       by_cases c32 : 0 ≤ x13_3
       rotate_left
       ·
        rw [if_neg c32] at H
        exact absurd H (by simp)
       rw [if_pos c32] at H
       have c32b0 := decide_eq_true c32
       clear c32
       by_cases c33 : ((rd_T34 t236 x13_3).f0) < 0
       ·
        rw [if_pos c33] at H
        have c33b0 := decide_eq_true c33
        clear c33
        obtain rfl := Option.some.inj H
        try go_wp2
        replace HO_0 := Aside0.mk (Kd.R_drew HO_0.out)
        replace HO_8 := Aside0.mk (Kd.R_drew HO_8.out)
        replace HO_10 := Aside0.mk (Kd.R_drew HO_10.out)
        replace HB := Aside0.mk (below_drew1 HB.out)
        have p245 : 0 ≤ (x13_3 : Int) := of_decide_eq_true as_
        have q245 : x13_3 < (t236.length : Int) := of_decide_eq_true as_
        obtain ⟨ad245, e245, hx245_0, hx245_1, hx245_2⟩ := at_T34 (Kd.R_reads' HO_8.out).2.2 x13_3 p245 q245
        cases e245
        replace p245 := eq_true p245
        replace q245 := eq_true q245
        refine start_ (n := 85) (S := fun w' => w'.cell? (ad245.add ((x13_3).toNat * 3)) = some (.int .i64 ((rd_T34 t236 x13_3).f0)) ∧ w'.cell? ⟨(ad245.add ((x13_3).toNat * 3)).block, (ad245.add ((x13_3).toNat * 3)).off + 1, none⟩ = some (.int .i64 ((rd_T34 t236 x13_3).f1)) ∧ w'.cell? ⟨(ad245.add ((x13_3).toNat * 3)).block, (ad245.add ((x13_3).toNat * 3)).off + 2, none⟩ = some (.bool ((rd_T34 t236 x13_3).f2))) (ds := []) (mk 85 0) (by kernel_rfl) rfl rfl ⟨hx245_0, hx245_1, hx245_2⟩ (fun hHeld => ?_); refine with_tabW haberdashlaw22_TenderGreatest.tab14 haberdashlaw22_TenderGreatest.bits14 (fun HT_ HW_ => ?_)
        generalize wr.drew = w34 at HO_0 HO_8 HO_10 HB hx245_0 hx245_1 hx245_2 hHeld ⊢
        refine ahead_ [(0, 69), (1, 70), (2, 71), (3, 72)] ?_
        iterate 4 (refine pA_ (v := ?_) (a' := ?_) rfl rfl HT_.out kr_ nh_ (Or.inl ⟨ry_, ?_⟩) ?_ ?_; rotate_left; (intro w'; go_simp; with_reducible rfl); rotate_left; (exact pu_))
        refine aheadE_ (mk 85 15) (by kernel_rfl) ?_
        refine take_ (i := 4) (N := some 73) (v := ?_) (a' := ?_) (mk 85 31) rfl rfl (tw_ HT_ HW_) nh_ (Or.inl ⟨by rfl, ?_⟩) hHeld ?_ ?_
        rotate_left
        ·
         rintro w' ⟨s0, s1, s2⟩
         go_simp
         with_reducible rfl
        rotate_left; (exact pu_)
        refine ahead_ [(5, 74), (6, 75)] ?_
        iterate 2 (refine pA_ (v := ?_) (a' := ?_) rfl rfl HT_.out kr_ nh_ (Or.inl ⟨ry_, ?_⟩) ?_ ?_; rotate_left; (intro w'; go_simp; with_reducible rfl); rotate_left; (exact pu_))
        refine aheadE_ (mk 85 127) (by kernel_rfl) ?_
        refine ahead_ [(7, 76), (8, 77), (9, 78), (10, 79), (11, 80), (12, 81), (13, 82), (14, 83)] ?_
        iterate 8 (refine pA_ (v := undef) (a' := ?_) rfl rfl HT_.out kr_ nh_ ru_ ?_ ?_; rotate_left; (exact pu_))
        refine aheadE_ (mk 85 32767) (by kernel_rfl) ?_
        refine ahead_ [(15, 84), (16, 85)] ?_
        iterate 2 (refine pA_ (v := ?_) (a' := ?_) rfl rfl HT_.out kr_ nh_ (Or.inl ⟨ry_, ?_⟩) ?_ ?_; rotate_left; (intro w'; go_simp; with_reducible rfl); rotate_left; (exact pu_))
        refine aheadE_ (mk 85 131071) (by kernel_rfl) ?_
        refine ahead_ [(17, 86), (18, 87), (19, 88), (20, 89), (21, 90), (22, 91)] ?_
        iterate 6 (refine pA_ (v := undef) (a' := ?_) rfl rfl HT_.out kr_ nh_ ru_ ?_ ?_; rotate_left; (exact pu_))
        refine aheadE_ (mk 85 8388607) (by kernel_rfl) ?_
        refine ahead_ [(23, 92), (24, 93)] ?_
        iterate 2 (refine pA_ (v := ?_) (a' := ?_) rfl rfl HT_.out kr_ nh_ (Or.inl ⟨ry_, ?_⟩) ?_ ?_; rotate_left; (intro w'; go_simp; with_reducible rfl); rotate_left; (exact pu_))
        refine aheadE_ (mk 85 33554431) (by kernel_rfl) ?_
        refine ahead_ [(25, 94), (26, 95), (27, 96), (28, 97), (29, 98), (30, 99), (31, 100), (32, 101), (33, 102), (34, 103), (35, 104), (36, 105), (37, 106), (38, 107), (39, 108), (40, 109), (41, 110), (42, 111), (43, 112), (44, 113), (45, 114), (46, 115), (47, 116), (48, 117), (49, 118)] ?_
        iterate 25 (refine pA_ (v := undef) (a' := ?_) rfl rfl HT_.out kr_ nh_ ru_ ?_ ?_; rotate_left; (exact pu_))
        refine aheadE_ (mk 85 1125899906842623) (by kernel_rfl) ?_
        refine ahead_ [(50, 119), (51, 120)] ?_
        iterate 2 (refine pA_ (v := ?_) (a' := ?_) rfl rfl HT_.out kr_ nh_ (Or.inl ⟨ry_, ?_⟩) ?_ ?_; rotate_left; (intro w'; go_simp; with_reducible rfl); rotate_left; (exact pu_))
        refine aheadE_ (mk 85 4503599627370495) (by kernel_rfl) ?_
        refine ahead_ [(52, 121), (53, 122), (54, 123), (55, 124), (56, 125), (57, 126), (58, 127), (59, 128), (60, 129), (61, 130), (62, 131), (63, 132), (64, 133), (65, 134), (66, 135), (67, 136), (68, 137), (69, 138), (70, 139), (71, 140), (72, 141), (73, 142), (74, 143), (75, 144), (76, 145), (77, 146), (78, 147), (79, 148), (80, 149), (81, 150), (82, 151), (83, 152)] ?_
        iterate 32 (refine pA_ (v := undef) (a' := ?_) rfl rfl HT_.out kr_ nh_ ru_ ?_ ?_; rotate_left; (exact pu_))
        refine aheadE_ (mk 85 19342813113834066795298815) (by kernel_rfl) ?_
        refine pure_ (i := 84) (N := some 153) (v := ?_) (a' := ?_) (mk 85 38685626227668133590597631) rfl rfl (an_ HT_) nh_ (Or.inl ⟨ry_, ?_⟩) ?_ ?_
        rotate_left; (intro w'; go_simp; with_reducible rfl)
        rotate_left; (exact pu_)
        refine done_ (done_of HT_.out (by kernel_rfl)) ?_
        try go_wp2
        go_ret
        exact ⟨er_, hb0_ HB⟩
       rw [if_neg c33] at H
       have c33b0 := decide_eq_false c33
       clear c33
       by_cases c35 : ((rd_T34 t236 x13_3).f0) ≥ (t231.length : Int)
       ·
        rw [if_pos c35] at H
        have c35b0 := decide_eq_true c35
        clear c35
        obtain rfl := Option.some.inj H
        try go_wp2
        replace HO_0 := Aside0.mk (Kd.R_drew HO_0.out)
        replace HO_8 := Aside0.mk (Kd.R_drew HO_8.out)
        replace HO_10 := Aside0.mk (Kd.R_drew HO_10.out)
        replace HB := Aside0.mk (below_drew1 HB.out)
        have p245 : 0 ≤ (x13_3 : Int) := of_decide_eq_true as_
        have q245 : x13_3 < (t236.length : Int) := of_decide_eq_true as_
        obtain ⟨ad245, e245, hx245_0, hx245_1, hx245_2⟩ := at_T34 (Kd.R_reads' HO_8.out).2.2 x13_3 p245 q245
        cases e245
        replace p245 := eq_true p245
        replace q245 := eq_true q245
        have p246 : 0 ≤ (x13_3 : Int) := of_decide_eq_true as_
        have q246 : x13_3 < (t236.length : Int) := of_decide_eq_true as_
        obtain ⟨ad246, e246, hx246_0, hx246_1, hx246_2⟩ := at_T34 (Kd.R_reads' HO_8.out).2.2 x13_3 p246 q246
        obtain rfl : ad245 = ad246 := (by injection e246)
        replace p246 := eq_true p246
        replace q246 := eq_true q246
        refine start_ (n := 85) (S := fun w' => w'.cell? (ad245.add ((x13_3).toNat * 3)) = some (.int .i64 ((rd_T34 t236 x13_3).f0)) ∧ w'.cell? ⟨(ad245.add ((x13_3).toNat * 3)).block, (ad245.add ((x13_3).toNat * 3)).off + 1, none⟩ = some (.int .i64 ((rd_T34 t236 x13_3).f1)) ∧ w'.cell? ⟨(ad245.add ((x13_3).toNat * 3)).block, (ad245.add ((x13_3).toNat * 3)).off + 2, none⟩ = some (.bool ((rd_T34 t236 x13_3).f2)) ∧ w'.cell? (ad245.add ((x13_3).toNat * 3)) = some (.int .i64 ((rd_T34 t236 x13_3).f0)) ∧ w'.cell? ⟨(ad245.add ((x13_3).toNat * 3)).block, (ad245.add ((x13_3).toNat * 3)).off + 1, none⟩ = some (.int .i64 ((rd_T34 t236 x13_3).f1)) ∧ w'.cell? ⟨(ad245.add ((x13_3).toNat * 3)).block, (ad245.add ((x13_3).toNat * 3)).off + 2, none⟩ = some (.bool ((rd_T34 t236 x13_3).f2))) (ds := []) (mk 85 0) (by kernel_rfl) rfl rfl ⟨hx245_0, hx245_1, hx245_2, hx246_0, hx246_1, hx246_2⟩ (fun hHeld => ?_); refine with_tabW haberdashlaw22_TenderGreatest.tab14 haberdashlaw22_TenderGreatest.bits14 (fun HT_ HW_ => ?_)
        generalize wr.drew = w36 at HO_0 HO_8 HO_10 HB hx245_0 hx245_1 hx245_2 hx246_0 hx246_1 hx246_2 hHeld ⊢
        refine ahead_ [(0, 69), (1, 70), (2, 71), (3, 72)] ?_
        iterate 4 (refine pA_ (v := ?_) (a' := ?_) rfl rfl HT_.out kr_ nh_ (Or.inl ⟨ry_, ?_⟩) ?_ ?_; rotate_left; (intro w'; go_simp; with_reducible rfl); rotate_left; (exact pu_))
        refine aheadE_ (mk 85 15) (by kernel_rfl) ?_
        refine take_ (i := 4) (N := some 73) (v := ?_) (a' := ?_) (mk 85 31) rfl rfl (tw_ HT_ HW_) nh_ (Or.inl ⟨by rfl, ?_⟩) hHeld ?_ ?_
        rotate_left
        ·
         rintro w' ⟨s0, s1, s2, s3, s4, s5⟩
         go_simp
         with_reducible rfl
        rotate_left; (exact pu_)
        refine ahead_ [(5, 74), (6, 75), (7, 76), (8, 77), (9, 78), (10, 79), (12, 81), (13, 82)] ?_
        iterate 8 (refine pA_ (v := ?_) (a' := ?_) rfl rfl HT_.out kr_ nh_ (Or.inl ⟨ry_, ?_⟩) ?_ ?_; rotate_left; (intro w'; go_simp; with_reducible rfl); rotate_left; (exact pu_))
        refine aheadE_ (mk 85 14335) (by kernel_rfl) ?_
        refine take_ (i := 11) (N := some 80) (v := ?_) (a' := ?_) (mk 85 16383) rfl rfl (tw_ HT_ HW_) nh_ (Or.inl ⟨by rfl, ?_⟩) hHeld ?_ ?_
        rotate_left
        ·
         rintro w' ⟨s0, s1, s2, s3, s4, s5⟩
         go_simp
         with_reducible rfl
        rotate_left; (exact pu_)
        refine ahead_ [(14, 83), (15, 84), (16, 85)] ?_
        iterate 3 (refine pA_ (v := ?_) (a' := ?_) rfl rfl HT_.out kr_ nh_ (Or.inl ⟨ry_, ?_⟩) ?_ ?_; rotate_left; (intro w'; go_simp; with_reducible rfl); rotate_left; (exact pu_))
        refine aheadE_ (mk 85 131071) (by kernel_rfl) ?_
        refine ahead_ [(17, 86), (18, 87), (19, 88), (20, 89), (21, 90), (22, 91)] ?_
        iterate 6 (refine pA_ (v := undef) (a' := ?_) rfl rfl HT_.out kr_ nh_ ru_ ?_ ?_; rotate_left; (exact pu_))
        refine aheadE_ (mk 85 8388607) (by kernel_rfl) ?_
        refine ahead_ [(23, 92), (24, 93)] ?_
        iterate 2 (refine pA_ (v := ?_) (a' := ?_) rfl rfl HT_.out kr_ nh_ (Or.inl ⟨ry_, ?_⟩) ?_ ?_; rotate_left; (intro w'; go_simp; with_reducible rfl); rotate_left; (exact pu_))
        refine aheadE_ (mk 85 33554431) (by kernel_rfl) ?_
        refine ahead_ [(25, 94), (26, 95), (27, 96), (28, 97), (29, 98), (30, 99), (31, 100), (32, 101), (33, 102), (34, 103), (35, 104), (36, 105), (37, 106), (38, 107), (39, 108), (40, 109), (41, 110), (42, 111), (43, 112), (44, 113), (45, 114), (46, 115), (47, 116), (48, 117), (49, 118)] ?_
        iterate 25 (refine pA_ (v := undef) (a' := ?_) rfl rfl HT_.out kr_ nh_ ru_ ?_ ?_; rotate_left; (exact pu_))
        refine aheadE_ (mk 85 1125899906842623) (by kernel_rfl) ?_
        refine ahead_ [(50, 119), (51, 120)] ?_
        iterate 2 (refine pA_ (v := ?_) (a' := ?_) rfl rfl HT_.out kr_ nh_ (Or.inl ⟨ry_, ?_⟩) ?_ ?_; rotate_left; (intro w'; go_simp; with_reducible rfl); rotate_left; (exact pu_))
        refine aheadE_ (mk 85 4503599627370495) (by kernel_rfl) ?_
        refine ahead_ [(52, 121), (53, 122), (54, 123), (55, 124), (56, 125), (57, 126), (58, 127), (59, 128), (60, 129), (61, 130), (62, 131), (63, 132), (64, 133), (65, 134), (66, 135), (67, 136), (68, 137), (69, 138), (70, 139), (71, 140), (72, 141), (73, 142), (74, 143), (75, 144), (76, 145), (77, 146), (78, 147), (79, 148), (80, 149), (81, 150), (82, 151), (83, 152)] ?_
        iterate 32 (refine pA_ (v := undef) (a' := ?_) rfl rfl HT_.out kr_ nh_ ru_ ?_ ?_; rotate_left; (exact pu_))
        refine aheadE_ (mk 85 19342813113834066795298815) (by kernel_rfl) ?_
        refine pure_ (i := 84) (N := some 153) (v := ?_) (a' := ?_) (mk 85 38685626227668133590597631) rfl rfl (an_ HT_) nh_ (Or.inl ⟨ry_, ?_⟩) ?_ ?_
        rotate_left; (intro w'; go_simp; with_reducible rfl)
        rotate_left; (exact pu_)
        refine done_ (done_of HT_.out (by kernel_rfl)) ?_
        try go_wp2
        go_ret
        exact ⟨er_, hb0_ HB⟩
       rw [if_neg c35] at H
       have c35b0 := decide_eq_false c35
       clear c35
       by_cases c37 : ((rd_T34 t236 x13_3).f1) < 1
       ·
        rw [if_pos c37] at H
        have c37b0 := decide_eq_true c37
        clear c37
        obtain rfl := Option.some.inj H
        try go_wp2
        replace HO_0 := Aside0.mk (Kd.R_drew HO_0.out)
        replace HO_8 := Aside0.mk (Kd.R_drew HO_8.out)
        replace HO_10 := Aside0.mk (Kd.R_drew HO_10.out)
        replace HB := Aside0.mk (below_drew1 HB.out)
        have p245 : 0 ≤ (x13_3 : Int) := of_decide_eq_true as_
        have q245 : x13_3 < (t236.length : Int) := of_decide_eq_true as_
        obtain ⟨ad245, e245, hx245_0, hx245_1, hx245_2⟩ := at_T34 (Kd.R_reads' HO_8.out).2.2 x13_3 p245 q245
        cases e245
        replace p245 := eq_true p245
        replace q245 := eq_true q245
        have p246 : 0 ≤ (x13_3 : Int) := of_decide_eq_true as_
        have q246 : x13_3 < (t236.length : Int) := of_decide_eq_true as_
        obtain ⟨ad246, e246, hx246_0, hx246_1, hx246_2⟩ := at_T34 (Kd.R_reads' HO_8.out).2.2 x13_3 p246 q246
        obtain rfl : ad245 = ad246 := (by injection e246)
        replace p246 := eq_true p246
        replace q246 := eq_true q246
        have p247 : 0 ≤ (x13_3 : Int) := of_decide_eq_true as_
        have q247 : x13_3 < (t236.length : Int) := of_decide_eq_true as_
        obtain ⟨ad247, e247, hx247_0, hx247_1, hx247_2⟩ := at_T34 (Kd.R_reads' HO_8.out).2.2 x13_3 p247 q247
        obtain rfl : ad245 = ad247 := (by injection e247)
        replace p247 := eq_true p247
        replace q247 := eq_true q247
        refine start_ (n := 85) (S := fun w' => w'.cell? (ad245.add ((x13_3).toNat * 3)) = some (.int .i64 ((rd_T34 t236 x13_3).f0)) ∧ w'.cell? ⟨(ad245.add ((x13_3).toNat * 3)).block, (ad245.add ((x13_3).toNat * 3)).off + 1, none⟩ = some (.int .i64 ((rd_T34 t236 x13_3).f1)) ∧ w'.cell? ⟨(ad245.add ((x13_3).toNat * 3)).block, (ad245.add ((x13_3).toNat * 3)).off + 2, none⟩ = some (.bool ((rd_T34 t236 x13_3).f2)) ∧ w'.cell? (ad245.add ((x13_3).toNat * 3)) = some (.int .i64 ((rd_T34 t236 x13_3).f0)) ∧ w'.cell? ⟨(ad245.add ((x13_3).toNat * 3)).block, (ad245.add ((x13_3).toNat * 3)).off + 1, none⟩ = some (.int .i64 ((rd_T34 t236 x13_3).f1)) ∧ w'.cell? ⟨(ad245.add ((x13_3).toNat * 3)).block, (ad245.add ((x13_3).toNat * 3)).off + 2, none⟩ = some (.bool ((rd_T34 t236 x13_3).f2)) ∧ w'.cell? (ad245.add ((x13_3).toNat * 3)) = some (.int .i64 ((rd_T34 t236 x13_3).f0)) ∧ w'.cell? ⟨(ad245.add ((x13_3).toNat * 3)).block, (ad245.add ((x13_3).toNat * 3)).off + 1, none⟩ = some (.int .i64 ((rd_T34 t236 x13_3).f1)) ∧ w'.cell? ⟨(ad245.add ((x13_3).toNat * 3)).block, (ad245.add ((x13_3).toNat * 3)).off + 2, none⟩ = some (.bool ((rd_T34 t236 x13_3).f2))) (ds := []) (mk 85 0) (by kernel_rfl) rfl rfl ⟨hx245_0, hx245_1, hx245_2, hx246_0, hx246_1, hx246_2, hx247_0, hx247_1, hx247_2⟩ (fun hHeld => ?_); refine with_tabW haberdashlaw22_TenderGreatest.tab14 haberdashlaw22_TenderGreatest.bits14 (fun HT_ HW_ => ?_)
        generalize wr.drew = w38 at HO_0 HO_8 HO_10 HB hx245_0 hx245_1 hx245_2 hx246_0 hx246_1 hx246_2 hx247_0 hx247_1 hx247_2 hHeld ⊢
        refine ahead_ [(0, 69), (1, 70), (2, 71), (3, 72)] ?_
        iterate 4 (refine pA_ (v := ?_) (a' := ?_) rfl rfl HT_.out kr_ nh_ (Or.inl ⟨ry_, ?_⟩) ?_ ?_; rotate_left; (intro w'; go_simp; with_reducible rfl); rotate_left; (exact pu_))
        refine aheadE_ (mk 85 15) (by kernel_rfl) ?_
        refine take_ (i := 4) (N := some 73) (v := ?_) (a' := ?_) (mk 85 31) rfl rfl (tw_ HT_ HW_) nh_ (Or.inl ⟨by rfl, ?_⟩) hHeld ?_ ?_
        rotate_left
        ·
         rintro w' ⟨s0, s1, s2, s3, s4, s5, s6, s7, s8⟩
         go_simp
         with_reducible rfl
        rotate_left; (exact pu_)
        refine ahead_ [(5, 74), (6, 75), (7, 76), (8, 77), (9, 78), (10, 79), (12, 81), (13, 82)] ?_
        iterate 8 (refine pA_ (v := ?_) (a' := ?_) rfl rfl HT_.out kr_ nh_ (Or.inl ⟨ry_, ?_⟩) ?_ ?_; rotate_left; (intro w'; go_simp; with_reducible rfl); rotate_left; (exact pu_))
        refine aheadE_ (mk 85 14335) (by kernel_rfl) ?_
        refine take_ (i := 11) (N := some 80) (v := ?_) (a' := ?_) (mk 85 16383) rfl rfl (tw_ HT_ HW_) nh_ (Or.inl ⟨by rfl, ?_⟩) hHeld ?_ ?_
        rotate_left
        ·
         rintro w' ⟨s0, s1, s2, s3, s4, s5, s6, s7, s8⟩
         go_simp
         with_reducible rfl
        rotate_left; (exact pu_)
        refine ahead_ [(14, 83), (15, 84), (16, 85), (17, 86), (18, 87), (19, 88), (20, 89)] ?_
        iterate 7 (refine pA_ (v := ?_) (a' := ?_) rfl rfl HT_.out kr_ nh_ (Or.inl ⟨ry_, ?_⟩) ?_ ?_; rotate_left; (intro w'; go_simp; with_reducible rfl); rotate_left; (exact pu_))
        refine aheadE_ (mk 85 2097151) (by kernel_rfl) ?_
        refine take_ (i := 21) (N := some 90) (v := ?_) (a' := ?_) (mk 85 4194303) rfl rfl (tw_ HT_ HW_) nh_ (Or.inl ⟨by rfl, ?_⟩) hHeld ?_ ?_
        rotate_left
        ·
         rintro w' ⟨s0, s1, s2, s3, s4, s5, s6, s7, s8⟩
         go_simp
         with_reducible rfl
        rotate_left; (exact pu_)
        refine ahead_ [(22, 91), (23, 92), (24, 93)] ?_
        iterate 3 (refine pA_ (v := ?_) (a' := ?_) rfl rfl HT_.out kr_ nh_ (Or.inl ⟨ry_, ?_⟩) ?_ ?_; rotate_left; (intro w'; go_simp; with_reducible rfl); rotate_left; (exact pu_))
        refine aheadE_ (mk 85 33554431) (by kernel_rfl) ?_
        refine ahead_ [(25, 94), (26, 95), (27, 96), (28, 97), (29, 98), (30, 99), (31, 100), (32, 101), (33, 102), (34, 103), (35, 104), (36, 105), (37, 106), (38, 107), (39, 108), (40, 109), (41, 110), (42, 111), (43, 112), (44, 113), (45, 114), (46, 115), (47, 116), (48, 117), (49, 118)] ?_
        iterate 25 (refine pA_ (v := undef) (a' := ?_) rfl rfl HT_.out kr_ nh_ ru_ ?_ ?_; rotate_left; (exact pu_))
        refine aheadE_ (mk 85 1125899906842623) (by kernel_rfl) ?_
        refine ahead_ [(50, 119), (51, 120)] ?_
        iterate 2 (refine pA_ (v := ?_) (a' := ?_) rfl rfl HT_.out kr_ nh_ (Or.inl ⟨ry_, ?_⟩) ?_ ?_; rotate_left; (intro w'; go_simp; with_reducible rfl); rotate_left; (exact pu_))
        refine aheadE_ (mk 85 4503599627370495) (by kernel_rfl) ?_
        refine ahead_ [(52, 121), (53, 122), (54, 123), (55, 124), (56, 125), (57, 126), (58, 127), (59, 128), (60, 129), (61, 130), (62, 131), (63, 132), (64, 133), (65, 134), (66, 135), (67, 136), (68, 137), (69, 138), (70, 139), (71, 140), (72, 141), (73, 142), (74, 143), (75, 144), (76, 145), (77, 146), (78, 147), (79, 148), (80, 149), (81, 150), (82, 151), (83, 152)] ?_
        iterate 32 (refine pA_ (v := undef) (a' := ?_) rfl rfl HT_.out kr_ nh_ ru_ ?_ ?_; rotate_left; (exact pu_))
        refine aheadE_ (mk 85 19342813113834066795298815) (by kernel_rfl) ?_
        refine pure_ (i := 84) (N := some 153) (v := ?_) (a' := ?_) (mk 85 38685626227668133590597631) rfl rfl (an_ HT_) nh_ (Or.inl ⟨ry_, ?_⟩) ?_ ?_
        rotate_left; (intro w'; go_simp; with_reducible rfl)
        rotate_left; (exact pu_)
        refine done_ (done_of HT_.out (by kernel_rfl)) ?_
        try go_wp2
        go_ret
        exact ⟨er_, hb0_ HB⟩
       rw [if_neg c37] at H
       have c37b0 := decide_eq_false c37
       clear c37
       by_cases c39 : 0 ≤ ((rd_T34 t236 x13_3).f0)
       rotate_left
       ·
        rw [if_neg c39] at H
        exact absurd H (by simp)
       rw [if_pos c39] at H
       have c39b0 := decide_eq_true c39
       clear c39
       by_cases c40 : ((rd_T34 t236 x13_3).f0) < (t231.length : Int)
       rotate_left
       ·
        rw [if_neg c40] at H
        exact absurd H (by simp)
       rw [if_pos c40] at H
       have c40b0 := decide_eq_true c40
       clear c40
       by_cases c41 : ((rd_T34 t236 x13_3).f1) > (wrap64 (((rd_T39 t231 ((rd_T34 t236 x13_3).f0)).f1) - ((rd_T39 t231 ((rd_T34 t236 x13_3).f0)).f2)))
       ·
        rw [if_pos c41] at H
        have c41b0 := decide_eq_true c41
        clear c41
        obtain rfl := Option.some.inj H
        try go_wp2
        replace HO_0 := Aside0.mk (Kd.R_drew HO_0.out)
        replace HO_8 := Aside0.mk (Kd.R_drew HO_8.out)
        replace HO_10 := Aside0.mk (Kd.R_drew HO_10.out)
        replace HB := Aside0.mk (below_drew1 HB.out)
        have p245 : 0 ≤ (x13_3 : Int) := of_decide_eq_true as_
        have q245 : x13_3 < (t236.length : Int) := of_decide_eq_true as_
        obtain ⟨ad245, e245, hx245_0, hx245_1, hx245_2⟩ := at_T34 (Kd.R_reads' HO_8.out).2.2 x13_3 p245 q245
        cases e245
        replace p245 := eq_true p245
        replace q245 := eq_true q245
        have p246 : 0 ≤ (x13_3 : Int) := of_decide_eq_true as_
        have q246 : x13_3 < (t236.length : Int) := of_decide_eq_true as_
        obtain ⟨ad246, e246, hx246_0, hx246_1, hx246_2⟩ := at_T34 (Kd.R_reads' HO_8.out).2.2 x13_3 p246 q246
        obtain rfl : ad245 = ad246 := (by injection e246)
        replace p246 := eq_true p246
        replace q246 := eq_true q246
        have p247 : 0 ≤ (x13_3 : Int) := of_decide_eq_true as_
        have q247 : x13_3 < (t236.length : Int) := of_decide_eq_true as_
        obtain ⟨ad247, e247, hx247_0, hx247_1, hx247_2⟩ := at_T34 (Kd.R_reads' HO_8.out).2.2 x13_3 p247 q247
        obtain rfl : ad245 = ad247 := (by injection e247)
        replace p247 := eq_true p247
        replace q247 := eq_true q247
        have p248 : 0 ≤ (x13_3 : Int) := of_decide_eq_true as_
        have q248 : x13_3 < (t236.length : Int) := of_decide_eq_true as_
        obtain ⟨ad248, e248, hx248_0, hx248_1, hx248_2⟩ := at_T34 (Kd.R_reads' HO_8.out).2.2 x13_3 p248 q248
        obtain rfl : ad245 = ad248 := (by injection e248)
        replace p248 := eq_true p248
        replace q248 := eq_true q248
        have p249 : 0 ≤ (x13_3 : Int) := of_decide_eq_true as_
        have q249 : x13_3 < (t236.length : Int) := of_decide_eq_true as_
        obtain ⟨ad249, e249, hx249_0, hx249_1, hx249_2⟩ := at_T34 (Kd.R_reads' HO_8.out).2.2 x13_3 p249 q249
        obtain rfl : ad245 = ad249 := (by injection e249)
        replace p249 := eq_true p249
        replace q249 := eq_true q249
        have p250 : 0 ≤ (((rd_T34 t236 x13_3).f0) : Int) := of_decide_eq_true as_
        have q250 : ((rd_T34 t236 x13_3).f0) < (t231.length : Int) := of_decide_eq_true as_
        obtain ⟨ad250, e250, hx250_0, hx250_1, hx250_2⟩ := at_T39 (Kd.R_reads' HO_0.out).2.2 ((rd_T34 t236 x13_3).f0) p250 q250
        cases e250
        replace p250 := eq_true p250
        replace q250 := eq_true q250
        have p251 : 0 ≤ (x13_3 : Int) := of_decide_eq_true as_
        have q251 : x13_3 < (t236.length : Int) := of_decide_eq_true as_
        obtain ⟨ad251, e251, hx251_0, hx251_1, hx251_2⟩ := at_T34 (Kd.R_reads' HO_8.out).2.2 x13_3 p251 q251
        obtain rfl : ad245 = ad251 := (by injection e251)
        replace p251 := eq_true p251
        replace q251 := eq_true q251
        have p252 : 0 ≤ (((rd_T34 t236 x13_3).f0) : Int) := of_decide_eq_true as_
        have q252 : ((rd_T34 t236 x13_3).f0) < (t231.length : Int) := of_decide_eq_true as_
        obtain ⟨ad252, e252, hx252_0, hx252_1, hx252_2⟩ := at_T39 (Kd.R_reads' HO_0.out).2.2 ((rd_T34 t236 x13_3).f0) p252 q252
        obtain rfl : ad250 = ad252 := (by injection e252)
        replace p252 := eq_true p252
        replace q252 := eq_true q252
        refine start_ (n := 85) (S := fun w' => w'.cell? (ad245.add ((x13_3).toNat * 3)) = some (.int .i64 ((rd_T34 t236 x13_3).f0)) ∧ w'.cell? ⟨(ad245.add ((x13_3).toNat * 3)).block, (ad245.add ((x13_3).toNat * 3)).off + 1, none⟩ = some (.int .i64 ((rd_T34 t236 x13_3).f1)) ∧ w'.cell? ⟨(ad245.add ((x13_3).toNat * 3)).block, (ad245.add ((x13_3).toNat * 3)).off + 2, none⟩ = some (.bool ((rd_T34 t236 x13_3).f2)) ∧ w'.cell? (ad245.add ((x13_3).toNat * 3)) = some (.int .i64 ((rd_T34 t236 x13_3).f0)) ∧ w'.cell? ⟨(ad245.add ((x13_3).toNat * 3)).block, (ad245.add ((x13_3).toNat * 3)).off + 1, none⟩ = some (.int .i64 ((rd_T34 t236 x13_3).f1)) ∧ w'.cell? ⟨(ad245.add ((x13_3).toNat * 3)).block, (ad245.add ((x13_3).toNat * 3)).off + 2, none⟩ = some (.bool ((rd_T34 t236 x13_3).f2)) ∧ w'.cell? (ad245.add ((x13_3).toNat * 3)) = some (.int .i64 ((rd_T34 t236 x13_3).f0)) ∧ w'.cell? ⟨(ad245.add ((x13_3).toNat * 3)).block, (ad245.add ((x13_3).toNat * 3)).off + 1, none⟩ = some (.int .i64 ((rd_T34 t236 x13_3).f1)) ∧ w'.cell? ⟨(ad245.add ((x13_3).toNat * 3)).block, (ad245.add ((x13_3).toNat * 3)).off + 2, none⟩ = some (.bool ((rd_T34 t236 x13_3).f2)) ∧ w'.cell? (ad245.add ((x13_3).toNat * 3)) = some (.int .i64 ((rd_T34 t236 x13_3).f0)) ∧ w'.cell? ⟨(ad245.add ((x13_3).toNat * 3)).block, (ad245.add ((x13_3).toNat * 3)).off + 1, none⟩ = some (.int .i64 ((rd_T34 t236 x13_3).f1)) ∧ w'.cell? ⟨(ad245.add ((x13_3).toNat * 3)).block, (ad245.add ((x13_3).toNat * 3)).off + 2, none⟩ = some (.bool ((rd_T34 t236 x13_3).f2)) ∧ w'.cell? (ad245.add ((x13_3).toNat * 3)) = some (.int .i64 ((rd_T34 t236 x13_3).f0)) ∧ w'.cell? ⟨(ad245.add ((x13_3).toNat * 3)).block, (ad245.add ((x13_3).toNat * 3)).off + 1, none⟩ = some (.int .i64 ((rd_T34 t236 x13_3).f1)) ∧ w'.cell? ⟨(ad245.add ((x13_3).toNat * 3)).block, (ad245.add ((x13_3).toNat * 3)).off + 2, none⟩ = some (.bool ((rd_T34 t236 x13_3).f2)) ∧ w'.cell? (ad250.add ((((rd_T34 t236 x13_3).f0)).toNat * 3)) = some (.int .i64 ((rd_T39 t231 ((rd_T34 t236 x13_3).f0)).f0)) ∧ w'.cell? ⟨(ad250.add ((((rd_T34 t236 x13_3).f0)).toNat * 3)).block, (ad250.add ((((rd_T34 t236 x13_3).f0)).toNat * 3)).off + 1, none⟩ = some (.int .i64 ((rd_T39 t231 ((rd_T34 t236 x13_3).f0)).f1)) ∧ w'.cell? ⟨(ad250.add ((((rd_T34 t236 x13_3).f0)).toNat * 3)).block, (ad250.add ((((rd_T34 t236 x13_3).f0)).toNat * 3)).off + 2, none⟩ = some (.int .i64 ((rd_T39 t231 ((rd_T34 t236 x13_3).f0)).f2)) ∧ w'.cell? (ad245.add ((x13_3).toNat * 3)) = some (.int .i64 ((rd_T34 t236 x13_3).f0)) ∧ w'.cell? ⟨(ad245.add ((x13_3).toNat * 3)).block, (ad245.add ((x13_3).toNat * 3)).off + 1, none⟩ = some (.int .i64 ((rd_T34 t236 x13_3).f1)) ∧ w'.cell? ⟨(ad245.add ((x13_3).toNat * 3)).block, (ad245.add ((x13_3).toNat * 3)).off + 2, none⟩ = some (.bool ((rd_T34 t236 x13_3).f2)) ∧ w'.cell? (ad250.add ((((rd_T34 t236 x13_3).f0)).toNat * 3)) = some (.int .i64 ((rd_T39 t231 ((rd_T34 t236 x13_3).f0)).f0)) ∧ w'.cell? ⟨(ad250.add ((((rd_T34 t236 x13_3).f0)).toNat * 3)).block, (ad250.add ((((rd_T34 t236 x13_3).f0)).toNat * 3)).off + 1, none⟩ = some (.int .i64 ((rd_T39 t231 ((rd_T34 t236 x13_3).f0)).f1)) ∧ w'.cell? ⟨(ad250.add ((((rd_T34 t236 x13_3).f0)).toNat * 3)).block, (ad250.add ((((rd_T34 t236 x13_3).f0)).toNat * 3)).off + 2, none⟩ = some (.int .i64 ((rd_T39 t231 ((rd_T34 t236 x13_3).f0)).f2))) (ds := []) (mk 85 0) (by kernel_rfl) rfl rfl ⟨hx245_0, hx245_1, hx245_2, hx246_0, hx246_1, hx246_2, hx247_0, hx247_1, hx247_2, hx248_0, hx248_1, hx248_2, hx249_0, hx249_1, hx249_2, hx250_0, hx250_1, hx250_2, hx251_0, hx251_1, hx251_2, hx252_0, hx252_1, hx252_2⟩ (fun hHeld => ?_); refine with_tabW haberdashlaw22_TenderGreatest.tab14 haberdashlaw22_TenderGreatest.bits14 (fun HT_ HW_ => ?_)
        generalize wr.drew = w42 at HO_0 HO_8 HO_10 HB hx245_0 hx245_1 hx245_2 hx246_0 hx246_1 hx246_2 hx247_0 hx247_1 hx247_2 hx248_0 hx248_1 hx248_2 hx249_0 hx249_1 hx249_2 hx250_0 hx250_1 hx250_2 hx251_0 hx251_1 hx251_2 hx252_0 hx252_1 hx252_2 hHeld ⊢
        refine ahead_ [(0, 69), (1, 70), (2, 71), (3, 72)] ?_
        iterate 4 (refine pA_ (v := ?_) (a' := ?_) rfl rfl HT_.out kr_ nh_ (Or.inl ⟨ry_, ?_⟩) ?_ ?_; rotate_left; (intro w'; go_simp; with_reducible rfl); rotate_left; (exact pu_))
        refine aheadE_ (mk 85 15) (by kernel_rfl) ?_
        refine take_ (i := 4) (N := some 73) (v := ?_) (a' := ?_) (mk 85 31) rfl rfl (tw_ HT_ HW_) nh_ (Or.inl ⟨by rfl, ?_⟩) hHeld ?_ ?_
        rotate_left
        ·
         rintro w' ⟨s0, s1, s2, s3, s4, s5, s6, s7, s8, s9, s10, s11, s12, s13, s14, s15, s16, s17, s18, s19, s20, s21, s22, s23⟩
         go_simp
         with_reducible rfl
        rotate_left; (exact pu_)
        refine ahead_ [(5, 74), (6, 75), (7, 76), (8, 77), (9, 78), (10, 79), (12, 81), (13, 82)] ?_
        iterate 8 (refine pA_ (v := ?_) (a' := ?_) rfl rfl HT_.out kr_ nh_ (Or.inl ⟨ry_, ?_⟩) ?_ ?_; rotate_left; (intro w'; go_simp; with_reducible rfl); rotate_left; (exact pu_))
        refine aheadE_ (mk 85 14335) (by kernel_rfl) ?_
        refine take_ (i := 11) (N := some 80) (v := ?_) (a' := ?_) (mk 85 16383) rfl rfl (tw_ HT_ HW_) nh_ (Or.inl ⟨by rfl, ?_⟩) hHeld ?_ ?_
        rotate_left
        ·
         rintro w' ⟨s0, s1, s2, s3, s4, s5, s6, s7, s8, s9, s10, s11, s12, s13, s14, s15, s16, s17, s18, s19, s20, s21, s22, s23⟩
         go_simp
         with_reducible rfl
        rotate_left; (exact pu_)
        refine ahead_ [(14, 83), (15, 84), (16, 85), (17, 86), (18, 87), (19, 88), (20, 89)] ?_
        iterate 7 (refine pA_ (v := ?_) (a' := ?_) rfl rfl HT_.out kr_ nh_ (Or.inl ⟨ry_, ?_⟩) ?_ ?_; rotate_left; (intro w'; go_simp; with_reducible rfl); rotate_left; (exact pu_))
        refine aheadE_ (mk 85 2097151) (by kernel_rfl) ?_
        refine take_ (i := 21) (N := some 90) (v := ?_) (a' := ?_) (mk 85 4194303) rfl rfl (tw_ HT_ HW_) nh_ (Or.inl ⟨by rfl, ?_⟩) hHeld ?_ ?_
        rotate_left
        ·
         rintro w' ⟨s0, s1, s2, s3, s4, s5, s6, s7, s8, s9, s10, s11, s12, s13, s14, s15, s16, s17, s18, s19, s20, s21, s22, s23⟩
         go_simp
         with_reducible rfl
        rotate_left; (exact pu_)
        refine ahead_ [(22, 91), (23, 92), (24, 93), (25, 94), (26, 95), (27, 96), (28, 97), (30, 99), (31, 100), (32, 101), (33, 102), (34, 103), (39, 108), (40, 109), (41, 110), (42, 111), (43, 112)] ?_
        iterate 17 (refine pA_ (v := ?_) (a' := ?_) rfl rfl HT_.out kr_ nh_ (Or.inl ⟨ry_, ?_⟩) ?_ ?_; rotate_left; (intro w'; go_simp; with_reducible rfl); rotate_left; (exact pu_))
        refine aheadE_ (mk 85 17076253097983) (by kernel_rfl) ?_
        refine ahead_ [(29, 98), (35, 104)] ?_
        iterate 2 (refine tA_ (v := ?_) (a' := ?_) rfl rfl HT_.out HW_.out (by kernel_rfl) (fun _ _ _ h => h) (Or.inl ⟨by rfl, ?_⟩) hHeld ?_ ?_; rotate_left; (rintro w' ⟨s0, s1, s2, s3, s4, s5, s6, s7, s8, s9, s10, s11, s12, s13, s14, s15, s16, s17, s18, s19, s20, s21, s22, s23⟩; go_simp; with_reducible rfl); rotate_left; (exact pu_))
        refine aheadE_ (mk 85 17111149707263) (by kernel_rfl) ?_
        refine ahead_ [(36, 105), (37, 106)] ?_
        iterate 2 (refine pA_ (v := ?_) (a' := ?_) rfl rfl HT_.out kr_ nh_ (Or.inl ⟨ry_, ?_⟩) ?_ ?_; rotate_left; (intro w'; go_simp; with_reducible rfl); rotate_left; (exact pu_))
        refine aheadE_ (mk 85 17317308137471) (by kernel_rfl) ?_
        refine ahead_ [(38, 107), (44, 113)] ?_
        iterate 2 (refine tA_ (v := ?_) (a' := ?_) rfl rfl HT_.out HW_.out (by kernel_rfl) (fun _ _ _ h => h) (Or.inl ⟨by rfl, ?_⟩) hHeld ?_ ?_; rotate_left; (rintro w' ⟨s0, s1, s2, s3, s4, s5, s6, s7, s8, s9, s10, s11, s12, s13, s14, s15, s16, s17, s18, s19, s20, s21, s22, s23⟩; go_simp; with_reducible rfl); rotate_left; (exact pu_))
        refine aheadE_ (mk 85 35184372088831) (by kernel_rfl) ?_
        refine ahead_ [(45, 114), (46, 115)] ?_
        iterate 2 (refine pA_ (v := ?_) (a' := ?_) rfl rfl HT_.out kr_ nh_ (Or.inl ⟨ry_, ?_⟩) ?_ ?_; rotate_left; (intro w'; go_simp; with_reducible rfl); rotate_left; (exact pu_))
        refine aheadE_ (mk 85 140737488355327) (by kernel_rfl) ?_
        refine take_ (i := 47) (N := some 116) (v := ?_) (a' := ?_) (mk 85 281474976710655) rfl rfl (tw_ HT_ HW_) nh_ (Or.inl ⟨by rfl, ?_⟩) hHeld ?_ ?_
        rotate_left
        ·
         rintro w' ⟨s0, s1, s2, s3, s4, s5, s6, s7, s8, s9, s10, s11, s12, s13, s14, s15, s16, s17, s18, s19, s20, s21, s22, s23⟩
         go_simp
         with_reducible rfl
        rotate_left; (exact pu_)
        refine ahead_ [(48, 117), (49, 118), (50, 119), (51, 120)] ?_
        iterate 4 (refine pA_ (v := ?_) (a' := ?_) rfl rfl HT_.out kr_ nh_ (Or.inl ⟨ry_, ?_⟩) ?_ ?_; rotate_left; (intro w'; go_simp; with_reducible rfl); rotate_left; (exact pu_))
        refine aheadE_ (mk 85 4503599627370495) (by kernel_rfl) ?_
        refine ahead_ [(52, 121), (53, 122), (54, 123), (55, 124), (56, 125), (57, 126), (58, 127), (59, 128), (60, 129), (61, 130), (62, 131), (63, 132), (64, 133), (65, 134), (66, 135), (67, 136), (68, 137), (69, 138), (70, 139), (71, 140), (72, 141), (73, 142), (74, 143), (75, 144), (76, 145), (77, 146), (78, 147), (79, 148), (80, 149), (81, 150), (82, 151), (83, 152)] ?_
        iterate 32 (refine pA_ (v := undef) (a' := ?_) rfl rfl HT_.out kr_ nh_ ru_ ?_ ?_; rotate_left; (exact pu_))
        refine aheadE_ (mk 85 19342813113834066795298815) (by kernel_rfl) ?_
        refine pure_ (i := 84) (N := some 153) (v := ?_) (a' := ?_) (mk 85 38685626227668133590597631) rfl rfl (an_ HT_) nh_ (Or.inl ⟨ry_, ?_⟩) ?_ ?_
        rotate_left; (intro w'; go_simp; with_reducible rfl)
        rotate_left; (exact pu_)
        refine done_ (done_of HT_.out (by kernel_rfl)) ?_
        try go_wp2
        go_ret
        exact ⟨er_, hb0_ HB⟩
       rw [if_neg c41] at H
       have c41b0 := decide_eq_false c41
       clear c41
       by_cases c43 : x13_3 < (wrap64 ((t236.length : Int) - 1))
       rotate_left
       ·
        rw [if_neg c43] at H
        have c43b0 := decide_eq_false c43
        clear c43
        have H' := Aside0.mk H
        clear H
        try go_wp2
        replace HO_0 := Aside0.mk (Kd.R_drew HO_0.out)
        replace HO_8 := Aside0.mk (Kd.R_drew HO_8.out)
        replace HO_10 := Aside0.mk (Kd.R_drew HO_10.out)
        replace HB := Aside0.mk (below_drew1 HB.out)
        have p245 : 0 ≤ (x13_3 : Int) := of_decide_eq_true as_
        have q245 : x13_3 < (t236.length : Int) := of_decide_eq_true as_
        obtain ⟨ad245, e245, hx245_0, hx245_1, hx245_2⟩ := at_T34 (Kd.R_reads' HO_8.out).2.2 x13_3 p245 q245
        cases e245
        replace p245 := eq_true p245
        replace q245 := eq_true q245
        have p246 : 0 ≤ (x13_3 : Int) := of_decide_eq_true as_
        have q246 : x13_3 < (t236.length : Int) := of_decide_eq_true as_
        obtain ⟨ad246, e246, hx246_0, hx246_1, hx246_2⟩ := at_T34 (Kd.R_reads' HO_8.out).2.2 x13_3 p246 q246
        obtain rfl : ad245 = ad246 := (by injection e246)
        replace p246 := eq_true p246
        replace q246 := eq_true q246
        have p247 : 0 ≤ (x13_3 : Int) := of_decide_eq_true as_
        have q247 : x13_3 < (t236.length : Int) := of_decide_eq_true as_
        obtain ⟨ad247, e247, hx247_0, hx247_1, hx247_2⟩ := at_T34 (Kd.R_reads' HO_8.out).2.2 x13_3 p247 q247
        obtain rfl : ad245 = ad247 := (by injection e247)
        replace p247 := eq_true p247
        replace q247 := eq_true q247
        have p248 : 0 ≤ (x13_3 : Int) := of_decide_eq_true as_
        have q248 : x13_3 < (t236.length : Int) := of_decide_eq_true as_
        obtain ⟨ad248, e248, hx248_0, hx248_1, hx248_2⟩ := at_T34 (Kd.R_reads' HO_8.out).2.2 x13_3 p248 q248
        obtain rfl : ad245 = ad248 := (by injection e248)
        replace p248 := eq_true p248
        replace q248 := eq_true q248
        have p249 : 0 ≤ (x13_3 : Int) := of_decide_eq_true as_
        have q249 : x13_3 < (t236.length : Int) := of_decide_eq_true as_
        obtain ⟨ad249, e249, hx249_0, hx249_1, hx249_2⟩ := at_T34 (Kd.R_reads' HO_8.out).2.2 x13_3 p249 q249
        obtain rfl : ad245 = ad249 := (by injection e249)
        replace p249 := eq_true p249
        replace q249 := eq_true q249
        have p250 : 0 ≤ (((rd_T34 t236 x13_3).f0) : Int) := of_decide_eq_true as_
        have q250 : ((rd_T34 t236 x13_3).f0) < (t231.length : Int) := of_decide_eq_true as_
        obtain ⟨ad250, e250, hx250_0, hx250_1, hx250_2⟩ := at_T39 (Kd.R_reads' HO_0.out).2.2 ((rd_T34 t236 x13_3).f0) p250 q250
        cases e250
        replace p250 := eq_true p250
        replace q250 := eq_true q250
        have p251 : 0 ≤ (x13_3 : Int) := of_decide_eq_true as_
        have q251 : x13_3 < (t236.length : Int) := of_decide_eq_true as_
        obtain ⟨ad251, e251, hx251_0, hx251_1, hx251_2⟩ := at_T34 (Kd.R_reads' HO_8.out).2.2 x13_3 p251 q251
        obtain rfl : ad245 = ad251 := (by injection e251)
        replace p251 := eq_true p251
        replace q251 := eq_true q251
        have p252 : 0 ≤ (((rd_T34 t236 x13_3).f0) : Int) := of_decide_eq_true as_
        have q252 : ((rd_T34 t236 x13_3).f0) < (t231.length : Int) := of_decide_eq_true as_
        obtain ⟨ad252, e252, hx252_0, hx252_1, hx252_2⟩ := at_T39 (Kd.R_reads' HO_0.out).2.2 ((rd_T34 t236 x13_3).f0) p252 q252
        obtain rfl : ad250 = ad252 := (by injection e252)
        replace p252 := eq_true p252
        replace q252 := eq_true q252
        refine start_ (n := 85) (S := fun w' => w'.cell? (ad245.add ((x13_3).toNat * 3)) = some (.int .i64 ((rd_T34 t236 x13_3).f0)) ∧ w'.cell? ⟨(ad245.add ((x13_3).toNat * 3)).block, (ad245.add ((x13_3).toNat * 3)).off + 1, none⟩ = some (.int .i64 ((rd_T34 t236 x13_3).f1)) ∧ w'.cell? ⟨(ad245.add ((x13_3).toNat * 3)).block, (ad245.add ((x13_3).toNat * 3)).off + 2, none⟩ = some (.bool ((rd_T34 t236 x13_3).f2)) ∧ w'.cell? (ad245.add ((x13_3).toNat * 3)) = some (.int .i64 ((rd_T34 t236 x13_3).f0)) ∧ w'.cell? ⟨(ad245.add ((x13_3).toNat * 3)).block, (ad245.add ((x13_3).toNat * 3)).off + 1, none⟩ = some (.int .i64 ((rd_T34 t236 x13_3).f1)) ∧ w'.cell? ⟨(ad245.add ((x13_3).toNat * 3)).block, (ad245.add ((x13_3).toNat * 3)).off + 2, none⟩ = some (.bool ((rd_T34 t236 x13_3).f2)) ∧ w'.cell? (ad245.add ((x13_3).toNat * 3)) = some (.int .i64 ((rd_T34 t236 x13_3).f0)) ∧ w'.cell? ⟨(ad245.add ((x13_3).toNat * 3)).block, (ad245.add ((x13_3).toNat * 3)).off + 1, none⟩ = some (.int .i64 ((rd_T34 t236 x13_3).f1)) ∧ w'.cell? ⟨(ad245.add ((x13_3).toNat * 3)).block, (ad245.add ((x13_3).toNat * 3)).off + 2, none⟩ = some (.bool ((rd_T34 t236 x13_3).f2)) ∧ w'.cell? (ad245.add ((x13_3).toNat * 3)) = some (.int .i64 ((rd_T34 t236 x13_3).f0)) ∧ w'.cell? ⟨(ad245.add ((x13_3).toNat * 3)).block, (ad245.add ((x13_3).toNat * 3)).off + 1, none⟩ = some (.int .i64 ((rd_T34 t236 x13_3).f1)) ∧ w'.cell? ⟨(ad245.add ((x13_3).toNat * 3)).block, (ad245.add ((x13_3).toNat * 3)).off + 2, none⟩ = some (.bool ((rd_T34 t236 x13_3).f2)) ∧ w'.cell? (ad245.add ((x13_3).toNat * 3)) = some (.int .i64 ((rd_T34 t236 x13_3).f0)) ∧ w'.cell? ⟨(ad245.add ((x13_3).toNat * 3)).block, (ad245.add ((x13_3).toNat * 3)).off + 1, none⟩ = some (.int .i64 ((rd_T34 t236 x13_3).f1)) ∧ w'.cell? ⟨(ad245.add ((x13_3).toNat * 3)).block, (ad245.add ((x13_3).toNat * 3)).off + 2, none⟩ = some (.bool ((rd_T34 t236 x13_3).f2)) ∧ w'.cell? (ad250.add ((((rd_T34 t236 x13_3).f0)).toNat * 3)) = some (.int .i64 ((rd_T39 t231 ((rd_T34 t236 x13_3).f0)).f0)) ∧ w'.cell? ⟨(ad250.add ((((rd_T34 t236 x13_3).f0)).toNat * 3)).block, (ad250.add ((((rd_T34 t236 x13_3).f0)).toNat * 3)).off + 1, none⟩ = some (.int .i64 ((rd_T39 t231 ((rd_T34 t236 x13_3).f0)).f1)) ∧ w'.cell? ⟨(ad250.add ((((rd_T34 t236 x13_3).f0)).toNat * 3)).block, (ad250.add ((((rd_T34 t236 x13_3).f0)).toNat * 3)).off + 2, none⟩ = some (.int .i64 ((rd_T39 t231 ((rd_T34 t236 x13_3).f0)).f2)) ∧ w'.cell? (ad245.add ((x13_3).toNat * 3)) = some (.int .i64 ((rd_T34 t236 x13_3).f0)) ∧ w'.cell? ⟨(ad245.add ((x13_3).toNat * 3)).block, (ad245.add ((x13_3).toNat * 3)).off + 1, none⟩ = some (.int .i64 ((rd_T34 t236 x13_3).f1)) ∧ w'.cell? ⟨(ad245.add ((x13_3).toNat * 3)).block, (ad245.add ((x13_3).toNat * 3)).off + 2, none⟩ = some (.bool ((rd_T34 t236 x13_3).f2)) ∧ w'.cell? (ad250.add ((((rd_T34 t236 x13_3).f0)).toNat * 3)) = some (.int .i64 ((rd_T39 t231 ((rd_T34 t236 x13_3).f0)).f0)) ∧ w'.cell? ⟨(ad250.add ((((rd_T34 t236 x13_3).f0)).toNat * 3)).block, (ad250.add ((((rd_T34 t236 x13_3).f0)).toNat * 3)).off + 1, none⟩ = some (.int .i64 ((rd_T39 t231 ((rd_T34 t236 x13_3).f0)).f1)) ∧ w'.cell? ⟨(ad250.add ((((rd_T34 t236 x13_3).f0)).toNat * 3)).block, (ad250.add ((((rd_T34 t236 x13_3).f0)).toNat * 3)).off + 2, none⟩ = some (.int .i64 ((rd_T39 t231 ((rd_T34 t236 x13_3).f0)).f2))) (ds := []) (mk 85 0) (by kernel_rfl) rfl rfl ⟨hx245_0, hx245_1, hx245_2, hx246_0, hx246_1, hx246_2, hx247_0, hx247_1, hx247_2, hx248_0, hx248_1, hx248_2, hx249_0, hx249_1, hx249_2, hx250_0, hx250_1, hx250_2, hx251_0, hx251_1, hx251_2, hx252_0, hx252_1, hx252_2⟩ (fun hHeld => ?_); refine with_tabW haberdashlaw22_TenderGreatest.tab14 haberdashlaw22_TenderGreatest.bits14 (fun HT_ HW_ => ?_)
        generalize wr.drew = w47 at HO_0 HO_8 HO_10 HB hx245_0 hx245_1 hx245_2 hx246_0 hx246_1 hx246_2 hx247_0 hx247_1 hx247_2 hx248_0 hx248_1 hx248_2 hx249_0 hx249_1 hx249_2 hx250_0 hx250_1 hx250_2 hx251_0 hx251_1 hx251_2 hx252_0 hx252_1 hx252_2 hHeld ⊢
        refine ahead_ [(0, 69), (1, 70), (2, 71), (3, 72)] ?_
        iterate 4 (refine pA_ (v := ?_) (a' := ?_) rfl rfl HT_.out kr_ nh_ (Or.inl ⟨ry_, ?_⟩) ?_ ?_; rotate_left; (intro w'; go_simp; with_reducible rfl); rotate_left; (exact pu_))
        refine aheadE_ (mk 85 15) (by kernel_rfl) ?_
        refine take_ (i := 4) (N := some 73) (v := ?_) (a' := ?_) (mk 85 31) rfl rfl (tw_ HT_ HW_) nh_ (Or.inl ⟨by rfl, ?_⟩) hHeld ?_ ?_
        rotate_left
        ·
         rintro w' ⟨s0, s1, s2, s3, s4, s5, s6, s7, s8, s9, s10, s11, s12, s13, s14, s15, s16, s17, s18, s19, s20, s21, s22, s23⟩
         go_simp
         with_reducible rfl
        rotate_left; (exact pu_)
        refine ahead_ [(5, 74), (6, 75), (7, 76), (8, 77), (9, 78), (10, 79), (12, 81), (13, 82)] ?_
        iterate 8 (refine pA_ (v := ?_) (a' := ?_) rfl rfl HT_.out kr_ nh_ (Or.inl ⟨ry_, ?_⟩) ?_ ?_; rotate_left; (intro w'; go_simp; with_reducible rfl); rotate_left; (exact pu_))
        refine aheadE_ (mk 85 14335) (by kernel_rfl) ?_
        refine take_ (i := 11) (N := some 80) (v := ?_) (a' := ?_) (mk 85 16383) rfl rfl (tw_ HT_ HW_) nh_ (Or.inl ⟨by rfl, ?_⟩) hHeld ?_ ?_
        rotate_left
        ·
         rintro w' ⟨s0, s1, s2, s3, s4, s5, s6, s7, s8, s9, s10, s11, s12, s13, s14, s15, s16, s17, s18, s19, s20, s21, s22, s23⟩
         go_simp
         with_reducible rfl
        rotate_left; (exact pu_)
        refine ahead_ [(14, 83), (15, 84), (16, 85), (17, 86), (18, 87), (19, 88), (20, 89)] ?_
        iterate 7 (refine pA_ (v := ?_) (a' := ?_) rfl rfl HT_.out kr_ nh_ (Or.inl ⟨ry_, ?_⟩) ?_ ?_; rotate_left; (intro w'; go_simp; with_reducible rfl); rotate_left; (exact pu_))
        refine aheadE_ (mk 85 2097151) (by kernel_rfl) ?_
        refine take_ (i := 21) (N := some 90) (v := ?_) (a' := ?_) (mk 85 4194303) rfl rfl (tw_ HT_ HW_) nh_ (Or.inl ⟨by rfl, ?_⟩) hHeld ?_ ?_
        rotate_left
        ·
         rintro w' ⟨s0, s1, s2, s3, s4, s5, s6, s7, s8, s9, s10, s11, s12, s13, s14, s15, s16, s17, s18, s19, s20, s21, s22, s23⟩
         go_simp
         with_reducible rfl
        rotate_left; (exact pu_)
        refine ahead_ [(22, 91), (23, 92), (24, 93), (25, 94), (26, 95), (27, 96), (28, 97), (30, 99), (31, 100), (32, 101), (33, 102), (34, 103), (39, 108), (40, 109), (41, 110), (42, 111), (43, 112)] ?_
        iterate 17 (refine pA_ (v := ?_) (a' := ?_) rfl rfl HT_.out kr_ nh_ (Or.inl ⟨ry_, ?_⟩) ?_ ?_; rotate_left; (intro w'; go_simp; with_reducible rfl); rotate_left; (exact pu_))
        refine aheadE_ (mk 85 17076253097983) (by kernel_rfl) ?_
        refine ahead_ [(29, 98), (35, 104)] ?_
        iterate 2 (refine tA_ (v := ?_) (a' := ?_) rfl rfl HT_.out HW_.out (by kernel_rfl) (fun _ _ _ h => h) (Or.inl ⟨by rfl, ?_⟩) hHeld ?_ ?_; rotate_left; (rintro w' ⟨s0, s1, s2, s3, s4, s5, s6, s7, s8, s9, s10, s11, s12, s13, s14, s15, s16, s17, s18, s19, s20, s21, s22, s23⟩; go_simp; with_reducible rfl); rotate_left; (exact pu_))
        refine aheadE_ (mk 85 17111149707263) (by kernel_rfl) ?_
        refine ahead_ [(36, 105), (37, 106)] ?_
        iterate 2 (refine pA_ (v := ?_) (a' := ?_) rfl rfl HT_.out kr_ nh_ (Or.inl ⟨ry_, ?_⟩) ?_ ?_; rotate_left; (intro w'; go_simp; with_reducible rfl); rotate_left; (exact pu_))
        refine aheadE_ (mk 85 17317308137471) (by kernel_rfl) ?_
        refine ahead_ [(38, 107), (44, 113)] ?_
        iterate 2 (refine tA_ (v := ?_) (a' := ?_) rfl rfl HT_.out HW_.out (by kernel_rfl) (fun _ _ _ h => h) (Or.inl ⟨by rfl, ?_⟩) hHeld ?_ ?_; rotate_left; (rintro w' ⟨s0, s1, s2, s3, s4, s5, s6, s7, s8, s9, s10, s11, s12, s13, s14, s15, s16, s17, s18, s19, s20, s21, s22, s23⟩; go_simp; with_reducible rfl); rotate_left; (exact pu_))
        refine aheadE_ (mk 85 35184372088831) (by kernel_rfl) ?_
        refine ahead_ [(45, 114), (46, 115)] ?_
        iterate 2 (refine pA_ (v := ?_) (a' := ?_) rfl rfl HT_.out kr_ nh_ (Or.inl ⟨ry_, ?_⟩) ?_ ?_; rotate_left; (intro w'; go_simp; with_reducible rfl); rotate_left; (exact pu_))
        refine aheadE_ (mk 85 140737488355327) (by kernel_rfl) ?_
        refine take_ (i := 47) (N := some 116) (v := ?_) (a' := ?_) (mk 85 281474976710655) rfl rfl (tw_ HT_ HW_) nh_ (Or.inl ⟨by rfl, ?_⟩) hHeld ?_ ?_
        rotate_left
        ·
         rintro w' ⟨s0, s1, s2, s3, s4, s5, s6, s7, s8, s9, s10, s11, s12, s13, s14, s15, s16, s17, s18, s19, s20, s21, s22, s23⟩
         go_simp
         with_reducible rfl
        rotate_left; (exact pu_)
        refine ahead_ [(48, 117), (49, 118), (50, 119), (51, 120), (52, 121), (53, 122), (54, 123), (55, 124), (56, 125), (57, 126)] ?_
        iterate 10 (refine pA_ (v := ?_) (a' := ?_) rfl rfl HT_.out kr_ nh_ (Or.inl ⟨ry_, ?_⟩) ?_ ?_; rotate_left; (intro w'; go_simp; with_reducible rfl); rotate_left; (exact pu_))
        refine aheadE_ (mk 85 288230376151711743) (by kernel_rfl) ?_
        refine ahead_ [(58, 127), (59, 128), (60, 129), (61, 130), (62, 131), (63, 132), (64, 133), (65, 134), (66, 135), (67, 136), (68, 137), (69, 138), (70, 139), (71, 140), (72, 141), (73, 142), (74, 143), (75, 144), (76, 145), (77, 146), (78, 147), (79, 148), (80, 149), (81, 150), (82, 151)] ?_
        iterate 25 (refine pA_ (v := undef) (a' := ?_) rfl rfl HT_.out kr_ nh_ ru_ ?_ ?_; rotate_left; (exact pu_))
        refine aheadE_ (mk 85 9671406556917033397649407) (by kernel_rfl) ?_
        refine ahead_ [(83, 152), (84, 153)] ?_
        iterate 2 (refine pA_ (v := ?_) (a' := ?_) rfl rfl HT_.out kr_ nh_ (Or.inl ⟨ry_, ?_⟩) ?_ ?_; rotate_left; (intro w'; go_simp; with_reducible rfl); rotate_left; (exact pu_))
        refine aheadE_ (mk 85 38685626227668133590597631) (by kernel_rfl) ?_
        refine done_ (done_of HT_.out (by kernel_rfl)) ?_
        have p259 : 0 ≤ (x13_3 : Int) := of_decide_eq_true as_
        have q259 : x13_3 < (t236.length : Int) := of_decide_eq_true as_
        obtain ⟨ad259, e259, hx259_0, hx259_1, hx259_2⟩ := at_T34 (Kd.R_reads' HO_8.out).2.2 x13_3 p259 q259
        obtain rfl : ad245 = ad259 := (by injection e259)
        replace p259 := eq_true p259
        replace q259 := eq_true q259
        try go_wp2
        go_roundg k3
        case measure => have := HJ3.out; have := HJ13.out; have := HK3.out; omega
        case rel => exact ⟨(wrap64 (x12_3 + ((rd_T34 t236 x13_3).f1))), (wrap64 (x13_3 + 1)), rf_, rf_, H', ⟨by have := HJ3.out; have := HJ13.out; have := HK3.out; omega⟩, ⟨ro_ HO_0⟩, ⟨ro_ HO_8⟩, ⟨ro_ HO_10⟩, ⟨hb0_ HB⟩⟩
       rw [if_pos c43] at H
       have c43b0 := decide_eq_true c43
       clear c43
       by_cases c44 : ((rd_T34 t236 x13_3).f1) = (wrap64 (((rd_T39 t231 ((rd_T34 t236 x13_3).f0)).f1) - ((rd_T39 t231 ((rd_T34 t236 x13_3).f0)).f2)))
       rotate_left
       ·
        rw [if_neg c44] at H
        have c44b0 : (((rd_T34 t236 x13_3).f1) == (wrap64 (((rd_T39 t231 ((rd_T34 t236 x13_3).f0)).f1) - ((rd_T39 t231 ((rd_T34 t236 x13_3).f0)).f2)))) = false := beq_eq_false_iff_ne.mpr c44
        have c44b1 : (((rd_T34 t236 x13_3).f1) != (wrap64 (((rd_T39 t231 ((rd_T34 t236 x13_3).f0)).f1) - ((rd_T39 t231 ((rd_T34 t236 x13_3).f0)).f2)))) = true := bne_iff_ne.mpr c44
        obtain rfl := Option.some.inj H
        try go_wp2
        replace HO_0 := Aside0.mk (Kd.R_drew HO_0.out)
        replace HO_8 := Aside0.mk (Kd.R_drew HO_8.out)
        replace HO_10 := Aside0.mk (Kd.R_drew HO_10.out)
        replace HB := Aside0.mk (below_drew1 HB.out)
        have p245 : 0 ≤ (x13_3 : Int) := of_decide_eq_true as_
        have q245 : x13_3 < (t236.length : Int) := of_decide_eq_true as_
        obtain ⟨ad245, e245, hx245_0, hx245_1, hx245_2⟩ := at_T34 (Kd.R_reads' HO_8.out).2.2 x13_3 p245 q245
        cases e245
        replace p245 := eq_true p245
        replace q245 := eq_true q245
        have p246 : 0 ≤ (x13_3 : Int) := of_decide_eq_true as_
        have q246 : x13_3 < (t236.length : Int) := of_decide_eq_true as_
        obtain ⟨ad246, e246, hx246_0, hx246_1, hx246_2⟩ := at_T34 (Kd.R_reads' HO_8.out).2.2 x13_3 p246 q246
        obtain rfl : ad245 = ad246 := (by injection e246)
        replace p246 := eq_true p246
        replace q246 := eq_true q246
        have p247 : 0 ≤ (x13_3 : Int) := of_decide_eq_true as_
        have q247 : x13_3 < (t236.length : Int) := of_decide_eq_true as_
        obtain ⟨ad247, e247, hx247_0, hx247_1, hx247_2⟩ := at_T34 (Kd.R_reads' HO_8.out).2.2 x13_3 p247 q247
        obtain rfl : ad245 = ad247 := (by injection e247)
        replace p247 := eq_true p247
        replace q247 := eq_true q247
        have p248 : 0 ≤ (x13_3 : Int) := of_decide_eq_true as_
        have q248 : x13_3 < (t236.length : Int) := of_decide_eq_true as_
        obtain ⟨ad248, e248, hx248_0, hx248_1, hx248_2⟩ := at_T34 (Kd.R_reads' HO_8.out).2.2 x13_3 p248 q248
        obtain rfl : ad245 = ad248 := (by injection e248)
        replace p248 := eq_true p248
        replace q248 := eq_true q248
        have p249 : 0 ≤ (x13_3 : Int) := of_decide_eq_true as_
        have q249 : x13_3 < (t236.length : Int) := of_decide_eq_true as_
        obtain ⟨ad249, e249, hx249_0, hx249_1, hx249_2⟩ := at_T34 (Kd.R_reads' HO_8.out).2.2 x13_3 p249 q249
        obtain rfl : ad245 = ad249 := (by injection e249)
        replace p249 := eq_true p249
        replace q249 := eq_true q249
        have p250 : 0 ≤ (((rd_T34 t236 x13_3).f0) : Int) := of_decide_eq_true as_
        have q250 : ((rd_T34 t236 x13_3).f0) < (t231.length : Int) := of_decide_eq_true as_
        obtain ⟨ad250, e250, hx250_0, hx250_1, hx250_2⟩ := at_T39 (Kd.R_reads' HO_0.out).2.2 ((rd_T34 t236 x13_3).f0) p250 q250
        cases e250
        replace p250 := eq_true p250
        replace q250 := eq_true q250
        have p251 : 0 ≤ (x13_3 : Int) := of_decide_eq_true as_
        have q251 : x13_3 < (t236.length : Int) := of_decide_eq_true as_
        obtain ⟨ad251, e251, hx251_0, hx251_1, hx251_2⟩ := at_T34 (Kd.R_reads' HO_8.out).2.2 x13_3 p251 q251
        obtain rfl : ad245 = ad251 := (by injection e251)
        replace p251 := eq_true p251
        replace q251 := eq_true q251
        have p252 : 0 ≤ (((rd_T34 t236 x13_3).f0) : Int) := of_decide_eq_true as_
        have q252 : ((rd_T34 t236 x13_3).f0) < (t231.length : Int) := of_decide_eq_true as_
        obtain ⟨ad252, e252, hx252_0, hx252_1, hx252_2⟩ := at_T39 (Kd.R_reads' HO_0.out).2.2 ((rd_T34 t236 x13_3).f0) p252 q252
        obtain rfl : ad250 = ad252 := (by injection e252)
        replace p252 := eq_true p252
        replace q252 := eq_true q252
        have p253 : 0 ≤ (x13_3 : Int) := of_decide_eq_true as_
        have q253 : x13_3 < (t236.length : Int) := of_decide_eq_true as_
        obtain ⟨ad253, e253, hx253_0, hx253_1, hx253_2⟩ := at_T34 (Kd.R_reads' HO_8.out).2.2 x13_3 p253 q253
        obtain rfl : ad245 = ad253 := (by injection e253)
        replace p253 := eq_true p253
        replace q253 := eq_true q253
        have p254 : 0 ≤ (x13_3 : Int) := of_decide_eq_true as_
        have q254 : x13_3 < (t236.length : Int) := of_decide_eq_true as_
        obtain ⟨ad254, e254, hx254_0, hx254_1, hx254_2⟩ := at_T34 (Kd.R_reads' HO_8.out).2.2 x13_3 p254 q254
        obtain rfl : ad245 = ad254 := (by injection e254)
        replace p254 := eq_true p254
        replace q254 := eq_true q254
        have p255 : 0 ≤ (((rd_T34 t236 x13_3).f0) : Int) := of_decide_eq_true as_
        have q255 : ((rd_T34 t236 x13_3).f0) < (t231.length : Int) := of_decide_eq_true as_
        obtain ⟨ad255, e255, hx255_0, hx255_1, hx255_2⟩ := at_T39 (Kd.R_reads' HO_0.out).2.2 ((rd_T34 t236 x13_3).f0) p255 q255
        obtain rfl : ad250 = ad255 := (by injection e255)
        replace p255 := eq_true p255
        replace q255 := eq_true q255
        have p256 : 0 ≤ (x13_3 : Int) := of_decide_eq_true as_
        have q256 : x13_3 < (t236.length : Int) := of_decide_eq_true as_
        obtain ⟨ad256, e256, hx256_0, hx256_1, hx256_2⟩ := at_T34 (Kd.R_reads' HO_8.out).2.2 x13_3 p256 q256
        obtain rfl : ad245 = ad256 := (by injection e256)
        replace p256 := eq_true p256
        replace q256 := eq_true q256
        have p257 : 0 ≤ (((rd_T34 t236 x13_3).f0) : Int) := of_decide_eq_true as_
        have q257 : ((rd_T34 t236 x13_3).f0) < (t231.length : Int) := of_decide_eq_true as_
        obtain ⟨ad257, e257, hx257_0, hx257_1, hx257_2⟩ := at_T39 (Kd.R_reads' HO_0.out).2.2 ((rd_T34 t236 x13_3).f0) p257 q257
        obtain rfl : ad250 = ad257 := (by injection e257)
        replace p257 := eq_true p257
        replace q257 := eq_true q257
        refine start_ (n := 85) (S := fun w' => w'.cell? (ad245.add ((x13_3).toNat * 3)) = some (.int .i64 ((rd_T34 t236 x13_3).f0)) ∧ w'.cell? ⟨(ad245.add ((x13_3).toNat * 3)).block, (ad245.add ((x13_3).toNat * 3)).off + 1, none⟩ = some (.int .i64 ((rd_T34 t236 x13_3).f1)) ∧ w'.cell? ⟨(ad245.add ((x13_3).toNat * 3)).block, (ad245.add ((x13_3).toNat * 3)).off + 2, none⟩ = some (.bool ((rd_T34 t236 x13_3).f2)) ∧ w'.cell? (ad245.add ((x13_3).toNat * 3)) = some (.int .i64 ((rd_T34 t236 x13_3).f0)) ∧ w'.cell? ⟨(ad245.add ((x13_3).toNat * 3)).block, (ad245.add ((x13_3).toNat * 3)).off + 1, none⟩ = some (.int .i64 ((rd_T34 t236 x13_3).f1)) ∧ w'.cell? ⟨(ad245.add ((x13_3).toNat * 3)).block, (ad245.add ((x13_3).toNat * 3)).off + 2, none⟩ = some (.bool ((rd_T34 t236 x13_3).f2)) ∧ w'.cell? (ad245.add ((x13_3).toNat * 3)) = some (.int .i64 ((rd_T34 t236 x13_3).f0)) ∧ w'.cell? ⟨(ad245.add ((x13_3).toNat * 3)).block, (ad245.add ((x13_3).toNat * 3)).off + 1, none⟩ = some (.int .i64 ((rd_T34 t236 x13_3).f1)) ∧ w'.cell? ⟨(ad245.add ((x13_3).toNat * 3)).block, (ad245.add ((x13_3).toNat * 3)).off + 2, none⟩ = some (.bool ((rd_T34 t236 x13_3).f2)) ∧ w'.cell? (ad245.add ((x13_3).toNat * 3)) = some (.int .i64 ((rd_T34 t236 x13_3).f0)) ∧ w'.cell? ⟨(ad245.add ((x13_3).toNat * 3)).block, (ad245.add ((x13_3).toNat * 3)).off + 1, none⟩ = some (.int .i64 ((rd_T34 t236 x13_3).f1)) ∧ w'.cell? ⟨(ad245.add ((x13_3).toNat * 3)).block, (ad245.add ((x13_3).toNat * 3)).off + 2, none⟩ = some (.bool ((rd_T34 t236 x13_3).f2)) ∧ w'.cell? (ad245.add ((x13_3).toNat * 3)) = some (.int .i64 ((rd_T34 t236 x13_3).f0)) ∧ w'.cell? ⟨(ad245.add ((x13_3).toNat * 3)).block, (ad245.add ((x13_3).toNat * 3)).off + 1, none⟩ = some (.int .i64 ((rd_T34 t236 x13_3).f1)) ∧ w'.cell? ⟨(ad245.add ((x13_3).toNat * 3)).block, (ad245.add ((x13_3).toNat * 3)).off + 2, none⟩ = some (.bool ((rd_T34 t236 x13_3).f2)) ∧ w'.cell? (ad250.add ((((rd_T34 t236 x13_3).f0)).toNat * 3)) = some (.int .i64 ((rd_T39 t231 ((rd_T34 t236 x13_3).f0)).f0)) ∧ w'.cell? ⟨(ad250.add ((((rd_T34 t236 x13_3).f0)).toNat * 3)).block, (ad250.add ((((rd_T34 t236 x13_3).f0)).toNat * 3)).off + 1, none⟩ = some (.int .i64 ((rd_T39 t231 ((rd_T34 t236 x13_3).f0)).f1)) ∧ w'.cell? ⟨(ad250.add ((((rd_T34 t236 x13_3).f0)).toNat * 3)).block, (ad250.add ((((rd_T34 t236 x13_3).f0)).toNat * 3)).off + 2, none⟩ = some (.int .i64 ((rd_T39 t231 ((rd_T34 t236 x13_3).f0)).f2)) ∧ w'.cell? (ad245.add ((x13_3).toNat * 3)) = some (.int .i64 ((rd_T34 t236 x13_3).f0)) ∧ w'.cell? ⟨(ad245.add ((x13_3).toNat * 3)).block, (ad245.add ((x13_3).toNat * 3)).off + 1, none⟩ = some (.int .i64 ((rd_T34 t236 x13_3).f1)) ∧ w'.cell? ⟨(ad245.add ((x13_3).toNat * 3)).block, (ad245.add ((x13_3).toNat * 3)).off + 2, none⟩ = some (.bool ((rd_T34 t236 x13_3).f2)) ∧ w'.cell? (ad250.add ((((rd_T34 t236 x13_3).f0)).toNat * 3)) = some (.int .i64 ((rd_T39 t231 ((rd_T34 t236 x13_3).f0)).f0)) ∧ w'.cell? ⟨(ad250.add ((((rd_T34 t236 x13_3).f0)).toNat * 3)).block, (ad250.add ((((rd_T34 t236 x13_3).f0)).toNat * 3)).off + 1, none⟩ = some (.int .i64 ((rd_T39 t231 ((rd_T34 t236 x13_3).f0)).f1)) ∧ w'.cell? ⟨(ad250.add ((((rd_T34 t236 x13_3).f0)).toNat * 3)).block, (ad250.add ((((rd_T34 t236 x13_3).f0)).toNat * 3)).off + 2, none⟩ = some (.int .i64 ((rd_T39 t231 ((rd_T34 t236 x13_3).f0)).f2)) ∧ w'.cell? (ad245.add ((x13_3).toNat * 3)) = some (.int .i64 ((rd_T34 t236 x13_3).f0)) ∧ w'.cell? ⟨(ad245.add ((x13_3).toNat * 3)).block, (ad245.add ((x13_3).toNat * 3)).off + 1, none⟩ = some (.int .i64 ((rd_T34 t236 x13_3).f1)) ∧ w'.cell? ⟨(ad245.add ((x13_3).toNat * 3)).block, (ad245.add ((x13_3).toNat * 3)).off + 2, none⟩ = some (.bool ((rd_T34 t236 x13_3).f2)) ∧ w'.cell? (ad245.add ((x13_3).toNat * 3)) = some (.int .i64 ((rd_T34 t236 x13_3).f0)) ∧ w'.cell? ⟨(ad245.add ((x13_3).toNat * 3)).block, (ad245.add ((x13_3).toNat * 3)).off + 1, none⟩ = some (.int .i64 ((rd_T34 t236 x13_3).f1)) ∧ w'.cell? ⟨(ad245.add ((x13_3).toNat * 3)).block, (ad245.add ((x13_3).toNat * 3)).off + 2, none⟩ = some (.bool ((rd_T34 t236 x13_3).f2)) ∧ w'.cell? (ad250.add ((((rd_T34 t236 x13_3).f0)).toNat * 3)) = some (.int .i64 ((rd_T39 t231 ((rd_T34 t236 x13_3).f0)).f0)) ∧ w'.cell? ⟨(ad250.add ((((rd_T34 t236 x13_3).f0)).toNat * 3)).block, (ad250.add ((((rd_T34 t236 x13_3).f0)).toNat * 3)).off + 1, none⟩ = some (.int .i64 ((rd_T39 t231 ((rd_T34 t236 x13_3).f0)).f1)) ∧ w'.cell? ⟨(ad250.add ((((rd_T34 t236 x13_3).f0)).toNat * 3)).block, (ad250.add ((((rd_T34 t236 x13_3).f0)).toNat * 3)).off + 2, none⟩ = some (.int .i64 ((rd_T39 t231 ((rd_T34 t236 x13_3).f0)).f2)) ∧ w'.cell? (ad245.add ((x13_3).toNat * 3)) = some (.int .i64 ((rd_T34 t236 x13_3).f0)) ∧ w'.cell? ⟨(ad245.add ((x13_3).toNat * 3)).block, (ad245.add ((x13_3).toNat * 3)).off + 1, none⟩ = some (.int .i64 ((rd_T34 t236 x13_3).f1)) ∧ w'.cell? ⟨(ad245.add ((x13_3).toNat * 3)).block, (ad245.add ((x13_3).toNat * 3)).off + 2, none⟩ = some (.bool ((rd_T34 t236 x13_3).f2)) ∧ w'.cell? (ad250.add ((((rd_T34 t236 x13_3).f0)).toNat * 3)) = some (.int .i64 ((rd_T39 t231 ((rd_T34 t236 x13_3).f0)).f0)) ∧ w'.cell? ⟨(ad250.add ((((rd_T34 t236 x13_3).f0)).toNat * 3)).block, (ad250.add ((((rd_T34 t236 x13_3).f0)).toNat * 3)).off + 1, none⟩ = some (.int .i64 ((rd_T39 t231 ((rd_T34 t236 x13_3).f0)).f1)) ∧ w'.cell? ⟨(ad250.add ((((rd_T34 t236 x13_3).f0)).toNat * 3)).block, (ad250.add ((((rd_T34 t236 x13_3).f0)).toNat * 3)).off + 2, none⟩ = some (.int .i64 ((rd_T39 t231 ((rd_T34 t236 x13_3).f0)).f2))) (ds := []) (mk 85 0) (by kernel_rfl) rfl rfl ⟨hx245_0, hx245_1, hx245_2, hx246_0, hx246_1, hx246_2, hx247_0, hx247_1, hx247_2, hx248_0, hx248_1, hx248_2, hx249_0, hx249_1, hx249_2, hx250_0, hx250_1, hx250_2, hx251_0, hx251_1, hx251_2, hx252_0, hx252_1, hx252_2, hx253_0, hx253_1, hx253_2, hx254_0, hx254_1, hx254_2, hx255_0, hx255_1, hx255_2, hx256_0, hx256_1, hx256_2, hx257_0, hx257_1, hx257_2⟩ (fun hHeld => ?_); refine with_tabW haberdashlaw22_TenderGreatest.tab14 haberdashlaw22_TenderGreatest.bits14 (fun HT_ HW_ => ?_)
        generalize wr.drew = w46 at HO_0 HO_8 HO_10 HB hx245_0 hx245_1 hx245_2 hx246_0 hx246_1 hx246_2 hx247_0 hx247_1 hx247_2 hx248_0 hx248_1 hx248_2 hx249_0 hx249_1 hx249_2 hx250_0 hx250_1 hx250_2 hx251_0 hx251_1 hx251_2 hx252_0 hx252_1 hx252_2 hx253_0 hx253_1 hx253_2 hx254_0 hx254_1 hx254_2 hx255_0 hx255_1 hx255_2 hx256_0 hx256_1 hx256_2 hx257_0 hx257_1 hx257_2 hHeld ⊢
        refine ahead_ [(0, 69), (1, 70), (2, 71), (3, 72)] ?_
        iterate 4 (refine pA_ (v := ?_) (a' := ?_) rfl rfl HT_.out kr_ nh_ (Or.inl ⟨ry_, ?_⟩) ?_ ?_; rotate_left; (intro w'; go_simp; with_reducible rfl); rotate_left; (exact pu_))
        refine aheadE_ (mk 85 15) (by kernel_rfl) ?_
        refine take_ (i := 4) (N := some 73) (v := ?_) (a' := ?_) (mk 85 31) rfl rfl (tw_ HT_ HW_) nh_ (Or.inl ⟨by rfl, ?_⟩) hHeld ?_ ?_
        rotate_left
        ·
         rintro w' ⟨s0, s1, s2, s3, s4, s5, s6, s7, s8, s9, s10, s11, s12, s13, s14, s15, s16, s17, s18, s19, s20, s21, s22, s23, s24, s25, s26, s27, s28, s29, s30, s31, s32, s33, s34, s35, s36, s37, s38⟩
         go_simp
         with_reducible rfl
        rotate_left; (exact pu_)
        refine ahead_ [(5, 74), (6, 75), (7, 76), (8, 77), (9, 78), (10, 79), (12, 81), (13, 82)] ?_
        iterate 8 (refine pA_ (v := ?_) (a' := ?_) rfl rfl HT_.out kr_ nh_ (Or.inl ⟨ry_, ?_⟩) ?_ ?_; rotate_left; (intro w'; go_simp; with_reducible rfl); rotate_left; (exact pu_))
        refine aheadE_ (mk 85 14335) (by kernel_rfl) ?_
        refine take_ (i := 11) (N := some 80) (v := ?_) (a' := ?_) (mk 85 16383) rfl rfl (tw_ HT_ HW_) nh_ (Or.inl ⟨by rfl, ?_⟩) hHeld ?_ ?_
        rotate_left
        ·
         rintro w' ⟨s0, s1, s2, s3, s4, s5, s6, s7, s8, s9, s10, s11, s12, s13, s14, s15, s16, s17, s18, s19, s20, s21, s22, s23, s24, s25, s26, s27, s28, s29, s30, s31, s32, s33, s34, s35, s36, s37, s38⟩
         go_simp
         with_reducible rfl
        rotate_left; (exact pu_)
        refine ahead_ [(14, 83), (15, 84), (16, 85), (17, 86), (18, 87), (19, 88), (20, 89)] ?_
        iterate 7 (refine pA_ (v := ?_) (a' := ?_) rfl rfl HT_.out kr_ nh_ (Or.inl ⟨ry_, ?_⟩) ?_ ?_; rotate_left; (intro w'; go_simp; with_reducible rfl); rotate_left; (exact pu_))
        refine aheadE_ (mk 85 2097151) (by kernel_rfl) ?_
        refine take_ (i := 21) (N := some 90) (v := ?_) (a' := ?_) (mk 85 4194303) rfl rfl (tw_ HT_ HW_) nh_ (Or.inl ⟨by rfl, ?_⟩) hHeld ?_ ?_
        rotate_left
        ·
         rintro w' ⟨s0, s1, s2, s3, s4, s5, s6, s7, s8, s9, s10, s11, s12, s13, s14, s15, s16, s17, s18, s19, s20, s21, s22, s23, s24, s25, s26, s27, s28, s29, s30, s31, s32, s33, s34, s35, s36, s37, s38⟩
         go_simp
         with_reducible rfl
        rotate_left; (exact pu_)
        refine ahead_ [(22, 91), (23, 92), (24, 93), (25, 94), (26, 95), (27, 96), (28, 97), (30, 99), (31, 100), (32, 101), (33, 102), (34, 103), (39, 108), (40, 109), (41, 110), (42, 111), (43, 112)] ?_
        iterate 17 (refine pA_ (v := ?_) (a' := ?_) rfl rfl HT_.out kr_ nh_ (Or.inl ⟨ry_, ?_⟩) ?_ ?_; rotate_left; (intro w'; go_simp; with_reducible rfl); rotate_left; (exact pu_))
        refine aheadE_ (mk 85 17076253097983) (by kernel_rfl) ?_
        refine ahead_ [(29, 98), (35, 104)] ?_
        iterate 2 (refine tA_ (v := ?_) (a' := ?_) rfl rfl HT_.out HW_.out (by kernel_rfl) (fun _ _ _ h => h) (Or.inl ⟨by rfl, ?_⟩) hHeld ?_ ?_; rotate_left; (rintro w' ⟨s0, s1, s2, s3, s4, s5, s6, s7, s8, s9, s10, s11, s12, s13, s14, s15, s16, s17, s18, s19, s20, s21, s22, s23, s24, s25, s26, s27, s28, s29, s30, s31, s32, s33, s34, s35, s36, s37, s38⟩; go_simp; with_reducible rfl); rotate_left; (exact pu_))
        refine aheadE_ (mk 85 17111149707263) (by kernel_rfl) ?_
        refine ahead_ [(36, 105), (37, 106)] ?_
        iterate 2 (refine pA_ (v := ?_) (a' := ?_) rfl rfl HT_.out kr_ nh_ (Or.inl ⟨ry_, ?_⟩) ?_ ?_; rotate_left; (intro w'; go_simp; with_reducible rfl); rotate_left; (exact pu_))
        refine aheadE_ (mk 85 17317308137471) (by kernel_rfl) ?_
        refine ahead_ [(38, 107), (44, 113)] ?_
        iterate 2 (refine tA_ (v := ?_) (a' := ?_) rfl rfl HT_.out HW_.out (by kernel_rfl) (fun _ _ _ h => h) (Or.inl ⟨by rfl, ?_⟩) hHeld ?_ ?_; rotate_left; (rintro w' ⟨s0, s1, s2, s3, s4, s5, s6, s7, s8, s9, s10, s11, s12, s13, s14, s15, s16, s17, s18, s19, s20, s21, s22, s23, s24, s25, s26, s27, s28, s29, s30, s31, s32, s33, s34, s35, s36, s37, s38⟩; go_simp; with_reducible rfl); rotate_left; (exact pu_))
        refine aheadE_ (mk 85 35184372088831) (by kernel_rfl) ?_
        refine ahead_ [(45, 114), (46, 115)] ?_
        iterate 2 (refine pA_ (v := ?_) (a' := ?_) rfl rfl HT_.out kr_ nh_ (Or.inl ⟨ry_, ?_⟩) ?_ ?_; rotate_left; (intro w'; go_simp; with_reducible rfl); rotate_left; (exact pu_))
        refine aheadE_ (mk 85 140737488355327) (by kernel_rfl) ?_
        refine take_ (i := 47) (N := some 116) (v := ?_) (a' := ?_) (mk 85 281474976710655) rfl rfl (tw_ HT_ HW_) nh_ (Or.inl ⟨by rfl, ?_⟩) hHeld ?_ ?_
        rotate_left
        ·
         rintro w' ⟨s0, s1, s2, s3, s4, s5, s6, s7, s8, s9, s10, s11, s12, s13, s14, s15, s16, s17, s18, s19, s20, s21, s22, s23, s24, s25, s26, s27, s28, s29, s30, s31, s32, s33, s34, s35, s36, s37, s38⟩
         go_simp
         with_reducible rfl
        rotate_left; (exact pu_)
        refine ahead_ [(48, 117), (49, 118), (50, 119), (51, 120), (52, 121), (53, 122), (54, 123), (55, 124), (56, 125), (57, 126), (58, 127), (59, 128), (60, 129), (61, 130), (63, 132), (64, 133), (65, 134), (66, 135), (67, 136), (72, 141), (73, 142), (74, 143), (75, 144), (76, 145)] ?_
        iterate 24 (refine pA_ (v := ?_) (a' := ?_) rfl rfl HT_.out kr_ nh_ (Or.inl ⟨ry_, ?_⟩) ?_ ?_; rotate_left; (intro w'; go_simp; with_reducible rfl); rotate_left; (exact pu_))
        refine aheadE_ (mk 85 146683897188119927062527) (by kernel_rfl) ?_
        refine ahead_ [(62, 131), (68, 137)] ?_
        iterate 2 (refine tA_ (v := ?_) (a' := ?_) rfl rfl HT_.out HW_.out (by kernel_rfl) (fun _ _ _ h => h) (Or.inl ⟨by rfl, ?_⟩) hHeld ?_ ?_; rotate_left; (rintro w' ⟨s0, s1, s2, s3, s4, s5, s6, s7, s8, s9, s10, s11, s12, s13, s14, s15, s16, s17, s18, s19, s20, s21, s22, s23, s24, s25, s26, s27, s28, s29, s30, s31, s32, s33, s34, s35, s36, s37, s38⟩; go_simp; with_reducible rfl); rotate_left; (exact pu_))
        refine aheadE_ (mk 85 146983656779317707276287) (by kernel_rfl) ?_
        refine ahead_ [(69, 138), (70, 139)] ?_
        iterate 2 (refine pA_ (v := ?_) (a' := ?_) rfl rfl HT_.out kr_ nh_ (Or.inl ⟨ry_, ?_⟩) ?_ ?_; rotate_left; (intro w'; go_simp; with_reducible rfl); rotate_left; (exact pu_))
        refine aheadE_ (mk 85 148754544210393824231423) (by kernel_rfl) ?_
        refine ahead_ [(71, 140), (77, 146)] ?_
        iterate 2 (refine tA_ (v := ?_) (a' := ?_) rfl rfl HT_.out HW_.out (by kernel_rfl) (fun _ _ _ h => h) (Or.inl ⟨by rfl, ?_⟩) hHeld ?_ ?_; rotate_left; (rintro w' ⟨s0, s1, s2, s3, s4, s5, s6, s7, s8, s9, s10, s11, s12, s13, s14, s15, s16, s17, s18, s19, s20, s21, s22, s23, s24, s25, s26, s27, s28, s29, s30, s31, s32, s33, s34, s35, s36, s37, s38⟩; go_simp; with_reducible rfl); rotate_left; (exact pu_))
        refine aheadE_ (mk 85 302231454903657293676543) (by kernel_rfl) ?_
        refine ahead_ [(78, 147), (79, 148)] ?_
        iterate 2 (refine pA_ (v := ?_) (a' := ?_) rfl rfl HT_.out kr_ nh_ (Or.inl ⟨ry_, ?_⟩) ?_ ?_; rotate_left; (intro w'; go_simp; with_reducible rfl); rotate_left; (exact pu_))
        refine aheadE_ (mk 85 1208925819614629174706175) (by kernel_rfl) ?_
        refine take_ (i := 80) (N := some 149) (v := ?_) (a' := ?_) (mk 85 2417851639229258349412351) rfl rfl (tw_ HT_ HW_) nh_ (Or.inl ⟨by rfl, ?_⟩) hHeld ?_ ?_
        rotate_left
        ·
         rintro w' ⟨s0, s1, s2, s3, s4, s5, s6, s7, s8, s9, s10, s11, s12, s13, s14, s15, s16, s17, s18, s19, s20, s21, s22, s23, s24, s25, s26, s27, s28, s29, s30, s31, s32, s33, s34, s35, s36, s37, s38⟩
         go_simp
         with_reducible rfl
        rotate_left; (exact pu_)
        refine ahead_ [(81, 150), (82, 151), (83, 152), (84, 153)] ?_
        iterate 4 (refine pA_ (v := ?_) (a' := ?_) rfl rfl HT_.out kr_ nh_ (Or.inl ⟨ry_, ?_⟩) ?_ ?_; rotate_left; (intro w'; go_simp; with_reducible rfl); rotate_left; (exact pu_))
        refine aheadE_ (mk 85 38685626227668133590597631) (by kernel_rfl) ?_
        refine done_ (done_of HT_.out (by kernel_rfl)) ?_
        try go_wp2
        go_ret
        exact ⟨er_, hb0_ HB⟩
       rw [if_pos c44] at H
       have c44b0 : (((rd_T34 t236 x13_3).f1) == (wrap64 (((rd_T39 t231 ((rd_T34 t236 x13_3).f0)).f1) - ((rd_T39 t231 ((rd_T34 t236 x13_3).f0)).f2)))) = true := beq_iff_eq.mpr c44
       have c44b1 : (((rd_T34 t236 x13_3).f1) != (wrap64 (((rd_T39 t231 ((rd_T34 t236 x13_3).f0)).f1) - ((rd_T39 t231 ((rd_T34 t236 x13_3).f0)).f2)))) = false := bne_eq_false_iff_eq.mpr c44
       clear c44
       have H' := Aside0.mk H
       clear H
       try go_wp2
       replace HO_0 := Aside0.mk (Kd.R_drew HO_0.out)
       replace HO_8 := Aside0.mk (Kd.R_drew HO_8.out)
       replace HO_10 := Aside0.mk (Kd.R_drew HO_10.out)
       replace HB := Aside0.mk (below_drew1 HB.out)
       have p245 : 0 ≤ (x13_3 : Int) := of_decide_eq_true as_
       have q245 : x13_3 < (t236.length : Int) := of_decide_eq_true as_
       obtain ⟨ad245, e245, hx245_0, hx245_1, hx245_2⟩ := at_T34 (Kd.R_reads' HO_8.out).2.2 x13_3 p245 q245
       cases e245
       replace p245 := eq_true p245
       replace q245 := eq_true q245
       have p246 : 0 ≤ (x13_3 : Int) := of_decide_eq_true as_
       have q246 : x13_3 < (t236.length : Int) := of_decide_eq_true as_
       obtain ⟨ad246, e246, hx246_0, hx246_1, hx246_2⟩ := at_T34 (Kd.R_reads' HO_8.out).2.2 x13_3 p246 q246
       obtain rfl : ad245 = ad246 := (by injection e246)
       replace p246 := eq_true p246
       replace q246 := eq_true q246
       have p247 : 0 ≤ (x13_3 : Int) := of_decide_eq_true as_
       have q247 : x13_3 < (t236.length : Int) := of_decide_eq_true as_
       obtain ⟨ad247, e247, hx247_0, hx247_1, hx247_2⟩ := at_T34 (Kd.R_reads' HO_8.out).2.2 x13_3 p247 q247
       obtain rfl : ad245 = ad247 := (by injection e247)
       replace p247 := eq_true p247
       replace q247 := eq_true q247
       have p248 : 0 ≤ (x13_3 : Int) := of_decide_eq_true as_
       have q248 : x13_3 < (t236.length : Int) := of_decide_eq_true as_
       obtain ⟨ad248, e248, hx248_0, hx248_1, hx248_2⟩ := at_T34 (Kd.R_reads' HO_8.out).2.2 x13_3 p248 q248
       obtain rfl : ad245 = ad248 := (by injection e248)
       replace p248 := eq_true p248
       replace q248 := eq_true q248
       have p249 : 0 ≤ (x13_3 : Int) := of_decide_eq_true as_
       have q249 : x13_3 < (t236.length : Int) := of_decide_eq_true as_
       obtain ⟨ad249, e249, hx249_0, hx249_1, hx249_2⟩ := at_T34 (Kd.R_reads' HO_8.out).2.2 x13_3 p249 q249
       obtain rfl : ad245 = ad249 := (by injection e249)
       replace p249 := eq_true p249
       replace q249 := eq_true q249
       have p250 : 0 ≤ (((rd_T34 t236 x13_3).f0) : Int) := of_decide_eq_true as_
       have q250 : ((rd_T34 t236 x13_3).f0) < (t231.length : Int) := of_decide_eq_true as_
       obtain ⟨ad250, e250, hx250_0, hx250_1, hx250_2⟩ := at_T39 (Kd.R_reads' HO_0.out).2.2 ((rd_T34 t236 x13_3).f0) p250 q250
       cases e250
       replace p250 := eq_true p250
       replace q250 := eq_true q250
       have p251 : 0 ≤ (x13_3 : Int) := of_decide_eq_true as_
       have q251 : x13_3 < (t236.length : Int) := of_decide_eq_true as_
       obtain ⟨ad251, e251, hx251_0, hx251_1, hx251_2⟩ := at_T34 (Kd.R_reads' HO_8.out).2.2 x13_3 p251 q251
       obtain rfl : ad245 = ad251 := (by injection e251)
       replace p251 := eq_true p251
       replace q251 := eq_true q251
       have p252 : 0 ≤ (((rd_T34 t236 x13_3).f0) : Int) := of_decide_eq_true as_
       have q252 : ((rd_T34 t236 x13_3).f0) < (t231.length : Int) := of_decide_eq_true as_
       obtain ⟨ad252, e252, hx252_0, hx252_1, hx252_2⟩ := at_T39 (Kd.R_reads' HO_0.out).2.2 ((rd_T34 t236 x13_3).f0) p252 q252
       obtain rfl : ad250 = ad252 := (by injection e252)
       replace p252 := eq_true p252
       replace q252 := eq_true q252
       have p253 : 0 ≤ (x13_3 : Int) := of_decide_eq_true as_
       have q253 : x13_3 < (t236.length : Int) := of_decide_eq_true as_
       obtain ⟨ad253, e253, hx253_0, hx253_1, hx253_2⟩ := at_T34 (Kd.R_reads' HO_8.out).2.2 x13_3 p253 q253
       obtain rfl : ad245 = ad253 := (by injection e253)
       replace p253 := eq_true p253
       replace q253 := eq_true q253
       have p254 : 0 ≤ (x13_3 : Int) := of_decide_eq_true as_
       have q254 : x13_3 < (t236.length : Int) := of_decide_eq_true as_
       obtain ⟨ad254, e254, hx254_0, hx254_1, hx254_2⟩ := at_T34 (Kd.R_reads' HO_8.out).2.2 x13_3 p254 q254
       obtain rfl : ad245 = ad254 := (by injection e254)
       replace p254 := eq_true p254
       replace q254 := eq_true q254
       have p255 : 0 ≤ (((rd_T34 t236 x13_3).f0) : Int) := of_decide_eq_true as_
       have q255 : ((rd_T34 t236 x13_3).f0) < (t231.length : Int) := of_decide_eq_true as_
       obtain ⟨ad255, e255, hx255_0, hx255_1, hx255_2⟩ := at_T39 (Kd.R_reads' HO_0.out).2.2 ((rd_T34 t236 x13_3).f0) p255 q255
       obtain rfl : ad250 = ad255 := (by injection e255)
       replace p255 := eq_true p255
       replace q255 := eq_true q255
       have p256 : 0 ≤ (x13_3 : Int) := of_decide_eq_true as_
       have q256 : x13_3 < (t236.length : Int) := of_decide_eq_true as_
       obtain ⟨ad256, e256, hx256_0, hx256_1, hx256_2⟩ := at_T34 (Kd.R_reads' HO_8.out).2.2 x13_3 p256 q256
       obtain rfl : ad245 = ad256 := (by injection e256)
       replace p256 := eq_true p256
       replace q256 := eq_true q256
       have p257 : 0 ≤ (((rd_T34 t236 x13_3).f0) : Int) := of_decide_eq_true as_
       have q257 : ((rd_T34 t236 x13_3).f0) < (t231.length : Int) := of_decide_eq_true as_
       obtain ⟨ad257, e257, hx257_0, hx257_1, hx257_2⟩ := at_T39 (Kd.R_reads' HO_0.out).2.2 ((rd_T34 t236 x13_3).f0) p257 q257
       obtain rfl : ad250 = ad257 := (by injection e257)
       replace p257 := eq_true p257
       replace q257 := eq_true q257
       refine start_ (n := 85) (S := fun w' => w'.cell? (ad245.add ((x13_3).toNat * 3)) = some (.int .i64 ((rd_T34 t236 x13_3).f0)) ∧ w'.cell? ⟨(ad245.add ((x13_3).toNat * 3)).block, (ad245.add ((x13_3).toNat * 3)).off + 1, none⟩ = some (.int .i64 ((rd_T34 t236 x13_3).f1)) ∧ w'.cell? ⟨(ad245.add ((x13_3).toNat * 3)).block, (ad245.add ((x13_3).toNat * 3)).off + 2, none⟩ = some (.bool ((rd_T34 t236 x13_3).f2)) ∧ w'.cell? (ad245.add ((x13_3).toNat * 3)) = some (.int .i64 ((rd_T34 t236 x13_3).f0)) ∧ w'.cell? ⟨(ad245.add ((x13_3).toNat * 3)).block, (ad245.add ((x13_3).toNat * 3)).off + 1, none⟩ = some (.int .i64 ((rd_T34 t236 x13_3).f1)) ∧ w'.cell? ⟨(ad245.add ((x13_3).toNat * 3)).block, (ad245.add ((x13_3).toNat * 3)).off + 2, none⟩ = some (.bool ((rd_T34 t236 x13_3).f2)) ∧ w'.cell? (ad245.add ((x13_3).toNat * 3)) = some (.int .i64 ((rd_T34 t236 x13_3).f0)) ∧ w'.cell? ⟨(ad245.add ((x13_3).toNat * 3)).block, (ad245.add ((x13_3).toNat * 3)).off + 1, none⟩ = some (.int .i64 ((rd_T34 t236 x13_3).f1)) ∧ w'.cell? ⟨(ad245.add ((x13_3).toNat * 3)).block, (ad245.add ((x13_3).toNat * 3)).off + 2, none⟩ = some (.bool ((rd_T34 t236 x13_3).f2)) ∧ w'.cell? (ad245.add ((x13_3).toNat * 3)) = some (.int .i64 ((rd_T34 t236 x13_3).f0)) ∧ w'.cell? ⟨(ad245.add ((x13_3).toNat * 3)).block, (ad245.add ((x13_3).toNat * 3)).off + 1, none⟩ = some (.int .i64 ((rd_T34 t236 x13_3).f1)) ∧ w'.cell? ⟨(ad245.add ((x13_3).toNat * 3)).block, (ad245.add ((x13_3).toNat * 3)).off + 2, none⟩ = some (.bool ((rd_T34 t236 x13_3).f2)) ∧ w'.cell? (ad245.add ((x13_3).toNat * 3)) = some (.int .i64 ((rd_T34 t236 x13_3).f0)) ∧ w'.cell? ⟨(ad245.add ((x13_3).toNat * 3)).block, (ad245.add ((x13_3).toNat * 3)).off + 1, none⟩ = some (.int .i64 ((rd_T34 t236 x13_3).f1)) ∧ w'.cell? ⟨(ad245.add ((x13_3).toNat * 3)).block, (ad245.add ((x13_3).toNat * 3)).off + 2, none⟩ = some (.bool ((rd_T34 t236 x13_3).f2)) ∧ w'.cell? (ad250.add ((((rd_T34 t236 x13_3).f0)).toNat * 3)) = some (.int .i64 ((rd_T39 t231 ((rd_T34 t236 x13_3).f0)).f0)) ∧ w'.cell? ⟨(ad250.add ((((rd_T34 t236 x13_3).f0)).toNat * 3)).block, (ad250.add ((((rd_T34 t236 x13_3).f0)).toNat * 3)).off + 1, none⟩ = some (.int .i64 ((rd_T39 t231 ((rd_T34 t236 x13_3).f0)).f1)) ∧ w'.cell? ⟨(ad250.add ((((rd_T34 t236 x13_3).f0)).toNat * 3)).block, (ad250.add ((((rd_T34 t236 x13_3).f0)).toNat * 3)).off + 2, none⟩ = some (.int .i64 ((rd_T39 t231 ((rd_T34 t236 x13_3).f0)).f2)) ∧ w'.cell? (ad245.add ((x13_3).toNat * 3)) = some (.int .i64 ((rd_T34 t236 x13_3).f0)) ∧ w'.cell? ⟨(ad245.add ((x13_3).toNat * 3)).block, (ad245.add ((x13_3).toNat * 3)).off + 1, none⟩ = some (.int .i64 ((rd_T34 t236 x13_3).f1)) ∧ w'.cell? ⟨(ad245.add ((x13_3).toNat * 3)).block, (ad245.add ((x13_3).toNat * 3)).off + 2, none⟩ = some (.bool ((rd_T34 t236 x13_3).f2)) ∧ w'.cell? (ad250.add ((((rd_T34 t236 x13_3).f0)).toNat * 3)) = some (.int .i64 ((rd_T39 t231 ((rd_T34 t236 x13_3).f0)).f0)) ∧ w'.cell? ⟨(ad250.add ((((rd_T34 t236 x13_3).f0)).toNat * 3)).block, (ad250.add ((((rd_T34 t236 x13_3).f0)).toNat * 3)).off + 1, none⟩ = some (.int .i64 ((rd_T39 t231 ((rd_T34 t236 x13_3).f0)).f1)) ∧ w'.cell? ⟨(ad250.add ((((rd_T34 t236 x13_3).f0)).toNat * 3)).block, (ad250.add ((((rd_T34 t236 x13_3).f0)).toNat * 3)).off + 2, none⟩ = some (.int .i64 ((rd_T39 t231 ((rd_T34 t236 x13_3).f0)).f2)) ∧ w'.cell? (ad245.add ((x13_3).toNat * 3)) = some (.int .i64 ((rd_T34 t236 x13_3).f0)) ∧ w'.cell? ⟨(ad245.add ((x13_3).toNat * 3)).block, (ad245.add ((x13_3).toNat * 3)).off + 1, none⟩ = some (.int .i64 ((rd_T34 t236 x13_3).f1)) ∧ w'.cell? ⟨(ad245.add ((x13_3).toNat * 3)).block, (ad245.add ((x13_3).toNat * 3)).off + 2, none⟩ = some (.bool ((rd_T34 t236 x13_3).f2)) ∧ w'.cell? (ad245.add ((x13_3).toNat * 3)) = some (.int .i64 ((rd_T34 t236 x13_3).f0)) ∧ w'.cell? ⟨(ad245.add ((x13_3).toNat * 3)).block, (ad245.add ((x13_3).toNat * 3)).off + 1, none⟩ = some (.int .i64 ((rd_T34 t236 x13_3).f1)) ∧ w'.cell? ⟨(ad245.add ((x13_3).toNat * 3)).block, (ad245.add ((x13_3).toNat * 3)).off + 2, none⟩ = some (.bool ((rd_T34 t236 x13_3).f2)) ∧ w'.cell? (ad250.add ((((rd_T34 t236 x13_3).f0)).toNat * 3)) = some (.int .i64 ((rd_T39 t231 ((rd_T34 t236 x13_3).f0)).f0)) ∧ w'.cell? ⟨(ad250.add ((((rd_T34 t236 x13_3).f0)).toNat * 3)).block, (ad250.add ((((rd_T34 t236 x13_3).f0)).toNat * 3)).off + 1, none⟩ = some (.int .i64 ((rd_T39 t231 ((rd_T34 t236 x13_3).f0)).f1)) ∧ w'.cell? ⟨(ad250.add ((((rd_T34 t236 x13_3).f0)).toNat * 3)).block, (ad250.add ((((rd_T34 t236 x13_3).f0)).toNat * 3)).off + 2, none⟩ = some (.int .i64 ((rd_T39 t231 ((rd_T34 t236 x13_3).f0)).f2)) ∧ w'.cell? (ad245.add ((x13_3).toNat * 3)) = some (.int .i64 ((rd_T34 t236 x13_3).f0)) ∧ w'.cell? ⟨(ad245.add ((x13_3).toNat * 3)).block, (ad245.add ((x13_3).toNat * 3)).off + 1, none⟩ = some (.int .i64 ((rd_T34 t236 x13_3).f1)) ∧ w'.cell? ⟨(ad245.add ((x13_3).toNat * 3)).block, (ad245.add ((x13_3).toNat * 3)).off + 2, none⟩ = some (.bool ((rd_T34 t236 x13_3).f2)) ∧ w'.cell? (ad250.add ((((rd_T34 t236 x13_3).f0)).toNat * 3)) = some (.int .i64 ((rd_T39 t231 ((rd_T34 t236 x13_3).f0)).f0)) ∧ w'.cell? ⟨(ad250.add ((((rd_T34 t236 x13_3).f0)).toNat * 3)).block, (ad250.add ((((rd_T34 t236 x13_3).f0)).toNat * 3)).off + 1, none⟩ = some (.int .i64 ((rd_T39 t231 ((rd_T34 t236 x13_3).f0)).f1)) ∧ w'.cell? ⟨(ad250.add ((((rd_T34 t236 x13_3).f0)).toNat * 3)).block, (ad250.add ((((rd_T34 t236 x13_3).f0)).toNat * 3)).off + 2, none⟩ = some (.int .i64 ((rd_T39 t231 ((rd_T34 t236 x13_3).f0)).f2))) (ds := []) (mk 85 0) (by kernel_rfl) rfl rfl ⟨hx245_0, hx245_1, hx245_2, hx246_0, hx246_1, hx246_2, hx247_0, hx247_1, hx247_2, hx248_0, hx248_1, hx248_2, hx249_0, hx249_1, hx249_2, hx250_0, hx250_1, hx250_2, hx251_0, hx251_1, hx251_2, hx252_0, hx252_1, hx252_2, hx253_0, hx253_1, hx253_2, hx254_0, hx254_1, hx254_2, hx255_0, hx255_1, hx255_2, hx256_0, hx256_1, hx256_2, hx257_0, hx257_1, hx257_2⟩ (fun hHeld => ?_); refine with_tabW haberdashlaw22_TenderGreatest.tab14 haberdashlaw22_TenderGreatest.bits14 (fun HT_ HW_ => ?_)
       generalize wr.drew = w45 at HO_0 HO_8 HO_10 HB hx245_0 hx245_1 hx245_2 hx246_0 hx246_1 hx246_2 hx247_0 hx247_1 hx247_2 hx248_0 hx248_1 hx248_2 hx249_0 hx249_1 hx249_2 hx250_0 hx250_1 hx250_2 hx251_0 hx251_1 hx251_2 hx252_0 hx252_1 hx252_2 hx253_0 hx253_1 hx253_2 hx254_0 hx254_1 hx254_2 hx255_0 hx255_1 hx255_2 hx256_0 hx256_1 hx256_2 hx257_0 hx257_1 hx257_2 hHeld ⊢
       refine ahead_ [(0, 69), (1, 70), (2, 71), (3, 72)] ?_
       iterate 4 (refine pA_ (v := ?_) (a' := ?_) rfl rfl HT_.out kr_ nh_ (Or.inl ⟨ry_, ?_⟩) ?_ ?_; rotate_left; (intro w'; go_simp; with_reducible rfl); rotate_left; (exact pu_))
       refine aheadE_ (mk 85 15) (by kernel_rfl) ?_
       refine take_ (i := 4) (N := some 73) (v := ?_) (a' := ?_) (mk 85 31) rfl rfl (tw_ HT_ HW_) nh_ (Or.inl ⟨by rfl, ?_⟩) hHeld ?_ ?_
       rotate_left
       ·
        rintro w' ⟨s0, s1, s2, s3, s4, s5, s6, s7, s8, s9, s10, s11, s12, s13, s14, s15, s16, s17, s18, s19, s20, s21, s22, s23, s24, s25, s26, s27, s28, s29, s30, s31, s32, s33, s34, s35, s36, s37, s38⟩
        go_simp
        with_reducible rfl
       rotate_left; (exact pu_)
       refine ahead_ [(5, 74), (6, 75), (7, 76), (8, 77), (9, 78), (10, 79), (12, 81), (13, 82)] ?_
       iterate 8 (refine pA_ (v := ?_) (a' := ?_) rfl rfl HT_.out kr_ nh_ (Or.inl ⟨ry_, ?_⟩) ?_ ?_; rotate_left; (intro w'; go_simp; with_reducible rfl); rotate_left; (exact pu_))
       refine aheadE_ (mk 85 14335) (by kernel_rfl) ?_
       refine take_ (i := 11) (N := some 80) (v := ?_) (a' := ?_) (mk 85 16383) rfl rfl (tw_ HT_ HW_) nh_ (Or.inl ⟨by rfl, ?_⟩) hHeld ?_ ?_
       rotate_left
       ·
        rintro w' ⟨s0, s1, s2, s3, s4, s5, s6, s7, s8, s9, s10, s11, s12, s13, s14, s15, s16, s17, s18, s19, s20, s21, s22, s23, s24, s25, s26, s27, s28, s29, s30, s31, s32, s33, s34, s35, s36, s37, s38⟩
        go_simp
        with_reducible rfl
       rotate_left; (exact pu_)
       refine ahead_ [(14, 83), (15, 84), (16, 85), (17, 86), (18, 87), (19, 88), (20, 89)] ?_
       iterate 7 (refine pA_ (v := ?_) (a' := ?_) rfl rfl HT_.out kr_ nh_ (Or.inl ⟨ry_, ?_⟩) ?_ ?_; rotate_left; (intro w'; go_simp; with_reducible rfl); rotate_left; (exact pu_))
       refine aheadE_ (mk 85 2097151) (by kernel_rfl) ?_
       refine take_ (i := 21) (N := some 90) (v := ?_) (a' := ?_) (mk 85 4194303) rfl rfl (tw_ HT_ HW_) nh_ (Or.inl ⟨by rfl, ?_⟩) hHeld ?_ ?_
       rotate_left
       ·
        rintro w' ⟨s0, s1, s2, s3, s4, s5, s6, s7, s8, s9, s10, s11, s12, s13, s14, s15, s16, s17, s18, s19, s20, s21, s22, s23, s24, s25, s26, s27, s28, s29, s30, s31, s32, s33, s34, s35, s36, s37, s38⟩
        go_simp
        with_reducible rfl
       rotate_left; (exact pu_)
       refine ahead_ [(22, 91), (23, 92), (24, 93), (25, 94), (26, 95), (27, 96), (28, 97), (30, 99), (31, 100), (32, 101), (33, 102), (34, 103), (39, 108), (40, 109), (41, 110), (42, 111), (43, 112)] ?_
       iterate 17 (refine pA_ (v := ?_) (a' := ?_) rfl rfl HT_.out kr_ nh_ (Or.inl ⟨ry_, ?_⟩) ?_ ?_; rotate_left; (intro w'; go_simp; with_reducible rfl); rotate_left; (exact pu_))
       refine aheadE_ (mk 85 17076253097983) (by kernel_rfl) ?_
       refine ahead_ [(29, 98), (35, 104)] ?_
       iterate 2 (refine tA_ (v := ?_) (a' := ?_) rfl rfl HT_.out HW_.out (by kernel_rfl) (fun _ _ _ h => h) (Or.inl ⟨by rfl, ?_⟩) hHeld ?_ ?_; rotate_left; (rintro w' ⟨s0, s1, s2, s3, s4, s5, s6, s7, s8, s9, s10, s11, s12, s13, s14, s15, s16, s17, s18, s19, s20, s21, s22, s23, s24, s25, s26, s27, s28, s29, s30, s31, s32, s33, s34, s35, s36, s37, s38⟩; go_simp; with_reducible rfl); rotate_left; (exact pu_))
       refine aheadE_ (mk 85 17111149707263) (by kernel_rfl) ?_
       refine ahead_ [(36, 105), (37, 106)] ?_
       iterate 2 (refine pA_ (v := ?_) (a' := ?_) rfl rfl HT_.out kr_ nh_ (Or.inl ⟨ry_, ?_⟩) ?_ ?_; rotate_left; (intro w'; go_simp; with_reducible rfl); rotate_left; (exact pu_))
       refine aheadE_ (mk 85 17317308137471) (by kernel_rfl) ?_
       refine ahead_ [(38, 107), (44, 113)] ?_
       iterate 2 (refine tA_ (v := ?_) (a' := ?_) rfl rfl HT_.out HW_.out (by kernel_rfl) (fun _ _ _ h => h) (Or.inl ⟨by rfl, ?_⟩) hHeld ?_ ?_; rotate_left; (rintro w' ⟨s0, s1, s2, s3, s4, s5, s6, s7, s8, s9, s10, s11, s12, s13, s14, s15, s16, s17, s18, s19, s20, s21, s22, s23, s24, s25, s26, s27, s28, s29, s30, s31, s32, s33, s34, s35, s36, s37, s38⟩; go_simp; with_reducible rfl); rotate_left; (exact pu_))
       refine aheadE_ (mk 85 35184372088831) (by kernel_rfl) ?_
       refine ahead_ [(45, 114), (46, 115)] ?_
       iterate 2 (refine pA_ (v := ?_) (a' := ?_) rfl rfl HT_.out kr_ nh_ (Or.inl ⟨ry_, ?_⟩) ?_ ?_; rotate_left; (intro w'; go_simp; with_reducible rfl); rotate_left; (exact pu_))
       refine aheadE_ (mk 85 140737488355327) (by kernel_rfl) ?_
       refine take_ (i := 47) (N := some 116) (v := ?_) (a' := ?_) (mk 85 281474976710655) rfl rfl (tw_ HT_ HW_) nh_ (Or.inl ⟨by rfl, ?_⟩) hHeld ?_ ?_
       rotate_left
       ·
        rintro w' ⟨s0, s1, s2, s3, s4, s5, s6, s7, s8, s9, s10, s11, s12, s13, s14, s15, s16, s17, s18, s19, s20, s21, s22, s23, s24, s25, s26, s27, s28, s29, s30, s31, s32, s33, s34, s35, s36, s37, s38⟩
        go_simp
        with_reducible rfl
       rotate_left; (exact pu_)
       refine ahead_ [(48, 117), (49, 118), (50, 119), (51, 120), (52, 121), (53, 122), (54, 123), (55, 124), (56, 125), (57, 126), (58, 127), (59, 128), (60, 129), (61, 130), (63, 132), (64, 133), (65, 134), (66, 135), (67, 136), (72, 141), (73, 142), (74, 143), (75, 144), (76, 145)] ?_
       iterate 24 (refine pA_ (v := ?_) (a' := ?_) rfl rfl HT_.out kr_ nh_ (Or.inl ⟨ry_, ?_⟩) ?_ ?_; rotate_left; (intro w'; go_simp; with_reducible rfl); rotate_left; (exact pu_))
       refine aheadE_ (mk 85 146683897188119927062527) (by kernel_rfl) ?_
       refine ahead_ [(62, 131), (68, 137)] ?_
       iterate 2 (refine tA_ (v := ?_) (a' := ?_) rfl rfl HT_.out HW_.out (by kernel_rfl) (fun _ _ _ h => h) (Or.inl ⟨by rfl, ?_⟩) hHeld ?_ ?_; rotate_left; (rintro w' ⟨s0, s1, s2, s3, s4, s5, s6, s7, s8, s9, s10, s11, s12, s13, s14, s15, s16, s17, s18, s19, s20, s21, s22, s23, s24, s25, s26, s27, s28, s29, s30, s31, s32, s33, s34, s35, s36, s37, s38⟩; go_simp; with_reducible rfl); rotate_left; (exact pu_))
       refine aheadE_ (mk 85 146983656779317707276287) (by kernel_rfl) ?_
       refine ahead_ [(69, 138), (70, 139)] ?_
       iterate 2 (refine pA_ (v := ?_) (a' := ?_) rfl rfl HT_.out kr_ nh_ (Or.inl ⟨ry_, ?_⟩) ?_ ?_; rotate_left; (intro w'; go_simp; with_reducible rfl); rotate_left; (exact pu_))
       refine aheadE_ (mk 85 148754544210393824231423) (by kernel_rfl) ?_
       refine ahead_ [(71, 140), (77, 146)] ?_
       iterate 2 (refine tA_ (v := ?_) (a' := ?_) rfl rfl HT_.out HW_.out (by kernel_rfl) (fun _ _ _ h => h) (Or.inl ⟨by rfl, ?_⟩) hHeld ?_ ?_; rotate_left; (rintro w' ⟨s0, s1, s2, s3, s4, s5, s6, s7, s8, s9, s10, s11, s12, s13, s14, s15, s16, s17, s18, s19, s20, s21, s22, s23, s24, s25, s26, s27, s28, s29, s30, s31, s32, s33, s34, s35, s36, s37, s38⟩; go_simp; with_reducible rfl); rotate_left; (exact pu_))
       refine aheadE_ (mk 85 302231454903657293676543) (by kernel_rfl) ?_
       refine ahead_ [(78, 147), (79, 148)] ?_
       iterate 2 (refine pA_ (v := ?_) (a' := ?_) rfl rfl HT_.out kr_ nh_ (Or.inl ⟨ry_, ?_⟩) ?_ ?_; rotate_left; (intro w'; go_simp; with_reducible rfl); rotate_left; (exact pu_))
       refine aheadE_ (mk 85 1208925819614629174706175) (by kernel_rfl) ?_
       refine take_ (i := 80) (N := some 149) (v := ?_) (a' := ?_) (mk 85 2417851639229258349412351) rfl rfl (tw_ HT_ HW_) nh_ (Or.inl ⟨by rfl, ?_⟩) hHeld ?_ ?_
       rotate_left
       ·
        rintro w' ⟨s0, s1, s2, s3, s4, s5, s6, s7, s8, s9, s10, s11, s12, s13, s14, s15, s16, s17, s18, s19, s20, s21, s22, s23, s24, s25, s26, s27, s28, s29, s30, s31, s32, s33, s34, s35, s36, s37, s38⟩
        go_simp
        with_reducible rfl
       rotate_left; (exact pu_)
       refine ahead_ [(81, 150), (82, 151), (83, 152), (84, 153)] ?_
       iterate 4 (refine pA_ (v := ?_) (a' := ?_) rfl rfl HT_.out kr_ nh_ (Or.inl ⟨ry_, ?_⟩) ?_ ?_; rotate_left; (intro w'; go_simp; with_reducible rfl); rotate_left; (exact pu_))
       refine aheadE_ (mk 85 38685626227668133590597631) (by kernel_rfl) ?_
       refine done_ (done_of HT_.out (by kernel_rfl)) ?_
       have p258 : 0 ≤ (x13_3 : Int) := of_decide_eq_true as_
       have q258 : x13_3 < (t236.length : Int) := of_decide_eq_true as_
       obtain ⟨ad258, e258, hx258_0, hx258_1, hx258_2⟩ := at_T34 (Kd.R_reads' HO_8.out).2.2 x13_3 p258 q258
       obtain rfl : ad245 = ad258 := (by injection e258)
       replace p258 := eq_true p258
       replace q258 := eq_true q258
       try go_wp2
       go_roundg k3
       case measure => have := HJ3.out; have := HJ13.out; have := HK3.out; omega
       case rel => exact ⟨(wrap64 (x12_3 + ((rd_T34 t236 x13_3).f1))), (wrap64 (x13_3 + 1)), rf_, rf_, H', ⟨by have := HJ3.out; have := HJ13.out; have := HK3.out; omega⟩, ⟨ro_ HO_0⟩, ⟨ro_ HO_8⟩, ⟨ro_ HO_10⟩, ⟨hb0_ HB⟩⟩

end Go.Proofs.Ytebochcdbknodaa.Rw
