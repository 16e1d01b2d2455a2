/- Functions of the program as Lean functions, each with its contract: out of what the kit's printer wrote for this seat. -/
import Derived.Test.YtebochcdbknodaaVRwA
import Derived.Test.YtebochcdbknodaaVRwAb
import Derived.Test.YtebochcdbknodaaVRwMon
import Derived.Test.YtebochcdbknodaaVRwOne
namespace Go.Proofs.Ytebochcdbknodaa.Rw
open Go.RowKit Go.Proofs.YtebochcdbknodaaW.PrintWords Go.Proofs.YtebochcdbknodaaW.PrintLast Go.Proofs.YtebochcdbknodaaW.PrintMore
attribute [local go_sem] max2_int min2_int max_two min_two max_three min_three max_four min_four   -- for this text's walks alone
set_option linter.unusedVariables false
set_option linter.unusedSimpArgs false
attribute [local go_sem high] leqS gtrS
attribute [local go_sem high] eqA34
attribute [local go_sem high] eqA39

/-! ### tender_Left: function 17 -/
def tender_Left.l0 : Nat → Int → List (S39) → Int → Int → Option (Int)
 | 0, _, _, _, _ => none
 | k + 1, x3, x9, x10, x11 => if x11 < x10 then (if 0 ≤ x11 then (if x11 < (x9.length : Int) then (tender_Left.l0 k (wrap64 (x3 + (wrap64 (((rd_T39 x9 x11).f1) - ((rd_T39 x9 x11).f2))))) x9 x10 (wrap64 (x11 + 1))) else (none)) else (none)) else (some x3)
def tender_Left.f (k : Nat) (l0 : List (S39)) : Option (Int) := (tender_Right.f k l0).bind fun t110 => (if t110 = true then (tender_Left.l0 k 0 l0 (l0.length : Int) 0) else (some 0))
set_option maxHeartbeats 8000000 in
set_option maxRecDepth 100000 in
theorem tender_Left.calls (k : Nat) (A0 : Option Addr) (c0 : Nat) (l0 : List (S39)) (r : Int) (w : World) (hr0 : Kd.C k39 w A0 l0.length l0) (hc0 : l0.length ≤ c0) (h : tender_Left.f k l0 = some r) :
 Calls Try.prog 17 #[.slice A0 l0.length c0] w fun e w' => e = .returned (.int .i64 r) ∧ Below w.heap.size w w' := by
 have hu39 := Try.underlying39
 have HR0 := Aside0.mk hr0
 have HC0 := Aside0.mk hc0
 clear hr0 hc0
 have HB := Aside0.mk (Below.refl w.heap.size w)
 have H : ((tender_Right.f k l0).bind fun t110 => (if t110 = true then (tender_Left.l0 k 0 l0 (l0.length : Int) 0) else (some 0))) = some r := h
 clear h
 replace H := Option.bind_eq_some_iff.mp H
 obtain ⟨t110, A20, H⟩ := H
 (try dsimp only at H)
 have A2 := Aside0.mk A20
 clear A20
 by_cases c3 : t110 = true
 rotate_left
 ·
  replace c3 := Bool.eq_false_iff.mpr c3
  subst c3
  rw [if_neg nf_] at H
  obtain rfl := Option.some.inj H
  go_enter Try.func17, Try.ntmps17
  go_wp2_with (first | ((with_reducible refine gate_callee (f := 18) rfl ?_); refine goesL_ (some 7) rfl rfl Try.func18 (by kernel_rfl) rfl #[.slice A0 l0.length c0] rfl am_ ?_; (with_reducible refine (tender_Right.calls k _ _ l0 false _ ?side1 ?side2 A2.out).mono ?_); (case side1 => repeat (first | exact HR0.out | (with_reducible refine Kd.C_alloc ?_ _) | (with_reducible refine Kd.C_drewN ?_ _) | (with_reducible refine Kd.C_drew ?_))); (case side2 => exact HC0.out); rintro e w10 ⟨rfl, hb⟩; refine ⟨_, rfl, ?_⟩; replace HB := Aside0.mk (below_step (hb0_ HB) hb); (try clear hb)))
  go_ret
  exact ⟨er_, hb0_ HB⟩
 subst c3
 rw [if_pos rfl] at H
 have H' := Aside0.mk H
 clear H
 go_enter Try.func17, Try.ntmps17
 go_wp2_with (first | ((with_reducible refine gate_callee (f := 18) rfl ?_); refine goesL_ (some 7) rfl rfl Try.func18 (by kernel_rfl) rfl #[.slice A0 l0.length c0] rfl am_ ?_; (with_reducible refine (tender_Right.calls k _ _ l0 true _ ?side1 ?side2 A2.out).mono ?_); (case side1 => repeat (first | exact HR0.out | (with_reducible refine Kd.C_alloc ?_ _) | (with_reducible refine Kd.C_drewN ?_ _) | (with_reducible refine Kd.C_drew ?_))); (case side2 => exact HC0.out); rintro e w4 ⟨rfl, hb⟩; refine ⟨_, rfl, ?_⟩; replace HB := Aside0.mk (below_step (hb0_ HB) hb); (try clear hb)))
 go_loopg [3, 11] k (fun kq v3 v11 w' => ∃ (x3_1 : Int) (x11_1 : Int), v3 = .int .i64 x3_1 ∧ v11 = .int .i64 x11_1 ∧ Aside0 (tender_Left.l0 kq x3_1 l0 (l0.length : Int) x11_1 = some r) ∧ Aside0 (kq ≤ k) ∧ Aside0 (Below w.heap.size w w'))
 case atStart => exact ⟨(0), (0), rf_, rf_, H', ⟨Nat.le_refl _⟩, ⟨hb0_ HB⟩⟩
 case round =>
  clear H'
  try clear c1
  try clear p2
  try clear c3
  obtain ⟨x3_1, x11_1, rfl, rfl, HA, HK1, HB⟩ := hrel
  cases gk with
  | zero => exact absurd HA.out (by simp [tender_Left.l0])
  | succ k1 =>
   have H := HA.out
   clear HA
   simp only [tender_Left.l0] at H
   by_cases c5 : x11_1 < (l0.length : Int)
   rotate_left
   ·
    rw [if_neg c5] at H
    have c5b0 := decide_eq_false c5
    clear c5
    obtain rfl := Option.some.inj H
    go_wp2
    go_ret
    exact ⟨er_, hb0_ HB⟩
   rw [if_pos c5] at H
   have c5b0 := decide_eq_true c5
   clear c5
   by_cases c6 : 0 ≤ x11_1
   rotate_left
   ·
    rw [if_neg c6] at H
    exact absurd H (by simp)
   rw [if_pos c6] at H
   have c6b0 := decide_eq_true c6
   clear c6
   by_cases c7 : x11_1 < (l0.length : Int)
   rotate_left
   ·
    rw [if_neg c7] at H
    exact absurd H (by simp)
   rw [if_pos c7] at H
   have c7b0 := decide_eq_true c7
   clear c7
   have H' := Aside0.mk H
   clear H
   have p111 : 0 ≤ (x11_1 : Int) := of_decide_eq_true as_
   have q111 : x11_1 < (l0.length : Int) := of_decide_eq_true as_
   obtain ⟨ad111, e111, hx111_0, hx111_1, hx111_2⟩ := at_T39 HR0.out x11_1 p111 q111
   cases e111
   replace hx111_0 := hd_ HB hx111_0
   replace hx111_1 := hd_ HB hx111_1
   replace hx111_2 := hd_ HB hx111_2
   replace p111 := eq_true p111
   replace q111 := eq_true q111
   go_wp2_with (first | ((with_reducible refine gate_dst (N := 5) rfl ?_); refine box_event ?hg (N := 5) ?hd (cs := #[.int .i64 0, .int .i64 0, .int .i64 0]) (t := 39) ?hr ?_; (case hd => rfl); (case hg => rfl); (case hr => first | (go_simp; done) | (go_simp; rfl)); intro gb112 hg w8 hbox hb; have BK112 := Aside0.mk (hbox); have GW112 := Aside0.mk ((ge_ HB hg (hb0_ HB))); have GE112 := Aside0.mk ((ge_ HB hg (hb0_ HB))); replace HB := Aside0.mk (below_step (hb0_ HB) hb); clear hb hbox hg; obtain ⟨hcz9_0, hcz9_1, hcz9_2⟩ := cz3_ BK112; obtain ⟨hfz9_0, hfz9_1, hfz9_2⟩ := fz3_ BK112))
   go_roundg k1
   case measure => have := HK1.out; omega
   case rel => exact ⟨(wrap64 (x3_1 + (wrap64 (((rd_T39 l0 x11_1).f1) - ((rd_T39 l0 x11_1).f2))))), (wrap64 (x11_1 + 1)), rf_, rf_, H', ⟨by have := HK1.out; omega⟩, ⟨hb1_ HB GE112⟩⟩

/-! ### tender_Give: function 15 -/
mutual
def tender_Give.l0 : Nat → List (S39) → List (S34) → Int → Int → Option ((List (S39)) × Int)
 | 0, _, _, _, _ => none
 | k + 1, x6, x14, x15, x16 => if x16 < x15 then (if 0 ≤ x16 then (if x16 < (x14.length : Int) then (if ((rd_T34 x14 x16).f0) < 0 then (tender_Give.j1 k x6 x14 x15 x16 true ((rd_T34 x14 x16).f0) ((rd_T34 x14 x16).f1) ((rd_T34 x14 x16).f2)) else (tender_Give.j1 k x6 x14 x15 x16 (decide (((rd_T34 x14 x16).f0) ≥ (x6.length : Int))) ((rd_T34 x14 x16).f0) ((rd_T34 x14 x16).f1) ((rd_T34 x14 x16).f2))) else (none)) else (none)) else (some (x6, 0))
def tender_Give.j1 : Nat → List (S39) → List (S34) → Int → Int → Bool → Int → Int → Bool → Option ((List (S39)) × Int)
 | 0, _, _, _, _, _, _, _, _ => none
 | k + 1, x6, x14, x15, x16, x20, x216000, x216001, x216002 => if x20 = true then (some (([] : List (S39)), 7)) else (if x216001 < 1 then (some (([] : List (S39)), 2)) else (if 0 ≤ x216000 then (if x216000 < (x6.length : Int) then (if x216001 > (wrap64 (((rd_T39 x6 x216000).f1) - ((rd_T39 x6 x216000).f2))) then (some (([] : List (S39)), 12)) else (tender_Give.l0 k (x6.set (x216000 : Int).toNat (⟨(rd_T39 x6 x216000).f0, (rd_T39 x6 x216000).f1, wrap64 (((rd_T39 x6 x216000).f2) + x216001)⟩ : S39)) x14 x15 (wrap64 (x16 + 1)))) else (none)) else (none)))
end
def tender_Give.f (k : Nat) (l0 : List (S39)) (l1 : List (S34)) : Option ((List (S39)) × Int) := (tender_Right.f k l0).bind fun t210 => (if t210 = true then ((api_Tender_37.f l0).bind fun t211 => (tender_Give.l0 k t211 l1 (l1.length : Int) 0)) else (some (([] : List (S39)), 2)))
def tender_Give.T11 : Bool × List (List Nat × List Nat) := (true, [([], []), ([0], [0]), ([], []), ([], []), ([3], [3]), ([2, 4], [2, 4]), ([5], [5]), ([6], [6]), ([], []), ([], []), ([9], [9]), ([8, 10], [8, 10]), ([11], [11]), ([12], [12]), ([7, 13], [7, 13]), ([1, 14], [1, 14]), ([15], [15])])
def tender_Give.B11 : List Nat := [0, 1, 0, 0, 8, 28, 60, 124, 0, 0, 512, 1792, 3840, 7936, 16380, 32767, 65535]
theorem tender_Give.tab11 : rtab .any (opsOf Try.f15 11) = tender_Give.T11 := by kernel_rfl
theorem tender_Give.bits11 : waitsOk tender_Give.T11.2 tender_Give.B11 = true := by kernel_rfl
def tender_Give.T13 : Bool × List (List Nat × List Nat) := (true, [([], []), ([], []), ([1], [1]), ([0, 2], [0, 2]), ([3], [3]), ([4], [4]), ([], []), ([6], [6]), ([5, 7], [5, 7]), ([0, 2, 0, 1, 2, 3, 4, 5, 6, 7, 8], [0, 2]), ([9, 0, 1, 2, 3, 4, 5, 6, 7, 8], [9]), ([10, 8, 0, 1, 2, 3, 4, 5, 6, 7, 8], [8, 10])])
def tender_Give.B13 : List Nat := [0, 0, 2, 7, 15, 31, 0, 64, 255, 511, 1023, 2047]
theorem tender_Give.tab13 : rtab .any (opsOf Try.f15 13) = tender_Give.T13 := by kernel_rfl
theorem tender_Give.bits13 : waitsOk tender_Give.T13.2 tender_Give.B13 = true := by kernel_rfl
set_option maxHeartbeats 8000000 in
set_option maxRecDepth 100000 in
theorem tender_Give.calls (k : Nat) (A0 : Option Addr) (c0 : Nat) (l0 : List (S39)) (A1 : Option Addr) (c1 : Nat) (l1 : List (S34)) (r1 : List (S39)) (r2 : Int) (w : World) (hr0 : Kd.C k39 w A0 l0.length l0) (hc0 : l0.length ≤ c0) (hr1 : Kd.C k34 w A1 l1.length l1) (hc1 : l1.length ≤ c1) (h : tender_Give.f k l0 l1 = some (r1, r2)) :
 Calls Try.prog 15 #[.slice A0 l0.length c0, .slice A1 l1.length c1] w fun e w' => ∃ v0_ : Value, e = .returned (.tuple #[v0_, .int .i64 r2]) ∧ Kd.R k39 39 w' w.heap.size (fun _ => True) v0_ r1 ∧ Below w.heap.size w w' := by
 have hu34 := Try.underlying34
 have HR0 := Aside0.mk hr0
 have HC0 := Aside0.mk hc0
 clear hr0 hc0
 have HR1 := Aside0.mk hr1
 have HC1 := Aside0.mk hc1
 clear hr1 hc1
 have HB := Aside0.mk (Below.refl w.heap.size w)
 have H : ((tender_Right.f k l0).bind fun t210 => (if t210 = true then ((api_Tender_37.f l0).bind fun t211 => (tender_Give.l0 k t211 l1 (l1.length : Int) 0)) else (some (([] : List (S39)), 2)))) = some (r1, r2) := h
 clear h
 replace H := Option.bind_eq_some_iff.mp H
 obtain ⟨t210, A30, H⟩ := H
 replace H : (if t210 = true then ((api_Tender_37.f l0).bind fun t211 => (tender_Give.l0 k t211 l1 (l1.length : Int) 0)) else (some (([] : List (S39)), 2))) = some (r1, r2) := H
 have A3 := Aside0.mk A30
 clear A30
 by_cases c4 : t210 = true
 rotate_left
 ·
  replace c4 := Bool.eq_false_iff.mpr c4
  subst c4
  rw [if_neg nf_] at H
  simp only [Option.some.injEq, Prod.mk.injEq] at H
  obtain ⟨rfl, rfl⟩ := H
  go_enter Try.func15, Try.ntmps15
  go_wp2_with (first | ((with_reducible refine gate_callee (f := 18) rfl ?_); refine goesL_ (some 10) rfl rfl Try.func18 (by kernel_rfl) rfl #[.slice A0 l0.length c0] rfl am_ ?_; (with_reducible refine (tender_Right.calls k _ _ l0 false _ ?side1 ?side2 A3.out).mono ?_); (case side1 => repeat (first | exact HR0.out | (with_reducible refine Kd.C_alloc ?_ _) | (with_reducible refine Kd.C_drewN ?_ _) | (with_reducible refine Kd.C_drew ?_))); (case side2 => exact HC0.out); rintro e w33 ⟨rfl, hb⟩; refine ⟨_, rfl, ?_⟩; replace HB := Aside0.mk (below_step (hb0_ HB) hb); (try clear hb)))
  go_ret2
  exact ⟨_, er_, by first | exact Kd.R_nil _ _ _ _ _ | exact Kd.N_nil _ _ _ _ _ | exact Kd.V_nil _ _ _ _ _ | exact Kd.Q_nil _ _ _ _ _ | exact Kd.S_nil _ _ _ _ _, hb0_ HB⟩
 subst c4
 rw [if_pos rfl] at H
 replace H := Option.bind_eq_some_iff.mp H
 obtain ⟨t211, A50, H⟩ := H
 replace H : (tender_Give.l0 k t211 l1 (l1.length : Int) 0) = some (r1, r2) := H
 have A5 := Aside0.mk A50
 clear A50
 have H' := Aside0.mk H
 clear H
 go_enter Try.func15, Try.ntmps15
 go_wp2_with (first | ((with_reducible refine gate_callee (f := 18) rfl ?_); refine goesL_ (some 10) rfl rfl Try.func18 (by kernel_rfl) rfl #[.slice A0 l0.length c0] rfl am_ ?_; (with_reducible refine (tender_Right.calls k _ _ l0 true _ ?side1 ?side2 A3.out).mono ?_); (case side1 => repeat (first | exact HR0.out | (with_reducible refine Kd.C_alloc ?_ _) | (with_reducible refine Kd.C_drewN ?_ _) | (with_reducible refine Kd.C_drew ?_))); (case side2 => exact HC0.out); rintro e w6 ⟨rfl, hb⟩; refine ⟨_, rfl, ?_⟩; replace HB := Aside0.mk (below_step (hb0_ HB) hb); (try clear hb)) | ((with_reducible refine gate_callee (f := 37) rfl ?_); refine goesL_ (some 13) rfl rfl Try.func37 (by kernel_rfl) rfl #[.slice A0 l0.length c0] rfl am_ ?_; (with_reducible refine (api_Tender_37.calls _ _ l0 t211 _ ?side1 ?side2 A5.out).mono ?_); (case side1 => repeat (first | exact (Kd.C_below HR0.out HB.out) | (with_reducible refine Kd.C_alloc ?_ _) | (with_reducible refine Kd.C_drewN ?_ _) | (with_reducible refine Kd.C_drew ?_))); (case side2 => exact HC0.out); rintro e w7 ⟨v212, rfl, ho0, hb⟩; refine ⟨_, rfl, ?_⟩; have HO213 := Aside0.mk (Kd.R_lower ho0 (below_size (hb0_ HB))); replace HB := Aside0.mk (below_step (hb0_ HB) hb); (try clear hb); (try clear ho0)))
 (try simp only [addr0])
 go_loopg [16] k (fun kq v16 w' => ∃ (x6_1 : List (S39)) (x16_1 : Int), v16 = .int .i64 x16_1 ∧ Aside0 (tender_Give.l0 kq x6_1 l1 (l1.length : Int) x16_1 = some (r1, r2)) ∧ Aside0 (kq ≤ k) ∧ Aside0 (Kd.R k39 39 w' w.heap.size (fun _ => True) v212 x6_1) ∧ Aside0 (Below w.heap.size w w'))
 case atStart => exact ⟨(t211), (0), rf_, H', ⟨Nat.le_refl _⟩, ⟨ro_ HO213⟩, ⟨hb0_ HB⟩⟩
 case round =>
  clear H'
  try clear c1
  try clear p2
  try clear c3
  try clear c4
  obtain ⟨x6_1, x16_1, rfl, HA, HK1, HO_6, HB⟩ := hrel
  cases gk with
  | zero => exact absurd HA.out (by simp [tender_Give.l0])
  | succ k1 =>
   have H := HA.out
   clear HA
   simp only [tender_Give.l0] at H
   by_cases c8 : x16_1 < (l1.length : Int)
   rotate_left
   ·
    rw [if_neg c8] at H
    have c8b0 := decide_eq_false c8
    clear c8
    simp only [Option.some.injEq, Prod.mk.injEq] at H
    obtain ⟨rfl, rfl⟩ := H
    go_wp2
    go_ret2
    exact ⟨_, er_, ro_ HO_6, hb0_ HB⟩
   rw [if_pos c8] at H
   have c8b0 := decide_eq_true c8
   clear c8
   by_cases c9 : 0 ≤ x16_1
   rotate_left
   ·
    rw [if_neg c9] at H
    exact absurd H (by simp)
   rw [if_pos c9] at H
   have c9b0 := decide_eq_true c9
   clear c9
   by_cases c10 : x16_1 < (l1.length : Int)
   rotate_left
   ·
    rw [if_neg c10] at H
    exact absurd H (by simp)
   rw [if_pos c10] at H
   have c10b0 := decide_eq_true c10
   clear c10
   have HC11 := Aside0.mk H
   clear H
   have p214 : 0 ≤ (x16_1 : Int) := of_decide_eq_true as_
   have q214 : x16_1 < (l1.length : Int) := of_decide_eq_true as_
   obtain ⟨ad214, e214, hx214_0, hx214_1, hx214_2⟩ := at_T34 HR1.out x16_1 p214 q214
   cases e214
   replace hx214_0 := hd_ HB hx214_0
   replace hx214_1 := hd_ HB hx214_1
   replace hx214_2 := hd_ HB hx214_2
   replace p214 := eq_true p214
   replace q214 := eq_true q214
   go_upto_region 7 with (first | ((with_reducible refine gate_dst (N := 8) rfl ?_); (try (refine gate_guard (by rfl) ?_; dsimp only)); refine box_event ?hg (N := 8) ?hd (cs := #[.int .i64 0, .int .i64 0, .bool false]) (t := 34) ?hr ?_; (case hd => rfl); (case hg => rfl); (case hr => first | (go_simp; done) | (go_simp; rfl)); intro gb215 hg w12 hbox hb; replace HO_6 := Aside0.mk (Kd.R_below (ro_ HO_6) hb); have BK215 := Aside0.mk (hbox); have GW215 := Aside0.mk ((ge_ HB hg (hb0_ HB))); have GE215 := Aside0.mk ((ge_ HB hg (hb0_ HB))); replace HB := Aside0.mk (below_step (hb0_ HB) hb); clear hb hbox hg; obtain ⟨hcz13_0, hcz13_1, hcz13_2⟩ := cz3_ BK215; obtain ⟨hfz13_0, hfz13_1, hfz13_2⟩ := fz3_ BK215))
   (try simp only [Act.put, List.setIfInBounds_toArray, List.set_cons_zero, List.set_cons_succ])
   go_cut [20] (fun v20 wc => ∃ (kq : Nat) (x20_10 : Bool), v20 = .bool x20_10 ∧ Aside0 (tender_Give.j1 kq x6_1 l1 (l1.length : Int) x16_1 x20_10 ((rd_T34 l1 x16_1).f0) ((rd_T34 l1 x16_1).f1) ((rd_T34 l1 x16_1).f2) = some (r1, r2)) ∧ Aside0 (kq ≤ k1) ∧ Aside0 (Kd.R k39 39 wc w.heap.size (fun _ => True) v212 x6_1) ∧ Aside0 (wc.heap[gb215]? = some (.cells #[.int .i64 ((rd_T34 l1 x16_1).f0), .int .i64 ((rd_T34 l1 x16_1).f1), .bool ((rd_T34 l1 x16_1).f2)] 34 (0, 0))) ∧ Aside0 (Below w.heap.size w wc))
   case first =>
    have H := HC11.out
    clear HC11
    by_cases c14 : ((rd_T34 l1 x16_1).f0) < 0
    ·
     rw [if_pos c14] at H
     have c14b0 := decide_eq_true c14
     clear c14
     (first | rw [c14b0] | (simp only [i64_w, i32_w]; rw [c14b0]) | skip)
     have H' := Aside0.mk H
     clear H
     obtain ⟨hcz15_0, hcz15_1, hcz15_2⟩ := cz3_ BK215
     obtain ⟨hfz15_0, hfz15_1, hfz15_2⟩ := fz3_ BK215
     go_wp2
     go_meet
     case rel => exact ⟨_, (true), rf_, H', ⟨by have := HK1.out; first | omega | exact Nat.le_refl _⟩, ⟨by (with_reducible repeat (first | apply Kd.R_alloc | apply Kd.R_drewN | apply Kd.R_drew)); exact Kd.R_mono (Kd.R_far (p := ⟨gb215, 2, none⟩) (Kd.R_far (p := ⟨gb215, 1, none⟩) (Kd.R_far (p := ⟨gb215, 0, none⟩) (Kd.R_types HO_6.out BK215.out (by decide)) (fun _ hk => hk.2) (.int .i64 ((rd_T34 l1 x16_1).f0))) (fun _ hk => hk.2) (.int .i64 ((rd_T34 l1 x16_1).f1))) (fun _ hk => hk.2) (.bool ((rd_T34 l1 x16_1).f2))) (fun _ hk => trivial)⟩, ⟨by (with_reducible repeat (first | refine blk_drewN ?_ _ | refine blk_drew ?_ | refine blk_alloc ?_ _)); refine blk_put (cs := #[.int .i64 ((rd_T34 l1 x16_1).f0), .int .i64 ((rd_T34 l1 x16_1).f1), .bool false]) ?_ 2 _ rfl; (with_reducible repeat (first | refine blk_drewN ?_ _ | refine blk_drew ?_ | refine blk_alloc ?_ _)); refine blk_put (cs := #[.int .i64 ((rd_T34 l1 x16_1).f0), .int .i64 0, .bool false]) ?_ 1 _ rfl; (with_reducible repeat (first | refine blk_drewN ?_ _ | refine blk_drew ?_ | refine blk_alloc ?_ _)); refine blk_put (cs := #[.int .i64 0, .int .i64 0, .bool false]) ?_ 0 _ rfl; (with_reducible repeat (first | refine blk_drewN ?_ _ | refine blk_drew ?_ | refine blk_alloc ?_ _)); exact BK215.out⟩, ⟨hb1_ HB GE215⟩⟩
    rw [if_neg c14] at H
    have c14b0 := decide_eq_false c14
    clear c14
    (first | rw [c14b0] | (simp only [i64_w, i32_w]; rw [c14b0]) | skip)
    have H' := Aside0.mk H
    clear H
    obtain ⟨hcz16_0, hcz16_1, hcz16_2⟩ := cz3_ BK215
    obtain ⟨hfz16_0, hfz16_1, hfz16_2⟩ := fz3_ BK215
    obtain ⟨Ao17, co17, eo17⟩ := Kd.R_slice HO_6.out
    subst eo17
    go_wp2
    go_meet
    case rel => exact ⟨_, (decide (((rd_T34 l1 x16_1).f0) ≥ (x6_1.length : Int))), rf_, H', ⟨by have := HK1.out; first | omega | exact Nat.le_refl _⟩, ⟨by (with_reducible repeat (first | apply Kd.R_alloc | apply Kd.R_drewN | apply Kd.R_drew)); exact Kd.R_mono (Kd.R_far (p := ⟨gb215, 2, none⟩) (Kd.R_far (p := ⟨gb215, 1, none⟩) (Kd.R_far (p := ⟨gb215, 0, none⟩) (Kd.R_types HO_6.out BK215.out (by decide)) (fun _ hk => hk.2) (.int .i64 ((rd_T34 l1 x16_1).f0))) (fun _ hk => hk.2) (.int .i64 ((rd_T34 l1 x16_1).f1))) (fun _ hk => hk.2) (.bool ((rd_T34 l1 x16_1).f2))) (fun _ hk => trivial)⟩, ⟨by (with_reducible repeat (first | refine blk_drewN ?_ _ | refine blk_drew ?_ | refine blk_alloc ?_ _)); refine blk_put (cs := #[.int .i64 ((rd_T34 l1 x16_1).f0), .int .i64 ((rd_T34 l1 x16_1).f1), .bool false]) ?_ 2 _ rfl; (with_reducible repeat (first | refine blk_drewN ?_ _ | refine blk_drew ?_ | refine blk_alloc ?_ _)); refine blk_put (cs := #[.int .i64 ((rd_T34 l1 x16_1).f0), .int .i64 0, .bool false]) ?_ 1 _ rfl; (with_reducible repeat (first | refine blk_drewN ?_ _ | refine blk_drew ?_ | refine blk_alloc ?_ _)); refine blk_put (cs := #[.int .i64 0, .int .i64 0, .bool false]) ?_ 0 _ rfl; (with_reducible repeat (first | refine blk_drewN ?_ _ | refine blk_drew ?_ | refine blk_alloc ?_ _)); exact BK215.out⟩, ⟨hb1_ HB GE215⟩⟩
   case rest =>
    clear HC11
    try clear c1
    try clear p2
    try clear q2
    try clear hx2
    try clear c3
    try clear c4
    try clear c8
    try clear c8b0
    try clear c9
    try clear c9b0
    try clear c10
    try clear c10b0
    try clear c14
    try clear c14b0
    try clear c15
    try clear hcz13_0 hcz13_1 hcz13_2
    try clear hcz15_0 hcz15_1 hcz15_2
    try clear hcz16_0 hcz16_1 hcz16_2
    try clear hfz13_0 hfz13_1 hfz13_2
    try clear hfz15_0 hfz15_1 hfz15_2
    try clear hfz16_0 hfz16_1 hfz16_2
    try clear hx214_0
    try clear hx214_1
    try clear hx214_2
    try clear p2
    try clear p214
    try clear q214
    obtain ⟨kq, x20_10, rfl, HA, HJ10, HO_6, BK215, HB⟩ := hcut
    cases kq with
    | zero => exact absurd HA.out (by simp [tender_Give.j1])
    | succ kj10 =>
     have H := HA.out
     clear HA
     simp only [tender_Give.j1] at H
     by_cases c18 : x20_10 = true
     ·
      subst c18
      rw [if_pos rfl] at H
      simp only [Option.some.injEq, Prod.mk.injEq] at H
      obtain ⟨rfl, rfl⟩ := H
      go_wp2
      go_ret2
      exact ⟨_, er_, by first | exact Kd.R_nil _ _ _ _ _ | exact Kd.N_nil _ _ _ _ _ | exact Kd.V_nil _ _ _ _ _ | exact Kd.Q_nil _ _ _ _ _ | exact Kd.S_nil _ _ _ _ _, hb1_ HB GE215⟩
     replace c18 := Bool.eq_false_iff.mpr c18
     subst c18
     rw [if_neg nf_] at H
     by_cases c19 : ((rd_T34 l1 x16_1).f1) < 1
     ·
      rw [if_pos c19] at H
      have c19b0 := decide_eq_true c19
      clear c19
      simp only [Option.some.injEq, Prod.mk.injEq] at H
      obtain ⟨rfl, rfl⟩ := H
      obtain ⟨hcz20_0, hcz20_1, hcz20_2⟩ := cz3_ BK215
      obtain ⟨hfz20_0, hfz20_1, hfz20_2⟩ := fz3_ BK215
      go_wp2
      go_ret2
      exact ⟨_, er_, by first | exact Kd.R_nil _ _ _ _ _ | exact Kd.N_nil _ _ _ _ _ | exact Kd.V_nil _ _ _ _ _ | exact Kd.Q_nil _ _ _ _ _ | exact Kd.S_nil _ _ _ _ _, hb1_ HB GE215⟩
     rw [if_neg c19] at H
     have c19b0 := decide_eq_false c19
     clear c19
     by_cases c21 : 0 ≤ ((rd_T34 l1 x16_1).f0)
     rotate_left
     ·
      rw [if_neg c21] at H
      exact absurd H (by simp)
     rw [if_pos c21] at H
     have c21b0 := decide_eq_true c21
     clear c21
     by_cases c22 : ((rd_T34 l1 x16_1).f0) < (x6_1.length : Int)
     rotate_left
     ·
      rw [if_neg c22] at H
      exact absurd H (by simp)
     rw [if_pos c22] at H
     have c22b0 := decide_eq_true c22
     clear c22
     by_cases c23 : ((rd_T34 l1 x16_1).f1) > (wrap64 (((rd_T39 x6_1 ((rd_T34 l1 x16_1).f0)).f1) - ((rd_T39 x6_1 ((rd_T34 l1 x16_1).f0)).f2)))
     ·
      rw [if_pos c23] at H
      have c23b0 := decide_eq_true c23
      clear c23
      simp only [Option.some.injEq, Prod.mk.injEq] at H
      obtain ⟨rfl, rfl⟩ := H
      obtain ⟨hcz24_0, hcz24_1, hcz24_2⟩ := cz3_ BK215
      obtain ⟨hfz24_0, hfz24_1, hfz24_2⟩ := fz3_ BK215
      try go_wp2
      replace HO_6 := Aside0.mk (Kd.R_drew HO_6.out)
      replace BK215 := Aside0.mk (blk_drew BK215.out)
      replace HB := Aside0.mk (below_drew1 HB.out)
      obtain ⟨Ao26, co26, eo26⟩ := Kd.R_slice HO_6.out
      (first | subst eo26 | (injection eo26 with f1_ f2_ f3_; have f4_ := f1_.symm; have f5_ := f3_.symm; clear f1_ f2_ f3_; subst f4_; subst f5_))
      have p216 : 0 ≤ (((rd_T34 l1 x16_1).f0) : Int) := of_decide_eq_true as_
      have q216 : ((rd_T34 l1 x16_1).f0) < (x6_1.length : Int) := of_decide_eq_true as_
      obtain ⟨ad216, e216, hx216_0, hx216_1, hx216_2⟩ := at_T39 (Kd.R_reads' HO_6.out).2.2 ((rd_T34 l1 x16_1).f0) p216 q216
      cases e216
      replace p216 := eq_true p216
      replace q216 := eq_true q216
      have p217 : 0 ≤ (((rd_T34 l1 x16_1).f0) : Int) := of_decide_eq_true as_
      have q217 : ((rd_T34 l1 x16_1).f0) < (x6_1.length : Int) := of_decide_eq_true as_
      obtain ⟨ad217, e217, hx217_0, hx217_1, hx217_2⟩ := at_T39 (Kd.R_reads' HO_6.out).2.2 ((rd_T34 l1 x16_1).f0) p217 q217
      obtain rfl : ad216 = ad217 := (by injection e217)
      replace p217 := eq_true p217
      replace q217 := eq_true q217
      refine start_ (n := 17) (S := fun w' => w'.cell? ⟨gb215, 0, none⟩ = some (.int .i64 ((rd_T34 l1 x16_1).f0)) ∧ w'.cell? ⟨gb215, 1, none⟩ = some (.int .i64 ((rd_T34 l1 x16_1).f1)) ∧ w'.cell? ⟨gb215, 2, none⟩ = some (.bool ((rd_T34 l1 x16_1).f2)) ∧ w'.cell? (ad216.add ((((rd_T34 l1 x16_1).f0)).toNat * 3)) = some (.int .i64 ((rd_T39 x6_1 ((rd_T34 l1 x16_1).f0)).f0)) ∧ w'.cell? ⟨(ad216.add ((((rd_T34 l1 x16_1).f0)).toNat * 3)).block, (ad216.add ((((rd_T34 l1 x16_1).f0)).toNat * 3)).off + 1, none⟩ = some (.int .i64 ((rd_T39 x6_1 ((rd_T34 l1 x16_1).f0)).f1)) ∧ w'.cell? ⟨(ad216.add ((((rd_T34 l1 x16_1).f0)).toNat * 3)).block, (ad216.add ((((rd_T34 l1 x16_1).f0)).toNat * 3)).off + 2, none⟩ = some (.int .i64 ((rd_T39 x6_1 ((rd_T34 l1 x16_1).f0)).f2)) ∧ w'.cell? (ad216.add ((((rd_T34 l1 x16_1).f0)).toNat * 3)) = some (.int .i64 ((rd_T39 x6_1 ((rd_T34 l1 x16_1).f0)).f0)) ∧ w'.cell? ⟨(ad216.add ((((rd_T34 l1 x16_1).f0)).toNat * 3)).block, (ad216.add ((((rd_T34 l1 x16_1).f0)).toNat * 3)).off + 1, none⟩ = some (.int .i64 ((rd_T39 x6_1 ((rd_T34 l1 x16_1).f0)).f1)) ∧ w'.cell? ⟨(ad216.add ((((rd_T34 l1 x16_1).f0)).toNat * 3)).block, (ad216.add ((((rd_T34 l1 x16_1).f0)).toNat * 3)).off + 2, none⟩ = some (.int .i64 ((rd_T39 x6_1 ((rd_T34 l1 x16_1).f0)).f2))) (ds := []) (mk 17 0) (by kernel_rfl) rfl rfl ⟨cl_ BK215 0, cl_ BK215 1, cl_ BK215 2, hx216_0, hx216_1, hx216_2, hx217_0, hx217_1, hx217_2⟩ (fun hHeld => ?_); refine with_tabW tender_Give.tab11 tender_Give.bits11 (fun HT_ HW_ => ?_)
      generalize wc.drew = w25 at HO_6 BK215 HB hx216_0 hx216_1 hx216_2 hx217_0 hx217_1 hx217_2 hHeld ⊢
      refine ahead_ [(0, 36), (2, 38), (3, 39), (8, 44), (9, 45)] ?_
      iterate 5 (refine pA_ (v := ?_) (a' := ?_) rfl rfl HT_.out kr_ nh_ (Or.inl ⟨ry_, ?_⟩) ?_ ?_; rotate_left; (intro w'; go_simp; with_reducible rfl); rotate_left; (exact pu_))
      refine aheadE_ (mk 17 781) (by kernel_rfl) ?_
      refine ahead_ [(1, 37), (4, 40)] ?_
      iterate 2 (refine tA_ (v := ?_) (a' := ?_) rfl rfl HT_.out HW_.out (by kernel_rfl) (fun _ _ _ h => h) (Or.inl ⟨by rfl, ?_⟩) hHeld ?_ ?_; rotate_left; (rintro w' ⟨s0, s1, s2, s3, s4, s5, s6, s7, s8⟩; go_simp; with_reducible rfl); rotate_left; (exact pu_))
      refine aheadE_ (mk 17 799) (by kernel_rfl) ?_
      refine ahead_ [(5, 41), (6, 42)] ?_
      iterate 2 (refine pA_ (v := ?_) (a' := ?_) rfl rfl HT_.out kr_ nh_ (Or.inl ⟨ry_, ?_⟩) ?_ ?_; rotate_left; (intro w'; go_simp; with_reducible rfl); rotate_left; (exact pu_))
      refine aheadE_ (mk 17 895) (by kernel_rfl) ?_
      refine ahead_ [(7, 43), (10, 46)] ?_
      iterate 2 (refine tA_ (v := ?_) (a' := ?_) rfl rfl HT_.out HW_.out (by kernel_rfl) (fun _ _ _ h => h) (Or.inl ⟨by rfl, ?_⟩) hHeld ?_ ?_; rotate_left; (rintro w' ⟨s0, s1, s2, s3, s4, s5, s6, s7, s8⟩; go_simp; with_reducible rfl); rotate_left; (exact pu_))
      refine aheadE_ (mk 17 2047) (by kernel_rfl) ?_
      refine ahead_ [(11, 47), (12, 48)] ?_
      iterate 2 (refine pA_ (v := ?_) (a' := ?_) rfl rfl HT_.out kr_ nh_ (Or.inl ⟨ry_, ?_⟩) ?_ ?_; rotate_left; (intro w'; go_simp; with_reducible rfl); rotate_left; (exact pu_))
      refine aheadE_ (mk 17 8191) (by kernel_rfl) ?_
      refine take_ (i := 13) (N := some 49) (v := ?_) (a' := ?_) (mk 17 16383) rfl rfl (tw_ HT_ HW_) nh_ (Or.inl ⟨by rfl, ?_⟩) hHeld ?_ ?_
      rotate_left
      ·
       rintro w' ⟨s0, s1, s2, s3, s4, s5, s6, s7, s8⟩
       go_simp
       with_reducible rfl
      rotate_left; (exact pu_)
      refine ahead_ [(14, 50), (15, 51), (16, 35)] ?_
      iterate 3 (refine pA_ (v := ?_) (a' := ?_) rfl rfl HT_.out kr_ nh_ (Or.inl ⟨ry_, ?_⟩) ?_ ?_; rotate_left; (intro w'; go_simp; with_reducible rfl); rotate_left; (exact pu_))
      refine aheadE_ (mk 17 131071) (by kernel_rfl) ?_
      refine done_ (done_of HT_.out (by kernel_rfl)) ?_
      try go_wp2
      go_ret2
      exact ⟨_, er_, by first | exact Kd.R_nil _ _ _ _ _ | exact Kd.N_nil _ _ _ _ _ | exact Kd.V_nil _ _ _ _ _ | exact Kd.Q_nil _ _ _ _ _ | exact Kd.S_nil _ _ _ _ _, hb1_ HB GE215⟩
     rw [if_neg c23] at H
     have c23b0 := decide_eq_false c23
     clear c23
     obtain ⟨y219, hy219⟩ : ∃ y_ : List (S39), y_ = (x6_1.set (((rd_T34 l1 x16_1).f0) : Int).toNat (⟨(rd_T39 x6_1 ((rd_T34 l1 x16_1).f0)).f0, (rd_T39 x6_1 ((rd_T34 l1 x16_1).f0)).f1, wrap64 (((rd_T39 x6_1 ((rd_T34 l1 x16_1).f0)).f2) + ((rd_T34 l1 x16_1).f1))⟩ : S39)) := ⟨_, rfl⟩
     replace H : (tender_Give.l0 kj10 y219 l1 (l1.length : Int) (wrap64 (x16_1 + 1))) = some (r1, r2) := by first | (rw [hy219]; with_reducible exact H) | (have H2_ := (Option.bind_some _ _).symm.trans H; rw [hy219]; with_reducible exact H2_) | (have H2_ := (Option.bind_some _ _).symm.trans H; with_reducible exact H2_) | with_reducible exact H | (rw [hy219]; exact H) | exact H
     have Ny219 := Aside0.mk hy219
     clear hy219
     have H' := Aside0.mk H
     clear H
     obtain ⟨hcz28_0, hcz28_1, hcz28_2⟩ := cz3_ BK215
     obtain ⟨hfz28_0, hfz28_1, hfz28_2⟩ := fz3_ BK215
     try go_wp2
     replace HO_6 := Aside0.mk (Kd.R_drew HO_6.out)
     replace BK215 := Aside0.mk (blk_drew BK215.out)
     replace HB := Aside0.mk (below_drew1 HB.out)
     obtain ⟨Ao30, co30, eo30⟩ := Kd.R_slice HO_6.out
     (first | subst eo30 | (injection eo30 with f1_ f2_ f3_; have f4_ := f1_.symm; have f5_ := f3_.symm; clear f1_ f2_ f3_; subst f4_; subst f5_))
     have p216 : 0 ≤ (((rd_T34 l1 x16_1).f0) : Int) := of_decide_eq_true as_
     have q216 : ((rd_T34 l1 x16_1).f0) < (x6_1.length : Int) := of_decide_eq_true as_
     obtain ⟨ad216, e216, hx216_0, hx216_1, hx216_2⟩ := at_T39 (Kd.R_reads' HO_6.out).2.2 ((rd_T34 l1 x16_1).f0) p216 q216
     cases e216
     replace p216 := eq_true p216
     replace q216 := eq_true q216
     have p217 : 0 ≤ (((rd_T34 l1 x16_1).f0) : Int) := of_decide_eq_true as_
     have q217 : ((rd_T34 l1 x16_1).f0) < (x6_1.length : Int) := of_decide_eq_true as_
     obtain ⟨ad217, e217, hx217_0, hx217_1, hx217_2⟩ := at_T39 (Kd.R_reads' HO_6.out).2.2 ((rd_T34 l1 x16_1).f0) p217 q217
     obtain rfl : ad216 = ad217 := (by injection e217)
     replace p217 := eq_true p217
     replace q217 := eq_true q217
     refine start_ (n := 17) (S := fun w' => w'.cell? ⟨gb215, 0, none⟩ = some (.int .i64 ((rd_T34 l1 x16_1).f0)) ∧ w'.cell? ⟨gb215, 1, none⟩ = some (.int .i64 ((rd_T34 l1 x16_1).f1)) ∧ w'.cell? ⟨gb215, 2, none⟩ = some (.bool ((rd_T34 l1 x16_1).f2)) ∧ w'.cell? (ad216.add ((((rd_T34 l1 x16_1).f0)).toNat * 3)) = some (.int .i64 ((rd_T39 x6_1 ((rd_T34 l1 x16_1).f0)).f0)) ∧ w'.cell? ⟨(ad216.add ((((rd_T34 l1 x16_1).f0)).toNat * 3)).block, (ad216.add ((((rd_T34 l1 x16_1).f0)).toNat * 3)).off + 1, none⟩ = some (.int .i64 ((rd_T39 x6_1 ((rd_T34 l1 x16_1).f0)).f1)) ∧ w'.cell? ⟨(ad216.add ((((rd_T34 l1 x16_1).f0)).toNat * 3)).block, (ad216.add ((((rd_T34 l1 x16_1).f0)).toNat * 3)).off + 2, none⟩ = some (.int .i64 ((rd_T39 x6_1 ((rd_T34 l1 x16_1).f0)).f2)) ∧ w'.cell? (ad216.add ((((rd_T34 l1 x16_1).f0)).toNat * 3)) = some (.int .i64 ((rd_T39 x6_1 ((rd_T34 l1 x16_1).f0)).f0)) ∧ w'.cell? ⟨(ad216.add ((((rd_T34 l1 x16_1).f0)).toNat * 3)).block, (ad216.add ((((rd_T34 l1 x16_1).f0)).toNat * 3)).off + 1, none⟩ = some (.int .i64 ((rd_T39 x6_1 ((rd_T34 l1 x16_1).f0)).f1)) ∧ w'.cell? ⟨(ad216.add ((((rd_T34 l1 x16_1).f0)).toNat * 3)).block, (ad216.add ((((rd_T34 l1 x16_1).f0)).toNat * 3)).off + 2, none⟩ = some (.int .i64 ((rd_T39 x6_1 ((rd_T34 l1 x16_1).f0)).f2))) (ds := []) (mk 17 0) (by kernel_rfl) rfl rfl ⟨cl_ BK215 0, cl_ BK215 1, cl_ BK215 2, hx216_0, hx216_1, hx216_2, hx217_0, hx217_1, hx217_2⟩ (fun hHeld => ?_); refine with_tabW tender_Give.tab11 tender_Give.bits11 (fun HT_ HW_ => ?_)
     generalize wc.drew = w29 at HO_6 BK215 HB hx216_0 hx216_1 hx216_2 hx217_0 hx217_1 hx217_2 hHeld ⊢
     refine ahead_ [(0, 36), (2, 38), (3, 39), (8, 44), (9, 45)] ?_
     iterate 5 (refine pA_ (v := ?_) (a' := ?_) rfl rfl HT_.out kr_ nh_ (Or.inl ⟨ry_, ?_⟩) ?_ ?_; rotate_left; (intro w'; go_simp; with_reducible rfl); rotate_left; (exact pu_))
     refine aheadE_ (mk 17 781) (by kernel_rfl) ?_
     refine ahead_ [(1, 37), (4, 40)] ?_
     iterate 2 (refine tA_ (v := ?_) (a' := ?_) rfl rfl HT_.out HW_.out (by kernel_rfl) (fun _ _ _ h => h) (Or.inl ⟨by rfl, ?_⟩) hHeld ?_ ?_; rotate_left; (rintro w' ⟨s0, s1, s2, s3, s4, s5, s6, s7, s8⟩; go_simp; with_reducible rfl); rotate_left; (exact pu_))
     refine aheadE_ (mk 17 799) (by kernel_rfl) ?_
     refine ahead_ [(5, 41), (6, 42)] ?_
     iterate 2 (refine pA_ (v := ?_) (a' := ?_) rfl rfl HT_.out kr_ nh_ (Or.inl ⟨ry_, ?_⟩) ?_ ?_; rotate_left; (intro w'; go_simp; with_reducible rfl); rotate_left; (exact pu_))
     refine aheadE_ (mk 17 895) (by kernel_rfl) ?_
     refine ahead_ [(7, 43), (10, 46)] ?_
     iterate 2 (refine tA_ (v := ?_) (a' := ?_) rfl rfl HT_.out HW_.out (by kernel_rfl) (fun _ _ _ h => h) (Or.inl ⟨by rfl, ?_⟩) hHeld ?_ ?_; rotate_left; (rintro w' ⟨s0, s1, s2, s3, s4, s5, s6, s7, s8⟩; go_simp; with_reducible rfl); rotate_left; (exact pu_))
     refine aheadE_ (mk 17 2047) (by kernel_rfl) ?_
     refine ahead_ [(11, 47), (12, 48)] ?_
     iterate 2 (refine pA_ (v := ?_) (a' := ?_) rfl rfl HT_.out kr_ nh_ (Or.inl ⟨ry_, ?_⟩) ?_ ?_; rotate_left; (intro w'; go_simp; with_reducible rfl); rotate_left; (exact pu_))
     refine aheadE_ (mk 17 8191) (by kernel_rfl) ?_
     refine take_ (i := 13) (N := some 49) (v := ?_) (a' := ?_) (mk 17 16383) rfl rfl (tw_ HT_ HW_) nh_ (Or.inl ⟨by rfl, ?_⟩) hHeld ?_ ?_
     rotate_left
     ·
      rintro w' ⟨s0, s1, s2, s3, s4, s5, s6, s7, s8⟩
      go_simp
      with_reducible rfl
     rotate_left; (exact pu_)
     refine ahead_ [(14, 50), (15, 51), (16, 35)] ?_
     iterate 3 (refine pA_ (v := ?_) (a' := ?_) rfl rfl HT_.out kr_ nh_ (Or.inl ⟨ry_, ?_⟩) ?_ ?_; rotate_left; (intro w'; go_simp; with_reducible rfl); rotate_left; (exact pu_))
     refine aheadE_ (mk 17 131071) (by kernel_rfl) ?_
     refine done_ (done_of HT_.out (by kernel_rfl)) ?_
     try go_wp2
     replace HO_6 := Aside0.mk (Kd.R_drew HO_6.out)
     replace BK215 := Aside0.mk (blk_drew BK215.out)
     replace HB := Aside0.mk (below_drew1 HB.out)
     have p218 : 0 ≤ (((rd_T34 l1 x16_1).f0) : Int) := of_decide_eq_true as_
     have q218 : ((rd_T34 l1 x16_1).f0) < (x6_1.length : Int) := of_decide_eq_true as_
     obtain ⟨ad218, e218, hx218_0, hx218_1, hx218_2⟩ := at_T39 (Kd.R_reads' HO_6.out).2.2 ((rd_T34 l1 x16_1).f0) p218 q218
     obtain rfl : ad216 = ad218 := (by injection e218)
     replace p218 := eq_true p218
     replace q218 := eq_true q218
     have p27 : 0 ≤ (((rd_T34 l1 x16_1).f0) : Int) := of_decide_eq_true as_
     have q27 : (((rd_T34 l1 x16_1).f0) : Int) < ((x6_1.length : Int) : Int) := of_decide_eq_true as_
     obtain ⟨go27, co27, eo27, gb27, gl27, cl27, HG27⟩ := Kd.R_form HO_6.out (by omega)
     (first | cases eo27 | (injection eo27 with ea_ en_ ec_; (first | subst ea_ | (injection ea_ with ea_; subst ea_)); subst ec_; clear en_))
     have GB27 := Aside0.mk gb27
     have GG27 := Aside0.mk HG27
     clear gb27 gl27 HG27
     (first | simp only [add_plain] at hx216_0 | skip)
     (first | simp only [add_plain] at hx216_1 | skip)
     (first | simp only [add_plain] at hx216_2 | skip)
     (first | simp only [add_plain] at hx217_0 | skip)
     (first | simp only [add_plain] at hx217_1 | skip)
     (first | simp only [add_plain] at hx217_2 | skip)
     (first | simp only [add_plain] at hx218_0 | skip)
     (first | simp only [add_plain] at hx218_1 | skip)
     (first | simp only [add_plain] at hx218_2 | skip)
     obtain ⟨ce27, hcl27, hM27, hcc27, hfr27⟩ := Kd.R_elem HO_6.out z39 (((rd_T34 l1 x16_1).f0) : Int) p27 q27
     obtain rfl := k39_openM hM27
     have hx27_0 : World.cell? _ ⟨go27, (((rd_T34 l1 x16_1).f0) : Int).toNat * 3, none⟩ = some (.int .i64 ((rd_T39 x6_1 ((rd_T34 l1 x16_1).f0)).f0)) := hcc27 0 _ rfl
     have hx27_1 : World.cell? _ ⟨go27, (((rd_T34 l1 x16_1).f0) : Int).toNat * 3 + 1, none⟩ = some (.int .i64 ((rd_T39 x6_1 ((rd_T34 l1 x16_1).f0)).f1)) := hcc27 1 _ rfl
     have hx27_2 : World.cell? _ ⟨go27, (((rd_T34 l1 x16_1).f0) : Int).toNat * 3 + 2, none⟩ = some (.int .i64 ((rd_T39 x6_1 ((rd_T34 l1 x16_1).f0)).f2)) := hcc27 2 _ rfl
     have hf27_0 : World.frozen? _ ⟨go27, (((rd_T34 l1 x16_1).f0) : Int).toNat * 3, none⟩ = false := hfr27 0
     have hf27_1 : World.frozen? _ ⟨go27, (((rd_T34 l1 x16_1).f0) : Int).toNat * 3 + 1, none⟩ = false := hfr27 1
     have hf27_2 : World.frozen? _ ⟨go27, (((rd_T34 l1 x16_1).f0) : Int).toNat * 3 + 2, none⟩ = false := hfr27 2
     clear hcl27 hcc27 hfr27 hM27
     replace p27 := eq_true p27
     replace q27 := eq_true q27
     obtain ⟨ce32, hcl32, hM32, hcc32, hfr32⟩ := Kd.R_elem HO_6.out z39 (((rd_T34 l1 x16_1).f0) : Int) (of_decide_eq_true as_) (by have h_ : (((rd_T34 l1 x16_1).f0) : Int) < ((x6_1.length : Int) : Int) := of_decide_eq_true as_; first | exact h_ | (have e_ := (Kd.R_reads' HO_6.out).1; omega) | simpa using h_)
     obtain rfl := k39_openM hM32
     have HP32 := (Kd.R_seg HO_6.out (((rd_T34 l1 x16_1).f0) : Int) (of_decide_eq_true as_) (by have h_ : (((rd_T34 l1 x16_1).f0) : Int) < ((x6_1.length : Int) : Int) := of_decide_eq_true as_; first | exact h_ | (have e_ := (Kd.R_reads' HO_6.out).1; omega) | simpa using h_) (seg := [.int .i64 (wrap64 (((rd_T39 x6_1 ((rd_T34 l1 x16_1).f0)).f2) + ((rd_T34 l1 x16_1).f1)))]) (j := 2) hcl32 hcc32 (show 3 ≤ 3 from by decide) (x' := (⟨(rd_T39 x6_1 ((rd_T34 l1 x16_1).f0)).f0, (rd_T39 x6_1 ((rd_T34 l1 x16_1).f0)).f1, wrap64 (((rd_T39 x6_1 ((rd_T34 l1 x16_1).f0)).f2) + ((rd_T34 l1 x16_1).f1))⟩ : S39)) (k39_mkM _ _ _ (⟨(rd_T39 x6_1 ((rd_T34 l1 x16_1).f0)).f0, (rd_T39 x6_1 ((rd_T34 l1 x16_1).f0)).f1, wrap64 (((rd_T39 x6_1 ((rd_T34 l1 x16_1).f0)).f2) + ((rd_T34 l1 x16_1).f1))⟩ : S39) ) (fun _ hk => hk)).1
     rw [← Ny219.out] at HP32
     have HQ32 := Aside0.mk HP32
     clear hcl32 hcc32 hfr32 hM32 HP32
     refine start_ (n := 12) (S := fun w' => w'.cell? ⟨gb215, 0, none⟩ = some (.int .i64 ((rd_T34 l1 x16_1).f0)) ∧ w'.cell? ⟨gb215, 1, none⟩ = some (.int .i64 ((rd_T34 l1 x16_1).f1)) ∧ w'.cell? ⟨gb215, 2, none⟩ = some (.bool ((rd_T34 l1 x16_1).f2)) ∧ w'.cell? ⟨go27, (((rd_T34 l1 x16_1).f0)).toNat * 3, none⟩ = some (.int .i64 ((rd_T39 x6_1 ((rd_T34 l1 x16_1).f0)).f0)) ∧ w'.cell? ⟨go27, (((rd_T34 l1 x16_1).f0)).toNat * 3 + 1, none⟩ = some (.int .i64 ((rd_T39 x6_1 ((rd_T34 l1 x16_1).f0)).f1)) ∧ w'.cell? ⟨go27, (((rd_T34 l1 x16_1).f0)).toNat * 3 + 2, none⟩ = some (.int .i64 ((rd_T39 x6_1 ((rd_T34 l1 x16_1).f0)).f2))) (ds := [11]) (mk 12 0) (by kernel_rfl) rfl rfl ⟨cl_ BK215 0, cl_ BK215 1, cl_ BK215 2, hx218_0, hx218_1, hx218_2⟩ (fun hHeld => ?_); refine with_tabW tender_Give.tab13 tender_Give.bits13 (fun HT_ HW_ => ?_)
     generalize w29.drew = w31 at HO_6 BK215 HB GG27 HQ32 hf27_0 hf27_1 hf27_2 hx216_0 hx216_1 hx216_2 hx217_0 hx217_1 hx217_2 hx218_0 hx218_1 hx218_2 hx27_0 hx27_1 hx27_2 hHeld ⊢
     refine ahead_ [(0, 52), (1, 53), (6, 58)] ?_
     iterate 3 (refine pA_ (v := ?_) (a' := ?_) rfl rfl HT_.out kr_ nh_ (Or.inl ⟨ry_, ?_⟩) ?_ ?_; rotate_left; (intro w'; go_simp; with_reducible rfl); rotate_left; (exact pu_))
     refine aheadE_ (mk 12 67) (by kernel_rfl) ?_
     refine take_ (i := 2) (N := some 54) (v := ?_) (a' := ?_) (mk 12 71) rfl rfl (tw_ HT_ HW_) nh_ (Or.inl ⟨by rfl, ?_⟩) hHeld ?_ ?_
     rotate_left
     ·
      rintro w' ⟨s0, s1, s2, s3, s4, s5⟩
      go_simp
      with_reducible rfl
     rotate_left; (exact pu_)
     refine ahead_ [(3, 55), (4, 56)] ?_
     iterate 2 (refine pA_ (v := ?_) (a' := ?_) rfl rfl HT_.out kr_ nh_ (Or.inl ⟨ry_, ?_⟩) ?_ ?_; rotate_left; (intro w'; go_simp; with_reducible rfl); rotate_left; (exact pu_))
     refine aheadE_ (mk 12 95) (by kernel_rfl) ?_
     refine ahead_ [(5, 57), (7, 59)] ?_
     iterate 2 (refine tA_ (v := ?_) (a' := ?_) rfl rfl HT_.out HW_.out (by kernel_rfl) (fun _ _ _ h => h) (Or.inl ⟨by rfl, ?_⟩) hHeld ?_ ?_; rotate_left; (rintro w' ⟨s0, s1, s2, s3, s4, s5⟩; go_simp; with_reducible rfl); rotate_left; (exact pu_))
     refine aheadE_ (mk 12 255) (by kernel_rfl) ?_
     refine ahead_ [(8, 60), (9, 61), (10, 62)] ?_
     iterate 3 (refine pA_ (v := ?_) (a' := ?_) rfl rfl HT_.out kr_ nh_ (Or.inl ⟨ry_, ?_⟩) ?_ ?_; rotate_left; (intro w'; go_simp; with_reducible rfl); rotate_left; (exact pu_))
     refine aheadE_ (mk 12 2047) (by kernel_rfl) ?_
     refine last_ (i := 11) (N := none) (mk 12 4095) rfl rfl (on_ HT_) de_ (fun K hK => ?_)
     refine skip_ (w1 := ?_) (by rfl) rfl ?_ ?_
     rotate_left
     ·
      go_simp
      rfl
     refine hK.out _ _ ?_
     clear hK K
     refine done_ (done_of HT_.out (by kernel_rfl)) ?_
     try go_wp2
     go_roundg kj10
     case measure => have := HK1.out; have := HJ10.out; omega
     case rel => exact ⟨(y219), (wrap64 (x16_1 + 1)), rf_, H', ⟨by have := HK1.out; have := HJ10.out; omega⟩, ⟨ro_ HQ32⟩, ⟨hb2_ HB GB27 GE215⟩⟩

/-! ### tender_Take: function 21 -/
end Go.Proofs.Ytebochcdbknodaa.Rw
