/- RwRef15a. -/
import Derived.Test.YtmiamdnhofjifaaVRwA
import Derived.Test.YtmiamdnhofjifaaVRwRef01
import Derived.Test.YtmiamdnhofjifaaVRwRef10r
import Derived.Test.YtmiamdnhofjifaaVRwRef10z
section
/- Functions of the program as Lean functions, each with its contract: out of what the kit's printer wrote for this seat. -/
namespace Go.Proofs.Ytmiamdnhofjifaa.Rw
open Go.RowKit Go.Proofs.YtmiamdnhofjifaaW.PrintWords Go.Proofs.YtmiamdnhofjifaaW.PrintLast Go.Proofs.YtmiamdnhofjifaaW.PrintMore
attribute [local go_sem] max2_int min2_int max_two min_two max_three min_three max_four min_four   -- for this text's walks alone
set_option linter.unusedVariables false
set_option linter.unusedSimpArgs false
attribute [local go_sem high] leqS gtrS

/-! ### haberdashref15_part: function 29 -/
def haberdashref15_part.f (k : Nat) (a0_0 : Bool) (a0_1 : Bool) (a0_2 : Int) (l0_3 : List (S51)) (a1 : Int) (a2 : Int) : Option (Int) := if a0_0 = true then ((haberdashref01_Times.f k a1 a2 (wrap64 (10000 + a2)) a0_2).bind fun bt314 => (some bt314.1)) else ((haberdashref01_Times.f k a1 a2 10000 a0_2).bind fun bt316 => (some bt316.1))
set_option maxHeartbeats 8000000 in
set_option maxRecDepth 100000 in
theorem haberdashref15_part.calls (k : Nat) (a0_0 : Bool) (a0_1 : Bool) (a0_2 : Int) (A0_3 : Option Addr) (c0_3 : Nat) (l0_3 : List (S51)) (a1 : Int) (a2 : Int) (r : Int) (w : World) (hr0_3 : Kd.C k51 w A0_3 l0_3.length l0_3) (hc0_3 : l0_3.length ≤ c0_3) (h : haberdashref15_part.f k a0_0 a0_1 a0_2 l0_3 a1 a2 = some r) :
 Calls Try.prog 29 #[.agg #[.bool a0_0, .bool a0_1, .int .i64 a0_2, .slice A0_3 l0_3.length c0_3], .int .i64 a1, .int .i64 a2] w fun e w' => e = .returned (.int .i64 r) ∧ Below w.heap.size w w' := by
 have hu24 := Try.underlying24
 have HR0_3 := Aside0.mk hr0_3
 have HC0_3 := Aside0.mk hc0_3
 clear hr0_3 hc0_3
 have HB := Aside0.mk (Below.refl w.heap.size w)
 have H : (if a0_0 = true then ((haberdashref01_Times.f k a1 a2 (wrap64 (10000 + a2)) a0_2).bind fun bt314 => (some bt314.1)) else ((haberdashref01_Times.f k a1 a2 10000 a0_2).bind fun bt316 => (some bt316.1))) = some r := h
 clear h
 by_cases c4 : a0_0 = true
 ·
  subst c4; rw [if_pos rfl] at H; replace H := Option.bind_eq_some_iff.mp H; obtain ⟨⟨t314, t315⟩, A50, H⟩ := H
  (try dsimp only at H)
  have A5 := Aside0.mk A50; clear A50; obtain rfl := Option.some.inj H
  go_enter Try.func29, Try.ntmps29
  go_wp2_with (first | ((with_reducible refine gate_dst (N := 3) rfl ?_); refine box_event rf_ (N := 3) rf_ (cs := #[.bool true, .bool a0_1, .int .i64 a0_2, .slice A0_3 l0_3.length c0_3]) (t := 24) lr_ ?_; intro gb313 hg w6 hbox hb; have BK313 := Aside0.mk hbox; have GE313 := Aside0.mk (ge_ HB hg (hb0_ HB)); replace HB := Aside0.mk (below_step (hb0_ HB) hb); clear hb hbox hg; obtain ⟨hcz7_0, hcz7_1, hcz7_2, hcz7_3⟩ := cz4_ BK313; obtain ⟨hfz7_0, hfz7_1, hfz7_2, hfz7_3⟩ := fz4_ BK313) | (refine gl_ 47 21 Try.func47 #[.int .i64 a1, .int .i64 a2, .int .i64 (wrap64 (10000 + a2)), .int .i64 a0_2] ?_; (with_reducible refine (haberdashref01_Times.calls k a1 a2 (wrap64 (10000 + a2)) a0_2 t314 t315 _ A5.out).mono ?_); rintro e w' ⟨rfl, ⟨nd, rfl⟩⟩; refine ⟨_, rfl, ?_⟩))
  go_ret
  exact ⟨er_, hb1_ HB GE313⟩
 replace c4 := Bool.eq_false_iff.mpr c4
 subst c4
 rw [if_neg nf_] at H
 replace H := Option.bind_eq_some_iff.mp H
 obtain ⟨⟨t316, t317⟩, A80, H⟩ := H
 (try dsimp only at H)
 have A8 := Aside0.mk A80
 clear A80
 obtain rfl := Option.some.inj H
 go_enter Try.func29, Try.ntmps29
 go_wp2_with (first | ((with_reducible refine gate_dst (N := 3) rfl ?_); refine box_event rf_ (N := 3) rf_ (cs := #[.bool false, .bool a0_1, .int .i64 a0_2, .slice A0_3 l0_3.length c0_3]) (t := 24) lr_ ?_; intro gb313 hg w9 hbox hb; have BK313 := Aside0.mk hbox; have GE313 := Aside0.mk (ge_ HB hg (hb0_ HB)); replace HB := Aside0.mk (below_step (hb0_ HB) hb); clear hb hbox hg; obtain ⟨hcz10_0, hcz10_1, hcz10_2, hcz10_3⟩ := cz4_ BK313; obtain ⟨hfz10_0, hfz10_1, hfz10_2, hfz10_3⟩ := fz4_ BK313) | (refine gl_ 47 21 Try.func47 #[.int .i64 a1, .int .i64 a2, .int .i64 10000, .int .i64 a0_2] ?_; (with_reducible refine (haberdashref01_Times.calls k a1 a2 10000 a0_2 t316 t317 _ A8.out).mono ?_); rintro e w' ⟨rfl, ⟨nd, rfl⟩⟩; refine ⟨_, rfl, ?_⟩))
 go_ret
 exact ⟨er_, hb1_ HB GE313⟩

/-! ### haberdashref15_sum: function 49 -/
def haberdashref15_sum.l0 : Nat → List Int → Int → Int → Option (Int)
 | 0, _, _, _ => none
 | k + 1, x0, x3, x4 => if x4 < (x0.length : Int) then (if 0 ≤ x4 then (haberdashref15_sum.l0 k x0 (wrap64 (x3 + (rd x0 x4))) (wrap64 (x4 + 1))) else (none)) else (some x3)
def haberdashref15_sum.f (k : Nat) (l0 : List Int) : Option (Int) := haberdashref15_sum.l0 k l0 0 0
set_option maxHeartbeats 8000000 in
set_option maxRecDepth 100000 in
theorem haberdashref15_sum.calls (k : Nat) (A0 : Option Addr) (c0 : Nat) (l0 : List Int) (r : Int) (w : World) (hr0 : Kd.C (Kd.int .i64) w A0 l0.length l0) (hc0 : l0.length ≤ c0) (h : haberdashref15_sum.f k l0 = some r) :
 Calls Try.prog 49 #[.slice A0 l0.length c0] w fun e w' => e = .returned (.int .i64 r) ∧ Drawn0 w w' := by
 have HR0 := Aside0.mk hr0
 have HC0 := Aside0.mk hc0
 clear hr0 hc0
 have H : (haberdashref15_sum.l0 k l0 0 0) = some r := h
 clear h
 have H' := Aside0.mk H
 clear H
 go_enter Try.func49, Try.ntmps49
 go_wp2
 go_loopg [3, 4] k (fun kq v3 v4 w' => ∃ (x3_1 : Int) (x4_1 : Int), v3 = .int .i64 x3_1 ∧ v4 = .int .i64 x4_1 ∧ Aside0 (haberdashref15_sum.l0 kq l0 x3_1 x4_1 = some r) ∧ Aside0 (kq ≤ k) ∧ Drawn0 w w')
 case atStart => exact ⟨(0), (0), rf_, rf_, H', ⟨Nat.le_refl _⟩, dr_⟩
 case round =>
  clear H'; obtain ⟨x3_1, x4_1, rfl, rfl, HA, HK1, ⟨m1, rfl⟩⟩ := hrel
  cases gk with
  | zero => exact absurd HA.out (by simp [haberdashref15_sum.l0])
  | succ k1 =>
   have H := HA.out; clear HA
   simp only [haberdashref15_sum.l0] at H
   by_cases c2 : x4_1 < (l0.length : Int)
   rotate_left
   ·
    rw [if_neg c2] at H; have c2b0 := decide_eq_false c2; clear c2; obtain rfl := Option.some.inj H
    go_wp2
    go_ret
    exact ⟨rf_, dr_⟩
   rw [if_pos c2] at H; have c2b0 := decide_eq_true c2; clear c2; replace H := ip_ H; obtain ⟨c3, H⟩ := H; have c3b0 := decide_eq_true c3; clear c3; have H' := Aside0.mk H; clear H; have p353 : 0 ≤ (x4_1 : Int) := of_decide_eq_true as_; have q353 : x4_1 < (l0.length : Int) := of_decide_eq_true as_; obtain ⟨ad353, e353, hx353_0⟩ := Kd.at_int HR0.out x4_1 p353 q353
   cases e353; replace p353 := eq_true p353; replace q353 := eq_true q353
   go_wp2
   go_roundg k1
   case measure => have := HK1.out; omega
   case rel => exact ⟨(wrap64 (x3_1 + (rd l0 x4_1))), (wrap64 (x4_1 + 1)), rf_, rf_, H', ⟨ho_ HK1⟩, dr_⟩

end Go.Proofs.Ytmiamdnhofjifaa.Rw
end
section
/- Functions of the program as Lean functions, each with its contract: out of what the kit's printer wrote for this seat. -/
namespace Go.Proofs.Ytmiamdnhofjifaa.Rw
open Go.RowKit Go.Proofs.YtmiamdnhofjifaaW.PrintWords Go.Proofs.YtmiamdnhofjifaaW.PrintLast Go.Proofs.YtmiamdnhofjifaaW.PrintMore
attribute [local go_sem] max2_int min2_int max_two min_two max_three min_three max_four min_four   -- for this text's walks alone
set_option linter.unusedVariables false
set_option linter.unusedSimpArgs false
attribute [local go_sem high] leqS gtrS

/-! ### haberdashref15_byOrder: function 31 -/
mutual
def haberdashref15_byOrder.l0 : Nat → List Int → List Int → List Int → List Bool → Int → Bool → Bool → Int → List (S51) → Option (List Int)
 | 0, _, _, _, _, _, _, _, _, _ => none
 | k + 1, x1, x2, x7, x8, x9, x355000, x355001, x355002, x355003 => if x9 < (x2.length : Int) then (if 0 ≤ x9 then (if x9 < (x8.length : Int) then (if rdOf false x8 x9 = true then (haberdashref15_byOrder.l0 k x1 x2 x7 x8 (wrap64 (x9 + 1)) x355000 x355001 x355002 x355003) else (haberdashref15_byOrder.l1 k x1 x2 x7 x8 x9 ([] : List Int) ([] : List Int) x9 x355000 x355001 x355002 x355003)) else (none)) else (none)) else (some x7)
def haberdashref15_byOrder.l1 : Nat → List Int → List Int → List Int → List Bool → Int → List Int → List Int → Int → Bool → Bool → Int → List (S51) → Option (List Int)
 | 0, _, _, _, _, _, _, _, _, _, _, _, _ => none
 | k + 1, x1, x2, x7, x8, x9, x10, x11, x12, x355000, x355001, x355002, x355003 => if x12 < (x2.length : Int) then (if 0 ≤ x12 then (if x12 < (x1.length : Int) then (if 0 ≤ x9 then (if x9 < (x1.length : Int) then (if (rd x1 x12) = (rd x1 x9) then (if x12 < (x8.length : Int) then ((some (([x12] : List Int) : List Int)).bind fun y365 => (if x10.length + y365.length < 17592186044416 then ((some (([rd x2 x12] : List Int) : List Int)).bind fun y372 => (if x11.length + y372.length < 17592186044416 then (haberdashref15_byOrder.l1 k x1 x2 x7 (x8.set (x12 : Int).toNat true) x9 (x10 ++ y365) (x11 ++ y372) (wrap64 (x12 + 1)) x355000 x355001 x355002 x355003) else (none))) else (none))) else (none)) else (haberdashref15_byOrder.l1 k x1 x2 x7 x8 x9 x10 x11 (wrap64 (x12 + 1)) x355000 x355001 x355002 x355003)) else (none)) else (none)) else (none)) else (none)) else ((haberdashref15_sum.f k x11).bind fun t378 => (if 0 ≤ x9 then (if x9 < (x1.length : Int) then ((haberdashref15_part.f k x355000 x355001 x355002 x355003 t378 (rd x1 x9)).bind fun t380 => ((haberdashref01_Largest.f k t380 x11).bind fun bt381 => (haberdashref15_byOrder.l2 k x1 x2 x7 x8 x9 x10 bt381.1 0 x355000 x355001 x355002 x355003))) else (none)) else (none)))
def haberdashref15_byOrder.l2 : Nat → List Int → List Int → List Int → List Bool → Int → List Int → List Int → Int → Bool → Bool → Int → List (S51) → Option (List Int)
 | 0, _, _, _, _, _, _, _, _, _, _, _, _ => none
 | k + 1, x1, x2, x7, x8, x9, x10, x13, x15, x355000, x355001, x355002, x355003 => if x15 < (x10.length : Int) then (if 0 ≤ x15 then (if x15 < (x13.length : Int) then (if 0 ≤ (rd x10 x15) then (if (rd x10 x15) < (x7.length : Int) then (haberdashref15_byOrder.l2 k x1 x2 (x7.set ((rd x10 x15) : Int).toNat (rd x13 x15)) x8 x9 x10 x13 (wrap64 (x15 + 1)) x355000 x355001 x355002 x355003) else (none)) else (none)) else (none)) else (none)) else (haberdashref15_byOrder.l0 k x1 x2 x7 x8 (wrap64 (x9 + 1)) x355000 x355001 x355002 x355003)
end
def haberdashref15_byOrder.f (k : Nat) (a0_0 : Bool) (a0_1 : Bool) (a0_2 : Int) (l0_3 : List (S51)) (l1 : List Int) (l2 : List Int) : Option (List Int) := if 0 ≤ (l2.length : Int) then (if ((l2.length : Int) : Int).toNat ≤ 35184372088832 then (if ((l2.length : Int) : Int).toNat ≤ 281474976710656 then (haberdashref15_byOrder.l0 k l1 l2 (List.replicate ((l2.length : Int) : Int).toNat 0) (List.replicate ((l2.length : Int) : Int).toNat false) 0 a0_0 a0_1 a0_2 l0_3) else (none)) else (none)) else (none)
def haberdashref15_byOrder.T12 : Bool × List (List Nat × List Nat) := (true, [([], []), ([], []), ([0, 1], [0, 1]), ([2], [2]), ([], []), ([], []), ([4, 5], [4, 5]), ([6], [6]), ([3, 7], [3, 7])])
def haberdashref15_byOrder.B12 : List Nat := [0, 0, 3, 7, 0, 0, 48, 112, 255]
theorem haberdashref15_byOrder.tab12 : rtab .any (opsOf Try.f31 12) = haberdashref15_byOrder.T12 := by kernel_rfl
theorem haberdashref15_byOrder.bits12 : waitsOk haberdashref15_byOrder.T12.2 haberdashref15_byOrder.B12 = true := by kernel_rfl
def haberdashref15_byOrder.T14 : Bool × List (List Nat × List Nat) := (true, [([], []), ([], []), ([1], [1]), ([0, 2], [0, 2]), ([], []), ([], []), ([], []), ([5, 6], [5, 6]), ([7], [7]), ([8], [8]), ([4, 9, 3], [4, 9]), ([3, 10, 0, 1, 2, 3], [0, 3]), ([10, 11, 0, 1, 2, 3, 4, 5, 6, 7, 8, 9, 10, 11], [4, 10])])
def haberdashref15_byOrder.B14 : List Nat := [0, 0, 2, 7, 0, 0, 0, 96, 224, 480, 1023, 2047, 4095]
theorem haberdashref15_byOrder.tab14 : rtab .any (opsOf Try.f31 14) = haberdashref15_byOrder.T14 := by kernel_rfl
theorem haberdashref15_byOrder.bits14 : waitsOk haberdashref15_byOrder.T14.2 haberdashref15_byOrder.B14 = true := by kernel_rfl
def haberdashref15_byOrder.T15 : Bool × List (List Nat × List Nat) := (true, [([], []), ([], []), ([1], [1]), ([], []), ([], []), ([3, 4], [3, 4]), ([5], [5]), ([0, 2, 6, 2], [0, 2, 6]), ([], []), ([7, 8, 7], [7, 8]), ([9], [9]), ([10], [10]), ([10], [10]), ([11, 9, 0, 1, 2, 3, 4, 5, 6, 7, 8, 9, 10, 11], [11]), ([12, 13, 0, 1, 2, 3, 4, 5, 6, 7, 8, 9, 10, 11, 12, 13], [12])])
def haberdashref15_byOrder.B15 : List Nat := [0, 0, 2, 0, 0, 24, 56, 127, 0, 511, 1023, 2047, 2047, 4095, 16383]
theorem haberdashref15_byOrder.tab15 : rtab .any (opsOf Try.f31 15) = haberdashref15_byOrder.T15 := by kernel_rfl
theorem haberdashref15_byOrder.bits15 : waitsOk haberdashref15_byOrder.T15.2 haberdashref15_byOrder.B15 = true := by kernel_rfl
def haberdashref15_byOrder.T19 : Bool × List (List Nat × List Nat) := (true, [([], []), ([], []), ([], []), ([1, 2], [1, 2]), ([3], [3]), ([], []), ([], []), ([5, 6], [5, 6]), ([7], [7]), ([0, 4, 0, 1, 2, 3, 4, 5, 6, 7, 8], [0, 4]), ([9, 8, 0, 1, 2, 3, 4, 5, 6, 7, 8], [8, 9])])
def haberdashref15_byOrder.B19 : List Nat := [0, 0, 0, 6, 14, 0, 0, 96, 224, 511, 1023]
theorem haberdashref15_byOrder.tab19 : rtab .any (opsOf Try.f31 19) = haberdashref15_byOrder.T19 := by kernel_rfl
theorem haberdashref15_byOrder.bits19 : waitsOk haberdashref15_byOrder.T19.2 haberdashref15_byOrder.B19 = true := by kernel_rfl
set_option maxHeartbeats 8000000 in
set_option maxRecDepth 100000 in
theorem haberdashref15_byOrder.calls (k : Nat) (a0_0 : Bool) (a0_1 : Bool) (a0_2 : Int) (A0_3 : Option Addr) (c0_3 : Nat) (l0_3 : List (S51)) (A1 : Option Addr) (c1 : Nat) (l1 : List Int) (A2 : Option Addr) (c2 : Nat) (l2 : List Int) (r : List Int) (w : World) (hr0_3 : Kd.C k51 w A0_3 l0_3.length l0_3) (hc0_3 : l0_3.length ≤ c0_3) (hr1 : Kd.C (Kd.int .i64) w A1 l1.length l1) (hc1 : l1.length ≤ c1) (hr2 : Kd.C (Kd.int .i64) w A2 l2.length l2) (hc2 : l2.length ≤ c2) (h : haberdashref15_byOrder.f k a0_0 a0_1 a0_2 l0_3 l1 l2 = some r) :
 Calls Try.prog 31 #[.agg #[.bool a0_0, .bool a0_1, .int .i64 a0_2, .slice A0_3 l0_3.length c0_3], .slice A1 l1.length c1, .slice A2 l2.length c2] w fun e w' => ∃ v0_ : Value, e = .returned (v0_) ∧ Kd.R (Kd.int .i64) 2 w' w.heap.size (fun _ => True) v0_ r ∧ Below w.heap.size w w' := by
 have hu24 := Try.underlying24
 have HR0_3 := Aside0.mk hr0_3
 have HC0_3 := Aside0.mk hc0_3
 clear hr0_3 hc0_3
 have HR1 := Aside0.mk hr1
 have HC1 := Aside0.mk hc1
 clear hr1 hc1
 have HR2 := Aside0.mk hr2
 have HC2 := Aside0.mk hc2
 clear hr2 hc2
 have HB := Aside0.mk (Below.refl w.heap.size w)
 have H : (if 0 ≤ (l2.length : Int) then (if ((l2.length : Int) : Int).toNat ≤ 35184372088832 then (if ((l2.length : Int) : Int).toNat ≤ 281474976710656 then (haberdashref15_byOrder.l0 k l1 l2 (List.replicate ((l2.length : Int) : Int).toNat 0) (List.replicate ((l2.length : Int) : Int).toNat false) 0 a0_0 a0_1 a0_2 l0_3) else (none)) else (none)) else (none)) = some r := h
 clear h
 replace H := ip_ H
 obtain ⟨c4, H⟩ := H
 have c4b0 := eq_true c4
 have c4b1 := decide_eq_true c4
 clear c4
 replace H := ip_ H
 obtain ⟨c5, H⟩ := H
 have c5b0 := eq_true c5
 have c5b1 := decide_eq_true c5
 clear c5
 obtain ⟨y355, hy355⟩ : ∃ y_ : List Int, y_ = (List.replicate ((l2.length : Int) : Int).toNat 0) := ⟨_, rfl⟩
 replace H : (if ((l2.length : Int) : Int).toNat ≤ 281474976710656 then (haberdashref15_byOrder.l0 k l1 l2 y355 (List.replicate ((l2.length : Int) : Int).toNat false) 0 a0_0 a0_1 a0_2 l0_3) else (none)) = some r := hy_ hy355 H
 have Ny355 := Aside0.mk hy355
 clear hy355
 replace H := ip_ H
 obtain ⟨c6, H⟩ := H
 have c6b0 := eq_true c6
 have c6b1 := decide_eq_true c6
 clear c6
 obtain ⟨y358, hy358⟩ : ∃ y_ : List Bool, y_ = (List.replicate ((l2.length : Int) : Int).toNat false) := ⟨_, rfl⟩
 replace H : (haberdashref15_byOrder.l0 k l1 l2 y355 y358 0 a0_0 a0_1 a0_2 l0_3) = some r := hy_ hy358 H
 have Ny358 := Aside0.mk hy358
 clear hy358
 have H' := Aside0.mk H
 clear H
 go_enter Try.func31, Try.ntmps31
 go_wp2_with (first | ((with_reducible refine gate_dst (N := 3) rfl ?_); refine box_event rf_ (N := 3) rf_ (cs := #[.bool a0_0, .bool a0_1, .int .i64 a0_2, .slice A0_3 l0_3.length c0_3]) (t := 24) lr_ ?_; intro gb354 hg w7 hbox hb; have BK354 := Aside0.mk hbox; have GE354 := Aside0.mk (ge_ HB hg (hb0_ HB)); replace HB := Aside0.mk (below_step (hb0_ HB) hb); clear hb hbox hg) | ((with_reducible refine gate_dst (N := 18) rfl ?_); refine Kd.R_make (Kd.int .i64) _ 2 rfl (N := 18) rfl 26 _ _ rfl (l2.length : Int) rfl rfl Try.underlying26 (.int .i64 0) 8 info2 rfl (by decide) (by omega) 0 (ok := fun _ => True) (okp := fun _ => True) rfl (fun _ hk => hk) trivial (of_decide_eq_true as_) (Nat.le_trans (Nat.mul_le_mul_right _ (of_decide_eq_true as_ : (l2.length : Int).toNat ≤ 35184372088832)) (by omega)) (Below.refl _ _) (Nat.le_refl _) ?_; intro v356 w8 ho9 hb hg_ hnew_; clear hg_ hnew_; (first | rw [← Ny355.out] at ho9 | (simp only [Int.reduceToNat] at ho9; rw [← Ny355.out] at ho9)); have HO357 := Aside0.mk (Kd.R_lower ho9 (below_size (hb1_ HB GE354))); replace BK354 := Aside0.mk (bb_ BK354 hb); replace HB := Aside0.mk (below_step (hb1_ HB GE354) hb); clear hb ho9) | ((with_reducible refine gate_dst (N := 21) rfl ?_); refine Kd.R_make Kd.bool _ 4 rfl (N := 21) rfl 83 _ _ rfl (l2.length : Int) rfl rfl Try.underlying83 (.bool false) 1 info4 rfl (by decide) (by omega) false (ok := fun _ => True) (okp := fun _ => True) rfl (fun _ hk => hk) trivial (of_decide_eq_true as_) (Nat.le_trans (Nat.mul_le_mul_right _ (of_decide_eq_true as_ : (l2.length : Int).toNat ≤ 281474976710656)) (by omega)) (Below.refl _ _) (Nat.le_refl _) ?_; intro v359 w10 ho11 hb hg_ hnew_; clear hg_ hnew_; (first | rw [← Ny358.out] at ho11 | (simp only [Int.reduceToNat] at ho11; rw [← Ny358.out] at ho11)); replace HO357 := Aside0.mk (Kd.R_below (ro_ HO357) hb); have HO360 := Aside0.mk (Kd.R_lower ho11 (below_size (hb1_ HB GE354))); replace BK354 := Aside0.mk (bb_ BK354 hb); replace HB := Aside0.mk (below_step (hb1_ HB GE354) hb); clear hb ho11))
 (try simp only [addr0])
 go_loopg [9] k (fun kq v9 w' => ∃ (x7_1 : List Int) (x8_1 : List Bool) (x9_1 : Int), v9 = .int .i64 x9_1 ∧ Aside0 (haberdashref15_byOrder.l0 kq l1 l2 x7_1 x8_1 x9_1 a0_0 a0_1 a0_2 l0_3 = some r) ∧ Aside0 (kq ≤ k) ∧ Aside0 (Kd.R (Kd.int .i64) 2 w' w.heap.size (fun _ => True) v356 x7_1) ∧ Aside0 (Kd.R Kd.bool 4 w' w.heap.size (fun _ => True) v359 x8_1) ∧ Aside0 (w'.heap[gb354]? = some (.cells #[.bool a0_0, .bool a0_1, .int .i64 a0_2, (.slice A0_3 l0_3.length c0_3)] 24 (0, 0))) ∧ Aside0 (Below w.heap.size w w'))
 case atStart => exact ⟨(y355), (y358), (0), rf_, H', ⟨Nat.le_refl _⟩, ⟨ro_ HO357⟩, ⟨ro_ HO360⟩, ⟨bk_ BK354⟩, ⟨hb1_ HB GE354⟩⟩
 case round =>
  clear H'; (try clear c1); (try clear c2); (try clear p2); (try clear c3); (try clear c4); (try clear c4b0); (try clear c4b1); (try clear c5); (try clear c5b0); (try clear c5b1); (try clear c6); (try clear c6b0); (try clear c6b1); obtain ⟨x7_1, x8_1, x9_1, rfl, HA, HK1, HO_7, HO_8, BK354, HB⟩ := hrel
  cases gk with
  | zero => exact absurd HA.out (by simp [haberdashref15_byOrder.l0])
  | succ k1 =>
   have H := HA.out; clear HA
   simp only [haberdashref15_byOrder.l0] at H
   by_cases c12 : x9_1 < (l2.length : Int)
   rotate_left
   ·
    rw [if_neg c12] at H; have c12b0 := decide_eq_false c12; clear c12; obtain rfl := Option.some.inj H
    go_wp2
    go_ret
    exact ⟨_, er_, ro_ HO_7, hb1_ HB GE354⟩
   rw [if_pos c12] at H; have c12b0 := decide_eq_true c12; clear c12; replace H := ip_ H; obtain ⟨c13, H⟩ := H; have c13b0 := decide_eq_true c13; clear c13; replace H := ip_ H; obtain ⟨c14, H⟩ := H; have c14b0 := decide_eq_true c14; clear c14; obtain ⟨bq15, hbq15⟩ : ∃ b_ : Bool, b_ = (rdOf false x8_1 x9_1) := ⟨_, rfl⟩
   replace H : (if bq15 = true then (haberdashref15_byOrder.l0 k1 l1 l2 x7_1 x8_1 (wrap64 (x9_1 + 1)) a0_0 a0_1 a0_2 l0_3) else (haberdashref15_byOrder.l1 k1 l1 l2 x7_1 x8_1 x9_1 ([] : List Int) ([] : List Int) x9_1 a0_0 a0_1 a0_2 l0_3)) = some r := by rw [← hbq15] at H; exact H
   have Nbq15 := Aside0.mk hbq15; clear hbq15
   by_cases c16 : bq15 = true
   ·
    subst c16; rw [if_pos rfl] at H; have H' := Aside0.mk H; clear H; obtain ⟨Ao17, co17, eo17⟩ := Kd.R_slice HO_8.out; subst eo17; have p361 : 0 ≤ (x9_1 : Int) := of_decide_eq_true as_; have q361 : x9_1 < (x8_1.length : Int) := of_decide_eq_true as_; obtain ⟨ad361, e361, hx361_0⟩ := Kd.at_bool (Kd.R_reads' HO_8.out).2.2 x9_1 p361 q361
    (try rw [← Nbq15.out] at hx361_0)
    cases e361; replace p361 := eq_true p361; replace q361 := eq_true q361
    go_wp2
    go_roundg k1
    case measure => have := HK1.out; omega
    case rel => exact ⟨(x7_1), (x8_1), (wrap64 (x9_1 + 1)), rf_, H', ⟨ho_ HK1⟩, ⟨ro_ HO_7⟩, ⟨ro_ HO_8⟩, ⟨bk_ BK354⟩, ⟨hb1_ HB GE354⟩⟩
   replace c16 := Bool.eq_false_iff.mpr c16; subst c16; rw [if_neg nf_] at H; have H' := Aside0.mk H; clear H; obtain ⟨Ao18, co18, eo18⟩ := Kd.R_slice HO_8.out; subst eo18; have p361 : 0 ≤ (x9_1 : Int) := of_decide_eq_true as_; have q361 : x9_1 < (x8_1.length : Int) := of_decide_eq_true as_; obtain ⟨ad361, e361, hx361_0⟩ := Kd.at_bool (Kd.R_reads' HO_8.out).2.2 x9_1 p361 q361
   (try rw [← Nbq15.out] at hx361_0)
   cases e361; replace p361 := eq_true p361; replace q361 := eq_true q361
   go_wp2
   (try simp only [addr0])
   go_loopg [10, 11, 12] k1 (fun kq v10 v11 v12 w' => ∃ (x8_2 : List Bool) (x10_2 : List Int) (x11_2 : List Int) (x12_2 : Int), v12 = .int .i64 x12_2 ∧ Aside0 (haberdashref15_byOrder.l1 kq l1 l2 x7_1 x8_2 x9_1 x10_2 x11_2 x12_2 a0_0 a0_1 a0_2 l0_3 = some r) ∧ Aside0 (kq ≤ k1) ∧ Aside0 (Kd.R (Kd.int .i64) 2 w' w.heap.size (fun k_ => some k_ ≠ (v11 : Value).ownBlock) v356 x7_1) ∧ Aside0 (Kd.R Kd.bool 4 w' w.heap.size (fun _ => True) (.slice (some ad361) x8_1.length co18) x8_2) ∧ Aside0 (Kd.R (Kd.int .i64) 3 w' w.heap.size (fun _ => True) v10 x10_2) ∧ Aside0 (Kd.R (Kd.int .i64) 2 w' w.heap.size (fun k_ => some k_ ≠ (v356 : Value).ownBlock) v11 x11_2) ∧ Aside0 (w'.heap[gb354]? = some (.cells #[.bool a0_0, .bool a0_1, .int .i64 a0_2, (.slice A0_3 l0_3.length c0_3)] 24 (0, 0))) ∧ Aside0 (Below w.heap.size w w'))
   case atStart => exact ⟨(x8_1), (([] : List Int)), (([] : List Int)), (x9_1), rf_, H', ⟨Nat.le_refl _⟩, ⟨rm_ HO_7 (fun _ hk => (by simp [Value.ownBlock]))⟩, ⟨ro_ HO_8⟩, ⟨ni_⟩, ⟨ni_⟩, ⟨bk_ BK354⟩, ⟨hb1_ HB GE354⟩⟩
   case round =>
    clear H'; (try clear c1); (try clear q1); (try clear c2); (try clear p2); (try clear c3); (try clear p3); (try clear q3); (try clear hx3); (try clear c4); (try clear c4b0); (try clear c4b1); (try clear c5); (try clear c5b0); (try clear c5b1); (try clear c6); (try clear c6b0); (try clear c6b1); (try clear p6)
    (try clear c12); (try clear c12b0); (try clear c13); (try clear c13b0); (try clear c14); (try clear c14b0); (try clear q15); (try clear c16); (try clear hx361_0); (try clear p2); (try clear p361); (try clear q361); obtain ⟨x8_2, x10_2, x11_2, x12_2, rfl, HA, HK2, HO_7, HO_8, HO_10, HO_11, BK354, HB⟩ := hrel
    have hl8_2 := (Kd.R_reads' HO_8.out).1; rw [hl8_2] at HO_8
    (try simp only [hl8_2])
    (try simp only [hl8_2] at BK354)
    (try simp only [hl8_2] at HO_7)
    (try simp only [hl8_2] at HO_10)
    (try simp only [hl8_2] at HO_11)
    cases gk with
    | zero => exact absurd HA.out (by simp [haberdashref15_byOrder.l1])
    | succ k2 =>
     have H := HA.out; clear HA
     simp only [haberdashref15_byOrder.l1] at H
     by_cases c19 : x12_2 < (l2.length : Int)
     rotate_left
     ·
      rw [if_neg c19] at H; have c19b0 := decide_eq_false c19; clear c19; replace H := Option.bind_eq_some_iff.mp H; obtain ⟨t378, A450, H⟩ := H
      (try dsimp only at H)
      have A45 := Aside0.mk A450; clear A450; replace H := ip_ H; obtain ⟨c46, H⟩ := H; have c46b0 := decide_eq_true c46; clear c46; replace H := ip_ H; obtain ⟨c47, H⟩ := H; have c47b0 := decide_eq_true c47; clear c47; replace H := Option.bind_eq_some_iff.mp H; obtain ⟨t380, A480, H⟩ := H
      (try dsimp only at H)
      have A48 := Aside0.mk A480; clear A480; replace H := Option.bind_eq_some_iff.mp H; obtain ⟨⟨t381, t382⟩, A490, H⟩ := H
      (try dsimp only at H)
      have A49 := Aside0.mk A490; clear A490; have H' := Aside0.mk H; clear H
      try go_wp2
      replace HO_7 := Aside0.mk (Kd.R_drew HO_7.out); replace HO_8 := Aside0.mk (Kd.R_drew HO_8.out); replace HO_10 := Aside0.mk (Kd.R_drew HO_10.out); replace HO_11 := Aside0.mk (Kd.R_drew HO_11.out); replace BK354 := Aside0.mk (blk_drew BK354.out); replace HB := Aside0.mk (below_drew1 HB.out); have p379 : 0 ≤ (x9_1 : Int) := of_decide_eq_true as_
      have q379 : x9_1 < (l1.length : Int) := of_decide_eq_true as_; obtain ⟨ad379, e379, hx379_0⟩ := Kd.at_int HR1.out x9_1 p379 q379; have hw379_0 := hx379_0; cases e379; replace hx379_0 := hd_ HB hx379_0; replace p379 := eq_true p379; replace q379 := eq_true q379; obtain ⟨Ao51, co51, eo51⟩ := Kd.R_slice HO_11.out
      (first | subst eo51 | (injection eo51 with f1_ f2_ f3_; have f4_ := f1_.symm; have f5_ := f3_.symm; clear f1_ f2_ f3_; subst f4_; subst f5_))
      refine start_ (n := 15) (S := fun w' => w'.cell? ⟨gb354, 0, none⟩ = some (.bool a0_0) ∧ w'.cell? ⟨gb354, 1, none⟩ = some (.bool a0_1) ∧ w'.cell? ⟨gb354, 2, none⟩ = some (.int .i64 a0_2) ∧ w'.cell? ⟨gb354, 3, none⟩ = some (.slice A0_3 l0_3.length c0_3) ∧ w'.cell? (ad379.add (x9_1).toNat) = some (.int .i64 (rd l1 x9_1))) (ds := []) (mk 15 0) (by kernel_rfl) rfl rfl ⟨cl_ BK354 0, cl_ BK354 1, cl_ BK354 2, cl_ BK354 3, (hc_ HB hw379_0)⟩ (fun hHeld => ?_); refine with_tabW haberdashref15_byOrder.tab15 haberdashref15_byOrder.bits15 (fun HT_ HW_ => ?_)
      generalize wr.drew = w50 at HO_7 HO_8 HO_10 HO_11 BK354 HB hx379_0 hHeld ⊢
      refine ahead_ [(1, 64), (3, 66), (4, 67), (5, 68), (8, 71)] ?_
      iterate 5 (refine pB_ HT_ ?_)
      refine aheadE_ (mk 15 314) kr_ ?_
      refine ahead_ [(0, 63), (6, 69)] ?_
      iterate 2 (refine tA_ (v := ?_) (a' := ?_) rfl rfl HT_.out HW_.out (by kernel_rfl) (fun _ _ _ h => h) (Or.inl ⟨by rfl, ?_⟩) hHeld ?_ ?_; rotate_left; (rintro w' ⟨s0, s1, s2, s3, s4⟩; go_simp; with_reducible rfl); rotate_left; (exact pu_))
      refine aheadE_ (mk 15 379) kr_ ?_
      refine one_ (i := 2) (N := some 65) (mk 15 383) rfl rfl (on_ HT_) de_ (fun K hK => ?_)
      refine goes_ Try.func49 (by kernel_rfl) rfl #[.slice Ao51 x11_2.length co51] (by rfl) rfl rfl am_ ?_
      with_reducible refine (haberdashref15_sum.calls k2 _ _ x11_2 t378 _ ?side1 ?side2 A45.out).mono ?_
      (case side1 => exact sc_ (Kd.R_reads' HO_11.out).2.2)
      (case side2 => exact (Kd.R_reads' HO_11.out).2.1)
      rintro e w' ⟨rfl, ⟨nd, rfl⟩⟩
      refine ⟨_, rfl, ?_⟩
      refine hK.out _ _ ⟨cl_ BK354 0, cl_ BK354 1, cl_ BK354 2, cl_ BK354 3, (hc_ HB hw379_0)⟩ (fun hHeld => ?_)
      clear hK K
      refine norm_ pv_ ?_
      refine one_ (i := 7) (N := some 70) (mk 15 511) rfl rfl (on_ HT_) de_ (fun K hK => ?_)
      refine goes_ Try.func29 (by kernel_rfl) rfl #[.agg #[.bool a0_0, .bool a0_1, .int .i64 a0_2, .slice A0_3 l0_3.length c0_3], .int .i64 t378, .int .i64 (rd l1 x9_1)] (by rfl) rfl rfl am_ ?_
      with_reducible refine (haberdashref15_part.calls k2 a0_0 a0_1 a0_2 _ _ l0_3 t378 (rd l1 x9_1) t380 _ ?side1 ?side2 A48.out).mono ?_
      (case side1 => exact (Kd.C_below HR0_3.out (hb1_ HB GE354)))
      (case side2 => exact HC0_3.out)
      rintro e w52 ⟨rfl, hb⟩
      refine ⟨_, rfl, ?_⟩
      replace HO_7 := Aside0.mk (Kd.R_below (ro_ HO_7) hb); replace HO_8 := Aside0.mk (Kd.R_below (ro_ HO_8) hb); replace HO_10 := Aside0.mk (Kd.R_below (ro_ HO_10) hb); replace HO_11 := Aside0.mk (Kd.R_below (ro_ HO_11) hb); replace BK354 := Aside0.mk (bb_ BK354 hb); replace HB := Aside0.mk (below_step (hb1_ HB GE354) hb)
      (try clear hb); (try clear hb2); (try clear hk); (try clear hi)
      refine hK.out _ _ ⟨cl_ BK354 0, cl_ BK354 1, cl_ BK354 2, cl_ BK354 3, (hc_ HB hw379_0)⟩ (fun hHeld => ?_)
      clear hK K
      refine norm_ pv_ ?_
      refine one_ (i := 9) (N := some 72) (mk 15 1023) rfl rfl (on_ HT_) de_ (fun K hK => ?_)
      refine goes_ Try.func48 (by kernel_rfl) rfl #[.int .i64 t380, .slice Ao51 x11_2.length co51] (by rfl) rfl rfl am_ ?_
      with_reducible refine (haberdashref01_Largest.calls k2 t380 _ _ x11_2 t381 t382 _ ?side1 ?side2 A49.out).mono ?_
      (case side1 => exact sc_ (Kd.R_reads' HO_11.out).2.2)
      (case side2 => exact (Kd.R_reads' HO_11.out).2.1)
      rintro e w53 ⟨v383, rfl, ho0, hb⟩
      refine ⟨_, rfl, ?_⟩
      replace HO_8 := Aside0.mk (Kd.R_below (ro_ HO_8) hb); replace HO_10 := Aside0.mk (Kd.R_below (ro_ HO_10) hb); have HO384 := Aside0.mk (Kd.R_lower (Kd.R_new' (Kd.R_new' ho0 (Kd.R_lt (ro_ HO_7))) (Kd.R_lt (ro_ HO_11))) (below_size (hb1_ HB GE354))); replace HO_7 := Aside0.mk (Kd.R_elder' (ro_ HO_7) (Kd.R_base ho0) hb)
      replace HO_11 := Aside0.mk (Kd.R_elder' (ro_ HO_11) (Kd.R_base ho0) hb); replace BK354 := Aside0.mk (bb_ BK354 hb); replace HB := Aside0.mk (below_step (hb1_ HB GE354) hb); (try clear hb); (try clear hb2); (try clear hk); (try clear hi); (try clear ho0)
      refine hK.out _ _ ⟨cl_ BK354 0, cl_ BK354 1, cl_ BK354 2, cl_ BK354 3, (hc_ HB hw379_0)⟩ (fun hHeld => ?_)
      clear hK K
      refine norm_ pv_ ?_
      refine ahead_ [(10, 62), (11, 73), (12, 74), (13, 13), (14, 14)] ?_
      iterate 5 (refine pB_ HT_ ?_)
      refine aheadE_ (mk 15 32767) kr_ ?_
      refine done_ (done_of HT_.out (by kernel_rfl)) ?_
      try go_wp2
      (try simp only [addr0])
      go_loopg [15] k2 (fun kq v15 w' => ∃ (x7_3 : List Int) (x15_3 : Int), v15 = .int .i64 x15_3 ∧ Aside0 (haberdashref15_byOrder.l2 kq l1 l2 x7_3 x8_2 x9_1 x10_2 t381 x15_3 a0_0 a0_1 a0_2 l0_3 = some r) ∧ Aside0 (kq ≤ k2) ∧ Aside0 (Kd.R (Kd.int .i64) 2 w' w.heap.size (fun k_ => some k_ ≠ (v383 : Value).ownBlock) v356 x7_3) ∧ Aside0 (Kd.R Kd.bool 4 w' w.heap.size (fun _ => True) (.slice (some ad361) x8_2.length co18) x8_2) ∧ Aside0 (Kd.R (Kd.int .i64) 3 w' w.heap.size (fun _ => True) u10 x10_2) ∧ Aside0 (Kd.R (Kd.int .i64) 2 w' w.heap.size (fun k_ => some k_ ≠ (v356 : Value).ownBlock) v383 t381) ∧ Aside0 (w'.heap[gb354]? = some (.cells #[.bool a0_0, .bool a0_1, .int .i64 a0_2, (.slice A0_3 l0_3.length c0_3)] 24 (0, 0))) ∧ Aside0 (Below w.heap.size w w'))
      case atStart => exact ⟨(x7_1), (0), rf_, H', ⟨Nat.le_refl _⟩, ⟨by (try simp only [hl8_2]); (with_reducible repeat (first | apply Kd.R_alloc | apply Kd.R_drewN | apply Kd.R_drew)); exact Kd.R_mono HO_7.out (fun _ hk => hk.2)⟩, ⟨by (try simp only [hl8_2]); (with_reducible repeat (first | apply Kd.R_alloc | apply Kd.R_drewN | apply Kd.R_drew)); exact HO_8.out⟩, ⟨by (try simp only [hl8_2]); (with_reducible repeat (first | apply Kd.R_alloc | apply Kd.R_drewN | apply Kd.R_drew)); exact HO_10.out⟩, ⟨by (try simp only [hl8_2]); (with_reducible repeat (first | apply Kd.R_alloc | apply Kd.R_drewN | apply Kd.R_drew)); exact Kd.R_mono HO384.out (fun _ hk => hk.1.2)⟩, ⟨by (try simp only [hl8_2]); (with_reducible repeat (first | refine blk_drewN ?_ _ | refine blk_drew ?_ | refine blk_alloc ?_ _)); exact BK354.out⟩, ⟨hb1_ HB GE354⟩⟩
      case round =>
       clear H'; (try clear c1); (try clear c2); (try clear p2); (try clear p3); (try clear q3); (try clear hx3); (try clear c4); (try clear p6); (try clear c19); (try clear c19b0); (try clear c20); (try clear c21); (try clear c22); (try clear c23); (try clear c24); (try clear c24b0); (try clear c24b1)
       (try clear c25); (try clear c27); (try clear c28); (try clear c29); (try clear p36); (try clear q36); (try clear hx36); (try clear p37); (try clear q37); (try clear hx37); (try clear c46); (try clear c46b0); (try clear c47); (try clear c47b0); (try clear c48); (try clear c49); (try clear hx362_0)
       (try clear hx363_0); (try clear hx379_0); (try clear p362); (try clear p363); (try clear p379); (try clear q362); (try clear q363); (try clear q379); obtain ⟨x7_3, x15_3, rfl, HA, HK3, HO_7, HO_8, HO_10, HO_13, BK354, HB⟩ := hrel
       cases gk with
       | zero => exact absurd HA.out (by simp [haberdashref15_byOrder.l2])
       | succ k3 =>
        have H := HA.out; clear HA
        simp only [haberdashref15_byOrder.l2] at H
        by_cases c54 : x15_3 < (x10_2.length : Int)
        rotate_left
        ·
         rw [if_neg c54] at H; have c54b0 := decide_eq_false c54; clear c54; have H' := Aside0.mk H; clear H; obtain ⟨Ao64, co64, eo64⟩ := Kd.R_slice HO_10.out; subst eo64
         go_wp2
         (try simp only [← hl8_2])
         go_roundg k3
         case measure => have := HK1.out; have := HK2.out; have := HK3.out; omega
         case rel => exact ⟨(x7_3), (x8_2), (wrap64 (x9_1 + 1)), rf_, H', ⟨ho3_ HK1 HK2 HK3⟩, ⟨by (try simp only [hl8_2]); (with_reducible repeat (first | apply Kd.R_alloc | apply Kd.R_drewN | apply Kd.R_drew)); exact Kd.R_mono HO_7.out (fun _ hk => trivial)⟩, ⟨by (try simp only [hl8_2]); (with_reducible repeat (first | apply Kd.R_alloc | apply Kd.R_drewN | apply Kd.R_drew)); exact HO_8.out⟩, ⟨by (try simp only [hl8_2]); (with_reducible repeat (first | refine blk_drewN ?_ _ | refine blk_drew ?_ | refine blk_alloc ?_ _)); exact BK354.out⟩, ⟨hb1_ HB GE354⟩⟩
        rw [if_pos c54] at H; have c54b0 := decide_eq_true c54; clear c54; replace H := ip_ H; obtain ⟨c55, H⟩ := H; have c55b0 := decide_eq_true c55; clear c55; replace H := ip_ H; obtain ⟨c56, H⟩ := H; have c56b0 := decide_eq_true c56; clear c56; replace H := ip_ H; obtain ⟨c57, H⟩ := H; have c57b0 := decide_eq_true c57
        clear c57; replace H := ip_ H; obtain ⟨c58, H⟩ := H; have c58b0 := decide_eq_true c58; clear c58; obtain ⟨y387, hy387⟩ : ∃ y_ : List Int, y_ = (x7_3.set ((rd x10_2 x15_3) : Int).toNat (rd t381 x15_3)) := ⟨_, rfl⟩; replace H : (haberdashref15_byOrder.l2 k3 l1 l2 y387 x8_2 x9_1 x10_2 t381 (wrap64 (x15_3 + 1)) a0_0 a0_1 a0_2 l0_3) = some r := hy_ hy387 H
        have Ny387 := Aside0.mk hy387; clear hy387; have H' := Aside0.mk H; clear H; obtain ⟨Ao60, co60, eo60⟩ := Kd.R_slice HO_10.out; subst eo60
        try go_wp2
        replace HO_7 := Aside0.mk (Kd.R_drew HO_7.out); replace HO_8 := Aside0.mk (Kd.R_drew HO_8.out); replace HO_10 := Aside0.mk (Kd.R_drew HO_10.out); replace HO_13 := Aside0.mk (Kd.R_drew HO_13.out); replace BK354 := Aside0.mk (blk_drew BK354.out); replace HB := Aside0.mk (below_drew1 HB.out); have p385 : 0 ≤ (x15_3 : Int) := of_decide_eq_true as_
        have q385 : x15_3 < (x10_2.length : Int) := of_decide_eq_true as_; obtain ⟨ad385, e385, hx385_0⟩ := Kd.at_int (Kd.R_reads' HO_10.out).2.2 x15_3 p385 q385; cases e385; replace p385 := eq_true p385; replace q385 := eq_true q385; obtain ⟨Ao62, co62, eo62⟩ := Kd.R_slice HO_13.out
        (first | subst eo62 | (injection eo62 with f1_ f2_ f3_; have f4_ := f1_.symm; have f5_ := f3_.symm; clear f1_ f2_ f3_; subst f4_; subst f5_))
        have p386 : 0 ≤ (x15_3 : Int) := of_decide_eq_true as_; have q386 : x15_3 < (t381.length : Int) := of_decide_eq_true as_; obtain ⟨ad386, e386, hx386_0⟩ := Kd.at_int (Kd.R_reads' HO_13.out).2.2 x15_3 p386 q386; cases e386; replace p386 := eq_true p386; replace q386 := eq_true q386; have p59 : 0 ≤ ((rd x10_2 x15_3) : Int) := of_decide_eq_true as_
        have q59 : ((rd x10_2 x15_3) : Int) < ((x7_3.length : Int) : Int) := of_decide_eq_true as_
        obtain ⟨go59, co59, eo59, gb59, gl59, cl59, HG59⟩ := Kd.R_form HO_7.out (by omega)
        (first | cases eo59 | (injection eo59 with ea_ en_ ec_; (first | subst ea_ | (injection ea_ with ea_; subst ea_)); subst ec_; clear en_))
        have GB59 := Aside0.mk gb59; have GG59 := Aside0.mk HG59; clear gb59 gl59 HG59; obtain ⟨hx59_0, hf59_0⟩ := Kd.R_celln 0 HO_7.out ((rd x10_2 x15_3) : Int) p59 q59; replace p59 := eq_true p59; replace q59 := eq_true q59; have HP63 := Kd.R_putn HO_7.out ((rd x10_2 x15_3) : Int) (rd t381 x15_3); rw [← Ny387.out] at HP63
        have HQ63 := Aside0.mk HP63; clear HP63
        refine start_ (n := 11) (S := fun w' => w'.cell? (ad385.add (x15_3).toNat) = some (.int .i64 (rd x10_2 x15_3)) ∧ w'.cell? (ad386.add (x15_3).toNat) = some (.int .i64 (rd t381 x15_3))) (ds := [10]) (mk 11 0) (by kernel_rfl) rfl rfl ⟨hx385_0, hx386_0⟩ (fun hHeld => ?_); refine with_tabW haberdashref15_byOrder.tab19 haberdashref15_byOrder.bits19 (fun HT_ HW_ => ?_)
        generalize wr.drew = w61 at HO_7 HO_8 HO_10 HO_13 BK354 HB GG59 HQ63 hf59_0 hx385_0 hx386_0 hx59_0 hHeld ⊢
        refine ahead_ [(0, 81), (1, 82), (2, 83), (3, 84), (5, 86), (6, 87), (7, 88)] ?_
        iterate 7 (refine pB_ HT_ ?_)
        refine aheadE_ (mk 11 239) kr_ ?_
        refine ahead_ [(4, 85), (8, 89)] ?_
        iterate 2 (refine tA_ (v := ?_) (a' := ?_) rfl rfl HT_.out HW_.out (by kernel_rfl) (fun _ _ _ h => h) (Or.inl ⟨by rfl, ?_⟩) hHeld ?_ ?_; rotate_left; (rintro w' ⟨s0, s1⟩; go_simp; with_reducible rfl); rotate_left; (exact pu_))
        refine aheadE_ (mk 11 511) kr_ ?_
        refine pure_ (i := 9) (N := some 90) (v := ?_) (a' := ?_) (mk 11 1023) rfl rfl (an_ HT_) nh_ (Or.inl ⟨ry_, ?_⟩) ?_ ?_
        rotate_left; (intro w'; go_simp; with_reducible rfl)
        rotate_left; (exact pu_)
        refine last_ (i := 10) (N := none) (mk 11 2047) rfl rfl (on_ HT_) de_ (fun K hK => ?_)
        refine skip_ (w1 := ?_) (by rfl) rfl ?_ ?_
        rotate_left
        ·
         go_simp
         rfl
        refine hK.out _ _ ?_
        clear hK K
        refine done_ (done_of HT_.out (by kernel_rfl)) ?_
        try go_wp2
        go_roundg k3
        case measure => have := HK1.out; have := HK2.out; have := HK3.out; omega
        case rel => exact ⟨(y387), (wrap64 (x15_3 + 1)), rf_, H', ⟨ho3_ HK1 HK2 HK3⟩, ⟨by (try simp only [hl8_2]); (with_reducible repeat (first | apply Kd.R_alloc | apply Kd.R_drewN | apply Kd.R_drew)); exact HQ63.out⟩, ⟨by (try simp only [hl8_2]); (with_reducible repeat (first | apply Kd.R_alloc | apply Kd.R_drewN | apply Kd.R_drew)); exact (rf1_ HO_8 GG59)⟩, ⟨by (try simp only [hl8_2]); (with_reducible repeat (first | apply Kd.R_alloc | apply Kd.R_drewN | apply Kd.R_drew)); exact (rf1_ HO_10 GG59)⟩, ⟨by (try simp only [hl8_2]); (with_reducible repeat (first | apply Kd.R_alloc | apply Kd.R_drewN | apply Kd.R_drew)); exact Kd.R_mono (Kd.R_far (p := ⟨go59, ((rd x10_2 x15_3) : Int).toNat, none⟩) (Kd.R_mono HO_13.out (fun k_ hk => (⟨hk, fun e_ => hk (by rw [e_]; rfl)⟩ : _ ∧ k_ ≠ go59))) (fun _ hk => hk.2) (.int .i64 (rd t381 x15_3))) (fun _ hk => hk.1)⟩, ⟨by (try simp only [hl8_2]); (with_reducible repeat (first | refine blk_drewN ?_ _ | refine blk_drew ?_ | refine blk_alloc ?_ _)); refine blk_far ?_ (by have h_ := Kd.R_ne HO_7.out BK354.out (by decide); intro e_; exact h_ (by rw [e_]; rfl)) _; (with_reducible repeat (first | refine blk_drewN ?_ _ | refine blk_drew ?_ | refine blk_alloc ?_ _)); exact BK354.out⟩, ⟨hb2_ HB GB59 GE354⟩⟩
     rw [if_pos c19] at H; have c19b0 := decide_eq_true c19; clear c19; replace H := ip_ H; obtain ⟨c20, H⟩ := H; have c20b0 := decide_eq_true c20; clear c20; replace H := ip_ H; obtain ⟨c21, H⟩ := H; have c21b0 := decide_eq_true c21; clear c21; replace H := ip_ H; obtain ⟨c22, H⟩ := H; have c22b0 := decide_eq_true c22
     clear c22; replace H := ip_ H; obtain ⟨c23, H⟩ := H; have c23b0 := decide_eq_true c23; clear c23
     by_cases c24 : (rd l1 x12_2) = (rd l1 x9_1)
     rotate_left
     ·
      rw [if_neg c24] at H; have c24b0 : ((rd l1 x12_2) == (rd l1 x9_1)) = false := beq_eq_false_iff_ne.mpr c24; have c24b1 : ((rd l1 x12_2) != (rd l1 x9_1)) = true := bne_iff_ne.mpr c24; have H' := Aside0.mk H; clear H
      try go_wp2
      replace HO_7 := Aside0.mk (Kd.R_drew HO_7.out); replace HO_8 := Aside0.mk (Kd.R_drew HO_8.out); replace HO_10 := Aside0.mk (Kd.R_drew HO_10.out); replace HO_11 := Aside0.mk (Kd.R_drew HO_11.out); replace BK354 := Aside0.mk (blk_drew BK354.out); replace HB := Aside0.mk (below_drew1 HB.out); have p362 : 0 ≤ (x12_2 : Int) := of_decide_eq_true as_
      have q362 : x12_2 < (l1.length : Int) := of_decide_eq_true as_; obtain ⟨ad362, e362, hx362_0⟩ := Kd.at_int HR1.out x12_2 p362 q362; have hw362_0 := hx362_0; cases e362; replace hx362_0 := hd_ HB hx362_0; replace p362 := eq_true p362; replace q362 := eq_true q362; have p363 : 0 ≤ (x9_1 : Int) := of_decide_eq_true as_
      have q363 : x9_1 < (l1.length : Int) := of_decide_eq_true as_; obtain ⟨ad363, e363, hx363_0⟩ := Kd.at_int HR1.out x9_1 p363 q363; have hw363_0 := hx363_0
      obtain rfl : ad362 = ad363 := (by injection e363)
      replace hx363_0 := hd_ HB hx363_0; replace p363 := eq_true p363; replace q363 := eq_true q363
      refine start_ (n := 9) (S := fun w' => w'.cell? (ad362.add (x12_2).toNat) = some (.int .i64 (rd l1 x12_2)) ∧ w'.cell? (ad362.add (x9_1).toNat) = some (.int .i64 (rd l1 x9_1))) (ds := []) (mk 9 0) (by kernel_rfl) rfl rfl ⟨(hc_ HB hw362_0), (hc_ HB hw363_0)⟩ (fun hHeld => ?_); refine with_tabW haberdashref15_byOrder.tab12 haberdashref15_byOrder.bits12 (fun HT_ HW_ => ?_)
      generalize wr.drew = w44 at HO_7 HO_8 HO_10 HO_11 BK354 HB hx362_0 hx363_0 hHeld ⊢
      refine ahead_ [(0, 39), (1, 40), (2, 41), (4, 43), (5, 44), (6, 45)] ?_
      iterate 6 (refine pB_ HT_ ?_)
      refine aheadE_ (mk 9 119) kr_ ?_
      refine ahead_ [(3, 42), (7, 46)] ?_
      iterate 2 (refine tA_ (v := ?_) (a' := ?_) rfl rfl HT_.out HW_.out (by kernel_rfl) (fun _ _ _ h => h) (Or.inl ⟨by rfl, ?_⟩) hHeld ?_ ?_; rotate_left; (rintro w' ⟨s0, s1⟩; go_simp; with_reducible rfl); rotate_left; (exact pu_))
      refine aheadE_ (mk 9 255) kr_ ?_
      refine pure_ (i := 8) (N := some 47) (v := ?_) (a' := ?_) (mk 9 511) rfl rfl (an_ HT_) nh_ (Or.inl ⟨ry_, ?_⟩) ?_ ?_
      rotate_left; (intro w'; go_simp; with_reducible rfl)
      rotate_left; (exact pu_)
      refine done_ (done_of HT_.out (by kernel_rfl)) ?_
      try go_wp2
      (try simp only [← hl8_2])
      (try rw [show (⟨go26, (x9_1 : Int).toNat, none⟩ : Addr) = Addr.add ⟨go26, 0, none⟩ (x9_1 : Int).toNat from (addr0 _ _).symm])
      go_roundg k2
      case measure => have := HK1.out; have := HK2.out; omega
      case rel => exact ⟨(x8_2), (x10_2), (x11_2), (wrap64 (x12_2 + 1)), rf_, H', ⟨ho2_ HK1 HK2⟩, ⟨by (try simp only [hl8_2]); (with_reducible repeat (first | apply Kd.R_alloc | apply Kd.R_drewN | apply Kd.R_drew)); exact HO_7.out⟩, ⟨by (try simp only [hl8_2]); (with_reducible repeat (first | apply Kd.R_alloc | apply Kd.R_drewN | apply Kd.R_drew)); exact HO_8.out⟩, ⟨by (try simp only [hl8_2]); (with_reducible repeat (first | apply Kd.R_alloc | apply Kd.R_drewN | apply Kd.R_drew)); exact HO_10.out⟩, ⟨by (try simp only [hl8_2]); (with_reducible repeat (first | apply Kd.R_alloc | apply Kd.R_drewN | apply Kd.R_drew)); exact HO_11.out⟩, ⟨by (try simp only [hl8_2]); (with_reducible repeat (first | refine blk_drewN ?_ _ | refine blk_drew ?_ | refine blk_alloc ?_ _)); exact BK354.out⟩, ⟨hb1_ HB GE354⟩⟩
     rw [if_pos c24] at H; have c24b0 : ((rd l1 x12_2) == (rd l1 x9_1)) = true := beq_iff_eq.mpr c24; have c24b1 : ((rd l1 x12_2) != (rd l1 x9_1)) = false := bne_eq_false_iff_eq.mpr c24; clear c24; replace H := ip_ H; obtain ⟨c25, H⟩ := H; have c25b0 := decide_eq_true c25; clear c25; obtain ⟨y364, hy364⟩ : ∃ y_ : List Bool, y_ = (x8_2.set (x12_2 : Int).toNat true) := ⟨_, rfl⟩
     replace H : ((some (([x12_2] : List Int) : List Int)).bind fun y365 => (if x10_2.length + y365.length < 17592186044416 then ((some (([rd l2 x12_2] : List Int) : List Int)).bind fun y372 => (if x11_2.length + y372.length < 17592186044416 then (haberdashref15_byOrder.l1 k2 l1 l2 x7_1 y364 x9_1 (x10_2 ++ y365) (x11_2 ++ y372) (wrap64 (x12_2 + 1)) a0_0 a0_1 a0_2 l0_3) else (none))) else (none))) = some r := hy_ hy364 H
     have Ny364 := Aside0.mk hy364; clear hy364; obtain ⟨y365, hy365⟩ : ∃ y_ : List Int, y_ = (([x12_2] : List Int)) := ⟨_, rfl⟩
     replace H : (if x10_2.length + y365.length < 17592186044416 then ((some (([rd l2 x12_2] : List Int) : List Int)).bind fun y372 => (if x11_2.length + y372.length < 17592186044416 then (haberdashref15_byOrder.l1 k2 l1 l2 x7_1 y364 x9_1 (x10_2 ++ y365) (x11_2 ++ y372) (wrap64 (x12_2 + 1)) a0_0 a0_1 a0_2 l0_3) else (none))) else (none)) = some r := hy_ hy365 H
     have Ny365 := Aside0.mk hy365; clear hy365; replace H := ip_ H; obtain ⟨c27, H⟩ := H; have LMc27 := Aside0.mk c27; clear c27; obtain ⟨y368, hy368⟩ : ∃ y_ : List Int, y_ = (x10_2 ++ y365) := ⟨_, rfl⟩
     replace H : ((some (([rd l2 x12_2] : List Int) : List Int)).bind fun y372 => (if x11_2.length + y372.length < 17592186044416 then (haberdashref15_byOrder.l1 k2 l1 l2 x7_1 y364 x9_1 y368 (x11_2 ++ y372) (wrap64 (x12_2 + 1)) a0_0 a0_1 a0_2 l0_3) else (none))) = some r := hy_ hy368 H
     have Ny368 := Aside0.mk hy368; clear hy368; obtain ⟨y372, hy372⟩ : ∃ y_ : List Int, y_ = (([rd l2 x12_2] : List Int)) := ⟨_, rfl⟩; replace H : (if x11_2.length + y372.length < 17592186044416 then (haberdashref15_byOrder.l1 k2 l1 l2 x7_1 y364 x9_1 y368 (x11_2 ++ y372) (wrap64 (x12_2 + 1)) a0_0 a0_1 a0_2 l0_3) else (none)) = some r := hy_ hy372 H
     have Ny372 := Aside0.mk hy372; clear hy372; replace H := ip_ H; obtain ⟨c28, H⟩ := H; have LMc28 := Aside0.mk c28; clear c28; obtain ⟨y375, hy375⟩ : ∃ y_ : List Int, y_ = (x11_2 ++ y372) := ⟨_, rfl⟩; replace H : (haberdashref15_byOrder.l1 k2 l1 l2 x7_1 y364 x9_1 y368 y375 (wrap64 (x12_2 + 1)) a0_0 a0_1 a0_2 l0_3) = some r := hy_ hy375 H
     have Ny375 := Aside0.mk hy375; clear hy375; have H' := Aside0.mk H; clear H
     try go_wp2
     replace HO_7 := Aside0.mk (Kd.R_drew HO_7.out); replace HO_8 := Aside0.mk (Kd.R_drew HO_8.out); replace HO_10 := Aside0.mk (Kd.R_drew HO_10.out); replace HO_11 := Aside0.mk (Kd.R_drew HO_11.out); replace BK354 := Aside0.mk (blk_drew BK354.out); replace HB := Aside0.mk (below_drew1 HB.out); have p362 : 0 ≤ (x12_2 : Int) := of_decide_eq_true as_
     have q362 : x12_2 < (l1.length : Int) := of_decide_eq_true as_; obtain ⟨ad362, e362, hx362_0⟩ := Kd.at_int HR1.out x12_2 p362 q362; have hw362_0 := hx362_0; cases e362; replace hx362_0 := hd_ HB hx362_0; replace p362 := eq_true p362; replace q362 := eq_true q362; have p363 : 0 ≤ (x9_1 : Int) := of_decide_eq_true as_
     have q363 : x9_1 < (l1.length : Int) := of_decide_eq_true as_; obtain ⟨ad363, e363, hx363_0⟩ := Kd.at_int HR1.out x9_1 p363 q363; have hw363_0 := hx363_0
     obtain rfl : ad362 = ad363 := (by injection e363)
     replace hx363_0 := hd_ HB hx363_0; replace p363 := eq_true p363; replace q363 := eq_true q363
     refine start_ (n := 9) (S := fun w' => w'.cell? (ad362.add (x12_2).toNat) = some (.int .i64 (rd l1 x12_2)) ∧ w'.cell? (ad362.add (x9_1).toNat) = some (.int .i64 (rd l1 x9_1))) (ds := []) (mk 9 0) (by kernel_rfl) rfl rfl ⟨(hc_ HB hw362_0), (hc_ HB hw363_0)⟩ (fun hHeld => ?_); refine with_tabW haberdashref15_byOrder.tab12 haberdashref15_byOrder.bits12 (fun HT_ HW_ => ?_)
     generalize wr.drew = w29 at HO_7 HO_8 HO_10 HO_11 BK354 HB hx362_0 hx363_0 hHeld ⊢
     refine ahead_ [(0, 39), (1, 40), (2, 41), (4, 43), (5, 44), (6, 45)] ?_
     iterate 6 (refine pB_ HT_ ?_)
     refine aheadE_ (mk 9 119) kr_ ?_
     refine ahead_ [(3, 42), (7, 46)] ?_
     iterate 2 (refine tA_ (v := ?_) (a' := ?_) rfl rfl HT_.out HW_.out (by kernel_rfl) (fun _ _ _ h => h) (Or.inl ⟨by rfl, ?_⟩) hHeld ?_ ?_; rotate_left; (rintro w' ⟨s0, s1⟩; go_simp; with_reducible rfl); rotate_left; (exact pu_))
     refine aheadE_ (mk 9 255) kr_ ?_
     refine pure_ (i := 8) (N := some 47) (v := ?_) (a' := ?_) (mk 9 511) rfl rfl (an_ HT_) nh_ (Or.inl ⟨ry_, ?_⟩) ?_ ?_
     rotate_left; (intro w'; go_simp; with_reducible rfl)
     rotate_left; (exact pu_)
     refine done_ (done_of HT_.out (by kernel_rfl)) ?_
     have p26 : 0 ≤ (x12_2 : Int) := of_decide_eq_true as_; have q26 : (x12_2 : Int) < ((x8_2.length : Int) : Int) := of_decide_eq_true as_
     obtain ⟨go26, co26, eo26, gb26, gl26, cl26, HG26⟩ := Kd.R_form HO_8.out (by omega)
     (first | cases eo26 | (injection eo26 with ea_ en_ ec_; (first | subst ea_ | (injection ea_ with ea_; subst ea_)); subst ec_; clear en_))
     have GB26 := Aside0.mk gb26; have GG26 := Aside0.mk HG26; clear gb26 gl26 HG26
     (first | simp only [add_plain] at hx361_0 | skip)
     obtain ⟨hx26_0, hf26_0⟩ := Kd.R_celln false HO_8.out (x12_2 : Int) p26 q26; replace p26 := eq_true p26; replace q26 := eq_true q26; obtain ⟨hy30_, hz30_⟩ := Kd.R_celln false HO_8.out (x12_2 : Int) (of_decide_eq_true as_) (of_decide_eq_true as_); have HP30 := Kd.R_putg HO_8.out (x12_2 : Int) true
     try go_wp2_with (first | ((with_reducible refine gate_store (t := 4) (p := 50) rfl ?_); refine store_event (t := 4) (p := 50) (v := ?vo_w31) (w1 := (w29.setCell ⟨go26, (x12_2 : Int).toNat, none⟩ (.bool true))) ?hg ?ho ?hn ?hr ?_; (case ho => rfl); (case hg => rfl); (case hn => rfl); (case hr => first | (go_simp; done) | (go_simp; rfl)); intro w31 hw; have hg : w29.grownBy w31 (some go26) := (by rw [hw]; exact HP30.2); have hp_ : Kd.R Kd.bool 4 w31 w.heap.size (fun _ => True) (.slice (some ⟨go26, 0, none⟩) x8_2.length co18) y364 := (by rw [hw, Ny364.out]; exact HP30.1); clear HP30; replace HO_7 := Aside0.mk (Kd.R_over' (v := (.slice (some ⟨go26, 0, none⟩) x8_2.length co18)) (ro_ HO_7) (Kd.R_typed HO_8.out) (by decide) hg); replace HO_10 := Aside0.mk (Kd.R_over' (v := (.slice (some ⟨go26, 0, none⟩) x8_2.length co18)) (ro_ HO_10) (Kd.R_typed HO_8.out) (by decide) hg); replace HO_11 := Aside0.mk (Kd.R_over' (v := (.slice (some ⟨go26, 0, none⟩) x8_2.length co18)) (ro_ HO_11) (Kd.R_typed HO_8.out) (by decide) hg); replace BK354 := Aside0.mk (blk_grown (g := gb354) (o := .cells #[.bool a0_0, .bool a0_1, .int .i64 a0_2, .slice A0_3 l0_3.length c0_3] 24 (0, 0)) (bk_ BK354) hg (Kd.R_ne HO_8.out BK354.out (by decide))); replace HO_8 := Aside0.mk hp_; replace HB := Aside0.mk ((by rw [hw]; exact below_set (HB.out) GB26.out : Below w.heap.size w w31)); clear hg hw hp_; obtain ⟨Ao32, co32, eo32⟩ := Kd.R_slice HO_10.out; subst eo32; obtain ⟨Ao33, co33, eo33⟩ := Kd.R_slice HO_11.out; subst eo33))
     replace HO_7 := Aside0.mk (Kd.R_drew HO_7.out); replace HO_8 := Aside0.mk (Kd.R_drew HO_8.out); replace HO_10 := Aside0.mk (Kd.R_drew HO_10.out); replace HO_11 := Aside0.mk (Kd.R_drew HO_11.out); replace BK354 := Aside0.mk (blk_drew BK354.out); replace HB := Aside0.mk (below_drew1 HB.out); have p371 : 0 ≤ (x12_2 : Int) := of_decide_eq_true as_
     have q371 : x12_2 < (l2.length : Int) := of_decide_eq_true as_; obtain ⟨ad371, e371, hx371_0⟩ := Kd.at_int HR2.out x12_2 p371 q371; have hw371_0 := hx371_0; cases e371; replace hx371_0 := hd_ HB hx371_0; replace p371 := eq_true p371; replace q371 := eq_true q371
     refine start_ (n := 13) (S := fun w' => w'.cell? (ad371.add (x12_2).toNat) = some (.int .i64 (rd l2 x12_2))) (ds := []) (mk 13 0) (by kernel_rfl) rfl rfl ((hc_ HB hw371_0)) (fun hHeld => ?_); refine with_tabW haberdashref15_byOrder.tab14 haberdashref15_byOrder.bits14 (fun HT_ HW_ => ?_)
     generalize w31.drew = w34 at HO_7 HO_8 HO_10 HO_11 BK354 HB hx371_0 hHeld ⊢
     refine ahead_ [(0, 51), (1, 52), (4, 55), (5, 56), (6, 57), (7, 58)] ?_
     iterate 6 (refine pB_ HT_ ?_)
     refine aheadE_ (mk 13 243) kr_ ?_
     refine take_ (i := 8) (N := some 59) (v := ?_) (a' := ?_) (mk 13 499) rfl rfl (tw_ HT_ HW_) nh_ (Or.inl ⟨by rfl, ?_⟩) hHeld ?_ ?_
     rotate_left
     ·
      intro w' s0
      go_simp
      with_reducible rfl
     rotate_left; (exact pu_)
     refine join_ (σ := Value × Value × Value) 3 (mk 13 1023) (fun s_ => [(53, s_.1), (54, s_.2.1), (60, s_.2.2)]) (fun s_ w' => (w'.cell? (ad371.add (x12_2).toNat) = some (.int .i64 (rd l2 x12_2))) ∧ (Kd.R (Kd.int .i64) 3 w' w.heap.size (fun k_ => some k_ ≠ (s_.2.1 : Value).ownBlock) s_.1 y365) ∧ (Kd.R (Kd.int .i64) 3 w' w.heap.size (fun k_ => some k_ ≠ (s_.1 : Value).ownBlock) s_.2.1 y368) ∧ (Kd.R (Kd.int .i64) 2 w' w.heap.size (fun k_ => some k_ ≠ (.slice Ao33 x11_2.length co33 : Value).ownBlock ∧ some k_ ≠ (v356 : Value).ownBlock) s_.2.2 y372) ∧ (Kd.R (Kd.int .i64) 2 w' w.heap.size (fun k_ => some k_ ≠ (s_.2.2 : Value).ownBlock ∧ some k_ ≠ (v356 : Value).ownBlock) (.slice Ao33 x11_2.length co33) x11_2) ∧ (Kd.R (Kd.int .i64) 2 w' w.heap.size (fun k_ => some k_ ≠ (s_.2.2 : Value).ownBlock ∧ some k_ ≠ (.slice Ao33 x11_2.length co33 : Value).ownBlock) v356 x7_1) ∧ (Kd.R Kd.bool 4 w' w.heap.size (fun _ => True) (.slice (some ⟨go26, 0, none⟩) x8_2.length co18) y364) ∧ (w'.heap[gb354]? = some (.cells #[.bool a0_0, .bool a0_1, .int .i64 a0_2, .slice A0_3 l0_3.length c0_3] 24 (0, 0))) ∧ (Below w.heap.size w w')) ?_ ?_
     rotate_left
     ·
      intro hCont
      refine two_ (i := 2) (j := 9) (Ni := some 53) (Nj := some 60) (mk 13 503) (mk 13 1011) rfl rfl rfl rfl (two_of HT_.out (by kernel_rfl)) (by decide) (by decide) (fun K hK => ?_) (fun K hK => ?_)
      ·
       skip
       refine Kd.R_lit_step (Kd.int .i64) _ 3 rf_ (N := 53) rf_ (xs := ([x12_2] : List Int)) (inner := [.int .i64 x12_2]) (ok := fun _ => True) (okp := fun _ => True) lr_ ?hp (fun _ hk => hk) trivial (Below.refl _ _) (Nat.le_refl _) (by simp) ?_; (case hp => exact (Reps.one (show Kd.M (Kd.int .i64) _ _ _ x12_2 [.int .i64 x12_2] from rfl) (Reps.none _ _)))
       intro v366 w35 ho36 hb hg_ hnew_
       clear hg_ hnew_
       (first | rw [← Ny365.out] at ho36 | (simp only [Int.reduceToNat] at ho36; rw [← Ny365.out] at ho36))
       replace HO_7 := Aside0.mk (Kd.R_below (ro_ HO_7) hb); replace HO_8 := Aside0.mk (Kd.R_below (ro_ HO_8) hb); replace HO_11 := Aside0.mk (Kd.R_below (ro_ HO_11) hb); have HO367 := Aside0.mk (Kd.R_lower (Kd.R_new' ho36 (Kd.R_lt (ro_ HO_10))) (below_size (hb1_ HB GE354))); replace HO_10 := Aside0.mk (Kd.R_elder' (ro_ HO_10) (Kd.R_base ho36) hb)
       replace BK354 := Aside0.mk (bb_ BK354 hb); replace HB := Aside0.mk (below_step (hb1_ HB GE354) hb); clear hb ho36; obtain ⟨Ao38, co38, eo38⟩ := Kd.R_slice HO367.out
       (first | subst eo38 | (injection eo38 with f1_ f2_ f3_; have f4_ := f1_.symm; have f5_ := f3_.symm; clear f1_ f2_ f3_; subst f4_; subst f5_))
       refine hK.out _ _ ((hc_ HB hw371_0)) (fun hHeld => ?_)
       clear hK K
       refine norm_ pv_ ?_
       refine two_ (i := 3) (j := 9) (Ni := some 54) (Nj := some 60) (mk 13 511) (mk 13 1015) rfl rfl rfl rfl (two_of HT_.out (by kernel_rfl)) (by decide) (by decide) (fun K hK => ?_) (fun K hK => ?_)
       ·
        skip
        refine Kd.R_append_rows_step (Kd.int .i64) (w0 := w) w.heap.size (by rfl) (.tmp 51) (.tmp 53) 44 3 (.int .i64 0) 8 rfl Try.underlying44 info3 rfl (by decide) (by omega) (.slice Ao32 x10_2.length co32) x10_2 y365 _ _ _ (fun k_ => some k_ ≠ (.slice Ao38 y365.length co38 : Value).ownBlock) (fun _ => False) rfl rfl ?aO ?aR (fun _ _ h => h) (fun _ h => h.elim) ?aF ?aB ?aS ?aL ?_
        (case aR => exact sc_ (Kd.R_reads' HO367.out).2.2)
        (case aB => exact (hb1_ HB GE354))
        (case aF => exact (fun k_ hk => Kd.fresh' (Kd.R_lt (ro_ HO367)) k_ hk))
        (case aO => exact (rm_ HO_10 (fun _ hk => hk.2)))
        (case aS => exact (below_size (hb1_ HB GE354)))
        (case aL => have := LMc27.out; omega)
        intro v369 w37 ho hb hg hat
        rw [← Ny368.out] at ho
        have n0_ := Aside0.mk (Kd.R_over' (ro_ HO_7) (Kd.R_typed (ro_ HO_10)) (by decide) hg)
        have n1_ := Aside0.mk (Kd.R_over' (ro_ HO_8) (Kd.R_typed (ro_ HO_10)) (by decide) hg)
        have n2_ := Aside0.mk (Kd.R_over' (ro_ HO_11) (Kd.R_typed (ro_ HO_10)) (by decide) hg)
        have n3_ := Aside0.mk (blk_grown (g := gb354) (o := .cells #[.bool a0_0, .bool a0_1, .int .i64 a0_2, .slice A0_3 l0_3.length c0_3] 24 (0, 0)) (bk_ BK354) hg (Kd.R_ne HO_10.out BK354.out (by decide)))
        have n4_ := Aside0.mk (Kd.R_after (ok := (fun _ => True)) (ro_ HO367) hg hat)
        have n5_ := Aside0.mk hb; have n6_ := Aside0.mk ho; clear HO_7; clear HO_8; clear HO_11; clear BK354; clear HO367; clear HB; clear HO_10; have HO_7 := n0_; have HO_8 := n1_; have HO_11 := n2_; have BK354 := n3_; have HO367 := n4_; have HB := n5_; have HO370 := n6_; clear n0_ n1_ n2_ n3_ n4_ n5_ n6_
        clear ho hb hg hat
        refine hK.out _ _ ((hc_ HB hw371_0)) (fun hHeld => ?_)
        clear hK K
        refine norm_ pv_ ?_
        refine one_ (i := 9) (N := some 60) (mk 13 1023) rfl rfl (on_ HT_) de_ (fun K hK => ?_)
        refine Kd.R_lit_step (Kd.int .i64) _ 2 rf_ (N := 60) rf_ (xs := ([rd l2 x12_2] : List Int)) (inner := [.int .i64 (rd l2 x12_2)]) (ok := fun _ => True) (okp := fun _ => True) lr_ ?hp (fun _ hk => hk) trivial (Below.refl _ _) (Nat.le_refl _) (by simp) ?_; (case hp => exact (Reps.one (show Kd.M (Kd.int .i64) _ _ _ (rd l2 x12_2) [.int .i64 (rd l2 x12_2)] from rfl) (Reps.none _ _)))
        intro v373 w39 ho40 hb hg_ hnew_
        clear hg_ hnew_
        (first | rw [← Ny372.out] at ho40 | (simp only [Int.reduceToNat] at ho40; rw [← Ny372.out] at ho40))
        replace HO_8 := Aside0.mk (Kd.R_below (ro_ HO_8) hb); replace HO367 := Aside0.mk (Kd.R_below (ro_ HO367) hb); replace HO370 := Aside0.mk (Kd.R_below (ro_ HO370) hb); have HO374 := Aside0.mk (Kd.R_lower (Kd.R_new' (Kd.R_new' ho40 (Kd.R_lt (ro_ HO_7))) (Kd.R_lt (ro_ HO_11))) (below_size (hb1_ HB GE354)))
        replace HO_7 := Aside0.mk (Kd.R_elder' (ro_ HO_7) (Kd.R_base ho40) hb); replace HO_11 := Aside0.mk (Kd.R_elder' (ro_ HO_11) (Kd.R_base ho40) hb); replace BK354 := Aside0.mk (bb_ BK354 hb); replace HB := Aside0.mk (below_step (hb1_ HB GE354) hb); clear hb ho40
        refine hK.out _ _ ((hc_ HB hw371_0)) (fun hHeld => ?_)
        clear hK K
        refine norm_ pv_ ?_
        exact norm_ (by simp only [putAll, Act.put, List.setIfInBounds_toArray, List.set_cons_zero, List.set_cons_succ]) (hCont (.slice Ao38 y365.length co38, v369, v373) _ ⟨hHeld, (rm_ HO367 (fun _ hk => hk.2)), (ro_ HO370), (rm_ HO374 (fun _ hk => ⟨hk.2, hk.1.2⟩)), (rm_ HO_11 (fun _ hk => ⟨hk.2, hk.1⟩)), (rm_ HO_7 (fun _ hk => ⟨hk.2, hk.1⟩)), (ro_ HO_8), (bk_ BK354), (hb1_ HB GE354)⟩)
       ·
        skip
        refine Kd.R_lit_step (Kd.int .i64) _ 2 rf_ (N := 60) rf_ (xs := ([rd l2 x12_2] : List Int)) (inner := [.int .i64 (rd l2 x12_2)]) (ok := fun _ => True) (okp := fun _ => True) lr_ ?hp (fun _ hk => hk) trivial (Below.refl _ _) (Nat.le_refl _) (by simp) ?_; (case hp => exact (Reps.one (show Kd.M (Kd.int .i64) _ _ _ (rd l2 x12_2) [.int .i64 (rd l2 x12_2)] from rfl) (Reps.none _ _)))
        intro v373 w37 ho38 hb hg_ hnew_
        clear hg_ hnew_
        (first | rw [← Ny372.out] at ho38 | (simp only [Int.reduceToNat] at ho38; rw [← Ny372.out] at ho38))
        replace HO_8 := Aside0.mk (Kd.R_below (ro_ HO_8) hb); replace HO_10 := Aside0.mk (Kd.R_below (ro_ HO_10) hb); replace HO367 := Aside0.mk (Kd.R_below (ro_ HO367) hb); have HO374 := Aside0.mk (Kd.R_lower (Kd.R_new' (Kd.R_new' ho38 (Kd.R_lt (ro_ HO_7))) (Kd.R_lt (ro_ HO_11))) (below_size (hb1_ HB GE354)))
        replace HO_7 := Aside0.mk (Kd.R_elder' (ro_ HO_7) (Kd.R_base ho38) hb); replace HO_11 := Aside0.mk (Kd.R_elder' (ro_ HO_11) (Kd.R_base ho38) hb); replace BK354 := Aside0.mk (bb_ BK354 hb); replace HB := Aside0.mk (below_step (hb1_ HB GE354) hb); clear hb ho38; obtain ⟨Ao40, co40, eo40⟩ := Kd.R_slice HO367.out
        (first | subst eo40 | (injection eo40 with f1_ f2_ f3_; have f4_ := f1_.symm; have f5_ := f3_.symm; clear f1_ f2_ f3_; subst f4_; subst f5_))
        refine hK.out _ _ ((hc_ HB hw371_0)) (fun hHeld => ?_)
        clear hK K
        refine norm_ pv_ ?_
        refine one_ (i := 3) (N := some 54) (mk 13 1023) rfl rfl (on_ HT_) de_ (fun K hK => ?_)
        refine Kd.R_append_rows_step (Kd.int .i64) (w0 := w) w.heap.size (by rfl) (.tmp 51) (.tmp 53) 44 3 (.int .i64 0) 8 rfl Try.underlying44 info3 rfl (by decide) (by omega) (.slice Ao32 x10_2.length co32) x10_2 y365 _ _ _ (fun k_ => some k_ ≠ (.slice Ao40 y365.length co40 : Value).ownBlock) (fun _ => False) rfl rfl ?aO ?aR (fun _ _ h => h) (fun _ h => h.elim) ?aF ?aB ?aS ?aL ?_
        (case aR => exact sc_ (Kd.R_reads' HO367.out).2.2)
        (case aB => exact (hb1_ HB GE354))
        (case aF => exact (fun k_ hk => Kd.fresh' (Kd.R_lt (ro_ HO367)) k_ hk))
        (case aO => exact (rm_ HO_10 (fun _ hk => hk.2)))
        (case aS => exact (below_size (hb1_ HB GE354)))
        (case aL => have := LMc27.out; omega)
        intro v369 w39 ho hb hg hat
        rw [← Ny368.out] at ho
        have n0_ := Aside0.mk (Kd.R_over' (ro_ HO_7) (Kd.R_typed (ro_ HO_10)) (by decide) hg)
        have n1_ := Aside0.mk (Kd.R_over' (ro_ HO_8) (Kd.R_typed (ro_ HO_10)) (by decide) hg)
        have n2_ := Aside0.mk (Kd.R_over' (ro_ HO_11) (Kd.R_typed (ro_ HO_10)) (by decide) hg)
        have n3_ := Aside0.mk (blk_grown (g := gb354) (o := .cells #[.bool a0_0, .bool a0_1, .int .i64 a0_2, .slice A0_3 l0_3.length c0_3] 24 (0, 0)) (bk_ BK354) hg (Kd.R_ne HO_10.out BK354.out (by decide)))
        have n4_ := Aside0.mk (Kd.R_after (ok := (fun _ => True)) (ro_ HO367) hg hat)
        have n5_ := Aside0.mk (Kd.R_over' (ro_ HO374) (Kd.R_typed (ro_ HO_10)) (by decide) hg)
        have n6_ := Aside0.mk hb; have n7_ := Aside0.mk ho; clear HO_7; clear HO_8; clear HO_11; clear BK354; clear HO367; clear HO374; clear HB; clear HO_10; have HO_7 := n0_; have HO_8 := n1_; have HO_11 := n2_; have BK354 := n3_; have HO367 := n4_; have HO374 := n5_; have HB := n6_; have HO370 := n7_
        clear n0_ n1_ n2_ n3_ n4_ n5_ n6_ n7_; clear ho hb hg hat
        refine hK.out _ _ ((hc_ HB hw371_0)) (fun hHeld => ?_)
        clear hK K
        refine norm_ pv_ ?_
        exact norm_ (by simp only [putAll, Act.put, List.setIfInBounds_toArray, List.set_cons_zero, List.set_cons_succ]) (hCont (.slice Ao40 y365.length co40, v369, v373) _ ⟨hHeld, (rm_ HO367 (fun _ hk => hk.2)), (ro_ HO370), (rm_ HO374 (fun _ hk => ⟨hk.2, hk.1.2⟩)), (rm_ HO_11 (fun _ hk => ⟨hk.2, hk.1⟩)), (rm_ HO_7 (fun _ hk => ⟨hk.2, hk.1⟩)), (ro_ HO_8), (bk_ BK354), (hb1_ HB GE354)⟩)
      ·
       skip
       refine Kd.R_lit_step (Kd.int .i64) _ 2 rf_ (N := 60) rf_ (xs := ([rd l2 x12_2] : List Int)) (inner := [.int .i64 (rd l2 x12_2)]) (ok := fun _ => True) (okp := fun _ => True) lr_ ?hp (fun _ hk => hk) trivial (Below.refl _ _) (Nat.le_refl _) (by simp) ?_; (case hp => exact (Reps.one (show Kd.M (Kd.int .i64) _ _ _ (rd l2 x12_2) [.int .i64 (rd l2 x12_2)] from rfl) (Reps.none _ _)))
       intro v373 w35 ho36 hb hg_ hnew_
       clear hg_ hnew_
       (first | rw [← Ny372.out] at ho36 | (simp only [Int.reduceToNat] at ho36; rw [← Ny372.out] at ho36))
       replace HO_8 := Aside0.mk (Kd.R_below (ro_ HO_8) hb); replace HO_10 := Aside0.mk (Kd.R_below (ro_ HO_10) hb); have HO374 := Aside0.mk (Kd.R_lower (Kd.R_new' (Kd.R_new' ho36 (Kd.R_lt (ro_ HO_7))) (Kd.R_lt (ro_ HO_11))) (below_size (hb1_ HB GE354))); replace HO_7 := Aside0.mk (Kd.R_elder' (ro_ HO_7) (Kd.R_base ho36) hb)
       replace HO_11 := Aside0.mk (Kd.R_elder' (ro_ HO_11) (Kd.R_base ho36) hb); replace BK354 := Aside0.mk (bb_ BK354 hb); replace HB := Aside0.mk (below_step (hb1_ HB GE354) hb); clear hb ho36
       refine hK.out _ _ ((hc_ HB hw371_0)) (fun hHeld => ?_)
       clear hK K
       refine norm_ pv_ ?_
       refine one_ (i := 2) (N := some 53) (mk 13 1015) rfl rfl (on_ HT_) de_ (fun K hK => ?_)
       refine Kd.R_lit_step (Kd.int .i64) _ 3 rf_ (N := 53) rf_ (xs := ([x12_2] : List Int)) (inner := [.int .i64 x12_2]) (ok := fun _ => True) (okp := fun _ => True) lr_ ?hp (fun _ hk => hk) trivial (Below.refl _ _) (Nat.le_refl _) (by simp) ?_; (case hp => exact (Reps.one (show Kd.M (Kd.int .i64) _ _ _ x12_2 [.int .i64 x12_2] from rfl) (Reps.none _ _)))
       intro v366 w37 ho38 hb hg_ hnew_
       clear hg_ hnew_
       (first | rw [← Ny365.out] at ho38 | (simp only [Int.reduceToNat] at ho38; rw [← Ny365.out] at ho38))
       replace HO_7 := Aside0.mk (Kd.R_below (ro_ HO_7) hb); replace HO_8 := Aside0.mk (Kd.R_below (ro_ HO_8) hb); replace HO_11 := Aside0.mk (Kd.R_below (ro_ HO_11) hb); replace HO374 := Aside0.mk (Kd.R_below (ro_ HO374) hb); have HO367 := Aside0.mk (Kd.R_lower (Kd.R_new' ho38 (Kd.R_lt (ro_ HO_10))) (below_size (hb1_ HB GE354)))
       replace HO_10 := Aside0.mk (Kd.R_elder' (ro_ HO_10) (Kd.R_base ho38) hb); replace BK354 := Aside0.mk (bb_ BK354 hb); replace HB := Aside0.mk (below_step (hb1_ HB GE354) hb); clear hb ho38; obtain ⟨Ao40, co40, eo40⟩ := Kd.R_slice HO367.out
       (first | subst eo40 | (injection eo40 with f1_ f2_ f3_; have f4_ := f1_.symm; have f5_ := f3_.symm; clear f1_ f2_ f3_; subst f4_; subst f5_))
       refine hK.out _ _ ((hc_ HB hw371_0)) (fun hHeld => ?_)
       clear hK K
       refine norm_ pv_ ?_
       refine one_ (i := 3) (N := some 54) (mk 13 1023) rfl rfl (on_ HT_) de_ (fun K hK => ?_)
       refine Kd.R_append_rows_step (Kd.int .i64) (w0 := w) w.heap.size (by rfl) (.tmp 51) (.tmp 53) 44 3 (.int .i64 0) 8 rfl Try.underlying44 info3 rfl (by decide) (by omega) (.slice Ao32 x10_2.length co32) x10_2 y365 _ _ _ (fun k_ => some k_ ≠ (.slice Ao40 y365.length co40 : Value).ownBlock) (fun _ => False) rfl rfl ?aO ?aR (fun _ _ h => h) (fun _ h => h.elim) ?aF ?aB ?aS ?aL ?_
       (case aR => exact sc_ (Kd.R_reads' HO367.out).2.2)
       (case aB => exact (hb1_ HB GE354))
       (case aF => exact (fun k_ hk => Kd.fresh' (Kd.R_lt (ro_ HO367)) k_ hk))
       (case aO => exact (rm_ HO_10 (fun _ hk => hk.2)))
       (case aS => exact (below_size (hb1_ HB GE354)))
       (case aL => have := LMc27.out; omega)
       intro v369 w39 ho hb hg hat
       rw [← Ny368.out] at ho
       have n0_ := Aside0.mk (Kd.R_over' (ro_ HO_7) (Kd.R_typed (ro_ HO_10)) (by decide) hg)
       have n1_ := Aside0.mk (Kd.R_over' (ro_ HO_8) (Kd.R_typed (ro_ HO_10)) (by decide) hg)
       have n2_ := Aside0.mk (Kd.R_over' (ro_ HO_11) (Kd.R_typed (ro_ HO_10)) (by decide) hg)
       have n3_ := Aside0.mk (blk_grown (g := gb354) (o := .cells #[.bool a0_0, .bool a0_1, .int .i64 a0_2, .slice A0_3 l0_3.length c0_3] 24 (0, 0)) (bk_ BK354) hg (Kd.R_ne HO_10.out BK354.out (by decide)))
       have n4_ := Aside0.mk (Kd.R_over' (ro_ HO374) (Kd.R_typed (ro_ HO_10)) (by decide) hg)
       have n5_ := Aside0.mk (Kd.R_after (ok := (fun _ => True)) (ro_ HO367) hg hat)
       have n6_ := Aside0.mk hb; have n7_ := Aside0.mk ho; clear HO_7; clear HO_8; clear HO_11; clear BK354; clear HO374; clear HO367; clear HB; clear HO_10; have HO_7 := n0_; have HO_8 := n1_; have HO_11 := n2_; have BK354 := n3_; have HO374 := n4_; have HO367 := n5_; have HB := n6_; have HO370 := n7_
       clear n0_ n1_ n2_ n3_ n4_ n5_ n6_ n7_; clear ho hb hg hat
       refine hK.out _ _ ((hc_ HB hw371_0)) (fun hHeld => ?_)
       clear hK K
       refine norm_ pv_ ?_
       exact norm_ (by simp only [putAll, Act.put, List.setIfInBounds_toArray, List.set_cons_zero, List.set_cons_succ]) (hCont (.slice Ao40 y365.length co40, v369, v373) _ ⟨hHeld, (rm_ HO367 (fun _ hk => hk.2)), (ro_ HO370), (rm_ HO374 (fun _ hk => ⟨hk.2, hk.1.2⟩)), (rm_ HO_11 (fun _ hk => ⟨hk.2, hk.1⟩)), (rm_ HO_7 (fun _ hk => ⟨hk.2, hk.1⟩)), (ro_ HO_8), (bk_ BK354), (hb1_ HB GE354)⟩)
     rintro ⟨v366, v369, v373⟩ w41 ⟨hS_, h0_, h1_, h2_, h3_, h4_, h5_, h6_, h7_⟩
     have n0_ : Aside0 (Kd.R (Kd.int .i64) 3 w41 w.heap.size (fun k_ => some k_ ≠ (v369 : Value).ownBlock) v366 y365) := ⟨h0_⟩
     have n1_ : Aside0 (Kd.R (Kd.int .i64) 3 w41 w.heap.size (fun k_ => some k_ ≠ (v366 : Value).ownBlock) v369 y368) := ⟨h1_⟩
     have n2_ : Aside0 (Kd.R (Kd.int .i64) 2 w41 w.heap.size (fun k_ => some k_ ≠ (.slice Ao33 x11_2.length co33 : Value).ownBlock ∧ some k_ ≠ (v356 : Value).ownBlock) v373 y372) := ⟨h2_⟩
     have n3_ : Aside0 (Kd.R (Kd.int .i64) 2 w41 w.heap.size (fun k_ => some k_ ≠ (v373 : Value).ownBlock ∧ some k_ ≠ (v356 : Value).ownBlock) (.slice Ao33 x11_2.length co33) x11_2) := ⟨h3_⟩
     have n4_ : Aside0 (Kd.R (Kd.int .i64) 2 w41 w.heap.size (fun k_ => some k_ ≠ (v373 : Value).ownBlock ∧ some k_ ≠ (.slice Ao33 x11_2.length co33 : Value).ownBlock) v356 x7_1) := ⟨h4_⟩
     have n5_ : Aside0 (Kd.R Kd.bool 4 w41 w.heap.size (fun _ => True) (.slice (some ⟨go26, 0, none⟩) x8_2.length co18) y364) := ⟨h5_⟩
     have n6_ : Aside0 (w41.heap[gb354]? = some (.cells #[.bool a0_0, .bool a0_1, .int .i64 a0_2, .slice A0_3 l0_3.length c0_3] 24 (0, 0))) := ⟨h6_⟩; have n7_ : Aside0 (Below w.heap.size w w41) := ⟨h7_⟩; clear HO_7; clear HO_8; clear HO_10; clear HO_11; clear BK354; clear HB; clear h0_ h1_ h2_ h3_ h4_ h5_ h6_ h7_
     have HO367 := n0_; have HO370 := n1_; have HO374 := n2_; have HO_11 := n3_; have HO_7 := n4_; have HO_8 := n5_; have BK354 := n6_; have HB := n7_; clear n0_ n1_ n2_ n3_ n4_ n5_ n6_ n7_; have hHeld : w41.cell? (ad371.add (x12_2).toNat) = some (.int .i64 (rd l2 x12_2)) := hS_; obtain ⟨Ao43, co43, eo43⟩ := Kd.R_slice HO374.out
     (first | subst eo43 | (injection eo43 with f1_ f2_ f3_; have f4_ := f1_.symm; have f5_ := f3_.symm; clear f1_ f2_ f3_; subst f4_; subst f5_))
     refine norm_ (a' := ?_) ?_ ?_
     rotate_left
     ·
      simp only [putAll, Act.put, List.setIfInBounds_toArray, List.set_cons_zero, List.set_cons_succ]
      rfl
     refine one_ (i := 10) (N := some 61) (mk 13 2047) rfl rfl (on_ HT_) de_ (fun K hK => ?_)
     refine Kd.R_append_rows_step (Kd.int .i64) (w0 := w) w.heap.size (by rfl) (.tmp 55) (.tmp 60) 26 2 (.int .i64 0) 8 rfl Try.underlying26 info2 rfl (by decide) (by omega) (.slice Ao33 x11_2.length co33) x11_2 y372 _ _ _ (fun k_ => some k_ ≠ (v356 : Value).ownBlock ∧ some k_ ≠ (.slice Ao43 y372.length co43 : Value).ownBlock) (fun _ => False) rfl rfl ?aO ?aR (fun _ _ h => h) (fun _ h => h.elim) ?aF ?aB ?aS ?aL ?_
     (case aR => exact sc_ (Kd.R_reads' HO374.out).2.2)
     (case aB => exact (hb1_ HB GE354))
     (case aF => exact (fun k_ hk => ⟨Kd.fresh' (Kd.R_lt (ro_ HO_7)) k_ hk, Kd.fresh' (Kd.R_lt (ro_ HO374)) k_ hk⟩))
     (case aO => exact (rm_ HO_11 (fun _ hk => ⟨hk.2, hk.1⟩)))
     (case aS => exact (below_size (hb1_ HB GE354)))
     (case aL => have := LMc28.out; omega)
     intro v376 w42 ho hb hg hat
     rw [← Ny375.out] at ho
     have n0_ := Aside0.mk (Kd.R_after (ok := (fun k_ => some k_ ≠ (.slice Ao43 y372.length co43 : Value).ownBlock)) (ro_ HO_7) hg hat)
     have n1_ := Aside0.mk (Kd.R_over' (ro_ HO_8) (Kd.R_typed (ro_ HO_11)) (by decide) hg)
     have n2_ := Aside0.mk (blk_grown (g := gb354) (o := .cells #[.bool a0_0, .bool a0_1, .int .i64 a0_2, .slice A0_3 l0_3.length c0_3] 24 (0, 0)) (bk_ BK354) hg (Kd.R_ne HO_11.out BK354.out (by decide)))
     have n3_ := Aside0.mk (Kd.R_over' (ro_ HO367) (Kd.R_typed (ro_ HO_11)) (by decide) hg)
     have n4_ := Aside0.mk (Kd.R_over' (ro_ HO370) (Kd.R_typed (ro_ HO_11)) (by decide) hg)
     have n5_ := Aside0.mk (Kd.R_after (ok := (fun k_ => some k_ ≠ (v356 : Value).ownBlock)) (rm_ HO374 (fun _ hk => ⟨hk.2, hk.1⟩)) hg hat)
     have n6_ := Aside0.mk hb; have n7_ := Aside0.mk ho; clear HO_7; clear HO_8; clear BK354; clear HO367; clear HO370; clear HO374; clear HB; clear HO_11; have HO_7 := n0_; have HO_8 := n1_; have BK354 := n2_; have HO367 := n3_; have HO370 := n4_; have HO374 := n5_; have HB := n6_; have HO377 := n7_
     clear n0_ n1_ n2_ n3_ n4_ n5_ n6_ n7_; clear ho hb hg hat
     refine hK.out _ _ ((hc_ HB hw371_0)) (fun hHeld => ?_)
     clear hK K
     refine norm_ pv_ ?_
     refine ahead_ [(11, 10), (12, 11)] ?_
     iterate 2 (refine pB_ HT_ ?_)
     refine aheadE_ (mk 13 8191) kr_ ?_
     refine done_ (done_of HT_.out (by kernel_rfl)) ?_
     try go_wp2
     (try simp only [← hl8_2])
     (try rw [show (⟨go26, (x9_1 : Int).toNat, none⟩ : Addr) = Addr.add ⟨go26, 0, none⟩ (x9_1 : Int).toNat from (addr0 _ _).symm])
     go_roundg k2
     case measure => have := HK1.out; have := HK2.out; omega
     case rel => exact ⟨(y364), (y368), (y375), (wrap64 (x12_2 + 1)), rf_, H', ⟨ho2_ HK1 HK2⟩, ⟨by (try simp only [hl8_2]); (with_reducible repeat (first | apply Kd.R_alloc | apply Kd.R_drewN | apply Kd.R_drew)); exact Kd.R_mono HO_7.out (fun _ hk => hk.2)⟩, ⟨by (try simp only [hl8_2]); (with_reducible repeat (first | apply Kd.R_alloc | apply Kd.R_drewN | apply Kd.R_drew)); exact HO_8.out⟩, ⟨by (try simp only [hl8_2]); (with_reducible repeat (first | apply Kd.R_alloc | apply Kd.R_drewN | apply Kd.R_drew)); exact Kd.R_mono HO370.out (fun _ hk => trivial)⟩, ⟨by (try simp only [hl8_2]); (with_reducible repeat (first | apply Kd.R_alloc | apply Kd.R_drewN | apply Kd.R_drew)); exact Kd.R_mono HO377.out (fun _ hk => hk.1)⟩, ⟨by (try simp only [hl8_2]); (with_reducible repeat (first | refine blk_drewN ?_ _ | refine blk_drew ?_ | refine blk_alloc ?_ _)); exact BK354.out⟩, ⟨hb1_ HB GE354⟩⟩

end Go.Proofs.Ytmiamdnhofjifaa.Rw
end
section
/- Functions of the program as Lean functions, each with its contract: out of what the kit's printer wrote for this seat. -/
namespace Go.Proofs.Ytmiamdnhofjifaa.Rw
open Go.RowKit Go.Proofs.YtmiamdnhofjifaaW.PrintWords Go.Proofs.YtmiamdnhofjifaaW.PrintLast Go.Proofs.YtmiamdnhofjifaaW.PrintMore
attribute [local go_sem] max2_int min2_int max_two min_two max_three min_three max_four min_four   -- for this text's walks alone
set_option linter.unusedVariables false
set_option linter.unusedSimpArgs false
attribute [local go_sem high] leqS gtrS

/-! ### haberdashref15_Levy: function 12 -/
mutual
def haberdashref15_Levy.j0 : Nat → ByteArray → Bool → List ByteArray → List Int → Int → Bool → Bool → Bool → Int → List (S51) → Option (List Int × List Int × Int × Int × Int)
 | 0, _, _, _, _, _, _, _, _, _, _ => none
 | k + 1, x1, x2, x3, x4, x5, x44, x389000, x389001, x389002, x389003 => if x44 = true then (some (([] : List Int), ([] : List Int), 0, 0, 2)) else (haberdashref15_Levy.l0 k x1 x2 x3 x4 x5 0 0 x389000 x389001 x389002 x389003)
def haberdashref15_Levy.l0 : Nat → ByteArray → Bool → List ByteArray → List Int → Int → Int → Int → Bool → Bool → Int → List (S51) → Option (List Int × List Int × Int × Int × Int)
 | 0, _, _, _, _, _, _, _, _, _, _, _ => none
 | k + 1, x1, x2, x3, x4, x5, x14, x15, x389000, x389001, x389002, x389003 => if x15 < (x4.length : Int) then (if 0 ≤ x15 then (if (rd x4 x15) < 0 then (some (([] : List Int), ([] : List Int), 0, 0, 2)) else (if (rd x4 x15) > (wrap64 (10000000000000 - x14)) then (some (([] : List Int), ([] : List Int), 0, 0, 2)) else (haberdashref15_Levy.l0 k x1 x2 x3 x4 x5 (wrap64 (x14 + (rd x4 x15))) (wrap64 (x15 + 1)) x389000 x389001 x389002 x389003))) else (none)) else ((haberdashref10_Zone.f k x389000 x389001 x389002 x389003 x1).bind fun bt394 => (if bt394.2.2.2.2 = true then ((some (([] : List Int) : List Int)).bind fun y402 => (if y402.length + x4.length < 17592186044416 then ((haberdashref15_part.f k x389000 x389001 x389002 x389003 x5 bt394.2.2.2.1).bind fun t408 => (haberdashref15_Levy.l1 k x2 x3 x4 x5 ([] : List Int) 0 x389000 x389001 x389002 x389003 bt394.1 bt394.2.1 bt394.2.2.1 bt394.2.2.2.1 (y402 ++ x4) ([] : List Int) x5 t408)) else (none))) else (some (([] : List Int), ([] : List Int), 0, 0, 7))))
def haberdashref15_Levy.l1 : Nat → Bool → List ByteArray → List Int → Int → List Int → Int → Bool → Bool → Int → List (S51) → ByteArray → List (S56) → Int → Int → List Int → List Int → Int → Int → Option (List Int × List Int × Int × Int × Int)
 | 0, _, _, _, _, _, _, _, _, _, _, _, _, _, _, _, _, _, _ => none
 | k + 1, x2, x3, x4, x5, x19, x20, x389000, x389001, x389002, x389003, x402000, x402001, x402002, x402003, x410000, x410001, x410002, x410003 => if x20 < (x4.length : Int) then (if 0 ≤ x20 then (if x20 < (x3.length : Int) then ((haberdashref10_Rate.f k x402000 x402001 x402002 x402003 (rdOf ByteArray.empty x3 x20)).bind fun t411 => (if x19.length < 17592186044416 then ((some (x19 ++ [t411] : List Int)).bind fun y412 => (if x20 < (y412.length : Int) then ((haberdashref15_part.f k x389000 x389001 x389002 x389003 (rd x4 x20) (rd y412 x20)).bind fun t417 => (if x410001.length < 17592186044416 then (haberdashref15_Levy.l1 k x2 x3 x4 x5 y412 (wrap64 (x20 + 1)) x389000 x389001 x389002 x389003 x402000 x402001 x402002 x402003 x410000 (x410001 ++ [t417]) x410002 x410003) else (none))) else (none))) else (none))) else (none)) else (none)) else (if x389001 = true then ((haberdashref15_byOrder.f k x389000 x389001 x389002 x389003 x19 x4).bind fun t421 => (haberdashref15_Levy.j3 k x2 x4 x5 x389000 x389001 x389002 x389003 x410000 t421 x410002 x410003)) else (haberdashref15_Levy.j3 k x2 x4 x5 x389000 x389001 x389002 x389003 x410000 x410001 x410002 x410003))
def haberdashref15_Levy.j3 : Nat → Bool → List Int → Int → Bool → Bool → Int → List (S51) → List Int → List Int → Int → Int → Option (List Int × List Int × Int × Int × Int)
 | 0, _, _, _, _, _, _, _, _, _, _, _ => none
 | k + 1, x2, x4, x5, x389000, x389001, x389002, x389003, x410000, x410001, x410002, x410003 => haberdashref15_Levy.l2 k x2 x4 x5 0 x389000 x389001 x389002 x389003 x410000 x410001 x410002 x410003
def haberdashref15_Levy.j5 : Nat → Bool → List Int → Int → Bool → Bool → Int → List (S51) → List Int → List Int → Int → Int → Option (List Int × List Int × Int × Int × Int)
 | 0, _, _, _, _, _, _, _, _, _, _, _ => none
 | k + 1, x2, x4, x5, x389000, x389001, x389002, x389003, x410000, x410001, x410002, x410003 => if x389000 = true then (if x2 = true then (if 0 ≤ (x4.length : Int) then (if ((x4.length : Int) : Int).toNat ≤ 35184372088832 then (some (x410000, (List.replicate ((x4.length : Int) : Int).toNat 0), wrap64 (x5 - x410003), 0, 0)) else (none)) else (none)) else (some (x410000, x410001, wrap64 (x5 - x410003), x410003, 0))) else (if x2 = true then (if 0 ≤ (x4.length : Int) then (if ((x4.length : Int) : Int).toNat ≤ 35184372088832 then (some (x410000, (List.replicate ((x4.length : Int) : Int).toNat 0), x410002, 0, 0)) else (none)) else (none)) else (some (x410000, x410001, x410002, x410003, 0)))
def haberdashref15_Levy.l2 : Nat → Bool → List Int → Int → Int → Bool → Bool → Int → List (S51) → List Int → List Int → Int → Int → Option (List Int × List Int × Int × Int × Int)
 | 0, _, _, _, _, _, _, _, _, _, _, _, _ => none
 | k + 1, x2, x4, x5, x21, x389000, x389001, x389002, x389003, x410000, x410001, x410002, x410003 => if x21 < (x4.length : Int) then (if x389000 = true then (if 0 ≤ x21 then (if x21 < (x410001.length : Int) then (if x21 < (x410000.length : Int) then (haberdashref15_Levy.l2 k x2 x4 x5 (wrap64 (x21 + 1)) x389000 x389001 x389002 x389003 (x410000.set (x21 : Int).toNat (wrap64 ((rd x4 x21) - (rd x410001 x21)))) x410001 x410002 x410003) else (none)) else (none)) else (none)) else (haberdashref15_Levy.j5 k x2 x4 x5 x389000 x389001 x389002 x389003 x410000 x410001 x410002 x410003)) else (haberdashref15_Levy.j5 k x2 x4 x5 x389000 x389001 x389002 x389003 x410000 x410001 x410002 x410003)
end
def haberdashref15_Levy.f (k : Nat) (a0_0 : Bool) (a0_1 : Bool) (a0_2 : Int) (l0_3 : List (S51)) (a1 : ByteArray) (a2 : Bool) (l3 : List ByteArray) (l4 : List Int) (a5 : Int) : Option (List Int × List Int × Int × Int × Int) := (haberdashref10_Tax.f k a0_0 a0_1 a0_2 l0_3).bind fun t390 => (if t390 = true then (if (l3.length : Int) = (l4.length : Int) then (if (l4.length : Int) > 1000 then (haberdashref15_Levy.j0 k a1 a2 l3 l4 a5 true a0_0 a0_1 a0_2 l0_3) else (if a5 < 0 then (haberdashref15_Levy.j0 k a1 a2 l3 l4 a5 true a0_0 a0_1 a0_2 l0_3) else (haberdashref15_Levy.j0 k a1 a2 l3 l4 a5 (decide (a5 > 10000000000000)) a0_0 a0_1 a0_2 l0_3))) else (haberdashref15_Levy.j0 k a1 a2 l3 l4 a5 true a0_0 a0_1 a0_2 l0_3)) else (haberdashref15_Levy.j0 k a1 a2 l3 l4 a5 true a0_0 a0_1 a0_2 l0_3))
def haberdashref15_Levy.T13 : Bool × List (List Nat × List Nat) := (true, [([], []), ([], []), ([0, 1], [0, 1]), ([], []), ([], []), ([], []), ([], []), ([6], [6]), ([4, 5, 7, 2], [4, 5, 7]), ([2, 3, 8], [2, 3, 8]), ([], []), ([10, 9, 8, 0, 1, 2, 3, 4, 5, 6, 7, 8, 9, 10], [9, 10])])
def haberdashref15_Levy.B13 : List Nat := [0, 0, 3, 0, 0, 0, 0, 64, 247, 511, 0, 2047]
theorem haberdashref15_Levy.tab13 : rtab .any (opsOf Try.f12 13) = haberdashref15_Levy.T13 := by kernel_rfl
theorem haberdashref15_Levy.bits13 : waitsOk haberdashref15_Levy.T13.2 haberdashref15_Levy.B13 = true := by kernel_rfl
def haberdashref15_Levy.T18 : Bool × List (List Nat × List Nat) := (true, [([], []), ([], []), ([], []), ([], []), ([2, 3], [2, 3]), ([4], [4]), ([1, 5], [1, 5]), ([6], [6]), ([0, 7, 6], [0, 7]), ([8, 8, 0, 1, 2, 3, 4, 5, 6, 7, 8], [0, 8])])
def haberdashref15_Levy.B18 : List Nat := [0, 0, 0, 0, 12, 28, 62, 126, 255, 511]
theorem haberdashref15_Levy.tab18 : rtab .any (opsOf Try.f12 18) = haberdashref15_Levy.T18 := by kernel_rfl
theorem haberdashref15_Levy.bits18 : waitsOk haberdashref15_Levy.T18.2 haberdashref15_Levy.B18 = true := by kernel_rfl
def haberdashref15_Levy.T19 : Bool × List (List Nat × List Nat) := (true, [([], []), ([0], [0]), ([], []), ([], []), ([], []), ([3, 4], [3, 4]), ([5], [5]), ([], []), ([], []), ([7, 8], [7, 8]), ([9], [9]), ([2, 6, 10], [2, 6, 10]), ([11], [11]), ([1, 12, 11], [1, 12]), ([0, 1, 2, 3, 4, 5, 6, 7, 8, 9, 10, 11, 12, 13], []), ([14, 13, 13, 0, 1, 2, 3, 4, 5, 6, 7, 8, 9, 10, 11, 12, 13], [13, 14])])
def haberdashref15_Levy.B19 : List Nat := [0, 1, 0, 0, 0, 24, 56, 0, 0, 384, 896, 2044, 4092, 8191, 16383, 32767]
theorem haberdashref15_Levy.tab19 : rtab .any (opsOf Try.f12 19) = haberdashref15_Levy.T19 := by kernel_rfl
theorem haberdashref15_Levy.bits19 : waitsOk haberdashref15_Levy.T19.2 haberdashref15_Levy.B19 = true := by kernel_rfl
def haberdashref15_Levy.T25 : Bool × List (List Nat × List Nat) := (true, [([], []), ([0], [0]), ([], []), ([], []), ([], []), ([3, 4], [3, 4]), ([5], [5]), ([], []), ([7], [7]), ([], []), ([8, 9], [8, 9]), ([10], [10]), ([6, 11], [6, 11]), ([1, 2, 0, 1, 2, 3, 4, 5, 6, 7, 8, 9, 10, 11, 12], [1, 2]), ([13, 12, 0, 1, 2, 3, 4, 5, 6, 7, 8, 9, 10, 11, 12], [12, 13])])
def haberdashref15_Levy.B25 : List Nat := [0, 1, 0, 0, 0, 24, 56, 0, 128, 0, 896, 1920, 4088, 8191, 16383]
theorem haberdashref15_Levy.tab25 : rtab .any (opsOf Try.f12 25) = haberdashref15_Levy.T25 := by kernel_rfl
end Go.Proofs.Ytmiamdnhofjifaa.Rw
end
