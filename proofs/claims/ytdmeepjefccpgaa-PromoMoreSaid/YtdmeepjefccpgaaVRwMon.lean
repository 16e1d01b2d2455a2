/- RwMon. -/
import Derived.Test.YtdmeepjefccpgaaVRwA
section
/- Functions of the program as Lean functions, each with its contract: out of what the kit's printer wrote for this seat. -/
namespace Go.Proofs.Ytdmeepjefccpgaa.Rw
open Go.RowKit Go.Proofs.YtdmeepjefccpgaaW.PrintWords Go.Proofs.YtdmeepjefccpgaaW.PrintLast Go.Proofs.YtdmeepjefccpgaaW.PrintMore
attribute [local go_sem] max2_int min2_int max_two min_two max_three min_three max_four min_four   -- for this text's walks alone
set_option linter.unusedVariables false
set_option linter.unusedSimpArgs false
attribute [local go_sem high] leqS gtrS
attribute [local go_sem high] eqA52

/-! ### haberdashplay_Mod: function 26 -/
def haberdashplay_Mod.f (a0 : Int) (a1 : Int) : Option (Int) := if (IntKind.u64.wrap (a1)) = 0 then (none) else (some (wrap64 (Int.tmod (IntKind.u64.wrap (a0)) (IntKind.u64.wrap (a1)))))
set_option maxHeartbeats 8000000 in
set_option maxRecDepth 100000 in
theorem haberdashplay_Mod.calls (a0 : Int) (a1 : Int) (r : Int) (w : World) (h : haberdashplay_Mod.f a0 a1 = some r) :
 Calls Try.prog 26 #[.int .i64 a0, .int .i64 a1] w fun e w' => e = .returned (.int .i64 r) ∧ Drawn0 w w' := by
 have H : (if (IntKind.u64.wrap (a1)) = 0 then (none) else (some (wrap64 (Int.tmod (IntKind.u64.wrap (a0)) (IntKind.u64.wrap (a1)))))) = some r := h
 clear h
 by_cases c3 : (IntKind.u64.wrap (a1)) = 0
 ·
  rw [if_pos c3] at H
  exact absurd H (by simp)
 rw [if_neg c3] at H
 have c3b0 : ((IntKind.u64.wrap (a1)) == 0) = false := beq_eq_false_iff_ne.mpr c3
 have c3b1 : ((IntKind.u64.wrap (a1)) != 0) = true := bne_iff_ne.mpr c3
 obtain rfl := Option.some.inj H
 go_enter Try.func26, Try.ntmps26
 go_wp2
 go_ret
 exact ⟨rf_, dr_⟩

/-! ### haberdashplay_Mod64: function 46 -/
def haberdashplay_Mod64.f (a0 : Int) (a1 : Int) : Option (Int) := if (IntKind.u64.wrap (a1)) = 0 then (none) else (some (wrap64 (Int.tmod (IntKind.u64.wrap (a0)) (IntKind.u64.wrap (a1)))))
set_option maxHeartbeats 8000000 in
set_option maxRecDepth 100000 in
theorem haberdashplay_Mod64.calls (a0 : Int) (a1 : Int) (r : Int) (w : World) (h : haberdashplay_Mod64.f a0 a1 = some r) :
 Calls Try.prog 46 #[.int .i64 a0, .int .i64 a1] w fun e w' => e = .returned (.int .i64 r) ∧ Drawn0 w w' := by
 have H : (if (IntKind.u64.wrap (a1)) = 0 then (none) else (some (wrap64 (Int.tmod (IntKind.u64.wrap (a0)) (IntKind.u64.wrap (a1)))))) = some r := h
 clear h
 by_cases c3 : (IntKind.u64.wrap (a1)) = 0
 ·
  rw [if_pos c3] at H
  exact absurd H (by simp)
 rw [if_neg c3] at H
 have c3b0 : ((IntKind.u64.wrap (a1)) == 0) = false := beq_eq_false_iff_ne.mpr c3
 have c3b1 : ((IntKind.u64.wrap (a1)) != 0) = true := bne_iff_ne.mpr c3
 obtain rfl := Option.some.inj H
 go_enter Try.func46, Try.ntmps46
 go_wp2
 go_ret
 exact ⟨rf_, dr_⟩

end Go.Proofs.Ytdmeepjefccpgaa.Rw
end
section
/- Functions of the program as Lean functions, each with its contract: out of what the kit's printer wrote for this seat. -/
namespace Go.Proofs.Ytdmeepjefccpgaa.Rw
open Go.RowKit Go.Proofs.YtdmeepjefccpgaaW.PrintWords Go.Proofs.YtdmeepjefccpgaaW.PrintLast Go.Proofs.YtdmeepjefccpgaaW.PrintMore
attribute [local go_sem] max2_int min2_int max_two min_two max_three min_three max_four min_four   -- for this text's walks alone
set_option linter.unusedVariables false
set_option linter.unusedSimpArgs false
attribute [local go_sem high] leqS gtrS
attribute [local go_sem high] eqA52

/-! ### haberdashplay_Category: function 20 -/
def haberdashplay_Category.f (a0 : Int) : Option (ByteArray) := (haberdashplay_Mod.f a0 3).bind fun t278 => (some (strOfNums (([(120 + ((t278) % 256)) % 256] : List Int))))
set_option maxHeartbeats 8000000 in
set_option maxRecDepth 100000 in
theorem haberdashplay_Category.calls (a0 : Int) (r : ByteArray) (w : World) (h : haberdashplay_Category.f a0 = some r) :
 Calls Try.prog 20 #[.int .i64 a0] w fun e w' => e = .returned (.string r) ∧ Below w.heap.size w w' := by
 have HB := Aside0.mk (Below.refl w.heap.size w)
 have H : ((haberdashplay_Mod.f a0 3).bind fun t278 => (some (strOfNums (([(120 + ((t278) % 256)) % 256] : List Int))))) = some r := h
 clear h
 replace H := Option.bind_eq_some_iff.mp H
 obtain ⟨t278, A20, H⟩ := H
 (try dsimp only at H)
 have A2 := Aside0.mk A20
 clear A20
 obtain ⟨y279, hy279⟩ : ∃ y_ : List Int, y_ = (([(120 + ((t278) % 256)) % 256] : List Int)) := ⟨_, rfl⟩
 replace H : (some (strOfNums y279)) = some r := hy_ hy279 H
 have Ny279 := Aside0.mk hy279
 clear hy279
 obtain rfl := Option.some.inj H
 go_enter Try.func20, Try.ntmps20
 go_wp2_with (first | (refine gl_ 26 4 Try.func26 #[.int .i64 a0, .int .i64 3] ?_; (with_reducible refine (haberdashplay_Mod.calls a0 3 t278 _ A2.out).mono ?_); rintro e w' ⟨rfl, ⟨nd, rfl⟩⟩; refine ⟨_, rfl, ?_⟩) | ((with_reducible refine gate_dst (N := 7) rfl ?_); refine Kd.R_lit (Kd.int .u8) _ 5 rf_ (N := 7) rf_ (xs := ([(120 + ((t278) % 256)) % 256] : List Int)) (inner := [.int .u8 ((120 + ((t278) % 256)) % 256)]) (ok := fun _ => True) (okp := fun _ => True) lr_ ?hp (fun _ hk => hk) trivial (Below.refl _ _) (Nat.le_refl _) (by simp) ?_; (case hp => exact (Reps.one (show Kd.M (Kd.int .u8) _ _ _ ((120 + ((t278) % 256)) % 256) [.int .u8 ((120 + ((t278) % 256)) % 256)] from rfl) (Reps.none _ _))); intro v280 w3 ho4 hb hg_ hnew_; clear hg_ hnew_; (first | rw [← Ny279.out] at ho4 | (simp only [Int.reduceToNat] at ho4; rw [← Ny279.out] at ho4)); have HO281 := Aside0.mk (Kd.R_lower ho4 (below_size (hb0_ HB))); replace HB := Aside0.mk (below_step (hb0_ HB) hb); clear hb ho4; have hcv5 := own_string (P := Try.prog) Try.underlying50 Try.underlying5 Try.underlying9 (Kd.own_of_R HO281.out)))
 go_ret
 exact ⟨er_, hb0_ HB⟩

/-! ### haberdashplay_Id: function 60 -/
def haberdashplay_Id.f (a0 : Int) : Option (ByteArray) := (haberdashplay_Mod.f a0 10).bind fun t308 => ((some (([(48 + ((t308) % 256)) % 256] : List Int) : List Int)).bind fun y309 => (if 1 + (strOfNums y309).size ≤ 9223372036854775807 then (some ((⟨#[112]⟩ : ByteArray) ++ (strOfNums y309))) else (none)))
set_option maxHeartbeats 8000000 in
set_option maxRecDepth 100000 in
theorem haberdashplay_Id.calls (a0 : Int) (r : ByteArray) (w : World) (h : haberdashplay_Id.f a0 = some r) :
 Calls Try.prog 60 #[.int .i64 a0] w fun e w' => e = .returned (.string r) ∧ Below w.heap.size w w' := by
 have HB := Aside0.mk (Below.refl w.heap.size w)
 have H : ((haberdashplay_Mod.f a0 10).bind fun t308 => ((some (([(48 + ((t308) % 256)) % 256] : List Int) : List Int)).bind fun y309 => (if 1 + (strOfNums y309).size ≤ 9223372036854775807 then (some ((⟨#[112]⟩ : ByteArray) ++ (strOfNums y309))) else (none)))) = some r := h
 clear h
 replace H := Option.bind_eq_some_iff.mp H
 obtain ⟨t308, A20, H⟩ := H
 (try dsimp only at H)
 have A2 := Aside0.mk A20
 clear A20
 obtain ⟨y309, hy309⟩ : ∃ y_ : List Int, y_ = (([(48 + ((t308) % 256)) % 256] : List Int)) := ⟨_, rfl⟩
 replace H : (if 1 + (strOfNums y309).size ≤ 9223372036854775807 then (some ((⟨#[112]⟩ : ByteArray) ++ (strOfNums y309))) else (none)) = some r := hy_ hy309 H
 have Ny309 := Aside0.mk hy309
 clear hy309
 replace H := ip_ H
 obtain ⟨c3, H⟩ := H
 have c3b0 := eq_true c3
 have c3b1 := decide_eq_true c3
 try have c3b2 : (9223372036854775807 < 1 + (strOfNums y309).size) = False := eq_false (Nat.not_lt.2 c3)
 obtain rfl := Option.some.inj H
 go_enter Try.func60, Try.ntmps60
 go_wp2_with (first | (refine gl_ 26 4 Try.func26 #[.int .i64 a0, .int .i64 10] ?_; (with_reducible refine (haberdashplay_Mod.calls a0 10 t308 _ A2.out).mono ?_); rintro e w' ⟨rfl, ⟨nd, rfl⟩⟩; refine ⟨_, rfl, ?_⟩) | ((with_reducible refine gate_dst (N := 7) rfl ?_); refine Kd.R_lit (Kd.int .u8) _ 5 rf_ (N := 7) rf_ (xs := ([(48 + ((t308) % 256)) % 256] : List Int)) (inner := [.int .u8 ((48 + ((t308) % 256)) % 256)]) (ok := fun _ => True) (okp := fun _ => True) lr_ ?hp (fun _ hk => hk) trivial (Below.refl _ _) (Nat.le_refl _) (by simp) ?_; (case hp => exact (Reps.one (show Kd.M (Kd.int .u8) _ _ _ ((48 + ((t308) % 256)) % 256) [.int .u8 ((48 + ((t308) % 256)) % 256)] from rfl) (Reps.none _ _))); intro v310 w4 ho5 hb hg_ hnew_; clear hg_ hnew_; (first | rw [← Ny309.out] at ho5 | (simp only [Int.reduceToNat] at ho5; rw [← Ny309.out] at ho5)); have HO311 := Aside0.mk (Kd.R_lower ho5 (below_size (hb0_ HB))); replace HB := Aside0.mk (below_step (hb0_ HB) hb); clear hb ho5; have hcv6 := own_string (P := Try.prog) Try.underlying50 Try.underlying5 Try.underlying9 (Kd.own_of_R HO311.out)))
 go_ret
 exact ⟨er_, hb0_ HB⟩

/-! ### haberdashplay_pick: function 62 -/
def haberdashplay_pick.l0 : Nat → ByteArray → Int → Int → Option (Int)
 | 0, _, _, _ => none
 | k + 1, x0, x3, x4 => if x4 < (x0.size : Int) then (if x4 < 8 then (if 0 ≤ x4 then (haberdashplay_pick.l0 k x0 (wrap64 ((wrap64 (7 * x3)) + (wrap64 (bt x0 x4)))) (wrap64 (x4 + 1))) else (none)) else (some x3)) else (some x3)
def haberdashplay_pick.f (k : Nat) (a0 : ByteArray) : Option (Int) := haberdashplay_pick.l0 k a0 (a0.size : Int) 0
set_option maxHeartbeats 8000000 in
set_option maxRecDepth 100000 in
theorem haberdashplay_pick.calls (k : Nat) (a0 : ByteArray) (r : Int) (w : World) (h : haberdashplay_pick.f k a0 = some r) :
 Calls Try.prog 62 #[.string a0] w fun e w' => e = .returned (.int .i64 r) ∧ Drawn0 w w' := by
 have H : (haberdashplay_pick.l0 k a0 (a0.size : Int) 0) = some r := h
 clear h
 have H' := Aside0.mk H
 clear H
 go_enter Try.func62, Try.ntmps62
 go_wp2
 go_loopg [3, 4] k (fun kq v3 v4 w' => ∃ (x3_1 : Int) (x4_1 : Int), v3 = .int .i64 x3_1 ∧ v4 = .int .i64 x4_1 ∧ Aside0 (haberdashplay_pick.l0 kq a0 x3_1 x4_1 = some r) ∧ Aside0 (kq ≤ k) ∧ Drawn0 w w')
 case atStart => exact ⟨((a0.size : Int)), (0), rf_, rf_, H', ⟨Nat.le_refl _⟩, dr_⟩
 case round =>
  clear H'; obtain ⟨x3_1, x4_1, rfl, rfl, HA, HK1, ⟨m1, rfl⟩⟩ := hrel
  cases gk with
  | zero => exact absurd HA.out (by simp [haberdashplay_pick.l0])
  | succ k1 =>
   have H := HA.out; clear HA
   simp only [haberdashplay_pick.l0] at H
   by_cases c2 : x4_1 < (a0.size : Int)
   rotate_left
   ·
    rw [if_neg c2] at H; have c2b0 := decide_eq_false c2; clear c2; obtain rfl := Option.some.inj H
    go_wp2
    go_ret
    exact ⟨rf_, dr_⟩
   rw [if_pos c2] at H; have c2b0 := decide_eq_true c2; clear c2
   by_cases c3 : x4_1 < 8
   rotate_left
   ·
    rw [if_neg c3] at H; have c3b0 := decide_eq_false c3; clear c3; obtain rfl := Option.some.inj H
    go_wp2
    go_ret
    exact ⟨rf_, dr_⟩
   rw [if_pos c3] at H; have c3b0 := decide_eq_true c3; clear c3; replace H := ip_ H; obtain ⟨c4, H⟩ := H; have c4b0 := decide_eq_true c4; clear c4; have H' := Aside0.mk H; clear H; have p5 : 0 ≤ (x4_1 : Int) := of_decide_eq_true as_; have q5 : x4_1 < (a0.size : Int) := of_decide_eq_true as_; have hx5 := bt_at a0 x4_1
   replace p5 := eq_true p5; replace q5 := eq_true q5
   go_wp2
   go_roundg k1
   case measure => have := HK1.out; omega
   case rel => exact ⟨(wrap64 ((wrap64 (7 * x3_1)) + (wrap64 (bt a0 x4_1)))), (wrap64 (x4_1 + 1)), rf_, rf_, H', ⟨ho_ HK1⟩, dr_⟩

/-! ### haberdashplay_Sku: function 109 -/
def haberdashplay_Sku.f (a0 : Int) : Option (ByteArray) := (haberdashplay_Mod.f a0 8).bind fun t322 => (some (strOfNums (([(97 + ((t322) % 256)) % 256] : List Int))))
set_option maxHeartbeats 8000000 in
set_option maxRecDepth 100000 in
theorem haberdashplay_Sku.calls (a0 : Int) (r : ByteArray) (w : World) (h : haberdashplay_Sku.f a0 = some r) :
 Calls Try.prog 109 #[.int .i64 a0] w fun e w' => e = .returned (.string r) ∧ Below w.heap.size w w' := by
 have HB := Aside0.mk (Below.refl w.heap.size w)
 have H : ((haberdashplay_Mod.f a0 8).bind fun t322 => (some (strOfNums (([(97 + ((t322) % 256)) % 256] : List Int))))) = some r := h
 clear h
 replace H := Option.bind_eq_some_iff.mp H
 obtain ⟨t322, A20, H⟩ := H
 (try dsimp only at H)
 have A2 := Aside0.mk A20
 clear A20
 obtain ⟨y323, hy323⟩ : ∃ y_ : List Int, y_ = (([(97 + ((t322) % 256)) % 256] : List Int)) := ⟨_, rfl⟩
 replace H : (some (strOfNums y323)) = some r := hy_ hy323 H
 have Ny323 := Aside0.mk hy323
 clear hy323
 obtain rfl := Option.some.inj H
 go_enter Try.func109, Try.ntmps109
 go_wp2_with (first | (refine gl_ 26 4 Try.func26 #[.int .i64 a0, .int .i64 8] ?_; (with_reducible refine (haberdashplay_Mod.calls a0 8 t322 _ A2.out).mono ?_); rintro e w' ⟨rfl, ⟨nd, rfl⟩⟩; refine ⟨_, rfl, ?_⟩) | ((with_reducible refine gate_dst (N := 7) rfl ?_); refine Kd.R_lit (Kd.int .u8) _ 5 rf_ (N := 7) rf_ (xs := ([(97 + ((t322) % 256)) % 256] : List Int)) (inner := [.int .u8 ((97 + ((t322) % 256)) % 256)]) (ok := fun _ => True) (okp := fun _ => True) lr_ ?hp (fun _ hk => hk) trivial (Below.refl _ _) (Nat.le_refl _) (by simp) ?_; (case hp => exact (Reps.one (show Kd.M (Kd.int .u8) _ _ _ ((97 + ((t322) % 256)) % 256) [.int .u8 ((97 + ((t322) % 256)) % 256)] from rfl) (Reps.none _ _))); intro v324 w3 ho4 hb hg_ hnew_; clear hg_ hnew_; (first | rw [← Ny323.out] at ho4 | (simp only [Int.reduceToNat] at ho4; rw [← Ny323.out] at ho4)); have HO325 := Aside0.mk (Kd.R_lower ho4 (below_size (hb0_ HB))); replace HB := Aside0.mk (below_step (hb0_ HB) hb); clear hb ho4; have hcv5 := own_string (P := Try.prog) Try.underlying50 Try.underlying5 Try.underlying9 (Kd.own_of_R HO325.out)))
 go_ret
 exact ⟨er_, hb0_ HB⟩

/-! ### haberdashplay_Code: function 63 -/
def haberdashplay_Code.f (a0 : Int) : Option (ByteArray) := (haberdashplay_Mod.f a0 3).bind fun t334 => ((some (([(48 + ((t334) % 256)) % 256] : List Int) : List Int)).bind fun y335 => (if 1 + (strOfNums y335).size ≤ 9223372036854775807 then (some ((⟨#[99]⟩ : ByteArray) ++ (strOfNums y335))) else (none)))
set_option maxHeartbeats 8000000 in
set_option maxRecDepth 100000 in
theorem haberdashplay_Code.calls (a0 : Int) (r : ByteArray) (w : World) (h : haberdashplay_Code.f a0 = some r) :
 Calls Try.prog 63 #[.int .i64 a0] w fun e w' => e = .returned (.string r) ∧ Below w.heap.size w w' := by
 have HB := Aside0.mk (Below.refl w.heap.size w)
 have H : ((haberdashplay_Mod.f a0 3).bind fun t334 => ((some (([(48 + ((t334) % 256)) % 256] : List Int) : List Int)).bind fun y335 => (if 1 + (strOfNums y335).size ≤ 9223372036854775807 then (some ((⟨#[99]⟩ : ByteArray) ++ (strOfNums y335))) else (none)))) = some r := h
 clear h
 replace H := Option.bind_eq_some_iff.mp H
 obtain ⟨t334, A20, H⟩ := H
 (try dsimp only at H)
 have A2 := Aside0.mk A20
 clear A20
 obtain ⟨y335, hy335⟩ : ∃ y_ : List Int, y_ = (([(48 + ((t334) % 256)) % 256] : List Int)) := ⟨_, rfl⟩
 replace H : (if 1 + (strOfNums y335).size ≤ 9223372036854775807 then (some ((⟨#[99]⟩ : ByteArray) ++ (strOfNums y335))) else (none)) = some r := hy_ hy335 H
 have Ny335 := Aside0.mk hy335
 clear hy335
 replace H := ip_ H
 obtain ⟨c3, H⟩ := H
 have c3b0 := eq_true c3
 have c3b1 := decide_eq_true c3
 try have c3b2 : (9223372036854775807 < 1 + (strOfNums y335).size) = False := eq_false (Nat.not_lt.2 c3)
 obtain rfl := Option.some.inj H
 go_enter Try.func63, Try.ntmps63
 go_wp2_with (first | (refine gl_ 26 4 Try.func26 #[.int .i64 a0, .int .i64 3] ?_; (with_reducible refine (haberdashplay_Mod.calls a0 3 t334 _ A2.out).mono ?_); rintro e w' ⟨rfl, ⟨nd, rfl⟩⟩; refine ⟨_, rfl, ?_⟩) | ((with_reducible refine gate_dst (N := 7) rfl ?_); refine Kd.R_lit (Kd.int .u8) _ 5 rf_ (N := 7) rf_ (xs := ([(48 + ((t334) % 256)) % 256] : List Int)) (inner := [.int .u8 ((48 + ((t334) % 256)) % 256)]) (ok := fun _ => True) (okp := fun _ => True) lr_ ?hp (fun _ hk => hk) trivial (Below.refl _ _) (Nat.le_refl _) (by simp) ?_; (case hp => exact (Reps.one (show Kd.M (Kd.int .u8) _ _ _ ((48 + ((t334) % 256)) % 256) [.int .u8 ((48 + ((t334) % 256)) % 256)] from rfl) (Reps.none _ _))); intro v336 w4 ho5 hb hg_ hnew_; clear hg_ hnew_; (first | rw [← Ny335.out] at ho5 | (simp only [Int.reduceToNat] at ho5; rw [← Ny335.out] at ho5)); have HO337 := Aside0.mk (Kd.R_lower ho5 (below_size (hb0_ HB))); replace HB := Aside0.mk (below_step (hb0_ HB) hb); clear hb ho5; have hcv6 := own_string (P := Try.prog) Try.underlying50 Try.underlying5 Try.underlying9 (Kd.own_of_R HO337.out)))
 go_ret
 exact ⟨er_, hb0_ HB⟩

end Go.Proofs.Ytdmeepjefccpgaa.Rw
end
