/- Functions of the program as Lean functions, each with its contract: out of what the kit's printer wrote for this seat. -/
import Derived.Test.YtgfhjamaabaleaaVRwA
import Derived.Test.YtgfhjamaabaleaaVRwAb
namespace Go.Proofs.Ytgfhjamaabaleaa.Rw
open Go.RowKit Go.Proofs.YtgfhjamaabaleaaW.PrintWords Go.Proofs.YtgfhjamaabaleaaW.PrintLast Go.Proofs.YtgfhjamaabaleaaW.PrintMore
attribute [local go_sem] max2_int min2_int max_two min_two max_three min_three max_four min_four   -- for this text's walks alone
set_option linter.unusedVariables false
set_option linter.unusedSimpArgs false
attribute [local go_sem high] leqS gtrS
attribute [local go_sem high] eqA39

/-! ### haberdashplay_Mod: function 14 -/
def haberdashplay_Mod.f (a0 : Int) (a1 : Int) : Option (Int) := if (IntKind.u64.wrap (a1)) = 0 then (none) else (some (wrap64 (Int.tmod (IntKind.u64.wrap (a0)) (IntKind.u64.wrap (a1)))))
set_option maxHeartbeats 8000000 in
set_option maxRecDepth 100000 in
theorem haberdashplay_Mod.calls (a0 : Int) (a1 : Int) (r : Int) (w : World) (h : haberdashplay_Mod.f a0 a1 = some r) :
 Calls Try.prog 14 #[.int .i64 a0, .int .i64 a1] w fun e w' => e = .returned (.int .i64 r) ∧ Drawn0 w w' := by
 have H : (if (IntKind.u64.wrap (a1)) = 0 then (none) else (some (wrap64 (Int.tmod (IntKind.u64.wrap (a0)) (IntKind.u64.wrap (a1)))))) = some r := h
 clear h
 by_cases c3 : (IntKind.u64.wrap (a1)) = 0
 ·
  rw [if_pos c3] at H
  exact absurd H (by simp)
 rw [if_neg c3] at H
 have c3b0 : ((IntKind.u64.wrap (a1)) == 0) = false := beq_eq_false_iff_ne.mpr c3
 have c3b1 : ((IntKind.u64.wrap (a1)) != 0) = true := bne_iff_ne.mpr c3
 obtain rfl := Option.some.inj H
 go_enter Try.func14, Try.ntmps14
 go_wp2
 go_ret
 exact ⟨rf_, dr_⟩

/-! ### haberdashplay_Category: function 8 -/
def haberdashplay_Category.f (a0 : Int) : Option (ByteArray) := (haberdashplay_Mod.f a0 3).bind fun t197 => (some (strOfNums (([(120 + ((t197) % 256)) % 256] : List Int))))
set_option maxHeartbeats 8000000 in
set_option maxRecDepth 100000 in
theorem haberdashplay_Category.calls (a0 : Int) (r : ByteArray) (w : World) (h : haberdashplay_Category.f a0 = some r) :
 Calls Try.prog 8 #[.int .i64 a0] w fun e w' => e = .returned (.string r) ∧ Below w.heap.size w w' := by
 have HB := Aside0.mk (Below.refl w.heap.size w)
 have H : ((haberdashplay_Mod.f a0 3).bind fun t197 => (some (strOfNums (([(120 + ((t197) % 256)) % 256] : List Int))))) = some r := h
 clear h
 replace H := Option.bind_eq_some_iff.mp H
 obtain ⟨t197, A20, H⟩ := H
 (try dsimp only at H)
 have A2 := Aside0.mk A20
 clear A20
 obtain ⟨y198, hy198⟩ : ∃ y_ : List Int, y_ = (([(120 + ((t197) % 256)) % 256] : List Int)) := ⟨_, rfl⟩
 replace H : (some (strOfNums y198)) = some r := hy_ hy198 H
 have Ny198 := Aside0.mk hy198
 clear hy198
 obtain rfl := Option.some.inj H
 go_enter Try.func8, Try.ntmps8
 go_wp2_with (first | (refine gl_ 14 4 Try.func14 #[.int .i64 a0, .int .i64 3] ?_; (with_reducible refine (haberdashplay_Mod.calls a0 3 t197 _ A2.out).mono ?_); rintro e w' ⟨rfl, ⟨nd, rfl⟩⟩; refine ⟨_, rfl, ?_⟩) | ((with_reducible refine gate_dst (N := 7) rfl ?_); refine Kd.R_lit (Kd.int .u8) _ 5 rf_ (N := 7) rf_ (xs := ([(120 + ((t197) % 256)) % 256] : List Int)) (inner := [.int .u8 ((120 + ((t197) % 256)) % 256)]) (ok := fun _ => True) (okp := fun _ => True) lr_ ?hp (fun _ hk => hk) trivial (Below.refl _ _) (Nat.le_refl _) (by simp) ?_; (case hp => exact (Reps.one (show Kd.M (Kd.int .u8) _ _ _ ((120 + ((t197) % 256)) % 256) [.int .u8 ((120 + ((t197) % 256)) % 256)] from rfl) (Reps.none _ _))); intro v199 w3 ho4 hb hg_ hnew_; clear hg_ hnew_; (first | rw [← Ny198.out] at ho4 | (simp only [Int.reduceToNat] at ho4; rw [← Ny198.out] at ho4)); have HO200 := Aside0.mk (Kd.R_lower ho4 (below_size (hb0_ HB))); replace HB := Aside0.mk (below_step (hb0_ HB) hb); clear hb ho4; have hcv5 := own_string (P := Try.prog) Try.underlying37 Try.underlying5 Try.underlying9 (Kd.own_of_R HO200.out)))
 go_ret
 exact ⟨er_, hb0_ HB⟩

/-! ### haberdashplay_Mod64: function 18 -/
def haberdashplay_Mod64.f (a0 : Int) (a1 : Int) : Option (Int) := if (IntKind.u64.wrap (a1)) = 0 then (none) else (some (wrap64 (Int.tmod (IntKind.u64.wrap (a0)) (IntKind.u64.wrap (a1)))))
set_option maxHeartbeats 8000000 in
set_option maxRecDepth 100000 in
theorem haberdashplay_Mod64.calls (a0 : Int) (a1 : Int) (r : Int) (w : World) (h : haberdashplay_Mod64.f a0 a1 = some r) :
 Calls Try.prog 18 #[.int .i64 a0, .int .i64 a1] w fun e w' => e = .returned (.int .i64 r) ∧ Drawn0 w w' := by
 have H : (if (IntKind.u64.wrap (a1)) = 0 then (none) else (some (wrap64 (Int.tmod (IntKind.u64.wrap (a0)) (IntKind.u64.wrap (a1)))))) = some r := h
 clear h
 by_cases c3 : (IntKind.u64.wrap (a1)) = 0
 ·
  rw [if_pos c3] at H
  exact absurd H (by simp)
 rw [if_neg c3] at H
 have c3b0 : ((IntKind.u64.wrap (a1)) == 0) = false := beq_eq_false_iff_ne.mpr c3
 have c3b1 : ((IntKind.u64.wrap (a1)) != 0) = true := bne_iff_ne.mpr c3
 obtain rfl := Option.some.inj H
 go_enter Try.func18, Try.ntmps18
 go_wp2
 go_ret
 exact ⟨rf_, dr_⟩

/-! ### haberdashplay_Zone: function 7 -/
def haberdashplay_Zone.f (a0 : Int) : Option (ByteArray) := (haberdashplay_Mod.f a0 3).bind fun t227 => ((some (([(48 + ((t227) % 256)) % 256] : List Int) : List Int)).bind fun y228 => (if 1 + (strOfNums y228).size ≤ 9223372036854775807 then (some ((⟨#[122]⟩ : ByteArray) ++ (strOfNums y228))) else (none)))
set_option maxHeartbeats 8000000 in
set_option maxRecDepth 100000 in
theorem haberdashplay_Zone.calls (a0 : Int) (r : ByteArray) (w : World) (h : haberdashplay_Zone.f a0 = some r) :
 Calls Try.prog 7 #[.int .i64 a0] w fun e w' => e = .returned (.string r) ∧ Below w.heap.size w w' := by
 have HB := Aside0.mk (Below.refl w.heap.size w)
 have H : ((haberdashplay_Mod.f a0 3).bind fun t227 => ((some (([(48 + ((t227) % 256)) % 256] : List Int) : List Int)).bind fun y228 => (if 1 + (strOfNums y228).size ≤ 9223372036854775807 then (some ((⟨#[122]⟩ : ByteArray) ++ (strOfNums y228))) else (none)))) = some r := h
 clear h
 replace H := Option.bind_eq_some_iff.mp H
 obtain ⟨t227, A20, H⟩ := H
 (try dsimp only at H)
 have A2 := Aside0.mk A20
 clear A20
 obtain ⟨y228, hy228⟩ : ∃ y_ : List Int, y_ = (([(48 + ((t227) % 256)) % 256] : List Int)) := ⟨_, rfl⟩
 replace H : (if 1 + (strOfNums y228).size ≤ 9223372036854775807 then (some ((⟨#[122]⟩ : ByteArray) ++ (strOfNums y228))) else (none)) = some r := hy_ hy228 H
 have Ny228 := Aside0.mk hy228
 clear hy228
 replace H := ip_ H
 obtain ⟨c3, H⟩ := H
 have c3b0 := eq_true c3
 have c3b1 := decide_eq_true c3
 try have c3b2 : (9223372036854775807 < 1 + (strOfNums y228).size) = False := eq_false (Nat.not_lt.2 c3)
 obtain rfl := Option.some.inj H
 go_enter Try.func7, Try.ntmps7
 go_wp2_with (first | (refine gl_ 14 4 Try.func14 #[.int .i64 a0, .int .i64 3] ?_; (with_reducible refine (haberdashplay_Mod.calls a0 3 t227 _ A2.out).mono ?_); rintro e w' ⟨rfl, ⟨nd, rfl⟩⟩; refine ⟨_, rfl, ?_⟩) | ((with_reducible refine gate_dst (N := 7) rfl ?_); refine Kd.R_lit (Kd.int .u8) _ 5 rf_ (N := 7) rf_ (xs := ([(48 + ((t227) % 256)) % 256] : List Int)) (inner := [.int .u8 ((48 + ((t227) % 256)) % 256)]) (ok := fun _ => True) (okp := fun _ => True) lr_ ?hp (fun _ hk => hk) trivial (Below.refl _ _) (Nat.le_refl _) (by simp) ?_; (case hp => exact (Reps.one (show Kd.M (Kd.int .u8) _ _ _ ((48 + ((t227) % 256)) % 256) [.int .u8 ((48 + ((t227) % 256)) % 256)] from rfl) (Reps.none _ _))); intro v229 w4 ho5 hb hg_ hnew_; clear hg_ hnew_; (first | rw [← Ny228.out] at ho5 | (simp only [Int.reduceToNat] at ho5; rw [← Ny228.out] at ho5)); have HO230 := Aside0.mk (Kd.R_lower ho5 (below_size (hb0_ HB))); replace HB := Aside0.mk (below_step (hb0_ HB) hb); clear hb ho5; have hcv6 := own_string (P := Try.prog) Try.underlying37 Try.underlying5 Try.underlying9 (Kd.own_of_R HO230.out)))
 go_ret
 exact ⟨er_, hb0_ HB⟩

end Go.Proofs.Ytgfhjamaabaleaa.Rw
