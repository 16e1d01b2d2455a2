/- Functions of the program as Lean functions, each with its contract: out of what the kit's printer wrote for this seat. -/
import Derived.Test.YtndecmbcekdafaaVRwA
import Derived.Test.YtndecmbcekdafaaVRwL19b
import Derived.Test.YtndecmbcekdafaaVRwLevy3
import Derived.Test.YtndecmbcekdafaaVRwMon
namespace Go.Proofs.Ytndecmbcekdafaa.Rw
open Go.RowKit Go.Proofs.YtndecmbcekdafaaW.PrintWords Go.Proofs.YtndecmbcekdafaaW.PrintLast Go.Proofs.YtndecmbcekdafaaW.PrintMore
attribute [local go_sem] max2_int min2_int max_two min_two max_three min_three max_four min_four   -- for this text's walks alone
set_option linter.unusedVariables false
set_option linter.unusedSimpArgs false
attribute [local go_sem high] leqS gtrS

/-! ### haberdashlaw19_LevyRates: function 7 -/
mutual
def haberdashlaw19_LevyRates.j0 : Nat → Int → Int → Int → Int → Int → Bool → List Int → Int → Int → Int → Int → Int → Option (Bool)
  | 0, _, _, _, _, _, _, _, _, _, _, _, _ => none
  | k + 1, x0, x1, x2, x3, x4, x6, x17, x19, x20, x21, x22, x23 => (haberdashlaw19_awake.f k).bind fun t656 => (if t656 = true then (if x20 = 0 then (haberdashlaw19_LevyRates.j1 k x0 x1 x2 x3 x4 x6 x17 x19 x21 x22 x23 ((x17.length : Int) != 2)) else (haberdashlaw19_LevyRates.j1 k x0 x1 x2 x3 x4 x6 x17 x19 x21 x22 x23 true)) else (haberdashlaw19_LevyRates.j1 k x0 x1 x2 x3 x4 x6 x17 x19 x21 x22 x23 true))
def haberdashlaw19_LevyRates.j1 : Nat → Int → Int → Int → Int → Int → Bool → List Int → Int → Int → Int → Int → Bool → Option (Bool)
  | 0, _, _, _, _, _, _, _, _, _, _, _, _ => none
  | k + 1, x0, x1, x2, x3, x4, x6, x17, x19, x21, x22, x23, x77 => if x77 = true then (some false) else (if x6 = true then (if x2 = x3 then (if 0 < (x17.length : Int) then (if 1 < (x17.length : Int) then (if x21 = 0 then (none) else (if (wrap64 ((rd x17 0) + (rd x17 1))) = (wrap64 (Int.tdiv (wrap64 ((wrap64 (2 * x0)) * x2)) x21)) then (if x23 = 0 then (none) else (some (x19 == (wrap64 (Int.tdiv (wrap64 (x1 * x4)) x23))))) else (some false))) else (none)) else (none)) else (if 0 < (x17.length : Int) then (if x21 = 0 then (none) else (if (rd x17 0) = (wrap64 (Int.tdiv (wrap64 (x0 * x2)) x21)) then (if 1 < (x17.length : Int) then (if x22 = 0 then (none) else (if (rd x17 1) = (wrap64 (Int.tdiv (wrap64 (x0 * x3)) x22)) then (if x23 = 0 then (none) else (some (x19 == (wrap64 (Int.tdiv (wrap64 (x1 * x4)) x23))))) else (some false))) else (none)) else (some false))) else (none))) else (if 0 < (x17.length : Int) then (if x21 = 0 then (none) else (if (rd x17 0) = (wrap64 (Int.tdiv (wrap64 (x0 * x2)) x21)) then (if 1 < (x17.length : Int) then (if x22 = 0 then (none) else (if (rd x17 1) = (wrap64 (Int.tdiv (wrap64 (x0 * x3)) x22)) then (if x23 = 0 then (none) else (some (x19 == (wrap64 (Int.tdiv (wrap64 (x1 * x4)) x23))))) else (some false))) else (none)) else (some false))) else (none)))
end
def haberdashlaw19_LevyRates.f (k : Nat) (a0 : Int) (a1 : Int) (a2 : Int) (a3 : Int) (a4 : Int) (a5 : Bool) (a6 : Bool) : Option (Bool) := (haberdashplay_Mod64.f a0 1073741824).bind fun t629 => ((haberdashplay_Mod64.f a1 1048576).bind fun t630 => ((haberdashplay_Mod64.f a2 10001).bind fun t631 => ((haberdashplay_Mod64.f a3 10001).bind fun t632 => ((haberdashplay_Mod64.f a4 10001).bind fun t633 => ((levy_Levy.f k a5 a6 0 (([(⟨(⟨#[122]⟩ : ByteArray), (([(⟨(⟨#[120]⟩ : ByteArray), t631⟩ : S53)] : List (S53))), t632, t633⟩ : S56)] : List (S56))) (⟨#[122]⟩ : ByteArray) false (([(⟨#[120]⟩ : ByteArray), (⟨#[121]⟩ : ByteArray)] : List ByteArray)) (([t629, t629] : List Int)) t630).bind fun bt647 => (if a5 = true then (haberdashlaw19_LevyRates.j0 k t629 t630 t631 t632 t633 a6 bt647.2.1 bt647.2.2.2.1 bt647.2.2.2.2 (wrap64 (10000 + t631)) (wrap64 (10000 + t632)) (wrap64 (10000 + t633))) else (haberdashlaw19_LevyRates.j0 k t629 t630 t631 t632 t633 a6 bt647.2.1 bt647.2.2.2.1 bt647.2.2.2.2 10000 10000 10000)))))))
set_option maxHeartbeats 8000000 in
set_option maxRecDepth 100000 in
theorem haberdashlaw19_LevyRates.calls (k : Nat) (a0 : Int) (a1 : Int) (a2 : Int) (a3 : Int) (a4 : Int) (a5 : Bool) (a6 : Bool) (r : Bool) (w : World) (h : haberdashlaw19_LevyRates.f k a0 a1 a2 a3 a4 a5 a6 = some r) :
   Calls Try.prog 7 #[.int .i64 a0, .int .i64 a1, .int .i64 a2, .int .i64 a3, .int .i64 a4, .bool a5, .bool a6] w fun e w' => e = .returned (.bool r) ∧ Below w.heap.size w w' := by
  have hu53 := Try.underlying53
  have hu56 := Try.underlying56
  have hu24 := Try.underlying24
  have HB := Aside0.mk (Below.refl w.heap.size w)
  have H : ((haberdashplay_Mod64.f a0 1073741824).bind fun t629 => ((haberdashplay_Mod64.f a1 1048576).bind fun t630 => ((haberdashplay_Mod64.f a2 10001).bind fun t631 => ((haberdashplay_Mod64.f a3 10001).bind fun t632 => ((haberdashplay_Mod64.f a4 10001).bind fun t633 => ((levy_Levy.f k a5 a6 0 (([(⟨(⟨#[122]⟩ : ByteArray), (([(⟨(⟨#[120]⟩ : ByteArray), t631⟩ : S53)] : List (S53))), t632, t633⟩ : S56)] : List (S56))) (⟨#[122]⟩ : ByteArray) false (([(⟨#[120]⟩ : ByteArray), (⟨#[121]⟩ : ByteArray)] : List ByteArray)) (([t629, t629] : List Int)) t630).bind fun bt647 => (if a5 = true then (haberdashlaw19_LevyRates.j0 k t629 t630 t631 t632 t633 a6 bt647.2.1 bt647.2.2.2.1 bt647.2.2.2.2 (wrap64 (10000 + t631)) (wrap64 (10000 + t632)) (wrap64 (10000 + t633))) else (haberdashlaw19_LevyRates.j0 k t629 t630 t631 t632 t633 a6 bt647.2.1 bt647.2.2.2.1 bt647.2.2.2.2 10000 10000 10000)))))))) = some r := h
  clear h
  replace H := Option.bind_eq_some_iff.mp H
  obtain ⟨t629, A80, H⟩ := H
  replace H : ((haberdashplay_Mod64.f a1 1048576).bind fun t630 => ((haberdashplay_Mod64.f a2 10001).bind fun t631 => ((haberdashplay_Mod64.f a3 10001).bind fun t632 => ((haberdashplay_Mod64.f a4 10001).bind fun t633 => ((levy_Levy.f k a5 a6 0 (([(⟨(⟨#[122]⟩ : ByteArray), (([(⟨(⟨#[120]⟩ : ByteArray), t631⟩ : S53)] : List (S53))), t632, t633⟩ : S56)] : List (S56))) (⟨#[122]⟩ : ByteArray) false (([(⟨#[120]⟩ : ByteArray), (⟨#[121]⟩ : ByteArray)] : List ByteArray)) (([t629, t629] : List Int)) t630).bind fun bt647 => (if a5 = true then (haberdashlaw19_LevyRates.j0 k t629 t630 t631 t632 t633 a6 bt647.2.1 bt647.2.2.2.1 bt647.2.2.2.2 (wrap64 (10000 + t631)) (wrap64 (10000 + t632)) (wrap64 (10000 + t633))) else (haberdashlaw19_LevyRates.j0 k t629 t630 t631 t632 t633 a6 bt647.2.1 bt647.2.2.2.1 bt647.2.2.2.2 10000 10000 10000))))))) = some r := H
  have A8 := Aside0.mk A80
  clear A80
  replace H := Option.bind_eq_some_iff.mp H
  obtain ⟨t630, A90, H⟩ := H
  replace H : ((haberdashplay_Mod64.f a2 10001).bind fun t631 => ((haberdashplay_Mod64.f a3 10001).bind fun t632 => ((haberdashplay_Mod64.f a4 10001).bind fun t633 => ((levy_Levy.f k a5 a6 0 (([(⟨(⟨#[122]⟩ : ByteArray), (([(⟨(⟨#[120]⟩ : ByteArray), t631⟩ : S53)] : List (S53))), t632, t633⟩ : S56)] : List (S56))) (⟨#[122]⟩ : ByteArray) false (([(⟨#[120]⟩ : ByteArray), (⟨#[121]⟩ : ByteArray)] : List ByteArray)) (([t629, t629] : List Int)) t630).bind fun bt647 => (if a5 = true then (haberdashlaw19_LevyRates.j0 k t629 t630 t631 t632 t633 a6 bt647.2.1 bt647.2.2.2.1 bt647.2.2.2.2 (wrap64 (10000 + t631)) (wrap64 (10000 + t632)) (wrap64 (10000 + t633))) else (haberdashlaw19_LevyRates.j0 k t629 t630 t631 t632 t633 a6 bt647.2.1 bt647.2.2.2.1 bt647.2.2.2.2 10000 10000 10000)))))) = some r := H
  have A9 := Aside0.mk A90
  clear A90
  replace H := Option.bind_eq_some_iff.mp H
  obtain ⟨t631, A100, H⟩ := H
  replace H : ((haberdashplay_Mod64.f a3 10001).bind fun t632 => ((haberdashplay_Mod64.f a4 10001).bind fun t633 => ((levy_Levy.f k a5 a6 0 (([(⟨(⟨#[122]⟩ : ByteArray), (([(⟨(⟨#[120]⟩ : ByteArray), t631⟩ : S53)] : List (S53))), t632, t633⟩ : S56)] : List (S56))) (⟨#[122]⟩ : ByteArray) false (([(⟨#[120]⟩ : ByteArray), (⟨#[121]⟩ : ByteArray)] : List ByteArray)) (([t629, t629] : List Int)) t630).bind fun bt647 => (if a5 = true then (haberdashlaw19_LevyRates.j0 k t629 t630 t631 t632 t633 a6 bt647.2.1 bt647.2.2.2.1 bt647.2.2.2.2 (wrap64 (10000 + t631)) (wrap64 (10000 + t632)) (wrap64 (10000 + t633))) else (haberdashlaw19_LevyRates.j0 k t629 t630 t631 t632 t633 a6 bt647.2.1 bt647.2.2.2.1 bt647.2.2.2.2 10000 10000 10000))))) = some r := H
  have A10 := Aside0.mk A100
  clear A100
  replace H := Option.bind_eq_some_iff.mp H
  obtain ⟨t632, A110, H⟩ := H
  replace H : ((haberdashplay_Mod64.f a4 10001).bind fun t633 => ((levy_Levy.f k a5 a6 0 (([(⟨(⟨#[122]⟩ : ByteArray), (([(⟨(⟨#[120]⟩ : ByteArray), t631⟩ : S53)] : List (S53))), t632, t633⟩ : S56)] : List (S56))) (⟨#[122]⟩ : ByteArray) false (([(⟨#[120]⟩ : ByteArray), (⟨#[121]⟩ : ByteArray)] : List ByteArray)) (([t629, t629] : List Int)) t630).bind fun bt647 => (if a5 = true then (haberdashlaw19_LevyRates.j0 k t629 t630 t631 t632 t633 a6 bt647.2.1 bt647.2.2.2.1 bt647.2.2.2.2 (wrap64 (10000 + t631)) (wrap64 (10000 + t632)) (wrap64 (10000 + t633))) else (haberdashlaw19_LevyRates.j0 k t629 t630 t631 t632 t633 a6 bt647.2.1 bt647.2.2.2.1 bt647.2.2.2.2 10000 10000 10000)))) = some r := H
  have A11 := Aside0.mk A110
  clear A110
  replace H := Option.bind_eq_some_iff.mp H
  obtain ⟨t633, A120, H⟩ := H
  replace H : ((levy_Levy.f k a5 a6 0 (([(⟨(⟨#[122]⟩ : ByteArray), (([(⟨(⟨#[120]⟩ : ByteArray), t631⟩ : S53)] : List (S53))), t632, t633⟩ : S56)] : List (S56))) (⟨#[122]⟩ : ByteArray) false (([(⟨#[120]⟩ : ByteArray), (⟨#[121]⟩ : ByteArray)] : List ByteArray)) (([t629, t629] : List Int)) t630).bind fun bt647 => (if a5 = true then (haberdashlaw19_LevyRates.j0 k t629 t630 t631 t632 t633 a6 bt647.2.1 bt647.2.2.2.1 bt647.2.2.2.2 (wrap64 (10000 + t631)) (wrap64 (10000 + t632)) (wrap64 (10000 + t633))) else (haberdashlaw19_LevyRates.j0 k t629 t630 t631 t632 t633 a6 bt647.2.1 bt647.2.2.2.1 bt647.2.2.2.2 10000 10000 10000))) = some r := H
  have A12 := Aside0.mk A120
  clear A120
  obtain ⟨y634, hy634⟩ : ∃ y_ : List (S53), y_ = (([(⟨(⟨#[120]⟩ : ByteArray), t631⟩ : S53)] : List (S53))) := ⟨_, rfl⟩
  replace H : ((levy_Levy.f k a5 a6 0 (([(⟨(⟨#[122]⟩ : ByteArray), y634, t632, t633⟩ : S56)] : List (S56))) (⟨#[122]⟩ : ByteArray) false (([(⟨#[120]⟩ : ByteArray), (⟨#[121]⟩ : ByteArray)] : List ByteArray)) (([t629, t629] : List Int)) t630).bind fun bt647 => (if a5 = true then (haberdashlaw19_LevyRates.j0 k t629 t630 t631 t632 t633 a6 bt647.2.1 bt647.2.2.2.1 bt647.2.2.2.2 (wrap64 (10000 + t631)) (wrap64 (10000 + t632)) (wrap64 (10000 + t633))) else (haberdashlaw19_LevyRates.j0 k t629 t630 t631 t632 t633 a6 bt647.2.1 bt647.2.2.2.1 bt647.2.2.2.2 10000 10000 10000))) = some r := by first | (rw [hy634]; with_reducible exact H) | (have H2_ := (Option.bind_some _ _).symm.trans H; rw [hy634]; with_reducible exact H2_) | (have H2_ := (Option.bind_some _ _).symm.trans H; with_reducible exact H2_) | with_reducible exact H | (rw [hy634]; exact H) | exact H
  have Ny634 := Aside0.mk hy634
  clear hy634
  obtain ⟨y637, hy637⟩ : ∃ y_ : List (S56), y_ = (([(⟨(⟨#[122]⟩ : ByteArray), y634, t632, t633⟩ : S56)] : List (S56))) := ⟨_, rfl⟩
  replace H : ((levy_Levy.f k a5 a6 0 y637 (⟨#[122]⟩ : ByteArray) false (([(⟨#[120]⟩ : ByteArray), (⟨#[121]⟩ : ByteArray)] : List ByteArray)) (([t629, t629] : List Int)) t630).bind fun bt647 => (if a5 = true then (haberdashlaw19_LevyRates.j0 k t629 t630 t631 t632 t633 a6 bt647.2.1 bt647.2.2.2.1 bt647.2.2.2.2 (wrap64 (10000 + t631)) (wrap64 (10000 + t632)) (wrap64 (10000 + t633))) else (haberdashlaw19_LevyRates.j0 k t629 t630 t631 t632 t633 a6 bt647.2.1 bt647.2.2.2.1 bt647.2.2.2.2 10000 10000 10000))) = some r := by first | (rw [hy637]; with_reducible exact H) | (have H2_ := (Option.bind_some _ _).symm.trans H; rw [hy637]; with_reducible exact H2_) | (have H2_ := (Option.bind_some _ _).symm.trans H; with_reducible exact H2_) | with_reducible exact H | (rw [hy637]; exact H) | exact H
  have Ny637 := Aside0.mk hy637
  clear hy637
  obtain ⟨y641, hy641⟩ : ∃ y_ : List ByteArray, y_ = (([(⟨#[120]⟩ : ByteArray), (⟨#[121]⟩ : ByteArray)] : List ByteArray)) := ⟨_, rfl⟩
  replace H : ((levy_Levy.f k a5 a6 0 y637 (⟨#[122]⟩ : ByteArray) false y641 (([t629, t629] : List Int)) t630).bind fun bt647 => (if a5 = true then (haberdashlaw19_LevyRates.j0 k t629 t630 t631 t632 t633 a6 bt647.2.1 bt647.2.2.2.1 bt647.2.2.2.2 (wrap64 (10000 + t631)) (wrap64 (10000 + t632)) (wrap64 (10000 + t633))) else (haberdashlaw19_LevyRates.j0 k t629 t630 t631 t632 t633 a6 bt647.2.1 bt647.2.2.2.1 bt647.2.2.2.2 10000 10000 10000))) = some r := by first | (rw [hy641]; with_reducible exact H) | (have H2_ := (Option.bind_some _ _).symm.trans H; rw [hy641]; with_reducible exact H2_) | (have H2_ := (Option.bind_some _ _).symm.trans H; with_reducible exact H2_) | with_reducible exact H | (rw [hy641]; exact H) | exact H
  have Ny641 := Aside0.mk hy641
  clear hy641
  obtain ⟨y644, hy644⟩ : ∃ y_ : List Int, y_ = (([t629, t629] : List Int)) := ⟨_, rfl⟩
  replace H : ((levy_Levy.f k a5 a6 0 y637 (⟨#[122]⟩ : ByteArray) false y641 y644 t630).bind fun bt647 => (if a5 = true then (haberdashlaw19_LevyRates.j0 k t629 t630 t631 t632 t633 a6 bt647.2.1 bt647.2.2.2.1 bt647.2.2.2.2 (wrap64 (10000 + t631)) (wrap64 (10000 + t632)) (wrap64 (10000 + t633))) else (haberdashlaw19_LevyRates.j0 k t629 t630 t631 t632 t633 a6 bt647.2.1 bt647.2.2.2.1 bt647.2.2.2.2 10000 10000 10000))) = some r := by first | (rw [hy644]; with_reducible exact H) | (have H2_ := (Option.bind_some _ _).symm.trans H; rw [hy644]; with_reducible exact H2_) | (have H2_ := (Option.bind_some _ _).symm.trans H; with_reducible exact H2_) | with_reducible exact H | (rw [hy644]; exact H) | exact H
  have Ny644 := Aside0.mk hy644
  clear hy644
  replace H := Option.bind_eq_some_iff.mp H
  obtain ⟨⟨t647, t650, t653, t654, t655⟩, A130, H⟩ := H
  replace H : (if a5 = true then (haberdashlaw19_LevyRates.j0 k t629 t630 t631 t632 t633 a6 t650 t654 t655 (wrap64 (10000 + t631)) (wrap64 (10000 + t632)) (wrap64 (10000 + t633))) else (haberdashlaw19_LevyRates.j0 k t629 t630 t631 t632 t633 a6 t650 t654 t655 10000 10000 10000)) = some r := H
  have A13 := Aside0.mk A130
  clear A130
  have HC14 := Aside0.mk H
  clear H
  go_enter Try.func7, Try.ntmps7
  go_upto_if 57 with (first | (go_at_call 24; (with_reducible refine (haberdashplay_Mod64.calls a0 1073741824 t629 _ A8.out).mono ?_); rintro e w' ⟨rfl, ⟨nd, rfl⟩⟩; (try first | exact ⟨rfl, _, World.drewN_drewN _ _ _⟩ | exact ⟨rfl, _, Eq.trans (World.drewN_drewN _ _ _) (congrArg (World.drewN _) (Nat.add_assoc _ _ _))⟩)) | (go_at_call 24; (with_reducible refine (haberdashplay_Mod64.calls a1 1048576 t630 _ A9.out).mono ?_); rintro e w' ⟨rfl, ⟨nd, rfl⟩⟩; (try first | exact ⟨rfl, _, World.drewN_drewN _ _ _⟩ | exact ⟨rfl, _, Eq.trans (World.drewN_drewN _ _ _) (congrArg (World.drewN _) (Nat.add_assoc _ _ _))⟩)) | (go_at_call 24; (with_reducible refine (haberdashplay_Mod64.calls a2 10001 t631 _ A10.out).mono ?_); rintro e w' ⟨rfl, ⟨nd, rfl⟩⟩; (try first | exact ⟨rfl, _, World.drewN_drewN _ _ _⟩ | exact ⟨rfl, _, Eq.trans (World.drewN_drewN _ _ _) (congrArg (World.drewN _) (Nat.add_assoc _ _ _))⟩)) | (go_at_call 24; (with_reducible refine (haberdashplay_Mod64.calls a3 10001 t632 _ A11.out).mono ?_); rintro e w' ⟨rfl, ⟨nd, rfl⟩⟩; (try first | exact ⟨rfl, _, World.drewN_drewN _ _ _⟩ | exact ⟨rfl, _, Eq.trans (World.drewN_drewN _ _ _) (congrArg (World.drewN _) (Nat.add_assoc _ _ _))⟩)) | (go_at_call 24; (with_reducible refine (haberdashplay_Mod64.calls a4 10001 t633 _ A12.out).mono ?_); rintro e w' ⟨rfl, ⟨nd, rfl⟩⟩; (try first | exact ⟨rfl, _, World.drewN_drewN _ _ _⟩ | exact ⟨rfl, _, Eq.trans (World.drewN_drewN _ _ _) (congrArg (World.drewN _) (Nat.add_assoc _ _ _))⟩)) | ((with_reducible refine gate_dst (N := 38) rfl ?_); (try (refine gate_guard (by rfl) ?_; dsimp only)); refine Kd.R_lit k53 _ 53 ?hg (N := 38) ?hd (xs := ([(⟨(⟨#[120]⟩ : ByteArray), t631⟩ : S53)] : List (S53))) (inner := [.string (⟨#[120]⟩ : ByteArray), .int .i64 t631]) (ok := fun _ => True) (okp := fun _ => True) ?hr ?hp (fun _ hk => hk) trivial (Below.refl _ _) (Nat.le_refl _) (by simp) ?_; (case hd => rfl); (case hg => rfl); (case hr => first | (go_simp; done) | (go_simp; rfl)); (case hp => exact (Reps.c2 (show Kd.M k53 _ _ _ (⟨(⟨#[120]⟩ : ByteArray), t631⟩ : S53) [.string (⟨#[120]⟩ : ByteArray), .int .i64 t631] from (k53_mkM _ _ _ (⟨(⟨#[120]⟩ : ByteArray), t631⟩ : S53) )) (Reps.none _ _))); intro v635 w15 ho16 hb hg_ hnew_; clear hg_ hnew_; (first | rw [← Ny634.out] at ho16 | (simp only [Int.reduceToNat] at ho16; rw [← Ny634.out] at ho16)); have HO636 := Aside0.mk (Kd.R_lower ho16 (below_size (by repeat (first | (with_reducible first | exact HB.out | apply below_alloc | apply pw_below_drewN | apply below_drew1) | exact HB.out)))); replace HB := Aside0.mk (below_step (by repeat (first | (with_reducible first | exact HB.out | apply below_alloc | apply pw_below_drewN | apply below_drew1) | exact HB.out)) hb); clear hb ho16; obtain ⟨Ao17, co17, eo17⟩ := Kd.R_slice HO636.out; subst eo17) | ((with_reducible refine gate_dst (N := 42) rfl ?_); (try (refine gate_guard (by rfl) ?_; dsimp only)); refine Kd.N_lit k56 _ 56 ?hg (N' := 42) ?hd (xs := ([(⟨(⟨#[122]⟩ : ByteArray), y634, t632, t633⟩ : S56)] : List (S56))) (inner := [.string (⟨#[122]⟩ : ByteArray), .slice Ao17 y634.length co17, .int .i64 t632, .int .i64 t633]) (ok := (fun _ => True)) (okp := (fun _ => True)) ?hr ?hp (fun _ hk => hk) ((show ∀ k_, w15.heap.size ≤ k_ → (fun _ => True) k_ from fun k_ hk => trivial) _ (Nat.le_refl _)) (Below.refl _ _) (Nat.le_refl _) (by simp) ?_; (case hd => rfl); (case hg => rfl); (case hr => first | (go_simp; done) | (go_simp; rfl)); (case hp => exact (Reps.c4 (show Kd.FK k56 _ _ (⟨(⟨#[122]⟩ : ByteArray), y634, t632, t633⟩ : S56) [.string (⟨#[122]⟩ : ByteArray), .slice Ao17 y634.length co17, .int .i64 t632, .int .i64 t633] from (k56_mkF _ _ (⟨(⟨#[122]⟩ : ByteArray), y634, t632, t633⟩ : S56) (Kd.R_reads' (Kd.R_mono (ok' := (fun _ => True)) (HO636.out) (fun k_ hk => trivial))).2.1 (Kd.R_F (Kd.R_mono (ok' := (fun _ => True)) (HO636.out) (fun k_ hk => trivial))))) (Reps.none _ _))); intro v638 w18 ho19 hb hg_ hnew_; clear hg_ hnew_; (first | rw [← Ny637.out] at ho19 | (simp only [Int.reduceToNat] at ho19; rw [← Ny637.out] at ho19)); have n0_ := Aside0.mk (Kd.N_lower ho19 (below_size (by repeat (first | (with_reducible first | exact HB.out | apply below_alloc | apply pw_below_drewN | apply below_drew1) | exact HB.out)))); have n1_ := Aside0.mk (below_step (by repeat (first | (with_reducible first | exact HB.out | apply below_alloc | apply pw_below_drewN | apply below_drew1) | exact HB.out)) hb); clear HB; clear HO636; have HO639 := n0_; have HB := n1_; clear n0_ n1_; clear hb ho19; obtain ⟨Ao20, co20, eo20⟩ := Kd.N_slice HO639.out; subst eo20) | ((with_reducible refine gate_dst (N := 15) rfl ?_); (try (refine gate_guard (by rfl) ?_; dsimp only)); refine box_event ?hg (N := 15) ?hd (cs := #[.bool false, .bool false, .int .i64 0, .slice none 0 0]) (t := 24) ?hr ?_; (case hd => rfl); (case hg => rfl); (case hr => first | (go_simp; done) | (go_simp; rfl)); intro gb640 hg w21 hbox hb; replace HO639 := Aside0.mk (Kd.N_below (Kd.N_elderB (by (with_reducible repeat (first | apply Kd.N_alloc | apply Kd.N_drewN | apply Kd.N_drew)); exact HO639.out) gb640 (Nat.le_of_eq hg.symm)) hb); have BK640 := Aside0.mk (hbox); have GW640 := Aside0.mk ((by rw [hg]; exact (below_size (by repeat (first | (with_reducible first | exact HB.out | apply below_alloc | apply pw_below_drewN | apply below_drew1) | exact HB.out))) : w.heap.size ≤ gb640)); have GE640 := Aside0.mk ((by rw [hg]; exact (below_size (by repeat (first | (with_reducible first | exact HB.out | apply below_alloc | apply pw_below_drewN | apply below_drew1) | exact HB.out))) : w.heap.size ≤ gb640)); replace HB := Aside0.mk (below_step (by repeat (first | (with_reducible first | exact HB.out | apply below_alloc | apply pw_below_drewN | apply below_drew1) | exact HB.out)) hb); clear hb hbox hg; have hcz22_0 : w21.cell? ⟨gb640, 0, none⟩ = some (.bool false) := (blk_cell BK640.out 0).trans rfl; have hcz22_1 : w21.cell? ⟨gb640, 1, none⟩ = some (.bool false) := (blk_cell BK640.out 1).trans rfl; have hcz22_2 : w21.cell? ⟨gb640, 2, none⟩ = some (.int .i64 0) := (blk_cell BK640.out 2).trans rfl; have hcz22_3 : w21.cell? ⟨gb640, 3, none⟩ = some (.slice none 0 0) := (blk_cell BK640.out 3).trans rfl; have hfz22_0 := blk_frozen BK640.out 0; have hfz22_1 := blk_frozen BK640.out 1; have hfz22_2 := blk_frozen BK640.out 2; have hfz22_3 := blk_frozen BK640.out 3) | ((with_reducible refine gate_dst (N := 46) rfl ?_); (try (refine gate_guard (by rfl) ?_; dsimp only)); refine Kd.R_lit Kd.string _ 9 ?hg (N := 46) ?hd (xs := ([(⟨#[120]⟩ : ByteArray), (⟨#[121]⟩ : ByteArray)] : List ByteArray)) (inner := [.string (⟨#[120]⟩ : ByteArray), .string (⟨#[121]⟩ : ByteArray)]) (ok := fun _ => True) (okp := fun _ => True) ?hr ?hp (fun _ hk => hk) trivial (Below.refl _ _) (Nat.le_refl _) (by simp) ?_; (case hd => rfl); (case hg => rfl); (case hr => first | (go_simp; done) | (go_simp; rfl)); (case hp => exact (Reps.one (show Kd.M Kd.string _ _ _ (⟨#[120]⟩ : ByteArray) [.string (⟨#[120]⟩ : ByteArray)] from rfl) (Reps.one (show Kd.M Kd.string _ _ _ (⟨#[121]⟩ : ByteArray) [.string (⟨#[121]⟩ : ByteArray)] from rfl) (Reps.none _ _)))); intro v642 w23 ho24 hb hg_ hnew_; clear hg_ hnew_; (first | rw [← Ny641.out] at ho24 | (simp only [Int.reduceToNat] at ho24; rw [← Ny641.out] at ho24)); replace HO639 := Aside0.mk (Kd.N_elder' (by (with_reducible repeat (first | apply Kd.N_alloc | apply Kd.N_drewN | apply Kd.N_drew)); exact (Kd.N_mono (Kd.N_far (p := ⟨gb640, 3, none⟩) (Kd.N_far (p := ⟨gb640, 2, none⟩) (Kd.N_far (p := ⟨gb640, 1, none⟩) (Kd.N_far (p := ⟨gb640, 0, none⟩) (Kd.N_mono HO639.out (fun k_ hk => (⟨hk, hk.2⟩ : _ ∧ k_ ≠ gb640))) (fun _ hk => hk.2) (.bool a5)) (fun _ hk => hk.2) (.bool a6)) (fun _ hk => hk.2) (.int .i64 0)) (fun _ hk => hk.2) (.slice Ao20 y637.length co20)) (fun _ h_ => h_.1))) (Kd.R_base ho24) hb); have HO643 := Aside0.mk (Kd.R_lower ho24 (below_size (by repeat (first | (with_reducible first | exact HB.out | apply below_alloc | apply pw_below_drewN | apply below_drew1 | refine below_set ?_ GE640.out) | exact HB.out)))); replace BK640 := Aside0.mk (blk_below (g := gb640) (o := .cells #[.bool a5, .bool a6, .int .i64 0, .slice Ao20 y637.length co20] 24 (0, 0)) (by (with_reducible repeat (first | refine blk_drewN ?_ _ | refine blk_drew ?_ | refine blk_alloc ?_ _)); refine blk_put (cs := #[.bool a5, .bool a6, .int .i64 0, .slice none 0 0]) ?_ 3 _ rfl; (with_reducible repeat (first | refine blk_drewN ?_ _ | refine blk_drew ?_ | refine blk_alloc ?_ _)); refine blk_put (cs := #[.bool a5, .bool a6, .int .i64 0, .slice none 0 0]) ?_ 2 _ rfl; (with_reducible repeat (first | refine blk_drewN ?_ _ | refine blk_drew ?_ | refine blk_alloc ?_ _)); refine blk_put (cs := #[.bool a5, .bool false, .int .i64 0, .slice none 0 0]) ?_ 1 _ rfl; (with_reducible repeat (first | refine blk_drewN ?_ _ | refine blk_drew ?_ | refine blk_alloc ?_ _)); refine blk_put (cs := #[.bool false, .bool false, .int .i64 0, .slice none 0 0]) ?_ 0 _ rfl; (with_reducible repeat (first | refine blk_drewN ?_ _ | refine blk_drew ?_ | refine blk_alloc ?_ _)); exact BK640.out) hb); replace HB := Aside0.mk (below_step (by repeat (first | (with_reducible first | exact HB.out | apply below_alloc | apply pw_below_drewN | apply below_drew1 | refine below_set ?_ GE640.out) | exact HB.out)) hb); clear hb ho24) | ((with_reducible refine gate_dst (N := 49) rfl ?_); (try (refine gate_guard (by rfl) ?_; dsimp only)); refine Kd.R_lit (Kd.int .i64) _ 2 ?hg (N := 49) ?hd (xs := ([t629, t629] : List Int)) (inner := [.int .i64 t629, .int .i64 t629]) (ok := fun _ => True) (okp := fun _ => True) ?hr ?hp (fun _ hk => hk) trivial (Below.refl _ _) (Nat.le_refl _) (by simp) ?_; (case hd => rfl); (case hg => rfl); (case hr => first | (go_simp; done) | (go_simp; rfl)); (case hp => exact (Reps.one (show Kd.M (Kd.int .i64) _ _ _ t629 [.int .i64 t629] from rfl) (Reps.one (show Kd.M (Kd.int .i64) _ _ _ t629 [.int .i64 t629] from rfl) (Reps.none _ _)))); intro v645 w25 ho26 hb hg_ hnew_; clear hg_ hnew_; (first | rw [← Ny644.out] at ho26 | (simp only [Int.reduceToNat] at ho26; rw [← Ny644.out] at ho26)); replace HO639 := Aside0.mk (Kd.N_elder' (by (with_reducible repeat (first | apply Kd.N_alloc | apply Kd.N_drewN | apply Kd.N_drew)); exact HO639.out) (Kd.R_base ho26) hb); replace HO643 := Aside0.mk (Kd.R_below (by (with_reducible repeat (first | apply Kd.R_alloc | apply Kd.R_drewN | apply Kd.R_drew)); exact HO643.out) hb); have HO646 := Aside0.mk (Kd.R_lower ho26 (below_size (by repeat (first | (with_reducible first | exact HB.out | apply below_alloc | apply pw_below_drewN | apply below_drew1 | refine below_set ?_ GE640.out) | exact HB.out)))); replace BK640 := Aside0.mk (blk_below (g := gb640) (o := .cells #[.bool a5, .bool a6, .int .i64 0, .slice Ao20 y637.length co20] 24 (0, 0)) (by (with_reducible repeat (first | refine blk_drewN ?_ _ | refine blk_drew ?_ | refine blk_alloc ?_ _)); exact BK640.out) hb); replace HB := Aside0.mk (below_step (by repeat (first | (with_reducible first | exact HB.out | apply below_alloc | apply pw_below_drewN | apply below_drew1 | refine below_set ?_ GE640.out) | exact HB.out)) hb); clear hb ho26; obtain ⟨Ao27, co27, eo27⟩ := Kd.R_slice HO643.out; subst eo27; obtain ⟨Ao28, co28, eo28⟩ := Kd.R_slice HO646.out; subst eo28) | (go_at_call 19; (with_reducible refine (levy_Levy.calls k a5 a6 0 _ _ y637 (⟨#[122]⟩ : ByteArray) false _ _ y641 _ _ y644 t630 t647 t650 t653 t654 t655 _ ?side1 ?side2 ?side3 ?side4 ?side5 ?side6 A13.out).mono ?_); (case side1 => repeat (first | exact (Kd.N_reads' HO639.out).2.2 | (with_reducible refine Kd.C_alloc ?_ _) | (with_reducible refine Kd.C_drewN ?_ _) | (with_reducible refine Kd.C_drew ?_))); (case side2 => exact (Kd.N_reads' HO639.out).2.1); (case side3 => repeat (first | exact (Kd.R_reads' HO643.out).2.2 | (with_reducible refine Kd.C_alloc ?_ _) | (with_reducible refine Kd.C_drewN ?_ _) | (with_reducible refine Kd.C_drew ?_))); (case side4 => exact (Kd.R_reads' HO643.out).2.1); (case side5 => repeat (first | exact (Kd.R_reads' HO646.out).2.2 | (with_reducible refine Kd.C_alloc ?_ _) | (with_reducible refine Kd.C_drewN ?_ _) | (with_reducible refine Kd.C_drew ?_))); (case side6 => exact (Kd.R_reads' HO646.out).2.1); rintro e w29 ⟨v648, v651, rfl, ho0, ho1, hb⟩; replace HO639 := Aside0.mk (Kd.N_mono (Kd.N_told (Kd.N_told (Kd.N_old (by (with_reducible repeat (first | apply Kd.N_alloc | apply Kd.N_drewN | apply Kd.N_drew)); exact HO639.out) hb) (Kd.R_base ho0)) (Kd.R_base ho1)) (fun _ h_ => h_.1)); replace HO643 := Aside0.mk (Kd.R_below (by (with_reducible repeat (first | apply Kd.R_alloc | apply Kd.R_drewN | apply Kd.R_drew)); exact HO643.out) hb); have HO649 := Aside0.mk (Kd.R_lower (Kd.R_new' ho0 (Kd.R_lt (by (with_reducible repeat (first | apply Kd.R_alloc | apply Kd.R_drewN | apply Kd.R_drew)); exact HO646.out))) (below_size (by repeat (first | (with_reducible first | exact HB.out | apply below_alloc | apply pw_below_drewN | apply below_drew1 | refine below_set ?_ GE640.out) | exact HB.out)))); have HO652 := Aside0.mk (Kd.R_lower (Kd.R_new' ho1 (Kd.R_lt (by (with_reducible repeat (first | apply Kd.R_alloc | apply Kd.R_drewN | apply Kd.R_drew)); exact HO646.out))) (below_size (by repeat (first | (with_reducible first | exact HB.out | apply below_alloc | apply pw_below_drewN | apply below_drew1 | refine below_set ?_ GE640.out) | exact HB.out)))); replace HO646 := Aside0.mk (Kd.R_mono (Kd.R_told (Kd.R_told (Kd.R_old (by (with_reducible repeat (first | apply Kd.R_alloc | apply Kd.R_drewN | apply Kd.R_drew)); exact HO646.out) hb) (Kd.R_base ho0)) (Kd.R_base ho1)) (fun _ h_ => h_.1)); replace BK640 := Aside0.mk (blk_below (g := gb640) (o := .cells #[.bool a5, .bool a6, .int .i64 0, .slice Ao20 y637.length co20] 24 (0, 0)) (by (with_reducible repeat (first | refine blk_drewN ?_ _ | refine blk_drew ?_ | refine blk_alloc ?_ _)); exact BK640.out) hb); replace HB := Aside0.mk (below_step (by repeat (first | (with_reducible first | exact HB.out | apply below_alloc | apply pw_below_drewN | apply below_drew1 | refine below_set ?_ GE640.out) | exact HB.out)) hb); (try clear hb); (try clear hb2); (try clear hk); (try clear hi); (try clear ho0); (try clear ho1)))
  repeat (go_quiet (first | (go_at_call 24; (with_reducible refine (haberdashplay_Mod64.calls a0 1073741824 t629 _ A8.out).mono ?_); rintro e w' ⟨rfl, ⟨nd, rfl⟩⟩; (try first | exact ⟨rfl, _, World.drewN_drewN _ _ _⟩ | exact ⟨rfl, _, Eq.trans (World.drewN_drewN _ _ _) (congrArg (World.drewN _) (Nat.add_assoc _ _ _))⟩)) | (go_at_call 24; (with_reducible refine (haberdashplay_Mod64.calls a1 1048576 t630 _ A9.out).mono ?_); rintro e w' ⟨rfl, ⟨nd, rfl⟩⟩; (try first | exact ⟨rfl, _, World.drewN_drewN _ _ _⟩ | exact ⟨rfl, _, Eq.trans (World.drewN_drewN _ _ _) (congrArg (World.drewN _) (Nat.add_assoc _ _ _))⟩)) | (go_at_call 24; (with_reducible refine (haberdashplay_Mod64.calls a2 10001 t631 _ A10.out).mono ?_); rintro e w' ⟨rfl, ⟨nd, rfl⟩⟩; (try first | exact ⟨rfl, _, World.drewN_drewN _ _ _⟩ | exact ⟨rfl, _, Eq.trans (World.drewN_drewN _ _ _) (congrArg (World.drewN _) (Nat.add_assoc _ _ _))⟩)) | (go_at_call 24; (with_reducible refine (haberdashplay_Mod64.calls a3 10001 t632 _ A11.out).mono ?_); rintro e w' ⟨rfl, ⟨nd, rfl⟩⟩; (try first | exact ⟨rfl, _, World.drewN_drewN _ _ _⟩ | exact ⟨rfl, _, Eq.trans (World.drewN_drewN _ _ _) (congrArg (World.drewN _) (Nat.add_assoc _ _ _))⟩)) | (go_at_call 24; (with_reducible refine (haberdashplay_Mod64.calls a4 10001 t633 _ A12.out).mono ?_); rintro e w' ⟨rfl, ⟨nd, rfl⟩⟩; (try first | exact ⟨rfl, _, World.drewN_drewN _ _ _⟩ | exact ⟨rfl, _, Eq.trans (World.drewN_drewN _ _ _) (congrArg (World.drewN _) (Nat.add_assoc _ _ _))⟩)) | ((with_reducible refine gate_dst (N := 38) rfl ?_); (try (refine gate_guard (by rfl) ?_; dsimp only)); refine Kd.R_lit k53 _ 53 ?hg (N := 38) ?hd (xs := ([(⟨(⟨#[120]⟩ : ByteArray), t631⟩ : S53)] : List (S53))) (inner := [.string (⟨#[120]⟩ : ByteArray), .int .i64 t631]) (ok := fun _ => True) (okp := fun _ => True) ?hr ?hp (fun _ hk => hk) trivial (Below.refl _ _) (Nat.le_refl _) (by simp) ?_; (case hd => rfl); (case hg => rfl); (case hr => first | (go_simp; done) | (go_simp; rfl)); (case hp => exact (Reps.c2 (show Kd.M k53 _ _ _ (⟨(⟨#[120]⟩ : ByteArray), t631⟩ : S53) [.string (⟨#[120]⟩ : ByteArray), .int .i64 t631] from (k53_mkM _ _ _ (⟨(⟨#[120]⟩ : ByteArray), t631⟩ : S53) )) (Reps.none _ _))); intro v635 w15 ho16 hb hg_ hnew_; clear hg_ hnew_; (first | rw [← Ny634.out] at ho16 | (simp only [Int.reduceToNat] at ho16; rw [← Ny634.out] at ho16)); have HO636 := Aside0.mk (Kd.R_lower ho16 (below_size (by repeat (first | (with_reducible first | exact HB.out | apply below_alloc | apply pw_below_drewN | apply below_drew1) | exact HB.out)))); replace HB := Aside0.mk (below_step (by repeat (first | (with_reducible first | exact HB.out | apply below_alloc | apply pw_below_drewN | apply below_drew1) | exact HB.out)) hb); clear hb ho16; obtain ⟨Ao17, co17, eo17⟩ := Kd.R_slice HO636.out; subst eo17) | ((with_reducible refine gate_dst (N := 42) rfl ?_); (try (refine gate_guard (by rfl) ?_; dsimp only)); refine Kd.N_lit k56 _ 56 ?hg (N' := 42) ?hd (xs := ([(⟨(⟨#[122]⟩ : ByteArray), y634, t632, t633⟩ : S56)] : List (S56))) (inner := [.string (⟨#[122]⟩ : ByteArray), .slice Ao17 y634.length co17, .int .i64 t632, .int .i64 t633]) (ok := (fun _ => True)) (okp := (fun _ => True)) ?hr ?hp (fun _ hk => hk) ((show ∀ k_, w15.heap.size ≤ k_ → (fun _ => True) k_ from fun k_ hk => trivial) _ (Nat.le_refl _)) (Below.refl _ _) (Nat.le_refl _) (by simp) ?_; (case hd => rfl); (case hg => rfl); (case hr => first | (go_simp; done) | (go_simp; rfl)); (case hp => exact (Reps.c4 (show Kd.FK k56 _ _ (⟨(⟨#[122]⟩ : ByteArray), y634, t632, t633⟩ : S56) [.string (⟨#[122]⟩ : ByteArray), .slice Ao17 y634.length co17, .int .i64 t632, .int .i64 t633] from (k56_mkF _ _ (⟨(⟨#[122]⟩ : ByteArray), y634, t632, t633⟩ : S56) (Kd.R_reads' (Kd.R_mono (ok' := (fun _ => True)) (HO636.out) (fun k_ hk => trivial))).2.1 (Kd.R_F (Kd.R_mono (ok' := (fun _ => True)) (HO636.out) (fun k_ hk => trivial))))) (Reps.none _ _))); intro v638 w18 ho19 hb hg_ hnew_; clear hg_ hnew_; (first | rw [← Ny637.out] at ho19 | (simp only [Int.reduceToNat] at ho19; rw [← Ny637.out] at ho19)); have n0_ := Aside0.mk (Kd.N_lower ho19 (below_size (by repeat (first | (with_reducible first | exact HB.out | apply below_alloc | apply pw_below_drewN | apply below_drew1) | exact HB.out)))); have n1_ := Aside0.mk (below_step (by repeat (first | (with_reducible first | exact HB.out | apply below_alloc | apply pw_below_drewN | apply below_drew1) | exact HB.out)) hb); clear HB; clear HO636; have HO639 := n0_; have HB := n1_; clear n0_ n1_; clear hb ho19; obtain ⟨Ao20, co20, eo20⟩ := Kd.N_slice HO639.out; subst eo20) | ((with_reducible refine gate_dst (N := 15) rfl ?_); (try (refine gate_guard (by rfl) ?_; dsimp only)); refine box_event ?hg (N := 15) ?hd (cs := #[.bool false, .bool false, .int .i64 0, .slice none 0 0]) (t := 24) ?hr ?_; (case hd => rfl); (case hg => rfl); (case hr => first | (go_simp; done) | (go_simp; rfl)); intro gb640 hg w21 hbox hb; replace HO639 := Aside0.mk (Kd.N_below (Kd.N_elderB (by (with_reducible repeat (first | apply Kd.N_alloc | apply Kd.N_drewN | apply Kd.N_drew)); exact HO639.out) gb640 (Nat.le_of_eq hg.symm)) hb); have BK640 := Aside0.mk (hbox); have GW640 := Aside0.mk ((by rw [hg]; exact (below_size (by repeat (first | (with_reducible first | exact HB.out | apply below_alloc | apply pw_below_drewN | apply below_drew1) | exact HB.out))) : w.heap.size ≤ gb640)); have GE640 := Aside0.mk ((by rw [hg]; exact (below_size (by repeat (first | (with_reducible first | exact HB.out | apply below_alloc | apply pw_below_drewN | apply below_drew1) | exact HB.out))) : w.heap.size ≤ gb640)); replace HB := Aside0.mk (below_step (by repeat (first | (with_reducible first | exact HB.out | apply below_alloc | apply pw_below_drewN | apply below_drew1) | exact HB.out)) hb); clear hb hbox hg; have hcz22_0 : w21.cell? ⟨gb640, 0, none⟩ = some (.bool false) := (blk_cell BK640.out 0).trans rfl; have hcz22_1 : w21.cell? ⟨gb640, 1, none⟩ = some (.bool false) := (blk_cell BK640.out 1).trans rfl; have hcz22_2 : w21.cell? ⟨gb640, 2, none⟩ = some (.int .i64 0) := (blk_cell BK640.out 2).trans rfl; have hcz22_3 : w21.cell? ⟨gb640, 3, none⟩ = some (.slice none 0 0) := (blk_cell BK640.out 3).trans rfl; have hfz22_0 := blk_frozen BK640.out 0; have hfz22_1 := blk_frozen BK640.out 1; have hfz22_2 := blk_frozen BK640.out 2; have hfz22_3 := blk_frozen BK640.out 3) | ((with_reducible refine gate_dst (N := 46) rfl ?_); (try (refine gate_guard (by rfl) ?_; dsimp only)); refine Kd.R_lit Kd.string _ 9 ?hg (N := 46) ?hd (xs := ([(⟨#[120]⟩ : ByteArray), (⟨#[121]⟩ : ByteArray)] : List ByteArray)) (inner := [.string (⟨#[120]⟩ : ByteArray), .string (⟨#[121]⟩ : ByteArray)]) (ok := fun _ => True) (okp := fun _ => True) ?hr ?hp (fun _ hk => hk) trivial (Below.refl _ _) (Nat.le_refl _) (by simp) ?_; (case hd => rfl); (case hg => rfl); (case hr => first | (go_simp; done) | (go_simp; rfl)); (case hp => exact (Reps.one (show Kd.M Kd.string _ _ _ (⟨#[120]⟩ : ByteArray) [.string (⟨#[120]⟩ : ByteArray)] from rfl) (Reps.one (show Kd.M Kd.string _ _ _ (⟨#[121]⟩ : ByteArray) [.string (⟨#[121]⟩ : ByteArray)] from rfl) (Reps.none _ _)))); intro v642 w23 ho24 hb hg_ hnew_; clear hg_ hnew_; (first | rw [← Ny641.out] at ho24 | (simp only [Int.reduceToNat] at ho24; rw [← Ny641.out] at ho24)); replace HO639 := Aside0.mk (Kd.N_elder' (by (with_reducible repeat (first | apply Kd.N_alloc | apply Kd.N_drewN | apply Kd.N_drew)); exact (Kd.N_mono (Kd.N_far (p := ⟨gb640, 3, none⟩) (Kd.N_far (p := ⟨gb640, 2, none⟩) (Kd.N_far (p := ⟨gb640, 1, none⟩) (Kd.N_far (p := ⟨gb640, 0, none⟩) (Kd.N_mono HO639.out (fun k_ hk => (⟨hk, hk.2⟩ : _ ∧ k_ ≠ gb640))) (fun _ hk => hk.2) (.bool a5)) (fun _ hk => hk.2) (.bool a6)) (fun _ hk => hk.2) (.int .i64 0)) (fun _ hk => hk.2) (.slice Ao20 y637.length co20)) (fun _ h_ => h_.1))) (Kd.R_base ho24) hb); have HO643 := Aside0.mk (Kd.R_lower ho24 (below_size (by repeat (first | (with_reducible first | exact HB.out | apply below_alloc | apply pw_below_drewN | apply below_drew1 | refine below_set ?_ GE640.out) | exact HB.out)))); replace BK640 := Aside0.mk (blk_below (g := gb640) (o := .cells #[.bool a5, .bool a6, .int .i64 0, .slice Ao20 y637.length co20] 24 (0, 0)) (by (with_reducible repeat (first | refine blk_drewN ?_ _ | refine blk_drew ?_ | refine blk_alloc ?_ _)); refine blk_put (cs := #[.bool a5, .bool a6, .int .i64 0, .slice none 0 0]) ?_ 3 _ rfl; (with_reducible repeat (first | refine blk_drewN ?_ _ | refine blk_drew ?_ | refine blk_alloc ?_ _)); refine blk_put (cs := #[.bool a5, .bool a6, .int .i64 0, .slice none 0 0]) ?_ 2 _ rfl; (with_reducible repeat (first | refine blk_drewN ?_ _ | refine blk_drew ?_ | refine blk_alloc ?_ _)); refine blk_put (cs := #[.bool a5, .bool false, .int .i64 0, .slice none 0 0]) ?_ 1 _ rfl; (with_reducible repeat (first | refine blk_drewN ?_ _ | refine blk_drew ?_ | refine blk_alloc ?_ _)); refine blk_put (cs := #[.bool false, .bool false, .int .i64 0, .slice none 0 0]) ?_ 0 _ rfl; (with_reducible repeat (first | refine blk_drewN ?_ _ | refine blk_drew ?_ | refine blk_alloc ?_ _)); exact BK640.out) hb); replace HB := Aside0.mk (below_step (by repeat (first | (with_reducible first | exact HB.out | apply below_alloc | apply pw_below_drewN | apply below_drew1 | refine below_set ?_ GE640.out) | exact HB.out)) hb); clear hb ho24) | ((with_reducible refine gate_dst (N := 49) rfl ?_); (try (refine gate_guard (by rfl) ?_; dsimp only)); refine Kd.R_lit (Kd.int .i64) _ 2 ?hg (N := 49) ?hd (xs := ([t629, t629] : List Int)) (inner := [.int .i64 t629, .int .i64 t629]) (ok := fun _ => True) (okp := fun _ => True) ?hr ?hp (fun _ hk => hk) trivial (Below.refl _ _) (Nat.le_refl _) (by simp) ?_; (case hd => rfl); (case hg => rfl); (case hr => first | (go_simp; done) | (go_simp; rfl)); (case hp => exact (Reps.one (show Kd.M (Kd.int .i64) _ _ _ t629 [.int .i64 t629] from rfl) (Reps.one (show Kd.M (Kd.int .i64) _ _ _ t629 [.int .i64 t629] from rfl) (Reps.none _ _)))); intro v645 w25 ho26 hb hg_ hnew_; clear hg_ hnew_; (first | rw [← Ny644.out] at ho26 | (simp only [Int.reduceToNat] at ho26; rw [← Ny644.out] at ho26)); replace HO639 := Aside0.mk (Kd.N_elder' (by (with_reducible repeat (first | apply Kd.N_alloc | apply Kd.N_drewN | apply Kd.N_drew)); exact HO639.out) (Kd.R_base ho26) hb); replace HO643 := Aside0.mk (Kd.R_below (by (with_reducible repeat (first | apply Kd.R_alloc | apply Kd.R_drewN | apply Kd.R_drew)); exact HO643.out) hb); have HO646 := Aside0.mk (Kd.R_lower ho26 (below_size (by repeat (first | (with_reducible first | exact HB.out | apply below_alloc | apply pw_below_drewN | apply below_drew1 | refine below_set ?_ GE640.out) | exact HB.out)))); replace BK640 := Aside0.mk (blk_below (g := gb640) (o := .cells #[.bool a5, .bool a6, .int .i64 0, .slice Ao20 y637.length co20] 24 (0, 0)) (by (with_reducible repeat (first | refine blk_drewN ?_ _ | refine blk_drew ?_ | refine blk_alloc ?_ _)); exact BK640.out) hb); replace HB := Aside0.mk (below_step (by repeat (first | (with_reducible first | exact HB.out | apply below_alloc | apply pw_below_drewN | apply below_drew1 | refine below_set ?_ GE640.out) | exact HB.out)) hb); clear hb ho26; obtain ⟨Ao27, co27, eo27⟩ := Kd.R_slice HO643.out; subst eo27; obtain ⟨Ao28, co28, eo28⟩ := Kd.R_slice HO646.out; subst eo28) | (go_at_call 19; (with_reducible refine (levy_Levy.calls k a5 a6 0 _ _ y637 (⟨#[122]⟩ : ByteArray) false _ _ y641 _ _ y644 t630 t647 t650 t653 t654 t655 _ ?side1 ?side2 ?side3 ?side4 ?side5 ?side6 A13.out).mono ?_); (case side1 => repeat (first | exact (Kd.N_reads' HO639.out).2.2 | (with_reducible refine Kd.C_alloc ?_ _) | (with_reducible refine Kd.C_drewN ?_ _) | (with_reducible refine Kd.C_drew ?_))); (case side2 => exact (Kd.N_reads' HO639.out).2.1); (case side3 => repeat (first | exact (Kd.R_reads' HO643.out).2.2 | (with_reducible refine Kd.C_alloc ?_ _) | (with_reducible refine Kd.C_drewN ?_ _) | (with_reducible refine Kd.C_drew ?_))); (case side4 => exact (Kd.R_reads' HO643.out).2.1); (case side5 => repeat (first | exact (Kd.R_reads' HO646.out).2.2 | (with_reducible refine Kd.C_alloc ?_ _) | (with_reducible refine Kd.C_drewN ?_ _) | (with_reducible refine Kd.C_drew ?_))); (case side6 => exact (Kd.R_reads' HO646.out).2.1); rintro e w29 ⟨v648, v651, rfl, ho0, ho1, hb⟩; replace HO639 := Aside0.mk (Kd.N_mono (Kd.N_told (Kd.N_told (Kd.N_old (by (with_reducible repeat (first | apply Kd.N_alloc | apply Kd.N_drewN | apply Kd.N_drew)); exact HO639.out) hb) (Kd.R_base ho0)) (Kd.R_base ho1)) (fun _ h_ => h_.1)); replace HO643 := Aside0.mk (Kd.R_below (by (with_reducible repeat (first | apply Kd.R_alloc | apply Kd.R_drewN | apply Kd.R_drew)); exact HO643.out) hb); have HO649 := Aside0.mk (Kd.R_lower (Kd.R_new' ho0 (Kd.R_lt (by (with_reducible repeat (first | apply Kd.R_alloc | apply Kd.R_drewN | apply Kd.R_drew)); exact HO646.out))) (below_size (by repeat (first | (with_reducible first | exact HB.out | apply below_alloc | apply pw_below_drewN | apply below_drew1 | refine below_set ?_ GE640.out) | exact HB.out)))); have HO652 := Aside0.mk (Kd.R_lower (Kd.R_new' ho1 (Kd.R_lt (by (with_reducible repeat (first | apply Kd.R_alloc | apply Kd.R_drewN | apply Kd.R_drew)); exact HO646.out))) (below_size (by repeat (first | (with_reducible first | exact HB.out | apply below_alloc | apply pw_below_drewN | apply below_drew1 | refine below_set ?_ GE640.out) | exact HB.out)))); replace HO646 := Aside0.mk (Kd.R_mono (Kd.R_told (Kd.R_told (Kd.R_old (by (with_reducible repeat (first | apply Kd.R_alloc | apply Kd.R_drewN | apply Kd.R_drew)); exact HO646.out) hb) (Kd.R_base ho0)) (Kd.R_base ho1)) (fun _ h_ => h_.1)); replace BK640 := Aside0.mk (blk_below (g := gb640) (o := .cells #[.bool a5, .bool a6, .int .i64 0, .slice Ao20 y637.length co20] 24 (0, 0)) (by (with_reducible repeat (first | refine blk_drewN ?_ _ | refine blk_drew ?_ | refine blk_alloc ?_ _)); exact BK640.out) hb); replace HB := Aside0.mk (below_step (by repeat (first | (with_reducible first | exact HB.out | apply below_alloc | apply pw_below_drewN | apply below_drew1 | refine below_set ?_ GE640.out) | exact HB.out)) hb); (try clear hb); (try clear hb2); (try clear hk); (try clear hi); (try clear ho0); (try clear ho1))); go_upto_if 57 with (first | (go_at_call 24; (with_reducible refine (haberdashplay_Mod64.calls a0 1073741824 t629 _ A8.out).mono ?_); rintro e w' ⟨rfl, ⟨nd, rfl⟩⟩; (try first | exact ⟨rfl, _, World.drewN_drewN _ _ _⟩ | exact ⟨rfl, _, Eq.trans (World.drewN_drewN _ _ _) (congrArg (World.drewN _) (Nat.add_assoc _ _ _))⟩)) | (go_at_call 24; (with_reducible refine (haberdashplay_Mod64.calls a1 1048576 t630 _ A9.out).mono ?_); rintro e w' ⟨rfl, ⟨nd, rfl⟩⟩; (try first | exact ⟨rfl, _, World.drewN_drewN _ _ _⟩ | exact ⟨rfl, _, Eq.trans (World.drewN_drewN _ _ _) (congrArg (World.drewN _) (Nat.add_assoc _ _ _))⟩)) | (go_at_call 24; (with_reducible refine (haberdashplay_Mod64.calls a2 10001 t631 _ A10.out).mono ?_); rintro e w' ⟨rfl, ⟨nd, rfl⟩⟩; (try first | exact ⟨rfl, _, World.drewN_drewN _ _ _⟩ | exact ⟨rfl, _, Eq.trans (World.drewN_drewN _ _ _) (congrArg (World.drewN _) (Nat.add_assoc _ _ _))⟩)) | (go_at_call 24; (with_reducible refine (haberdashplay_Mod64.calls a3 10001 t632 _ A11.out).mono ?_); rintro e w' ⟨rfl, ⟨nd, rfl⟩⟩; (try first | exact ⟨rfl, _, World.drewN_drewN _ _ _⟩ | exact ⟨rfl, _, Eq.trans (World.drewN_drewN _ _ _) (congrArg (World.drewN _) (Nat.add_assoc _ _ _))⟩)) | (go_at_call 24; (with_reducible refine (haberdashplay_Mod64.calls a4 10001 t633 _ A12.out).mono ?_); rintro e w' ⟨rfl, ⟨nd, rfl⟩⟩; (try first | exact ⟨rfl, _, World.drewN_drewN _ _ _⟩ | exact ⟨rfl, _, Eq.trans (World.drewN_drewN _ _ _) (congrArg (World.drewN _) (Nat.add_assoc _ _ _))⟩)) | ((with_reducible refine gate_dst (N := 38) rfl ?_); (try (refine gate_guard (by rfl) ?_; dsimp only)); refine Kd.R_lit k53 _ 53 ?hg (N := 38) ?hd (xs := ([(⟨(⟨#[120]⟩ : ByteArray), t631⟩ : S53)] : List (S53))) (inner := [.string (⟨#[120]⟩ : ByteArray), .int .i64 t631]) (ok := fun _ => True) (okp := fun _ => True) ?hr ?hp (fun _ hk => hk) trivial (Below.refl _ _) (Nat.le_refl _) (by simp) ?_; (case hd => rfl); (case hg => rfl); (case hr => first | (go_simp; done) | (go_simp; rfl)); (case hp => exact (Reps.c2 (show Kd.M k53 _ _ _ (⟨(⟨#[120]⟩ : ByteArray), t631⟩ : S53) [.string (⟨#[120]⟩ : ByteArray), .int .i64 t631] from (k53_mkM _ _ _ (⟨(⟨#[120]⟩ : ByteArray), t631⟩ : S53) )) (Reps.none _ _))); intro v635 w15 ho16 hb hg_ hnew_; clear hg_ hnew_; (first | rw [← Ny634.out] at ho16 | (simp only [Int.reduceToNat] at ho16; rw [← Ny634.out] at ho16)); have HO636 := Aside0.mk (Kd.R_lower ho16 (below_size (by repeat (first | (with_reducible first | exact HB.out | apply below_alloc | apply pw_below_drewN | apply below_drew1) | exact HB.out)))); replace HB := Aside0.mk (below_step (by repeat (first | (with_reducible first | exact HB.out | apply below_alloc | apply pw_below_drewN | apply below_drew1) | exact HB.out)) hb); clear hb ho16; obtain ⟨Ao17, co17, eo17⟩ := Kd.R_slice HO636.out; subst eo17) | ((with_reducible refine gate_dst (N := 42) rfl ?_); (try (refine gate_guard (by rfl) ?_; dsimp only)); refine Kd.N_lit k56 _ 56 ?hg (N' := 42) ?hd (xs := ([(⟨(⟨#[122]⟩ : ByteArray), y634, t632, t633⟩ : S56)] : List (S56))) (inner := [.string (⟨#[122]⟩ : ByteArray), .slice Ao17 y634.length co17, .int .i64 t632, .int .i64 t633]) (ok := (fun _ => True)) (okp := (fun _ => True)) ?hr ?hp (fun _ hk => hk) ((show ∀ k_, w15.heap.size ≤ k_ → (fun _ => True) k_ from fun k_ hk => trivial) _ (Nat.le_refl _)) (Below.refl _ _) (Nat.le_refl _) (by simp) ?_; (case hd => rfl); (case hg => rfl); (case hr => first | (go_simp; done) | (go_simp; rfl)); (case hp => exact (Reps.c4 (show Kd.FK k56 _ _ (⟨(⟨#[122]⟩ : ByteArray), y634, t632, t633⟩ : S56) [.string (⟨#[122]⟩ : ByteArray), .slice Ao17 y634.length co17, .int .i64 t632, .int .i64 t633] from (k56_mkF _ _ (⟨(⟨#[122]⟩ : ByteArray), y634, t632, t633⟩ : S56) (Kd.R_reads' (Kd.R_mono (ok' := (fun _ => True)) (HO636.out) (fun k_ hk => trivial))).2.1 (Kd.R_F (Kd.R_mono (ok' := (fun _ => True)) (HO636.out) (fun k_ hk => trivial))))) (Reps.none _ _))); intro v638 w18 ho19 hb hg_ hnew_; clear hg_ hnew_; (first | rw [← Ny637.out] at ho19 | (simp only [Int.reduceToNat] at ho19; rw [← Ny637.out] at ho19)); have n0_ := Aside0.mk (Kd.N_lower ho19 (below_size (by repeat (first | (with_reducible first | exact HB.out | apply below_alloc | apply pw_below_drewN | apply below_drew1) | exact HB.out)))); have n1_ := Aside0.mk (below_step (by repeat (first | (with_reducible first | exact HB.out | apply below_alloc | apply pw_below_drewN | apply below_drew1) | exact HB.out)) hb); clear HB; clear HO636; have HO639 := n0_; have HB := n1_; clear n0_ n1_; clear hb ho19; obtain ⟨Ao20, co20, eo20⟩ := Kd.N_slice HO639.out; subst eo20) | ((with_reducible refine gate_dst (N := 15) rfl ?_); (try (refine gate_guard (by rfl) ?_; dsimp only)); refine box_event ?hg (N := 15) ?hd (cs := #[.bool false, .bool false, .int .i64 0, .slice none 0 0]) (t := 24) ?hr ?_; (case hd => rfl); (case hg => rfl); (case hr => first | (go_simp; done) | (go_simp; rfl)); intro gb640 hg w21 hbox hb; replace HO639 := Aside0.mk (Kd.N_below (Kd.N_elderB (by (with_reducible repeat (first | apply Kd.N_alloc | apply Kd.N_drewN | apply Kd.N_drew)); exact HO639.out) gb640 (Nat.le_of_eq hg.symm)) hb); have BK640 := Aside0.mk (hbox); have GW640 := Aside0.mk ((by rw [hg]; exact (below_size (by repeat (first | (with_reducible first | exact HB.out | apply below_alloc | apply pw_below_drewN | apply below_drew1) | exact HB.out))) : w.heap.size ≤ gb640)); have GE640 := Aside0.mk ((by rw [hg]; exact (below_size (by repeat (first | (with_reducible first | exact HB.out | apply below_alloc | apply pw_below_drewN | apply below_drew1) | exact HB.out))) : w.heap.size ≤ gb640)); replace HB := Aside0.mk (below_step (by repeat (first | (with_reducible first | exact HB.out | apply below_alloc | apply pw_below_drewN | apply below_drew1) | exact HB.out)) hb); clear hb hbox hg; have hcz22_0 : w21.cell? ⟨gb640, 0, none⟩ = some (.bool false) := (blk_cell BK640.out 0).trans rfl; have hcz22_1 : w21.cell? ⟨gb640, 1, none⟩ = some (.bool false) := (blk_cell BK640.out 1).trans rfl; have hcz22_2 : w21.cell? ⟨gb640, 2, none⟩ = some (.int .i64 0) := (blk_cell BK640.out 2).trans rfl; have hcz22_3 : w21.cell? ⟨gb640, 3, none⟩ = some (.slice none 0 0) := (blk_cell BK640.out 3).trans rfl; have hfz22_0 := blk_frozen BK640.out 0; have hfz22_1 := blk_frozen BK640.out 1; have hfz22_2 := blk_frozen BK640.out 2; have hfz22_3 := blk_frozen BK640.out 3) | ((with_reducible refine gate_dst (N := 46) rfl ?_); (try (refine gate_guard (by rfl) ?_; dsimp only)); refine Kd.R_lit Kd.string _ 9 ?hg (N := 46) ?hd (xs := ([(⟨#[120]⟩ : ByteArray), (⟨#[121]⟩ : ByteArray)] : List ByteArray)) (inner := [.string (⟨#[120]⟩ : ByteArray), .string (⟨#[121]⟩ : ByteArray)]) (ok := fun _ => True) (okp := fun _ => True) ?hr ?hp (fun _ hk => hk) trivial (Below.refl _ _) (Nat.le_refl _) (by simp) ?_; (case hd => rfl); (case hg => rfl); (case hr => first | (go_simp; done) | (go_simp; rfl)); (case hp => exact (Reps.one (show Kd.M Kd.string _ _ _ (⟨#[120]⟩ : ByteArray) [.string (⟨#[120]⟩ : ByteArray)] from rfl) (Reps.one (show Kd.M Kd.string _ _ _ (⟨#[121]⟩ : ByteArray) [.string (⟨#[121]⟩ : ByteArray)] from rfl) (Reps.none _ _)))); intro v642 w23 ho24 hb hg_ hnew_; clear hg_ hnew_; (first | rw [← Ny641.out] at ho24 | (simp only [Int.reduceToNat] at ho24; rw [← Ny641.out] at ho24)); replace HO639 := Aside0.mk (Kd.N_elder' (by (with_reducible repeat (first | apply Kd.N_alloc | apply Kd.N_drewN | apply Kd.N_drew)); exact (Kd.N_mono (Kd.N_far (p := ⟨gb640, 3, none⟩) (Kd.N_far (p := ⟨gb640, 2, none⟩) (Kd.N_far (p := ⟨gb640, 1, none⟩) (Kd.N_far (p := ⟨gb640, 0, none⟩) (Kd.N_mono HO639.out (fun k_ hk => (⟨hk, hk.2⟩ : _ ∧ k_ ≠ gb640))) (fun _ hk => hk.2) (.bool a5)) (fun _ hk => hk.2) (.bool a6)) (fun _ hk => hk.2) (.int .i64 0)) (fun _ hk => hk.2) (.slice Ao20 y637.length co20)) (fun _ h_ => h_.1))) (Kd.R_base ho24) hb); have HO643 := Aside0.mk (Kd.R_lower ho24 (below_size (by repeat (first | (with_reducible first | exact HB.out | apply below_alloc | apply pw_below_drewN | apply below_drew1 | refine below_set ?_ GE640.out) | exact HB.out)))); replace BK640 := Aside0.mk (blk_below (g := gb640) (o := .cells #[.bool a5, .bool a6, .int .i64 0, .slice Ao20 y637.length co20] 24 (0, 0)) (by (with_reducible repeat (first | refine blk_drewN ?_ _ | refine blk_drew ?_ | refine blk_alloc ?_ _)); refine blk_put (cs := #[.bool a5, .bool a6, .int .i64 0, .slice none 0 0]) ?_ 3 _ rfl; (with_reducible repeat (first | refine blk_drewN ?_ _ | refine blk_drew ?_ | refine blk_alloc ?_ _)); refine blk_put (cs := #[.bool a5, .bool a6, .int .i64 0, .slice none 0 0]) ?_ 2 _ rfl; (with_reducible repeat (first | refine blk_drewN ?_ _ | refine blk_drew ?_ | refine blk_alloc ?_ _)); refine blk_put (cs := #[.bool a5, .bool false, .int .i64 0, .slice none 0 0]) ?_ 1 _ rfl; (with_reducible repeat (first | refine blk_drewN ?_ _ | refine blk_drew ?_ | refine blk_alloc ?_ _)); refine blk_put (cs := #[.bool false, .bool false, .int .i64 0, .slice none 0 0]) ?_ 0 _ rfl; (with_reducible repeat (first | refine blk_drewN ?_ _ | refine blk_drew ?_ | refine blk_alloc ?_ _)); exact BK640.out) hb); replace HB := Aside0.mk (below_step (by repeat (first | (with_reducible first | exact HB.out | apply below_alloc | apply pw_below_drewN | apply below_drew1 | refine below_set ?_ GE640.out) | exact HB.out)) hb); clear hb ho24) | ((with_reducible refine gate_dst (N := 49) rfl ?_); (try (refine gate_guard (by rfl) ?_; dsimp only)); refine Kd.R_lit (Kd.int .i64) _ 2 ?hg (N := 49) ?hd (xs := ([t629, t629] : List Int)) (inner := [.int .i64 t629, .int .i64 t629]) (ok := fun _ => True) (okp := fun _ => True) ?hr ?hp (fun _ hk => hk) trivial (Below.refl _ _) (Nat.le_refl _) (by simp) ?_; (case hd => rfl); (case hg => rfl); (case hr => first | (go_simp; done) | (go_simp; rfl)); (case hp => exact (Reps.one (show Kd.M (Kd.int .i64) _ _ _ t629 [.int .i64 t629] from rfl) (Reps.one (show Kd.M (Kd.int .i64) _ _ _ t629 [.int .i64 t629] from rfl) (Reps.none _ _)))); intro v645 w25 ho26 hb hg_ hnew_; clear hg_ hnew_; (first | rw [← Ny644.out] at ho26 | (simp only [Int.reduceToNat] at ho26; rw [← Ny644.out] at ho26)); replace HO639 := Aside0.mk (Kd.N_elder' (by (with_reducible repeat (first | apply Kd.N_alloc | apply Kd.N_drewN | apply Kd.N_drew)); exact HO639.out) (Kd.R_base ho26) hb); replace HO643 := Aside0.mk (Kd.R_below (by (with_reducible repeat (first | apply Kd.R_alloc | apply Kd.R_drewN | apply Kd.R_drew)); exact HO643.out) hb); have HO646 := Aside0.mk (Kd.R_lower ho26 (below_size (by repeat (first | (with_reducible first | exact HB.out | apply below_alloc | apply pw_below_drewN | apply below_drew1 | refine below_set ?_ GE640.out) | exact HB.out)))); replace BK640 := Aside0.mk (blk_below (g := gb640) (o := .cells #[.bool a5, .bool a6, .int .i64 0, .slice Ao20 y637.length co20] 24 (0, 0)) (by (with_reducible repeat (first | refine blk_drewN ?_ _ | refine blk_drew ?_ | refine blk_alloc ?_ _)); exact BK640.out) hb); replace HB := Aside0.mk (below_step (by repeat (first | (with_reducible first | exact HB.out | apply below_alloc | apply pw_below_drewN | apply below_drew1 | refine below_set ?_ GE640.out) | exact HB.out)) hb); clear hb ho26; obtain ⟨Ao27, co27, eo27⟩ := Kd.R_slice HO643.out; subst eo27; obtain ⟨Ao28, co28, eo28⟩ := Kd.R_slice HO646.out; subst eo28) | (go_at_call 19; (with_reducible refine (levy_Levy.calls k a5 a6 0 _ _ y637 (⟨#[122]⟩ : ByteArray) false _ _ y641 _ _ y644 t630 t647 t650 t653 t654 t655 _ ?side1 ?side2 ?side3 ?side4 ?side5 ?side6 A13.out).mono ?_); (case side1 => repeat (first | exact (Kd.N_reads' HO639.out).2.2 | (with_reducible refine Kd.C_alloc ?_ _) | (with_reducible refine Kd.C_drewN ?_ _) | (with_reducible refine Kd.C_drew ?_))); (case side2 => exact (Kd.N_reads' HO639.out).2.1); (case side3 => repeat (first | exact (Kd.R_reads' HO643.out).2.2 | (with_reducible refine Kd.C_alloc ?_ _) | (with_reducible refine Kd.C_drewN ?_ _) | (with_reducible refine Kd.C_drew ?_))); (case side4 => exact (Kd.R_reads' HO643.out).2.1); (case side5 => repeat (first | exact (Kd.R_reads' HO646.out).2.2 | (with_reducible refine Kd.C_alloc ?_ _) | (with_reducible refine Kd.C_drewN ?_ _) | (with_reducible refine Kd.C_drew ?_))); (case side6 => exact (Kd.R_reads' HO646.out).2.1); rintro e w29 ⟨v648, v651, rfl, ho0, ho1, hb⟩; replace HO639 := Aside0.mk (Kd.N_mono (Kd.N_told (Kd.N_told (Kd.N_old (by (with_reducible repeat (first | apply Kd.N_alloc | apply Kd.N_drewN | apply Kd.N_drew)); exact HO639.out) hb) (Kd.R_base ho0)) (Kd.R_base ho1)) (fun _ h_ => h_.1)); replace HO643 := Aside0.mk (Kd.R_below (by (with_reducible repeat (first | apply Kd.R_alloc | apply Kd.R_drewN | apply Kd.R_drew)); exact HO643.out) hb); have HO649 := Aside0.mk (Kd.R_lower (Kd.R_new' ho0 (Kd.R_lt (by (with_reducible repeat (first | apply Kd.R_alloc | apply Kd.R_drewN | apply Kd.R_drew)); exact HO646.out))) (below_size (by repeat (first | (with_reducible first | exact HB.out | apply below_alloc | apply pw_below_drewN | apply below_drew1 | refine below_set ?_ GE640.out) | exact HB.out)))); have HO652 := Aside0.mk (Kd.R_lower (Kd.R_new' ho1 (Kd.R_lt (by (with_reducible repeat (first | apply Kd.R_alloc | apply Kd.R_drewN | apply Kd.R_drew)); exact HO646.out))) (below_size (by repeat (first | (with_reducible first | exact HB.out | apply below_alloc | apply pw_below_drewN | apply below_drew1 | refine below_set ?_ GE640.out) | exact HB.out)))); replace HO646 := Aside0.mk (Kd.R_mono (Kd.R_told (Kd.R_told (Kd.R_old (by (with_reducible repeat (first | apply Kd.R_alloc | apply Kd.R_drewN | apply Kd.R_drew)); exact HO646.out) hb) (Kd.R_base ho0)) (Kd.R_base ho1)) (fun _ h_ => h_.1)); replace BK640 := Aside0.mk (blk_below (g := gb640) (o := .cells #[.bool a5, .bool a6, .int .i64 0, .slice Ao20 y637.length co20] 24 (0, 0)) (by (with_reducible repeat (first | refine blk_drewN ?_ _ | refine blk_drew ?_ | refine blk_alloc ?_ _)); exact BK640.out) hb); replace HB := Aside0.mk (below_step (by repeat (first | (with_reducible first | exact HB.out | apply below_alloc | apply pw_below_drewN | apply below_drew1 | refine below_set ?_ GE640.out) | exact HB.out)) hb); (try clear hb); (try clear hb2); (try clear hk); (try clear hi); (try clear ho0); (try clear ho1))))
  (try simp only [Act.put, List.setIfInBounds_toArray, List.set_cons_zero, List.set_cons_succ])
  go_cut [21, 22, 23] (fun v21 v22 v23 wc => ∃ (kq : Nat) (x21_13 : Int) (x22_13 : Int) (x23_13 : Int), v21 = .int .i64 x21_13 ∧ v22 = .int .i64 x22_13 ∧ v23 = .int .i64 x23_13 ∧ Aside0 (haberdashlaw19_LevyRates.j0 kq t629 t630 t631 t632 t633 a6 t650 t654 t655 x21_13 x22_13 x23_13 = some r) ∧ Aside0 (kq ≤ k) ∧ Aside0 (Kd.R (Kd.int .i64) 2 wc w.heap.size (fun _ => True) v651 t650) ∧ Aside0 (Kd.N k56 56 wc w.heap.size (fun k_ => some k_ ≠ (v651 : Value).ownBlock ∧ k_ ≠ gb640) (.slice Ao20 y637.length co20) y637) ∧ Aside0 (wc.heap[gb640]? = some (.cells #[.bool a5, .bool a6, .int .i64 0, (.slice Ao20 y637.length co20)] 24 (0, 0))) ∧ Aside0 (Below w.heap.size w wc))
  case first =>
   have H := HC14.out
   clear HC14
   by_cases c30 : a5 = true
   ·
    subst c30
    have H1 : (haberdashlaw19_LevyRates.j0 k t629 t630 t631 t632 t633 a6 t650 t654 t655 (wrap64 (10000 + t631)) (wrap64 (10000 + t632)) (wrap64 (10000 + t633))) = some r := by rw [if_pos rfl] at H; exact H
    clear H
    have H := H1
    clear H1
    have H' := Aside0.mk H
    clear H
    go_wp2
    repeat (go_quiet (fail); try go_wp2)
    go_meet
    case rel => exact ⟨_, (wrap64 (10000 + t631)), (wrap64 (10000 + t632)), (wrap64 (10000 + t633)), (by first | rfl | (simp; done) | (simp [*]; done)), (by first | rfl | (simp; done) | (simp [*]; done)), (by first | rfl | (simp; done) | (simp [*]; done)), H', ⟨by first | omega | exact Nat.le_refl _⟩, ⟨by (with_reducible repeat (first | apply Kd.R_alloc | apply Kd.R_drewN | apply Kd.R_drew)); exact Kd.R_mono HO652.out (fun _ hk => trivial)⟩, ⟨by (with_reducible repeat (first | apply Kd.N_alloc | apply Kd.N_drewN | apply Kd.N_drew)); exact Kd.N_mono HO639.out (fun _ hk => ⟨hk.2, hk.1.1.1.1.2⟩)⟩, ⟨by (with_reducible repeat (first | refine blk_drewN ?_ _ | refine blk_drew ?_ | refine blk_alloc ?_ _)); exact BK640.out⟩, ⟨by repeat (first | (with_reducible first | exact HB.out | apply below_alloc | apply pw_below_drewN | apply below_drew1 | refine below_set ?_ GE640.out) | exact HB.out)⟩⟩
   ·
    replace c30 := Bool.eq_false_iff.mpr c30
    subst c30
    have H1 : (haberdashlaw19_LevyRates.j0 k t629 t630 t631 t632 t633 a6 t650 t654 t655 10000 10000 10000) = some r := by rw [if_neg (show ¬ (false = true) by decide)] at H; exact H
    clear H
    have H := H1
    clear H1
    have H' := Aside0.mk H
    clear H
    go_wp2
    repeat (go_quiet (fail); try go_wp2)
    go_meet
    case rel => exact ⟨_, (10000), (10000), (10000), (by first | rfl | (simp; done) | (simp [*]; done)), (by first | rfl | (simp; done) | (simp [*]; done)), (by first | rfl | (simp; done) | (simp [*]; done)), H', ⟨by first | omega | exact Nat.le_refl _⟩, ⟨by (with_reducible repeat (first | apply Kd.R_alloc | apply Kd.R_drewN | apply Kd.R_drew)); exact Kd.R_mono HO652.out (fun _ hk => trivial)⟩, ⟨by (with_reducible repeat (first | apply Kd.N_alloc | apply Kd.N_drewN | apply Kd.N_drew)); exact Kd.N_mono HO639.out (fun _ hk => ⟨hk.2, hk.1.1.1.1.2⟩)⟩, ⟨by (with_reducible repeat (first | refine blk_drewN ?_ _ | refine blk_drew ?_ | refine blk_alloc ?_ _)); exact BK640.out⟩, ⟨by repeat (first | (with_reducible first | exact HB.out | apply below_alloc | apply pw_below_drewN | apply below_drew1 | refine below_set ?_ GE640.out) | exact HB.out)⟩⟩
  case rest =>
   clear HC14
   try clear c2
   try clear p2
   try clear c3
   try clear c4
   try clear p6
   try clear c7
   try clear c30
   try clear hcz22_0
   try clear hcz22_1
   try clear hcz22_2
   try clear hcz22_3
   try clear hfz22_0
   try clear hfz22_1
   try clear hfz22_2
   try clear hfz22_3
   obtain ⟨kq, x21_13, x22_13, x23_13, rfl, rfl, rfl, HA, HJ13, HO_17, HO_641003, BK640, HB⟩ := hcut
   cases kq with
   | zero => exact absurd HA.out (by simp [haberdashlaw19_LevyRates.j0])
   | succ kj13 =>
    have H := HA.out
    clear HA
    simp only [haberdashlaw19_LevyRates.j0] at H
    have HC31 := Aside0.mk H
    clear H
    go_upto_region 8 with (fail)
    repeat (go_quiet (fail); go_upto_region 8 with (fail))
    go_cut [77] (fun v77 wc => ∃ (kq : Nat) (x77_30 : Bool), v77 = .bool x77_30 ∧ Aside0 (haberdashlaw19_LevyRates.j1 kq t629 t630 t631 t632 t633 a6 t650 t654 x21_13 x22_13 x23_13 x77_30 = some r) ∧ Aside0 (kq ≤ kj13) ∧ Aside0 (Kd.R (Kd.int .i64) 2 wc w.heap.size (fun _ => True) v651 t650) ∧ Aside0 (Kd.N k56 56 wc w.heap.size (fun k_ => some k_ ≠ (v651 : Value).ownBlock ∧ k_ ≠ gb640) (.slice Ao20 y637.length co20) y637) ∧ Aside0 (wc.heap[gb640]? = some (.cells #[.bool a5, .bool a6, .int .i64 0, (.slice Ao20 y637.length co20)] 24 (0, 0))) ∧ Aside0 (Below w.heap.size w wc))
    case first =>
     have H := HC31.out
     clear HC31
     replace H := Option.bind_eq_some_iff.mp H
     obtain ⟨t656, A320, H⟩ := H
     replace H : (if t656 = true then (if t655 = 0 then (haberdashlaw19_LevyRates.j1 kj13 t629 t630 t631 t632 t633 a6 t650 t654 x21_13 x22_13 x23_13 ((t650.length : Int) != 2)) else (haberdashlaw19_LevyRates.j1 kj13 t629 t630 t631 t632 t633 a6 t650 t654 x21_13 x22_13 x23_13 true)) else (haberdashlaw19_LevyRates.j1 kj13 t629 t630 t631 t632 t633 a6 t650 t654 x21_13 x22_13 x23_13 true)) = some r := H
     have A32 := Aside0.mk A320
     clear A320
     by_cases c33 : t656 = true
     ·
      subst c33
      have H1 : (if t655 = 0 then (haberdashlaw19_LevyRates.j1 kj13 t629 t630 t631 t632 t633 a6 t650 t654 x21_13 x22_13 x23_13 ((t650.length : Int) != 2)) else (haberdashlaw19_LevyRates.j1 kj13 t629 t630 t631 t632 t633 a6 t650 t654 x21_13 x22_13 x23_13 true)) = some r := by rw [if_pos rfl] at H; exact H
      clear H
      have H := H1
      clear H1
      by_cases c34 : t655 = 0
      ·
       rw [if_pos c34] at H
       have c34b0 : (t655 == 0) = true := beq_iff_eq.mpr c34
       have c34b1 : (t655 != 0) = false := bne_eq_false_iff_eq.mpr c34
       clear c34
       (first | rw [c34b0] | (simp only [i64_w, i32_w]; rw [c34b0]) | skip)
       have H' := Aside0.mk H
       clear H
       go_wp2_with (first | (go_at_call 14; (with_reducible refine (haberdashlaw19_awake.calls kj13  true _ A32.out).mono ?_); rintro e w35 ⟨rfl, hb⟩; replace HO_17 := Aside0.mk (Kd.R_below (by (with_reducible repeat (first | apply Kd.R_alloc | apply Kd.R_drewN | apply Kd.R_drew)); exact HO_17.out) hb); replace HO_641003 := Aside0.mk (Kd.N_below (by (with_reducible repeat (first | apply Kd.N_alloc | apply Kd.N_drewN | apply Kd.N_drew)); exact HO_641003.out) hb); replace BK640 := Aside0.mk (blk_below (g := gb640) (o := .cells #[.bool a5, .bool a6, .int .i64 0, .slice Ao20 y637.length co20] 24 (0, 0)) (by (with_reducible repeat (first | refine blk_drewN ?_ _ | refine blk_drew ?_ | refine blk_alloc ?_ _)); exact BK640.out) hb); replace HB := Aside0.mk (below_step (by repeat (first | (with_reducible first | exact HB.out | apply below_alloc | apply pw_below_drewN | apply below_drew1 | refine below_set ?_ GE640.out) | exact HB.out)) hb); (try clear hb); (try clear hb2); (try clear hk); (try clear hi); obtain ⟨Ao36, co36, eo36⟩ := Kd.R_slice HO_17.out; subst eo36))
       repeat (go_quiet (first | (go_at_call 14; (with_reducible refine (haberdashlaw19_awake.calls kj13  true _ A32.out).mono ?_); rintro e w35 ⟨rfl, hb⟩; replace HO_17 := Aside0.mk (Kd.R_below (by (with_reducible repeat (first | apply Kd.R_alloc | apply Kd.R_drewN | apply Kd.R_drew)); exact HO_17.out) hb); replace HO_641003 := Aside0.mk (Kd.N_below (by (with_reducible repeat (first | apply Kd.N_alloc | apply Kd.N_drewN | apply Kd.N_drew)); exact HO_641003.out) hb); replace BK640 := Aside0.mk (blk_below (g := gb640) (o := .cells #[.bool a5, .bool a6, .int .i64 0, .slice Ao20 y637.length co20] 24 (0, 0)) (by (with_reducible repeat (first | refine blk_drewN ?_ _ | refine blk_drew ?_ | refine blk_alloc ?_ _)); exact BK640.out) hb); replace HB := Aside0.mk (below_step (by repeat (first | (with_reducible first | exact HB.out | apply below_alloc | apply pw_below_drewN | apply below_drew1 | refine below_set ?_ GE640.out) | exact HB.out)) hb); (try clear hb); (try clear hb2); (try clear hk); (try clear hi); obtain ⟨Ao36, co36, eo36⟩ := Kd.R_slice HO_17.out; subst eo36)); try go_wp2_with (first | (go_at_call 14; (with_reducible refine (haberdashlaw19_awake.calls kj13  true _ A32.out).mono ?_); rintro e w35 ⟨rfl, hb⟩; replace HO_17 := Aside0.mk (Kd.R_below (by (with_reducible repeat (first | apply Kd.R_alloc | apply Kd.R_drewN | apply Kd.R_drew)); exact HO_17.out) hb); replace HO_641003 := Aside0.mk (Kd.N_below (by (with_reducible repeat (first | apply Kd.N_alloc | apply Kd.N_drewN | apply Kd.N_drew)); exact HO_641003.out) hb); replace BK640 := Aside0.mk (blk_below (g := gb640) (o := .cells #[.bool a5, .bool a6, .int .i64 0, .slice Ao20 y637.length co20] 24 (0, 0)) (by (with_reducible repeat (first | refine blk_drewN ?_ _ | refine blk_drew ?_ | refine blk_alloc ?_ _)); exact BK640.out) hb); replace HB := Aside0.mk (below_step (by repeat (first | (with_reducible first | exact HB.out | apply below_alloc | apply pw_below_drewN | apply below_drew1 | refine below_set ?_ GE640.out) | exact HB.out)) hb); (try clear hb); (try clear hb2); (try clear hk); (try clear hi); obtain ⟨Ao36, co36, eo36⟩ := Kd.R_slice HO_17.out; subst eo36)))
       go_meet
       case rel => exact ⟨_, (((t650.length : Int) != 2)), (by first | rfl | (simp; done) | (simp [*]; done)), H', ⟨by have := HJ13.out; first | omega | exact Nat.le_refl _⟩, ⟨by (with_reducible repeat (first | apply Kd.R_alloc | apply Kd.R_drewN | apply Kd.R_drew)); exact HO_17.out⟩, ⟨by (with_reducible repeat (first | apply Kd.N_alloc | apply Kd.N_drewN | apply Kd.N_drew)); exact HO_641003.out⟩, ⟨by (with_reducible repeat (first | refine blk_drewN ?_ _ | refine blk_drew ?_ | refine blk_alloc ?_ _)); exact BK640.out⟩, ⟨by repeat (first | (with_reducible first | exact HB.out | apply below_alloc | apply pw_below_drewN | apply below_drew1 | refine below_set ?_ GE640.out) | exact HB.out)⟩⟩
      ·
       rw [if_neg c34] at H
       have c34b0 : (t655 == 0) = false := beq_eq_false_iff_ne.mpr c34
       have c34b1 : (t655 != 0) = true := bne_iff_ne.mpr c34
       (first | rw [c34b0] | (simp only [i64_w, i32_w]; rw [c34b0]) | skip)
       have H' := Aside0.mk H
       clear H
       go_wp2_with (first | (go_at_call 14; (with_reducible refine (haberdashlaw19_awake.calls kj13  true _ A32.out).mono ?_); rintro e w37 ⟨rfl, hb⟩; replace HO_17 := Aside0.mk (Kd.R_below (by (with_reducible repeat (first | apply Kd.R_alloc | apply Kd.R_drewN | apply Kd.R_drew)); exact HO_17.out) hb); replace HO_641003 := Aside0.mk (Kd.N_below (by (with_reducible repeat (first | apply Kd.N_alloc | apply Kd.N_drewN | apply Kd.N_drew)); exact HO_641003.out) hb); replace BK640 := Aside0.mk (blk_below (g := gb640) (o := .cells #[.bool a5, .bool a6, .int .i64 0, .slice Ao20 y637.length co20] 24 (0, 0)) (by (with_reducible repeat (first | refine blk_drewN ?_ _ | refine blk_drew ?_ | refine blk_alloc ?_ _)); exact BK640.out) hb); replace HB := Aside0.mk (below_step (by repeat (first | (with_reducible first | exact HB.out | apply below_alloc | apply pw_below_drewN | apply below_drew1 | refine below_set ?_ GE640.out) | exact HB.out)) hb); (try clear hb); (try clear hb2); (try clear hk); (try clear hi)))
       repeat (go_quiet (first | (go_at_call 14; (with_reducible refine (haberdashlaw19_awake.calls kj13  true _ A32.out).mono ?_); rintro e w37 ⟨rfl, hb⟩; replace HO_17 := Aside0.mk (Kd.R_below (by (with_reducible repeat (first | apply Kd.R_alloc | apply Kd.R_drewN | apply Kd.R_drew)); exact HO_17.out) hb); replace HO_641003 := Aside0.mk (Kd.N_below (by (with_reducible repeat (first | apply Kd.N_alloc | apply Kd.N_drewN | apply Kd.N_drew)); exact HO_641003.out) hb); replace BK640 := Aside0.mk (blk_below (g := gb640) (o := .cells #[.bool a5, .bool a6, .int .i64 0, .slice Ao20 y637.length co20] 24 (0, 0)) (by (with_reducible repeat (first | refine blk_drewN ?_ _ | refine blk_drew ?_ | refine blk_alloc ?_ _)); exact BK640.out) hb); replace HB := Aside0.mk (below_step (by repeat (first | (with_reducible first | exact HB.out | apply below_alloc | apply pw_below_drewN | apply below_drew1 | refine below_set ?_ GE640.out) | exact HB.out)) hb); (try clear hb); (try clear hb2); (try clear hk); (try clear hi))); try go_wp2_with (first | (go_at_call 14; (with_reducible refine (haberdashlaw19_awake.calls kj13  true _ A32.out).mono ?_); rintro e w37 ⟨rfl, hb⟩; replace HO_17 := Aside0.mk (Kd.R_below (by (with_reducible repeat (first | apply Kd.R_alloc | apply Kd.R_drewN | apply Kd.R_drew)); exact HO_17.out) hb); replace HO_641003 := Aside0.mk (Kd.N_below (by (with_reducible repeat (first | apply Kd.N_alloc | apply Kd.N_drewN | apply Kd.N_drew)); exact HO_641003.out) hb); replace BK640 := Aside0.mk (blk_below (g := gb640) (o := .cells #[.bool a5, .bool a6, .int .i64 0, .slice Ao20 y637.length co20] 24 (0, 0)) (by (with_reducible repeat (first | refine blk_drewN ?_ _ | refine blk_drew ?_ | refine blk_alloc ?_ _)); exact BK640.out) hb); replace HB := Aside0.mk (below_step (by repeat (first | (with_reducible first | exact HB.out | apply below_alloc | apply pw_below_drewN | apply below_drew1 | refine below_set ?_ GE640.out) | exact HB.out)) hb); (try clear hb); (try clear hb2); (try clear hk); (try clear hi))))
       go_meet
       case rel => exact ⟨_, (true), (by first | rfl | (simp; done) | (simp [*]; done)), H', ⟨by have := HJ13.out; first | omega | exact Nat.le_refl _⟩, ⟨by (with_reducible repeat (first | apply Kd.R_alloc | apply Kd.R_drewN | apply Kd.R_drew)); exact HO_17.out⟩, ⟨by (with_reducible repeat (first | apply Kd.N_alloc | apply Kd.N_drewN | apply Kd.N_drew)); exact HO_641003.out⟩, ⟨by (with_reducible repeat (first | refine blk_drewN ?_ _ | refine blk_drew ?_ | refine blk_alloc ?_ _)); exact BK640.out⟩, ⟨by repeat (first | (with_reducible first | exact HB.out | apply below_alloc | apply pw_below_drewN | apply below_drew1 | refine below_set ?_ GE640.out) | exact HB.out)⟩⟩
     ·
      replace c33 := Bool.eq_false_iff.mpr c33
      subst c33
      have H1 : (haberdashlaw19_LevyRates.j1 kj13 t629 t630 t631 t632 t633 a6 t650 t654 x21_13 x22_13 x23_13 true) = some r := by rw [if_neg (show ¬ (false = true) by decide)] at H; exact H
      clear H
      have H := H1
      clear H1
      have H' := Aside0.mk H
      clear H
      go_wp2_with (first | (go_at_call 14; (with_reducible refine (haberdashlaw19_awake.calls kj13  false _ A32.out).mono ?_); rintro e w38 ⟨rfl, hb⟩; replace HO_17 := Aside0.mk (Kd.R_below (by (with_reducible repeat (first | apply Kd.R_alloc | apply Kd.R_drewN | apply Kd.R_drew)); exact HO_17.out) hb); replace HO_641003 := Aside0.mk (Kd.N_below (by (with_reducible repeat (first | apply Kd.N_alloc | apply Kd.N_drewN | apply Kd.N_drew)); exact HO_641003.out) hb); replace BK640 := Aside0.mk (blk_below (g := gb640) (o := .cells #[.bool a5, .bool a6, .int .i64 0, .slice Ao20 y637.length co20] 24 (0, 0)) (by (with_reducible repeat (first | refine blk_drewN ?_ _ | refine blk_drew ?_ | refine blk_alloc ?_ _)); exact BK640.out) hb); replace HB := Aside0.mk (below_step (by repeat (first | (with_reducible first | exact HB.out | apply below_alloc | apply pw_below_drewN | apply below_drew1 | refine below_set ?_ GE640.out) | exact HB.out)) hb); (try clear hb); (try clear hb2); (try clear hk); (try clear hi)))
      repeat (go_quiet (first | (go_at_call 14; (with_reducible refine (haberdashlaw19_awake.calls kj13  false _ A32.out).mono ?_); rintro e w38 ⟨rfl, hb⟩; replace HO_17 := Aside0.mk (Kd.R_below (by (with_reducible repeat (first | apply Kd.R_alloc | apply Kd.R_drewN | apply Kd.R_drew)); exact HO_17.out) hb); replace HO_641003 := Aside0.mk (Kd.N_below (by (with_reducible repeat (first | apply Kd.N_alloc | apply Kd.N_drewN | apply Kd.N_drew)); exact HO_641003.out) hb); replace BK640 := Aside0.mk (blk_below (g := gb640) (o := .cells #[.bool a5, .bool a6, .int .i64 0, .slice Ao20 y637.length co20] 24 (0, 0)) (by (with_reducible repeat (first | refine blk_drewN ?_ _ | refine blk_drew ?_ | refine blk_alloc ?_ _)); exact BK640.out) hb); replace HB := Aside0.mk (below_step (by repeat (first | (with_reducible first | exact HB.out | apply below_alloc | apply pw_below_drewN | apply below_drew1 | refine below_set ?_ GE640.out) | exact HB.out)) hb); (try clear hb); (try clear hb2); (try clear hk); (try clear hi))); try go_wp2_with (first | (go_at_call 14; (with_reducible refine (haberdashlaw19_awake.calls kj13  false _ A32.out).mono ?_); rintro e w38 ⟨rfl, hb⟩; replace HO_17 := Aside0.mk (Kd.R_below (by (with_reducible repeat (first | apply Kd.R_alloc | apply Kd.R_drewN | apply Kd.R_drew)); exact HO_17.out) hb); replace HO_641003 := Aside0.mk (Kd.N_below (by (with_reducible repeat (first | apply Kd.N_alloc | apply Kd.N_drewN | apply Kd.N_drew)); exact HO_641003.out) hb); replace BK640 := Aside0.mk (blk_below (g := gb640) (o := .cells #[.bool a5, .bool a6, .int .i64 0, .slice Ao20 y637.length co20] 24 (0, 0)) (by (with_reducible repeat (first | refine blk_drewN ?_ _ | refine blk_drew ?_ | refine blk_alloc ?_ _)); exact BK640.out) hb); replace HB := Aside0.mk (below_step (by repeat (first | (with_reducible first | exact HB.out | apply below_alloc | apply pw_below_drewN | apply below_drew1 | refine below_set ?_ GE640.out) | exact HB.out)) hb); (try clear hb); (try clear hb2); (try clear hk); (try clear hi))))
      go_meet
      case rel => exact ⟨_, (true), (by first | rfl | (simp; done) | (simp [*]; done)), H', ⟨by have := HJ13.out; first | omega | exact Nat.le_refl _⟩, ⟨by (with_reducible repeat (first | apply Kd.R_alloc | apply Kd.R_drewN | apply Kd.R_drew)); exact HO_17.out⟩, ⟨by (with_reducible repeat (first | apply Kd.N_alloc | apply Kd.N_drewN | apply Kd.N_drew)); exact HO_641003.out⟩, ⟨by (with_reducible repeat (first | refine blk_drewN ?_ _ | refine blk_drew ?_ | refine blk_alloc ?_ _)); exact BK640.out⟩, ⟨by repeat (first | (with_reducible first | exact HB.out | apply below_alloc | apply pw_below_drewN | apply below_drew1 | refine below_set ?_ GE640.out) | exact HB.out)⟩⟩
    case rest =>
     clear HC31
     try clear c2
     try clear p2
     try clear c3
     try clear c4
     try clear p6
     try clear c7
     try clear c30
     try clear c33
     try clear c34
     try clear c34b0
     try clear c34b1
     try clear hcz22_0
     try clear hcz22_1
     try clear hcz22_2
     try clear hcz22_3
     try clear hfz22_0
     try clear hfz22_1
     try clear hfz22_2
     try clear hfz22_3
     try clear p2
     try clear p6
     obtain ⟨kq, x77_30, rfl, HA, HJ30, HO_17, HO_641003, BK640, HB⟩ := hcut
     cases kq with
     | zero => exact absurd HA.out (by simp [haberdashlaw19_LevyRates.j1])
     | succ kj30 =>
      have H := HA.out
      clear HA
      simp only [haberdashlaw19_LevyRates.j1] at H
      by_cases c39 : x77_30 = true
      ·
       subst c39
       have H1 : (some false) = some r := by rw [if_pos rfl] at H; exact H
       clear H
       have H := H1
       clear H1
       obtain rfl := Option.some.inj H
       go_wp2
       repeat (go_quiet (fail); try go_wp2)
       go_ret
       exact ⟨by first | rfl | (simp [errW_none, errW_some] <;> rfl) | (simp [*, errW_none, errW_some] <;> rfl), by repeat (first | (with_reducible first | exact HB.out | apply below_alloc | apply pw_below_drewN | apply below_drew1 | refine below_set ?_ GE640.out) | exact HB.out)⟩
      ·
       replace c39 := Bool.eq_false_iff.mpr c39
       subst c39
       have H1 : (if a6 = true then (if t631 = t632 then (if 0 < (t650.length : Int) then (if 1 < (t650.length : Int) then (if x21_13 = 0 then (none) else (if (wrap64 ((rd t650 0) + (rd t650 1))) = (wrap64 (Int.tdiv (wrap64 ((wrap64 (2 * t629)) * t631)) x21_13)) then (if x23_13 = 0 then (none) else (some (t654 == (wrap64 (Int.tdiv (wrap64 (t630 * t633)) x23_13))))) else (some false))) else (none)) else (none)) else (if 0 < (t650.length : Int) then (if x21_13 = 0 then (none) else (if (rd t650 0) = (wrap64 (Int.tdiv (wrap64 (t629 * t631)) x21_13)) then (if 1 < (t650.length : Int) then (if x22_13 = 0 then (none) else (if (rd t650 1) = (wrap64 (Int.tdiv (wrap64 (t629 * t632)) x22_13)) then (if x23_13 = 0 then (none) else (some (t654 == (wrap64 (Int.tdiv (wrap64 (t630 * t633)) x23_13))))) else (some false))) else (none)) else (some false))) else (none))) else (if 0 < (t650.length : Int) then (if x21_13 = 0 then (none) else (if (rd t650 0) = (wrap64 (Int.tdiv (wrap64 (t629 * t631)) x21_13)) then (if 1 < (t650.length : Int) then (if x22_13 = 0 then (none) else (if (rd t650 1) = (wrap64 (Int.tdiv (wrap64 (t629 * t632)) x22_13)) then (if x23_13 = 0 then (none) else (some (t654 == (wrap64 (Int.tdiv (wrap64 (t630 * t633)) x23_13))))) else (some false))) else (none)) else (some false))) else (none))) = some r := by rw [if_neg (show ¬ (false = true) by decide)] at H; exact H
       clear H
       have H := H1
       clear H1
       by_cases c40 : a6 = true
       ·
        subst c40
        have H1 : (if t631 = t632 then (if 0 < (t650.length : Int) then (if 1 < (t650.length : Int) then (if x21_13 = 0 then (none) else (if (wrap64 ((rd t650 0) + (rd t650 1))) = (wrap64 (Int.tdiv (wrap64 ((wrap64 (2 * t629)) * t631)) x21_13)) then (if x23_13 = 0 then (none) else (some (t654 == (wrap64 (Int.tdiv (wrap64 (t630 * t633)) x23_13))))) else (some false))) else (none)) else (none)) else (if 0 < (t650.length : Int) then (if x21_13 = 0 then (none) else (if (rd t650 0) = (wrap64 (Int.tdiv (wrap64 (t629 * t631)) x21_13)) then (if 1 < (t650.length : Int) then (if x22_13 = 0 then (none) else (if (rd t650 1) = (wrap64 (Int.tdiv (wrap64 (t629 * t632)) x22_13)) then (if x23_13 = 0 then (none) else (some (t654 == (wrap64 (Int.tdiv (wrap64 (t630 * t633)) x23_13))))) else (some false))) else (none)) else (some false))) else (none))) = some r := by rw [if_pos rfl] at H; exact H
        clear H
        have H := H1
        clear H1
        by_cases c41 : t631 = t632
        ·
         rw [if_pos c41] at H
         have c41b0 : (t631 == t632) = true := beq_iff_eq.mpr c41
         have c41b1 : (t631 != t632) = false := bne_eq_false_iff_eq.mpr c41
         clear c41
         by_cases c42 : 0 < (t650.length : Int)
         ·
          rw [if_pos c42] at H
          have c42b0 : decide (0 < (t650.length : Int)) = true := decide_eq_true c42
          have c42b1 : decide (0 < t650.length) = true := decide_eq_true (by omega)
          clear c42
          by_cases c43 : 1 < (t650.length : Int)
          ·
           rw [if_pos c43] at H
           have c43b0 : decide (1 < (t650.length : Int)) = true := decide_eq_true c43
           have c43b1 : decide (1 < t650.length) = true := decide_eq_true (by omega)
           clear c43
           by_cases c44 : x21_13 = 0
           ·
            rw [if_pos c44] at H
            exact absurd H (by simp)
           ·
            rw [if_neg c44] at H
            have c44b0 : (x21_13 == 0) = false := beq_eq_false_iff_ne.mpr c44
            have c44b1 : (x21_13 != 0) = true := bne_iff_ne.mpr c44
            by_cases c45 : (wrap64 ((rd t650 0) + (rd t650 1))) = (wrap64 (Int.tdiv (wrap64 ((wrap64 (2 * t629)) * t631)) x21_13))
            ·
             rw [if_pos c45] at H
             have c45b0 : ((wrap64 ((rd t650 0) + (rd t650 1))) == (wrap64 (Int.tdiv (wrap64 ((wrap64 (2 * t629)) * t631)) x21_13))) = true := beq_iff_eq.mpr c45
             have c45b1 : ((wrap64 ((rd t650 0) + (rd t650 1))) != (wrap64 (Int.tdiv (wrap64 ((wrap64 (2 * t629)) * t631)) x21_13))) = false := bne_eq_false_iff_eq.mpr c45
             clear c45
             by_cases c46 : x23_13 = 0
             ·
              rw [if_pos c46] at H
              exact absurd H (by simp)
             ·
              rw [if_neg c46] at H
              have c46b0 : (x23_13 == 0) = false := beq_eq_false_iff_ne.mpr c46
              have c46b1 : (x23_13 != 0) = true := bne_iff_ne.mpr c46
              obtain rfl := Option.some.inj H
              obtain ⟨Ao47, co47, eo47⟩ := Kd.R_slice HO_17.out
              subst eo47
              have p657 : 0 ≤ (0 : Int) := (by omega)
              have q657 : 0 < (t650.length : Int) := of_decide_eq_true (by first | (with_reducible assumption) | assumption)
              obtain ⟨ad657, e657, hx657_0⟩ := Kd.at_int (Kd.R_reads' HO_17.out).2.2 0 p657 q657
              cases e657
              have qi657 : (0 < t650.length) = True := eq_true (by omega)
              (try rw [show ((0 : Int)).toNat = 0 from rfl] at hx657_0)
              (try rw [Addr.add_zero'] at hx657_0)
              replace p657 := eq_true p657
              replace q657 := eq_true q657
              have p658 : 0 ≤ (1 : Int) := (by omega)
              have q658 : 1 < (t650.length : Int) := of_decide_eq_true (by first | (with_reducible assumption) | assumption)
              obtain ⟨ad658, e658, hx658_0⟩ := Kd.at_int (Kd.R_reads' HO_17.out).2.2 1 p658 q658
              obtain rfl : ad657 = ad658 := (by injection e658)
              (try simp only [show (1 : Int).toNat = 1 from rfl, Nat.reduceMul, Nat.reduceEqDiff, Go.Addr.add, ↓reduceIte] at hx658_0)
              have qi658 : (1 < t650.length) = True := eq_true (by omega)
              (try rw [show ((1 : Int)).toNat = 1 from rfl] at hx658_0)
              replace p658 := eq_true p658
              replace q658 := eq_true q658
              go_wp2
              repeat (go_quiet (fail); try go_wp2)
              go_ret
              exact ⟨by first | rfl | (simp [errW_none, errW_some] <;> rfl) | (simp [*, errW_none, errW_some] <;> rfl), by repeat (first | (with_reducible first | exact HB.out | apply below_alloc | apply pw_below_drewN | apply below_drew1 | refine below_set ?_ GE640.out) | exact HB.out)⟩
            ·
             rw [if_neg c45] at H
             have c45b0 : ((wrap64 ((rd t650 0) + (rd t650 1))) == (wrap64 (Int.tdiv (wrap64 ((wrap64 (2 * t629)) * t631)) x21_13))) = false := beq_eq_false_iff_ne.mpr c45
             have c45b1 : ((wrap64 ((rd t650 0) + (rd t650 1))) != (wrap64 (Int.tdiv (wrap64 ((wrap64 (2 * t629)) * t631)) x21_13))) = true := bne_iff_ne.mpr c45
             obtain rfl := Option.some.inj H
             obtain ⟨Ao48, co48, eo48⟩ := Kd.R_slice HO_17.out
             subst eo48
             have p657 : 0 ≤ (0 : Int) := (by omega)
             have q657 : 0 < (t650.length : Int) := of_decide_eq_true (by first | (with_reducible assumption) | assumption)
             obtain ⟨ad657, e657, hx657_0⟩ := Kd.at_int (Kd.R_reads' HO_17.out).2.2 0 p657 q657
             cases e657
             have qi657 : (0 < t650.length) = True := eq_true (by omega)
             (try rw [show ((0 : Int)).toNat = 0 from rfl] at hx657_0)
             (try rw [Addr.add_zero'] at hx657_0)
             replace p657 := eq_true p657
             replace q657 := eq_true q657
             have p658 : 0 ≤ (1 : Int) := (by omega)
             have q658 : 1 < (t650.length : Int) := of_decide_eq_true (by first | (with_reducible assumption) | assumption)
             obtain ⟨ad658, e658, hx658_0⟩ := Kd.at_int (Kd.R_reads' HO_17.out).2.2 1 p658 q658
             obtain rfl : ad657 = ad658 := (by injection e658)
             (try simp only [show (1 : Int).toNat = 1 from rfl, Nat.reduceMul, Nat.reduceEqDiff, Go.Addr.add, ↓reduceIte] at hx658_0)
             have qi658 : (1 < t650.length) = True := eq_true (by omega)
             (try rw [show ((1 : Int)).toNat = 1 from rfl] at hx658_0)
             replace p658 := eq_true p658
             replace q658 := eq_true q658
             go_wp2
             repeat (go_quiet (fail); try go_wp2)
             go_ret
             exact ⟨by first | rfl | (simp [errW_none, errW_some] <;> rfl) | (simp [*, errW_none, errW_some] <;> rfl), by repeat (first | (with_reducible first | exact HB.out | apply below_alloc | apply pw_below_drewN | apply below_drew1 | refine below_set ?_ GE640.out) | exact HB.out)⟩
          ·
           rw [if_neg c43] at H
           exact absurd H (by simp)
         ·
          rw [if_neg c42] at H
          exact absurd H (by simp)
        ·
         rw [if_neg c41] at H
         have c41b0 : (t631 == t632) = false := beq_eq_false_iff_ne.mpr c41
         have c41b1 : (t631 != t632) = true := bne_iff_ne.mpr c41
         by_cases c49 : 0 < (t650.length : Int)
         ·
          rw [if_pos c49] at H
          have c49b0 : decide (0 < (t650.length : Int)) = true := decide_eq_true c49
          have c49b1 : decide (0 < t650.length) = true := decide_eq_true (by omega)
          clear c49
          by_cases c50 : x21_13 = 0
          ·
           rw [if_pos c50] at H
           exact absurd H (by simp)
          ·
           rw [if_neg c50] at H
           have c50b0 : (x21_13 == 0) = false := beq_eq_false_iff_ne.mpr c50
           have c50b1 : (x21_13 != 0) = true := bne_iff_ne.mpr c50
           by_cases c51 : (rd t650 0) = (wrap64 (Int.tdiv (wrap64 (t629 * t631)) x21_13))
           ·
            rw [if_pos c51] at H
            have c51b0 : ((rd t650 0) == (wrap64 (Int.tdiv (wrap64 (t629 * t631)) x21_13))) = true := beq_iff_eq.mpr c51
            have c51b1 : ((rd t650 0) != (wrap64 (Int.tdiv (wrap64 (t629 * t631)) x21_13))) = false := bne_eq_false_iff_eq.mpr c51
            clear c51
            by_cases c52 : 1 < (t650.length : Int)
            ·
             rw [if_pos c52] at H
             have c52b0 : decide (1 < (t650.length : Int)) = true := decide_eq_true c52
             have c52b1 : decide (1 < t650.length) = true := decide_eq_true (by omega)
             clear c52
             by_cases c53 : x22_13 = 0
             ·
              rw [if_pos c53] at H
              exact absurd H (by simp)
             ·
              rw [if_neg c53] at H
              have c53b0 : (x22_13 == 0) = false := beq_eq_false_iff_ne.mpr c53
              have c53b1 : (x22_13 != 0) = true := bne_iff_ne.mpr c53
              by_cases c54 : (rd t650 1) = (wrap64 (Int.tdiv (wrap64 (t629 * t632)) x22_13))
              ·
               rw [if_pos c54] at H
               have c54b0 : ((rd t650 1) == (wrap64 (Int.tdiv (wrap64 (t629 * t632)) x22_13))) = true := beq_iff_eq.mpr c54
               have c54b1 : ((rd t650 1) != (wrap64 (Int.tdiv (wrap64 (t629 * t632)) x22_13))) = false := bne_eq_false_iff_eq.mpr c54
               clear c54
               by_cases c55 : x23_13 = 0
               ·
                rw [if_pos c55] at H
                exact absurd H (by simp)
               ·
                rw [if_neg c55] at H
                have c55b0 : (x23_13 == 0) = false := beq_eq_false_iff_ne.mpr c55
                have c55b1 : (x23_13 != 0) = true := bne_iff_ne.mpr c55
                obtain rfl := Option.some.inj H
                obtain ⟨Ao56, co56, eo56⟩ := Kd.R_slice HO_17.out
                subst eo56
                have p659 : 0 ≤ (0 : Int) := (by omega)
                have q659 : 0 < (t650.length : Int) := of_decide_eq_true (by first | (with_reducible assumption) | assumption)
                obtain ⟨ad659, e659, hx659_0⟩ := Kd.at_int (Kd.R_reads' HO_17.out).2.2 0 p659 q659
                cases e659
                have qi659 : (0 < t650.length) = True := eq_true (by omega)
                (try rw [show ((0 : Int)).toNat = 0 from rfl] at hx659_0)
                (try rw [Addr.add_zero'] at hx659_0)
                replace p659 := eq_true p659
                replace q659 := eq_true q659
                have p660 : 0 ≤ (1 : Int) := (by omega)
                have q660 : 1 < (t650.length : Int) := of_decide_eq_true (by first | (with_reducible assumption) | assumption)
                obtain ⟨ad660, e660, hx660_0⟩ := Kd.at_int (Kd.R_reads' HO_17.out).2.2 1 p660 q660
                obtain rfl : ad659 = ad660 := (by injection e660)
                (try simp only [show (1 : Int).toNat = 1 from rfl, Nat.reduceMul, Nat.reduceEqDiff, Go.Addr.add, ↓reduceIte] at hx660_0)
                have qi660 : (1 < t650.length) = True := eq_true (by omega)
                (try rw [show ((1 : Int)).toNat = 1 from rfl] at hx660_0)
                replace p660 := eq_true p660
                replace q660 := eq_true q660
                go_wp2
                repeat (go_quiet (fail); try go_wp2)
                go_ret
                exact ⟨by first | rfl | (simp [errW_none, errW_some] <;> rfl) | (simp [*, errW_none, errW_some] <;> rfl), by repeat (first | (with_reducible first | exact HB.out | apply below_alloc | apply pw_below_drewN | apply below_drew1 | refine below_set ?_ GE640.out) | exact HB.out)⟩
              ·
               rw [if_neg c54] at H
               have c54b0 : ((rd t650 1) == (wrap64 (Int.tdiv (wrap64 (t629 * t632)) x22_13))) = false := beq_eq_false_iff_ne.mpr c54
               have c54b1 : ((rd t650 1) != (wrap64 (Int.tdiv (wrap64 (t629 * t632)) x22_13))) = true := bne_iff_ne.mpr c54
               obtain rfl := Option.some.inj H
               obtain ⟨Ao57, co57, eo57⟩ := Kd.R_slice HO_17.out
               subst eo57
               have p659 : 0 ≤ (0 : Int) := (by omega)
               have q659 : 0 < (t650.length : Int) := of_decide_eq_true (by first | (with_reducible assumption) | assumption)
               obtain ⟨ad659, e659, hx659_0⟩ := Kd.at_int (Kd.R_reads' HO_17.out).2.2 0 p659 q659
               cases e659
               have qi659 : (0 < t650.length) = True := eq_true (by omega)
               (try rw [show ((0 : Int)).toNat = 0 from rfl] at hx659_0)
               (try rw [Addr.add_zero'] at hx659_0)
               replace p659 := eq_true p659
               replace q659 := eq_true q659
               have p660 : 0 ≤ (1 : Int) := (by omega)
               have q660 : 1 < (t650.length : Int) := of_decide_eq_true (by first | (with_reducible assumption) | assumption)
               obtain ⟨ad660, e660, hx660_0⟩ := Kd.at_int (Kd.R_reads' HO_17.out).2.2 1 p660 q660
               obtain rfl : ad659 = ad660 := (by injection e660)
               (try simp only [show (1 : Int).toNat = 1 from rfl, Nat.reduceMul, Nat.reduceEqDiff, Go.Addr.add, ↓reduceIte] at hx660_0)
               have qi660 : (1 < t650.length) = True := eq_true (by omega)
               (try rw [show ((1 : Int)).toNat = 1 from rfl] at hx660_0)
               replace p660 := eq_true p660
               replace q660 := eq_true q660
               go_wp2
               repeat (go_quiet (fail); try go_wp2)
               go_ret
               exact ⟨by first | rfl | (simp [errW_none, errW_some] <;> rfl) | (simp [*, errW_none, errW_some] <;> rfl), by repeat (first | (with_reducible first | exact HB.out | apply below_alloc | apply pw_below_drewN | apply below_drew1 | refine below_set ?_ GE640.out) | exact HB.out)⟩
            ·
             rw [if_neg c52] at H
             exact absurd H (by simp)
           ·
            rw [if_neg c51] at H
            have c51b0 : ((rd t650 0) == (wrap64 (Int.tdiv (wrap64 (t629 * t631)) x21_13))) = false := beq_eq_false_iff_ne.mpr c51
            have c51b1 : ((rd t650 0) != (wrap64 (Int.tdiv (wrap64 (t629 * t631)) x21_13))) = true := bne_iff_ne.mpr c51
            obtain rfl := Option.some.inj H
            obtain ⟨Ao58, co58, eo58⟩ := Kd.R_slice HO_17.out
            subst eo58
            have p659 : 0 ≤ (0 : Int) := (by omega)
            have q659 : 0 < (t650.length : Int) := of_decide_eq_true (by first | (with_reducible assumption) | assumption)
            obtain ⟨ad659, e659, hx659_0⟩ := Kd.at_int (Kd.R_reads' HO_17.out).2.2 0 p659 q659
            cases e659
            have qi659 : (0 < t650.length) = True := eq_true (by omega)
            (try rw [show ((0 : Int)).toNat = 0 from rfl] at hx659_0)
            (try rw [Addr.add_zero'] at hx659_0)
            replace p659 := eq_true p659
            replace q659 := eq_true q659
            go_wp2
            repeat (go_quiet (fail); try go_wp2)
            go_ret
            exact ⟨by first | rfl | (simp [errW_none, errW_some] <;> rfl) | (simp [*, errW_none, errW_some] <;> rfl), by repeat (first | (with_reducible first | exact HB.out | apply below_alloc | apply pw_below_drewN | apply below_drew1 | refine below_set ?_ GE640.out) | exact HB.out)⟩
         ·
          rw [if_neg c49] at H
          exact absurd H (by simp)
       ·
        replace c40 := Bool.eq_false_iff.mpr c40
        subst c40
        have H1 : (if 0 < (t650.length : Int) then (if x21_13 = 0 then (none) else (if (rd t650 0) = (wrap64 (Int.tdiv (wrap64 (t629 * t631)) x21_13)) then (if 1 < (t650.length : Int) then (if x22_13 = 0 then (none) else (if (rd t650 1) = (wrap64 (Int.tdiv (wrap64 (t629 * t632)) x22_13)) then (if x23_13 = 0 then (none) else (some (t654 == (wrap64 (Int.tdiv (wrap64 (t630 * t633)) x23_13))))) else (some false))) else (none)) else (some false))) else (none)) = some r := by rw [if_neg (show ¬ (false = true) by decide)] at H; exact H
        clear H
        have H := H1
        clear H1
        by_cases c59 : 0 < (t650.length : Int)
        ·
         rw [if_pos c59] at H
         have c59b0 : decide (0 < (t650.length : Int)) = true := decide_eq_true c59
         have c59b1 : decide (0 < t650.length) = true := decide_eq_true (by omega)
         clear c59
         by_cases c60 : x21_13 = 0
         ·
          rw [if_pos c60] at H
          exact absurd H (by simp)
         ·
          rw [if_neg c60] at H
          have c60b0 : (x21_13 == 0) = false := beq_eq_false_iff_ne.mpr c60
          have c60b1 : (x21_13 != 0) = true := bne_iff_ne.mpr c60
          by_cases c61 : (rd t650 0) = (wrap64 (Int.tdiv (wrap64 (t629 * t631)) x21_13))
          ·
           rw [if_pos c61] at H
           have c61b0 : ((rd t650 0) == (wrap64 (Int.tdiv (wrap64 (t629 * t631)) x21_13))) = true := beq_iff_eq.mpr c61
           have c61b1 : ((rd t650 0) != (wrap64 (Int.tdiv (wrap64 (t629 * t631)) x21_13))) = false := bne_eq_false_iff_eq.mpr c61
           clear c61
           by_cases c62 : 1 < (t650.length : Int)
           ·
            rw [if_pos c62] at H
            have c62b0 : decide (1 < (t650.length : Int)) = true := decide_eq_true c62
            have c62b1 : decide (1 < t650.length) = true := decide_eq_true (by omega)
            clear c62
            by_cases c63 : x22_13 = 0
            ·
             rw [if_pos c63] at H
             exact absurd H (by simp)
            ·
             rw [if_neg c63] at H
             have c63b0 : (x22_13 == 0) = false := beq_eq_false_iff_ne.mpr c63
             have c63b1 : (x22_13 != 0) = true := bne_iff_ne.mpr c63
             by_cases c64 : (rd t650 1) = (wrap64 (Int.tdiv (wrap64 (t629 * t632)) x22_13))
             ·
              rw [if_pos c64] at H
              have c64b0 : ((rd t650 1) == (wrap64 (Int.tdiv (wrap64 (t629 * t632)) x22_13))) = true := beq_iff_eq.mpr c64
              have c64b1 : ((rd t650 1) != (wrap64 (Int.tdiv (wrap64 (t629 * t632)) x22_13))) = false := bne_eq_false_iff_eq.mpr c64
              clear c64
              by_cases c65 : x23_13 = 0
              ·
               rw [if_pos c65] at H
               exact absurd H (by simp)
              ·
               rw [if_neg c65] at H
               have c65b0 : (x23_13 == 0) = false := beq_eq_false_iff_ne.mpr c65
               have c65b1 : (x23_13 != 0) = true := bne_iff_ne.mpr c65
               obtain rfl := Option.some.inj H
               obtain ⟨Ao66, co66, eo66⟩ := Kd.R_slice HO_17.out
               subst eo66
               have p661 : 0 ≤ (0 : Int) := (by omega)
               have q661 : 0 < (t650.length : Int) := of_decide_eq_true (by first | (with_reducible assumption) | assumption)
               obtain ⟨ad661, e661, hx661_0⟩ := Kd.at_int (Kd.R_reads' HO_17.out).2.2 0 p661 q661
               cases e661
               have qi661 : (0 < t650.length) = True := eq_true (by omega)
               (try rw [show ((0 : Int)).toNat = 0 from rfl] at hx661_0)
               (try rw [Addr.add_zero'] at hx661_0)
               replace p661 := eq_true p661
               replace q661 := eq_true q661
               have p662 : 0 ≤ (1 : Int) := (by omega)
               have q662 : 1 < (t650.length : Int) := of_decide_eq_true (by first | (with_reducible assumption) | assumption)
               obtain ⟨ad662, e662, hx662_0⟩ := Kd.at_int (Kd.R_reads' HO_17.out).2.2 1 p662 q662
               obtain rfl : ad661 = ad662 := (by injection e662)
               (try simp only [show (1 : Int).toNat = 1 from rfl, Nat.reduceMul, Nat.reduceEqDiff, Go.Addr.add, ↓reduceIte] at hx662_0)
               have qi662 : (1 < t650.length) = True := eq_true (by omega)
               (try rw [show ((1 : Int)).toNat = 1 from rfl] at hx662_0)
               replace p662 := eq_true p662
               replace q662 := eq_true q662
               go_wp2
               repeat (go_quiet (fail); try go_wp2)
               go_ret
               exact ⟨by first | rfl | (simp [errW_none, errW_some] <;> rfl) | (simp [*, errW_none, errW_some] <;> rfl), by repeat (first | (with_reducible first | exact HB.out | apply below_alloc | apply pw_below_drewN | apply below_drew1 | refine below_set ?_ GE640.out) | exact HB.out)⟩
             ·
              rw [if_neg c64] at H
              have c64b0 : ((rd t650 1) == (wrap64 (Int.tdiv (wrap64 (t629 * t632)) x22_13))) = false := beq_eq_false_iff_ne.mpr c64
              have c64b1 : ((rd t650 1) != (wrap64 (Int.tdiv (wrap64 (t629 * t632)) x22_13))) = true := bne_iff_ne.mpr c64
              obtain rfl := Option.some.inj H
              obtain ⟨Ao67, co67, eo67⟩ := Kd.R_slice HO_17.out
              subst eo67
              have p661 : 0 ≤ (0 : Int) := (by omega)
              have q661 : 0 < (t650.length : Int) := of_decide_eq_true (by first | (with_reducible assumption) | assumption)
              obtain ⟨ad661, e661, hx661_0⟩ := Kd.at_int (Kd.R_reads' HO_17.out).2.2 0 p661 q661
              cases e661
              have qi661 : (0 < t650.length) = True := eq_true (by omega)
              (try rw [show ((0 : Int)).toNat = 0 from rfl] at hx661_0)
              (try rw [Addr.add_zero'] at hx661_0)
              replace p661 := eq_true p661
              replace q661 := eq_true q661
              have p662 : 0 ≤ (1 : Int) := (by omega)
              have q662 : 1 < (t650.length : Int) := of_decide_eq_true (by first | (with_reducible assumption) | assumption)
              obtain ⟨ad662, e662, hx662_0⟩ := Kd.at_int (Kd.R_reads' HO_17.out).2.2 1 p662 q662
              obtain rfl : ad661 = ad662 := (by injection e662)
              (try simp only [show (1 : Int).toNat = 1 from rfl, Nat.reduceMul, Nat.reduceEqDiff, Go.Addr.add, ↓reduceIte] at hx662_0)
              have qi662 : (1 < t650.length) = True := eq_true (by omega)
              (try rw [show ((1 : Int)).toNat = 1 from rfl] at hx662_0)
              replace p662 := eq_true p662
              replace q662 := eq_true q662
              go_wp2
              repeat (go_quiet (fail); try go_wp2)
              go_ret
              exact ⟨by first | rfl | (simp [errW_none, errW_some] <;> rfl) | (simp [*, errW_none, errW_some] <;> rfl), by repeat (first | (with_reducible first | exact HB.out | apply below_alloc | apply pw_below_drewN | apply below_drew1 | refine below_set ?_ GE640.out) | exact HB.out)⟩
           ·
            rw [if_neg c62] at H
            exact absurd H (by simp)
          ·
           rw [if_neg c61] at H
           have c61b0 : ((rd t650 0) == (wrap64 (Int.tdiv (wrap64 (t629 * t631)) x21_13))) = false := beq_eq_false_iff_ne.mpr c61
           have c61b1 : ((rd t650 0) != (wrap64 (Int.tdiv (wrap64 (t629 * t631)) x21_13))) = true := bne_iff_ne.mpr c61
           obtain rfl := Option.some.inj H
           obtain ⟨Ao68, co68, eo68⟩ := Kd.R_slice HO_17.out
           subst eo68
           have p661 : 0 ≤ (0 : Int) := (by omega)
           have q661 : 0 < (t650.length : Int) := of_decide_eq_true (by first | (with_reducible assumption) | assumption)
           obtain ⟨ad661, e661, hx661_0⟩ := Kd.at_int (Kd.R_reads' HO_17.out).2.2 0 p661 q661
           cases e661
           have qi661 : (0 < t650.length) = True := eq_true (by omega)
           (try rw [show ((0 : Int)).toNat = 0 from rfl] at hx661_0)
           (try rw [Addr.add_zero'] at hx661_0)
           replace p661 := eq_true p661
           replace q661 := eq_true q661
           go_wp2
           repeat (go_quiet (fail); try go_wp2)
           go_ret
           exact ⟨by first | rfl | (simp [errW_none, errW_some] <;> rfl) | (simp [*, errW_none, errW_some] <;> rfl), by repeat (first | (with_reducible first | exact HB.out | apply below_alloc | apply pw_below_drewN | apply below_drew1 | refine below_set ?_ GE640.out) | exact HB.out)⟩
        ·
         rw [if_neg c59] at H
         exact absurd H (by simp)

/-- THE ONE PURE STATEMENT of haberdashlaw19_LevyRates: yours. -/
def haberdashlaw19_LevyRates.Pure : Prop := ∀ (a0 : Int) (a1 : Int) (a2 : Int) (a3 : Int) (a4 : Int) (a5 : Bool) (a6 : Bool), (Lit.int .i64 a0).wf = true → (Lit.int .i64 a1).wf = true → (Lit.int .i64 a2).wf = true → (Lit.int .i64 a3).wf = true → (Lit.int .i64 a4).wf = true → ∃ k, haberdashlaw19_LevyRates.f k a0 a1 a2 a3 a4 a5 a6 = some true
theorem haberdashlaw19_LevyRates.walk (P : haberdashlaw19_LevyRates.Pure) (a0 : Int) (a1 : Int) (a2 : Int) (a3 : Int) (a4 : Int) (a5 : Bool) (a6 : Bool) (w : World) (w0 : (Lit.int .i64 a0).wf = true) (w1 : (Lit.int .i64 a1).wf = true) (w2 : (Lit.int .i64 a2).wf = true) (w3 : (Lit.int .i64 a3).wf = true) (w4 : (Lit.int .i64 a4).wf = true) :
    Calls Try.prog 7 #[.int .i64 a0, .int .i64 a1, .int .i64 a2, .int .i64 a3, .int .i64 a4, .bool a5, .bool a6] w fun e w' => e = .returned (.bool true) ∧ Below w.heap.size w w' := by
  obtain ⟨k, h⟩ := P a0 a1 a2 a3 a4 a5 a6 w0 w1 w2 w3 w4
  refine (haberdashlaw19_LevyRates.calls k a0 a1 a2 a3 a4 a5 a6 true w h).mono ?_
  rintro e w' ⟨rfl, hd⟩
  exact ⟨rfl, hd⟩

end Go.Proofs.Ytndecmbcekdafaa.Rw
