/- money.Times where what is asked may not be asked; the reference's sums. -/
import Derived.Test.YtmiamdnhofjifaaProg
import Derived.Below
import Derived.Deep.Draws
import Derived.Deep.AppendLies
import Derived.Maps.AppendAt
import Derived.OwnWalk
import Derived.Laws.BytesArg
import Derived.Laws.MakeOwn
import Derived.Laws.OwnMore
import Derived.Deep.OwnRows
import Derived.Tactics
import Derived.Lib.ConvBytes
import Derived.Laws.Slices
import Derived.WalkKit
import Derived.KernelRfl
import Derived.RowKit3
import Derived.Deep.LoopGhost
import Derived.Deep.QuietTactic
import Derived.BigQuiet
import Derived.WideLaws
import Derived.Deep.DeepCutAuto
import Derived.Deep.CutBlock
import Derived.Deep.RegionHeld3
import Derived.Laws.Rows
import Derived.Lib.AppendStr
import Derived.ArgAppend
import Derived.Laws.IdiomCopy
import Derived.OrdersHeld
import Derived.Laws.BitsLemmas
import Derived.RowKit
import Derived.BigRegion
import Derived.Outline
import Derived.RegionTactic
import Derived.StillTailTactics
import Derived.Deep.RegionLaw
import Derived.Test.YtmiamdnhofjifaaVMoney
import Derived.Test.YtmiamdnhofjifaaVParts
set_option linter.unusedVariables false
set_option linter.unusedSimpArgs false
namespace Go.Proofs.Ytmiamdnhofjifaa.MN
open Go Go.RowKit Go.Proofs.Ytmiamdnhofjifaa.QR Go.Proofs.Ytmiamdnhofjifaa.DV Go.Proofs.Ytmiamdnhofjifaa.PT

theorem rt {b : Bool} (h : ¬ b = false) : b = true := by cases b with
  | false => exact absurd rfl h
  | true => rfl

set_option maxRecDepth 100000 in
set_option maxHeartbeats 4000000 in
theorem times_bad1 (x n d k : Int) (w : World) (hx : right x = false) :
    Calls Try.prog 44 #[.int .i64 x, .int .i64 n, .int .i64 d, .int .i64 k] w fun e w' => e = .returned (.tuple #[.int .i64 0, .int .i64 2]) ∧ Kp (fun _ => False) w w' := by
  go_enter Try.func44, Try.ntmps44
  go_upto_region 1 with (fail)
  go_cut [10] (fun v wc => Kp (fun _ => False) w wc)
  case first =>
    go_wp2
    go_meet
    case rel => exact (Kp.refl _ _).alloc _
  case rest =>
  have hkp := hcut
  clear hcut
  go_wp2_with fail
  refine (right_isnt x _ hx).mono ?_; rintro _ _ ⟨rfl, _, rfl⟩
  go_wp2
  go_ret2
  exact ⟨rfl, hkp.drewN _⟩

set_option maxRecDepth 100000 in
set_option maxHeartbeats 4000000 in
theorem times_bad2 (x n d k : Int) (w : World) (hx : right x = true) (hn : right n = false) :
    Calls Try.prog 44 #[.int .i64 x, .int .i64 n, .int .i64 d, .int .i64 k] w fun e w' => e = .returned (.tuple #[.int .i64 0, .int .i64 2]) ∧ Kp (fun _ => False) w w' := by
  go_enter Try.func44, Try.ntmps44
  go_upto_region 1 with (fail)
  go_cut [10] (fun v wc => Kp (fun _ => False) w wc)
  case first =>
    go_wp2
    go_meet
    case rel => exact (Kp.refl _ _).alloc _
  case rest =>
  have hkp := hcut
  clear hcut
  go_wp2_with fail
  refine (right_is x _ hx).mono ?_; rintro _ _ ⟨rfl, _, rfl⟩
  go_wp2_with fail
  refine (right_isnt n _ hn).mono ?_; rintro _ _ ⟨rfl, _, rfl⟩
  go_wp2
  go_ret2
  exact ⟨rfl, hkp.drewN _⟩

set_option maxRecDepth 100000 in
set_option maxHeartbeats 4000000 in
theorem times_bad3 (x n d k : Int) (w : World) (hx : right x = true) (hn : right n = true) (hd : right d = false) :
    Calls Try.prog 44 #[.int .i64 x, .int .i64 n, .int .i64 d, .int .i64 k] w fun e w' => e = .returned (.tuple #[.int .i64 0, .int .i64 2]) ∧ Kp (fun _ => False) w w' := by
  go_enter Try.func44, Try.ntmps44
  go_upto_region 1 with (fail)
  go_cut [10] (fun v wc => Kp (fun _ => False) w wc)
  case first =>
    go_wp2
    go_meet
    case rel => exact (Kp.refl _ _).alloc _
  case rest =>
  have hkp := hcut
  clear hcut
  go_wp2_with fail
  refine (right_is x _ hx).mono ?_; rintro _ _ ⟨rfl, _, rfl⟩
  go_wp2_with fail
  refine (right_is n _ hn).mono ?_; rintro _ _ ⟨rfl, _, rfl⟩
  go_wp2_with fail
  refine (right_isnt d _ hd).mono ?_; rintro _ _ ⟨rfl, _, rfl⟩
  go_wp2
  go_ret2
  exact ⟨rfl, hkp.drewN _⟩

set_option maxRecDepth 100000 in
set_option maxHeartbeats 4000000 in
theorem times_bad4 (x n d k : Int) (w : World) (hx : right x = true) (hn : right n = true) (hd : right d = true) (h : d = 0) :
    Calls Try.prog 44 #[.int .i64 x, .int .i64 n, .int .i64 d, .int .i64 k] w fun e w' => e = .returned (.tuple #[.int .i64 0, .int .i64 2]) ∧ Kp (fun _ => False) w w' := by
  subst h
  go_enter Try.func44, Try.ntmps44
  go_upto_region 1 with (fail)
  go_cut [10] (fun v wc => Kp (fun _ => False) w wc)
  case first =>
    go_wp2
    go_meet
    case rel => exact (Kp.refl _ _).alloc _
  case rest =>
  have hkp := hcut
  clear hcut
  go_wp2_with fail
  refine (right_is x _ hx).mono ?_; rintro _ _ ⟨rfl, _, rfl⟩
  go_wp2_with fail
  refine (right_is n _ hn).mono ?_; rintro _ _ ⟨rfl, _, rfl⟩
  go_wp2_with fail
  refine (right_is 0 _ hd).mono ?_; rintro _ _ ⟨rfl, _, rfl⟩
  go_wp2
  go_ret2
  exact ⟨rfl, hkp.drewN _⟩

set_option maxRecDepth 100000 in
set_option maxHeartbeats 4000000 in
theorem times_bad5 (x n d k : Int) (w : World) (hx : right x = true) (hn : right n = true) (hd : right d = true) (h0 : d ≠ 0) (h : k < 0) :
    Calls Try.prog 44 #[.int .i64 x, .int .i64 n, .int .i64 d, .int .i64 k] w fun e w' => e = .returned (.tuple #[.int .i64 0, .int .i64 2]) ∧ Kp (fun _ => False) w w' := by
  have e1 : (d == 0) = false := beq_eq_false_iff_ne.2 h0
  have e2 : decide (k < 0) = true := decide_eq_true h
  go_enter Try.func44, Try.ntmps44
  go_upto_region 1 with (fail)
  go_cut [10] (fun v wc => Kp (fun _ => False) w wc)
  case first =>
    go_wp2
    go_meet
    case rel => exact (Kp.refl _ _).alloc _
  case rest =>
  have hkp := hcut
  clear hcut
  go_wp2_with fail
  refine (right_is x _ hx).mono ?_; rintro _ _ ⟨rfl, _, rfl⟩
  go_wp2_with fail
  refine (right_is n _ hn).mono ?_; rintro _ _ ⟨rfl, _, rfl⟩
  go_wp2_with fail
  refine (right_is d _ hd).mono ?_; rintro _ _ ⟨rfl, _, rfl⟩
  go_wp2
  go_ret2
  exact ⟨rfl, hkp.drewN _⟩

set_option maxRecDepth 100000 in
set_option maxHeartbeats 4000000 in
theorem times_bad6 (x n d k : Int) (w : World) (hx : right x = true) (hn : right n = true) (hd : right d = true) (h0 : d ≠ 0) (h1 : ¬ k < 0) (h : 3 ≤ k) :
    Calls Try.prog 44 #[.int .i64 x, .int .i64 n, .int .i64 d, .int .i64 k] w fun e w' => e = .returned (.tuple #[.int .i64 0, .int .i64 2]) ∧ Kp (fun _ => False) w w' := by
  have e1 : (d == 0) = false := beq_eq_false_iff_ne.2 h0
  have e2 : decide (k < 0) = false := decide_eq_false h1
  have e3 : decide (3 ≤ k) = true := decide_eq_true h
  go_enter Try.func44, Try.ntmps44
  go_upto_region 1 with (fail)
  go_cut [10] (fun v wc => Kp (fun _ => False) w wc)
  case first =>
    go_wp2
    go_meet
    case rel => exact (Kp.refl _ _).alloc _
  case rest =>
  have hkp := hcut
  clear hcut
  go_wp2_with fail
  refine (right_is x _ hx).mono ?_; rintro _ _ ⟨rfl, _, rfl⟩
  go_wp2_with fail
  refine (right_is n _ hn).mono ?_; rintro _ _ ⟨rfl, _, rfl⟩
  go_wp2_with fail
  refine (right_is d _ hd).mono ?_; rintro _ _ ⟨rfl, _, rfl⟩
  go_wp2
  go_ret2
  exact ⟨rfl, hkp.drewN _⟩

theorem times_bad (x n d k : Int) (w : World) (h : asked x n d k = false) :
    Calls Try.prog 44 #[.int .i64 x, .int .i64 n, .int .i64 d, .int .i64 k] w fun e w' => e = .returned (.tuple #[.int .i64 0, .int .i64 2]) ∧ Kp (fun _ => False) w w' := by
  by_cases hx : right x = false
  · exact times_bad1 x n d k w hx
  by_cases hn : right n = false
  · exact times_bad2 x n d k w (rt hx) hn
  by_cases hd : right d = false
  · exact times_bad3 x n d k w (rt hx) (rt hn) hd
  by_cases h0 : d = 0
  · exact times_bad4 x n d k w (rt hx) (rt hn) (rt hd) h0
  by_cases h1 : k < 0
  · exact times_bad5 x n d k w (rt hx) (rt hn) (rt hd) h0 h1
  refine times_bad6 x n d k w (rt hx) (rt hn) (rt hd) h0 h1 ?_
  unfold asked at h
  rw [rt hx, rt hn, rt hd] at h
  simp at h
  have := h h0 (by omega)
  omega

theorem times_calls (x n d k u v : Int) (w : World) (h : times x n d k = (u, v)) :
    Calls Try.prog 44 #[.int .i64 x, .int .i64 n, .int .i64 d, .int .i64 k] w fun e w' => e = .returned (.tuple #[.int .i64 u, .int .i64 v]) ∧ Kp (fun _ => False) w w' := by
  by_cases ha : asked x n d k = false
  · have h2 := h
    unfold times at h2
    rw [if_pos ha] at h2
    cases h2
    exact times_bad x n d k w ha
  · have ha := rt ha
    have h3 := ha
    unfold asked at h3
    simp at h3
    obtain ⟨⟨⟨⟨⟨h1, h2⟩, h3⟩, h4⟩, h5⟩, h6⟩ := h3
    have := right_iff.1 h3
    have hg := times_good x n d k w _ rfl (right_iff.1 h1) (right_iff.1 h2) ⟨by omega, by omega⟩ ⟨h5, h6⟩
    rw [h] at hg
    exact hg

end Go.Proofs.Ytmiamdnhofjifaa.MN
