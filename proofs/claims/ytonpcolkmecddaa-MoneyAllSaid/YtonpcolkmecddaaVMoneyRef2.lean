/- The reference's Times and Rate. -/
import Derived.Test.YtonpcolkmecddaaProg
import Derived.Below
import Derived.Deep.Draws
import Derived.Deep.AppendLies
import Derived.Maps.AppendAt
import Derived.OwnWalk
import Derived.Laws.BytesArg
import Derived.Laws.MakeOwn
import Derived.Laws.OwnMore
import Derived.Deep.OwnRows
import Derived.Tactics
import Derived.Lib.ConvBytes
import Derived.Laws.Slices
import Derived.WalkKit
import Derived.KernelRfl
import Derived.RowKit3
import Derived.Deep.LoopGhost
import Derived.Deep.QuietTactic
import Derived.BigQuiet
import Derived.WideLaws
import Derived.Deep.DeepCutAuto
import Derived.Deep.CutBlock
import Derived.Deep.RegionHeld3
import Derived.Laws.Rows
import Derived.Lib.AppendStr
import Derived.ArgAppend
import Derived.Laws.IdiomCopy
import Derived.OrdersHeld
import Derived.Laws.BitsLemmas
import Derived.RowKit
import Derived.BigRegion
import Derived.Outline
import Derived.RegionTactic
import Derived.StillTailTactics
import Derived.Deep.RegionLaw
import Derived.Test.YtonpcolkmecddaaVMoneyRef
set_option linter.unusedVariables false
set_option linter.unusedSimpArgs false
namespace Go.Proofs.Ytonpcolkmecddaa.MN
open Go Go.RowKit Go.Proofs.Ytonpcolkmecddaa.QR Go.Proofs.Ytonpcolkmecddaa.DV Go.Proofs.Ytonpcolkmecddaa.PT

set_option maxRecDepth 100000 in
set_option maxHeartbeats 4000000 in
theorem rtimes_bad1 (x n d k : Int) (w : World) (hx : right x = false) :
    Calls Try.prog 39 #[.int .i64 x, .int .i64 n, .int .i64 d, .int .i64 k] w fun e w' => e = .returned (.tuple #[.int .i64 0, .int .i64 2]) ∧ ∃ m, w' = w.drewN m := by
  go_enter Try.func39, Try.ntmps39
  go_wp2_with fail
  refine (rright_isnt x _ hx).mono ?_; rintro _ _ ⟨rfl, _, rfl⟩
  go_wp2
  go_ret2
  exact ⟨rfl, _, rfl⟩

set_option maxRecDepth 100000 in
set_option maxHeartbeats 4000000 in
theorem rtimes_bad2 (x n d k : Int) (w : World) (hx : right x = true) (hn : right n = false) :
    Calls Try.prog 39 #[.int .i64 x, .int .i64 n, .int .i64 d, .int .i64 k] w fun e w' => e = .returned (.tuple #[.int .i64 0, .int .i64 2]) ∧ ∃ m, w' = w.drewN m := by
  go_enter Try.func39, Try.ntmps39
  go_wp2_with fail
  refine (rright_is x _ hx).mono ?_; rintro _ _ ⟨rfl, _, rfl⟩
  go_wp2_with fail
  refine (rright_isnt n _ hn).mono ?_; rintro _ _ ⟨rfl, _, rfl⟩
  go_wp2
  go_ret2
  exact ⟨rfl, _, rfl⟩

set_option maxRecDepth 100000 in
set_option maxHeartbeats 4000000 in
theorem rtimes_bad3 (x n d k : Int) (w : World) (hx : right x = true) (hn : right n = true) (h : d < 1) :
    Calls Try.prog 39 #[.int .i64 x, .int .i64 n, .int .i64 d, .int .i64 k] w fun e w' => e = .returned (.tuple #[.int .i64 0, .int .i64 2]) ∧ ∃ m, w' = w.drewN m := by
  have e1 : decide (d < 1) = true := decide_eq_true h
  go_enter Try.func39, Try.ntmps39
  go_wp2_with fail
  refine (rright_is x _ hx).mono ?_; rintro _ _ ⟨rfl, _, rfl⟩
  go_wp2_with fail
  refine (rright_is n _ hn).mono ?_; rintro _ _ ⟨rfl, _, rfl⟩
  go_wp2
  go_ret2
  exact ⟨rfl, _, rfl⟩

set_option maxRecDepth 100000 in
set_option maxHeartbeats 4000000 in
theorem rtimes_bad4 (x n d k : Int) (w : World) (hx : right x = true) (hn : right n = true) (h1 : ¬ d < 1) (h : 100000000000000 < d) :
    Calls Try.prog 39 #[.int .i64 x, .int .i64 n, .int .i64 d, .int .i64 k] w fun e w' => e = .returned (.tuple #[.int .i64 0, .int .i64 2]) ∧ ∃ m, w' = w.drewN m := by
  have e1 : decide (d < 1) = false := decide_eq_false h1
  have e2 : decide (100000000000000 < d) = true := decide_eq_true h
  go_enter Try.func39, Try.ntmps39
  go_wp2_with fail
  refine (rright_is x _ hx).mono ?_; rintro _ _ ⟨rfl, _, rfl⟩
  go_wp2_with fail
  refine (rright_is n _ hn).mono ?_; rintro _ _ ⟨rfl, _, rfl⟩
  go_wp2
  go_ret2
  exact ⟨rfl, _, rfl⟩

set_option maxRecDepth 100000 in
set_option maxHeartbeats 4000000 in
theorem rtimes_bad5 (x n d k : Int) (w : World) (hx : right x = true) (hn : right n = true) (h1 : ¬ d < 1) (h2 : ¬ 100000000000000 < d) (h : k < 0) :
    Calls Try.prog 39 #[.int .i64 x, .int .i64 n, .int .i64 d, .int .i64 k] w fun e w' => e = .returned (.tuple #[.int .i64 0, .int .i64 2]) ∧ ∃ m, w' = w.drewN m := by
  have e1 : decide (d < 1) = false := decide_eq_false h1
  have e2 : decide (100000000000000 < d) = false := decide_eq_false h2
  have e3 : decide (k < 0) = true := decide_eq_true h
  go_enter Try.func39, Try.ntmps39
  go_wp2_with fail
  refine (rright_is x _ hx).mono ?_; rintro _ _ ⟨rfl, _, rfl⟩
  go_wp2_with fail
  refine (rright_is n _ hn).mono ?_; rintro _ _ ⟨rfl, _, rfl⟩
  go_wp2
  go_ret2
  exact ⟨rfl, _, rfl⟩

set_option maxRecDepth 100000 in
set_option maxHeartbeats 4000000 in
theorem rtimes_bad6 (x n d k : Int) (w : World) (hx : right x = true) (hn : right n = true) (h1 : ¬ d < 1) (h2 : ¬ 100000000000000 < d) (h3 : ¬ k < 0) (h : 2 < k) :
    Calls Try.prog 39 #[.int .i64 x, .int .i64 n, .int .i64 d, .int .i64 k] w fun e w' => e = .returned (.tuple #[.int .i64 0, .int .i64 2]) ∧ ∃ m, w' = w.drewN m := by
  have e1 : decide (d < 1) = false := decide_eq_false h1
  have e2 : decide (100000000000000 < d) = false := decide_eq_false h2
  have e3 : decide (k < 0) = false := decide_eq_false h3
  have e4 : decide (2 < k) = true := decide_eq_true h
  go_enter Try.func39, Try.ntmps39
  go_wp2_with fail
  refine (rright_is x _ hx).mono ?_; rintro _ _ ⟨rfl, _, rfl⟩
  go_wp2_with fail
  refine (rright_is n _ hn).mono ?_; rintro _ _ ⟨rfl, _, rfl⟩
  go_wp2
  go_ret2
  exact ⟨rfl, _, rfl⟩

theorem rtimes_bad (x n d k : Int) (w : World) (h : asked x n d k = false) :
    Calls Try.prog 39 #[.int .i64 x, .int .i64 n, .int .i64 d, .int .i64 k] w fun e w' => e = .returned (.tuple #[.int .i64 0, .int .i64 2]) ∧ ∃ m, w' = w.drewN m := by
  by_cases hx : right x = false
  · exact rtimes_bad1 x n d k w hx
  by_cases hn : right n = false
  · exact rtimes_bad2 x n d k w (rt hx) hn
  by_cases h1 : d < 1
  · exact rtimes_bad3 x n d k w (rt hx) (rt hn) h1
  by_cases h2 : 100000000000000 < d
  · exact rtimes_bad4 x n d k w (rt hx) (rt hn) h1 h2
  by_cases h3 : k < 0
  · exact rtimes_bad5 x n d k w (rt hx) (rt hn) h1 h2 h3
  refine rtimes_bad6 x n d k w (rt hx) (rt hn) h1 h2 h3 ?_
  unfold asked at h
  rw [rt hx, rt hn, right_of (show 0 ≤ d by omega) (by omega)] at h
  simp at h
  have := h (by omega) (by omega)
  omega

set_option maxRecDepth 100000 in
set_option maxHeartbeats 4000000 in
theorem rtimes_high (x n d k : Int) (w : World) (hx : right x = true) (hn : right n = true) (hd : 1 ≤ d ∧ d ≤ 100000000000000) (hk : 0 ≤ k ∧ k < 3) (h : 100000000000000 < x * n / d) :
    Calls Try.prog 39 #[.int .i64 x, .int .i64 n, .int .i64 d, .int .i64 k] w fun e w' => e = .returned (.tuple #[.int .i64 0, .int .i64 5]) ∧ ∃ m, w' = w.drewN m := by
  have e1 : decide (d < 1) = false := decide_eq_false (by omega)
  have e2 : decide (100000000000000 < d) = false := decide_eq_false (by omega)
  have e3 : decide (k < 0) = false := decide_eq_false (by omega)
  have e4 : decide (2 < k) = false := decide_eq_false (by omega)
  have hp := fun W => parts_is x n d 0 0 false W hx hn ⟨hd.1, by omega⟩ (by rw [if_pos h])
  clear h hd hk
  go_enter Try.func39, Try.ntmps39
  go_wp2_with fail
  refine (rright_is x _ hx).mono ?_; rintro _ _ ⟨rfl, _, rfl⟩
  go_wp2_with fail
  refine (rright_is n _ hn).mono ?_; rintro _ _ ⟨rfl, _, rfl⟩
  go_wp2_with fail
  refine (hp _).mono ?_; rintro _ _ ⟨rfl, _, rfl⟩
  go_wp2
  go_ret2
  exact ⟨rfl, _, rfl⟩

theorem _root_.Go.RowKit.Hid.mk2 {p : Prop} (h : p) : Hid p := h

set_option maxRecDepth 100000 in
set_option maxHeartbeats 16000000 in
theorem rtimes_low (x n d k q r V : Int) (w : World) (hx : right x = true) (hn : right n = true) (hd : 1 ≤ d ∧ d ≤ 100000000000000) (hk : 0 ≤ k ∧ k < 3) (h : ¬ 100000000000000 < q) (hq : x * n / d = q) (hr : x * n % d = r) (hq0 : 0 ≤ q) (hV : rnd k q r d = V) :
    Calls Try.prog 39 #[.int .i64 x, .int .i64 n, .int .i64 d, .int .i64 k] w fun e w' => e = .returned (.tuple #[.int .i64 (if 100000000000000 < V then ((0, 5) : Int × Int) else (V, 0)).1, .int .i64 (if 100000000000000 < V then ((0, 5) : Int × Int) else (V, 0)).2]) ∧ ∃ m, w' = w.drewN m := by
  have e1 : decide (d < 1) = false := decide_eq_false (by omega)
  have e2 : decide (100000000000000 < d) = false := decide_eq_false (by omega)
  have e3 : decide (k < 0) = false := decide_eq_false (by omega)
  have e4 : decide (2 < k) = false := decide_eq_false (by omega)
  have hp := fun W => parts_is x n d q r true W hx hn ⟨hd.1, by omega⟩ (by rw [hq, hr, if_neg h])
  have hr0 : 0 ≤ r := by rw [← hr]; exact Int.emod_nonneg _ (by omega)
  have hr1 : r < d := by rw [← hr]; exact Int.emod_lt_of_pos _ (by omega)
  have w1 : IntKind.i64.wrap (2 * r) = 2 * r := wrap_in64 _ (by omega) (by omega)
  have w2 : IntKind.i64.wrap (q + 1) = q + 1 := wrap_in64 _ (by omega) (by omega)
  have w5 : IntKind.i64.wrap d = d := wrap_in64 _ (by omega) (by omega)
  have w3 := Hid.mk2 (Int.tmod_eq_emod_of_nonneg hq0 : q.tmod 2 = q % 2)
  have HV0 : Hid (0 ≤ V) := by rw [← hV]; unfold rnd; show (0 : Int) ≤ _; (repeat' split) <;> omega
  obtain ⟨o, ho⟩ : ∃ o : Int × Int, (if 100000000000000 < V then ((0, 5) : Int × Int) else (V, 0)) = o := ⟨_, rfl⟩
  rw [ho]
  have Ho := Hid.mk2 ho
  clear ho hq hr h
  rcases (show k = 0 ∨ k = 1 ∨ k = 2 by omega) with rfl | rfl | rfl
  · have hVq : V = q := by rw [← hV]; rfl
    clear hd hk hr0 hr1 hq0 hV
    subst hVq
    go_enter Try.func39, Try.ntmps39
    go_wp2_with fail
    refine (rright_is x _ hx).mono ?_; rintro _ _ ⟨rfl, _, rfl⟩
    go_wp2_with fail
    refine (rright_is n _ hn).mono ?_; rintro _ _ ⟨rfl, _, rfl⟩
    go_wp2_with fail
    refine (hp _).mono ?_; rintro _ _ ⟨rfl, _, rfl⟩
    by_cases hv : 100000000000000 < V
    · have hs : right V = false := by
        cases e : right V with
        | false => rfl
        | true => have := right_iff.1 e; omega
      have HO : Hid (o = (0, 5)) := by show _ = _; rw [← Ho.out, if_pos hv]
      clear hv
      go_wp2_with fail
      refine (rright_isnt V _ hs).mono ?_; rintro _ _ ⟨rfl, _, rfl⟩
      go_wp2
      go_ret2
      exact ⟨by rw [HO.out]; rfl, _, rfl⟩
    · have hs : right V = true := right_of HV0.out (by omega)
      have HO : Hid (o = (V, 0)) := by show _ = _; rw [← Ho.out, if_neg hv]
      clear hv
      go_wp2_with fail
      refine (rright_is V _ hs).mono ?_; rintro _ _ ⟨rfl, _, rfl⟩
      go_wp2
      go_ret2
      exact ⟨by rw [HO.out]; rfl, _, rfl⟩
  · by_cases h1 : d ≤ 2 * r
    · have f1 : decide (d ≤ 2 * r) = true := decide_eq_true h1
      have hVq : V = q + 1 := by rw [← hV]; show (if d ≤ 2 * r then q + 1 else q) = _; rw [if_pos h1]
      clear hd hk hr0 hr1 hq0 hV
      have w4 : IntKind.i64.wrap (q + 1) = V := by rw [hVq]; exact w2
      clear w2 hVq
      go_enter Try.func39, Try.ntmps39
      go_wp2_with fail
      refine (rright_is x _ hx).mono ?_; rintro _ _ ⟨rfl, _, rfl⟩
      go_wp2_with fail
      refine (rright_is n _ hn).mono ?_; rintro _ _ ⟨rfl, _, rfl⟩
      go_wp2_with fail
      refine (hp _).mono ?_; rintro _ _ ⟨rfl, _, rfl⟩
      by_cases hv : 100000000000000 < V
      · have hs : right V = false := by
          cases e : right V with
          | false => rfl
          | true => have := right_iff.1 e; omega
        have HO : Hid (o = (0, 5)) := by show _ = _; rw [← Ho.out, if_pos hv]
        clear hv
        go_wp2_with fail
        refine (rright_isnt V _ hs).mono ?_; rintro _ _ ⟨rfl, _, rfl⟩
        go_wp2
        go_ret2
        exact ⟨by rw [HO.out]; rfl, _, rfl⟩
      · have hs : right V = true := right_of HV0.out (by omega)
        have HO : Hid (o = (V, 0)) := by show _ = _; rw [← Ho.out, if_neg hv]
        clear hv
        go_wp2_with fail
        refine (rright_is V _ hs).mono ?_; rintro _ _ ⟨rfl, _, rfl⟩
        go_wp2
        go_ret2
        exact ⟨by rw [HO.out]; rfl, _, rfl⟩
    · have f1 : decide (d ≤ 2 * r) = false := decide_eq_false h1
      have hVq : V = q := by rw [← hV]; show (if d ≤ 2 * r then q + 1 else q) = _; rw [if_neg h1]
      clear hd hk hr0 hr1 hq0 hV
      subst hVq
      go_enter Try.func39, Try.ntmps39
      go_wp2_with fail
      refine (rright_is x _ hx).mono ?_; rintro _ _ ⟨rfl, _, rfl⟩
      go_wp2_with fail
      refine (rright_is n _ hn).mono ?_; rintro _ _ ⟨rfl, _, rfl⟩
      go_wp2_with fail
      refine (hp _).mono ?_; rintro _ _ ⟨rfl, _, rfl⟩
      by_cases hv : 100000000000000 < V
      · have hs : right V = false := by
          cases e : right V with
          | false => rfl
          | true => have := right_iff.1 e; omega
        have HO : Hid (o = (0, 5)) := by show _ = _; rw [← Ho.out, if_pos hv]
        clear hv
        go_wp2_with fail
        refine (rright_isnt V _ hs).mono ?_; rintro _ _ ⟨rfl, _, rfl⟩
        go_wp2
        go_ret2
        exact ⟨by rw [HO.out]; rfl, _, rfl⟩
      · have hs : right V = true := right_of HV0.out (by omega)
        have HO : Hid (o = (V, 0)) := by show _ = _; rw [← Ho.out, if_neg hv]
        clear hv
        go_wp2_with fail
        refine (rright_is V _ hs).mono ?_; rintro _ _ ⟨rfl, _, rfl⟩
        go_wp2
        go_ret2
        exact ⟨by rw [HO.out]; rfl, _, rfl⟩
  · by_cases h1 : d < 2 * r
    · have f1 : decide (d < 2 * r) = true := decide_eq_true h1
      have hVq : V = q + 1 := by rw [← hV]; show (if d < 2 * r ∨ (2 * r = d ∧ q % 2 = 1) then q + 1 else q) = _; rw [if_pos (by omega)]
      clear hd hk hr0 hr1 hq0 hV
      have w4 : IntKind.i64.wrap (q + 1) = V := by rw [hVq]; exact w2
      clear w2 hVq
      go_enter Try.func39, Try.ntmps39
      go_wp2_with fail
      refine (rright_is x _ hx).mono ?_; rintro _ _ ⟨rfl, _, rfl⟩
      go_wp2_with fail
      refine (rright_is n _ hn).mono ?_; rintro _ _ ⟨rfl, _, rfl⟩
      go_wp2_with fail
      refine (hp _).mono ?_; rintro _ _ ⟨rfl, _, rfl⟩
      by_cases hv : 100000000000000 < V
      · have hs : right V = false := by
          cases e : right V with
          | false => rfl
          | true => have := right_iff.1 e; omega
        have HO : Hid (o = (0, 5)) := by show _ = _; rw [← Ho.out, if_pos hv]
        clear hv
        go_wp2_with fail
        refine (rright_isnt V _ hs).mono ?_; rintro _ _ ⟨rfl, _, rfl⟩
        go_wp2
        go_ret2
        exact ⟨by rw [HO.out]; rfl, _, rfl⟩
      · have hs : right V = true := right_of HV0.out (by omega)
        have HO : Hid (o = (V, 0)) := by show _ = _; rw [← Ho.out, if_neg hv]
        clear hv
        go_wp2_with fail
        refine (rright_is V _ hs).mono ?_; rintro _ _ ⟨rfl, _, rfl⟩
        go_wp2
        go_ret2
        exact ⟨by rw [HO.out]; rfl, _, rfl⟩
    · by_cases h2 : 2 * r = d
      · by_cases h3 : q % 2 = 1
        · have f1 : decide (d < 2 * r) = false := decide_eq_false h1
          have f2 : (2 * r == d) = true := beq_iff_eq.2 h2
          have f3 : (q.tmod 2 == 1) = true := by rw [w3.out]; exact beq_iff_eq.2 h3
          have hVq : V = q + 1 := by rw [← hV]; show (if d < 2 * r ∨ (2 * r = d ∧ q % 2 = 1) then q + 1 else q) = _; rw [if_pos (by omega)]
          clear hd hk hr0 hr1 hq0 hV h3
          have w4 : IntKind.i64.wrap (q + 1) = V := by rw [hVq]; exact w2
          clear w2 hVq
          go_enter Try.func39, Try.ntmps39
          go_wp2_with fail
          refine (rright_is x _ hx).mono ?_; rintro _ _ ⟨rfl, _, rfl⟩
          go_wp2_with fail
          refine (rright_is n _ hn).mono ?_; rintro _ _ ⟨rfl, _, rfl⟩
          go_wp2_with fail
          refine (hp _).mono ?_; rintro _ _ ⟨rfl, _, rfl⟩
          by_cases hv : 100000000000000 < V
          · have hs : right V = false := by
              cases e : right V with
              | false => rfl
              | true => have := right_iff.1 e; omega
            have HO : Hid (o = (0, 5)) := by show _ = _; rw [← Ho.out, if_pos hv]
            clear hv
            go_wp2_with fail
            refine (rright_isnt V _ hs).mono ?_; rintro _ _ ⟨rfl, _, rfl⟩
            go_wp2
            go_ret2
            exact ⟨by rw [HO.out]; rfl, _, rfl⟩
          · have hs : right V = true := right_of HV0.out (by omega)
            have HO : Hid (o = (V, 0)) := by show _ = _; rw [← Ho.out, if_neg hv]
            clear hv
            go_wp2_with fail
            refine (rright_is V _ hs).mono ?_; rintro _ _ ⟨rfl, _, rfl⟩
            go_wp2
            go_ret2
            exact ⟨by rw [HO.out]; rfl, _, rfl⟩
        · have f1 : decide (d < 2 * r) = false := decide_eq_false h1
          have f2 : (2 * r == d) = true := beq_iff_eq.2 h2
          have f3 : (q.tmod 2 == 1) = false := by rw [w3.out]; exact beq_eq_false_iff_ne.2 h3
          have hVq : V = q := by rw [← hV]; show (if d < 2 * r ∨ (2 * r = d ∧ q % 2 = 1) then q + 1 else q) = _; rw [if_neg (by omega)]
          clear hd hk hr0 hr1 hq0 hV h3
          subst hVq
          go_enter Try.func39, Try.ntmps39
          go_wp2_with fail
          refine (rright_is x _ hx).mono ?_; rintro _ _ ⟨rfl, _, rfl⟩
          go_wp2_with fail
          refine (rright_is n _ hn).mono ?_; rintro _ _ ⟨rfl, _, rfl⟩
          go_wp2_with fail
          refine (hp _).mono ?_; rintro _ _ ⟨rfl, _, rfl⟩
          by_cases hv : 100000000000000 < V
          · have hs : right V = false := by
              cases e : right V with
              | false => rfl
              | true => have := right_iff.1 e; omega
            have HO : Hid (o = (0, 5)) := by show _ = _; rw [← Ho.out, if_pos hv]
            clear hv
            go_wp2_with fail
            refine (rright_isnt V _ hs).mono ?_; rintro _ _ ⟨rfl, _, rfl⟩
            go_wp2
            go_ret2
            exact ⟨by rw [HO.out]; rfl, _, rfl⟩
          · have hs : right V = true := right_of HV0.out (by omega)
            have HO : Hid (o = (V, 0)) := by show _ = _; rw [← Ho.out, if_neg hv]
            clear hv
            go_wp2_with fail
            refine (rright_is V _ hs).mono ?_; rintro _ _ ⟨rfl, _, rfl⟩
            go_wp2
            go_ret2
            exact ⟨by rw [HO.out]; rfl, _, rfl⟩
      · have f1 : decide (d < 2 * r) = false := decide_eq_false h1
        have f2 : (2 * r == d) = false := beq_eq_false_iff_ne.2 h2
        have hVq : V = q := by rw [← hV]; show (if d < 2 * r ∨ (2 * r = d ∧ q % 2 = 1) then q + 1 else q) = _; rw [if_neg (by omega)]
        clear hd hk hr0 hr1 hq0 hV
        subst hVq
        go_enter Try.func39, Try.ntmps39
        go_wp2_with fail
        refine (rright_is x _ hx).mono ?_; rintro _ _ ⟨rfl, _, rfl⟩
        go_wp2_with fail
        refine (rright_is n _ hn).mono ?_; rintro _ _ ⟨rfl, _, rfl⟩
        go_wp2_with fail
        refine (hp _).mono ?_; rintro _ _ ⟨rfl, _, rfl⟩
        by_cases hv : 100000000000000 < V
        · have hs : right V = false := by
            cases e : right V with
            | false => rfl
            | true => have := right_iff.1 e; omega
          have HO : Hid (o = (0, 5)) := by show _ = _; rw [← Ho.out, if_pos hv]
          clear hv
          go_wp2_with fail
          refine (rright_isnt V _ hs).mono ?_; rintro _ _ ⟨rfl, _, rfl⟩
          go_wp2
          go_ret2
          exact ⟨by rw [HO.out]; rfl, _, rfl⟩
        · have hs : right V = true := right_of HV0.out (by omega)
          have HO : Hid (o = (V, 0)) := by show _ = _; rw [← Ho.out, if_neg hv]
          clear hv
          go_wp2_with fail
          refine (rright_is V _ hs).mono ?_; rintro _ _ ⟨rfl, _, rfl⟩
          go_wp2
          go_ret2
          exact ⟨by rw [HO.out]; rfl, _, rfl⟩

end Go.Proofs.Ytonpcolkmecddaa.MN
