/- The statement LevyRates over numbers: at no rate there is no tax; a category's rate alone counts for it. -/
import Derived.Test.YtndecmbcekdafaaVRwLRates
import Derived.Test.YtndecmbcekdafaaVAwL19
import Derived.Test.YtndecmbcekdafaaVLevyW
import Derived.Test.YtndecmbcekdafaaVModP
set_option linter.unusedVariables false
set_option linter.unusedSimpArgs false
namespace Go.Proofs.Ytndecmbcekdafaa.Pure
open Go Go.RowKit Go.Proofs.YtndecmbcekdafaaW.PrintWords Go.Proofs.YtndecmbcekdafaaW.PrintMore Go.Proofs.Ytndecmbcekdafaa.Rw Go.Proofs.Ytndecmbcekdafaa.EP Go.Proofs.Ytndecmbcekdafaa.XP Go.Proofs.Ytndecmbcekdafaa.YP Go.Proofs.Ytndecmbcekdafaa.LB Go.Proofs.Ytndecmbcekdafaa.LV Go.Proofs.Ytndecmbcekdafaa.GP
open Go.Proofs.Ytndecmbcekdafaa.MP (md md_range mod_f mod64_f)

theorem nx : nameOk (⟨#[120]⟩ : ByteArray) = true := by decide +kernel
theorem nz : nameOk (⟨#[122]⟩ : ByteArray) = true := by decide +kernel
theorem r1x (s : ByteArray) : rise [s] = true := by
  unfold rise
  refine allTo_iff.2 fun j hj => ?_
  obtain rfl : j = 0 := by simp at hj; omega
  rfl
theorem xy_ne : ¬ ((⟨#[120]⟩ : ByteArray).toList = (⟨#[121]⟩ : ByteArray).toList) := by decide +kernel
theorem zone_one (z : Zn) : zoneAt [z] z.f0 = some z := by
  unfold zoneAt
  have e : (List.range 1).find? (fun j => decide ((([z].getD j zZ).f0).toList = z.f0.toList)) = some 0 := by
    rw [show List.range 1 = [0] from rfl, List.find?_cons_of_pos]
    exact decide_eq_true rfl
  show Option.map _ ((List.range 1).find? (fun j => decide ((([z].getD j zZ).f0).toList = z.f0.toList))) = _
  rw [e]
  rfl
theorem rate_yes (c : CR) (b : Int) : rateAt [c] b c.f0 = c.f1 := by
  unfold rateAt
  have e : (List.range 1).find? (fun j => decide ((([c].getD j zC).f0).toList = c.f0.toList)) = some 0 := by
    rw [show List.range 1 = [0] from rfl, List.find?_cons_of_pos]
    exact decide_eq_true rfl
  show (match (List.range 1).find? (fun j => decide ((([c].getD j zC).f0).toList = c.f0.toList)) with | some j => ([c].getD j zC).f1 | none => b) = _
  rw [e]
  rfl
theorem rate_no (c : CR) (b : Int) (s : ByteArray) (h : ¬ c.f0.toList = s.toList) : rateAt [c] b s = b := by
  unfold rateAt
  have e : (List.range 1).find? (fun j => decide ((([c].getD j zC).f0).toList = s.toList)) = none := by
    rw [show List.range 1 = [0] from rfl, List.find?_cons_of_neg, List.find?_nil]
    show ¬ decide (c.f0.toList = s.toList) = true
    simpa using h
  show (match (List.range 1).find? (fun j => decide ((([c].getD j zC).f0).toList = s.toList)) with | some j => ([c].getD j zC).f1 | none => b) = _
  rw [e]
theorem rates_levy (incl byo : Bool) (net ship a b c : Int) (hn : 0 ≤ net ∧ net < 1073741824) (hs : 0 ≤ ship ∧ ship < 1048576) (ha : 0 ≤ a ∧ a < 10001) (hb : 0 ≤ b ∧ b < 10001) (hc : 0 ≤ c ∧ c < 10001) :
    levyS incl byo 0 [(⟨(⟨#[122]⟩ : ByteArray), [(⟨(⟨#[120]⟩ : ByteArray), a⟩ : CR)], b, c⟩ : Zn)] (⟨#[122]⟩ : ByteArray) false [(⟨#[120]⟩ : ByteArray), (⟨#[121]⟩ : ByteArray)] [net, net] ship = outOf incl false [net, net] (taxesOf incl byo 0 [a, b] [net, net]) ship (mch incl 0 ship c) := by
  have hm : mayOk 0 [(⟨(⟨#[122]⟩ : ByteArray), [(⟨(⟨#[120]⟩ : ByteArray), a⟩ : CR)], b, c⟩ : Zn)] [(⟨#[120]⟩ : ByteArray), (⟨#[121]⟩ : ByteArray)] [net, net] ship = true := by
    refine mayOk_iff.2 ⟨?_, rfl, by simp, ⟨hs.1, by omega⟩, ?_, ?_⟩
    · unfold taxOk
      have h1 : allTo (fun j => zoneOk ([(⟨(⟨#[122]⟩ : ByteArray), [(⟨(⟨#[120]⟩ : ByteArray), a⟩ : CR)], b, c⟩ : Zn)].getD j zZ)) 1 = true := by
        refine allTo_iff.2 fun j hj => ?_
        obtain rfl : j = 0 := by omega
        show zoneOk (⟨(⟨#[122]⟩ : ByteArray), [(⟨(⟨#[120]⟩ : ByteArray), a⟩ : CR)], b, c⟩ : Zn) = true
        unfold zoneOk
        have hr : ratesOk [(⟨(⟨#[120]⟩ : ByteArray), a⟩ : CR)] = true := by
          unfold ratesOk
          rw [Bool.and_eq_true]
          refine ⟨allTo_iff.2 fun j hj => ?_, r1x _⟩
          obtain rfl : j = 0 := by simp at hj; omega
          show (nameOk (⟨#[120]⟩ : ByteArray) && rateOk a) = true
          rw [rateOk_iff.2 ⟨ha.1, by omega⟩, nx]
          rfl
        show (nameOk (⟨#[122]⟩ : ByteArray) && (rateOk b && (rateOk c && (decide (1 ≤ 40) && ratesOk [(⟨(⟨#[120]⟩ : ByteArray), a⟩ : CR)])))) = true
        rw [rateOk_iff.2 ⟨hb.1, by omega⟩, rateOk_iff.2 ⟨hc.1, by omega⟩, hr, nz]
        rfl
      show ((decide ((0 : Int) ≤ 0) && decide ((0 : Int) ≤ 2)) && (decide (1 ≤ 20) && (allTo _ 1 && rise [(⟨#[122]⟩ : ByteArray)]))) = true
      rw [h1, r1x]
      rfl
    · intro x hx
      simp at hx
      omega
    · simp
      omega
  unfold levyS
  rw [if_neg (by rw [hm]; simp), zone_one (⟨(⟨#[122]⟩ : ByteArray), [(⟨(⟨#[120]⟩ : ByteArray), a⟩ : CR)], b, c⟩ : Zn)]
  have hr : ratesOf (⟨(⟨#[122]⟩ : ByteArray), [(⟨(⟨#[120]⟩ : ByteArray), a⟩ : CR)], b, c⟩ : Zn) [(⟨#[120]⟩ : ByteArray), (⟨#[121]⟩ : ByteArray)] = [a, b] := by
    show [rateAt [(⟨(⟨#[120]⟩ : ByteArray), a⟩ : CR)] b (⟨#[120]⟩ : ByteArray), rateAt [(⟨(⟨#[120]⟩ : ByteArray), a⟩ : CR)] b (⟨#[121]⟩ : ByteArray)] = _
    rw [rate_yes (⟨(⟨#[120]⟩ : ByteArray), a⟩ : CR) b, rate_no _ _ _ xy_ne]
  simp only [hr]
theorem rates_end (x0 x1 x2 x3 x4 : Int) (byo : Bool) (t : List Int) (st d r o t0 t1 : Int) (ht : t = [t0, t1]) (h0 : 0 ≤ x0 ∧ x0 < 1073741824) (h1 : 0 ≤ x1 ∧ x1 < 1048576) (h2 : 0 ≤ x2 ∧ x2 < 10001) (h3 : 0 ≤ x3 ∧ x3 < 10001) (h4 : 0 ≤ x4 ∧ x4 < 10001)
    (hd : 10000 ≤ d ∧ d ≤ 20001) (hr : 10000 ≤ r ∧ r ≤ 20001) (ho : 10000 ≤ o ∧ o ≤ 20001) (hst : st = x1 * x4 / o) (hy : byo = true → x2 = x3 → t0 + t1 = 2 * x0 * x2 / d) (hn : ¬ (byo = true ∧ x2 = x3) → t0 = x0 * x2 / d ∧ t1 = x0 * x3 / r) :
    Ev (fun k => haberdashlaw19_LevyRates.j0 k x0 x1 x2 x3 x4 byo t st 0 d r o) true := by
  subst ht
  have b2 : x0 * x2 ≤ 1073741824 * 10001 := Int.le_trans (Int.mul_le_mul_of_nonneg_right (show x0 ≤ 1073741824 by omega) h2.1) (Int.mul_le_mul_of_nonneg_left (by omega) (by omega))
  have b3 : x0 * x3 ≤ 1073741824 * 10001 := Int.le_trans (Int.mul_le_mul_of_nonneg_right (show x0 ≤ 1073741824 by omega) h3.1) (Int.mul_le_mul_of_nonneg_left (by omega) (by omega))
  have b4 : x1 * x4 ≤ 1048576 * 10001 := Int.le_trans (Int.mul_le_mul_of_nonneg_right (show x1 ≤ 1048576 by omega) h4.1) (Int.mul_le_mul_of_nonneg_left (by omega) (by omega))
  have c2 : 0 ≤ x0 * x2 := Int.mul_nonneg h0.1 h2.1
  have c3 : 0 ≤ x0 * x3 := Int.mul_nonneg h0.1 h3.1
  have c4 : 0 ≤ x1 * x4 := Int.mul_nonneg h1.1 h4.1
  have q2 : x0 * x2 / d ≤ x0 * x2 := Int.ediv_le_self _ c2
  have q3 : x0 * x3 / r ≤ x0 * x3 := Int.ediv_le_self _ c3
  have q4 : x1 * x4 / o ≤ x1 * x4 := Int.ediv_le_self _ c4
  have p2 : 0 ≤ x0 * x2 / d := Int.ediv_nonneg c2 (by omega)
  have p3 : 0 ≤ x0 * x3 / r := Int.ediv_nonneg c3 (by omega)
  have p4 : 0 ≤ x1 * x4 / o := Int.ediv_nonneg c4 (by omega)
  have e5 : 2 * x0 * x2 = 2 * (x0 * x2) := Int.mul_assoc _ _ _
  have q5 : 2 * x0 * x2 / d ≤ 2 * x0 * x2 := Int.ediv_le_self _ (by omega)
  have p5 : 0 ≤ 2 * x0 * x2 / d := Int.ediv_nonneg (by omega) (by omega)
  have w0 : wrap64 (2 * x0) = 2 * x0 := wrap_ok (by omega) (by omega)
  have w1 : wrap64 (2 * x0 * x2) = 2 * x0 * x2 := wrap_ok (by omega) (by omega)
  have w2 : wrap64 (x0 * x2) = x0 * x2 := wrap_ok (by omega) (by omega)
  have w3 : wrap64 (x0 * x3) = x0 * x3 := wrap_ok (by omega) (by omega)
  have w4 : wrap64 (x1 * x4) = x1 * x4 := wrap_ok (by omega) (by omega)
  have v1 : wrap64 (Int.tdiv (2 * x0 * x2) d) = 2 * x0 * x2 / d := by rw [Int.tdiv_eq_ediv_of_nonneg (by omega)]; exact wrap_ok (by omega) (by omega)
  have v2 : wrap64 (Int.tdiv (x0 * x2) d) = x0 * x2 / d := by rw [Int.tdiv_eq_ediv_of_nonneg c2]; exact wrap_ok (by omega) (by omega)
  have v3 : wrap64 (Int.tdiv (x0 * x3) r) = x0 * x3 / r := by rw [Int.tdiv_eq_ediv_of_nonneg c3]; exact wrap_ok (by omega) (by omega)
  have v4 : wrap64 (Int.tdiv (x1 * x4) o) = x1 * x4 / o := by rw [Int.tdiv_eq_ediv_of_nonneg c4]; exact wrap_ok (by omega) (by omega)
  have r0 : rd [t0, t1] 0 = t0 := rfl
  have r1 : rd [t0, t1] 1 = t1 := rfl
  have hd0 : ¬ d = 0 := by omega
  have hr0 : ¬ r = 0 := by omega
  have ho0 : ¬ o = 0 := by omega
  refine Ev.step (fun k => by rw [haberdashlaw19_LevyRates.j0]) ?_
  refine Ev.bind L19.awake_ev ?_
  simp only [if_true]
  have hl : ((([t0, t1] : List Int).length : Int) != 2) = false := by rfl
  rw [hl]
  refine Ev.step (fun k => by rw [haberdashlaw19_LevyRates.j1, if_neg (by simp)]) ?_
  have g0 : (0 : Int) < (([t0, t1] : List Int).length : Int) := by simp
  have g1 : (1 : Int) < (([t0, t1] : List Int).length : Int) := by simp
  simp only [if_pos g0, if_pos g1, if_neg hd0, if_neg hr0, if_neg ho0, w0, w1, w2, w3, w4, v1, v2, v3, v4, r0, r1]
  by_cases hc : byo = true ∧ x2 = x3
  · have ht := hy hc.1 hc.2
    rw [ht, wrap_ok (by omega) (by omega)]
    simp only [if_pos hc.1, if_pos hc.2, if_true, hst, beq_self_eq_true]
    exact Ev.now _
  · have ht := hn hc
    simp only [if_pos ht.1, if_pos ht.2, hst, beq_self_eq_true]
    by_cases h5 : byo = true
    · have h6 : ¬ x2 = x3 := fun h => hc ⟨h5, h⟩
      simp only [if_pos h5, if_neg h6]
      exact Ev.now _
    · simp only [if_neg h5]
      exact Ev.now _
theorem LevyRates : haberdashlaw19_LevyRates.Pure := by
  intro a0 a1 a2 a3 a4 incl byo _ _ _ _ _
  refine Ev.rounds ?_
  show Ev (fun k => haberdashlaw19_LevyRates.f k a0 a1 a2 a3 a4 incl byo) true
  unfold haberdashlaw19_LevyRates.f
  simp only [mod64_f _ _ (show (0 : Int) < 1073741824 by omega) (by omega), mod64_f _ _ (show (0 : Int) < 1048576 by omega) (by omega), mod64_f _ _ (show (0 : Int) < 10001 by omega) (by omega), Option.bind_some]
  have h0 := md_range a0 1073741824 (by omega)
  have h1 := md_range a1 1048576 (by omega)
  have h2 := md_range a2 10001 (by omega)
  have h3 := md_range a3 10001 (by omega)
  have h4 := md_range a4 10001 (by omega)
  generalize md a0 1073741824 = net at *
  generalize md a1 1048576 = ship at *
  generalize md a2 10001 = a at *
  generalize md a3 10001 = b at *
  generalize md a4 10001 = c at *
  refine Ev.bind (levy_f incl byo 0 _ _ false _ _ _) ?_
  rw [rates_levy incl byo net ship a b c h0 h1 h2 h3 h4]
  have m0 : mch incl 0 net a = net * a / den incl a := mch_down incl net a ⟨h0.1, by omega⟩ ⟨h2.1, by omega⟩
  have m1 : mch incl 0 net b = net * b / den incl b := mch_down incl net b ⟨h0.1, by omega⟩ ⟨h3.1, by omega⟩
  have ms : mch incl 0 ship c = ship * c / den incl c := mch_down incl ship c ⟨h1.1, by omega⟩ ⟨h4.1, by omega⟩
  have hden : ∀ q, 0 ≤ q ∧ q < 10001 → 10000 ≤ den incl q ∧ den incl q ≤ 20001 := by intro q hq; unfold den; split <;> omega
  have htx : ∃ t0 t1, taxesOf incl byo 0 [a, b] [net, net] = [t0, t1] ∧ (byo = true → a = b → t0 + t1 = 2 * net * a / den incl a) ∧ (¬ (byo = true ∧ a = b) → t0 = net * a / den incl a ∧ t1 = net * b / den incl b) := by
    cases byo with
    | false => exact ⟨_, _, rfl, fun h => (by cases h), fun _ => ⟨m0, m1⟩⟩
    | true =>
      by_cases hab : a = b
      · subst hab
        have hf := lp_facts incl 0 a [net, net] (by simp) (by simp; exact h0.1) (by simp; omega)
        have hw : whole (lp incl 0) [a, a] [net, net] = lp incl 0 a [net, net] := whole_const _ _ _ a rfl (by simp) (by rw [hf.1])
        have hsum : ([net, net] : List Int).sum = 2 * net := by simp; omega
        rw [hsum, mch_down incl (2 * net) a ⟨by omega, by omega⟩ ⟨h2.1, by omega⟩] at hf
        have ht : taxesOf incl true 0 [a, a] [net, net] = lp incl 0 a [net, net] := by unfold taxesOf; rw [if_pos rfl, hw]
        rw [ht]
        match hq : lp incl 0 a [net, net], hf with
        | [t0, t1], hf => exact ⟨t0, t1, rfl, fun _ _ => by have := hf.2; simpa using this, fun h => absurd ⟨rfl, rfl⟩ h⟩
        | [], hf => simp at hf
        | [_], hf => simp at hf
        | _ :: _ :: _ :: _, hf => simp at hf
      · have hw := whole_two (lp incl 0) a b net net hab _ _ (lp_one incl 0 a net ⟨h0.1, by omega⟩) (lp_one incl 0 b net ⟨h0.1, by omega⟩)
        refine ⟨_, _, by unfold taxesOf; rw [if_pos rfl]; exact hw, fun _ h => absurd h hab, fun _ => ⟨m0, m1⟩⟩
  obtain ⟨t0, t1, ht, hy, hn⟩ := htx
  have hda := hden a h2
  have hdb := hden b h3
  have hdc := hden c h4
  simp only [outOf, Bool.false_eq_true, if_false]
  cases incl with
  | true =>
    simp only [if_true, wrap_ok (x := 10000 + a) (by omega) (by omega), wrap_ok (x := 10000 + b) (by omega) (by omega), wrap_ok (x := 10000 + c) (by omega) (by omega)]
    exact rates_end net ship a b c byo _ _ _ _ _ t0 t1 ht h0 h1 h2 h3 h4 hda hdb hdc ms hy hn
  | false =>
    simp only [Bool.false_eq_true, if_false]
    exact rates_end net ship a b c byo _ _ _ _ _ t0 t1 ht h0 h1 h2 h3 h4 hda hdb hdc ms hy hn
end Go.Proofs.Ytndecmbcekdafaa.Pure
