/- The statement ShareSums over lists and numbers: parts come to the total; each is the whole part of what is its, or one more. -/
import Derived.Test.YtegjbbblpnenfaaRwLSums
import Derived.Test.YtegjbbblpnenfaaPShareScale
set_option linter.unusedVariables false
set_option linter.unusedSimpArgs false
namespace Go.Proofs.Ytegjbbblpnenfaa.Pure
open Go Go.RowKit Go.Proofs.YtegjbbblpnenfaaW.PrintWords Go.Proofs.Ytegjbbblpnenfaa.Rw Go.Proofs.Ytegjbbblpnenfaa.SP Go.Proofs.Ytegjbbblpnenfaa.SH Go.Proofs.Ytegjbbblpnenfaa.L3 Go.Proofs.Ytegjbbblpnenfaa.QM

/-- What is asked of small totals and weights. -/
theorem largest_small (x : Int) (ws : List Int) (hx : 0 ≤ x ∧ x ≤ 1073741824) (h1 : ∀ y ∈ ws, 0 ≤ y ∧ y < 1048576) (hl : ws.length ≤ 60) :
    largest x ws = if ws.sum = 0 then (if x = 0 then (List.replicate ws.length 0, 0) else ([], 7)) else (parts x ws, 0) := by
  have hn : ∀ y ∈ ws, 0 ≤ y := fun y hy => (h1 y hy).1
  have hs := sum_le_of ws 1048575 (by omega) (fun y hy => by have := h1 y hy; omega)
  have h3 : (ws.length : Int) * 1048575 ≤ 60 * 1048575 := Int.mul_le_mul_of_nonneg_right (by omega) (by omega)
  have ha := all_rt ws (fun y hy => by have := h1 y hy; omega)
  have hrx : rt x = true := rt_iff.2 (by omega)
  have hl2 : ¬ 100000 < ws.length := by omega
  have hs2 : ¬ 100000000000000 < ws.sum := by omega
  unfold largest sumE
  by_cases h0 : ws.sum = 0
  · by_cases hx0 : x = 0
    · first | (subst hx0; simp [hrx, ha, hl2, hs2, h0]) | simp [hrx, ha, hl2, hs2, h0, hx0]
    · first | (subst hx0; simp [hrx, ha, hl2, hs2, h0]) | simp [hrx, ha, hl2, hs2, h0, hx0]
  · simp [hrx, ha, hl2, hs2, h0]

theorem sums_runs (x : Int) (ws a : List Int) (S : Int) (hS : S = ws.sum) (hS0 : 0 < S) (hx : 0 ≤ x ∧ x ≤ 1073741824) (h1 : ∀ y ∈ ws, 0 ≤ y ∧ y < 1048576) (hl : ws.length ≤ 60) (ha : a = parts x ws) : ∀ (d i : Nat), i + d = ws.length →
    Ev (fun k => haberdashlaw03_ShareSums.l0 k x ws S a i) true := by
  have hal : a.length = ws.length := by rw [ha]; exact parts_length _ _
  intro d
  induction d with
  | zero =>
    intro i hi
    exact Ev.step (f := fun _ => some true) (fun k => by rw [haberdashlaw03_ShareSums.l0, if_neg (by omega)]) (Ev.now _)
  | succ d ih =>
    intro i hi
    have hlt : i < ws.length := by omega
    have hy := h1 ws[i] (List.getElem_mem hlt)
    have hm : 0 ≤ x * ws[i] ∧ x * ws[i] ≤ 1073741824 * 1048576 := ⟨Int.mul_nonneg hx.1 hy.1, Int.mul_le_mul hx.2 (by omega) (by omega) (by omega)⟩
    have hq0 := Int.ediv_nonneg hm.1 (show 0 ≤ S by omega)
    have hq1 : x * ws[i] / S ≤ x * ws[i] := Int.ediv_le_self _ hm.1
    have hai : a[i]'(by omega) = x * ws[i] / S + if (i : Int) ∈ (ord (rsOf x ws.sum ws)).take (x - (qsOf x ws.sum ws).sum).toNat then 1 else 0 := by
      subst ha; rw [hS]; exact parts_get x ws i hlt
    refine Ev.step (f := fun k => haberdashlaw03_ShareSums.l0 k x ws S a ((i + 1 : Nat) : Int)) (fun k => ?_) (ih (i + 1) (by omega))
    rw [haberdashlaw03_ShareSums.l0, if_pos (by omega), if_pos (by omega), if_pos (by omega), if_neg (by omega), rd_of ws i hlt, rd_of a i (by omega), next i (by omega),
      show wrap64 (x * ws[i]) = x * ws[i] from wrap_ok (by omega) (by omega), Int.tdiv_eq_ediv_of_nonneg hm.1, Int.tmod_eq_emod_of_nonneg hm.1, show wrap64 (x * ws[i] / S) = x * ws[i] / S from wrap_ok (by omega) (by omega),
      show wrap64 (x * ws[i] / S + 1) = x * ws[i] / S + 1 from wrap_ok (by omega) (by omega), hai]
    by_cases hin : (i : Int) ∈ (ord (rsOf x ws.sum ws)).take (x - (qsOf x ws.sum ws).sum).toNat
    · rw [if_pos hin, if_neg (by omega), if_pos rfl, if_neg]
      rw [hS]
      exact more_rest x ws (by omega) i hlt hin
    · rw [if_neg hin, if_pos (by omega)]

theorem ShareSums : haberdashlaw03_ShareSums.Pure := by
  intro a0 l1 _ hl _ _
  have hl' : l1.length ≤ 9223372036854775807 := hl
  refine Ev.rounds ?_
  unfold haberdashlaw03_ShareSums.f
  simp only [mod64_f a0 1073741824 (by omega) (by omega), Option.bind_some]
  refine Ev.bind ⟨61, fun k hk => weights_f l1 1048576 (by omega) (by omega) hl' k (by omega)⟩ ?_
  have hx := md_range a0 1073741824 (by omega)
  have hw := wts_range l1 1048576 (by omega)
  have hws := wts_sum l1 1048576 (by omega)
  have hwl := wts_length l1 1048576
  generalize md a0 1073741824 = x at *
  generalize wts l1 1048576 = ws at *
  refine Ev.bind (sum_ev ws (fun y hy => (hw y hy).1) (by omega) (by omega)) ?_
  simp only [share_Largest.f, Option.bind_some]
  refine Ev.bind awake_ev ?_
  simp only [if_true]
  have hlg := largest_small x ws (by omega) hw hwl
  by_cases hS : ws.sum = 0
  · refine Ev.step (f := fun k => (haberdashlaw03_awake.f k).bind fun t459 => (if t459 = true then (some (((largest x ws).2 == 7) == (decide (x > 0)))) else (some false))) (fun k => ?_) ?_
    · rw [haberdashlaw03_ShareSums.j0, if_pos (by simpa using hS)]
    · refine Ev.bind awake_ev ⟨0, fun k _ => ?_⟩
      rw [hlg, if_pos hS]
      by_cases hx0 : x = 0
      · simp [hx0]
      · have : 0 < x := by omega
        simp [hx0, this]
  · have hS0 : 0 < ws.sum := by omega
    rw [if_neg hS] at hlg
    rw [hlg]
    have hpl := parts_length x ws
    have hps := parts_sum x ws hS0
    have hpn : ∀ y ∈ parts x ws, 0 ≤ y := by
      intro y hy
      obtain ⟨i, hi, rfl⟩ := List.getElem_of_mem hy
      rw [parts_get x ws i (by omega)]
      have := Int.ediv_nonneg (Int.mul_nonneg hx.1 (hw ws[i] (List.getElem_mem (by omega))).1) (show 0 ≤ ws.sum by omega)
      split <;> omega
    refine Ev.step (f := fun k => (haberdashlaw03_sum.f k (parts x ws)).bind fun t460 => (haberdashlaw03_ShareSums.j1 k x ws ws.sum (parts x ws) (t460 != x))) (fun k => ?_) ?_
    · rw [haberdashlaw03_ShareSums.j0, if_neg (by simpa using hS), if_pos rfl, if_pos (by show ((parts x ws).length : Int) = _; omega)]
    · refine Ev.bind (sum_ev _ hpn (by omega) (by omega)) ?_
      rw [hps]
      refine Ev.step (f := fun k => haberdashlaw03_ShareSums.l0 k x ws ws.sum (parts x ws) 0) (fun k => ?_) ?_
      · rw [haberdashlaw03_ShareSums.j1, if_neg (by simp)]
      · have h := sums_runs x ws (parts x ws) ws.sum rfl hS0 (by omega) hw hwl rfl ws.length 0 (by omega)
        simpa using h
end Go.Proofs.Ytegjbbblpnenfaa.Pure
