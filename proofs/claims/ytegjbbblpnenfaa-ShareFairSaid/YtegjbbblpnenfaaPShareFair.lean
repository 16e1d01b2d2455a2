/- The statement ShareFair over lists and numbers: who has one more has no lesser remainder than who has not; of equal ones the first have it. -/
import Derived.Test.YtegjbbblpnenfaaRwLFair
import Derived.Test.YtegjbbblpnenfaaPShareSums
set_option linter.unusedVariables false
set_option linter.unusedSimpArgs false
namespace Go.Proofs.Ytegjbbblpnenfaa.Pure
open Go Go.RowKit Go.Proofs.YtegjbbblpnenfaaW.PrintWords Go.Proofs.Ytegjbbblpnenfaa.Rw Go.Proofs.Ytegjbbblpnenfaa.SP Go.Proofs.Ytegjbbblpnenfaa.SH Go.Proofs.Ytegjbbblpnenfaa.L3 Go.Proofs.Ytegjbbblpnenfaa.QM

theorem fair_runs (x : Int) (ws a : List Int) (S : Int) (hS : S = ws.sum) (hS0 : 0 < S) (hx : 0 ≤ x ∧ x ≤ 1073741824) (h1 : ∀ y ∈ ws, 0 ≤ y ∧ y < 1048576) (hl : ws.length ≤ 60) (ha : a = parts x ws) (i : Nat) (hi : i < ws.length)
    (hnext : Ev (fun k => haberdashlaw03_ShareFair.l0 k x ws S a ((i + 1 : Nat) : Int)) true) : ∀ (d j : Nat), j + d = ws.length → Ev (fun k => haberdashlaw03_ShareFair.l1 k x ws S a i j) true := by
  have hal : a.length = ws.length := by rw [ha]; exact parts_length _ _
  have hm : ∀ j (h : j < ws.length), 0 ≤ x * ws[j] ∧ x * ws[j] ≤ 1073741824 * 1048576 := fun j h => by
    have hy := h1 ws[j] (List.getElem_mem h)
    exact ⟨Int.mul_nonneg hx.1 hy.1, Int.mul_le_mul hx.2 (by omega) (by omega) (by omega)⟩
  have hv : ∀ j (h : j < ws.length), wrap64 (x * ws[j]) = x * ws[j] ∧ wrap64 (x * ws[j] / S) = x * ws[j] / S := fun j h => by
    have := hm j h
    have hq0 := Int.ediv_nonneg this.1 (show 0 ≤ S by omega)
    have hq1 : x * ws[j] / S ≤ x * ws[j] := Int.ediv_le_self _ this.1
    exact ⟨wrap_ok (by omega) (by omega), wrap_ok (by omega) (by omega)⟩
  have hget : ∀ j (h : j < ws.length), a[j]'(by omega) = x * ws[j] / S + if (j : Int) ∈ (ord (rsOf x ws.sum ws)).take (x - (qsOf x ws.sum ws).sum).toNat then 1 else 0 := fun j h => by
    subst ha; rw [hS]; exact parts_get x ws j h
  intro d
  induction d with
  | zero =>
    intro j hj
    refine Ev.step (fun k => ?_) hnext
    rw [haberdashlaw03_ShareFair.l1, if_neg (by omega), next i (by omega)]
  | succ d ih =>
    intro j hj
    have hlt : j < ws.length := by omega
    refine Ev.step (f := fun k => haberdashlaw03_ShareFair.l1 k x ws S a i ((j + 1 : Nat) : Int)) (fun k => ?_) (ih (j + 1) (by omega))
    rw [haberdashlaw03_ShareFair.l1, if_pos (by omega), if_pos (by omega), if_pos (by omega), if_neg (by omega), if_pos (by omega), if_pos (by omega), if_pos (by omega), rd_of ws i hi, rd_of ws j hlt, rd_of a i (by omega), rd_of a j (by omega), next j (by omega),
      (hv i hi).1, (hv j hlt).1, Int.tdiv_eq_ediv_of_nonneg (hm i hi).1, Int.tdiv_eq_ediv_of_nonneg (hm j hlt).1, Int.tmod_eq_emod_of_nonneg (hm i hi).1, Int.tmod_eq_emod_of_nonneg (hm j hlt).1, (hv i hi).2, (hv j hlt).2, hget i hi, hget j hlt]
    by_cases hii : (i : Int) ∈ (ord (rsOf x ws.sum ws)).take (x - (qsOf x ws.sum ws).sum).toNat
    · rw [if_pos hii, if_pos (by omega)]
      by_cases hjj : (j : Int) ∈ (ord (rsOf x ws.sum ws)).take (x - (qsOf x ws.sum ws).sum).toNat
      · rw [if_pos hjj, if_neg (by omega)]
      · rw [if_neg hjj, if_pos (by omega)]
        have hah := ord_ahead (rsOf x ws.sum ws) (x - (qsOf x ws.sum ws).sum).toNat i j (by rw [rs_length]; exact hi) (by rw [rs_length]; exact hlt) hii hjj
        have e1 : (rsOf x ws.sum ws)[i]'(by rw [rs_length]; exact hi) = x * ws[i] % S := by simp [rsOf, hS]
        have e2 : (rsOf x ws.sum ws)[j]'(by rw [rs_length]; exact hlt) = x * ws[j] % S := by simp [rsOf, hS]
        rw [e1, e2] at hah
        rw [if_neg (by omega)]
        by_cases he : x * ws[i] % S = x * ws[j] % S
        · rw [if_pos he, if_neg (by omega)]
        · rw [if_neg he]
    · rw [if_neg hii, if_neg (by omega)]

theorem fair0_runs (x : Int) (ws a : List Int) (S : Int) (hS : S = ws.sum) (hS0 : 0 < S) (hx : 0 ≤ x ∧ x ≤ 1073741824) (h1 : ∀ y ∈ ws, 0 ≤ y ∧ y < 1048576) (hl : ws.length ≤ 60) (ha : a = parts x ws) : ∀ (d i : Nat), i + d = ws.length →
    Ev (fun k => haberdashlaw03_ShareFair.l0 k x ws S a i) true := by
  have hal : a.length = ws.length := by rw [ha]; exact parts_length _ _
  intro d
  induction d with
  | zero =>
    intro i hi
    exact Ev.step (f := fun _ => some true) (fun k => by rw [haberdashlaw03_ShareFair.l0, if_neg (by omega)]) (Ev.now _)
  | succ d ih =>
    intro i hi
    refine Ev.step (f := fun k => haberdashlaw03_ShareFair.l1 k x ws S a i ((0 : Nat) : Int)) (fun k => ?_) (fair_runs x ws a S hS hS0 hx h1 hl ha i (by omega) (ih (i + 1) (by omega)) ws.length 0 (by omega))
    rw [haberdashlaw03_ShareFair.l0, if_pos (by omega)]
    rfl

theorem ShareFair : haberdashlaw03_ShareFair.Pure := by
  intro a0 l1 _ hl _ _
  have hl' : l1.length ≤ 9223372036854775807 := hl
  refine Ev.rounds ?_
  unfold haberdashlaw03_ShareFair.f
  simp only [mod64_f a0 1073741824 (by omega) (by omega), Option.bind_some]
  refine Ev.bind ⟨61, fun k hk => weights_f l1 30 (by omega) (by omega) hl' k (by omega)⟩ ?_
  have hx := md_range a0 1073741824 (by omega)
  have hw0 := wts_range l1 30 (by omega)
  have hw : ∀ y ∈ wts l1 30, 0 ≤ y ∧ y < 1048576 := fun y hy => by have := hw0 y hy; omega
  have hws := wts_sum l1 30 (by omega)
  have hwl := wts_length l1 30
  clear hw0
  generalize md a0 1073741824 = x at *
  generalize wts l1 30 = ws at *
  refine Ev.bind (sum_ev ws (fun y hy => (hw y hy).1) (by omega) (by omega)) ?_
  simp only [share_Largest.f, Option.bind_some]
  refine Ev.bind awake_ev ?_
  simp only [if_true]
  have hlg := largest_small x ws (by omega) hw hwl
  by_cases hS : ws.sum = 0
  · refine Ev.step (f := fun k => (haberdashlaw03_awake.f k).bind fun t475 => (some t475)) (fun k => ?_) ?_
    · rw [haberdashlaw03_ShareFair.j0, if_pos (by simpa using hS)]
    · exact Ev.bind awake_ev ⟨0, fun k _ => rfl⟩
  · have hS0 : 0 < ws.sum := by omega
    rw [if_neg hS] at hlg
    rw [hlg]
    have hpl := parts_length x ws
    refine Ev.step (f := fun k => haberdashlaw03_ShareFair.j1 k x ws ws.sum (parts x ws) false) (fun k => ?_) ?_
    · rw [haberdashlaw03_ShareFair.j0, if_neg (by simpa using hS), if_pos rfl]
      congr 1
      show (((parts x ws).length : Int) != (ws.length : Int)) = false
      rw [hpl]; simp
    · refine Ev.step (f := fun k => haberdashlaw03_ShareFair.l0 k x ws ws.sum (parts x ws) 0) (fun k => ?_) ?_
      · rw [haberdashlaw03_ShareFair.j1, if_neg (by simp)]
      · have h := fair0_runs x ws (parts x ws) ws.sum rfl hS0 (by omega) hw hwl rfl ws.length 0 (by omega)
        simpa using h
end Go.Proofs.Ytegjbbblpnenfaa.Pure
