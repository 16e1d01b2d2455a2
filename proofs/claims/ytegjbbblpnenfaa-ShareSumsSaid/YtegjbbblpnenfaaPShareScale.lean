/- The statement ShareScale over lists and numbers: weights that are all so many times as great make the same parts. -/
import Derived.Test.YtegjbbblpnenfaaRwLScale
import Derived.Test.YtegjbbblpnenfaaL03P
import Derived.Test.YtegjbbblpnenfaaSpecS2
set_option linter.unusedVariables false
set_option linter.unusedSimpArgs false
namespace Go.Proofs.Ytegjbbblpnenfaa.Pure
open Go Go.RowKit Go.Proofs.YtegjbbblpnenfaaW.PrintWords Go.Proofs.Ytegjbbblpnenfaa.Rw Go.Proofs.Ytegjbbblpnenfaa.SP Go.Proofs.Ytegjbbblpnenfaa.SH Go.Proofs.Ytegjbbblpnenfaa.L3

theorem wts_sum (l : List Int) (m : Int) (hm : 0 < m) : 0 ≤ (wts l m).sum ∧ (wts l m).sum ≤ 60 * (m - 1) := by
  have h1 := wts_range l m hm
  have h2 := sum_le_of (wts l m) (m - 1) (by omega) (fun x hx => by have := h1 x hx; omega)
  have h3 : ((wts l m).length : Int) * (m - 1) ≤ 60 * (m - 1) := Int.mul_le_mul_of_nonneg_right (by have := wts_length l m; omega) (by omega)
  exact ⟨sum_nonneg _ (fun x hx => (h1 x hx).1), by omega⟩

theorem all_rt (ws : List Int) (h : ∀ x ∈ ws, 0 ≤ x ∧ x ≤ 100000000000000) : ws.all rt = true := List.all_eq_true.2 (fun x hx => rt_iff.2 (h x hx))

theorem largest_scale (x c : Int) (hc : 0 < c) (ws : List Int) (h1 : ∀ y ∈ ws, 0 ≤ y) (hl : ws.length ≤ 100000) (hs : ws.sum * c ≤ 100000000000000) : largest x (ws.map (· * c)) = largest x ws := by
  have hsum := sum_scale c ws
  have hle : ws.sum ≤ ws.sum * c := by
    have := Int.mul_le_mul_of_nonneg_left (show 1 ≤ c by omega) (sum_nonneg ws h1)
    omega
  have ha1 : ws.all rt = true := all_rt ws (fun y hy => ⟨h1 y hy, by have := le_sum ws h1 y hy; omega⟩)
  have ha2 : (ws.map (· * c)).all rt = true := by
    have hn : ∀ y ∈ ws.map (· * c), 0 ≤ y := by
      intro y hy
      obtain ⟨z, hz, rfl⟩ := List.mem_map.1 hy
      exact Int.mul_nonneg (h1 z hz) (by omega)
    exact all_rt _ (fun y hy => ⟨hn y hy, by have := le_sum _ hn y hy; omega⟩)
  have hz : ws.sum * c = 0 ↔ ws.sum = 0 := by
    constructor
    · intro h; rcases Int.mul_eq_zero.1 h with h | h <;> omega
    · intro h; rw [h, Int.zero_mul]
  have hE : (sumE x (ws.map (· * c))).2 = (sumE x ws).2 ∧ ((sumE x ws).2 = 0 → True) := by
    refine ⟨?_, fun _ => trivial⟩
    unfold sumE
    rw [hsum, ha1, ha2, List.length_map]
    by_cases hx : rt x = false ∨ 100000 < ws.length ∨ true = false
    · rw [if_pos hx, if_pos hx]
    · rw [if_neg hx, if_neg hx, if_neg (show ¬ 100000000000000 < ws.sum * c by omega), if_neg (show ¬ 100000000000000 < ws.sum by omega)]
      by_cases h0 : ws.sum = 0 ∧ x ≠ 0
      · rw [if_pos h0, if_pos ⟨hz.2 h0.1, h0.2⟩]
      · rw [if_neg h0, if_neg (fun h => h0 ⟨hz.1 h.1, h.2⟩)]
  unfold largest
  rw [hE.1]
  by_cases h : (sumE x ws).2 ≠ 0
  · rw [if_pos h, if_pos h]
  · rw [if_neg h, if_neg h, hsum]
    by_cases h0 : ws.sum = 0
    · rw [if_pos h0, if_pos (hz.2 h0), List.length_map]
    · rw [if_neg h0, if_neg (fun h => h0 (hz.1 h)), parts_scale x c hc]

theorem scale_runs (x c : Int) (ws : List Int) (hc : 0 < c ∧ c ≤ 1000) (h1 : ∀ y ∈ ws, 0 ≤ y ∧ y ≤ 1048576) (hl : ws.length ≤ 60) (hs : ws.sum * c ≤ 100000000000000) : ∀ (d i : Nat), i + d = ws.length →
    Ev (fun k => haberdashlaw03_ShareScale.l0 k x c ws ((ws.take i).map (· * c)) i) true := by
  intro d
  induction d with
  | zero =>
    intro i hi
    have e : largest x ((ws.take i).map (· * c)) = largest x ws := by rw [List.take_of_length_le (by omega)]; exact largest_scale x c hc.1 ws (fun y hy => (h1 y hy).1) (by omega) hs
    refine Ev.step (fun k => by rw [haberdashlaw03_ShareScale.l0, if_neg (by omega)]) ?_
    simp only [share_Largest.f, Option.bind_some, e]
    refine Ev.bind awake_ev ?_
    simp only [if_true]
    refine Ev.bind (plain_ev _ _ (largest_length _ _ (by omega))) ⟨0, fun k _ => ?_⟩
    simp
  | succ d ih =>
    intro i hi
    have hlt : i < ws.length := by omega
    have hy := h1 ws[i] (List.getElem_mem hlt)
    have hm : 0 ≤ ws[i] * c ∧ ws[i] * c ≤ 1048576 * 1000 := ⟨Int.mul_nonneg hy.1 (by omega), Int.mul_le_mul hy.2 hc.2 (by omega) (by omega)⟩
    refine Ev.step (f := fun k => haberdashlaw03_ShareScale.l0 k x c ws ((ws.take (i + 1)).map (· * c)) ((i + 1 : Nat) : Int)) (fun k => ?_) (ih (i + 1) (by omega))
    rw [haberdashlaw03_ShareScale.l0, if_pos (by omega), if_pos (by omega), if_pos (by simp; omega), rd_of ws i hlt, next i (by omega), wrap_ok (by omega) (by omega)]
    congr 1
    rw [List.take_succ_eq_append_getElem hlt, List.map_append]
    rfl

theorem ShareScale : haberdashlaw03_ShareScale.Pure := by
  intro a0 l1 a2 _ hl _ _ _
  have hl' : l1.length ≤ 9223372036854775807 := hl
  refine Ev.rounds ?_
  unfold haberdashlaw03_ShareScale.f
  simp only [mod64_f a0 100000000000001 (by omega) (by omega), mod64_f a2 1000 (by omega) (by omega), Option.bind_some]
  refine Ev.bind ⟨61, fun k hk => weights_f l1 1048576 (by omega) (by omega) hl' k (by omega)⟩ ?_
  have hc := md_range a2 1000 (by omega)
  rw [show wrap64 (1 + md a2 1000) = 1 + md a2 1000 from wrap_ok (by omega) (by omega)]
  have hw := wts_sum l1 1048576 (by omega)
  have hs : (wts l1 1048576).sum * (1 + md a2 1000) ≤ 60 * (1048576 - 1) * 1000 := Int.mul_le_mul hw.2 (by omega) (by omega) (by omega)
  have h := scale_runs (md a0 100000000000001) (1 + md a2 1000) (wts l1 1048576) (by omega) (fun y hy => by have := wts_range l1 1048576 (by omega) y hy; omega) (wts_length _ _) (by omega) (wts l1 1048576).length 0 (by omega)
  simpa using h
end Go.Proofs.Ytegjbbblpnenfaa.Pure
