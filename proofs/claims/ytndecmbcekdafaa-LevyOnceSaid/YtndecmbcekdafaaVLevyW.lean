/- Taxes by order: of lines of one rate, of one line. Plain Lean. -/
import Derived.Test.YtndecmbcekdafaaVLevyP
import Derived.Test.YtndecmbcekdafaaVSpecS2
set_option linter.unusedVariables false
namespace Go.Proofs.Ytndecmbcekdafaa.LB
open Go Go.RowKit Go.Proofs.Ytndecmbcekdafaa.QM Go.Proofs.Ytndecmbcekdafaa.SP Go.Proofs.Ytndecmbcekdafaa.GP Go.Proofs.Ytndecmbcekdafaa.LV Go.Proofs.Ytndecmbcekdafaa.YP Go.Proofs.Ytndecmbcekdafaa.MN

theorem lp_facts (incl : Bool) (k r : Int) (ws : List Int) (hl : ws.length ≤ 100000) (h0 : ∀ x ∈ ws, 0 ≤ x) (hs : ws.sum ≤ 100000000000000) : (lp incl k r ws).length = ws.length ∧ (lp incl k r ws).sum = mch incl k ws.sum r := by
  have hrt : ∀ x ∈ ws, rt x = true := fun x hx => rt_iff.2 ⟨h0 x hx, by have := le_sum ws h0 x hx; omega⟩
  refine ⟨lp_length incl k r ws hl hrt hs, ?_⟩
  have hm := mch_range incl k ws.sum r
  have hE : (sumE (mch incl k ws.sum r) ws).2 = 0 := by
    unfold sumE
    rw [if_neg, if_neg (by omega), if_neg]
    · rintro ⟨h4, h5⟩
      rw [h4] at h5
      exact h5 (times_zero _ _ _)
    · rw [rt_iff.2 hm, List.all_eq_true.2 hrt]
      simp
      exact hl
  unfold lp largest
  rw [if_neg (by rw [hE]; simp)]
  split
  · rename_i h
    have : mch incl k ws.sum r = 0 := by rw [h]; exact times_zero _ _ _
    rw [this]
    show (List.replicate ws.length (0 : Int)).sum = 0
    generalize ws.length = n
    induction n with
    | zero => rfl
    | succ n ih => rw [List.replicate_succ, List.sum_cons, ih]; rfl
  · rename_i h
    have hn := sum_nonneg ws h0
    exact parts_sum _ ws (by omega)
theorem lp_one (incl : Bool) (k r x : Int) (hx : 0 ≤ x ∧ x ≤ 100000000000000) : lp incl k r [x] = [mch incl k x r] := by
  have h := lp_facts incl k r [x] (by simp) (by simp; exact hx.1) (by simp; exact hx.2)
  have e : ([x] : List Int).sum = x := by simp
  rw [e] at h
  match hq : lp incl k r [x], h with
  | [y], h => have := h.2; simp at this; rw [this]
  | [], h => simp at h
  | _ :: _ :: _, h => simp at h
theorem pls_const (r : Int) : ∀ (l : List Int) (b : Nat), (∀ x ∈ l, x = r) → plsF r b l = (List.range' b l.length).map fun i : Nat => (i : Int) := by
  intro l
  induction l with
  | nil => intro b _; rfl
  | cons x l ih =>
    intro b h
    unfold plsF
    rw [if_pos (h x List.mem_cons_self), ih (b + 1) (fun y hy => h y (List.mem_cons_of_mem _ hy)), List.length_cons, List.range'_succ, List.map_cons]
theorem whole_const (L : Int → List Int → List Int) (rs ns : List Int) (r : Int) (hl : rs.length = ns.length) (h : ∀ x ∈ rs, x = r) (hL : (L r ns).length = ns.length) : whole L rs ns = L r ns := by
  have hp : pls rs r = (List.range ns.length).map fun i : Nat => (i : Int) := by
    unfold pls
    rw [pls_const r rs 0 h, hl, List.range_eq_range']
  have hpk : pick ns (pls rs r) = ns := by
    rw [hp]
    unfold pick
    rw [List.map_map]
    apply List.ext_getElem (by simp)
    intro i h1 h2
    simp [h2]
  apply List.ext_getElem (by rw [hL, ← hl]; simp [whole])
  intro i h1 h2
  have hi : i < rs.length := by simpa [whole] using h1
  have hri : rs.getD i 0 = r := by
    have := h _ (List.getElem_mem hi)
    simp [hi, this]
  have hx : (pls rs r).idxOf (i : Int) = i := by
    have hm : (i : Int) ∈ pls rs r := pls_mem.2 ⟨i, hi, h _ (List.getElem_mem hi), rfl⟩
    have hlt := List.idxOf_lt_length_of_mem hm
    have he : (pls rs r)[(pls rs r).idxOf (i : Int)] = (i : Int) := List.getElem_idxOf hlt
    have hg : ∀ j (hj : j < (pls rs r).length), (pls rs r)[j] = (j : Int) := by
      intro j hj
      simp [hp]
    rw [hg] at he
    omega
  simp only [whole, List.getElem_map, List.getElem_range, val, hri, hpk, hx]
  simp [h2]
end Go.Proofs.Ytndecmbcekdafaa.LB
