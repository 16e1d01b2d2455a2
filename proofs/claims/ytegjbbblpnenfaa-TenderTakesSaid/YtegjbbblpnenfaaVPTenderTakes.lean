/- The statement TenderTakes over lists and numbers: what is taken is left until it is given back. -/
import Derived.Test.YtegjbbblpnenfaaVRwLTakes
import Derived.Test.YtegjbbblpnenfaaVL22P
set_option linter.unusedVariables false
set_option linter.unusedSimpArgs false
namespace Go.Proofs.Ytegjbbblpnenfaa.Pure
open Go Go.RowKit Go.Proofs.YtegjbbblpnenfaaW.PrintWords Go.Proofs.Ytegjbbblpnenfaa.Rw Go.Proofs.Ytegjbbblpnenfaa.SP Go.Proofs.Ytegjbbblpnenfaa.ST Go.Proofs.Ytegjbbblpnenfaa.QM Go.Proofs.Ytegjbbblpnenfaa.LT Go.Proofs.Ytegjbbblpnenfaa.MP
theorem takes_awake (x0 : List Ten) (x1 : List Int) (x2 : Int) : Ev (fun k => haberdashlaw22_TenderTakes.j0 k x0 x1 x2 true) true :=
  Ev.step (fun k => by rw [haberdashlaw22_TenderTakes.j0, if_pos rfl]) (Ev.bind awake_ev (Ev.now _))
def Low (l : List Ten) : Prop := l.length ≤ 6 ∧ ∀ x ∈ l, tok x = true ∧ x.f1 ≤ 1073741824
theorem low_left {l : List Ten} (h : Low l) : tall l = true ∧ tleft l = tsum l ∧ 0 ≤ tsum l ∧ tsum l ≤ 6442450944 := by
  have ht : tall l = true := tall_iff.2 ⟨h.1, fun x hx => (h.2 x hx).1⟩
  have h2 := tsum_le 1073741824 l h.2
  have h3 : (l.length : Int) * 1073741824 ≤ 6 * 1073741824 := Int.mul_le_mul_of_nonneg_right (by have := h.1; omega) (by omega)
  exact ⟨ht, by unfold tleft; rw [if_pos ht], h2.1, by omega⟩
theorem low_take {l : List Ten} (h : Low l) (hl : ¬ l.length = 6) (x a : Int) (hx : 1 ≤ x ∧ x ≤ 9) (ha : 1 ≤ a ∧ a ≤ 1073741824) : Low (l ++ [⟨x, a, 0⟩]) := by
  refine ⟨by simp; have := h.1; omega, ?_⟩
  intro y hy
  rcases List.mem_append.1 hy with hy | hy
  · exact h.2 y hy
  · rw [List.mem_singleton.1 hy]
    refine ⟨tok_iff.2 ?_, ha.2⟩
    show 1 ≤ x ∧ x ≤ 9 ∧ 0 ≤ a ∧ a ≤ 100000000000000 ∧ (0 : Int) ≤ 0 ∧ (0 : Int) ≤ a
    omega
theorem tsum_take (l : List Ten) (x a : Int) : tsum (l ++ [⟨x, a, 0⟩]) = tsum l + a := by
  unfold tsum
  rw [List.map_append, List.sum_append]
  simp [dif]
theorem takes_runs (x1 : List Int) (hl : x1.length ≤ 9223372036854775806) (a : Int) (ha : 1 ≤ a ∧ a ≤ 1073741824) : ∀ (d i : Nat) (l : List Ten), i + d = x1.length → Low l → Ev (fun k => haberdashlaw22_TenderTakes.l0 k l x1 a i) true := by
  intro d
  induction d with
  | zero =>
    intro i l hi h
    refine Ev.step (fun k => by rw [haberdashlaw22_TenderTakes.l0, if_neg (by omega)]) ?_
    exact Ev.bind awake_ev (Ev.now _)
  | succ d ih =>
    intro i l hi h
    have hlt : i < x1.length := by omega
    have hr := md_range (rd x1 (i : Int)) 9 (by omega)
    have hll := low_left h
    have h6 := h.1
    refine Ev.step (fun k => by rw [haberdashlaw22_TenderTakes.l0, if_pos (by omega), if_pos (by omega), mod_f _ 9 (by omega) (by omega)]) ?_
    simp only [Option.bind_some]
    rw [wrap_ok (by omega) (by omega)]
    generalize md (rd x1 (i : Int)) 9 = r at *
    refine Ev.bind (GT.take_t l (1 + r) a) ?_
    have hcond : ¬ (tall l = false ∨ 1 + r < 1 ∨ 9 < 1 + r ∨ a < 1 ∨ 100000000000000 < a) := fun hc => by
      rcases hc with hc | hc
      · rw [hll.1] at hc; cases hc
      · omega
    unfold take
    rw [if_neg hcond]
    by_cases he : l.length = 6
    · rw [if_pos (show 6 ≤ l.length by omega)]
      simp only [show (l.length : Int) = 6 by omega, if_true]
      refine Ev.bind awake_ev ?_
      simp only [if_true]
      exact Ev.now _
    · rw [if_neg (show ¬ 6 ≤ l.length by omega)]
      have c1 : ¬ (l.length : Int) = 6 := by omega
      have c3 : 0 ≤ (l.length : Int) := by omega
      have hlow := low_take h he (1 + r) a (by omega) ha
      have hl2 := low_left hlow
      have hlen : (l ++ [(⟨1 + r, a, 0⟩ : Ten)]).length = l.length + 1 := by simp
      have hrd : rd_T39 (l ++ [(⟨1 + r, a, 0⟩ : Ten)]) (l.length : Int) = ⟨1 + r, a, 0⟩ := by
        rw [TP.rdT_of _ l.length (by omega)]; simp
      have ht := tsum_take l (1 + r) a
      have w1 : wrap64 ((l.length : Int) + 1) = (l.length : Int) + 1 := wrap_ok (by omega) (by omega)
      have c2 : ((l ++ [(⟨1 + r, a, 0⟩ : Ten)]).length : Int) = (l.length : Int) + 1 := by omega
      have c4 : (l.length : Int) < ((l ++ [(⟨1 + r, a, 0⟩ : Ten)]).length : Int) := by omega
      generalize hgl : l ++ [(⟨1 + r, a, 0⟩ : Ten)] = l' at *
      have c5 : (l.length : Int) < (l.length : Int) + 1 := by omega
      simp only [c1, if_false, if_true, w1, c2, c3, c5, hrd, beq_self_eq_true, Bool.not_true, Bool.or_self, Bool.false_eq_true]
      refine Ev.bind ⟨11, fun k hk => TP.left_t l' k (by omega)⟩ ?_
      refine Ev.bind (RT.left_f l (by omega)) ?_
      rw [hll.2.1, hl2.2.1, wrap_ok (by omega) (by omega), ht]
      refine Ev.step (fun k => by rw [haberdashlaw22_TenderTakes.j2, if_neg (by simp)]) ?_
      refine Ev.bind (RT.left_f l' (by omega)) ?_
      rw [hl2.2.1, split_t _ _ _ _ (by simp) (by simp), split_ok l' [1 + r] [] (tsum l') hl2.1 (by omega) (by omega)]
      simp only [Option.bind_some]
      have L1 := gives_len l' [1 + r] [] (tsum l') hl2.1
      refine Ev.bind (GT.give_t l' _ (by omega)) ?_
      have g := gave l' [1 + r] [] (tsum l') hl2.1 hl2.2.2.1
      rw [g.1]
      simp only [if_true]
      refine Ev.bind ⟨11, fun k hk => TP.left_t _ k (by omega)⟩ ?_
      have e0 : tleft (app l' (ord (ranks [1 + r] l')) (tsum l')) = 0 := by
        unfold tleft
        rw [if_pos g.2.1, g.2.2]
        unfold mn
        split <;> omega
      rw [e0, next i (by omega)]
      simp only [if_true]
      exact ih (i + 1) l' (by omega) hlow
theorem TenderTakes (x0 : List Ten) (x1 : List Int) (x2 : Int) : ∃ k, haberdashlaw22_TenderTakes.f k x0 x1 x2 = some true := by
  refine Ev.rounds ?_
  unfold haberdashlaw22_TenderTakes.f
  by_cases h0 : (x0.length : Int) > 40
  · simp only [h0, if_true]; exact takes_awake _ _ _
  simp only [h0, if_false]
  by_cases h1 : (x1.length : Int) > 10
  · simp only [h1, decide_true]; exact takes_awake _ _ _
  simp only [h1, decide_false]
  refine Ev.step (fun k => by rw [haberdashlaw22_TenderTakes.j0, if_neg (by simp)]) ?_
  refine Ev.bind (near_f x0 (by omega)) ?_
  rw [mod64_f _ _ (by omega) (by omega)]
  simp only [Option.bind_some]
  have hr := md_range x2 1073741824 (by omega)
  rw [wrap_ok (by omega) (by omega)]
  exact takes_runs x1 (by omega) _ (by omega) x1.length 0 _ (by omega) ⟨nr_length x0, fun x hx => ⟨(nr_all x0 x hx).1, by have := (nr_all x0 x hx).2; omega⟩⟩
end Go.Proofs.Ytegjbbblpnenfaa.Pure
