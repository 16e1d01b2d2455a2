/- Tenders given back and taken, by the program and by the reference. Plain Lean. -/
import Derived.Test.YtegjbbblpnenfaaVSpecT2
import Derived.Test.YtegjbbblpnenfaaVTenP
import Derived.Test.YtegjbbblpnenfaaVRef21P
set_option linter.unusedVariables false
set_option linter.unusedSimpArgs false
namespace Go.Proofs.Ytegjbbblpnenfaa.GT
open Go Go.RowKit Go.Proofs.YtegjbbblpnenfaaW.PrintWords Go.Proofs.YtegjbbblpnenfaaW.PrintMore Go.Proofs.Ytegjbbblpnenfaa.Rw Go.Proofs.Ytegjbbblpnenfaa.SP Go.Proofs.Ytegjbbblpnenfaa.ST Go.Proofs.Ytegjbbblpnenfaa.SH
open Go.Proofs.Ytegjbbblpnenfaa.TP (nxt rdT_of rdB_of)

theorem give_runs (bs : List Bak) (hb : bs.length ≤ 9223372036854775806) : ∀ (d n k : Nat) (out : List Ten), n + d = bs.length → 2 * d < k → (∀ x ∈ out, tok x = true) →
    tender_Give.l0 k out bs bs.length n = some (giveL out (bs.drop n)) := by
  intro d
  induction d with
  | zero =>
    intro n k out hi hk h
    obtain ⟨k, rfl⟩ : ∃ m, k = m + 1 := ⟨k - 1, by omega⟩
    rw [tender_Give.l0, if_neg (by omega), List.drop_of_length_le (by omega)]
    rfl
  | succ d ih =>
    intro n k out hi hk h
    obtain ⟨k, rfl⟩ : ∃ m, k = m + 1 + 1 := ⟨k - 2, by omega⟩
    have hlt : n < bs.length := by omega
    have hih := ih (n + 1) k
    rw [tender_Give.l0, if_pos (by omega), if_pos (by omega), if_pos (by omega), rdB_of bs n hlt, List.drop_eq_getElem_cons hlt]
    generalize bs[n] = b
    simp only [giveL]
    by_cases h7 : b.f0 < 0 ∨ (out.length : Int) ≤ b.f0
    · rw [if_pos h7]
      by_cases h0 : b.f0 < 0
      · rw [if_pos h0, tender_Give.j1, if_pos rfl]
      · rw [if_neg h0, tender_Give.j1, if_pos (by simp; omega)]
    · rw [if_neg h7, if_neg (by omega), tender_Give.j1, if_neg (by simp; omega)]
      by_cases h1 : b.f1 < 1
      · rw [if_pos h1, if_pos h1]
      · rw [if_neg h1, if_neg h1, if_pos (by omega), if_pos (by omega)]
        obtain ⟨j, hj⟩ : ∃ j : Nat, b.f0 = (j : Int) := ⟨b.f0.toNat, by omega⟩
        rw [hj, Int.toNat_natCast]
        have hjl : j < out.length := by omega
        rw [rdT_of out j hjl, getD_of hjl]
        have hx := tok_iff.1 (h _ (List.getElem_mem hjl))
        have hd : dif out[j] = out[j].f1 - out[j].f2 := rfl
        rw [wrap_ok (by omega) (by omega), ← hd]
        by_cases h2 : dif out[j] < b.f1
        · rw [if_pos h2, if_pos h2]
        · rw [if_neg h2, if_neg h2, nxt n (by omega), wrap_ok (by omega) (by omega)]
          have := hih (out.set j (addG out[j] b.f1)) (by omega) (by omega) (fun x hx => by
            rcases List.mem_or_eq_of_mem_set hx with hx | rfl
            · exact h x hx
            · exact tok_add (h _ (List.getElem_mem hjl)) (by omega) (by omega))
          skip
          exact this
theorem clone_f (l : List Ten) (h : l.length < 5864062014805) : api_Tender_58.f l = some l := by
  unfold api_Tender_58.f
  simp [h]
theorem give_t (l : List Ten) (bs : List Bak) (hb : bs.length ≤ 9223372036854775806) : Ev (fun k => tender_Give.f k l bs) (give l bs) := by
  refine ⟨11 + 2 * bs.length + 1, fun k hk => ?_⟩
  show tender_Give.f k l bs = _
  unfold tender_Give.f give
  rw [TP.right_t l k (by omega)]
  simp only [Option.bind_some]
  by_cases h : tall l = true
  · have h2 := tall_iff.1 h
    rw [if_pos h, if_pos h, clone_f l (by omega)]
    simp only [Option.bind_some]
    exact give_runs bs hb bs.length 0 k l (by omega) (by omega) h2.2
  · rw [if_neg h, if_neg h]
theorem rgive_runs (bs : List Bak) (hb : bs.length ≤ 9223372036854775806) : ∀ (d n k : Nat) (out : List Ten), n + d = bs.length → 2 * d < k → (∀ x ∈ out, tok x = true) →
    haberdashref21_Give.l0 k bs out n = some (giveL out (bs.drop n)) := by
  intro d
  induction d with
  | zero =>
    intro n k out hi hk h
    obtain ⟨k, rfl⟩ : ∃ m, k = m + 1 := ⟨k - 1, by omega⟩
    rw [haberdashref21_Give.l0, if_neg (by omega), List.drop_of_length_le (by omega)]
    rfl
  | succ d ih =>
    intro n k out hi hk h
    obtain ⟨k, rfl⟩ : ∃ m, k = m + 1 + 1 := ⟨k - 2, by omega⟩
    have hlt : n < bs.length := by omega
    have hih := ih (n + 1) k
    rw [haberdashref21_Give.l0, if_pos (by omega), if_pos (by omega), rdB_of bs n hlt, List.drop_eq_getElem_cons hlt]
    generalize bs[n] = b
    simp only [giveL]
    by_cases h7 : b.f0 < 0 ∨ (out.length : Int) ≤ b.f0
    · rw [if_pos h7]
      by_cases h0 : b.f0 < 0
      · rw [if_pos h0, haberdashref21_Give.j1, if_pos rfl]
      · rw [if_neg h0, haberdashref21_Give.j1, if_pos (by simp; omega)]
    · rw [if_neg h7, if_neg (by omega), haberdashref21_Give.j1, if_neg (by simp; omega)]
      by_cases h1 : b.f1 < 1
      · rw [if_pos h1, if_pos h1]
      · rw [if_neg h1, if_neg h1, if_pos (by omega), if_pos (by omega)]
        obtain ⟨j, hj⟩ : ∃ j : Nat, b.f0 = (j : Int) := ⟨b.f0.toNat, by omega⟩
        rw [hj, Int.toNat_natCast]
        have hjl : j < out.length := by omega
        rw [rdT_of out j hjl, getD_of hjl]
        have hx := tok_iff.1 (h _ (List.getElem_mem hjl))
        have hd : dif out[j] = out[j].f1 - out[j].f2 := rfl
        rw [wrap_ok (by omega) (by omega), ← hd]
        by_cases h2 : dif out[j] < b.f1
        · rw [if_pos h2, if_pos h2]
        · rw [if_neg h2, if_neg h2, nxt n (by omega), wrap_ok (by omega) (by omega)]
          have := hih (out.set j (addG out[j] b.f1)) (by omega) (by omega) (fun x hx => by
            rcases List.mem_or_eq_of_mem_set hx with hx | rfl
            · exact h x hx
            · exact tok_add (h _ (List.getElem_mem hjl)) (by omega) (by omega))
          skip
          exact this
theorem give_r (l : List Ten) (bs : List Bak) (hl : l.length ≤ 9223372036854775807) (hb : bs.length ≤ 9223372036854775806) : Ev (fun k => haberdashref21_Give.f k l bs) (give l bs) := by
  unfold haberdashref21_Give.f give
  refine Ev.bind (RT.tens_f l hl) ?_
  by_cases h : tall l = true
  · have h2 := tall_iff.1 h
    simp only [h, if_true]
    refine ⟨2 * bs.length + 1, fun k hk => ?_⟩
    show (if ([] : List Ten).length + l.length < 5864062014805 then haberdashref21_Give.l0 k bs ([] ++ l) 0 else none) = _
    rw [if_pos (by simp; omega)]
    exact rgive_runs bs hb bs.length 0 k _ (by omega) (by omega) (by simpa using h2.2)
  · simp only [h, if_false]
    exact Ev.now _
theorem take_t (l : List Ten) (x a : Int) : Ev (fun k => tender_Take.f k l x a) (take l x a) := by
  refine ⟨12, fun k hk => ?_⟩
  obtain ⟨k, rfl⟩ : ∃ m, k = m + 1 := ⟨k - 1, by omega⟩
  show tender_Take.f (k + 1) l x a = _
  unfold tender_Take.f take
  rw [TP.right_t l (k + 1) (by omega)]
  simp only [Option.bind_some]
  by_cases h : tall l = true
  · have h2 := tall_iff.1 h
    rw [if_pos h]
    unfold rules_Kind.f
    by_cases h1 : 1 ≤ x ∧ x ≤ 9
    · rw [if_pos h1.1]
      simp only [Option.bind_some]
      rw [if_pos (by simpa using h1.2)]
      by_cases h3 : a < 1
      · rw [if_pos h3, tender_Take.j0, if_pos rfl, if_pos (.inr (by omega))]
      · rw [if_neg h3, SH.right_f]
        simp only [Option.bind_some]
        by_cases h4 : 100000000000000 < a
        · have : rt a = false := by unfold rt; simp; omega
          rw [this, tender_Take.j0, if_pos (by rfl), if_pos (.inr (by omega))]
        · have : rt a = true := rt_iff.2 (by omega)
          have hcond : ¬ (tall l = false ∨ x < 1 ∨ 9 < x ∨ a < 1 ∨ 100000000000000 < a) := fun hc => by
            rcases hc with hc | hc
            · rw [h] at hc; cases hc
            · omega
          rw [this, tender_Take.j0, if_neg hcond, if_neg (by simp)]
          by_cases h5 : 6 ≤ l.length
          · rw [if_pos (by omega), if_pos h5]
          · rw [if_neg (by omega), if_neg h5, clone_f l (by omega)]
            simp only [Option.bind_some]
            rw [if_pos (by omega)]
    · have e : ((if x ≥ 1 then some (decide (x ≤ 9)) else some false : Option Bool)) = some false := by
        by_cases h6 : x ≥ 1
        · rw [if_pos h6, decide_eq_false (by omega)]
        · rw [if_neg h6]
      rw [e]
      simp only [Option.bind_some]
      rw [if_neg (by simp), tender_Take.j0, if_pos rfl, if_pos (.inr (by omega))]
  · rw [if_neg h, tender_Take.j0, if_pos rfl, if_pos (.inl (by simpa using h))]
theorem take_bad (l : List Ten) (x a : Int) : Ev (fun k => haberdashref21_Take.j0 k l x a true) ([], 2) := Ev.step (fun k => by rw [haberdashref21_Take.j0, if_pos rfl]) (Ev.now _)
theorem take_r (l : List Ten) (x a : Int) (hl : l.length ≤ 9223372036854775807) : Ev (fun k => haberdashref21_Take.f k l x a) (take l x a) := by
  unfold haberdashref21_Take.f
  refine Ev.bind (RT.tens_f l hl) ?_
  have bad : (tall l = false ∨ x < 1 ∨ 9 < x ∨ a < 1 ∨ 100000000000000 < a) → take l x a = ([], 2) := fun h => by unfold take; exact if_pos h
  by_cases h : tall l = true
  · have h2 := tall_iff.1 h
    simp only [h, if_true]
    by_cases h3 : x < 1
    · simp only [h3, if_true]; rw [bad (.inr (by omega))]; exact take_bad _ _ _
    simp only [h3, if_false]
    by_cases h4 : x > 9
    · simp only [h4, if_true]; rw [bad (.inr (by omega))]; exact take_bad _ _ _
    simp only [h4, if_false]
    by_cases h5 : a < 1
    · simp only [h5, if_true]; rw [bad (.inr (by omega))]; exact take_bad _ _ _
    simp only [h5, if_false]
    by_cases h6 : a > 100000000000000
    · rw [decide_eq_true h6, bad (.inr (by omega))]; exact take_bad _ _ _
    rw [decide_eq_false h6]
    have hcond : ¬ (tall l = false ∨ x < 1 ∨ 9 < x ∨ a < 1 ∨ 100000000000000 < a) := fun hc => by
      rcases hc with hc | hc
      · rw [h] at hc; cases hc
      · omega
    unfold take
    rw [if_neg hcond]
    refine Ev.step (fun k => by rw [haberdashref21_Take.j0, if_neg (by simp)]) ?_
    by_cases h7 : 6 ≤ l.length
    · rw [if_pos h7, if_pos (show (l.length : Int) ≥ 6 by omega)]; exact Ev.now _
    · rw [if_neg h7, if_neg (show ¬ (l.length : Int) ≥ 6 by omega), if_pos (by simp; omega)]
      simp only [Option.bind_some, List.nil_append]
      rw [if_pos (by omega)]
      exact Ev.now _
  · simp only [h, if_false]
    rw [bad (.inl (by simpa using h))]
    exact take_bad _ _ _
end Go.Proofs.Ytegjbbblpnenfaa.GT
