/- Tenders given back and taken, by the program and by the reference. Plain Lean. -/
import Derived.Test.YtebochcdbknodaaVSpecT2
import Derived.Test.YtebochcdbknodaaVTenP
import Derived.Test.YtebochcdbknodaaVRef21P
set_option linter.unusedVariables false
set_option linter.unusedSimpArgs false
namespace Go.Proofs.Ytebochcdbknodaa.GT
open Go Go.RowKit Go.Proofs.YtebochcdbknodaaW.PrintWords Go.Proofs.YtebochcdbknodaaW.PrintMore Go.Proofs.Ytebochcdbknodaa.Rw Go.Proofs.Ytebochcdbknodaa.SP Go.Proofs.Ytebochcdbknodaa.ST Go.Proofs.Ytebochcdbknodaa.SH
open Go.Proofs.Ytebochcdbknodaa.TP (nxt rdT_of rdB_of)

theorem give_runs (bs : List Bak) (hb : bs.length ≤ 9223372036854775806) : ∀ (d n k : Nat) (out : List Ten), n + d = bs.length → 2 * d < k → (∀ x ∈ out, tok x = true) →
    tender_Give.l0 k out bs bs.length n = some (giveL out (bs.drop n)) := by
  intro d
  induction d with
  | zero =>
    intro n k out hi hk h
    obtain ⟨k, rfl⟩ : ∃ m, k = m + 1 := ⟨k - 1, by omega⟩
    rw [tender_Give.l0, if_neg (by omega), List.drop_of_length_le (by omega)]
    rfl
  | succ d ih =>
    intro n k out hi hk h
    obtain ⟨k, rfl⟩ : ∃ m, k = m + 1 + 1 := ⟨k - 2, by omega⟩
    have hlt : n < bs.length := by omega
    have hih := ih (n + 1) k
    rw [tender_Give.l0, if_pos (by omega), if_pos (by omega), if_pos (by omega), rdB_of bs n hlt, List.drop_eq_getElem_cons hlt]
    generalize bs[n] = b
    simp only [giveL]
    by_cases h7 : b.f0 < 0 ∨ (out.length : Int) ≤ b.f0
    · rw [if_pos h7]
      by_cases h0 : b.f0 < 0
      · rw [if_pos h0, tender_Give.j1, if_pos rfl]
      · rw [if_neg h0, tender_Give.j1, if_pos (by simp; omega)]
    · rw [if_neg h7, if_neg (by omega), tender_Give.j1, if_neg (by simp; omega)]
      by_cases h1 : b.f1 < 1
      · rw [if_pos h1, if_pos h1]
      · rw [if_neg h1, if_neg h1, if_pos (by omega), if_pos (by omega)]
        obtain ⟨j, hj⟩ : ∃ j : Nat, b.f0 = (j : Int) := ⟨b.f0.toNat, by omega⟩
        rw [hj, Int.toNat_natCast]
        have hjl : j < out.length := by omega
        rw [rdT_of out j hjl, getD_of hjl]
        have hx := tok_iff.1 (h _ (List.getElem_mem hjl))
        have hd : dif out[j] = out[j].f1 - out[j].f2 := rfl
        rw [wrap_ok (by omega) (by omega), ← hd]
        by_cases h2 : dif out[j] < b.f1
        · rw [if_pos h2, if_pos h2]
        · rw [if_neg h2, if_neg h2, nxt n (by omega), wrap_ok (by omega) (by omega)]
          have := hih (out.set j (addG out[j] b.f1)) (by omega) (by omega) (fun x hx => by
            rcases List.mem_or_eq_of_mem_set hx with hx | rfl
            · exact h x hx
            · exact tok_add (h _ (List.getElem_mem hjl)) (by omega) (by omega))
          skip
          exact this
theorem clone_f (l : List Ten) (h : l.length < 5864062014805) : api_Tender_37.f l = some l := by
  unfold api_Tender_37.f
  simp [h]
theorem give_t (l : List Ten) (bs : List Bak) (hb : bs.length ≤ 9223372036854775806) : Ev (fun k => tender_Give.f k l bs) (give l bs) := by
  refine ⟨11 + 2 * bs.length + 1, fun k hk => ?_⟩
  show tender_Give.f k l bs = _
  unfold tender_Give.f give
  rw [TP.right_t l k (by omega)]
  simp only [Option.bind_some]
  by_cases h : tall l = true
  · have h2 := tall_iff.1 h
    rw [if_pos h, if_pos h, clone_f l (by omega)]
    simp only [Option.bind_some]
    exact give_runs bs hb bs.length 0 k l (by omega) (by omega) h2.2
  · rw [if_neg h, if_neg h]
-- 21
end Go.Proofs.Ytebochcdbknodaa.GT
