/- Groups out of a line: who is ahead first, those of one rank together. Plain Lean: no program in sight. -/
import Derived.Test.YtmiamdnhofjifaaVGrpP
set_option linter.unusedVariables false
namespace Go.Proofs.Ytmiamdnhofjifaa.GP
open Go.Proofs.Ytmiamdnhofjifaa.QM

theorem while_filter (c : Int) : ∀ (s : List Ent), Lined s → (∀ e ∈ s, e.1 ≤ c) → s.takeWhile (fun e => e.1 == c) = s.filter (fun e => e.1 == c) ∧ s.dropWhile (fun e => e.1 == c) = s.filter (fun e => e.1 != c) := by
  intro s
  induction s with
  | nil => intro _ _; exact ⟨rfl, rfl⟩
  | cons y s ih =>
    intro hl hc
    have hl2 := List.pairwise_cons.1 hl
    by_cases hy : y.1 = c
    · have h := ih hl2.2 (fun e he => hc e (List.mem_cons_of_mem _ he))
      have e1 : (y.1 == c) = true := by simpa using hy
      have e2 : (y.1 != c) = false := by simpa using hy
      rw [List.takeWhile_cons, List.dropWhile_cons, List.filter_cons, List.filter_cons]
      simp only [e1, e2, if_true, Bool.false_eq_true, if_false]
      exact ⟨by rw [h.1], h.2⟩
    · have e1 : (y.1 == c) = false := by simpa using hy
      have hlt : ∀ e ∈ y :: s, e.1 ≠ c := by
        intro e he
        have h1 := hc y List.mem_cons_self
        rcases List.mem_cons.1 he with rfl | he
        · exact hy
        · have h2 := lt_false_iff _ _ |>.1 (hl2.1 e he)
          omega
      rw [List.takeWhile_cons, List.dropWhile_cons]
      simp only [e1, if_false, Bool.false_eq_true]
      refine ⟨(List.filter_eq_nil_iff.2 fun e he => by simpa using hlt e he).symm, (List.filter_eq_self.2 fun e he => by simpa using hlt e he).symm⟩

/-- What is left of a line, group by group: out is what is put in. -/
def go (L : Int → List Int → List Int) (ns : List Int) : Nat → List Ent → List Int → List Int
  | 0, _, o => o
  | _ + 1, [], o => o
  | k + 1, x :: s, o => go L ns k ((x :: s).dropWhile fun e => e.1 == x.1) (putL o (((x :: s).takeWhile fun e => e.1 == x.1).map (·.2)) (L (-x.1) (pick ns (((x :: s).takeWhile fun e => e.1 == x.1).map (·.2)))))
/-- Ranks are rates below 0. -/
def negs (rs : List Int) : List Int := rs.map fun r => -r
theorem pls_ents (r : Int) : ∀ (l : List Int) (b : Nat), (((l.map fun r => -r).zipIdx b).map fun p => ((p.1, (p.2 : Int)) : Ent)).filter (fun e => e.1 == -r) = (plsF r b l).map fun i => ((-r, i) : Ent) := by
  intro l
  induction l with
  | nil => intro b; rfl
  | cons x l ih =>
    intro b
    simp only [List.map_cons, List.zipIdx_cons, List.filter_cons]
    unfold plsF
    by_cases h : x = r
    · subst h
      simp only [beq_self_eq_true, if_true, List.map_cons]
      rw [ih]
    · have e : (-x == -r) = false := by simp; omega
      simp only [e, h, if_false, Bool.false_eq_true]
      exact ih _
theorem plsF_up (r : Int) : ∀ (l : List Int) (b : Nat), (plsF r b l).Pairwise (· < ·) := by
  intro l
  induction l with
  | nil => intro b; exact List.Pairwise.nil
  | cons x l ih =>
    intro b
    unfold plsF
    split
    · refine List.pairwise_cons.2 ⟨fun z hz => ?_, ih _⟩
      obtain ⟨i, _, _, h2⟩ := (plsF_mem r l (b + 1) _).1 hz
      omega
    · exact ih _
theorem line_group (rs : List Int) (r : Int) : (line (ents (negs rs))).filter (fun e => e.1 == -r) = (pls rs r).map fun i => ((-r, i) : Ent) := by
  refine lined_unique _ _ ((line_lined _).sublist List.filter_sublist) ?_ ?_
  · refine List.Pairwise.map _ ?_ (plsF_up r rs 0)
    intro a b hab
    rw [lt_false_iff]
    exact .inr ⟨rfl, by show a ≤ b; omega⟩
  · have := (line_perm (ents (negs rs))).filter (fun e => e.1 == -r)
    refine this.trans ?_
    rw [show pls rs r = plsF r 0 rs from rfl, ← pls_ents r rs 0]
    exact List.Perm.refl _
def Closed (E s : List Ent) : Prop := ∀ e ∈ s, s.filter (fun x => x.1 == e.1) = E.filter (fun x => x.1 == e.1)
end Go.Proofs.Ytmiamdnhofjifaa.GP
