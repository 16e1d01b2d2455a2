/- The place of who is ahead of all others, as the statement QueuePlays finds it. Plain Lean. -/
import Derived.Test.YtoagfhlhgpaekaaVRwFirst
import Derived.Test.YtoagfhlhgpaekaaVQModel
set_option linter.unusedVariables false
namespace Go.Proofs.Ytoagfhlhgpaekaa.PPl
open Go Go.RowKit Go.Proofs.YtoagfhlhgpaekaaW.PrintWords Go.Proofs.YtoagfhlhgpaekaaW.PrintMore Go.Proofs.Ytoagfhlhgpaekaa.Rw Go.Proofs.Ytoagfhlhgpaekaa.QM
abbrev OpS := S27
def ent (x : OpS) : Ent := (x.f2, x.f1)
abbrev at1 (xs : List OpS) (i : Nat) : OpS := rd_T27 xs (i : Int)
def Best (xs : List OpS) (n a : Nat) : Prop := a < n ∧ ∀ j, j < n → lt (ent (at1 xs j)) (ent (at1 xs a)) = false
theorem wrap_ok {x : Int} (h0 : -9223372036854775808 ≤ x) (h1 : x ≤ 9223372036854775807) : wrap64 x = x := by unfold wrap64; omega
theorem best_step {xs : List OpS} {i a : Nat} (h : Best xs i a) : (lt (ent (at1 xs i)) (ent (at1 xs a)) = true → Best xs (i + 1) i) ∧ (lt (ent (at1 xs i)) (ent (at1 xs a)) = false → Best xs (i + 1) a) := by
  refine ⟨fun hl => ⟨by omega, fun j hj => ?_⟩, fun hl => ⟨by have := h.1; omega, fun j hj => ?_⟩⟩
  · rcases Nat.lt_or_ge j i with hj' | hj'
    · exact nlt_trans (h.2 j hj') (lt_asymm hl)
    · obtain rfl : j = i := by omega
      exact lt_irrefl _
  · rcases Nat.lt_or_ge j i with hj' | hj'
    · exact h.2 j hj'
    · obtain rfl : j = i := by omega
      exact hl
theorem loop_ev (xs : List OpS) (hn : xs.length ≤ 1000000) : ∀ d i a, i + d = xs.length → (0 < i → Best xs i a) → ∃ r, Ev (fun k => haberdashlaw02_first.l0 k xs (if i = 0 then -1 else (a : Int)) (i : Int)) r ∧ ((xs = [] ∧ r = -1) ∨ ∃ b : Nat, r = (b : Int) ∧ Best xs xs.length b) := by
  intro d
  induction d with
  | zero =>
    intro i a hi hb
    refine ⟨if i = 0 then -1 else (a : Int), Ev.step (fun k => by rw [haberdashlaw02_first.l0, if_neg (by omega)]) (Ev.now _), ?_⟩
    by_cases h : i = 0
    · rw [if_pos h]; exact .inl ⟨List.eq_nil_of_length_eq_zero (by omega), rfl⟩
    · rw [if_neg h]; exact .inr ⟨a, rfl, by have := hb (by omega); rw [show xs.length = i by omega]; exact this⟩
  | succ d ih =>
    intro i a hi hb
    have hw : wrap64 ((i : Int) + 1) = ((i + 1 : Nat) : Int) := by rw [wrap_ok (by omega) (by omega)]; omega
    by_cases h : i = 0
    · subst h
      obtain ⟨r, hr, hp⟩ := ih 1 0 (by omega) (fun _ => ⟨by omega, fun j hj => by obtain rfl : j = 0 := by omega
                                                                                  exact lt_irrefl _⟩)
      rw [if_neg (by omega)] at hr
      exact ⟨r, Ev.step (fun k => by rw [haberdashlaw02_first.l0, if_pos (by omega), if_pos (by simp), hw]) hr, hp⟩
    · have hB := hb (by omega)
      have hs := best_step hB
      simp only [if_neg h]
      have hif : ∀ (X Y : Option Int), (if ((rd_T27 xs (i : Int)).f2) > ((rd_T27 xs (a : Int)).f2) then X else (if ((rd_T27 xs (i : Int)).f2) = ((rd_T27 xs (a : Int)).f2) then (if ((rd_T27 xs (i : Int)).f1) < ((rd_T27 xs (a : Int)).f1) then X else Y) else Y)) = if lt (ent (at1 xs i)) (ent (at1 xs a)) = true then X else Y := by
        intro X Y
        by_cases hl : lt (ent (at1 xs i)) (ent (at1 xs a)) = true
        · rw [if_pos hl]
          rw [lt_iff] at hl
          simp only [ent, at1] at hl
          repeat' split
          all_goals first | rfl | (exfalso; omega)
        · rw [if_neg hl]
          rw [lt_iff] at hl
          simp only [ent, at1] at hl
          repeat' split
          all_goals first | rfl | (exfalso; omega)
      have ha := hB.1
      cases hl : lt (ent (at1 xs i)) (ent (at1 xs a)) with
      | true =>
        obtain ⟨r, hr, hp⟩ := ih (i + 1) i (by omega) (fun _ => hs.1 hl)
        rw [if_neg (by omega)] at hr
        exact ⟨r, Ev.step (fun k => by rw [haberdashlaw02_first.l0, if_pos (by omega), if_neg (by omega), if_pos (by omega), if_pos (by omega), if_pos (by omega), hif, if_pos hl, hw]) hr, hp⟩
      | false =>
        obtain ⟨r, hr, hp⟩ := ih (i + 1) a (by omega) (fun _ => hs.2 hl)
        rw [if_neg (by omega)] at hr
        exact ⟨r, Ev.step (fun k => by rw [haberdashlaw02_first.l0, if_pos (by omega), if_neg (by omega), if_pos (by omega), if_pos (by omega), if_pos (by omega), hif, if_neg (by rw [hl]; simp), hw]) hr, hp⟩
theorem first_is (xs : List OpS) (hn : xs.length ≤ 1000000) : ∃ k r, haberdashlaw02_first.f k xs = some r ∧ ((xs = [] ∧ r = -1) ∨ ∃ b : Nat, r = (b : Int) ∧ Best xs xs.length b) := by
  obtain ⟨r, hr, hp⟩ := loop_ev xs hn xs.length 0 0 (by omega) (fun h => absurd h (by omega))
  obtain ⟨k, hk⟩ := Ev.rounds hr
  exact ⟨k, r, hk, hp⟩
theorem at1_eq (xs : List OpS) (i : Nat) (h : i < xs.length) : at1 xs i = xs[i] := by
  unfold at1 rd_T27
  simp [h]
/-- Who is ahead of all others is taken away. -/
theorem away (xs : List OpS) (b : Nat) (hb : b < xs.length) {m : List Ent} (hm : (xs.map ent).Perm (ent (at1 xs b) :: m)) : m.Perm ((xs.take b ++ xs.drop (b + 1)).map ent) := by
  have h1 : (xs.map ent).Perm (ent (at1 xs b) :: (xs.take b ++ xs.drop (b + 1)).map ent) := by
    have e : xs = xs.take b ++ (xs[b] :: xs.drop (b + 1)) := by rw [List.getElem_cons_drop, List.take_append_drop]
    conv => lhs; rw [e]
    rw [at1_eq xs b hb, List.map_append, List.map_cons, List.map_append]
    exact List.perm_middle
  exact (List.perm_cons _).1 (hm.symm.trans h1)
theorem best_mem {xs : List OpS} {b : Nat} (h : Best xs xs.length b) : ent (at1 xs b) ∈ xs.map ent ∧ ∀ y ∈ xs.map ent, lt y (ent (at1 xs b)) = false := by
  refine ⟨List.mem_map.2 ⟨_, by rw [at1_eq xs b h.1]; exact List.getElem_mem _, rfl⟩, fun y hy => ?_⟩
  obtain ⟨x, hx, rfl⟩ := List.mem_map.1 hy
  obtain ⟨j, hj, rfl⟩ := List.getElem_of_mem hx
  have := h.2 j hj
  rw [at1_eq xs j hj] at this
  exact this
end Go.Proofs.Ytoagfhlhgpaekaa.PPl
