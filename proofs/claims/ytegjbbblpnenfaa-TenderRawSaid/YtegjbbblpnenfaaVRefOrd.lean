/-
  The reference's order of ranks is the order of ranks: it puts each place in behind all whose ranks are as great. Plain: over the printed function of the reference.
-/
import Derived.Test.YtegjbbblpnenfaaVRwA
import Derived.Test.YtegjbbblpnenfaaVQSpec
set_option linter.unusedVariables false
set_option linter.unusedSimpArgs false
namespace Go.Proofs.Ytegjbbblpnenfaa.RO
open Go Go.RowKit Go.Proofs.YtegjbbblpnenfaaW.PrintWords Go.Proofs.Ytegjbbblpnenfaa.QM Go.Proofs.Ytegjbbblpnenfaa.Rw

theorem wrap_ok {x : Int} (h0 : -9223372036854775808 ≤ x) (h1 : x ≤ 9223372036854775807) : wrap64 x = x := by
  unfold wrap64; omega

/-- One is put in at a place. -/
def putAt (l : List Int) (a : Nat) (x : Int) : List Int := l.take a ++ x :: l.drop a

theorem rd_of (l : List Int) (i : Nat) (h : i < l.length) : rd l (i : Int) = l[i] := by simp [rd, h]

theorem shift_step (l : List Int) (x : Int) (a p : Nat) (ha : a < p) (hp : p < l.length) (h : ∀ j (hj : j < l.length), p < j → True) :
    ((l.set p (l[p - 1]'(by omega))).take a ++ x :: ((l.set p (l[p - 1]'(by omega))).drop a).take (p - 1 - a) ++ (l.set p (l[p - 1]'(by omega))).drop p)
      = l.take a ++ x :: (l.drop a).take (p - a) ++ l.drop (p + 1) := by
  have e1 : (l.set p (l[p - 1]'(by omega))).take a = l.take a := by
    rw [List.take_set]; exact List.set_eq_of_length_le (by simp; omega)
  have e2 : ((l.set p (l[p - 1]'(by omega))).drop a).take (p - 1 - a) = (l.drop a).take (p - 1 - a) := by
    rw [List.drop_set, if_neg (by omega), List.take_set]; exact List.set_eq_of_length_le (by simp; omega)
  have e3 : (l.set p (l[p - 1]'(by omega))).drop p = l[p - 1]'(by omega) :: l.drop (p + 1) := by
    rw [List.drop_eq_getElem_cons (by simp; exact hp)]
    simp only [List.getElem_set_self]
    rw [List.drop_set, if_pos (by omega)]
  have e4 : (l.drop a).take (p - a) = (l.drop a).take (p - 1 - a) ++ [l[p - 1]'(by omega)] := by
    have hh : p - a = (p - 1 - a) + 1 := by omega
    rw [hh, List.take_succ_eq_append_getElem (by simp; omega)]
    congr 1
    simp only [List.getElem_drop]
    congr 2
    omega
  rw [e1, e2, e3, e4]
  simp

/-- Where a pair whose number is above all others' belongs: behind all whose ranks are as great. -/
theorem ins_at : ∀ (L : List Ent) (x : Ent), (∀ y ∈ L, y.2 < x.2) → Lined L →
    ∃ a, a ≤ L.length ∧ ins x L = L.take a ++ x :: L.drop a ∧ (∀ j (h : j < L.length), j < a → x.1 ≤ (L[j]).1) ∧ (∀ (h : a < L.length), (L[a]).1 < x.1) := by
  intro L
  induction L with
  | nil => intro x _ _; exact ⟨0, Nat.le_refl _, rfl, fun j h => by simp at h, fun h => by simp at h⟩
  | cons y L ih =>
    intro x hx hl
    have hy := hx y List.mem_cons_self
    unfold ins
    split
    · rename_i hlt
      obtain ⟨a, ha, h1, h2, h3⟩ := ih x (fun z hz => hx z (List.mem_cons_of_mem _ hz)) (List.pairwise_cons.1 hl).2
      refine ⟨a + 1, by simpa using ha, by rw [h1]; rfl, fun j h hj => ?_, fun h => ?_⟩
      · cases j with
        | zero =>
          rw [lt_iff] at hlt
          show x.1 ≤ y.1
          omega
        | succ j => exact h2 j (by simpa using h) (by omega)
      · exact h3 (by simpa using h)
    · rename_i hlt
      refine ⟨0, Nat.zero_le _, rfl, fun j h hj => by omega, fun h => ?_⟩
      have hlt' : lt y x = false := Bool.eq_false_iff.mpr hlt
      rw [lt_false_iff] at hlt'
      show y.1 < x.1
      omega

end Go.Proofs.Ytegjbbblpnenfaa.RO
