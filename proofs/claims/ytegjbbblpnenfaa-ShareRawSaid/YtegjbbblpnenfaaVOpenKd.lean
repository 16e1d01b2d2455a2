/- What came in, opened by its type: each kind reads its data. -/
import Derived.Test.YtegjbbblpnenfaaVRwA
import Derived.Deep.Slices
import Derived.WideLaws
import Derived.ProofKit
set_option linter.unusedVariables false
set_option linter.unusedSimpArgs false
namespace Go.Proofs.Ytegjbbblpnenfaa.OK
open Go Go.RowKit Go.ChangeShapes Go.WideShapes Go.Deep Go.Proofs.YtegjbbblpnenfaaW.PrintWords

/-- Data of type t are of kind d, and good. -/
structure Op {α : Type} (P : Program) (d : Kd α) (t : TypeId) (good : α → Prop) : Prop where
  go : ∀ {H : Type} {enc : TypeId × Value → H} {w : World} {base : Nat} {spare : Nat → Bool} {held : Bool} {n : Nat} {cs : List Value} {x : DataW H × List MemPlace}, DataW.trod enc P w base spare held n t cs = some x → ∃ a, d.K w a cs ∧ good a

section
variable {P : Program}
theorem op_int {t : TypeId} {k : IntKind} (h : P.underlying t = some (.int k)) : Op P (Kd.int k) t (fun n => (Lit.int k n).wf = true) :=
  ⟨fun hh => by
    obtain ⟨n, rfl, _, hw⟩ := DataW.trod_int h hh
    exact ⟨n, rfl, hw⟩⟩
theorem list_of {α : Type} (Q : Nat → α → Prop) (n : Nat) (h : ∀ i, i < n → ∃ a, Q i a) : ∃ xs : List α, xs.length = n ∧ ∀ i p, xs[i]? = some p → Q i p := by
  induction n with
  | zero => exact ⟨[], rfl, fun i p h => by simp at h⟩
  | succ n ih =>
    obtain ⟨xs, hl, hx⟩ := ih (fun i hi => h i (by omega))
    obtain ⟨a, ha⟩ := h n (by omega)
    refine ⟨xs ++ [a], by simp [hl], fun i p hp => ?_⟩
    rcases Nat.lt_or_ge i n with hi | hi
    · rw [List.getElem?_append_left (by omega)] at hp
      exact hx i p hp
    · have : i < (xs ++ [a]).length := (List.getElem?_eq_some_iff.1 hp).1
      have : i = n := by simp at this; omega
      subst this
      rw [List.getElem?_append_right (by omega)] at hp
      simp [hl] at hp
      exact hp ▸ ha
theorem op_slice {α : Type} {d : Kd α} {good : α → Prop} {t e e' : TypeId} (h : P.underlying t = some (.slice e)) (hd : Op P d e good) (hsz : P.cellsOf e = d.sz) : Op P (Kd.slice e' d) t (fun xs => ∀ x ∈ xs, good x) :=
  ⟨fun {H enc w base spare held n cs x} hh => by
    rcases open_slice h hh with ⟨rfl, _⟩ | ⟨a, len, cap, m, n', D, Pl, rfl, _, hl, hm, hmm, _, hi⟩
    · exact ⟨[], ⟨none, 0, rfl, Nat.le_refl _, rfl, by simp, fun h => absurd h (by simp)⟩, fun x hx => by simp at hx⟩
    · have hlm : len ≤ m := by rw [hmm]; split <;> omega
      obtain ⟨xs, hxl, hx⟩ := list_of (fun i p => ∃ c, c.length = d.sz ∧ d.K w p c ∧ good p ∧ ∀ j u, c[j]? = some u → w.cell? (a.add (i * d.sz + j)) = some u) len (fun i hil => by
        obtain ⟨cs', hc, ht⟩ := hi i (by omega)
        obtain ⟨p, hp, hg⟩ := hd.go ht
        obtain ⟨_, hcl, hat⟩ := World.cells?_some hc
        refine ⟨p, cs', d.K_len hp, hp, hg, fun j u hu => ?_⟩
        have hj : j < P.cellsOf e := by rw [← hcl]; exact (List.getElem?_eq_some_iff.1 hu).1
        have := hat j hj
        rw [hu] at this
        rw [← hsz, ← Go.Deep.add_add]
        exact this)
      refine ⟨xs, ⟨some a, cap, by rw [hxl], by omega, rfl, by have := hm; unfold maxLen at this; omega, fun _ => ⟨a, rfl, fun j p hp => ?_⟩⟩, fun p hp => ?_⟩
      · obtain ⟨c, h1, h2, _, h3⟩ := hx j p hp
        exact ⟨c, h1, h2, h3⟩
      · obtain ⟨j, hj, rfl⟩ := List.getElem_of_mem hp
        obtain ⟨c, _, _, h3, _⟩ := hx j _ (List.getElem?_eq_getElem hj)
        exact h3⟩

end
end Go.Proofs.Ytegjbbblpnenfaa.OK
