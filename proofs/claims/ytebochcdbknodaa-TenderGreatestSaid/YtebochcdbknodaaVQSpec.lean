/-
  What a queue tells in the end: the pairs in line, who is ahead first; and the order of ranks. Plain Lean: no program in sight.
-/
import Derived.Test.YtebochcdbknodaaVQModel
namespace Go.Proofs.Ytebochcdbknodaa.QM

/-- Put in where it belongs. -/
def ins (x : Ent) : List Ent → List Ent
  | [] => [x]
  | y :: l => if lt y x = true then y :: ins x l else x :: y :: l

/-- In line, who is ahead first. -/
def line : List Ent → List Ent
  | [] => []
  | x :: l => ins x (line l)

def Lined (l : List Ent) : Prop := l.Pairwise fun a b => lt b a = false

theorem ins_perm (x : Ent) (l : List Ent) : (ins x l).Perm (x :: l) := by
  induction l with
  | nil => exact List.Perm.refl _
  | cons y l ih =>
    unfold ins
    split
    · exact (List.Perm.cons y ih).trans (List.Perm.swap _ _ _)
    · exact List.Perm.refl _

theorem line_perm (l : List Ent) : (line l).Perm l := by
  induction l with
  | nil => exact List.Perm.refl _
  | cons x l ih => exact (ins_perm x _).trans (ih.cons x)

theorem line_length (l : List Ent) : (line l).length = l.length := (line_perm l).length_eq

theorem ins_lined (x : Ent) (l : List Ent) (h : Lined l) : Lined (ins x l) := by
  induction l with
  | nil => exact List.pairwise_singleton _ _
  | cons y l ih =>
    unfold ins
    have hy := List.pairwise_cons.1 h
    split
    · rename_i hlt
      refine List.pairwise_cons.2 ⟨fun b hb => ?_, ih hy.2⟩
      rcases List.mem_cons.1 ((ins_perm x l).mem_iff.1 hb) with rfl | hb
      · exact lt_asymm hlt
      · exact hy.1 b hb
    · rename_i hlt
      have hlt' : lt y x = false := Bool.eq_false_iff.mpr hlt
      refine List.pairwise_cons.2 ⟨fun b hb => ?_, h⟩
      rcases List.mem_cons.1 hb with rfl | hb
      · exact hlt'
      · exact nlt_trans (hy.1 b hb) hlt'

theorem line_lined (l : List Ent) : Lined (line l) := by
  induction l with
  | nil => exact List.Pairwise.nil
  | cons x l ih => exact ins_lined x _ ih

/-- Two lines of the same pairs are one. -/
theorem lined_unique : ∀ (a b : List Ent), Lined a → Lined b → a.Perm b → a = b := by
  intro a
  induction a with
  | nil => intro b _ _ hp; exact hp.symm.eq_nil.symm
  | cons x a ih =>
    intro b ha hb hp
    cases b with
    | nil => exact absurd hp.eq_nil (by simp)
    | cons y b =>
      have ha' := List.pairwise_cons.1 ha
      have hb' := List.pairwise_cons.1 hb
      have hxy : x = y := by
        have h1 : lt y x = false := by
          have hy : y ∈ x :: a := hp.symm.mem_iff.1 List.mem_cons_self
          rcases List.mem_cons.1 hy with rfl | hy
          · exact lt_irrefl _
          · exact ha'.1 y hy
        have h2 : lt x y = false := by
          have hx : x ∈ y :: b := hp.mem_iff.1 List.mem_cons_self
          rcases List.mem_cons.1 hx with rfl | hx
          · exact lt_irrefl _
          · exact hb'.1 x hx
        exact eq_of_nlt h2 h1
      subst hxy
      rw [ih b ha'.2 hb'.2 ((List.perm_cons x).1 hp)]

/-- Who is ahead of all stands first. -/
theorem line_first {m m' : List Ent} {x : Ent} (hp : m.Perm (x :: m')) (hx : ∀ y, y ∈ m → lt y x = false) : line m = x :: line m' := by
  refine lined_unique _ _ (line_lined m) (List.pairwise_cons.2 ⟨fun b hb => ?_, line_lined m'⟩) ?_
  · exact hx b (hp.symm.mem_iff.1 (List.mem_cons_of_mem _ ((line_perm m').mem_iff.1 hb)))
  · exact (line_perm m).trans (hp.trans ((line_perm m').symm.cons x))

/-- Ranks with their places. -/
def ents (l : List Int) : List Ent := l.zipIdx.map fun p => (p.1, (p.2 : Int))

theorem ents_length (l : List Int) : (ents l).length = l.length := by simp [ents]
theorem ents_snoc (l : List Int) (x : Int) : ents (l ++ [x]) = ents l ++ [(x, (l.length : Int))] := by
  simp [ents, List.zipIdx_append]
theorem ents_take (l : List Int) (k : Nat) (h : k < l.length) : ents (l.take (k + 1)) = ents (l.take k) ++ [(l[k], (k : Int))] := by
  rw [List.take_succ_eq_append_getElem h, ents_snoc]
  simp [List.length_take, Nat.min_eq_left (Nat.le_of_lt h)]
theorem ents_get (l : List Int) (i : Nat) (h : i < l.length) : (ents l)[i]? = some (l[i], (i : Int)) := by
  simp [ents, h]
theorem mem_ents {l : List Int} {a : Ent} (h : a ∈ ents l) : ∃ i, ∃ h : i < l.length, a = (l[i], (i : Int)) := by
  obtain ⟨i, hi, rfl⟩ := List.getElem_of_mem h
  have hi' : i < l.length := by rw [ents_length] at hi; exact hi
  refine ⟨i, hi', ?_⟩
  have := ents_get l i hi'
  rw [List.getElem?_eq_getElem hi] at this
  exact Option.some.inj this

/-- The order of ranks: their places, who is ahead first. -/
def ord (l : List Int) : List Int := (line (ents l)).map (·.2)

theorem ord_length (l : List Int) : (ord l).length = l.length := by simp [ord, line_length, ents_length]

end Go.Proofs.Ytebochcdbknodaa.QM
