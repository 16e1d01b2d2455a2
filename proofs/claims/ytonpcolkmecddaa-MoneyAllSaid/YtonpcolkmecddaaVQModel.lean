/-
  Heaps of pairs (rank, number) as lists: who is ahead, sifting up and down, and what a heap's top is. Plain Lean: no program in sight.
-/
namespace Go.Proofs.Ytonpcolkmecddaa.QM

abbrev Ent := Int × Int

/-- Is a ahead of b? -/
def lt (a b : Ent) : Bool := decide (b.1 < a.1) || (a.1 == b.1 && decide (a.2 < b.2))

/-- Element i (some pair where there is none). -/
def at_ (l : List Ent) (i : Nat) : Ent := l.getD i (0, 0)

theorem at_set (l : List Ent) (i : Nat) (x : Ent) (h : i < l.length) (j : Nat) : at_ (l.set i x) j = if i = j then x else at_ l j := by
  simp only [at_, List.getD_eq_getElem?_getD, List.getElem?_set]
  by_cases e : i = j
  · subst e; simp [h]
  · simp [e]

/-- Two change places. -/
def swp (l : List Ent) (i j : Nat) : List Ent := (l.set i (at_ l j)).set j (at_ l i)

/-- The first n are in a heap's order: no child is ahead of its parent. -/
def Heap (l : List Ent) (n : Nat) : Prop := ∀ k, 0 < k → k < n → lt (at_ l k) (at_ l ((k - 1) / 2)) = false

/-- Sifting up. -/
def up : Nat → List Ent → Nat → List Ent
  | 0, l, _ => l
  | k + 1, l, j => if (j - 1) / 2 = j then l else if lt (at_ l j) (at_ l ((j - 1) / 2)) = true then up k (swp l ((j - 1) / 2) j) ((j - 1) / 2) else l

/-! ### Push and Pop -/
def push (l : List Ent) (x : Ent) : List Ent := up (l.length + 1) (l ++ [x]) l.length

theorem at_take (l : List Ent) (n k : Nat) (h : k < n) : at_ (l.take n) k = at_ l k := by
  simp only [at_, List.getD_eq_getElem?_getD, List.getElem?_take, if_pos h]

end Go.Proofs.Ytonpcolkmecddaa.QM
