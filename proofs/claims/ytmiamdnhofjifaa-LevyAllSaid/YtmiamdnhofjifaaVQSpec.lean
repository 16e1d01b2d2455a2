/- QSpec. -/
import Derived.Test.YtmiamdnhofjifaaVQModel
section
/-
  What a queue tells in the end: the pairs in line, who is ahead first; and the order of ranks. Plain Lean: no program in sight.
-/
namespace Go.Proofs.Ytmiamdnhofjifaa.QM

/-- Put in where it belongs. -/
def ins (x : Ent) : List Ent → List Ent
  | [] => [x]
  | y :: l => if lt y x = true then y :: ins x l else x :: y :: l

/-- In line, who is ahead first. -/
def line : List Ent → List Ent
  | [] => []
  | x :: l => ins x (line l)

def Lined (l : List Ent) : Prop := l.Pairwise fun a b => lt b a = false

theorem ins_perm (x : Ent) (l : List Ent) : (ins x l).Perm (x :: l) := by
  induction l with
  | nil => exact List.Perm.refl _
  | cons y l ih =>
    unfold ins
    split
    · exact (List.Perm.cons y ih).trans (List.Perm.swap _ _ _)
    · exact List.Perm.refl _

theorem line_perm (l : List Ent) : (line l).Perm l := by
  induction l with
  | nil => exact List.Perm.refl _
  | cons x l ih => exact (ins_perm x _).trans (ih.cons x)

theorem line_length (l : List Ent) : (line l).length = l.length := (line_perm l).length_eq

theorem ins_lined (x : Ent) (l : List Ent) (h : Lined l) : Lined (ins x l) := by
  induction l with
  | nil => exact List.pairwise_singleton _ _
  | cons y l ih =>
    unfold ins
    have hy := List.pairwise_cons.1 h
    split
    · rename_i hlt
      refine List.pairwise_cons.2 ⟨fun b hb => ?_, ih hy.2⟩
      rcases List.mem_cons.1 ((ins_perm x l).mem_iff.1 hb) with rfl | hb
      · exact lt_asymm hlt
      · exact hy.1 b hb
    · rename_i hlt
      have hlt' : lt y x = false := Bool.eq_false_iff.mpr hlt
      refine List.pairwise_cons.2 ⟨fun b hb => ?_, h⟩
      rcases List.mem_cons.1 hb with rfl | hb
      · exact hlt'
      · exact nlt_trans (hy.1 b hb) hlt'

theorem line_lined (l : List Ent) : Lined (line l) := by
  induction l with
  | nil => exact List.Pairwise.nil
  | cons x l ih => exact ins_lined x _ ih

/-- Two lines of the same pairs are one. -/
theorem lined_unique : ∀ (a b : List Ent), Lined a → Lined b → a.Perm b → a = b := by
  intro a
  induction a with
  | nil => intro b _ _ hp; exact hp.symm.eq_nil.symm
  | cons x a ih =>
    intro b ha hb hp
    cases b with
    | nil => exact absurd hp.eq_nil (by simp)
    | cons y b =>
      have ha' := List.pairwise_cons.1 ha
      have hb' := List.pairwise_cons.1 hb
      have hxy : x = y := by
        have h1 : lt y x = false := by
          have hy : y ∈ x :: a := hp.symm.mem_iff.1 List.mem_cons_self
          rcases List.mem_cons.1 hy with rfl | hy
          · exact lt_irrefl _
          · exact ha'.1 y hy
        have h2 : lt x y = false := by
          have hx : x ∈ y :: b := hp.mem_iff.1 List.mem_cons_self
          rcases List.mem_cons.1 hx with rfl | hx
          · exact lt_irrefl _
          · exact hb'.1 x hx
        exact eq_of_nlt h2 h1
      subst hxy
      rw [ih b ha'.2 hb'.2 ((List.perm_cons x).1 hp)]

theorem line_of_perm {a b : List Ent} (h : a.Perm b) : line a = line b :=
  lined_unique _ _ (line_lined a) (line_lined b) ((line_perm a).trans (h.trans (line_perm b).symm))

/-- Who is ahead of all stands first. -/
theorem line_first {m m' : List Ent} {x : Ent} (hp : m.Perm (x :: m')) (hx : ∀ y, y ∈ m → lt y x = false) : line m = x :: line m' := by
  refine lined_unique _ _ (line_lined m) (List.pairwise_cons.2 ⟨fun b hb => ?_, line_lined m'⟩) ?_
  · exact hx b (hp.symm.mem_iff.1 (List.mem_cons_of_mem _ ((line_perm m').mem_iff.1 hb)))
  · exact (line_perm m).trans (hp.trans ((line_perm m').symm.cons x))

theorem line_head {m : List Ent} {x : Ent} (hm : x ∈ m) (hx : ∀ y, y ∈ m → lt y x = false) : (line m).head? = some x := by
  obtain ⟨s, t, rfl⟩ := List.append_of_mem hm
  have hp : (s ++ x :: t).Perm (x :: (s ++ t)) := List.perm_middle
  rw [line_first hp hx]
  rfl

/-- Ranks with their places. -/
def ents (l : List Int) : List Ent := l.zipIdx.map fun p => (p.1, (p.2 : Int))

theorem ents_length (l : List Int) : (ents l).length = l.length := by simp [ents]
theorem ents_snoc (l : List Int) (x : Int) : ents (l ++ [x]) = ents l ++ [(x, (l.length : Int))] := by
  simp [ents, List.zipIdx_append]
theorem ents_take (l : List Int) (k : Nat) (h : k < l.length) : ents (l.take (k + 1)) = ents (l.take k) ++ [(l[k], (k : Int))] := by
  rw [List.take_succ_eq_append_getElem h, ents_snoc]
  simp [List.length_take, Nat.min_eq_left (Nat.le_of_lt h)]
theorem ents_get (l : List Int) (i : Nat) (h : i < l.length) : (ents l)[i]? = some (l[i], (i : Int)) := by
  simp [ents, h]
theorem mem_ents {l : List Int} {a : Ent} (h : a ∈ ents l) : ∃ i, ∃ h : i < l.length, a = (l[i], (i : Int)) := by
  obtain ⟨i, hi, rfl⟩ := List.getElem_of_mem h
  have hi' : i < l.length := by rw [ents_length] at hi; exact hi
  refine ⟨i, hi', ?_⟩
  have := ents_get l i hi'
  rw [List.getElem?_eq_getElem hi] at this
  exact Option.some.inj this

/-- The order of ranks: their places, who is ahead first. -/
def ord (l : List Int) : List Int := (line (ents l)).map (·.2)

theorem ord_length (l : List Int) : (ord l).length = l.length := by simp [ord, line_length, ents_length]

end Go.Proofs.Ytmiamdnhofjifaa.QM
end
section
/- What share tells, in plain Lean: an amount in parts by weights. No program in sight. -/
namespace Go.Proofs.Ytmiamdnhofjifaa.SP
open Go.Proofs.Ytmiamdnhofjifaa.QM

/-- An amount that is right. -/
def rt (n : Int) : Bool := decide (0 ≤ n) && decide (n ≤ 100000000000000)
theorem rt_iff {n : Int} : rt n = true ↔ 0 ≤ n ∧ n ≤ 100000000000000 := by unfold rt; simp

def bump1 (l : List Int) (i : Int) : List Int := l.set i.toNat (l.getD i.toNat 0 + 1)
def bump (l : List Int) (is : List Int) : List Int := is.foldl bump1 l
theorem bump_snoc (l is : List Int) (i : Int) : bump l (is ++ [i]) = bump1 (bump l is) i := by simp [bump, List.foldl_append]
theorem bump_length (l is : List Int) : (bump l is).length = l.length := by
  induction is generalizing l with
  | nil => rfl
  | cons i is ih => show (bump (bump1 l i) is).length = _; rw [ih]; simp [bump1]
theorem bump_bound (c : Int) (l is : List Int) (h : ∀ x ∈ l, 0 ≤ x ∧ x ≤ c) : ∀ x ∈ bump l is, 0 ≤ x ∧ x ≤ c + is.length := by
  induction is generalizing l c with
  | nil => intro x hx; have := h x hx; simpa using this
  | cons i is ih =>
    intro x hx
    have h2 : ∀ y ∈ bump1 l i, 0 ≤ y ∧ y ≤ c + 1 := by
      intro y hy
      unfold bump1 at hy
      rcases List.mem_or_eq_of_mem_set hy with hy | rfl
      · have := h y hy; omega
      · by_cases hl : i.toNat < l.length
        · have := h l[i.toNat] (List.getElem_mem hl)
          simp only [List.getD_eq_getElem?_getD, List.getElem?_eq_getElem hl, Option.getD_some]
          omega
        · rw [List.set_eq_of_length_le (by omega)] at hy
          have := h _ hy; omega
    have := ih (c + 1) (bump1 l i) h2 x hx
    simp only [List.length_cons]
    omega

def qsOf (total S : Int) (ws : List Int) : List Int := ws.map fun w => total * w / S
def rsOf (total S : Int) (ws : List Int) : List Int := ws.map fun w => total * w % S
theorem qs_length (total S : Int) (ws : List Int) : (qsOf total S ws).length = ws.length := by simp [qsOf]
theorem rs_length (total S : Int) (ws : List Int) : (rsOf total S ws).length = ws.length := by simp [rsOf]
theorem qs_rs (total S : Int) (ws : List Int) : (qsOf total S ws).sum * S + (rsOf total S ws).sum = total * ws.sum := by
  induction ws with
  | nil => simp [qsOf, rsOf]
  | cons w ws ih =>
    simp only [qsOf, rsOf, List.map_cons, List.sum_cons] at ih ⊢
    rw [Int.add_mul, Int.mul_add]
    have := Int.mul_ediv_add_emod (total * w) S
    rw [Int.mul_comm S] at this
    omega
theorem rs_bound (total S : Int) (ws : List Int) (hS : 0 < S) : 0 ≤ (rsOf total S ws).sum ∧ (rsOf total S ws).sum ≤ ws.length * (S - 1) := by
  induction ws with
  | nil => simp [rsOf]
  | cons w ws ih =>
    simp only [rsOf, List.map_cons, List.sum_cons, List.length_cons] at ih ⊢
    have h1 := Int.emod_nonneg (total * w) (show S ≠ 0 by omega)
    have h2 := Int.emod_lt_of_pos (total * w) hS
    have h3 : ((ws.length + 1 : Nat) : Int) * (S - 1) = (ws.length : Int) * (S - 1) + (S - 1) := by
      rw [Int.natCast_add, Int.add_mul]; simp
    rw [h3]
    omega
/-- What is left over is less than one for each. -/
theorem left_bound (total : Int) (ws : List Int) (hS : 0 < ws.sum) : 0 ≤ total - (qsOf total ws.sum ws).sum ∧ total - (qsOf total ws.sum ws).sum ≤ ws.length := by
  have h1 := qs_rs total ws.sum ws
  have ⟨h2, h3⟩ := rs_bound total ws.sum ws hS
  have h4 : (total - (qsOf total ws.sum ws).sum) * ws.sum = (rsOf total ws.sum ws).sum := by rw [Int.sub_mul]; omega
  have h5 : (ws.length : Int) * (ws.sum - 1) ≤ (ws.length : Int) * ws.sum := Int.mul_le_mul_of_nonneg_left (by omega) (by omega)
  constructor
  · rcases Int.lt_or_le (total - (qsOf total ws.sum ws).sum) 0 with h | h
    · have := Int.mul_neg_of_neg_of_pos h hS; omega
    · exact h
  · rcases Int.lt_or_le (ws.length : Int) (total - (qsOf total ws.sum ws).sum) with h | h
    · have := Int.mul_lt_mul_of_pos_right h hS; omega
    · exact h

theorem sum_nonneg (ws : List Int) (h : ∀ x ∈ ws, 0 ≤ x) : 0 ≤ ws.sum := by
  induction ws with
  | nil => simp
  | cons w ws ih => simp only [List.sum_cons]; have := h w List.mem_cons_self; have := ih (fun x hx => h x (List.mem_cons_of_mem _ hx)); omega
theorem le_sum (ws : List Int) (h : ∀ x ∈ ws, 0 ≤ x) : ∀ x ∈ ws, x ≤ ws.sum := by
  induction ws with
  | nil => simp
  | cons w ws ih =>
    intro x hx
    simp only [List.sum_cons]
    have hw := h w List.mem_cons_self
    have h2 := fun y hy => h y (List.mem_cons_of_mem _ hy)
    rcases List.mem_cons.1 hx with rfl | hx
    · have := sum_nonneg ws h2; omega
    · have := ih h2 x hx; omega
theorem sum_take_le (ws : List Int) (h : ∀ x ∈ ws, 0 ≤ x) (k : Nat) : 0 ≤ (ws.take k).sum ∧ (ws.take k).sum ≤ ws.sum := by
  constructor
  · exact sum_nonneg _ (fun x hx => h x (List.mem_of_mem_take hx))
  · have e := congrArg List.sum (List.take_append_drop k ws)
    rw [List.sum_append] at e
    have := sum_nonneg (ws.drop k) (fun x hx => h x (List.mem_of_mem_drop hx))
    omega
theorem qs_nonneg (total S : Int) (ws : List Int) (ht : 0 ≤ total) (hS : 0 < S) (h : ∀ x ∈ ws, 0 ≤ x) : ∀ x ∈ qsOf total S ws, 0 ≤ x := by
  intro x hx
  obtain ⟨w, hw, rfl⟩ := List.mem_map.1 hx
  exact Int.ediv_nonneg (Int.mul_nonneg ht (h w hw)) (by omega)

/-- What weights come to, if they may be. -/
def sumE (total : Int) (ws : List Int) : Int × Int :=
  if rt total = false ∨ 100000 < ws.length ∨ ws.all rt = false then (0, 2) else if 100000000000000 < ws.sum then (0, 5) else if ws.sum = 0 ∧ total ≠ 0 then (0, 7) else (ws.sum, 0)
def parts (total : Int) (ws : List Int) : List Int :=
  bump (qsOf total ws.sum ws) ((ord (rsOf total ws.sum ws)).take (total - (qsOf total ws.sum ws).sum).toNat)
def largest (total : Int) (ws : List Int) : List Int × Int :=
  if (sumE total ws).2 ≠ 0 then ([], (sumE total ws).2) else if ws.sum = 0 then (List.replicate ws.length 0, 0) else (parts total ws, 0)
theorem sumE_ok {total : Int} {ws : List Int} (h : (sumE total ws).2 = 0) : rt total = true ∧ ws.length ≤ 100000 ∧ (∀ x ∈ ws, rt x = true) ∧ ws.sum ≤ 100000000000000 ∧ (ws.sum = 0 → total = 0) ∧ sumE total ws = (ws.sum, 0) := by
  unfold sumE at h ⊢
  split at h
  · simp at h
  · rename_i h1
    split at h
    · simp at h
    · split at h
      · simp at h
      · rename_i h2 h3
        simp only [not_or, Bool.not_eq_false] at h1
        rw [if_neg (by simp [h1]), if_neg h2, if_neg h3]
        refine ⟨h1.1, by omega, List.all_eq_true.1 h1.2.2, by omega, fun h => ?_, rfl⟩
        rcases Classical.em (total = 0) with h4 | h4
        · exact h4
        · exact absurd ⟨h, h4⟩ h3
end Go.Proofs.Ytmiamdnhofjifaa.SP
end
