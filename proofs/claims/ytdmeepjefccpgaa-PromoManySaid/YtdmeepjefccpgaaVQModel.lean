/-
  Heaps of pairs (rank, number) as lists: who is ahead, sifting up and down, and what a heap's top is. Plain Lean: no program in sight.
-/
namespace Go.Proofs.Ytdmeepjefccpgaa.QM

abbrev Ent := Int × Int

/-- Is a ahead of b? -/
def lt (a b : Ent) : Bool := decide (b.1 < a.1) || (a.1 == b.1 && decide (a.2 < b.2))

theorem lt_iff (a b : Ent) : lt a b = true ↔ b.1 < a.1 ∨ (a.1 = b.1 ∧ a.2 < b.2) := by
  simp [lt]

theorem lt_false_iff (a b : Ent) : lt a b = false ↔ a.1 < b.1 ∨ (a.1 = b.1 ∧ b.2 ≤ a.2) := by
  rw [← Bool.not_eq_true, lt_iff]; omega

theorem lt_irrefl (a : Ent) : lt a a = false := by rw [lt_false_iff]; omega
theorem lt_trans {a b c : Ent} (h : lt a b = true) (k : lt b c = true) : lt a c = true := by
  rw [lt_iff] at *; omega
theorem nlt_trans {a b c : Ent} (h : lt a b = false) (k : lt b c = false) : lt a c = false := by
  rw [lt_false_iff] at *; omega
theorem lt_asymm {a b : Ent} (h : lt a b = true) : lt b a = false := by
  rw [lt_iff] at h; rw [lt_false_iff]; omega
/-- Element i (some pair where there is none). -/
def at_ (l : List Ent) (i : Nat) : Ent := l.getD i (0, 0)

theorem at_eq (l : List Ent) (i : Nat) (h : i < l.length) : at_ l i = l[i] := by
  simp [at_, h]

theorem at_set (l : List Ent) (i : Nat) (x : Ent) (h : i < l.length) (j : Nat) : at_ (l.set i x) j = if i = j then x else at_ l j := by
  simp only [at_, List.getD_eq_getElem?_getD, List.getElem?_set]
  by_cases e : i = j
  · subst e; simp [h]
  · simp [e]

/-- Two change places. -/
def swp (l : List Ent) (i j : Nat) : List Ent := (l.set i (at_ l j)).set j (at_ l i)

theorem swp_length (l : List Ent) (i j : Nat) : (swp l i j).length = l.length := by simp [swp]

theorem at_swp (l : List Ent) (i j : Nat) (hi : i < l.length) (hj : j < l.length) (k : Nat) :
    at_ (swp l i j) k = if k = j then at_ l i else if k = i then at_ l j else at_ l k := by
  unfold swp
  rw [at_set _ _ _ (by simp; exact hj), at_set _ _ _ hi]
  by_cases e : j = k
  · simp [e]
  · by_cases e2 : i = k
    · subst e2; rw [if_neg e, if_pos rfl, if_neg (Ne.symm e)]
    · rw [if_neg e, if_neg e2, if_neg (Ne.symm e), if_neg (Ne.symm e2)]

theorem set_self (l : List Ent) (i : Nat) : l.set i (at_ l i) = l := by
  apply List.ext_getElem?
  intro j
  rw [List.getElem?_set]
  by_cases e : i = j
  · subst e
    by_cases h : i < l.length
    · simp [at_, h]
    · simp [h]
  · simp [e]

theorem swp_self (l : List Ent) (i : Nat) : swp l i i = l := by
  unfold swp; rw [set_self, set_self]

theorem perm_set {l : List Ent} {i : Nat} (h : i < l.length) (x : Ent) : (l[i] :: l.set i x).Perm (x :: l) := by
  induction l generalizing i with
  | nil => simp at h
  | cons a l ih =>
    cases i with
    | zero => simp; exact List.Perm.swap _ _ _
    | succ i =>
      simp only [List.getElem_cons_succ, List.set_cons_succ]
      have := ih (i := i) (by simpa using h)
      exact (List.Perm.swap _ _ _).trans ((List.Perm.cons a this).trans (List.Perm.swap _ _ _))

theorem swp_perm (l : List Ent) (i j : Nat) (hi : i < l.length) (hj : j < l.length) : (swp l i j).Perm l := by
  by_cases e : i = j
  · subst e; rw [swp_self]
  · unfold swp
    have h1 := perm_set (l := l) hi (at_ l j)
    have hj' : j < (l.set i (at_ l j)).length := by simpa using hj
    have h2 := perm_set (l := l.set i (at_ l j)) hj' (at_ l i)
    have e3 : (l.set i (at_ l j))[j] = at_ l j := by
      exact (List.getElem_set_ne e _).trans (at_eq l j hj).symm
    rw [e3] at h2
    rw [at_eq l i hi] at h2
    -- at j :: swp ~ l[i] :: set i ~ at j :: l
    have h3 := h2.trans h1
    rw [← at_eq l i hi] at h3
    exact (List.perm_cons _).1 h3

/-- The first n are in a heap's order: no child is ahead of its parent. -/
def Heap (l : List Ent) (n : Nat) : Prop := ∀ k, 0 < k → k < n → lt (at_ l k) (at_ l ((k - 1) / 2)) = false

theorem Heap.top {l : List Ent} {n : Nat} (h : Heap l n) : ∀ k, k < n → lt (at_ l k) (at_ l 0) = false := by
  intro k
  induction k using Nat.strongRecOn with
  | _ k ih =>
    intro hk
    by_cases e : k = 0
    · subst e; exact lt_irrefl _
    · exact nlt_trans (h k (by omega) hk) (ih ((k - 1) / 2) (by omega) (by omega))

/-- Sifting up. -/
def up : Nat → List Ent → Nat → List Ent
  | 0, l, _ => l
  | k + 1, l, j => if (j - 1) / 2 = j then l else if lt (at_ l j) (at_ l ((j - 1) / 2)) = true then up k (swp l ((j - 1) / 2) j) ((j - 1) / 2) else l

theorem up_length (k : Nat) : ∀ l j, (up k l j).length = l.length := by
  induction k with
  | zero => intro l j; rfl
  | succ k ih =>
    intro l j
    unfold up
    split
    · rfl
    · split
      · rw [ih, swp_length]
      · rfl

theorem up_perm (k : Nat) : ∀ l j, j < l.length → (up k l j).Perm l := by
  induction k with
  | zero => intro l j _; exact List.Perm.refl _
  | succ k ih =>
    intro l j hj
    unfold up
    split
    · exact List.Perm.refl _
    · split
      · exact (ih _ _ (by rw [swp_length]; omega)).trans (swp_perm l _ _ (by omega) hj)
      · exact List.Perm.refl _

/-- In order but for j, which may be ahead of its parent; its children are not ahead of j's parent. -/
def HeapBut (l : List Ent) (n j : Nat) : Prop :=
  (∀ k, 0 < k → k < n → k ≠ j → lt (at_ l k) (at_ l ((k - 1) / 2)) = false) ∧
  (∀ k, 0 < k → k < n → (k - 1) / 2 = j → 0 < j → lt (at_ l k) (at_ l ((j - 1) / 2)) = false)

theorem up_heap (n : Nat) (k : Nat) : ∀ l j, j < k → j < n → n = l.length → HeapBut l n j → Heap (up k l j) n := by
  induction k with
  | zero => intro l j hk; omega
  | succ k ih =>
    intro l j hk hj hn h
    unfold up
    split
    · rename_i e
      have e0 : j = 0 := by omega
      subst e0
      intro q hq hqn
      exact h.1 q hq hqn (by omega)
    · rename_i e
      have hp : (j - 1) / 2 < j := by omega
      have hpl : (j - 1) / 2 < l.length := by omega
      have hjl : j < l.length := by omega
      have hjne : j ≠ 0 := by rintro rfl; simp at e
      split
      · rename_i hlt
        refine ih _ _ (by omega) (by omega) (by rw [swp_length]; exact hn) ⟨?_, ?_⟩
        · intro q hq hqn hne
          rw [at_swp l _ _ hpl hjl, at_swp l _ _ hpl hjl]
          by_cases e1 : q = j
          · subst e1
            rw [if_pos rfl, if_neg (by omega), if_pos rfl]
            exact lt_asymm hlt
          · rw [if_neg e1, if_neg hne]
            by_cases e2 : (q - 1) / 2 = j
            · rw [if_pos e2]; exact h.2 q hq hqn e2 (by omega)
            · rw [if_neg e2]
              by_cases e3 : (q - 1) / 2 = (j - 1) / 2
              · rw [if_pos e3]
                have h4 := h.1 q hq hqn e1
                rw [e3] at h4
                exact nlt_trans h4 (lt_asymm hlt)
              · rw [if_neg e3]; exact h.1 q hq hqn e1
        · intro q hq hqn hqp hp0
          rw [at_swp l _ _ hpl hjl, at_swp l _ _ hpl hjl]
          rw [if_neg (show ((j - 1) / 2 - 1) / 2 ≠ j by omega), if_neg (show ((j - 1) / 2 - 1) / 2 ≠ (j - 1) / 2 by omega)]
          have hpp := h.1 ((j - 1) / 2) hp0 (by omega) (by omega)
          by_cases e1 : q = j
          · rw [if_pos e1]; exact hpp
          · rw [if_neg e1, if_neg (by omega)]
            have h4 := h.1 q hq hqn e1
            rw [hqp] at h4
            exact nlt_trans h4 hpp
      · rename_i hlt
        have hlt' : lt (at_ l j) (at_ l ((j - 1) / 2)) = false := by simpa using hlt
        intro q hq hqn
        by_cases e1 : q = j
        · subst e1; exact hlt'
        · exact h.1 q hq hqn e1

/-- The child that is ahead (the left one, if there is no right one below n). -/
def kid (l : List Ent) (i n : Nat) : Nat := if 2 * i + 2 < n ∧ lt (at_ l (2 * i + 2)) (at_ l (2 * i + 1)) = true then 2 * i + 2 else 2 * i + 1

/-- Sifting down, among the first n. -/
def down : Nat → List Ent → Nat → Nat → List Ent
  | 0, l, _, _ => l
  | k + 1, l, i, n => if n ≤ 2 * i + 1 then l else if lt (at_ l (kid l i n)) (at_ l i) = true then down k (swp l i (kid l i n)) (kid l i n) n else l

theorem kid_lt (l : List Ent) (i n : Nat) (h : ¬ n ≤ 2 * i + 1) : kid l i n < n ∧ i < kid l i n ∧ (kid l i n - 1) / 2 = i := by
  unfold kid; split <;> omega

theorem down_length (k : Nat) : ∀ l i n, (down k l i n).length = l.length := by
  induction k with
  | zero => intro l i n; rfl
  | succ k ih =>
    intro l i n
    unfold down
    split
    · rfl
    · split
      · rw [ih, swp_length]
      · rfl

theorem down_perm (k : Nat) : ∀ l i n, n ≤ l.length → (down k l i n).Perm l := by
  induction k with
  | zero => intro l i n _; exact List.Perm.refl _
  | succ k ih =>
    intro l i n hn
    unfold down
    split
    · exact List.Perm.refl _
    · rename_i e
      have hk := kid_lt l i n e
      split
      · exact (ih _ _ _ (by rw [swp_length]; exact hn)).trans (swp_perm l _ _ (by omega) (by omega))
      · exact List.Perm.refl _

theorem down_far (k : Nat) : ∀ l i n q, n ≤ l.length → n ≤ q → at_ (down k l i n) q = at_ l q := by
  induction k with
  | zero => intro l i n q _ _; rfl
  | succ k ih =>
    intro l i n q hn hq
    unfold down
    split
    · rfl
    · rename_i e
      have hk := kid_lt l i n e
      split
      · rw [ih _ _ _ _ (by rw [swp_length]; exact hn) hq, at_swp l _ _ (by omega) (by omega), if_neg (by omega), if_neg (by omega)]
      · rfl

/-- In order but for i, ahead of which its children may be; they are not ahead of i's parent. -/
def HeapDown (l : List Ent) (n i : Nat) : Prop :=
  (∀ k, 0 < k → k < n → (k - 1) / 2 ≠ i → lt (at_ l k) (at_ l ((k - 1) / 2)) = false) ∧
  (∀ k, 0 < k → k < n → (k - 1) / 2 = i → 0 < i → lt (at_ l k) (at_ l ((i - 1) / 2)) = false)

theorem kid_best (l : List Ent) (i n : Nat) (q : Nat) (hq : 0 < q) (hqn : q < n) (hp : (q - 1) / 2 = i) : lt (at_ l q) (at_ l (kid l i n)) = false := by
  unfold kid
  split
  · rename_i h
    by_cases e : q = 2 * i + 2
    · rw [e]; exact lt_irrefl _
    · have e1 : q = 2 * i + 1 := by omega
      rw [e1]; exact lt_asymm h.2
  · rename_i h
    by_cases e : q = 2 * i + 1
    · rw [e]; exact lt_irrefl _
    · have e1 : q = 2 * i + 2 := by omega
      subst e1
      have : ¬ lt (at_ l (2 * i + 2)) (at_ l (2 * i + 1)) = true := fun hh => h ⟨hqn, hh⟩
      simpa using this

theorem down_heap (n : Nat) (k : Nat) : ∀ l i, n < k + i → n ≤ l.length → HeapDown l n i → Heap (down k l i n) n := by
  induction k with
  | zero =>
    intro l i hk hn h q hq hqn
    unfold down
    exact h.1 q hq hqn (by omega)
  | succ k ih =>
    intro l i hk hn h
    unfold down
    split
    · rename_i e
      intro q hq hqn
      exact h.1 q hq hqn (by omega)
    · rename_i e
      have hkid := kid_lt l i n e
      have hil : i < l.length := by omega
      have hcl : kid l i n < l.length := by omega
      split
      · rename_i hlt
        refine ih _ _ (by omega) (by rw [swp_length]; exact hn) ⟨?_, ?_⟩
        · intro q hq hqn hne
          rw [at_swp l _ _ hil hcl, at_swp l _ _ hil hcl]
          rw [if_neg hne]
          by_cases e1 : q = kid l i n
          · subst e1
            rw [if_pos rfl, hkid.2.2, if_pos rfl]
            exact lt_asymm hlt
          · rw [if_neg e1]
            by_cases e2 : q = i
            · subst e2
              rw [if_pos rfl, if_neg (by omega)]
              exact h.2 _ (by omega) hkid.1 hkid.2.2 (by omega)
            · rw [if_neg e2]
              by_cases e3 : (q - 1) / 2 = i
              · rw [if_pos e3]; exact kid_best l i n q hq hqn e3
              · rw [if_neg e3]; exact h.1 q hq hqn e3
        · intro q hq hqn hqp hp0
          rw [at_swp l _ _ hil hcl, at_swp l _ _ hil hcl]
          rw [hkid.2.2, if_neg (by omega : ¬ q = kid l i n), if_neg (by omega : ¬ q = i), if_neg (by omega : ¬ i = kid l i n), if_pos rfl]
          have h4 := h.1 q hq hqn (by omega)
          rw [hqp] at h4
          exact h4
      · rename_i hlt
        have hlt' : lt (at_ l (kid l i n)) (at_ l i) = false := by simpa using hlt
        intro q hq hqn
        by_cases e3 : (q - 1) / 2 = i
        · rw [e3]; exact nlt_trans (kid_best l i n q hq hqn e3) hlt'
        · exact h.1 q hq hqn e3

/-! ### Push and Pop -/
def push (l : List Ent) (x : Ent) : List Ent := up (l.length + 1) (l ++ [x]) l.length

theorem at_append (l : List Ent) (x : Ent) (k : Nat) : at_ (l ++ [x]) k = if k < l.length then at_ l k else if k = l.length then x else (0, 0) := by
  simp only [at_, List.getD_eq_getElem?_getD]
  by_cases h : k < l.length
  · rw [if_pos h, List.getElem?_append_left h]
  · rw [if_neg h, List.getElem?_append_right (by omega)]
    by_cases e : k = l.length
    · subst e; simp
    · rw [if_neg e, List.getElem?_eq_none (by simp; omega)]; rfl

theorem push_length (l : List Ent) (x : Ent) : (push l x).length = l.length + 1 := by simp [push, up_length]
theorem push_perm (l : List Ent) (x : Ent) : (push l x).Perm (x :: l) := by
  unfold push
  exact (up_perm _ _ _ (by simp)).trans (List.perm_append_comm (l₁ := l) (l₂ := [x]))
theorem push_heap (l : List Ent) (x : Ent) (h : Heap l l.length) : Heap (push l x) (push l x).length := by
  rw [push_length]
  refine up_heap _ _ _ _ (by omega) (by omega) (by simp) ⟨?_, ?_⟩
  · intro k hk hkn hne
    rw [at_append, at_append, if_pos (by omega), if_pos (by omega)]
    exact h k hk (by omega)
  · intro k hk hkn hp hj
    omega

/-- What is left behind a Pop. -/
def pop (l : List Ent) : List Ent := (down (l.length + 1) (swp l 0 (l.length - 1)) 0 (l.length - 1)).take (l.length - 1)

theorem at_take (l : List Ent) (n k : Nat) (h : k < n) : at_ (l.take n) k = at_ l k := by
  simp only [at_, List.getD_eq_getElem?_getD, List.getElem?_take, if_pos h]

theorem pop_last (l : List Ent) (h : 0 < l.length) : at_ (down (l.length + 1) (swp l 0 (l.length - 1)) 0 (l.length - 1)) (l.length - 1) = at_ l 0 := by
  rw [down_far _ _ _ _ _ (by rw [swp_length]; omega) (Nat.le_refl _), at_swp l _ _ h (by omega), if_pos rfl]

theorem pop_length (l : List Ent) : (pop l).length = l.length - 1 := by
  simp [pop, down_length, swp_length]

theorem pop_perm (l : List Ent) (h : 0 < l.length) : (at_ l 0 :: pop l).Perm l := by
  have hd := down_perm (l.length + 1) (swp l 0 (l.length - 1)) 0 (l.length - 1) (by rw [swp_length]; omega)
  have hs := swp_perm l 0 (l.length - 1) h (by omega)
  have e := pop_last l h
  have hlen : (down (l.length + 1) (swp l 0 (l.length - 1)) 0 (l.length - 1)).length = l.length := by rw [down_length, swp_length]
  refine List.Perm.trans ?_ (hd.trans hs)
  unfold pop
  generalize hD : down (l.length + 1) (swp l 0 (l.length - 1)) 0 (l.length - 1) = D at *
  have hx : D = D.take (l.length - 1) ++ [at_ l 0] := by
    conv => lhs; rw [← List.take_append_drop (l.length - 1) D]
    congr 1
    rw [List.drop_eq_getElem_cons (by omega), List.drop_eq_nil_of_le (by omega), ← at_eq D _ (by omega), e]
  conv => rhs; rw [hx]
  exact (List.perm_append_comm (l₁ := [at_ l 0]) (l₂ := D.take (l.length - 1)))

theorem pop_heap (l : List Ent) (h : Heap l l.length) : Heap (pop l) (pop l).length := by
  by_cases h0 : l.length = 0
  · intro k hk hkn
    rw [pop_length] at hkn
    omega
  rw [pop_length]
  have hd : Heap (down (l.length + 1) (swp l 0 (l.length - 1)) 0 (l.length - 1)) (l.length - 1) := by
    refine down_heap _ _ _ _ (by omega) (by rw [swp_length]; omega) ⟨?_, ?_⟩
    · intro k hk hkn hne
      rw [at_swp l _ _ (by omega) (by omega), at_swp l _ _ (by omega) (by omega)]
      rw [if_neg (by omega), if_neg (by omega), if_neg (by omega), if_neg hne]
      exact h k hk (by omega)
    · intro k hk hkn hp hi; omega
  intro k hk hkn
  unfold pop
  rw [at_take _ _ _ hkn, at_take _ _ _ (by omega)]
  exact hd k hk hkn

end Go.Proofs.Ytdmeepjefccpgaa.QM
