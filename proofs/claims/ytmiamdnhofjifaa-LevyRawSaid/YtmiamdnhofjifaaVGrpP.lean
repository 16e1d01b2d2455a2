/- GrpP. -/
import Derived.Test.YtmiamdnhofjifaaVQSpec
section
/- Rows put in at places, group by group: the order of the groups does not matter. Plain Lean: no program in sight. -/
set_option linter.unusedVariables false
namespace Go.Proofs.Ytmiamdnhofjifaa.GP
open Go.Proofs.Ytmiamdnhofjifaa.QM

/-- What is put in at places, one behind the other. -/
def putL : List Int → List Int → List Int → List Int
  | o, [], _ => o
  | o, _ :: _, [] => o
  | o, i :: is, x :: xs => putL (o.set i.toNat x) is xs
theorem putL_length : ∀ (is xs o : List Int), (putL o is xs).length = o.length := by
  intro is
  induction is with
  | nil => intro xs o; rfl
  | cons i is ih =>
    intro xs o
    cases xs with
    | nil => rfl
    | cons x xs => rw [putL, ih]; simp
/-- A place that is not among them is as it was. -/
theorem putL_other : ∀ (is xs o : List Int) (i : Nat), (i : Int) ∉ is → (∀ z ∈ is, 0 ≤ z) → (putL o is xs)[i]? = o[i]? := by
  intro is
  induction is with
  | nil => intro xs o i _ _; rfl
  | cons z is ih =>
    intro xs o i h h0
    cases xs with
    | nil => rfl
    | cons x xs =>
      have hz := h0 z List.mem_cons_self
      rw [putL, ih xs _ i (fun hc => h (List.mem_cons_of_mem _ hc)) (fun y hy => h0 y (List.mem_cons_of_mem _ hy)), List.getElem?_set]
      rw [if_neg]
      intro e
      exact h (by rw [show (i : Int) = z by omega]; exact List.mem_cons_self)
/-- Where the k-th place is, there the k-th one is put. -/
theorem putL_at : ∀ (is xs o : List Int) (k : Nat) (hk : k < is.length), is.Nodup → (∀ z ∈ is, 0 ≤ z ∧ z < (o.length : Int)) → is.length = xs.length → (putL o is xs)[(is[k]).toNat]? = xs[k]? := by
  intro is
  induction is with
  | nil => intro xs o k hk; simp at hk
  | cons z is ih =>
    intro xs o k hk hn hr hl
    cases xs with
    | nil => simp at hl
    | cons x xs =>
      have hz := hr z List.mem_cons_self
      have hn2 := List.nodup_cons.1 hn
      rw [putL]
      cases k with
      | zero =>
        simp only [List.getElem_cons_zero, List.getElem?_cons_zero]
        rw [putL_other is xs _ z.toNat (by rw [Int.toNat_of_nonneg hz.1]; exact hn2.1) (fun y hy => (hr y (List.mem_cons_of_mem _ hy)).1), List.getElem?_set, if_pos rfl, if_pos (by omega)]
      | succ k =>
        simp only [List.getElem_cons_succ, List.getElem?_cons_succ]
        exact ih xs _ k (by simpa using hk) hn2.2 (fun y hy => by rw [List.length_set]; exact hr y (List.mem_cons_of_mem _ hy)) (by simpa using hl)

/-- The places of a rate, from one on. -/
def plsF (r : Int) : Nat → List Int → List Int
  | _, [] => []
  | b, x :: l => if x = r then (b : Int) :: plsF r (b + 1) l else plsF r (b + 1) l
/-- The places of a rate. -/
def pls (rs : List Int) (r : Int) : List Int := plsF r 0 rs
theorem plsF_mem (r : Int) : ∀ (l : List Int) (b : Nat) (z : Int), z ∈ plsF r b l ↔ ∃ i, ∃ h : i < l.length, l[i] = r ∧ z = ((b + i : Nat) : Int) := by
  intro l
  induction l with
  | nil => intro b z; simp [plsF]
  | cons x l ih =>
    intro b z
    have hrec : z ∈ plsF r (b + 1) l ↔ ∃ i, ∃ h : i < (x :: l).length, 0 < i ∧ (x :: l)[i] = r ∧ z = ((b + i : Nat) : Int) := by
      rw [ih]
      constructor
      · rintro ⟨i, h, h1, h2⟩
        exact ⟨i + 1, by simpa using h, by omega, h1, by rw [h2]; congr 1; omega⟩
      · rintro ⟨i, h, h0, h1, h2⟩
        obtain ⟨j, rfl⟩ : ∃ j, i = j + 1 := ⟨i - 1, by omega⟩
        exact ⟨j, by simpa using h, h1, by rw [h2]; congr 1; omega⟩
    unfold plsF
    split
    · rename_i hx
      rw [List.mem_cons, hrec]
      constructor
      · rintro (rfl | ⟨i, h, _, h1, h2⟩)
        · exact ⟨0, by simp, hx, by simp⟩
        · exact ⟨i, h, h1, h2⟩
      · rintro ⟨i, h, h1, h2⟩
        rcases Nat.eq_zero_or_pos i with rfl | hp
        · exact .inl (by rw [h2]; simp)
        · exact .inr ⟨i, h, hp, h1, h2⟩
    · rename_i hx
      rw [hrec]
      constructor
      · rintro ⟨i, h, _, h1, h2⟩
        exact ⟨i, h, h1, h2⟩
      · rintro ⟨i, h, h1, h2⟩
        rcases Nat.eq_zero_or_pos i with rfl | hp
        · exact absurd h1 hx
        · exact ⟨i, h, hp, h1, h2⟩
theorem plsF_nodup (r : Int) : ∀ (l : List Int) (b : Nat), (plsF r b l).Nodup := by
  intro l
  induction l with
  | nil => intro b; exact List.nodup_nil
  | cons x l ih =>
    intro b
    unfold plsF
    split
    · refine List.nodup_cons.2 ⟨fun h => ?_, ih _⟩
      obtain ⟨i, _, _, h2⟩ := (plsF_mem r l (b + 1) _).1 h
      omega
    · exact ih _
theorem pls_mem {rs : List Int} {r z : Int} : z ∈ pls rs r ↔ ∃ i, ∃ h : i < rs.length, rs[i] = r ∧ z = (i : Int) := by
  unfold pls
  rw [plsF_mem]
  simp
theorem pls_range {rs : List Int} {r : Int} : ∀ z ∈ pls rs r, 0 ≤ z ∧ z < (rs.length : Int) := by
  intro z hz
  obtain ⟨i, h, _, rfl⟩ := pls_mem.1 hz
  omega
/-- What stands at places. -/
def pick (ns is : List Int) : List Int := is.map fun i => ns.getD i.toNat 0
theorem pick_length (ns is : List Int) : (pick ns is).length = is.length := by simp [pick]

/-- One group is put in. -/
def grp (L : Int → List Int → List Int) (rs ns : List Int) (o : List Int) (r : Int) : List Int := putL o (pls rs r) (L r (pick ns (pls rs r)))
theorem grp_length (L : Int → List Int → List Int) (rs ns o : List Int) (r : Int) : (grp L rs ns o r).length = o.length := putL_length _ _ _
/-- What a place has in the end. -/
def val (L : Int → List Int → List Int) (rs ns : List Int) (i : Nat) : Int :=
  (L (rs.getD i 0) (pick ns (pls rs (rs.getD i 0)))).getD ((pls rs (rs.getD i 0)).idxOf (i : Int)) 0
theorem grp_at (L : Int → List Int → List Int) (rs ns o : List Int) (r : Int) (ho : o.length = rs.length) (hL : (L r (pick ns (pls rs r))).length = (pls rs r).length) (i : Nat) (hi : i < rs.length) :
    (grp L rs ns o r)[i]? = if rs.getD i 0 = r then some (val L rs ns i) else o[i]? := by
  have hri : rs.getD i 0 = rs[i] := by simp [hi]
  by_cases h : rs[i] = r
  · rw [if_pos (by rw [hri]; exact h)]
    have hm : (i : Int) ∈ pls rs r := pls_mem.2 ⟨i, hi, h, rfl⟩
    have hk := List.idxOf_lt_length_of_mem hm
    have he : (pls rs r)[(pls rs r).idxOf (i : Int)] = (i : Int) := List.getElem_idxOf hk
    have := putL_at (pls rs r) (L r (pick ns (pls rs r))) o _ hk (plsF_nodup r rs 0) (fun z hz => by rw [ho]; exact pls_range z hz) hL.symm
    rw [he, Int.toNat_natCast] at this
    unfold grp
    rw [this]
    unfold val
    rw [hri, h, List.getD_eq_getElem?_getD, List.getElem?_eq_getElem (by omega)]
    rfl
  · rw [if_neg (by rw [hri]; exact h)]
    refine putL_other _ _ _ i (fun hm => ?_) (fun z hz => (pls_range z hz).1)
    obtain ⟨j, hj, h1, h2⟩ := pls_mem.1 hm
    obtain rfl : i = j := by omega
    exact h h1
/-- All groups: whatever their order. -/
def whole (L : Int → List Int → List Int) (rs ns : List Int) : List Int := (List.range rs.length).map (val L rs ns)
end Go.Proofs.Ytmiamdnhofjifaa.GP
end
section
/- Groups out of a line: who is ahead first, those of one rank together. Plain Lean: no program in sight. -/
set_option linter.unusedVariables false
namespace Go.Proofs.Ytmiamdnhofjifaa.GP
open Go.Proofs.Ytmiamdnhofjifaa.QM

theorem while_filter (c : Int) : ∀ (s : List Ent), Lined s → (∀ e ∈ s, e.1 ≤ c) → s.takeWhile (fun e => e.1 == c) = s.filter (fun e => e.1 == c) ∧ s.dropWhile (fun e => e.1 == c) = s.filter (fun e => e.1 != c) := by
  intro s
  induction s with
  | nil => intro _ _; exact ⟨rfl, rfl⟩
  | cons y s ih =>
    intro hl hc
    have hl2 := List.pairwise_cons.1 hl
    by_cases hy : y.1 = c
    · have h := ih hl2.2 (fun e he => hc e (List.mem_cons_of_mem _ he))
      have e1 : (y.1 == c) = true := by simpa using hy
      have e2 : (y.1 != c) = false := by simpa using hy
      rw [List.takeWhile_cons, List.dropWhile_cons, List.filter_cons, List.filter_cons]
      simp only [e1, e2, if_true, Bool.false_eq_true, if_false]
      exact ⟨by rw [h.1], h.2⟩
    · have e1 : (y.1 == c) = false := by simpa using hy
      have hlt : ∀ e ∈ y :: s, e.1 ≠ c := by
        intro e he
        have h1 := hc y List.mem_cons_self
        rcases List.mem_cons.1 he with rfl | he
        · exact hy
        · have h2 := lt_false_iff _ _ |>.1 (hl2.1 e he)
          omega
      rw [List.takeWhile_cons, List.dropWhile_cons]
      simp only [e1, if_false, Bool.false_eq_true]
      refine ⟨(List.filter_eq_nil_iff.2 fun e he => by simpa using hlt e he).symm, (List.filter_eq_self.2 fun e he => by simpa using hlt e he).symm⟩

/-- What is left of a line, group by group: out is what is put in. -/
def go (L : Int → List Int → List Int) (ns : List Int) : Nat → List Ent → List Int → List Int
  | 0, _, o => o
  | _ + 1, [], o => o
  | k + 1, x :: s, o => go L ns k ((x :: s).dropWhile fun e => e.1 == x.1) (putL o (((x :: s).takeWhile fun e => e.1 == x.1).map (·.2)) (L (-x.1) (pick ns (((x :: s).takeWhile fun e => e.1 == x.1).map (·.2)))))
/-- Ranks are rates below 0. -/
def negs (rs : List Int) : List Int := rs.map fun r => -r
theorem pls_ents (r : Int) : ∀ (l : List Int) (b : Nat), (((l.map fun r => -r).zipIdx b).map fun p => ((p.1, (p.2 : Int)) : Ent)).filter (fun e => e.1 == -r) = (plsF r b l).map fun i => ((-r, i) : Ent) := by
  intro l
  induction l with
  | nil => intro b; rfl
  | cons x l ih =>
    intro b
    simp only [List.map_cons, List.zipIdx_cons, List.filter_cons]
    unfold plsF
    by_cases h : x = r
    · subst h
      simp only [beq_self_eq_true, if_true, List.map_cons]
      rw [ih]
    · have e : (-x == -r) = false := by simp; omega
      simp only [e, h, if_false, Bool.false_eq_true]
      exact ih _
theorem plsF_up (r : Int) : ∀ (l : List Int) (b : Nat), (plsF r b l).Pairwise (· < ·) := by
  intro l
  induction l with
  | nil => intro b; exact List.Pairwise.nil
  | cons x l ih =>
    intro b
    unfold plsF
    split
    · refine List.pairwise_cons.2 ⟨fun z hz => ?_, ih _⟩
      obtain ⟨i, _, _, h2⟩ := (plsF_mem r l (b + 1) _).1 hz
      omega
    · exact ih _
theorem line_group (rs : List Int) (r : Int) : (line (ents (negs rs))).filter (fun e => e.1 == -r) = (pls rs r).map fun i => ((-r, i) : Ent) := by
  refine lined_unique _ _ ((line_lined _).sublist List.filter_sublist) ?_ ?_
  · refine List.Pairwise.map _ ?_ (plsF_up r rs 0)
    intro a b hab
    rw [lt_false_iff]
    exact .inr ⟨rfl, by show a ≤ b; omega⟩
  · have := (line_perm (ents (negs rs))).filter (fun e => e.1 == -r)
    refine this.trans ?_
    rw [show pls rs r = plsF r 0 rs from rfl, ← pls_ents r rs 0]
    exact List.Perm.refl _
def Closed (E s : List Ent) : Prop := ∀ e ∈ s, s.filter (fun x => x.1 == e.1) = E.filter (fun x => x.1 == e.1)
end Go.Proofs.Ytmiamdnhofjifaa.GP
end
