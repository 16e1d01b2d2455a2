/- Rows put in at places, group by group: the order of the groups does not matter. Plain Lean: no program in sight. -/
import Derived.Test.YtmiamdnhofjifaaVQSpec
set_option linter.unusedVariables false
namespace Go.Proofs.Ytmiamdnhofjifaa.GP
open Go.Proofs.Ytmiamdnhofjifaa.QM

/-- What is put in at places, one behind the other. -/
def putL : List Int → List Int → List Int → List Int
  | o, [], _ => o
  | o, _ :: _, [] => o
  | o, i :: is, x :: xs => putL (o.set i.toNat x) is xs
theorem putL_length : ∀ (is xs o : List Int), (putL o is xs).length = o.length := by
  intro is
  induction is with
  | nil => intro xs o; rfl
  | cons i is ih =>
    intro xs o
    cases xs with
    | nil => rfl
    | cons x xs => rw [putL, ih]; simp
/-- A place that is not among them is as it was. -/
theorem putL_other : ∀ (is xs o : List Int) (i : Nat), (i : Int) ∉ is → (∀ z ∈ is, 0 ≤ z) → (putL o is xs)[i]? = o[i]? := by
  intro is
  induction is with
  | nil => intro xs o i _ _; rfl
  | cons z is ih =>
    intro xs o i h h0
    cases xs with
    | nil => rfl
    | cons x xs =>
      have hz := h0 z List.mem_cons_self
      rw [putL, ih xs _ i (fun hc => h (List.mem_cons_of_mem _ hc)) (fun y hy => h0 y (List.mem_cons_of_mem _ hy)), List.getElem?_set]
      rw [if_neg]
      intro e
      exact h (by rw [show (i : Int) = z by omega]; exact List.mem_cons_self)
/-- Where the k-th place is, there the k-th one is put. -/
theorem putL_at : ∀ (is xs o : List Int) (k : Nat) (hk : k < is.length), is.Nodup → (∀ z ∈ is, 0 ≤ z ∧ z < (o.length : Int)) → is.length = xs.length → (putL o is xs)[(is[k]).toNat]? = xs[k]? := by
  intro is
  induction is with
  | nil => intro xs o k hk; simp at hk
  | cons z is ih =>
    intro xs o k hk hn hr hl
    cases xs with
    | nil => simp at hl
    | cons x xs =>
      have hz := hr z List.mem_cons_self
      have hn2 := List.nodup_cons.1 hn
      rw [putL]
      cases k with
      | zero =>
        simp only [List.getElem_cons_zero, List.getElem?_cons_zero]
        rw [putL_other is xs _ z.toNat (by rw [Int.toNat_of_nonneg hz.1]; exact hn2.1) (fun y hy => (hr y (List.mem_cons_of_mem _ hy)).1), List.getElem?_set, if_pos rfl, if_pos (by omega)]
      | succ k =>
        simp only [List.getElem_cons_succ, List.getElem?_cons_succ]
        exact ih xs _ k (by simpa using hk) hn2.2 (fun y hy => by rw [List.length_set]; exact hr y (List.mem_cons_of_mem _ hy)) (by simpa using hl)

/-- The places of a rate, from one on. -/
def plsF (r : Int) : Nat → List Int → List Int
  | _, [] => []
  | b, x :: l => if x = r then (b : Int) :: plsF r (b + 1) l else plsF r (b + 1) l
/-- The places of a rate. -/
def pls (rs : List Int) (r : Int) : List Int := plsF r 0 rs
theorem plsF_mem (r : Int) : ∀ (l : List Int) (b : Nat) (z : Int), z ∈ plsF r b l ↔ ∃ i, ∃ h : i < l.length, l[i] = r ∧ z = ((b + i : Nat) : Int) := by
  intro l
  induction l with
  | nil => intro b z; simp [plsF]
  | cons x l ih =>
    intro b z
    have hrec : z ∈ plsF r (b + 1) l ↔ ∃ i, ∃ h : i < (x :: l).length, 0 < i ∧ (x :: l)[i] = r ∧ z = ((b + i : Nat) : Int) := by
      rw [ih]
      constructor
      · rintro ⟨i, h, h1, h2⟩
        exact ⟨i + 1, by simpa using h, by omega, h1, by rw [h2]; congr 1; omega⟩
      · rintro ⟨i, h, h0, h1, h2⟩
        obtain ⟨j, rfl⟩ : ∃ j, i = j + 1 := ⟨i - 1, by omega⟩
        exact ⟨j, by simpa using h, h1, by rw [h2]; congr 1; omega⟩
    unfold plsF
    split
    · rename_i hx
      rw [List.mem_cons, hrec]
      constructor
      · rintro (rfl | ⟨i, h, _, h1, h2⟩)
        · exact ⟨0, by simp, hx, by simp⟩
        · exact ⟨i, h, h1, h2⟩
      · rintro ⟨i, h, h1, h2⟩
        rcases Nat.eq_zero_or_pos i with rfl | hp
        · exact .inl (by rw [h2]; simp)
        · exact .inr ⟨i, h, hp, h1, h2⟩
    · rename_i hx
      rw [hrec]
      constructor
      · rintro ⟨i, h, _, h1, h2⟩
        exact ⟨i, h, h1, h2⟩
      · rintro ⟨i, h, h1, h2⟩
        rcases Nat.eq_zero_or_pos i with rfl | hp
        · exact absurd h1 hx
        · exact ⟨i, h, hp, h1, h2⟩
theorem plsF_nodup (r : Int) : ∀ (l : List Int) (b : Nat), (plsF r b l).Nodup := by
  intro l
  induction l with
  | nil => intro b; exact List.nodup_nil
  | cons x l ih =>
    intro b
    unfold plsF
    split
    · refine List.nodup_cons.2 ⟨fun h => ?_, ih _⟩
      obtain ⟨i, _, _, h2⟩ := (plsF_mem r l (b + 1) _).1 h
      omega
    · exact ih _
theorem pls_mem {rs : List Int} {r z : Int} : z ∈ pls rs r ↔ ∃ i, ∃ h : i < rs.length, rs[i] = r ∧ z = (i : Int) := by
  unfold pls
  rw [plsF_mem]
  simp
theorem pls_range {rs : List Int} {r : Int} : ∀ z ∈ pls rs r, 0 ≤ z ∧ z < (rs.length : Int) := by
  intro z hz
  obtain ⟨i, h, _, rfl⟩ := pls_mem.1 hz
  omega
/-- What stands at places. -/
def pick (ns is : List Int) : List Int := is.map fun i => ns.getD i.toNat 0
theorem pick_length (ns is : List Int) : (pick ns is).length = is.length := by simp [pick]

/-- One group is put in. -/
def grp (L : Int → List Int → List Int) (rs ns : List Int) (o : List Int) (r : Int) : List Int := putL o (pls rs r) (L r (pick ns (pls rs r)))
theorem grp_length (L : Int → List Int → List Int) (rs ns o : List Int) (r : Int) : (grp L rs ns o r).length = o.length := putL_length _ _ _
/-- What a place has in the end. -/
def val (L : Int → List Int → List Int) (rs ns : List Int) (i : Nat) : Int :=
  (L (rs.getD i 0) (pick ns (pls rs (rs.getD i 0)))).getD ((pls rs (rs.getD i 0)).idxOf (i : Int)) 0
theorem grp_at (L : Int → List Int → List Int) (rs ns o : List Int) (r : Int) (ho : o.length = rs.length) (hL : (L r (pick ns (pls rs r))).length = (pls rs r).length) (i : Nat) (hi : i < rs.length) :
    (grp L rs ns o r)[i]? = if rs.getD i 0 = r then some (val L rs ns i) else o[i]? := by
  have hri : rs.getD i 0 = rs[i] := by simp [hi]
  by_cases h : rs[i] = r
  · rw [if_pos (by rw [hri]; exact h)]
    have hm : (i : Int) ∈ pls rs r := pls_mem.2 ⟨i, hi, h, rfl⟩
    have hk := List.idxOf_lt_length_of_mem hm
    have he : (pls rs r)[(pls rs r).idxOf (i : Int)] = (i : Int) := List.getElem_idxOf hk
    have := putL_at (pls rs r) (L r (pick ns (pls rs r))) o _ hk (plsF_nodup r rs 0) (fun z hz => by rw [ho]; exact pls_range z hz) hL.symm
    rw [he, Int.toNat_natCast] at this
    unfold grp
    rw [this]
    unfold val
    rw [hri, h, List.getD_eq_getElem?_getD, List.getElem?_eq_getElem (by omega)]
    rfl
  · rw [if_neg (by rw [hri]; exact h)]
    refine putL_other _ _ _ i (fun hm => ?_) (fun z hz => (pls_range z hz).1)
    obtain ⟨j, hj, h1, h2⟩ := pls_mem.1 hm
    obtain rfl : i = j := by omega
    exact h h1
/-- All groups: whatever their order. -/
def whole (L : Int → List Int → List Int) (rs ns : List Int) : List Int := (List.range rs.length).map (val L rs ns)
end Go.Proofs.Ytmiamdnhofjifaa.GP
