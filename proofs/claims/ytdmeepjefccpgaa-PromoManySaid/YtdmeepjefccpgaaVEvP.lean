/- Loops of printed functions, told round by round; what holds of all numbers below one. Plain Lean. -/
import Derived.Test.YtdmeepjefccpgaaVRwA
set_option linter.unusedVariables false
namespace Go.Proofs.Ytdmeepjefccpgaa.EP
open Go Go.RowKit Go.Proofs.YtdmeepjefccpgaaW.PrintWords Go.Proofs.YtdmeepjefccpgaaW.PrintMore Go.Proofs.Ytdmeepjefccpgaa.Rw

theorem wrap_ok {x : Int} (h0 : -9223372036854775808 ≤ x) (h1 : x ≤ 9223372036854775807) : wrap64 x = x := by unfold wrap64; omega
theorem next (i : Nat) (h : i < 9223372036854775807) : wrap64 ((i : Int) + 1) = ((i + 1 : Nat) : Int) := by rw [wrap_ok (by omega) (by omega)]; omega
theorem u64_ok {x : Int} (h0 : 0 ≤ x) (h1 : x < 18446744073709551616) : IntKind.u64.wrap x = x := by rw [IntKind.wrap_u64]; omega
theorem rdOf_d {α : Type} (d : α) (l : List α) (i : Nat) : rdOf d l (i : Int) = l.getD i d := by simp [rdOf]

def allTo (p : Nat → Bool) (n : Nat) : Bool := (List.range n).all p
theorem allTo_iff {p : Nat → Bool} {n : Nat} : allTo p n = true ↔ ∀ i, i < n → p i = true := by
  unfold allTo
  rw [List.all_eq_true]
  simp [List.mem_range]
theorem allTo_no {p : Nat → Bool} {n i : Nat} (hi : i < n) (h : p i = false) : allTo p n = false := by
  rw [Bool.eq_false_iff]
  intro h2
  rw [allTo_iff.1 h2 i hi] at h
  cases h
theorem allTo_congr {p q : Nat → Bool} {n : Nat} (h : ∀ i, i < n → p i = q i) : allTo p n = allTo q n := by
  rw [Bool.eq_iff_iff, allTo_iff, allTo_iff]
  exact ⟨fun k i hi => by rw [← h i hi]; exact k i hi, fun k i hi => by rw [h i hi]; exact k i hi⟩
theorem allTo_and {p q : Nat → Bool} {n : Nat} : allTo (fun i => p i && q i) n = (allTo p n && allTo q n) := by
  rw [Bool.eq_iff_iff, Bool.and_eq_true, allTo_iff, allTo_iff, allTo_iff]
  constructor
  · intro h
    exact ⟨fun i hi => (Bool.and_eq_true_iff.1 (h i hi)).1, fun i hi => (Bool.and_eq_true_iff.1 (h i hi)).2⟩
  · rintro ⟨h1, h2⟩ i hi
    rw [h1 i hi, h2 i hi]
    rfl

theorem ev_eq {α : Type} {g : Nat → Option α} {a b : α} (h : Ev g a) (e : a = b) : Ev g b := e ▸ h
/-- A loop that goes on while something holds, and tells false where it does not. -/
theorem scan_ev {F : Nat → Nat → Option Bool} {n : Nat} {p : Nat → Bool} {e : Bool} (hend : Ev (fun k => F k n) e)
    (hyes : ∀ i, i < n → p i = true → ∀ r, Ev (fun k => F k (i + 1)) r → Ev (fun k => F k i) r) (hno : ∀ i, i < n → p i = false → Ev (fun k => F k i) false) :
    Ev (fun k => F k 0) (allTo p n && e) := by
  have key : ∀ d i, i + d = n → Ev (fun k => F k i) ((List.range d).all (fun j => p (i + j)) && e) := by
    intro d
    induction d with
    | zero =>
      intro i hi
      obtain rfl : i = n := by omega
      simpa using hend
    | succ d ih =>
      intro i hi
      have hlt : i < n := by omega
      cases hp : p i with
      | true =>
        have e1 : (List.range (d + 1)).all (fun j => p (i + j)) = (List.range d).all (fun j => p (i + 1 + j)) := by
          rw [List.range_succ_eq_map, List.all_cons, List.all_map, Nat.add_zero, hp, Bool.true_and]
          congr 1
          funext j
          simp only [Function.comp]
          congr 1
          omega
        rw [e1]
        exact hyes i hlt hp _ (ih (i + 1) (by omega))
      | false =>
        have e1 : (List.range (d + 1)).all (fun j => p (i + j)) = false := by
          rw [List.range_succ_eq_map, List.all_cons, Nat.add_zero, hp, Bool.false_and]
        rw [e1]
        exact hno i hlt hp
  have := key n 0 (by omega)
  simpa [allTo] using this
/-- A loop that ends at the first place at which something holds. -/
theorem first_ev {α : Type} {F : Nat → Nat → Option α} {n : Nat} {p : Nat → Bool} {v : Nat → α} {e : α} (hend : Ev (fun k => F k n) e)
    (hyes : ∀ i, i < n → p i = true → Ev (fun k => F k i) (v i)) (hno : ∀ i, i < n → p i = false → ∀ r, Ev (fun k => F k (i + 1)) r → Ev (fun k => F k i) r) :
    Ev (fun k => F k 0) (match (List.range n).find? p with | some i => v i | none => e) := by
  have key : ∀ d i, i + d = n → Ev (fun k => F k i) (match ((List.range d).map (i + ·)).find? p with | some i => v i | none => e) := by
    intro d
    induction d with
    | zero =>
      intro i hi
      obtain rfl : i = n := by omega
      exact hend
    | succ d ih =>
      intro i hi
      have hlt : i < n := by omega
      have e1 : (List.range (d + 1)).map (i + ·) = i :: (List.range d).map (i + 1 + ·) := by
        rw [List.range_succ_eq_map, List.map_cons, List.map_map]
        congr 1
        apply List.map_congr_left
        intro j _
        simp only [Function.comp]
        omega
      rw [e1, List.find?_cons]
      cases hp : p i with
      | true => exact hyes i hlt hp
      | false => exact hno i hlt hp _ (ih (i + 1) (by omega))
  have := key n 0 (by omega)
  simpa using this

/-- Texts that rise. -/
def upAt (l : List ByteArray) (j : Nat) : Bool := decide (j = 0) || Op.bytesLess (l.getD (j - 1) ByteArray.empty).toList (l.getD j ByteArray.empty).toList
def rise (l : List ByteArray) : Bool := allTo (upAt l) l.length
def chOk (c : Int) : Bool := decide (c = 45) || (decide (48 ≤ c) && decide (c ≤ 57)) || (decide (97 ≤ c) && decide (c ≤ 122))
theorem chOk_iff {c : Int} : chOk c = true ↔ c = 45 ∨ (48 ≤ c ∧ c ≤ 57) ∨ (97 ≤ c ∧ c ≤ 122) := by simp [chOk, or_assoc]
def nameOk (s : ByteArray) : Bool := decide (1 ≤ s.size) && decide (s.size ≤ 12) && allTo (fun i => chOk (bt s i)) s.size
end Go.Proofs.Ytdmeepjefccpgaa.EP
