/-
  A queue in memory: a block that holds the slice's head, and a row of pairs behind it. What stores, draws and new blocks leave of it.
-/
import Derived.Below
import Derived.Deep.Draws
import Derived.Deep.AppendLies
import Derived.Maps.AppendAt
import Derived.OwnWalk
import Derived.Laws.OwnMore
import Derived.Laws.Rows
import Derived.Test.YtdmeepjefccpgaaVQModel
set_option linter.unusedVariables false
namespace Go.Proofs.Ytdmeepjefccpgaa.QR
open Go Go.RowKit Go.Proofs.Ytdmeepjefccpgaa.QM

/-- All blocks that were there, but those of S, are as they were; the streams too. -/
structure Kp (S : Nat → Prop) (w w' : World) : Prop where
  os : w'.os = w.os
  tape : w'.tape = w.tape
  output : w'.output = w.output
  size : w.heap.size ≤ w'.heap.size
  block : ∀ k, k < w.heap.size → ¬ S k → w'.heap[k]? = w.heap[k]?

theorem Kp.refl (S : Nat → Prop) (w : World) : Kp S w w := ⟨rfl, rfl, rfl, Nat.le_refl _, fun _ _ _ => rfl⟩
theorem Kp.trans {S : Nat → Prop} {a b c : World} (h : Kp S a b) (k : Kp S b c) : Kp S a c :=
  ⟨k.os.trans h.os, k.tape.trans h.tape, k.output.trans h.output, Nat.le_trans h.size k.size, fun i hi hn => (k.block i (Nat.lt_of_lt_of_le hi h.size) hn).trans (h.block i hi hn)⟩
theorem Kp.trans' {S S' : Nat → Prop} {a b c : World} (h : Kp S a b) (k : Kp S' b c) (hs : ∀ i, i < a.heap.size → S' i → S i) : Kp S a c :=
  ⟨k.os.trans h.os, k.tape.trans h.tape, k.output.trans h.output, Nat.le_trans h.size k.size, fun i hi hn => (k.block i (Nat.lt_of_lt_of_le hi h.size) (fun h' => hn (hs i hi h'))).trans (h.block i hi hn)⟩
theorem Kp.mono {S S' : Nat → Prop} {a b : World} (h : Kp S a b) (hs : ∀ i, i < a.heap.size → S i → S' i) : Kp S' a b :=
  ⟨h.os, h.tape, h.output, h.size, fun i hi hn => h.block i hi (fun h' => hn (hs i hi h'))⟩
theorem Kp.drewN {S : Nat → Prop} {a b : World} (h : Kp S a b) (n : Nat) : Kp S a (b.drewN n) := ⟨h.os, h.tape, h.output, h.size, h.block⟩
theorem Kp.drew {S : Nat → Prop} {a b : World} (h : Kp S a b) : Kp S a b.drew := ⟨h.os, h.tape, h.output, h.size, h.block⟩
theorem Kp.alloc {S : Nat → Prop} {a b : World} (h : Kp S a b) (o : Obj) : Kp S a (b.alloc o) :=
  h.trans ⟨rfl, rfl, rfl, by simp, fun k hk _ => Below.heap_alloc b o k hk⟩
theorem Kp.setCell {S : Nat → Prop} {a b : World} (h : Kp S a b) (p : Addr) (v : Value) (hp : p.block < a.heap.size → S p.block) : Kp S a (b.setCell p v) :=
  ⟨h.os, h.tape, h.output, by simp [World.setCell]; exact h.size, fun k hk hn => (Below.heap_setCell b p v k (by rintro rfl; exact hn (hp hk))).trans (h.block k hk hn)⟩
theorem Kp.of_below {S : Nat → Prop} {a b : World} (h : Below a.heap.size a b) : Kp S a b := ⟨h.os, h.tape, h.output, h.size, fun k hk _ => h.block k hk⟩
theorem Kp.of_grown {a b : World} {row : Option Nat} (h : a.grownBy b row) : Kp (fun k => some k = row) a b := ⟨h.os, h.tape, h.output, h.size, fun k hk hn => h.block k hk hn⟩
theorem Kp.to_below {S : Nat → Prop} {a b : World} (h : Kp S a b) {B : Nat} (hB : B ≤ a.heap.size) (hs : ∀ k, S k → B ≤ k) : Below B a b :=
  ⟨h.os, h.tape, h.output, h.size, fun k hk => h.block k (Nat.lt_of_lt_of_le hk hB) (fun h' => by have := hs k h'; omega)⟩
/-- What stands below B at the beginning stands there still. -/
theorem Kp.below_trans {S : Nat → Prop} {w a b : World} {B : Nat} (h : Below B w a) (k : Kp S a b) (hB : B ≤ w.heap.size) (hs : ∀ k, S k → B ≤ k) : Below B w b :=
  h.trans (k.to_below (Nat.le_trans hB h.size) hs)

theorem alloc_old (w : World) (o : Obj) (i : Nat) (h : i < w.heap.size) : (w.alloc o).heap[i]? = w.heap[i]? := Below.heap_alloc w o i h
theorem alloc_new (w : World) (o : Obj) : (w.alloc o).heap[w.heap.size]? = some o := by
  show (w.heap.push o)[w.heap.size]? = _
  simp

theorem setCell_at {w : World} {g : Nat} {c : Array Value} {e : TypeId} {fr : Nat × Nat} (h : w.heap[g]? = some (.cells c e fr)) (o : Nat) (v : Value) :
    (w.setCell ⟨g, o, none⟩ v).heap[g]? = some (.cells (c.setIfInBounds o v) e fr) := by
  simp [World.setCell, Array.getElem?_modify, h]

/-- A row of pairs in block r (type E), with room for cap. -/
structure QRow (E : Nat) (w : World) (r cap : Nat) (l : List Ent) : Prop where
  ex : ∃ cur, w.heap[r]? = some (.cells cur E (0, 0)) ∧ cur.size = cap * 2 ∧ ∀ i, i < l.length → cur[i * 2]? = some (.int .i64 (at_ l i).1) ∧ cur[i * 2 + 1]? = some (.int .i64 (at_ l i).2)
  le : l.length ≤ cap
  cap_le : cap ≤ maxLen

section
variable {E : Nat} {w w' : World} {r cap : Nat} {l : List Ent}
theorem QRow.at_world (h : QRow E w r cap l) (hb : w'.heap[r]? = w.heap[r]?) : QRow E w' r cap l := ⟨by rw [hb]; exact h.ex, h.le, h.cap_le⟩
theorem QRow.lt (h : QRow E w r cap l) : r < w.heap.size := by
  obtain ⟨cur, hc, _⟩ := h.ex
  exact (Array.getElem?_eq_some_iff.1 hc).1
theorem QRow.kp {S : Nat → Prop} (h : QRow E w r cap l) (hk : Kp S w w') (hn : ¬ S r) : QRow E w' r cap l := h.at_world (hk.block r h.lt hn)
theorem QRow.cell0 (h : QRow E w r cap l) (i : Nat) (hi : i < l.length) : w.cell? ⟨r, i * 2, none⟩ = some (.int .i64 (at_ l i).1) := by
  obtain ⟨cur, hc, _, hx⟩ := h.ex
  rw [cell_of_row w r _ cur E (0, 0) hc]; exact (hx i hi).1
theorem QRow.cell1 (h : QRow E w r cap l) (i : Nat) (hi : i < l.length) : w.cell? ⟨r, i * 2 + 1, none⟩ = some (.int .i64 (at_ l i).2) := by
  obtain ⟨cur, hc, _, hx⟩ := h.ex
  rw [cell_of_row w r _ cur E (0, 0) hc]; exact (hx i hi).2
theorem QRow.free (h : QRow E w r cap l) (k : Nat) : w.frozen? ⟨r, k, none⟩ = false := by
  obtain ⟨cur, hc, _⟩ := h.ex
  simp [World.frozen?, hc]
/-- A pair is written over another one. -/
theorem QRow.set (h : QRow E w r cap l) (i : Nat) (hi : i < l.length) (x : Ent) :
    QRow E ((w.setCell ⟨r, i * 2, none⟩ (.int .i64 x.1)).setCell ⟨r, i * 2 + 1, none⟩ (.int .i64 x.2)) r cap (l.set i x) := by
  obtain ⟨cur, hc, hs, hx⟩ := h.ex
  refine ⟨⟨_, setCell_at (setCell_at hc _ _) _ _, by simp [hs], fun j hj => ?_⟩, by simpa using h.le, h.cap_le⟩
  have hj' : j < l.length := by simpa using hj
  have hle := h.le
  rw [at_set l i x hi]
  simp only [Array.getElem?_setIfInBounds, Array.size_setIfInBounds]
  by_cases e : i = j
  · subst e
    rw [if_neg (by omega), if_pos rfl, if_pos (by omega), if_pos rfl]
    exact ⟨rfl, by rw [if_pos rfl, if_pos (by omega)]⟩
  · rw [if_neg (by omega), if_neg (by omega), if_neg e, if_neg (by omega), if_neg (by omega)]
    exact hx j hj'
theorem QRow.swap (h : QRow E w r cap l) (i j : Nat) (hi : i < l.length) (hj : j < l.length) :
    QRow E ((((w.setCell ⟨r, i * 2, none⟩ (.int .i64 (at_ l j).1)).setCell ⟨r, i * 2 + 1, none⟩ (.int .i64 (at_ l j).2)).setCell ⟨r, j * 2, none⟩ (.int .i64 (at_ l i).1)).setCell ⟨r, j * 2 + 1, none⟩ (.int .i64 (at_ l i).2)) r cap (swp l i j) :=
  (h.set i hi (at_ l j)).set j (by simpa using hj) (at_ l i)
/-- The last one is taken away. -/
theorem QRow.take (h : QRow E w r cap l) (n : Nat) : QRow E w r cap (l.take n) := by
  obtain ⟨cur, hc, hs, hx⟩ := h.ex
  refine ⟨⟨cur, hc, hs, fun i hi => ?_⟩, ?_, h.cap_le⟩
  · have h1 : i < n ∧ i < l.length := by rw [List.length_take] at hi; omega
    rw [at_take l n i h1.1]
    exact hx i h1.2
  · have := h.le; rw [List.length_take]; omega

/-- The pairs' cells in line. -/
def flat : List Ent → List Value
  | [] => []
  | a :: l => .int .i64 a.1 :: .int .i64 a.2 :: flat l
theorem flat_length (l : List Ent) : (flat l).length = l.length * 2 := by
  induction l with
  | nil => rfl
  | cons a l ih => simp [flat, ih]; omega
theorem flat_get (l : List Ent) : ∀ i, i < l.length → (flat l)[i * 2]? = some (.int .i64 (at_ l i).1) ∧ (flat l)[i * 2 + 1]? = some (.int .i64 (at_ l i).2) := by
  induction l with
  | nil => intro i hi; simp at hi
  | cons a l ih =>
    intro i hi
    cases i with
    | zero => exact ⟨rfl, rfl⟩
    | succ i =>
      have := ih i (by simpa using hi)
      have e : (i + 1) * 2 = i * 2 + 1 + 1 := by omega
      rw [e]
      simpa [flat, at_] using this
theorem flat_append (l : List Ent) (x : Ent) : flat (l ++ [x]) = flat l ++ [.int .i64 x.1, .int .i64 x.2] := by
  induction l with
  | nil => rfl
  | cons a l ih => simp [flat, ih]
theorem QRow.owns (h : QRow E w r cap l) : w.ownsRow 0 E 2 (.slice (some ⟨r, 0, none⟩) l.length cap) l.length (flat l) := by
  obtain ⟨cur, hc, hs, hx⟩ := h.ex
  refine ⟨flat_length l, .inr ⟨r, cap, cur, rfl, Nat.zero_le _, hc, h.le, h.cap_le, hs, ?_⟩⟩
  have hle := h.le
  apply List.ext_getElem?
  intro k
  rw [List.getElem?_take]
  by_cases hk : k < l.length * 2
  · rw [if_pos hk]
    have hi : k / 2 < l.length := by omega
    have h1 := hx (k / 2) hi
    have h2 := flat_get l (k / 2) hi
    rw [Array.getElem?_toList]
    rcases Nat.mod_two_eq_zero_or_one k with e | e
    · have e2 : k / 2 * 2 = k := by omega
      rw [e2] at h1 h2
      rw [h1.1, h2.1]
    · have e2 : k / 2 * 2 + 1 = k := by omega
      rw [e2] at h1 h2
      rw [h1.2, h2.2]
  · rw [if_neg hk, List.getElem?_eq_none (by rw [flat_length]; omega)]
theorem QRow.of_owns {n : Nat} {g c : Nat} (h : w.ownsRow 0 E 2 (.slice (some ⟨g, 0, none⟩) n c) n (flat l)) (hn : n = l.length) : QRow E w g c l := by
  subst hn
  rcases h.2 with ⟨he, _⟩ | ⟨g', cap', cur, he, _, hc, hle, hm, hs, ht⟩
  · cases he
  · cases he
    refine ⟨⟨cur, hc, hs, fun i hi => ?_⟩, hle, hm⟩
    have h2 := flat_get l i hi
    rw [← ht] at h2
    rw [List.getElem?_take, if_pos (by omega), List.getElem?_take, if_pos (by omega)] at h2
    simpa using h2
end

/-- A queue at block g: what it holds, up to order, is m; ro: its row's block (none: there is none yet). -/
structure IsQ (TQ TE : Nat) (w : World) (g : Nat) (ro : Option Nat) (m : List Ent) : Prop where
  ex : ∃ v l, w.heap[g]? = some (.cells #[v] TQ (0, 0)) ∧ l.Perm m ∧ Heap l l.length ∧
    ((ro = none ∧ v = .slice none 0 0 ∧ l = []) ∨ ∃ r cap, ro = some r ∧ v = .slice (some ⟨r, 0, none⟩) l.length cap ∧ QRow TE w r cap l ∧ r ≠ g)

section
variable {TQ TE : Nat} {w w' : World} {g : Nat} {ro : Option Nat} {m m' : List Ent}
theorem IsQ.perm (h : IsQ TQ TE w g ro m) (hp : m.Perm m') : IsQ TQ TE w g ro m' := by
  obtain ⟨v, l, h1, h2, h3, h4⟩ := h.ex
  exact ⟨⟨v, l, h1, h2.trans hp, h3, h4⟩⟩
theorem IsQ.lt (h : IsQ TQ TE w g ro m) : g < w.heap.size := by
  obtain ⟨v, l, h1, _⟩ := h.ex
  exact (Array.getElem?_eq_some_iff.1 h1).1
theorem IsQ.kp {S : Nat → Prop} (h : IsQ TQ TE w g ro m) (hk : Kp S w w') (hg : ¬ S g) (hr : ∀ r, ro = some r → ¬ S r) : IsQ TQ TE w' g ro m := by
  obtain ⟨v, l, h1, h2, h3, h4⟩ := h.ex
  have hgl := h.lt
  refine ⟨⟨v, l, (hk.block g hgl hg).trans h1, h2, h3, ?_⟩⟩
  rcases h4 with h4 | ⟨r, cap, e, hv, h5, h6⟩
  · exact .inl h4
  · exact .inr ⟨r, cap, e, hv, h5.kp hk (hr r e), h6⟩
theorem IsQ.drewN (h : IsQ TQ TE w g ro m) (n : Nat) : IsQ TQ TE (w.drewN n) g ro m := h.kp (S := fun _ => False) ((Kp.refl _ _).drewN n) (fun h => h) (fun _ _ h => h)

/-- A queue's blocks are none of a row of another type. -/
theorem IsQ.apart (h : IsQ TQ TE w g ro m) {base e size n : Nat} {v : Value} {xs : List Value} (ho : w.ownsRow base e size v n xs) (h1 : e ≠ TQ) (h2 : e ≠ TE) :
    ∀ k, v.ownBlock = some k → k ≠ g ∧ ro ≠ some k := by
  intro k hk
  rcases ho.2 with ⟨rfl, _⟩ | ⟨g', cap, cur, rfl, _, hc, _⟩
  · simp [Value.ownBlock] at hk
  · have e1 : g' = k := by simpa [Value.ownBlock] using hk
    subst e1
    obtain ⟨v', l, hq, _, _, h4⟩ := h.ex
    refine ⟨?_, ?_⟩
    · rintro rfl
      rw [hq] at hc
      injection hc with hc
      injection hc with _ hc
      exact h1 hc.symm
    · intro e3
      rcases h4 with ⟨e4, _⟩ | ⟨r, cap', e4, _, h5, _⟩
      · rw [e4] at e3; cases e3
      · rw [e4] at e3
        cases e3
        obtain ⟨cur', hc', _⟩ := h5.ex
        rw [hc'] at hc
        injection hc with hc
        injection hc with _ hc
        exact h2 hc.symm
end

end Go.Proofs.Ytdmeepjefccpgaa.QR
