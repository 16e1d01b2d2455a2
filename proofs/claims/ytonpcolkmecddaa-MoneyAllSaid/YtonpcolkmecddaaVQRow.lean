/-
  A queue in memory: a block that holds the slice's head, and a row of pairs behind it. What stores, draws and new blocks leave of it.
-/
import Derived.Below
import Derived.Deep.Draws
import Derived.Deep.AppendLies
import Derived.Maps.AppendAt
import Derived.OwnWalk
import Derived.Laws.OwnMore
import Derived.Laws.Rows
import Derived.Test.YtonpcolkmecddaaVQModel
set_option linter.unusedVariables false
namespace Go.Proofs.Ytonpcolkmecddaa.QR
open Go Go.RowKit Go.Proofs.Ytonpcolkmecddaa.QM

/-- All blocks that were there, but those of S, are as they were; the streams too. -/
structure Kp (S : Nat → Prop) (w w' : World) : Prop where
  os : w'.os = w.os
  tape : w'.tape = w.tape
  output : w'.output = w.output
  size : w.heap.size ≤ w'.heap.size
  block : ∀ k, k < w.heap.size → ¬ S k → w'.heap[k]? = w.heap[k]?

theorem Kp.refl (S : Nat → Prop) (w : World) : Kp S w w := ⟨rfl, rfl, rfl, Nat.le_refl _, fun _ _ _ => rfl⟩
theorem Kp.trans {S : Nat → Prop} {a b c : World} (h : Kp S a b) (k : Kp S b c) : Kp S a c :=
  ⟨k.os.trans h.os, k.tape.trans h.tape, k.output.trans h.output, Nat.le_trans h.size k.size, fun i hi hn => (k.block i (Nat.lt_of_lt_of_le hi h.size) hn).trans (h.block i hi hn)⟩
theorem Kp.mono {S S' : Nat → Prop} {a b : World} (h : Kp S a b) (hs : ∀ i, i < a.heap.size → S i → S' i) : Kp S' a b :=
  ⟨h.os, h.tape, h.output, h.size, fun i hi hn => h.block i hi (fun h' => hn (hs i hi h'))⟩
theorem Kp.drewN {S : Nat → Prop} {a b : World} (h : Kp S a b) (n : Nat) : Kp S a (b.drewN n) := ⟨h.os, h.tape, h.output, h.size, h.block⟩
theorem Kp.alloc {S : Nat → Prop} {a b : World} (h : Kp S a b) (o : Obj) : Kp S a (b.alloc o) :=
  h.trans ⟨rfl, rfl, rfl, by simp, fun k hk _ => Below.heap_alloc b o k hk⟩
theorem Kp.setCell {S : Nat → Prop} {a b : World} (h : Kp S a b) (p : Addr) (v : Value) (hp : p.block < a.heap.size → S p.block) : Kp S a (b.setCell p v) :=
  ⟨h.os, h.tape, h.output, by simp [World.setCell]; exact h.size, fun k hk hn => (Below.heap_setCell b p v k (by rintro rfl; exact hn (hp hk))).trans (h.block k hk hn)⟩
theorem Kp.to_below {S : Nat → Prop} {a b : World} (h : Kp S a b) {B : Nat} (hB : B ≤ a.heap.size) (hs : ∀ k, S k → B ≤ k) : Below B a b :=
  ⟨h.os, h.tape, h.output, h.size, fun k hk => h.block k (Nat.lt_of_lt_of_le hk hB) (fun h' => by have := hs k h'; omega)⟩
theorem alloc_new (w : World) (o : Obj) : (w.alloc o).heap[w.heap.size]? = some o := by
  show (w.heap.push o)[w.heap.size]? = _
  simp

theorem setCell_at {w : World} {g : Nat} {c : Array Value} {e : TypeId} {fr : Nat × Nat} (h : w.heap[g]? = some (.cells c e fr)) (o : Nat) (v : Value) :
    (w.setCell ⟨g, o, none⟩ v).heap[g]? = some (.cells (c.setIfInBounds o v) e fr) := by
  simp [World.setCell, Array.getElem?_modify, h]

/-- A row of pairs in block r (type E), with room for cap. -/
structure QRow (E : Nat) (w : World) (r cap : Nat) (l : List Ent) : Prop where
  ex : ∃ cur, w.heap[r]? = some (.cells cur E (0, 0)) ∧ cur.size = cap * 2 ∧ ∀ i, i < l.length → cur[i * 2]? = some (.int .i64 (at_ l i).1) ∧ cur[i * 2 + 1]? = some (.int .i64 (at_ l i).2)
  le : l.length ≤ cap
  cap_le : cap ≤ maxLen

section
variable {E : Nat} {w w' : World} {r cap : Nat} {l : List Ent}
theorem QRow.at_world (h : QRow E w r cap l) (hb : w'.heap[r]? = w.heap[r]?) : QRow E w' r cap l := ⟨by rw [hb]; exact h.ex, h.le, h.cap_le⟩
theorem QRow.lt (h : QRow E w r cap l) : r < w.heap.size := by
  obtain ⟨cur, hc, _⟩ := h.ex
  exact (Array.getElem?_eq_some_iff.1 hc).1
theorem QRow.kp {S : Nat → Prop} (h : QRow E w r cap l) (hk : Kp S w w') (hn : ¬ S r) : QRow E w' r cap l := h.at_world (hk.block r h.lt hn)
/-- A pair is written over another one. -/
theorem QRow.set (h : QRow E w r cap l) (i : Nat) (hi : i < l.length) (x : Ent) :
    QRow E ((w.setCell ⟨r, i * 2, none⟩ (.int .i64 x.1)).setCell ⟨r, i * 2 + 1, none⟩ (.int .i64 x.2)) r cap (l.set i x) := by
  obtain ⟨cur, hc, hs, hx⟩ := h.ex
  refine ⟨⟨_, setCell_at (setCell_at hc _ _) _ _, by simp [hs], fun j hj => ?_⟩, by simpa using h.le, h.cap_le⟩
  have hj' : j < l.length := by simpa using hj
  have hle := h.le
  rw [at_set l i x hi]
  simp only [Array.getElem?_setIfInBounds, Array.size_setIfInBounds]
  by_cases e : i = j
  · subst e
    rw [if_neg (by omega), if_pos rfl, if_pos (by omega), if_pos rfl]
    exact ⟨rfl, by rw [if_pos rfl, if_pos (by omega)]⟩
  · rw [if_neg (by omega), if_neg (by omega), if_neg e, if_neg (by omega), if_neg (by omega)]
    exact hx j hj'
/-- The last one is taken away. -/
theorem QRow.take (h : QRow E w r cap l) (n : Nat) : QRow E w r cap (l.take n) := by
  obtain ⟨cur, hc, hs, hx⟩ := h.ex
  refine ⟨⟨cur, hc, hs, fun i hi => ?_⟩, ?_, h.cap_le⟩
  · have h1 : i < n ∧ i < l.length := by rw [List.length_take] at hi; omega
    rw [at_take l n i h1.1]
    exact hx i h1.2
  · have := h.le; rw [List.length_take]; omega

end

/-- A queue at block g: what it holds, up to order, is m; ro: its row's block (none: there is none yet). -/
structure IsQ (TQ TE : Nat) (w : World) (g : Nat) (ro : Option Nat) (m : List Ent) : Prop where
  ex : ∃ v l, w.heap[g]? = some (.cells #[v] TQ (0, 0)) ∧ l.Perm m ∧ Heap l l.length ∧
    ((ro = none ∧ v = .slice none 0 0 ∧ l = []) ∨ ∃ r cap, ro = some r ∧ v = .slice (some ⟨r, 0, none⟩) l.length cap ∧ QRow TE w r cap l ∧ r ≠ g)

section
variable {TQ TE : Nat} {w w' : World} {g : Nat} {ro : Option Nat} {m m' : List Ent}
theorem IsQ.lt (h : IsQ TQ TE w g ro m) : g < w.heap.size := by
  obtain ⟨v, l, h1, _⟩ := h.ex
  exact (Array.getElem?_eq_some_iff.1 h1).1
theorem IsQ.kp {S : Nat → Prop} (h : IsQ TQ TE w g ro m) (hk : Kp S w w') (hg : ¬ S g) (hr : ∀ r, ro = some r → ¬ S r) : IsQ TQ TE w' g ro m := by
  obtain ⟨v, l, h1, h2, h3, h4⟩ := h.ex
  have hgl := h.lt
  refine ⟨⟨v, l, (hk.block g hgl hg).trans h1, h2, h3, ?_⟩⟩
  rcases h4 with h4 | ⟨r, cap, e, hv, h5, h6⟩
  · exact .inl h4
  · exact .inr ⟨r, cap, e, hv, h5.kp hk (hr r e), h6⟩
theorem IsQ.drewN (h : IsQ TQ TE w g ro m) (n : Nat) : IsQ TQ TE (w.drewN n) g ro m := h.kp (S := fun _ => False) ((Kp.refl _ _).drewN n) (fun h => h) (fun _ _ h => h)

end

end Go.Proofs.Ytonpcolkmecddaa.QR
