/- What came in, opened by its type: each kind reads its data. -/
import Derived.Test.YtdmeepjefccpgaaVWWords
import Derived.Deep.Slices
import Derived.WideLaws
import Derived.ProofKit
set_option linter.unusedVariables false
set_option linter.unusedSimpArgs false
namespace Go.Proofs.Ytdmeepjefccpgaa.OK
open Go Go.RowKit Go.ChangeShapes Go.WideShapes Go.Deep Go.Proofs.YtdmeepjefccpgaaW.PrintWords

/-- Data of type t are of kind d, and good. -/
structure Op {α : Type} (P : Program) (d : Kd α) (t : TypeId) (good : α → Prop) : Prop where
  go : ∀ {H : Type} {enc : TypeId × Value → H} {w : World} {base : Nat} {spare : Nat → Bool} {held : Bool} {n : Nat} {cs : List Value} {x : DataW H × List MemPlace}, DataW.trod enc P w base spare held n t cs = some x → ∃ a, d.K w a cs ∧ good a

section
variable {P : Program}
theorem op_int {t : TypeId} {k : IntKind} (h : P.underlying t = some (.int k)) : Op P (Kd.int k) t (fun n => (Lit.int k n).wf = true) :=
  ⟨fun hh => by
    obtain ⟨n, rfl, _, hw⟩ := DataW.trod_int h hh
    exact ⟨n, rfl, hw⟩⟩
theorem op_bool {t : TypeId} (h : P.underlying t = some .bool) : Op P Kd.bool t (fun _ => True) :=
  ⟨fun hh => by
    obtain ⟨b, rfl, _⟩ := DataW.trod_bool h hh
    exact ⟨b, rfl, trivial⟩⟩
theorem op_string {t : TypeId} (h : P.underlying t = some .string) : Op P Kd.string t (fun s => s.size ≤ 9223372036854775807) :=
  ⟨fun hh => by
    obtain ⟨s, rfl, _, hs⟩ := DataW.trod_string h hh
    exact ⟨s, rfl, hs⟩⟩
theorem list_of {α : Type} (Q : Nat → α → Prop) (n : Nat) (h : ∀ i, i < n → ∃ a, Q i a) : ∃ xs : List α, xs.length = n ∧ ∀ i p, xs[i]? = some p → Q i p := by
  induction n with
  | zero => exact ⟨[], rfl, fun i p h => by simp at h⟩
  | succ n ih =>
    obtain ⟨xs, hl, hx⟩ := ih (fun i hi => h i (by omega))
    obtain ⟨a, ha⟩ := h n (by omega)
    refine ⟨xs ++ [a], by simp [hl], fun i p hp => ?_⟩
    rcases Nat.lt_or_ge i n with hi | hi
    · rw [List.getElem?_append_left (by omega)] at hp
      exact hx i p hp
    · have : i < (xs ++ [a]).length := (List.getElem?_eq_some_iff.1 hp).1
      have : i = n := by simp at this; omega
      subst this
      rw [List.getElem?_append_right (by omega)] at hp
      simp [hl] at hp
      exact hp ▸ ha
theorem op_slice {α : Type} {d : Kd α} {good : α → Prop} {t e e' : TypeId} (h : P.underlying t = some (.slice e)) (hd : Op P d e good) (hsz : P.cellsOf e = d.sz) : Op P (Kd.slice e' d) t (fun xs => xs.length ≤ 9223372036854775807 ∧ ∀ x ∈ xs, good x) :=
  ⟨fun {H enc w base spare held n cs x} hh => by
    rcases open_slice h hh with ⟨rfl, _⟩ | ⟨a, len, cap, m, n', D, Pl, rfl, _, hl, hm, hmm, _, hi⟩
    · exact ⟨[], ⟨none, 0, rfl, Nat.le_refl _, rfl, by simp, fun h => absurd h (by simp)⟩, by simp, fun x hx => by simp at hx⟩
    · have hlm : len ≤ m := by rw [hmm]; split <;> omega
      obtain ⟨xs, hxl, hx⟩ := list_of (fun i p => ∃ c, c.length = d.sz ∧ d.K w p c ∧ good p ∧ ∀ j u, c[j]? = some u → w.cell? (a.add (i * d.sz + j)) = some u) len (fun i hil => by
        obtain ⟨cs', hc, ht⟩ := hi i (by omega)
        obtain ⟨p, hp, hg⟩ := hd.go ht
        obtain ⟨_, hcl, hat⟩ := World.cells?_some hc
        refine ⟨p, cs', d.K_len hp, hp, hg, fun j u hu => ?_⟩
        have hj : j < P.cellsOf e := by rw [← hcl]; exact (List.getElem?_eq_some_iff.1 hu).1
        have := hat j hj
        rw [hu] at this
        rw [← hsz, ← Go.Deep.add_add]
        exact this)
      refine ⟨xs, ⟨some a, cap, by rw [hxl], by omega, rfl, by have := hm; unfold maxLen at this; omega, fun _ => ⟨a, rfl, fun j p hp => ?_⟩⟩, ?_, fun p hp => ?_⟩
      · obtain ⟨c, h1, h2, _, h3⟩ := hx j p hp
        exact ⟨c, h1, h2, h3⟩
      · have := hm; unfold maxLen at this; omega
      · obtain ⟨j, hj, rfl⟩ := List.getElem_of_mem hp
        obtain ⟨c, _, _, h3, _⟩ := hx j _ (List.getElem?_eq_getElem hj)
        exact h3⟩

/-- Fields in line, from offset off on. -/
structure OpS {α : Type} (P : Program) (d : Kd α) (fs : List Field) (off : Nat) (good : α → Prop) : Prop where
  go : ∀ {H : Type} {enc : TypeId × Value → H} {w : World} {base : Nat} {spare : Nat → Bool} {held : Bool} {n : Nat} {cs : List Value}, (∀ f ∈ fs, ∃ y, DataW.trod enc P w base spare held n f.type ((cs.drop f.offset).take (P.cellsOf f.type)) = some y) → cs.length = off + d.sz → ∃ a, d.K w a (cs.drop off) ∧ good a
theorem ops_last {α : Type} {d : Kd α} {good : α → Prop} {f : Field} {off : Nat} (hf : f.offset = off) (h : Op P d f.type good) (hsz : P.cellsOf f.type = d.sz) : OpS P d [f] off good :=
  ⟨fun hh hl => by
    obtain ⟨y, hy⟩ := hh f List.mem_cons_self
    rw [hf, hsz, List.take_of_length_le (by rw [List.length_drop]; omega)] at hy
    exact h.go hy⟩
theorem ops_cons {α β : Type} {a : Kd α} {b : Kd β} {g1 : α → Prop} {g2 : β → Prop} {f : Field} {fs : List Field} {off : Nat} (hf : f.offset = off) (h : Op P a f.type g1) (hsz : P.cellsOf f.type = a.sz) (r : OpS P b fs (off + a.sz) g2) :
    OpS P (Kd.pair a b) (f :: fs) off (fun x => g1 x.1 ∧ g2 x.2) :=
  ⟨fun {H enc w base spare held n cs} hh hl => by
    obtain ⟨y, hy⟩ := hh f List.mem_cons_self
    rw [hf, hsz] at hy
    obtain ⟨x1, hx1, hg1⟩ := h.go hy
    obtain ⟨x2, hx2, hg2⟩ := r.go (fun f' hf' => hh f' (List.mem_cons_of_mem _ hf')) (by rw [hl]; show off + (a.sz + b.sz) = _; omega)
    refine ⟨(x1, x2), ⟨_, _, ?_, hx1, hx2⟩, hg1, hg2⟩
    rw [← List.drop_drop, List.take_append_drop]⟩
theorem op_struct {α β : Type} {d : Kd α} {good : α → Prop} {t : TypeId} {fs : Array Field} (f : β → α) (g : α → β) (hg : ∀ a, f (g a) = a) (h : P.underlying t = some (.struct fs)) (hs : OpS P d fs.toList 0 good) (hsz : P.cellsOf t = d.sz) :
    Op P (Kd.iso d f) t (fun x => good (f x)) :=
  ⟨fun {H enc w base spare held n cs x} hh => by
    obtain ⟨xs, n', _, _, hl, hxl, hf⟩ := DataW.trod_struct h hh
    obtain ⟨a, ha, hga⟩ := hs.go (w := w) (enc := enc) (base := base) (spare := spare) (held := held) (n := n') (cs := cs) (fun fd hfd => by
      obtain ⟨i, hi, rfl⟩ := List.getElem_of_mem hfd
      have hi' : i < fs.size := by simpa using hi
      have := hf i fs[i] (Array.getElem?_eq_getElem hi')
      refine ⟨xs[i]'(by omega), ?_⟩
      simp only [Array.getElem_toList]
      rw [this, List.getElem?_eq_getElem]) (by rw [hl, hsz, Nat.zero_add])
    refine ⟨g a, ?_, by rw [hg]; exact hga⟩
    show d.K w (f (g a)) cs
    rw [hg]
    exact ha⟩
end
end Go.Proofs.Ytdmeepjefccpgaa.OK
