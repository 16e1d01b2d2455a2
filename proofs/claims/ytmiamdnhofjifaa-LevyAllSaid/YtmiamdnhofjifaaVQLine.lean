/- A queue told by its line, who is ahead first: looking at it, and taking one out. -/
import Derived.Test.YtmiamdnhofjifaaProg
import Derived.Below
import Derived.Deep.Draws
import Derived.Deep.AppendLies
import Derived.Maps.AppendAt
import Derived.OwnWalk
import Derived.Laws.BytesArg
import Derived.Laws.MakeOwn
import Derived.Laws.OwnMore
import Derived.Deep.OwnRows
import Derived.Tactics
import Derived.Lib.ConvBytes
import Derived.Laws.Slices
import Derived.WalkKit
import Derived.KernelRfl
import Derived.RowKit3
import Derived.Deep.LoopGhost
import Derived.Deep.QuietTactic
import Derived.BigQuiet
import Derived.WideLaws
import Derived.Deep.DeepCutAuto
import Derived.Deep.CutBlock
import Derived.Deep.RegionHeld3
import Derived.Laws.Rows
import Derived.Lib.AppendStr
import Derived.ArgAppend
import Derived.Laws.IdiomCopy
import Derived.OrdersHeld
import Derived.Laws.BitsLemmas
import Derived.RowKit
import Derived.BigRegion
import Derived.Outline
import Derived.RegionTactic
import Derived.StillTailTactics
import Derived.Deep.RegionLaw
import Derived.Test.YtmiamdnhofjifaaVQTop2
import Derived.Test.YtmiamdnhofjifaaVQSpec
import Derived.Test.YtmiamdnhofjifaaVRwA
set_option linter.unusedVariables false
set_option linter.unusedSimpArgs false
namespace Go.Proofs.Ytmiamdnhofjifaa.QL2
open Go Go.RowKit Go.Proofs.YtmiamdnhofjifaaW.PrintWords Go.Proofs.Ytmiamdnhofjifaa.QM Go.Proofs.Ytmiamdnhofjifaa.QR Go.Proofs.Ytmiamdnhofjifaa.QW

/-- What is told of a line: its first pair. -/
def pk : List Ent → Int × Int × Bool
  | [] => (0, 0, false)
  | x :: _ => (x.1, x.2, true)
theorem line_some {m : List Ent} (h : 0 < m.length) : ∃ x t, line m = x :: t := by
  cases h2 : line m with
  | nil => have := line_length m; rw [h2] at this; simp at this; omega
  | cons x t => exact ⟨x, t, rfl⟩
theorem peek_line {g : Nat} {ro : Option Nat} {m : List Ent} {w : World} (h : IsQ 92 96 w g ro m) (hb : m.length ≤ 2000000000) :
    Calls Try.prog 41 #[.pointer (some ⟨g, 0, none⟩)] w fun e w' => e = .returned (.tuple #[.int .i64 (pk (line m)).1, .int .i64 (pk (line m)).2.1, .bool (pk (line m)).2.2]) ∧ ∃ k, w' = w.drewN k := by
  rcases Nat.eq_zero_or_pos m.length with h0 | h0
  · obtain rfl := List.eq_nil_of_length_eq_zero h0
    refine (peek_empty h).mono ?_
    rintro e w' ⟨rfl, rfl⟩
    exact ⟨rfl, 0, rfl⟩
  · refine (peek_calls h h0 hb).mono ?_
    rintro e w' ⟨x, rfl, h1, h2, h3⟩
    have h4 := line_head h1 h2
    cases h5 : line m with
    | nil => rw [h5] at h4; cases h4
    | cons y t =>
      rw [h5] at h4
      cases h4
      exact ⟨rfl, h3⟩
theorem pop_line {g : Nat} {ro : Option Nat} {m : List Ent} {w : World} {x : Ent} {t : List Ent} (h : IsQ 92 96 w g ro m) (hl : line m = x :: t) (hb : m.length ≤ 2000000000) :
    Calls Try.prog 42 #[.pointer (some ⟨g, 0, none⟩)] w fun e w' => e = .returned (.tuple #[.int .i64 x.1, .int .i64 x.2, .bool true]) ∧ ∃ m', line m' = t ∧ m.length = m'.length + 1 ∧ IsQ 92 96 w' g ro m' ∧ Kp (fun k => k = g ∨ some k = ro) w w' := by
  have h0 : 0 < m.length := by rw [← line_length, hl]; simp
  refine (pop_calls h h0 hb).mono ?_
  rintro e w' ⟨y, m', rfl, h1, h2, h3, h4⟩
  have h5 := line_first h1 h2
  rw [hl] at h5
  obtain ⟨rfl, rfl⟩ := List.cons.inj h5
  exact ⟨rfl, m', rfl, by have := h1.length_eq; simpa using this, h3, h4⟩

/-- A queue's blocks are of its own types. -/
theorem q_types {TQ TE : Nat} {w : World} {g : Nat} {ro : Option Nat} {m : List Ent} (h : IsQ TQ TE w g ro m) : ∀ k, (k = g ∨ some k = ro) → ∀ cells q fr, w.heap[k]? = some (.cells cells q fr) → q = TQ ∨ q = TE := by
  obtain ⟨v', l, hq, _, _, h4⟩ := h.ex
  rintro k (rfl | hk) cells q fr hc
  · rw [hq] at hc
    injection hc with hc
    injection hc with _ hc
    exact .inl hc.symm
  · rcases h4 with ⟨e4, _⟩ | ⟨r', cap', e4, _, h5, _⟩
    · rw [e4] at hk; cases hk
    · rw [e4] at hk
      cases hk
      obtain ⟨cur', hc', _⟩ := h5.ex
      rw [hc'] at hc
      injection hc with hc
      injection hc with _ hc
      exact .inr hc.symm
/-- A block of another type is none of a queue's. -/
theorem q_off {TQ TE : Nat} {w : World} {g : Nat} {ro : Option Nat} {m : List Ent} (h : IsQ TQ TE w g ro m) {k : Nat} {cells : Array Value} {q : Nat} {fr : Nat × Nat} (hc : w.heap[k]? = some (.cells cells q fr)) (h1 : q ≠ TQ) (h2 : q ≠ TE) : ¬ (k = g ∨ some k = ro) := fun hk => by
  rcases q_types h k hk _ _ _ hc with e | e
  · exact h1 e
  · exact h2 e
/-- A row of one's own beside what turns elsewhere. -/
theorem R_kp {α : Type} {d : Kd α} {e : Nat} {w w1 : World} {base : Nat} {ok : Nat → Prop} {v : Value} {xs : List α} {S : Nat → Prop} (h : d.R e w base ok v xs) (hk : Kp S w w1) (hS : ∀ k, ok k → S k → ∀ cells q fr, w.heap[k]? = some (.cells cells q fr) → q ∉ e :: d.E) : d.R e w1 base ok v xs :=
  Kd.R_mono (Kd.R_move (Kd.R_bound h) (fun k hk' => hk.block k hk'.2.2.1 (fun hs => by
    obtain ⟨ho, _, _, q, hq, cells, hc⟩ := hk'
    exact hS k ho hs _ _ _ hc hq))) (fun _ h => h.1)
/-- A queue beside what turns elsewhere: in blocks of other types. -/
theorem q_kp {TQ TE : Nat} {w w1 : World} {g : Nat} {ro : Option Nat} {m : List Ent} {S : Nat → Prop} (h : IsQ TQ TE w g ro m) (hk : Kp S w w1) (hS : ∀ k, S k → k < w.heap.size → ∃ cells q fr, w.heap[k]? = some (.cells cells q fr) ∧ q ≠ TQ ∧ q ≠ TE) : IsQ TQ TE w1 g ro m := by
  refine h.kp hk (fun hs => ?_) (fun r hr hs => ?_)
  · obtain ⟨cells, q, fr, hc, h1, h2⟩ := hS g hs h.lt
    exact q_off h hc h1 h2 (.inl rfl)
  · obtain ⟨cells, q, fr, hc, h1, h2⟩ := hS r hs (h.row_lt hr)
    exact q_off h hc h1 h2 (.inr hr.symm)
end Go.Proofs.Ytmiamdnhofjifaa.QL2
