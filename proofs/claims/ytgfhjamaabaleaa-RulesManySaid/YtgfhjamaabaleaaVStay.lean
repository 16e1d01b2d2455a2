/- Facts that stay while only new blocks are made. -/
import Derived.Test.YtgfhjamaabaleaaVWWords
import Derived.WalkKit
set_option linter.unusedVariables false
namespace Go.Proofs.Ytgfhjamaabaleaa.Stay
open Go Go.RowKit Go.Proofs.YtgfhjamaabaleaaW.PrintWords
/-- From a to b nothing that was there has been written. -/
abbrev Ch (a b : World) : Prop := Below a.heap.size a b
theorem Ch.trans {a b c : World} (h : Ch a b) (k : Ch b c) : Ch a c := Below.trans h (Below.mono k h.size)
theorem Ch.rfl' (a : World) : Ch a a := Below.refl _ _
theorem Ch.drewN (a : World) (n : Nat) : Ch a (a.drewN n) := ⟨rfl, rfl, rfl, Nat.le_refl _, fun _ _ => rfl⟩
/-- Q holds, and goes on holding. -/
def St (Q : World → Prop) (w : World) : Prop := ∀ v, Ch w v → Q v
theorem St.step {Q : World → Prop} {w v : World} (h : St Q w) (k : Ch w v) : St Q v := fun u hu => h u (k.trans hu)
theorem St.and {Q R : World → Prop} {w : World} (h : St Q w) (k : St R w) : St (fun v => Q v ∧ R v) w := fun u hu => ⟨h u hu, k u hu⟩
theorem St.now {Q : World → Prop} {w : World} (h : St Q w) : Q w := h w (Ch.rfl' w)
theorem St.c {α : Type} {d : Kd α} {w : World} {A : Option Addr} {n : Nat} {xs : List α} (h : d.C w A n xs) : St (fun v => d.C v A n xs) w := fun _ k => Kd.C_below h k
theorem St.below {B : Nat} {w0 w : World} (h : Below B w0 w) (hB : B ≤ w.heap.size) : St (fun v => Below B w0 v) w := fun _ k => h.trans (k.mono hB)
theorem St.heap {w : World} {r : Nat} {o : Obj} (h : w.heap[r]? = some o) : St (fun v => v.heap[r]? = some o) w := fun v k => by
  show v.heap[r]? = some o
  rw [k.block r (Array.getElem?_eq_some_iff.1 h).1]; exact h
theorem St.r {α : Type} {d : Kd α} {e B : Nat} {w : World} {ok : Nat → Prop} {v : Value} {xs : List α} (h : d.R e w B ok v xs) : ∃ A c, v = .slice A xs.length c ∧ xs.length ≤ c ∧ St (fun u => d.C u A xs.length xs) w := by
  obtain ⟨A, c, e, h1, h2⟩ := Kd.R_reads h
  exact ⟨A, c, e, h1, St.c h2⟩
end Go.Proofs.Ytgfhjamaabaleaa.Stay
