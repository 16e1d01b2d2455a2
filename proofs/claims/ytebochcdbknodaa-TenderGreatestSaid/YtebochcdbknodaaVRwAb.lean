/- Short names for steps that printed proofs say over and over: each is a fact whose proof is found by the same few steps. -/
import Derived.Test.YtebochcdbknodaaVRwA
set_option linter.unusedVariables false
namespace Go.Proofs.Ytebochcdbknodaa.Rw
open Go Go.RowKit Go.Proofs.YtebochcdbknodaaW.PrintWords Go.Proofs.YtebochcdbknodaaW.PrintMore
theorem am_ {p : Prop} (h : p := by (try simp only [List.map_toArray, List.map_cons, List.map_nil]); first | done | rfl | (simp only [List.length_drop, List.length_take]; rfl)) : p := h
theorem as_ {p : Prop} (h : p := by first | (with_reducible assumption) | assumption) : p := h
theorem rf_ {p : Prop} (h : p := by first | rfl | (simp; done) | (simp [*]; done)) : p := h
theorem pu_ {p : Prop} (h : p := by simp only [Act.put, List.setIfInBounds_toArray, List.set_cons_zero, List.set_cons_succ, i64_w, i32_w]; rfl) : p := h
theorem bb_ {g : Nat} {o : Obj} {wA wB wC : World} (x : Aside0 (wA.heap[g]? = some o)) (hb : Below wB.heap.size wB wC) (h : wA.heap[g]? = some o → wB.heap[g]? = some o := by intro h_; (with_reducible repeat (first | refine blk_drewN ?_ _ | refine blk_drew ?_ | refine blk_alloc ?_ _)); exact h_) : wC.heap[g]? = some o := blk_below (h x.out) hb
theorem nl_ {g g' : Nat} {o : Obj} {wA wB : World} (x : Aside0 (wA.heap[g]? = some o)) (hg : g' = wB.heap.size) (h : wA.heap[g]? = some o → wB.heap[g]? = some o := by intro h_; (with_reducible repeat (first | refine blk_drewN ?_ _ | refine blk_drew ?_ | refine blk_alloc ?_ _)); exact h_) : g ≠ g' := by rw [hg]; exact Nat.ne_of_lt (blk_lt (h x.out))
theorem ng_ {g g' : Nat} {o : Obj} {wA wB : World} (x : Aside0 (wA.heap[g]? = some o)) (hg : g' = wB.heap.size) (h : wA.heap[g]? = some o → wB.heap[g]? = some o := by intro h_; (with_reducible repeat (first | refine blk_drewN ?_ _ | refine blk_drew ?_ | refine blk_alloc ?_ _)); exact h_) : g' ≠ g := by rw [hg]; exact Nat.ne_of_gt (blk_lt (h x.out))
theorem hb0_ {p q : Prop} (x : Aside0 q) (h : q → p := by intro h_; repeat (first | (with_reducible first | exact h_ | apply below_alloc | apply pw_below_drewN | apply below_drew1) | exact h_)) : p := h x.out
theorem hb1_ {p q r : Prop} (x : Aside0 q) (y : Aside0 r) (h : q → r → p := by intro h_ g_; repeat (first | (with_reducible first | exact h_ | apply below_alloc | apply pw_below_drewN | apply below_drew1 | refine below_set ?_ g_) | exact h_)) : p := h x.out y.out
theorem hb2_ {p q r s : Prop} (x : Aside0 q) (y : Aside0 r) (z : Aside0 s) (h : q → r → s → p := by intro h_ g_ g2_; repeat (first | (with_reducible first | exact h_ | apply below_alloc | apply pw_below_drewN | apply below_drew1 | refine below_set ?_ g_ | refine below_set ?_ g2_) | exact h_)) : p := h x.out y.out z.out
theorem ge_ {w wA W : World} {g : Nat} (x : Aside0 (Below w.heap.size w wA)) (hg : g = W.heap.size) (h : Below w.heap.size w W) : w.heap.size ≤ g := by rw [hg]; exact below_size h
theorem hc_ {w w' : World} {a : Addr} {v : Value} {p : Prop} (x : Aside0 (Below w.heap.size w w')) (h : w.cell? a = some v) (e : w'.cell? a = some v → p := by exact fun e_ => e_) : p := e ((x.out.cell (World.block_lt_of_cell? w _ h)).trans h)
theorem ro_ {p q : Prop} (x : Aside0 q) (h : q → p := by intro h_; (with_reducible repeat (first | apply Kd.R_alloc | apply Kd.R_drewN | apply Kd.R_drew)); exact h_) : p := h x.out
theorem cz3_ {w : World} {g : Nat} {t : TypeId} {a0 a1 a2 : Value} (x : Aside0 (w.heap[g]? = some (.cells #[a0, a1, a2] t (0, 0)))) : w.cell? ⟨g, 0, none⟩ = some a0 ∧ w.cell? ⟨g, 1, none⟩ = some a1 ∧ w.cell? ⟨g, 2, none⟩ = some a2 := ⟨(blk_cell x.out 0).trans rfl, (blk_cell x.out 1).trans rfl, (blk_cell x.out 2).trans rfl⟩
theorem fz3_ {w : World} {g : Nat} {t : TypeId} {cs : Array Value} (x : Aside0 (w.heap[g]? = some (.cells cs t (0, 0)))) : w.frozen? ⟨g, 0, none⟩ = false ∧ w.frozen? ⟨g, 1, none⟩ = false ∧ w.frozen? ⟨g, 2, none⟩ = false := ⟨blk_frozen x.out 0, blk_frozen x.out 1, blk_frozen x.out 2⟩
theorem nf_ : ¬ (false = true) := by decide
theorem hd_ {w w' : World} {a : Addr} {v : Value} (x : Aside0 (Below w.heap.size w w')) (h : w.cell? a = some v) : w'.cell? a = some v := (x.out.cell (World.block_lt_of_cell? w _ h)).trans h
theorem nh_ {p : Prop} (h : p := by exact fun _ _ _ h_ => h_) : p := h
section
open Go.Proofs.YtebochcdbknodaaW.PrintLast
variable {md : Region.Mode} {ops : Array Oper} {T : Bool × List (List Nat × List Nat)} {B ds : List Nat} {l l' : Array Bool} {i : Nat}
theorem an_ (hT : Aside0 (rtab md ops = T)) (h : anyT T l.toList l'.toList i = true := by kernel_rfl) : anyB md ops l l' i = true := any_of hT.out h
theorem on_ (hT : Aside0 (rtab md ops = T)) (h : (readyT T.2 l.toList == [i] && l.toList.set i true == l'.toList) = true := by kernel_rfl) : readyB md ops l l' i = true := one_of hT.out h
theorem tw_ (hT : Aside0 (rtab md ops = T)) (hB : Aside0 (waitsOk T.2 B = true)) (h : takeW T B ds l.toList l'.toList i = true := by kernel_rfl) : takeB md ops ds l l' i = true := take_ofW hT.out hB.out h
end
theorem kr_ {p : Prop} (h : p := by kernel_rfl) : p := h
theorem de_ {p : Prop} (h : p := by decide) : p := h
theorem ry_ {p : Prop} (h : p := by rfl) : p := h
theorem ru_ {p q r : Prop} (h1 : p := by rfl) (h2 : q := by rfl) : r ∨ (p ∧ q) := Or.inr ⟨h1, h2⟩
theorem om_ {p : Prop} (h : p := by first | omega | exact Nat.le_refl _) : p := h
theorem er_ {p : Prop} (h : p := by first | rfl | (simp [errW_none, errW_some] <;> rfl) | (simp [*, errW_none, errW_some] <;> rfl)) : p := h
theorem cl_ {w : World} {g : Nat} {t : TypeId} {cs : Array Value} {v : Option Value} (x : Aside0 (w.heap[g]? = some (.cells cs t (0, 0)))) (i : Nat) (h : cs[i]? = v := by rfl) : w.cell? ⟨g, i, none⟩ = v := (blk_cell x.out i).trans h
end Go.Proofs.Ytebochcdbknodaa.Rw
