/- Short names for steps that printed proofs say over and over: each is a fact whose proof is found by the same few steps. -/
import Derived.Test.YtdmeepjefccpgaaVRwA
set_option linter.unusedVariables false
namespace Go.Proofs.Ytdmeepjefccpgaa.Rw
open Go Go.RowKit Go.Proofs.YtdmeepjefccpgaaW.PrintWords Go.Proofs.YtdmeepjefccpgaaW.PrintMore
theorem am_ {p : Prop} (h : p := by (try simp only [List.map_toArray, List.map_cons, List.map_nil]); first | done | rfl | (simp only [List.length_drop, List.length_take]; rfl)) : p := h
theorem as_ {p : Prop} (h : p := by first | (with_reducible assumption) | assumption) : p := h
theorem rf_ {p : Prop} (h : p := by first | rfl | (simp; done) | (simp [*]; done)) : p := h
theorem pu_ {p : Prop} (h : p := by simp only [Act.put, List.setIfInBounds_toArray, List.set_cons_zero, List.set_cons_succ, i64_w, i32_w]; rfl) : p := h
theorem bk_ {p q : Prop} (x : Aside0 q) (h : q → p := by intro h_; (with_reducible repeat (first | refine blk_drewN ?_ _ | refine blk_drew ?_ | refine blk_alloc ?_ _)); exact h_) : p := h x.out
theorem bb_ {g : Nat} {o : Obj} {wA wB wC : World} (x : Aside0 (wA.heap[g]? = some o)) (hb : Below wB.heap.size wB wC) (h : wA.heap[g]? = some o → wB.heap[g]? = some o := by intro h_; (with_reducible repeat (first | refine blk_drewN ?_ _ | refine blk_drew ?_ | refine blk_alloc ?_ _)); exact h_) : wC.heap[g]? = some o := blk_below (h x.out) hb
theorem nl_ {g g' : Nat} {o : Obj} {wA wB : World} (x : Aside0 (wA.heap[g]? = some o)) (hg : g' = wB.heap.size) (h : wA.heap[g]? = some o → wB.heap[g]? = some o := by intro h_; (with_reducible repeat (first | refine blk_drewN ?_ _ | refine blk_drew ?_ | refine blk_alloc ?_ _)); exact h_) : g ≠ g' := by rw [hg]; exact Nat.ne_of_lt (blk_lt (h x.out))
theorem ng_ {g g' : Nat} {o : Obj} {wA wB : World} (x : Aside0 (wA.heap[g]? = some o)) (hg : g' = wB.heap.size) (h : wA.heap[g]? = some o → wB.heap[g]? = some o := by intro h_; (with_reducible repeat (first | refine blk_drewN ?_ _ | refine blk_drew ?_ | refine blk_alloc ?_ _)); exact h_) : g' ≠ g := by rw [hg]; exact Nat.ne_of_gt (blk_lt (h x.out))
theorem hb0_ {p q : Prop} (x : Aside0 q) (h : q → p := by intro h_; repeat (first | (with_reducible first | exact h_ | apply below_alloc | apply pw_below_drewN | apply below_drew1) | exact h_)) : p := h x.out
theorem hb1_ {p q r : Prop} (x : Aside0 q) (y : Aside0 r) (h : q → r → p := by intro h_ g_; repeat (first | (with_reducible first | exact h_ | apply below_alloc | apply pw_below_drewN | apply below_drew1 | refine below_set ?_ g_) | exact h_)) : p := h x.out y.out
theorem hb2_ {p q r s : Prop} (x : Aside0 q) (y : Aside0 r) (z : Aside0 s) (h : q → r → s → p := by intro h_ g_ g2_; repeat (first | (with_reducible first | exact h_ | apply below_alloc | apply pw_below_drewN | apply below_drew1 | refine below_set ?_ g_ | refine below_set ?_ g2_) | exact h_)) : p := h x.out y.out z.out
theorem ge_ {w wA W : World} {g : Nat} (x : Aside0 (Below w.heap.size w wA)) (hg : g = W.heap.size) (h : Below w.heap.size w W) : w.heap.size ≤ g := by rw [hg]; exact below_size h
theorem ro_ {p q : Prop} (x : Aside0 q) (h : q → p := by intro h_; (with_reducible repeat (first | apply Kd.R_alloc | apply Kd.R_drewN | apply Kd.R_drew)); exact h_) : p := h x.out
theorem cz2_ {w : World} {g : Nat} {t : TypeId} {a0 a1 : Value} (x : Aside0 (w.heap[g]? = some (.cells #[a0, a1] t (0, 0)))) : w.cell? ⟨g, 0, none⟩ = some a0 ∧ w.cell? ⟨g, 1, none⟩ = some a1 := ⟨(blk_cell x.out 0).trans rfl, (blk_cell x.out 1).trans rfl⟩
theorem fz2_ {w : World} {g : Nat} {t : TypeId} {cs : Array Value} (x : Aside0 (w.heap[g]? = some (.cells cs t (0, 0)))) : w.frozen? ⟨g, 0, none⟩ = false ∧ w.frozen? ⟨g, 1, none⟩ = false := ⟨blk_frozen x.out 0, blk_frozen x.out 1⟩
theorem cz3_ {w : World} {g : Nat} {t : TypeId} {a0 a1 a2 : Value} (x : Aside0 (w.heap[g]? = some (.cells #[a0, a1, a2] t (0, 0)))) : w.cell? ⟨g, 0, none⟩ = some a0 ∧ w.cell? ⟨g, 1, none⟩ = some a1 ∧ w.cell? ⟨g, 2, none⟩ = some a2 := ⟨(blk_cell x.out 0).trans rfl, (blk_cell x.out 1).trans rfl, (blk_cell x.out 2).trans rfl⟩
theorem fz3_ {w : World} {g : Nat} {t : TypeId} {cs : Array Value} (x : Aside0 (w.heap[g]? = some (.cells cs t (0, 0)))) : w.frozen? ⟨g, 0, none⟩ = false ∧ w.frozen? ⟨g, 1, none⟩ = false ∧ w.frozen? ⟨g, 2, none⟩ = false := ⟨blk_frozen x.out 0, blk_frozen x.out 1, blk_frozen x.out 2⟩
theorem cz15_ {w : World} {g : Nat} {t : TypeId} {a0 a1 a2 a3 a4 a5 a6 a7 a8 a9 a10 a11 a12 a13 a14 : Value} (x : Aside0 (w.heap[g]? = some (.cells #[a0, a1, a2, a3, a4, a5, a6, a7, a8, a9, a10, a11, a12, a13, a14] t (0, 0)))) : w.cell? ⟨g, 0, none⟩ = some a0 ∧ w.cell? ⟨g, 1, none⟩ = some a1 ∧ w.cell? ⟨g, 2, none⟩ = some a2 ∧ w.cell? ⟨g, 3, none⟩ = some a3 ∧ w.cell? ⟨g, 4, none⟩ = some a4 ∧ w.cell? ⟨g, 5, none⟩ = some a5 ∧ w.cell? ⟨g, 6, none⟩ = some a6 ∧ w.cell? ⟨g, 7, none⟩ = some a7 ∧ w.cell? ⟨g, 8, none⟩ = some a8 ∧ w.cell? ⟨g, 9, none⟩ = some a9 ∧ w.cell? ⟨g, 10, none⟩ = some a10 ∧ w.cell? ⟨g, 11, none⟩ = some a11 ∧ w.cell? ⟨g, 12, none⟩ = some a12 ∧ w.cell? ⟨g, 13, none⟩ = some a13 ∧ w.cell? ⟨g, 14, none⟩ = some a14 := ⟨(blk_cell x.out 0).trans rfl, (blk_cell x.out 1).trans rfl, (blk_cell x.out 2).trans rfl, (blk_cell x.out 3).trans rfl, (blk_cell x.out 4).trans rfl, (blk_cell x.out 5).trans rfl, (blk_cell x.out 6).trans rfl, (blk_cell x.out 7).trans rfl, (blk_cell x.out 8).trans rfl, (blk_cell x.out 9).trans rfl, (blk_cell x.out 10).trans rfl, (blk_cell x.out 11).trans rfl, (blk_cell x.out 12).trans rfl, (blk_cell x.out 13).trans rfl, (blk_cell x.out 14).trans rfl⟩
theorem fz15_ {w : World} {g : Nat} {t : TypeId} {cs : Array Value} (x : Aside0 (w.heap[g]? = some (.cells cs t (0, 0)))) : w.frozen? ⟨g, 0, none⟩ = false ∧ w.frozen? ⟨g, 1, none⟩ = false ∧ w.frozen? ⟨g, 2, none⟩ = false ∧ w.frozen? ⟨g, 3, none⟩ = false ∧ w.frozen? ⟨g, 4, none⟩ = false ∧ w.frozen? ⟨g, 5, none⟩ = false ∧ w.frozen? ⟨g, 6, none⟩ = false ∧ w.frozen? ⟨g, 7, none⟩ = false ∧ w.frozen? ⟨g, 8, none⟩ = false ∧ w.frozen? ⟨g, 9, none⟩ = false ∧ w.frozen? ⟨g, 10, none⟩ = false ∧ w.frozen? ⟨g, 11, none⟩ = false ∧ w.frozen? ⟨g, 12, none⟩ = false ∧ w.frozen? ⟨g, 13, none⟩ = false ∧ w.frozen? ⟨g, 14, none⟩ = false := ⟨blk_frozen x.out 0, blk_frozen x.out 1, blk_frozen x.out 2, blk_frozen x.out 3, blk_frozen x.out 4, blk_frozen x.out 5, blk_frozen x.out 6, blk_frozen x.out 7, blk_frozen x.out 8, blk_frozen x.out 9, blk_frozen x.out 10, blk_frozen x.out 11, blk_frozen x.out 12, blk_frozen x.out 13, blk_frozen x.out 14⟩
theorem dq_ {p : Prop} (h : p := by first | exact ⟨rfl, _, World.drewN_drewN _ _ _⟩ | exact ⟨rfl, _, Eq.trans (World.drewN_drewN _ _ _) (congrArg (World.drewN _) (Nat.add_assoc _ _ _))⟩) : p := h
theorem nf_ : ¬ (false = true) := by decide
theorem hd_ {w w' : World} {a : Addr} {v : Value} (x : Aside0 (Below w.heap.size w w')) (h : w.cell? a = some v) : w'.cell? a = some v := (x.out.cell (World.block_lt_of_cell? w _ h)).trans h
theorem nh_ {p : Prop} (h : p := by exact fun _ _ _ h_ => h_) : p := h
section
open Go.Proofs.YtdmeepjefccpgaaW.PrintLast
variable {md : Region.Mode} {ops : Array Oper} {T : Bool × List (List Nat × List Nat)} {B ds : List Nat} {l l' : Array Bool} {i : Nat}
theorem pB_ {P : Program} {Q : Exit → Act → World → Prop} {S : World → Prop} {is : List (Nat × Nat)} {i n : Nat} {oi : Oper} {v : Value} {fuel : Nat} {l : Array Bool} {a : Act} {w : World} (hT : Aside0 (rtab md ops = T)) {a' : Act}
    (h : Ahead is (wpAnyLast P md ops Q S ds fuel (l.setIfInBounds i true) a' w)) (hi : ops[i]? = some oi := by rfl) (hN : oi.dst = some n := by rfl) (hc : anyT T l.toList (l.setIfInBounds i true).toList i = true := by kernel_rfl)
    (hQ : ∀ c a w, Q (.panic c) (a.put oi.dst v) w → Q (.panic c) a w := by exact fun _ _ _ h_ => h_) (hy : Yields P ops oi v a := by refine Or.inl ⟨by rfl, ?_⟩; intro w'; go_simp; with_reducible rfl) (ha : a.put (some n) v = a' := by exact pu_) :
    Ahead ((i, n) :: is) (wpAnyLast P md ops Q S ds (fuel + 1) l a w) := pA_ hi hN hT.out hc hQ hy ha h
theorem on_ (hT : Aside0 (rtab md ops = T)) (h : (readyT T.2 l.toList == [i] && l.toList.set i true == l'.toList) = true := by kernel_rfl) : readyB md ops l l' i = true := one_of hT.out h
theorem tw_ (hT : Aside0 (rtab md ops = T)) (hB : Aside0 (waitsOk T.2 B = true)) (h : takeW T B ds l.toList l'.toList i = true := by kernel_rfl) : takeB md ops ds l l' i = true := take_ofW hT.out hB.out h
end
theorem kr_ {p : Prop} (h : p := by kernel_rfl) : p := h
theorem de_ {p : Prop} (h : p := by decide) : p := h
theorem om_ {p : Prop} (h : p := by first | omega | exact Nat.le_refl _) : p := h
theorem er_ {p : Prop} (h : p := by first | rfl | (simp [errW_none, errW_some] <;> rfl) | (simp [*, errW_none, errW_some] <;> rfl)) : p := h
theorem bf1_ {p q r0 : Prop} (x : Aside0 q) (y0 : Aside0 r0) (h : q → r0 → p := by intro h_ n0_; (with_reducible repeat (first | refine blk_drewN ?_ _ | refine blk_drew ?_ | refine blk_alloc ?_ _)); refine blk_far ?_ n0_ _; (with_reducible repeat (first | refine blk_drewN ?_ _ | refine blk_drew ?_ | refine blk_alloc ?_ _)); exact h_) : p := h x.out y0.out
theorem bf3_ {p q r0 r1 r2 : Prop} (x : Aside0 q) (y0 : Aside0 r0) (y1 : Aside0 r1) (y2 : Aside0 r2) (h : q → r0 → r1 → r2 → p := by intro h_ n0_ n1_ n2_; (with_reducible repeat (first | refine blk_drewN ?_ _ | refine blk_drew ?_ | refine blk_alloc ?_ _)); refine blk_far ?_ n0_ _; (with_reducible repeat (first | refine blk_drewN ?_ _ | refine blk_drew ?_ | refine blk_alloc ?_ _)); refine blk_far ?_ n1_ _; (with_reducible repeat (first | refine blk_drewN ?_ _ | refine blk_drew ?_ | refine blk_alloc ?_ _)); refine blk_far ?_ n2_ _; (with_reducible repeat (first | refine blk_drewN ?_ _ | refine blk_drew ?_ | refine blk_alloc ?_ _)); exact h_) : p := h x.out y0.out y1.out y2.out
theorem blk_eq_ {w : World} {g : Nat} {t : TypeId} {cs cs2 : Array Value} (h : w.heap[g]? = some (.cells cs t (0, 0))) (e : cs = cs2) : w.heap[g]? = some (.cells cs2 t (0, 0)) := e ▸ h
theorem blk_setS_ {w : World} {g : Nat} {t : TypeId} {cs : Array Value} {i : Nat} {u : Value} (h : w.heap[g]? = some (.cells cs t (0, 0))) : (w.setCell ⟨g, i, none⟩ u).heap[g]? = some (.cells (cs.setIfInBounds i u) t (0, 0)) := blk_put h i u rfl
theorem bq0_ {p q : Prop} (x : Aside0 q) (h : q → p := by intro h_; apply blk_eq_; (case h => (repeat (first | (with_reducible exact h_) | (with_reducible refine blk_drewN ?_ _) | (with_reducible refine blk_drew ?_) | (with_reducible refine blk_alloc ?_ _) | (with_reducible apply blk_setS_)))); (case e => rfl)) : p := h x.out
section
variable {w W : World} {g g2 i : Nat} {u : Value}
end
section
variable {α : Type} {d : Kd α} {e base : Nat} {ok ok2 : Nat → Prop} {w W : World} {v : Value} {xs : List α} {g g2 t t2 : Nat} {cells cells2 : Array Value}
end
theorem cl_ {w : World} {g : Nat} {t : TypeId} {cs : Array Value} {v : Option Value} (x : Aside0 (w.heap[g]? = some (.cells cs t (0, 0)))) (i : Nat) (h : cs[i]? = v := by rfl) : w.cell? ⟨g, i, none⟩ = v := (blk_cell x.out i).trans h
theorem lr_ {p : Prop} (h : p := by first | (go_simp; done) | (go_simp; rfl)) : p := h
theorem pv_ {p : Prop} (h : p := by show Act.put _ (some _) _ = _; exact pu_) : p := h
theorem dr_ {p : Prop} (h : p := by repeat (first | exact Drawn0.refl _ | apply Drawn0.step)) : p := h
theorem ni_ {p : Prop} (h : p := by first | exact Kd.R_nil _ _ _ _ _ | exact Kd.N_nil _ _ _ _ _ | exact Kd.V_nil _ _ _ _ _ | exact Kd.Q_nil _ _ _ _ _ | exact Kd.S_nil _ _ _ _ _) : p := h
theorem sc_ {p q : Prop} (x : q) (h : q → p := by intro h_; repeat (first | exact h_ | (with_reducible refine Kd.C_alloc ?_ _) | (with_reducible refine Kd.C_drewN ?_ _) | (with_reducible refine Kd.C_drew ?_))) : p := h x
theorem ho_ {p q : Prop} (x : Aside0 q) (h : q → p := by intro h_; omega) : p := h x.out
theorem ho2_ {p q r : Prop} (x : Aside0 q) (y : Aside0 r) (h : q → r → p := by intro h_ i_; omega) : p := h x.out y.out
theorem ip_ {α : Type} {c : Prop} [Decidable c] {x : Option α} {r : α} (h : (if c then x else none) = some r) : c ∧ x = some r := by
  by_cases hc : c
  · rw [if_pos hc] at h; exact ⟨hc, h⟩
  · rw [if_neg hc] at h; cases h
section
open Go.Proofs.YtdmeepjefccpgaaW.PrintLast
variable {P : Program} {ops : Array Oper} {rest : List Oper} {oi : Oper} {Q : Exit → Act → World → Prop} {a : Act} {w : World}
theorem gl_ (f : FuncId) (n : Nat) {fn : Func} (hf : P.funcs[f]? = some fn) (args : Array Value) (h : Calls P f args w fun e w' => ∃ v, e = .returned v ∧ wpList P ops Q rest (a.put (some n) v) w')
    {ag : Array Operand} {ts : Array TypeId} (hop : oi.op = .call { callee := .value (.func f), args := ag, argTypes := ts } := by with_reducible rfl) (hd : oi.dst = some n := by rfl) (hg : oi.guard = none := by rfl) (hname : (fn.name == "runtime.NumGoroutine") = false := by kernel_rfl) (hb : fn.body.isSome = true := by rfl)
    (hargs : ag.map a.eval = args := by exact am_) : wpList P ops Q (oi :: rest) a w := goesL_ (some n) hd hg hf hname hb args hop hargs h
end
section
variable {α : Type} {d : Kd α} {e base : Nat} {ok ok2 : Nat → Prop} {w W : World} {v : Value} {xs : List α}
end
end Go.Proofs.Ytdmeepjefccpgaa.Rw
