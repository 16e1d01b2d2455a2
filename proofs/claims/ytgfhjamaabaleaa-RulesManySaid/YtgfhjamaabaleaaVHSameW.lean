/- rules.Same: its walk, over what its eight closures answer. -/
import Derived.Test.YtgfhjamaabaleaaProg
import Derived.Below
import Derived.Deep.Draws
import Derived.Deep.AppendLies
import Derived.Maps.AppendAt
import Derived.OwnWalk
import Derived.Laws.BytesArg
import Derived.Laws.MakeOwn
import Derived.Laws.OwnMore
import Derived.Deep.OwnRows
import Derived.Tactics
import Derived.Lib.ConvBytes
import Derived.Laws.Slices
import Derived.WalkKit
import Derived.KernelRfl
import Derived.RowKit3
import Derived.Deep.LoopGhost
import Derived.Deep.QuietTactic
import Derived.BigQuiet
import Derived.WideLaws
import Derived.Deep.DeepCutAuto
import Derived.Deep.CutBlock
import Derived.Deep.RegionHeld3
import Derived.Laws.Rows
import Derived.Lib.AppendStr
import Derived.ArgAppend
import Derived.Laws.IdiomCopy
import Derived.OrdersHeld
import Derived.Laws.BitsLemmas
import Derived.RowKit
import Derived.BigRegion
import Derived.Outline
import Derived.RegionTactic
import Derived.StillTailTactics
import Derived.Deep.RegionLaw
import Derived.Test.YtgfhjamaabaleaaVRwA
import Derived.Test.YtgfhjamaabaleaaVRwAb
set_option linter.unusedVariables false
set_option linter.unusedSimpArgs false
namespace Go.Proofs.Ytgfhjamaabaleaa.HS
open Go Go.RowKit Go.Proofs.YtgfhjamaabaleaaW.PrintWords Go.Proofs.YtgfhjamaabaleaaW.PrintLast Go.Proofs.YtgfhjamaabaleaaW.PrintMore Go.Proofs.Ytgfhjamaabaleaa.Rw
def T1 : Bool × List (List Nat × List Nat) := (true, [([], []), ([0], [0]), ([], []), ([2], [2]), ([], []), ([], []), ([4, 1, 0, 1, 4, 5], [1, 4]), ([5, 3, 6, 0, 1, 2, 3, 4, 5, 6], [3, 5])])
def B1 : List Nat := [0, 1, 0, 4, 0, 0, 51, 127]
theorem tab1 : rtab .any (opsOf Try.f17 1) = T1 := by kernel_rfl
theorem tab2 : rtab .any (opsOf Try.f17 2) = T1 := by kernel_rfl
theorem bits1 : waitsOk T1.2 B1 = true := by kernel_rfl
abbrev Cl (f : Nat) (gA gB : Nat) (w : World) (b : Bool) : Prop := Calls Try.prog f #[.pointer (some ⟨gA, 0, none⟩), .pointer (some ⟨gB, 0, none⟩)] w fun e w' => e = .returned (.bool b) ∧ Below w.heap.size w w'
set_option maxRecDepth 100000 in
set_option maxHeartbeats 8000000 in
theorem same_walk (xA0 : Option Addr) (xn0 xc0 : Nat) (xA1 : Option Addr) (xn1 xc1 : Nat) (x2 : Bool) (x3 : Bool) (x4 : Int) (xA5 : Option Addr) (xn5 xc5 : Nat) (x6 : Int) (x7 : Int) (x8 : Int) (x9 : Int) (x10 : Int) (x11 : Int) (xA12 : Option Addr) (xn12 xc12 : Nat) (xA13 : Option Addr) (xn13 xc13 : Nat) (yA0 : Option Addr) (yn0 yc0 : Nat) (yA1 : Option Addr) (yn1 yc1 : Nat) (y2 : Bool) (y3 : Bool) (y4 : Int) (yA5 : Option Addr) (yn5 yc5 : Nat) (y6 : Int) (y7 : Int) (y8 : Int) (y9 : Int) (y10 : Int) (y11 : Int) (yA12 : Option Addr) (yn12 yc12 : Nat) (yA13 : Option Addr) (yn13 yc13 : Nat) (w : World) (b1 b2 b3 b4 b5 b6 b7 b8 : Bool)
    (H1 : ∀ (gA gB : Nat) (w' : World), Below w.heap.size w w' → w'.heap[gA]? = some (.cells #[(.slice xA0 xn0 xc0), (.slice xA1 xn1 xc1), (.bool x2), (.bool x3), (.int .i64 x4), (.slice xA5 xn5 xc5), (.int .i64 x6), (.int .i64 x7), (.int .i64 x8), (.int .i64 x9), (.int .i64 x10), (.int .i64 x11), (.slice xA12 xn12 xc12), (.slice xA13 xn13 xc13)] 48 (0, 0)) → w'.heap[gB]? = some (.cells #[(.slice yA0 yn0 yc0), (.slice yA1 yn1 yc1), (.bool y2), (.bool y3), (.int .i64 y4), (.slice yA5 yn5 yc5), (.int .i64 y6), (.int .i64 y7), (.int .i64 y8), (.int .i64 y9), (.int .i64 y10), (.int .i64 y11), (.slice yA12 yn12 yc12), (.slice yA13 yn13 yc13)] 48 (0, 0)) → Cl 27 gA gB w' b1)
    (H2 : ∀ (gA gB : Nat) (w' : World), Below w.heap.size w w' → w'.heap[gA]? = some (.cells #[(.slice xA0 xn0 xc0), (.slice xA1 xn1 xc1), (.bool x2), (.bool x3), (.int .i64 x4), (.slice xA5 xn5 xc5), (.int .i64 x6), (.int .i64 x7), (.int .i64 x8), (.int .i64 x9), (.int .i64 x10), (.int .i64 x11), (.slice xA12 xn12 xc12), (.slice xA13 xn13 xc13)] 48 (0, 0)) → w'.heap[gB]? = some (.cells #[(.slice yA0 yn0 yc0), (.slice yA1 yn1 yc1), (.bool y2), (.bool y3), (.int .i64 y4), (.slice yA5 yn5 yc5), (.int .i64 y6), (.int .i64 y7), (.int .i64 y8), (.int .i64 y9), (.int .i64 y10), (.int .i64 y11), (.slice yA12 yn12 yc12), (.slice yA13 yn13 yc13)] 48 (0, 0)) → Cl 29 gA gB w' b2)
    (H3 : ∀ (gA gB : Nat) (w' : World), Below w.heap.size w w' → w'.heap[gA]? = some (.cells #[(.bool x2), (.bool x3), (.int .i64 x4), (.slice xA5 xn5 xc5)] 24 (0, 0)) → w'.heap[gB]? = some (.cells #[(.bool y2), (.bool y3), (.int .i64 y4), (.slice yA5 yn5 yc5)] 24 (0, 0)) → Cl 32 gA gB w' b3)
    (H4 : ∀ (gA gB : Nat) (w' : World), Below w.heap.size w w' → w'.heap[gA]? = some (.cells #[(.bool x2), (.bool x3), (.int .i64 x4), (.slice xA5 xn5 xc5)] 24 (0, 0)) → w'.heap[gB]? = some (.cells #[(.bool y2), (.bool y3), (.int .i64 y4), (.slice yA5 yn5 yc5)] 24 (0, 0)) → Cl 33 gA gB w' b4)
    (H5 : ∀ (gA gB : Nat) (w' : World), Below w.heap.size w w' → w'.heap[gA]? = some (.cells #[(.slice xA0 xn0 xc0), (.slice xA1 xn1 xc1), (.bool x2), (.bool x3), (.int .i64 x4), (.slice xA5 xn5 xc5), (.int .i64 x6), (.int .i64 x7), (.int .i64 x8), (.int .i64 x9), (.int .i64 x10), (.int .i64 x11), (.slice xA12 xn12 xc12), (.slice xA13 xn13 xc13)] 48 (0, 0)) → w'.heap[gB]? = some (.cells #[(.slice yA0 yn0 yc0), (.slice yA1 yn1 yc1), (.bool y2), (.bool y3), (.int .i64 y4), (.slice yA5 yn5 yc5), (.int .i64 y6), (.int .i64 y7), (.int .i64 y8), (.int .i64 y9), (.int .i64 y10), (.int .i64 y11), (.slice yA12 yn12 yc12), (.slice yA13 yn13 yc13)] 48 (0, 0)) → Cl 36 gA gB w' b5)
    (H6 : ∀ (gA gB : Nat) (w' : World), Below w.heap.size w w' → w'.heap[gA]? = some (.cells #[(.int .i64 x8), (.int .i64 x9), (.int .i64 x10), (.int .i64 x11), (.slice xA12 xn12 xc12), (.slice xA13 xn13 xc13)] 42 (0, 0)) → w'.heap[gB]? = some (.cells #[(.int .i64 y8), (.int .i64 y9), (.int .i64 y10), (.int .i64 y11), (.slice yA12 yn12 yc12), (.slice yA13 yn13 yc13)] 42 (0, 0)) → Cl 37 gA gB w' b6)
    (H7 : ∀ (gA gB : Nat) (w' : World), Below w.heap.size w w' → w'.heap[gA]? = some (.cells #[(.int .i64 x8), (.int .i64 x9), (.int .i64 x10), (.int .i64 x11), (.slice xA12 xn12 xc12), (.slice xA13 xn13 xc13)] 42 (0, 0)) → w'.heap[gB]? = some (.cells #[(.int .i64 y8), (.int .i64 y9), (.int .i64 y10), (.int .i64 y11), (.slice yA12 yn12 yc12), (.slice yA13 yn13 yc13)] 42 (0, 0)) → Cl 38 gA gB w' b7)
    (H8 : ∀ (gA gB : Nat) (w' : World), Below w.heap.size w w' → w'.heap[gA]? = some (.cells #[(.int .i64 x8), (.int .i64 x9), (.int .i64 x10), (.int .i64 x11), (.slice xA12 xn12 xc12), (.slice xA13 xn13 xc13)] 42 (0, 0)) → w'.heap[gB]? = some (.cells #[(.int .i64 y8), (.int .i64 y9), (.int .i64 y10), (.int .i64 y11), (.slice yA12 yn12 yc12), (.slice yA13 yn13 yc13)] 42 (0, 0)) → Cl 39 gA gB w' b8) :
    Calls Try.prog 17 #[.agg #[(.slice xA0 xn0 xc0), (.slice xA1 xn1 xc1), (.bool x2), (.bool x3), (.int .i64 x4), (.slice xA5 xn5 xc5), (.int .i64 x6), (.int .i64 x7), (.int .i64 x8), (.int .i64 x9), (.int .i64 x10), (.int .i64 x11), (.slice xA12 xn12 xc12), (.slice xA13 xn13 xc13)], .agg #[(.slice yA0 yn0 yc0), (.slice yA1 yn1 yc1), (.bool y2), (.bool y3), (.int .i64 y4), (.slice yA5 yn5 yc5), (.int .i64 y6), (.int .i64 y7), (.int .i64 y8), (.int .i64 y9), (.int .i64 y10), (.int .i64 y11), (.slice yA12 yn12 yc12), (.slice yA13 yn13 yc13)]] w fun e w' => e = .returned (.bool (b1 && (b2 && (b3 && (b4 && (b5 && (b6 && (b7 && b8)))))))) ∧ Below w.heap.size w w' := by
  have hu33 := Try.underlying48
  have hu26 := Try.underlying24
  have hu31 := Try.underlying42
  have hmf : ∀ (fn : Fn) (first cap : Array Value) (w : World), (Instr.makeFunc fn first cap).run Try.prog w = .ok (.func fn first cap) w := fun _ _ _ _ => rfl
  have HC1 := Aside0.mk H1
  have HC2 := Aside0.mk H2
  have HC3 := Aside0.mk H3
  have HC4 := Aside0.mk H4
  have HC5 := Aside0.mk H5
  have HC6 := Aside0.mk H6
  have HC7 := Aside0.mk H7
  have HC8 := Aside0.mk H8
  clear H1 H2 H3 H4 H5 H6 H7 H8
  have HB := Aside0.mk (Below.refl w.heap.size w)
  go_enter Try.func17, Try.ntmps17
  go_upto_region 1 with (first | ((with_reducible refine gate_dst (N := 2) rfl ?_); refine box_event rf_ (N := 2) rf_ (cs := #[(.slice xA0 xn0 xc0), (.slice xA1 xn1 xc1), (.bool x2), (.bool x3), (.int .i64 x4), (.slice xA5 xn5 xc5), (.int .i64 x6), (.int .i64 x7), (.int .i64 x8), (.int .i64 x9), (.int .i64 x10), (.int .i64 x11), (.slice xA12 xn12 xc12), (.slice xA13 xn13 xc13)]) (t := 48) lr_ ?_; intro gA hg w1 hbox hb; have BA := Aside0.mk hbox; have GA := Aside0.mk (ge_ HB hg (hb0_ HB)); replace HB := Aside0.mk (below_step (hb0_ HB) hb); clear hb hbox hg) | ((with_reducible refine gate_dst (N := 3) rfl ?_); refine box_event rf_ (N := 3) rf_ (cs := #[(.slice yA0 yn0 yc0), (.slice yA1 yn1 yc1), (.bool y2), (.bool y3), (.int .i64 y4), (.slice yA5 yn5 yc5), (.int .i64 y6), (.int .i64 y7), (.int .i64 y8), (.int .i64 y9), (.int .i64 y10), (.int .i64 y11), (.slice yA12 yn12 yc12), (.slice yA13 yn13 yc13)]) (t := 48) lr_ ?_; intro gB hg w2 hbox hb; have NAB := Aside0.mk (nl_ BA hg); have BB := Aside0.mk hbox; have GB := Aside0.mk (ge_ HB hg (hb0_ HB)); replace BA := Aside0.mk (bb_ BA hb); replace HB := Aside0.mk (below_step (hb0_ HB) hb); clear hb hbox hg))
  (try simp only [Act.put, List.setIfInBounds_toArray, List.set_cons_zero, List.set_cons_succ])
  -- region 1
  replace BA := Aside0.mk (blk_drew BA.out)
  replace BB := Aside0.mk (blk_drew BB.out)
  replace HB := Aside0.mk (below_drew1 HB.out)
  refine start_ (n := 8) (S := fun w' => w'.heap[gA]? = some (.cells #[(.slice xA0 xn0 xc0), (.slice xA1 xn1 xc1), (.bool x2), (.bool x3), (.int .i64 x4), (.slice xA5 xn5 xc5), (.int .i64 x6), (.int .i64 x7), (.int .i64 x8), (.int .i64 x9), (.int .i64 x10), (.int .i64 x11), (.slice xA12 xn12 xc12), (.slice xA13 xn13 xc13)] 48 (0, 0)) ∧ w'.heap[gB]? = some (.cells #[(.slice yA0 yn0 yc0), (.slice yA1 yn1 yc1), (.bool y2), (.bool y3), (.int .i64 y4), (.slice yA5 yn5 yc5), (.int .i64 y6), (.int .i64 y7), (.int .i64 y8), (.int .i64 y9), (.int .i64 y10), (.int .i64 y11), (.slice yA12 yn12 yc12), (.slice yA13 yn13 yc13)] 48 (0, 0))) (ds := []) (mk 8 0) (by kernel_rfl) rfl rfl ⟨BA.out, BB.out⟩ (fun hHeld => ?_)
  refine with_tabW tab1 bits1 (fun HT_ HW_ => ?_)
  generalize w2.drew = wa1 at HB hHeld BA BB ⊢
  refine ahead_ [(0, 11), (2, 13)] ?_
  iterate 2 (refine pB_ HT_ ?_)
  refine aheadE_ (mk 8 5) kr_ ?_
  refine take_ (i := 1) (N := some 12) (v := ?_) (a' := ?_) (mk 8 7) rfl rfl (tw_ HT_ HW_) nh_ (Or.inl ⟨by rfl, ?_⟩) hHeld ?_ ?_
  rotate_left
  · rintro w' ⟨s0, s1⟩
    have c0 : w'.cell? ⟨gA, 2, none⟩ = some (.bool x2) := (blk_cell s0 2).trans rfl
    have c1 : w'.cell? ⟨gA, 3, none⟩ = some (.bool x3) := (blk_cell s0 3).trans rfl
    have c2 : w'.cell? ⟨gA, 4, none⟩ = some (.int .i64 x4) := (blk_cell s0 4).trans rfl
    have c3 : w'.cell? ⟨gA, 5, none⟩ = some (.slice xA5 xn5 xc5) := (blk_cell s0 5).trans rfl
    clear s0 s1
    go_simp
    with_reducible rfl
  rotate_left; (exact pu_)
  refine take_ (i := 3) (N := some 14) (v := ?_) (a' := ?_) (mk 8 15) rfl rfl (tw_ HT_ HW_) nh_ (Or.inl ⟨by rfl, ?_⟩) hHeld ?_ ?_
  rotate_left
  · rintro w' ⟨s0, s1⟩
    have c0 : w'.cell? ⟨gB, 2, none⟩ = some (.bool y2) := (blk_cell s1 2).trans rfl
    have c1 : w'.cell? ⟨gB, 3, none⟩ = some (.bool y3) := (blk_cell s1 3).trans rfl
    have c2 : w'.cell? ⟨gB, 4, none⟩ = some (.int .i64 y4) := (blk_cell s1 4).trans rfl
    have c3 : w'.cell? ⟨gB, 5, none⟩ = some (.slice yA5 yn5 yc5) := (blk_cell s1 5).trans rfl
    clear s0 s1
    go_simp
    with_reducible rfl
  rotate_left; (exact pu_)
  refine join_ (σ := Nat × Nat) 2 (mk 8 63) (fun s_ => [(5, .pointer (some ⟨s_.1, 0, none⟩)), (6, .pointer (some ⟨s_.2, 0, none⟩))]) (fun s_ w' => (w'.heap[gA]? = some (.cells #[(.slice xA0 xn0 xc0), (.slice xA1 xn1 xc1), (.bool x2), (.bool x3), (.int .i64 x4), (.slice xA5 xn5 xc5), (.int .i64 x6), (.int .i64 x7), (.int .i64 x8), (.int .i64 x9), (.int .i64 x10), (.int .i64 x11), (.slice xA12 xn12 xc12), (.slice xA13 xn13 xc13)] 48 (0, 0)) ∧ w'.heap[gB]? = some (.cells #[(.slice yA0 yn0 yc0), (.slice yA1 yn1 yc1), (.bool y2), (.bool y3), (.int .i64 y4), (.slice yA5 yn5 yc5), (.int .i64 y6), (.int .i64 y7), (.int .i64 y8), (.int .i64 y9), (.int .i64 y10), (.int .i64 y11), (.slice yA12 yn12 yc12), (.slice yA13 yn13 yc13)] 48 (0, 0))) ∧ w'.heap[s_.1]? = some (.cells #[.bool false, .bool false, .int .i64 0, .slice none 0 0] 24 (0, 0)) ∧ w'.heap[s_.2]? = some (.cells #[.bool false, .bool false, .int .i64 0, .slice none 0 0] 24 (0, 0)) ∧ w.heap.size ≤ s_.1 ∧ w.heap.size ≤ s_.2 ∧ gA ≠ s_.1 ∧ gB ≠ s_.1 ∧ gA ≠ s_.2 ∧ gB ≠ s_.2 ∧ s_.1 ≠ s_.2 ∧ Below w.heap.size w w') ?_ ?_
  rotate_left
  · intro hCont
    refine two_ (i := 4) (j := 5) (Ni := some 5) (Nj := some 6) (mk 8 31) (mk 8 47) rfl rfl rfl rfl (two_of HT_.out (by kernel_rfl)) (by decide) (by decide) (fun K hK => ?_) (fun K hK => ?_)
    · skip
      refine box_step ?hg (N := 5) ?hd (cs := #[.bool false, .bool false, .int .i64 0, .slice none 0 0]) (t := 24) ?hr ?_; (case hd => rfl); (case hg => rfl); (case hr => first | (go_simp; done) | (go_simp; rfl))
      intro g5 hg wz hbox hb
      have NgA_g5 := Aside0.mk (nl_ BA hg)
      have NgB_g5 := Aside0.mk (nl_ BB hg)
      have B5 := Aside0.mk hbox; have G5 := Aside0.mk (ge_ HB hg HB.out)
      replace BA := Aside0.mk (bb_ BA hb)
      replace BB := Aside0.mk (bb_ BB hb)
      replace HB := Aside0.mk (below_step HB.out hb); clear hb hbox hg
      refine hK.out _ _ ⟨BA.out, BB.out⟩ (fun hHeld => ?_)
      clear hK K
      refine norm_ pv_ ?_
      refine one_ (i := 5) (N := some 6) (mk 8 63) rfl rfl (on_ HT_) de_ (fun K hK => ?_)
      refine box_step ?hg (N := 6) ?hd (cs := #[.bool false, .bool false, .int .i64 0, .slice none 0 0]) (t := 24) ?hr ?_; (case hd => rfl); (case hg => rfl); (case hr => first | (go_simp; done) | (go_simp; rfl))
      intro g6 hg wz hbox hb
      have NgA_g6 := Aside0.mk (nl_ BA hg)
      have NgB_g6 := Aside0.mk (nl_ BB hg)
      have Ng5_g6 := Aside0.mk (nl_ B5 hg)
      have B6 := Aside0.mk hbox; have G6 := Aside0.mk (ge_ HB hg HB.out)
      replace BA := Aside0.mk (bb_ BA hb)
      replace BB := Aside0.mk (bb_ BB hb)
      replace B5 := Aside0.mk (bb_ B5 hb)
      replace HB := Aside0.mk (below_step HB.out hb); clear hb hbox hg
      refine hK.out _ _ ⟨BA.out, BB.out⟩ (fun hHeld => ?_)
      clear hK K
      refine norm_ pv_ ?_
      exact norm_ (by simp only [putAll, Act.put, List.setIfInBounds_toArray, List.set_cons_zero, List.set_cons_succ]) (hCont (g5, g6) _ ⟨hHeld, B5.out, B6.out, G5.out, G6.out, NgA_g5.out, NgB_g5.out, NgA_g6.out, NgB_g6.out, Ng5_g6.out, HB.out⟩)
    · skip
      refine box_step ?hg (N := 6) ?hd (cs := #[.bool false, .bool false, .int .i64 0, .slice none 0 0]) (t := 24) ?hr ?_; (case hd => rfl); (case hg => rfl); (case hr => first | (go_simp; done) | (go_simp; rfl))
      intro g6 hg wz hbox hb
      have NgA_g6 := Aside0.mk (nl_ BA hg)
      have NgB_g6 := Aside0.mk (nl_ BB hg)
      have B6 := Aside0.mk hbox; have G6 := Aside0.mk (ge_ HB hg HB.out)
      replace BA := Aside0.mk (bb_ BA hb)
      replace BB := Aside0.mk (bb_ BB hb)
      replace HB := Aside0.mk (below_step HB.out hb); clear hb hbox hg
      refine hK.out _ _ ⟨BA.out, BB.out⟩ (fun hHeld => ?_)
      clear hK K
      refine norm_ pv_ ?_
      refine one_ (i := 4) (N := some 5) (mk 8 63) rfl rfl (on_ HT_) de_ (fun K hK => ?_)
      refine box_step ?hg (N := 5) ?hd (cs := #[.bool false, .bool false, .int .i64 0, .slice none 0 0]) (t := 24) ?hr ?_; (case hd => rfl); (case hg => rfl); (case hr => first | (go_simp; done) | (go_simp; rfl))
      intro g5 hg wz hbox hb
      have NgA_g5 := Aside0.mk (nl_ BA hg)
      have NgB_g5 := Aside0.mk (nl_ BB hg)
      have Ng6_g5 := Aside0.mk (nl_ B6 hg)
      have B5 := Aside0.mk hbox; have G5 := Aside0.mk (ge_ HB hg HB.out)
      replace BA := Aside0.mk (bb_ BA hb)
      replace BB := Aside0.mk (bb_ BB hb)
      replace B6 := Aside0.mk (bb_ B6 hb)
      replace HB := Aside0.mk (below_step HB.out hb); clear hb hbox hg
      refine hK.out _ _ ⟨BA.out, BB.out⟩ (fun hHeld => ?_)
      clear hK K
      refine norm_ pv_ ?_
      exact norm_ (by simp only [putAll, Act.put, List.setIfInBounds_toArray, List.set_cons_zero, List.set_cons_succ]) (hCont (g5, g6) _ ⟨hHeld, B5.out, B6.out, G5.out, G6.out, NgA_g5.out, NgB_g5.out, NgA_g6.out, NgB_g6.out, Ng6_g5.out.symm, HB.out⟩)
  rintro ⟨g5, g6⟩ wb1 ⟨⟨hA_, hB_⟩, h0_, h1_, h2_, h3_, h4_, h5_, h6_, h7_, h8_, h9_⟩
  clear hHeld BA BB HB
  have BA := Aside0.mk hA_; have BB := Aside0.mk hB_; clear hA_ hB_
  have B5 := Aside0.mk h0_; clear h0_
  have B6 := Aside0.mk h1_; clear h1_
  have G5 : Aside0 (w.heap.size ≤ g5) := Aside0.mk h2_; clear h2_
  have G6 : Aside0 (w.heap.size ≤ g6) := Aside0.mk h3_; clear h3_
  have NgA_g5 : Aside0 (gA ≠ g5) := Aside0.mk h4_; clear h4_
  have NgB_g5 : Aside0 (gB ≠ g5) := Aside0.mk h5_; clear h5_
  have NgA_g6 : Aside0 (gA ≠ g6) := Aside0.mk h6_; clear h6_
  have NgB_g6 : Aside0 (gB ≠ g6) := Aside0.mk h7_; clear h7_
  have Ng5_g6 : Aside0 (g5 ≠ g6) := Aside0.mk h8_; clear h8_
  have HB := Aside0.mk h9_; clear h9_
  replace B5 : Aside0 (wb1.heap[g5]? = some (.cells #[.bool false, .bool false, .int .i64 0, .slice none 0 0] 24 (0, 0))) := B5; replace B6 : Aside0 (wb1.heap[g6]? = some (.cells #[.bool false, .bool false, .int .i64 0, .slice none 0 0] 24 (0, 0))) := B6
  have Ng6_g5 := Aside0.mk Ng5_g6.out.symm
  refine norm_ (a' := ?_) ?_ ?_
  rotate_left
  · simp only [putAll, Act.put, List.setIfInBounds_toArray, List.set_cons_zero, List.set_cons_succ]
    rfl
  refine one_ (i := 6) (N := none) (mk 8 127) rfl rfl (on_ HT_) de_ (fun K hK => ?_)
  obtain ⟨z0, z1, z2, z3⟩ := cz4_ B5
  obtain ⟨e0, e1, e2, e3⟩ := fz4_ B5
  refine skip_ (w1 := ?_) (by rfl) rfl ?_ ?_
  rotate_left
  · go_simp
    rfl
  have nBA : Aside0 ((World.setCell (World.setCell (World.setCell (World.setCell wb1 ⟨g5, 0, none⟩ (.bool x2)) ⟨g5, 1, none⟩ (.bool x3)) ⟨g5, 2, none⟩ (.int .i64 x4)) ⟨g5, 3, none⟩ (.slice xA5 xn5 xc5)).heap[gA]? = some (.cells #[(.slice xA0 xn0 xc0), (.slice xA1 xn1 xc1), (.bool x2), (.bool x3), (.int .i64 x4), (.slice xA5 xn5 xc5), (.int .i64 x6), (.int .i64 x7), (.int .i64 x8), (.int .i64 x9), (.int .i64 x10), (.int .i64 x11), (.slice xA12 xn12 xc12), (.slice xA13 xn13 xc13)] 48 (0, 0))) := ⟨bf4_ BA NgA_g5 NgA_g5 NgA_g5 NgA_g5⟩
  have nBB : Aside0 ((World.setCell (World.setCell (World.setCell (World.setCell wb1 ⟨g5, 0, none⟩ (.bool x2)) ⟨g5, 1, none⟩ (.bool x3)) ⟨g5, 2, none⟩ (.int .i64 x4)) ⟨g5, 3, none⟩ (.slice xA5 xn5 xc5)).heap[gB]? = some (.cells #[(.slice yA0 yn0 yc0), (.slice yA1 yn1 yc1), (.bool y2), (.bool y3), (.int .i64 y4), (.slice yA5 yn5 yc5), (.int .i64 y6), (.int .i64 y7), (.int .i64 y8), (.int .i64 y9), (.int .i64 y10), (.int .i64 y11), (.slice yA12 yn12 yc12), (.slice yA13 yn13 yc13)] 48 (0, 0))) := ⟨bf4_ BB NgB_g5 NgB_g5 NgB_g5 NgB_g5⟩
  have nB6 : Aside0 ((World.setCell (World.setCell (World.setCell (World.setCell wb1 ⟨g5, 0, none⟩ (.bool x2)) ⟨g5, 1, none⟩ (.bool x3)) ⟨g5, 2, none⟩ (.int .i64 x4)) ⟨g5, 3, none⟩ (.slice xA5 xn5 xc5)).heap[g6]? = some (.cells #[.bool false, .bool false, .int .i64 0, .slice none 0 0] 24 (0, 0))) := ⟨bf4_ B6 Ng6_g5 Ng6_g5 Ng6_g5 Ng6_g5⟩
  have nHB : Aside0 (Below w.heap.size w (World.setCell (World.setCell (World.setCell (World.setCell wb1 ⟨g5, 0, none⟩ (.bool x2)) ⟨g5, 1, none⟩ (.bool x3)) ⟨g5, 2, none⟩ (.int .i64 x4)) ⟨g5, 3, none⟩ (.slice xA5 xn5 xc5))) := ⟨hb1_ HB G5⟩
  have nB5 : Aside0 ((World.setCell (World.setCell (World.setCell (World.setCell wb1 ⟨g5, 0, none⟩ (.bool x2)) ⟨g5, 1, none⟩ (.bool x3)) ⟨g5, 2, none⟩ (.int .i64 x4)) ⟨g5, 3, none⟩ (.slice xA5 xn5 xc5)).heap[g5]? = some (.cells #[(.bool x2), (.bool x3), (.int .i64 x4), (.slice xA5 xn5 xc5)] 24 (0, 0))) := ⟨bq0_ B5⟩
  (try clear hHeld); clear BA BB B6 HB B5 z0 z1 z2 z3 e0 e1 e2 e3
  generalize (World.setCell (World.setCell (World.setCell (World.setCell wb1 ⟨g5, 0, none⟩ (.bool x2)) ⟨g5, 1, none⟩ (.bool x3)) ⟨g5, 2, none⟩ (.int .i64 x4)) ⟨g5, 3, none⟩ (.slice xA5 xn5 xc5)) = wm1 at nBA nBB nB6 nHB nB5 ⊢
  have BA := nBA; clear nBA
  have BB := nBB; clear nBB
  have B6 := nB6; clear nB6
  have HB := nHB; clear nHB
  have B5 := nB5; clear nB5
  refine hK.out _ _ ⟨BA.out, BB.out⟩ (fun hHeld => ?_)
  clear hK K
  refine one_ (i := 7) (N := none) (mk 8 255) rfl rfl (on_ HT_) de_ (fun K hK => ?_)
  obtain ⟨z0, z1, z2, z3⟩ := cz4_ B6
  obtain ⟨e0, e1, e2, e3⟩ := fz4_ B6
  refine skip_ (w1 := ?_) (by rfl) rfl ?_ ?_
  rotate_left
  · go_simp
    rfl
  have nBA : Aside0 ((World.setCell (World.setCell (World.setCell (World.setCell wm1 ⟨g6, 0, none⟩ (.bool y2)) ⟨g6, 1, none⟩ (.bool y3)) ⟨g6, 2, none⟩ (.int .i64 y4)) ⟨g6, 3, none⟩ (.slice yA5 yn5 yc5)).heap[gA]? = some (.cells #[(.slice xA0 xn0 xc0), (.slice xA1 xn1 xc1), (.bool x2), (.bool x3), (.int .i64 x4), (.slice xA5 xn5 xc5), (.int .i64 x6), (.int .i64 x7), (.int .i64 x8), (.int .i64 x9), (.int .i64 x10), (.int .i64 x11), (.slice xA12 xn12 xc12), (.slice xA13 xn13 xc13)] 48 (0, 0))) := ⟨bf4_ BA NgA_g6 NgA_g6 NgA_g6 NgA_g6⟩
  have nBB : Aside0 ((World.setCell (World.setCell (World.setCell (World.setCell wm1 ⟨g6, 0, none⟩ (.bool y2)) ⟨g6, 1, none⟩ (.bool y3)) ⟨g6, 2, none⟩ (.int .i64 y4)) ⟨g6, 3, none⟩ (.slice yA5 yn5 yc5)).heap[gB]? = some (.cells #[(.slice yA0 yn0 yc0), (.slice yA1 yn1 yc1), (.bool y2), (.bool y3), (.int .i64 y4), (.slice yA5 yn5 yc5), (.int .i64 y6), (.int .i64 y7), (.int .i64 y8), (.int .i64 y9), (.int .i64 y10), (.int .i64 y11), (.slice yA12 yn12 yc12), (.slice yA13 yn13 yc13)] 48 (0, 0))) := ⟨bf4_ BB NgB_g6 NgB_g6 NgB_g6 NgB_g6⟩
  have nB5 : Aside0 ((World.setCell (World.setCell (World.setCell (World.setCell wm1 ⟨g6, 0, none⟩ (.bool y2)) ⟨g6, 1, none⟩ (.bool y3)) ⟨g6, 2, none⟩ (.int .i64 y4)) ⟨g6, 3, none⟩ (.slice yA5 yn5 yc5)).heap[g5]? = some (.cells #[(.bool x2), (.bool x3), (.int .i64 x4), (.slice xA5 xn5 xc5)] 24 (0, 0))) := ⟨bf4_ B5 Ng5_g6 Ng5_g6 Ng5_g6 Ng5_g6⟩
  have nHB : Aside0 (Below w.heap.size w (World.setCell (World.setCell (World.setCell (World.setCell wm1 ⟨g6, 0, none⟩ (.bool y2)) ⟨g6, 1, none⟩ (.bool y3)) ⟨g6, 2, none⟩ (.int .i64 y4)) ⟨g6, 3, none⟩ (.slice yA5 yn5 yc5))) := ⟨hb1_ HB G6⟩
  have nB6 : Aside0 ((World.setCell (World.setCell (World.setCell (World.setCell wm1 ⟨g6, 0, none⟩ (.bool y2)) ⟨g6, 1, none⟩ (.bool y3)) ⟨g6, 2, none⟩ (.int .i64 y4)) ⟨g6, 3, none⟩ (.slice yA5 yn5 yc5)).heap[g6]? = some (.cells #[(.bool y2), (.bool y3), (.int .i64 y4), (.slice yA5 yn5 yc5)] 24 (0, 0))) := ⟨bq0_ B6⟩
  (try clear hHeld); clear BA BB B5 HB B6 z0 z1 z2 z3 e0 e1 e2 e3
  generalize (World.setCell (World.setCell (World.setCell (World.setCell wm1 ⟨g6, 0, none⟩ (.bool y2)) ⟨g6, 1, none⟩ (.bool y3)) ⟨g6, 2, none⟩ (.int .i64 y4)) ⟨g6, 3, none⟩ (.slice yA5 yn5 yc5)) = wc1 at nBA nBB nB5 nHB nB6 ⊢
  have BA := nBA; clear nBA
  have BB := nBB; clear nBB
  have B5 := nB5; clear nB5
  have HB := nHB; clear nHB
  have B6 := nB6; clear nB6
  refine hK.out _ _ ⟨BA.out, BB.out⟩ (fun hHeld => ?_)
  clear hK K
  refine done_ (done_of HT_.out (by kernel_rfl)) ?_
  clear HT_ HW_ hHeld
  go_upto_region 2 with fail
  -- region 2
  replace BA := Aside0.mk (blk_drew BA.out)
  replace BB := Aside0.mk (blk_drew BB.out)
  replace B5 := Aside0.mk (blk_drew B5.out)
  replace B6 := Aside0.mk (blk_drew B6.out)
  replace HB := Aside0.mk (below_drew1 HB.out)
  refine start_ (n := 8) (S := fun w' => w'.heap[gA]? = some (.cells #[(.slice xA0 xn0 xc0), (.slice xA1 xn1 xc1), (.bool x2), (.bool x3), (.int .i64 x4), (.slice xA5 xn5 xc5), (.int .i64 x6), (.int .i64 x7), (.int .i64 x8), (.int .i64 x9), (.int .i64 x10), (.int .i64 x11), (.slice xA12 xn12 xc12), (.slice xA13 xn13 xc13)] 48 (0, 0)) ∧ w'.heap[gB]? = some (.cells #[(.slice yA0 yn0 yc0), (.slice yA1 yn1 yc1), (.bool y2), (.bool y3), (.int .i64 y4), (.slice yA5 yn5 yc5), (.int .i64 y6), (.int .i64 y7), (.int .i64 y8), (.int .i64 y9), (.int .i64 y10), (.int .i64 y11), (.slice yA12 yn12 yc12), (.slice yA13 yn13 yc13)] 48 (0, 0))) (ds := []) (mk 8 0) (by kernel_rfl) rfl rfl ⟨BA.out, BB.out⟩ (fun hHeld => ?_)
  refine with_tabW tab2 bits1 (fun HT_ HW_ => ?_)
  generalize wc1.drew = wa2 at HB hHeld BA BB B5 B6 ⊢
  refine ahead_ [(0, 15), (2, 17)] ?_
  iterate 2 (refine pB_ HT_ ?_)
  refine aheadE_ (mk 8 5) kr_ ?_
  refine take_ (i := 1) (N := some 16) (v := ?_) (a' := ?_) (mk 8 7) rfl rfl (tw_ HT_ HW_) nh_ (Or.inl ⟨by rfl, ?_⟩) hHeld ?_ ?_
  rotate_left
  · rintro w' ⟨s0, s1⟩
    have c0 : w'.cell? ⟨gA, 8, none⟩ = some (.int .i64 x8) := (blk_cell s0 8).trans rfl
    have c1 : w'.cell? ⟨gA, 9, none⟩ = some (.int .i64 x9) := (blk_cell s0 9).trans rfl
    have c2 : w'.cell? ⟨gA, 10, none⟩ = some (.int .i64 x10) := (blk_cell s0 10).trans rfl
    have c3 : w'.cell? ⟨gA, 11, none⟩ = some (.int .i64 x11) := (blk_cell s0 11).trans rfl
    have c4 : w'.cell? ⟨gA, 12, none⟩ = some (.slice xA12 xn12 xc12) := (blk_cell s0 12).trans rfl
    have c5 : w'.cell? ⟨gA, 13, none⟩ = some (.slice xA13 xn13 xc13) := (blk_cell s0 13).trans rfl
    clear s0 s1
    go_simp
    with_reducible rfl
  rotate_left; (exact pu_)
  refine take_ (i := 3) (N := some 18) (v := ?_) (a' := ?_) (mk 8 15) rfl rfl (tw_ HT_ HW_) nh_ (Or.inl ⟨by rfl, ?_⟩) hHeld ?_ ?_
  rotate_left
  · rintro w' ⟨s0, s1⟩
    have c0 : w'.cell? ⟨gB, 8, none⟩ = some (.int .i64 y8) := (blk_cell s1 8).trans rfl
    have c1 : w'.cell? ⟨gB, 9, none⟩ = some (.int .i64 y9) := (blk_cell s1 9).trans rfl
    have c2 : w'.cell? ⟨gB, 10, none⟩ = some (.int .i64 y10) := (blk_cell s1 10).trans rfl
    have c3 : w'.cell? ⟨gB, 11, none⟩ = some (.int .i64 y11) := (blk_cell s1 11).trans rfl
    have c4 : w'.cell? ⟨gB, 12, none⟩ = some (.slice yA12 yn12 yc12) := (blk_cell s1 12).trans rfl
    have c5 : w'.cell? ⟨gB, 13, none⟩ = some (.slice yA13 yn13 yc13) := (blk_cell s1 13).trans rfl
    clear s0 s1
    go_simp
    with_reducible rfl
  rotate_left; (exact pu_)
  refine join_ (σ := Nat × Nat) 2 (mk 8 63) (fun s_ => [(7, .pointer (some ⟨s_.1, 0, none⟩)), (8, .pointer (some ⟨s_.2, 0, none⟩))]) (fun s_ w' => (w'.heap[gA]? = some (.cells #[(.slice xA0 xn0 xc0), (.slice xA1 xn1 xc1), (.bool x2), (.bool x3), (.int .i64 x4), (.slice xA5 xn5 xc5), (.int .i64 x6), (.int .i64 x7), (.int .i64 x8), (.int .i64 x9), (.int .i64 x10), (.int .i64 x11), (.slice xA12 xn12 xc12), (.slice xA13 xn13 xc13)] 48 (0, 0)) ∧ w'.heap[gB]? = some (.cells #[(.slice yA0 yn0 yc0), (.slice yA1 yn1 yc1), (.bool y2), (.bool y3), (.int .i64 y4), (.slice yA5 yn5 yc5), (.int .i64 y6), (.int .i64 y7), (.int .i64 y8), (.int .i64 y9), (.int .i64 y10), (.int .i64 y11), (.slice yA12 yn12 yc12), (.slice yA13 yn13 yc13)] 48 (0, 0))) ∧ w'.heap[g5]? = some (.cells #[(.bool x2), (.bool x3), (.int .i64 x4), (.slice xA5 xn5 xc5)] 24 (0, 0)) ∧ w'.heap[g6]? = some (.cells #[(.bool y2), (.bool y3), (.int .i64 y4), (.slice yA5 yn5 yc5)] 24 (0, 0)) ∧ w'.heap[s_.1]? = some (.cells #[.int .i64 0, .int .i64 0, .int .i64 0, .int .i64 0, .slice none 0 0, .slice none 0 0] 42 (0, 0)) ∧ w'.heap[s_.2]? = some (.cells #[.int .i64 0, .int .i64 0, .int .i64 0, .int .i64 0, .slice none 0 0, .slice none 0 0] 42 (0, 0)) ∧ w.heap.size ≤ s_.1 ∧ w.heap.size ≤ s_.2 ∧ gA ≠ s_.1 ∧ gB ≠ s_.1 ∧ g5 ≠ s_.1 ∧ g6 ≠ s_.1 ∧ gA ≠ s_.2 ∧ gB ≠ s_.2 ∧ g5 ≠ s_.2 ∧ g6 ≠ s_.2 ∧ s_.1 ≠ s_.2 ∧ Below w.heap.size w w') ?_ ?_
  rotate_left
  · intro hCont
    refine two_ (i := 4) (j := 5) (Ni := some 7) (Nj := some 8) (mk 8 31) (mk 8 47) rfl rfl rfl rfl (two_of HT_.out (by kernel_rfl)) (by decide) (by decide) (fun K hK => ?_) (fun K hK => ?_)
    · skip
      refine box_step ?hg (N := 7) ?hd (cs := #[.int .i64 0, .int .i64 0, .int .i64 0, .int .i64 0, .slice none 0 0, .slice none 0 0]) (t := 42) ?hr ?_; (case hd => rfl); (case hg => rfl); (case hr => first | (go_simp; done) | (go_simp; rfl))
      intro g7 hg wz hbox hb
      have NgA_g7 := Aside0.mk (nl_ BA hg)
      have NgB_g7 := Aside0.mk (nl_ BB hg)
      have Ng5_g7 := Aside0.mk (nl_ B5 hg)
      have Ng6_g7 := Aside0.mk (nl_ B6 hg)
      have B7 := Aside0.mk hbox; have G7 := Aside0.mk (ge_ HB hg HB.out)
      replace BA := Aside0.mk (bb_ BA hb)
      replace BB := Aside0.mk (bb_ BB hb)
      replace B5 := Aside0.mk (bb_ B5 hb)
      replace B6 := Aside0.mk (bb_ B6 hb)
      replace HB := Aside0.mk (below_step HB.out hb); clear hb hbox hg
      refine hK.out _ _ ⟨BA.out, BB.out⟩ (fun hHeld => ?_)
      clear hK K
      refine norm_ pv_ ?_
      refine one_ (i := 5) (N := some 8) (mk 8 63) rfl rfl (on_ HT_) de_ (fun K hK => ?_)
      refine box_step ?hg (N := 8) ?hd (cs := #[.int .i64 0, .int .i64 0, .int .i64 0, .int .i64 0, .slice none 0 0, .slice none 0 0]) (t := 42) ?hr ?_; (case hd => rfl); (case hg => rfl); (case hr => first | (go_simp; done) | (go_simp; rfl))
      intro g8 hg wz hbox hb
      have NgA_g8 := Aside0.mk (nl_ BA hg)
      have NgB_g8 := Aside0.mk (nl_ BB hg)
      have Ng5_g8 := Aside0.mk (nl_ B5 hg)
      have Ng6_g8 := Aside0.mk (nl_ B6 hg)
      have Ng7_g8 := Aside0.mk (nl_ B7 hg)
      have B8 := Aside0.mk hbox; have G8 := Aside0.mk (ge_ HB hg HB.out)
      replace BA := Aside0.mk (bb_ BA hb)
      replace BB := Aside0.mk (bb_ BB hb)
      replace B5 := Aside0.mk (bb_ B5 hb)
      replace B6 := Aside0.mk (bb_ B6 hb)
      replace B7 := Aside0.mk (bb_ B7 hb)
      replace HB := Aside0.mk (below_step HB.out hb); clear hb hbox hg
      refine hK.out _ _ ⟨BA.out, BB.out⟩ (fun hHeld => ?_)
      clear hK K
      refine norm_ pv_ ?_
      exact norm_ (by simp only [putAll, Act.put, List.setIfInBounds_toArray, List.set_cons_zero, List.set_cons_succ]) (hCont (g7, g8) _ ⟨hHeld, B5.out, B6.out, B7.out, B8.out, G7.out, G8.out, NgA_g7.out, NgB_g7.out, Ng5_g7.out, Ng6_g7.out, NgA_g8.out, NgB_g8.out, Ng5_g8.out, Ng6_g8.out, Ng7_g8.out, HB.out⟩)
    · skip
      refine box_step ?hg (N := 8) ?hd (cs := #[.int .i64 0, .int .i64 0, .int .i64 0, .int .i64 0, .slice none 0 0, .slice none 0 0]) (t := 42) ?hr ?_; (case hd => rfl); (case hg => rfl); (case hr => first | (go_simp; done) | (go_simp; rfl))
      intro g8 hg wz hbox hb
      have NgA_g8 := Aside0.mk (nl_ BA hg)
      have NgB_g8 := Aside0.mk (nl_ BB hg)
      have Ng5_g8 := Aside0.mk (nl_ B5 hg)
      have Ng6_g8 := Aside0.mk (nl_ B6 hg)
      have B8 := Aside0.mk hbox; have G8 := Aside0.mk (ge_ HB hg HB.out)
      replace BA := Aside0.mk (bb_ BA hb)
      replace BB := Aside0.mk (bb_ BB hb)
      replace B5 := Aside0.mk (bb_ B5 hb)
      replace B6 := Aside0.mk (bb_ B6 hb)
      replace HB := Aside0.mk (below_step HB.out hb); clear hb hbox hg
      refine hK.out _ _ ⟨BA.out, BB.out⟩ (fun hHeld => ?_)
      clear hK K
      refine norm_ pv_ ?_
      refine one_ (i := 4) (N := some 7) (mk 8 63) rfl rfl (on_ HT_) de_ (fun K hK => ?_)
      refine box_step ?hg (N := 7) ?hd (cs := #[.int .i64 0, .int .i64 0, .int .i64 0, .int .i64 0, .slice none 0 0, .slice none 0 0]) (t := 42) ?hr ?_; (case hd => rfl); (case hg => rfl); (case hr => first | (go_simp; done) | (go_simp; rfl))
      intro g7 hg wz hbox hb
      have NgA_g7 := Aside0.mk (nl_ BA hg)
      have NgB_g7 := Aside0.mk (nl_ BB hg)
      have Ng5_g7 := Aside0.mk (nl_ B5 hg)
      have Ng6_g7 := Aside0.mk (nl_ B6 hg)
      have Ng8_g7 := Aside0.mk (nl_ B8 hg)
      have B7 := Aside0.mk hbox; have G7 := Aside0.mk (ge_ HB hg HB.out)
      replace BA := Aside0.mk (bb_ BA hb)
      replace BB := Aside0.mk (bb_ BB hb)
      replace B5 := Aside0.mk (bb_ B5 hb)
      replace B6 := Aside0.mk (bb_ B6 hb)
      replace B8 := Aside0.mk (bb_ B8 hb)
      replace HB := Aside0.mk (below_step HB.out hb); clear hb hbox hg
      refine hK.out _ _ ⟨BA.out, BB.out⟩ (fun hHeld => ?_)
      clear hK K
      refine norm_ pv_ ?_
      exact norm_ (by simp only [putAll, Act.put, List.setIfInBounds_toArray, List.set_cons_zero, List.set_cons_succ]) (hCont (g7, g8) _ ⟨hHeld, B5.out, B6.out, B7.out, B8.out, G7.out, G8.out, NgA_g7.out, NgB_g7.out, Ng5_g7.out, Ng6_g7.out, NgA_g8.out, NgB_g8.out, Ng5_g8.out, Ng6_g8.out, Ng8_g7.out.symm, HB.out⟩)
  rintro ⟨g7, g8⟩ wb2 ⟨⟨hA_, hB_⟩, h0_, h1_, h2_, h3_, h4_, h5_, h6_, h7_, h8_, h9_, h10_, h11_, h12_, h13_, h14_, h15_⟩
  clear hHeld BA BB HB B5 B6
  have BA := Aside0.mk hA_; have BB := Aside0.mk hB_; clear hA_ hB_
  have B5 := Aside0.mk h0_; clear h0_
  have B6 := Aside0.mk h1_; clear h1_
  have B7 := Aside0.mk h2_; clear h2_
  have B8 := Aside0.mk h3_; clear h3_
  have G7 : Aside0 (w.heap.size ≤ g7) := Aside0.mk h4_; clear h4_
  have G8 : Aside0 (w.heap.size ≤ g8) := Aside0.mk h5_; clear h5_
  have NgA_g7 : Aside0 (gA ≠ g7) := Aside0.mk h6_; clear h6_
  have NgB_g7 : Aside0 (gB ≠ g7) := Aside0.mk h7_; clear h7_
  have Ng5_g7 : Aside0 (g5 ≠ g7) := Aside0.mk h8_; clear h8_
  have Ng6_g7 : Aside0 (g6 ≠ g7) := Aside0.mk h9_; clear h9_
  have NgA_g8 : Aside0 (gA ≠ g8) := Aside0.mk h10_; clear h10_
  have NgB_g8 : Aside0 (gB ≠ g8) := Aside0.mk h11_; clear h11_
  have Ng5_g8 : Aside0 (g5 ≠ g8) := Aside0.mk h12_; clear h12_
  have Ng6_g8 : Aside0 (g6 ≠ g8) := Aside0.mk h13_; clear h13_
  have Ng7_g8 : Aside0 (g7 ≠ g8) := Aside0.mk h14_; clear h14_
  have HB := Aside0.mk h15_; clear h15_
  replace B7 : Aside0 (wb2.heap[g7]? = some (.cells #[.int .i64 0, .int .i64 0, .int .i64 0, .int .i64 0, .slice none 0 0, .slice none 0 0] 42 (0, 0))) := B7; replace B8 : Aside0 (wb2.heap[g8]? = some (.cells #[.int .i64 0, .int .i64 0, .int .i64 0, .int .i64 0, .slice none 0 0, .slice none 0 0] 42 (0, 0))) := B8
  have Ng8_g7 := Aside0.mk Ng7_g8.out.symm
  refine norm_ (a' := ?_) ?_ ?_
  rotate_left
  · simp only [putAll, Act.put, List.setIfInBounds_toArray, List.set_cons_zero, List.set_cons_succ]
    rfl
  refine one_ (i := 6) (N := none) (mk 8 127) rfl rfl (on_ HT_) de_ (fun K hK => ?_)
  obtain ⟨z0, z1, z2, z3, z4, z5⟩ := cz6_ B7
  obtain ⟨e0, e1, e2, e3, e4, e5⟩ := fz6_ B7
  refine skip_ (w1 := ?_) (by rfl) rfl ?_ ?_
  rotate_left
  · go_simp
    rfl
  have nBA : Aside0 ((World.setCell (World.setCell (World.setCell (World.setCell (World.setCell (World.setCell wb2 ⟨g7, 0, none⟩ (.int .i64 x8)) ⟨g7, 1, none⟩ (.int .i64 x9)) ⟨g7, 2, none⟩ (.int .i64 x10)) ⟨g7, 3, none⟩ (.int .i64 x11)) ⟨g7, 4, none⟩ (.slice xA12 xn12 xc12)) ⟨g7, 5, none⟩ (.slice xA13 xn13 xc13)).heap[gA]? = some (.cells #[(.slice xA0 xn0 xc0), (.slice xA1 xn1 xc1), (.bool x2), (.bool x3), (.int .i64 x4), (.slice xA5 xn5 xc5), (.int .i64 x6), (.int .i64 x7), (.int .i64 x8), (.int .i64 x9), (.int .i64 x10), (.int .i64 x11), (.slice xA12 xn12 xc12), (.slice xA13 xn13 xc13)] 48 (0, 0))) := ⟨bf6_ BA NgA_g7 NgA_g7 NgA_g7 NgA_g7 NgA_g7 NgA_g7⟩
  have nBB : Aside0 ((World.setCell (World.setCell (World.setCell (World.setCell (World.setCell (World.setCell wb2 ⟨g7, 0, none⟩ (.int .i64 x8)) ⟨g7, 1, none⟩ (.int .i64 x9)) ⟨g7, 2, none⟩ (.int .i64 x10)) ⟨g7, 3, none⟩ (.int .i64 x11)) ⟨g7, 4, none⟩ (.slice xA12 xn12 xc12)) ⟨g7, 5, none⟩ (.slice xA13 xn13 xc13)).heap[gB]? = some (.cells #[(.slice yA0 yn0 yc0), (.slice yA1 yn1 yc1), (.bool y2), (.bool y3), (.int .i64 y4), (.slice yA5 yn5 yc5), (.int .i64 y6), (.int .i64 y7), (.int .i64 y8), (.int .i64 y9), (.int .i64 y10), (.int .i64 y11), (.slice yA12 yn12 yc12), (.slice yA13 yn13 yc13)] 48 (0, 0))) := ⟨bf6_ BB NgB_g7 NgB_g7 NgB_g7 NgB_g7 NgB_g7 NgB_g7⟩
  have nB5 : Aside0 ((World.setCell (World.setCell (World.setCell (World.setCell (World.setCell (World.setCell wb2 ⟨g7, 0, none⟩ (.int .i64 x8)) ⟨g7, 1, none⟩ (.int .i64 x9)) ⟨g7, 2, none⟩ (.int .i64 x10)) ⟨g7, 3, none⟩ (.int .i64 x11)) ⟨g7, 4, none⟩ (.slice xA12 xn12 xc12)) ⟨g7, 5, none⟩ (.slice xA13 xn13 xc13)).heap[g5]? = some (.cells #[(.bool x2), (.bool x3), (.int .i64 x4), (.slice xA5 xn5 xc5)] 24 (0, 0))) := ⟨bf6_ B5 Ng5_g7 Ng5_g7 Ng5_g7 Ng5_g7 Ng5_g7 Ng5_g7⟩
  have nB6 : Aside0 ((World.setCell (World.setCell (World.setCell (World.setCell (World.setCell (World.setCell wb2 ⟨g7, 0, none⟩ (.int .i64 x8)) ⟨g7, 1, none⟩ (.int .i64 x9)) ⟨g7, 2, none⟩ (.int .i64 x10)) ⟨g7, 3, none⟩ (.int .i64 x11)) ⟨g7, 4, none⟩ (.slice xA12 xn12 xc12)) ⟨g7, 5, none⟩ (.slice xA13 xn13 xc13)).heap[g6]? = some (.cells #[(.bool y2), (.bool y3), (.int .i64 y4), (.slice yA5 yn5 yc5)] 24 (0, 0))) := ⟨bf6_ B6 Ng6_g7 Ng6_g7 Ng6_g7 Ng6_g7 Ng6_g7 Ng6_g7⟩
  have nB8 : Aside0 ((World.setCell (World.setCell (World.setCell (World.setCell (World.setCell (World.setCell wb2 ⟨g7, 0, none⟩ (.int .i64 x8)) ⟨g7, 1, none⟩ (.int .i64 x9)) ⟨g7, 2, none⟩ (.int .i64 x10)) ⟨g7, 3, none⟩ (.int .i64 x11)) ⟨g7, 4, none⟩ (.slice xA12 xn12 xc12)) ⟨g7, 5, none⟩ (.slice xA13 xn13 xc13)).heap[g8]? = some (.cells #[.int .i64 0, .int .i64 0, .int .i64 0, .int .i64 0, .slice none 0 0, .slice none 0 0] 42 (0, 0))) := ⟨bf6_ B8 Ng8_g7 Ng8_g7 Ng8_g7 Ng8_g7 Ng8_g7 Ng8_g7⟩
  have nHB : Aside0 (Below w.heap.size w (World.setCell (World.setCell (World.setCell (World.setCell (World.setCell (World.setCell wb2 ⟨g7, 0, none⟩ (.int .i64 x8)) ⟨g7, 1, none⟩ (.int .i64 x9)) ⟨g7, 2, none⟩ (.int .i64 x10)) ⟨g7, 3, none⟩ (.int .i64 x11)) ⟨g7, 4, none⟩ (.slice xA12 xn12 xc12)) ⟨g7, 5, none⟩ (.slice xA13 xn13 xc13))) := ⟨hb1_ HB G7⟩
  have nB7 : Aside0 ((World.setCell (World.setCell (World.setCell (World.setCell (World.setCell (World.setCell wb2 ⟨g7, 0, none⟩ (.int .i64 x8)) ⟨g7, 1, none⟩ (.int .i64 x9)) ⟨g7, 2, none⟩ (.int .i64 x10)) ⟨g7, 3, none⟩ (.int .i64 x11)) ⟨g7, 4, none⟩ (.slice xA12 xn12 xc12)) ⟨g7, 5, none⟩ (.slice xA13 xn13 xc13)).heap[g7]? = some (.cells #[(.int .i64 x8), (.int .i64 x9), (.int .i64 x10), (.int .i64 x11), (.slice xA12 xn12 xc12), (.slice xA13 xn13 xc13)] 42 (0, 0))) := ⟨bq0_ B7⟩
  (try clear hHeld); clear BA BB B5 B6 B8 HB B7 z0 z1 z2 z3 z4 z5 e0 e1 e2 e3 e4 e5
  generalize (World.setCell (World.setCell (World.setCell (World.setCell (World.setCell (World.setCell wb2 ⟨g7, 0, none⟩ (.int .i64 x8)) ⟨g7, 1, none⟩ (.int .i64 x9)) ⟨g7, 2, none⟩ (.int .i64 x10)) ⟨g7, 3, none⟩ (.int .i64 x11)) ⟨g7, 4, none⟩ (.slice xA12 xn12 xc12)) ⟨g7, 5, none⟩ (.slice xA13 xn13 xc13)) = wm2 at nBA nBB nB5 nB6 nB8 nHB nB7 ⊢
  have BA := nBA; clear nBA
  have BB := nBB; clear nBB
  have B5 := nB5; clear nB5
  have B6 := nB6; clear nB6
  have B8 := nB8; clear nB8
  have HB := nHB; clear nHB
  have B7 := nB7; clear nB7
  refine hK.out _ _ ⟨BA.out, BB.out⟩ (fun hHeld => ?_)
  clear hK K
  refine one_ (i := 7) (N := none) (mk 8 255) rfl rfl (on_ HT_) de_ (fun K hK => ?_)
  obtain ⟨z0, z1, z2, z3, z4, z5⟩ := cz6_ B8
  obtain ⟨e0, e1, e2, e3, e4, e5⟩ := fz6_ B8
  refine skip_ (w1 := ?_) (by rfl) rfl ?_ ?_
  rotate_left
  · go_simp
    rfl
  have nBA : Aside0 ((World.setCell (World.setCell (World.setCell (World.setCell (World.setCell (World.setCell wm2 ⟨g8, 0, none⟩ (.int .i64 y8)) ⟨g8, 1, none⟩ (.int .i64 y9)) ⟨g8, 2, none⟩ (.int .i64 y10)) ⟨g8, 3, none⟩ (.int .i64 y11)) ⟨g8, 4, none⟩ (.slice yA12 yn12 yc12)) ⟨g8, 5, none⟩ (.slice yA13 yn13 yc13)).heap[gA]? = some (.cells #[(.slice xA0 xn0 xc0), (.slice xA1 xn1 xc1), (.bool x2), (.bool x3), (.int .i64 x4), (.slice xA5 xn5 xc5), (.int .i64 x6), (.int .i64 x7), (.int .i64 x8), (.int .i64 x9), (.int .i64 x10), (.int .i64 x11), (.slice xA12 xn12 xc12), (.slice xA13 xn13 xc13)] 48 (0, 0))) := ⟨bf6_ BA NgA_g8 NgA_g8 NgA_g8 NgA_g8 NgA_g8 NgA_g8⟩
  have nBB : Aside0 ((World.setCell (World.setCell (World.setCell (World.setCell (World.setCell (World.setCell wm2 ⟨g8, 0, none⟩ (.int .i64 y8)) ⟨g8, 1, none⟩ (.int .i64 y9)) ⟨g8, 2, none⟩ (.int .i64 y10)) ⟨g8, 3, none⟩ (.int .i64 y11)) ⟨g8, 4, none⟩ (.slice yA12 yn12 yc12)) ⟨g8, 5, none⟩ (.slice yA13 yn13 yc13)).heap[gB]? = some (.cells #[(.slice yA0 yn0 yc0), (.slice yA1 yn1 yc1), (.bool y2), (.bool y3), (.int .i64 y4), (.slice yA5 yn5 yc5), (.int .i64 y6), (.int .i64 y7), (.int .i64 y8), (.int .i64 y9), (.int .i64 y10), (.int .i64 y11), (.slice yA12 yn12 yc12), (.slice yA13 yn13 yc13)] 48 (0, 0))) := ⟨bf6_ BB NgB_g8 NgB_g8 NgB_g8 NgB_g8 NgB_g8 NgB_g8⟩
  have nB5 : Aside0 ((World.setCell (World.setCell (World.setCell (World.setCell (World.setCell (World.setCell wm2 ⟨g8, 0, none⟩ (.int .i64 y8)) ⟨g8, 1, none⟩ (.int .i64 y9)) ⟨g8, 2, none⟩ (.int .i64 y10)) ⟨g8, 3, none⟩ (.int .i64 y11)) ⟨g8, 4, none⟩ (.slice yA12 yn12 yc12)) ⟨g8, 5, none⟩ (.slice yA13 yn13 yc13)).heap[g5]? = some (.cells #[(.bool x2), (.bool x3), (.int .i64 x4), (.slice xA5 xn5 xc5)] 24 (0, 0))) := ⟨bf6_ B5 Ng5_g8 Ng5_g8 Ng5_g8 Ng5_g8 Ng5_g8 Ng5_g8⟩
  have nB6 : Aside0 ((World.setCell (World.setCell (World.setCell (World.setCell (World.setCell (World.setCell wm2 ⟨g8, 0, none⟩ (.int .i64 y8)) ⟨g8, 1, none⟩ (.int .i64 y9)) ⟨g8, 2, none⟩ (.int .i64 y10)) ⟨g8, 3, none⟩ (.int .i64 y11)) ⟨g8, 4, none⟩ (.slice yA12 yn12 yc12)) ⟨g8, 5, none⟩ (.slice yA13 yn13 yc13)).heap[g6]? = some (.cells #[(.bool y2), (.bool y3), (.int .i64 y4), (.slice yA5 yn5 yc5)] 24 (0, 0))) := ⟨bf6_ B6 Ng6_g8 Ng6_g8 Ng6_g8 Ng6_g8 Ng6_g8 Ng6_g8⟩
  have nB7 : Aside0 ((World.setCell (World.setCell (World.setCell (World.setCell (World.setCell (World.setCell wm2 ⟨g8, 0, none⟩ (.int .i64 y8)) ⟨g8, 1, none⟩ (.int .i64 y9)) ⟨g8, 2, none⟩ (.int .i64 y10)) ⟨g8, 3, none⟩ (.int .i64 y11)) ⟨g8, 4, none⟩ (.slice yA12 yn12 yc12)) ⟨g8, 5, none⟩ (.slice yA13 yn13 yc13)).heap[g7]? = some (.cells #[(.int .i64 x8), (.int .i64 x9), (.int .i64 x10), (.int .i64 x11), (.slice xA12 xn12 xc12), (.slice xA13 xn13 xc13)] 42 (0, 0))) := ⟨bf6_ B7 Ng7_g8 Ng7_g8 Ng7_g8 Ng7_g8 Ng7_g8 Ng7_g8⟩
  have nHB : Aside0 (Below w.heap.size w (World.setCell (World.setCell (World.setCell (World.setCell (World.setCell (World.setCell wm2 ⟨g8, 0, none⟩ (.int .i64 y8)) ⟨g8, 1, none⟩ (.int .i64 y9)) ⟨g8, 2, none⟩ (.int .i64 y10)) ⟨g8, 3, none⟩ (.int .i64 y11)) ⟨g8, 4, none⟩ (.slice yA12 yn12 yc12)) ⟨g8, 5, none⟩ (.slice yA13 yn13 yc13))) := ⟨hb1_ HB G8⟩
  have nB8 : Aside0 ((World.setCell (World.setCell (World.setCell (World.setCell (World.setCell (World.setCell wm2 ⟨g8, 0, none⟩ (.int .i64 y8)) ⟨g8, 1, none⟩ (.int .i64 y9)) ⟨g8, 2, none⟩ (.int .i64 y10)) ⟨g8, 3, none⟩ (.int .i64 y11)) ⟨g8, 4, none⟩ (.slice yA12 yn12 yc12)) ⟨g8, 5, none⟩ (.slice yA13 yn13 yc13)).heap[g8]? = some (.cells #[(.int .i64 y8), (.int .i64 y9), (.int .i64 y10), (.int .i64 y11), (.slice yA12 yn12 yc12), (.slice yA13 yn13 yc13)] 42 (0, 0))) := ⟨bq0_ B8⟩
  (try clear hHeld); clear BA BB B5 B6 B7 HB B8 z0 z1 z2 z3 z4 z5 e0 e1 e2 e3 e4 e5
  generalize (World.setCell (World.setCell (World.setCell (World.setCell (World.setCell (World.setCell wm2 ⟨g8, 0, none⟩ (.int .i64 y8)) ⟨g8, 1, none⟩ (.int .i64 y9)) ⟨g8, 2, none⟩ (.int .i64 y10)) ⟨g8, 3, none⟩ (.int .i64 y11)) ⟨g8, 4, none⟩ (.slice yA12 yn12 yc12)) ⟨g8, 5, none⟩ (.slice yA13 yn13 yc13)) = wc2 at nBA nBB nB5 nB6 nB7 nHB nB8 ⊢
  have BA := nBA; clear nBA
  have BB := nBB; clear nBB
  have B5 := nB5; clear nB5
  have B6 := nB6; clear nB6
  have B7 := nB7; clear nB7
  have HB := nHB; clear nHB
  have B8 := nB8; clear nB8
  refine hK.out _ _ ⟨BA.out, BB.out⟩ (fun hHeld => ?_)
  clear hK K
  refine done_ (done_of HT_.out (by kernel_rfl)) ?_
  clear HT_ HW_ hHeld
  go_upto_region 3 with fail
  go_wp2_with fail
  have BS0 := blk_new wc2 (.cells #[.func (.func 27) #[] #[.pointer (some ⟨gA, 0, none⟩), .pointer (some ⟨gB, 0, none⟩)], .func (.func 29) #[] #[.pointer (some ⟨gA, 0, none⟩), .pointer (some ⟨gB, 0, none⟩)], .func (.func 32) #[] #[.pointer (some ⟨g5, 0, none⟩), .pointer (some ⟨g6, 0, none⟩)], .func (.func 33) #[] #[.pointer (some ⟨g5, 0, none⟩), .pointer (some ⟨g6, 0, none⟩)], .func (.func 36) #[] #[.pointer (some ⟨gA, 0, none⟩), .pointer (some ⟨gB, 0, none⟩)], .func (.func 37) #[] #[.pointer (some ⟨g7, 0, none⟩), .pointer (some ⟨g8, 0, none⟩)], .func (.func 38) #[] #[.pointer (some ⟨g7, 0, none⟩), .pointer (some ⟨g8, 0, none⟩)], .func (.func 39) #[] #[.pointer (some ⟨g7, 0, none⟩), .pointer (some ⟨g8, 0, none⟩)]] 25 (0, 0))
  have hb := below_alloc (Below.refl wc2.heap.size wc2) (.cells #[.func (.func 27) #[] #[.pointer (some ⟨gA, 0, none⟩), .pointer (some ⟨gB, 0, none⟩)], .func (.func 29) #[] #[.pointer (some ⟨gA, 0, none⟩), .pointer (some ⟨gB, 0, none⟩)], .func (.func 32) #[] #[.pointer (some ⟨g5, 0, none⟩), .pointer (some ⟨g6, 0, none⟩)], .func (.func 33) #[] #[.pointer (some ⟨g5, 0, none⟩), .pointer (some ⟨g6, 0, none⟩)], .func (.func 36) #[] #[.pointer (some ⟨gA, 0, none⟩), .pointer (some ⟨gB, 0, none⟩)], .func (.func 37) #[] #[.pointer (some ⟨g7, 0, none⟩), .pointer (some ⟨g8, 0, none⟩)], .func (.func 38) #[] #[.pointer (some ⟨g7, 0, none⟩), .pointer (some ⟨g8, 0, none⟩)], .func (.func 39) #[] #[.pointer (some ⟨g7, 0, none⟩), .pointer (some ⟨g8, 0, none⟩)]] 25 (0, 0))
  replace BA := Aside0.mk (blk_below BA.out hb)
  replace BB := Aside0.mk (blk_below BB.out hb)
  replace B5 := Aside0.mk (blk_below B5.out hb)
  replace B6 := Aside0.mk (blk_below B6.out hb)
  replace B7 := Aside0.mk (blk_below B7.out hb)
  replace B8 := Aside0.mk (blk_below B8.out hb)
  replace HB := Aside0.mk (below_step HB.out hb)
  have GS0 : wc2.heap.size < (wc2.alloc (.cells #[.func (.func 27) #[] #[.pointer (some ⟨gA, 0, none⟩), .pointer (some ⟨gB, 0, none⟩)], .func (.func 29) #[] #[.pointer (some ⟨gA, 0, none⟩), .pointer (some ⟨gB, 0, none⟩)], .func (.func 32) #[] #[.pointer (some ⟨g5, 0, none⟩), .pointer (some ⟨g6, 0, none⟩)], .func (.func 33) #[] #[.pointer (some ⟨g5, 0, none⟩), .pointer (some ⟨g6, 0, none⟩)], .func (.func 36) #[] #[.pointer (some ⟨gA, 0, none⟩), .pointer (some ⟨gB, 0, none⟩)], .func (.func 37) #[] #[.pointer (some ⟨g7, 0, none⟩), .pointer (some ⟨g8, 0, none⟩)], .func (.func 38) #[] #[.pointer (some ⟨g7, 0, none⟩), .pointer (some ⟨g8, 0, none⟩)], .func (.func 39) #[] #[.pointer (some ⟨g7, 0, none⟩), .pointer (some ⟨g8, 0, none⟩)]] 25 (0, 0))).heap.size := Array.getElem?_eq_some_iff.1 BS0 |>.1
  clear hb
  generalize hwd : wc2.alloc _ = wd0 at *
  clear hwd
  generalize hgs : wc2.heap.size = gS at *
  clear hgs
  have BS := Aside0.mk BS0; clear BS0 GS0
  clear GA GB G5 G6 G7 G8 NAB hu33 hu26 hu31 hmf
  (try clear NgA_g5)
  (try clear NgB_g5)
  (try clear NgA_g6)
  (try clear NgB_g6)
  (try clear Ng5_g6)
  (try clear Ng6_g5)
  (try clear NgA_g7)
  (try clear NgB_g7)
  (try clear Ng5_g7)
  (try clear Ng6_g7)
  (try clear NgA_g8)
  (try clear NgB_g8)
  (try clear Ng5_g8)
  (try clear Ng6_g8)
  (try clear Ng7_g8)
  (try clear Ng8_g7)
  refine wp_loop_rounds 9 ?_
  rw [rounds_succ]
  have hs1 := cl_ BS 0
  go_wp2_with fail
  refine (HC1.out gA gB _ HB.out BA.out BB.out).mono ?_
  rintro e wd1 ⟨rfl, hb⟩
  replace BA := Aside0.mk (blk_below BA.out hb)
  replace BB := Aside0.mk (blk_below BB.out hb)
  replace B5 := Aside0.mk (blk_below B5.out hb)
  replace B6 := Aside0.mk (blk_below B6.out hb)
  replace B7 := Aside0.mk (blk_below B7.out hb)
  replace B8 := Aside0.mk (blk_below B8.out hb)
  replace BS := Aside0.mk (blk_below BS.out hb)
  replace HB := Aside0.mk (below_step HB.out hb); clear hb hs1 HC1
  cases b1 with
  | false => go_wp2; go_ret; exact ⟨rfl, HB.out⟩
  | true =>
  try go_wp2
  rw [rounds_succ]
  have hs2 := cl_ BS 1
  go_wp2_with fail
  refine (HC2.out gA gB _ HB.out BA.out BB.out).mono ?_
  rintro e wd2 ⟨rfl, hb⟩
  replace BA := Aside0.mk (blk_below BA.out hb)
  replace BB := Aside0.mk (blk_below BB.out hb)
  replace B5 := Aside0.mk (blk_below B5.out hb)
  replace B6 := Aside0.mk (blk_below B6.out hb)
  replace B7 := Aside0.mk (blk_below B7.out hb)
  replace B8 := Aside0.mk (blk_below B8.out hb)
  replace BS := Aside0.mk (blk_below BS.out hb)
  replace HB := Aside0.mk (below_step HB.out hb); clear hb hs2 HC2
  cases b2 with
  | false => go_wp2; go_ret; exact ⟨rfl, HB.out⟩
  | true =>
  try go_wp2
  rw [rounds_succ]
  have hs3 := cl_ BS 2
  go_wp2_with fail
  refine (HC3.out g5 g6 _ HB.out B5.out B6.out).mono ?_
  rintro e wd3 ⟨rfl, hb⟩
  replace BA := Aside0.mk (blk_below BA.out hb)
  replace BB := Aside0.mk (blk_below BB.out hb)
  replace B5 := Aside0.mk (blk_below B5.out hb)
  replace B6 := Aside0.mk (blk_below B6.out hb)
  replace B7 := Aside0.mk (blk_below B7.out hb)
  replace B8 := Aside0.mk (blk_below B8.out hb)
  replace BS := Aside0.mk (blk_below BS.out hb)
  replace HB := Aside0.mk (below_step HB.out hb); clear hb hs3 HC3
  cases b3 with
  | false => go_wp2; go_ret; exact ⟨rfl, HB.out⟩
  | true =>
  try go_wp2
  rw [rounds_succ]
  have hs4 := cl_ BS 3
  go_wp2_with fail
  refine (HC4.out g5 g6 _ HB.out B5.out B6.out).mono ?_
  rintro e wd4 ⟨rfl, hb⟩
  replace BA := Aside0.mk (blk_below BA.out hb)
  replace BB := Aside0.mk (blk_below BB.out hb)
  replace B5 := Aside0.mk (blk_below B5.out hb)
  replace B6 := Aside0.mk (blk_below B6.out hb)
  replace B7 := Aside0.mk (blk_below B7.out hb)
  replace B8 := Aside0.mk (blk_below B8.out hb)
  replace BS := Aside0.mk (blk_below BS.out hb)
  replace HB := Aside0.mk (below_step HB.out hb); clear hb hs4 HC4
  cases b4 with
  | false => go_wp2; go_ret; exact ⟨rfl, HB.out⟩
  | true =>
  try go_wp2
  rw [rounds_succ]
  have hs5 := cl_ BS 4
  go_wp2_with fail
  refine (HC5.out gA gB _ HB.out BA.out BB.out).mono ?_
  rintro e wd5 ⟨rfl, hb⟩
  replace BA := Aside0.mk (blk_below BA.out hb)
  replace BB := Aside0.mk (blk_below BB.out hb)
  replace B5 := Aside0.mk (blk_below B5.out hb)
  replace B6 := Aside0.mk (blk_below B6.out hb)
  replace B7 := Aside0.mk (blk_below B7.out hb)
  replace B8 := Aside0.mk (blk_below B8.out hb)
  replace BS := Aside0.mk (blk_below BS.out hb)
  replace HB := Aside0.mk (below_step HB.out hb); clear hb hs5 HC5
  cases b5 with
  | false => go_wp2; go_ret; exact ⟨rfl, HB.out⟩
  | true =>
  try go_wp2
  rw [rounds_succ]
  have hs6 := cl_ BS 5
  go_wp2_with fail
  refine (HC6.out g7 g8 _ HB.out B7.out B8.out).mono ?_
  rintro e wd6 ⟨rfl, hb⟩
  replace BA := Aside0.mk (blk_below BA.out hb)
  replace BB := Aside0.mk (blk_below BB.out hb)
  replace B5 := Aside0.mk (blk_below B5.out hb)
  replace B6 := Aside0.mk (blk_below B6.out hb)
  replace B7 := Aside0.mk (blk_below B7.out hb)
  replace B8 := Aside0.mk (blk_below B8.out hb)
  replace BS := Aside0.mk (blk_below BS.out hb)
  replace HB := Aside0.mk (below_step HB.out hb); clear hb hs6 HC6
  cases b6 with
  | false => go_wp2; go_ret; exact ⟨rfl, HB.out⟩
  | true =>
  try go_wp2
  rw [rounds_succ]
  have hs7 := cl_ BS 6
  go_wp2_with fail
  refine (HC7.out g7 g8 _ HB.out B7.out B8.out).mono ?_
  rintro e wd7 ⟨rfl, hb⟩
  replace BA := Aside0.mk (blk_below BA.out hb)
  replace BB := Aside0.mk (blk_below BB.out hb)
  replace B5 := Aside0.mk (blk_below B5.out hb)
  replace B6 := Aside0.mk (blk_below B6.out hb)
  replace B7 := Aside0.mk (blk_below B7.out hb)
  replace B8 := Aside0.mk (blk_below B8.out hb)
  replace BS := Aside0.mk (blk_below BS.out hb)
  replace HB := Aside0.mk (below_step HB.out hb); clear hb hs7 HC7
  cases b7 with
  | false => go_wp2; go_ret; exact ⟨rfl, HB.out⟩
  | true =>
  try go_wp2
  rw [rounds_succ]
  have hs8 := cl_ BS 7
  go_wp2_with fail
  refine (HC8.out g7 g8 _ HB.out B7.out B8.out).mono ?_
  rintro e wd8 ⟨rfl, hb⟩
  replace BA := Aside0.mk (blk_below BA.out hb)
  replace BB := Aside0.mk (blk_below BB.out hb)
  replace B5 := Aside0.mk (blk_below B5.out hb)
  replace B6 := Aside0.mk (blk_below B6.out hb)
  replace B7 := Aside0.mk (blk_below B7.out hb)
  replace B8 := Aside0.mk (blk_below B8.out hb)
  replace BS := Aside0.mk (blk_below BS.out hb)
  replace HB := Aside0.mk (below_step HB.out hb); clear hb hs8 HC8
  cases b8 with
  | false => go_wp2; go_ret; exact ⟨rfl, HB.out⟩
  | true =>
  try go_wp2
  rw [rounds_succ]
  go_wp2
  go_ret
  exact ⟨rfl, HB.out⟩
end Go.Proofs.Ytgfhjamaabaleaa.HS
