/- The row of the statement TenderRaw. -/
import Derived.Test.YtegjbbblpnenfaaRows
import Derived.Test.YtegjbbblpnenfaaVLTenderRaw
import Derived.Test.YtegjbbblpnenfaaVOpenKd
import Derived.WalkKit
import Derived.ProofKit
import Derived.OpenShut
import Derived.ShutString
import Derived.ChangeOld
import Derived.Below
import Derived.SizedLaws
import Derived.Laws.IdiomArrays
namespace Go.Proofs.Ytegjbbblpnenfaa.tenderRaw
open Go.ChangeShapes Go.WideShapes Go.ChangeAt Go.RowKit
open Go.ChangeMaps (open_string shut_string)
open Go.Proofs.Ytegjbbblpnenfaa.OK Go.Proofs.YtegjbbblpnenfaaW.PrintWords
set_option linter.unusedVariables false
theorem own : ownKnob Try.prog.godebug = none := by kernel_rfl
theorem laidOut : laidOutB Try.prog = true := by kernel_rfl
theorem op39 : OK.Op Try.prog Rw.k39 39 (fun x : Rw.S39 => ((Lit.int .i64 x.f0).wf = true ∧ ((Lit.int .i64 x.f1).wf = true ∧ ((Lit.int .i64 x.f2).wf = true)))) := op_struct (fun x : Rw.S39 => (x.f0, x.f1, x.f2)) (fun a => ⟨a.1, a.2.1, a.2.2⟩) (fun _ => rfl) Try.underlying39 (ops_cons (by rfl) (op_int Try.underlying3) (by kernel_rfl) (ops_cons (by rfl) (op_int Try.underlying2) (by kernel_rfl) (ops_last (by rfl) (op_int Try.underlying2) (by kernel_rfl)))) (by kernel_rfl)
theorem op34 : OK.Op Try.prog Rw.k34 34 (fun x : Rw.S34 => ((Lit.int .i64 x.f0).wf = true ∧ ((Lit.int .i64 x.f1).wf = true ∧ (True)))) := op_struct (fun x : Rw.S34 => (x.f0, x.f1, x.f2)) (fun a => ⟨a.1, a.2.1, a.2.2⟩) (fun _ => rfl) Try.underlying34 (ops_cons (by rfl) (op_int Try.underlying3) (by kernel_rfl) (ops_cons (by rfl) (op_int Try.underlying2) (by kernel_rfl) (ops_last (by rfl) (op_bool Try.underlying4) (by kernel_rfl)))) (by kernel_rfl)
set_option maxRecDepth 100000 in
set_option maxHeartbeats 2000000 in
theorem lifted (os : Os) (started : os.Started) (H : Type) (enc : TypeId × Value → H) :
    ReturnsInHanded {} Try.checked os 6 .any (Rows.tenderRawSpec.pre6 enc Try.prog Try.f6 Rows.tenderRawRow.domain false) (Rows.tenderRawSpec.post enc Try.prog Try.f6 false true false false) := by
  refine returnsInHanded_of_change_sized (C := Try.checked) own started (by kernel_rfl) Try.func6
    (ChangeSpec.witness6 (enc := enc) (C := Try.checked) false ⟨#[], #[.slice none 0 0, .slice none 0 0, .slice none 0 0, .int .i64 0, .slice none 0 0, .int .i64 0], []⟩ 8 (by kernel_rfl) (by kernel_rfl) (by kernel_rfl) (by kernel_rfl)) ?_
  intro W base args ds gs before hval0 hW hcnd hsz0 _
  have hval : ∀ (j : Nat) t v, Try.f6.params[j]? = some t → args[j]? = some v → Value.okWide Try.prog W .any base t v := hval0
  have hW' := hW
  obtain ⟨p, q, hA0, hV, rfl, hfz, hnd⟩ := hW
  have hA : DataW.TrodAll enc Try.prog W 0 (fun _ => true) true Try.f6.params.toList args.toList ds p := hA0
  rw [Try.params6] at hA hval
  obtain ⟨v0, vs0, d0, ds0, p0, q0, hargs, rfl, rfl, h0, r0⟩ := trodAll_cons hA
  obtain ⟨v1, vs1, d1, ds1, p1, q1, rfl, rfl, rfl, h1, r1⟩ := trodAll_cons r0
  obtain ⟨v2, vs2, d2, ds2, p2, q2, rfl, rfl, rfl, h2, r2⟩ := trodAll_cons r1
  obtain ⟨v3, vs3, d3, ds3, p3, q3, rfl, rfl, rfl, h3, r3⟩ := trodAll_cons r2
  obtain ⟨v4, vs4, d4, ds4, p4, q4, rfl, rfl, rfl, h4, r4⟩ := trodAll_cons r3
  obtain ⟨v5, vs5, d5, ds5, p5, q5, rfl, rfl, rfl, h5, r5⟩ := trodAll_cons r4
  obtain ⟨rfl, rfl, rfl⟩ := trodAll_nil r5
  obtain rfl : args = #[v0, v1, v2, v3, v4, v5] := by cases args; simp_all
  obtain ⟨rfl, rfl⟩ := trodVars_none hV
  have k0 := h0
  have lt0 : ∀ x ∈ p0, x.block < W.heap.size := by obtain ⟨m, hm⟩ := k0; exact DataW.trod_lt m _ _ _ hm
  obtain ⟨A0, len0, c0, rfl⟩ := okWide_slice Try.underlying22 (hval 0 22 v0 rfl rfl)
  obtain ⟨fu0, hf0⟩ := h0
  obtain ⟨l0, hl0, g0⟩ := (op_slice (e' := 39) Try.underlying22 (op39) (by kernel_rfl)).go hf0
  change (Kd.slice 39 Rw.k39).K W l0 [.slice A0 len0 c0] at hl0
  obtain ⟨B0, e0, he0, hc0, hr0⟩ := hl0
  obtain ⟨rfl, rfl, rfl⟩ : A0 = B0 ∧ len0 = l0.length ∧ c0 = e0 := by injection he0 with h; injection h with h1 h2 h3; exact ⟨h1, h2, h3⟩
  have k1 := h1
  have lt1 : ∀ x ∈ p1, x.block < W.heap.size := by obtain ⟨m, hm⟩ := k1; exact DataW.trod_lt m _ _ _ hm
  obtain ⟨A1, len1, c1, rfl⟩ := okWide_slice Try.underlying23 (hval 1 23 v1 rfl rfl)
  obtain ⟨fu1, hf1⟩ := h1
  obtain ⟨l1, hl1, g1⟩ := (op_slice (e' := 3) Try.underlying23 (op_int Try.underlying3) (by kernel_rfl)).go hf1
  change (Kd.slice 3 (Kd.int .i64)).K W l1 [.slice A1 len1 c1] at hl1
  obtain ⟨B1, e1, he1, hc1, hr1⟩ := hl1
  obtain ⟨rfl, rfl, rfl⟩ : A1 = B1 ∧ len1 = l1.length ∧ c1 = e1 := by injection he1 with h; injection h with h1 h2 h3; exact ⟨h1, h2, h3⟩
  have k2 := h2
  have lt2 : ∀ x ∈ p2, x.block < W.heap.size := by obtain ⟨m, hm⟩ := k2; exact DataW.trod_lt m _ _ _ hm
  obtain ⟨A2, len2, c2, rfl⟩ := okWide_slice Try.underlying23 (hval 2 23 v2 rfl rfl)
  obtain ⟨fu2, hf2⟩ := h2
  obtain ⟨l2, hl2, g2⟩ := (op_slice (e' := 3) Try.underlying23 (op_int Try.underlying3) (by kernel_rfl)).go hf2
  change (Kd.slice 3 (Kd.int .i64)).K W l2 [.slice A2 len2 c2] at hl2
  obtain ⟨B2, e2, he2, hc2, hr2⟩ := hl2
  obtain ⟨rfl, rfl, rfl⟩ : A2 = B2 ∧ len2 = l2.length ∧ c2 = e2 := by injection he2 with h; injection h with h1 h2 h3; exact ⟨h1, h2, h3⟩
  have k3 := h3
  have lt3 : ∀ x ∈ p3, x.block < W.heap.size := by obtain ⟨m, hm⟩ := k3; exact DataW.trod_lt m _ _ _ hm
  obtain ⟨a3, rfl, rfl, rfl, g3⟩ := open_int Try.underlying2 (hval 3 2 v3 rfl rfl) h3
  have k4 := h4
  have lt4 : ∀ x ∈ p4, x.block < W.heap.size := by obtain ⟨m, hm⟩ := k4; exact DataW.trod_lt m _ _ _ hm
  obtain ⟨A4, len4, c4, rfl⟩ := okWide_slice Try.underlying28 (hval 4 28 v4 rfl rfl)
  obtain ⟨fu4, hf4⟩ := h4
  obtain ⟨l4, hl4, g4⟩ := (op_slice (e' := 34) Try.underlying28 (op34) (by kernel_rfl)).go hf4
  change (Kd.slice 34 Rw.k34).K W l4 [.slice A4 len4 c4] at hl4
  obtain ⟨B4, e4, he4, hc4, hr4⟩ := hl4
  obtain ⟨rfl, rfl, rfl⟩ : A4 = B4 ∧ len4 = l4.length ∧ c4 = e4 := by injection he4 with h; injection h with h1 h2 h3; exact ⟨h1, h2, h3⟩
  have k5 := h5
  have lt5 : ∀ x ∈ p5, x.block < W.heap.size := by obtain ⟨m, hm⟩ := k5; exact DataW.trod_lt m _ _ _ hm
  obtain ⟨a5, rfl, rfl, rfl, g5⟩ := open_int Try.underlying3 (hval 5 3 v5 rfl rfl) h5
  clear hA0 hval0 hsz0
  obtain ⟨k, hk⟩ := LTR.Pure l0 l1 l2 a3 l4 a5 
  refine (LTR.calls k A0 c0 l0 A1 c1 l1 A2 c2 l2 a3 A4 c4 l4 a5 true W hr0 hc0 hr1 hc1 hr2 hc2 hr4 hc4 hk).mono fun e W' ⟨he, bel⟩ => ?_
  subst he
  exact ⟨_, rfl, _, _, _, [], _, [], hW', trodAll_mk1 (shut_bool Try.underlying4 _), (trodAll_cons_mk (Below.trod laidOut (by kernel_rfl) (of_decide_eq_true (by kernel_rfl)) k0 bel lt0) (trodAll_cons_mk (Below.trod laidOut (by kernel_rfl) (of_decide_eq_true (by kernel_rfl)) k1 bel lt1) (trodAll_cons_mk (Below.trod laidOut (by kernel_rfl) (of_decide_eq_true (by kernel_rfl)) k2 bel lt2) (trodAll_cons_mk (shut_int Try.underlying2 g3) (trodAll_cons_mk (Below.trod laidOut (by kernel_rfl) (of_decide_eq_true (by kernel_rfl)) k4 bel lt4) (trodAll_cons_mk (shut_int Try.underlying3 g5) trodAll_mk0)))))), rfl, bel.frame _, fun h => by cases h⟩
theorem over : Rows.tenderRawRow.holds Try.pinned (OpenSpec.ofChange Rows.tenderRawSpec) :=
  OpenClaim.holds_of_wide 6 Try.f6 rfl rfl rfl rfl rfl rfl rfl ⟨rfl, rfl, rfl, rfl, rfl⟩ rfl rfl rfl rfl rfl (by kernel_rfl) Try.func6 (by kernel_rfl)
    (of_decide_eq_true (by kernel_rfl)) (by unfold Func.isWrapper; first | (rw [if_pos (by decide +kernel)]; kernel_rfl) | (rw [if_neg (by decide +kernel)]; exact ⟨rfl, rfl⟩))
    (fun os started H enc _ => lifted os started H enc)
theorem proved : Rows.TenderRawSaid := over
#print axioms proved
end Go.Proofs.Ytegjbbblpnenfaa.tenderRaw
namespace Go.Proofs.Ytegjbbblpnenfaa
/-- The row, under a short name, for the claim. -/
theorem tenderRaw_holds : Rows.TenderRawSaid := tenderRaw.proved
end Go.Proofs.Ytegjbbblpnenfaa
