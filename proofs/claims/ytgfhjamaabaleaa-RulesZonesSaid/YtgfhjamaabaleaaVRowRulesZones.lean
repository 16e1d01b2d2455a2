/- The row of the statement RulesZones. -/
import Derived.Test.YtgfhjamaabaleaaRows
import Derived.Test.YtgfhjamaabaleaaVLRulesZones
import Derived.Test.YtgfhjamaabaleaaVOpenKd
import Derived.Test.YtgfhjamaabaleaaVKx
import Derived.WalkKit
import Derived.ProofKit
import Derived.OpenShut
import Derived.ShutString
import Derived.ChangeOld
import Derived.Below
import Derived.SizedLaws
import Derived.Laws.IdiomArrays
namespace Go.Proofs.Ytgfhjamaabaleaa.rulesZones
open Go.ChangeShapes Go.WideShapes Go.ChangeAt Go.RowKit
open Go.ChangeMaps (open_string shut_string)
open Go.Proofs.Ytgfhjamaabaleaa.OK Go.Proofs.YtgfhjamaabaleaaW.PrintWords
set_option linter.unusedVariables false
theorem own : ownKnob Try.prog.godebug = none := by kernel_rfl
theorem laidOut : laidOutB Try.prog = true := by kernel_rfl
theorem op39 : OK.Op Try.prog Rw.k39 39 (fun x : Rw.S39 => (x.f0.size ≤ 9223372036854775807 ∧ ((Lit.int .i64 x.f1).wf = true))) := op_struct (fun x : Rw.S39 => (x.f0, x.f1)) (fun a => ⟨a.1, a.2⟩) (fun _ => rfl) Try.underlying39 (ops_cons (by rfl) (op_string Try.underlying9) (by kernel_rfl) (ops_last (by rfl) (op_int Try.underlying2) (by kernel_rfl))) (by kernel_rfl)
theorem op28 : OK.Op Try.prog Rw.k28 28 (fun x : Rw.S28 => (x.f0.size ≤ 9223372036854775807 ∧ ((x.f1.length ≤ 9223372036854775807 ∧ ∀ y0 ∈ x.f1, (y0.f0.size ≤ 9223372036854775807 ∧ ((Lit.int .i64 y0.f1).wf = true))) ∧ ((Lit.int .i64 x.f2).wf = true ∧ ((Lit.int .i64 x.f3).wf = true))))) := op_struct (fun x : Rw.S28 => (x.f0, x.f1, x.f2, x.f3)) (fun a => ⟨a.1, a.2.1, a.2.2.1, a.2.2.2⟩) (fun _ => rfl) Try.underlying28 (ops_cons (by rfl) (op_string Try.underlying9) (by kernel_rfl) (ops_cons (by rfl) (op_slice Try.underlying26 (op39) (by kernel_rfl)) (by kernel_rfl) (ops_cons (by rfl) (op_int Try.underlying2) (by kernel_rfl) (ops_last (by rfl) (op_int Try.underlying2) (by kernel_rfl))))) (by kernel_rfl)
theorem op24 : OK.Op Try.prog Rw.k24 24 (fun x : Rw.S24 => (True ∧ (True ∧ ((Lit.int .i64 x.f2).wf = true ∧ ((x.f3.length ≤ 9223372036854775807 ∧ ∀ y0 ∈ x.f3, (y0.f0.size ≤ 9223372036854775807 ∧ ((y0.f1.length ≤ 9223372036854775807 ∧ ∀ y1 ∈ y0.f1, (y1.f0.size ≤ 9223372036854775807 ∧ ((Lit.int .i64 y1.f1).wf = true))) ∧ ((Lit.int .i64 y0.f2).wf = true ∧ ((Lit.int .i64 y0.f3).wf = true)))))))))) := op_struct (fun x : Rw.S24 => (x.f0, x.f1, x.f2, x.f3)) (fun a => ⟨a.1, a.2.1, a.2.2.1, a.2.2.2⟩) (fun _ => rfl) Try.underlying24 (ops_cons (by rfl) (op_bool Try.underlying4) (by kernel_rfl) (ops_cons (by rfl) (op_bool Try.underlying4) (by kernel_rfl) (ops_cons (by rfl) (op_int Try.underlying3) (by kernel_rfl) (ops_last (by rfl) (op_slice Try.underlying22 (op28) (by kernel_rfl)) (by kernel_rfl))))) (by kernel_rfl)
set_option maxRecDepth 100000 in
set_option maxHeartbeats 2000000 in
theorem lifted (os : Os) (started : os.Started) (H : Type) (enc : TypeId × Value → H) :
    ReturnsInHanded {} Try.checked os 3 .any (Rows.rulesZonesSpec.pre6 enc Try.prog Try.f3 Rows.rulesZonesRow.domain false) (Rows.rulesZonesSpec.post enc Try.prog Try.f3 false true false false) := by
  refine returnsInHanded_of_change_sized (C := Try.checked) own started (by kernel_rfl) Try.func3
    (ChangeSpec.witness6 (enc := enc) (C := Try.checked) false ⟨#[], #[.agg #[.bool false, .bool false, .int .i64 0, .slice none 0 0], .bool false, .string ⟨#[]⟩, .string ⟨#[]⟩], []⟩ 8 (by kernel_rfl) (by kernel_rfl) (by kernel_rfl) (by kernel_rfl)) ?_
  intro W base args ds gs before hval0 hW hcnd hsz0 _
  have hval : ∀ (j : Nat) t v, Try.f3.params[j]? = some t → args[j]? = some v → Value.okWide Try.prog W .any base t v := hval0
  have hW' := hW
  obtain ⟨p, q, hA0, hV, rfl, hfz, hnd⟩ := hW
  have hA : DataW.TrodAll enc Try.prog W 0 (fun _ => true) true Try.f3.params.toList args.toList ds p := hA0
  rw [Try.params3] at hA hval
  obtain ⟨v0, vs0, d0, ds0, p0, q0, hargs, rfl, rfl, h0, r0⟩ := trodAll_cons hA
  obtain ⟨v1, vs1, d1, ds1, p1, q1, rfl, rfl, rfl, h1, r1⟩ := trodAll_cons r0
  obtain ⟨v2, vs2, d2, ds2, p2, q2, rfl, rfl, rfl, h2, r2⟩ := trodAll_cons r1
  obtain ⟨v3, vs3, d3, ds3, p3, q3, rfl, rfl, rfl, h3, r3⟩ := trodAll_cons r2
  obtain ⟨rfl, rfl, rfl⟩ := trodAll_nil r3
  obtain rfl : args = #[v0, v1, v2, v3] := by cases args; simp_all
  obtain ⟨rfl, rfl⟩ := trodVars_none hV
  have k0 := h0
  have lt0 : ∀ x ∈ p0, x.block < W.heap.size := by obtain ⟨m, hm⟩ := k0; exact DataW.trod_lt m _ _ _ hm
  obtain ⟨cs0, rfl, hs0⟩ := okWide_struct Try.underlying24 (hval 0 24 v0 rfl rfl)
  obtain ⟨fu0, hf0⟩ := h0
  obtain ⟨x0, hx0, g0⟩ := (op24).go hf0
  change (Rw.k24).K W x0 cs0.toList at hx0
  obtain ⟨A0_3, c0_3, he0, hc0_3, hr0_3⟩ := Rw.k24_open hx0
  obtain rfl : cs0 = #[.bool x0.f0, .bool x0.f1, .int .i64 x0.f2, .slice A0_3 x0.f3.length c0_3] := by cases cs0; simp_all
  have k1 := h1
  have lt1 : ∀ x ∈ p1, x.block < W.heap.size := by obtain ⟨m, hm⟩ := k1; exact DataW.trod_lt m _ _ _ hm
  obtain ⟨a1, rfl, rfl, rfl⟩ := open_bool Try.underlying4 (hval 1 4 v1 rfl rfl) h1
  have k2 := h2
  have lt2 : ∀ x ∈ p2, x.block < W.heap.size := by obtain ⟨m, hm⟩ := k2; exact DataW.trod_lt m _ _ _ hm
  obtain ⟨a2, rfl, rfl, rfl, g2⟩ := open_string Try.underlying9 (hval 2 9 v2 rfl rfl) h2
  have k3 := h3
  have lt3 : ∀ x ∈ p3, x.block < W.heap.size := by obtain ⟨m, hm⟩ := k3; exact DataW.trod_lt m _ _ _ hm
  obtain ⟨a3, rfl, rfl, rfl, g3⟩ := open_string Try.underlying9 (hval 3 9 v3 rfl rfl) h3
  clear hA0 hval0 hsz0
  obtain ⟨k, hk⟩ := LRZ.Pure x0 a1 a2 a3 
  refine (LRZ.calls k x0.f0 x0.f1 x0.f2 A0_3 c0_3 x0.f3 a1 a2 a3 true W hr0_3 hc0_3 hk).mono fun e W' ⟨he, bel⟩ => ?_
  subst he
  exact ⟨_, rfl, _, _, _, [], _, [], hW', trodAll_mk1 (shut_bool Try.underlying4 _), (trodAll_cons_mk (Below.trod laidOut (by kernel_rfl) (of_decide_eq_true (by kernel_rfl)) k0 bel lt0) (trodAll_cons_mk (shut_bool Try.underlying4 _) (trodAll_cons_mk (shut_string Try.underlying9 g2) (trodAll_cons_mk (shut_string Try.underlying9 g3) trodAll_mk0)))), rfl, bel.frame _, fun h => by cases h⟩
theorem over : Rows.rulesZonesRow.holds Try.pinned (OpenSpec.ofChange Rows.rulesZonesSpec) :=
  OpenClaim.holds_of_wide 3 Try.f3 rfl rfl rfl rfl rfl rfl rfl ⟨rfl, rfl, rfl, rfl, rfl⟩ rfl rfl rfl rfl rfl (by kernel_rfl) Try.func3 (by kernel_rfl)
    (of_decide_eq_true (by kernel_rfl)) (by unfold Func.isWrapper; first | (rw [if_pos (by decide +kernel)]; kernel_rfl) | (rw [if_neg (by decide +kernel)]; exact ⟨rfl, rfl⟩))
    (fun os started H enc _ => lifted os started H enc)
theorem proved : Rows.RulesZonesSaid := over
#print axioms proved
end Go.Proofs.Ytgfhjamaabaleaa.rulesZones
namespace Go.Proofs.Ytgfhjamaabaleaa
/-- The row, under a short name, for the claim. -/
theorem rulesZones_holds : Rows.RulesZonesSaid := rulesZones.proved
end Go.Proofs.Ytgfhjamaabaleaa
