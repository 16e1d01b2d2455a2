/- The row of the statement PromoTurned. -/
import Derived.Test.YtdmeepjefccpgaaRows
import Derived.Test.YtdmeepjefccpgaaVLPromoTurned
import Derived.Test.YtdmeepjefccpgaaVOpenKd
import Derived.WalkKit
import Derived.ProofKit
import Derived.OpenShut
import Derived.ShutString
import Derived.ChangeOld
import Derived.Below
import Derived.SizedLaws
import Derived.Laws.IdiomArrays
namespace Go.Proofs.Ytdmeepjefccpgaa.promoTurned
open Go.ChangeShapes Go.WideShapes Go.ChangeAt Go.RowKit
open Go.ChangeMaps (open_string shut_string)
open Go.Proofs.Ytdmeepjefccpgaa.OK Go.Proofs.YtdmeepjefccpgaaW.PrintWords
set_option linter.unusedVariables false
theorem own : ownKnob Try.prog.godebug = none := by kernel_rfl
theorem laidOut : laidOutB Try.prog = true := by kernel_rfl
theorem op56 : OK.Op Try.prog Rw.k56 56 (fun x : Rw.S56 => ((x.f0.length ≤ 9223372036854775807 ∧ ∀ y0 ∈ x.f0, y0.size ≤ 9223372036854775807) ∧ ((x.f1.length ≤ 9223372036854775807 ∧ ∀ y0 ∈ x.f1, y0.size ≤ 9223372036854775807)))) := op_struct (fun x : Rw.S56 => (x.f0, x.f1)) (fun a => ⟨a.1, a.2⟩) (fun _ => rfl) Try.underlying56 (ops_cons (by rfl) (op_slice Try.underlying54 (op_string Try.underlying9) (by kernel_rfl)) (by kernel_rfl) (ops_last (by rfl) (op_slice Try.underlying54 (op_string Try.underlying9) (by kernel_rfl)) (by kernel_rfl))) (by kernel_rfl)
theorem op65 : OK.Op Try.prog Rw.k65 65 (fun x : Rw.S65 => (((x.f0.f0.length ≤ 9223372036854775807 ∧ ∀ y0 ∈ x.f0.f0, y0.size ≤ 9223372036854775807) ∧ ((x.f0.f1.length ≤ 9223372036854775807 ∧ ∀ y0 ∈ x.f0.f1, y0.size ≤ 9223372036854775807))) ∧ ((Lit.int .i64 x.f1).wf = true))) := op_struct (fun x : Rw.S65 => (x.f0, x.f1)) (fun a => ⟨a.1, a.2⟩) (fun _ => rfl) Try.underlying65 (ops_cons (by rfl) (op56) (by kernel_rfl) (ops_last (by rfl) (op_int Try.underlying3) (by kernel_rfl))) (by kernel_rfl)
theorem op67 : OK.Op Try.prog Rw.k67 67 (fun x : Rw.S67 => ((Lit.int .i64 x.f0).wf = true ∧ ((Lit.int .i64 x.f1).wf = true ∧ ((Lit.int .i64 x.f2).wf = true)))) := op_struct (fun x : Rw.S67 => (x.f0, x.f1, x.f2)) (fun a => ⟨a.1, a.2.1, a.2.2⟩) (fun _ => rfl) Try.underlying67 (ops_cons (by rfl) (op_int Try.underlying2) (by kernel_rfl) (ops_cons (by rfl) (op_int Try.underlying2) (by kernel_rfl) (ops_last (by rfl) (op_int Try.underlying2) (by kernel_rfl)))) (by kernel_rfl)
theorem op60 : OK.Op Try.prog Rw.k60 60 (fun x : Rw.S60 => (x.f0.size ≤ 9223372036854775807 ∧ ((Lit.int .i64 x.f1).wf = true ∧ ((Lit.int .i64 x.f2).wf = true ∧ (x.f3.size ≤ 9223372036854775807 ∧ (x.f4.size ≤ 9223372036854775807 ∧ (True ∧ (((x.f6.f0.length ≤ 9223372036854775807 ∧ ∀ y0 ∈ x.f6.f0, y0.size ≤ 9223372036854775807) ∧ ((x.f6.f1.length ≤ 9223372036854775807 ∧ ∀ y0 ∈ x.f6.f1, y0.size ≤ 9223372036854775807))) ∧ ((Lit.int .i64 x.f7).wf = true ∧ ((Lit.int .i64 x.f8).wf = true ∧ ((Lit.int .i64 x.f9).wf = true ∧ ((Lit.int .i64 x.f10).wf = true ∧ ((Lit.int .i64 x.f11).wf = true ∧ ((x.f12.length ≤ 9223372036854775807 ∧ ∀ y0 ∈ x.f12, (((y0.f0.f0.length ≤ 9223372036854775807 ∧ ∀ y1 ∈ y0.f0.f0, y1.size ≤ 9223372036854775807) ∧ ((y0.f0.f1.length ≤ 9223372036854775807 ∧ ∀ y1 ∈ y0.f0.f1, y1.size ≤ 9223372036854775807))) ∧ ((Lit.int .i64 y0.f1).wf = true))) ∧ ((x.f13.length ≤ 9223372036854775807 ∧ ∀ y0 ∈ x.f13, ((Lit.int .i64 y0.f0).wf = true ∧ ((Lit.int .i64 y0.f1).wf = true ∧ ((Lit.int .i64 y0.f2).wf = true))))))))))))))))))) := op_struct (fun x : Rw.S60 => (x.f0, x.f1, x.f2, x.f3, x.f4, x.f5, x.f6, x.f7, x.f8, x.f9, x.f10, x.f11, x.f12, x.f13)) (fun a => ⟨a.1, a.2.1, a.2.2.1, a.2.2.2.1, a.2.2.2.2.1, a.2.2.2.2.2.1, a.2.2.2.2.2.2.1, a.2.2.2.2.2.2.2.1, a.2.2.2.2.2.2.2.2.1, a.2.2.2.2.2.2.2.2.2.1, a.2.2.2.2.2.2.2.2.2.2.1, a.2.2.2.2.2.2.2.2.2.2.2.1, a.2.2.2.2.2.2.2.2.2.2.2.2.1, a.2.2.2.2.2.2.2.2.2.2.2.2.2⟩) (fun _ => rfl) Try.underlying60 (ops_cons (by rfl) (op_string Try.underlying9) (by kernel_rfl) (ops_cons (by rfl) (op_int Try.underlying3) (by kernel_rfl) (ops_cons (by rfl) (op_int Try.underlying3) (by kernel_rfl) (ops_cons (by rfl) (op_string Try.underlying9) (by kernel_rfl) (ops_cons (by rfl) (op_string Try.underlying9) (by kernel_rfl) (ops_cons (by rfl) (op_bool Try.underlying4) (by kernel_rfl) (ops_cons (by rfl) (op56) (by kernel_rfl) (ops_cons (by rfl) (op_int Try.underlying2) (by kernel_rfl) (ops_cons (by rfl) (op_int Try.underlying2) (by kernel_rfl) (ops_cons (by rfl) (op_int Try.underlying2) (by kernel_rfl) (ops_cons (by rfl) (op_int Try.underlying3) (by kernel_rfl) (ops_cons (by rfl) (op_int Try.underlying3) (by kernel_rfl) (ops_cons (by rfl) (op_slice Try.underlying57 (op65) (by kernel_rfl)) (by kernel_rfl) (ops_last (by rfl) (op_slice Try.underlying58 (op67) (by kernel_rfl)) (by kernel_rfl))))))))))))))) (by kernel_rfl)
set_option maxRecDepth 100000 in
set_option maxHeartbeats 2000000 in
theorem lifted (os : Os) (started : os.Started) (H : Type) (enc : TypeId × Value → H) :
    ReturnsInHanded {} Try.checked os 7 .any (Rows.promoTurnedSpec.pre6 enc Try.prog Try.f7 Rows.promoTurnedRow.domain false) (Rows.promoTurnedSpec.post enc Try.prog Try.f7 false true false false) := by
  refine returnsInHanded_of_change_sized (C := Try.checked) own started (by kernel_rfl) Try.func7
    (ChangeSpec.witness6 (enc := enc) (C := Try.checked) false ⟨#[], #[.agg #[.string ⟨#[]⟩, .int .i64 0, .int .i64 0, .string ⟨#[]⟩, .string ⟨#[]⟩, .bool false, .slice none 0 0, .slice none 0 0, .int .i64 0, .int .i64 0, .int .i64 0, .int .i64 0, .int .i64 0, .slice none 0 0, .slice none 0 0], .int .i64 0, .int .i64 0, .string ⟨#[]⟩], []⟩ 8 (by kernel_rfl) (by kernel_rfl) (by kernel_rfl) (by kernel_rfl)) ?_
  intro W base args ds gs before hval0 hW hcnd hsz0 _
  have hval : ∀ (j : Nat) t v, Try.f7.params[j]? = some t → args[j]? = some v → Value.okWide Try.prog W .any base t v := hval0
  have hW' := hW
  obtain ⟨p, q, hA0, hV, rfl, hfz, hnd⟩ := hW
  have hA : DataW.TrodAll enc Try.prog W 0 (fun _ => true) true Try.f7.params.toList args.toList ds p := hA0
  rw [Try.params7] at hA hval
  obtain ⟨v0, vs0, d0, ds0, p0, q0, hargs, rfl, rfl, h0, r0⟩ := trodAll_cons hA
  obtain ⟨v1, vs1, d1, ds1, p1, q1, rfl, rfl, rfl, h1, r1⟩ := trodAll_cons r0
  obtain ⟨v2, vs2, d2, ds2, p2, q2, rfl, rfl, rfl, h2, r2⟩ := trodAll_cons r1
  obtain ⟨v3, vs3, d3, ds3, p3, q3, rfl, rfl, rfl, h3, r3⟩ := trodAll_cons r2
  obtain ⟨rfl, rfl, rfl⟩ := trodAll_nil r3
  obtain rfl : args = #[v0, v1, v2, v3] := by cases args; simp_all
  obtain ⟨rfl, rfl⟩ := trodVars_none hV
  have k0 := h0
  have lt0 : ∀ x ∈ p0, x.block < W.heap.size := by obtain ⟨m, hm⟩ := k0; exact DataW.trod_lt m _ _ _ hm
  obtain ⟨cs0, rfl, hs0⟩ := okWide_struct Try.underlying60 (hval 0 60 v0 rfl rfl)
  obtain ⟨fu0, hf0⟩ := h0
  obtain ⟨x0, hx0, g0⟩ := (op60).go hf0
  change (Rw.k60).K W x0 cs0.toList at hx0
  obtain ⟨A0_6, c0_6, A0_7, c0_7, A0_13, c0_13, A0_14, c0_14, he0, hc0_6, hr0_6, hc0_7, hr0_7, hc0_13, hr0_13, hc0_14, hr0_14⟩ := Rw.k60_open hx0
  obtain rfl : cs0 = #[.string x0.f0, .int .i64 x0.f1, .int .i64 x0.f2, .string x0.f3, .string x0.f4, .bool x0.f5, .slice A0_6 x0.f6.f0.length c0_6, .slice A0_7 x0.f6.f1.length c0_7, .int .i64 x0.f7, .int .i64 x0.f8, .int .i64 x0.f9, .int .i64 x0.f10, .int .i64 x0.f11, .slice A0_13 x0.f12.length c0_13, .slice A0_14 x0.f13.length c0_14] := by cases cs0; simp_all
  have k1 := h1
  have lt1 : ∀ x ∈ p1, x.block < W.heap.size := by obtain ⟨m, hm⟩ := k1; exact DataW.trod_lt m _ _ _ hm
  obtain ⟨a1, rfl, rfl, rfl, g1⟩ := open_int Try.underlying3 (hval 1 3 v1 rfl rfl) h1
  have k2 := h2
  have lt2 : ∀ x ∈ p2, x.block < W.heap.size := by obtain ⟨m, hm⟩ := k2; exact DataW.trod_lt m _ _ _ hm
  obtain ⟨a2, rfl, rfl, rfl, g2⟩ := open_int Try.underlying2 (hval 2 2 v2 rfl rfl) h2
  have k3 := h3
  have lt3 : ∀ x ∈ p3, x.block < W.heap.size := by obtain ⟨m, hm⟩ := k3; exact DataW.trod_lt m _ _ _ hm
  obtain ⟨a3, rfl, rfl, rfl, g3⟩ := open_string Try.underlying9 (hval 3 9 v3 rfl rfl) h3
  clear hA0 hval0 hsz0
  obtain ⟨k, hk⟩ := LPT.Pure x0 a1 a2 a3 g0
  refine (LPT.calls k x0.f0 x0.f1 x0.f2 x0.f3 x0.f4 x0.f5 A0_6 c0_6 x0.f6.f0 A0_7 c0_7 x0.f6.f1 x0.f7 x0.f8 x0.f9 x0.f10 x0.f11 A0_13 c0_13 x0.f12 A0_14 c0_14 x0.f13 a1 a2 a3 true W hr0_6 hc0_6 hr0_7 hc0_7 hr0_13 hc0_13 hr0_14 hc0_14 hk).mono fun e W' ⟨he, bel⟩ => ?_
  subst he
  exact ⟨_, rfl, _, _, _, [], _, [], hW', trodAll_mk1 (shut_bool Try.underlying4 _), (trodAll_cons_mk (Below.trod laidOut (by kernel_rfl) (of_decide_eq_true (by kernel_rfl)) k0 bel lt0) (trodAll_cons_mk (shut_int Try.underlying3 g1) (trodAll_cons_mk (shut_int Try.underlying2 g2) (trodAll_cons_mk (shut_string Try.underlying9 g3) trodAll_mk0)))), rfl, bel.frame _, fun h => by cases h⟩
theorem over : Rows.promoTurnedRow.holds Try.pinned (OpenSpec.ofChange Rows.promoTurnedSpec) :=
  OpenClaim.holds_of_wide 7 Try.f7 rfl rfl rfl rfl rfl rfl rfl ⟨rfl, rfl, rfl, rfl, rfl⟩ rfl rfl rfl rfl rfl (by kernel_rfl) Try.func7 (by kernel_rfl)
    (of_decide_eq_true (by kernel_rfl)) (by unfold Func.isWrapper; first | (rw [if_pos (by decide +kernel)]; kernel_rfl) | (rw [if_neg (by decide +kernel)]; exact ⟨rfl, rfl⟩))
    (fun os started H enc _ => lifted os started H enc)
theorem proved : Rows.PromoTurnedSaid := over
#print axioms proved
end Go.Proofs.Ytdmeepjefccpgaa.promoTurned
namespace Go.Proofs.Ytdmeepjefccpgaa
/-- The row, under a short name, for the claim. -/
theorem promoTurned_holds : Rows.PromoTurnedSaid := promoTurned.proved
end Go.Proofs.Ytdmeepjefccpgaa
