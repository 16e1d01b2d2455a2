/- The row of the statement PromoMore. -/
import Derived.Test.YtdmeepjefccpgaaRows
import Derived.Test.YtdmeepjefccpgaaVLPromoMore
import Derived.Test.YtdmeepjefccpgaaVOpenKd
import Derived.WalkKit
import Derived.ProofKit
import Derived.OpenShut
import Derived.ShutString
import Derived.ChangeOld
import Derived.Below
import Derived.SizedLaws
import Derived.Laws.IdiomArrays
namespace Go.Proofs.Ytdmeepjefccpgaa.promoMore
open Go.ChangeShapes Go.WideShapes Go.ChangeAt Go.RowKit
open Go.ChangeMaps (open_string shut_string)
open Go.Proofs.Ytdmeepjefccpgaa.OK Go.Proofs.YtdmeepjefccpgaaW.PrintWords
set_option linter.unusedVariables false
theorem own : ownKnob Try.prog.godebug = none := by kernel_rfl
theorem laidOut : laidOutB Try.prog = true := by kernel_rfl
theorem op56 : OK.Op Try.prog Rw.k56 56 (fun x : Rw.S56 => ((x.f0.length ≤ 9223372036854775807 ∧ ∀ y0 ∈ x.f0, y0.size ≤ 9223372036854775807) ∧ ((x.f1.length ≤ 9223372036854775807 ∧ ∀ y0 ∈ x.f1, y0.size ≤ 9223372036854775807)))) := op_struct (fun x : Rw.S56 => (x.f0, x.f1)) (fun a => ⟨a.1, a.2⟩) (fun _ => rfl) Try.underlying56 (ops_cons (by rfl) (op_slice Try.underlying54 (op_string Try.underlying9) (by kernel_rfl)) (by kernel_rfl) (ops_last (by rfl) (op_slice Try.underlying54 (op_string Try.underlying9) (by kernel_rfl)) (by kernel_rfl))) (by kernel_rfl)
theorem op65 : OK.Op Try.prog Rw.k65 65 (fun x : Rw.S65 => (((x.f0.f0.length ≤ 9223372036854775807 ∧ ∀ y0 ∈ x.f0.f0, y0.size ≤ 9223372036854775807) ∧ ((x.f0.f1.length ≤ 9223372036854775807 ∧ ∀ y0 ∈ x.f0.f1, y0.size ≤ 9223372036854775807))) ∧ ((Lit.int .i64 x.f1).wf = true))) := op_struct (fun x : Rw.S65 => (x.f0, x.f1)) (fun a => ⟨a.1, a.2⟩) (fun _ => rfl) Try.underlying65 (ops_cons (by rfl) (op56) (by kernel_rfl) (ops_last (by rfl) (op_int Try.underlying3) (by kernel_rfl))) (by kernel_rfl)
theorem op67 : OK.Op Try.prog Rw.k67 67 (fun x : Rw.S67 => ((Lit.int .i64 x.f0).wf = true ∧ ((Lit.int .i64 x.f1).wf = true ∧ ((Lit.int .i64 x.f2).wf = true)))) := op_struct (fun x : Rw.S67 => (x.f0, x.f1, x.f2)) (fun a => ⟨a.1, a.2.1, a.2.2⟩) (fun _ => rfl) Try.underlying67 (ops_cons (by rfl) (op_int Try.underlying2) (by kernel_rfl) (ops_cons (by rfl) (op_int Try.underlying2) (by kernel_rfl) (ops_last (by rfl) (op_int Try.underlying2) (by kernel_rfl)))) (by kernel_rfl)
theorem op60 : OK.Op Try.prog Rw.k60 60 (fun x : Rw.S60 => (x.f0.size ≤ 9223372036854775807 ∧ ((Lit.int .i64 x.f1).wf = true ∧ ((Lit.int .i64 x.f2).wf = true ∧ (x.f3.size ≤ 9223372036854775807 ∧ (x.f4.size ≤ 9223372036854775807 ∧ (True ∧ (((x.f6.f0.length ≤ 9223372036854775807 ∧ ∀ y0 ∈ x.f6.f0, y0.size ≤ 9223372036854775807) ∧ ((x.f6.f1.length ≤ 9223372036854775807 ∧ ∀ y0 ∈ x.f6.f1, y0.size ≤ 9223372036854775807))) ∧ ((Lit.int .i64 x.f7).wf = true ∧ ((Lit.int .i64 x.f8).wf = true ∧ ((Lit.int .i64 x.f9).wf = true ∧ ((Lit.int .i64 x.f10).wf = true ∧ ((Lit.int .i64 x.f11).wf = true ∧ ((x.f12.length ≤ 9223372036854775807 ∧ ∀ y0 ∈ x.f12, (((y0.f0.f0.length ≤ 9223372036854775807 ∧ ∀ y1 ∈ y0.f0.f0, y1.size ≤ 9223372036854775807) ∧ ((y0.f0.f1.length ≤ 9223372036854775807 ∧ ∀ y1 ∈ y0.f0.f1, y1.size ≤ 9223372036854775807))) ∧ ((Lit.int .i64 y0.f1).wf = true))) ∧ ((x.f13.length ≤ 9223372036854775807 ∧ ∀ y0 ∈ x.f13, ((Lit.int .i64 y0.f0).wf = true ∧ ((Lit.int .i64 y0.f1).wf = true ∧ ((Lit.int .i64 y0.f2).wf = true))))))))))))))))))) := op_struct (fun x : Rw.S60 => (x.f0, x.f1, x.f2, x.f3, x.f4, x.f5, x.f6, x.f7, x.f8, x.f9, x.f10, x.f11, x.f12, x.f13)) (fun a => ⟨a.1, a.2.1, a.2.2.1, a.2.2.2.1, a.2.2.2.2.1, a.2.2.2.2.2.1, a.2.2.2.2.2.2.1, a.2.2.2.2.2.2.2.1, a.2.2.2.2.2.2.2.2.1, a.2.2.2.2.2.2.2.2.2.1, a.2.2.2.2.2.2.2.2.2.2.1, a.2.2.2.2.2.2.2.2.2.2.2.1, a.2.2.2.2.2.2.2.2.2.2.2.2.1, a.2.2.2.2.2.2.2.2.2.2.2.2.2⟩) (fun _ => rfl) Try.underlying60 (ops_cons (by rfl) (op_string Try.underlying9) (by kernel_rfl) (ops_cons (by rfl) (op_int Try.underlying3) (by kernel_rfl) (ops_cons (by rfl) (op_int Try.underlying3) (by kernel_rfl) (ops_cons (by rfl) (op_string Try.underlying9) (by kernel_rfl) (ops_cons (by rfl) (op_string Try.underlying9) (by kernel_rfl) (ops_cons (by rfl) (op_bool Try.underlying4) (by kernel_rfl) (ops_cons (by rfl) (op56) (by kernel_rfl) (ops_cons (by rfl) (op_int Try.underlying2) (by kernel_rfl) (ops_cons (by rfl) (op_int Try.underlying2) (by kernel_rfl) (ops_cons (by rfl) (op_int Try.underlying2) (by kernel_rfl) (ops_cons (by rfl) (op_int Try.underlying3) (by kernel_rfl) (ops_cons (by rfl) (op_int Try.underlying3) (by kernel_rfl) (ops_cons (by rfl) (op_slice Try.underlying57 (op65) (by kernel_rfl)) (by kernel_rfl) (ops_last (by rfl) (op_slice Try.underlying58 (op67) (by kernel_rfl)) (by kernel_rfl))))))))))))))) (by kernel_rfl)
set_option maxRecDepth 100000 in
set_option maxHeartbeats 2000000 in
theorem lifted (os : Os) (started : os.Started) (H : Type) (enc : TypeId × Value → H) :
    ReturnsInHanded {} Try.checked os 9 .any (Rows.promoMoreSpec.pre6 enc Try.prog Try.f9 Rows.promoMoreRow.domain false) (Rows.promoMoreSpec.post enc Try.prog Try.f9 false true false false) := by
  refine returnsInHanded_of_change_sized (C := Try.checked) own started (by kernel_rfl) Try.func9
    (ChangeSpec.witness6 (enc := enc) (C := Try.checked) false ⟨#[], #[.slice none 0 0, .slice none 0 0], []⟩ 8 (by kernel_rfl) (by kernel_rfl) (by kernel_rfl) (by kernel_rfl)) ?_
  intro W base args ds gs before hval0 hW hcnd hsz0 _
  have hval : ∀ (j : Nat) t v, Try.f9.params[j]? = some t → args[j]? = some v → Value.okWide Try.prog W .any base t v := hval0
  have hW' := hW
  obtain ⟨p, q, hA0, hV, rfl, hfz, hnd⟩ := hW
  have hA : DataW.TrodAll enc Try.prog W 0 (fun _ => true) true Try.f9.params.toList args.toList ds p := hA0
  rw [Try.params9] at hA hval
  obtain ⟨v0, vs0, d0, ds0, p0, q0, hargs, rfl, rfl, h0, r0⟩ := trodAll_cons hA
  obtain ⟨v1, vs1, d1, ds1, p1, q1, rfl, rfl, rfl, h1, r1⟩ := trodAll_cons r0
  obtain ⟨rfl, rfl, rfl⟩ := trodAll_nil r1
  obtain rfl : args = #[v0, v1] := by cases args; simp_all
  obtain ⟨rfl, rfl⟩ := trodVars_none hV
  have k0 := h0
  have lt0 : ∀ x ∈ p0, x.block < W.heap.size := by obtain ⟨m, hm⟩ := k0; exact DataW.trod_lt m _ _ _ hm
  obtain ⟨A0, len0, c0, rfl⟩ := okWide_slice Try.underlying23 (hval 0 23 v0 rfl rfl)
  obtain ⟨fu0, hf0⟩ := h0
  obtain ⟨l0, hl0, g0⟩ := (op_slice (e' := 60) Try.underlying23 (op60) (by kernel_rfl)).go hf0
  change (Kd.slice 60 Rw.k60).K W l0 [.slice A0 len0 c0] at hl0
  obtain ⟨B0, e0, he0, hc0, hr0⟩ := hl0
  obtain ⟨rfl, rfl, rfl⟩ : A0 = B0 ∧ len0 = l0.length ∧ c0 = e0 := by injection he0 with h; injection h with h1 h2 h3; exact ⟨h1, h2, h3⟩
  have k1 := h1
  have lt1 : ∀ x ∈ p1, x.block < W.heap.size := by obtain ⟨m, hm⟩ := k1; exact DataW.trod_lt m _ _ _ hm
  obtain ⟨A1, len1, c1, rfl⟩ := okWide_slice Try.underlying54 (hval 1 54 v1 rfl rfl)
  obtain ⟨fu1, hf1⟩ := h1
  obtain ⟨l1, hl1, g1⟩ := (op_slice (e' := 9) Try.underlying54 (op_string Try.underlying9) (by kernel_rfl)).go hf1
  change (Kd.slice 9 Kd.string).K W l1 [.slice A1 len1 c1] at hl1
  obtain ⟨B1, e1, he1, hc1, hr1⟩ := hl1
  obtain ⟨rfl, rfl, rfl⟩ : A1 = B1 ∧ len1 = l1.length ∧ c1 = e1 := by injection he1 with h; injection h with h1 h2 h3; exact ⟨h1, h2, h3⟩
  clear hA0 hval0 hsz0
  obtain ⟨k, hk⟩ := LPM.Pure l0 l1 g0 g1
  refine (LPM.calls k A0 c0 l0 A1 c1 l1 true W hr0 hc0 hr1 hc1 hk).mono fun e W' ⟨he, bel⟩ => ?_
  subst he
  exact ⟨_, rfl, _, _, _, [], _, [], hW', trodAll_mk1 (shut_bool Try.underlying4 _), (trodAll_cons_mk (Below.trod laidOut (by kernel_rfl) (of_decide_eq_true (by kernel_rfl)) k0 bel lt0) (trodAll_cons_mk (Below.trod laidOut (by kernel_rfl) (of_decide_eq_true (by kernel_rfl)) k1 bel lt1) trodAll_mk0)), rfl, bel.frame _, fun h => by cases h⟩
theorem over : Rows.promoMoreRow.holds Try.pinned (OpenSpec.ofChange Rows.promoMoreSpec) :=
  OpenClaim.holds_of_wide 9 Try.f9 rfl rfl rfl rfl rfl rfl rfl ⟨rfl, rfl, rfl, rfl, rfl⟩ rfl rfl rfl rfl rfl (by kernel_rfl) Try.func9 (by kernel_rfl)
    (of_decide_eq_true (by kernel_rfl)) (by unfold Func.isWrapper; first | (rw [if_pos (by decide +kernel)]; kernel_rfl) | (rw [if_neg (by decide +kernel)]; exact ⟨rfl, rfl⟩))
    (fun os started H enc _ => lifted os started H enc)
theorem proved : Rows.PromoMoreSaid := over
#print axioms proved
end Go.Proofs.Ytdmeepjefccpgaa.promoMore
namespace Go.Proofs.Ytdmeepjefccpgaa
/-- The row, under a short name, for the claim. -/
theorem promoMore_holds : Rows.PromoMoreSaid := promoMore.proved
end Go.Proofs.Ytdmeepjefccpgaa
