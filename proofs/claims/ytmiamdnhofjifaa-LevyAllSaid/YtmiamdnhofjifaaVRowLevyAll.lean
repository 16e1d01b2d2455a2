/- The row of the statement LevyAll. -/
import Derived.Test.YtmiamdnhofjifaaRows
import Derived.Test.YtmiamdnhofjifaaVRwLAll
import Derived.Test.YtmiamdnhofjifaaVPLevyAll
import Derived.Test.YtmiamdnhofjifaaVOpenKd
import Derived.Test.YtmiamdnhofjifaaVKx
import Derived.WalkKit
import Derived.ProofKit
import Derived.OpenShut
import Derived.ShutString
import Derived.ChangeOld
import Derived.Below
import Derived.SizedLaws
import Derived.Laws.IdiomArrays
namespace Go.Proofs.Ytmiamdnhofjifaa.levyAll
open Go.ChangeShapes Go.WideShapes Go.ChangeAt Go.RowKit
open Go.ChangeMaps (open_string shut_string)
open Go.Proofs.Ytmiamdnhofjifaa.OK Go.Proofs.YtmiamdnhofjifaaW.PrintWords
set_option linter.unusedVariables false
theorem own : ownKnob Try.prog.godebug = none := by kernel_rfl
theorem laidOut : laidOutB Try.prog = true := by kernel_rfl
theorem op56 : OK.Op Try.prog Rw.k56 56 (fun x : Rw.S56 => (x.f0.size ≤ 9223372036854775807 ∧ ((Lit.int .i64 x.f1).wf = true))) := op_struct (fun x : Rw.S56 => (x.f0, x.f1)) (fun a => ⟨a.1, a.2⟩) (fun _ => rfl) Try.underlying56 (ops_cons (by rfl) (op_string Try.underlying9) (by kernel_rfl) (ops_last (by rfl) (op_int Try.underlying2) (by kernel_rfl))) (by kernel_rfl)
theorem op51 : OK.Op Try.prog Rw.k51 51 (fun x : Rw.S51 => (x.f0.size ≤ 9223372036854775807 ∧ ((x.f1.length ≤ 9223372036854775807 ∧ ∀ y0 ∈ x.f1, (y0.f0.size ≤ 9223372036854775807 ∧ ((Lit.int .i64 y0.f1).wf = true))) ∧ ((Lit.int .i64 x.f2).wf = true ∧ ((Lit.int .i64 x.f3).wf = true))))) := op_struct (fun x : Rw.S51 => (x.f0, x.f1, x.f2, x.f3)) (fun a => ⟨a.1, a.2.1, a.2.2.1, a.2.2.2⟩) (fun _ => rfl) Try.underlying51 (ops_cons (by rfl) (op_string Try.underlying9) (by kernel_rfl) (ops_cons (by rfl) (op_slice Try.underlying49 (op56) (by kernel_rfl)) (by kernel_rfl) (ops_cons (by rfl) (op_int Try.underlying2) (by kernel_rfl) (ops_last (by rfl) (op_int Try.underlying2) (by kernel_rfl))))) (by kernel_rfl)
theorem op24 : OK.Op Try.prog Rw.k24 24 (fun x : Rw.S24 => (True ∧ (True ∧ ((Lit.int .i64 x.f2).wf = true ∧ ((x.f3.length ≤ 9223372036854775807 ∧ ∀ y0 ∈ x.f3, (y0.f0.size ≤ 9223372036854775807 ∧ ((y0.f1.length ≤ 9223372036854775807 ∧ ∀ y1 ∈ y0.f1, (y1.f0.size ≤ 9223372036854775807 ∧ ((Lit.int .i64 y1.f1).wf = true))) ∧ ((Lit.int .i64 y0.f2).wf = true ∧ ((Lit.int .i64 y0.f3).wf = true)))))))))) := op_struct (fun x : Rw.S24 => (x.f0, x.f1, x.f2, x.f3)) (fun a => ⟨a.1, a.2.1, a.2.2.1, a.2.2.2⟩) (fun _ => rfl) Try.underlying24 (ops_cons (by rfl) (op_bool Try.underlying4) (by kernel_rfl) (ops_cons (by rfl) (op_bool Try.underlying4) (by kernel_rfl) (ops_cons (by rfl) (op_int Try.underlying3) (by kernel_rfl) (ops_last (by rfl) (op_slice Try.underlying22 (op51) (by kernel_rfl)) (by kernel_rfl))))) (by kernel_rfl)
set_option maxRecDepth 100000 in
set_option maxHeartbeats 2000000 in
theorem lifted (os : Os) (started : os.Started) (H : Type) (enc : TypeId × Value → H) :
    ReturnsInHanded {} Try.checked os 4 .any (Rows.levyAllSpec.pre6 enc Try.prog Try.f4 Rows.levyAllRow.domain false) (Rows.levyAllSpec.post enc Try.prog Try.f4 false true false false) := by
  refine returnsInHanded_of_change_sized (C := Try.checked) own started (by kernel_rfl) Try.func4
    (ChangeSpec.witness6 (enc := enc) (C := Try.checked) false ⟨#[], #[.agg #[.bool false, .bool false, .int .i64 0, .slice none 0 0], .int .i64 0, .bool false, .slice none 0 0, .slice none 0 0, .int .i64 0], []⟩ 8 (by kernel_rfl) (by kernel_rfl) (by kernel_rfl) (by kernel_rfl)) ?_
  intro W base args ds gs before hval0 hW hcnd hsz0 _
  have hval : ∀ (j : Nat) t v, Try.f4.params[j]? = some t → args[j]? = some v → Value.okWide Try.prog W .any base t v := hval0
  have hW' := hW
  obtain ⟨p, q, hA0, hV, rfl, hfz, hnd⟩ := hW
  have hA : DataW.TrodAll enc Try.prog W 0 (fun _ => true) true Try.f4.params.toList args.toList ds p := hA0
  rw [Try.params4] at hA hval
  obtain ⟨v0, vs0, d0, ds0, p0, q0, hargs, rfl, rfl, h0, r0⟩ := trodAll_cons hA
  obtain ⟨v1, vs1, d1, ds1, p1, q1, rfl, rfl, rfl, h1, r1⟩ := trodAll_cons r0
  obtain ⟨v2, vs2, d2, ds2, p2, q2, rfl, rfl, rfl, h2, r2⟩ := trodAll_cons r1
  obtain ⟨v3, vs3, d3, ds3, p3, q3, rfl, rfl, rfl, h3, r3⟩ := trodAll_cons r2
  obtain ⟨v4, vs4, d4, ds4, p4, q4, rfl, rfl, rfl, h4, r4⟩ := trodAll_cons r3
  obtain ⟨v5, vs5, d5, ds5, p5, q5, rfl, rfl, rfl, h5, r5⟩ := trodAll_cons r4
  obtain ⟨rfl, rfl, rfl⟩ := trodAll_nil r5
  obtain rfl : args = #[v0, v1, v2, v3, v4, v5] := by cases args; simp_all
  obtain ⟨rfl, rfl⟩ := trodVars_none hV
  have k0 := h0
  have lt0 : ∀ x ∈ p0, x.block < W.heap.size := by obtain ⟨m, hm⟩ := k0; exact DataW.trod_lt m _ _ _ hm
  obtain ⟨cs0, rfl, hs0⟩ := okWide_struct Try.underlying24 (hval 0 24 v0 rfl rfl)
  obtain ⟨fu0, hf0⟩ := h0
  obtain ⟨x0, hx0, g0⟩ := (op24).go hf0
  change (Rw.k24).K W x0 cs0.toList at hx0
  obtain ⟨A0_3, c0_3, he0, hc0_3, hr0_3⟩ := Rw.k24_open hx0
  obtain rfl : cs0 = #[.bool x0.f0, .bool x0.f1, .int .i64 x0.f2, .slice A0_3 x0.f3.length c0_3] := by cases cs0; simp_all
  have k1 := h1
  have lt1 : ∀ x ∈ p1, x.block < W.heap.size := by obtain ⟨m, hm⟩ := k1; exact DataW.trod_lt m _ _ _ hm
  obtain ⟨a1, rfl, rfl, rfl, g1⟩ := open_int Try.underlying3 (hval 1 3 v1 rfl rfl) h1
  have k2 := h2
  have lt2 : ∀ x ∈ p2, x.block < W.heap.size := by obtain ⟨m, hm⟩ := k2; exact DataW.trod_lt m _ _ _ hm
  obtain ⟨a2, rfl, rfl, rfl⟩ := open_bool Try.underlying4 (hval 2 4 v2 rfl rfl) h2
  have k3 := h3
  have lt3 : ∀ x ∈ p3, x.block < W.heap.size := by obtain ⟨m, hm⟩ := k3; exact DataW.trod_lt m _ _ _ hm
  obtain ⟨A3, len3, c3, rfl⟩ := okWide_slice Try.underlying44 (hval 3 44 v3 rfl rfl)
  obtain ⟨fu3, hf3⟩ := h3
  obtain ⟨l3, hl3, g3⟩ := (op_slice (e' := 3) Try.underlying44 (op_int Try.underlying3) (by kernel_rfl)).go hf3
  change (Kd.slice 3 (Kd.int .i64)).K W l3 [.slice A3 len3 c3] at hl3
  obtain ⟨B3, e3, he3, hc3, hr3⟩ := hl3
  obtain ⟨rfl, rfl, rfl⟩ : A3 = B3 ∧ len3 = l3.length ∧ c3 = e3 := by injection he3 with h; injection h with h1 h2 h3; exact ⟨h1, h2, h3⟩
  have k4 := h4
  have lt4 : ∀ x ∈ p4, x.block < W.heap.size := by obtain ⟨m, hm⟩ := k4; exact DataW.trod_lt m _ _ _ hm
  obtain ⟨A4, len4, c4, rfl⟩ := okWide_slice Try.underlying26 (hval 4 26 v4 rfl rfl)
  obtain ⟨fu4, hf4⟩ := h4
  obtain ⟨l4, hl4, g4⟩ := (op_slice (e' := 2) Try.underlying26 (op_int Try.underlying2) (by kernel_rfl)).go hf4
  change (Kd.slice 2 (Kd.int .i64)).K W l4 [.slice A4 len4 c4] at hl4
  obtain ⟨B4, e4, he4, hc4, hr4⟩ := hl4
  obtain ⟨rfl, rfl, rfl⟩ : A4 = B4 ∧ len4 = l4.length ∧ c4 = e4 := by injection he4 with h; injection h with h1 h2 h3; exact ⟨h1, h2, h3⟩
  have k5 := h5
  have lt5 : ∀ x ∈ p5, x.block < W.heap.size := by obtain ⟨m, hm⟩ := k5; exact DataW.trod_lt m _ _ _ hm
  obtain ⟨a5, rfl, rfl, rfl, g5⟩ := open_int Try.underlying2 (hval 5 2 v5 rfl rfl) h5
  clear hA0 hval0 hsz0
  obtain ⟨k, hk⟩ := Pure.LevyAll x0 a1 a2 l3 l4 a5 g0
  refine (Rw.haberdashlaw19_LevyAll.calls k x0.f0 x0.f1 x0.f2 A0_3 c0_3 x0.f3 a1 a2 A3 c3 l3 A4 c4 l4 a5 true W hr0_3 hc0_3 hr3 hc3 hr4 hc4 hk).mono fun e W' ⟨he, bel⟩ => ?_
  subst he
  exact ⟨_, rfl, _, _, _, [], _, [], hW', trodAll_mk1 (shut_bool Try.underlying4 _), (trodAll_cons_mk (Below.trod laidOut (by kernel_rfl) (of_decide_eq_true (by kernel_rfl)) k0 bel lt0) (trodAll_cons_mk (shut_int Try.underlying3 g1) (trodAll_cons_mk (shut_bool Try.underlying4 _) (trodAll_cons_mk (Below.trod laidOut (by kernel_rfl) (of_decide_eq_true (by kernel_rfl)) k3 bel lt3) (trodAll_cons_mk (Below.trod laidOut (by kernel_rfl) (of_decide_eq_true (by kernel_rfl)) k4 bel lt4) (trodAll_cons_mk (shut_int Try.underlying2 g5) trodAll_mk0)))))), rfl, bel.frame _, fun h => by cases h⟩
theorem over : Rows.levyAllRow.holds Try.pinned (OpenSpec.ofChange Rows.levyAllSpec) :=
  OpenClaim.holds_of_wide 4 Try.f4 rfl rfl rfl rfl rfl rfl rfl ⟨rfl, rfl, rfl, rfl, rfl⟩ rfl rfl rfl rfl rfl (by kernel_rfl) Try.func4 (by kernel_rfl)
    (of_decide_eq_true (by kernel_rfl)) (by unfold Func.isWrapper; first | (rw [if_pos (by decide +kernel)]; kernel_rfl) | (rw [if_neg (by decide +kernel)]; exact ⟨rfl, rfl⟩))
    (fun os started H enc _ => lifted os started H enc)
theorem proved : Rows.LevyAllSaid := over
#print axioms proved
end Go.Proofs.Ytmiamdnhofjifaa.levyAll
namespace Go.Proofs.Ytmiamdnhofjifaa
/-- The row, under a short name, for the claim. -/
theorem levyAll_holds : Rows.LevyAllSaid := levyAll.proved
end Go.Proofs.Ytmiamdnhofjifaa
