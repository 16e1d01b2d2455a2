/- The row of the statement MoneyAll. -/
import Derived.Test.YtonpcolkmecddaaRows
import Derived.Test.YtonpcolkmecddaaVLMoneyAll
import Derived.Test.YtonpcolkmecddaaVWWords
import Derived.Deep.Slices
import Derived.WideLaws
import Derived.ProofKit
import Derived.WalkKit
import Derived.OpenShut
import Derived.ShutString
import Derived.ChangeOld
import Derived.Below
import Derived.SizedLaws
import Derived.Laws.IdiomArrays
namespace Go.Proofs.Ytonpcolkmecddaa.moneyAll
open Go.ChangeShapes Go.WideShapes Go.ChangeAt Go.RowKit
open Go.ChangeMaps (open_string shut_string)
open Go.Proofs.YtonpcolkmecddaaW.PrintWords
set_option linter.unusedVariables false
theorem own : ownKnob Try.prog.godebug = none := by kernel_rfl
theorem laidOut : laidOutB Try.prog = true := by kernel_rfl
theorem three_cells {cs : Array Value} (h : cs.size = 3) : ∃ x y z, cs = #[x, y, z] := by
  obtain ⟨l⟩ := cs
  match l, h with
  | [x, y, z], _ => exact ⟨x, y, z, rfl⟩
set_option maxRecDepth 100000 in
set_option maxHeartbeats 2000000 in
theorem lifted (os : Os) (started : os.Started) (H : Type) (enc : TypeId × Value → H) :
    ReturnsInHanded {} Try.checked os 13 .any (Rows.moneyAllSpec.pre6 enc Try.prog Try.f13 Rows.moneyAllRow.domain false) (Rows.moneyAllSpec.post enc Try.prog Try.f13 false true false false) := by
  refine returnsInHanded_of_change_sized (C := Try.checked) own started (by kernel_rfl) Try.func13
    (ChangeSpec.witness6 (enc := enc) (C := Try.checked) false ⟨#[], #[.int .i64 0, .int .i64 0, .int .i64 0, .int .i64 0, .agg #[.bool false, .bool false, .bool false]], []⟩ 8 (by kernel_rfl) (by kernel_rfl) (by kernel_rfl) (by kernel_rfl)) ?_
  intro W base args ds gs before hval0 hW hcnd hsz0 _
  have hval : ∀ (j : Nat) t v, Try.f13.params[j]? = some t → args[j]? = some v → Value.okWide Try.prog W .any base t v := hval0
  have hW' := hW
  obtain ⟨p, q, hA0, hV, rfl, hfz, hnd⟩ := hW
  have hA : DataW.TrodAll enc Try.prog W 0 (fun _ => true) true Try.f13.params.toList args.toList ds p := hA0
  rw [Try.params13] at hA hval
  obtain ⟨v0, vs0, d0, ds0, p0, q0, hargs, rfl, rfl, h0, r0⟩ := trodAll_cons hA
  obtain ⟨v1, vs1, d1, ds1, p1, q1, rfl, rfl, rfl, h1, r1⟩ := trodAll_cons r0
  obtain ⟨v2, vs2, d2, ds2, p2, q2, rfl, rfl, rfl, h2, r2⟩ := trodAll_cons r1
  obtain ⟨v3, vs3, d3, ds3, p3, q3, rfl, rfl, rfl, h3, r3⟩ := trodAll_cons r2
  obtain ⟨v4, vs4, d4, ds4, p4, q4, rfl, rfl, rfl, h4, r4⟩ := trodAll_cons r3
  obtain ⟨rfl, rfl, rfl⟩ := trodAll_nil r4
  obtain rfl : args = #[v0, v1, v2, v3, v4] := by cases args; simp_all
  obtain ⟨rfl, rfl⟩ := trodVars_none hV
  have k0 := h0
  have lt0 : ∀ x ∈ p0, x.block < W.heap.size := by obtain ⟨m, hm⟩ := k0; exact DataW.trod_lt m _ _ _ hm
  obtain ⟨a0, rfl, rfl, rfl, g0⟩ := open_int Try.underlying2 (hval 0 2 v0 rfl rfl) h0
  have k1 := h1
  have lt1 : ∀ x ∈ p1, x.block < W.heap.size := by obtain ⟨m, hm⟩ := k1; exact DataW.trod_lt m _ _ _ hm
  obtain ⟨a1, rfl, rfl, rfl, g1⟩ := open_int Try.underlying2 (hval 1 2 v1 rfl rfl) h1
  have k2 := h2
  have lt2 : ∀ x ∈ p2, x.block < W.heap.size := by obtain ⟨m, hm⟩ := k2; exact DataW.trod_lt m _ _ _ hm
  obtain ⟨a2, rfl, rfl, rfl, g2⟩ := open_int Try.underlying2 (hval 2 2 v2 rfl rfl) h2
  have k3 := h3
  have lt3 : ∀ x ∈ p3, x.block < W.heap.size := by obtain ⟨m, hm⟩ := k3; exact DataW.trod_lt m _ _ _ hm
  obtain ⟨a3, rfl, rfl, rfl, g3⟩ := open_int Try.underlying3 (hval 3 3 v3 rfl rfl) h3
  have k4 := h4
  have lt4 : ∀ x ∈ p4, x.block < W.heap.size := by obtain ⟨m, hm⟩ := k4; exact DataW.trod_lt m _ _ _ hm
  obtain ⟨cs4, rfl, hs4, _⟩ : ∃ cs, v4 = .agg cs ∧ cs.size = Try.prog.cellsOf 55 ∧ Row.okWide Try.prog W .any base 55 cs := by have := hval 4 55 v4 rfl rfl; simpa [Value.okWide, Try.underlying55] using this
  rw [show Try.prog.cellsOf 55 = 3 from by kernel_rfl] at hs4
  obtain ⟨c4_0, c4_1, c4_2, rfl⟩ := three_cells hs4
  obtain ⟨fu4, hf4⟩ := h4
  obtain ⟨y4_0, y4_1, y4_2, m4, hx4, hy4_0, hy4_1, hy4_2⟩ := trod_array3 Try.underlying55 (show Try.prog.cellsOf 4 = 1 from by kernel_rfl) hf4
  obtain ⟨a4_0, e4_0, rfl⟩ := DataW.trod_bool Try.underlying4 hy4_0
  obtain rfl : c4_0 = .bool a4_0 := by simpa using e4_0
  obtain ⟨a4_1, e4_1, rfl⟩ := DataW.trod_bool Try.underlying4 hy4_1
  obtain rfl : c4_1 = .bool a4_1 := by simpa using e4_1
  obtain ⟨a4_2, e4_2, rfl⟩ := DataW.trod_bool Try.underlying4 hy4_2
  obtain rfl : c4_2 = .bool a4_2 := by simpa using e4_2
  simp only [Prod.mk.injEq] at hx4
  obtain ⟨rfl, rfl⟩ := hx4
  clear hA0 hval0 hsz0
  obtain ⟨k, hk⟩ := ML.Pure a0 a1 a2 a3 a4_0 a4_1 a4_2 
  refine (ML.calls k a0 a1 a2 a3 a4_0 a4_1 a4_2 true W  hk).mono fun e W' ⟨he, bel⟩ => ?_
  subst he
  exact ⟨_, rfl, _, _, _, [], _, [], hW', trodAll_mk1 (shut_bool Try.underlying4 _), (trodAll_cons_mk (shut_int Try.underlying2 g0) (trodAll_cons_mk (shut_int Try.underlying2 g1) (trodAll_cons_mk (shut_int Try.underlying2 g2) (trodAll_cons_mk (shut_int Try.underlying3 g3) (trodAll_cons_mk (Below.trod laidOut (by kernel_rfl) (of_decide_eq_true (by kernel_rfl)) k4 bel lt4) trodAll_mk0))))), rfl, bel.frame _, fun h => by cases h⟩
theorem over : Rows.moneyAllRow.holds Try.pinned (OpenSpec.ofChange Rows.moneyAllSpec) :=
  OpenClaim.holds_of_wide 13 Try.f13 rfl rfl rfl rfl rfl rfl rfl ⟨rfl, rfl, rfl, rfl, rfl⟩ rfl rfl rfl rfl rfl (by kernel_rfl) Try.func13 (by kernel_rfl)
    (of_decide_eq_true (by kernel_rfl)) (by unfold Func.isWrapper; first | (rw [if_pos (by decide +kernel)]; kernel_rfl) | (rw [if_neg (by decide +kernel)]; exact ⟨rfl, rfl⟩))
    (fun os started H enc _ => lifted os started H enc)
theorem proved : Rows.MoneyAllSaid := over
#print axioms proved
end Go.Proofs.Ytonpcolkmecddaa.moneyAll
namespace Go.Proofs.Ytonpcolkmecddaa
/-- The row, under a short name, for the claim. -/
theorem moneyAll_holds : Rows.MoneyAllSaid := moneyAll.proved
end Go.Proofs.Ytonpcolkmecddaa
