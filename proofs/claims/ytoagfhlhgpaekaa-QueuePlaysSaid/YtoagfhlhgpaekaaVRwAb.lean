/- Short names for steps that printed proofs say over and over: each is a fact whose proof is found by the same few steps. -/
import Derived.Test.YtoagfhlhgpaekaaVRwA
set_option linter.unusedVariables false
namespace Go.Proofs.Ytoagfhlhgpaekaa.Rw
open Go Go.RowKit Go.Proofs.YtoagfhlhgpaekaaW.PrintWords Go.Proofs.YtoagfhlhgpaekaaW.PrintMore
theorem as_ {p : Prop} (h : p := by first | (with_reducible assumption) | assumption) : p := h
theorem rf_ {p : Prop} (h : p := by first | rfl | (simp; done) | (simp [*]; done)) : p := h
theorem pu_ {p : Prop} (h : p := by simp only [Act.put, List.setIfInBounds_toArray, List.set_cons_zero, List.set_cons_succ, i64_w, i32_w]; rfl) : p := h
section
open Go.Proofs.YtoagfhlhgpaekaaW.PrintLast
variable {md : Region.Mode} {ops : Array Oper} {T : Bool × List (List Nat × List Nat)} {B ds : List Nat} {l l' : Array Bool} {i : Nat}
end
end Go.Proofs.Ytoagfhlhgpaekaa.Rw
