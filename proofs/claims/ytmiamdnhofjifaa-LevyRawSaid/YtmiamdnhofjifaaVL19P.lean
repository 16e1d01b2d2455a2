/- The statements on levy: what their helpers come to. Plain Lean. -/
import Derived.Test.YtmiamdnhofjifaaVPTaxP
import Derived.Test.YtmiamdnhofjifaaVLevyP
import Derived.Test.YtmiamdnhofjifaaVPlainP
import Derived.Test.YtmiamdnhofjifaaVRwL19a
import Derived.Test.YtmiamdnhofjifaaVAwL19
set_option linter.unusedVariables false
set_option linter.unusedSimpArgs false
namespace Go.Proofs.Ytmiamdnhofjifaa.L19
open Go Go.RowKit Go.Proofs.YtmiamdnhofjifaaW.PrintWords Go.Proofs.YtmiamdnhofjifaaW.PrintMore Go.Proofs.Ytmiamdnhofjifaa.Rw Go.Proofs.Ytmiamdnhofjifaa.EP Go.Proofs.Ytmiamdnhofjifaa.NP Go.Proofs.Ytmiamdnhofjifaa.XP Go.Proofs.Ytmiamdnhofjifaa.YP Go.Proofs.Ytmiamdnhofjifaa.PX
open Go.Proofs.Ytmiamdnhofjifaa.MP (md md_range mod_f mod64_f)

def fewOk (l : List Zn) (c : List ByteArray) (n : List Int) : Bool := allTo (fun j => decide ((l.getD j zZ).f1.length ≤ 60)) l.length && (decide (l.length ≤ 30) && (decide (c.length ≤ 60) && decide (n.length ≤ 60)))
theorem few_f (i o : Bool) (k : Int) (l : List Zn) (c : List ByteArray) (n : List Int) (hl : l.length ≤ 9223372036854775807) : Ev (fun m => haberdashlaw19_few.f m i o k l c n) (fewOk l c n) :=
  scan_ev (F := fun m j => haberdashlaw19_few.l0 m c n (j : Int) i o k l) (n := l.length) (p := fun j => decide ((l.getD j zZ).f1.length ≤ 60)) (e := decide (l.length ≤ 30) && (decide (c.length ≤ 60) && decide (n.length ≤ 60)))
    (Ev.step (f := fun _ => some (decide (l.length ≤ 30) && (decide (c.length ≤ 60) && decide (n.length ≤ 60)))) (fun m => by
      rw [haberdashlaw19_few.l0, if_neg (by omega)]
      by_cases h1 : (l.length : Int) ≤ 30
      · rw [if_pos h1, show decide (l.length ≤ 30) = true from decide_eq_true (by omega), Bool.true_and]
        by_cases h2 : (c.length : Int) ≤ 60
        · rw [if_pos h2, show decide (c.length ≤ 60) = true from decide_eq_true (by omega), Bool.true_and]
          congr 1
          rw [Bool.eq_iff_iff, decide_eq_true_eq, decide_eq_true_eq]; omega
        · rw [if_neg h2, show decide (c.length ≤ 60) = false from decide_eq_false (by omega), Bool.false_and]
      · rw [if_neg h1, show decide (l.length ≤ 30) = false from decide_eq_false (by omega), Bool.false_and]) (Ev.now _))
    (fun j hj hp r hr => by
      have := of_decide_eq_true hp
      exact Ev.step (fun m => by rw [haberdashlaw19_few.l0, if_pos (by omega), if_pos (by omega), rdZ_d, if_neg (by omega), next j (by omega)]) hr)
    (fun j hj hp => by
      have := of_decide_eq_false hp
      exact Ev.step (fun m => by rw [haberdashlaw19_few.l0, if_pos (by omega), if_pos (by omega), rdZ_d, if_pos (by omega)]) (Ev.now _))
theorem fewOk_iff {l : List Zn} {c : List ByteArray} {n : List Int} (h : fewOk l c n = true) : l.length ≤ 30 ∧ (∀ z ∈ l, z.f1.length ≤ 60) ∧ n.length ≤ 60 ∧ c.length ≤ 60 := by
  unfold fewOk at h
  simp only [Bool.and_eq_true, decide_eq_true_eq] at h
  refine ⟨h.2.1, fun z hz => ?_, h.2.2.2, h.2.2.1⟩
  obtain ⟨i, hi, rfl⟩ := List.getElem_of_mem hz
  have := allTo_iff.1 h.1 i hi
  simpa [hi] using this
theorem same5_f (v : Out) (h1 : v.1.length ≤ 9223372036854775807) (h2 : v.2.1.length ≤ 9223372036854775807) : Ev (fun k => haberdashlaw19_same5.f k v.1 v.2.1 v.2.2.1 v.2.2.2.1 v.2.2.2.2 v.1 v.2.1 v.2.2.1 v.2.2.2.1 v.2.2.2.2) true := by
  unfold haberdashlaw19_same5.f
  simp only [if_true]
  refine Ev.bind (PL.int64_f _ _ h1) ?_
  simp only [decide_true, if_true]
  refine Ev.bind (PL.int64_f _ _ h2) ?_
  simp only [decide_true, if_true, beq_self_eq_true]
  exact Ev.now _
theorem levyS_len (incl byo : Bool) (k : Int) (l : List Zn) (zone : ByteArray) (ex : Bool) (cats : List ByteArray) (ns : List Int) (ship : Int) : (levyS incl byo k l zone ex cats ns ship).1.length ≤ 1000 ∧ (levyS incl byo k l zone ex cats ns ship).2.1.length ≤ 1000 := by
  unfold levyS
  split
  · simp
  · rename_i h
    have h2 := mayOk_iff.1 (by simpa using h)
    split
    · simp
    · rename_i z _
      have hl : (taxesOf incl byo k (ratesOf z cats) ns).length = ns.length := taxesOf_length _ _ _ _ _ (by simp [ratesOf]; omega)
      unfold outOf goodsOf
      constructor
      · show (if incl = true then List.zipWith (fun x t => x - t) ns (taxesOf incl byo k (ratesOf z cats) ns) else ns).length ≤ 1000
        split
        · rw [List.length_zipWith]; omega
        · omega
      · show (if ex = true then List.replicate ns.length 0 else taxesOf incl byo k (ratesOf z cats) ns).length ≤ 1000
        split
        · simp; omega
        · omega
end Go.Proofs.Ytmiamdnhofjifaa.L19
