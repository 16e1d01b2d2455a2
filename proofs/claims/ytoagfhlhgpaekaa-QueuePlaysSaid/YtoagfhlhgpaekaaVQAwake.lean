/- The queue's statements: what a program that does nothing does not answer. -/
import Derived.Test.YtoagfhlhgpaekaaProg
import Derived.Below
import Derived.Deep.Draws
import Derived.Deep.AppendLies
import Derived.Maps.AppendAt
import Derived.OwnWalk
import Derived.Laws.BytesArg
import Derived.Laws.MakeOwn
import Derived.Laws.OwnMore
import Derived.Deep.OwnRows
import Derived.Tactics
import Derived.Lib.ConvBytes
import Derived.Laws.Slices
import Derived.WalkKit
import Derived.KernelRfl
import Derived.RowKit3
import Derived.Deep.LoopGhost
import Derived.Deep.QuietTactic
import Derived.BigQuiet
import Derived.WideLaws
import Derived.Deep.DeepCutAuto
import Derived.Deep.CutBlock
import Derived.Deep.RegionHeld3
import Derived.Laws.Rows
import Derived.Lib.AppendStr
import Derived.ArgAppend
import Derived.Laws.IdiomCopy
import Derived.OrdersHeld
import Derived.Laws.BitsLemmas
import Derived.RowKit
import Derived.BigRegion
import Derived.Outline
import Derived.RegionTactic
import Derived.StillTailTactics
import Derived.Deep.RegionLaw
import Derived.Test.YtoagfhlhgpaekaaVQOrder
import Derived.Test.YtoagfhlhgpaekaaVSameInt
set_option linter.unusedVariables false
set_option linter.unusedSimpArgs false
namespace Go.Proofs.Ytoagfhlhgpaekaa.QL
open Go Go.RowKit Go.Proofs.YtoagfhlhgpaekaaW.PrintWords Go.Proofs.Ytoagfhlhgpaekaa.QM Go.Proofs.Ytoagfhlhgpaekaa.QR Go.Proofs.Ytoagfhlhgpaekaa.QW Go.Proofs.Ytoagfhlhgpaekaa.HP

theorem bel_drewN {B : Nat} {w a : World} (h : Below B w a) (n : Nat) : Below B w (a.drewN n) := ⟨h.os, h.tape, h.output, h.size, h.block⟩

/-- A literal's row reads as its numbers. -/
theorem lit_reads {w : World} {g : Nat} {l : List Int} {T : TypeId} {fr : Nat × Nat} (h : w.heap[g]? = some (.cells (l.map (Value.int .i64)).toArray T fr)) (hb : l.length ≤ 1000000000) : Kd.C (Kd.int .i64) w (some ⟨g, 0, none⟩) l.length l := by
  refine ⟨rfl, by omega, fun _ => ⟨_, rfl, fun j p hj => ⟨[.int .i64 p], rfl, rfl, fun i u hu => ?_⟩⟩⟩
  have hjl : j < l.length := (List.getElem?_eq_some_iff.1 hj).1
  cases i with
  | zero =>
    obtain rfl : Value.int .i64 p = u := by simpa using hu
    have e : (⟨g, 0, none⟩ : Addr).add (j * (Kd.int .i64).sz + 0) = ⟨g, j, none⟩ := by
      show (⟨g, 0, none⟩ : Addr).add (j * 1 + 0) = _
      rw [Nat.mul_one, Nat.add_zero]
      unfold Addr.add; split <;> simp_all
    rw [e, cell_of_row w g _ _ _ _ h]
    rw [List.getElem?_toArray, List.getElem?_map, hj]
    rfl
  | succ i => simp at hu

set_option maxRecDepth 100000 in
set_option maxHeartbeats 4000000 in
theorem awake_calls' {w : World} (B : Nat) (hB : w.heap.size = B) : Calls Try.prog 6 #[] w fun e w' => e = .returned (.bool true) ∧ Below B w w' := by
  go_enter Try.func6, Try.ntmps6
  go_wp2_with fail
  refine (new_calls w).mono ?_
  rintro e w1 ⟨g, rfl, hq, hg, hk⟩
  have H1 : Hid (Below B w w1) := by show Below _ _ _; rw [← hB]; exact hk.to_below (Nat.le_refl _) (fun _ h => h.elim)
  have HQ : Hid (IsQ 55 62 w1 g none []) := hq
  rw [hB] at hg
  have HB : Hid (w.heap.size = B) := hB
  clear hq hk hB
  go_wp2_with fail
  refine (push_calls 3 1 HQ.out (by simp)).mono ?_
  rintro e w2 ⟨rfl, r, hq, hr, hk⟩
  have hrB : B ≤ r := by
    rcases hr with h | h
    · cases h
    · have := H1.out.size; have := HB.out; omega
  have H2 : Hid (Below B w w2) := Kp.below_trans H1.out hk (by have := HB.out; omega) (by rintro i (rfl | h); exact hg; cases h)
  have HQ2 : Hid (IsQ 55 62 w2 g (some r) [(3, 1)]) := hq
  clear hq hk hr
  go_wp2_with fail
  refine (pop_calls HQ2.out (by simp) (by simp)).mono ?_
  rintro e w3 ⟨x, m', rfl, hp, _, _, hk⟩
  have hx : x = ((3 : Int), (1 : Int)) := by
    have := hp.symm.subset List.mem_cons_self
    simpa using this
  subst hx
  have H3 : Hid (Below B w w3) := Kp.below_trans H2.out hk (by have := HB.out; omega) (by
    rintro i (rfl | h)
    · exact hg
    · cases h; exact hrB)
  clear hp hk
  go_wp2_with fail
  have hr1 : Kd.C (Kd.int .i64) (w3.alloc (.cells #[.int .i64 3, .int .i64 7, .int .i64 3] 2)) (some ⟨w3.heap.size, 0, none⟩) ([3, 7, 3] : List Int).length [3, 7, 3] := lit_reads (alloc_new w3 _) (by decide)
  have H4 : Hid (Below B w (w3.alloc (.cells #[.int .i64 3, .int .i64 7, .int .i64 3] 2))) := H3.out.alloc (by have := H3.out.size; have := HB.out; omega) _
  refine (order_calls hr1 (by decide)).mono ?_
  rintro e w4 ⟨v, rfl, hv, hk⟩
  have H5 : Hid (Below B w w4) := H4.out.trans (hk.mono (by have := H4.out.size; have := HB.out; omega))
  have HV : Hid (Kd.R (Kd.int .i64) 3 (w4.alloc (.cells #[.int .i64 1, .int .i64 0, .int .i64 2] 3)) _ (fun _ => True) v (ord [3, 7, 3])) := Kd.R_below hv ((Below.refl _ w4).alloc (Nat.le_refl _) _)
  have H6 : Hid (Below B w (w4.alloc (.cells #[.int .i64 1, .int .i64 0, .int .i64 2] 3))) := H5.out.alloc (by have := H5.out.size; have := HB.out; omega) _
  clear hv hk hr1 H4
  go_wp2_with fail
  have hr2 : Kd.C (Kd.int .i64) (w4.alloc (.cells #[.int .i64 1, .int .i64 0, .int .i64 2] 3)) (some ⟨w4.heap.size, 0, none⟩) ([1, 0, 2] : List Int).length [1, 0, 2] := lit_reads (alloc_new w4 _) (by decide)
  obtain ⟨A1, c1, hv1, _, hx'⟩ := Kd.R_reads HV.out
  rw [hv1]
  refine (plain_int hx' hr2 (by decide) (by decide)).mono ?_
  rintro e w5 ⟨rfl, k, rfl⟩
  rw [show decide (ord [3, 7, 3] = [1, 0, 2]) = true from by decide]
  clear hr2 hx' hv1
  go_wp2
  go_ret
  exact ⟨rfl, Kp.below_trans H6.out ((Kp.refl (fun _ => False) _).drewN k) (by have := HB.out; omega) (fun _ h => h.elim)⟩
theorem awake_calls (w : World) : Calls Try.prog 6 #[] w fun e w' => e = .returned (.bool true) ∧ Below w.heap.size w w' := awake_calls' _ rfl
end Go.Proofs.Ytoagfhlhgpaekaa.QL
