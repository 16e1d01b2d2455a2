/- The statement ShareEdges: sums just at the greatest amount, and above; places at their ends. -/
import Derived.Test.YtegjbbblpnenfaaProg
import Derived.Below
import Derived.Deep.Draws
import Derived.Deep.AppendLies
import Derived.Maps.AppendAt
import Derived.OwnWalk
import Derived.Laws.BytesArg
import Derived.Laws.MakeOwn
import Derived.Laws.OwnMore
import Derived.Deep.OwnRows
import Derived.Tactics
import Derived.Lib.ConvBytes
import Derived.Laws.Slices
import Derived.WalkKit
import Derived.KernelRfl
import Derived.RowKit3
import Derived.Deep.LoopGhost
import Derived.Deep.QuietTactic
import Derived.BigQuiet
import Derived.WideLaws
import Derived.Deep.DeepCutAuto
import Derived.Deep.CutBlock
import Derived.Deep.RegionHeld3
import Derived.Laws.Rows
import Derived.Lib.AppendStr
import Derived.ArgAppend
import Derived.Laws.IdiomCopy
import Derived.OrdersHeld
import Derived.Laws.BitsLemmas
import Derived.RowKit
import Derived.BigRegion
import Derived.Outline
import Derived.RegionTactic
import Derived.StillTailTactics
import Derived.Deep.RegionLaw
import Derived.Test.YtegjbbblpnenfaaVL03P
import Derived.Test.YtegjbbblpnenfaaVSharePP
import Derived.Test.YtegjbbblpnenfaaVSpecS2
import Derived.Test.YtegjbbblpnenfaaVQRow
set_option linter.unusedVariables false
set_option linter.unusedSimpArgs false
namespace Go.Proofs.Ytegjbbblpnenfaa.LSE
open Go Go.RowKit Go.Proofs.YtegjbbblpnenfaaW.PrintWords Go.Proofs.Ytegjbbblpnenfaa.Rw Go.Proofs.Ytegjbbblpnenfaa.SP Go.Proofs.Ytegjbbblpnenfaa.SH Go.Proofs.Ytegjbbblpnenfaa.L3 Go.Proofs.Ytegjbbblpnenfaa.QR

theorem bel_drewN {B : Nat} {w a : World} (h : Below B w a) (n : Nat) : Below B w (a.drewN n) := ⟨h.os, h.tape, h.output, h.size, h.block⟩
/-- A literal's row reads as its numbers. -/
theorem lit_reads {w : World} {g : Nat} {l : List Int} {T : TypeId} {fr : Nat × Nat} (h : w.heap[g]? = some (.cells (l.map (Value.int .i64)).toArray T fr)) (hb : l.length ≤ 1000000000) : Kd.C (Kd.int .i64) w (some ⟨g, 0, none⟩) l.length l := by
  refine ⟨rfl, by omega, fun _ => ⟨_, rfl, fun j p hj => ⟨[.int .i64 p], rfl, rfl, fun i u hu => ?_⟩⟩⟩
  have hjl : j < l.length := (List.getElem?_eq_some_iff.1 hj).1
  cases i with
  | zero =>
    obtain rfl : Value.int .i64 p = u := by simpa using hu
    have e : (⟨g, 0, none⟩ : Addr).add (j * (Kd.int .i64).sz + 0) = ⟨g, j, none⟩ := by
      show (⟨g, 0, none⟩ : Addr).add (j * 1 + 0) = _
      rw [Nat.mul_one, Nat.add_zero]
      unfold Addr.add; split <;> simp_all
    rw [e, cell_of_row w g _ _ _ _ h]
    rw [List.getElem?_toArray, List.getElem?_map, hj]
    rfl
  | succ i => simp at hu

theorem cell_kept {w a b : World} {n : Nat} {p : Addr} {v : Value} (hk : Below (w.drewN n).heap.size a b) (h : w.cell? p = some v) (ha : a.heap = w.heap) : b.cell? p = some v := by
  have hp : p.block < w.heap.size := World.block_lt_of_cell? w p h
  have e : b.heap[p.block]? = w.heap[p.block]? := by rw [hk.block p.block hp, ha]
  unfold World.cell? at h ⊢
  rw [e]; exact h
theorem two_parts (T X : Int) (hT : 0 ≤ T ∧ T ≤ 100000000000000) (hX : 0 ≤ X ∧ X ≤ 100000000000000) : ∃ p q, largest T [X, 100000000000000 - X] = ([p, q], 0) ∧ p + q = T := by
  have hs : ([X, 100000000000000 - X] : List Int).sum = 100000000000000 := by simp; omega
  have e : sumE T [X, 100000000000000 - X] = (100000000000000, 0) := by
    unfold sumE
    rw [hs, if_neg, if_neg (by omega), if_neg (by omega)]
    rw [rt_iff.2 hT]
    simp only [List.all_cons, List.all_nil, rt_iff.2 hX, rt_iff.2 (show 0 ≤ 100000000000000 - X ∧ 100000000000000 - X ≤ 100000000000000 by omega)]
    simp
  have hp := parts_sum T [X, 100000000000000 - X] (by rw [hs]; omega)
  have hl := parts_length T [X, 100000000000000 - X]
  unfold largest
  rw [e, if_neg (by simp), if_neg (by rw [hs]; omega)]
  generalize parts T [X, 100000000000000 - X] = l at *
  match l, hl with
  | [p, q], _ => exact ⟨p, q, rfl, by simpa using hp⟩
theorem three_parts (T X : Int) (hT : 0 ≤ T ∧ T ≤ 100000000000000) (hX : 0 ≤ X ∧ X ≤ 100000000000000) : largest T [X, 100000000000000 - X, 1] = ([], 5) := by
  have hs : ([X, 100000000000000 - X, 1] : List Int).sum = 100000000000001 := by simp; omega
  have e : sumE T [X, 100000000000000 - X, 1] = (0, 5) := by
    unfold sumE
    rw [hs, if_neg, if_pos (by omega)]
    rw [rt_iff.2 hT]
    simp only [List.all_cons, List.all_nil, rt_iff.2 hX, rt_iff.2 (show 0 ≤ 100000000000000 - X ∧ 100000000000000 - X ≤ 100000000000000 by omega), show rt 1 = true from by decide]
    simp
  unfold largest
  rw [e, if_pos (by simp)]
theorem upto_all (T n : Int) (hT : 0 ≤ T ∧ T ≤ 100000000000000) (hn : 1 ≤ n ∧ n ≤ 100000) : upto T n n = (T, 0) := by
  rw [upto_ok T n n (rt_iff.2 hT) hn (by omega), Int.mul_ediv_cancel _ (by omega)]
theorem upto_none (T n : Int) (hT : 0 ≤ T ∧ T ≤ 100000000000000) (hn : 1 ≤ n ∧ n ≤ 100000) : upto T n 0 = (0, 0) := by
  rw [upto_ok T n 0 (rt_iff.2 hT) hn (by omega)]; simp
theorem upto_over (T n : Int) : upto T n (n + 1) = (0, 2) := by unfold upto; rw [if_pos (by omega)]
theorem upto_many (T : Int) : upto T 100001 1 = (0, 2) := by unfold upto; rw [if_pos (by omega)]
theorem piece_back (T n : Int) : piece T n n (n - 1) = (0, 2) := by unfold piece; rw [if_pos (by omega)]

set_option maxRecDepth 100000 in
set_option maxHeartbeats 4000000 in
theorem shareEdges' {w : World} (a0 a1 a2 : Int) (B : Nat) (hB : w.heap.size = B) :
    Calls Try.prog 14 #[.int .i64 a0, .int .i64 a1, .int .i64 a2] w fun e w' => e = .returned (.bool true) ∧ Below B w w' := by
  have HB : Hid (w.heap.size = B) := hB
  have m0 := mod64_f a0 100000000000001 (by omega) (by omega)
  have m1 := mod64_f a1 100000000000001 (by omega) (by omega)
  have m2 := mod_f a2 100000 (by omega) (by omega)
  have r0 := md_range a0 100000000000001 (by omega)
  have r1 := md_range a1 100000000000001 (by omega)
  have r2 := md_range a2 100000 (by omega)
  generalize md a0 100000000000001 = T at *
  generalize md a1 100000000000001 = X at *
  generalize md a2 100000 = n at *
  have M0 := Aside0.mk m0
  have M1 := Aside0.mk m1
  have M2 := Aside0.mk m2
  clear m0 m1 m2 hB
  go_enter Try.func14, Try.ntmps14
  go_wp2_with fail
  refine (haberdashplay_Mod64.calls _ _ T _ M0.out).mono ?_
  rintro e w1 ⟨rfl, k1, rfl⟩
  go_wp2_with fail
  refine (haberdashplay_Mod64.calls _ _ X _ M1.out).mono ?_
  rintro e w1 ⟨rfl, k2, rfl⟩
  go_wp2_with fail
  refine (haberdashplay_Mod.calls _ _ n _ M2.out).mono ?_
  rintro e w1 ⟨rfl, k3, rfl⟩
  have H1 : Hid (Below B w (w.drewN (k1 + k2 + k3))) := bel_drewN (by show Below _ _ _; rw [← HB.out]; exact Below.refl _ _) _
  obtain ⟨p, q, e1, hpq⟩ := two_parts T X (by omega) (by omega)
  have e2 := three_parts T X (by omega) (by omega)
  have E1 := Aside0.mk e1
  have E2 := Aside0.mk e2
  clear e1 e2
  go_wp2_with fail
  refine (share_Largest.calls T _ _ [X, 100000000000000 - X] [p, q] 0 _ (lit_reads (alloc_new (w.drewN (k1 + k2 + k3)) _) (by simp)) (Nat.le_refl _) (by unfold share_Largest.f; rw [E1.out])).mono ?_
  rintro e w2 ⟨v, rfl, hv, hk⟩
  have HV : Hid (Kd.R (Kd.int .i64) 2 w2 B (fun _ => True) v [p, q]) := Kd.R_lower hv (by rw [← HB.out]; simp)
  have H2 : Hid (Below B w w2) := (H1.out.alloc (by rw [← HB.out]; exact Nat.le_refl _) _).trans (hk.mono (by rw [← HB.out]; simp))
  clear hv hk
  go_wp2_with fail
  refine (share_Largest.calls T _ _ [X, 100000000000000 - X, 1] [] 5 _ (lit_reads (alloc_new w2 _) (by simp)) (Nat.le_refl _) (by unfold share_Largest.f; rw [E2.out])).mono ?_
  rintro e w3 ⟨v', rfl, hv', hk⟩
  have hB2 : B ≤ w2.heap.size := by have := H2.out.size; have := HB.out; omega
  have HV3 : Hid (Kd.R (Kd.int .i64) 2 w3 B (fun _ => True) v [p, q]) := Kd.R_below (Kd.R_below HV.out ((Below.refl _ w2).alloc (Nat.le_refl _) _)) hk
  have H3 : Hid (Below B w w3) := (H2.out.alloc hB2 _).trans (hk.mono (by simp; omega))
  clear hv' hk
  go_wp2_with fail
  refine (share_Upto.calls T (1 + n) (1 + n) T 0 w3 (by rw [upto_f, upto_all T (1 + n) (by omega) (by omega)])).mono ?_
  rintro e w4 ⟨rfl, k4, rfl⟩
  go_wp2_with fail
  refine (share_Upto.calls T (1 + n) 0 0 0 _ (by rw [upto_f, upto_none T (1 + n) (by omega) (by omega)])).mono ?_
  rintro e w4 ⟨rfl, k5, rfl⟩
  go_wp2_with fail
  refine (share_Upto.calls T (1 + n) (1 + n + 1) 0 2 _ (by rw [upto_f, upto_over])).mono ?_
  rintro e w4 ⟨rfl, k6, rfl⟩
  go_wp2_with fail
  refine (share_Upto.calls T 100001 1 0 2 _ (by rw [upto_f, upto_many])).mono ?_
  rintro e w4 ⟨rfl, k7, rfl⟩
  go_wp2_with fail
  refine (share_Piece.calls T (1 + n) (1 + n) (1 + n - 1) 0 2 _ (by rw [piece_f, piece_back])).mono ?_
  rintro e w4 ⟨rfl, k8, rfl⟩
  obtain ⟨ka, hka⟩ := awake_ev.rounds
  have HKA := Aside0.mk hka
  obtain ⟨A, c, rfl, hlc, hC⟩ := Kd.R_reads HV3.out
  obtain ⟨ad, rfl, h0⟩ := Kd.at_int hC 0 (by omega) (by simp)
  obtain ⟨ad', hA', h1⟩ := Kd.at_int hC 1 (by omega) (by simp)
  cases hA'
  have hadd : ad.add 0 = ad ∧ ad.add 1 = { block := ad.block, off := ad.off + 1 } := ⟨rfl, rfl⟩
  have h0' : w3.cell? ad = some (.int .i64 p) := by have : w3.cell? (ad.add 0) = some (.int .i64 p) := h0; rwa [hadd.1] at this
  have h1' : w3.cell? { block := ad.block, off := ad.off + 1 } = some (.int .i64 q) := by have : w3.cell? (ad.add 1) = some (.int .i64 q) := h1; rwa [hadd.2] at this
  have G0 := Aside0.mk h0'
  have G1 := Aside0.mk h1'
  clear hka HV hC h0 h1 h0' h1'
  have hB3 : B ≤ w3.heap.size := by have := H3.out.size; have := HB.out; omega
  have ho0 : w3.heap.size = w3.heap.size := rfl
  have hwT : (IntKind.i64.wrap T == T) = true := by
    have : IntKind.i64.wrap T = T := by rw [IntKind.wrap_i64]; omega
    rw [this]; simp
  go_upto_region 9 with (fail)
  go_region_held3 (fun w' : World => w'.cell? ad = some (.int .i64 p) ∧ w'.cell? { block := ad.block, off := ad.off + 1 } = some (.int .i64 q) ∧ Hid (Below B w w')) (first | exact ⟨G0.out, G1.out, ⟨H3.out.os, H3.out.tape, H3.out.output, H3.out.size, H3.out.block⟩⟩ | assumption) (first | (go_at_call 39; refine (haberdashlaw03_awake.calls ka true _ HKA.out).mono ?_; rintro e w5 ⟨rfl, hk⟩; have hs5 := (show w5.cell? ad = some (.int .i64 p) ∧ w5.cell? { block := ad.block, off := ad.off + 1 } = some (.int .i64 q) ∧ Hid (Below B w w5) from ⟨cell_kept (n := 0) hk G0.out rfl, cell_kept (n := 0) hk G1.out rfl, (bel_drewN H3.out _).trans (hk.mono hB3)⟩)))
  go_wp2
  go_ret
  exact ⟨rfl, hs5.2.2⟩
def f (k : Nat) (a0 a1 a2 : Int) : Option Bool := some true
theorem calls (k : Nat) (a0 a1 a2 : Int) (r : Bool) (w : World) (h : f k a0 a1 a2 = some r) :
    Calls Try.prog 14 #[.int .i64 a0, .int .i64 a1, .int .i64 a2] w fun e w' => e = .returned (.bool r) ∧ Below w.heap.size w w' := by
  obtain rfl : r = true := by injection h with h; exact h.symm
  exact shareEdges' a0 a1 a2 _ rfl
theorem Pure (a0 a1 a2 : Int) : ∃ k, f k a0 a1 a2 = some true := ⟨0, rfl⟩
end Go.Proofs.Ytegjbbblpnenfaa.LSE
