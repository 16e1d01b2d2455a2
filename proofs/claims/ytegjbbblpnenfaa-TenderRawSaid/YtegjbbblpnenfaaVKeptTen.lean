/- Whether a copy of tenders is as it was (haberdashhelp.Kept). -/
import Derived.Test.YtegjbbblpnenfaaProg
import Derived.Below
import Derived.Deep.Draws
import Derived.Deep.AppendLies
import Derived.Maps.AppendAt
import Derived.OwnWalk
import Derived.Laws.BytesArg
import Derived.Laws.MakeOwn
import Derived.Laws.OwnMore
import Derived.Deep.OwnRows
import Derived.Tactics
import Derived.Lib.ConvBytes
import Derived.Laws.Slices
import Derived.WalkKit
import Derived.KernelRfl
import Derived.RowKit3
import Derived.Deep.LoopGhost
import Derived.Deep.QuietTactic
import Derived.BigQuiet
import Derived.WideLaws
import Derived.Deep.DeepCutAuto
import Derived.Deep.CutBlock
import Derived.Deep.RegionHeld3
import Derived.Laws.Rows
import Derived.Lib.AppendStr
import Derived.ArgAppend
import Derived.Laws.IdiomCopy
import Derived.OrdersHeld
import Derived.Laws.BitsLemmas
import Derived.RowKit
import Derived.BigRegion
import Derived.Outline
import Derived.RegionTactic
import Derived.StillTailTactics
import Derived.Deep.RegionLaw
import Derived.Test.YtegjbbblpnenfaaVOwnTen
import Derived.Test.YtegjbbblpnenfaaVL22P
set_option linter.unusedVariables false
set_option linter.unusedSimpArgs false
namespace Go.Proofs.Ytegjbbblpnenfaa.HP
open Go Go.RowKit Go.Proofs.YtegjbbblpnenfaaW.PrintWords Go.Proofs.Ytegjbbblpnenfaa.QR
attribute [local go_sem high] Rw.eqA39
theorem reads_ten {w : World} {r : Nat} {l : List TenH} {f : TenH} (h : OwnRowT w r l f) (hb : l.length ≤ 1000000000) : Kd.C Rw.k39 w (some ⟨r, 0, none⟩) l.length l :=
  reads_flat Rw.k39 encT (fun w x => Rw.k39_mk w x) (fun _ => rfl) h hb

set_option maxRecDepth 100000 in
set_option maxHeartbeats 4000000 in
theorem kept_ten {a : Option Addr} {c r : Nat} {l : List TenH} {f0 f1 f2 : Int} {w : World} (hl : Kd.C Rw.k39 w a l.length l) (hc : l.length ≤ c) (h1 : l.length ≤ 1000000000) (ho : OwnRowT w r l ⟨f0, f1, f2⟩) :
    Calls Try.prog 33 #[.slice (some ⟨r, 0, none⟩) l.length (l.length + 3), .slice a l.length c, .agg #[.int .i64 f0, .int .i64 f1, .int .i64 f2]] w fun e w' => e = .returned (.bool true) ∧ Below w.heap.size w w' := by
  have hd1 : decide ((l.length : Int) + 3 < (l.length : Int) + 3) = false := by simp
  obtain ⟨k, hk⟩ := (LT.tens_ev l (by omega)).rounds
  obtain ⟨B, hB⟩ : ∃ B, w.heap.size = B := ⟨_, rfl⟩
  have HB : Hid (w.heap.size = B) := hB
  obtain ⟨w0, hw0⟩ : ∃ w0, w0 = w.alloc (.cells #[.int .i64 f0, .int .i64 f1, .int .i64 f2] 39) := ⟨_, rfl⟩
  have b0 : Below w.heap.size w w0 := by rw [hw0]; exact (Below.refl _ w).alloc (Nat.le_refl _) _
  have HL := Aside0.mk (Kd.C_below hl b0)
  have hr : r < w.heap.size := (Array.getElem?_eq_some_iff.1 ho).1
  have ho' : OwnRowT w0 r l ⟨f0, f1, f2⟩ := by unfold OwnRowT at ho ⊢; rw [b0.block r hr]; exact ho
  have HO : Hid (OwnRowT w0 r l ⟨f0, f1, f2⟩) := ho'
  have hx : w0.heap[B]? = some (.cells #[.int .i64 f0, .int .i64 f1, .int .i64 f2] 39 (0, 0)) := by rw [hw0, ← hB]; exact alloc_new w _
  have HX : Hid (w0.heap[B]? = some (.cells #[.int .i64 f0, .int .i64 f1, .int .i64 f2] 39 (0, 0))) := hx
  have H0 : Hid (Below B w w0) := by rw [← hB]; exact b0
  have HK := Aside0.mk hk
  have HR : Hid (r < B) := by rw [← hB]; exact hr
  have HW0 : Hid (w0 = w.alloc (.cells #[.int .i64 f0, .int .i64 f1, .int .i64 f2] 39)) := hw0
  clear hk ho ho' hl b0 hx hr hw0 hB
  go_enter Try.func33, Try.ntmps33
  go_wp2_with fail
  rw [← HW0.out]
  refine (Rw.api_Tender_26.calls k (some ⟨r, 0, none⟩) (l.length + 3) l a c l true w0 (reads_ten HO.out h1) (by omega) HL.out hc HK.out).mono ?_
  rintro e w1 ⟨rfl, hk⟩
  have hrl : r < w0.heap.size := (Array.getElem?_eq_some_iff.1 HO.out).1
  have hBl : B < w0.heap.size := (Array.getElem?_eq_some_iff.1 HX.out).1
  have HO1 : Hid (OwnRowT w1 r l ⟨f0, f1, f2⟩) := by have h := HO.out; unfold OwnRowT at h ⊢; show _ = _; rw [hk.block r hrl]; exact h
  have HX1 : Hid (w1.heap[B]? = some (.cells #[.int .i64 f0, .int .i64 f1, .int .i64 f2] 39 (0, 0))) := by show _ = _; rw [hk.block B hBl]; exact HX.out
  have H1 : Hid (Below B w w1) := H0.out.trans (hk.mono (by omega))
  obtain ⟨n, hn⟩ : ∃ n, n = l.length := ⟨_, rfl⟩
  have HN : Hid (n = l.length) := hn
  have HCC := Aside0.mk hc
  rw [← hn] at h1 hd1 ⊢
  clear hn hk hrl hBl hc
  go_wp2
  go_loopw [8] (fun x wr => ∃ k : Nat, k ≤ 3 ∧ x = .int .i64 ((n + k : Nat) : Int) ∧ Hid (∃ m, wr = w1.drewN m)) (fun x _ => (n + 3) - (intOf x).toNat)
  case atStart => exact ⟨0, by omega, rfl, ⟨0, rfl⟩⟩
  case round =>
    obtain ⟨k, hk, rfl, HW⟩ := hrel
    by_cases hlt : k < 3
    · obtain ⟨m, rfl⟩ := HW.out
      have hbx := HX1.out
      have e0 : (w1.drewN m).cell? ⟨w.heap.size, 0, none⟩ = some (.int .i64 f0) := by show w1.cell? _ = _; rw [HB.out, cell_of_row w1 B _ _ _ _ hbx]; rfl
      have e1 : (w1.drewN m).cell? ⟨w.heap.size, 1, none⟩ = some (.int .i64 f1) := by show w1.cell? _ = _; rw [HB.out, cell_of_row w1 B _ _ _ _ hbx]; rfl
      have e2 : (w1.drewN m).cell? ⟨w.heap.size, 2, none⟩ = some (.int .i64 f2) := by show w1.cell? _ = _; rw [HB.out, cell_of_row w1 B _ _ _ _ hbx]; rfl
      have hlen : (l.flatMap encT).length = n * 3 := by rw [flat_length Rw.k39 encT (fun _ => rfl), HN.out]; rfl
      have hcell : ∀ j, j < 3 → (w1.drewN m).cell? ⟨r, (n + k) * 3 + j, none⟩ = (encT ⟨f0, f1, f2⟩)[j]? := by
        intro j hj
        show w1.cell? _ = _
        rw [cell_of_row w1 r _ _ _ _ HO1.out, List.getElem?_toArray, List.getElem?_append_right (by rw [hlen]; omega), hlen]
        have e : (n + k) * 3 + j - n * 3 = k * 3 + j := by omega
        rw [e]
        have h4 : k = 0 ∨ k = 1 ∨ k = 2 := by omega
        have h3 : j = 0 ∨ j = 1 ∨ j = 2 := by omega
        rcases h4 with rfl | rfl | rfl <;> rcases h3 with rfl | rfl | rfl <;> rfl
      have hu0 : (w1.drewN m).cell? ⟨r, (n + k) * 3, none⟩ = some (.int .i64 f0) := hcell 0 (by omega)
      have hu1 : (w1.drewN m).cell? ⟨r, (n + k) * 3 + 1, none⟩ = some (.int .i64 f1) := hcell 1 (by omega)
      have hu2 : (w1.drewN m).cell? ⟨r, (n + k) * 3 + 2, none⟩ = some (.int .i64 f2) := hcell 2 (by omega)
      have hd : decide (((n + k : Nat) : Int) < (n : Int) + 3) = true := by simp; omega
      have hi1 : (0 : Int) ≤ ((n + k : Nat) : Int) := by omega
      have hi2 : ((n + k : Nat) : Int) < (n : Int) + 3 := by omega
      clear hcell hlen hbx
      obtain ⟨q, hq⟩ : ∃ q, n + k = q := ⟨_, rfl⟩
      have HQ : Hid (n + k = q) := hq
      rw [hq] at hu0 hu1 hu2 hd hi1 hi2 ⊢
      have hq1 : q ≤ n + 3 := by omega
      have hq2 : q < n + 3 := by omega
      clear hq
      generalize w1.drewN m = wr at *
      go_upto_region 7 with (fail)
      go_quiet (fail)
      go_wp2
      go_roundw
      case rel => exact ⟨k + 1, by omega, by have := HQ.out; first | rfl | (congr 1; omega), by obtain ⟨m, rfl⟩ := HW.out; exact ⟨_, World.drewN_drewN _ _ _⟩⟩
      case measure => simp [intOf]; omega
    · have hk3 : k = 3 := by omega
      subst hk3
      have hd : decide (((n + 3 : Nat) : Int) < (n : Int) + 3) = false := by simp
      clear hlt hk
      go_wp2
      go_ret
      obtain ⟨m, rfl⟩ := HW.out
      exact ⟨rfl, by rw [HB.out]; exact Kp.below_trans H1.out ((Kp.refl (fun _ => False) _).drewN m) (by rw [HB.out]; exact Nat.le_refl _) (fun _ h => h.elim)⟩
end Go.Proofs.Ytegjbbblpnenfaa.HP
