/- The statement ShareRaw: any numbers as a total, weights, and places, or why not; what is handed in stays. -/
import Derived.Test.YtegjbbblpnenfaaProg
import Derived.Below
import Derived.Deep.Draws
import Derived.Deep.AppendLies
import Derived.Maps.AppendAt
import Derived.OwnWalk
import Derived.Laws.BytesArg
import Derived.Laws.MakeOwn
import Derived.Laws.OwnMore
import Derived.Deep.OwnRows
import Derived.Tactics
import Derived.Lib.ConvBytes
import Derived.Laws.Slices
import Derived.WalkKit
import Derived.KernelRfl
import Derived.RowKit3
import Derived.Deep.LoopGhost
import Derived.Deep.QuietTactic
import Derived.BigQuiet
import Derived.WideLaws
import Derived.Deep.DeepCutAuto
import Derived.Deep.CutBlock
import Derived.Deep.RegionHeld3
import Derived.Laws.Rows
import Derived.Lib.AppendStr
import Derived.ArgAppend
import Derived.Laws.IdiomCopy
import Derived.OrdersHeld
import Derived.Laws.BitsLemmas
import Derived.RowKit
import Derived.BigRegion
import Derived.Outline
import Derived.RegionTactic
import Derived.StillTailTactics
import Derived.Deep.RegionLaw
import Derived.Test.YtegjbbblpnenfaaVL03P
import Derived.Test.YtegjbbblpnenfaaVRef01U
import Derived.Test.YtegjbbblpnenfaaVOwnInt
import Derived.Test.YtegjbbblpnenfaaVSpecS2
set_option linter.unusedVariables false
set_option linter.unusedSimpArgs false
namespace Go.Proofs.Ytegjbbblpnenfaa.LSR
open Go Go.RowKit Go.Proofs.YtegjbbblpnenfaaW.PrintWords Go.Proofs.Ytegjbbblpnenfaa.Rw Go.Proofs.Ytegjbbblpnenfaa.SP Go.Proofs.Ytegjbbblpnenfaa.SH Go.Proofs.Ytegjbbblpnenfaa.L3 Go.Proofs.Ytegjbbblpnenfaa.QR Go.Proofs.Ytegjbbblpnenfaa.HP

theorem bel_drewN {B : Nat} {w a : World} (h : Below B w a) (n : Nat) : Below B w (a.drewN n) := ⟨h.os, h.tape, h.output, h.size, h.block⟩
theorem own_keep {T : Nat} {w w' : World} {r : Nat} {l : List Int} {f : Int} (h : OwnRowI T w r l f) (k : Below w.heap.size w w') : OwnRowI T w' r l f := by
  have hr : r < w.heap.size := (Array.getElem?_eq_some_iff.1 h).1
  unfold OwnRowI at h ⊢
  rw [k.block r hr]; exact h
theorem own_drewN {T : Nat} {w : World} {r : Nat} {l : List Int} {f : Int} (h : OwnRowI T w r l f) (n : Nat) : OwnRowI T (w.drewN n) r l f := h

set_option maxRecDepth 100000 in
set_option maxHeartbeats 4000000 in
theorem shareRaw' {A : Option Addr} {c : Nat} {l : List Int} {w : World} (x n a b : Int) (B : Nat) (hB : w.heap.size = B) (hl : Kd.C (Kd.int .i64) w A l.length l) (hc : l.length ≤ c) :
    Calls Try.prog 12 #[.int .i64 x, .slice A l.length c, .int .i64 n, .int .i64 a, .int .i64 b] w fun e w' => e = .returned (.bool true) ∧ Below B w w' := by
  have HB : Hid (w.heap.size = B) := hB
  obtain ⟨ka, hka⟩ := awake_ev.rounds
  have HKA := Aside0.mk hka
  clear hka
  by_cases hbig : 100 < l.length
  · have hd : decide ((100 : Int) < (l.length : Int)) = true := by simp; omega
    clear hB hl
    go_enter Try.func12, Try.ntmps12
    go_wp2_with fail
    refine (haberdashlaw03_awake.calls ka true _ HKA.out).mono ?_
    rintro e w' ⟨rfl, hk⟩
    go_wp2
    go_ret
    exact ⟨rfl, by rw [← HB.out]; exact hk⟩
  · have hb : l.length ≤ 100 := by omega
    have hd : decide ((100 : Int) < (l.length : Int)) = false := by simp; omega
    have HL : Hid (Kd.C (Kd.int .i64) w A l.length l) := hl
    obtain ⟨k1, hk1⟩ := (RP.largest_f x l).rounds
    obtain ⟨k2, hk2⟩ := (RTM.upto_r x n a).rounds
    obtain ⟨k3, hk3⟩ := (RTM.piece_r x n a b).rounds
    obtain ⟨p, hp⟩ : ∃ p, p = largest x l := ⟨_, rfl⟩
    obtain ⟨u, hu⟩ : ∃ u, u = upto x n a := ⟨_, rfl⟩
    obtain ⟨v, hv⟩ : ∃ v, v = piece x n a b := ⟨_, rfl⟩
    have hpl : p.1.length ≤ 1000000000 := by
      rw [hp]; unfold largest
      split
      · simp
      split
      · simp; omega
      · rw [parts_length]; omega
    have hlg : share_Largest.f x l = some (p.1, p.2) := by unfold share_Largest.f; rw [hp]
    have hup : share_Upto.f x n a = some (u.1, u.2) := by rw [upto_f, hu]
    have hpc : share_Piece.f x n a b = some (v.1, v.2) := by rw [piece_f, hv]
    rw [← hp] at hk1
    rw [← hu] at hk2
    rw [← hv] at hk3
    have K0 := Aside0.mk hlg
    have K1 := Aside0.mk hk1
    have K2 := Aside0.mk hk2
    have K3 := Aside0.mk hk3
    have K4 := Aside0.mk hup
    have K5 := Aside0.mk hpc
    have HPL := Aside0.mk hpl
    clear hlg hk1 hk2 hk3 hup hpc hp hu hv hpl hbig hB hl
    obtain ⟨p1, p2⟩ := p
    obtain ⟨u1, u2⟩ := u
    obtain ⟨v1, v2⟩ := v
    have n1 : ∀ z : Int, (z == z) = true := fun z => by simp
    go_enter Try.func12, Try.ntmps12
    go_wp2_with fail
    refine (own_int64 71 HL.out (by omega)).mono ?_
    rintro e w1 ⟨r, rfl, hr, ho, hk⟩
    have H1 : Hid (Below B w w1) := by show Below _ _ _; rw [← HB.out]; exact hk
    have HO1 : Hid (OwnRowI 2 w1 r l 71) := ho
    clear hr ho hk
    go_wp2_with fail
    refine (share_Largest.calls x (some ⟨r, 0, none⟩) (l.length + 3) l p1 p2 w1 (reads_int64 HO1.out (by omega)) (by omega) K0.out).mono ?_
    rintro e w2 ⟨y, rfl, hy, hk⟩
    have HB1 : B ≤ w1.heap.size := by have := H1.out.size; have := HB.out; omega
    have H2 : Hid (Below B w w2) := H1.out.trans (hk.mono HB1)
    have HO2 : Hid (OwnRowI 2 w2 r l 71) := own_keep HO1.out hk
    have HY2 := Aside0.mk hy
    clear hy hk
    go_wp2_with fail
    refine (haberdashref01_Largest.calls k1 x A c l p1 p2 w2 (Kd.C_below HL.out (by have := H2.out; rw [HB.out]; exact this)) hc K1.out).mono ?_
    rintro e w3 ⟨z, rfl, hz, hk⟩
    have HB2 : B ≤ w2.heap.size := by have := H2.out.size; have := HB.out; omega
    have H3 : Hid (Below B w w3) := H2.out.trans (hk.mono HB2)
    have HO3 : Hid (OwnRowI 2 w3 r l 71) := own_keep HO2.out hk
    have HY3 := Aside0.mk (Kd.R_below HY2.out hk)
    have HZ3 := Aside0.mk hz
    clear hz hk
    go_wp2_with fail
    refine (share_Upto.calls x n a u1 u2 _ K4.out).mono ?_
    rintro e w4 ⟨rfl, q1, rfl⟩
    go_wp2_with fail
    refine (haberdashref01_Upto.calls k2 x n a u1 u2 _ K2.out).mono ?_
    rintro e w4 ⟨rfl, q2, rfl⟩
    go_wp2_with fail
    refine (share_Piece.calls x n a b v1 v2 _ K5.out).mono ?_
    rintro e w4 ⟨rfl, q3, rfl⟩
    go_wp2_with fail
    refine (haberdashref01_Piece.calls k3 x n a b v1 v2 _ K3.out).mono ?_
    rintro e w4 ⟨rfl, q4, rfl⟩
    obtain ⟨A1, c1, rfl, hc1, hC1⟩ := Kd.R_reads HY3.out
    obtain ⟨A2, c2, rfl, hc2, hC2⟩ := Kd.R_reads HZ3.out
    have HC1 := Aside0.mk hC1
    have HC2 := Aside0.mk hC2
    clear hC1 hC2 HY3 HZ3 HY2
    have HB3 : B ≤ w3.heap.size := by have := H3.out.size; have := HB.out; omega
    go_wp2_with fail
    refine (haberdashlaw03_awake.calls ka true _ HKA.out).mono ?_
    rintro e w5 ⟨rfl, hk⟩
    have H5 : Hid (Below B w w5) := (bel_drewN H3.out _).trans (hk.mono HB3)
    have HO5 : Hid (OwnRowI 2 w5 r l 71) := own_keep (own_drewN HO3.out _) hk
    have HC15 := Aside0.mk (Kd.C_below (Kd.C_drewN HC1.out _) hk)
    have HC25 := Aside0.mk (Kd.C_below (Kd.C_drewN HC2.out _) hk)
    clear hk
    go_wp2_with fail
    refine (plain_int64 HC15.out HC25.out HPL.out HPL.out).mono ?_
    rintro e w6 ⟨rfl, q5, rfl⟩
    rw [show decide (p1 = p1) = true from decide_eq_true rfl]
    go_wp2_with fail
    refine (kept_int64 (Kd.C_below HL.out (by have := bel_drewN H5.out q5; rw [HB.out]; exact this)) (by omega) (own_drewN HO5.out _)).mono ?_
    rintro e w7 ⟨rfl, q6, rfl⟩
    go_wp2
    go_ret
    exact ⟨by simp, bel_drewN H5.out _⟩
def f (k : Nat) (x : Int) (l : List Int) (n a b : Int) : Option Bool := some true
theorem calls (k : Nat) (x : Int) (A : Option Addr) (c : Nat) (l : List Int) (n a b : Int) (r : Bool) (w : World) (hl : Kd.C (Kd.int .i64) w A l.length l) (hc : l.length ≤ c) (h : f k x l n a b = some r) :
    Calls Try.prog 12 #[.int .i64 x, .slice A l.length c, .int .i64 n, .int .i64 a, .int .i64 b] w fun e w' => e = .returned (.bool r) ∧ Below w.heap.size w w' := by
  obtain rfl : r = true := by injection h with h; exact h.symm
  exact shareRaw' x n a b _ rfl hl hc
theorem Pure (x : Int) (l : List Int) (n a b : Int) : ∃ k, f k x l n a b = some true := ⟨0, rfl⟩
end Go.Proofs.Ytegjbbblpnenfaa.LSR
