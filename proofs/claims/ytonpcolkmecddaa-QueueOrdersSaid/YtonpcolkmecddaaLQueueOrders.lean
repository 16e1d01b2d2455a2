/- The statement QueueOrders: whatever the ranks, the program's order is the reference's, and what is handed in stays. -/
import Derived.Test.YtonpcolkmecddaaProg
import Derived.Below
import Derived.Deep.Draws
import Derived.Deep.AppendLies
import Derived.Maps.AppendAt
import Derived.OwnWalk
import Derived.Laws.BytesArg
import Derived.Laws.MakeOwn
import Derived.Laws.OwnMore
import Derived.Deep.OwnRows
import Derived.Tactics
import Derived.Lib.ConvBytes
import Derived.Laws.Slices
import Derived.WalkKit
import Derived.KernelRfl
import Derived.RowKit3
import Derived.Deep.LoopGhost
import Derived.Deep.QuietTactic
import Derived.BigQuiet
import Derived.WideLaws
import Derived.Deep.DeepCutAuto
import Derived.Deep.CutBlock
import Derived.Deep.RegionHeld3
import Derived.Laws.Rows
import Derived.Lib.AppendStr
import Derived.ArgAppend
import Derived.Laws.IdiomCopy
import Derived.OrdersHeld
import Derived.Laws.BitsLemmas
import Derived.RowKit
import Derived.BigRegion
import Derived.Outline
import Derived.RegionTactic
import Derived.StillTailTactics
import Derived.Deep.RegionLaw
import Derived.Test.YtonpcolkmecddaaQLaws
set_option linter.unusedVariables false
set_option linter.unusedSimpArgs false
namespace Go.Proofs.Ytonpcolkmecddaa.QL
open Go Go.RowKit Go.Proofs.YtonpcolkmecddaaW.PrintWords Go.Proofs.Ytonpcolkmecddaa.QM Go.Proofs.Ytonpcolkmecddaa.QR Go.Proofs.Ytonpcolkmecddaa.QW Go.Proofs.Ytonpcolkmecddaa.HP

set_option maxRecDepth 100000 in
set_option maxHeartbeats 4000000 in
theorem queueOrders' {a : Option Addr} {c : Nat} {l : List Int} {w : World} (B : Nat) (hB : w.heap.size = B) (hl : Kd.C (Kd.int .i64) w a l.length l) (hc : l.length ≤ c) :
    Calls Try.prog 3 #[.slice a l.length c] w fun e w' => e = .returned (.bool true) ∧ Below B w w' := by
  have HB : Hid (w.heap.size = B) := hB
  by_cases hbig : 300 < l.length
  · have hd : decide ((300 : Int) < (l.length : Int)) = true := by simp; omega
    clear hB
    go_enter Try.func3, Try.ntmps3
    go_wp2_with fail
    refine (awake_calls' B HB.out).mono ?_
    rintro e w' ⟨rfl, hk⟩
    go_wp2
    go_ret
    exact ⟨rfl, hk⟩
  · have hb : l.length ≤ 300 := by omega
    have hd : decide ((300 : Int) < (l.length : Int)) = false := by simp; omega
    have HL : Hid (Kd.C (Kd.int .i64) w a l.length l) := hl
    clear hbig hB hl
    go_enter Try.func3, Try.ntmps3
    go_wp2_with fail
    refine (own_int64 71 HL.out (by omega)).mono ?_
    rintro e w1 ⟨r, rfl, hr, ho, hk⟩
    rw [HB.out] at hr hk
    have H1 : Hid (Below B w w1) := hk
    have HO : Hid (OwnRowI 2 w1 r l 71) := ho
    clear hk ho
    have hrl : r < w1.heap.size := (Array.getElem?_eq_some_iff.1 HO.out).1
    go_wp2_with fail
    refine (awake_calls w1).mono ?_
    rintro e w2 ⟨rfl, hk⟩
    have HO2 : Hid (OwnRowI 2 w2 r l 71) := (hk.block r hrl).trans HO.out
    have H2 : Hid (Below B w w2) := H1.out.trans (hk.mono (by have := H1.out.size; have := HB.out; omega))
    have hr2 : r < w2.heap.size := (Array.getElem?_eq_some_iff.1 HO2.out).1
    clear hk
    go_wp2_with fail
    refine (order_calls (reads_int64 HO2.out (by omega)) (by omega)).mono ?_
    rintro e w3 ⟨v, rfl, hv, hk⟩
    have HO3 : Hid (OwnRowI 2 w3 r l 71) := (hk.block r hr2).trans HO2.out
    have H3 : Hid (Below B w w3) := H2.out.trans (hk.mono (by have := H2.out.size; have := HB.out; omega))
    have hr3 : r < w3.heap.size := (Array.getElem?_eq_some_iff.1 HO3.out).1
    have HV := Aside0.mk hv
    clear hk hv
    obtain ⟨k, hk⟩ := RO.ref_order l (by omega)
    have HK := Aside0.mk hk
    clear hk
    go_wp2_with fail
    refine (PrA.haberdashref01_Order.calls k a c l (ord l) w3 (Kd.C_below HL.out (by have := H3.out; rw [HB.out]; exact this)) hc HK.out).mono ?_
    rintro e w4 ⟨u, rfl, hu, hk⟩
    have HO4 : Hid (OwnRowI 2 w4 r l 71) := (hk.block r hr3).trans HO3.out
    have H4 : Hid (Below B w w4) := H3.out.trans (hk.mono (by have := H3.out.size; have := HB.out; omega))
    have HV4 := Aside0.mk (Kd.R_below HV.out hk)
    have HU := Aside0.mk hu
    clear hk hu HV
    go_wp2_with fail
    refine (plain_any (T := 0) HV4.out HU.out (by rw [ord_length]; omega) (by rw [ord_length]; omega) true (decide_eq_true rfl)).mono ?_
    rintro e w5 ⟨rfl, m, rfl⟩
    go_wp2_with fail
    refine (kept_int64 (c := c) (Kd.C_below HL.out (by have := H4.out; rw [HB.out]; exact bel_drewN this m)) (by omega) (by exact HO4.out)).mono ?_
    rintro e w6 ⟨rfl, n, rfl⟩
    go_wp2
    go_ret
    exact ⟨rfl, bel_drewN H4.out _⟩

theorem queueOrders_law (a : Option Addr) (c : Nat) (l : List Int) (w : World) (hl : Kd.C (Kd.int .i64) w a l.length l) (hc : l.length ≤ c) (_ : l.length ≤ maxLen) (_ : l.length * 8 ≤ 140737488351232) (_ : ∀ x ∈ l, (Lit.int .i64 x).wf = true) :
    Calls Try.prog 3 #[.slice a l.length c] w fun e w' => e = .returned (.bool true) ∧ Below w.heap.size w w' := queueOrders' _ rfl hl hc
end Go.Proofs.Ytonpcolkmecddaa.QL
