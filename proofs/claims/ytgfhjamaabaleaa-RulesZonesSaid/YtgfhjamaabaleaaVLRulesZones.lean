/- The statement RulesZones: which zone, and which rate of it, any names have. -/
import Derived.Test.YtgfhjamaabaleaaProg
import Derived.Below
import Derived.Deep.Draws
import Derived.Deep.AppendLies
import Derived.Maps.AppendAt
import Derived.OwnWalk
import Derived.Laws.BytesArg
import Derived.Laws.MakeOwn
import Derived.Laws.OwnMore
import Derived.Deep.OwnRows
import Derived.Tactics
import Derived.Lib.ConvBytes
import Derived.Laws.Slices
import Derived.WalkKit
import Derived.KernelRfl
import Derived.RowKit3
import Derived.Deep.LoopGhost
import Derived.Deep.QuietTactic
import Derived.BigQuiet
import Derived.WideLaws
import Derived.Deep.DeepCutAuto
import Derived.Deep.CutBlock
import Derived.Deep.RegionHeld3
import Derived.Laws.Rows
import Derived.Lib.AppendStr
import Derived.ArgAppend
import Derived.Laws.IdiomCopy
import Derived.OrdersHeld
import Derived.Laws.BitsLemmas
import Derived.RowKit
import Derived.BigRegion
import Derived.Outline
import Derived.RegionTactic
import Derived.StillTailTactics
import Derived.Deep.RegionLaw
import Derived.Test.YtgfhjamaabaleaaVRwL13a
import Derived.Test.YtgfhjamaabaleaaVRwHZone
import Derived.Test.YtgfhjamaabaleaaVRwRef10z
import Derived.Test.YtgfhjamaabaleaaVRwRulesZ
import Derived.Test.YtgfhjamaabaleaaVRwPTax
import Derived.Test.YtgfhjamaabaleaaVAwL13
import Derived.Test.YtgfhjamaabaleaaVPTaxP
import Derived.Test.YtgfhjamaabaleaaVHZoneP
import Derived.Test.YtgfhjamaabaleaaVKx
set_option linter.unusedVariables false
set_option linter.unusedSimpArgs false
namespace Go.Proofs.Ytgfhjamaabaleaa.LRZ
open Go Go.RowKit Go.Proofs.YtgfhjamaabaleaaW.PrintWords Go.Proofs.YtgfhjamaabaleaaW.PrintLast Go.Proofs.YtgfhjamaabaleaaW.PrintMore Go.Proofs.Ytgfhjamaabaleaa.Rw Go.Proofs.Ytgfhjamaabaleaa.EP Go.Proofs.Ytgfhjamaabaleaa.XP Go.Proofs.Ytgfhjamaabaleaa.PX
open Go.Proofs.Ytgfhjamaabaleaa.MP (md md_range mod_f mod64_f)
def T18 : Bool × List (List Nat × List Nat) := (true, [([], []), ([0], [0]), ([], []), ([1, 2], [1, 2]), ([3], [3]), ([], []), ([4, 5], [4, 5]), ([], []), ([7], [7]), ([], []), ([8, 9], [8, 9]), ([10], [10]), ([], []), ([11, 12, 6], [11, 12]), ([6, 13], [6, 13])])
def B18 : List Nat := [0, 1, 0, 7, 15, 0, 63, 0, 128, 0, 896, 1920, 0, 8191, 16383]
theorem tab18 : rtab .any (opsOf Try.f3 18) = T18 := by kernel_rfl
theorem bits18 : waitsOk T18.2 B18 = true := by kernel_rfl
theorem zns_len (l : List Zn) : (zns l).length ≤ 40 ∧ ∀ z ∈ zns l, z.f1.length ≤ 60 := by
  have hz := zns_ok 0 l
  unfold taxOk at hz
  simp only [Bool.and_eq_true, decide_eq_true_eq] at hz
  refine ⟨by omega, fun z h => ?_⟩
  obtain ⟨j, hj, rfl⟩ := List.getElem_of_mem h
  have h2 := allTo_iff.1 hz.2.2.1 j hj
  rw [List.getD_eq_getElem?_getD, List.getElem?_eq_getElem hj] at h2
  unfold zoneOk at h2
  simp only [Bool.and_eq_true, decide_eq_true_eq, Option.getD_some] at h2
  omega
theorem heapC : Kd.Heap k39 := Kd.heap_iso _ (Kd.heap_pair Kd.heap_string (Kd.heap_int .i64))
theorem heapZ : Kd.Heap k28 := Kd.heap_iso _ (Kd.heap_pair Kd.heap_string (Kd.heap_pair (Kd.heap_slice 39 heapC) (Kd.heap_pair (Kd.heap_int .i64) (Kd.heap_int .i64))))
theorem zoneAt_mem {l : List Zn} {s : ByteArray} {z : Zn} (h : zoneAt l s = some z) : z ∈ l := by
  unfold zoneAt at h
  rw [Option.map_eq_some_iff] at h
  obtain ⟨j, hj, rfl⟩ := h
  exact getD_mem (List.mem_range.1 (List.mem_of_find?_eq_some hj))
set_option maxRecDepth 100000 in
set_option maxHeartbeats 8000000 in
theorem zones' (i o : Bool) (k : Int) {A0 : Option Addr} {c0 : Nat} {l : List Zn} (near : Bool) (name cat : ByteArray) {w : World}
    (h0 : Kd.C k28 w A0 l.length l) (hc0 : l.length ≤ c0) :
    Calls Try.prog 3 #[.agg #[.bool i, .bool o, .int .i64 k, .slice A0 l.length c0], .bool near, .string name, .string cat] w fun e w' => e = .returned (.bool true) ∧ Below w.heap.size w w' := by
  have hu24 := Try.underlying24
  have hu41 := Try.underlying28
  obtain ⟨ka, hka⟩ := awake_ev.rounds
  have HKA := Aside0.mk hka
  have HR0 := Aside0.mk h0
  have HC0 := Aside0.mk hc0
  have HB := Aside0.mk (Below.refl w.heap.size w)
  clear h0 hc0 hka
  obtain ⟨nz, hnz⟩ : ∃ b, decide ((l.length : Int) > 40) = b := ⟨_, rfl⟩
  obtain ⟨nb, hnb⟩ : ∃ b, decide ((name.size : Int) > 60) = b := ⟨_, rfl⟩
  obtain ⟨nc, hnc⟩ : ∃ b, decide ((cat.size : Int) > 60) = b := ⟨_, rfl⟩
  go_enter Try.func3, Try.ntmps3
  go_upto_region 1 with (first | ((with_reducible refine gate_dst (N := 4) rfl ?_); (try (refine gate_guard (by rfl) ?_; dsimp only)); refine box_event rf_ (N := 4) rf_ (cs := #[.bool i, .bool o, .int .i64 k, .slice A0 l.length c0]) (t := 24) lr_ ?_; intro g hg w1 hbox hb; have BK := Aside0.mk hbox; have GE := Aside0.mk (ge_ HB hg (hb0_ HB)); replace HB := Aside0.mk (below_step (hb0_ HB) hb); clear hb hbox hg))
  (try simp only [Act.put, List.setIfInBounds_toArray, List.set_cons_zero, List.set_cons_succ])
  obtain ⟨z0, z1, z2, z3⟩ := cz4_ BK
  obtain ⟨y0, y1, y2, y3⟩ := fz4_ BK
  cases nz with
  | true =>
    go_wp2_with fail
    refine (haberdashlaw13_awake.calls ka true _ HKA.out).mono ?_
    rintro e wa ⟨rfl, hb⟩
    replace HB := Aside0.mk (below_step HB.out hb)
    go_wp2
    go_ret
    exact ⟨rfl, HB.out⟩
  | false =>
  cases nb with
  | true =>
    go_wp2_with fail
    refine (haberdashlaw13_awake.calls ka true _ HKA.out).mono ?_
    rintro e wa ⟨rfl, hb⟩
    replace HB := Aside0.mk (below_step HB.out hb)
    go_wp2
    go_ret
    exact ⟨rfl, HB.out⟩
  | false =>
  cases nc with
  | true =>
    go_wp2_with fail
    refine (haberdashlaw13_awake.calls ka true _ HKA.out).mono ?_
    rintro e wa ⟨rfl, hb⟩
    replace HB := Aside0.mk (below_step HB.out hb)
    go_wp2
    go_ret
    exact ⟨rfl, HB.out⟩
  | false =>
  have HL : Aside0 (l.length ≤ 40) := ⟨by have := of_decide_eq_false hnz; omega⟩
  go_wp2_with fail
  clear hnz hnb hnc z0 z1 z2 z3 y0 y1 y2 y3
  go_loopw [9] (fun x wr => ∃ j : Nat, x = .int .i64 j ∧ Aside0 (j ≤ l.length) ∧ Aside0 (∀ i, i < j → (l.getD i zZ).f1.length ≤ 60) ∧ Aside0 (wr.heap[g]? = some (.cells #[.bool i, .bool o, .int .i64 k, .slice A0 l.length c0] 24 (0, 0))) ∧ Aside0 (Below w.heap.size w wr)) (fun x _ => l.length - (intOf x).toNat)
  case atStart => exact ⟨0, rfl, ⟨Nat.zero_le _⟩, ⟨fun j h => absurd h (by omega)⟩, BK, HB⟩
  case round =>
  clear BK HB
  obtain ⟨j, rfl, HJ, HN, BK, HB⟩ := hrel
  obtain ⟨z0, z1, z2, z3⟩ := cz4_ BK
  obtain ⟨y0, y1, y2, y3⟩ := fz4_ BK
  by_cases hlt : j < l.length
  · have hd : decide ((j : Int) < (l.length : Int)) = true := decide_eq_true (by omega)
    have hdn : decide (j < l.length) = true := decide_eq_true (by omega)
    have hj40 : (j : Int) ≤ 40 := by have := HL.out; omega
    obtain ⟨ad, A1, c1, rfl, x0, x1, x2, x3, _⟩ := at_T28 (Kd.C_below HR0.out HB.out) (j : Int) (by omega) (by omega)
    rw [Int.toNat_natCast] at x0 x1 x2 x3
    have hlt2 : (j : Int) < (l.length : Int) := by omega
    have hge : 0 ≤ (j : Int) := by omega
    obtain ⟨zj, hzj⟩ : ∃ z, rd_T28 l (j : Int) = z := ⟨_, rfl⟩
    rw [hzj] at x0 x1 x2 x3
    have HZJ : Aside0 (l.getD j zZ = zj) := ⟨by rw [← hzj, rdZ_d]⟩
    clear hzj
    obtain ⟨bb, hbb⟩ : ∃ b, decide ((zj.f1.length : Int) > 60) = b := ⟨_, rfl⟩
    cases bb with
    | true =>
      go_wp2_with fail
      refine (haberdashlaw13_awake.calls ka true _ HKA.out).mono ?_
      rintro e wa ⟨rfl, hb⟩
      replace HB := Aside0.mk (below_step HB.out hb)
      go_wp2
      go_ret
      exact ⟨rfl, HB.out⟩
    | false =>
      have HBB := Aside0.mk hbb
      go_wp2_with fail
      have hw : wrap64 ((j : Int) + 1) = ((j + 1 : Nat) : Int) := next j (by omega)
      try rw [hw]
      go_roundw
      case rel => exact ⟨j + 1, rfl, ⟨by omega⟩, ⟨fun q hq => by
        rcases Nat.lt_or_ge q j with h | h
        · exact HN.out q h
        · obtain rfl : q = j := by omega
          rw [HZJ.out]
          have := of_decide_eq_false HBB.out
          omega⟩, BK, HB⟩
      case measure => simp [intOf]; omega
  · have hd : decide ((j : Int) < (l.length : Int)) = false := decide_eq_false (by omega)
    have hdn : decide (j < l.length) = false := decide_eq_false (by omega)
    have HZ60 : Aside0 (∀ z ∈ l, z.f1.length ≤ 60) := ⟨fun z hz => by
      obtain ⟨q, hq, rfl⟩ := List.getElem_of_mem hz
      have := HN.out q (by omega)
      rw [List.getD_eq_getElem?_getD, List.getElem?_eq_getElem hq] at this
      exact this⟩
    clear hlt HN HJ
    go_upto_if 46 with fail
    clear hd hdn z0 z1 z2 z3 y0 y1 y2 y3
    go_cut [2, 3] from 47 (fun v2 v3 wd => ∃ (i1 o1 : Bool) (k1 : Int) (l1 : List Zn) (A1 : Option Addr) (c1 : Nat) (nm ct : ByteArray), v2 = .string nm ∧ v3 = .string ct ∧ Aside0 (wd.heap[g]? = some (.cells #[.bool i1, .bool o1, .int .i64 k1, .slice A1 l1.length c1] 24 (0, 0))) ∧ Aside0 (Kd.C k28 wd A1 l1.length l1) ∧ Aside0 (l1.length ≤ c1) ∧ Aside0 (l1.length ≤ 40 ∧ ∀ z ∈ l1, z.f1.length ≤ 60) ∧ Aside0 (near = true → (zoneT (zoneAt l1 nm)).2.2.2.2 = true) ∧ Aside0 (Below w.heap.size w wd))
    case first =>
      cases near with
      | false =>
        go_wp2
        go_meet
        case rel => exact ⟨i, o, k, l, A0, c0, name, cat, rfl, rfl, BK, ⟨Kd.C_below HR0.out HB.out⟩, HC0, ⟨HL.out, HZ60.out⟩, ⟨fun h => absurd h (by decide)⟩, HB⟩
      | true =>
        obtain ⟨kt, hkt⟩ := (ptax_f i o k l (by have := HL.out; omega) (fun z hz => by have := HZ60.out z hz; omega)).rounds
        have HKT := Aside0.mk hkt
        clear hkt
        obtain ⟨z0, z1, z2, z3⟩ := cz4_ BK
        obtain ⟨y0, y1, y2, y3⟩ := fz4_ BK
        go_upto_region 10 with (refine gl_ 6 48 Try.func6 #[.agg #[.bool i, .bool o, .int .i64 k, .slice A0 l.length c0]] ?_; (with_reducible refine (haberdashplay_Tax.calls kt i o k _ _ l i o (md k 3) (zns l) _ (Kd.C_below HR0.out HB.out) HC0.out HKT.out).mono ?_); rintro e w3 ⟨v3, rfl, ho0, hb⟩; refine ⟨_, rfl, ?_⟩; obtain ⟨A5, c5, rfl⟩ := Kd.S_slice ho0; have HO := Aside0.mk (Kd.S_lower ho0 (below_size (hb1_ HB GE))); replace BK := Aside0.mk (bb_ BK hb); replace HB := Aside0.mk (below_step (hb1_ HB GE) hb); clear hb ho0; obtain ⟨z0, z1, z2, z3⟩ := cz4_ BK; obtain ⟨y0, y1, y2, y3⟩ := fz4_ BK)
        have HO2 := Aside0.mk (Kd.S_mono (Kd.S_far (p := ⟨g, 3, none⟩) (Kd.S_far (p := ⟨g, 2, none⟩) (Kd.S_far (p := ⟨g, 1, none⟩) (Kd.S_far (p := ⟨g, 0, none⟩) (Kd.S_types HO.out BK.out (by decide)) (fun _ hk => hk.2) (.bool i)) (fun _ hk => hk.2) (.bool o)) (fun _ hk => hk.2) (.int .i64 (md k 3))) (fun _ hk => hk.2) (.slice A5 (zns l).length c5)) (fun _ h_ => h_.1))
        clear z0 z1 z2 z3 y0 y1 y2 y3 HO
        go_wp2_with fail
        refine (haberdashplay_Zone.calls (name.size : Int) _ _ (PX.zone_f _)).mono ?_
        rintro e w4 ⟨rfl, hb⟩
        have BK2 : Aside0 (w4.heap[g]? = some (.cells #[.bool i, .bool o, .int .i64 (md k 3), .slice A5 (zns l).length c5] 24 (0, 0))) := ⟨blk_below (bq0_ BK) hb⟩
        have HR2 := Aside0.mk (Kd.C_below (Kd.S_reads' HO2.out).2.2 hb)
        have HC2 := Aside0.mk (Kd.S_reads' HO2.out).2.1
        have HB2 := Aside0.mk (below_step (hb1_ HB GE) hb)
        clear hb BK HB HO2
        go_wp2_with fail
        refine (haberdashplay_Category.calls (cat.size : Int) _ _ (PX.cat_f _)).mono ?_
        rintro e w5 ⟨rfl, hb⟩
        replace BK2 := Aside0.mk (blk_below BK2.out hb)
        replace HR2 := Aside0.mk (Kd.C_below HR2.out hb)
        replace HB2 := Aside0.mk (below_step HB2.out hb)
        clear hb
        go_wp2
        go_meet
        case rel => exact ⟨i, o, md k 3, zns l, A5, c5, _, _, rfl, rfl, BK2, HR2, HC2, ⟨zns_len l⟩, ⟨fun _ => by rw [zone_there l _ (by have := md_range (name.size : Int) 3 (by omega); omega)]; rfl⟩, HB2⟩
    case rest =>
      clear HR0 HC0 HL HZ60 BK HB
      obtain ⟨i1, o1, k1, l1, A1, c1, nm, ct, rfl, rfl, BK, HR, HC, HL, HN, HB⟩ := hcut
      obtain ⟨⟨zn, zr, zs, zh, zo⟩, hz⟩ : ∃ p, zoneT (zoneAt l1 nm) = p := ⟨_, rfl⟩
      obtain ⟨k2, f2⟩ := (zoneAt_f i1 o1 k1 l1 nm (by have := HL.out.1; omega) (fun z hz => by have := HL.out.2 z hz; omega)).rounds
      obtain ⟨k3, f3⟩ := (rzoneAt_f i1 o1 k1 l1 nm (by have := HL.out.1; omega)).rounds
      have hzr : zr.length ≤ 60 := by
        have h1 : zr = (zoneT (zoneAt l1 nm)).2.1 := by rw [hz]
        rw [h1]
        cases hq : zoneAt l1 nm with
        | none => exact Nat.zero_le _
        | some q => exact HL.out.2 q (zoneAt_mem hq)
      rw [hz] at f2 f3 HN
      obtain ⟨k4, f4⟩ := (same_zone zn zr zs zh (by omega)).rounds
      have F2 := Aside0.mk f2
      have F3 := Aside0.mk f3
      have F4 := Aside0.mk f4
      clear f2 f3 f4 hz hzr
      obtain ⟨z0, z1, z2, z3⟩ := cz4_ BK
      obtain ⟨y0, y1, y2, y3⟩ := fz4_ BK
      go_wp2_with fail
      refine (rules_Zone.calls k2 i1 o1 k1 _ _ l1 nm zn zr zs zh zo _ HR.out HC.out F2.out).mono ?_

      rintro e w6 ⟨v1, rfl, hv1, hb⟩
      replace BK := Aside0.mk (blk_below BK.out hb)
      replace HR := Aside0.mk (Kd.C_below HR.out hb)
      replace HB := Aside0.mk (below_step HB.out hb)
      obtain ⟨P1, q1, rfl⟩ := Kd.R_slice hv1
      have V1 := Aside0.mk (Kd.R_reads' hv1).2
      clear hb hv1 z0 z1 z2 z3 y0 y1 y2 y3
      have HX := Aside0.mk (Below.refl w6.heap.size w6)
      go_upto_region 12 with (first | ((with_reducible refine gate_dst (N := 10) rfl ?_); (try (refine gate_guard (by rfl) ?_; dsimp only)); refine box_event rf_ (N := 10) rf_ (cs := #[.string ⟨#[]⟩, .slice none 0 0, .int .i64 0, .int .i64 0]) (t := 28) lr_ ?_; intro g10 hg w7 hbox hb; have BX := Aside0.mk hbox; have GX := Aside0.mk (ge_ HX hg (hb0_ HX)); replace HX := Aside0.mk (below_step (hb0_ HX) hb); clear hb hbox hg; obtain ⟨z0, z1, z2, z3⟩ := cz4_ BX; obtain ⟨y0, y1, y2, y3⟩ := fz4_ BX))
      clear z0 z1 z2 z3 y0 y1 y2 y3
      have HX2 : Aside0 (Below w6.heap.size w6 (World.setCell (World.setCell (World.setCell (World.setCell w7 ⟨g10, 0, none⟩ (.string zn)) ⟨g10, 1, none⟩ (.slice P1 zr.length q1)) ⟨g10, 2, none⟩ (.int .i64 zs)) ⟨g10, 3, none⟩ (.int .i64 zh))) := ⟨hb1_ HX GX⟩
      have B10 : Aside0 ((World.setCell (World.setCell (World.setCell (World.setCell w7 ⟨g10, 0, none⟩ (.string zn)) ⟨g10, 1, none⟩ (.slice P1 zr.length q1)) ⟨g10, 2, none⟩ (.int .i64 zs)) ⟨g10, 3, none⟩ (.int .i64 zh)).heap[g10]? = some (.cells #[.string zn, .slice P1 zr.length q1, .int .i64 zs, .int .i64 zh] 28 (0, 0))) := ⟨bq0_ BX⟩
      generalize (World.setCell (World.setCell (World.setCell (World.setCell w7 ⟨g10, 0, none⟩ (.string zn)) ⟨g10, 1, none⟩ (.slice P1 zr.length q1)) ⟨g10, 2, none⟩ (.int .i64 zs)) ⟨g10, 3, none⟩ (.int .i64 zh)) = wA at HX2 B10 ⊢
      replace BK := Aside0.mk (blk_below BK.out HX2.out)
      replace HR := Aside0.mk (Kd.C_below HR.out HX2.out)
      replace HB := Aside0.mk (below_step HB.out HX2.out)
      replace V1 : Aside0 (zr.length ≤ q1 ∧ Kd.C k39 wA P1 zr.length zr) := ⟨V1.out.1, Kd.C_below V1.out.2 HX2.out⟩
      clear HX HX2 GX BX
      obtain ⟨z0, z1, z2, z3⟩ := cz4_ BK
      obtain ⟨y0, y1, y2, y3⟩ := fz4_ BK
      go_wp2_with fail
      refine (haberdashref10_Zone.calls k3 i1 o1 k1 (fun k_ => k_ < wA.heap.size) _ _ l1 nm zn zr zs zh zo _ (Kd.V_mk HC.out (Kd.C_F heapZ HR.out)) F3.out).mono ?_
      rintro e w8 ⟨v2, rfl, hv2, hb⟩
      replace BK := Aside0.mk (blk_below BK.out hb)
      replace HR := Aside0.mk (Kd.C_below HR.out hb)
      replace HB := Aside0.mk (below_step HB.out hb)
      replace B10 := Aside0.mk (blk_below B10.out hb)
      replace V1 : Aside0 (zr.length ≤ q1 ∧ Kd.C k39 w8 P1 zr.length zr) := ⟨V1.out.1, Kd.C_below V1.out.2 hb⟩
      obtain ⟨P2, q2, rfl⟩ := Kd.V_slice hv2
      have V2 := Aside0.mk (Kd.V_reads' hv2).2
      clear hb hv2 z0 z1 z2 z3 y0 y1 y2 y3
      have HX := Aside0.mk (Below.refl w8.heap.size w8)
      go_upto_region 13 with (first | ((with_reducible refine gate_dst (N := 12) rfl ?_); (try (refine gate_guard (by rfl) ?_; dsimp only)); refine box_event rf_ (N := 12) rf_ (cs := #[.string ⟨#[]⟩, .slice none 0 0, .int .i64 0, .int .i64 0]) (t := 28) lr_ ?_; intro g12 hg w9 hbox hb; have BX := Aside0.mk hbox; have GX := Aside0.mk (ge_ HX hg (hb0_ HX)); replace HX := Aside0.mk (below_step (hb0_ HX) hb); clear hb hbox hg; obtain ⟨z0, z1, z2, z3⟩ := cz4_ BX; obtain ⟨y0, y1, y2, y3⟩ := fz4_ BX))
      clear z0 z1 z2 z3 y0 y1 y2 y3
      have HX2 : Aside0 (Below w8.heap.size w8 (World.setCell (World.setCell (World.setCell (World.setCell w9 ⟨g12, 0, none⟩ (.string zn)) ⟨g12, 1, none⟩ (.slice P2 zr.length q2)) ⟨g12, 2, none⟩ (.int .i64 zs)) ⟨g12, 3, none⟩ (.int .i64 zh))) := ⟨hb1_ HX GX⟩
      have B12 : Aside0 ((World.setCell (World.setCell (World.setCell (World.setCell w9 ⟨g12, 0, none⟩ (.string zn)) ⟨g12, 1, none⟩ (.slice P2 zr.length q2)) ⟨g12, 2, none⟩ (.int .i64 zs)) ⟨g12, 3, none⟩ (.int .i64 zh)).heap[g12]? = some (.cells #[.string zn, .slice P2 zr.length q2, .int .i64 zs, .int .i64 zh] 28 (0, 0))) := ⟨bq0_ BX⟩
      generalize (World.setCell (World.setCell (World.setCell (World.setCell w9 ⟨g12, 0, none⟩ (.string zn)) ⟨g12, 1, none⟩ (.slice P2 zr.length q2)) ⟨g12, 2, none⟩ (.int .i64 zs)) ⟨g12, 3, none⟩ (.int .i64 zh)) = wB at HX2 B12 ⊢
      replace BK := Aside0.mk (blk_below BK.out HX2.out)
      replace HR := Aside0.mk (Kd.C_below HR.out HX2.out)
      replace HB := Aside0.mk (below_step HB.out HX2.out)
      replace B10 := Aside0.mk (blk_below B10.out HX2.out)
      replace V1 : Aside0 (zr.length ≤ q1 ∧ Kd.C k39 wB P1 zr.length zr) := ⟨V1.out.1, Kd.C_below V1.out.2 HX2.out⟩
      replace V2 : Aside0 (zr.length ≤ q2 ∧ Kd.C k39 wB P2 zr.length zr) := ⟨V2.out.1, Kd.C_below V2.out.2 HX2.out⟩
      clear HX HX2 GX BX
      go_cut [86] from 87 (fun v wx => v = .bool false ∧ Aside0 (wx.heap[g]? = some (.cells #[.bool i1, .bool o1, .int .i64 k1, .slice A1 l1.length c1] 24 (0, 0))) ∧ Aside0 (Kd.C k28 wx A1 l1.length l1) ∧ Aside0 (Below w.heap.size w wx))
      case first =>
        have hne : (zo != zo) = false := by simp
        go_wp2_with fail
        refine (haberdashlaw13_awake.calls ka true _ HKA.out).mono ?_
        rintro e w10 ⟨rfl, hb⟩
        replace BK := Aside0.mk (blk_below BK.out hb)
        replace HR := Aside0.mk (Kd.C_below HR.out hb)
        replace HB := Aside0.mk (below_step HB.out hb)
        replace B10 := Aside0.mk (blk_below B10.out hb)
        replace B12 := Aside0.mk (blk_below B12.out hb)
        replace V1 : Aside0 (zr.length ≤ q1 ∧ Kd.C k39 w10 P1 zr.length zr) := ⟨V1.out.1, Kd.C_below V1.out.2 hb⟩
        replace V2 : Aside0 (zr.length ≤ q2 ∧ Kd.C k39 w10 P2 zr.length zr) := ⟨V2.out.1, Kd.C_below V2.out.2 hb⟩
        clear hb
        obtain ⟨z0, z1, z2, z3⟩ := cz4_ B10
        obtain ⟨y0, y1, y2, y3⟩ := fz4_ B10
        obtain ⟨z4, z5, z6, z7⟩ := cz4_ B12
        obtain ⟨y4, y5, y6, y7⟩ := fz4_ B12
        go_wp2_with fail
        refine (haberdashhelp_Zone.calls k4 zn P1 q1 zr zs zh zn P2 q2 zr zs zh true _ V1.out.2 V1.out.1 V2.out.2 V2.out.1 F4.out).mono ?_
        rintro e w11 ⟨rfl, hb⟩
        replace BK := Aside0.mk (blk_below BK.out hb)
        replace HR := Aside0.mk (Kd.C_below HR.out hb)
        replace HB := Aside0.mk (below_step HB.out hb)
        clear hb z0 z1 z2 z3 y0 y1 y2 y3 z4 z5 z6 z7 y4 y5 y6 y7
        cases near with
        | true =>
          obtain rfl : zo = true := HN.out rfl
          go_wp2_with fail
          go_meet
          case rel => exact ⟨rfl, BK, HR, HB⟩
        | false =>
          go_wp2_with fail
          go_meet
          case rel => exact ⟨rfl, BK, HR, HB⟩
      case rest =>
        clear BK HR HB B10 B12 V1 V2
        obtain ⟨rfl, BK, HR, HB⟩ := hcut
        go_wp2_with fail
        go_loopw [14] (fun x wr => ∃ j : Nat, x = .int .i64 j ∧ Aside0 (j ≤ l1.length) ∧ Aside0 (wr.heap[g]? = some (.cells #[.bool i1, .bool o1, .int .i64 k1, .slice A1 l1.length c1] 24 (0, 0))) ∧ Aside0 (Kd.C k28 wr A1 l1.length l1) ∧ Aside0 (Below w.heap.size w wr)) (fun x _ => l1.length - (intOf x).toNat)
        case atStart => exact ⟨0, rfl, ⟨Nat.zero_le _⟩, BK, HR, HB⟩
        case round =>
        clear BK HB HR
        obtain ⟨j, rfl, HJ, BK, HR, HB⟩ := hrel
        obtain ⟨z0, z1, z2, z3⟩ := cz4_ BK
        obtain ⟨y0, y1, y2, y3⟩ := fz4_ BK
        by_cases hlt : j < l1.length
        · have hd : decide ((j : Int) < (l1.length : Int)) = true := decide_eq_true (by omega)
          have hdn : decide (j < l1.length) = true := decide_eq_true (by omega)
          have hj40 : (j : Int) ≤ 40 := by have := HL.out.1; omega
          obtain ⟨zj, hzj⟩ : ∃ z, rd_T28 l1 (j : Int) = z := ⟨_, rfl⟩
          obtain ⟨ad, A2, c2, rfl, x0, x1, x2, x3, hc2, hr2⟩ := at_T28 HR.out (j : Int) (by omega) (by omega)
          rw [hzj] at hc2 hr2
          rw [hzj, Int.toNat_natCast] at x0 x1 x2 x3
          have hzm : zj ∈ l1 := by
            rw [← hzj, rdZ_of l1 j hlt]
            exact List.getElem_mem hlt
          have hzl : zj.f1.length ≤ 60 := HL.out.2 zj hzm
          clear hzj hzm
          obtain ⟨kr1, hk1⟩ := (rateAt_f zj.f0 zj.f1 zj.f2 zj.f3 ct (by omega)).rounds
          obtain ⟨kr2, hk2⟩ := (rrateAt_f zj.f0 zj.f1 zj.f2 zj.f3 ct (by omega)).rounds
          obtain ⟨rv, hrv⟩ : ∃ v, rateAt zj.f1 zj.f2 ct = v := ⟨_, rfl⟩
          rw [hrv] at hk1 hk2
          have HK1 := Aside0.mk hk1
          have HK2 := Aside0.mk hk2
          have HC2 := Aside0.mk hc2
          have HR2 := Aside0.mk hr2
          have HLT := Aside0.mk hlt
          clear hk1 hk2 hc2 hr2 hrv hzl
          have p_ : (0 ≤ (j : Int)) = True := eq_true (by omega)
          have q_ : ((j : Int) < (l1.length : Int)) = True := eq_true (by omega)
          go_upto_region 18 with fail
          have hnn : (rv != rv) = false := by simp
          replace BK := Aside0.mk (blk_drew BK.out)
          replace HB := Aside0.mk (below_drew1 HB.out)
          replace HR := Aside0.mk (Kd.C_drew HR.out)
          replace HR2 := Aside0.mk (Kd.C_drew HR2.out)
          refine start_ (n := 15) (S := fun w' => w'.cell? ⟨g, 3, none⟩ = some (.slice (some ad) l1.length c1) ∧ w'.cell? (ad.add (j * 4)) = some (.string zj.f0) ∧ w'.cell? ⟨(ad.add (j * 4)).block, (ad.add (j * 4)).off + 1, none⟩ = some (.slice A2 zj.f1.length c2) ∧ w'.cell? ⟨(ad.add (j * 4)).block, (ad.add (j * 4)).off + 2, none⟩ = some (.int .i64 zj.f2) ∧ w'.cell? ⟨(ad.add (j * 4)).block, (ad.add (j * 4)).off + 3, none⟩ = some (.int .i64 zj.f3)) (ds := []) (mk 15 0) (by kernel_rfl) rfl rfl ⟨cl_ BK 3, x0, x1, x2, x3⟩ (fun hHeld => ?_)
          refine with_tabW tab18 bits18 (fun HT_ HW_ => ?_)
          clear x0 x1 x2 x3 z0 z1 z2 z3 y0 y1 y2 y3
          generalize hwd : World.drew _ = wd at BK HB HR HR2 hHeld ⊢
          clear hwd
          refine ahead_ [(0, 94), (2, 96), (5, 99), (7, 101), (9, 103), (12, 106)] ?_
          iterate 6 (refine pB_ HT_ ?_)
          refine aheadE_ (mk 15 4773) kr_ ?_
          refine take_ (i := 1) (N := some 95) (v := ?_) (a' := ?_) (mk 15 4775) rfl rfl (tw_ HT_ HW_) nh_ (Or.inl ⟨by rfl, ?_⟩) hHeld ?_ ?_
          rotate_left
          · rintro w' ⟨s0, s1, s2, s3, s4⟩
            go_simp
            with_reducible rfl
          rotate_left; (exact pu_)
          refine take_ (i := 8) (N := some 102) (v := ?_) (a' := ?_) (mk 15 5031) rfl rfl (tw_ HT_ HW_) nh_ (Or.inl ⟨by rfl, ?_⟩) hHeld ?_ ?_
          rotate_left
          · rintro w' ⟨s0, s1, s2, s3, s4⟩
            go_simp
            with_reducible rfl
          rotate_left; (exact pu_)
          refine pure_ (i := 3) (N := some 97) (v := ?_) (a' := ?_) (mk 15 5039) rfl rfl (an_ HT_) nh_ (Or.inl ⟨by rfl, ?_⟩) ?_ ?_
          rotate_left
          · intro w'
            go_simp
            with_reducible rfl
          rotate_left; (exact pu_)
          refine pure_ (i := 10) (N := some 104) (v := ?_) (a' := ?_) (mk 15 6063) rfl rfl (an_ HT_) nh_ (Or.inl ⟨by rfl, ?_⟩) ?_ ?_
          rotate_left
          · intro w'
            go_simp
            with_reducible rfl
          rotate_left; (exact pu_)
          refine take_ (i := 4) (N := some 98) (v := ?_) (a' := ?_) (mk 15 6079) rfl rfl (tw_ HT_ HW_) nh_ (Or.inl ⟨by rfl, ?_⟩) hHeld ?_ ?_
          rotate_left
          · rintro w' ⟨s0, s1, s2, s3, s4⟩
            go_simp
            with_reducible rfl
          rotate_left; (exact pu_)
          refine take_ (i := 11) (N := some 105) (v := ?_) (a' := ?_) (mk 15 8127) rfl rfl (tw_ HT_ HW_) nh_ (Or.inl ⟨by rfl, ?_⟩) hHeld ?_ ?_
          rotate_left
          · rintro w' ⟨s0, s1, s2, s3, s4⟩
            go_simp
            with_reducible rfl
          rotate_left; (exact pu_)
          refine one_ (i := 6) (N := some 100) (mk 15 8191) rfl rfl (on_ HT_) de_ (fun K hK => ?_)
          refine goes_ Try.func12 (by kernel_rfl) rfl #[.agg #[.string zj.f0, .slice A2 zj.f1.length c2, .int .i64 zj.f2, .int .i64 zj.f3], .string ct] (by rfl) rfl rfl am_ ?_
          refine (rules_Rate.calls kr1 zj.f0 A2 c2 zj.f1 zj.f2 zj.f3 ct rv _ HR2.out HC2.out HK1.out).mono ?_
          rintro e w20 ⟨rfl, hb⟩
          refine ⟨_, rfl, ?_⟩
          have hB := Aside0.mk hb
          replace BK := Aside0.mk (blk_below BK.out hb)
          replace HR := Aside0.mk (Kd.C_below HR.out hb)
          replace HR2 := Aside0.mk (Kd.C_below HR2.out hb)
          replace HB := Aside0.mk (below_step HB.out hb)
          refine hK.out _ _ ⟨hd_ hB hHeld.1, hd_ hB hHeld.2.1, hd_ hB hHeld.2.2.1, hd_ hB hHeld.2.2.2.1, hd_ hB hHeld.2.2.2.2⟩ (fun hHeld => ?_)
          clear hK K hb hB
          refine norm_ pv_ ?_
          refine one_ (i := 13) (N := some 107) (mk 15 16383) rfl rfl (on_ HT_) de_ (fun K hK => ?_)
          refine goes_ Try.func13 (by kernel_rfl) rfl #[.agg #[.string zj.f0, .slice A2 zj.f1.length c2, .int .i64 zj.f2, .int .i64 zj.f3], .string ct] (by rfl) rfl rfl am_ ?_
          refine (haberdashref10_Rate.calls kr2 zj.f0 A2 c2 zj.f1 zj.f2 zj.f3 ct rv _ HR2.out HC2.out HK2.out).mono ?_
          rintro e w21 ⟨rfl, hb⟩
          refine ⟨_, rfl, ?_⟩
          have hB := Aside0.mk hb
          replace BK := Aside0.mk (blk_below BK.out hb)
          replace HR := Aside0.mk (Kd.C_below HR.out hb)
          replace HB := Aside0.mk (below_step HB.out hb)
          refine hK.out _ _ ⟨hd_ hB hHeld.1, hd_ hB hHeld.2.1, hd_ hB hHeld.2.2.1, hd_ hB hHeld.2.2.2.1, hd_ hB hHeld.2.2.2.2⟩ (fun hHeld => ?_)
          clear hK K hb hB
          refine norm_ pv_ ?_
          refine ahead_ [(14, 108)] ?_
          refine pB_ HT_ ?_
          refine aheadE_ (mk 15 32767) kr_ ?_
          refine done_ (done_of HT_.out (by kernel_rfl)) ?_
          clear HT_ HW_ hHeld
          have hw : wrap64 ((j : Int) + 1) = ((j + 1 : Nat) : Int) := next j (by omega)
          go_wp2_with fail
          try rw [hw]
          go_roundw
          case rel => exact ⟨j + 1, rfl, ⟨by have := HLT.out; omega⟩, BK, HR, HB⟩
          case measure => have := HLT.out; simp [intOf]; omega
        · have hd : decide ((j : Int) < (l1.length : Int)) = false := decide_eq_false (by omega)
          have hdn : decide (j < l1.length) = false := decide_eq_false (by omega)
          go_wp2
          go_ret
          exact ⟨rfl, HB.out⟩
def f (n : Nat) (i o : Bool) (k : Int) (l : List Zn) (near : Bool) (name cat : ByteArray) : Option Bool := some true
theorem calls (n : Nat) (i o : Bool) (k : Int) (A0 : Option Addr) (c0 : Nat) (l : List Zn) (near : Bool) (name cat : ByteArray) (y : Bool) (w : World)
    (h0 : Kd.C k28 w A0 l.length l) (hc0 : l.length ≤ c0) (h : f n i o k l near name cat = some y) :
    Calls Try.prog 3 #[.agg #[.bool i, .bool o, .int .i64 k, .slice A0 l.length c0], .bool near, .string name, .string cat] w fun e w' => e = .returned (.bool y) ∧ Below w.heap.size w w' := by
  obtain rfl : y = true := by injection h with h; exact h.symm
  exact zones' i o k near name cat h0 hc0
theorem Pure (x0 : S24) (x1 : Bool) (x2 x3 : ByteArray) : ∃ k, f k x0.f0 x0.f1 x0.f2 x0.f3 x1 x2 x3 = some true := ⟨0, rfl⟩
end Go.Proofs.Ytgfhjamaabaleaa.LRZ
