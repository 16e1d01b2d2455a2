/- The statement LevyRaw: any tax, zone, categories and amounts, or why not; nothing is turned. -/
import Derived.Test.YtmiamdnhofjifaaProg
import Derived.Below
import Derived.Deep.Draws
import Derived.Deep.AppendLies
import Derived.Maps.AppendAt
import Derived.OwnWalk
import Derived.Laws.BytesArg
import Derived.Laws.MakeOwn
import Derived.Laws.OwnMore
import Derived.Deep.OwnRows
import Derived.Tactics
import Derived.Lib.ConvBytes
import Derived.Laws.Slices
import Derived.WalkKit
import Derived.KernelRfl
import Derived.RowKit3
import Derived.Deep.LoopGhost
import Derived.Deep.QuietTactic
import Derived.BigQuiet
import Derived.WideLaws
import Derived.Deep.DeepCutAuto
import Derived.Deep.CutBlock
import Derived.Deep.RegionHeld3
import Derived.Laws.Rows
import Derived.Lib.AppendStr
import Derived.ArgAppend
import Derived.Laws.IdiomCopy
import Derived.OrdersHeld
import Derived.Laws.BitsLemmas
import Derived.RowKit
import Derived.BigRegion
import Derived.Outline
import Derived.RegionTactic
import Derived.StillTailTactics
import Derived.Deep.RegionLaw
import Derived.Test.YtmiamdnhofjifaaVSameInt
import Derived.Test.YtmiamdnhofjifaaVKx
import Derived.Test.YtmiamdnhofjifaaVRwL19b
import Derived.Test.YtmiamdnhofjifaaVRwPTax
import Derived.Test.YtmiamdnhofjifaaVRwRef15l
import Derived.Test.YtmiamdnhofjifaaVL19P
import Derived.Test.YtmiamdnhofjifaaVLevyR2
set_option linter.unusedVariables false
set_option linter.unusedSimpArgs false
namespace Go.Proofs.Ytmiamdnhofjifaa.LLR
open Go Go.RowKit Go.Proofs.YtmiamdnhofjifaaW.PrintWords Go.Proofs.YtmiamdnhofjifaaW.PrintLast Go.Proofs.YtmiamdnhofjifaaW.PrintMore Go.Proofs.Ytmiamdnhofjifaa.Rw Go.Proofs.Ytmiamdnhofjifaa.EP Go.Proofs.Ytmiamdnhofjifaa.XP Go.Proofs.Ytmiamdnhofjifaa.YP Go.Proofs.Ytmiamdnhofjifaa.PX Go.Proofs.Ytmiamdnhofjifaa.L19 Go.Proofs.Ytmiamdnhofjifaa.HP
open Go.Proofs.Ytmiamdnhofjifaa.MP (md md_range mod_f mod64_f)
theorem few_near (l : List Zn) : few (zns l) := by
  have hz := zns_ok 0 l
  have h := taxOk_zone hz
  refine ⟨by omega, fun z hz => ?_⟩
  have h2 := h.2.2 z hz
  have h3 := zoneOk_len h2
  unfold zoneOk at h2
  simp only [Bool.and_eq_true] at h2
  refine ⟨?_, by omega, fun c hc => ?_⟩
  · have := h2.1
    unfold nameOk at this
    simp only [Bool.and_eq_true, decide_eq_true_eq] at this
    omega
  · have := (ratesOk_mem h2.2.2.2.2 c hc).1
    unfold nameOk at this
    simp only [Bool.and_eq_true, decide_eq_true_eq] at this
    omega
set_option maxRecDepth 100000 in
set_option maxHeartbeats 8000000 in
theorem levyRaw' (i o : Bool) (k : Int) {A0 : Option Addr} {c0 : Nat} {l : List Zn} (zone : ByteArray) (ex : Bool) {A3 : Option Addr} {c3 : Nat} {cats : List ByteArray} {A4 : Option Addr} {c4 : Nat} {nets : List Int} (ship how : Int) {w : World} (hfew : few l)
    (h0 : Kd.C k51 w A0 l.length l) (hc0 : l.length ≤ c0) (h3 : Kd.C Kd.string w A3 cats.length cats) (hc3 : cats.length ≤ c3) (h4 : Kd.C (Kd.int .i64) w A4 nets.length nets) (hc4 : nets.length ≤ c4) :
    Calls Try.prog 3 #[.agg #[.bool i, .bool o, .int .i64 k, .slice A0 l.length c0], .string zone, .bool ex, .slice A3 cats.length c3, .slice A4 nets.length c4, .int .i64 ship, .int .i64 how] w fun e w' => e = .returned (.bool true) ∧ Below w.heap.size w w' := by
  obtain ⟨ka, hka⟩ := awake_ev.rounds
  have HKA := Aside0.mk hka
  clear hka
  obtain ⟨kf, hkf⟩ := (few_f i o k l cats nets hfew.1).rounds
  have HKF := Aside0.mk hkf
  have HFEW := Aside0.mk hfew
  clear hkf hfew
  have HR0 := Aside0.mk h0
  have HC0 := Aside0.mk hc0
  have HR3 := Aside0.mk h3
  have HC3 := Aside0.mk hc3
  have HR4 := Aside0.mk h4
  have HC4 := Aside0.mk hc4
  have HB := Aside0.mk (Below.refl w.heap.size w)
  clear h0 hc0 h3 hc3 h4 hc4
  obtain ⟨fb, hfb⟩ : ∃ b, fewOk l cats nets = b := ⟨_, rfl⟩
  have HFB := Aside0.mk hfb
  rw [hfb] at HKF
  clear hfb
  obtain ⟨zb, hzb⟩ : ∃ b, decide ((zone.size : Int) > 60) = b := ⟨_, rfl⟩
  have HZB := Aside0.mk hzb
  have HLC : Aside0 (fb = true → cats.length ≤ 60) := ⟨fun h => by rw [← HFB.out] at h; exact (fewOk_iff h).2.2.2⟩
  have HLN : Aside0 (fb = true → nets.length ≤ 60) := ⟨fun h => by rw [← HFB.out] at h; exact (fewOk_iff h).2.2.1⟩
  go_enter Try.func3, Try.ntmps3
  go_upto_region 1 with (first | ((with_reducible refine gate_dst (N := 7) rfl ?_); (try (refine gate_guard (by rfl) ?_; dsimp only)); refine box_event rf_ (N := 7) rf_ (cs := #[.bool i, .bool o, .int .i64 k, .slice A0 l.length c0]) (t := 24) lr_ ?_; intro g hg w1 hbox hb; have BK := Aside0.mk hbox; have GE := Aside0.mk (ge_ HB hg (hb0_ HB)); replace HB := Aside0.mk (below_step (hb0_ HB) hb); clear hb hbox hg))
  (try simp only [Act.put, List.setIfInBounds_toArray, List.set_cons_zero, List.set_cons_succ])
  obtain ⟨z0, z1, z2, z3⟩ := cz4_ BK
  obtain ⟨y0, y1, y2, y3⟩ := fz4_ BK
  cases fb with
  | false =>
    go_wp2_with (refine gl_ 5 27 Try.func5 #[.agg #[.bool i, .bool o, .int .i64 k, .slice A0 l.length c0], .slice A3 cats.length c3, .slice A4 nets.length c4] ?_; (refine (haberdashlaw19_few.calls kf i o k _ _ l _ _ cats _ _ nets false _ (Kd.C_below HR0.out HB.out) HC0.out (Kd.C_below HR3.out HB.out) HC3.out (Kd.C_below HR4.out HB.out) HC4.out HKF.out).mono ?_); rintro e w2 ⟨rfl, hb⟩; refine ⟨_, rfl, ?_⟩; replace BK := Aside0.mk (bb_ BK hb); replace HB := Aside0.mk (below_step (hb1_ HB GE) hb); clear hb)
    refine (haberdashlaw19_awake.calls ka true _ HKA.out).mono ?_; rintro e w3 ⟨rfl, hb⟩; replace HB := Aside0.mk (below_step (hb1_ HB GE) hb); clear hb
    go_wp2
    go_ret
    exact ⟨rfl, HB.out⟩
  | true =>
    cases zb with
    | true =>
      have hz := HZB.out
      go_wp2_with (refine gl_ 5 27 Try.func5 #[.agg #[.bool i, .bool o, .int .i64 k, .slice A0 l.length c0], .slice A3 cats.length c3, .slice A4 nets.length c4] ?_; (refine (haberdashlaw19_few.calls kf i o k _ _ l _ _ cats _ _ nets true _ (Kd.C_below HR0.out HB.out) HC0.out (Kd.C_below HR3.out HB.out) HC3.out (Kd.C_below HR4.out HB.out) HC4.out HKF.out).mono ?_); rintro e w2 ⟨rfl, hb⟩; refine ⟨_, rfl, ?_⟩; replace BK := Aside0.mk (bb_ BK hb); replace HB := Aside0.mk (below_step (hb1_ HB GE) hb); clear hb)
      refine (haberdashlaw19_awake.calls ka true _ HKA.out).mono ?_; rintro e w3 ⟨rfl, hb⟩; replace HB := Aside0.mk (below_step (hb1_ HB GE) hb); clear hb
      go_wp2
      go_ret
      exact ⟨rfl, HB.out⟩
    | false =>
      have hz := HZB.out
      go_upto_if 37 with (refine gl_ 5 27 Try.func5 #[.agg #[.bool i, .bool o, .int .i64 k, .slice A0 l.length c0], .slice A3 cats.length c3, .slice A4 nets.length c4] ?_; (refine (haberdashlaw19_few.calls kf i o k _ _ l _ _ cats _ _ nets true _ (Kd.C_below HR0.out HB.out) HC0.out (Kd.C_below HR3.out HB.out) HC3.out (Kd.C_below HR4.out HB.out) HC4.out HKF.out).mono ?_); rintro e w2 ⟨rfl, hb⟩; refine ⟨_, rfl, ?_⟩; replace BK := Aside0.mk (bb_ BK hb); replace HB := Aside0.mk (below_step (hb1_ HB GE) hb); clear hb)
      clear hz z0 z1 z2 z3 y0 y1 y2 y3
      obtain ⟨b1, hb1⟩ : ∃ b, (bits BinOp.and IntKind.i64 how 1 == 1) = b := ⟨_, rfl⟩
      rw [hb1]
      clear hb1
      go_cut [] from 38 (fun wc => ∃ (i' o' : Bool) (k' : Int) (l' : List Zn) (A' : Option Addr) (c' : Nat), Aside0 (wc.heap[g]? = some (.cells #[.bool i', .bool o', .int .i64 k', .slice A' l'.length c'] 24 (0, 0))) ∧ Aside0 (Kd.C k51 wc A' l'.length l') ∧ Aside0 (l'.length ≤ c') ∧ Aside0 (few l') ∧ Aside0 (Below w.heap.size w wc))
      case first =>
        cases b1 with
        | false =>
          go_wp2
          go_meet
          case rel => exact ⟨i, o, k, l, A0, c0, BK, ⟨Kd.C_below HR0.out HB.out⟩, HC0, HFEW, HB⟩
        | true =>
          obtain ⟨kt, hkt⟩ := (ptax_f i o k l (by have := HFEW.out.1; omega) (fun z hz => by have := (HFEW.out.2 z hz).2.1; omega)).rounds
          have HKT := Aside0.mk hkt
          clear hkt
          obtain ⟨z0, z1, z2, z3⟩ := cz4_ BK
          obtain ⟨y0, y1, y2, y3⟩ := fz4_ BK
          go_wp2_with (refine gl_ 7 39 Try.func7 #[.agg #[.bool i, .bool o, .int .i64 k, .slice A0 l.length c0]] ?_; (with_reducible refine (haberdashplay_Tax.calls kt i o k _ _ l i o (md k 3) (zns l) _ (Kd.C_below HR0.out HB.out) HC0.out HKT.out).mono ?_); rintro e w3 ⟨v3, rfl, ho0, hb⟩; refine ⟨_, rfl, ?_⟩; obtain ⟨A5, c5, rfl⟩ := Kd.S_slice ho0; have HO := Aside0.mk (Kd.S_lower ho0 (below_size (hb1_ HB GE))); replace BK := Aside0.mk (bb_ BK hb); replace HB := Aside0.mk (below_step (hb1_ HB GE) hb); clear hb ho0; obtain ⟨z0, z1, z2, z3⟩ := cz4_ BK; obtain ⟨y0, y1, y2, y3⟩ := fz4_ BK)
          have HO2 := Aside0.mk (Kd.S_mono (Kd.S_far (p := ⟨g, 3, none⟩) (Kd.S_far (p := ⟨g, 2, none⟩) (Kd.S_far (p := ⟨g, 1, none⟩) (Kd.S_far (p := ⟨g, 0, none⟩) (Kd.S_types HO.out BK.out (by decide)) (fun _ hk => hk.2) (.bool i)) (fun _ hk => hk.2) (.bool o)) (fun _ hk => hk.2) (.int .i64 (md k 3))) (fun _ hk => hk.2) (.slice A5 (zns l).length c5)) (fun _ h_ => h_.1))
          go_meet
          case rel => exact ⟨i, o, md k 3, zns l, A5, c5, ⟨bq0_ BK⟩, ⟨(Kd.S_reads' HO2.out).2.2⟩, ⟨(Kd.S_reads' HO2.out).2.1⟩, ⟨few_near l⟩, ⟨hb1_ HB GE⟩⟩
      case rest =>
        obtain ⟨i1, o1, k1, l1, A1, c1, BK1, HR1, HC1, HF1, HB1⟩ := hcut
        clear BK HB HR0 HC0 HFEW
        go_upto_if 42 with fail
        obtain ⟨b2, hb2⟩ : ∃ b, (bits BinOp.and IntKind.i64 how 2 == 2) = b := ⟨_, rfl⟩
        rw [hb2]
        clear hb2
        go_cut [1] from 43 (fun v1 wd => ∃ z : ByteArray, v1 = .string z ∧ Aside0 (wd.heap[g]? = some (.cells #[.bool i1, .bool o1, .int .i64 k1, .slice A1 l1.length c1] 24 (0, 0))) ∧ Aside0 (Kd.C k51 wd A1 l1.length l1) ∧ Aside0 (Below w.heap.size w wd))
        case first =>
          cases b2 with
          | false =>
            go_wp2
            go_meet
            case rel => exact ⟨zone, rfl, BK1, HR1, HB1⟩
          | true =>
            go_wp2_with (refine gl_ 8 45 Try.func8 #[.int .i64 (zone.size : Int)] ?_; (with_reducible refine (haberdashplay_Zone.calls (zone.size : Int) _ _ (PX.zone_f _)).mono ?_); rintro e w4 ⟨rfl, hb⟩; refine ⟨_, rfl, ?_⟩; replace BK1 := Aside0.mk (bb_ BK1 hb); replace HR1 := Aside0.mk (Kd.C_below HR1.out hb); replace HB1 := Aside0.mk (below_step (hb1_ HB1 GE) hb); clear hb)
            go_meet
            case rel => exact ⟨_, rfl, BK1, HR1, HB1⟩
        case rest =>
          clear BK1 HR1 HB1
          obtain ⟨z, rfl, BK, HR, HB⟩ := hcut
          -- what both come to
          obtain ⟨⟨lg, lx, ls, lt, le⟩, hlv⟩ : ∃ p, p = levyS i1 o1 k1 l1 z ex cats nets ship := ⟨_, rfl⟩
          have hlen := levyS_len i1 o1 k1 l1 z ex cats nets ship
          rw [← hlv] at hlen
          obtain ⟨k2, f2⟩ := (levy_f i1 o1 k1 l1 z ex cats nets ship).rounds
          obtain ⟨k3, f3⟩ := (YR.rlevy_f i1 o1 k1 l1 z ex cats nets ship HF1.out).rounds
          rw [← hlv] at f2 f3
          obtain ⟨k4, f4⟩ := (same5_f (lg, lx, ls, lt, le) (by have := hlen.1; simp only at this; omega) (by have := hlen.2; simp only at this; omega)).rounds
          have F2 := Aside0.mk f2
          have F3 := Aside0.mk f3
          have F4 := Aside0.mk f4
          clear f2 f3 f4 hlv hlen
          have lc : cats.length ≤ 60 := HLC.out rfl
          have ln : nets.length ≤ 60 := HLN.out rfl
          have BS : ∀ x : Int, (x == x) = true := fun x => by simp
          go_wp2_with fail
          refine (own_string ⟨#[115, 112, 111, 105, 108, 116]⟩ (Kd.C_below HR3.out HB.out) (by omega)).mono ?_
          rintro e w5 ⟨r1, rfl, hr1, ho, hb⟩
          have HB0 := HB; replace BK := Aside0.mk (bb_ BK hb); replace HR := Aside0.mk (Kd.C_below HR.out hb); replace HB := Aside0.mk (below_step (hb1_ HB GE) hb)
          have O1 := Aside0.mk ho
          have GR1 := Aside0.mk (Nat.le_trans (below_size HB0.out) hr1)
          clear ho hb hr1 HB0
          go_wp2_with fail
          refine (own_int64 71 (Kd.C_below HR4.out HB.out) (by omega)).mono ?_
          rintro e w6 ⟨r2, rfl, hr2, ho, hb⟩
          have HB0 := HB; replace BK := Aside0.mk (bb_ BK hb); replace HR := Aside0.mk (Kd.C_below HR.out hb); replace HB := Aside0.mk (below_step (hb1_ HB GE) hb)
          replace O1 := Aside0.mk (blk_below O1.out hb)
          have O2 := Aside0.mk ho
          clear ho hb hr2 HB0
          obtain ⟨z0, z1, z2, z3⟩ := cz4_ BK
          obtain ⟨y0, y1, y2, y3⟩ := fz4_ BK
          go_wp2_with fail
          refine (levy_Levy.calls k2 i1 o1 k1 _ _ l1 z ex _ _ cats _ _ nets ship lg lx ls lt le _ HR.out HC1.out (reads_string O1.out (by omega)) (by omega) (reads_int64 O2.out (by omega)) (by omega) F2.out).mono ?_
          rintro e w7 ⟨v1, v2, rfl, hv1, hv2, hb⟩
          have HB0 := HB; replace BK := Aside0.mk (bb_ BK hb); replace HR := Aside0.mk (Kd.C_below HR.out hb); replace HB := Aside0.mk (below_step (hb1_ HB GE) hb)
          replace O1 := Aside0.mk (blk_below O1.out hb)
          replace O2 := Aside0.mk (blk_below O2.out hb)
          obtain ⟨P1, q1, rfl⟩ := Kd.R_slice hv1
          obtain ⟨P2, q2, rfl⟩ := Kd.R_slice hv2
          have V1 := Aside0.mk hv1
          have V2 := Aside0.mk hv2
          clear hv1 hv2 hb HB0 z0 z1 z2 z3 y0 y1 y2 y3
          obtain ⟨z0, z1, z2, z3⟩ := cz4_ BK
          obtain ⟨y0, y1, y2, y3⟩ := fz4_ BK
          go_wp2_with fail
          refine (haberdashref15_Levy.calls k3 i1 o1 k1 _ _ l1 z ex _ _ cats _ _ nets ship lg lx ls lt le _ HR.out HC1.out (Kd.C_below HR3.out HB.out) HC3.out (Kd.C_below HR4.out HB.out) HC4.out F3.out).mono ?_
          rintro e w8 ⟨v3, v4, rfl, hv3, hv4, hb⟩
          have HB0 := HB; replace BK := Aside0.mk (bb_ BK hb); replace HR := Aside0.mk (Kd.C_below HR.out hb); replace HB := Aside0.mk (below_step (hb1_ HB GE) hb)
          replace O1 := Aside0.mk (blk_below O1.out hb)
          replace O2 := Aside0.mk (blk_below O2.out hb)
          replace V1 := Aside0.mk (Kd.R_below V1.out hb)
          replace V2 := Aside0.mk (Kd.R_below V2.out hb)
          obtain ⟨P3, q3, rfl⟩ := Kd.R_slice hv3
          obtain ⟨P4, q4, rfl⟩ := Kd.R_slice hv4
          have V3 := Aside0.mk hv3
          have V4 := Aside0.mk hv4
          clear hv3 hv4 hb HB0 z0 z1 z2 z3 y0 y1 y2 y3
          have HX := Aside0.mk (Below.refl w8.heap.size w8)
          go_upto_region 10 with (first | ((with_reducible refine gate_dst (N := 22) rfl ?_); (try (refine gate_guard (by rfl) ?_; dsimp only)); refine box_event rf_ (N := 22) rf_ (cs := #[.slice none 0 0, .slice none 0 0, .int .i64 0, .int .i64 0]) (t := 37) lr_ ?_; intro g2 hg w9 hbox hb; have BX := Aside0.mk hbox; have GX := Aside0.mk (ge_ HX hg (hb0_ HX)); replace HX := Aside0.mk (below_step (hb0_ HX) hb); clear hb hbox hg; obtain ⟨z0, z1, z2, z3⟩ := cz4_ BX; obtain ⟨y0, y1, y2, y3⟩ := fz4_ BX))
          clear z0 z1 z2 z3 y0 y1 y2 y3
          go_wp2_with fail
          refine (haberdashlaw19_awake.calls ka true _ HKA.out).mono ?_
          rintro e w10 ⟨rfl, hb⟩
          have B2 := Aside0.mk (blk_below (g := g2) (o := .cells #[.slice P3 lg.length q3, .slice P4 lx.length q4, .int .i64 ls, .int .i64 lt] 37 (0, 0)) (bq0_ BX) hb)
          have HY := Aside0.mk (below_step (hb1_ HX GX) hb)
          clear hb HX GX BX BK HR
          replace HB := Aside0.mk (below_step HB.out HY.out)
          replace O1 := Aside0.mk (blk_below O1.out HY.out)
          replace O2 := Aside0.mk (blk_below O2.out HY.out)
          replace V1 := Aside0.mk (Kd.R_below V1.out HY.out)
          replace V2 := Aside0.mk (Kd.R_below V2.out HY.out)
          replace V3 := Aside0.mk (Kd.R_below V3.out HY.out)
          replace V4 := Aside0.mk (Kd.R_below V4.out HY.out)
          clear HY
          obtain ⟨z0, z1, z2, z3⟩ := cz4_ B2
          obtain ⟨y0, y1, y2, y3⟩ := fz4_ B2
          go_wp2_with fail
          refine (haberdashlaw19_same5.calls k4 P3 q3 lg P4 q4 lx ls lt le P1 q1 lg P2 q2 lx ls lt le true _ (Kd.R_reads' V3.out).2.2 (Kd.R_reads' V3.out).2.1 (Kd.R_reads' V4.out).2.2 (Kd.R_reads' V4.out).2.1 (Kd.R_reads' V1.out).2.2 (Kd.R_reads' V1.out).2.1 (Kd.R_reads' V2.out).2.2 (Kd.R_reads' V2.out).2.1 F4.out).mono ?_
          rintro e w11 ⟨rfl, hb⟩
          have HB0 := HB
          replace HB := Aside0.mk (below_step HB.out hb)
          replace O1 := Aside0.mk (blk_below O1.out hb)
          replace O2 := Aside0.mk (blk_below O2.out hb)
          clear hb HB0 z0 z1 z2 z3 y0 y1 y2 y3
          go_wp2_with fail
          refine (kept_string (Kd.C_below HR3.out HB.out) (by omega) O1.out).mono ?_
          rintro e w12 ⟨rfl, n1, rfl⟩
          have hb : Below w11.heap.size w11 (w11.drewN n1) := ⟨rfl, rfl, rfl, Nat.le_refl _, fun _ _ => rfl⟩
          replace HB := Aside0.mk (below_step HB.out hb)
          replace O2 := Aside0.mk (blk_below O2.out hb)
          clear hb O1
          generalize w11.drewN n1 = w12 at HB O2 ⊢
          go_wp2_with fail
          refine (kept_int64 (Kd.C_below HR4.out HB.out) (by omega) O2.out).mono ?_
          rintro e w13 ⟨rfl, n2, rfl⟩
          have hb : Below w12.heap.size w12 (w12.drewN n2) := ⟨rfl, rfl, rfl, Nat.le_refl _, fun _ _ => rfl⟩
          replace HB := Aside0.mk (below_step HB.out hb)
          go_wp2
          go_ret
          exact ⟨rfl, HB.out⟩
def fewB (l : List Zn) : Bool := decide (l.length ≤ 9223372036854775807) && l.all (fun z => decide (z.f0.size ≤ 9223372036854775807) && (decide (z.f1.length ≤ 9223372036854775807) && z.f1.all (fun c => decide (c.f0.size ≤ 9223372036854775807))))
theorem fewB_iff (l : List Zn) : fewB l = true ↔ few l := by
  unfold fewB few
  simp only [Bool.and_eq_true, List.all_eq_true, decide_eq_true_eq]
def f (n : Nat) (i o : Bool) (k : Int) (l : List Zn) (zone : ByteArray) (ex : Bool) (cats : List ByteArray) (nets : List Int) (ship how : Int) : Option Bool := if fewB l = true then some true else none
theorem calls (n : Nat) (i o : Bool) (k : Int) (A0 : Option Addr) (c0 : Nat) (l : List Zn) (zone : ByteArray) (ex : Bool) (A3 : Option Addr) (c3 : Nat) (cats : List ByteArray) (A4 : Option Addr) (c4 : Nat) (nets : List Int) (ship how : Int) (y : Bool) (w : World)
    (h0 : Kd.C k51 w A0 l.length l) (hc0 : l.length ≤ c0) (h3 : Kd.C Kd.string w A3 cats.length cats) (hc3 : cats.length ≤ c3) (h4 : Kd.C (Kd.int .i64) w A4 nets.length nets) (hc4 : nets.length ≤ c4) (h : f n i o k l zone ex cats nets ship how = some y) :
    Calls Try.prog 3 #[.agg #[.bool i, .bool o, .int .i64 k, .slice A0 l.length c0], .string zone, .bool ex, .slice A3 cats.length c3, .slice A4 nets.length c4, .int .i64 ship, .int .i64 how] w fun e w' => e = .returned (.bool y) ∧ Below w.heap.size w w' := by
  by_cases hf : fewB l = true
  · unfold f at h
    rw [if_pos hf] at h
    obtain rfl : y = true := by injection h with h; exact h.symm
    exact levyRaw' i o k zone ex ship how ((fewB_iff l).1 hf) h0 hc0 h3 hc3 h4 hc4
  · unfold f at h
    rw [if_neg hf] at h
    exact absurd h (by simp)
theorem Pure (x0 : S24) (x1 : ByteArray) (x2 : Bool) (x3 : List ByteArray) (x4 : List Int) (x5 x6 : Int) (g0 : True ∧ (True ∧ ((Lit.int .i64 x0.f2).wf = true ∧ (x0.f3.length ≤ 9223372036854775807 ∧ ∀ y0 ∈ x0.f3, (y0.f0.size ≤ 9223372036854775807 ∧ ((y0.f1.length ≤ 9223372036854775807 ∧ ∀ y1 ∈ y0.f1, (y1.f0.size ≤ 9223372036854775807 ∧ ((Lit.int .i64 y1.f1).wf = true))) ∧ ((Lit.int .i64 y0.f2).wf = true ∧ ((Lit.int .i64 y0.f3).wf = true)))))))) : ∃ k, f k x0.f0 x0.f1 x0.f2 x0.f3 x1 x2 x3 x4 x5 x6 = some true := by
  have hf : few x0.f3 := ⟨g0.2.2.2.1, fun z hz => by
    have h := g0.2.2.2.2 z hz
    exact ⟨h.1, h.2.1.1, fun c hc => (h.2.1.2 c hc).1⟩⟩
  exact ⟨0, by unfold f; rw [if_pos ((fewB_iff _).2 hf)]⟩
end Go.Proofs.Ytmiamdnhofjifaa.LLR
