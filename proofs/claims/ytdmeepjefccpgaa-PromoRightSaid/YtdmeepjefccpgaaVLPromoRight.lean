/- The statement PromoRight: whether any promo, or one near to it, may be. -/
import Derived.Test.YtdmeepjefccpgaaProg
import Derived.Below
import Derived.Deep.Draws
import Derived.Deep.AppendLies
import Derived.Maps.AppendAt
import Derived.OwnWalk
import Derived.Laws.BytesArg
import Derived.Laws.MakeOwn
import Derived.Laws.OwnMore
import Derived.Deep.OwnRows
import Derived.Tactics
import Derived.Lib.ConvBytes
import Derived.Laws.Slices
import Derived.WalkKit
import Derived.KernelRfl
import Derived.RowKit3
import Derived.Deep.LoopGhost
import Derived.Deep.QuietTactic
import Derived.BigQuiet
import Derived.WideLaws
import Derived.Deep.DeepCutAuto
import Derived.Deep.CutBlock
import Derived.Deep.RegionHeld3
import Derived.Laws.Rows
import Derived.Lib.AppendStr
import Derived.ArgAppend
import Derived.Laws.IdiomCopy
import Derived.OrdersHeld
import Derived.Laws.BitsLemmas
import Derived.RowKit
import Derived.BigRegion
import Derived.Outline
import Derived.RegionTactic
import Derived.StillTailTactics
import Derived.Deep.RegionLaw
import Derived.Test.YtdmeepjefccpgaaVHAwake12
import Derived.Test.YtdmeepjefccpgaaVRwRef10P
import Derived.Test.YtdmeepjefccpgaaVRwL12f
import Derived.Test.YtdmeepjefccpgaaVFitP
import Derived.Test.YtdmeepjefccpgaaVRwPlP
import Derived.Test.YtdmeepjefccpgaaVPlayP2
set_option linter.unusedVariables false
set_option linter.unusedSimpArgs false
namespace Go.Proofs.Ytdmeepjefccpgaa.LPR
open Go Go.RowKit Go.Proofs.YtdmeepjefccpgaaW.PrintWords Go.Proofs.YtdmeepjefccpgaaW.PrintLast Go.Proofs.YtdmeepjefccpgaaW.PrintMore Go.Proofs.Ytdmeepjefccpgaa.Rw Go.Proofs.Ytdmeepjefccpgaa.EP Go.Proofs.Ytdmeepjefccpgaa.RU Go.Proofs.Ytdmeepjefccpgaa.PP
open Go.Proofs.Ytdmeepjefccpgaa.HA12 (awake_calls)
theorem few_x (x : Pm) (hl : x.f12.length ≤ 9223372036854775807) : Ex (fun k => haberdashlaw12_few.f k x.f0 x.f1 x.f2 x.f3 x.f4 x.f5 x.f6.f0 x.f6.f1 x.f7 x.f8 x.f9 x.f10 x.f11 x.f12 x.f13) (fun _ => True) := by
  unfold haberdashlaw12_few.f
  have key : ∀ (d i : Nat), i + d = x.f12.length → Ex (fun k => haberdashlaw12_few.l0 k (i : Int) x.f0 x.f1 x.f2 x.f3 x.f4 x.f5 x.f6.f0 x.f6.f1 x.f7 x.f8 x.f9 x.f10 x.f11 x.f12 x.f13) (fun _ => True) := by
    intro d
    induction d with
    | zero =>
      intro i hi
      have hF : ∃ b, (if (x.f12.length : Int) ≤ 20 then (if (x.f13.length : Int) ≤ 20 then (if (x.f6.f0.length : Int) ≤ 40 then (some (decide ((x.f6.f1.length : Int) ≤ 40))) else (some false)) else (some false)) else (some false)) = some b := by
        repeat' split
        all_goals exact ⟨_, rfl⟩
      obtain ⟨b, hb⟩ := hF
      exact Ex.step (fun k => by rw [haberdashlaw12_few.l0, if_neg (by omega), hb]) (Ex.now trivial)
    | succ d ih =>
      intro i hi
      by_cases h : ((rd_T65 x.f12 (i : Int)).f0.f0.length : Int) > 40
      · exact Ex.step (fun k => by rw [haberdashlaw12_few.l0, if_pos (by omega), if_pos (by omega), if_pos h]) (Ex.now trivial)
      by_cases h2 : ((rd_T65 x.f12 (i : Int)).f0.f1.length : Int) > 40
      · exact Ex.step (fun k => by rw [haberdashlaw12_few.l0, if_pos (by omega), if_pos (by omega), if_neg h, if_pos h2]) (Ex.now trivial)
      · exact Ex.step (fun k => by rw [haberdashlaw12_few.l0, if_pos (by omega), if_pos (by omega), if_neg h, if_neg h2, next i (by omega)]) (ih (i + 1) (by omega))
  exact key x.f12.length 0 (by omega)
theorem right_pm (x : Pm) : promoOk x = pmOk x := right_eq _ _ _ _ _ _ _ _ _ _ _ _ _ _ _
set_option maxRecDepth 100000 in
set_option maxHeartbeats 16000000 in
theorem right' (x : Pm) {A6 : Option Addr} {c6 : Nat} {A7 : Option Addr} {c7 : Nat} {A13 : Option Addr} {c13 : Nat} {A14 : Option Addr} {c14 : Nat} (id : Int) (near : Bool) {w : World} (hfit : fitPm x) (h6 : Kd.C Kd.string w A6 x.f6.f0.length x.f6.f0) (hc6 : x.f6.f0.length ≤ c6) (h7 : Kd.C Kd.string w A7 x.f6.f1.length x.f6.f1) (hc7 : x.f6.f1.length ≤ c7) (h13 : Kd.C k65 w A13 x.f12.length x.f12) (hc13 : x.f12.length ≤ c13) (h14 : Kd.C k67 w A14 x.f13.length x.f13) (hc14 : x.f13.length ≤ c14) :
    Calls Try.prog 6 #[.agg #[.string x.f0, .int .i64 x.f1, .int .i64 x.f2, .string x.f3, .string x.f4, .bool x.f5, .slice A6 x.f6.f0.length c6, .slice A7 x.f6.f1.length c7, .int .i64 x.f7, .int .i64 x.f8, .int .i64 x.f9, .int .i64 x.f10, .int .i64 x.f11, .slice A13 x.f12.length c13, .slice A14 x.f13.length c14], .int .i64 id, .bool near] w fun e w' => e = .returned (.bool true) ∧ Below w.heap.size w w' := by
  have hu60 := Try.underlying60
  obtain ⟨fb, hfb, _⟩ := few_x x hfit.2.2.2.2.2.1
  obtain ⟨kf, hkf⟩ := hfb.rounds
  have HKF := Aside0.mk hkf
  clear hfb hkf
  have HFIT := Aside0.mk hfit
  clear hfit
  have HR6 := Aside0.mk h6; have HC6 := Aside0.mk hc6
  have HR7 := Aside0.mk h7; have HC7 := Aside0.mk hc7
  have HR13 := Aside0.mk h13; have HC13 := Aside0.mk hc13
  have HR14 := Aside0.mk h14; have HC14 := Aside0.mk hc14
  clear h6 hc6 h7 hc7 h13 hc13 h14 hc14
  have HB := Aside0.mk (Below.refl w.heap.size w)
  go_enter Try.func6, Try.ntmps6
  go_upto_region 1 with (first | ((with_reducible refine gate_dst (N := 3) rfl ?_); refine box_event rf_ (N := 3) rf_ (cs := #[.string x.f0, .int .i64 x.f1, .int .i64 x.f2, .string x.f3, .string x.f4, .bool x.f5, .slice A6 x.f6.f0.length c6, .slice A7 x.f6.f1.length c7, .int .i64 x.f7, .int .i64 x.f8, .int .i64 x.f9, .int .i64 x.f10, .int .i64 x.f11, .slice A13 x.f12.length c13, .slice A14 x.f13.length c14]) (t := 60) lr_ ?_; intro g3 hg w1 hbox hb; have B3 := Aside0.mk hbox; have G3 := Aside0.mk (ge_ HB hg (hb0_ HB)); replace HB := Aside0.mk (below_step (hb0_ HB) hb); clear hb hbox hg))
  (try simp only [Act.put, List.setIfInBounds_toArray, List.set_cons_zero, List.set_cons_succ])
  go_wp2_with (first | (refine wpList_load_row rfl 60 _ rfl g3 rfl 60 #[.string x.f0, .int .i64 x.f1, .int .i64 x.f2, .string x.f3, .string x.f4, .bool x.f5, .slice A6 x.f6.f0.length c6, .slice A7 x.f6.f1.length c7, .int .i64 x.f7, .int .i64 x.f8, .int .i64 x.f9, .int .i64 x.f10, .int .i64 x.f11, .slice A13 x.f12.length c13, .slice A14 x.f13.length c14] (0, 0) _ B3.out Try.underlying60 rfl (by kernel_rfl) ?_))
  refine (haberdashlaw12_few.calls kf x.f0 x.f1 x.f2 x.f3 x.f4 x.f5 _ _ x.f6.f0 _ _ x.f6.f1 x.f7 x.f8 x.f9 x.f10 x.f11 _ _ x.f12 _ _ x.f13 fb _ (Kd.C_below HR6.out HB.out) HC6.out (Kd.C_below HR7.out HB.out) HC7.out (Kd.C_below HR13.out HB.out) HC13.out (Kd.C_below HR14.out HB.out) HC14.out HKF.out).mono ?_
  rintro e w2 ⟨rfl, hb⟩
  replace B3 := Aside0.mk (blk_below B3.out hb)
  replace HB := Aside0.mk (below_step HB.out hb)
  clear hb HKF
  cases fb with
  | false =>
    go_wp2_with fail
    refine (awake_calls _).mono ?_
    rintro e wa ⟨rfl, hb⟩
    replace HB := Aside0.mk (below_step HB.out hb)
    go_wp2
    go_ret
    exact ⟨rfl, HB.out⟩
  | true =>
  cases near with
  | false =>
    go_upto_region 5 with fail
    have FIT_ := HFIT
    replace HR6 := Aside0.mk (Kd.C_below HR6.out HB.out)
    replace HR7 := Aside0.mk (Kd.C_below HR7.out HB.out)
    replace HR13 := Aside0.mk (Kd.C_below HR13.out HB.out)
    replace HR14 := Aside0.mk (Kd.C_below HR14.out HB.out)
    obtain ⟨kq, hkq⟩ := (rpm_f x FIT_.out).rounds
    obtain ⟨v1_, hv1_⟩ : ∃ b, pmOk x = b := ⟨_, rfl⟩
    obtain ⟨v2_, hv2_⟩ : ∃ b, b = v1_ := ⟨_, rfl⟩
    have hr_ := right_pm x
    rw [hv1_] at hkq hr_
    rw [← hv2_] at hkq
    have c7b0 : (v1_ == v2_) = true := by rw [hv2_]; cases v1_ <;> rfl
    have C7 := Aside0.mk c7b0; have HKQ := Aside0.mk hkq; have HRI := Aside0.mk hr_
    clear hkq hv1_ hv2_ c7b0 hr_
    have HQ := Aside0.mk (Below.refl w2.heap.size w2)
    go_wp2_with (first | (refine wpList_load_row rfl 60 _ rfl g3 rfl 60 #[.string x.f0, .int .i64 x.f1, .int .i64 x.f2, .string x.f3, .string x.f4, .bool x.f5, .slice A6 x.f6.f0.length c6, .slice A7 x.f6.f1.length c7, .int .i64 x.f7, .int .i64 x.f8, .int .i64 x.f9, .int .i64 x.f10, .int .i64 x.f11, .slice A13 x.f12.length c13, .slice A14 x.f13.length c14] (0, 0) _ B3.out Try.underlying60 rfl (by kernel_rfl) ?_))
    refine (right_of x _ HC6.out (Kd.C_below HR6.out HQ.out) HC7.out (Kd.C_below HR7.out HQ.out) HC13.out (Kd.C_below HR13.out HQ.out) HC14.out (Kd.C_below HR14.out HQ.out)).mono ?_
    rintro e w5 ⟨rfl, hb⟩
    rw [HRI.out]
    replace B3 := Aside0.mk (blk_below B3.out hb); replace HQ := Aside0.mk (below_step HQ.out hb); clear hb
    go_wp2_with fail
    refine (awake_calls _).mono ?_
    rintro e w6 ⟨rfl, hb⟩
    replace B3 := Aside0.mk (blk_below B3.out hb); replace HQ := Aside0.mk (below_step HQ.out hb); clear hb
    go_wp2_with (first | ((try (refine gate_guard (by rfl) ?_; dsimp only)); refine wpList_load_row rfl 60 _ rfl g3 rfl 60 #[.string x.f0, .int .i64 x.f1, .int .i64 x.f2, .string x.f3, .string x.f4, .bool x.f5, .slice A6 x.f6.f0.length c6, .slice A7 x.f6.f1.length c7, .int .i64 x.f7, .int .i64 x.f8, .int .i64 x.f9, .int .i64 x.f10, .int .i64 x.f11, .slice A13 x.f12.length c13, .slice A14 x.f13.length c14] (0, 0) _ B3.out Try.underlying60 rfl (by kernel_rfl) ?_))
    refine (haberdashref10_Promo.calls kq x.f0 x.f1 x.f2 x.f3 x.f4 x.f5 _ _ x.f6.f0 _ _ x.f6.f1 x.f7 x.f8 x.f9 x.f10 x.f11 _ _ x.f12 _ _ x.f13 v2_ _ (Kd.C_below HR6.out HQ.out) HC6.out (Kd.C_below HR7.out HQ.out) HC7.out (Kd.C_below HR13.out HQ.out) HC13.out (Kd.C_below HR14.out HQ.out) HC14.out HKQ.out).mono ?_
    rintro e w7 ⟨rfl, hb⟩
    replace B3 := Aside0.mk (blk_below B3.out hb); replace HQ := Aside0.mk (below_step HQ.out hb); clear hb
    have c7b0 := C7.out
    go_wp2
    go_ret
    exact ⟨rfl, below_step HB.out HQ.out⟩
  | true =>
    obtain ⟨ids, hid, hidn⟩ := id_f id
    obtain ⟨⟨r0, r1, r2, r3, r4, r5, r6, r7, r8, r9, r10, r11, r12, r13, r14⟩, hpr, hok⟩ := promo_x x.f0 x.f1 x.f2 x.f3 x.f4 x.f5 x.f6.f0 x.f6.f1 x.f7 x.f8 x.f9 x.f10 x.f11 x.f12 x.f13 id ids hid hidn HFIT.out.2.1 HFIT.out.2.2.1 HFIT.out.2.2.2.1 HFIT.out.2.2.2.2.1 HFIT.out.2.2.2.2.2.1 HFIT.out.2.2.2.2.2.2.1 HFIT.out.2.2.2.2.2.2.2
    obtain ⟨kp, hkp⟩ := hpr.rounds
    have HKP := Aside0.mk hkp
    obtain ⟨z, hz⟩ : ∃ z : Pm, z = ⟨r0, r1, r2, r3, r4, r5, ⟨r6, r7⟩, r8, r9, r10, r11, r12, r13, r14⟩ := ⟨_, rfl⟩
    have NOK : Aside0 (pmOk z = true) := ⟨by rw [hz]; exact hok.1⟩
    have FIT_ := Aside0.mk (pm_fit NOK.out)
    have HZ := Aside0.mk hz
    clear hpr hkp hok hz
    go_wp2_with (first | (refine wpList_load_row rfl 60 _ rfl g3 rfl 60 #[.string x.f0, .int .i64 x.f1, .int .i64 x.f2, .string x.f3, .string x.f4, .bool x.f5, .slice A6 x.f6.f0.length c6, .slice A7 x.f6.f1.length c7, .int .i64 x.f7, .int .i64 x.f8, .int .i64 x.f9, .int .i64 x.f10, .int .i64 x.f11, .slice A13 x.f12.length c13, .slice A14 x.f13.length c14] (0, 0) _ B3.out Try.underlying60 rfl (by kernel_rfl) ?_))
    refine (haberdashplay_Promo.calls kp x.f0 x.f1 x.f2 x.f3 x.f4 x.f5 _ _ x.f6.f0 _ _ x.f6.f1 x.f7 x.f8 x.f9 x.f10 x.f11 _ _ x.f12 _ _ x.f13 id r0 r1 r2 r3 r4 r5 r6 r7 r8 r9 r10 r11 r12 r13 r14 _ (Kd.C_below HR6.out HB.out) HC6.out (Kd.C_below HR7.out HB.out) HC7.out (Kd.C_below HR13.out HB.out) HC13.out (Kd.C_below HR14.out HB.out) HC14.out HKP.out).mono ?_
    rintro e w3 ⟨q6, q7, q13, q14, rfl, o6, o7, o13, o14, hb⟩
    obtain ⟨rfl, rfl, rfl, rfl, rfl, rfl, rfl, rfl, rfl, rfl, rfl, rfl, rfl, rfl, rfl⟩ : z.f0 = r0 ∧ z.f1 = r1 ∧ z.f2 = r2 ∧ z.f3 = r3 ∧ z.f4 = r4 ∧ z.f5 = r5 ∧ z.f6.f0 = r6 ∧ z.f6.f1 = r7 ∧ z.f7 = r8 ∧ z.f8 = r9 ∧ z.f9 = r10 ∧ z.f10 = r11 ∧ z.f11 = r12 ∧ z.f12 = r13 ∧ z.f13 = r14 := by rw [HZ.out]; exact ⟨rfl, rfl, rfl, rfl, rfl, rfl, rfl, rfl, rfl, rfl, rfl, rfl, rfl, rfl, rfl⟩
    obtain ⟨zA6, zc6, rfl⟩ := Kd.R_slice o6
    obtain ⟨zA7, zc7, rfl⟩ := Kd.R_slice o7
    obtain ⟨zA13, zc13, rfl⟩ := Kd.S_slice o13
    obtain ⟨zA14, zc14, rfl⟩ := Kd.R_slice o14
    replace B3 := Aside0.mk (blk_below B3.out hb)
    replace HB := Aside0.mk (below_step HB.out hb)
    have O6 := Aside0.mk o6
    have O7 := Aside0.mk o7
    have O13 := Aside0.mk o13
    have O14 := Aside0.mk o14
    clear hb HZ HKP o6 o7 o13 o14
    go_upto_region 5 with (first | (refine wpList_store_row rfl 60 _ _ rfl g3 #[.string z.f0, .int .i64 z.f1, .int .i64 z.f2, .string z.f3, .string z.f4, .bool z.f5, .slice zA6 z.f6.f0.length zc6, .slice zA7 z.f6.f1.length zc7, .int .i64 z.f7, .int .i64 z.f8, .int .i64 z.f9, .int .i64 z.f10, .int .i64 z.f11, .slice zA13 z.f12.length zc13, .slice zA14 z.f13.length zc14] rfl rfl 60 #[.string x.f0, .int .i64 x.f1, .int .i64 x.f2, .string x.f3, .string x.f4, .bool x.f5, .slice A6 x.f6.f0.length c6, .slice A7 x.f6.f1.length c7, .int .i64 x.f7, .int .i64 x.f8, .int .i64 x.f9, .int .i64 x.f10, .int .i64 x.f11, .slice A13 x.f12.length c13, .slice A14 x.f13.length c14] B3.out rfl rfl (by simp [Value.oneCell']) ?_; refine nameL_ (fun wA hwA => ?_); have N6 : Aside0 (Kd.C Kd.string wA zA6 z.f6.f0.length z.f6.f0) := ⟨by rw [hwA]; exact (Kd.R_reads' (Kd.R_kept (Kd.R_types O6.out B3.out (by decide)) (krow_ _ _ _) (fun _ h_ => h_.2))).2.2⟩; have NC6 : Aside0 (z.f6.f0.length ≤ zc6) := ⟨(Kd.R_reads' O6.out).2.1⟩; have N7 : Aside0 (Kd.C Kd.string wA zA7 z.f6.f1.length z.f6.f1) := ⟨by rw [hwA]; exact (Kd.R_reads' (Kd.R_kept (Kd.R_types O7.out B3.out (by decide)) (krow_ _ _ _) (fun _ h_ => h_.2))).2.2⟩; have NC7 : Aside0 (z.f6.f1.length ≤ zc7) := ⟨(Kd.R_reads' O7.out).2.1⟩; have N13 : Aside0 (Kd.C k65 wA zA13 z.f12.length z.f12) := ⟨by rw [hwA]; exact (Kd.S_reads' (Kd.S_kept (Kd.S_types O13.out B3.out (by decide)) (krow_ _ _ _) (fun _ h_ => h_.2))).2.2⟩; have NC13 : Aside0 (z.f12.length ≤ zc13) := ⟨(Kd.S_reads' O13.out).2.1⟩; have N14 : Aside0 (Kd.C k67 wA zA14 z.f13.length z.f13) := ⟨by rw [hwA]; exact (Kd.R_reads' (Kd.R_kept (Kd.R_types O14.out B3.out (by decide)) (krow_ _ _ _) (fun _ h_ => h_.2))).2.2⟩; have NC14 : Aside0 (z.f13.length ≤ zc14) := ⟨(Kd.R_reads' O14.out).2.1⟩; have NB3 : Aside0 (wA.heap[g3]? = some (.cells #[.string z.f0, .int .i64 z.f1, .int .i64 z.f2, .string z.f3, .string z.f4, .bool z.f5, .slice zA6 z.f6.f0.length zc6, .slice zA7 z.f6.f1.length zc7, .int .i64 z.f7, .int .i64 z.f8, .int .i64 z.f9, .int .i64 z.f10, .int .i64 z.f11, .slice zA13 z.f12.length zc13, .slice zA14 z.f13.length zc14] 60 (0, 0))) := ⟨by rw [hwA]; exact setRow_heap _ _ _ _ _ _ B3.out⟩; have NB : Aside0 (Below w.heap.size w wA) := ⟨by rw [hwA]; exact brow_ HB.out G3.out⟩; clear hwA B3 HB O6 O7 O13 O14))
    have B3 := NB3; have HB := NB; clear NB3 NB
    obtain ⟨kq, hkq⟩ := (rpm_f z FIT_.out).rounds
    obtain ⟨v1_, hv1_⟩ : ∃ b, pmOk z = b := ⟨_, rfl⟩
    obtain ⟨v2_, hv2_⟩ : ∃ b, b = v1_ := ⟨_, rfl⟩
    have OK_ : v1_ = true := by rw [← hv1_]; exact NOK.out
    have hr_ := right_pm z
    rw [hv1_] at hkq hr_
    rw [← hv2_] at hkq
    have c7b0 : (v1_ == v2_) = true := by rw [hv2_]; cases v1_ <;> rfl
    have C7 := Aside0.mk c7b0; have HKQ := Aside0.mk hkq; have HRI := Aside0.mk hr_
    clear hkq hv1_ hv2_ c7b0 hr_
    have HQ := Aside0.mk (Below.refl wA.heap.size wA)
    go_wp2_with (first | (refine wpList_load_row rfl 60 _ rfl g3 rfl 60 #[.string z.f0, .int .i64 z.f1, .int .i64 z.f2, .string z.f3, .string z.f4, .bool z.f5, .slice zA6 z.f6.f0.length zc6, .slice zA7 z.f6.f1.length zc7, .int .i64 z.f7, .int .i64 z.f8, .int .i64 z.f9, .int .i64 z.f10, .int .i64 z.f11, .slice zA13 z.f12.length zc13, .slice zA14 z.f13.length zc14] (0, 0) _ B3.out Try.underlying60 rfl (by kernel_rfl) ?_))
    refine (right_of z _ NC6.out (Kd.C_below N6.out HQ.out) NC7.out (Kd.C_below N7.out HQ.out) NC13.out (Kd.C_below N13.out HQ.out) NC14.out (Kd.C_below N14.out HQ.out)).mono ?_
    rintro e w5 ⟨rfl, hb⟩
    rw [HRI.out]
    replace B3 := Aside0.mk (blk_below B3.out hb); replace HQ := Aside0.mk (below_step HQ.out hb); clear hb
    go_wp2_with fail
    refine (awake_calls _).mono ?_
    rintro e w6 ⟨rfl, hb⟩
    replace B3 := Aside0.mk (blk_below B3.out hb); replace HQ := Aside0.mk (below_step HQ.out hb); clear hb
    go_wp2_with (first | ((try (refine gate_guard (by rfl) ?_; dsimp only)); refine wpList_load_row rfl 60 _ rfl g3 rfl 60 #[.string z.f0, .int .i64 z.f1, .int .i64 z.f2, .string z.f3, .string z.f4, .bool z.f5, .slice zA6 z.f6.f0.length zc6, .slice zA7 z.f6.f1.length zc7, .int .i64 z.f7, .int .i64 z.f8, .int .i64 z.f9, .int .i64 z.f10, .int .i64 z.f11, .slice zA13 z.f12.length zc13, .slice zA14 z.f13.length zc14] (0, 0) _ B3.out Try.underlying60 rfl (by kernel_rfl) ?_))
    refine (haberdashref10_Promo.calls kq z.f0 z.f1 z.f2 z.f3 z.f4 z.f5 _ _ z.f6.f0 _ _ z.f6.f1 z.f7 z.f8 z.f9 z.f10 z.f11 _ _ z.f12 _ _ z.f13 v2_ _ (Kd.C_below N6.out HQ.out) NC6.out (Kd.C_below N7.out HQ.out) NC7.out (Kd.C_below N13.out HQ.out) NC13.out (Kd.C_below N14.out HQ.out) NC14.out HKQ.out).mono ?_
    rintro e w7 ⟨rfl, hb⟩
    replace B3 := Aside0.mk (blk_below B3.out hb); replace HQ := Aside0.mk (below_step HQ.out hb); clear hb
    have c7b0 := C7.out
    subst OK_
    go_wp2
    go_ret
    exact ⟨rfl, below_step HB.out HQ.out⟩
noncomputable def fitB (x : Pm) : Bool := @decide (fitPm x) (Classical.propDecidable _)
noncomputable def f (n : Nat) (f0 : ByteArray) (f1 : Int) (f2 : Int) (f3 : ByteArray) (f4 : ByteArray) (f5 : Bool) (f6 : List ByteArray) (f7 : List ByteArray) (f8 : Int) (f9 : Int) (f10 : Int) (f11 : Int) (f12 : Int) (f13 : List (S65)) (f14 : List (S67)) (id : Int) (near : Bool) : Option Bool := if fitB (⟨f0, f1, f2, f3, f4, f5, ⟨f6, f7⟩, f8, f9, f10, f11, f12, f13, f14⟩ : Pm) = true then some true else none
theorem calls (n : Nat) (f0 : ByteArray) (f1 : Int) (f2 : Int) (f3 : ByteArray) (f4 : ByteArray) (f5 : Bool) (A6 : Option Addr) (c6 : Nat) (f6 : List ByteArray) (A7 : Option Addr) (c7 : Nat) (f7 : List ByteArray) (f8 : Int) (f9 : Int) (f10 : Int) (f11 : Int) (f12 : Int) (A13 : Option Addr) (c13 : Nat) (f13 : List (S65)) (A14 : Option Addr) (c14 : Nat) (f14 : List (S67)) (id : Int) (near : Bool) (y : Bool) (w : World) (h6 : Kd.C Kd.string w A6 f6.length f6) (hc6 : f6.length ≤ c6) (h7 : Kd.C Kd.string w A7 f7.length f7) (hc7 : f7.length ≤ c7) (h13 : Kd.C k65 w A13 f13.length f13) (hc13 : f13.length ≤ c13) (h14 : Kd.C k67 w A14 f14.length f14) (hc14 : f14.length ≤ c14) (h : f n f0 f1 f2 f3 f4 f5 f6 f7 f8 f9 f10 f11 f12 f13 f14 id near = some y) :
    Calls Try.prog 6 #[.agg #[.string f0, .int .i64 f1, .int .i64 f2, .string f3, .string f4, .bool f5, .slice A6 f6.length c6, .slice A7 f7.length c7, .int .i64 f8, .int .i64 f9, .int .i64 f10, .int .i64 f11, .int .i64 f12, .slice A13 f13.length c13, .slice A14 f14.length c14], .int .i64 id, .bool near] w fun e w' => e = .returned (.bool y) ∧ Below w.heap.size w w' := by
  unfold f at h
  by_cases hf : fitB (⟨f0, f1, f2, f3, f4, f5, ⟨f6, f7⟩, f8, f9, f10, f11, f12, f13, f14⟩ : Pm) = true
  · rw [if_pos hf] at h
    obtain rfl : y = true := by injection h with h; exact h.symm
    exact right' (⟨f0, f1, f2, f3, f4, f5, ⟨f6, f7⟩, f8, f9, f10, f11, f12, f13, f14⟩ : Pm) id near (@of_decide_eq_true _ (Classical.propDecidable _) hf) h6 hc6 h7 hc7 h13 hc13 h14 hc14
  · rw [if_neg hf] at h
    exact absurd h (by simp)
theorem good_fit (x0 : Rw.S60) (g0 : (x0.f0.size ≤ 9223372036854775807 ∧ ((Lit.int .i64 x0.f1).wf = true ∧ ((Lit.int .i64 x0.f2).wf = true ∧ (x0.f3.size ≤ 9223372036854775807 ∧ (x0.f4.size ≤ 9223372036854775807 ∧ (True ∧ (((x0.f6.f0.length ≤ 9223372036854775807 ∧ ∀ y0 ∈ x0.f6.f0, y0.size ≤ 9223372036854775807) ∧ ((x0.f6.f1.length ≤ 9223372036854775807 ∧ ∀ y0 ∈ x0.f6.f1, y0.size ≤ 9223372036854775807))) ∧ ((Lit.int .i64 x0.f7).wf = true ∧ ((Lit.int .i64 x0.f8).wf = true ∧ ((Lit.int .i64 x0.f9).wf = true ∧ ((Lit.int .i64 x0.f10).wf = true ∧ ((Lit.int .i64 x0.f11).wf = true ∧ ((x0.f12.length ≤ 9223372036854775807 ∧ ∀ y0 ∈ x0.f12, (((y0.f0.f0.length ≤ 9223372036854775807 ∧ ∀ y1 ∈ y0.f0.f0, y1.size ≤ 9223372036854775807) ∧ ((y0.f0.f1.length ≤ 9223372036854775807 ∧ ∀ y1 ∈ y0.f0.f1, y1.size ≤ 9223372036854775807))) ∧ ((Lit.int .i64 y0.f1).wf = true))) ∧ ((x0.f13.length ≤ 9223372036854775807 ∧ ∀ y0 ∈ x0.f13, ((Lit.int .i64 y0.f0).wf = true ∧ ((Lit.int .i64 y0.f1).wf = true ∧ ((Lit.int .i64 y0.f2).wf = true))))))))))))))))))) : fitPm x0 := by
  obtain ⟨h0, _, _, h3, h4, _, h6, _, _, _, _, _, h12, h13⟩ := g0
  refine ⟨h0, h3, h4, h6.1, h6.2, h12.1, h13.1, fun j hj => ?_⟩
  have hm2 : rd_T65 x0.f12 (j : Int) ∈ x0.f12 := by
    unfold rd_T65
    rw [Int.toNat_natCast, List.getD_eq_getElem?_getD, List.getElem?_eq_getElem hj]
    exact List.getElem_mem hj
  exact (h12.2 _ hm2).1
theorem Pure (x0 : Rw.S60) (x1 : Int) (x2 : Bool) (g0 : (x0.f0.size ≤ 9223372036854775807 ∧ ((Lit.int .i64 x0.f1).wf = true ∧ ((Lit.int .i64 x0.f2).wf = true ∧ (x0.f3.size ≤ 9223372036854775807 ∧ (x0.f4.size ≤ 9223372036854775807 ∧ (True ∧ (((x0.f6.f0.length ≤ 9223372036854775807 ∧ ∀ y0 ∈ x0.f6.f0, y0.size ≤ 9223372036854775807) ∧ ((x0.f6.f1.length ≤ 9223372036854775807 ∧ ∀ y0 ∈ x0.f6.f1, y0.size ≤ 9223372036854775807))) ∧ ((Lit.int .i64 x0.f7).wf = true ∧ ((Lit.int .i64 x0.f8).wf = true ∧ ((Lit.int .i64 x0.f9).wf = true ∧ ((Lit.int .i64 x0.f10).wf = true ∧ ((Lit.int .i64 x0.f11).wf = true ∧ ((x0.f12.length ≤ 9223372036854775807 ∧ ∀ y0 ∈ x0.f12, (((y0.f0.f0.length ≤ 9223372036854775807 ∧ ∀ y1 ∈ y0.f0.f0, y1.size ≤ 9223372036854775807) ∧ ((y0.f0.f1.length ≤ 9223372036854775807 ∧ ∀ y1 ∈ y0.f0.f1, y1.size ≤ 9223372036854775807))) ∧ ((Lit.int .i64 y0.f1).wf = true))) ∧ ((x0.f13.length ≤ 9223372036854775807 ∧ ∀ y0 ∈ x0.f13, ((Lit.int .i64 y0.f0).wf = true ∧ ((Lit.int .i64 y0.f1).wf = true ∧ ((Lit.int .i64 y0.f2).wf = true))))))))))))))))))) : ∃ k, f k x0.f0 x0.f1 x0.f2 x0.f3 x0.f4 x0.f5 x0.f6.f0 x0.f6.f1 x0.f7 x0.f8 x0.f9 x0.f10 x0.f11 x0.f12 x0.f13 x1 x2 = some true :=
  ⟨0, by unfold f; rw [if_pos (show fitB x0 = true from @decide_eq_true _ (Classical.propDecidable _) (good_fit x0 g0))]⟩
end Go.Proofs.Ytdmeepjefccpgaa.LPR
