/- The statement PromoTurned: a promo that may be with one thing turned. -/
import Derived.Test.YtdmeepjefccpgaaProg
import Derived.Below
import Derived.Deep.Draws
import Derived.Deep.AppendLies
import Derived.Maps.AppendAt
import Derived.OwnWalk
import Derived.Laws.BytesArg
import Derived.Laws.MakeOwn
import Derived.Laws.OwnMore
import Derived.Deep.OwnRows
import Derived.Tactics
import Derived.Lib.ConvBytes
import Derived.Laws.Slices
import Derived.WalkKit
import Derived.KernelRfl
import Derived.RowKit3
import Derived.Deep.LoopGhost
import Derived.Deep.QuietTactic
import Derived.BigQuiet
import Derived.WideLaws
import Derived.Deep.DeepCutAuto
import Derived.Deep.CutBlock
import Derived.Deep.RegionHeld3
import Derived.Laws.Rows
import Derived.Lib.AppendStr
import Derived.ArgAppend
import Derived.Laws.IdiomCopy
import Derived.OrdersHeld
import Derived.Laws.BitsLemmas
import Derived.RowKit
import Derived.BigRegion
import Derived.Outline
import Derived.RegionTactic
import Derived.StillTailTactics
import Derived.Deep.RegionLaw
import Derived.Test.YtdmeepjefccpgaaVHAwake12
import Derived.Test.YtdmeepjefccpgaaVRwRef10P
import Derived.Test.YtdmeepjefccpgaaVRwL12f
import Derived.Test.YtdmeepjefccpgaaVFitP
import Derived.Test.YtdmeepjefccpgaaVRwPlP
import Derived.Test.YtdmeepjefccpgaaVPlayP2
set_option linter.unusedVariables false
set_option linter.unusedSimpArgs false
namespace Go.Proofs.Ytdmeepjefccpgaa.LPT
open Go Go.RowKit Go.Proofs.YtdmeepjefccpgaaW.PrintWords Go.Proofs.YtdmeepjefccpgaaW.PrintLast Go.Proofs.YtdmeepjefccpgaaW.PrintMore Go.Proofs.Ytdmeepjefccpgaa.Rw Go.Proofs.Ytdmeepjefccpgaa.EP Go.Proofs.Ytdmeepjefccpgaa.RU Go.Proofs.Ytdmeepjefccpgaa.PP
open Go.Proofs.Ytdmeepjefccpgaa.HA12 (awake_calls)
open Go.Proofs.Ytdmeepjefccpgaa.MP (md md_range mod_f)
theorem few_x (x : Pm) (hl : x.f12.length ≤ 9223372036854775807) : Ex (fun k => haberdashlaw12_few.f k x.f0 x.f1 x.f2 x.f3 x.f4 x.f5 x.f6.f0 x.f6.f1 x.f7 x.f8 x.f9 x.f10 x.f11 x.f12 x.f13) (fun _ => True) := by
  unfold haberdashlaw12_few.f
  have key : ∀ (d i : Nat), i + d = x.f12.length → Ex (fun k => haberdashlaw12_few.l0 k (i : Int) x.f0 x.f1 x.f2 x.f3 x.f4 x.f5 x.f6.f0 x.f6.f1 x.f7 x.f8 x.f9 x.f10 x.f11 x.f12 x.f13) (fun _ => True) := by
    intro d
    induction d with
    | zero =>
      intro i hi
      have hF : ∃ b, (if (x.f12.length : Int) ≤ 20 then (if (x.f13.length : Int) ≤ 20 then (if (x.f6.f0.length : Int) ≤ 40 then (some (decide ((x.f6.f1.length : Int) ≤ 40))) else (some false)) else (some false)) else (some false)) = some b := by
        repeat' split
        all_goals exact ⟨_, rfl⟩
      obtain ⟨b, hb⟩ := hF
      exact Ex.step (fun k => by rw [haberdashlaw12_few.l0, if_neg (by omega), hb]) (Ex.now trivial)
    | succ d ih =>
      intro i hi
      by_cases h : ((rd_T65 x.f12 (i : Int)).f0.f0.length : Int) > 40
      · exact Ex.step (fun k => by rw [haberdashlaw12_few.l0, if_pos (by omega), if_pos (by omega), if_pos h]) (Ex.now trivial)
      by_cases h2 : ((rd_T65 x.f12 (i : Int)).f0.f1.length : Int) > 40
      · exact Ex.step (fun k => by rw [haberdashlaw12_few.l0, if_pos (by omega), if_pos (by omega), if_neg h, if_pos h2]) (Ex.now trivial)
      · exact Ex.step (fun k => by rw [haberdashlaw12_few.l0, if_pos (by omega), if_pos (by omega), if_neg h, if_neg h2, next i (by omega)]) (ih (i + 1) (by omega))
  exact key x.f12.length 0 (by omega)
theorem right_pm (x : Pm) : promoOk x = pmOk x := right_eq _ _ _ _ _ _ _ _ _ _ _ _ _ _ _
def T27 : Bool × List (List Nat × List Nat) := (true, [([], []), ([0], [0]), ([], []), ([2], [2]), ([3], [3]), ([4], [4]), ([5], [5]), ([1, 6, 3], [1, 6]), ([0, 1, 2, 3, 4, 5, 6, 7], []), ([8, 7, 7, 0, 1, 2, 3, 4, 5, 6, 7], [7, 8])])
def B27 : List Nat := [0, 1, 0, 4, 12, 28, 60, 127, 255, 511]
theorem tab27 : rtab .any (opsOf Try.f7 27) = T27 := by kernel_rfl
theorem bits27 : waitsOk T27.2 B27 = true := by kernel_rfl
def T36 : Bool × List (List Nat × List Nat) := (true, [([], []), ([0, 0], [0]), ([1], [1]), ([2, 1, 1], [1, 2]), ([1], [1]), ([4, 3, 1], [1, 4]), ([3, 5, 1], [1, 3, 5]), ([1, 6], [1, 6]), ([7, 5, 0, 1, 2, 3, 4, 5, 6, 7], [7])])
def B36 : List Nat := [0, 1, 3, 7, 3, 31, 63, 127, 255]
theorem tab36 : rtab .any (opsOf Try.f7 36) = T36 := by kernel_rfl
theorem bits36 : waitsOk T36.2 B36 = true := by kernel_rfl
theorem brow' {w W : World} {g : Nat} {cs : Array Value} (h : Below w.heap.size w W) (hg : w.heap.size ≤ g) : Below w.heap.size w (W.setRow g cs) := ⟨h.os, h.tape, h.output, by rw [Go.size_setRow]; exact h.size, fun i hi => (Go.setRow_other _ _ _ _ (by omega)).trans (h.block i hi)⟩
theorem rdP_snoc (l : List (S65)) (t : S65) (hl : ∀ i, i < l.length → fitP (rd_T65 l (i : Int))) (ht : fitP t) : ∀ i, i < (l ++ [t]).length → fitP (rd_T65 (l ++ [t]) (i : Int)) := by
  intro i hi
  rw [List.length_append, List.length_singleton] at hi
  rcases Nat.lt_or_ge i l.length with h | h
  · have e : rd_T65 (l ++ [t]) (i : Int) = rd_T65 l (i : Int) := by
      unfold rd_T65
      rw [Int.toNat_natCast, List.getD_eq_getElem?_getD, List.getD_eq_getElem?_getD, List.getElem?_append_left h]
    rw [e]; exact hl i h
  · obtain rfl : i = l.length := by omega
    have e : rd_T65 (l ++ [t]) (l.length : Int) = t := by simp [rd_T65]
    rw [e]; exact ht
theorem fitL_snoc {l : List ByteArray} {s : ByteArray} (h : fitL l) (hl : l.length ≤ 1000) (hs : s.size ≤ 9223372036854775807) : fitL (l ++ [s]) := by
  refine ⟨by rw [List.length_append, List.length_singleton]; omega, fun t ht => ?_⟩
  rcases List.mem_append.1 ht with h1 | h1
  · exact h.2 t h1
  · rw [List.mem_singleton.1 h1]; exact hs
theorem fitL_nil : fitL [] := ⟨by simp, fun _ h => by simp at h⟩
theorem short_of {z : Pm} (h : pmOk z = true) : z.f6.f0.length ≤ 1000 ∧ z.f12.length ≤ 1000 ∧ z.f13.length ≤ 1000 := by
  unfold pmOk refOk at h
  simp only [Bool.and_eq_true] at h
  obtain ⟨h0, _, _, _, _, h3, h4, h6, _, hk⟩ := h
  have hp := kind_parts hk
  refine ⟨?_, ?_, ?_⟩
  · unfold scopeOk namesOk at h6
    simp only [Bool.and_eq_true, decide_eq_true_eq] at h6
    omega
  · rcases hp.1 with h | h
    · omega
    · unfold partsOk at h
      simp only [Bool.and_eq_true, decide_eq_true_eq] at h
      omega
  · rcases hp.2 with h | h
    · omega
    · unfold tiersOk at h
      simp only [Bool.and_eq_true, decide_eq_true_eq] at h
      omega
set_option maxRecDepth 100000 in
set_option maxHeartbeats 16000000 in
theorem turned' (x : Pm) {A6 : Option Addr} {c6 : Nat} {A7 : Option Addr} {c7 : Nat} {A13 : Option Addr} {c13 : Nat} {A14 : Option Addr} {c14 : Nat} (how n : Int) (s : ByteArray) {w : World} (hfit : fitPm x) (h6 : Kd.C Kd.string w A6 x.f6.f0.length x.f6.f0) (hc6 : x.f6.f0.length ≤ c6) (h7 : Kd.C Kd.string w A7 x.f6.f1.length x.f6.f1) (hc7 : x.f6.f1.length ≤ c7) (h13 : Kd.C k65 w A13 x.f12.length x.f12) (hc13 : x.f12.length ≤ c13) (h14 : Kd.C k67 w A14 x.f13.length x.f13) (hc14 : x.f13.length ≤ c14) :
    Calls Try.prog 7 #[.agg #[.string x.f0, .int .i64 x.f1, .int .i64 x.f2, .string x.f3, .string x.f4, .bool x.f5, .slice A6 x.f6.f0.length c6, .slice A7 x.f6.f1.length c7, .int .i64 x.f7, .int .i64 x.f8, .int .i64 x.f9, .int .i64 x.f10, .int .i64 x.f11, .slice A13 x.f12.length c13, .slice A14 x.f13.length c14], .int .i64 how, .int .i64 n, .string s] w fun e w' => e = .returned (.bool true) ∧ Below w.heap.size w w' := by
  have hu60 := Try.underlying60
  obtain ⟨fb, hfb, _⟩ := few_x x hfit.2.2.2.2.2.1
  obtain ⟨kf, hkf⟩ := hfb.rounds
  have HKF := Aside0.mk hkf
  clear hfb hkf
  have HFIT := Aside0.mk hfit
  clear hfit
  have hM := mod_f how 16 (by omega) (by omega)
  have hR := md_range how 16 (by omega)
  have hM10 := mod_f n 10 (by omega) (by omega)
  have hM104 := mod_f n 104 (by omega) (by omega)
  have HR10 := Aside0.mk (md_range n 10 (by omega)); have HR104 := Aside0.mk (md_range n 104 (by omega))
  obtain ⟨m, hm⟩ : ∃ m, md how 16 = m := ⟨_, rfl⟩
  obtain ⟨q, hq⟩ : ∃ m, md n 10 = m := ⟨_, rfl⟩
  obtain ⟨p, hp⟩ : ∃ m, md n 104 = m := ⟨_, rfl⟩
  rw [hm] at hM hR; rw [hq] at hM10 HR10; rw [hp] at hM104 HR104
  have HM := Aside0.mk hM; have HM10 := Aside0.mk hM10; have HM104 := Aside0.mk hM104; have HRG := Aside0.mk hR
  clear hM hM10 hM104 hR hm hq hp
  have HR6 := Aside0.mk h6; have HC6 := Aside0.mk hc6
  have HR7 := Aside0.mk h7; have HC7 := Aside0.mk hc7
  have HR13 := Aside0.mk h13; have HC13 := Aside0.mk hc13
  have HR14 := Aside0.mk h14; have HC14 := Aside0.mk hc14
  clear h6 hc6 h7 hc7 h13 hc13 h14 hc14
  have HB := Aside0.mk (Below.refl w.heap.size w)
  go_enter Try.func7, Try.ntmps7
  go_upto_region 1 with (first | ((with_reducible refine gate_dst (N := 4) rfl ?_); refine box_event rf_ (N := 4) rf_ (cs := #[.string x.f0, .int .i64 x.f1, .int .i64 x.f2, .string x.f3, .string x.f4, .bool x.f5, .slice A6 x.f6.f0.length c6, .slice A7 x.f6.f1.length c7, .int .i64 x.f7, .int .i64 x.f8, .int .i64 x.f9, .int .i64 x.f10, .int .i64 x.f11, .slice A13 x.f12.length c13, .slice A14 x.f13.length c14]) (t := 60) lr_ ?_; intro g3 hg w1 hbox hb; have B3 := Aside0.mk hbox; have G3 := Aside0.mk (ge_ HB hg (hb0_ HB)); replace HB := Aside0.mk (below_step (hb0_ HB) hb); clear hb hbox hg))
  (try simp only [Act.put, List.setIfInBounds_toArray, List.set_cons_zero, List.set_cons_succ])
  obtain ⟨e2, he2⟩ : ∃ b, decide ((s.size : Int) > 60) = b := ⟨_, rfl⟩
  have ke2 : decide (60 < s.size) = e2 := by rw [← he2]; exact decide_eq_decide.2 (by omega)
  go_wp2_with (first | (refine wpList_load_row rfl 60 _ rfl g3 rfl 60 #[.string x.f0, .int .i64 x.f1, .int .i64 x.f2, .string x.f3, .string x.f4, .bool x.f5, .slice A6 x.f6.f0.length c6, .slice A7 x.f6.f1.length c7, .int .i64 x.f7, .int .i64 x.f8, .int .i64 x.f9, .int .i64 x.f10, .int .i64 x.f11, .slice A13 x.f12.length c13, .slice A14 x.f13.length c14] (0, 0) _ B3.out Try.underlying60 rfl (by kernel_rfl) ?_))
  refine (haberdashlaw12_few.calls kf x.f0 x.f1 x.f2 x.f3 x.f4 x.f5 _ _ x.f6.f0 _ _ x.f6.f1 x.f7 x.f8 x.f9 x.f10 x.f11 _ _ x.f12 _ _ x.f13 fb _ (Kd.C_below HR6.out HB.out) HC6.out (Kd.C_below HR7.out HB.out) HC7.out (Kd.C_below HR13.out HB.out) HC13.out (Kd.C_below HR14.out HB.out) HC14.out HKF.out).mono ?_
  rintro e w2 ⟨rfl, hb⟩
  replace B3 := Aside0.mk (blk_below B3.out hb)
  replace HB := Aside0.mk (below_step HB.out hb)
  clear hb HKF
  cases fb with
  | false =>
    go_wp2_with fail
    refine (awake_calls _).mono ?_
    rintro e wa ⟨rfl, hb⟩
    replace HB := Aside0.mk (below_step HB.out hb)
    go_wp2
    go_ret
    exact ⟨rfl, HB.out⟩
  | true =>
  cases e2 with
  | true =>
    go_wp2_with fail
    refine (awake_calls _).mono ?_
    rintro e wa ⟨rfl, hb⟩
    replace HB := Aside0.mk (below_step HB.out hb)
    go_wp2
    go_ret
    exact ⟨rfl, HB.out⟩
  | false =>
  have HSZ : Aside0 (s.size ≤ 60) := ⟨by have := of_decide_eq_false ke2; omega⟩
  go_upto_region 3 with fail
  clear he2 ke2
  obtain ⟨ids, hid, hidn⟩ := id_f 3
  obtain ⟨⟨r0, r1, r2, r3, r4, r5, r6, r7, r8, r9, r10, r11, r12, r13, r14⟩, hpr, hok⟩ := promo_x x.f0 x.f1 x.f2 x.f3 x.f4 x.f5 x.f6.f0 x.f6.f1 x.f7 x.f8 x.f9 x.f10 x.f11 x.f12 x.f13 3 ids hid hidn HFIT.out.2.1 HFIT.out.2.2.1 HFIT.out.2.2.2.1 HFIT.out.2.2.2.2.1 HFIT.out.2.2.2.2.2.1 HFIT.out.2.2.2.2.2.2.1 HFIT.out.2.2.2.2.2.2.2
  obtain ⟨kp, hkp⟩ := hpr.rounds
  have HKP := Aside0.mk hkp
  obtain ⟨z, hz⟩ : ∃ z : Pm, z = ⟨r0, r1, r2, r3, r4, r5, ⟨r6, r7⟩, r8, r9, r10, r11, r12, r13, r14⟩ := ⟨_, rfl⟩
  have NOK : Aside0 (pmOk z = true) := ⟨by rw [hz]; exact hok.1⟩
  have FIT_ := Aside0.mk (pm_fit NOK.out)
  have SH := Aside0.mk (short_of NOK.out)
  have HZ := Aside0.mk hz
  clear hpr hkp hok hz
  go_wp2_with (first | (refine wpList_load_row rfl 60 _ rfl g3 rfl 60 #[.string x.f0, .int .i64 x.f1, .int .i64 x.f2, .string x.f3, .string x.f4, .bool x.f5, .slice A6 x.f6.f0.length c6, .slice A7 x.f6.f1.length c7, .int .i64 x.f7, .int .i64 x.f8, .int .i64 x.f9, .int .i64 x.f10, .int .i64 x.f11, .slice A13 x.f12.length c13, .slice A14 x.f13.length c14] (0, 0) _ B3.out Try.underlying60 rfl (by kernel_rfl) ?_))
  refine (haberdashplay_Promo.calls kp x.f0 x.f1 x.f2 x.f3 x.f4 x.f5 _ _ x.f6.f0 _ _ x.f6.f1 x.f7 x.f8 x.f9 x.f10 x.f11 _ _ x.f12 _ _ x.f13 3 r0 r1 r2 r3 r4 r5 r6 r7 r8 r9 r10 r11 r12 r13 r14 _ (Kd.C_below HR6.out HB.out) HC6.out (Kd.C_below HR7.out HB.out) HC7.out (Kd.C_below HR13.out HB.out) HC13.out (Kd.C_below HR14.out HB.out) HC14.out HKP.out).mono ?_
  rintro e w3 ⟨q6, q7, q13, q14, rfl, o6, o7, o13, o14, hb⟩
  obtain ⟨rfl, rfl, rfl, rfl, rfl, rfl, rfl, rfl, rfl, rfl, rfl, rfl, rfl, rfl, rfl⟩ : z.f0 = r0 ∧ z.f1 = r1 ∧ z.f2 = r2 ∧ z.f3 = r3 ∧ z.f4 = r4 ∧ z.f5 = r5 ∧ z.f6.f0 = r6 ∧ z.f6.f1 = r7 ∧ z.f7 = r8 ∧ z.f8 = r9 ∧ z.f9 = r10 ∧ z.f10 = r11 ∧ z.f11 = r12 ∧ z.f12 = r13 ∧ z.f13 = r14 := by rw [HZ.out]; exact ⟨rfl, rfl, rfl, rfl, rfl, rfl, rfl, rfl, rfl, rfl, rfl, rfl, rfl, rfl, rfl⟩
  obtain ⟨zA6, zc6, rfl⟩ := Kd.R_slice o6
  obtain ⟨zA7, zc7, rfl⟩ := Kd.R_slice o7
  obtain ⟨zA13, zc13, rfl⟩ := Kd.S_slice o13
  obtain ⟨zA14, zc14, rfl⟩ := Kd.R_slice o14
  have HLE := Aside0.mk (below_size HB.out)
  have O6 := Aside0.mk (Kd.R_lower o6 HLE.out)
  have O7 := Aside0.mk (Kd.R_lower o7 HLE.out)
  have O13 := Aside0.mk (Kd.S_lower o13 HLE.out)
  have O14 := Aside0.mk (Kd.R_lower o14 HLE.out)
  replace B3 := Aside0.mk (blk_below B3.out hb)
  replace HB := Aside0.mk (below_step HB.out hb)
  clear hb HZ HKP o6 o7 o13 o14 HLE
  go_upto_region 4 with (first | (refine wpList_store_row rfl 60 _ _ rfl g3 #[.string z.f0, .int .i64 z.f1, .int .i64 z.f2, .string z.f3, .string z.f4, .bool z.f5, .slice zA6 z.f6.f0.length zc6, .slice zA7 z.f6.f1.length zc7, .int .i64 z.f7, .int .i64 z.f8, .int .i64 z.f9, .int .i64 z.f10, .int .i64 z.f11, .slice zA13 z.f12.length zc13, .slice zA14 z.f13.length zc14] rfl rfl 60 #[.string x.f0, .int .i64 x.f1, .int .i64 x.f2, .string x.f3, .string x.f4, .bool x.f5, .slice A6 x.f6.f0.length c6, .slice A7 x.f6.f1.length c7, .int .i64 x.f7, .int .i64 x.f8, .int .i64 x.f9, .int .i64 x.f10, .int .i64 x.f11, .slice A13 x.f12.length c13, .slice A14 x.f13.length c14] B3.out rfl rfl (by simp [Value.oneCell']) ?_; have NR6 := Aside0.mk (Kd.R_kept (Kd.R_types O6.out B3.out (by decide)) (krow_ w3 g3 #[.string z.f0, .int .i64 z.f1, .int .i64 z.f2, .string z.f3, .string z.f4, .bool z.f5, .slice zA6 z.f6.f0.length zc6, .slice zA7 z.f6.f1.length zc7, .int .i64 z.f7, .int .i64 z.f8, .int .i64 z.f9, .int .i64 z.f10, .int .i64 z.f11, .slice zA13 z.f12.length zc13, .slice zA14 z.f13.length zc14]) (fun _ h_ => h_.2)); have NR7 := Aside0.mk (Kd.R_kept (Kd.R_types O7.out B3.out (by decide)) (krow_ w3 g3 #[.string z.f0, .int .i64 z.f1, .int .i64 z.f2, .string z.f3, .string z.f4, .bool z.f5, .slice zA6 z.f6.f0.length zc6, .slice zA7 z.f6.f1.length zc7, .int .i64 z.f7, .int .i64 z.f8, .int .i64 z.f9, .int .i64 z.f10, .int .i64 z.f11, .slice zA13 z.f12.length zc13, .slice zA14 z.f13.length zc14]) (fun _ h_ => h_.2)); have NR13 := Aside0.mk (Kd.S_kept (Kd.S_types O13.out B3.out (by decide)) (krow_ w3 g3 #[.string z.f0, .int .i64 z.f1, .int .i64 z.f2, .string z.f3, .string z.f4, .bool z.f5, .slice zA6 z.f6.f0.length zc6, .slice zA7 z.f6.f1.length zc7, .int .i64 z.f7, .int .i64 z.f8, .int .i64 z.f9, .int .i64 z.f10, .int .i64 z.f11, .slice zA13 z.f12.length zc13, .slice zA14 z.f13.length zc14]) (fun _ h_ => h_.2)); have NR14 := Aside0.mk (Kd.R_kept (Kd.R_types O14.out B3.out (by decide)) (krow_ w3 g3 #[.string z.f0, .int .i64 z.f1, .int .i64 z.f2, .string z.f3, .string z.f4, .bool z.f5, .slice zA6 z.f6.f0.length zc6, .slice zA7 z.f6.f1.length zc7, .int .i64 z.f7, .int .i64 z.f8, .int .i64 z.f9, .int .i64 z.f10, .int .i64 z.f11, .slice zA13 z.f12.length zc13, .slice zA14 z.f13.length zc14]) (fun _ h_ => h_.2)); have NB3 : Aside0 ((World.setRow w3 g3 #[.string z.f0, .int .i64 z.f1, .int .i64 z.f2, .string z.f3, .string z.f4, .bool z.f5, .slice zA6 z.f6.f0.length zc6, .slice zA7 z.f6.f1.length zc7, .int .i64 z.f7, .int .i64 z.f8, .int .i64 z.f9, .int .i64 z.f10, .int .i64 z.f11, .slice zA13 z.f12.length zc13, .slice zA14 z.f13.length zc14]).heap[g3]? = some (.cells #[.string z.f0, .int .i64 z.f1, .int .i64 z.f2, .string z.f3, .string z.f4, .bool z.f5, .slice zA6 z.f6.f0.length zc6, .slice zA7 z.f6.f1.length zc7, .int .i64 z.f7, .int .i64 z.f8, .int .i64 z.f9, .int .i64 z.f10, .int .i64 z.f11, .slice zA13 z.f12.length zc13, .slice zA14 z.f13.length zc14] 60 (0, 0))) := ⟨setRow_heap _ _ _ _ _ _ B3.out⟩; have NB : Aside0 (Below w.heap.size w (World.setRow w3 g3 #[.string z.f0, .int .i64 z.f1, .int .i64 z.f2, .string z.f3, .string z.f4, .bool z.f5, .slice zA6 z.f6.f0.length zc6, .slice zA7 z.f6.f1.length zc7, .int .i64 z.f7, .int .i64 z.f8, .int .i64 z.f9, .int .i64 z.f10, .int .i64 z.f11, .slice zA13 z.f12.length zc13, .slice zA14 z.f13.length zc14])) := ⟨brow' HB.out G3.out⟩; clear B3 HB O6 O7 O13 O14; generalize World.setRow w3 g3 #[.string z.f0, .int .i64 z.f1, .int .i64 z.f2, .string z.f3, .string z.f4, .bool z.f5, .slice zA6 z.f6.f0.length zc6, .slice zA7 z.f6.f1.length zc7, .int .i64 z.f7, .int .i64 z.f8, .int .i64 z.f9, .int .i64 z.f10, .int .i64 z.f11, .slice zA13 z.f12.length zc13, .slice zA14 z.f13.length zc14] = wA at NR6 NR7 NR13 NR14 NB3 NB ⊢))
  have B3 := NB3; have HB := NB; clear NB3 NB
  go_wp2_with fail
  refine (haberdashplay_Mod.calls how 16 m _ HM.out).mono ?_
  rintro e w4 ⟨rfl, nd, rfl⟩
  replace B3 := Aside0.mk (blk_drewN B3.out nd)
  replace HB := Aside0.mk (pw_below_drewN HB.out nd)
  replace NR6 := Aside0.mk (Kd.R_drewN NR6.out nd)
  replace NR7 := Aside0.mk (Kd.R_drewN NR7.out nd)
  replace NR13 := Aside0.mk (Kd.S_drewN NR13.out nd)
  replace NR14 := Aside0.mk (Kd.R_drewN NR14.out nd)
  generalize wA.drewN nd = wB at B3 HB NR6 NR7 NR13 NR14 ⊢
  go_upto_block 0 with fail
  go_cut [] (fun wc => ∃ (z : Pm) (zA6 : Option Addr) (zc6 : Nat) (zA7 : Option Addr) (zc7 : Nat) (zA13 : Option Addr) (zc13 : Nat) (zA14 : Option Addr) (zc14 : Nat), Aside0 (wc.heap[g3]? = some (.cells #[.string z.f0, .int .i64 z.f1, .int .i64 z.f2, .string z.f3, .string z.f4, .bool z.f5, .slice zA6 z.f6.f0.length zc6, .slice zA7 z.f6.f1.length zc7, .int .i64 z.f7, .int .i64 z.f8, .int .i64 z.f9, .int .i64 z.f10, .int .i64 z.f11, .slice zA13 z.f12.length zc13, .slice zA14 z.f13.length zc14] 60 (0, 0))) ∧ Aside0 (Kd.C Kd.string wc zA6 z.f6.f0.length z.f6.f0) ∧ Aside0 (z.f6.f0.length ≤ zc6) ∧ Aside0 (Kd.C Kd.string wc zA7 z.f6.f1.length z.f6.f1) ∧ Aside0 (z.f6.f1.length ≤ zc7) ∧ Aside0 (Kd.C k65 wc zA13 z.f12.length z.f12) ∧ Aside0 (z.f12.length ≤ zc13) ∧ Aside0 (Kd.C k67 wc zA14 z.f13.length z.f13) ∧ Aside0 (z.f13.length ≤ zc14) ∧ Aside0 (fitPm z) ∧ Aside0 (Below w.heap.size w wc))
  case first =>
    have hm16 : m = 0 ∨ m = 1 ∨ m = 2 ∨ m = 3 ∨ m = 4 ∨ m = 5 ∨ m = 6 ∨ m = 7 ∨ m = 8 ∨ m = 9 ∨ m = 10 ∨ m = 11 ∨ m = 12 ∨ m = 13 ∨ m = 14 ∨ m = 15 := by have := HRG.out; omega
    rcases hm16 with rfl | rfl | rfl | rfl | rfl | rfl | rfl | rfl | rfl | rfl | rfl | rfl | rfl | rfl | rfl | rfl
    · have c_ := cl_ B3 0; have e_ := blk_frozen B3.out 0
      go_wp2_with fail
      go_meet
      case rel => exact ⟨{z with f0 := s}, _, _, _, _, _, _, _, _, ⟨blk_put B3.out 0 (.string s) rfl⟩, ⟨(Kd.R_reads' (Kd.R_far (p := ⟨g3, 0, none⟩) NR6.out (fun _ hk => hk.2) (.string s))).2.2⟩, ⟨(Kd.R_reads' NR6.out).2.1⟩, ⟨(Kd.R_reads' (Kd.R_far (p := ⟨g3, 0, none⟩) NR7.out (fun _ hk => hk.2) (.string s))).2.2⟩, ⟨(Kd.R_reads' NR7.out).2.1⟩, ⟨(Kd.S_reads' (Kd.S_far (p := ⟨g3, 0, none⟩) NR13.out (fun _ hk => hk.2) (.string s))).2.2⟩, ⟨(Kd.S_reads' NR13.out).2.1⟩, ⟨(Kd.R_reads' (Kd.R_far (p := ⟨g3, 0, none⟩) NR14.out (fun _ hk => hk.2) (.string s))).2.2⟩, ⟨(Kd.R_reads' NR14.out).2.1⟩, ⟨⟨(show s.size ≤ 9223372036854775807 by have := HSZ.out; omega), FIT_.out.2.1, FIT_.out.2.2.1, FIT_.out.2.2.2.1, FIT_.out.2.2.2.2.1, FIT_.out.2.2.2.2.2.1, FIT_.out.2.2.2.2.2.2.1, FIT_.out.2.2.2.2.2.2.2⟩⟩, ⟨below_set HB.out G3.out⟩⟩
    · have c_ := cl_ B3 1; have e_ := blk_frozen B3.out 1
      go_wp2_with fail
      refine (haberdashplay_Mod.calls n 10 q _ HM10.out).mono ?_
      rintro e w5 ⟨rfl, nd, rfl⟩
      replace B3 := Aside0.mk (blk_drewN B3.out nd)
      replace HB := Aside0.mk (pw_below_drewN HB.out nd)
      replace NR6 := Aside0.mk (Kd.R_drewN NR6.out nd)
      replace NR7 := Aside0.mk (Kd.R_drewN NR7.out nd)
      replace NR13 := Aside0.mk (Kd.S_drewN NR13.out nd)
      replace NR14 := Aside0.mk (Kd.R_drewN NR14.out nd)
      generalize wB.drewN nd = wD at B3 HB NR6 NR7 NR13 NR14 ⊢
      clear c_ e_
      have c_ := cl_ B3 1; have e_ := blk_frozen B3.out 1
      go_wp2_with fail
      go_meet
      case rel => exact ⟨{z with f1 := wrap64 (q - 1)}, _, _, _, _, _, _, _, _, ⟨blk_put B3.out 1 (.int .i64 (wrap64 (q - 1))) rfl⟩, ⟨(Kd.R_reads' (Kd.R_far (p := ⟨g3, 1, none⟩) NR6.out (fun _ hk => hk.2) (.int .i64 (wrap64 (q - 1))))).2.2⟩, ⟨(Kd.R_reads' NR6.out).2.1⟩, ⟨(Kd.R_reads' (Kd.R_far (p := ⟨g3, 1, none⟩) NR7.out (fun _ hk => hk.2) (.int .i64 (wrap64 (q - 1))))).2.2⟩, ⟨(Kd.R_reads' NR7.out).2.1⟩, ⟨(Kd.S_reads' (Kd.S_far (p := ⟨g3, 1, none⟩) NR13.out (fun _ hk => hk.2) (.int .i64 (wrap64 (q - 1))))).2.2⟩, ⟨(Kd.S_reads' NR13.out).2.1⟩, ⟨(Kd.R_reads' (Kd.R_far (p := ⟨g3, 1, none⟩) NR14.out (fun _ hk => hk.2) (.int .i64 (wrap64 (q - 1))))).2.2⟩, ⟨(Kd.R_reads' NR14.out).2.1⟩, ⟨⟨FIT_.out.1, FIT_.out.2.1, FIT_.out.2.2.1, FIT_.out.2.2.2.1, FIT_.out.2.2.2.2.1, FIT_.out.2.2.2.2.2.1, FIT_.out.2.2.2.2.2.2.1, FIT_.out.2.2.2.2.2.2.2⟩⟩, ⟨below_set HB.out G3.out⟩⟩
    · have c_ := cl_ B3 2; have e_ := blk_frozen B3.out 2
      go_wp2_with fail
      go_meet
      case rel => exact ⟨{z with f2 := n}, _, _, _, _, _, _, _, _, ⟨blk_put B3.out 2 (.int .i64 n) rfl⟩, ⟨(Kd.R_reads' (Kd.R_far (p := ⟨g3, 2, none⟩) NR6.out (fun _ hk => hk.2) (.int .i64 n))).2.2⟩, ⟨(Kd.R_reads' NR6.out).2.1⟩, ⟨(Kd.R_reads' (Kd.R_far (p := ⟨g3, 2, none⟩) NR7.out (fun _ hk => hk.2) (.int .i64 n))).2.2⟩, ⟨(Kd.R_reads' NR7.out).2.1⟩, ⟨(Kd.S_reads' (Kd.S_far (p := ⟨g3, 2, none⟩) NR13.out (fun _ hk => hk.2) (.int .i64 n))).2.2⟩, ⟨(Kd.S_reads' NR13.out).2.1⟩, ⟨(Kd.R_reads' (Kd.R_far (p := ⟨g3, 2, none⟩) NR14.out (fun _ hk => hk.2) (.int .i64 n))).2.2⟩, ⟨(Kd.R_reads' NR14.out).2.1⟩, ⟨⟨FIT_.out.1, FIT_.out.2.1, FIT_.out.2.2.1, FIT_.out.2.2.2.1, FIT_.out.2.2.2.2.1, FIT_.out.2.2.2.2.2.1, FIT_.out.2.2.2.2.2.2.1, FIT_.out.2.2.2.2.2.2.2⟩⟩, ⟨below_set HB.out G3.out⟩⟩
    · have c_ := cl_ B3 3; have e_ := blk_frozen B3.out 3
      go_wp2_with fail
      go_meet
      case rel => exact ⟨{z with f3 := s}, _, _, _, _, _, _, _, _, ⟨blk_put B3.out 3 (.string s) rfl⟩, ⟨(Kd.R_reads' (Kd.R_far (p := ⟨g3, 3, none⟩) NR6.out (fun _ hk => hk.2) (.string s))).2.2⟩, ⟨(Kd.R_reads' NR6.out).2.1⟩, ⟨(Kd.R_reads' (Kd.R_far (p := ⟨g3, 3, none⟩) NR7.out (fun _ hk => hk.2) (.string s))).2.2⟩, ⟨(Kd.R_reads' NR7.out).2.1⟩, ⟨(Kd.S_reads' (Kd.S_far (p := ⟨g3, 3, none⟩) NR13.out (fun _ hk => hk.2) (.string s))).2.2⟩, ⟨(Kd.S_reads' NR13.out).2.1⟩, ⟨(Kd.R_reads' (Kd.R_far (p := ⟨g3, 3, none⟩) NR14.out (fun _ hk => hk.2) (.string s))).2.2⟩, ⟨(Kd.R_reads' NR14.out).2.1⟩, ⟨⟨FIT_.out.1, (show s.size ≤ 9223372036854775807 by have := HSZ.out; omega), FIT_.out.2.2.1, FIT_.out.2.2.2.1, FIT_.out.2.2.2.2.1, FIT_.out.2.2.2.2.2.1, FIT_.out.2.2.2.2.2.2.1, FIT_.out.2.2.2.2.2.2.2⟩⟩, ⟨below_set HB.out G3.out⟩⟩
    · have c_ := cl_ B3 4; have e_ := blk_frozen B3.out 4
      go_wp2_with fail
      go_meet
      case rel => exact ⟨{z with f4 := s}, _, _, _, _, _, _, _, _, ⟨blk_put B3.out 4 (.string s) rfl⟩, ⟨(Kd.R_reads' (Kd.R_far (p := ⟨g3, 4, none⟩) NR6.out (fun _ hk => hk.2) (.string s))).2.2⟩, ⟨(Kd.R_reads' NR6.out).2.1⟩, ⟨(Kd.R_reads' (Kd.R_far (p := ⟨g3, 4, none⟩) NR7.out (fun _ hk => hk.2) (.string s))).2.2⟩, ⟨(Kd.R_reads' NR7.out).2.1⟩, ⟨(Kd.S_reads' (Kd.S_far (p := ⟨g3, 4, none⟩) NR13.out (fun _ hk => hk.2) (.string s))).2.2⟩, ⟨(Kd.S_reads' NR13.out).2.1⟩, ⟨(Kd.R_reads' (Kd.R_far (p := ⟨g3, 4, none⟩) NR14.out (fun _ hk => hk.2) (.string s))).2.2⟩, ⟨(Kd.R_reads' NR14.out).2.1⟩, ⟨⟨FIT_.out.1, FIT_.out.2.1, (show s.size ≤ 9223372036854775807 by have := HSZ.out; omega), FIT_.out.2.2.2.1, FIT_.out.2.2.2.2.1, FIT_.out.2.2.2.2.2.1, FIT_.out.2.2.2.2.2.2.1, FIT_.out.2.2.2.2.2.2.2⟩⟩, ⟨below_set HB.out G3.out⟩⟩
    · have c_ := cl_ B3 8; have e_ := blk_frozen B3.out 8
      go_wp2_with fail
      go_meet
      case rel => exact ⟨{z with f7 := n}, _, _, _, _, _, _, _, _, ⟨blk_put B3.out 8 (.int .i64 n) rfl⟩, ⟨(Kd.R_reads' (Kd.R_far (p := ⟨g3, 8, none⟩) NR6.out (fun _ hk => hk.2) (.int .i64 n))).2.2⟩, ⟨(Kd.R_reads' NR6.out).2.1⟩, ⟨(Kd.R_reads' (Kd.R_far (p := ⟨g3, 8, none⟩) NR7.out (fun _ hk => hk.2) (.int .i64 n))).2.2⟩, ⟨(Kd.R_reads' NR7.out).2.1⟩, ⟨(Kd.S_reads' (Kd.S_far (p := ⟨g3, 8, none⟩) NR13.out (fun _ hk => hk.2) (.int .i64 n))).2.2⟩, ⟨(Kd.S_reads' NR13.out).2.1⟩, ⟨(Kd.R_reads' (Kd.R_far (p := ⟨g3, 8, none⟩) NR14.out (fun _ hk => hk.2) (.int .i64 n))).2.2⟩, ⟨(Kd.R_reads' NR14.out).2.1⟩, ⟨⟨FIT_.out.1, FIT_.out.2.1, FIT_.out.2.2.1, FIT_.out.2.2.2.1, FIT_.out.2.2.2.2.1, FIT_.out.2.2.2.2.2.1, FIT_.out.2.2.2.2.2.2.1, FIT_.out.2.2.2.2.2.2.2⟩⟩, ⟨below_set HB.out G3.out⟩⟩
    · have c_ := cl_ B3 9; have e_ := blk_frozen B3.out 9
      go_wp2_with fail
      go_meet
      case rel => exact ⟨{z with f8 := n}, _, _, _, _, _, _, _, _, ⟨blk_put B3.out 9 (.int .i64 n) rfl⟩, ⟨(Kd.R_reads' (Kd.R_far (p := ⟨g3, 9, none⟩) NR6.out (fun _ hk => hk.2) (.int .i64 n))).2.2⟩, ⟨(Kd.R_reads' NR6.out).2.1⟩, ⟨(Kd.R_reads' (Kd.R_far (p := ⟨g3, 9, none⟩) NR7.out (fun _ hk => hk.2) (.int .i64 n))).2.2⟩, ⟨(Kd.R_reads' NR7.out).2.1⟩, ⟨(Kd.S_reads' (Kd.S_far (p := ⟨g3, 9, none⟩) NR13.out (fun _ hk => hk.2) (.int .i64 n))).2.2⟩, ⟨(Kd.S_reads' NR13.out).2.1⟩, ⟨(Kd.R_reads' (Kd.R_far (p := ⟨g3, 9, none⟩) NR14.out (fun _ hk => hk.2) (.int .i64 n))).2.2⟩, ⟨(Kd.R_reads' NR14.out).2.1⟩, ⟨⟨FIT_.out.1, FIT_.out.2.1, FIT_.out.2.2.1, FIT_.out.2.2.2.1, FIT_.out.2.2.2.2.1, FIT_.out.2.2.2.2.2.1, FIT_.out.2.2.2.2.2.2.1, FIT_.out.2.2.2.2.2.2.2⟩⟩, ⟨below_set HB.out G3.out⟩⟩
    · have c_ := cl_ B3 10; have e_ := blk_frozen B3.out 10
      go_wp2_with fail
      go_meet
      case rel => exact ⟨{z with f9 := n}, _, _, _, _, _, _, _, _, ⟨blk_put B3.out 10 (.int .i64 n) rfl⟩, ⟨(Kd.R_reads' (Kd.R_far (p := ⟨g3, 10, none⟩) NR6.out (fun _ hk => hk.2) (.int .i64 n))).2.2⟩, ⟨(Kd.R_reads' NR6.out).2.1⟩, ⟨(Kd.R_reads' (Kd.R_far (p := ⟨g3, 10, none⟩) NR7.out (fun _ hk => hk.2) (.int .i64 n))).2.2⟩, ⟨(Kd.R_reads' NR7.out).2.1⟩, ⟨(Kd.S_reads' (Kd.S_far (p := ⟨g3, 10, none⟩) NR13.out (fun _ hk => hk.2) (.int .i64 n))).2.2⟩, ⟨(Kd.S_reads' NR13.out).2.1⟩, ⟨(Kd.R_reads' (Kd.R_far (p := ⟨g3, 10, none⟩) NR14.out (fun _ hk => hk.2) (.int .i64 n))).2.2⟩, ⟨(Kd.R_reads' NR14.out).2.1⟩, ⟨⟨FIT_.out.1, FIT_.out.2.1, FIT_.out.2.2.1, FIT_.out.2.2.2.1, FIT_.out.2.2.2.2.1, FIT_.out.2.2.2.2.2.1, FIT_.out.2.2.2.2.2.2.1, FIT_.out.2.2.2.2.2.2.2⟩⟩, ⟨below_set HB.out G3.out⟩⟩
    · have c_ := cl_ B3 11; have e_ := blk_frozen B3.out 11
      go_wp2_with fail
      refine (haberdashplay_Mod.calls n 104 p _ HM104.out).mono ?_
      rintro e w5 ⟨rfl, nd, rfl⟩
      replace B3 := Aside0.mk (blk_drewN B3.out nd)
      replace HB := Aside0.mk (pw_below_drewN HB.out nd)
      replace NR6 := Aside0.mk (Kd.R_drewN NR6.out nd)
      replace NR7 := Aside0.mk (Kd.R_drewN NR7.out nd)
      replace NR13 := Aside0.mk (Kd.S_drewN NR13.out nd)
      replace NR14 := Aside0.mk (Kd.R_drewN NR14.out nd)
      generalize wB.drewN nd = wD at B3 HB NR6 NR7 NR13 NR14 ⊢
      clear c_ e_
      have c_ := cl_ B3 11; have e_ := blk_frozen B3.out 11
      go_wp2_with fail
      go_meet
      case rel => exact ⟨{z with f10 := wrap64 (p - 1)}, _, _, _, _, _, _, _, _, ⟨blk_put B3.out 11 (.int .i64 (wrap64 (p - 1))) rfl⟩, ⟨(Kd.R_reads' (Kd.R_far (p := ⟨g3, 11, none⟩) NR6.out (fun _ hk => hk.2) (.int .i64 (wrap64 (p - 1))))).2.2⟩, ⟨(Kd.R_reads' NR6.out).2.1⟩, ⟨(Kd.R_reads' (Kd.R_far (p := ⟨g3, 11, none⟩) NR7.out (fun _ hk => hk.2) (.int .i64 (wrap64 (p - 1))))).2.2⟩, ⟨(Kd.R_reads' NR7.out).2.1⟩, ⟨(Kd.S_reads' (Kd.S_far (p := ⟨g3, 11, none⟩) NR13.out (fun _ hk => hk.2) (.int .i64 (wrap64 (p - 1))))).2.2⟩, ⟨(Kd.S_reads' NR13.out).2.1⟩, ⟨(Kd.R_reads' (Kd.R_far (p := ⟨g3, 11, none⟩) NR14.out (fun _ hk => hk.2) (.int .i64 (wrap64 (p - 1))))).2.2⟩, ⟨(Kd.R_reads' NR14.out).2.1⟩, ⟨⟨FIT_.out.1, FIT_.out.2.1, FIT_.out.2.2.1, FIT_.out.2.2.2.1, FIT_.out.2.2.2.2.1, FIT_.out.2.2.2.2.2.1, FIT_.out.2.2.2.2.2.2.1, FIT_.out.2.2.2.2.2.2.2⟩⟩, ⟨below_set HB.out G3.out⟩⟩
    · have c_ := cl_ B3 12; have e_ := blk_frozen B3.out 12
      go_wp2_with fail
      refine (haberdashplay_Mod.calls n 104 p _ HM104.out).mono ?_
      rintro e w5 ⟨rfl, nd, rfl⟩
      replace B3 := Aside0.mk (blk_drewN B3.out nd)
      replace HB := Aside0.mk (pw_below_drewN HB.out nd)
      replace NR6 := Aside0.mk (Kd.R_drewN NR6.out nd)
      replace NR7 := Aside0.mk (Kd.R_drewN NR7.out nd)
      replace NR13 := Aside0.mk (Kd.S_drewN NR13.out nd)
      replace NR14 := Aside0.mk (Kd.R_drewN NR14.out nd)
      generalize wB.drewN nd = wD at B3 HB NR6 NR7 NR13 NR14 ⊢
      clear c_ e_
      have c_ := cl_ B3 12; have e_ := blk_frozen B3.out 12
      go_wp2_with fail
      go_meet
      case rel => exact ⟨{z with f11 := wrap64 (p - 1)}, _, _, _, _, _, _, _, _, ⟨blk_put B3.out 12 (.int .i64 (wrap64 (p - 1))) rfl⟩, ⟨(Kd.R_reads' (Kd.R_far (p := ⟨g3, 12, none⟩) NR6.out (fun _ hk => hk.2) (.int .i64 (wrap64 (p - 1))))).2.2⟩, ⟨(Kd.R_reads' NR6.out).2.1⟩, ⟨(Kd.R_reads' (Kd.R_far (p := ⟨g3, 12, none⟩) NR7.out (fun _ hk => hk.2) (.int .i64 (wrap64 (p - 1))))).2.2⟩, ⟨(Kd.R_reads' NR7.out).2.1⟩, ⟨(Kd.S_reads' (Kd.S_far (p := ⟨g3, 12, none⟩) NR13.out (fun _ hk => hk.2) (.int .i64 (wrap64 (p - 1))))).2.2⟩, ⟨(Kd.S_reads' NR13.out).2.1⟩, ⟨(Kd.R_reads' (Kd.R_far (p := ⟨g3, 12, none⟩) NR14.out (fun _ hk => hk.2) (.int .i64 (wrap64 (p - 1))))).2.2⟩, ⟨(Kd.R_reads' NR14.out).2.1⟩, ⟨⟨FIT_.out.1, FIT_.out.2.1, FIT_.out.2.2.1, FIT_.out.2.2.2.1, FIT_.out.2.2.2.2.1, FIT_.out.2.2.2.2.2.1, FIT_.out.2.2.2.2.2.2.1, FIT_.out.2.2.2.2.2.2.2⟩⟩, ⟨below_set HB.out G3.out⟩⟩
    · obtain ⟨y, hy⟩ : ∃ y, y = z.f12 ++ [(⟨⟨([] : List ByteArray), ([] : List ByteArray)⟩, wrap64 (p - 1)⟩ : S65)] := ⟨_, rfl⟩
      have NY := Aside0.mk hy; clear hy
      go_upto_region 27 with fail
      refine start_ (n := 10) (S := fun w' => Aside0 (w'.heap[g3]? = some (.cells #[.string z.f0, .int .i64 z.f1, .int .i64 z.f2, .string z.f3, .string z.f4, .bool z.f5, .slice zA6 z.f6.f0.length zc6, .slice zA7 z.f6.f1.length zc7, .int .i64 z.f7, .int .i64 z.f8, .int .i64 z.f9, .int .i64 z.f10, .int .i64 z.f11, .slice zA13 z.f12.length zc13, .slice zA14 z.f13.length zc14] 60 (0, 0)))) (ds := [9]) (mk 10 0) (by kernel_rfl) rfl rfl ⟨blk_drew B3.out⟩ (fun hHeld => ?_); refine with_tabW tab27 bits27 (fun HT_ HW_ => ?_)
      replace B3 := Aside0.mk (blk_drew B3.out)
      replace HB := Aside0.mk (below_drew1 HB.out)
      replace NR6 := Aside0.mk (Kd.R_drew NR6.out)
      replace NR7 := Aside0.mk (Kd.R_drew NR7.out)
      replace NR13 := Aside0.mk (Kd.S_drew NR13.out)
      replace NR14 := Aside0.mk (Kd.R_drew NR14.out)
      generalize wB.drew = w6 at B3 HB NR6 NR7 NR13 NR14 hHeld ⊢
      refine ahead_ [(0, 71), (2, 73)] ?_
      iterate 2 (refine pA_ (v := ?_) (a' := ?_) rfl rfl HT_.out kr_ nh_ (Or.inl ⟨ry_, ?_⟩) ?_ ?_; rotate_left; (intro w'; go_simp; with_reducible rfl); rotate_left; (exact pu_))
      refine aheadE_ (mk 10 5) kr_ ?_
      refine ahead_ [(1, 72)] ?_
      refine tA_ (v := ?_) (a' := ?_) rfl rfl HT_.out HW_.out (by kernel_rfl) (fun _ _ _ h => h) (Or.inl ⟨by rfl, ?_⟩) hHeld ?_ ?_; rotate_left; (intro w' hs_; have c_ := cl_ hs_ 13; clear hs_; go_simp; with_reducible rfl); rotate_left; (exact pu_)
      refine aheadE_ (mk 10 7) kr_ ?_
      refine one_ (i := 3) (N := some 74) (mk 10 15) rfl rfl (on_ HT_) de_ (fun K hK => ?_)
      refine goes_ Try.func26 (by kernel_rfl) rfl #[.int .i64 n, .int .i64 104] (by rfl) rfl rfl am_ ?_
      with_reducible refine (haberdashplay_Mod.calls n 104 p _ HM104.out).mono ?_
      rintro e w' ⟨rfl, ⟨nd, rfl⟩⟩
      refine ⟨_, rfl, ?_⟩
      replace B3 := Aside0.mk (blk_drewN B3.out nd)
      replace HB := Aside0.mk (pw_below_drewN HB.out nd)
      replace NR6 := Aside0.mk (Kd.R_drewN NR6.out nd)
      replace NR7 := Aside0.mk (Kd.R_drewN NR7.out nd)
      replace NR13 := Aside0.mk (Kd.S_drewN NR13.out nd)
      replace NR14 := Aside0.mk (Kd.R_drewN NR14.out nd)
      generalize w6.drewN nd = w7 at B3 HB NR6 NR7 NR13 NR14 ⊢
      refine hK.out _ _ B3 (fun hHeld => ?_)
      clear hK K
      refine norm_ pv_ ?_
      refine ahead_ [(4, 75), (5, 76)] ?_
      iterate 2 (refine pA_ (v := ?_) (a' := ?_) rfl rfl HT_.out kr_ nh_ (Or.inl ⟨ry_, ?_⟩) ?_ ?_; rotate_left; (intro w'; go_simp; with_reducible rfl); rotate_left; (exact pu_))
      refine aheadE_ (mk 10 63) kr_ ?_
      refine one_ (i := 6) (N := some 77) (mk 10 127) rfl rfl (on_ HT_) de_ (fun K hK => ?_)
      refine value_ (w1 := ?_) (v := ?_) (by rfl) rfl ?_ ?_
      rotate_left 2
      · go_simp
        constructor
        · rfl
        · rfl
      refine hK.out _ _ ⟨blk_alloc B3.out _⟩ (fun hHeld => ?_)
      clear hK K
      refine norm_ pv_ ?_
      refine one_ (i := 7) (N := some 78) (mk 10 255) rfl rfl (on_ HT_) de_ (fun K hK => ?_)
      refine Kd.S_append_step k65 (w0 := w) w.heap.size (by rfl) (.tmp 72) (.tmp 77) 57 65 (.agg #[(.slice none 0 0), (.slice none 0 0), (.int .i64 0)]) 56 rfl Try.underlying57 info65 rfl (by decide) (by omega) (.slice zA13 z.f12.length zc13) z.f12 (⟨⟨([] : List ByteArray), ([] : List ByteArray)⟩, wrap64 (p - 1)⟩ : S65) [.slice none 0 0, .slice none 0 0, .int .i64 (wrap64 (p - 1))] (fun k_ => (some k_ ≠ (.slice zA6 z.f6.f0.length zc6 : Value).ownBlock ∧ some k_ ≠ (.slice zA7 z.f6.f1.length zc7 : Value).ownBlock) ∧ k_ ≠ g3) (fun _ => False) rfl rfl ?aP (fun k_ hk_ => hk_.elim) ?aF ?aO ?aB ?aS ?aL ?_
      (case aP => exact k65_mkM _ _ _ (⟨⟨([] : List ByteArray), ([] : List ByteArray)⟩, wrap64 (p - 1)⟩ : S65) (Kd.R_nil _ _ _ _ _) (Kd.R_nil _ _ _ _ _))
      (case aB => exact HB.out)
      (case aF => exact (fun k_ hk => ⟨⟨Kd.fresh' (Kd.R_lt NR6.out) k_ hk, Kd.fresh' (Kd.R_lt NR7.out) k_ hk⟩, by have := blk_lt B3.out; omega⟩))
      (case aO => exact Kd.S_mono NR13.out (fun k_ hk => ⟨hk, fun e_ => e_⟩))
      (case aS => exact (below_size HB.out))
      (case aL => have := SH.out.2.1; omega)
      intro v9 w9 ho hb hg hat
      rw [← NY.out] at ho
      have n0_ := Aside0.mk (blk_grown (bk_ B3) hg (Kd.S_ne NR13.out B3.out (by decide)))
      have n1_ := Aside0.mk (Kd.R_over' NR6.out (Kd.S_typed NR13.out) (by decide) hg)
      have n2_ := Aside0.mk (Kd.R_over' NR7.out (Kd.S_typed NR13.out) (by decide) hg)
      have n3_ := Aside0.mk (Kd.R_over' NR14.out (Kd.S_typed NR13.out) (by decide) hg)
      clear B3 NR6 NR7 NR14 NR13 HB
      have B3 := n0_; have NR6 := n1_; have NR7 := n2_; have NR14 := n3_; have NR13 := Aside0.mk ho; have HB := Aside0.mk hb
      clear n0_ n1_ n2_ n3_ ho hb hg hat
      obtain ⟨yA, yc, rfl⟩ := Kd.S_slice NR13.out
      refine hK.out _ _ B3 (fun hHeld => ?_)
      clear hK K
      refine norm_ pv_ ?_
      refine ahead_ [(8, 79)] ?_
      refine pA_ (v := ?_) (a' := ?_) rfl rfl HT_.out kr_ nh_ (Or.inl ⟨ry_, ?_⟩) ?_ ?_; rotate_left; (intro w'; go_simp; with_reducible rfl); rotate_left; (exact pu_)
      refine aheadE_ (mk 10 511) kr_ ?_
      refine last_ (i := 9) (N := none) (mk 10 1023) rfl rfl (on_ HT_) de_ (fun K hK => ?_)
      have c_ := cl_ B3 13; have e_ := blk_frozen B3.out 13
      refine skip_ (w1 := ?_) (by rfl) rfl ?_ ?_
      rotate_left
      · go_simp
        rfl
      refine hK.out _ _ ?_
      clear hK K
      refine done_ (done_of HT_.out (by kernel_rfl)) ?_
      try go_wp2
      go_meet
      case rel => exact ⟨({z with f12 := y} : Pm), _, _, _, _, _, _, _, _, ⟨blk_put B3.out 13 (.slice yA y.length yc) rfl⟩, ⟨(Kd.R_reads' (Kd.R_far (p := ⟨g3, 13, none⟩) NR6.out (fun _ hk => hk.2) (.slice yA y.length yc))).2.2⟩, ⟨(Kd.R_reads' NR6.out).2.1⟩, ⟨(Kd.R_reads' (Kd.R_far (p := ⟨g3, 13, none⟩) NR7.out (fun _ hk => hk.2) (.slice yA y.length yc))).2.2⟩, ⟨(Kd.R_reads' NR7.out).2.1⟩, ⟨(Kd.S_reads' (Kd.S_far (p := ⟨g3, 13, none⟩) NR13.out (fun _ hk => hk.2) (.slice yA y.length yc))).2.2⟩, ⟨(Kd.S_reads' NR13.out).2.1⟩, ⟨(Kd.R_reads' (Kd.R_far (p := ⟨g3, 13, none⟩) NR14.out (fun _ hk => hk.2) (.slice yA y.length yc))).2.2⟩, ⟨(Kd.R_reads' NR14.out).2.1⟩, ⟨⟨FIT_.out.1, FIT_.out.2.1, FIT_.out.2.2.1, FIT_.out.2.2.2.1, FIT_.out.2.2.2.2.1, (show y.length ≤ 9223372036854775807 by rw [NY.out, List.length_append, List.length_singleton]; have := SH.out.2.1; omega), FIT_.out.2.2.2.2.2.2.1, (show ∀ i, i < y.length → fitP (rd_T65 y (i : Int)) by rw [NY.out]; exact rdP_snoc _ _ FIT_.out.2.2.2.2.2.2.2 ⟨fitL_nil, fitL_nil⟩)⟩⟩, ⟨below_set HB.out G3.out⟩⟩
    · obtain ⟨y, hy⟩ : ∃ y, y = z.f13 ++ [(⟨n, 100, 0⟩ : S67)] := ⟨_, rfl⟩
      have NY := Aside0.mk hy; clear hy
      have c_ := cl_ B3 14; have e_ := blk_frozen B3.out 14
      go_wp2_with (first | ((with_reducible refine gate_builtin (b := .append) (xs := #[.tmp 83, .tmp 86]) rfl ?_); at_builtin; refine Kd.R_append k67 (w0 := w) w.heap.size rfl (.tmp 83) (.tmp 86) 58 67 (.agg #[(.int .i64 0), (.int .i64 0), (.int .i64 0)]) 24 rfl Try.underlying58 info67 rfl (by decide) (by omega) (.slice zA14 z.f13.length zc14) z.f13 (⟨n, 100, 0⟩ : S67) [.int .i64 n, .int .i64 100, .int .i64 0] (fun k_ => True ∧ k_ ≠ g3) (fun _ => False) rfl (by first | (go_simp; done) | (go_simp; rfl)) ?aP (fun _ hk => hk.elim) ?aF ?aO ?aB ?aS ?aL ?_; (case aP => exact k67_mkM _ _ _ (⟨n, 100, 0⟩ : S67)); (case aB => exact HB.out); (case aF => exact (fun k_ hk => ⟨trivial, by have := blk_lt B3.out; omega⟩)); (case aO => exact NR14.out); (case aS => exact (below_size HB.out)); (case aL => have := SH.out.2.2; omega); intro v9 w9 ho hb hg hat; rw [← NY.out] at ho; have n0_ := Aside0.mk (blk_grown (bk_ B3) hg (Kd.R_ne NR14.out B3.out (by decide))); have n6_ := Aside0.mk (Kd.R_over' NR6.out (Kd.R_typed NR14.out) (by decide) hg); have n7_ := Aside0.mk (Kd.R_over' NR7.out (Kd.R_typed NR14.out) (by decide) hg); have n13_ := Aside0.mk (Kd.S_over' NR13.out (Kd.R_typed NR14.out) (by decide) hg); clear B3 NR6 NR7 NR13 NR14 HB; have B3 := n0_; have NR14 := Aside0.mk ho; have HB := Aside0.mk hb; have NR6 := n6_; have NR7 := n7_; have NR13 := n13_; clear n0_ n6_ n7_ n13_ ho hb hg hat; obtain ⟨yA, yc, rfl⟩ := Kd.R_slice NR14.out; clear c_ e_; have c_ := cl_ B3 14; have e_ := blk_frozen B3.out 14))
      go_meet
      case rel => exact ⟨({z with f13 := y} : Pm), _, _, _, _, _, _, _, _, ⟨blk_put B3.out 14 (.slice yA y.length yc) rfl⟩, ⟨(Kd.R_reads' (Kd.R_far (p := ⟨g3, 14, none⟩) NR6.out (fun _ hk => hk.2) (.slice yA y.length yc))).2.2⟩, ⟨(Kd.R_reads' NR6.out).2.1⟩, ⟨(Kd.R_reads' (Kd.R_far (p := ⟨g3, 14, none⟩) NR7.out (fun _ hk => hk.2) (.slice yA y.length yc))).2.2⟩, ⟨(Kd.R_reads' NR7.out).2.1⟩, ⟨(Kd.S_reads' (Kd.S_far (p := ⟨g3, 14, none⟩) NR13.out (fun _ hk => hk.2) (.slice yA y.length yc))).2.2⟩, ⟨(Kd.S_reads' NR13.out).2.1⟩, ⟨(Kd.R_reads' (Kd.R_far (p := ⟨g3, 14, none⟩) NR14.out (fun _ hk => hk.2) (.slice yA y.length yc))).2.2⟩, ⟨(Kd.R_reads' NR14.out).2.1⟩, ⟨⟨FIT_.out.1, FIT_.out.2.1, FIT_.out.2.2.1, FIT_.out.2.2.2.1, FIT_.out.2.2.2.2.1, FIT_.out.2.2.2.2.2.1, (show y.length ≤ 9223372036854775807 by rw [NY.out, List.length_append, List.length_singleton]; have := SH.out.2.2; omega), FIT_.out.2.2.2.2.2.2.2⟩⟩, ⟨below_set HB.out G3.out⟩⟩
    · have c_ := cl_ B3 5; have e_ := blk_frozen B3.out 5
      go_wp2_with fail
      go_meet
      case rel => exact ⟨{z with f5 := !z.f5}, _, _, _, _, _, _, _, _, ⟨blk_put B3.out 5 (.bool !z.f5) rfl⟩, ⟨(Kd.R_reads' (Kd.R_far (p := ⟨g3, 5, none⟩) NR6.out (fun _ hk => hk.2) (.bool !z.f5))).2.2⟩, ⟨(Kd.R_reads' NR6.out).2.1⟩, ⟨(Kd.R_reads' (Kd.R_far (p := ⟨g3, 5, none⟩) NR7.out (fun _ hk => hk.2) (.bool !z.f5))).2.2⟩, ⟨(Kd.R_reads' NR7.out).2.1⟩, ⟨(Kd.S_reads' (Kd.S_far (p := ⟨g3, 5, none⟩) NR13.out (fun _ hk => hk.2) (.bool !z.f5))).2.2⟩, ⟨(Kd.S_reads' NR13.out).2.1⟩, ⟨(Kd.R_reads' (Kd.R_far (p := ⟨g3, 5, none⟩) NR14.out (fun _ hk => hk.2) (.bool !z.f5))).2.2⟩, ⟨(Kd.R_reads' NR14.out).2.1⟩, ⟨⟨FIT_.out.1, FIT_.out.2.1, FIT_.out.2.2.1, FIT_.out.2.2.2.1, FIT_.out.2.2.2.2.1, FIT_.out.2.2.2.2.2.1, FIT_.out.2.2.2.2.2.2.1, FIT_.out.2.2.2.2.2.2.2⟩⟩, ⟨below_set HB.out G3.out⟩⟩
    · obtain ⟨y, hy⟩ : ∃ y, y = z.f6.f0 ++ [s] := ⟨_, rfl⟩
      have NY := Aside0.mk hy; clear hy
      have c_ := cl_ B3 6; have e_ := blk_frozen B3.out 6
      go_wp2_with (first | ((with_reducible refine gate_builtin (b := .append) (xs := #[.tmp 99, .tmp 101]) rfl ?_); at_builtin; refine Kd.R_append Kd.string (w0 := w) w.heap.size rfl (.tmp 99) (.tmp 101) 54 9 (.string ⟨#[]⟩) 16 rfl Try.underlying54 info9 rfl (by decide) (by omega) (.slice zA6 z.f6.f0.length zc6) z.f6.f0 s [.string s] (fun k_ => some k_ ≠ (.slice zA7 z.f6.f1.length zc7 : Value).ownBlock ∧ k_ ≠ g3) (fun _ => False) rfl (by first | (go_simp; done) | (go_simp; rfl)) ?aP (fun _ hk => hk.elim) ?aF ?aO ?aB ?aS ?aL ?_; (case aP => exact rfl); (case aB => exact HB.out); (case aF => exact (fun k_ hk => ⟨Kd.fresh' (Kd.R_lt NR7.out) k_ hk, by have := blk_lt B3.out; omega⟩)); (case aO => exact NR6.out); (case aS => exact (below_size HB.out)); (case aL => have := SH.out.1; omega); intro v9 w9 ho hb hg hat; rw [← NY.out] at ho; have n0_ := Aside0.mk (blk_grown (bk_ B3) hg (Kd.R_ne NR6.out B3.out (by decide))); have n7_ := Aside0.mk (Kd.R_grown NR7.out hg (fun _ h_ => h_.1)); have n13_ := Aside0.mk (Kd.S_grown NR13.out hg (fun _ h_ => h_.1.1)); have n14_ := Aside0.mk (Kd.R_over' NR14.out (Kd.R_typed NR6.out) (by decide) hg); clear B3 NR6 NR7 NR13 NR14 HB; have B3 := n0_; have NR6 := Aside0.mk ho; have HB := Aside0.mk hb; have NR7 := n7_; have NR13 := n13_; have NR14 := n14_; clear n0_ n7_ n13_ n14_ ho hb hg hat; obtain ⟨yA, yc, rfl⟩ := Kd.R_slice NR6.out; clear c_ e_; have c_ := cl_ B3 6; have e_ := blk_frozen B3.out 6))
      go_meet
      case rel => exact ⟨({z with f6 := ⟨y, z.f6.f1⟩} : Pm), _, _, _, _, _, _, _, _, ⟨blk_put B3.out 6 (.slice yA y.length yc) rfl⟩, ⟨(Kd.R_reads' (Kd.R_far (p := ⟨g3, 6, none⟩) NR6.out (fun _ hk => hk.2) (.slice yA y.length yc))).2.2⟩, ⟨(Kd.R_reads' NR6.out).2.1⟩, ⟨(Kd.R_reads' (Kd.R_far (p := ⟨g3, 6, none⟩) NR7.out (fun _ hk => hk.2) (.slice yA y.length yc))).2.2⟩, ⟨(Kd.R_reads' NR7.out).2.1⟩, ⟨(Kd.S_reads' (Kd.S_far (p := ⟨g3, 6, none⟩) NR13.out (fun _ hk => hk.2) (.slice yA y.length yc))).2.2⟩, ⟨(Kd.S_reads' NR13.out).2.1⟩, ⟨(Kd.R_reads' (Kd.R_far (p := ⟨g3, 6, none⟩) NR14.out (fun _ hk => hk.2) (.slice yA y.length yc))).2.2⟩, ⟨(Kd.R_reads' NR14.out).2.1⟩, ⟨⟨FIT_.out.1, FIT_.out.2.1, FIT_.out.2.2.1, (show fitL y by rw [NY.out]; exact fitL_snoc FIT_.out.2.2.2.1 SH.out.1 (show s.size ≤ 9223372036854775807 by have := HSZ.out; omega)), FIT_.out.2.2.2.2.1, FIT_.out.2.2.2.2.2.1, FIT_.out.2.2.2.2.2.2.1, FIT_.out.2.2.2.2.2.2.2⟩⟩, ⟨below_set HB.out G3.out⟩⟩
    · have c_ := cl_ B3 14; have e_ := blk_frozen B3.out 14
      go_wp2_with fail
      go_meet
      case rel => exact ⟨({z with f13 := []} : Pm), _, _, _, _, _, _, _, _, ⟨blk_put B3.out 14 (.slice none 0 0) rfl⟩, ⟨(Kd.R_reads' (Kd.R_far (p := ⟨g3, 14, none⟩) NR6.out (fun _ hk => hk.2) (.slice none 0 0))).2.2⟩, ⟨(Kd.R_reads' NR6.out).2.1⟩, ⟨(Kd.R_reads' (Kd.R_far (p := ⟨g3, 14, none⟩) NR7.out (fun _ hk => hk.2) (.slice none 0 0))).2.2⟩, ⟨(Kd.R_reads' NR7.out).2.1⟩, ⟨(Kd.S_reads' (Kd.S_far (p := ⟨g3, 14, none⟩) NR13.out (fun _ hk => hk.2) (.slice none 0 0))).2.2⟩, ⟨(Kd.S_reads' NR13.out).2.1⟩, ⟨Kd.C_nil _ _⟩, ⟨Nat.le_refl _⟩, ⟨⟨FIT_.out.1, FIT_.out.2.1, FIT_.out.2.2.1, FIT_.out.2.2.2.1, FIT_.out.2.2.2.2.1, FIT_.out.2.2.2.2.2.1, (by simp), FIT_.out.2.2.2.2.2.2.2⟩⟩, ⟨below_set HB.out G3.out⟩⟩
    · have c_ := cl_ B3 13; have e_ := blk_frozen B3.out 13
      go_wp2_with fail
      go_meet
      case rel => exact ⟨({z with f12 := []} : Pm), _, _, _, _, _, _, _, _, ⟨blk_put B3.out 13 (.slice none 0 0) rfl⟩, ⟨(Kd.R_reads' (Kd.R_far (p := ⟨g3, 13, none⟩) NR6.out (fun _ hk => hk.2) (.slice none 0 0))).2.2⟩, ⟨(Kd.R_reads' NR6.out).2.1⟩, ⟨(Kd.R_reads' (Kd.R_far (p := ⟨g3, 13, none⟩) NR7.out (fun _ hk => hk.2) (.slice none 0 0))).2.2⟩, ⟨(Kd.R_reads' NR7.out).2.1⟩, ⟨Kd.C_nil _ _⟩, ⟨Nat.le_refl _⟩, ⟨(Kd.R_reads' (Kd.R_far (p := ⟨g3, 13, none⟩) NR14.out (fun _ hk => hk.2) (.slice none 0 0))).2.2⟩, ⟨(Kd.R_reads' NR14.out).2.1⟩, ⟨⟨FIT_.out.1, FIT_.out.2.1, FIT_.out.2.2.1, FIT_.out.2.2.2.1, FIT_.out.2.2.2.2.1, (by simp), FIT_.out.2.2.2.2.2.2.1, (fun i hi => absurd hi (by simp))⟩⟩, ⟨below_set HB.out G3.out⟩⟩
  case rest =>
  clear B3 HB NR6 NR7 NR13 NR14 FIT_ SH NOK
  obtain ⟨z, zA6, zc6, zA7, zc7, zA13, zc13, zA14, zc14, B3, N6, NC6, N7, NC7, N13, NC13, N14, NC14, FIT_, HB⟩ := hcut
  obtain ⟨kq, hkq⟩ := (rpm_f z FIT_.out).rounds
  obtain ⟨v1_, hv1_⟩ : ∃ b, pmOk z = b := ⟨_, rfl⟩
  obtain ⟨v2_, hv2_⟩ : ∃ b, b = v1_ := ⟨_, rfl⟩
  have hr_ := right_pm z
  rw [hv1_] at hkq hr_
  rw [← hv2_] at hkq
  have c7b0 : (v1_ == v2_) = true := by rw [hv2_]; cases v1_ <;> rfl
  have C7 := Aside0.mk c7b0; have HKQ := Aside0.mk hkq; have HRI := Aside0.mk hr_
  clear hkq hv1_ hv2_ c7b0 hr_
  have HQ := Aside0.mk (Below.refl wc.heap.size wc)
  go_upto_region 36 with fail
  refine start_ (n := 9) (S := fun w' => Aside0 (w'.heap[g3]? = some (.cells #[.string z.f0, .int .i64 z.f1, .int .i64 z.f2, .string z.f3, .string z.f4, .bool z.f5, .slice zA6 z.f6.f0.length zc6, .slice zA7 z.f6.f1.length zc7, .int .i64 z.f7, .int .i64 z.f8, .int .i64 z.f9, .int .i64 z.f10, .int .i64 z.f11, .slice zA13 z.f12.length zc13, .slice zA14 z.f13.length zc14] 60 (0, 0)))) (ds := []) (mk 9 0) (by kernel_rfl) rfl rfl ⟨blk_drew B3.out⟩ (fun hHeld => ?_); refine with_tabW tab36 bits36 (fun HT_ HW_ => ?_)
  replace B3 := Aside0.mk (blk_drew B3.out); replace HQ := Aside0.mk (below_drew1 HQ.out)
  generalize wc.drew = w6 at B3 HQ hHeld ⊢
  refine one_ (i := 0) (N := some 108) (mk 9 1) rfl rfl (on_ HT_) de_ (fun K hK => ?_)
  refine goes_ Try.func28 (by kernel_rfl) rfl #[] (by rfl) rfl rfl am_ ?_
  refine (awake_calls _).mono ?_
  rintro e w7 ⟨rfl, hb⟩
  refine ⟨_, rfl, ?_⟩
  replace B3 := Aside0.mk (blk_below B3.out hb); replace HQ := Aside0.mk (below_step HQ.out hb); clear hb
  refine hK.out _ _ B3 (fun hHeld => ?_)
  clear hK K
  refine norm_ pv_ ?_
  refine ahead_ [(1, 109)] ?_
  refine pB_ HT_ ?_
  refine aheadE_ (mk 9 3) kr_ ?_
  refine take_ (i := 2) (N := some 110) (v := ?_) (a' := ?_) (mk 9 7) rfl rfl (tw_ HT_ HW_) nh_ (Or.inl ⟨by rfl, ?_⟩) hHeld ?_ ?_
  rotate_left; (intro w' hs_; have d0_ := cl_ hs_ 0; have d1_ := cl_ hs_ 1; have d2_ := cl_ hs_ 2; have d3_ := cl_ hs_ 3; have d4_ := cl_ hs_ 4; have d5_ := cl_ hs_ 5; have d6_ := cl_ hs_ 6; have d7_ := cl_ hs_ 7; have d8_ := cl_ hs_ 8; have d9_ := cl_ hs_ 9; have d10_ := cl_ hs_ 10; have d11_ := cl_ hs_ 11; have d12_ := cl_ hs_ 12; have d13_ := cl_ hs_ 13; have d14_ := cl_ hs_ 14; clear hs_; go_simp; with_reducible rfl); rotate_left; (exact pu_)
  refine take_ (i := 4) (N := some 112) (v := ?_) (a' := ?_) (mk 9 23) rfl rfl (tw_ HT_ HW_) nh_ (Or.inl ⟨by rfl, ?_⟩) hHeld ?_ ?_
  rotate_left; (intro w' hs_; have d0_ := cl_ hs_ 0; have d1_ := cl_ hs_ 1; have d2_ := cl_ hs_ 2; have d3_ := cl_ hs_ 3; have d4_ := cl_ hs_ 4; have d5_ := cl_ hs_ 5; have d6_ := cl_ hs_ 6; have d7_ := cl_ hs_ 7; have d8_ := cl_ hs_ 8; have d9_ := cl_ hs_ 9; have d10_ := cl_ hs_ 10; have d11_ := cl_ hs_ 11; have d12_ := cl_ hs_ 12; have d13_ := cl_ hs_ 13; have d14_ := cl_ hs_ 14; clear hs_; go_simp; with_reducible rfl); rotate_left; (exact pu_)
  refine one_ (i := 3) (N := some 111) (mk 9 31) rfl rfl (on_ HT_) de_ (fun K hK => ?_)
  refine goes_ Try.func30 (by kernel_rfl) rfl #[.agg #[.string z.f0, .int .i64 z.f1, .int .i64 z.f2, .string z.f3, .string z.f4, .bool z.f5, .slice zA6 z.f6.f0.length zc6, .slice zA7 z.f6.f1.length zc7, .int .i64 z.f7, .int .i64 z.f8, .int .i64 z.f9, .int .i64 z.f10, .int .i64 z.f11, .slice zA13 z.f12.length zc13, .slice zA14 z.f13.length zc14]] (by rfl) rfl rfl am_ ?_
  refine (right_of z _ NC6.out (Kd.C_below N6.out HQ.out) NC7.out (Kd.C_below N7.out HQ.out) NC13.out (Kd.C_below N13.out HQ.out) NC14.out (Kd.C_below N14.out HQ.out)).mono ?_
  rintro e w7 ⟨rfl, hb⟩
  rw [HRI.out]
  refine ⟨_, rfl, ?_⟩
  replace B3 := Aside0.mk (blk_below B3.out hb); replace HQ := Aside0.mk (below_step HQ.out hb); clear hb
  refine hK.out _ _ B3 (fun hHeld => ?_)
  clear hK K
  refine norm_ pv_ ?_
  refine one_ (i := 5) (N := some 113) (mk 9 63) rfl rfl (on_ HT_) de_ (fun K hK => ?_)
  refine goes_ Try.func31 (by kernel_rfl) rfl #[.agg #[.string z.f0, .int .i64 z.f1, .int .i64 z.f2, .string z.f3, .string z.f4, .bool z.f5, .slice zA6 z.f6.f0.length zc6, .slice zA7 z.f6.f1.length zc7, .int .i64 z.f7, .int .i64 z.f8, .int .i64 z.f9, .int .i64 z.f10, .int .i64 z.f11, .slice zA13 z.f12.length zc13, .slice zA14 z.f13.length zc14]] (by rfl) rfl rfl am_ ?_
  refine (haberdashref10_Promo.calls kq z.f0 z.f1 z.f2 z.f3 z.f4 z.f5 _ _ z.f6.f0 _ _ z.f6.f1 z.f7 z.f8 z.f9 z.f10 z.f11 _ _ z.f12 _ _ z.f13 v2_ _ (Kd.C_below N6.out HQ.out) NC6.out (Kd.C_below N7.out HQ.out) NC7.out (Kd.C_below N13.out HQ.out) NC13.out (Kd.C_below N14.out HQ.out) NC14.out HKQ.out).mono ?_
  rintro e w7 ⟨rfl, hb⟩
  refine ⟨_, rfl, ?_⟩
  replace B3 := Aside0.mk (blk_below B3.out hb); replace HQ := Aside0.mk (below_step HQ.out hb); clear hb
  refine hK.out _ _ B3 (fun hHeld => ?_)
  clear hK K
  refine norm_ pv_ ?_
  have c7b0 := C7.out
  refine ahead_ [(6, 114), (7, 115), (8, 8)] ?_
  iterate 3 (refine pB_ HT_ ?_)
  refine aheadE_ (mk 9 511) kr_ ?_
  refine done_ (done_of HT_.out (by kernel_rfl)) ?_
  try go_wp2
  go_ret
  exact ⟨rfl, below_step HB.out HQ.out⟩
noncomputable def fitB (x : Pm) : Bool := @decide (fitPm x) (Classical.propDecidable _)
noncomputable def f (n : Nat) (f0 : ByteArray) (f1 : Int) (f2 : Int) (f3 : ByteArray) (f4 : ByteArray) (f5 : Bool) (f6 : List ByteArray) (f7 : List ByteArray) (f8 : Int) (f9 : Int) (f10 : Int) (f11 : Int) (f12 : Int) (f13 : List (S65)) (f14 : List (S67)) (how : Int) (n_ : Int) (s : ByteArray) : Option Bool := if fitB (⟨f0, f1, f2, f3, f4, f5, ⟨f6, f7⟩, f8, f9, f10, f11, f12, f13, f14⟩ : Pm) = true then some true else none
theorem calls (n : Nat) (f0 : ByteArray) (f1 : Int) (f2 : Int) (f3 : ByteArray) (f4 : ByteArray) (f5 : Bool) (A6 : Option Addr) (c6 : Nat) (f6 : List ByteArray) (A7 : Option Addr) (c7 : Nat) (f7 : List ByteArray) (f8 : Int) (f9 : Int) (f10 : Int) (f11 : Int) (f12 : Int) (A13 : Option Addr) (c13 : Nat) (f13 : List (S65)) (A14 : Option Addr) (c14 : Nat) (f14 : List (S67)) (how : Int) (n_ : Int) (s : ByteArray) (y : Bool) (w : World) (h6 : Kd.C Kd.string w A6 f6.length f6) (hc6 : f6.length ≤ c6) (h7 : Kd.C Kd.string w A7 f7.length f7) (hc7 : f7.length ≤ c7) (h13 : Kd.C k65 w A13 f13.length f13) (hc13 : f13.length ≤ c13) (h14 : Kd.C k67 w A14 f14.length f14) (hc14 : f14.length ≤ c14) (h : f n f0 f1 f2 f3 f4 f5 f6 f7 f8 f9 f10 f11 f12 f13 f14 how n_ s = some y) :
    Calls Try.prog 7 #[.agg #[.string f0, .int .i64 f1, .int .i64 f2, .string f3, .string f4, .bool f5, .slice A6 f6.length c6, .slice A7 f7.length c7, .int .i64 f8, .int .i64 f9, .int .i64 f10, .int .i64 f11, .int .i64 f12, .slice A13 f13.length c13, .slice A14 f14.length c14], .int .i64 how, .int .i64 n_, .string s] w fun e w' => e = .returned (.bool y) ∧ Below w.heap.size w w' := by
  unfold f at h
  by_cases hf : fitB (⟨f0, f1, f2, f3, f4, f5, ⟨f6, f7⟩, f8, f9, f10, f11, f12, f13, f14⟩ : Pm) = true
  · rw [if_pos hf] at h
    obtain rfl : y = true := by injection h with h; exact h.symm
    exact turned' (⟨f0, f1, f2, f3, f4, f5, ⟨f6, f7⟩, f8, f9, f10, f11, f12, f13, f14⟩ : Pm) how n_ s (@of_decide_eq_true _ (Classical.propDecidable _) hf) h6 hc6 h7 hc7 h13 hc13 h14 hc14
  · rw [if_neg hf] at h
    exact absurd h (by simp)
theorem good_fit (x0 : Rw.S60) (g0 : (x0.f0.size ≤ 9223372036854775807 ∧ ((Lit.int .i64 x0.f1).wf = true ∧ ((Lit.int .i64 x0.f2).wf = true ∧ (x0.f3.size ≤ 9223372036854775807 ∧ (x0.f4.size ≤ 9223372036854775807 ∧ (True ∧ (((x0.f6.f0.length ≤ 9223372036854775807 ∧ ∀ y0 ∈ x0.f6.f0, y0.size ≤ 9223372036854775807) ∧ ((x0.f6.f1.length ≤ 9223372036854775807 ∧ ∀ y0 ∈ x0.f6.f1, y0.size ≤ 9223372036854775807))) ∧ ((Lit.int .i64 x0.f7).wf = true ∧ ((Lit.int .i64 x0.f8).wf = true ∧ ((Lit.int .i64 x0.f9).wf = true ∧ ((Lit.int .i64 x0.f10).wf = true ∧ ((Lit.int .i64 x0.f11).wf = true ∧ ((x0.f12.length ≤ 9223372036854775807 ∧ ∀ y0 ∈ x0.f12, (((y0.f0.f0.length ≤ 9223372036854775807 ∧ ∀ y1 ∈ y0.f0.f0, y1.size ≤ 9223372036854775807) ∧ ((y0.f0.f1.length ≤ 9223372036854775807 ∧ ∀ y1 ∈ y0.f0.f1, y1.size ≤ 9223372036854775807))) ∧ ((Lit.int .i64 y0.f1).wf = true))) ∧ ((x0.f13.length ≤ 9223372036854775807 ∧ ∀ y0 ∈ x0.f13, ((Lit.int .i64 y0.f0).wf = true ∧ ((Lit.int .i64 y0.f1).wf = true ∧ ((Lit.int .i64 y0.f2).wf = true))))))))))))))))))) : fitPm x0 := by
  obtain ⟨h0, _, _, h3, h4, _, h6, _, _, _, _, _, h12, h13⟩ := g0
  refine ⟨h0, h3, h4, h6.1, h6.2, h12.1, h13.1, fun j hj => ?_⟩
  have hm2 : rd_T65 x0.f12 (j : Int) ∈ x0.f12 := by
    unfold rd_T65
    rw [Int.toNat_natCast, List.getD_eq_getElem?_getD, List.getElem?_eq_getElem hj]
    exact List.getElem_mem hj
  exact (h12.2 _ hm2).1
theorem Pure (x0 : Rw.S60) (x1 : Int) (x2 : Int) (x3 : ByteArray) (g0 : (x0.f0.size ≤ 9223372036854775807 ∧ ((Lit.int .i64 x0.f1).wf = true ∧ ((Lit.int .i64 x0.f2).wf = true ∧ (x0.f3.size ≤ 9223372036854775807 ∧ (x0.f4.size ≤ 9223372036854775807 ∧ (True ∧ (((x0.f6.f0.length ≤ 9223372036854775807 ∧ ∀ y0 ∈ x0.f6.f0, y0.size ≤ 9223372036854775807) ∧ ((x0.f6.f1.length ≤ 9223372036854775807 ∧ ∀ y0 ∈ x0.f6.f1, y0.size ≤ 9223372036854775807))) ∧ ((Lit.int .i64 x0.f7).wf = true ∧ ((Lit.int .i64 x0.f8).wf = true ∧ ((Lit.int .i64 x0.f9).wf = true ∧ ((Lit.int .i64 x0.f10).wf = true ∧ ((Lit.int .i64 x0.f11).wf = true ∧ ((x0.f12.length ≤ 9223372036854775807 ∧ ∀ y0 ∈ x0.f12, (((y0.f0.f0.length ≤ 9223372036854775807 ∧ ∀ y1 ∈ y0.f0.f0, y1.size ≤ 9223372036854775807) ∧ ((y0.f0.f1.length ≤ 9223372036854775807 ∧ ∀ y1 ∈ y0.f0.f1, y1.size ≤ 9223372036854775807))) ∧ ((Lit.int .i64 y0.f1).wf = true))) ∧ ((x0.f13.length ≤ 9223372036854775807 ∧ ∀ y0 ∈ x0.f13, ((Lit.int .i64 y0.f0).wf = true ∧ ((Lit.int .i64 y0.f1).wf = true ∧ ((Lit.int .i64 y0.f2).wf = true))))))))))))))))))) : ∃ k, f k x0.f0 x0.f1 x0.f2 x0.f3 x0.f4 x0.f5 x0.f6.f0 x0.f6.f1 x0.f7 x0.f8 x0.f9 x0.f10 x0.f11 x0.f12 x0.f13 x1 x2 x3 = some true :=
  ⟨0, by unfold f; rw [if_pos (show fitB x0 = true from @decide_eq_true _ (Classical.propDecidable _) (good_fit x0 g0))]⟩
end Go.Proofs.Ytdmeepjefccpgaa.LPT
