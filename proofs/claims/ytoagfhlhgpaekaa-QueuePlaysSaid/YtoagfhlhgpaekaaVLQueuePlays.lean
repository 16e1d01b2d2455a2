/- The statement QueuePlays: whatever is pushed, looked at and taken out, in any order. -/
import Derived.Test.YtoagfhlhgpaekaaProg
import Derived.Below
import Derived.Deep.Draws
import Derived.Deep.AppendLies
import Derived.Maps.AppendAt
import Derived.OwnWalk
import Derived.Laws.BytesArg
import Derived.Laws.MakeOwn
import Derived.Laws.OwnMore
import Derived.Deep.OwnRows
import Derived.Tactics
import Derived.Lib.ConvBytes
import Derived.Laws.Slices
import Derived.WalkKit
import Derived.KernelRfl
import Derived.RowKit3
import Derived.Deep.LoopGhost
import Derived.Deep.QuietTactic
import Derived.BigQuiet
import Derived.WideLaws
import Derived.Deep.DeepCutAuto
import Derived.Deep.CutBlock
import Derived.Deep.RegionHeld3
import Derived.Laws.Rows
import Derived.Lib.AppendStr
import Derived.ArgAppend
import Derived.Laws.IdiomCopy
import Derived.OrdersHeld
import Derived.Laws.BitsLemmas
import Derived.RowKit
import Derived.BigRegion
import Derived.Outline
import Derived.RegionTactic
import Derived.StillTailTactics
import Derived.Deep.RegionLaw
import Derived.Test.YtoagfhlhgpaekaaVQAwake
import Derived.Test.YtoagfhlhgpaekaaVPPlays
import Derived.Test.YtoagfhlhgpaekaaVRwAb
set_option linter.unusedVariables false
set_option linter.unusedSimpArgs false
namespace Go.Proofs.Ytoagfhlhgpaekaa.LQP
open Go Go.RowKit Go.Proofs.YtoagfhlhgpaekaaW.PrintWords Go.Proofs.YtoagfhlhgpaekaaW.PrintLast Go.Proofs.YtoagfhlhgpaekaaW.PrintMore Go.Proofs.Ytoagfhlhgpaekaa.Rw Go.Proofs.Ytoagfhlhgpaekaa.QM Go.Proofs.Ytoagfhlhgpaekaa.QR Go.Proofs.Ytoagfhlhgpaekaa.QW Go.Proofs.Ytoagfhlhgpaekaa.QL Go.Proofs.Ytoagfhlhgpaekaa.PPl

/-- A row of steps is none of a queue's blocks. -/
theorem ops_kp {B : Nat} {w w1 : World} {v : Value} {xs : List OpS} {g : Nat} {ro : Option Nat} {m : List Ent} (h : Kd.R k27 27 w B (fun _ => True) v xs) (hq : IsQ 55 62 w g ro m) (hk : Kp (fun k => k = g ∨ some k = ro) w w1) : Kd.R k27 27 w1 B (fun _ => True) v xs := by
  obtain ⟨inner, ho⟩ := Kd.R_own h
  have ha := hq.apart ho (by decide) (by decide)
  exact Kd.R_mono (Kd.R_step (Kd.R_tight rfl h) (fun k ho hlt => hk.block k hlt (by
    rintro (rfl | h1)
    · exact (ha _ ho.symm).1 rfl
    · exact (ha _ ho.symm).2 h1.symm))) (fun _ _ => trivial)
theorem ops_apart {B : Nat} {w : World} {v : Value} {xs : List OpS} {g : Nat} {ro : Option Nat} {m : List Ent} (h : Kd.R k27 27 w B (fun _ => True) v xs) (hq : IsQ 55 62 w g ro m) : ∀ k, v.ownBlock = some k → k ≠ g ∧ ro ≠ some k := by
  obtain ⟨inner, ho⟩ := Kd.R_own h
  exact hq.apart ho (by decide) (by decide)
/-- A row of steps grows: a queue stays. -/
theorem q_grown {B : Nat} {w w1 w2 : World} {v : Value} {xs : List OpS} {g : Nat} {ro : Option Nat} {m : List Ent} (h : Kd.R k27 27 w B (fun _ => True) v xs) (hq : IsQ 55 62 w g ro m) (h1 : Kp (fun _ => False) w w1) (hg : w1.grownBy w2 v.ownBlock) : IsQ 55 62 w2 g ro m := by
  have ha := ops_apart h hq
  refine (hq.kp h1 (fun h => h) (fun _ _ h => h)).kp (Kp.of_grown hg) ?_ ?_
  · intro e; exact (ha _ e.symm).1 rfl
  · intro r hr e; exact (ha _ e.symm).2 hr
theorem low_kp {B g : Nat} {ro : Option Nat} {w w1 w2 : World} (h : Below B w w1) (hk : Kp (fun k => k = g ∨ some k = ro) w1 w2) (hB : B ≤ w.heap.size) (hg : B ≤ g) (ho : ∀ r, ro = some r → B ≤ r) : Below B w w2 :=
  Kp.below_trans h hk hB (by rintro i (rfl | e); exact hg; exact ho i e.symm)
theorem best_unique {xs : List OpS} {b : Nat} (h : Best xs xs.length b) {x : Ent} (h1 : x ∈ xs.map ent) (h2 : ∀ y, y ∈ xs.map ent → lt y x = false) : x = ent (at1 xs b) :=
  eq_of_nlt (h2 _ (best_mem h).1 |> fun e => by exact (best_mem h).2 x h1) (by exact h2 _ (best_mem h).1)
set_option maxRecDepth 100000 in
set_option maxHeartbeats 8000000 in
theorem queuePlays' {a : Option Addr} {c : Nat} {l : List OpS} {w : World} (B : Nat) (hB : w.heap.size = B) (hl : Kd.C k27 w a l.length l) (hc : l.length ≤ c) :
    Calls Try.prog 3 #[.slice a l.length c] w fun e w' => e = .returned (.bool true) ∧ Below B w w' := by
  have HB : Hid (w.heap.size = B) := hB
  have HL : Hid (Kd.C k27 w a l.length l) := hl
  have HLB : Hid (l.length ≤ 9223372036854775807) := hl.2.1
  clear hB hl hc
  go_enter Try.func3, Try.ntmps3
  go_wp2_with fail
  refine (new_calls w).mono ?_
  rintro e w1 ⟨g, rfl, hq, hg, hk⟩
  rw [HB.out] at hg
  have H1 : Hid (Below B w w1) := by show Below _ _ _; rw [← HB.out]; exact hk.to_below (Nat.le_refl _) (fun _ h => h.elim)
  have HQ1 : Hid (IsQ 55 62 w1 g none []) := hq
  clear hk hq
  go_wp2_with fail
  refine (awake_calls w1).mono ?_
  rintro e w2 ⟨rfl, hk⟩
  have HQ2 : Hid (IsQ 55 62 w2 g none []) := HQ1.out.kp (Kp.of_below (S := fun _ => False) hk) (fun h => h) (fun _ _ h => h)
  have H2 : Hid (Below B w w2) := H1.out.trans (hk.mono (by have := H1.out.size; have := HB.out; omega))
  clear hk HQ1 H1
  go_wp2_with fail
  go_loopw [4, 5] (fun v x wr => ∃ (k : Nat) (ro : Option Nat) (xs : List OpS), x = .int .i64 k ∧ k ≤ l.length ∧ Hid (k ≤ 200) ∧ Hid (xs.length ≤ k) ∧ Hid (IsQ 55 62 wr g ro (xs.map ent)) ∧ Hid (Kd.R k27 27 wr B (fun _ => True) v xs) ∧ Hid (∀ r, ro = some r → B ≤ r) ∧ Hid (Below B w wr)) (fun _ x _ => l.length - (intOf x).toNat)
  case atStart => exact ⟨0, none, [], rfl, Nat.zero_le _, Nat.zero_le _, Nat.zero_le _, HQ2, Kd.R_nil _ _ _ _ _, fun r h => by simp at h, H2⟩
  case round =>
    obtain ⟨k, ro, xs, rfl, hk, HK2, HXL, HQ, HX, HO, HW⟩ := hrel
    by_cases hlt : k < l.length
    rotate_left
    · have hke : k = l.length := by omega
      have hd : decide ((k : Int) < (l.length : Int)) = false := decide_eq_false (by omega)
      go_wp2
      go_ret
      exact ⟨rfl, HW.out⟩
    by_cases hlt2 : k < 200
    rotate_left
    · have hd : decide ((k : Int) < (l.length : Int)) = true := decide_eq_true (by omega)
      have hd2 : decide ((k : Int) < 200) = false := decide_eq_false (by omega)
      go_wp2
      go_ret
      exact ⟨rfl, HW.out⟩
    have hd : decide ((k : Int) < (l.length : Int)) = true := decide_eq_true (by omega)
    have hd2 : decide ((k : Int) < 200) = true := decide_eq_true (by omega)
    obtain ⟨ad, rfl, hx0, hx1, hx2⟩ := at_T27 (Kd.C_below HL.out (by have := HW.out; rw [← HB.out] at this; exact this)) (k : Int) (by omega) (by omega)
    rw [Int.toNat_natCast] at hx0 hx1 hx2
    obtain ⟨A4, c4, hu4, hroom, hread⟩ := Kd.R_reads HX.out
    subst hu4
    obtain ⟨o, ho⟩ : ∃ o, rd_T27 l (k : Int) = o := ⟨_, rfl⟩
    rw [ho] at hx0 hx1 hx2
    clear ho
    obtain ⟨p0, p1, p2⟩ := o
    simp only at hx0 hx1 hx2
    have HRM : Hid (xs.length ≤ c4) := hroom
    have HRD : Hid (Kd.C k27 wr A4 xs.length xs) := hread
    have hgl := HQ.out.lt
    have HGL : Hid (g < wr.heap.size) := hgl
    have HRL : Hid (∀ r, ro = some r → r < wr.heap.size) := fun r hr => HQ.out.row_lt hr
    have HBW : Hid (B ≤ wr.heap.size) := by show _ ≤ _; have := HW.out.size; have := HB.out; omega
    clear hroom hread hgl
    obtain ⟨W3, hW3⟩ : ∃ W, wr.alloc (.cells #[.int .i64 p0, .int .i64 p1, .int .i64 p2] 27) = W := ⟨_, rfl⟩
    have HK3 : Hid (Kp (fun _ => False) wr W3) := by show Kp _ _ _; rw [← hW3]; exact (Kp.refl _ _).alloc _
    have HBK : Hid (W3.heap[wr.heap.size]? = some (.cells #[.int .i64 p0, .int .i64 p1, .int .i64 p2] 27 (0, 0))) := by show _ = _; rw [← hW3]; exact alloc_new _ _
    have HQ3 : Hid (IsQ 55 62 W3 g ro (xs.map ent)) := HQ.out.kp HK3.out (fun h => h) (fun _ _ h => h)
    have HX3 : Hid (Kd.R k27 27 W3 B (fun _ => True) (.slice A4 xs.length c4) xs) := by show Kd.R _ _ _ _ _ _ _; rw [← hW3]; exact Kd.R_alloc HX.out _
    have HW3 : Hid (Below B w W3) := by show Below _ _ _; rw [← hW3]; exact HW.out.alloc HBW.out _
    have HC3 : Hid (Kd.C k27 W3 A4 xs.length xs) := by show Kd.C _ _ _ _ _; rw [← hW3]; exact Kd.C_alloc HRD.out _
    have HWE := Aside0.mk hW3
    have HXB : Hid (xs.length ≤ 200) := by show _ ≤ _; have := HXL.out; have := HK2.out; omega
    clear hW3
    by_cases h35 : (p0.tmod 3 == 0) = true
    · have HE35 := Aside0.mk h35
      go_upto_if 35 with (fail)
      rw [HWE.out]
      have hc0 : W3.cell? ⟨wr.heap.size, 0, none⟩ = some (.int .i64 p0) := (blk_cell HBK.out 0).trans rfl
      have hc1 : W3.cell? ⟨wr.heap.size, 1, none⟩ = some (.int .i64 p1) := (blk_cell HBK.out 1).trans rfl
      have hc2 : W3.cell? ⟨wr.heap.size, 2, none⟩ = some (.int .i64 p2) := (blk_cell HBK.out 2).trans rfl
      clear hx0 hx1 hx2
      go_wp2_with fail
      refine (push_calls p2 p1 HQ3.out (by rw [List.length_map]; have := HXB.out; omega)).mono ?_
      rintro e w4 ⟨rfl, r, hq4, hr4, hk4⟩
      have HQ4 : Hid (IsQ 55 62 w4 g (some r) ((p2, p1) :: xs.map ent)) := hq4
      have HR4 : Hid (B ≤ r) := by
        show B ≤ r
        rcases hr4 with h | h
        · exact HO.out r h
        · have := HK3.out.size; have := HBW.out; omega
      have HX4 : Hid (Kd.R k27 27 w4 B (fun _ => True) (.slice A4 xs.length c4) xs) := ops_kp HX3.out HQ3.out hk4
      have HW4 : Hid (Below B w w4) := low_kp HW3.out hk4 (by have := HB.out; omega) hg HO.out
      have HBK4 : Hid (w4.heap[wr.heap.size]? = some (.cells #[.int .i64 p0, .int .i64 p1, .int .i64 p2] 27 (0, 0))) := by
        show _ = _
        rw [hk4.block wr.heap.size (Array.getElem?_eq_some_iff.1 HBK.out).1 (by
          rintro (h | h)
          · have := HGL.out; omega
          · have := HRL.out _ h.symm; omega)]
        exact HBK.out
      clear hq4 hr4 hk4 hc0 hc1 hc2
      have hc0 : w4.cell? ⟨wr.heap.size, 0, none⟩ = some (.int .i64 p0) := (blk_cell HBK4.out 0).trans rfl
      have hc1 : w4.cell? ⟨wr.heap.size, 1, none⟩ = some (.int .i64 p1) := (blk_cell HBK4.out 1).trans rfl
      have hc2 : w4.cell? ⟨wr.heap.size, 2, none⟩ = some (.int .i64 p2) := (blk_cell HBK4.out 2).trans rfl
      go_wp2_with ((with_reducible refine gate_builtin (b := .append) (xs := #[.tmp 42, .tmp 44]) rfl ?_); at_builtin; refine Kd.R_append k27 (w0 := w) B rfl (.tmp 42) (.tmp 44) 22 27 (.agg #[(.int .i64 0), (.int .i64 0), (.int .i64 0)]) 24 rfl Try.underlying22 info27 rfl (by decide) (by omega) (.slice A4 xs.length c4) xs (⟨p0, p1, p2⟩ : S27) [.int .i64 p0, .int .i64 p1, .int .i64 p2] (fun _ => True) (fun _ => False) rfl (by first | (go_simp; done) | (go_simp; rfl)) ?aP (fun _ hk => hk.elim) ?aF ?aO ?aB ?aS ?aL ?_; (case aP => exact k27_mkM _ _ _ (⟨p0, p1, p2⟩ : S27)); (case aB => exact HW4.out); (case aF => exact (fun _ _ => trivial)); (case aO => exact HX4.out); (case aS => have := HW4.out.size; have := HB.out; omega); (case aL => have := HXB.out; omega); intro v5 w5 ho5 hb5 hg5 hat5)
      obtain ⟨ys, hys⟩ : ∃ ys, xs ++ [(⟨p0, p1, p2⟩ : S27)] = ys := ⟨_, rfl⟩
      have HQ5 : Hid (IsQ 55 62 w5 g (some r) (ys.map ent)) := (q_grown HX4.out HQ4.out (Kp.refl _ _) hg5).perm (by rw [← hys, List.map_append]; exact List.perm_append_comm (l₁ := [(p2, p1)]))
      rw [hys] at ho5
      have HX5 : Hid (Kd.R k27 27 w5 B (fun _ => True) v5 ys) := ho5
      have HW5 : Hid (Below B w w5) := hb5
      have HYL : Hid (ys.length = xs.length + 1) := by show _ = _; rw [← hys]; simp
      clear ho5 hb5 hg5 hat5 hc0 hc1 hc2 hys
      obtain ⟨A5, c5, hu5⟩ := Kd.R_slice HX5.out
      subst hu5
      go_wp2_with fail
      refine (qlen_calls HQ5.out).mono ?_
      rintro e w6 ⟨rfl, rfl⟩
      rw [List.length_map]
      have hln : ((ys.length : Int) != (ys.length : Int)) = false := by simp
      go_wp2_with fail
      go_roundw
      case rel => exact ⟨k + 1, some r, ys, by go_num, by omega, by show _ ≤ _; omega, by show _ ≤ _; have := HXL.out; have := HYL.out; omega, HQ5, HX5, fun r' hr' => by cases hr'; exact HR4.out, HW5⟩
      case measure => simp [intOf]; omega
    · have h35' : (p0.tmod 3 == 0) = false := by simpa using h35
      clear h35
      have HE35 := Aside0.mk h35'
      go_upto_if 35 with (fail)
      rw [HWE.out]
      clear hx0 hx1 hx2
      obtain ⟨kf, r, hf, hp⟩ := first_is xs (by have := HXB.out; omega)
      have HF := Aside0.mk hf
      have HP := Aside0.mk hp
      clear hf hp
      go_wp2_with fail
      refine (haberdashlaw02_first.calls kf A4 c4 xs r _ HC3.out HRM.out HF.out).mono ?_
      rintro e w' ⟨rfl, ⟨nd, rfl⟩⟩
      rcases HP.out with ⟨he, hr⟩ | ⟨b, hr, hb⟩
      · subst he hr
        have HQE : Hid (IsQ 55 62 (W3.drewN nd) g ro []) := HQ3.out.drewN nd
        have hc0 : (W3.drewN nd).cell? ⟨wr.heap.size, 0, none⟩ = some (.int .i64 p0) := (blk_cell (w := W3.drewN nd) HBK.out 0).trans rfl
        obtain ⟨W4, hW4⟩ : ∃ W, W3.drewN nd = W := ⟨_, rfl⟩
        have HW4 : Hid (Below B w W4) := by show Below _ _ _; rw [← hW4]; exact bel_drewN HW3.out nd
        have HX4 : Hid (Kd.R k27 27 W4 B (fun _ => True) (.slice A4 (0 : Nat) c4) ([] : List OpS)) := by show Kd.R _ _ _ _ _ _ _; rw [← hW4]; exact Kd.R_drewN HX3.out nd
        rw [hW4] at hc0 HQE ⊢
        clear hW4
        go_wp2_with fail
        refine (peek_empty HQE.out).mono ?_
        rintro e w' ⟨rfl, rfl⟩
        by_cases h57 : (p0.tmod 3 == 1) = true
        · go_wp2_with fail
          refine (pop_empty HQE.out).mono ?_
          rintro e w' ⟨rfl, rfl⟩
          go_wp2_with fail
          refine (qlen_calls HQE.out).mono ?_
          rintro e w' ⟨rfl, rfl⟩
          go_wp2_with fail
          go_roundw
          case rel => exact ⟨k + 1, ro, [], by go_num, by omega, by show _ ≤ _; omega, by show _ ≤ _; simp, HQE, HX4, HO, HW4⟩
          case measure => simp [intOf]; omega
        · have h57' : (p0.tmod 3 == 1) = false := by simpa using h57
          clear h57
          go_wp2_with fail
          refine (qlen_calls HQE.out).mono ?_
          rintro e w' ⟨rfl, rfl⟩
          go_wp2_with fail
          go_roundw
          case rel => exact ⟨k + 1, ro, [], by go_num, by omega, by show _ ≤ _; omega, by show _ ≤ _; simp, HQE, HX4, HO, HW4⟩
          case measure => simp [intOf]; omega
      · subst hr
        have hbl := hb.1
        have HBB := Aside0.mk hb
        clear hb
        go_wp2_with fail
        refine (peek_calls (HQ3.out.drewN nd) (by rw [List.length_map]; omega) (by rw [List.length_map]; have := HXB.out; omega)).mono ?_
        rintro e w4 ⟨x, rfl, hx1, hx2, kk, rfl⟩
        obtain rfl := best_unique HBB.out hx1 hx2
        clear hx1 hx2
        have HYM : Aside0 (∀ z, z ∈ xs.map ent → (∀ y, y ∈ xs.map ent → lt y z = false) → z = ent (at1 xs b)) := ⟨fun z h1 h2 => best_unique HBB.out h1 h2⟩
        have HAW : Aside0 (∀ m : List Ent, (xs.map ent).Perm (ent (at1 xs b) :: m) → m.Perm ((xs.take b ++ xs.drop (b + 1)).map ent)) := ⟨fun m h => away xs b HBB.out.1 h⟩
        obtain ⟨ad4, hA4, hy0, hy1, hy2⟩ := at_T27 HC3.out (b : Int) (by omega) (by omega)
        obtain ⟨o, ho⟩ : ∃ o, rd_T27 xs (b : Int) = o := ⟨_, rfl⟩
        have HAT : Aside0 (at1 xs b = o) := ⟨ho⟩
        rw [show at1 xs b = o from ho] at HYM HAW ⊢
        clear hy0 hy1 hy2 ho
        obtain ⟨q0, q1, q2⟩ := o
        subst hA4
        simp only [ent] at HYM HAW ⊢
        obtain ⟨W4, hW4⟩ : ∃ W, (W3.drewN nd).drewN kk = W := ⟨_, rfl⟩
        have HK4 : Hid (Kp (fun _ => False) W3 W4) := by show Kp _ _ _; rw [← hW4]; exact ((Kp.refl _ _).drewN nd).drewN kk
        have HW4 : Hid (Below B w W4) := by show Below _ _ _; rw [← hW4]; exact bel_drewN (bel_drewN HW3.out nd) kk
        have HX4 : Hid (Kd.R k27 27 W4 B (fun _ => True) (.slice (some ad4) xs.length c4) xs) := by show Kd.R _ _ _ _ _ _ _; rw [← hW4]; exact Kd.R_drewN (Kd.R_drewN HX3.out nd) kk
        have HBK4 : Hid (W4.heap[wr.heap.size]? = some (.cells #[.int .i64 p0, .int .i64 p1, .int .i64 p2] 27 (0, 0))) := by show _ = _; rw [← hW4]; exact HBK.out
        have HQ4 : Hid (IsQ 55 62 W4 g ro (xs.map ent)) := HQ3.out.kp HK4.out (fun h => h) (fun _ _ h => h)
        rw [hW4]
        clear hW4
        have hc0 : W4.cell? ⟨wr.heap.size, 0, none⟩ = some (.int .i64 p0) := (blk_cell HBK4.out 0).trans rfl
        have RDB : Aside0 (∀ W, Kd.C k27 W (some ad4) xs.length xs → W.cell? (ad4.add (b * 3)) = some (.int .i64 q0) ∧ W.cell? ⟨(ad4.add (b * 3)).block, (ad4.add (b * 3)).off + 1, none⟩ = some (.int .i64 q1) ∧ W.cell? ⟨(ad4.add (b * 3)).block, (ad4.add (b * 3)).off + 2, none⟩ = some (.int .i64 q2)) := ⟨fun W h => by
          obtain ⟨ad', e, h0, h1, h2⟩ := at_T27 h (b : Int) (by omega) (by omega)
          cases e
          have e : rd_T27 xs (b : Int) = ⟨q0, q1, q2⟩ := HAT.out
          rw [Int.toNat_natCast, e] at h0 h1 h2
          exact ⟨h0, h1, h2⟩⟩
        by_cases h57 : (p0.tmod 3 == 1) = true
        · have HE57 := Aside0.mk h57
          go_wp2_with fail
          refine (pop_calls HQ4.out (by rw [List.length_map]; omega) (by rw [List.length_map]; have := HXB.out; omega)).mono ?_
          rintro e w5 ⟨z, m', rfl, hpm, hz2, hq5, hk5⟩
          obtain rfl := HYM.out z (hpm.symm.subset List.mem_cons_self) hz2
          obtain ⟨zs, hzs⟩ : ∃ zs, xs.take b ++ xs.drop (b + 1) = zs := ⟨_, rfl⟩
          have HZS := Aside0.mk hzs
          have HZL : Hid (zs.length + 1 = xs.length) := by show _ = _; rw [← hzs, List.length_append, List.length_take, List.length_drop]; omega
          have HQ5 : Hid (IsQ 55 62 w5 g ro (zs.map ent)) := by rw [← hzs]; exact hq5.perm (HAW.out m' hpm)
          have HX5 : Hid (Kd.R k27 27 w5 B (fun _ => True) (.slice (some ad4) xs.length c4) xs) := ops_kp HX4.out HQ4.out hk5
          have HW5 : Hid (Below B w w5) := low_kp HW4.out hk5 (by have := HB.out; omega) hg HO.out
          have HBK5 : Hid (w5.heap[wr.heap.size]? = some (.cells #[.int .i64 p0, .int .i64 p1, .int .i64 p2] 27 (0, 0))) := by
            show _ = _
            rw [hk5.block wr.heap.size (Array.getElem?_eq_some_iff.1 HBK4.out).1 (by
              rintro (h | h)
              · have := HGL.out; omega
              · have := HRL.out _ h.symm; omega)]
            exact HBK4.out
          clear hzs hpm hz2 hq5 hk5 hc0
          have hc0 : w5.cell? ⟨wr.heap.size, 0, none⟩ = some (.int .i64 p0) := (blk_cell HBK5.out 0).trans rfl
          obtain ⟨hy0, hy1, hy2⟩ := RDB.out w5 (Kd.R_reads' HX5.out).2.2
          go_upto_region 19 with (fail)
          have hw1 : wrap64 ((b : Int) + 1) = ((b + 1 : Nat) : Int) := by rw [PPl.wrap_ok (by omega) (by have := HXB.out; omega)]; omega
          obtain ⟨I, hI⟩ : ∃ I : Int, (b : Int) = I := ⟨_, rfl⟩
          rw [hI] at hw1 ⊢
          obtain ⟨J, hJ⟩ : ∃ J, wrap64 (I + 1) = J := ⟨_, rfl⟩
          have hJ2 : J = ((b + 1 : Nat) : Int) := by rw [← hJ]; exact hw1
          have HJ3 : Aside0 (0 ≤ J ∧ J ≤ (xs.length : Int) ∧ J.toNat = b + 1) := ⟨by omega, by omega, by omega⟩
          have HI3 : Aside0 (0 ≤ I ∧ I ≤ (xs.length : Int) ∧ I.toNat = b) := ⟨by omega, by omega, by omega⟩
          clear hw1 hJ2 hI
          obtain ⟨i0, hi0, _, hsz0, _⟩ := info_parts info27
          have HX6 : Hid (Kd.R k27 27 w5.drew B (fun _ => True) (.slice (some ad4) xs.length c4) xs) := Kd.R_drew HX5.out
          have HW6 : Hid (Below B w w5.drew) := below_drew1 HW5.out
          have HQ6 : Hid (IsQ 55 62 w5.drew g ro (zs.map ent)) := HQ5.out.kp (S := fun _ => False) ((Kp.refl _ _).drew) (fun h => h) (fun _ _ h => h)
          have HX6o : Hid (IsQ 55 62 w5.drew g ro (zs.map ent)) := HQ6
          refine start_ (n := 10) (S := fun w' => True) (ds := []) (mk 10 0) (by kernel_rfl) rfl rfl trivial (fun hHeld => ?_)
          clear hc0 hy0 hy1 hy2 HX5 HW5 HBK5 HQ5
          generalize w5.drew = w6 at HX6 HW6 HQ6 HX6o hHeld ⊢
          obtain ⟨y1, hy1⟩ : ∃ y, y = xs.take b := ⟨_, rfl⟩
          obtain ⟨y2, hy2⟩ : ∃ y, y = xs.drop (b + 1) := ⟨_, rfl⟩
          have HZY : Aside0 (y1 ++ y2 = zs) := ⟨by rw [hy1, hy2]; exact HZS.out⟩
          have hl1 : y1.length = b := by rw [hy1, List.length_take]; omega
          have hl2 : y2.length = xs.length - (b + 1) := by rw [hy2, List.length_drop]
          have hC6 : Kd.C k27 w6 (some ad4) xs.length xs := (Kd.R_reads' HX6.out).2.2
          have hcut1 := cut_to (P := Try.prog) 22 27 .i64 Try.underlying22 hi0 (some ad4) xs.length c4 I HI3.out.1 HI3.out.2.1 HRM.out
          have hr1 := Kd.C_take (m := b) hC6 (by omega)
          have hcut2 := cut_from (P := Try.prog) 22 27 .i64 Try.underlying22 hi0 3 hsz0 (some ad4) xs.length c4 J HJ3.out.1 HJ3.out.2.1
          have hr2 := Kd.C_drop (m := J.toNat) (c := c4) hC6 (by have := HJ3.out; omega) HRM.out
          obtain ⟨A2, hA2⟩ : ∃ A1, A1 = (if c4 = J.toNat then some ad4 else (some ad4 : Option Addr).map (·.add (J.toNat * 3))) := ⟨_, rfl⟩
          obtain ⟨c2, hc2⟩ : ∃ c1, c1 = c4 - J.toNat := ⟨_, rfl⟩
          rw [← hy1] at hr1
          rw [HI3.out.2.2, ← hl1] at hcut1
          have HR1 : Aside0 (Kd.C k27 w6 (some ad4) y1.length y1) := ⟨hr1⟩
          have HC1 : Aside0 (y1.length ≤ c4) := ⟨by have := HRM.out; omega⟩
          have hl3 : xs.length - J.toNat = y2.length := by have := HJ3.out; omega
          have KA := Aside0.mk hA2
          have hr2' : Kd.C k27 w6 A2 y2.length y2 := by
            have e : xs.drop J.toNat = y2 := by rw [HJ3.out.2.2, hy2]
            rw [e] at hr2
            rw [hA2]
            exact hr2
          rw [hl3, ← hA2, ← hc2] at hcut2
          have HR2 : Aside0 (Kd.C k27 w6 A2 y2.length y2) := ⟨hr2'⟩
          have HC2 : Aside0 (y2.length ≤ c2) := ⟨by rw [hc2, ← hl3]; exact Nat.sub_le_sub_right HRM.out _⟩
          have HY1 := Aside0.mk hy1
          have HY2 := Aside0.mk hy2
          have HL1 := Aside0.mk hl1
          have HL2 := Aside0.mk hl2
          clear hr1 hr2 hr2' hC6 hA2 hc2 hl1 hl2 hl3 hy1 hy2 hi0 hsz0
          refine pure_ (i := 0) (N := some 108) (v := ?_) (a' := ?_) (mk 10 1) rfl rfl (by kernel_rfl) (fun _ _ _ h => h) (Or.inl ⟨by rfl, ?_⟩) ?_ ?_
          rotate_left; (intro w'; go_simp; with_reducible rfl)
          rotate_left; (exact pu_)
          refine pure_ (i := 1) (N := some 109) (v := ?_) (a' := ?_) (mk 10 3) rfl rfl (by kernel_rfl) (fun _ _ _ h => h) (Or.inl ⟨by rfl, ?_⟩) ?_ ?_
          rotate_left; (intro w'; go_simp; with_reducible rfl)
          rotate_left; (exact pu_)
          refine pure_ (i := 2) (N := some 110) (v := ?_) (a' := ?_) (mk 10 7) rfl rfl (by kernel_rfl) (fun _ _ _ h => h) (Or.inl ⟨by rfl, ?_⟩) ?_ ?_
          rotate_left; (intro w'; go_simp; with_reducible rfl)
          rotate_left; (exact pu_)
          refine pure_ (i := 4) (N := some 112) (v := ?_) (a' := ?_) (mk 10 23) rfl rfl (by kernel_rfl) (fun _ _ _ h => h) (Or.inl ⟨by rfl, ?_⟩) ?_ ?_
          rotate_left; (intro w'; go_simp; with_reducible rfl)
          rotate_left; (exact pu_)
          refine pure_ (i := 5) (N := some 113) (v := ?_) (a' := ?_) (mk 10 55) rfl rfl (by kernel_rfl) (fun _ _ _ h => h) (Or.inl ⟨by rfl, ?_⟩) ?_ ?_
          rotate_left; (intro w'; go_simp; with_reducible rfl)
          rotate_left; (exact pu_)
          refine pure_ (i := 6) (N := some 114) (v := ?_) (a' := ?_) (mk 10 119) rfl rfl (by kernel_rfl) (fun _ _ _ h => h) (Or.inl ⟨by rfl, ?_⟩) ?_ ?_
          rotate_left; (intro w'; go_simp; with_reducible rfl)
          rotate_left; (exact pu_)
          refine pure_ (i := 7) (N := some 115) (v := ?_) (a' := ?_) (mk 10 247) rfl rfl (by kernel_rfl) (fun _ _ _ h => h) (Or.inl ⟨by rfl, ?_⟩) ?_ ?_
          rotate_left; (intro w'; go_simp; with_reducible rfl)
          rotate_left; (exact pu_)
          refine one_ (i := 3) (N := some 111) (mk 10 255) rfl rfl (by kernel_rfl) (by decide) (fun K hK => ?_)
          refine Kd.R_append_rows_step k27 (w0 := w) B (by rfl) (.const (.slice none 0 0)) (.tmp 110) 22 27 (.agg #[(.int .i64 0), (.int .i64 0), (.int .i64 0)]) 24 rfl Try.underlying22 info27 rfl (by decide) (by omega) (.slice none 0 0) ([] : List OpS) y1 _ _ _ (fun _ => True) (fun _ => False) rfl rfl ?aO ?aR (fun _ _ h => h) (fun _ h => h.elim) ?aF ?aB ?aS ?aL ?_
          (case aR => exact HR1.out)
          (case aB => exact HW6.out)
          (case aF => exact (fun _ _ => trivial))
          (case aO => exact (Kd.R_nil _ _ _ _ _))
          (case aS => have := HW6.out.size; have := HB.out; omega)
          (case aL => have := HL1.out; have := HXB.out; simp only [List.length_nil]; omega)
          intro v7 w7 ho7 hb7 hg7 hat7
          have HX7 : Hid (Kd.R k27 27 w7 B (fun _ => True) v7 ([] ++ y1)) := ho7
          have HW7 : Hid (Below B w w7) := hb7
          have HQ7 : Hid (IsQ 55 62 w7 g ro (zs.map ent)) := HQ6.out.kp (Kp.of_grown hg7) (by simp [Value.ownBlock]) (by simp [Value.ownBlock])
          have HR7 : Aside0 (Kd.C k27 w7 A2 y2.length y2) := ⟨by
            have h := (Kd.R_reads' (Kd.R_after (Kd.R_apart_nil HX6.out) hg7 hat7)).2.2
            have h2 := Kd.C_drop (m := J.toNat) (c := c4) h (by have := HJ3.out; omega) HRM.out
            have e : xs.drop J.toNat = y2 := by rw [HJ3.out.2.2, HY2.out]
            rw [e] at h2
            rw [KA.out]
            exact h2⟩
          clear ho7 hb7 hg7 hat7
          refine hK.out _ _ trivial (fun hHeld => ?_)
          clear hK K
          refine norm_ (a' := ?_) ?_ ?_
          rotate_left; (show Act.put _ (some 111) _ = _; exact pu_)
          refine one_ (i := 8) (N := some 116) (mk 10 511) rfl rfl (by kernel_rfl) (by decide) (fun K hK => ?_)
          refine Kd.R_append_rows_step k27 (w0 := w) B (by rfl) (.tmp 111) (.tmp 115) 22 27 (.agg #[(.int .i64 0), (.int .i64 0), (.int .i64 0)]) 24 rfl Try.underlying22 info27 rfl (by decide) (by omega) v7 ([] ++ y1) y2 _ _ _ (fun _ => True) (fun _ => False) rfl rfl ?aO ?aR (fun _ _ h => h) (fun _ h => h.elim) ?aF ?aB ?aS ?aL ?_
          (case aR => exact HR7.out)
          (case aB => exact HW7.out)
          (case aF => exact (fun _ _ => trivial))
          (case aO => exact HX7.out)
          (case aS => have := HW7.out.size; have := HB.out; omega)
          (case aL => have := HL1.out; have := HL2.out; have := HXB.out; simp only [List.nil_append]; omega)
          intro v8 w8 ho8 hb8 hg8 hat8
          have HX8 : Hid (Kd.R k27 27 w8 B (fun _ => True) v8 zs) := by show Kd.R _ _ _ _ _ _ _; rw [← HZY.out]; exact ho8
          have HW8 : Hid (Below B w w8) := hb8
          have HQ8 : Hid (IsQ 55 62 w8 g ro (zs.map ent)) := q_grown HX7.out HQ7.out (Kp.refl _ _) hg8
          clear ho8 hb8 hg8 hat8
          refine hK.out _ _ trivial (fun hHeld => ?_)
          clear hK K
          refine norm_ (a' := ?_) ?_ ?_
          rotate_left; (show Act.put _ (some 116) _ = _; exact pu_)
          refine pure_ (i := 9) (N := some 4) (v := ?_) (a' := ?_) (mk 10 1023) rfl rfl (by kernel_rfl) (fun _ _ _ h => h) (Or.inl ⟨by rfl, ?_⟩) ?_ ?_
          rotate_left; (intro w'; go_simp; with_reducible rfl)
          rotate_left; (exact pu_)
          refine done_ (by kernel_rfl) ?_
          obtain ⟨A9, c9, hu9⟩ := Kd.R_slice HX8.out
          subst hu9
          go_wp2_with fail
          refine (qlen_calls HQ8.out).mono ?_
          rintro e w' ⟨rfl, rfl⟩
          rw [List.length_map]
          have hln : ((zs.length : Int) != (zs.length : Int)) = false := by simp
          go_wp2_with fail
          go_roundw
          case rel => exact ⟨k + 1, ro, zs, by go_num, by omega, by show _ ≤ _; omega, by show _ ≤ _; have := HXL.out; have := HZL.out; omega, HQ8, HX8, HO, HW8⟩
          case measure => simp [intOf]; omega
        · have h57' : (p0.tmod 3 == 1) = false := by simpa using h57
          clear h57
          obtain ⟨hy0, hy1, hy2⟩ := RDB.out W4 (Kd.R_reads' HX4.out).2.2
          go_wp2_with fail
          refine (qlen_calls HQ4.out).mono ?_
          rintro e w' ⟨rfl, rfl⟩
          rw [List.length_map]
          have hln : ((xs.length : Int) != (xs.length : Int)) = false := by simp
          go_wp2_with fail
          go_roundw
          case rel => exact ⟨k + 1, ro, xs, by go_num, by omega, by show _ ≤ _; omega, by show _ ≤ _; have := HXL.out; omega, HQ4, HX4, HO, HW4⟩
          case measure => simp [intOf]; omega
def f (k : Nat) (l0 : List OpS) : Option Bool := some true
theorem calls (k : Nat) (A0 : Option Addr) (c0 : Nat) (l0 : List OpS) (r : Bool) (w : World) (hr0 : Kd.C k27 w A0 l0.length l0) (hc0 : l0.length ≤ c0) (h : f k l0 = some r) :
    Calls Try.prog 3 #[.slice A0 l0.length c0] w fun e w' => e = .returned (.bool r) ∧ Below w.heap.size w w' := by
  obtain rfl : r = true := by injection h with h; exact h.symm
  exact queuePlays' _ rfl hr0 hc0
theorem Pure (l0 : List OpS) : ∃ k, f k l0 = some true := ⟨0, rfl⟩
end Go.Proofs.Ytoagfhlhgpaekaa.LQP
