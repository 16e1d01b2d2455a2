/- The statement QueueApart: two queues do not hang together. -/
import Derived.Test.YtonpcolkmecddaaProg
import Derived.Below
import Derived.Deep.Draws
import Derived.Deep.AppendLies
import Derived.Maps.AppendAt
import Derived.OwnWalk
import Derived.Laws.BytesArg
import Derived.Laws.MakeOwn
import Derived.Laws.OwnMore
import Derived.Deep.OwnRows
import Derived.Tactics
import Derived.Lib.ConvBytes
import Derived.Laws.Slices
import Derived.WalkKit
import Derived.KernelRfl
import Derived.RowKit3
import Derived.Deep.LoopGhost
import Derived.Deep.QuietTactic
import Derived.BigQuiet
import Derived.WideLaws
import Derived.Deep.DeepCutAuto
import Derived.Deep.CutBlock
import Derived.Deep.RegionHeld3
import Derived.Laws.Rows
import Derived.Lib.AppendStr
import Derived.ArgAppend
import Derived.Laws.IdiomCopy
import Derived.OrdersHeld
import Derived.Laws.BitsLemmas
import Derived.RowKit
import Derived.BigRegion
import Derived.Outline
import Derived.RegionTactic
import Derived.StillTailTactics
import Derived.Deep.RegionLaw
import Derived.Test.YtonpcolkmecddaaLQueueSorts
set_option linter.unusedVariables false
set_option linter.unusedSimpArgs false
namespace Go.Proofs.Ytonpcolkmecddaa.QL
open Go Go.RowKit Go.Proofs.YtonpcolkmecddaaW.PrintWords Go.Proofs.Ytonpcolkmecddaa.QM Go.Proofs.Ytonpcolkmecddaa.QR Go.Proofs.Ytonpcolkmecddaa.QW Go.Proofs.Ytonpcolkmecddaa.HP

theorem ents_next (l : List Int) (k : Nat) (hlt : k < l.length) : ((rd l (k : Int), (k : Int)) :: ents (l.take k)).Perm (ents (l.take (k + 1))) := by
  rw [ents_take l k hlt]
  have e : rd l (k : Int) = l[k] := by simp [rd, hlt]
  rw [e]
  exact List.perm_append_comm (l₁ := [(l[k], (k : Int))])

set_option maxRecDepth 100000 in
set_option maxHeartbeats 8000000 in
theorem queueApart' {a b : Option Addr} {c d : Nat} {l m : List Int} {w : World} (B : Nat) (hB : w.heap.size = B) (hl : Kd.C (Kd.int .i64) w a l.length l) (hc : l.length ≤ c) (hm : Kd.C (Kd.int .i64) w b m.length m) (hd0 : m.length ≤ d) :
    Calls Try.prog 5 #[.slice a l.length c, .slice b m.length d] w fun e w' => e = .returned (.bool true) ∧ Below B w w' := by
  have HB : Hid (w.heap.size = B) := hB
  by_cases hbig : 100 < l.length ∨ 100 < m.length
  · clear hB
    by_cases h1 : 100 < l.length
    · have hd : decide ((100 : Int) < (l.length : Int)) = true := by simp; omega
      clear hbig h1
      go_enter Try.func5, Try.ntmps5
      go_wp2_with fail
      refine (awake_calls' B HB.out).mono ?_
      rintro e w' ⟨rfl, hk⟩
      go_wp2
      go_ret
      exact ⟨rfl, hk⟩
    · have hd : decide ((100 : Int) < (l.length : Int)) = false := by simp; omega
      have hd2 : decide ((100 : Int) < (m.length : Int)) = true := by simp; omega
      clear hbig h1
      go_enter Try.func5, Try.ntmps5
      go_wp2_with fail
      refine (awake_calls' B HB.out).mono ?_
      rintro e w' ⟨rfl, hk⟩
      go_wp2
      go_ret
      exact ⟨rfl, hk⟩
  · have hb : l.length ≤ 100 := by omega
    have hb2 : m.length ≤ 100 := by omega
    have hd : decide ((100 : Int) < (l.length : Int)) = false := by simp; omega
    have hd2 : decide ((100 : Int) < (m.length : Int)) = false := by simp; omega
    have HL : Hid (Kd.C (Kd.int .i64) w a l.length l) := hl
    have HM : Hid (Kd.C (Kd.int .i64) w b m.length m) := hm
    clear hbig hB hl hm
    go_enter Try.func5, Try.ntmps5
    go_wp2_with fail
    refine (new_calls w).mono ?_
    rintro e w0 ⟨g, rfl, hq, hg, hk⟩
    rw [HB.out] at hg
    have H0 : Hid (Below B w w0) := by show Below _ _ _; rw [← HB.out]; exact hk.to_below (Nat.le_refl _) (fun _ h => h.elim)
    have HQ0 : Hid (IsQ 65 69 w0 g none []) := hq
    have hgl := hq.lt
    clear hk hq
    go_wp2_with fail
    refine (new_calls w0).mono ?_
    rintro e w1 ⟨g', rfl, hq, hg2, hk⟩
    have hgg : g ≠ g' := by omega
    have H1 : Hid (Below B w w1) := Kp.below_trans H0.out hk (by have := HB.out; omega) (fun _ h => h.elim)
    have HQ1 : Hid (IsQ 65 69 w1 g none []) := HQ0.out.kp hk (fun h => h) (fun _ _ h => h)
    have HP1 : Hid (IsQ 65 69 w1 g' none []) := hq
    have hgB : B ≤ g' := by have := H0.out.size; have := HB.out; omega
    have hgl1 := hq.lt
    clear hk hq
    go_wp2_with fail
    refine (awake_calls w1).mono ?_
    rintro e w2 ⟨rfl, hk⟩
    have HQ2 : Hid (IsQ 65 69 w2 g none []) := HQ1.out.kp (Kp.of_below (S := fun _ => False) hk) (fun h => h) (fun _ _ h => h)
    have HP2 : Hid (IsQ 65 69 w2 g' none []) := HP1.out.kp (Kp.of_below (S := fun _ => False) hk) (fun h => h) (fun _ _ h => h)
    have H2 : Hid (Below B w w2) := H1.out.trans (hk.mono (by have := H1.out.size; have := HB.out; omega))
    clear hk
    go_wp2_with fail
    go_loopw [7] (fun x wr => ∃ (k : Nat) (ro ro' : Option Nat), x = .int .i64 k ∧ k ≤ 100 ∧ Hid (IsQ 65 69 wr g ro (ents (l.take k))) ∧ Hid (IsQ 65 69 wr g' ro' (ents (m.take k))) ∧ Hid (∀ r, ro = some r → B ≤ r) ∧ Hid (∀ r, ro' = some r → B ≤ r) ∧ Hid (∀ r, ro = some r → ro' ≠ some r) ∧ Hid (Below B w wr)) (fun x _ => 101 - (intOf x).toNat)
    case atStart => exact ⟨0, none, none, rfl, Nat.zero_le _, HQ2, HP2, fun r h => by simp at h, fun r h => by simp at h, fun r h => by simp at h, H2⟩
    case round =>
      obtain ⟨k, ro, ro', rfl, hk, HQ, HP, HO, HO', HD, HW⟩ := hrel
      obtain ⟨q, hq⟩ : ∃ q : Nat, (if l.length < m.length then (m.length : Int) else (l.length : Int)) = (q : Int) ∧ l.length ≤ q ∧ m.length ≤ q ∧ q ≤ 100 ∧ (k < q → k < l.length ∨ k < m.length) := by
        by_cases h : l.length < m.length
        · exact ⟨m.length, by rw [if_pos h], by omega, by omega, by omega, by omega⟩
        · exact ⟨l.length, by rw [if_neg h], by omega, by omega, by omega, by omega⟩
      obtain ⟨hmx, hq1, hq2, hq3, hq4⟩ := hq
      by_cases hlq : k < q
      · have dq : decide (k < q) = true := decide_eq_true hlq
        have hlq2 := hq4 hlq
        clear hq4
        by_cases hlt : k < l.length
        · obtain ⟨ad, had, hcell⟩ := Kd.at_int (Kd.C_below HL.out (by have := HW.out; rw [← HB.out] at this; exact this)) (k : Int) (by omega) (by omega)
          subst had
          rw [Int.toNat_natCast] at hcell
          have dl : decide (k < l.length) = true := decide_eq_true hlt
          by_cases hlt2 : k < m.length
          · have dm : decide (k < m.length) = true := decide_eq_true hlt2
            clear hlq2
            go_wp2_with fail
            refine (push_calls _ _ HQ.out (by rw [ents_length]; simp; omega)).mono ?_
            rintro e w3 ⟨rfl, r, hq2, hr2, hk2⟩
            have HQ3 : Hid (IsQ 65 69 w3 g (some r) (ents (l.take (k + 1)))) := hq2.perm (ents_next l k hlt)
            have hrB : B ≤ r := by
              rcases hr2 with h | h
              · exact HO.out r h
              · have := HW.out.size; have := HB.out; omega
            have hrd : ro' ≠ some r := by
              rcases hr2 with h | h
              · exact HD.out r h
              · intro e; have := HP.out.row_lt e; omega
            have HP3 : Hid (IsQ 65 69 w3 g' ro' (ents (m.take k))) := q_other (by decide) HP.out HQ.out hk2 (fun e => hgg e.symm) (fun r e e2 => HD.out r e2 e)
            have H3 : Hid (Below B w w3) := Kp.below_trans HW.out hk2 (by have := HB.out; omega) (by
              rintro i (rfl | h)
              · exact hg
              · exact HO.out i h.symm)
            have HRD := Aside0.mk hrd
            clear hq2 hr2 hk2 hrd
            obtain ⟨ad2, had2, hcell2⟩ := Kd.at_int (Kd.C_below HM.out (by have := H3.out; rw [← HB.out] at this; exact this)) (k : Int) (by omega) (by omega)
            subst had2
            rw [Int.toNat_natCast] at hcell2
            go_wp2_with fail
            refine (push_calls _ _ HP3.out (by rw [ents_length]; simp; omega)).mono ?_
            rintro e w4 ⟨rfl, r2, hq2, hr2, hk2⟩
            have HP4 : Hid (IsQ 65 69 w4 g' (some r2) (ents (m.take (k + 1)))) := hq2.perm (ents_next m k hlt2)
            have hrB2 : B ≤ r2 := by
              rcases hr2 with h | h
              · exact HO'.out r2 h
              · have := H3.out.size; have := HB.out; omega
            have hrd2 : some r ≠ some r2 := by
              rcases hr2 with h | h
              · rintro h2; exact HRD.out (h.trans h2.symm)
              · intro e; have := HQ3.out.row_lt e; omega
            have HQ4 : Hid (IsQ 65 69 w4 g (some r) (ents (l.take (k + 1)))) := q_other (by decide) HQ3.out HP3.out hk2 hgg (fun r' e e2 => by cases e; exact HRD.out e2)
            have H4 : Hid (Below B w w4) := Kp.below_trans H3.out hk2 (by have := HB.out; omega) (by
              rintro i (rfl | h)
              · exact hgB
              · exact HO'.out i h.symm)
            clear hq2 hr2 hk2
            go_wp2_with fail
            go_roundw
            case rel => exact ⟨k + 1, some r, some r2, by go_num, by omega, HQ4, HP4, fun r' e => by cases e; exact hrB, fun r' e => by cases e; exact hrB2, fun r' e e2 => by cases e; cases e2; exact hrd2 rfl, H4⟩
            case measure => simp [intOf]; omega
          · have dm : decide (k < m.length) = false := decide_eq_false hlt2
            clear hlq2
            go_wp2_with fail
            refine (push_calls _ _ HQ.out (by rw [ents_length]; simp; omega)).mono ?_
            rintro e w3 ⟨rfl, r, hq2, hr2, hk2⟩
            have HQ3 : Hid (IsQ 65 69 w3 g (some r) (ents (l.take (k + 1)))) := hq2.perm (ents_next l k hlt)
            have hrB : B ≤ r := by
              rcases hr2 with h | h
              · exact HO.out r h
              · have := HW.out.size; have := HB.out; omega
            have hrd : ro' ≠ some r := by
              rcases hr2 with h | h
              · exact HD.out r h
              · intro e; have := HP.out.row_lt e; omega
            have HP3 : Hid (IsQ 65 69 w3 g' ro' (ents (m.take k))) := q_other (by decide) HP.out HQ.out hk2 (fun e => hgg e.symm) (fun r e e2 => HD.out r e2 e)
            have H3 : Hid (Below B w w3) := Kp.below_trans HW.out hk2 (by have := HB.out; omega) (by
              rintro i (rfl | h)
              · exact hg
              · exact HO.out i h.symm)
            have HRD := Aside0.mk hrd
            clear hq2 hr2 hk2 hrd
            have HPX : Hid (IsQ 65 69 w3 g' ro' (ents (m.take (k + 1)))) := by
              have := HP3.out
              rw [List.take_of_length_le (by omega)] at this
              rw [List.take_of_length_le (by omega)]
              exact this
            go_wp2_with fail
            go_roundw
            case rel => exact ⟨k + 1, some r, ro', by go_num, by omega, HQ3, HPX, fun r' e => by cases e; exact hrB, HO', fun r' e e2 => by cases e; exact HRD.out e2, H3⟩
            case measure => simp [intOf]; omega
        · have hlt2 : k < m.length := by omega
          have dl : decide (k < l.length) = false := decide_eq_false hlt
          have dm : decide (k < m.length) = true := decide_eq_true hlt2
          obtain ⟨ad2, had2, hcell2⟩ := Kd.at_int (Kd.C_below HM.out (by have := HW.out; rw [← HB.out] at this; exact this)) (k : Int) (by omega) (by omega)
          subst had2
          rw [Int.toNat_natCast] at hcell2
          clear hlq2
          go_wp2_with fail
          refine (push_calls _ _ HP.out (by rw [ents_length]; simp; omega)).mono ?_
          rintro e w4 ⟨rfl, r2, hq2, hr2, hk2⟩
          have HP4 : Hid (IsQ 65 69 w4 g' (some r2) (ents (m.take (k + 1)))) := hq2.perm (ents_next m k hlt2)
          have hrB2 : B ≤ r2 := by
            rcases hr2 with h | h
            · exact HO'.out r2 h
            · have := HW.out.size; have := HB.out; omega
          have hrd2 : ro ≠ some r2 := by
            rcases hr2 with h | h
            · intro e; exact HD.out r2 e h
            · intro e; have := HQ.out.row_lt e; omega
          have HQ4 : Hid (IsQ 65 69 w4 g ro (ents (l.take k))) := q_other (by decide) HQ.out HP.out hk2 hgg (fun r e e2 => HD.out r e e2)
          have H4 : Hid (Below B w w4) := Kp.below_trans HW.out hk2 (by have := HB.out; omega) (by
            rintro i (rfl | h)
            · exact hgB
            · exact HO'.out i h.symm)
          clear hq2 hr2 hk2
          have HQX : Hid (IsQ 65 69 w4 g ro (ents (l.take (k + 1)))) := by
            have := HQ4.out
            rw [List.take_of_length_le (by omega)] at this
            rw [List.take_of_length_le (by omega)]
            exact this
          go_wp2_with fail
          go_roundw
          case rel => exact ⟨k + 1, ro, some r2, by go_num, by omega, HQX, HP4, HO, fun r' e => by cases e; exact hrB2, fun r' e e2 => by cases e2; exact hrd2 e, H4⟩
          case measure => simp [intOf]; omega
      · have dq : decide (k < q) = false := decide_eq_false hlq
        have HQ' : Hid (IsQ 65 69 wr g ro (ents l)) := by have := HQ.out; rw [List.take_of_length_le (by omega)] at this; exact this
        have HP' : Hid (IsQ 65 69 wr g' ro' (ents m)) := by have := HP.out; rw [List.take_of_length_le (by omega)] at this; exact this
        clear HQ HP hlq hk hq4
        obtain ⟨ws, hws⟩ : ∃ ws : World, ws = wr := ⟨_, rfl⟩
        subst hws
        go_wp2_with fail
        go_loopw [8, 9] (fun x z wr => ∃ (i : Nat) (done mm : List Ent), z = .int .i64 i ∧ Hid (done.length = i) ∧ i ≤ l.length ∧ Hid (line (ents l) = done ++ line mm) ∧ Hid (wr.ownsRow B 3 1 x done.length ((done.map (·.2)).map (Value.int .i64))) ∧ Hid (IsQ 65 69 wr g ro mm) ∧ Hid (IsQ 65 69 wr g' ro' (ents m)) ∧ Hid (Below B w wr)) (fun _ z _ => l.length - (intOf z).toNat)
        case atStart => exact ⟨0, [], ents l, rfl, rfl, Nat.zero_le _, rfl, ⟨rfl, .inl ⟨rfl, rfl⟩⟩, HQ', HP', HW⟩
        case round =>
          obtain ⟨i, done, mm, rfl, HI, hi, HLI, HX, HQ, HP, HW⟩ := hrel
          have hlen : done.length + mm.length = l.length := by
            have := congrArg List.length HLI.out
            rw [line_length, ents_length, List.length_append, line_length] at this
            omega
          by_cases hlt : i < l.length
          · have hpos : 0 < mm.length := by have := HI.out; omega
            have hml : mm.length ≤ 100 := by omega
            have Hlen : Hid (done.length + mm.length = l.length) := hlen
            clear hlen
            go_wp2_with fail
            refine (pop_calls HQ.out hpos (by omega)).mono ?_
            rintro e w2 ⟨y, m', rfl, h1, h2, h3, h4⟩
            have HPM : Hid (mm.Perm (y :: m')) := h1
            have HF : Hid (∀ z, z ∈ mm → lt z y = false) := h2
            have HQ2 : Hid (IsQ 65 69 w2 g ro m') := h3
            have HP2 : Hid (IsQ 65 69 w2 g' ro' (ents m)) := q_other (by decide) HP.out HQ.out h4 (fun e => hgg e.symm) (fun r e e2 => HD.out r e2 e)
            have hap := HQ.out.apart HX.out (by decide) (by decide)
            have HX2 : Hid (w2.ownsRow B 3 1 u8 done.length ((done.map (·.2)).map (Value.int .i64))) := owns_kp HX.out h4 (fun k hk => by
              have := hap k hk
              rintro (h | h)
              · exact this.1 h
              · exact this.2 h.symm)
            have HW2 : Hid (Below B w w2) := Kp.below_trans HW.out h4 (by have := HB.out; omega) (by
              rintro i (rfl | h)
              · exact hg
              · exact HO.out i h.symm)
            clear hap h1 h2 h3 h4
            obtain ⟨i0, hi0, hz0, hz1, hz2⟩ := info_parts info_int
            have hB2 : B ≤ w2.heap.size := by have := HW2.out.size; have := HB.out; omega
            have hdl : done.length ≤ 1000000000 := by have := Hlen.out; omega
            go_wp2_with (at_builtin; refine wpList_append_own_at _ rfl _ _ _ rfl B 3 i0 (.int .i64 0) 1 8 Try.underlying26 hi0 hz0 hz1 hz2 rfl (by decide) _ _ _ rfl (HX2.out.alloc _) ⟨w2.heap.size, 0, none⟩ 1 1 [.int .i64 y.2] rfl rfl ?c1 ?c2 ?c3 ?c4 ?c5 ?_)
            case c1 => exact cell_one_new _ _ _
            case c2 => intro u hu; simp at hu; subst hu; rfl
            case c3 => unfold maxLen; omega
            case c4 => omega
            case c5 => simp; omega
            intro v3 w3 hown3 hgrow3 _ hat3
            have hap2 := HQ2.out.apart HX2.out (by decide) (by decide)
            have hap3 := HP2.out.apart HX2.out (by decide) (by decide)
            have HQ3 : Hid (IsQ 65 69 w3 g ro m') :=
              (HQ2.out.kp ((Kp.refl (fun _ => False) w2).alloc _) (fun h => h) (fun _ _ h => h)).kp (Kp.of_grown hgrow3) (fun h => (hap2 g h.symm).1 rfl) (fun r hr h => (hap2 r h.symm).2 hr)
            have HP3 : Hid (IsQ 65 69 w3 g' ro' (ents m)) :=
              (HP2.out.kp ((Kp.refl (fun _ => False) w2).alloc _) (fun h => h) (fun _ _ h => h)).kp (Kp.of_grown hgrow3) (fun h => (hap3 g' h.symm).1 rfl) (fun r hr h => (hap3 r h.symm).2 hr)
            have HW3 : Hid (Below B w w3) := (HW2.out.alloc hB2 _).grown hgrow3 (by simp; omega) (fun k hk => (HX2.out.lt k hk).1)
            have HX3 : Hid (w3.ownsRow B 3 1 v3 (done ++ [y]).length (((done ++ [y]).map (·.2)).map (Value.int .i64))) := by
              show w3.ownsRow _ _ _ _ _ _
              rw [List.length_append, List.map_map, List.map_append]
              exact hown3
            have HL3 : Hid (line (ents l) = (done ++ [y]) ++ line m') := by
              show _ = _
              rw [HLI.out, line_first HPM.out HF.out]; simp
            have HI3 : Hid ((done ++ [y]).length = i + 1) := by show _ = _; rw [List.length_append, HI.out]; rfl
            clear hown3 hgrow3 hat3 hap2 hap3
            go_wp2_with fail
            go_roundw
            case rel => exact ⟨i + 1, done ++ [y], m', by go_num, HI3, by omega, HL3, HX3, HQ3, HP3, HW3⟩
            case measure => simp [intOf]; omega
          · have hm0 : mm = [] := List.eq_nil_of_length_eq_zero (by have := HI.out; omega)
            have HQ6 : Hid (IsQ 65 69 wr g ro []) := by have := HQ.out; rw [hm0] at this; exact this
            have hdone : line (ents l) = done := by have := HLI.out; rw [this, hm0]; simp [line]
            have hdl : done.length = l.length := by rw [← hdone, line_length, ents_length]
            have HR : Hid (Kd.R (Kd.int .i64) 3 wr B (fun _ => True) u8 (ord l)) := by
              have h1 := HX.out
              rw [hdl, ← hdone] at h1
              exact Kd.R_of_own (by rw [ord_length]; exact h1) (fun _ _ => trivial)
            obtain ⟨k, hk⟩ := RO.ref_order l (by omega)
            have HK := Aside0.mk hk
            clear hk hm0 hdone hdl hlen HX
            go_wp2_with fail
            refine (PrA.haberdashref01_Order.calls k a c l (ord l) wr (Kd.C_below HL.out (by have := HW.out; rw [HB.out]; exact this)) hc HK.out).mono ?_
            rintro e w4 ⟨u, rfl, hu, hk⟩
            have HR4 := Aside0.mk (Kd.R_below HR.out hk)
            have HU := Aside0.mk hu
            have HQ7 : Hid (IsQ 65 69 w4 g ro []) := HQ6.out.kp (Kp.of_below (S := fun _ => False) hk) (fun h => h) (fun _ _ h => h)
            have HP7 : Hid (IsQ 65 69 w4 g' ro' (ents m)) := HP.out.kp (Kp.of_below (S := fun _ => False) hk) (fun h => h) (fun _ _ h => h)
            have H4 : Hid (Below B w w4) := HW.out.trans (hk.mono (by have := HW.out.size; have := HB.out; omega))
            clear hk hu
            go_wp2_with fail
            refine (plain_any (T := 0) HR4.out HU.out (by rw [ord_length]; omega) (by rw [ord_length]; omega) true (decide_eq_true rfl)).mono ?_
            rintro e w5 ⟨rfl, k5, rfl⟩
            go_wp2_with fail
            refine (qlen_calls (HQ7.out.drewN k5)).mono ?_
            rintro e w' ⟨rfl, rfl⟩
            go_wp2_with fail
            refine (qlen_calls (HP7.out.drewN k5)).mono ?_
            rintro e w' ⟨rfl, rfl⟩
            go_wp2
            go_ret
            exact ⟨ret_bool (by rw [ents_length]; simp), bel_drewN H4.out _⟩

theorem queueApart_law (a : Option Addr) (c : Nat) (l : List Int) (b : Option Addr) (d : Nat) (m : List Int) (w : World) (hl : Kd.C (Kd.int .i64) w a l.length l) (hc : l.length ≤ c) (hm : Kd.C (Kd.int .i64) w b m.length m) (hd : m.length ≤ d) (_ : l.length ≤ maxLen) (_ : l.length * 8 ≤ 140737488351232) (_ : ∀ x ∈ l, (Lit.int .i64 x).wf = true) (_ : m.length ≤ maxLen) (_ : m.length * 8 ≤ 140737488351232) (_ : ∀ x ∈ m, (Lit.int .i64 x).wf = true) :
    Calls Try.prog 5 #[.slice a l.length c, .slice b m.length d] w fun e w' => e = .returned (.bool true) ∧ Below w.heap.size w w' := queueApart' _ rfl hl hc hm hd
end Go.Proofs.Ytonpcolkmecddaa.QL
