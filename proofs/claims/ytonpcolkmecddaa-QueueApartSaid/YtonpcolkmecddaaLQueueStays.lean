/- The statement QueueStays: looked at any number of times, a queue is as it was. -/
import Derived.Test.YtonpcolkmecddaaProg
import Derived.Below
import Derived.Deep.Draws
import Derived.Deep.AppendLies
import Derived.Maps.AppendAt
import Derived.OwnWalk
import Derived.Laws.BytesArg
import Derived.Laws.MakeOwn
import Derived.Laws.OwnMore
import Derived.Deep.OwnRows
import Derived.Tactics
import Derived.Lib.ConvBytes
import Derived.Laws.Slices
import Derived.WalkKit
import Derived.KernelRfl
import Derived.RowKit3
import Derived.Deep.LoopGhost
import Derived.Deep.QuietTactic
import Derived.BigQuiet
import Derived.WideLaws
import Derived.Deep.DeepCutAuto
import Derived.Deep.CutBlock
import Derived.Deep.RegionHeld3
import Derived.Laws.Rows
import Derived.Lib.AppendStr
import Derived.ArgAppend
import Derived.Laws.IdiomCopy
import Derived.OrdersHeld
import Derived.Laws.BitsLemmas
import Derived.RowKit
import Derived.BigRegion
import Derived.Outline
import Derived.RegionTactic
import Derived.StillTailTactics
import Derived.Deep.RegionLaw
import Derived.Test.YtonpcolkmecddaaQLaws
set_option linter.unusedVariables false
set_option linter.unusedSimpArgs false
namespace Go.Proofs.Ytonpcolkmecddaa.QL
open Go Go.RowKit Go.Proofs.YtonpcolkmecddaaW.PrintWords Go.Proofs.Ytonpcolkmecddaa.QM Go.Proofs.Ytonpcolkmecddaa.QR Go.Proofs.Ytonpcolkmecddaa.QW Go.Proofs.Ytonpcolkmecddaa.HP

theorem ret_bool {a b : Bool} (h : a = b) : Ending.returned (.bool a) = Ending.returned (.bool b) := by rw [h]

/-- Who is ahead of all is one. -/
theorem first_unique {m : List Ent} {x y : Ent} (hx : x ∈ m) (hy : y ∈ m) (h1 : ∀ z, z ∈ m → lt z x = false) (h2 : ∀ z, z ∈ m → lt z y = false) : x = y :=
  eq_of_nlt (h2 x hx) (h1 y hy)

theorem mod5 (n : Int) : wrap64 ((IntKind.u64.wrap n).tmod 5) ≤ 4 := by
  have h0 : 0 ≤ IntKind.u64.wrap n ∧ IntKind.u64.wrap n < 18446744073709551616 := by
    rw [IntKind.wrap_u64]; omega
  rw [Int.tmod_eq_emod_of_nonneg h0.1]
  unfold wrap64
  omega

set_option maxRecDepth 100000 in
set_option maxHeartbeats 8000000 in
theorem queueStays' {a : Option Addr} {c : Nat} {l : List Int} {w : World} (n : Int) (B : Nat) (hB : w.heap.size = B) (hl : Kd.C (Kd.int .i64) w a l.length l) (hc : l.length ≤ c) :
    Calls Try.prog 8 #[.slice a l.length c, .int .i64 n] w fun e w' => e = .returned (.bool true) ∧ Below B w w' := by
  have HB : Hid (w.heap.size = B) := hB
  by_cases hbig : 100 < l.length
  · have hd : decide ((100 : Int) < (l.length : Int)) = true := by simp; omega
    clear hB
    go_enter Try.func8, Try.ntmps8
    go_wp2_with fail
    refine (awake_calls' B HB.out).mono ?_
    rintro e w' ⟨rfl, hk⟩
    go_wp2
    go_ret
    exact ⟨rfl, hk⟩
  · have hb : l.length ≤ 100 := by omega
    have hd : decide ((100 : Int) < (l.length : Int)) = false := by simp; omega
    have HL : Hid (Kd.C (Kd.int .i64) w a l.length l) := hl
    clear hbig hB hl
    go_enter Try.func8, Try.ntmps8
    go_wp2_with fail
    refine (new_calls w).mono ?_
    rintro e w1 ⟨g, rfl, hq, hg, hk⟩
    rw [HB.out] at hg
    have H1 : Hid (Below B w w1) := by show Below _ _ _; rw [← HB.out]; exact hk.to_below (Nat.le_refl _) (fun _ h => h.elim)
    have HQ1 : Hid (IsQ 65 69 w1 g none []) := hq
    have hgl := hq.lt
    clear hk hq
    go_wp2_with fail
    refine (awake_calls w1).mono ?_
    rintro e w2 ⟨rfl, hk⟩
    have HQ2 : Hid (IsQ 65 69 w2 g none []) := HQ1.out.kp (Kp.of_below (S := fun _ => False) hk) (fun h => h) (fun _ _ h => h)
    have H2 : Hid (Below B w w2) := H1.out.trans (hk.mono (by have := H1.out.size; have := HB.out; omega))
    clear hk
    go_wp2_with fail
    go_loopw [6] (fun x wr => ∃ (k : Nat) (ro : Option Nat), x = .int .i64 k ∧ k ≤ l.length ∧ Hid (IsQ 65 69 wr g ro (ents (l.take k))) ∧ Hid (∀ r, ro = some r → B ≤ r) ∧ Hid (Below B w wr)) (fun x _ => l.length - (intOf x).toNat)
    case atStart => exact ⟨0, none, rfl, Nat.zero_le _, HQ2, fun r h => by simp at h, H2⟩
    case round =>
      obtain ⟨k, ro, rfl, hk, HQ, HO, HW⟩ := hrel
      by_cases hlt : k < l.length
      · obtain ⟨ad, rfl, hcell⟩ := Kd.at_int (Kd.C_below HL.out (by have := HW.out; rw [← HB.out] at this; exact this)) (k : Int) (by omega) (by omega)
        rw [Int.toNat_natCast] at hcell
        go_wp2_with fail
        refine (push_calls _ _ HQ.out (by rw [ents_length]; simp; omega)).mono ?_
        rintro e w3 ⟨rfl, r, hq2, hr2, hk2⟩
        have HQ3 : Hid (IsQ 65 69 w3 g (some r) ((rd l k, (k : Int)) :: ents (l.take k))) := hq2
        have HR3 : Hid (ro = some r ∨ wr.heap.size ≤ r) := hr2
        have HK3 : Hid (Kp (fun k => k = g ∨ some k = ro) wr w3) := hk2
        clear hq2 hr2 hk2
        go_wp2_with fail
        go_roundw
        case rel =>
          refine ⟨k + 1, some r, by go_num, by omega, ?_, ?_, ?_⟩
          · refine HQ3.out.perm ?_
            rw [ents_take l k hlt]
            have e : rd l (k : Int) = l[k] := by simp [rd, hlt]
            rw [e]
            exact List.perm_append_comm (l₁ := [(l[k], (k : Int))])
          · intro r' hr'
            cases hr'
            rcases HR3.out with h | h
            · exact HO.out r h
            · have := HW.out.size; have := HB.out; omega
          · refine Kp.below_trans HW.out HK3.out (by have := HB.out; omega) ?_
            rintro i (rfl | h)
            · exact hg
            · exact HO.out i h.symm
        case measure => simp [intOf]; omega
      · have hke : k = l.length := by omega
        subst hke
        have HQ' : Hid (IsQ 65 69 wr g ro (ents l)) := by have := HQ.out; rw [List.take_length] at this; exact this
        clear HQ hlt hk
        obtain ⟨ws, hws⟩ : ∃ ws : World, ws = wr := ⟨_, rfl⟩
        subst hws
        have hm5 := mod5 n
        obtain ⟨T, hT⟩ : ∃ T, wrap64 ((IntKind.u64.wrap n).tmod 5) = T := ⟨_, rfl⟩
        rw [hT] at hm5
        by_cases hl0 : l.length = 0
        · have he : ents l = [] := List.eq_nil_of_length_eq_zero (by rw [ents_length]; exact hl0)
          have HQ0 : Hid (IsQ 65 69 ws g ro []) := by have := HQ'.out; rw [he] at this; exact this
          clear he
          go_wp2_with fail
          refine (peek_empty HQ0.out).mono ?_
          rintro e w' ⟨rfl, rfl⟩
          go_wp2_with fail
          go_loopw [10] (fun x wr => ∃ (k : Nat), x = .int .i64 k ∧ k ≤ 10 ∧ ws = wr) (fun x _ => 10 - (intOf x).toNat)
          case atStart => exact ⟨0, rfl, by omega, rfl⟩
          case round =>
            obtain ⟨k, rfl, hk, rfl⟩ := hrel
            have hz : ((0 : Nat) : Int) = (l.length : Int) := by omega
            have hn3 : ((([] : List Ent).length : Int) != (l.length : Int)) = false := by simp [hl0]
            have hn4 : ((0 : Int) != (l.length : Int)) = false := by simp [hl0]
            have hd3 : decide ((0 : Int) < (l.length : Int)) = false := by simp [hl0]
            have HZ := Aside0.mk hz
            have HL0 := Aside0.mk hl0
            clear hz hl0
            by_cases hkT : (k : Int) < T
            · have hd2 : decide ((k : Int) < T) = true := decide_eq_true hkT
              go_wp2_with fail
              refine (peek_empty HQ0.out).mono ?_
              rintro e w' ⟨rfl, rfl⟩
              go_wp2_with fail
              refine (qlen_calls HQ0.out).mono ?_
              rintro e w' ⟨rfl, rfl⟩
              go_wp2_with fail
              go_roundw
              case rel => exact ⟨k + 1, by go_num, by omega, trivial⟩
              case measure => simp [intOf]; omega
            · have hd2 : decide ((k : Int) < T) = false := decide_eq_false hkT
              clear hkT
              go_wp2_with fail
              refine (pop_empty HQ0.out).mono ?_
              rintro e w' ⟨rfl, rfl⟩
              go_wp2_with fail
              refine (qlen_calls HQ0.out).mono ?_
              rintro e w' ⟨rfl, rfl⟩
              go_wp2
              go_ret
              exact ⟨ret_bool rfl, HW.out⟩
        · go_wp2_with fail
          refine (peek_calls HQ'.out (by rw [ents_length]; omega) (by rw [ents_length]; omega)).mono ?_
          rintro e w4 ⟨x, rfl, hx1, hx2, kk, rfl⟩
          go_wp2_with fail
          have HX : Hid (x ∈ ents l ∧ ∀ y, y ∈ ents l → lt y x = false) := ⟨hx1, hx2⟩
          clear hx1 hx2
          go_loopw [10] (fun x wr => ∃ (k : Nat), x = .int .i64 k ∧ k ≤ 10 ∧ Hid (IsQ 65 69 wr g ro (ents l)) ∧ Hid (Below B w wr)) (fun x _ => 10 - (intOf x).toNat)
          case atStart => exact ⟨0, rfl, by omega, HQ'.out.drewN kk, bel_drewN HW.out kk⟩
          case round =>
            obtain ⟨k, rfl, hk, HQ5, HW5⟩ := hrel
            by_cases hkT : (k : Int) < T
            · have hd2 : decide ((k : Int) < T) = true := decide_eq_true hkT
              go_wp2_with fail
              refine (peek_calls HQ5.out (by rw [ents_length]; omega) (by rw [ents_length]; omega)).mono ?_
              rintro e w5 ⟨y, rfl, hy1, hy2, k5, rfl⟩
              obtain rfl : x = y := first_unique HX.out.1 hy1 HX.out.2 hy2
              have hn1 : (x.1 != x.1) = false := by simp
              have hn2 : (x.2 != x.2) = false := by simp
              have hlen : (ents l).length = l.length := ents_length l
              have HLE := Aside0.mk hlen
              clear hy1 hy2 hlen
              go_wp2_with fail
              refine (qlen_calls (HQ5.out.drewN k5)).mono ?_
              rintro e w6 ⟨rfl, rfl⟩
              rw [HLE.out]
              have hn3 : ((l.length : Int) != (l.length : Int)) = false := by simp
              go_wp2_with fail
              go_roundw
              case rel => exact ⟨k + 1, by go_num, by omega, HQ5.out.drewN k5, bel_drewN HW5.out k5⟩
              case measure => simp [intOf]; omega
            · have hd2 : decide ((k : Int) < T) = false := decide_eq_false hkT
              clear hkT
              go_wp2_with fail
              refine (pop_calls HQ5.out (by rw [ents_length]; omega) (by rw [ents_length]; omega)).mono ?_
              rintro e w5 ⟨y, m', rfl, hp, hy2, hq5, hk5⟩
              obtain rfl : x = y := first_unique HX.out.1 (hp.symm.subset List.mem_cons_self) HX.out.2 hy2
              have HM := Aside0.mk (show m'.length = l.length - 1 by have := hp.length_eq; rw [ents_length] at this; simp at this; omega)
              have H5 : Hid (Below B w w5) := Kp.below_trans HW5.out hk5 (by have := HB.out; omega) (by
                rintro i (rfl | h)
                · exact hg
                · exact HO.out i h.symm)
              have HQ6 : Hid (IsQ 65 69 w5 g ro m') := hq5
              have e1 : (x.1 == x.1) = true := by simp
              have e2 : (x.2 == x.2) = true := by simp
              have e3 : decide ((0 : Int) < (l.length : Int)) = true := by simp; omega
              clear hp hy2 hq5 hk5
              go_wp2_with fail
              refine (qlen_calls HQ6.out).mono ?_
              rintro e w6 ⟨rfl, rfl⟩
              rw [HM.out]
              go_wp2
              go_ret
              exact ⟨ret_bool (beq_iff_eq.2 (by omega)), H5.out⟩

theorem queueStays_law (a : Option Addr) (c : Nat) (l : List Int) (n : Int) (w : World) (hl : Kd.C (Kd.int .i64) w a l.length l) (hc : l.length ≤ c) (_ : l.length ≤ maxLen) (_ : l.length * 8 ≤ 140737488351232) (_ : ∀ x ∈ l, (Lit.int .i64 x).wf = true) (_ : (Lit.int .i64 n).wf = true) :
    Calls Try.prog 8 #[.slice a l.length c, .int .i64 n] w fun e w' => e = .returned (.bool true) ∧ Below w.heap.size w w' := queueStays' n _ rfl hl hc
end Go.Proofs.Ytonpcolkmecddaa.QL
