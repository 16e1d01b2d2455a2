/- The order of ranks, as the program tells it. -/
import Derived.Test.YtoagfhlhgpaekaaProg
import Derived.Below
import Derived.Deep.Draws
import Derived.Deep.AppendLies
import Derived.Maps.AppendAt
import Derived.OwnWalk
import Derived.Laws.BytesArg
import Derived.Laws.MakeOwn
import Derived.Laws.OwnMore
import Derived.Deep.OwnRows
import Derived.Tactics
import Derived.Lib.ConvBytes
import Derived.Laws.Slices
import Derived.WalkKit
import Derived.KernelRfl
import Derived.RowKit3
import Derived.Deep.LoopGhost
import Derived.Deep.QuietTactic
import Derived.BigQuiet
import Derived.WideLaws
import Derived.Deep.DeepCutAuto
import Derived.Deep.CutBlock
import Derived.Deep.RegionHeld3
import Derived.Laws.Rows
import Derived.Lib.AppendStr
import Derived.ArgAppend
import Derived.Laws.IdiomCopy
import Derived.OrdersHeld
import Derived.Laws.BitsLemmas
import Derived.RowKit
import Derived.BigRegion
import Derived.Outline
import Derived.RegionTactic
import Derived.StillTailTactics
import Derived.Deep.RegionLaw
import Derived.Test.YtoagfhlhgpaekaaVQTop2
import Derived.Test.YtoagfhlhgpaekaaVQSpec
import Derived.Test.YtoagfhlhgpaekaaVWWords
set_option linter.unusedVariables false
set_option linter.unusedSimpArgs false
namespace Go.Proofs.Ytoagfhlhgpaekaa.QW
open Go Go.RowKit Go.Proofs.Ytoagfhlhgpaekaa.QM Go.Proofs.Ytoagfhlhgpaekaa.QR Go.Proofs.YtoagfhlhgpaekaaW.PrintWords

def lenOf : Value → Nat | .slice _ n _ => n | _ => 0
theorem info_int : (Try.prog.info? 3).map (fun i => (i.zero, i.size, i.bytes)) = some (some (.int .i64 0), 1, 8) := by kernel_rfl

set_option maxRecDepth 100000 in
set_option maxHeartbeats 4000000 in
theorem order_calls' {a : Option Addr} {c : Nat} {l : List Int} {w : World} (B : Nat) (hB : w.heap.size = B) (hr : Kd.C (Kd.int .i64) w a l.length l) (hb : l.length ≤ 1000000000) :
    Calls Try.prog 22 #[.slice a l.length c] w fun e w' => ∃ v, e = .returned v ∧ w'.ownsRow B 3 1 v l.length ((ord l).map (Value.int .i64)) ∧ Below B w w' := by
  go_enter Try.func22, Try.ntmps22
  go_wp2_with fail
  refine (new_calls w).mono ?_
  rintro e w1 ⟨g, rfl, hq0, hg0, hk0⟩
  have HR : Hid (Kd.C (Kd.int .i64) w a l.length l) := hr
  have HQ0 : Hid (IsQ 55 62 w1 g none []) := hq0
  have HK0 : Hid (Below B w w1) := by show Below B w w1; rw [← hB]; exact hk0.to_below (Nat.le_refl _) (fun _ h => h.elim)
  rw [hB] at hg0
  have HB : Hid (w.heap.size = B) := hB
  clear hr hq0 hk0 hB
  go_wp2_with fail
  go_loopw [13] (fun x wr => ∃ (k : Nat) (ro : Option Nat), x = .int .i64 k ∧ k ≤ l.length ∧ Hid (IsQ 55 62 wr g ro (ents (l.take k))) ∧ Hid (∀ r, ro = some r → B ≤ r) ∧ Hid (Below B w wr)) (fun x _ => l.length - (intOf x).toNat)
  case atStart => exact ⟨0, none, rfl, Nat.zero_le _, HQ0, fun r h => by simp at h, HK0⟩
  case round =>
    obtain ⟨k, ro, rfl, hk, HQ, HO, HW⟩ := hrel
    by_cases hlt : k < l.length
    · obtain ⟨ad, rfl, hcell⟩ := Kd.at_int (Kd.C_below HR.out (by have := HW.out; rw [← HB.out] at this; exact this)) (k : Int) (by omega) (by omega)
      rw [Int.toNat_natCast] at hcell
      go_wp2_with fail
      refine (push_calls _ _ HQ.out (by rw [ents_length]; simp; omega)).mono ?_
      rintro e w2 ⟨rfl, r, hq2, hr2, hk2⟩
      have HQ2 : Hid (IsQ 55 62 w2 g (some r) ((rd l k, (k : Int)) :: ents (l.take k))) := hq2
      have HR2 : Hid (ro = some r ∨ wr.heap.size ≤ r) := hr2
      have HK2 : Hid (Kp (fun k => k = g ∨ some k = ro) wr w2) := hk2
      clear hq2 hr2 hk2
      go_wp2_with fail
      go_roundw
      case rel =>
        refine ⟨k + 1, some r, by go_num, by omega, ?_, ?_, ?_⟩
        · refine HQ2.out.perm ?_
          rw [ents_take l k hlt]
          have e : rd l (k : Int) = l[k] := by simp [rd, hlt]
          rw [e]
          exact List.perm_append_comm (l₁ := [(l[k], (k : Int))])
        · intro r' hr'
          cases hr'
          rcases HR2.out with h | h
          · exact HO.out r h
          · have := HW.out.size; have := HB.out; omega
        · refine Kp.below_trans HW.out HK2.out (by have := HB.out; omega) ?_
          rintro i (rfl | h)
          · exact hg0
          · exact HO.out i h.symm
      case measure => simp [intOf]; omega
    · have hke : k = l.length := by omega
      subst hke
      have HQ' : Hid (IsQ 55 62 wr g ro (ents l)) := by have := HQ.out; rw [List.take_length] at this; exact this
      clear HQ hlt hk
      go_wp2_with fail
      obtain ⟨ww, hww⟩ : ∃ ww : World, ww = wr := ⟨_, rfl⟩
      subst hww
      go_loopw [6] (fun x wr => ∃ (done m : List Ent), Hid (IsQ 55 62 wr g ro m) ∧ Hid (line (ents l) = done ++ line m) ∧ Hid (wr.ownsRow B 3 1 x done.length ((done.map (·.2)).map (Value.int .i64))) ∧ Hid (Below B w wr)) (fun x _ => l.length - lenOf x)
      case atStart => exact ⟨[], ents l, HQ', rfl, ⟨rfl, .inl ⟨rfl, rfl⟩⟩, HW⟩
      case round =>
        obtain ⟨done, m, HQ, HL, HX, HW⟩ := hrel
        have hlen : done.length + m.length = l.length := by
          have := congrArg List.length HL.out
          rw [line_length, ents_length, List.length_append, line_length] at this
          omega
        by_cases hm : m.length = 0
        · have hm0 : m = [] := List.eq_nil_of_length_eq_zero hm
          subst hm0
          clear hlen hm
          go_wp2_with fail
          refine (qlen_calls HQ.out).mono ?_
          rintro e w' ⟨rfl, rfl⟩
          go_wp2_with fail
          go_ret
          have hd : line (ents l) = done := by have := HL.out; rw [this]; simp [line]
          refine ⟨_, rfl, ?_, HW.out⟩
          have h1 := HX.out
          have h2 : done.length = l.length := by rw [← hd, line_length, ents_length]
          rw [h2] at h1
          unfold ord
          rw [hd]
          exact h1
        · have hpos : 0 < m.length := by omega
          have hd : decide ((0 : Int) < (m.length : Int)) = true := by simp; omega
          have hml : m.length ≤ 1000000000 := by omega
          have Hlen : Hid (done.length + m.length = l.length) := hlen
          clear hm hlen
          go_wp2_with fail
          refine (qlen_calls HQ.out).mono ?_
          rintro e w' ⟨rfl, rfl⟩
          go_wp2_with fail
          refine (pop_calls HQ.out hpos (by omega)).mono ?_
          rintro e w2 ⟨y, m', rfl, h1, h2, h3, h4⟩
          have HP : Hid (m.Perm (y :: m')) := h1
          have HF : Hid (∀ z, z ∈ m → lt z y = false) := h2
          have HQ2 : Hid (IsQ 55 62 w2 g ro m') := h3
          have HK2 : Hid (Kp (fun k => k = g ∨ some k = ro) wr w2) := h4
          clear h1 h2 h3 h4
          have hap := HQ.out.apart HX.out (by decide) (by decide)
          have HX2 : Hid (w2.ownsRow B 3 1 u6 done.length ((done.map (·.2)).map (Value.int .i64))) := owns_kp HX.out HK2.out (fun k hk => by
            have := hap k hk
            rintro (h | h)
            · exact this.1 h
            · exact this.2 h.symm)
          have HW2 : Hid (Below B w w2) := by
            refine Kp.below_trans HW.out HK2.out (by have := HB.out; omega) ?_
            rintro i (rfl | h)
            · exact hg0
            · exact HO.out i h.symm
          clear hap
          obtain ⟨i0, hi, hz0, hz1, hz2⟩ := info_parts info_int
          have hB2 : B ≤ w2.heap.size := by have := HW2.out.size; have := HB.out; omega
          have hdl : done.length ≤ 1000000000 := by have := Hlen.out; omega
          go_wp2_with (at_builtin; refine wpList_append_own_at _ rfl _ _ _ rfl B 3 i0 (.int .i64 0) 1 8 Try.underlying35 hi hz0 hz1 hz2 rfl (by decide) _ _ _ rfl (HX2.out.alloc _) ⟨w2.heap.size, 0, none⟩ 1 1 [.int .i64 y.2] rfl rfl ?c1 ?c2 ?c3 ?c4 ?c5 ?_)
          case c1 => exact cell_one_new _ _ _
          case c2 => intro u hu; simp at hu; subst hu; rfl
          case c3 => unfold maxLen; omega
          case c4 => omega
          case c5 => simp; omega
          intro v3 w3 hown3 hgrow3 _ hat3
          have hap2 := HQ2.out.apart HX2.out (by decide) (by decide)
          have HQ3 : Hid (IsQ 55 62 w3 g ro m') :=
            (HQ2.out.kp ((Kp.refl (fun _ => False) w2).alloc _) (fun h => h) (fun _ _ h => h)).kp (Kp.of_grown hgrow3) (fun h => (hap2 g h.symm).1 rfl) (fun r hr h => (hap2 r h.symm).2 hr)
          have HW3 : Hid (Below B w w3) := (HW2.out.alloc hB2 _).grown hgrow3 (by simp; omega) (fun k hk => (HX2.out.lt k hk).1)
          have HX3 : Hid (w3.ownsRow B 3 1 v3 (done ++ [y]).length (((done ++ [y]).map (·.2)).map (Value.int .i64))) := by
            show w3.ownsRow _ _ _ _ _ _
            rw [List.length_append, List.map_map, List.map_append]
            exact hown3
          have HL3 : Hid (line (ents l) = (done ++ [y]) ++ line m') := by
            show _ = _
            rw [HL.out, line_first HP.out HF.out]; simp
          have hlen3 : lenOf v3 = done.length + 1 := by
            rcases hown3.2 with ⟨_, h⟩ | ⟨_, _, _, rfl, _⟩
            · omega
            · rfl
          have hlen6 : lenOf u6 = done.length := by
            rcases HX.out.2 with ⟨rfl, h⟩ | ⟨_, _, _, rfl, _⟩
            · exact h.symm
            · rfl
          clear hown3 hgrow3 hat3 hap2
          have Hlen3 : Hid (lenOf v3 = done.length + 1) := hlen3
          have Hlen6 : Hid (lenOf u6 = done.length) := hlen6
          clear hlen3 hlen6
          go_wp2_with fail
          go_roundw
          case rel => exact ⟨done ++ [y], m', HQ3, HL3, HX3, HW3⟩
          case measure =>
            show l.length - lenOf v3 < l.length - lenOf u6
            rw [Hlen3.out, Hlen6.out]
            have := Hlen.out
            omega

/-- The order of ranks, told as a row of one's own. -/
theorem order_calls {a : Option Addr} {c : Nat} {l : List Int} {w : World} (hr : Kd.C (Kd.int .i64) w a l.length l) (hb : l.length ≤ 1000000000) :
    Calls Try.prog 22 #[.slice a l.length c] w fun e w' => ∃ v, e = .returned v ∧ Kd.R (Kd.int .i64) 3 w' w.heap.size (fun _ => True) v (ord l) ∧ Below w.heap.size w w' :=
  (order_calls' w.heap.size rfl hr hb).mono fun e w' ⟨v, he, ho, hk⟩ => ⟨v, he, Kd.R_of_own (by rw [ord_length]; exact ho) (fun _ _ => trivial), hk⟩
end Go.Proofs.Ytoagfhlhgpaekaa.QW
