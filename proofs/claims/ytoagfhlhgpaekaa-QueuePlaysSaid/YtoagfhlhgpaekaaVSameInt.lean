/- Two lists of whole numbers held against each other, as haberdashhelp does it. -/
import Derived.Test.YtoagfhlhgpaekaaProg
import Derived.Below
import Derived.Deep.Draws
import Derived.Deep.AppendLies
import Derived.Maps.AppendAt
import Derived.OwnWalk
import Derived.Laws.BytesArg
import Derived.Laws.MakeOwn
import Derived.Laws.OwnMore
import Derived.Deep.OwnRows
import Derived.Tactics
import Derived.Lib.ConvBytes
import Derived.Laws.Slices
import Derived.WalkKit
import Derived.KernelRfl
import Derived.RowKit3
import Derived.Deep.LoopGhost
import Derived.Deep.QuietTactic
import Derived.BigQuiet
import Derived.WideLaws
import Derived.Deep.DeepCutAuto
import Derived.Deep.CutBlock
import Derived.Deep.RegionHeld3
import Derived.Laws.Rows
import Derived.Lib.AppendStr
import Derived.ArgAppend
import Derived.Laws.IdiomCopy
import Derived.OrdersHeld
import Derived.Laws.BitsLemmas
import Derived.RowKit
import Derived.BigRegion
import Derived.Outline
import Derived.RegionTactic
import Derived.StillTailTactics
import Derived.Deep.RegionLaw
import Derived.Test.YtoagfhlhgpaekaaVWWords
import Derived.Test.YtoagfhlhgpaekaaVQRow
set_option linter.unusedVariables false
set_option linter.unusedSimpArgs false
namespace Go.Proofs.Ytoagfhlhgpaekaa.HP
open Go Go.RowKit Go.Proofs.YtoagfhlhgpaekaaW.PrintWords

theorem rd_nat (l : List Int) (k : Nat) (h : k < l.length) : rd l (k : Int) = l[k] := by simp [rd, h]

set_option maxHeartbeats 1000000 in
theorem one_int (x y : Int) (w : World) : Calls Try.prog 36 #[.int .i64 x, .int .i64 y] w fun e w' => e = .returned (.bool (x == y)) ∧ w' = w := by
  go_enter Try.func36, Try.ntmps36
  go_wp2
  go_ret
  exact ⟨rfl, rfl⟩

set_option maxRecDepth 100000 in
set_option maxHeartbeats 2000000 in
theorem same_int {a b : Option Addr} {c d : Nat} {xs ys : List Int} {w : World} (hx : Kd.C (Kd.int .i64) w a xs.length xs) (hy : Kd.C (Kd.int .i64) w b ys.length ys) (h1 : xs.length ≤ 1000000000) (h2 : ys.length ≤ 1000000000) :
    Calls Try.prog 35 #[.slice a xs.length c, .slice b ys.length d, .func (.func 36) #[] #[]] w fun e w' => e = .returned (.bool (decide (xs = ys))) ∧ ∃ k, w' = w.drewN k := by
  by_cases hl : xs.length = ys.length
  · have hlb : ((xs.length : Int) == (ys.length : Int)) = true := beq_iff_eq.2 (by omega)
    have hlb2 : ((xs.length : Int) != (ys.length : Int)) = false := bne_eq_false_iff_eq.2 (by omega)
    have HL : Hid (xs.length = ys.length) := hl
    have HX : Hid (Kd.C (Kd.int .i64) w a xs.length xs) := hx
    have HY : Hid (Kd.C (Kd.int .i64) w b ys.length ys) := hy
    obtain ⟨n, hn⟩ : ∃ n, n = xs.length := ⟨_, rfl⟩
    clear hx hy hl
    go_enter Try.func35, Try.ntmps35
    go_wp2
    go_loopw [7] (fun x wr => ∃ k : Nat, x = .int .i64 k ∧ k ≤ xs.length ∧ Hid (∃ m, wr = w.drewN m) ∧ Hid (xs.take k = ys.take k)) (fun x _ => xs.length - (intOf x).toNat)
    case atStart => exact ⟨0, rfl, Nat.zero_le _, ⟨0, rfl⟩, rfl⟩
    case round =>
      obtain ⟨k, rfl, hk, HW, HT⟩ := hrel
      by_cases hlt : k < xs.length
      · have hlt2 : k < ys.length := by have := HL.out; omega
        have hcx0 : ∃ ax, a = some ax ∧ wr.cell? (ax.add (k : Int).toNat) = some (.int .i64 (rd xs k)) := by
          obtain ⟨m, rfl⟩ := HW.out
          exact Kd.at_int HX.out (k : Int) (by omega) (by omega)
        have hcy0 : ∃ ay, b = some ay ∧ wr.cell? (ay.add (k : Int).toNat) = some (.int .i64 (rd ys k)) := by
          obtain ⟨m, rfl⟩ := HW.out
          exact Kd.at_int HY.out (k : Int) (by omega) (by omega)
        obtain ⟨ax, ha, hcx⟩ := hcx0
        obtain ⟨ay, hb, hcy⟩ := hcy0
        subst ha
        subst hb
        rw [Int.toNat_natCast, rd_nat _ _ hlt] at hcx
        rw [Int.toNat_natCast, rd_nat _ _ hlt2] at hcy
        have hi2 : (k : Int) < (ys.length : Int) := by omega
        by_cases he : xs[k] = ys[k]
        · have heb : (xs[k] == ys[k]) = true := by simpa using he
          have HT2 : Hid (xs.take (k + 1) = ys.take (k + 1)) := by
            show _ = _
            rw [List.take_succ_eq_append_getElem hlt, List.take_succ_eq_append_getElem hlt2, HT.out, he]
          generalize xs[k] = p at *
          generalize ys[k] = q at *
          clear he
          go_wp2_with fail
          go_quiet ((go_at_call 36; exact Calls.quiet_of_same (one_int _ _ _)))
          go_wp2
          go_roundw
          case rel => exact ⟨k + 1, by go_num, by omega, by obtain ⟨m, hm⟩ := HW.out; exact ⟨m + _, by rw [hm]; exact World.drewN_drewN ..⟩, HT2⟩
          case measure => simp [intOf]; omega
        · have heb : (xs[k] == ys[k]) = false := by simpa using he
          have hne : xs ≠ ys := by rintro rfl; exact he rfl
          have HN : Hid (decide (xs = ys) = false) := decide_eq_false hne
          generalize xs[k] = p at *
          generalize ys[k] = q at *
          clear he hne
          go_wp2_with fail
          go_quiet ((go_at_call 36; exact Calls.quiet_of_same (one_int _ _ _)))
          go_wp2
          go_ret
          exact ⟨by rw [HN.out]; rfl, by obtain ⟨m, hm⟩ := HW.out; exact ⟨m + _, by rw [hm]; exact World.drewN_drewN ..⟩⟩
      · have hfin : decide (xs = ys) = true := by
          have h3 := HT.out
          have h4 := HL.out
          rw [List.take_of_length_le (by omega), List.take_of_length_le (by omega)] at h3
          exact decide_eq_true h3
        have HN : Hid (decide (xs = ys) = true) := hfin
        clear hfin
        go_wp2
        go_ret
        exact ⟨by rw [HN.out]; rfl, HW.out⟩
  · have hlb : ((xs.length : Int) == (ys.length : Int)) = false := by simp; omega
    have hlb2 : ((xs.length : Int) != (ys.length : Int)) = true := by simp; omega
    have hne : decide (xs = ys) = false := decide_eq_false (fun h => hl (by rw [h]))
    have HN : Hid (decide (xs = ys) = false) := hne
    clear hne hl
    go_enter Try.func35, Try.ntmps35
    go_wp2
    go_ret
    exact ⟨by rw [HN.out]; rfl, 0, rfl⟩

set_option maxHeartbeats 1000000 in
theorem plain_int {a b : Option Addr} {c d : Nat} {xs ys : List Int} {w : World} (hx : Kd.C (Kd.int .i64) w a xs.length xs) (hy : Kd.C (Kd.int .i64) w b ys.length ys) (h1 : xs.length ≤ 1000000000) (h2 : ys.length ≤ 1000000000) :
    Calls Try.prog 21 #[.slice a xs.length c, .slice b ys.length d] w fun e w' => e = .returned (.bool (decide (xs = ys))) ∧ ∃ k, w' = w.drewN k := by
  go_enter Try.func21, Try.ntmps21
  go_wp2_with fail
  refine (same_int hx hy h1 h2).mono ?_
  rintro e w' ⟨rfl, k, rfl⟩
  go_wp2
  go_ret
  exact ⟨rfl, k, rfl⟩
end Go.Proofs.Ytoagfhlhgpaekaa.HP
