/- The heap's sifting, Push and Pop, over a queue's row. -/
import Derived.Test.YtdmeepjefccpgaaProg
import Derived.Below
import Derived.Deep.Draws
import Derived.Deep.AppendLies
import Derived.Maps.AppendAt
import Derived.OwnWalk
import Derived.Laws.BytesArg
import Derived.Laws.MakeOwn
import Derived.Laws.OwnMore
import Derived.Deep.OwnRows
import Derived.Tactics
import Derived.Lib.ConvBytes
import Derived.Laws.Slices
import Derived.WalkKit
import Derived.KernelRfl
import Derived.RowKit3
import Derived.Deep.LoopGhost
import Derived.Deep.QuietTactic
import Derived.BigQuiet
import Derived.WideLaws
import Derived.Deep.DeepCutAuto
import Derived.Deep.CutBlock
import Derived.Deep.RegionHeld3
import Derived.Laws.Rows
import Derived.Lib.AppendStr
import Derived.ArgAppend
import Derived.Laws.IdiomCopy
import Derived.OrdersHeld
import Derived.Laws.BitsLemmas
import Derived.RowKit
import Derived.BigRegion
import Derived.Outline
import Derived.RegionTactic
import Derived.StillTailTactics
import Derived.Deep.RegionLaw
import Derived.Test.YtdmeepjefccpgaaVQWalk
set_option linter.unusedVariables false
set_option linter.unusedSimpArgs false
namespace Go.Proofs.Ytdmeepjefccpgaa.QW
open Go Go.RowKit Go.Proofs.Ytdmeepjefccpgaa.QM Go.Proofs.Ytdmeepjefccpgaa.QR

theorem less_any {r cap : Nat} {l : List Ent} {w : World} (h : QRow 142 w r cap l) (n i j : Nat) (x y : Int) (b : Bool) (hx : x = i) (hy : y = j) (hb : lt (at_ l i) (at_ l j) = b) (hn : l.length = n) (hi : i < n) (hj : j < n) :
    Calls Try.prog 166 #[.slice (some ⟨r, 0, none⟩) n cap, .int .i64 x, .int .i64 y] w fun e w' => e = .returned (.bool b) ∧ ∃ k, w' = w.drewN k := by
  subst hx; subst hy; exact less_calls h n i j b hb hn hi hj
theorem swap_any {r cap : Nat} {l : List Ent} {w : World} (h : QRow 142 w r cap l) (n i j : Nat) (x y : Int) (hx : x = i) (hy : y = j) (hn : l.length = n) (hi : i < n) (hj : j < n) :
    Calls Try.prog 167 #[.slice (some ⟨r, 0, none⟩) n cap, .int .i64 x, .int .i64 y] w fun e w' => e = .returned (.tuple #[]) ∧
      QRow 142 w' r cap (swp l i j) ∧ Kp (fun k => k = r) w w' := by
  subst hx; subst hy; exact swap_calls h n i j hn hi hj

theorem up_half (j : Nat) (h : 0 < j) : ((j : Int) - 1).tdiv 2 = (((j - 1) / 2 : Nat) : Int) := by
  rw [Int.tdiv_eq_ediv_of_nonneg (by omega)]; omega

set_option maxHeartbeats 2000000 in
theorem up_calls {g r cap n : Nat} {l : List Ent} {w : World} (h : QRow 142 w r cap l) (hn : l.length = n) (hg : r ≠ g)
    (hc : w.cell? ⟨g, 0, none⟩ = some (.slice (some ⟨r, 0, none⟩) n cap)) (hgl : g < w.heap.size) (j : Nat) (hj : j < n) (hb : n ≤ 2147483648) :
    Calls Try.prog 140 #[.iface 140 (.pointer (some ⟨g, 0, none⟩)), .int .i64 j] w fun e w' => e = .returned (.tuple #[]) ∧
      QRow 142 w' r cap (up (j + 1) l j) ∧ Kp (fun k => k = r) w w' := by
  go_enter Try.func140, Try.ntmps140
  go_wp2
  go_loopw [1, 4] (fun a b wr => ∃ (k q : Nat) (l' : List Ent), a = .int .i64 q ∧ q < k ∧ q < n ∧ l'.length = n ∧ QRow 142 wr r cap l' ∧ Kp (fun k => k = r) w wr ∧ Hid (up k l' q = up (j + 1) l j)) (fun a _ _ => (intOf a).toNat)
  case atStart => exact ⟨j + 1, j, l, rfl, by omega, hj, hn, h, Kp.refl _ _, rfl⟩
  case round =>
    obtain ⟨k, q, l', rfl, hqk, hqn, hl', hr, hk, hu⟩ := hrel
    have hcr : wr.cell? ⟨g, 0, none⟩ = some (.slice (some ⟨r, 0, none⟩) n cap) := by
      rw [World.cell?_of_block (w := w) (hk.block g hgl (fun e => hg e.symm))]; exact hc
    by_cases hq0 : q = 0
    · have h0 : ((q : Int) - 1).tdiv 2 = (q : Int) := by subst hq0; rfl
      have hfin : up k l' q = l' := by
        cases k with
        | zero => rfl
        | succ k => unfold up; rw [if_pos (by omega)]
      have Hfin : Hid (up k l' q = l') := hfin
      clear hfin hq0
      go_wp2
      go_end0
      exact ⟨rfl, by rw [← hu.out, Hfin.out]; exact hr, hk⟩
    · obtain ⟨p, hp⟩ : ∃ p, p = (q - 1) / 2 := ⟨_, rfl⟩
      have hd : ((q : Int) - 1).tdiv 2 = (p : Int) := by rw [hp]; exact up_half q (by omega)
      have hpq : p < q := by omega
      have hne : ((p : Int) == (q : Int)) = false := by simp; omega
      have Hp : Hid (p = (q - 1) / 2) := hp
      clear hp
      have hm0 := meth_less hcr
      by_cases hlt : lt (at_ l' q) (at_ l' p) = true
      · have Hlt : Hid (lt (at_ l' q) (at_ l' p) = true) := hlt
        clear hlt
        have hms : ∀ k, Sem.run Try.prog (method 284 140 (.pointer (some ⟨g, 0, none⟩)) "Swap") (wr.drewN k) = .ok (167, .slice (some ⟨r, 0, none⟩) n cap) (wr.drewN k) := fun k => meth_swap hcr
        have hrn : ∀ k, QRow 142 (wr.drewN k) r cap l' := fun k => hr.at_world rfl
        go_wp2_with (first
          | (go_at_call 166; refine (less_calls hr n q p true Hlt.out hl' hqn (by omega)).mono ?_; rintro e w' ⟨rfl, nd, rfl⟩)
          | (go_at_call 167; refine (swap_calls (hrn _) n p q hl' (by omega) hqn).mono ?_; rintro e w' ⟨rfl, hr2, hk2⟩))
        go_roundw
        case rel => exact ⟨k - 1, p, swp l' p q, rfl, by omega, by omega, by rw [swp_length]; exact hl', hr2, (hk.drewN _).trans hk2, by
          rw [← hu.out]
          obtain ⟨k', rfl⟩ : ∃ k', k = k' + 1 := ⟨k - 1, by omega⟩
          show up k' _ _ = up (k' + 1) _ _
          conv => rhs; unfold up
          rw [← Hp.out, if_neg (by omega), if_pos Hlt.out]⟩
        case measure => simp [intOf]; omega
      · have hlt' : lt (at_ l' q) (at_ l' p) = false := by simpa using hlt
        have Hlt : Hid (lt (at_ l' q) (at_ l' p) = false) := hlt'
        clear hlt hlt'
        go_wp2_with (first
          | (go_at_call 166; refine (less_calls hr n q p false Hlt.out hl' hqn (by omega)).mono ?_; rintro e w' ⟨rfl, nd, rfl⟩))
        go_end0
        exact ⟨rfl, by
          rw [← hu.out]
          obtain ⟨k', rfl⟩ : ∃ k', k = k' + 1 := ⟨k - 1, by omega⟩
          unfold up
          rw [← Hp.out, if_neg (by omega), if_neg (by rw [Hlt.out]; simp)]
          exact hr.at_world rfl, hk.drewN _⟩

def SomeBool (P : World → Prop) (e : Ending) (w' : World) : Prop := (∃ b, e = .returned (.bool b)) ∧ P w'

set_option maxRecDepth 100000 in
set_option maxHeartbeats 4000000 in
theorem down_calls {g r cap n : Nat} {l : List Ent} {w : World} (h : QRow 142 w r cap l) (hn : l.length = n) (hg : r ≠ g)
    (hc : w.cell? ⟨g, 0, none⟩ = some (.slice (some ⟨r, 0, none⟩) n cap)) (hgl : g < w.heap.size) (N : Nat) (hN : N ≤ n) (hb : n ≤ 2147483648) :
    Calls Try.prog 141 #[.iface 140 (.pointer (some ⟨g, 0, none⟩)), .int .i64 0, .int .i64 N] w (SomeBool fun w' =>
      QRow 142 w' r cap (down (n + 1) l 0 N) ∧ Kp (fun k => k = r) w w') := by
  go_enter Try.func141, Try.ntmps141
  go_wp2
  go_loopw [7] (fun a wr => ∃ (k q : Nat) (l' : List Ent), a = .int .i64 q ∧ N < k + q ∧ q ≤ n ∧ l'.length = n ∧ QRow 142 wr r cap l' ∧ Kp (fun k => k = r) w wr ∧ Hid (down k l' q N = down (n + 1) l 0 N)) (fun a _ => N - (intOf a).toNat)
  case atStart => exact ⟨n + 1, 0, l, rfl, by omega, by omega, hn, h, Kp.refl _ _, rfl⟩
  case round =>
    obtain ⟨k, q, l', rfl, hqk, hqn, hl', hr, hk, hu⟩ := hrel
    have hcr : wr.cell? ⟨g, 0, none⟩ = some (.slice (some ⟨r, 0, none⟩) n cap) := by
      rw [World.cell?_of_block (w := w) (hk.block g hgl (fun e => hg e.symm))]; exact hc
    by_cases hend : N ≤ 2 * q + 1
    · have hd : decide ((N : Int) ≤ 2 * (q : Int) + 1) = true := by simp; omega
      have hfin : down k l' q N = l' := by
        cases k with
        | zero => rfl
        | succ k => unfold down; rw [if_pos hend]
      have Hfin : Hid (down k l' q N = l') := hfin
      clear hfin
      go_wp2
      go_ret
      exact ⟨⟨_, rfl⟩, by rw [← hu.out, Hfin.out]; exact hr, hk⟩
    · have hd : decide ((N : Int) ≤ 2 * (q : Int) + 1) = false := by simp; omega
      have hd2 : decide (2 * (q : Int) + 1 < 0) = false := by simp; omega
      obtain ⟨k', rfl⟩ : ∃ k', k = k' + 1 := ⟨k - 1, by omega⟩
      have hstep : down (k' + 1) l' q N = if lt (at_ l' (kid l' q N)) (at_ l' q) = true then down k' (swp l' q (kid l' q N)) (kid l' q N) N else l' := by
        conv => lhs; unfold down
        rw [if_neg hend]
      have Hstep : Hid (down (k' + 1) l' q N = if lt (at_ l' (kid l' q N)) (at_ l' q) = true then down k' (swp l' q (kid l' q N)) (kid l' q N) N else l') := hstep
      clear hstep
      have hkl := kid_lt l' q N hend
      obtain ⟨c, hcd⟩ : ∃ c, c = kid l' q N := ⟨_, rfl⟩
      rw [← hcd] at hkl
      have Hc : Hid (c = kid l' q N) := hcd
      clear hcd
      obtain ⟨hc1, hc2, hc3⟩ := hkl
      clear hc3
      have hm : ∀ k, Sem.run Try.prog (method 284 140 (.pointer (some ⟨g, 0, none⟩)) "Less") (wr.drewN k) = .ok (166, .slice (some ⟨r, 0, none⟩) n cap) (wr.drewN k) := fun k => meth_less hcr
      have hm0 := meth_less hcr
      have hms : ∀ k, Sem.run Try.prog (method 284 140 (.pointer (some ⟨g, 0, none⟩)) "Swap") (wr.drewN k) = .ok (167, .slice (some ⟨r, 0, none⟩) n cap) (wr.drewN k) := fun k => meth_swap hcr
      have hrn : ∀ k, QRow 142 (wr.drewN k) r cap l' := fun k => hr.at_world rfl
      by_cases hr1 : 2 * q + 2 < N
      · have hd3 : decide (2 * (q : Int) + 2 < (N : Int)) = true := by simp; omega
        by_cases hl2 : lt (at_ l' (2 * q + 2)) (at_ l' (2 * q + 1)) = true
        · have Hl2 : Hid (lt (at_ l' (2 * q + 2)) (at_ l' (2 * q + 1)) = true) := hl2
          clear hl2
          have hce : c = 2 * q + 2 := by rw [Hc.out]; unfold kid; rw [if_pos ⟨hr1, Hl2.out⟩]
          have Hce : Hid (c = 2 * q + 2) := hce
          clear hce
          have hcc1 : c ≤ 2 * q + 2 := by have := Hce.out; omega
          have hcc2 : 2 * q + 2 ≤ c := by have := Hce.out; omega
          by_cases hlt : lt (at_ l' c) (at_ l' q) = true
          · have Hlt : Hid (lt (at_ l' c) (at_ l' q) = true) := hlt
            clear hlt
            go_wp2_with fail
            refine (less_any hr n (2 * q + 2) (2 * q + 1) _ _ true (by omega) (by omega) Hl2.out hl' (by omega) (by omega)).mono ?_
            rintro e w' ⟨rfl, nd, rfl⟩
            go_wp2_with fail
            refine (less_any (hrn _) n c q _ _ true (by omega) rfl Hlt.out hl' (by omega) (by omega)).mono ?_
            rintro e w' ⟨rfl, nd2, rfl⟩
            go_wp2_with fail
            refine (swap_any (hrn _) n q c _ _ rfl (by omega) hl' (by omega) (by omega)).mono ?_
            rintro e w' ⟨rfl, hr2, hk2⟩
            go_wp2
            go_roundw
            case rel => exact ⟨k', c, swp l' q c, by first | rfl | (congr 1; omega), by omega, by omega, by rw [swp_length]; exact hl', hr2, (hk.drewN _).trans hk2, by
              rw [← hu.out]
              show down k' _ _ _ = down (k' + 1) _ _ _
              rw [Hstep.out, ← Hc.out, if_pos Hlt.out]⟩
            case measure => simp [intOf]; omega
          · have Hlt : Hid (lt (at_ l' c) (at_ l' q) = false) := Bool.eq_false_iff.mpr hlt
            clear hlt
            go_wp2_with fail
            refine (less_any hr n (2 * q + 2) (2 * q + 1) _ _ true (by omega) (by omega) Hl2.out hl' (by omega) (by omega)).mono ?_
            rintro e w' ⟨rfl, nd, rfl⟩
            go_wp2_with fail
            refine (less_any (hrn _) n c q _ _ false (by omega) rfl Hlt.out hl' (by omega) (by omega)).mono ?_
            rintro e w' ⟨rfl, nd2, rfl⟩
            go_wp2
            go_ret
            exact ⟨⟨_, rfl⟩, by
              rw [← hu.out, Hstep.out, ← Hc.out, if_neg (by rw [Hlt.out]; simp)]
              exact hr.at_world rfl, hk.drewN _⟩
        · have Hl2 : Hid (lt (at_ l' (2 * q + 2)) (at_ l' (2 * q + 1)) = false) := Bool.eq_false_iff.mpr hl2
          clear hl2
          have hce : c = 2 * q + 1 := by rw [Hc.out]; unfold kid; rw [if_neg (by rw [Hl2.out]; simp)]
          have Hce : Hid (c = 2 * q + 1) := hce
          clear hce
          have hcc1 : c ≤ 2 * q + 1 := by have := Hce.out; omega
          have hcc2 : 2 * q + 1 ≤ c := by have := Hce.out; omega
          by_cases hlt : lt (at_ l' c) (at_ l' q) = true
          · have Hlt : Hid (lt (at_ l' c) (at_ l' q) = true) := hlt
            clear hlt
            go_wp2_with fail
            refine (less_any hr n (2 * q + 2) (2 * q + 1) _ _ false (by omega) (by omega) Hl2.out hl' (by omega) (by omega)).mono ?_
            rintro e w' ⟨rfl, nd, rfl⟩
            go_wp2_with fail
            refine (less_any (hrn _) n c q _ _ true (by omega) rfl Hlt.out hl' (by omega) (by omega)).mono ?_
            rintro e w' ⟨rfl, nd2, rfl⟩
            go_wp2_with fail
            refine (swap_any (hrn _) n q c _ _ rfl (by omega) hl' (by omega) (by omega)).mono ?_
            rintro e w' ⟨rfl, hr2, hk2⟩
            go_wp2
            go_roundw
            case rel => exact ⟨k', c, swp l' q c, by first | rfl | (congr 1; omega), by omega, by omega, by rw [swp_length]; exact hl', hr2, (hk.drewN _).trans hk2, by
              rw [← hu.out]
              show down k' _ _ _ = down (k' + 1) _ _ _
              rw [Hstep.out, ← Hc.out, if_pos Hlt.out]⟩
            case measure => simp [intOf]; omega
          · have Hlt : Hid (lt (at_ l' c) (at_ l' q) = false) := Bool.eq_false_iff.mpr hlt
            clear hlt
            go_wp2_with fail
            refine (less_any hr n (2 * q + 2) (2 * q + 1) _ _ false (by omega) (by omega) Hl2.out hl' (by omega) (by omega)).mono ?_
            rintro e w' ⟨rfl, nd, rfl⟩
            go_wp2_with fail
            refine (less_any (hrn _) n c q _ _ false (by omega) rfl Hlt.out hl' (by omega) (by omega)).mono ?_
            rintro e w' ⟨rfl, nd2, rfl⟩
            go_wp2
            go_ret
            exact ⟨⟨_, rfl⟩, by
              rw [← hu.out, Hstep.out, ← Hc.out, if_neg (by rw [Hlt.out]; simp)]
              exact hr.at_world rfl, hk.drewN _⟩
      · have hd3 : decide (2 * (q : Int) + 2 < (N : Int)) = false := by simp; omega
        have hce : c = 2 * q + 1 := by rw [Hc.out]; unfold kid; rw [if_neg (by omega)]
        have Hce : Hid (c = 2 * q + 1) := hce
        clear hce
        have hcc1 : c ≤ 2 * q + 1 := by have := Hce.out; omega
        have hcc2 : 2 * q + 1 ≤ c := by have := Hce.out; omega
        by_cases hlt : lt (at_ l' c) (at_ l' q) = true
        · have Hlt : Hid (lt (at_ l' c) (at_ l' q) = true) := hlt
          clear hlt
          go_wp2_with fail
          refine (less_any hr n c q _ _ true (by omega) rfl Hlt.out hl' (by omega) (by omega)).mono ?_
          rintro e w' ⟨rfl, nd2, rfl⟩
          go_wp2_with fail
          refine (swap_any (hrn _) n q c _ _ rfl (by omega) hl' (by omega) (by omega)).mono ?_
          rintro e w' ⟨rfl, hr2, hk2⟩
          go_wp2
          go_roundw
          case rel => exact ⟨k', c, swp l' q c, by first | rfl | (congr 1; omega), by omega, by omega, by rw [swp_length]; exact hl', hr2, (hk.drewN _).trans hk2, by
            rw [← hu.out]
            show down k' _ _ _ = down (k' + 1) _ _ _
            rw [Hstep.out, ← Hc.out, if_pos Hlt.out]⟩
          case measure => simp [intOf]; omega
        · have Hlt : Hid (lt (at_ l' c) (at_ l' q) = false) := Bool.eq_false_iff.mpr hlt
          clear hlt
          go_wp2_with fail
          refine (less_any hr n c q _ _ false (by omega) rfl Hlt.out hl' (by omega) (by omega)).mono ?_
          rintro e w' ⟨rfl, nd2, rfl⟩
          go_wp2
          go_ret
          exact ⟨⟨_, rfl⟩, by
            rw [← hu.out, Hstep.out, ← Hc.out, if_neg (by rw [Hlt.out]; simp)]
            exact hr.at_world rfl, hk.drewN _⟩
end Go.Proofs.Ytdmeepjefccpgaa.QW
