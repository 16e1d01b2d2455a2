/- promo.All, for all lists of promos: each may be, none has the name of one ahead of it. -/
import Derived.Test.YtdmeepjefccpgaaProg
import Derived.Below
import Derived.Deep.Draws
import Derived.Deep.AppendLies
import Derived.Maps.AppendAt
import Derived.OwnWalk
import Derived.Laws.BytesArg
import Derived.Laws.MakeOwn
import Derived.Laws.OwnMore
import Derived.Deep.OwnRows
import Derived.Tactics
import Derived.Lib.ConvBytes
import Derived.Laws.Slices
import Derived.WalkKit
import Derived.KernelRfl
import Derived.RowKit3
import Derived.Deep.LoopGhost
import Derived.Deep.QuietTactic
import Derived.BigQuiet
import Derived.WideLaws
import Derived.Deep.DeepCutAuto
import Derived.Deep.CutBlock
import Derived.Deep.RegionHeld3
import Derived.Laws.Rows
import Derived.Lib.AppendStr
import Derived.ArgAppend
import Derived.Laws.IdiomCopy
import Derived.OrdersHeld
import Derived.Laws.BitsLemmas
import Derived.RowKit
import Derived.BigRegion
import Derived.Outline
import Derived.RegionTactic
import Derived.StillTailTactics
import Derived.Deep.RegionLaw
import Derived.Test.YtdmeepjefccpgaaVHRight
set_option linter.unusedVariables false
set_option linter.unusedSimpArgs false
namespace Go.Proofs.Ytdmeepjefccpgaa.Rw
open Go Go.RowKit Go.Proofs.YtdmeepjefccpgaaW.PrintWords Go.Proofs.YtdmeepjefccpgaaW.PrintLast Go.Proofs.YtdmeepjefccpgaaW.PrintMore Go.Proofs.Ytdmeepjefccpgaa.PP Go.Proofs.Ytdmeepjefccpgaa.EP
def promoOk (x : S60) : Bool := rightOk x.f0 x.f1 x.f2 x.f3 x.f4 x.f5 x.f6.f0 x.f6.f1 x.f7 x.f8 x.f9 x.f10 x.f11 x.f12 x.f13
def sameId (l : List (S60)) (s : ByteArray) (j : Nat) : Bool := (rd_T60 l (j : Int)).f0.toList == s.toList
def anyId (l : List (S60)) (s : ByteArray) (n : Nat) : Bool := !allTo (fun j => !sameId l s j) n
def promosOk (l : List (S60)) : Bool := decide (l.length ≤ 60) && allTo (fun i => promoOk (rd_T60 l (i : Int)) && !anyId l (rd_T60 l (i : Int)).f0 i) l.length
theorem right_of (x : S60) {A6 A7 A13 A14 : Option Addr} {c6 c7 c13 c14 : Nat} (w : World) (l6 : x.f6.f0.length ≤ c6) (g6 : Kd.string.C w A6 x.f6.f0.length x.f6.f0) (l7 : x.f6.f1.length ≤ c7) (g7 : Kd.string.C w A7 x.f6.f1.length x.f6.f1) (l13 : x.f12.length ≤ c13) (g13 : Kd.C k65 w A13 x.f12.length x.f12) (l14 : x.f13.length ≤ c14) (g14 : Kd.C k67 w A14 x.f13.length x.f13) :
    Calls Try.prog 30 #[.agg #[.string x.f0, .int .i64 x.f1, .int .i64 x.f2, .string x.f3, .string x.f4, .bool x.f5, .slice A6 x.f6.f0.length c6, .slice A7 x.f6.f1.length c7, .int .i64 x.f7, .int .i64 x.f8, .int .i64 x.f9, .int .i64 x.f10, .int .i64 x.f11, .slice A13 x.f12.length c13, .slice A14 x.f13.length c14]] w fun e w' => e = .returned (.bool (promoOk x)) ∧ Below w.heap.size w w' :=
  right_walk _ _ _ _ _ _ _ _ _ _ _ _ _ _ _ _ _ _ _ _ _ _ _ w g6 l6 g7 l7 g13 l13 g14 l14
set_option maxRecDepth 100000 in
theorem idEq (x : S60) (A6 A7 A13 A14 : Option Addr) (c6 c7 c13 c14 : Nat) (g : Nat) (s : ByteArray) (w : World) (hg : g < w.heap.size) (hc : w.cell? ⟨g, 0, none⟩ = some (.string s)) :
    Calls Try.prog 87 #[.agg #[.string x.f0, .int .i64 x.f1, .int .i64 x.f2, .string x.f3, .string x.f4, .bool x.f5, .slice A6 x.f6.f0.length c6, .slice A7 x.f6.f1.length c7, .int .i64 x.f7, .int .i64 x.f8, .int .i64 x.f9, .int .i64 x.f10, .int .i64 x.f11, .slice A13 x.f12.length c13, .slice A14 x.f13.length c14], .pointer (some ⟨g, 0, none⟩)] w fun e w' => e = .returned (.bool (x.f0.toList == s.toList)) ∧ Below w.heap.size w w' := by
  obtain ⟨f0, f1, f2, f3, f4, f5, ⟨f60, f61⟩, f7, f8, f9, f10, f11, f12, f13⟩ := x
  go_enter Try.func87, Try.ntmps87
  go_wp2
  go_ret
  exact ⟨rfl, (Below.refl _ _).alloc (Nat.le_refl _) _⟩
def IdxP (b : Bool) (w : World) (e : Ending) (w' : World) : Prop := ∃ r : Int, e = .returned (.int .i64 r) ∧ decide (0 ≤ r) = b ∧ Below w.heap.size w w'
set_option maxRecDepth 100000 in
set_option maxHeartbeats 8000000 in
theorem idx_calls {A0 : Option Addr} {c0 : Nat} {l0 : List (S60)} {g : Nat} {s : ByteArray} {w : World} (hlen : l0.length ≤ 9223372036854775807) (hr0 : Kd.C k60 w A0 l0.length l0) (hc : w.cell? ⟨g, 0, none⟩ = some (.string s)) :
    Calls Try.prog 125 #[.slice A0 l0.length c0, .func (.func 87) #[] #[.pointer (some ⟨g, 0, none⟩)]] w (IdxP (anyId l0 s l0.length) w) := by
  have HR := Aside0.mk hr0
  have HG : Aside0 (g < w.heap.size) := ⟨World.block_lt_of_cell? w _ hc⟩
  have HC := Aside0.mk hc
  clear hr0 hc
  go_enter Try.func125, Try.ntmps125
  go_wp2_with fail
  go_loopw [8] (fun x wr => ∃ k : Nat, x = .int .i64 k ∧ k ≤ l0.length ∧ Aside0 (∀ j, j < k → sameId l0 s j = false) ∧ Aside0 (Below w.heap.size w wr)) (fun x _ => l0.length - (intOf x).toNat)
  case atStart => exact ⟨0, rfl, Nat.zero_le _, ⟨fun j h => absurd h (by omega)⟩, ⟨Below.refl _ _⟩⟩
  case round =>
    obtain ⟨k, rfl, hk, HN, HW⟩ := hrel
    by_cases hlt : k < l0.length
    · obtain ⟨ad, A6, c6, A7, c7, A13, c13, A14, c14, rfl, x0, x1, x2, x3, x4, x5, x6, x7, x8, x9, x10, x11, x12, x13, x14, _⟩ := at_T60 (Kd.C_below HR.out HW.out) (k : Int) (by omega) (by omega)
      rw [Int.toNat_natCast] at x0 x1 x2 x3 x4 x5 x6 x7 x8 x9 x10 x11 x12 x13 x14
      obtain ⟨y, hy⟩ : ∃ y, rd_T60 l0 (k : Int) = y := ⟨_, rfl⟩
      have HY := Aside0.mk hy
      rw [hy] at x0 x1 x2 x3 x4 x5 x6 x7 x8 x9 x10 x11 x12 x13 x14
      clear hy
      obtain ⟨f0, f1, f2, f3, f4, f5, ⟨f60, f61⟩, f7, f8, f9, f10, f11, f12, f13⟩ := y
      simp only at x0 x1 x2 x3 x4 x5 x6 x7 x8 x9 x10 x11 x12 x13 x14
      have hd : decide ((k : Int) < (l0.length : Int)) = true := decide_eq_true (by omega)
      have hdn : decide (k < l0.length) = true := decide_eq_true hlt
      go_wp2_with fail
      clear x0 x1 x2 x3 x4 x5 x6 x7 x8 x9 x10 x11 x12 x13 x14
      refine (idEq (⟨f0, f1, f2, f3, f4, f5, ⟨f60, f61⟩, f7, f8, f9, f10, f11, f12, f13⟩ : S60) A6 A7 A13 A14 c6 c7 c13 c14 g s _ (by have := HW.out.size; have := HG.out; omega) ((HW.out.cell (p := ⟨g, 0, none⟩) HG.out).trans HC.out)).mono ?_
      rintro e w1 ⟨rfl, hb⟩
      have HB1 : Aside0 (Below w.heap.size w w1) := ⟨HW.out.trans (hb.mono HW.out.size)⟩
      clear hb
      cases hp : f0.toList == s.toList with
      | true =>
        have HP : Aside0 (sameId l0 s k = true) := ⟨by unfold sameId; rw [HY.out]; exact hp⟩
        clear hp
        go_wp2
        go_ret
        exact ⟨(k : Int), rfl, by
          rw [show anyId l0 s l0.length = true from by unfold anyId; rw [allTo_no hlt (by show (!sameId l0 s k) = false; rw [HP.out]; rfl)]; rfl]
          exact decide_eq_true (by omega), HB1.out⟩
      | false =>
        have HP : Aside0 (sameId l0 s k = false) := ⟨by unfold sameId; rw [HY.out]; exact hp⟩
        clear hp
        have HLT := Aside0.mk hlt
        have hkl : k < 9223372036854775807 := by omega
        clear hd hdn hlt hlen
        go_wp2_with fail
        clear HY
        refine ⟨⟨k + 1, rfl, HLT.out, ⟨fun j hj => ?_⟩, HB1⟩, ?_⟩
        · rcases Nat.lt_or_ge j k with h | h
          · exact HN.out j h
          · obtain rfl : j = k := by omega
            exact HP.out
        · have h1 := HLT.out
          show l0.length - (k + 1) < l0.length - k
          omega
    · have hd : decide ((k : Int) < (l0.length : Int)) = false := decide_eq_false (by omega)
      have hdn : decide (k < l0.length) = false := decide_eq_false hlt
      go_wp2
      go_ret
      exact ⟨-1, rfl, by
        rw [show anyId l0 s l0.length = false from by
          unfold anyId
          rw [show allTo (fun j => !sameId l0 s j) l0.length = true from allTo_iff.2 (fun i hi => by show (!sameId l0 s i) = true; rw [HN.out i (by omega)]; rfl)]
          rfl]
        rfl, HW.out⟩
set_option maxRecDepth 100000 in
theorem cont_calls {A0 : Option Addr} {c0 : Nat} {l0 : List (S60)} {g : Nat} {s : ByteArray} {w : World} (hlen : l0.length ≤ 9223372036854775807) (hr0 : Kd.C k60 w A0 l0.length l0) (hc : w.cell? ⟨g, 0, none⟩ = some (.string s)) :
    Calls Try.prog 86 #[.slice A0 l0.length c0, .func (.func 87) #[] #[.pointer (some ⟨g, 0, none⟩)]] w fun e w' => e = .returned (.bool (anyId l0 s l0.length)) ∧ Below w.heap.size w w' := by
  have HI : Aside0 (Calls Try.prog 125 #[.slice A0 l0.length c0, .func (.func 87) #[] #[.pointer (some ⟨g, 0, none⟩)]] w (IdxP (anyId l0 s l0.length) w)) := ⟨idx_calls hlen hr0 hc⟩
  clear hr0 hc hlen
  obtain ⟨b, hb⟩ : ∃ b, anyId l0 s l0.length = b := ⟨_, rfl⟩
  rw [hb] at HI ⊢
  clear hb
  go_enter Try.func86, Try.ntmps86
  go_wp2_with fail
  refine HI.out.mono ?_
  rintro e w1 ⟨r, rfl, hr, hb⟩
  have HB1 := Aside0.mk hb
  clear hb
  go_wp2
  go_ret
  exact ⟨rfl, HB1.out⟩

end Go.Proofs.Ytdmeepjefccpgaa.Rw
