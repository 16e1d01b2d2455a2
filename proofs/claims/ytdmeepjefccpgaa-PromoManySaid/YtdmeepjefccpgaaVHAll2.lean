/- promo.All, for all lists of promos: each may be, none has the name of one ahead of it. -/
import Derived.Test.YtdmeepjefccpgaaProg
import Derived.Below
import Derived.Deep.Draws
import Derived.Deep.AppendLies
import Derived.Maps.AppendAt
import Derived.OwnWalk
import Derived.Laws.BytesArg
import Derived.Laws.MakeOwn
import Derived.Laws.OwnMore
import Derived.Deep.OwnRows
import Derived.Tactics
import Derived.Lib.ConvBytes
import Derived.Laws.Slices
import Derived.WalkKit
import Derived.KernelRfl
import Derived.RowKit3
import Derived.Deep.LoopGhost
import Derived.Deep.QuietTactic
import Derived.BigQuiet
import Derived.WideLaws
import Derived.Deep.DeepCutAuto
import Derived.Deep.CutBlock
import Derived.Deep.RegionHeld3
import Derived.Laws.Rows
import Derived.Lib.AppendStr
import Derived.ArgAppend
import Derived.Laws.IdiomCopy
import Derived.OrdersHeld
import Derived.Laws.BitsLemmas
import Derived.RowKit
import Derived.BigRegion
import Derived.Outline
import Derived.RegionTactic
import Derived.StillTailTactics
import Derived.Deep.RegionLaw
import Derived.Test.YtdmeepjefccpgaaVHAll
import Derived.Test.YtdmeepjefccpgaaVRwAb
set_option linter.unusedVariables false
set_option linter.unusedSimpArgs false
namespace Go.Proofs.Ytdmeepjefccpgaa.Rw
open Go Go.RowKit Go.Proofs.YtdmeepjefccpgaaW.PrintWords Go.Proofs.YtdmeepjefccpgaaW.PrintLast Go.Proofs.YtdmeepjefccpgaaW.PrintMore Go.Proofs.Ytdmeepjefccpgaa.PP Go.Proofs.Ytdmeepjefccpgaa.EP
theorem name_ {P : Program} {c : Code} {Q : Exit → Act → World → Prop} {a : Act} {w : World} (h : ∀ wA, wA = w → Code.wp P c Q a wA) : Code.wp P c Q a w := h w rfl
theorem take_C {w : World} {A : Option Addr} {l : List (S60)} (h : Kd.C k60 w A l.length l) (k : Nat) (hk : k ≤ l.length) : Kd.C k60 w A (l.take k).length (l.take k) := by
  obtain ⟨h1, h2, h3⟩ := h
  have e : (l.take k).length = k := by rw [List.length_take]; omega
  refine ⟨rfl, by omega, fun h0 => ?_⟩
  obtain ⟨ad, ha, hc⟩ := h3 (by omega)
  refine ⟨ad, ha, fun j p hj => hc j p ?_⟩
  rw [List.getElem?_take] at hj
  split at hj
  · exact hj
  · cases hj
theorem any_take (l : List (S60)) (s : ByteArray) (k : Nat) (hk : k ≤ l.length) : anyId (l.take k) s (l.take k).length = anyId l s k := by
  have e : (l.take k).length = k := by rw [List.length_take]; omega
  rw [e]
  unfold anyId
  congr 1
  refine allTo_congr (fun j hj => ?_)
  unfold sameId rd_T60
  rw [Int.toNat_natCast, List.getD_eq_getElem?_getD, List.getD_eq_getElem?_getD, List.getElem?_take, if_pos hj]
def stepOk (l : List (S60)) (i : Nat) : Bool := promoOk (rd_T60 l (i : Int)) && !anyId l (rd_T60 l (i : Int)).f0 i
theorem promosOk_def (l : List (S60)) : promosOk l = (decide (l.length ≤ 60) && allTo (stepOk l) l.length) := rfl
set_option maxRecDepth 100000 in
set_option maxHeartbeats 16000000 in
theorem all_walk {A0 : Option Addr} {c0 : Nat} {l0 : List (S60)} {w : World} (hr0 : Kd.C k60 w A0 l0.length l0) (hc0 : l0.length ≤ c0) :
    Calls Try.prog 37 #[.slice A0 l0.length c0] w fun e w' => e = .returned (.bool (promosOk l0)) ∧ Below w.heap.size w w' := by
  have hu60 := Try.underlying60
  have hmf : ∀ (fn : Fn) (first cap : Array Value) (w : World), (Instr.makeFunc fn first cap).run Try.prog w = .ok (.func fn first cap) w := fun _ _ _ _ => rfl
  have HR := Aside0.mk hr0
  have HC := Aside0.mk hc0
  have HB := Aside0.mk (Below.refl w.heap.size w)
  clear hr0 hc0
  go_enter Try.func37, Try.ntmps37
  by_cases h60 : l0.length ≤ 60
  rotate_left
  · have d1 : decide ((l0.length : Int) > 60) = true := decide_eq_true (by omega)
    have d2 : decide (60 < l0.length) = true := decide_eq_true (by omega)
    go_wp2
    go_ret
    exact ⟨by rw [promosOk_def, decide_eq_false h60]; rfl, HB.out⟩
  have d1 : decide ((l0.length : Int) > 60) = false := decide_eq_false (by omega)
  have d2 : decide (60 < l0.length) = false := decide_eq_false (by omega)
  have H60 := Aside0.mk h60
  go_wp2_with fail
  clear d1 d2
  go_loopw [10] (fun x wr => ∃ k : Nat, x = .int .i64 k ∧ Aside0 (k ≤ l0.length) ∧ Aside0 (∀ j, j < k → stepOk l0 j = true) ∧ Aside0 (Below w.heap.size w wr)) (fun x _ => l0.length - (intOf x).toNat)
  case atStart => exact ⟨0, rfl, ⟨Nat.zero_le _⟩, ⟨fun j h => absurd h (by omega)⟩, HB⟩
  case round =>
  clear HB
  obtain ⟨k, rfl, HK, HN, HB⟩ := hrel
  by_cases hlt : k < l0.length
  rotate_left
  · have hd : decide ((k : Int) < (l0.length : Int)) = false := decide_eq_false (by omega)
    have hdn : decide (k < l0.length) = false := decide_eq_false hlt
    go_wp2
    go_ret
    exact ⟨by
      rw [promosOk_def, decide_eq_true H60.out, allTo_iff.2 (fun i hi => HN.out i (by omega))]
      rfl, HB.out⟩
  have hd : decide ((k : Int) < (l0.length : Int)) = true := decide_eq_true (by omega)
  have hdn : decide (k < l0.length) = true := decide_eq_true hlt
  obtain ⟨ad, A6, c6, A7, c7, A13, c13, A14, c14, rfl, x0, x1, x2, x3, x4, x5, x6, x7, x8, x9, x10, x11, x12, x13, x14, l6, g6, l7, g7, l13, g13, l14, g14⟩ := at_T60 (Kd.C_below HR.out HB.out) (k : Int) (by omega) (by omega)
  rw [Int.toNat_natCast] at x0 x1 x2 x3 x4 x5 x6 x7 x8 x9 x10 x11 x12 x13 x14
  obtain ⟨y, hy⟩ : ∃ y, rd_T60 l0 (k : Int) = y := ⟨_, rfl⟩
  have HY := Aside0.mk hy
  rw [hy] at x0 x1 x2 x3 x4 x5 x6 x7 x8 x9 x10 x11 x12 x13 x14 l6 g6 l7 g7 l13 g13 l14 g14
  clear hy
  obtain ⟨f0, f1, f2, f3, f4, f5, ⟨f60, f61⟩, f7, f8, f9, f10, f11, f12, f13⟩ := y
  simp only at x0 x1 x2 x3 x4 x5 x6 x7 x8 x9 x10 x11 x12 x13 x14 l6 g6 l7 g7 l13 g13 l14 g14
  have L6 := Aside0.mk l6; have G6 := Aside0.mk g6; have L7 := Aside0.mk l7; have G7 := Aside0.mk g7
  have L13 := Aside0.mk l13; have G13 := Aside0.mk g13; have L14 := Aside0.mk l14; have G14 := Aside0.mk g14
  clear l6 g6 l7 g7 l13 g13 l14 g14
  have HLT := Aside0.mk hlt
  have p_ : (0 ≤ (k : Int)) = True := eq_true (by omega)
  have q_ : ((k : Int) < (l0.length : Int)) = True := eq_true (by omega)
  have HX := Aside0.mk (Below.refl wr.heap.size wr)
  go_upto_region 6 with (first | ((with_reducible refine gate_dst (N := 4) rfl ?_); (try (refine gate_guard (by rfl) ?_; dsimp only)); refine box_event rf_ (N := 4) rf_ (cs := #[.string ⟨#[]⟩, .int .i64 0, .int .i64 0, .string ⟨#[]⟩, .string ⟨#[]⟩, .bool false, .slice none 0 0, .slice none 0 0, .int .i64 0, .int .i64 0, .int .i64 0, .int .i64 0, .int .i64 0, .slice none 0 0, .slice none 0 0]) (t := 60) lr_ ?_; intro g4 hg w1 hbox hb; have BX := Aside0.mk hbox; have GX := Aside0.mk (ge_ HX hg (hb0_ HX)); replace HX := Aside0.mk (below_step (hb0_ HX) hb); replace x0 := hd_ HX x0; replace x1 := hd_ HX x1; replace x2 := hd_ HX x2; replace x3 := hd_ HX x3; replace x4 := hd_ HX x4; replace x5 := hd_ HX x5; replace x6 := hd_ HX x6; replace x7 := hd_ HX x7; replace x8 := hd_ HX x8; replace x9 := hd_ HX x9; replace x10 := hd_ HX x10; replace x11 := hd_ HX x11; replace x12 := hd_ HX x12; replace x13 := hd_ HX x13; replace x14 := hd_ HX x14; clear hb hbox hg; obtain ⟨c_0, c_1, c_2, c_3, c_4, c_5, c_6, c_7, c_8, c_9, c_10, c_11, c_12, c_13, c_14⟩ := cz15_ BX; obtain ⟨e_0, e_1, e_2, e_3, e_4, e_5, e_6, e_7, e_8, e_9, e_10, e_11, e_12, e_13, e_14⟩ := fz15_ BX))
  clear c_0 c_1 c_2 c_3 c_4 c_5 c_6 c_7 c_8 c_9 c_10 c_11 c_12 c_13 c_14 e_0 e_1 e_2 e_3 e_4 e_5 e_6 e_7 e_8 e_9 e_10 e_11 e_12 e_13 e_14 x0 x1 x2 x3 x4 x5 x6 x7 x8 x9 x10 x11 x12 x13 x14
  refine name_ (fun wA hwA => ?_)
  have HX2 : Aside0 (Below wr.heap.size wr wA) := ⟨by rw [hwA]; exact hb1_ HX GX⟩
  have b0 := blk_put (cs' := #[.string f0, .int .i64 0, .int .i64 0, .string ⟨#[]⟩, .string ⟨#[]⟩, .bool false, .slice none 0 0, .slice none 0 0, .int .i64 0, .int .i64 0, .int .i64 0, .int .i64 0, .int .i64 0, .slice none 0 0, .slice none 0 0]) BX.out 0 (.string f0) (by rfl)
  have b1 := blk_put (cs' := #[.string f0, .int .i64 f1, .int .i64 0, .string ⟨#[]⟩, .string ⟨#[]⟩, .bool false, .slice none 0 0, .slice none 0 0, .int .i64 0, .int .i64 0, .int .i64 0, .int .i64 0, .int .i64 0, .slice none 0 0, .slice none 0 0]) b0 1 (.int .i64 f1) (by rfl)
  have b2 := blk_put (cs' := #[.string f0, .int .i64 f1, .int .i64 f2, .string ⟨#[]⟩, .string ⟨#[]⟩, .bool false, .slice none 0 0, .slice none 0 0, .int .i64 0, .int .i64 0, .int .i64 0, .int .i64 0, .int .i64 0, .slice none 0 0, .slice none 0 0]) b1 2 (.int .i64 f2) (by rfl)
  have b3 := blk_put (cs' := #[.string f0, .int .i64 f1, .int .i64 f2, .string f3, .string ⟨#[]⟩, .bool false, .slice none 0 0, .slice none 0 0, .int .i64 0, .int .i64 0, .int .i64 0, .int .i64 0, .int .i64 0, .slice none 0 0, .slice none 0 0]) b2 3 (.string f3) (by rfl)
  have b4 := blk_put (cs' := #[.string f0, .int .i64 f1, .int .i64 f2, .string f3, .string f4, .bool false, .slice none 0 0, .slice none 0 0, .int .i64 0, .int .i64 0, .int .i64 0, .int .i64 0, .int .i64 0, .slice none 0 0, .slice none 0 0]) b3 4 (.string f4) (by rfl)
  have b5 := blk_put (cs' := #[.string f0, .int .i64 f1, .int .i64 f2, .string f3, .string f4, .bool f5, .slice none 0 0, .slice none 0 0, .int .i64 0, .int .i64 0, .int .i64 0, .int .i64 0, .int .i64 0, .slice none 0 0, .slice none 0 0]) b4 5 (.bool f5) (by rfl)
  have b6 := blk_put (cs' := #[.string f0, .int .i64 f1, .int .i64 f2, .string f3, .string f4, .bool f5, .slice A6 f60.length c6, .slice none 0 0, .int .i64 0, .int .i64 0, .int .i64 0, .int .i64 0, .int .i64 0, .slice none 0 0, .slice none 0 0]) b5 6 (.slice A6 f60.length c6) (by rfl)
  have b7 := blk_put (cs' := #[.string f0, .int .i64 f1, .int .i64 f2, .string f3, .string f4, .bool f5, .slice A6 f60.length c6, .slice A7 f61.length c7, .int .i64 0, .int .i64 0, .int .i64 0, .int .i64 0, .int .i64 0, .slice none 0 0, .slice none 0 0]) b6 7 (.slice A7 f61.length c7) (by rfl)
  have b8 := blk_put (cs' := #[.string f0, .int .i64 f1, .int .i64 f2, .string f3, .string f4, .bool f5, .slice A6 f60.length c6, .slice A7 f61.length c7, .int .i64 f7, .int .i64 0, .int .i64 0, .int .i64 0, .int .i64 0, .slice none 0 0, .slice none 0 0]) b7 8 (.int .i64 f7) (by rfl)
  have b9 := blk_put (cs' := #[.string f0, .int .i64 f1, .int .i64 f2, .string f3, .string f4, .bool f5, .slice A6 f60.length c6, .slice A7 f61.length c7, .int .i64 f7, .int .i64 f8, .int .i64 0, .int .i64 0, .int .i64 0, .slice none 0 0, .slice none 0 0]) b8 9 (.int .i64 f8) (by rfl)
  have b10 := blk_put (cs' := #[.string f0, .int .i64 f1, .int .i64 f2, .string f3, .string f4, .bool f5, .slice A6 f60.length c6, .slice A7 f61.length c7, .int .i64 f7, .int .i64 f8, .int .i64 f9, .int .i64 0, .int .i64 0, .slice none 0 0, .slice none 0 0]) b9 10 (.int .i64 f9) (by rfl)
  have b11 := blk_put (cs' := #[.string f0, .int .i64 f1, .int .i64 f2, .string f3, .string f4, .bool f5, .slice A6 f60.length c6, .slice A7 f61.length c7, .int .i64 f7, .int .i64 f8, .int .i64 f9, .int .i64 f10, .int .i64 0, .slice none 0 0, .slice none 0 0]) b10 11 (.int .i64 f10) (by rfl)
  have b12 := blk_put (cs' := #[.string f0, .int .i64 f1, .int .i64 f2, .string f3, .string f4, .bool f5, .slice A6 f60.length c6, .slice A7 f61.length c7, .int .i64 f7, .int .i64 f8, .int .i64 f9, .int .i64 f10, .int .i64 f11, .slice none 0 0, .slice none 0 0]) b11 12 (.int .i64 f11) (by rfl)
  have b13 := blk_put (cs' := #[.string f0, .int .i64 f1, .int .i64 f2, .string f3, .string f4, .bool f5, .slice A6 f60.length c6, .slice A7 f61.length c7, .int .i64 f7, .int .i64 f8, .int .i64 f9, .int .i64 f10, .int .i64 f11, .slice A13 f12.length c13, .slice none 0 0]) b12 13 (.slice A13 f12.length c13) (by rfl)
  have b14 := blk_put (cs' := #[.string f0, .int .i64 f1, .int .i64 f2, .string f3, .string f4, .bool f5, .slice A6 f60.length c6, .slice A7 f61.length c7, .int .i64 f7, .int .i64 f8, .int .i64 f9, .int .i64 f10, .int .i64 f11, .slice A13 f12.length c13, .slice A14 f13.length c14]) b13 14 (.slice A14 f13.length c14) (by rfl)
  have B4 : Aside0 (wA.heap[g4]? = some (.cells #[.string f0, .int .i64 f1, .int .i64 f2, .string f3, .string f4, .bool f5, .slice A6 f60.length c6, .slice A7 f61.length c7, .int .i64 f7, .int .i64 f8, .int .i64 f9, .int .i64 f10, .int .i64 f11, .slice A13 f12.length c13, .slice A14 f13.length c14] 60 (0, 0))) := ⟨by rw [hwA]; exact b14⟩
  clear b0 b1 b2 b3 b4 b5 b6 b7 b8 b9 b10 b11 b12 b13 b14
  clear hwA
  clear HX GX BX p_ q_ hd hdn hlt
  replace HB := Aside0.mk (below_step HB.out HX2.out)
  replace G6 : Aside0 (Kd.string.C wA A6 f60.length f60) := ⟨Kd.C_below (Kd.C_below G6.out (Below.refl _ _)) HX2.out⟩
  replace G7 : Aside0 (Kd.string.C wA A7 f61.length f61) := ⟨Kd.C_below G7.out HX2.out⟩
  replace G13 := Aside0.mk (Kd.C_below G13.out HX2.out)
  replace G14 := Aside0.mk (Kd.C_below G14.out HX2.out)
  clear HX2
  obtain ⟨c_0, c_1, c_2, c_3, c_4, c_5, c_6, c_7, c_8, c_9, c_10, c_11, c_12, c_13, c_14⟩ := cz15_ B4
  go_wp2_with fail
  refine (right_of (⟨f0, f1, f2, f3, f4, f5, ⟨f60, f61⟩, f7, f8, f9, f10, f11, f12, f13⟩ : S60) _ L6.out G6.out L7.out G7.out L13.out G13.out L14.out G14.out).mono ?_
  rintro e w2 ⟨rfl, hb⟩
  replace HB := Aside0.mk (below_step HB.out hb)
  replace B4 := Aside0.mk (blk_below B4.out hb)
  clear hb c_0 c_1 c_2 c_3 c_4 c_5 c_6 c_7 c_8 c_9 c_10 c_11 c_12 c_13 c_14
  have NO : Aside0 (stepOk l0 k = false → promosOk l0 = false) := ⟨fun h => by rw [promosOk_def, allTo_no HLT.out h, Bool.and_false]⟩
  have SK : Aside0 (stepOk l0 k = (promoOk (⟨f0, f1, f2, f3, f4, f5, ⟨f60, f61⟩, f7, f8, f9, f10, f11, f12, f13⟩ : S60) && !anyId l0 f0 k)) := ⟨by unfold stepOk; rw [HY.out]⟩
  clear HY
  obtain ⟨PB, hpb⟩ : ∃ b, promoOk (⟨f0, f1, f2, f3, f4, f5, ⟨f60, f61⟩, f7, f8, f9, f10, f11, f12, f13⟩ : S60) = b := ⟨_, rfl⟩
  rw [hpb] at SK ⊢
  clear hpb
  cases PB with
  | false =>
    go_wp2_with fail
    go_ret
    exact ⟨by rw [NO.out (by rw [SK.out]; rfl)]; rfl, HB.out⟩
  | true =>
    have hk1 : (0 : Int) ≤ (k : Int) := by omega
    have hk2 : (k : Int) ≤ (l0.length : Int) := by have := HLT.out; omega
    have hk3 : k ≤ l0.length := by have := HLT.out; omega
    have hk4 : k ≤ c0 := by have := HC.out; omega
    have eL : (l0.take k).length = k := by rw [List.length_take]; omega
    have CC := cont_calls (c0 := c0) (g := g4) (s := f0) (by rw [eL]; have := H60.out; omega) (take_C (Kd.C_below HR.out HB.out) k hk3) (cl_ B4 0)
    rw [any_take l0 f0 k hk3, eL] at CC
    have HCC := Aside0.mk CC
    clear CC
    go_wp2_with fail
    clear hk1 hk2 hk4 eL
    refine HCC.out.mono ?_
    rintro e w3 ⟨rfl, hb⟩
    replace HB := Aside0.mk (below_step HB.out hb)
    clear hb HCC
    cases AB : anyId l0 f0 k with
    | true =>
      rw [AB] at SK
      clear AB
      go_wp2_with fail
      go_ret
      exact ⟨by rw [NO.out (by rw [SK.out]; rfl)]; rfl, HB.out⟩
    | false =>
      rw [AB] at SK
      clear AB NO
      have SK2 : Aside0 (stepOk l0 k = true) := ⟨by rw [SK.out]; rfl⟩
      have hkl : k < 9223372036854775807 := by have := H60.out; omega
      clear hk3 SK
      go_wp2_with fail
      refine ⟨⟨k + 1, rfl, HLT, ⟨fun j hj => ?_⟩, HB⟩, ?_⟩
      · rcases Nat.lt_or_ge j k with h | h
        · exact HN.out j h
        · obtain rfl : j = k := by omega
          exact SK2.out
      · have h1 := HLT.out
        show l0.length - (k + 1) < l0.length - k
        omega
end Go.Proofs.Ytdmeepjefccpgaa.Rw
