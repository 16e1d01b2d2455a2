/- slices.insertionSortCmpFunc and slices.SortStableFunc of few whole numbers, by the kit's shelf. -/
import Derived.Test.YtdmeepjefccpgaaProg
import Derived.Below
import Derived.Deep.Draws
import Derived.Deep.AppendLies
import Derived.Maps.AppendAt
import Derived.OwnWalk
import Derived.Laws.BytesArg
import Derived.Laws.MakeOwn
import Derived.Laws.OwnMore
import Derived.Deep.OwnRows
import Derived.Tactics
import Derived.Lib.ConvBytes
import Derived.Laws.Slices
import Derived.WalkKit
import Derived.KernelRfl
import Derived.RowKit3
import Derived.Deep.LoopGhost
import Derived.Deep.QuietTactic
import Derived.BigQuiet
import Derived.WideLaws
import Derived.Deep.DeepCutAuto
import Derived.Deep.CutBlock
import Derived.Deep.RegionHeld3
import Derived.Laws.Rows
import Derived.Lib.AppendStr
import Derived.ArgAppend
import Derived.Laws.IdiomCopy
import Derived.OrdersHeld
import Derived.Laws.BitsLemmas
import Derived.RowKit
import Derived.BigRegion
import Derived.Outline
import Derived.RegionTactic
import Derived.StillTailTactics
import Derived.Deep.RegionLaw
import Derived.Shelf.SlSortCmp.Insertion1
import Derived.Test.YtdmeepjefccpgaaVRwPrO
import Derived.Test.YtdmeepjefccpgaaVEvP
set_option linter.unusedVariables false
set_option linter.unusedSimpArgs false
namespace Go.Proofs.Ytdmeepjefccpgaa.HSo
open Go Go.RowKit Go.Shelf Go.Sort Go.Lib
def ren20 : Ren := ⟨fun | 20 => 138 | n => n, fun | 0 => 0 | 3 => 3 | 4 => 4 | 22 => 29 | 24 => 3 | 25 => 49 | n => n, fun | n => n⟩
theorem lay20 : Go.Proofs.SlLaysF.n20 Try.prog ren20 := {
  mixed := by kernel_rfl
  f20 := ⟨"slices.insertionSortCmpFunc[int]", by kernel_rfl, Try.func138.trans (congrArg some (by kernel_rfl))⟩
  t0 := Try.underlying0
  a0 := Try.isAgg0
  z0 := Try.sizeOf0
  v0 := Try.zeroValue0
  t3 := Try.underlying3
  a3 := Try.isAgg3
  z3 := Try.sizeOf3
  v3 := Try.zeroValue3
  t4 := Try.underlying4
  a4 := Try.isAgg4
  z4 := Try.sizeOf4
  v4 := Try.zeroValue4
  t22 := Try.underlying29
  a22 := Try.isAgg29
  z22 := Try.sizeOf29
  v22 := Try.zeroValue29
  a24 := Try.isAgg3
  z24 := Try.sizeOf3
  t25 := Try.underlying49
  a25 := Try.isAgg49
  z25 := Try.sizeOf49
  v25 := Try.zeroValue49 }
end Go.Proofs.Ytdmeepjefccpgaa.HSo
namespace Go.Proofs.Ytdmeepjefccpgaa.HSo
open Go Go.RowKit Go.Proofs.YtdmeepjefccpgaaW.PrintWords Go.Proofs.YtdmeepjefccpgaaW.PrintLast Go.Proofs.YtdmeepjefccpgaaW.PrintMore Go.Proofs.Ytdmeepjefccpgaa.Rw
def cmpS (a b : ByteArray) : Int := if Op.bytesLess a.toList b.toList = true then -1 else if Op.bytesLess b.toList a.toList = true then 1 else 0
theorem cmpS_f (a b : ByteArray) : cmp_Compare_string.f a b = some (cmpS a b) := by
  unfold cmp_Compare_string.f cmp_isNaN_string.f cmpS
  simp
  repeat' split
  all_goals first | rfl | simp_all
def idAt (l : List (S60)) (i : Nat) : ByteArray := (rd_T60 l (i : Int)).f0
def T1 : Bool × List (List Nat × List Nat) := (true, [([], []), ([], []), ([0, 1], [0, 1]), ([2], [2]), ([3], [3]), ([], []), ([], []), ([5, 6], [5, 6]), ([7], [7]), ([8], [8]), ([4, 9], [4, 9]), ([10, 10, 0, 1, 2, 3, 4, 5, 6, 7, 8, 9, 10], [10])])
def B1 : List Nat := [0, 0, 3, 7, 15, 0, 0, 96, 224, 480, 1023, 2047]
theorem tab1 : rtab .any (opsOf Try.f78 1) = T1 := by kernel_rfl
theorem bits1 : waitsOk T1.2 B1 = true := by kernel_rfl
set_option maxRecDepth 100000 in
set_option maxHeartbeats 4000000 in
theorem cmp_calls {A0 : Option Addr} {c0 g : Nat} {l : List (S60)} {w : World} (hb : w.heap[g]? = some (.cells #[.slice A0 l.length c0] 23 (0, 0))) (hr : Kd.C k60 w A0 l.length l) (i j : Nat) (hi : i < l.length) (hj : j < l.length) :
    Calls Try.prog 78 #[.int .i64 i, .int .i64 j, .pointer (some ⟨g, 0, none⟩)] w fun e w' => e = .returned (.int .i64 (cmpS (idAt l i) (idAt l j))) ∧ ∃ q, w' = w.drewN q := by
  obtain ⟨ad, A6, c6, A7, c7, A13, c13, A14, c14, ead, x0, _⟩ := at_T60 hr (i : Int) (by omega) (by omega)
  obtain ⟨ad2, B6, d6, B7, d7, B13, d13, B14, d14, ead2, y0, _⟩ := at_T60 hr (j : Int) (by omega) (by omega)
  subst ead
  obtain rfl : ad = ad2 := by injection ead2
  clear ead2
  rw [Int.toNat_natCast] at x0 y0
  have hc := (blk_cell hb 0).trans (show _ = some (Value.slice (some ad) l.length c0) from rfl)
  clear hb hr
  have p_ : (0 ≤ (i : Int)) = True := eq_true (by omega)
  have q_ : ((i : Int) < (l.length : Int)) = True := eq_true (by omega)
  have p2_ : (0 ≤ (j : Int)) = True := eq_true (by omega)
  have q2_ : ((j : Int) < (l.length : Int)) = True := eq_true (by omega)
  have hF := Aside0.mk (cmpS_f (idAt l i) (idAt l j))
  show Calls _ _ _ _ _
  unfold idAt at *
  obtain ⟨si, hsi⟩ : ∃ s, (rd_T60 l (i : Int)).f0 = s := ⟨_, rfl⟩
  obtain ⟨sj, hsj⟩ : ∃ s, (rd_T60 l (j : Int)).f0 = s := ⟨_, rfl⟩
  rw [hsi] at x0 hF ⊢
  rw [hsj] at y0 hF ⊢
  clear hsi hsj
  go_enter Try.func78, Try.ntmps78
  go_upto_region 1 with fail
  have HD : ∃ q, w.drew = w.drewN q := ⟨1, rfl⟩
  refine start_ (n := 12) (S := fun w' => w'.cell? ⟨g, 0, none⟩ = some (.slice (some ad) l.length c0) ∧ w'.cell? (ad.add (i * 15)) = some (.string si) ∧ w'.cell? (ad.add (j * 15)) = some (.string sj)) (ds := []) (mk 12 0) (by kernel_rfl) rfl rfl ⟨hc, x0, y0⟩ (fun hHeld => ?_)
  refine with_tabW tab1 bits1 (fun HT_ HW_ => ?_)
  generalize w.drew = w6 at HD hHeld ⊢
  refine take_ (i := 0) (N := some 6) (v := ?_) (a' := ?_) (mk 12 1) rfl rfl (tw_ HT_ HW_) nh_ (Or.inl ⟨by rfl, ?_⟩) hHeld ?_ ?_
  rotate_left
  · rintro w' ⟨s0, s1, s2⟩
    go_simp
    with_reducible rfl
  rotate_left; (exact pu_)
  refine ahead_ [(1, 7), (2, 8), (3, 9)] ?_
  iterate 3 (refine pB_ HT_ ?_)
  refine aheadE_ (mk 12 15) kr_ ?_
  refine take_ (i := 4) (N := some 10) (v := ?_) (a' := ?_) (mk 12 31) rfl rfl (tw_ HT_ HW_) nh_ (Or.inl ⟨by rfl, ?_⟩) hHeld ?_ ?_
  rotate_left
  · rintro w' ⟨s0, s1, s2⟩
    go_simp
    with_reducible rfl
  rotate_left; (exact pu_)
  refine take_ (i := 5) (N := some 11) (v := ?_) (a' := ?_) (mk 12 63) rfl rfl (tw_ HT_ HW_) nh_ (Or.inl ⟨by rfl, ?_⟩) hHeld ?_ ?_
  rotate_left
  · rintro w' ⟨s0, s1, s2⟩
    go_simp
    with_reducible rfl
  rotate_left; (exact pu_)
  refine ahead_ [(6, 12), (7, 13), (8, 14)] ?_
  iterate 3 (refine pB_ HT_ ?_)
  refine aheadE_ (mk 12 511) kr_ ?_
  refine take_ (i := 9) (N := some 15) (v := ?_) (a' := ?_) (mk 12 1023) rfl rfl (tw_ HT_ HW_) nh_ (Or.inl ⟨by rfl, ?_⟩) hHeld ?_ ?_
  rotate_left
  · rintro w' ⟨s0, s1, s2⟩
    go_simp
    with_reducible rfl
  rotate_left; (exact pu_)
  refine one_ (i := 10) (N := some 16) (mk 12 2047) rfl rfl (on_ HT_) de_ (fun K hK => ?_)
  refine goes_ Try.func79 (by kernel_rfl) rfl #[.string si, .string sj] (by rfl) rfl rfl am_ ?_
  with_reducible refine (cmp_Compare_string.calls si sj _ _ hF.out).mono ?_
  rintro e w7 ⟨rfl, ⟨nd, rfl⟩⟩
  refine ⟨_, rfl, ?_⟩
  refine hK.out _ _ hHeld (fun hHeld => ?_)
  clear hK K
  refine norm_ pv_ ?_
  refine ahead_ [(11, 5)] ?_
  iterate 1 (refine pB_ HT_ ?_)
  refine aheadE_ (mk 12 4095) kr_ ?_
  refine done_ (done_of HT_.out (by kernel_rfl)) ?_
  try go_wp2
  go_ret
  obtain ⟨q, rfl⟩ := HD
  exact ⟨rfl, q + nd, by simp [World.drewN, Nat.add_assoc]⟩
end Go.Proofs.Ytdmeepjefccpgaa.HSo
