/- Law 12's awake: it answers true. -/
import Derived.Test.YtdmeepjefccpgaaProg
import Derived.Below
import Derived.Deep.Draws
import Derived.Deep.AppendLies
import Derived.Maps.AppendAt
import Derived.OwnWalk
import Derived.Laws.BytesArg
import Derived.Laws.MakeOwn
import Derived.Laws.OwnMore
import Derived.Deep.OwnRows
import Derived.Tactics
import Derived.Lib.ConvBytes
import Derived.Laws.Slices
import Derived.WalkKit
import Derived.KernelRfl
import Derived.RowKit3
import Derived.Deep.LoopGhost
import Derived.Deep.QuietTactic
import Derived.BigQuiet
import Derived.WideLaws
import Derived.Deep.DeepCutAuto
import Derived.Deep.CutBlock
import Derived.Deep.RegionHeld3
import Derived.Laws.Rows
import Derived.Lib.AppendStr
import Derived.ArgAppend
import Derived.Laws.IdiomCopy
import Derived.OrdersHeld
import Derived.Laws.BitsLemmas
import Derived.RowKit
import Derived.BigRegion
import Derived.Outline
import Derived.RegionTactic
import Derived.StillTailTactics
import Derived.Deep.RegionLaw
import Derived.Test.YtdmeepjefccpgaaVHOrder
import Derived.Test.YtdmeepjefccpgaaVHAll2
import Derived.Test.YtdmeepjefccpgaaVRwPlain
import Derived.Test.YtdmeepjefccpgaaVRwPrD
set_option linter.unusedVariables false
set_option linter.unusedSimpArgs false
namespace Go.Proofs.Ytdmeepjefccpgaa.HA12
open Go Go.RowKit Go.Proofs.YtdmeepjefccpgaaW.PrintWords Go.Proofs.YtdmeepjefccpgaaW.PrintLast Go.Proofs.YtdmeepjefccpgaaW.PrintMore Go.Proofs.Ytdmeepjefccpgaa.Rw Go.Proofs.Ytdmeepjefccpgaa.EP Go.Proofs.Ytdmeepjefccpgaa.PP Go.Proofs.Ytdmeepjefccpgaa.HO
def pB : S60 := ⟨⟨#[98]⟩, 1, 5, ⟨#[]⟩, ⟨#[]⟩, false, ⟨[], []⟩, 0, 100, 0, 0, 0, [], []⟩
def pA : S60 := ⟨⟨#[97]⟩, 1, 5, ⟨#[]⟩, ⟨#[]⟩, false, ⟨[], []⟩, 0, 100, 0, 0, 0, [], []⟩
def p0 : S60 := ⟨⟨#[]⟩, 0, 0, ⟨#[]⟩, ⟨#[]⟩, false, ⟨[], []⟩, 0, 0, 0, 0, 0, [], []⟩
theorem ok_b : promoOk pB = true := by decide +kernel
theorem ok_0 : promoOk p0 = false := by decide +kernel
theorem ok_two : promosOk [pB, pA] = true := by decide +kernel
theorem places_two : places [pB, pA] [] 2 = [0, 1] := by decide +kernel
theorem order_two {os : List Nat} (hp : os.Perm (places [pB, pA] [] [pB, pA].length)) (hs : os.Pairwise (Ahead [pB, pA])) : os = [1, 0] := by
  rw [show [pB, pA].length = 2 from rfl, places_two] at hp
  have hl := hp.length_eq
  have hn : ¬ Ahead [pB, pA] 0 1 := by
    intro h
    rcases h with h | ⟨_, h⟩
    · exact absurd h (by decide +kernel)
    · exact h (by decide +kernel)
  match os, hl, hp, hs with
  | [a, b], _, hp, hs =>
    have ha : a ∈ [0, 1] := hp.mem_iff.1 (by simp)
    have hb : b ∈ [0, 1] := hp.mem_iff.1 (by simp)
    have hnd : [a, b].Nodup := hp.nodup_iff.2 (by decide)
    simp at ha hb hnd hs
    rcases ha with rfl | rfl <;> rcases hb with rfl | rfl
    · exact absurd rfl hnd
    · exact absurd hs hn
    · rfl
    · exact absurd rfl hnd
theorem reps2 {R : S60 → List Value → Prop} {a b : S60} {ca cb : List Value} (ha : R a ca) (hb : R b cb) (la : ca.length = 15) (lb : cb.length = 15) : Reps R 15 [a, b] (ca ++ cb) := by
  refine ⟨by rw [List.length_append, la, lb]; rfl, fun j p hj => ?_⟩
  match j, hj with
  | 0, hj =>
    obtain rfl : a = p := by simpa using hj
    rw [Nat.zero_mul, List.drop_zero, List.take_append_of_le_length (by omega), List.take_of_length_le (by omega)]
    exact ha
  | 1, hj =>
    obtain rfl : b = p := by simpa using hj
    rw [Nat.one_mul, List.drop_append_of_le_length (by omega), List.drop_of_length_le (by omega), List.nil_append, List.take_of_length_le (by omega)]
    exact hb
theorem plain_ev : haberdashhelp_Plain_int.f 20 [1, 0] [1, 0] = some true := by decide +kernel
theorem codes_ev : promo_Codes.f 20 [⟨#[99]⟩] = some true := by decide +kernel
theorem nameW_ {P : Program} {c : Code} {Q : Exit → Act → World → Prop} {a : Act} {w : World} (h : ∀ wA, wA = w → Code.wp P c Q a wA) : Code.wp P c Q a w := h w rfl
theorem blk_grown0_ {w w' : World} {g : Nat} {o : Obj} (h : w.heap[g]? = some o) (hg : w.grownBy w' none) : w'.heap[g]? = some o := (hg.block g (Array.getElem?_eq_some_iff.1 h).1 (by simp)).trans h
set_option maxRecDepth 100000 in
set_option maxHeartbeats 8000000 in
theorem awake_calls (w : World) : Calls Try.prog 28 #[] w fun e w' => e = .returned (.bool true) ∧ Below w.heap.size w w' := by
  have hu60 := Try.underlying60
  have HB := Aside0.mk (Below.refl w.heap.size w)
  go_enter Try.func28, Try.ntmps28
  go_upto_region 2 with (first | ((with_reducible refine gate_dst (N := 1) rfl ?_); refine box_event rf_ (N := 1) rf_ (cs := #[.string ⟨#[]⟩, .int .i64 0, .int .i64 0, .string ⟨#[]⟩, .string ⟨#[]⟩, .bool false, .slice none 0 0, .slice none 0 0, .int .i64 0, .int .i64 0, .int .i64 0, .int .i64 0, .int .i64 0, .slice none 0 0, .slice none 0 0]) (t := 60) lr_ ?_; intro g1 hg w1 hbox hb; have B1 := Aside0.mk hbox; have G1 := Aside0.mk (ge_ HB hg (hb0_ HB)); replace HB := Aside0.mk (below_step (hb0_ HB) hb); clear hb hbox hg) | (refine wpList_store_row rfl 60 (.tmp 1) _ rfl g1 #[.string ⟨#[98]⟩, .int .i64 1, .int .i64 5, .string ⟨#[]⟩, .string ⟨#[]⟩, .bool false, .slice none 0 0, .slice none 0 0, .int .i64 0, .int .i64 100, .int .i64 0, .int .i64 0, .int .i64 0, .slice none 0 0, .slice none 0 0] rfl rfl 60 #[.string ⟨#[]⟩, .int .i64 0, .int .i64 0, .string ⟨#[]⟩, .string ⟨#[]⟩, .bool false, .slice none 0 0, .slice none 0 0, .int .i64 0, .int .i64 0, .int .i64 0, .int .i64 0, .int .i64 0, .slice none 0 0, .slice none 0 0] B1.out rfl rfl (by simp [Value.oneCell']) ?_; refine nameL_ (fun wA hwA => ?_); have N1 : Aside0 (wA.heap[g1]? = some (.cells #[.string ⟨#[98]⟩, .int .i64 1, .int .i64 5, .string ⟨#[]⟩, .string ⟨#[]⟩, .bool false, .slice none 0 0, .slice none 0 0, .int .i64 0, .int .i64 100, .int .i64 0, .int .i64 0, .int .i64 0, .slice none 0 0, .slice none 0 0] 60 (0, 0))) := ⟨by rw [hwA]; exact setRow_heap _ _ _ _ _ _ B1.out⟩; have NB : Aside0 (Below w.heap.size w wA) := ⟨by rw [hwA]; exact brow_ HB.out G1.out⟩; clear hwA HB B1; have HB := NB; have B1 := N1; clear NB N1))
  go_upto_region 3 with (first | ((try (refine gate_guard (by rfl) ?_; dsimp only)); refine wpList_load_row rfl 60 (.tmp 1) rfl g1 rfl 60 #[.string ⟨#[98]⟩, .int .i64 1, .int .i64 5, .string ⟨#[]⟩, .string ⟨#[]⟩, .bool false, .slice none 0 0, .slice none 0 0, .int .i64 0, .int .i64 100, .int .i64 0, .int .i64 0, .int .i64 0, .slice none 0 0, .slice none 0 0] (0, 0) _ B1.out Try.underlying60 rfl (by kernel_rfl) ?_) | ((with_reducible refine gate_dst (N := 2) rfl ?_); refine box_event rf_ (N := 2) rf_ (cs := #[.string ⟨#[]⟩, .int .i64 0, .int .i64 0, .string ⟨#[]⟩, .string ⟨#[]⟩, .bool false, .slice none 0 0, .slice none 0 0, .int .i64 0, .int .i64 0, .int .i64 0, .int .i64 0, .int .i64 0, .slice none 0 0, .slice none 0 0]) (t := 60) lr_ ?_; intro g2 hg w2 hbox hb; have B2 := Aside0.mk hbox; have G2 := Aside0.mk (ge_ HB hg (hb0_ HB)); have NE := Aside0.mk (nl_ B1 hg); replace B1 := Aside0.mk (bb_ B1 hb); replace HB := Aside0.mk (below_step (hb0_ HB) hb); clear hb hbox hg) | (refine wpList_store_row rfl 60 (.tmp 2) _ rfl g2 #[.string ⟨#[98]⟩, .int .i64 1, .int .i64 5, .string ⟨#[]⟩, .string ⟨#[]⟩, .bool false, .slice none 0 0, .slice none 0 0, .int .i64 0, .int .i64 100, .int .i64 0, .int .i64 0, .int .i64 0, .slice none 0 0, .slice none 0 0] rfl rfl 60 #[.string ⟨#[]⟩, .int .i64 0, .int .i64 0, .string ⟨#[]⟩, .string ⟨#[]⟩, .bool false, .slice none 0 0, .slice none 0 0, .int .i64 0, .int .i64 0, .int .i64 0, .int .i64 0, .int .i64 0, .slice none 0 0, .slice none 0 0] B2.out rfl rfl (by simp [Value.oneCell']) ?_; refine nameL_ (fun wA hwA => ?_); have N2 : Aside0 (wA.heap[g2]? = some (.cells #[.string ⟨#[98]⟩, .int .i64 1, .int .i64 5, .string ⟨#[]⟩, .string ⟨#[]⟩, .bool false, .slice none 0 0, .slice none 0 0, .int .i64 0, .int .i64 100, .int .i64 0, .int .i64 0, .int .i64 0, .slice none 0 0, .slice none 0 0] 60 (0, 0))) := ⟨by rw [hwA]; exact setRow_heap _ _ _ _ _ _ B2.out⟩; have NB : Aside0 (Below w.heap.size w wA) := ⟨by rw [hwA]; exact brow_ HB.out G2.out⟩; have N1 : Aside0 (wA.heap[g1]? = some (.cells #[.string ⟨#[98]⟩, .int .i64 1, .int .i64 5, .string ⟨#[]⟩, .string ⟨#[]⟩, .bool false, .slice none 0 0, .slice none 0 0, .int .i64 0, .int .i64 100, .int .i64 0, .int .i64 0, .int .i64 0, .slice none 0 0, .slice none 0 0] 60 (0, 0))) := ⟨by rw [hwA]; exact (setRow_other _ _ _ _ NE.out).trans B1.out⟩; clear B1; have B1 := N1; clear N1; clear hwA HB B2; have HB := NB; have B2 := N2; clear NB N2))
  have c0_ := cl_ B2 0; have f0_ := blk_frozen B2.out 0
  go_upto_region 4 with fail
  clear c0_ f0_
  refine nameW_ (fun wA hwA => ?_)
  have n1_ : Aside0 (wA.heap[g1]? = some (.cells #[.string ⟨#[98]⟩, .int .i64 1, .int .i64 5, .string ⟨#[]⟩, .string ⟨#[]⟩, .bool false, .slice none 0 0, .slice none 0 0, .int .i64 0, .int .i64 100, .int .i64 0, .int .i64 0, .int .i64 0, .slice none 0 0, .slice none 0 0] 60 (0, 0))) := ⟨by rw [hwA]; exact bf1_ B1 NE⟩
  have n2_ : Aside0 (wA.heap[g2]? = some (.cells #[.string ⟨#[97]⟩, .int .i64 1, .int .i64 5, .string ⟨#[]⟩, .string ⟨#[]⟩, .bool false, .slice none 0 0, .slice none 0 0, .int .i64 0, .int .i64 100, .int .i64 0, .int .i64 0, .int .i64 0, .slice none 0 0, .slice none 0 0] 60 (0, 0))) := ⟨by rw [hwA]; exact bq0_ B2⟩
  have n3_ : Aside0 (Below w.heap.size w wA) := ⟨by rw [hwA]; exact hb1_ HB G2⟩
  clear hwA B1 B2 HB; have B1 := n1_; have B2 := n2_; have HB := n3_; clear n1_ n2_ n3_
  go_wp2_with (first | ((try (refine gate_guard (by rfl) ?_; dsimp only)); refine wpList_load_row rfl 60 (.tmp 1) rfl g1 rfl 60 #[.string ⟨#[98]⟩, .int .i64 1, .int .i64 5, .string ⟨#[]⟩, .string ⟨#[]⟩, .bool false, .slice none 0 0, .slice none 0 0, .int .i64 0, .int .i64 100, .int .i64 0, .int .i64 0, .int .i64 0, .slice none 0 0, .slice none 0 0] (0, 0) _ B1.out Try.underlying60 rfl (by kernel_rfl) ?_))
  refine (right_of pB (A6 := none) (A7 := none) (A13 := none) (A14 := none) (c6 := 0) (c7 := 0) (c13 := 0) (c14 := 0) wA (Nat.le_refl _) (Kd.C_nil _ _) (Nat.le_refl _) (Kd.C_nil _ _) (Nat.le_refl _) (Kd.C_nil _ _) (Nat.le_refl _) (Kd.C_nil _ _)).mono ?_
  rintro e w5 ⟨rfl, hb⟩
  rw [ok_b]
  replace B1 := Aside0.mk (blk_below B1.out hb); replace B2 := Aside0.mk (blk_below B2.out hb); replace HB := Aside0.mk (below_step HB.out hb); clear hb
  go_wp2_with fail
  refine (right_of p0 (A6 := none) (A7 := none) (A13 := none) (A14 := none) (c6 := 0) (c7 := 0) (c13 := 0) (c14 := 0) w5 (Nat.le_refl _) (Kd.C_nil _ _) (Nat.le_refl _) (Kd.C_nil _ _) (Nat.le_refl _) (Kd.C_nil _ _) (Nat.le_refl _) (Kd.C_nil _ _)).mono ?_
  rintro e w6 ⟨rfl, hb⟩
  rw [ok_0]
  replace B1 := Aside0.mk (blk_below B1.out hb); replace B2 := Aside0.mk (blk_below B2.out hb); replace HB := Aside0.mk (below_step HB.out hb); clear hb
  go_wp2_with (first | ((try (refine gate_guard (by rfl) ?_; dsimp only)); refine wpList_load_row rfl 60 (.tmp 1) rfl g1 rfl 60 #[.string ⟨#[98]⟩, .int .i64 1, .int .i64 5, .string ⟨#[]⟩, .string ⟨#[]⟩, .bool false, .slice none 0 0, .slice none 0 0, .int .i64 0, .int .i64 100, .int .i64 0, .int .i64 0, .int .i64 0, .slice none 0 0, .slice none 0 0] (0, 0) _ B1.out Try.underlying60 rfl (by kernel_rfl) ?_) | ((try (refine gate_guard (by rfl) ?_; dsimp only)); refine wpList_load_row rfl 60 (.tmp 2) rfl g2 rfl 60 #[.string ⟨#[97]⟩, .int .i64 1, .int .i64 5, .string ⟨#[]⟩, .string ⟨#[]⟩, .bool false, .slice none 0 0, .slice none 0 0, .int .i64 0, .int .i64 100, .int .i64 0, .int .i64 0, .int .i64 0, .slice none 0 0, .slice none 0 0] (0, 0) _ B2.out Try.underlying60 rfl (by kernel_rfl) ?_) | ((with_reducible refine gate_dst (N := 16) rfl ?_); (try (refine gate_guard (by rfl) ?_; dsimp only)); refine Kd.R_lit k60 (w0 := w) w.heap.size 60 rf_ (N := 16) rf_ (xs := [pB, pA]) (inner := [.string ⟨#[98]⟩, .int .i64 1, .int .i64 5, .string ⟨#[]⟩, .string ⟨#[]⟩, .bool false, .slice none 0 0, .slice none 0 0, .int .i64 0, .int .i64 100, .int .i64 0, .int .i64 0, .int .i64 0, .slice none 0 0, .slice none 0 0, .string ⟨#[97]⟩, .int .i64 1, .int .i64 5, .string ⟨#[]⟩, .string ⟨#[]⟩, .bool false, .slice none 0 0, .slice none 0 0, .int .i64 0, .int .i64 100, .int .i64 0, .int .i64 0, .int .i64 0, .slice none 0 0, .slice none 0 0]) (ok := fun _ => True) (okp := fun _ => True) lr_ ?hp (fun _ hk => hk) trivial (hb0_ HB) (below_size (hb0_ HB)) (by decide) ?_; (case hp => exact reps2 (k60_mkM _ _ _ pB (Kd.R_nil _ _ _ _ _) (Kd.R_nil _ _ _ _ _) ni_ ni_) (k60_mkM _ _ _ pA (Kd.R_nil _ _ _ _ _) (Kd.R_nil _ _ _ _ _) ni_ ni_) rfl rfl); intro v16 w8 ho hb hg_ hnew_; clear hnew_; have OL := Aside0.mk ho; replace B1 := Aside0.mk (blk_grown0_ B1.out hg_); replace B2 := Aside0.mk (blk_grown0_ B2.out hg_); replace HB := Aside0.mk hb; clear ho hb hg_))
  obtain ⟨AL, cL, eL⟩ := Kd.R_slice OL.out
  subst eL
  refine (all_walk (Kd.R_reads' OL.out).2.2 (Kd.R_reads' OL.out).2.1).mono ?_
  rintro e w9 ⟨rfl, hb⟩
  rw [ok_two]
  replace B1 := Aside0.mk (blk_below B1.out hb); replace B2 := Aside0.mk (blk_below B2.out hb); replace HB := Aside0.mk (below_step HB.out hb); clear hb
  clear OL
  go_wp2_with (first | ((try (refine gate_guard (by rfl) ?_; dsimp only)); refine wpList_load_row rfl 60 (.tmp 1) rfl g1 rfl 60 #[.string ⟨#[98]⟩, .int .i64 1, .int .i64 5, .string ⟨#[]⟩, .string ⟨#[]⟩, .bool false, .slice none 0 0, .slice none 0 0, .int .i64 0, .int .i64 100, .int .i64 0, .int .i64 0, .int .i64 0, .slice none 0 0, .slice none 0 0] (0, 0) _ B1.out Try.underlying60 rfl (by kernel_rfl) ?_) | ((try (refine gate_guard (by rfl) ?_; dsimp only)); refine wpList_load_row rfl 60 (.tmp 2) rfl g2 rfl 60 #[.string ⟨#[97]⟩, .int .i64 1, .int .i64 5, .string ⟨#[]⟩, .string ⟨#[]⟩, .bool false, .slice none 0 0, .slice none 0 0, .int .i64 0, .int .i64 100, .int .i64 0, .int .i64 0, .int .i64 0, .slice none 0 0, .slice none 0 0] (0, 0) _ B2.out Try.underlying60 rfl (by kernel_rfl) ?_) | ((with_reducible refine gate_dst (N := 22) rfl ?_); (try (refine gate_guard (by rfl) ?_; dsimp only)); refine Kd.R_lit k60 (w0 := w) w.heap.size 60 rf_ (N := 22) rf_ (xs := [pB, pA]) (inner := [.string ⟨#[98]⟩, .int .i64 1, .int .i64 5, .string ⟨#[]⟩, .string ⟨#[]⟩, .bool false, .slice none 0 0, .slice none 0 0, .int .i64 0, .int .i64 100, .int .i64 0, .int .i64 0, .int .i64 0, .slice none 0 0, .slice none 0 0, .string ⟨#[97]⟩, .int .i64 1, .int .i64 5, .string ⟨#[]⟩, .string ⟨#[]⟩, .bool false, .slice none 0 0, .slice none 0 0, .int .i64 0, .int .i64 100, .int .i64 0, .int .i64 0, .int .i64 0, .slice none 0 0, .slice none 0 0]) (ok := fun _ => True) (okp := fun _ => True) lr_ ?hp (fun _ hk => hk) trivial (hb0_ HB) (below_size (hb0_ HB)) (by decide) ?_; (case hp => exact reps2 (k60_mkM _ _ _ pB (Kd.R_nil _ _ _ _ _) (Kd.R_nil _ _ _ _ _) ni_ ni_) (k60_mkM _ _ _ pA (Kd.R_nil _ _ _ _ _) (Kd.R_nil _ _ _ _ _) ni_ ni_) rfl rfl); intro v22 w8 ho hb hg_ hnew_; clear hnew_; have OL := Aside0.mk ho; replace B1 := Aside0.mk (blk_grown0_ B1.out hg_); replace B2 := Aside0.mk (blk_grown0_ B2.out hg_); replace HB := Aside0.mk hb; clear ho hb hg_))
  obtain ⟨AL, cL, eL⟩ := Kd.R_slice OL.out
  subst eL
  refine (order_calls (A1 := none) (c1 := 0) (codes := []) (Kd.R_reads' OL.out).2.2 (Kd.R_reads' OL.out).2.1 (Kd.C_nil _ _) (Nat.le_refl _) (by decide)).mono ?_
  rintro e w10 ⟨v, os, rfl, hp, hs, ho, hb⟩
  obtain rfl := order_two hp hs
  have OO := Aside0.mk (Kd.R_lower ho (below_size (hb0_ HB)))
  replace HB := Aside0.mk (below_step HB.out hb)
  clear hb ho hp hs OL B1 B2
  go_wp2_with (first | ((with_reducible refine gate_dst (N := 24) rfl ?_); (try (refine gate_guard (by rfl) ?_; dsimp only)); refine Kd.R_lit (Kd.int .i64) (w0 := w) w.heap.size 3 rf_ (N := 24) rf_ (xs := ([1, 0] : List Int)) (inner := [.int .i64 1, .int .i64 0]) (ok := fun _ => True) (okp := fun _ => True) lr_ ?hp (fun _ hk => hk) trivial (hb0_ HB) (below_size (hb0_ HB)) (by decide) ?_; (case hp => exact (Reps.one (show Kd.M (Kd.int .i64) _ _ _ 1 [.int .i64 1] from rfl) (Reps.one (show Kd.M (Kd.int .i64) _ _ _ 0 [.int .i64 0] from rfl) (Reps.none _ _)))); intro v24 w8 ho hb hg_ hnew_; have OI := Aside0.mk ho; (try (replace OO := Aside0.mk (Kd.R_step OO.out (fun k hk hlt => hg_.block k hlt (by simp))))); replace HB := Aside0.mk hb; clear hnew_ ho hb hg_))
  obtain ⟨AO, cO, eO⟩ := Kd.R_slice OO.out
  subst eO
  obtain ⟨AI, cI, eI⟩ := Kd.R_slice OI.out
  subst eI
  refine (haberdashhelp_Plain_int.calls 20 AO cO [1, 0] AI cI [1, 0] true _ (Kd.R_reads' OO.out).2.2 (Kd.R_reads' OO.out).2.1 (Kd.R_reads' OI.out).2.2 (Kd.R_reads' OI.out).2.1 plain_ev).mono ?_
  rintro e w11 ⟨rfl, ⟨nd, rfl⟩⟩
  have n_ := Aside0.mk (pw_below_drewN HB.out nd)
  clear HB OO OI
  have HB := n_
  clear n_
  generalize World.drewN _ nd = w11 at HB ⊢
  go_wp2_with (first | ((with_reducible refine gate_dst (N := 28) rfl ?_); (try (refine gate_guard (by rfl) ?_; dsimp only)); refine Kd.R_lit Kd.string (w0 := w) w.heap.size 9 rf_ (N := 28) rf_ (xs := ([⟨#[99]⟩] : List ByteArray)) (inner := [.string ⟨#[99]⟩]) (ok := fun _ => True) (okp := fun _ => True) lr_ ?hp (fun _ hk => hk) trivial (hb0_ HB) (below_size (hb0_ HB)) (by decide) ?_; (case hp => exact (Reps.one (show Kd.M Kd.string _ _ _ (⟨#[99]⟩ : ByteArray) [.string ⟨#[99]⟩] from rfl) (Reps.none _ _))); intro v28 w8 ho hb hg_ hnew_; have OI := Aside0.mk ho; (try (replace OO := Aside0.mk (Kd.R_step OO.out (fun k hk hlt => hg_.block k hlt (by simp))))); replace HB := Aside0.mk hb; clear hnew_ ho hb hg_))
  obtain ⟨AI, cI, eI⟩ := Kd.R_slice OI.out
  subst eI
  refine (promo_Codes.calls 20 AI cI [⟨#[99]⟩] true _ (Kd.R_reads' OI.out).2.2 (Kd.R_reads' OI.out).2.1 codes_ev).mono ?_
  rintro e w12 ⟨rfl, ⟨nd, rfl⟩⟩
  have n_ := Aside0.mk (pw_below_drewN HB.out nd)
  go_wp2
  go_ret
  exact ⟨rfl, n_.out⟩
end Go.Proofs.Ytdmeepjefccpgaa.HA12
