/- The statement RulesMany: so many zones, rates, kinds, and no more. -/
import Derived.Test.YtgfhjamaabaleaaProg
import Derived.Below
import Derived.Deep.Draws
import Derived.Deep.AppendLies
import Derived.Maps.AppendAt
import Derived.OwnWalk
import Derived.Laws.BytesArg
import Derived.Laws.MakeOwn
import Derived.Laws.OwnMore
import Derived.Deep.OwnRows
import Derived.Tactics
import Derived.Lib.ConvBytes
import Derived.Laws.Slices
import Derived.WalkKit
import Derived.KernelRfl
import Derived.RowKit3
import Derived.Deep.LoopGhost
import Derived.Deep.QuietTactic
import Derived.BigQuiet
import Derived.WideLaws
import Derived.Deep.DeepCutAuto
import Derived.Deep.CutBlock
import Derived.Deep.RegionHeld3
import Derived.Laws.Rows
import Derived.Lib.AppendStr
import Derived.ArgAppend
import Derived.Laws.IdiomCopy
import Derived.OrdersHeld
import Derived.Laws.BitsLemmas
import Derived.RowKit
import Derived.BigRegion
import Derived.Outline
import Derived.RegionTactic
import Derived.StillTailTactics
import Derived.Deep.RegionLaw
import Derived.Test.YtgfhjamaabaleaaVRwL13a
import Derived.Test.YtgfhjamaabaleaaVAwL13
import Derived.Test.YtgfhjamaabaleaaVTaxP
import Derived.Test.YtgfhjamaabaleaaVModP
import Derived.Test.YtgfhjamaabaleaaVStay
set_option linter.unusedVariables false
set_option linter.unusedSimpArgs false
namespace Go.Proofs.Ytgfhjamaabaleaa.LRM
open Go Go.RowKit Go.Proofs.YtgfhjamaabaleaaW.PrintWords Go.Proofs.YtgfhjamaabaleaaW.PrintLast Go.Proofs.YtgfhjamaabaleaaW.PrintMore Go.Proofs.Ytgfhjamaabaleaa.Rw Go.Proofs.Ytgfhjamaabaleaa.EP Go.Proofs.Ytgfhjamaabaleaa.XP Go.Proofs.Ytgfhjamaabaleaa.LRZ
open Go.Proofs.Ytgfhjamaabaleaa.Stay
open Go.Proofs.Ytgfhjamaabaleaa.MP (md md_range mod_f mod64_f)
def T11 : Bool × List (List Nat × List Nat) := (true, [([], []), ([0], [0]), ([], []), ([2], [2]), ([3], [3]), ([4], [4]), ([5], [5]), ([], []), ([7], [7]), ([8], [8]), ([9], [9]), ([], []), ([11], [11]), ([12], [12]), ([13], [13]), ([10, 14], [10, 14]), ([15], [15]), ([16], [16]), ([17], [17]), ([6, 18], [6, 18]), ([1, 0, 1, 2, 3, 4, 5, 6, 7, 8, 9, 10, 11, 12, 13, 14, 15, 16, 17, 18, 19], [1]), ([20, 0, 1, 2, 3, 4, 5, 6, 7, 8, 9, 10, 11, 12, 13, 14, 15, 16, 17, 18, 19], [20]), ([21, 19, 19, 0, 1, 2, 3, 4, 5, 6, 7, 8, 9, 10, 11, 12, 13, 14, 15, 16, 17, 18, 19], [19, 21])])
def B11 : List Nat := [0, 1, 0, 4, 12, 28, 60, 0, 128, 384, 896, 0, 2048, 6144, 14336, 32640, 65408, 130944, 262016, 524284, 1048575, 2097151, 4194303]
theorem tab11 : rtab .any (opsOf Try.f4 11) = T11 := by kernel_rfl
theorem bits11 : waitsOk T11.2 B11 = true := by kernel_rfl
def zn (j : Nat) : Zn := ⟨strOfNums [97, 97 + (j : Int)], [], 0, 0⟩
def zs (j : Nat) : List Zn := (List.range j).map zn
theorem zs_succ (j : Nat) : zs (j + 1) = zs j ++ [zn j] := by unfold zs; rw [List.range_succ, List.map_append]; rfl
theorem zs_len (j : Nat) : (zs j).length = j := by unfold zs; rw [List.length_map, List.length_range]
def cr (i : Nat) : CR := ⟨strOfNums [97 + (i : Int) / 10, 48 + (i : Int) % 10], 0⟩
def rs (i : Nat) : List CR := (List.range i).map cr
theorem rs_succ (i : Nat) : rs (i + 1) = rs i ++ [cr i] := by unfold rs; rw [List.range_succ, List.map_append]; rfl
theorem rs_len (i : Nat) : (rs i).length = i := by unfold rs; rw [List.length_map, List.length_range]
theorem u8_ok {x : Int} (h0 : 0 ≤ x) (h1 : x < 256) : IntKind.u8.wrap x = x := by
  rw [IntKind.wrap_u8]; omega
theorem one_zone {w : World} {g : Nat} {s : ByteArray} {l : List CR} {U : Option Addr} {cu : Nat} (hb : w.heap[g]? = some (.cells #[.string s, .slice U l.length cu, .int .i64 0, .int .i64 0] 28 (0, 0))) (hl : l.length ≤ cu) (hc : Kd.C k39 w U l.length l) : Kd.C k28 w (some ⟨g, 0, none⟩) 1 [(⟨s, l, 0, 0⟩ : Zn)] := by
  refine ⟨rfl, by decide, fun _ => ⟨_, rfl, fun j p hj => ?_⟩⟩
  have hj0 : j = 0 := by
    have := (List.getElem?_eq_some_iff.1 hj).1
    rw [List.length_singleton] at this
    omega
  subst hj0
  obtain rfl : (⟨s, l, 0, 0⟩ : Zn) = p := by simpa using hj
  refine ⟨[.string s, .slice U l.length cu, .int .i64 0, .int .i64 0], rfl, ⟨[.string s], [.slice U l.length cu, .int .i64 0, .int .i64 0], rfl, rfl, ⟨[.slice U l.length cu], [.int .i64 0, .int .i64 0], rfl, ⟨U, cu, rfl, hl, hc⟩, ⟨[.int .i64 0], [.int .i64 0], rfl, rfl, rfl⟩⟩⟩, fun i u hu => ?_⟩
  have e : (⟨g, 0, none⟩ : Addr).add (0 * Kd.sz k28 + i) = ⟨g, i, none⟩ := by
    rw [Nat.zero_mul, Nat.zero_add]
    unfold Addr.add
    split <;> simp_all
  rw [e, blk_cell hb]
  rw [List.getElem?_toArray]
  exact hu
theorem ints_row {w : World} {g t : Nat} {xs : List Int} (h : w.heap[g]? = some (.cells (xs.map (Value.int .i64)).toArray t (0, 0))) (hl : xs.length ≤ 9223372036854775807) : Kd.C (Kd.int .i64) w (some ⟨g, 0, none⟩) xs.length xs := by
  refine ⟨rfl, hl, fun _ => ⟨_, rfl, fun j p hj => ⟨[.int .i64 p], rfl, rfl, fun i u hu => ?_⟩⟩⟩
  cases i with
  | zero =>
    obtain rfl : Value.int .i64 p = u := by simpa using hu
    have e : (⟨g, 0, none⟩ : Addr).add (j * (Kd.int .i64).sz + 0) = ⟨g, j, none⟩ := by
      show (⟨g, 0, none⟩ : Addr).add (j * 1 + 0) = _
      rw [Nat.mul_one, Nat.add_zero]
      unfold Addr.add; split <;> simp_all
    rw [e, blk_cell h, List.getElem?_toArray, List.getElem?_map, hj]
    rfl
  | succ i => simp at hu
theorem tax_zs (z k : Nat) (h : (z = 19 ∧ k = 39) ∨ (z = 20 ∧ k = 40) ∨ (z = 21 ∧ k = 41)) : taxOk 0 (zs z) = decide (z ≤ 20) ∧ taxOk 0 [(⟨⟨#[97]⟩, rs k, 0, 0⟩ : Zn)] = decide (k ≤ 40) := by
  rcases h with ⟨rfl, rfl⟩ | ⟨rfl, rfl⟩ | ⟨rfl, rfl⟩ <;> exact ⟨by decide +kernel, by decide +kernel⟩
theorem right_two (m : Int) (h : m = 0 ∨ m = 1) : Ev (fun q => rules_Right.f q [] [] false false 0 [] 0 0 0 0 3 0 [1, 2, 3, 4, 5, 6, 7, 8, 9] [9 + m]) (m == 0) := by
  rcases h with rfl | rfl
  · exact ev_of_mono (n := 40) (fun q => rules_Right.mono _ _ _ _ _ _ _ _ _ _ _ _ _ _ q) (by decide +kernel)
  · exact ev_of_mono (n := 40) (fun q => rules_Right.mono _ _ _ _ _ _ _ _ _ _ _ _ _ _ q) (by decide +kernel)
section
variable {P : Program} {ops : Array Oper} {rest : List Oper} {o : Oper} {a : Act} {Q : Exit → Act → World → Prop}
theorem lit_event {W : World} (hgd : o.guard = none) {N : Tmp} (_hd : o.dst = some N) {cs : Array Value} {t : TypeId} {m : Nat}
    (hrun : (execOp a.eval o).run P W = .ok (.value (.slice (some ⟨W.heap.size, 0, none⟩) m m)) (W.alloc (.cells cs t (0, 0))))
    (h : ∀ g, g = W.heap.size → ∀ w1, w1.heap[g]? = some (.cells cs t (0, 0)) → Below W.heap.size W w1 → wpList P ops Q rest (a.put o.dst (.slice (some ⟨g, 0, none⟩) m m)) w1) : wpList P ops Q (o :: rest) a W :=
  Kd.event_run hgd hrun (h _ rfl _ (blk_new W _) (below_alloc (Below.refl _ _) _))
end
set_option maxRecDepth 100000 in
set_option maxHeartbeats 8000000 in
theorem many' (n : Int) (w : World) : Calls Try.prog 4 #[.int .i64 n] w fun e w' => e = .returned (.bool true) ∧ Below w.heap.size w w' := by
  have hu24 := Try.underlying24
  have hu28 := Try.underlying28
  obtain ⟨ka, hka⟩ := awake_ev.rounds
  have HKA := Aside0.mk hka
  clear hka
  have HB := Aside0.mk (Below.refl w.heap.size w)
  have hm := md_range n 3 (by omega)
  obtain ⟨z, hz3⟩ : ∃ z : Nat, wrap64 (19 + md n 3) = (z : Int) := ⟨(19 + md n 3).toNat, by rw [MP.wrap_ok (by omega) (by omega)]; omega⟩
  obtain ⟨k, hz4⟩ : ∃ k : Nat, wrap64 (39 + md n 3) = (k : Int) := ⟨(39 + md n 3).toNat, by rw [MP.wrap_ok (by omega) (by omega)]; omega⟩
  have HZK : Aside0 ((z = 19 ∧ k = 39) ∨ (z = 20 ∧ k = 40) ∨ (z = 21 ∧ k = 41)) := ⟨by rw [MP.wrap_ok (by omega) (by omega)] at hz3 hz4; omega⟩
  clear hm
  have hM := mod_f n 3 (by omega) (by omega)
  go_enter Try.func4, Try.ntmps4
  go_wp2_with (first | ((with_reducible refine gate_callee (f := 14) rfl ?_); refine goesL_ (some 11) rfl rfl Try.func14 (by kernel_rfl) rfl #[.int .i64 n, .int .i64 3] rfl (by (try simp only [List.map_toArray, List.map_cons, List.map_nil]); first | done | rfl) ?_; (with_reducible refine (haberdashplay_Mod.calls n 3 (md n 3) _ hM).mono ?_); rintro e w' ⟨rfl, ⟨nd, rfl⟩⟩; refine ⟨_, rfl, ?_⟩) | ((with_reducible refine gate_callee (f := 14) rfl ?_); refine goesL_ (some 14) rfl rfl Try.func14 (by kernel_rfl) rfl #[.int .i64 n, .int .i64 3] rfl (by (try simp only [List.map_toArray, List.map_cons, List.map_nil]); first | done | rfl) ?_; (with_reducible refine (haberdashplay_Mod.calls n 3 (md n 3) _ hM).mono ?_); rintro e w' ⟨rfl, ⟨nd, rfl⟩⟩; refine ⟨_, rfl, ?_⟩) | ((with_reducible refine gate_dst (N := 5) rfl ?_); refine box_event rf_ (N := 5) rf_ (cs := #[.bool false, .bool false, .int .i64 0, .slice none 0 0]) (t := 24) lr_ ?_; intro g5 hg w4 hbox hb; have B5 := Aside0.mk hbox; have G5 := Aside0.mk (ge_ HB hg (hb0_ HB)); replace HB := Aside0.mk (below_step (hb0_ HB) hb); clear hb hbox hg) | ((with_reducible refine gate_dst (N := 6) rfl ?_); refine box_event rf_ (N := 6) rf_ (cs := #[.bool false, .bool false, .int .i64 0, .slice none 0 0]) (t := 24) lr_ ?_; intro g6 hg w5 hbox hb; have N56 := Aside0.mk (nl_ B5 hg); have B6 := Aside0.mk hbox; have G6 := Aside0.mk (ge_ HB hg (hb0_ HB)); replace B5 := Aside0.mk (bb_ B5 hb); replace HB := Aside0.mk (below_step (hb0_ HB) hb); clear hb hbox hg))
  try rw [hz3]
  try rw [hz4]
  have N65 := Aside0.mk N56.out.symm
  go_loopw [7] (fun x wr => ∃ (j : Nat) (v : Value), x = .int .i64 j ∧ Aside0 (j ≤ z) ∧ Aside0 (Kd.S k28 28 wr w.heap.size (fun _ => True) v (zs j)) ∧ Aside0 (wr.heap[g5]? = some (.cells #[.bool false, .bool false, .int .i64 0, v] 24 (0, 0))) ∧ Aside0 (wr.heap[g6]? = some (.cells #[.bool false, .bool false, .int .i64 0, .slice none 0 0] 24 (0, 0))) ∧ Aside0 (Below w.heap.size w wr)) (fun x _ => z - (intOf x).toNat)
  case atStart => exact ⟨0, _, rfl, ⟨Nat.zero_le _⟩, ⟨Kd.S_nil _ _ _ _ _⟩, B5, B6, HB⟩
  case round =>
  clear B5 B6 HB hz3 hz4
  obtain ⟨j, v, rfl, HJ, HO, B5, B6, HB⟩ := hrel
  have hz41 : z ≤ 21 := by have := HZK.out; omega
  by_cases hlt : j < z
  · have hd : decide ((j : Int) < (z : Int)) = true := decide_eq_true (by omega)
    have hdn : decide (j < z) = true := decide_eq_true hlt
    have HLT := Aside0.mk hlt
    have hj21 : j ≤ 21 := by omega
    obtain ⟨Y, hY⟩ : ∃ y : List Int, y = [97, 97 + (j : Int)] := ⟨_, rfl⟩
    have NY := Aside0.mk hY
    have NL : Aside0 ((zs j).length = j) := ⟨zs_len j⟩
    obtain ⟨z1, hz1⟩ : ∃ y, y = zs (j + 1) := ⟨_, rfl⟩
    have NZ1 : Aside0 (z1 = zs j ++ [(⟨strOfNums Y, [], 0, 0⟩ : Zn)]) := ⟨by rw [hz1, zs_succ, hY]; rfl⟩
    have NZ2 := Aside0.mk hz1
    obtain ⟨z0, hz0⟩ : ∃ y, y = zs j := ⟨_, rfl⟩
    rw [← hz0] at HO NZ1 NL
    clear hY hz1 hz0
    obtain ⟨c0, c1, c2, c3⟩ := cz4_ B5
    obtain ⟨f0, f1, f2, f3⟩ := fz4_ B5
    go_wp2_with (first | ((with_reducible refine gate_dst (N := 26) rfl ?_); refine Kd.R_lit (Kd.int .u8) _ 5 rf_ (N := 26) rf_ (xs := ([97, 97 + (j : Int)] : List Int)) (inner := [.int .u8 97, .int .u8 (97 + (j : Int))]) (ok := fun _ => True) (okp := fun _ => True) lr_ ?hp (fun _ hk => hk) trivial (Below.refl _ _) (Nat.le_refl _) (by simp) ?_; (case hp => exact (Reps.one (show Kd.M (Kd.int .u8) _ _ _ 97 [.int .u8 97] from rfl) (Reps.one (show Kd.M (Kd.int .u8) _ _ _ (97 + (j : Int)) [.int .u8 (97 + (j : Int))] from rfl) (Reps.none _ _)))); intro vb wb ho hb hg_ hnew_; clear hg_ hnew_; rw [← NY.out] at ho; replace HO := Aside0.mk (Kd.S_below (so_ HO) hb); have HY := Aside0.mk (Kd.R_lower ho (below_size (hb2_ HB G5 G6))); replace B5 := Aside0.mk (bb_ B5 hb); replace B6 := Aside0.mk (bb_ B6 hb); replace HB := Aside0.mk (below_step (hb2_ HB G5 G6) hb); clear hb ho; have hcv := own_string (P := Try.prog) Try.underlying37 Try.underlying5 Try.underlying9 (Kd.own_of_R HY.out)) | ((with_reducible refine gate_builtin (b := .append) (xs := #[.tmp 22, .tmp 29]) rfl ?_); at_builtin; refine Kd.S_append k28 (w0 := w) w.heap.size rfl (.tmp 22) (.tmp 29) 22 28 (.agg #[(.string ⟨#[]⟩), (.slice none 0 0), (.int .i64 0), (.int .i64 0)]) 56 rfl Try.underlying22 info28 rfl (by decide) (by omega) v z0 (⟨strOfNums Y, [], 0, 0⟩ : Zn) [.string (strOfNums Y), .slice none 0 0, .int .i64 0, .int .i64 0] (fun _ => True) (fun _ => False) rfl rfl ?aP (fun k_ hk_ => hk_.elim) ?aF ?aO ?aB ?aS ?aL ?_; (case aP => exact k28_mkM _ _ _ (⟨strOfNums Y, [], 0, 0⟩ : Zn) (Kd.R_nil _ _ _ _ _)); (case aB => exact (hb2_ HB G5 G6)); (case aF => exact (fun _ _ => trivial)); (case aO => exact (by (with_reducible repeat (first | apply Kd.S_alloc | apply Kd.S_drewN | apply Kd.S_drew)); exact Kd.S_mono HO.out (fun k_ hk => ⟨trivial, fun e_ => e_⟩))); (case aS => exact (below_size (hb2_ HB G5 G6))); (case aL => have := NL.out; omega); intro v2 wc ho hb hg hat; rw [← NZ1.out] at ho; have n0_ := Aside0.mk (blk_grown (g := g5) (o := .cells #[.bool false, .bool false, .int .i64 0, v] 24 (0, 0)) (bk_ B5) hg (Kd.S_ne HO.out B5.out (by decide))); have n1_ := Aside0.mk (blk_grown (g := g6) (o := .cells #[.bool false, .bool false, .int .i64 0, .slice none 0 0] 24 (0, 0)) (bk_ B6) hg (Kd.S_ne HO.out B6.out (by decide))); have n3_ := Aside0.mk hb; have n4_ := Aside0.mk ho; clear B5 B6 HB HO; have B5 := n0_; have B6 := n1_; have HB := n3_; have HO := n4_; clear n0_ n1_ n3_ n4_; clear ho hb hg hat; obtain ⟨A2, q2, e2⟩ := Kd.S_slice HO.out; subst e2; obtain ⟨c0, c1, c2, c3⟩ := cz4_ B5; obtain ⟨f0, f1, f2, f3⟩ := fz4_ B5))
    have hw : wrap64 ((j : Int) + 1) = ((j + 1 : Nat) : Int) := next j (by omega)
    try rw [hw]
    go_roundw
    case rel => exact ⟨j + 1, (.slice A2 z1.length q2), rfl, ⟨by have := HLT.out; omega⟩, ⟨by rw [← NZ2.out]; exact Kd.S_mono (Kd.S_far (p := ⟨g5, 3, none⟩) (Kd.S_types HO.out B5.out (by decide)) (fun _ hk => hk.2) (.slice A2 z1.length q2)) (fun _ hk => trivial)⟩, ⟨bq0_ B5⟩, ⟨bf1_ B6 N65⟩, ⟨hb2_ HB G5 G6⟩⟩
    case measure => have := HLT.out; simp [intOf]; omega
  · have hd : decide ((j : Int) < (z : Int)) = false := decide_eq_false (by omega)
    have hdn : decide (j < z) = false := decide_eq_false hlt
    obtain rfl : j = z := by have := HJ.out; omega
    clear hd hdn hlt HJ hz41
    obtain ⟨c0, c1, c2, c3⟩ := cz4_ B6
    obtain ⟨f0, f1, f2, f3⟩ := fz4_ B6
    have HLB := Aside0.mk (Below.refl wr.heap.size wr)
    go_upto_region 8 with (first | ((with_reducible refine gate_dst (N := 33) rfl ?_); refine lit_event rf_ (N := 33) rf_ (m := 1) (cs := #[.string ⟨#[97]⟩, .slice none 0 0, .int .i64 0, .int .i64 0]) (t := 28) lr_ ?_; intro gz hg wz hbox hb; have BZ := Aside0.mk hbox; have GZ := Aside0.mk (Nat.le_of_eq hg.symm); have B6z := Aside0.mk (blk_below B6.out hb); have HZB := Aside0.mk hb; clear hb hbox hg; obtain ⟨c0, c1, c2, c3⟩ := cz4_ B6z; obtain ⟨f0, f1, f2, f3⟩ := fz4_ B6z))
    clear c0 c1 c2 c3 f0 f1 f2 f3
    have NZ6 : Aside0 (gz ≠ g6) := ⟨by have h1 := blk_lt B6.out; have h2 := GZ.out; omega⟩
    have M5 : Aside0 ((World.setCell wz ⟨g6, 3, none⟩ (.slice (some ⟨gz, 0, none⟩) 1 1)).heap[g5]? = some (.cells #[.bool false, .bool false, .int .i64 0, v] 24 (0, 0))) := ⟨bfo_ (blk_below B5.out HZB.out) N56.out _⟩
    have M6 : Aside0 ((World.setCell wz ⟨g6, 3, none⟩ (.slice (some ⟨gz, 0, none⟩) 1 1)).heap[g6]? = some (.cells #[.bool false, .bool false, .int .i64 0, .slice (some ⟨gz, 0, none⟩) 1 1] 24 (0, 0))) := ⟨bq0_ B6z⟩
    have MZ : Aside0 ((World.setCell wz ⟨g6, 3, none⟩ (.slice (some ⟨gz, 0, none⟩) 1 1)).heap[gz]? = some (.cells #[.string ⟨#[97]⟩, .slice none 0 0, .int .i64 0, .int .i64 0] 28 (0, 0))) := ⟨bfo_ BZ.out NZ6.out _⟩
    have MO : Aside0 (Kd.S k28 28 (World.setCell wz ⟨g6, 3, none⟩ (.slice (some ⟨gz, 0, none⟩) 1 1)) w.heap.size (fun k_ => k_ < wr.heap.size) v (zs j)) := ⟨Kd.S_mono (Kd.S_far (p := ⟨g6, 3, none⟩) (Kd.S_below (Kd.S_types (Kd.S_mono (Kd.S_bound HO.out) (fun _ hk => hk.2.2.1)) B6.out (by decide)) HZB.out) (fun _ hk => hk.2) _) (fun _ hk => hk.1)⟩
    have MB : Aside0 (Below w.heap.size w (World.setCell wz ⟨g6, 3, none⟩ (.slice (some ⟨gz, 0, none⟩) 1 1))) := ⟨below_set (below_step HB.out HZB.out) G6.out⟩
    have L5 := Aside0.mk (blk_lt B5.out)
    have L6 := Aside0.mk (blk_lt B6.out)
    have LN := Aside0.mk (below_size HB.out)
    have LW0 : wr.heap.size ≤ (World.setCell wz ⟨g6, 3, none⟩ (.slice (some ⟨gz, 0, none⟩) 1 1)).heap.size := by have h1 := blk_lt MZ.out; have h2 := GZ.out; omega
    clear B5 B6 B6z BZ HO HB HZB HLB
    generalize World.setCell wz ⟨g6, 3, none⟩ (.slice (some ⟨gz, 0, none⟩) 1 1) = w2 at M5 M6 MZ MO MB LW0 ⊢
    generalize wr.heap.size = N1 at GZ MO L5 L6 LN LW0
    have LW := Aside0.mk LW0
    clear LW0
    go_wp2_with fail
    go_loopw [8] (fun x wx => ∃ (i : Nat) (u : Value), x = .int .i64 i ∧ Aside0 (i ≤ k) ∧ Aside0 (Kd.R k39 39 wx N1 (fun _ => True) u (rs i)) ∧ Aside0 (wx.heap[gz]? = some (.cells #[.string ⟨#[97]⟩, u, .int .i64 0, .int .i64 0] 28 (0, 0))) ∧ Aside0 (Below N1 w2 wx)) (fun x _ => k - (intOf x).toNat)
    case atStart => exact ⟨0, _, rfl, ⟨Nat.zero_le _⟩, ⟨Kd.R_nil _ _ _ _ _⟩, MZ, ⟨Below.refl _ _⟩⟩
    case round =>
    clear MZ
    obtain ⟨i, u, rfl, HI, HO, BZ, HL⟩ := hrel
    have hk41 : k ≤ 41 := by have := HZK.out; omega
    by_cases hlt : i < k
    · have hd : decide ((i : Int) < (k : Int)) = true := decide_eq_true (by omega)
      have hdn : decide (i < k) = true := decide_eq_true hlt
      have HLT := Aside0.mk hlt
      have hi41 : i ≤ 41 := by omega
      have NL : Aside0 ((rs i).length = i) := ⟨rs_len i⟩
      obtain ⟨r1, hr1⟩ : ∃ y, y = rs (i + 1) := ⟨_, rfl⟩
      obtain ⟨r0, hr0⟩ : ∃ y, y = rs i := ⟨_, rfl⟩
      rw [← hr0] at HO NL
      have NR1 : Aside0 (r1 = r0 ++ [(⟨strOfNums [97 + (i : Int) / 10, 48 + (i : Int) % 10], 0⟩ : CR)]) := ⟨by rw [hr1, hr0, rs_succ]; rfl⟩
      have hb1 : IntKind.u8.wrap (97 + IntKind.u8.wrap (wrap64 ((i : Int) / 10))) = 97 + (i : Int) / 10 := by
        have h1 : wrap64 ((i : Int) / 10) = (i : Int) / 10 := MP.wrap_ok (by omega) (by omega)
        have h2 : IntKind.u8.wrap ((i : Int) / 10) = (i : Int) / 10 := u8_ok (by omega) (by omega)
        rw [h1, h2, u8_ok (by omega) (by omega)]
      have hb2 : IntKind.u8.wrap (48 + IntKind.u8.wrap ((i : Int).tmod 10)) = 48 + (i : Int) % 10 := by
        have h1 : (i : Int).tmod 10 = (i : Int) % 10 := Int.tmod_eq_emod_of_nonneg (by omega)
        have h2 : IntKind.u8.wrap ((i : Int) % 10) = (i : Int) % 10 := u8_ok (by omega) (by omega)
        rw [h1, h2, u8_ok (by omega) (by omega)]
      have NR2 := Aside0.mk hr1
      clear hr0 hr1
      obtain ⟨U, cu, rfl⟩ := Kd.R_slice HO.out
      have B6 := Aside0.mk ((HL.out.block g6 L6.out).trans M6.out)
      go_upto_region 11 with fail
      replace BZ := Aside0.mk (blk_drew BZ.out)
      replace B6 := Aside0.mk (blk_drew B6.out)
      replace HL := Aside0.mk (below_drew1 HL.out)
      replace HO := Aside0.mk (Kd.R_drew HO.out)
      refine start_ (n := 23) (S := fun w' => w'.cell? ⟨g6, 3, none⟩ = some (.slice (some ⟨gz, 0, none⟩) 1 1) ∧ w'.cell? ⟨gz, 1, none⟩ = some (.slice U r0.length cu)) (ds := [22]) (mk 23 0) (by kernel_rfl) rfl rfl ⟨cl_ B6 3, cl_ BZ 1⟩ (fun hHeld => ?_)
      refine with_tabW tab11 bits11 (fun HT_ HW_ => ?_)
      generalize hwd : World.drew _ = wd at BZ B6 HL HO hHeld ⊢
      clear hwd
      refine ahead_ [(0, 40), (2, 42)] ?_
      iterate 2 (refine pB_ HT_ ?_)
      refine aheadE_ (mk 23 5) kr_ ?_
      refine take_ (i := 1) (N := some 41) (v := ?_) (a' := ?_) (mk 23 7) rfl rfl (tw_ HT_ HW_) nh_ (Or.inl ⟨by rfl, ?_⟩) hHeld ?_ ?_
      rotate_left
      · rintro w' ⟨s0, s1⟩
        go_simp
        with_reducible rfl
      rotate_left; (exact pu_)
      refine take_ (i := 3) (N := some 43) (v := ?_) (a' := ?_) (mk 23 15) rfl rfl (tw_ HT_ HW_) nh_ (Or.inl ⟨by rfl, ?_⟩) hHeld ?_ ?_
      rotate_left
      · rintro w' ⟨s0, s1⟩
        go_simp
        with_reducible rfl
      rotate_left; (exact pu_)
      refine ahead_ [(4, 44), (5, 45)] ?_
      iterate 2 (refine pB_ HT_ ?_)
      refine aheadE_ (mk 23 63) kr_ ?_
      refine take_ (i := 6) (N := some 46) (v := ?_) (a' := ?_) (mk 23 127) rfl rfl (tw_ HT_ HW_) nh_ (Or.inl ⟨by rfl, ?_⟩) hHeld ?_ ?_
      rotate_left
      · rintro w' ⟨s0, s1⟩
        go_simp
        with_reducible rfl
      rotate_left; (exact pu_)
      refine ahead_ [(7, 47), (8, 48), (9, 49), (10, 50), (11, 51), (12, 52), (13, 53), (14, 54)] ?_
      iterate 8 (refine pB_ HT_ ?_)
      refine aheadE_ (mk 23 32767) kr_ ?_
      try rw [hb1]
      try rw [hb2]
      clear hb1 hb2
      have LS : Aside0 (N1 ≤ wd.heap.size) := ⟨Nat.le_trans LW.out HL.out.size⟩
      refine one_ (i := 15) (N := some 55) (mk 23 65535) rfl rfl (on_ HT_) de_ (fun K hK => ?_)
      refine Kd.R_lit_step (Kd.int .u8) _ 5 (by rfl) (N := 55) rfl (xs := ([97 + (i : Int) / 10, 48 + (i : Int) % 10] : List Int)) (inner := [.int .u8 (97 + (i : Int) / 10), .int .u8 (48 + (i : Int) % 10)]) (ok := fun _ => True) (okp := fun _ => True) lr_ ?hp (fun _ hk => hk) trivial (Below.refl _ _) (Nat.le_refl _) (by simp) ?_
      (case hp => exact (Reps.one (show Kd.M (Kd.int .u8) _ _ _ (97 + (i : Int) / 10) [.int .u8 (97 + (i : Int) / 10)] from rfl) (Reps.one (show Kd.M (Kd.int .u8) _ _ _ (48 + (i : Int) % 10) [.int .u8 (48 + (i : Int) % 10)] from rfl) (Reps.none _ _))))
      intro vb wb ho hb hg_ hnew_
      clear hg_ hnew_
      have hcv := own_string (P := Try.prog) Try.underlying37 Try.underlying5 Try.underlying9 (Kd.own_of_R ho)
      replace BZ := Aside0.mk (blk_below BZ.out hb)
      replace B6 := Aside0.mk (blk_below B6.out hb)
      replace HO := Aside0.mk (Kd.R_below HO.out hb)
      replace HL := Aside0.mk (HL.out.trans (hb.mono LS.out))
      replace LS : Aside0 (N1 ≤ wb.heap.size) := ⟨Nat.le_trans LW.out HL.out.size⟩
      clear ho hb
      refine hK.out _ _ ⟨cl_ B6 3, cl_ BZ 1⟩ (fun hHeld => ?_)
      clear hK K
      refine norm_ pv_ ?_
      refine one_ (i := 16) (N := some 56) (mk 23 131071) rfl rfl (on_ HT_) de_ (fun K hK => ?_)
      refine value_ (w1 := wb) (v := .string (strOfNums [97 + (i : Int) / 10, 48 + (i : Int) % 10])) (by rfl) rfl ?_ ?_
      · go_simp
      refine hK.out _ _ ⟨cl_ B6 3, cl_ BZ 1⟩ (fun hHeld => ?_)
      clear hK K hcv
      refine norm_ pv_ ?_
      refine pure_ (i := 17) (N := some 57) (v := ?_) (a' := ?_) (mk 23 262143) rfl rfl (an_ HT_) nh_ (Or.inl ⟨ry_, ?_⟩) ?_ ?_
      rotate_left; (intro w'; go_simp; with_reducible rfl)
      rotate_left; (exact pu_)
      refine one_ (i := 18) (N := some 58) (mk 23 524287) rfl rfl (on_ HT_) de_ (fun K hK => ?_)
      refine value_ (w1 := ?_) (v := ?_) (by rfl) rfl ?_ ?_
      rotate_left 2
      · go_simp
        constructor
        · rfl
        · rfl
      refine hK.out _ _ ⟨(blk_cell (blk_alloc B6.out _) 3).trans rfl, (blk_cell (blk_alloc BZ.out _) 1).trans rfl⟩ (fun hHeld => ?_)
      clear hK K
      refine norm_ pv_ ?_
      refine one_ (i := 19) (N := some 59) (mk 23 1048575) rfl rfl (on_ HT_) de_ (fun K hK => ?_)
      refine Kd.R_append_step k39 (w0 := w2) N1 (by rfl) (.tmp 46) (.tmp 58) 26 39 (.agg #[(.string ⟨#[]⟩), (.int .i64 0)]) 24 rfl Try.underlying26 info39 rfl (by decide) (by omega) (.slice U r0.length cu) r0 (⟨strOfNums [97 + (i : Int) / 10, 48 + (i : Int) % 10], 0⟩ : CR) [.string (strOfNums [97 + (i : Int) / 10, 48 + (i : Int) % 10]), .int .i64 0] (fun _ => True) (fun _ => False) rfl rfl ?aP (fun _ hk => hk.elim) ?aF ?aO ?aB ?aS ?aL ?_
      (case aP => exact k39_mkM _ _ _ (⟨strOfNums [97 + (i : Int) / 10, 48 + (i : Int) % 10], 0⟩ : CR))
      (case aB => exact HL.out)
      (case aF => exact (fun _ _ => trivial))
      (case aO => exact HO.out)
      (case aS => exact LS.out)
      (case aL => have := NL.out; omega)
      intro v3 wc ho hb hg hat
      rw [← NR1.out] at ho
      have n0_ := Aside0.mk (blk_grown (g := gz) (o := .cells #[.string ⟨#[97]⟩, .slice U r0.length cu, .int .i64 0, .int .i64 0] 28 (0, 0)) (bk_ BZ) hg (Kd.R_ne HO.out BZ.out (by decide)))
      have n1_ := Aside0.mk (blk_grown (g := g6) (o := .cells #[.bool false, .bool false, .int .i64 0, .slice (some ⟨gz, 0, none⟩) 1 1] 24 (0, 0)) (bk_ B6) hg (Kd.R_ne HO.out B6.out (by decide)))
      clear BZ B6 HL HO
      have BZ := n0_
      have B6 := n1_
      have HL := Aside0.mk hb
      obtain ⟨U2, cu2, rfl⟩ := Kd.R_slice ho
      have HO := Aside0.mk ho
      clear n0_ n1_ ho hb hg hat
      refine hK.out _ _ ⟨cl_ B6 3, cl_ BZ 1⟩ (fun hHeld => ?_)
      clear hK K
      refine norm_ pv_ ?_
      refine pure_ (i := 20) (N := some 60) (v := ?_) (a' := ?_) (mk 23 2097151) rfl rfl (an_ HT_) nh_ (Or.inl ⟨ry_, ?_⟩) ?_ ?_
      rotate_left; (intro w'; go_simp; with_reducible rfl)
      rotate_left; (exact pu_)
      refine pure_ (i := 21) (N := some 61) (v := ?_) (a' := ?_) (mk 23 4194303) rfl rfl (an_ HT_) nh_ (Or.inl ⟨ry_, ?_⟩) ?_ ?_
      rotate_left; (intro w'; go_simp; with_reducible rfl)
      rotate_left; (exact pu_)
      refine last_ (i := 22) (N := none) (mk 23 8388607) rfl rfl (on_ HT_) de_ (fun K hK => ?_)
      have hs := cl_ BZ 1
      have hfs := blk_frozen BZ.out 1
      refine skip_ (w1 := ?_) (by rfl) rfl ?_ ?_
      rotate_left
      · go_simp
        rfl
      refine hK.out _ _ ?_
      clear hK K hs hfs
      refine done_ (done_of HT_.out (by kernel_rfl)) ?_
      clear HT_ HW_ hHeld
      have hw : wrap64 ((i : Int) + 1) = ((i + 1 : Nat) : Int) := next i (by omega)
      go_wp2_with fail
      try rw [hw]
      go_roundw
      case rel => exact ⟨i + 1, (.slice U2 r1.length cu2), rfl, ⟨by have := HLT.out; omega⟩, ⟨by rw [← NR2.out]; exact rf1_ HO BZ⟩, ⟨bq0_ BZ⟩, ⟨HL.out.setCell GZ.out _⟩⟩
      case measure => have := HLT.out; simp [intOf]; omega
    · have hd : decide ((i : Int) < (k : Int)) = false := decide_eq_false (by omega)
      have hdn : decide (i < k) = false := decide_eq_false hlt
      obtain rfl : i = k := by have := HI.out; omega
      clear hd hdn hlt HI hk41
      obtain ⟨A7, q7, rfl⟩ := Kd.S_slice MO.out
      obtain ⟨U, cu, rfl⟩ := Kd.R_slice HO.out
      have hC5 := (Kd.S_reads' (Kd.S_step MO.out (fun q hq _ => HL.out.block q hq))).2
      have hC6 := one_zone BZ.out (Kd.R_reads' HO.out).2.1 (Kd.R_reads' HO.out).2.2
      have HQ7 := Aside0.mk hC5.1
      have HB := MB.out.trans (HL.out.mono LN.out)
      have S := Aside0.mk ((((St.c hC5.2).and (St.c hC6)).and ((St.heap ((HL.out.block g5 L5.out).trans M5.out)).and (St.heap ((HL.out.block g6 L6.out).trans M6.out)))).and (St.below HB HB.size))
      clear hC5 hC6 HB MO M5 M6 MB HL BZ HO GZ L5 L6 LN LW
      have htx := tax_zs j i HZK.out
      obtain ⟨k1, f1⟩ := (tax_f false false 0 (zs j)).rounds
      obtain ⟨k2, f2⟩ := (tax_f false false 0 [(⟨⟨#[97]⟩, rs i, 0, 0⟩ : Zn)]).rounds
      rw [htx.1] at f1
      rw [htx.2] at f2
      have hm2 := md_range n 2 (by omega)
      have h01 : md n 2 = 0 ∨ md n 2 = 1 := by omega
      obtain ⟨k3, f3⟩ := (right_two (md n 2) h01).rounds
      have hM2 := mod_f n 2 (by omega) (by omega)
      have hw9 : wrap64 (9 + md n 2) = 9 + md n 2 := MP.wrap_ok (by omega) (by omega)
      obtain ⟨tz, htz⟩ : ∃ b, decide (j ≤ 20) = b := ⟨_, rfl⟩
      obtain ⟨tu, htu⟩ : ∃ b, decide (i ≤ 40) = b := ⟨_, rfl⟩
      obtain ⟨tr, htr⟩ : ∃ b, (md n 2 == 0) = b := ⟨_, rfl⟩
      rw [htz] at f1
      rw [htu] at f2
      rw [htr] at f3
      have htz2 : decide ((j : Int) ≤ 20) = tz := by rw [← htz]; exact decide_eq_decide.2 (by omega)
      have htu2 : decide ((i : Int) ≤ 40) = tu := by rw [← htu]; exact decide_eq_decide.2 (by omega)
      have E1 := Aside0.mk htz
      have E2 := Aside0.mk htu
      have E3 := Aside0.mk htr
      have E4 := Aside0.mk htz2
      have E5 := Aside0.mk htu2
      have F1 := Aside0.mk f1
      have F2 := Aside0.mk f2
      have F3 := Aside0.mk f3
      clear f1 f2 f3 htx h01 hm2 htz htu htr htz2 htu2 HZK
      go_upto_region 13 with (first | ((with_reducible refine gate_dst (N := 62) rfl ?_); refine lit_event rf_ (N := 62) rf_ (m := 9) (cs := #[.int .i64 1, .int .i64 2, .int .i64 3, .int .i64 4, .int .i64 5, .int .i64 6, .int .i64 7, .int .i64 8, .int .i64 9]) (t := 3) lr_ ?_; intro gl hg w62 hbox hb; replace S := Aside0.mk ((S.out.step hb).and (St.heap hbox)); clear hb hbox hg) | ((with_reducible refine gate_callee (f := 14) rfl ?_); refine goesL_ (some 64) rfl rfl Try.func14 (by kernel_rfl) rfl #[.int .i64 n, .int .i64 2] rfl (by (try simp only [List.map_toArray, List.map_cons, List.map_nil]); first | done | rfl) ?_; (with_reducible refine (haberdashplay_Mod.calls n 2 (md n 2) _ hM2).mono ?_); rintro e w64 ⟨rfl, hdr⟩; refine ⟨_, rfl, ?_⟩; have hk : Ch w62 w64 := (by obtain ⟨nd, rfl⟩ := hdr; exact Ch.drewN _ _); replace S := Aside0.mk (S.out.step hk); clear hk hdr) | ((with_reducible refine gate_dst (N := 66) rfl ?_); refine lit_event rf_ (N := 66) rf_ (m := 1) (cs := #[.int .i64 (9 + md n 2)]) (t := 3) lr_ ?_; intro gm hg w66 hbox hb; replace S := Aside0.mk ((S.out.step hb).and (St.heap hbox)); clear hb hbox hg) | ((with_reducible refine gate_dst (N := 9) rfl ?_); refine box_event rf_ (N := 9) rf_ (cs := #[.slice none 0 0, .slice none 0 0, .bool false, .bool false, .int .i64 0, .slice none 0 0, .int .i64 0, .int .i64 0, .int .i64 0, .int .i64 0, .int .i64 0, .int .i64 0, .slice none 0 0, .slice none 0 0]) (t := 48) lr_ ?_; intro g9 hg w9 hbox hb; have B9 := Aside0.mk hbox; have G9 := Aside0.mk (Nat.le_of_eq hg.symm); have HX := Aside0.mk hb; clear hb hbox hg; obtain ⟨c0, c1, c2, c3, c4, c5, c6, c7, c8, c9, c10, c11, c12, c13⟩ := cz14_ B9; obtain ⟨e0, e1, e2, e3, e4, e5, e6, e7, e8, e9, e10, e11, e12, e13⟩ := fz14_ B9))
      clear c0 c1 c2 c3 c4 c5 c6 c7 c8 c9 c10 c11 c12 c13 e0 e1 e2 e3 e4 e5 e6 e7 e8 e9 e10 e11 e12 e13
      go_wp2_with fail
      refine (haberdashlaw13_awake.calls ka true _ HKA.out).mono ?_
      rintro e w10 ⟨rfl, hb⟩
      have hb9 := blk_below (g := g9) (o := .cells #[.slice none 0 0, .slice none 0 0, .bool false, .bool false, .int .i64 0, .slice none 0 0, .int .i64 0, .int .i64 0, .int .i64 0, .int .i64 0, .int .i64 3, .int .i64 0, .slice (some ⟨gl, 0, none⟩) 9 9, .slice (some ⟨gm, 0, none⟩) 1 1] 48 (0, 0)) (bq0_ B9) hb
      have HY := below_step (hb1_ HX G9) hb
      replace S := Aside0.mk ((S.out.step HY).and (St.heap hb9))
      clear hb hb9 HY HX G9 B9
      have htz := E1.out
      have htz2 := E4.out
      have K5 := Aside0.mk S.out.now.1.1.1.1.2.1
      obtain ⟨c0, c1, c2, c3⟩ := cz4_ K5
      obtain ⟨e0, e1, e2, e3⟩ := fz4_ K5
      go_wp2_with fail
      refine (rules_Tax.calls k1 false false 0 A7 q7 (zs j) tz _ S.out.now.1.1.1.1.1.1 HQ7.out F1.out).mono ?_
      rintro e w11 ⟨rfl, hk⟩
      replace S := Aside0.mk (S.out.step hk)
      clear hk c0 c1 c2 c3 e0 e1 e2 e3 K5
      have K6 := Aside0.mk S.out.now.1.1.1.1.2.2
      obtain ⟨c0, c1, c2, c3⟩ := cz4_ K6
      obtain ⟨e0, e1, e2, e3⟩ := fz4_ K6
      go_wp2_with fail
      clear htz htz2
      have htu := E2.out
      have htu2 := E5.out
      refine (rules_Tax.calls k2 false false 0 (some ⟨gz, 0, none⟩) 1 [(⟨⟨#[97]⟩, rs i, 0, 0⟩ : Zn)] tu _ S.out.now.1.1.1.1.1.2 (Nat.le_refl 1) F2.out).mono ?_
      rintro e w12 ⟨rfl, hk⟩
      replace S := Aside0.mk (S.out.step hk)
      clear hk c0 c1 c2 c3 e0 e1 e2 e3 K6
      have B9 := Aside0.mk S.out.now.2
      obtain ⟨c0, c1, c2, c3, c4, c5, c6, c7, c8, c9, c10, c11, c12, c13⟩ := cz14_ B9
      obtain ⟨e0, e1, e2, e3, e4, e5, e6, e7, e8, e9, e10, e11, e12, e13⟩ := fz14_ B9
      go_wp2_with fail
      clear htu htu2
      have htr := E3.out
      refine (rules_Right.calls k3 none 0 [] none 0 [] false false 0 none 0 [] 0 0 0 0 3 0 (some ⟨gl, 0, none⟩) 9 [1, 2, 3, 4, 5, 6, 7, 8, 9] (some ⟨gm, 0, none⟩) 1 [9 + md n 2] tr _ (Kd.C_nil _ _) (Nat.le_refl _) (Kd.C_nil _ _) (Nat.le_refl _) (Kd.C_nil _ _) (Nat.le_refl _) (ints_row (xs := [1, 2, 3, 4, 5, 6, 7, 8, 9]) S.out.now.1.1.2 (by decide)) (Nat.le_refl 9) (ints_row (xs := [9 + md n 2]) S.out.now.1.2 (by simp)) (Nat.le_refl 1) F3.out).mono ?_
      rintro e w13 ⟨rfl, hk⟩
      replace S := Aside0.mk (S.out.step hk)
      clear hk c0 c1 c2 c3 c4 c5 c6 c7 c8 c9 c10 c11 c12 c13 e0 e1 e2 e3 e4 e5 e6 e7 e8 e9 e10 e11 e12 e13 B9
      go_wp2_with fail
      refine (haberdashplay_Mod.calls n 2 (md n 2) _ hM2).mono ?_
      rintro e w14 ⟨rfl, hdr⟩
      have hk : Ch w13 w14 := by obtain ⟨nd, rfl⟩ := hdr; exact Ch.drewN _ _
      replace S := Aside0.mk (S.out.step hk)
      go_wp2
      go_ret
      exact ⟨by simp, S.out.now.1.1.1.2⟩
def f (k : Nat) (n : Int) : Option Bool := some true
theorem calls (k : Nat) (n : Int) (y : Bool) (w : World) (h : f k n = some y) : Calls Try.prog 4 #[.int .i64 n] w fun e w' => e = .returned (.bool y) ∧ Below w.heap.size w w' := by
  obtain rfl : y = true := by injection h with h; exact h.symm
  exact many' n w
theorem Pure (x0 : Int) : ∃ k, f k x0 = some true := ⟨0, rfl⟩
end Go.Proofs.Ytgfhjamaabaleaa.LRM
