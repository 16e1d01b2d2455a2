/- RwRef10T. -/
import Derived.Test.YtdmeepjefccpgaaVRwA
import Derived.Test.YtdmeepjefccpgaaVRwGoods
section
/- Functions of the program as Lean functions, each with its contract: out of what the kit's printer wrote for this seat. -/
namespace Go.Proofs.Ytdmeepjefccpgaa.Rw
open Go.RowKit Go.Proofs.YtdmeepjefccpgaaW.PrintWords Go.Proofs.YtdmeepjefccpgaaW.PrintLast Go.Proofs.YtdmeepjefccpgaaW.PrintMore
attribute [local go_sem] max2_int min2_int max_two min_two max_three min_three max_four min_four   -- for this text's walks alone
set_option linter.unusedVariables false
set_option linter.unusedSimpArgs false
attribute [local go_sem high] leqS gtrS

/-! ### haberdashref10_tiers: function 74 -/
def haberdashref10_tiers.l0 : Nat → List (S67) → Int → Option (Bool)
 | 0, _, _ => none
 | k + 1, x0, x3 => if x3 < (x0.length : Int) then (if 0 ≤ x3 then ((haberdashref10_in.f ((rd_T67 x0 x3).f0) 10000000000000).bind fun t512 => (if t512 = true then ((haberdashref10_in.f ((rd_T67 x0 x3).f1) 10000).bind fun t513 => (if t513 = true then ((haberdashref10_in.f ((rd_T67 x0 x3).f2) 10000000000000).bind fun t514 => (if t514 = true then (if ((rd_T67 x0 x3).f1) = 0 then (if ((rd_T67 x0 x3).f2) = 0 then (some false) else (if x3 > 0 then (if 0 ≤ (wrap64 (x3 - 1)) then (if (wrap64 (x3 - 1)) < (x0.length : Int) then (if ((rd_T67 x0 x3).f0) ≤ ((rd_T67 x0 (wrap64 (x3 - 1))).f0) then (some false) else (haberdashref10_tiers.l0 k x0 (wrap64 (x3 + 1)))) else (none)) else (none)) else (haberdashref10_tiers.l0 k x0 (wrap64 (x3 + 1))))) else (if x3 > 0 then (if 0 ≤ (wrap64 (x3 - 1)) then (if (wrap64 (x3 - 1)) < (x0.length : Int) then (if ((rd_T67 x0 x3).f0) ≤ ((rd_T67 x0 (wrap64 (x3 - 1))).f0) then (some false) else (haberdashref10_tiers.l0 k x0 (wrap64 (x3 + 1)))) else (none)) else (none)) else (haberdashref10_tiers.l0 k x0 (wrap64 (x3 + 1))))) else (some false))) else (some false))) else (some false))) else (none)) else (if (x0.length : Int) ≥ 1 then (some (decide ((x0.length : Int) ≤ 6))) else (some false))
def haberdashref10_tiers.f (k : Nat) (l0 : List (S67)) : Option (Bool) := haberdashref10_tiers.l0 k l0 0
def haberdashref10_tiers.T5 : Bool × List (List Nat × List Nat) := (true, [([], []), ([0], [0]), ([1], [1]), ([2], [2]), ([3, 2], [3]), ([4], [4]), ([5, 4], [4, 5]), ([6, 4, 4], [4, 6]), ([7, 4], [4, 7]), ([4, 8], [4, 8]), ([9, 7], [9]), ([10], [10]), ([11, 10], [10, 11]), ([12, 10, 10], [10, 12]), ([13, 10], [10, 13]), ([10, 14], [10, 14]), ([15, 13], [15]), ([16], [16]), ([17, 16], [16, 17]), ([18, 16], [16, 18]), ([19, 16, 16], [16, 19]), ([20], [20]), ([21, 20], [20, 21]), ([22, 20], [20, 22]), ([20, 23, 16], [16, 20, 23]), ([16, 24], [16, 24]), ([25, 20], [25]), ([26], [26]), ([27, 26], [26, 27]), ([28, 26, 26], [26, 28]), ([29], [29]), ([30, 29], [29, 30]), ([29], [29]), ([29], [29]), ([33, 29], [29, 33]), ([32, 34, 29], [29, 32, 34]), ([35, 29], [29, 35]), ([36, 29], [29, 36]), ([31, 37, 29], [29, 31, 37]), ([29, 38, 26], [26, 29, 38]), ([26, 39], [26, 39])])
def haberdashref10_tiers.B5 : List Nat := [0, 1, 3, 7, 15, 31, 63, 127, 255, 511, 1023, 2047, 4095, 8191, 16383, 32767, 65535, 131071, 262143, 524287, 1048575, 2097151, 4194303, 8388607, 16777215, 33554431, 67108863, 134217727, 268435455, 536870911, 1073741823, 2147483647, 1073741823, 1073741823, 9663676415, 31138512895, 65498251263, 134217727999, 274877906943, 549755813887, 1099511627775]
theorem haberdashref10_tiers.tab5 : rtab .any (opsOf Try.f74 5) = haberdashref10_tiers.T5 := by kernel_rfl
theorem haberdashref10_tiers.bits5 : waitsOk haberdashref10_tiers.T5.2 haberdashref10_tiers.B5 = true := by kernel_rfl
set_option maxHeartbeats 8000000 in
set_option maxRecDepth 100000 in
theorem haberdashref10_tiers.calls (k : Nat) (A0 : Option Addr) (c0 : Nat) (l0 : List (S67)) (r : Bool) (w : World) (hr0 : Kd.C k67 w A0 l0.length l0) (hc0 : l0.length ≤ c0) (h : haberdashref10_tiers.f k l0 = some r) :
 Calls Try.prog 74 #[.slice A0 l0.length c0] w fun e w' => e = .returned (.bool r) ∧ Below w.heap.size w w' := by
 have hu67 := Try.underlying67
 have HR0 := Aside0.mk hr0
 have HC0 := Aside0.mk hc0
 clear hr0 hc0
 have HB := Aside0.mk (Below.refl w.heap.size w)
 have H : (haberdashref10_tiers.l0 k l0 0) = some r := h
 clear h
 have H' := Aside0.mk H
 clear H
 go_enter Try.func74, Try.ntmps74
 go_wp2
 go_loopg [3] k (fun kq v3 w' => ∃ (x3_1 : Int), v3 = .int .i64 x3_1 ∧ Aside0 (haberdashref10_tiers.l0 kq l0 x3_1 = some r) ∧ Aside0 (kq ≤ k) ∧ Aside0 (Below w.heap.size w w'))
 case atStart => exact ⟨(0), rf_, H', ⟨Nat.le_refl _⟩, ⟨hb0_ HB⟩⟩
 case round =>
  clear H'; obtain ⟨x3_1, rfl, HA, HK1, HB⟩ := hrel
  cases gk with
  | zero => exact absurd HA.out (by simp [haberdashref10_tiers.l0])
  | succ k1 =>
   have H := HA.out; clear HA
   simp only [haberdashref10_tiers.l0] at H
   by_cases c2 : x3_1 < (l0.length : Int)
   rotate_left
   ·
    rw [if_neg c2] at H; have c2b0 := decide_eq_false c2; clear c2
    by_cases c62 : (l0.length : Int) ≥ 1
    rotate_left
    ·
     rw [if_neg c62] at H; have c62b0 := decide_eq_false c62
     have c62b1 : decide (1 ≤ l0.length) = false := decide_eq_false (by omega)
     clear c62; obtain rfl := Option.some.inj H
     go_wp2
     go_ret
     exact ⟨er_, hb0_ HB⟩
    rw [if_pos c62] at H; have c62b0 := decide_eq_true c62
    have c62b1 : decide (1 ≤ l0.length) = true := decide_eq_true (by omega)
    clear c62; obtain rfl := Option.some.inj H
    go_wp2
    go_ret
    exact ⟨er_, hb0_ HB⟩
   rw [if_pos c2] at H; have c2b0 := decide_eq_true c2; clear c2; replace H := ip_ H; obtain ⟨c3, H⟩ := H; have c3b0 := decide_eq_true c3; clear c3; replace H := Option.bind_eq_some_iff.mp H; obtain ⟨t512, A40, H⟩ := H
   (try dsimp only at H)
   have A4 := Aside0.mk A40; clear A40
   by_cases c5 : t512 = true
   rotate_left
   ·
    replace c5 := Bool.eq_false_iff.mpr c5; subst c5; rw [if_neg nf_] at H; obtain rfl := Option.some.inj H; have p510 : 0 ≤ (x3_1 : Int) := of_decide_eq_true as_; have q510 : x3_1 < (l0.length : Int) := of_decide_eq_true as_; obtain ⟨ad510, e510, hx510_0, hx510_1, hx510_2⟩ := at_T67 HR0.out x3_1 p510 q510
    cases e510; replace hx510_0 := hd_ HB hx510_0; replace hx510_1 := hd_ HB hx510_1; replace hx510_2 := hd_ HB hx510_2; replace p510 := eq_true p510; replace q510 := eq_true q510
    try go_wp2_with (first | ((with_reducible refine gate_dst (N := 4) rfl ?_); (try (refine gate_guard (by rfl) ?_; dsimp only)); refine box_event rf_ (N := 4) rf_ (cs := #[.int .i64 0, .int .i64 0, .int .i64 0]) (t := 67) lr_ ?_; intro gb511 hg w58 hbox hb; have BK511 := Aside0.mk hbox; have GE511 := Aside0.mk (ge_ HB hg (hb0_ HB)); replace HB := Aside0.mk (below_step (hb0_ HB) hb); clear hb hbox hg; obtain ⟨hcz59_0, hcz59_1, hcz59_2⟩ := cz3_ BK511; obtain ⟨hfz59_0, hfz59_1, hfz59_2⟩ := fz3_ BK511))
    have n0_ : Aside0 ((((w58.setCell ⟨gb511, 0, none⟩ (.int .i64 ((rd_T67 l0 x3_1).f0))).setCell ⟨gb511, 1, none⟩ (.int .i64 ((rd_T67 l0 x3_1).f1))).setCell ⟨gb511, 2, none⟩ (.int .i64 ((rd_T67 l0 x3_1).f2))).heap[gb511]? = some (.cells #[.int .i64 ((rd_T67 l0 x3_1).f0), .int .i64 ((rd_T67 l0 x3_1).f1), .int .i64 ((rd_T67 l0 x3_1).f2)] 67 (0, 0))) := ⟨bq0_ BK511⟩
    have n1_ : Aside0 (Below w.heap.size w (((w58.setCell ⟨gb511, 0, none⟩ (.int .i64 ((rd_T67 l0 x3_1).f0))).setCell ⟨gb511, 1, none⟩ (.int .i64 ((rd_T67 l0 x3_1).f1))).setCell ⟨gb511, 2, none⟩ (.int .i64 ((rd_T67 l0 x3_1).f2)))) := ⟨hb1_ HB GE511⟩; (try clear BK511); (try clear HB)
    generalize (((w58.setCell ⟨gb511, 0, none⟩ (.int .i64 ((rd_T67 l0 x3_1).f0))).setCell ⟨gb511, 1, none⟩ (.int .i64 ((rd_T67 l0 x3_1).f1))).setCell ⟨gb511, 2, none⟩ (.int .i64 ((rd_T67 l0 x3_1).f2))) = w60 at n0_ n1_ ⊢
    have BK511 := n0_; have HB := n1_; clear n0_ n1_; replace BK511 := Aside0.mk (blk_drew BK511.out); replace HB := Aside0.mk (below_drew1 HB.out)
    refine start_ (n := 41) (S := fun w' => w'.cell? ⟨gb511, 0, none⟩ = some (.int .i64 ((rd_T67 l0 x3_1).f0)) ∧ w'.cell? ⟨gb511, 1, none⟩ = some (.int .i64 ((rd_T67 l0 x3_1).f1)) ∧ w'.cell? ⟨gb511, 2, none⟩ = some (.int .i64 ((rd_T67 l0 x3_1).f2))) (ds := []) (mk 41 0) (by kernel_rfl) rfl rfl ⟨cl_ BK511 0, cl_ BK511 1, cl_ BK511 2⟩ (fun hHeld => ?_); refine with_tabW haberdashref10_tiers.tab5 haberdashref10_tiers.bits5 (fun HT_ HW_ => ?_)
    generalize w60.drew = w61 at BK511 HB hHeld ⊢
    refine pure_ (i := 0) (N := some 15) (v := ?_) (a' := ?_) (mk 41 1) rfl rfl (an_ HT_) nh_ (Or.inl ⟨ry_, ?_⟩) ?_ ?_
    rotate_left; (intro w'; go_simp; with_reducible rfl)
    rotate_left; (exact pu_)
    refine take_ (i := 1) (N := some 16) (v := ?_) (a' := ?_) (mk 41 3) rfl rfl (tw_ HT_ HW_) nh_ (Or.inl ⟨by rfl, ?_⟩) hHeld ?_ ?_
    rotate_left
    ·
     rintro w' ⟨s0, s1, s2⟩
     go_simp
     with_reducible rfl
    rotate_left; (exact pu_)
    refine one_ (i := 2) (N := some 17) (mk 41 7) rfl rfl (on_ HT_) de_ (fun K hK => ?_)
    refine goes_ Try.func52 (by kernel_rfl) rfl #[.int .i64 ((rd_T67 l0 x3_1).f0), .int .i64 10000000000000] (by rfl) rfl rfl am_ ?_
    with_reducible refine (haberdashref10_in.calls ((rd_T67 l0 x3_1).f0) 10000000000000 false _ A4.out).mono ?_
    rintro e w' ⟨rfl, ⟨nd, rfl⟩⟩
    refine ⟨_, rfl, ?_⟩
    refine hK.out _ _ ⟨cl_ BK511 0, cl_ BK511 1, cl_ BK511 2⟩ (fun hHeld => ?_)
    clear hK K
    refine norm_ pv_ ?_
    refine ahead_ [(3, 18), (4, 19)] ?_
    iterate 2 (refine pB_ HT_ ?_)
    refine aheadE_ (mk 41 31) kr_ ?_
    refine ahead_ [(5, 20), (6, 21), (7, 22), (8, 23)] ?_
    iterate 4 (refine pA_ (v := undef) (a' := ?_) rfl rfl HT_.out kr_ nh_ ru_ ?_ ?_; rotate_left; (exact pu_))
    refine aheadE_ (mk 41 511) kr_ ?_
    refine ahead_ [(9, 24), (10, 25)] ?_
    iterate 2 (refine pB_ HT_ ?_)
    refine aheadE_ (mk 41 2047) kr_ ?_
    refine ahead_ [(11, 26), (12, 27), (13, 28), (14, 29)] ?_
    iterate 4 (refine pA_ (v := undef) (a' := ?_) rfl rfl HT_.out kr_ nh_ ru_ ?_ ?_; rotate_left; (exact pu_))
    refine aheadE_ (mk 41 32767) kr_ ?_
    refine ahead_ [(15, 30), (16, 31)] ?_
    iterate 2 (refine pB_ HT_ ?_)
    refine aheadE_ (mk 41 131071) kr_ ?_
    refine ahead_ [(17, 32), (18, 33), (19, 34), (20, 35), (21, 36), (22, 37), (23, 38), (24, 39)] ?_
    iterate 8 (refine pA_ (v := undef) (a' := ?_) rfl rfl HT_.out kr_ nh_ ru_ ?_ ?_; rotate_left; (exact pu_))
    refine aheadE_ (mk 41 33554431) kr_ ?_
    refine ahead_ [(25, 40), (26, 41)] ?_
    iterate 2 (refine pB_ HT_ ?_)
    refine aheadE_ (mk 41 134217727) kr_ ?_
    refine ahead_ [(27, 42), (28, 43), (29, 44), (30, 45), (31, 46), (32, 47), (33, 48), (34, 49), (35, 50), (36, 51), (37, 52), (38, 53), (39, 54)] ?_
    iterate 13 (refine pA_ (v := undef) (a' := ?_) rfl rfl HT_.out kr_ nh_ ru_ ?_ ?_; rotate_left; (exact pu_))
    refine aheadE_ (mk 41 1099511627775) kr_ ?_
    refine pure_ (i := 40) (N := some 55) (v := ?_) (a' := ?_) (mk 41 2199023255551) rfl rfl (an_ HT_) nh_ (Or.inl ⟨ry_, ?_⟩) ?_ ?_
    rotate_left; (intro w'; go_simp; with_reducible rfl)
    rotate_left; (exact pu_)
    refine done_ (done_of HT_.out (by kernel_rfl)) ?_
    try go_wp2
    go_ret
    exact ⟨er_, hb1_ HB GE511⟩
   subst c5; rw [if_pos rfl] at H; replace H := Option.bind_eq_some_iff.mp H; obtain ⟨t513, A60, H⟩ := H
   (try dsimp only at H)
   have A6 := Aside0.mk A60; clear A60
   by_cases c7 : t513 = true
   rotate_left
   ·
    replace c7 := Bool.eq_false_iff.mpr c7; subst c7; rw [if_neg nf_] at H; obtain rfl := Option.some.inj H; have p510 : 0 ≤ (x3_1 : Int) := of_decide_eq_true as_; have q510 : x3_1 < (l0.length : Int) := of_decide_eq_true as_; obtain ⟨ad510, e510, hx510_0, hx510_1, hx510_2⟩ := at_T67 HR0.out x3_1 p510 q510
    cases e510; replace hx510_0 := hd_ HB hx510_0; replace hx510_1 := hd_ HB hx510_1; replace hx510_2 := hd_ HB hx510_2; replace p510 := eq_true p510; replace q510 := eq_true q510
    try go_wp2_with (first | ((with_reducible refine gate_dst (N := 4) rfl ?_); (try (refine gate_guard (by rfl) ?_; dsimp only)); refine box_event rf_ (N := 4) rf_ (cs := #[.int .i64 0, .int .i64 0, .int .i64 0]) (t := 67) lr_ ?_; intro gb511 hg w54 hbox hb; have BK511 := Aside0.mk hbox; have GE511 := Aside0.mk (ge_ HB hg (hb0_ HB)); replace HB := Aside0.mk (below_step (hb0_ HB) hb); clear hb hbox hg; obtain ⟨hcz55_0, hcz55_1, hcz55_2⟩ := cz3_ BK511; obtain ⟨hfz55_0, hfz55_1, hfz55_2⟩ := fz3_ BK511))
    have n0_ : Aside0 ((((w54.setCell ⟨gb511, 0, none⟩ (.int .i64 ((rd_T67 l0 x3_1).f0))).setCell ⟨gb511, 1, none⟩ (.int .i64 ((rd_T67 l0 x3_1).f1))).setCell ⟨gb511, 2, none⟩ (.int .i64 ((rd_T67 l0 x3_1).f2))).heap[gb511]? = some (.cells #[.int .i64 ((rd_T67 l0 x3_1).f0), .int .i64 ((rd_T67 l0 x3_1).f1), .int .i64 ((rd_T67 l0 x3_1).f2)] 67 (0, 0))) := ⟨bq0_ BK511⟩
    have n1_ : Aside0 (Below w.heap.size w (((w54.setCell ⟨gb511, 0, none⟩ (.int .i64 ((rd_T67 l0 x3_1).f0))).setCell ⟨gb511, 1, none⟩ (.int .i64 ((rd_T67 l0 x3_1).f1))).setCell ⟨gb511, 2, none⟩ (.int .i64 ((rd_T67 l0 x3_1).f2)))) := ⟨hb1_ HB GE511⟩; (try clear BK511); (try clear HB)
    generalize (((w54.setCell ⟨gb511, 0, none⟩ (.int .i64 ((rd_T67 l0 x3_1).f0))).setCell ⟨gb511, 1, none⟩ (.int .i64 ((rd_T67 l0 x3_1).f1))).setCell ⟨gb511, 2, none⟩ (.int .i64 ((rd_T67 l0 x3_1).f2))) = w56 at n0_ n1_ ⊢
    have BK511 := n0_; have HB := n1_; clear n0_ n1_; replace BK511 := Aside0.mk (blk_drew BK511.out); replace HB := Aside0.mk (below_drew1 HB.out)
    refine start_ (n := 41) (S := fun w' => w'.cell? ⟨gb511, 0, none⟩ = some (.int .i64 ((rd_T67 l0 x3_1).f0)) ∧ w'.cell? ⟨gb511, 1, none⟩ = some (.int .i64 ((rd_T67 l0 x3_1).f1)) ∧ w'.cell? ⟨gb511, 2, none⟩ = some (.int .i64 ((rd_T67 l0 x3_1).f2))) (ds := []) (mk 41 0) (by kernel_rfl) rfl rfl ⟨cl_ BK511 0, cl_ BK511 1, cl_ BK511 2⟩ (fun hHeld => ?_); refine with_tabW haberdashref10_tiers.tab5 haberdashref10_tiers.bits5 (fun HT_ HW_ => ?_)
    generalize w56.drew = w57 at BK511 HB hHeld ⊢
    refine pure_ (i := 0) (N := some 15) (v := ?_) (a' := ?_) (mk 41 1) rfl rfl (an_ HT_) nh_ (Or.inl ⟨ry_, ?_⟩) ?_ ?_
    rotate_left; (intro w'; go_simp; with_reducible rfl)
    rotate_left; (exact pu_)
    refine take_ (i := 1) (N := some 16) (v := ?_) (a' := ?_) (mk 41 3) rfl rfl (tw_ HT_ HW_) nh_ (Or.inl ⟨by rfl, ?_⟩) hHeld ?_ ?_
    rotate_left
    ·
     rintro w' ⟨s0, s1, s2⟩
     go_simp
     with_reducible rfl
    rotate_left; (exact pu_)
    refine one_ (i := 2) (N := some 17) (mk 41 7) rfl rfl (on_ HT_) de_ (fun K hK => ?_)
    refine goes_ Try.func52 (by kernel_rfl) rfl #[.int .i64 ((rd_T67 l0 x3_1).f0), .int .i64 10000000000000] (by rfl) rfl rfl am_ ?_
    with_reducible refine (haberdashref10_in.calls ((rd_T67 l0 x3_1).f0) 10000000000000 true _ A4.out).mono ?_
    rintro e w' ⟨rfl, ⟨nd, rfl⟩⟩
    refine ⟨_, rfl, ?_⟩
    refine hK.out _ _ ⟨cl_ BK511 0, cl_ BK511 1, cl_ BK511 2⟩ (fun hHeld => ?_)
    clear hK K
    refine norm_ pv_ ?_
    refine ahead_ [(3, 18), (4, 19), (5, 20)] ?_
    iterate 3 (refine pB_ HT_ ?_)
    refine aheadE_ (mk 41 63) kr_ ?_
    refine take_ (i := 6) (N := some 21) (v := ?_) (a' := ?_) (mk 41 127) rfl rfl (tw_ HT_ HW_) nh_ (Or.inl ⟨by rfl, ?_⟩) hHeld ?_ ?_
    rotate_left
    ·
     rintro w' ⟨s0, s1, s2⟩
     go_simp
     with_reducible rfl
    rotate_left; (exact pu_)
    refine one_ (i := 7) (N := some 22) (mk 41 255) rfl rfl (on_ HT_) de_ (fun K hK => ?_)
    refine goes_ Try.func52 (by kernel_rfl) rfl #[.int .i64 ((rd_T67 l0 x3_1).f1), .int .i64 10000] (by rfl) rfl rfl am_ ?_
    with_reducible refine (haberdashref10_in.calls ((rd_T67 l0 x3_1).f1) 10000 false _ A6.out).mono ?_
    rintro e w' ⟨rfl, ⟨nd, rfl⟩⟩
    refine ⟨_, rfl, ?_⟩
    refine hK.out _ _ ⟨cl_ BK511 0, cl_ BK511 1, cl_ BK511 2⟩ (fun hHeld => ?_)
    clear hK K
    refine norm_ pv_ ?_
    refine ahead_ [(8, 23), (9, 24), (10, 25)] ?_
    iterate 3 (refine pB_ HT_ ?_)
    refine aheadE_ (mk 41 2047) kr_ ?_
    refine ahead_ [(11, 26), (12, 27), (13, 28), (14, 29)] ?_
    iterate 4 (refine pA_ (v := undef) (a' := ?_) rfl rfl HT_.out kr_ nh_ ru_ ?_ ?_; rotate_left; (exact pu_))
    refine aheadE_ (mk 41 32767) kr_ ?_
    refine ahead_ [(15, 30), (16, 31)] ?_
    iterate 2 (refine pB_ HT_ ?_)
    refine aheadE_ (mk 41 131071) kr_ ?_
    refine ahead_ [(17, 32), (18, 33), (19, 34), (20, 35), (21, 36), (22, 37), (23, 38), (24, 39)] ?_
    iterate 8 (refine pA_ (v := undef) (a' := ?_) rfl rfl HT_.out kr_ nh_ ru_ ?_ ?_; rotate_left; (exact pu_))
    refine aheadE_ (mk 41 33554431) kr_ ?_
    refine ahead_ [(25, 40), (26, 41)] ?_
    iterate 2 (refine pB_ HT_ ?_)
    refine aheadE_ (mk 41 134217727) kr_ ?_
    refine ahead_ [(27, 42), (28, 43), (29, 44), (30, 45), (31, 46), (32, 47), (33, 48), (34, 49), (35, 50), (36, 51), (37, 52), (38, 53), (39, 54)] ?_
    iterate 13 (refine pA_ (v := undef) (a' := ?_) rfl rfl HT_.out kr_ nh_ ru_ ?_ ?_; rotate_left; (exact pu_))
    refine aheadE_ (mk 41 1099511627775) kr_ ?_
    refine pure_ (i := 40) (N := some 55) (v := ?_) (a' := ?_) (mk 41 2199023255551) rfl rfl (an_ HT_) nh_ (Or.inl ⟨ry_, ?_⟩) ?_ ?_
    rotate_left; (intro w'; go_simp; with_reducible rfl)
    rotate_left; (exact pu_)
    refine done_ (done_of HT_.out (by kernel_rfl)) ?_
    try go_wp2
    go_ret
    exact ⟨er_, hb1_ HB GE511⟩
   subst c7; rw [if_pos rfl] at H; replace H := Option.bind_eq_some_iff.mp H; obtain ⟨t514, A80, H⟩ := H
   (try dsimp only at H)
   have A8 := Aside0.mk A80; clear A80
   by_cases c9 : t514 = true
   rotate_left
   ·
    replace c9 := Bool.eq_false_iff.mpr c9; subst c9; rw [if_neg nf_] at H; obtain rfl := Option.some.inj H; have p510 : 0 ≤ (x3_1 : Int) := of_decide_eq_true as_; have q510 : x3_1 < (l0.length : Int) := of_decide_eq_true as_; obtain ⟨ad510, e510, hx510_0, hx510_1, hx510_2⟩ := at_T67 HR0.out x3_1 p510 q510
    cases e510; replace hx510_0 := hd_ HB hx510_0; replace hx510_1 := hd_ HB hx510_1; replace hx510_2 := hd_ HB hx510_2; replace p510 := eq_true p510; replace q510 := eq_true q510
    try go_wp2_with (first | ((with_reducible refine gate_dst (N := 4) rfl ?_); (try (refine gate_guard (by rfl) ?_; dsimp only)); refine box_event rf_ (N := 4) rf_ (cs := #[.int .i64 0, .int .i64 0, .int .i64 0]) (t := 67) lr_ ?_; intro gb511 hg w50 hbox hb; have BK511 := Aside0.mk hbox; have GE511 := Aside0.mk (ge_ HB hg (hb0_ HB)); replace HB := Aside0.mk (below_step (hb0_ HB) hb); clear hb hbox hg; obtain ⟨hcz51_0, hcz51_1, hcz51_2⟩ := cz3_ BK511; obtain ⟨hfz51_0, hfz51_1, hfz51_2⟩ := fz3_ BK511))
    have n0_ : Aside0 ((((w50.setCell ⟨gb511, 0, none⟩ (.int .i64 ((rd_T67 l0 x3_1).f0))).setCell ⟨gb511, 1, none⟩ (.int .i64 ((rd_T67 l0 x3_1).f1))).setCell ⟨gb511, 2, none⟩ (.int .i64 ((rd_T67 l0 x3_1).f2))).heap[gb511]? = some (.cells #[.int .i64 ((rd_T67 l0 x3_1).f0), .int .i64 ((rd_T67 l0 x3_1).f1), .int .i64 ((rd_T67 l0 x3_1).f2)] 67 (0, 0))) := ⟨bq0_ BK511⟩
    have n1_ : Aside0 (Below w.heap.size w (((w50.setCell ⟨gb511, 0, none⟩ (.int .i64 ((rd_T67 l0 x3_1).f0))).setCell ⟨gb511, 1, none⟩ (.int .i64 ((rd_T67 l0 x3_1).f1))).setCell ⟨gb511, 2, none⟩ (.int .i64 ((rd_T67 l0 x3_1).f2)))) := ⟨hb1_ HB GE511⟩; (try clear BK511); (try clear HB)
    generalize (((w50.setCell ⟨gb511, 0, none⟩ (.int .i64 ((rd_T67 l0 x3_1).f0))).setCell ⟨gb511, 1, none⟩ (.int .i64 ((rd_T67 l0 x3_1).f1))).setCell ⟨gb511, 2, none⟩ (.int .i64 ((rd_T67 l0 x3_1).f2))) = w52 at n0_ n1_ ⊢
    have BK511 := n0_; have HB := n1_; clear n0_ n1_; replace BK511 := Aside0.mk (blk_drew BK511.out); replace HB := Aside0.mk (below_drew1 HB.out)
    refine start_ (n := 41) (S := fun w' => w'.cell? ⟨gb511, 0, none⟩ = some (.int .i64 ((rd_T67 l0 x3_1).f0)) ∧ w'.cell? ⟨gb511, 1, none⟩ = some (.int .i64 ((rd_T67 l0 x3_1).f1)) ∧ w'.cell? ⟨gb511, 2, none⟩ = some (.int .i64 ((rd_T67 l0 x3_1).f2))) (ds := []) (mk 41 0) (by kernel_rfl) rfl rfl ⟨cl_ BK511 0, cl_ BK511 1, cl_ BK511 2⟩ (fun hHeld => ?_); refine with_tabW haberdashref10_tiers.tab5 haberdashref10_tiers.bits5 (fun HT_ HW_ => ?_)
    generalize w52.drew = w53 at BK511 HB hHeld ⊢
    refine pure_ (i := 0) (N := some 15) (v := ?_) (a' := ?_) (mk 41 1) rfl rfl (an_ HT_) nh_ (Or.inl ⟨ry_, ?_⟩) ?_ ?_
    rotate_left; (intro w'; go_simp; with_reducible rfl)
    rotate_left; (exact pu_)
    refine take_ (i := 1) (N := some 16) (v := ?_) (a' := ?_) (mk 41 3) rfl rfl (tw_ HT_ HW_) nh_ (Or.inl ⟨by rfl, ?_⟩) hHeld ?_ ?_
    rotate_left
    ·
     rintro w' ⟨s0, s1, s2⟩
     go_simp
     with_reducible rfl
    rotate_left; (exact pu_)
    refine one_ (i := 2) (N := some 17) (mk 41 7) rfl rfl (on_ HT_) de_ (fun K hK => ?_)
    refine goes_ Try.func52 (by kernel_rfl) rfl #[.int .i64 ((rd_T67 l0 x3_1).f0), .int .i64 10000000000000] (by rfl) rfl rfl am_ ?_
    with_reducible refine (haberdashref10_in.calls ((rd_T67 l0 x3_1).f0) 10000000000000 true _ A4.out).mono ?_
    rintro e w' ⟨rfl, ⟨nd, rfl⟩⟩
    refine ⟨_, rfl, ?_⟩
    refine hK.out _ _ ⟨cl_ BK511 0, cl_ BK511 1, cl_ BK511 2⟩ (fun hHeld => ?_)
    clear hK K
    refine norm_ pv_ ?_
    refine ahead_ [(3, 18), (4, 19), (5, 20)] ?_
    iterate 3 (refine pB_ HT_ ?_)
    refine aheadE_ (mk 41 63) kr_ ?_
    refine take_ (i := 6) (N := some 21) (v := ?_) (a' := ?_) (mk 41 127) rfl rfl (tw_ HT_ HW_) nh_ (Or.inl ⟨by rfl, ?_⟩) hHeld ?_ ?_
    rotate_left
    ·
     rintro w' ⟨s0, s1, s2⟩
     go_simp
     with_reducible rfl
    rotate_left; (exact pu_)
    refine one_ (i := 7) (N := some 22) (mk 41 255) rfl rfl (on_ HT_) de_ (fun K hK => ?_)
    refine goes_ Try.func52 (by kernel_rfl) rfl #[.int .i64 ((rd_T67 l0 x3_1).f1), .int .i64 10000] (by rfl) rfl rfl am_ ?_
    with_reducible refine (haberdashref10_in.calls ((rd_T67 l0 x3_1).f1) 10000 true _ A6.out).mono ?_
    rintro e w' ⟨rfl, ⟨nd, rfl⟩⟩
    refine ⟨_, rfl, ?_⟩
    refine hK.out _ _ ⟨cl_ BK511 0, cl_ BK511 1, cl_ BK511 2⟩ (fun hHeld => ?_)
    clear hK K
    refine norm_ pv_ ?_
    refine ahead_ [(8, 23), (9, 24), (10, 25), (11, 26)] ?_
    iterate 4 (refine pB_ HT_ ?_)
    refine aheadE_ (mk 41 4095) kr_ ?_
    refine take_ (i := 12) (N := some 27) (v := ?_) (a' := ?_) (mk 41 8191) rfl rfl (tw_ HT_ HW_) nh_ (Or.inl ⟨by rfl, ?_⟩) hHeld ?_ ?_
    rotate_left
    ·
     rintro w' ⟨s0, s1, s2⟩
     go_simp
     with_reducible rfl
    rotate_left; (exact pu_)
    refine one_ (i := 13) (N := some 28) (mk 41 16383) rfl rfl (on_ HT_) de_ (fun K hK => ?_)
    refine goes_ Try.func52 (by kernel_rfl) rfl #[.int .i64 ((rd_T67 l0 x3_1).f2), .int .i64 10000000000000] (by rfl) rfl rfl am_ ?_
    with_reducible refine (haberdashref10_in.calls ((rd_T67 l0 x3_1).f2) 10000000000000 false _ A8.out).mono ?_
    rintro e w' ⟨rfl, ⟨nd, rfl⟩⟩
    refine ⟨_, rfl, ?_⟩
    refine hK.out _ _ ⟨cl_ BK511 0, cl_ BK511 1, cl_ BK511 2⟩ (fun hHeld => ?_)
    clear hK K
    refine norm_ pv_ ?_
    refine ahead_ [(14, 29), (15, 30), (16, 31)] ?_
    iterate 3 (refine pB_ HT_ ?_)
    refine aheadE_ (mk 41 131071) kr_ ?_
    refine ahead_ [(17, 32), (18, 33), (19, 34), (20, 35), (21, 36), (22, 37), (23, 38), (24, 39)] ?_
    iterate 8 (refine pA_ (v := undef) (a' := ?_) rfl rfl HT_.out kr_ nh_ ru_ ?_ ?_; rotate_left; (exact pu_))
    refine aheadE_ (mk 41 33554431) kr_ ?_
    refine ahead_ [(25, 40), (26, 41)] ?_
    iterate 2 (refine pB_ HT_ ?_)
    refine aheadE_ (mk 41 134217727) kr_ ?_
    refine ahead_ [(27, 42), (28, 43), (29, 44), (30, 45), (31, 46), (32, 47), (33, 48), (34, 49), (35, 50), (36, 51), (37, 52), (38, 53), (39, 54)] ?_
    iterate 13 (refine pA_ (v := undef) (a' := ?_) rfl rfl HT_.out kr_ nh_ ru_ ?_ ?_; rotate_left; (exact pu_))
    refine aheadE_ (mk 41 1099511627775) kr_ ?_
    refine pure_ (i := 40) (N := some 55) (v := ?_) (a' := ?_) (mk 41 2199023255551) rfl rfl (an_ HT_) nh_ (Or.inl ⟨ry_, ?_⟩) ?_ ?_
    rotate_left; (intro w'; go_simp; with_reducible rfl)
    rotate_left; (exact pu_)
    refine done_ (done_of HT_.out (by kernel_rfl)) ?_
    try go_wp2
    go_ret
    exact ⟨er_, hb1_ HB GE511⟩
   subst c9; rw [if_pos rfl] at H
   by_cases c10 : ((rd_T67 l0 x3_1).f1) = 0
   rotate_left
   ·
    rw [if_neg c10] at H; have c10b0 : (((rd_T67 l0 x3_1).f1) == 0) = false := beq_eq_false_iff_ne.mpr c10; have c10b1 : (((rd_T67 l0 x3_1).f1) != 0) = true := bne_iff_ne.mpr c10
    by_cases c33 : x3_1 > 0
    rotate_left
    ·
     rw [if_neg c33] at H; have c33b0 := decide_eq_false c33; clear c33; have H' := Aside0.mk H; clear H; have p510 : 0 ≤ (x3_1 : Int) := of_decide_eq_true as_; have q510 : x3_1 < (l0.length : Int) := of_decide_eq_true as_; obtain ⟨ad510, e510, hx510_0, hx510_1, hx510_2⟩ := at_T67 HR0.out x3_1 p510 q510
     cases e510; replace hx510_0 := hd_ HB hx510_0; replace hx510_1 := hd_ HB hx510_1; replace hx510_2 := hd_ HB hx510_2; replace p510 := eq_true p510; replace q510 := eq_true q510
     try go_wp2_with (first | ((with_reducible refine gate_dst (N := 4) rfl ?_); (try (refine gate_guard (by rfl) ?_; dsimp only)); refine box_event rf_ (N := 4) rf_ (cs := #[.int .i64 0, .int .i64 0, .int .i64 0]) (t := 67) lr_ ?_; intro gb511 hg w46 hbox hb; have BK511 := Aside0.mk hbox; have GE511 := Aside0.mk (ge_ HB hg (hb0_ HB)); replace HB := Aside0.mk (below_step (hb0_ HB) hb); clear hb hbox hg; obtain ⟨hcz47_0, hcz47_1, hcz47_2⟩ := cz3_ BK511; obtain ⟨hfz47_0, hfz47_1, hfz47_2⟩ := fz3_ BK511))
     have n0_ : Aside0 ((((w46.setCell ⟨gb511, 0, none⟩ (.int .i64 ((rd_T67 l0 x3_1).f0))).setCell ⟨gb511, 1, none⟩ (.int .i64 ((rd_T67 l0 x3_1).f1))).setCell ⟨gb511, 2, none⟩ (.int .i64 ((rd_T67 l0 x3_1).f2))).heap[gb511]? = some (.cells #[.int .i64 ((rd_T67 l0 x3_1).f0), .int .i64 ((rd_T67 l0 x3_1).f1), .int .i64 ((rd_T67 l0 x3_1).f2)] 67 (0, 0))) := ⟨bq0_ BK511⟩
     have n1_ : Aside0 (Below w.heap.size w (((w46.setCell ⟨gb511, 0, none⟩ (.int .i64 ((rd_T67 l0 x3_1).f0))).setCell ⟨gb511, 1, none⟩ (.int .i64 ((rd_T67 l0 x3_1).f1))).setCell ⟨gb511, 2, none⟩ (.int .i64 ((rd_T67 l0 x3_1).f2)))) := ⟨hb1_ HB GE511⟩; (try clear BK511); (try clear HB)
     generalize (((w46.setCell ⟨gb511, 0, none⟩ (.int .i64 ((rd_T67 l0 x3_1).f0))).setCell ⟨gb511, 1, none⟩ (.int .i64 ((rd_T67 l0 x3_1).f1))).setCell ⟨gb511, 2, none⟩ (.int .i64 ((rd_T67 l0 x3_1).f2))) = w48 at n0_ n1_ ⊢
     have BK511 := n0_; have HB := n1_; clear n0_ n1_; replace BK511 := Aside0.mk (blk_drew BK511.out); replace HB := Aside0.mk (below_drew1 HB.out)
     refine start_ (n := 41) (S := fun w' => w'.cell? ⟨gb511, 0, none⟩ = some (.int .i64 ((rd_T67 l0 x3_1).f0)) ∧ w'.cell? ⟨gb511, 1, none⟩ = some (.int .i64 ((rd_T67 l0 x3_1).f1)) ∧ w'.cell? ⟨gb511, 2, none⟩ = some (.int .i64 ((rd_T67 l0 x3_1).f2))) (ds := []) (mk 41 0) (by kernel_rfl) rfl rfl ⟨cl_ BK511 0, cl_ BK511 1, cl_ BK511 2⟩ (fun hHeld => ?_); refine with_tabW haberdashref10_tiers.tab5 haberdashref10_tiers.bits5 (fun HT_ HW_ => ?_)
     generalize w48.drew = w49 at BK511 HB hHeld ⊢
     refine pure_ (i := 0) (N := some 15) (v := ?_) (a' := ?_) (mk 41 1) rfl rfl (an_ HT_) nh_ (Or.inl ⟨ry_, ?_⟩) ?_ ?_
     rotate_left; (intro w'; go_simp; with_reducible rfl)
     rotate_left; (exact pu_)
     refine take_ (i := 1) (N := some 16) (v := ?_) (a' := ?_) (mk 41 3) rfl rfl (tw_ HT_ HW_) nh_ (Or.inl ⟨by rfl, ?_⟩) hHeld ?_ ?_
     rotate_left
     ·
      rintro w' ⟨s0, s1, s2⟩
      go_simp
      with_reducible rfl
     rotate_left; (exact pu_)
     refine one_ (i := 2) (N := some 17) (mk 41 7) rfl rfl (on_ HT_) de_ (fun K hK => ?_)
     refine goes_ Try.func52 (by kernel_rfl) rfl #[.int .i64 ((rd_T67 l0 x3_1).f0), .int .i64 10000000000000] (by rfl) rfl rfl am_ ?_
     with_reducible refine (haberdashref10_in.calls ((rd_T67 l0 x3_1).f0) 10000000000000 true _ A4.out).mono ?_
     rintro e w' ⟨rfl, ⟨nd, rfl⟩⟩
     refine ⟨_, rfl, ?_⟩
     refine hK.out _ _ ⟨cl_ BK511 0, cl_ BK511 1, cl_ BK511 2⟩ (fun hHeld => ?_)
     clear hK K
     refine norm_ pv_ ?_
     refine ahead_ [(3, 18), (4, 19), (5, 20)] ?_
     iterate 3 (refine pB_ HT_ ?_)
     refine aheadE_ (mk 41 63) kr_ ?_
     refine take_ (i := 6) (N := some 21) (v := ?_) (a' := ?_) (mk 41 127) rfl rfl (tw_ HT_ HW_) nh_ (Or.inl ⟨by rfl, ?_⟩) hHeld ?_ ?_
     rotate_left
     ·
      rintro w' ⟨s0, s1, s2⟩
      go_simp
      with_reducible rfl
     rotate_left; (exact pu_)
     refine one_ (i := 7) (N := some 22) (mk 41 255) rfl rfl (on_ HT_) de_ (fun K hK => ?_)
     refine goes_ Try.func52 (by kernel_rfl) rfl #[.int .i64 ((rd_T67 l0 x3_1).f1), .int .i64 10000] (by rfl) rfl rfl am_ ?_
     with_reducible refine (haberdashref10_in.calls ((rd_T67 l0 x3_1).f1) 10000 true _ A6.out).mono ?_
     rintro e w' ⟨rfl, ⟨nd, rfl⟩⟩
     refine ⟨_, rfl, ?_⟩
     refine hK.out _ _ ⟨cl_ BK511 0, cl_ BK511 1, cl_ BK511 2⟩ (fun hHeld => ?_)
     clear hK K
     refine norm_ pv_ ?_
     refine ahead_ [(8, 23), (9, 24), (10, 25), (11, 26)] ?_
     iterate 4 (refine pB_ HT_ ?_)
     refine aheadE_ (mk 41 4095) kr_ ?_
     refine take_ (i := 12) (N := some 27) (v := ?_) (a' := ?_) (mk 41 8191) rfl rfl (tw_ HT_ HW_) nh_ (Or.inl ⟨by rfl, ?_⟩) hHeld ?_ ?_
     rotate_left
     ·
      rintro w' ⟨s0, s1, s2⟩
      go_simp
      with_reducible rfl
     rotate_left; (exact pu_)
     refine one_ (i := 13) (N := some 28) (mk 41 16383) rfl rfl (on_ HT_) de_ (fun K hK => ?_)
     refine goes_ Try.func52 (by kernel_rfl) rfl #[.int .i64 ((rd_T67 l0 x3_1).f2), .int .i64 10000000000000] (by rfl) rfl rfl am_ ?_
     with_reducible refine (haberdashref10_in.calls ((rd_T67 l0 x3_1).f2) 10000000000000 true _ A8.out).mono ?_
     rintro e w' ⟨rfl, ⟨nd, rfl⟩⟩
     refine ⟨_, rfl, ?_⟩
     refine hK.out _ _ ⟨cl_ BK511 0, cl_ BK511 1, cl_ BK511 2⟩ (fun hHeld => ?_)
     clear hK K
     refine norm_ pv_ ?_
     refine ahead_ [(14, 29), (15, 30), (16, 31), (17, 32)] ?_
     iterate 4 (refine pB_ HT_ ?_)
     refine aheadE_ (mk 41 262143) kr_ ?_
     refine take_ (i := 18) (N := some 33) (v := ?_) (a' := ?_) (mk 41 524287) rfl rfl (tw_ HT_ HW_) nh_ (Or.inl ⟨by rfl, ?_⟩) hHeld ?_ ?_
     rotate_left
     ·
      rintro w' ⟨s0, s1, s2⟩
      go_simp
      with_reducible rfl
     rotate_left; (exact pu_)
     refine ahead_ [(19, 34), (20, 35)] ?_
     iterate 2 (refine pB_ HT_ ?_)
     refine aheadE_ (mk 41 2097151) kr_ ?_
     refine ahead_ [(21, 36), (22, 37), (23, 38)] ?_
     iterate 3 (refine pA_ (v := undef) (a' := ?_) rfl rfl HT_.out kr_ nh_ ru_ ?_ ?_; rotate_left; (exact pu_))
     refine aheadE_ (mk 41 16777215) kr_ ?_
     refine ahead_ [(24, 39), (25, 40), (26, 41), (27, 42), (28, 43), (29, 44)] ?_
     iterate 6 (refine pB_ HT_ ?_)
     refine aheadE_ (mk 41 1073741823) kr_ ?_
     refine ahead_ [(30, 45), (31, 46), (32, 47), (33, 48), (34, 49), (35, 50), (36, 51), (37, 52), (38, 53)] ?_
     iterate 9 (refine pA_ (v := undef) (a' := ?_) rfl rfl HT_.out kr_ nh_ ru_ ?_ ?_; rotate_left; (exact pu_))
     refine aheadE_ (mk 41 549755813887) kr_ ?_
     refine ahead_ [(39, 54), (40, 55)] ?_
     iterate 2 (refine pB_ HT_ ?_)
     refine aheadE_ (mk 41 2199023255551) kr_ ?_
     refine done_ (done_of HT_.out (by kernel_rfl)) ?_
     try go_wp2
     go_roundg k1
     case measure => have := HK1.out; omega
     case rel => exact ⟨(wrap64 (x3_1 + 1)), rf_, H', ⟨ho_ HK1⟩, ⟨hb1_ HB GE511⟩⟩
    rw [if_pos c33] at H; have c33b0 := decide_eq_true c33; clear c33; obtain ⟨ji34, hji34⟩ : ∃ j_ : Int, (wrap64 (x3_1 - 1)) = j_ := ⟨_, rfl⟩
    replace H : (if 0 ≤ (ji34) then (if (ji34) < (l0.length : Int) then (if ((rd_T67 l0 x3_1).f0) ≤ ((rd_T67 l0 (ji34)).f0) then (some false) else (haberdashref10_tiers.l0 k1 l0 (wrap64 (x3_1 + 1)))) else (none)) else (none)) = some r := by first | (rw [hji34] at H; exact H) | (simp only [hji34] at H ⊢; exact H)
    (try rw [hji34] at A4)
    (try rw [hji34] at A6)
    (try rw [hji34] at A8)
    have hji34w : (IntKind.i64.wrap (x3_1 - 1)) = ji34 := (i64_w _).trans hji34; replace H := ip_ H; obtain ⟨c35, H⟩ := H; have c35b0 := decide_eq_true c35; clear c35; replace H := ip_ H; obtain ⟨c36, H⟩ := H; have c36b0 := decide_eq_true c36; clear c36
    by_cases c37 : ((rd_T67 l0 x3_1).f0) ≤ ((rd_T67 l0 (ji34)).f0)
    ·
     rw [if_pos c37] at H; have c37b0 := decide_eq_true c37; clear c37; obtain rfl := Option.some.inj H; have p510 : 0 ≤ (x3_1 : Int) := of_decide_eq_true as_; have q510 : x3_1 < (l0.length : Int) := of_decide_eq_true as_; obtain ⟨ad510, e510, hx510_0, hx510_1, hx510_2⟩ := at_T67 HR0.out x3_1 p510 q510
     cases e510; replace hx510_0 := hd_ HB hx510_0; replace hx510_1 := hd_ HB hx510_1; replace hx510_2 := hd_ HB hx510_2; replace p510 := eq_true p510; replace q510 := eq_true q510
     try go_wp2_with (first | ((with_reducible refine gate_dst (N := 4) rfl ?_); (try (refine gate_guard (by rfl) ?_; dsimp only)); refine box_event rf_ (N := 4) rf_ (cs := #[.int .i64 0, .int .i64 0, .int .i64 0]) (t := 67) lr_ ?_; intro gb511 hg w38 hbox hb; have BK511 := Aside0.mk hbox; have GE511 := Aside0.mk (ge_ HB hg (hb0_ HB)); replace HB := Aside0.mk (below_step (hb0_ HB) hb); clear hb hbox hg; obtain ⟨hcz39_0, hcz39_1, hcz39_2⟩ := cz3_ BK511; obtain ⟨hfz39_0, hfz39_1, hfz39_2⟩ := fz3_ BK511))
     have n0_ : Aside0 ((((w38.setCell ⟨gb511, 0, none⟩ (.int .i64 ((rd_T67 l0 x3_1).f0))).setCell ⟨gb511, 1, none⟩ (.int .i64 ((rd_T67 l0 x3_1).f1))).setCell ⟨gb511, 2, none⟩ (.int .i64 ((rd_T67 l0 x3_1).f2))).heap[gb511]? = some (.cells #[.int .i64 ((rd_T67 l0 x3_1).f0), .int .i64 ((rd_T67 l0 x3_1).f1), .int .i64 ((rd_T67 l0 x3_1).f2)] 67 (0, 0))) := ⟨bq0_ BK511⟩
     have n1_ : Aside0 (Below w.heap.size w (((w38.setCell ⟨gb511, 0, none⟩ (.int .i64 ((rd_T67 l0 x3_1).f0))).setCell ⟨gb511, 1, none⟩ (.int .i64 ((rd_T67 l0 x3_1).f1))).setCell ⟨gb511, 2, none⟩ (.int .i64 ((rd_T67 l0 x3_1).f2)))) := ⟨hb1_ HB GE511⟩; (try clear BK511); (try clear HB)
     generalize (((w38.setCell ⟨gb511, 0, none⟩ (.int .i64 ((rd_T67 l0 x3_1).f0))).setCell ⟨gb511, 1, none⟩ (.int .i64 ((rd_T67 l0 x3_1).f1))).setCell ⟨gb511, 2, none⟩ (.int .i64 ((rd_T67 l0 x3_1).f2))) = w40 at n0_ n1_ ⊢
     have BK511 := n0_; have HB := n1_; clear n0_ n1_; replace BK511 := Aside0.mk (blk_drew BK511.out); replace HB := Aside0.mk (below_drew1 HB.out); have p516 : 0 ≤ ((ji34) : Int) := of_decide_eq_true as_; have q516 : (ji34) < (l0.length : Int) := of_decide_eq_true as_; obtain ⟨ad516, e516, hx516_0, hx516_1, hx516_2⟩ := at_T67 HR0.out (ji34) p516 q516
     have hw516_2 := hx516_2; have hw516_1 := hx516_1; have hw516_0 := hx516_0
     obtain rfl : ad510 = ad516 := (by injection e516)
     replace hx516_0 := hd_ HB hx516_0; replace hx516_1 := hd_ HB hx516_1; replace hx516_2 := hd_ HB hx516_2; replace p516 := eq_true p516; replace q516 := eq_true q516
     refine start_ (n := 41) (S := fun w' => w'.cell? ⟨gb511, 0, none⟩ = some (.int .i64 ((rd_T67 l0 x3_1).f0)) ∧ w'.cell? ⟨gb511, 1, none⟩ = some (.int .i64 ((rd_T67 l0 x3_1).f1)) ∧ w'.cell? ⟨gb511, 2, none⟩ = some (.int .i64 ((rd_T67 l0 x3_1).f2)) ∧ w'.cell? (ad510.add (((ji34)).toNat * 3)) = some (.int .i64 ((rd_T67 l0 (ji34)).f0)) ∧ w'.cell? ⟨(ad510.add (((ji34)).toNat * 3)).block, (ad510.add (((ji34)).toNat * 3)).off + 1, none⟩ = some (.int .i64 ((rd_T67 l0 (ji34)).f1)) ∧ w'.cell? ⟨(ad510.add (((ji34)).toNat * 3)).block, (ad510.add (((ji34)).toNat * 3)).off + 2, none⟩ = some (.int .i64 ((rd_T67 l0 (ji34)).f2))) (ds := []) (mk 41 0) (by kernel_rfl) rfl rfl ⟨cl_ BK511 0, cl_ BK511 1, cl_ BK511 2, (hc_ HB hw516_0), (hc_ HB hw516_1), (hc_ HB hw516_2)⟩ (fun hHeld => ?_); refine with_tabW haberdashref10_tiers.tab5 haberdashref10_tiers.bits5 (fun HT_ HW_ => ?_)
     generalize w40.drew = w41 at BK511 HB hx516_0 hx516_1 hx516_2 hHeld ⊢
     refine pure_ (i := 0) (N := some 15) (v := ?_) (a' := ?_) (mk 41 1) rfl rfl (an_ HT_) nh_ (Or.inl ⟨ry_, ?_⟩) ?_ ?_
     rotate_left; (intro w'; go_simp; with_reducible rfl)
     rotate_left; (exact pu_)
     refine take_ (i := 1) (N := some 16) (v := ?_) (a' := ?_) (mk 41 3) rfl rfl (tw_ HT_ HW_) nh_ (Or.inl ⟨by rfl, ?_⟩) hHeld ?_ ?_
     rotate_left
     ·
      rintro w' ⟨s0, s1, s2, s3, s4, s5⟩
      go_simp
      with_reducible rfl
     rotate_left; (exact pu_)
     refine one_ (i := 2) (N := some 17) (mk 41 7) rfl rfl (on_ HT_) de_ (fun K hK => ?_)
     refine goes_ Try.func52 (by kernel_rfl) rfl #[.int .i64 ((rd_T67 l0 x3_1).f0), .int .i64 10000000000000] (by rfl) rfl rfl am_ ?_
     with_reducible refine (haberdashref10_in.calls ((rd_T67 l0 x3_1).f0) 10000000000000 true _ A4.out).mono ?_
     rintro e w' ⟨rfl, ⟨nd, rfl⟩⟩
     refine ⟨_, rfl, ?_⟩
     refine hK.out _ _ ⟨cl_ BK511 0, cl_ BK511 1, cl_ BK511 2, (hc_ HB hw516_0), (hc_ HB hw516_1), (hc_ HB hw516_2)⟩ (fun hHeld => ?_)
     clear hK K
     refine norm_ pv_ ?_
     refine ahead_ [(3, 18), (4, 19), (5, 20)] ?_
     iterate 3 (refine pB_ HT_ ?_)
     refine aheadE_ (mk 41 63) kr_ ?_
     refine take_ (i := 6) (N := some 21) (v := ?_) (a' := ?_) (mk 41 127) rfl rfl (tw_ HT_ HW_) nh_ (Or.inl ⟨by rfl, ?_⟩) hHeld ?_ ?_
     rotate_left
     ·
      rintro w' ⟨s0, s1, s2, s3, s4, s5⟩
      go_simp
      with_reducible rfl
     rotate_left; (exact pu_)
     refine one_ (i := 7) (N := some 22) (mk 41 255) rfl rfl (on_ HT_) de_ (fun K hK => ?_)
     refine goes_ Try.func52 (by kernel_rfl) rfl #[.int .i64 ((rd_T67 l0 x3_1).f1), .int .i64 10000] (by rfl) rfl rfl am_ ?_
     with_reducible refine (haberdashref10_in.calls ((rd_T67 l0 x3_1).f1) 10000 true _ A6.out).mono ?_
     rintro e w' ⟨rfl, ⟨nd, rfl⟩⟩
     refine ⟨_, rfl, ?_⟩
     refine hK.out _ _ ⟨cl_ BK511 0, cl_ BK511 1, cl_ BK511 2, (hc_ HB hw516_0), (hc_ HB hw516_1), (hc_ HB hw516_2)⟩ (fun hHeld => ?_)
     clear hK K
     refine norm_ pv_ ?_
     refine ahead_ [(8, 23), (9, 24), (10, 25), (11, 26)] ?_
     iterate 4 (refine pB_ HT_ ?_)
     refine aheadE_ (mk 41 4095) kr_ ?_
     refine take_ (i := 12) (N := some 27) (v := ?_) (a' := ?_) (mk 41 8191) rfl rfl (tw_ HT_ HW_) nh_ (Or.inl ⟨by rfl, ?_⟩) hHeld ?_ ?_
     rotate_left
     ·
      rintro w' ⟨s0, s1, s2, s3, s4, s5⟩
      go_simp
      with_reducible rfl
     rotate_left; (exact pu_)
     refine one_ (i := 13) (N := some 28) (mk 41 16383) rfl rfl (on_ HT_) de_ (fun K hK => ?_)
     refine goes_ Try.func52 (by kernel_rfl) rfl #[.int .i64 ((rd_T67 l0 x3_1).f2), .int .i64 10000000000000] (by rfl) rfl rfl am_ ?_
     with_reducible refine (haberdashref10_in.calls ((rd_T67 l0 x3_1).f2) 10000000000000 true _ A8.out).mono ?_
     rintro e w' ⟨rfl, ⟨nd, rfl⟩⟩
     refine ⟨_, rfl, ?_⟩
     refine hK.out _ _ ⟨cl_ BK511 0, cl_ BK511 1, cl_ BK511 2, (hc_ HB hw516_0), (hc_ HB hw516_1), (hc_ HB hw516_2)⟩ (fun hHeld => ?_)
     clear hK K
     refine norm_ pv_ ?_
     refine ahead_ [(14, 29), (15, 30), (16, 31), (17, 32)] ?_
     iterate 4 (refine pB_ HT_ ?_)
     refine aheadE_ (mk 41 262143) kr_ ?_
     refine take_ (i := 18) (N := some 33) (v := ?_) (a' := ?_) (mk 41 524287) rfl rfl (tw_ HT_ HW_) nh_ (Or.inl ⟨by rfl, ?_⟩) hHeld ?_ ?_
     rotate_left
     ·
      rintro w' ⟨s0, s1, s2, s3, s4, s5⟩
      go_simp
      with_reducible rfl
     rotate_left; (exact pu_)
     refine ahead_ [(19, 34), (20, 35)] ?_
     iterate 2 (refine pB_ HT_ ?_)
     refine aheadE_ (mk 41 2097151) kr_ ?_
     refine ahead_ [(21, 36), (22, 37), (23, 38)] ?_
     iterate 3 (refine pA_ (v := undef) (a' := ?_) rfl rfl HT_.out kr_ nh_ ru_ ?_ ?_; rotate_left; (exact pu_))
     refine aheadE_ (mk 41 16777215) kr_ ?_
     refine ahead_ [(24, 39), (25, 40), (26, 41), (27, 42), (28, 43), (29, 44), (30, 45), (32, 47), (33, 48), (34, 49), (35, 50), (36, 51)] ?_
     iterate 12 (refine pB_ HT_ ?_)
     refine aheadE_ (mk 41 135291469823) kr_ ?_
     refine ahead_ [(31, 46), (37, 52)] ?_
     iterate 2 (refine tA_ (v := ?_) (a' := ?_) rfl rfl HT_.out HW_.out (by kernel_rfl) (fun _ _ _ h => h) (Or.inl ⟨by rfl, ?_⟩) hHeld ?_ ?_; rotate_left; (rintro w' ⟨s0, s1, s2, s3, s4, s5⟩; go_simp; with_reducible rfl); rotate_left; (exact pu_))
     refine aheadE_ (mk 41 274877906943) kr_ ?_
     refine ahead_ [(38, 53), (39, 54), (40, 55)] ?_
     iterate 3 (refine pB_ HT_ ?_)
     refine aheadE_ (mk 41 2199023255551) kr_ ?_
     refine done_ (done_of HT_.out (by kernel_rfl)) ?_
     try go_wp2
     go_ret
     exact ⟨by first | rfl | (simp [errW_none, errW_some] <;> rfl) | (simp only [← hji34]; first | rfl | (simp [errW_none, errW_some] <;> rfl)) | (simp [*, errW_none, errW_some] <;> rfl), hb1_ HB GE511⟩
    rw [if_neg c37] at H; have c37b0 := decide_eq_false c37; clear c37; have H' := Aside0.mk H; clear H; have p510 : 0 ≤ (x3_1 : Int) := of_decide_eq_true as_; have q510 : x3_1 < (l0.length : Int) := of_decide_eq_true as_; obtain ⟨ad510, e510, hx510_0, hx510_1, hx510_2⟩ := at_T67 HR0.out x3_1 p510 q510
    cases e510; replace hx510_0 := hd_ HB hx510_0; replace hx510_1 := hd_ HB hx510_1; replace hx510_2 := hd_ HB hx510_2; replace p510 := eq_true p510; replace q510 := eq_true q510
    try go_wp2_with (first | ((with_reducible refine gate_dst (N := 4) rfl ?_); (try (refine gate_guard (by rfl) ?_; dsimp only)); refine box_event rf_ (N := 4) rf_ (cs := #[.int .i64 0, .int .i64 0, .int .i64 0]) (t := 67) lr_ ?_; intro gb511 hg w42 hbox hb; have BK511 := Aside0.mk hbox; have GE511 := Aside0.mk (ge_ HB hg (hb0_ HB)); replace HB := Aside0.mk (below_step (hb0_ HB) hb); clear hb hbox hg; obtain ⟨hcz43_0, hcz43_1, hcz43_2⟩ := cz3_ BK511; obtain ⟨hfz43_0, hfz43_1, hfz43_2⟩ := fz3_ BK511))
    have n0_ : Aside0 ((((w42.setCell ⟨gb511, 0, none⟩ (.int .i64 ((rd_T67 l0 x3_1).f0))).setCell ⟨gb511, 1, none⟩ (.int .i64 ((rd_T67 l0 x3_1).f1))).setCell ⟨gb511, 2, none⟩ (.int .i64 ((rd_T67 l0 x3_1).f2))).heap[gb511]? = some (.cells #[.int .i64 ((rd_T67 l0 x3_1).f0), .int .i64 ((rd_T67 l0 x3_1).f1), .int .i64 ((rd_T67 l0 x3_1).f2)] 67 (0, 0))) := ⟨bq0_ BK511⟩
    have n1_ : Aside0 (Below w.heap.size w (((w42.setCell ⟨gb511, 0, none⟩ (.int .i64 ((rd_T67 l0 x3_1).f0))).setCell ⟨gb511, 1, none⟩ (.int .i64 ((rd_T67 l0 x3_1).f1))).setCell ⟨gb511, 2, none⟩ (.int .i64 ((rd_T67 l0 x3_1).f2)))) := ⟨hb1_ HB GE511⟩; (try clear BK511); (try clear HB)
    generalize (((w42.setCell ⟨gb511, 0, none⟩ (.int .i64 ((rd_T67 l0 x3_1).f0))).setCell ⟨gb511, 1, none⟩ (.int .i64 ((rd_T67 l0 x3_1).f1))).setCell ⟨gb511, 2, none⟩ (.int .i64 ((rd_T67 l0 x3_1).f2))) = w44 at n0_ n1_ ⊢
    have BK511 := n0_; have HB := n1_; clear n0_ n1_; replace BK511 := Aside0.mk (blk_drew BK511.out); replace HB := Aside0.mk (below_drew1 HB.out); have p516 : 0 ≤ ((ji34) : Int) := of_decide_eq_true as_; have q516 : (ji34) < (l0.length : Int) := of_decide_eq_true as_; obtain ⟨ad516, e516, hx516_0, hx516_1, hx516_2⟩ := at_T67 HR0.out (ji34) p516 q516
    have hw516_2 := hx516_2; have hw516_1 := hx516_1; have hw516_0 := hx516_0
    obtain rfl : ad510 = ad516 := (by injection e516)
    replace hx516_0 := hd_ HB hx516_0; replace hx516_1 := hd_ HB hx516_1; replace hx516_2 := hd_ HB hx516_2; replace p516 := eq_true p516; replace q516 := eq_true q516
    refine start_ (n := 41) (S := fun w' => w'.cell? ⟨gb511, 0, none⟩ = some (.int .i64 ((rd_T67 l0 x3_1).f0)) ∧ w'.cell? ⟨gb511, 1, none⟩ = some (.int .i64 ((rd_T67 l0 x3_1).f1)) ∧ w'.cell? ⟨gb511, 2, none⟩ = some (.int .i64 ((rd_T67 l0 x3_1).f2)) ∧ w'.cell? (ad510.add (((ji34)).toNat * 3)) = some (.int .i64 ((rd_T67 l0 (ji34)).f0)) ∧ w'.cell? ⟨(ad510.add (((ji34)).toNat * 3)).block, (ad510.add (((ji34)).toNat * 3)).off + 1, none⟩ = some (.int .i64 ((rd_T67 l0 (ji34)).f1)) ∧ w'.cell? ⟨(ad510.add (((ji34)).toNat * 3)).block, (ad510.add (((ji34)).toNat * 3)).off + 2, none⟩ = some (.int .i64 ((rd_T67 l0 (ji34)).f2))) (ds := []) (mk 41 0) (by kernel_rfl) rfl rfl ⟨cl_ BK511 0, cl_ BK511 1, cl_ BK511 2, (hc_ HB hw516_0), (hc_ HB hw516_1), (hc_ HB hw516_2)⟩ (fun hHeld => ?_); refine with_tabW haberdashref10_tiers.tab5 haberdashref10_tiers.bits5 (fun HT_ HW_ => ?_)
    generalize w44.drew = w45 at BK511 HB hx516_0 hx516_1 hx516_2 hHeld ⊢
    refine pure_ (i := 0) (N := some 15) (v := ?_) (a' := ?_) (mk 41 1) rfl rfl (an_ HT_) nh_ (Or.inl ⟨ry_, ?_⟩) ?_ ?_
    rotate_left; (intro w'; go_simp; with_reducible rfl)
    rotate_left; (exact pu_)
    refine take_ (i := 1) (N := some 16) (v := ?_) (a' := ?_) (mk 41 3) rfl rfl (tw_ HT_ HW_) nh_ (Or.inl ⟨by rfl, ?_⟩) hHeld ?_ ?_
    rotate_left
    ·
     rintro w' ⟨s0, s1, s2, s3, s4, s5⟩
     go_simp
     with_reducible rfl
    rotate_left; (exact pu_)
    refine one_ (i := 2) (N := some 17) (mk 41 7) rfl rfl (on_ HT_) de_ (fun K hK => ?_)
    refine goes_ Try.func52 (by kernel_rfl) rfl #[.int .i64 ((rd_T67 l0 x3_1).f0), .int .i64 10000000000000] (by rfl) rfl rfl am_ ?_
    with_reducible refine (haberdashref10_in.calls ((rd_T67 l0 x3_1).f0) 10000000000000 true _ A4.out).mono ?_
    rintro e w' ⟨rfl, ⟨nd, rfl⟩⟩
    refine ⟨_, rfl, ?_⟩
    refine hK.out _ _ ⟨cl_ BK511 0, cl_ BK511 1, cl_ BK511 2, (hc_ HB hw516_0), (hc_ HB hw516_1), (hc_ HB hw516_2)⟩ (fun hHeld => ?_)
    clear hK K
    refine norm_ pv_ ?_
    refine ahead_ [(3, 18), (4, 19), (5, 20)] ?_
    iterate 3 (refine pB_ HT_ ?_)
    refine aheadE_ (mk 41 63) kr_ ?_
    refine take_ (i := 6) (N := some 21) (v := ?_) (a' := ?_) (mk 41 127) rfl rfl (tw_ HT_ HW_) nh_ (Or.inl ⟨by rfl, ?_⟩) hHeld ?_ ?_
    rotate_left
    ·
     rintro w' ⟨s0, s1, s2, s3, s4, s5⟩
     go_simp
     with_reducible rfl
    rotate_left; (exact pu_)
    refine one_ (i := 7) (N := some 22) (mk 41 255) rfl rfl (on_ HT_) de_ (fun K hK => ?_)
    refine goes_ Try.func52 (by kernel_rfl) rfl #[.int .i64 ((rd_T67 l0 x3_1).f1), .int .i64 10000] (by rfl) rfl rfl am_ ?_
    with_reducible refine (haberdashref10_in.calls ((rd_T67 l0 x3_1).f1) 10000 true _ A6.out).mono ?_
    rintro e w' ⟨rfl, ⟨nd, rfl⟩⟩
    refine ⟨_, rfl, ?_⟩
    refine hK.out _ _ ⟨cl_ BK511 0, cl_ BK511 1, cl_ BK511 2, (hc_ HB hw516_0), (hc_ HB hw516_1), (hc_ HB hw516_2)⟩ (fun hHeld => ?_)
    clear hK K
    refine norm_ pv_ ?_
    refine ahead_ [(8, 23), (9, 24), (10, 25), (11, 26)] ?_
    iterate 4 (refine pB_ HT_ ?_)
    refine aheadE_ (mk 41 4095) kr_ ?_
    refine take_ (i := 12) (N := some 27) (v := ?_) (a' := ?_) (mk 41 8191) rfl rfl (tw_ HT_ HW_) nh_ (Or.inl ⟨by rfl, ?_⟩) hHeld ?_ ?_
    rotate_left
    ·
     rintro w' ⟨s0, s1, s2, s3, s4, s5⟩
     go_simp
     with_reducible rfl
    rotate_left; (exact pu_)
    refine one_ (i := 13) (N := some 28) (mk 41 16383) rfl rfl (on_ HT_) de_ (fun K hK => ?_)
    refine goes_ Try.func52 (by kernel_rfl) rfl #[.int .i64 ((rd_T67 l0 x3_1).f2), .int .i64 10000000000000] (by rfl) rfl rfl am_ ?_
    with_reducible refine (haberdashref10_in.calls ((rd_T67 l0 x3_1).f2) 10000000000000 true _ A8.out).mono ?_
    rintro e w' ⟨rfl, ⟨nd, rfl⟩⟩
    refine ⟨_, rfl, ?_⟩
    refine hK.out _ _ ⟨cl_ BK511 0, cl_ BK511 1, cl_ BK511 2, (hc_ HB hw516_0), (hc_ HB hw516_1), (hc_ HB hw516_2)⟩ (fun hHeld => ?_)
    clear hK K
    refine norm_ pv_ ?_
    refine ahead_ [(14, 29), (15, 30), (16, 31), (17, 32)] ?_
    iterate 4 (refine pB_ HT_ ?_)
    refine aheadE_ (mk 41 262143) kr_ ?_
    refine take_ (i := 18) (N := some 33) (v := ?_) (a' := ?_) (mk 41 524287) rfl rfl (tw_ HT_ HW_) nh_ (Or.inl ⟨by rfl, ?_⟩) hHeld ?_ ?_
    rotate_left
    ·
     rintro w' ⟨s0, s1, s2, s3, s4, s5⟩
     go_simp
     with_reducible rfl
    rotate_left; (exact pu_)
    refine ahead_ [(19, 34), (20, 35)] ?_
    iterate 2 (refine pB_ HT_ ?_)
    refine aheadE_ (mk 41 2097151) kr_ ?_
    refine ahead_ [(21, 36), (22, 37), (23, 38)] ?_
    iterate 3 (refine pA_ (v := undef) (a' := ?_) rfl rfl HT_.out kr_ nh_ ru_ ?_ ?_; rotate_left; (exact pu_))
    refine aheadE_ (mk 41 16777215) kr_ ?_
    refine ahead_ [(24, 39), (25, 40), (26, 41), (27, 42), (28, 43), (29, 44), (30, 45), (32, 47), (33, 48), (34, 49), (35, 50), (36, 51)] ?_
    iterate 12 (refine pB_ HT_ ?_)
    refine aheadE_ (mk 41 135291469823) kr_ ?_
    refine ahead_ [(31, 46), (37, 52)] ?_
    iterate 2 (refine tA_ (v := ?_) (a' := ?_) rfl rfl HT_.out HW_.out (by kernel_rfl) (fun _ _ _ h => h) (Or.inl ⟨by rfl, ?_⟩) hHeld ?_ ?_; rotate_left; (rintro w' ⟨s0, s1, s2, s3, s4, s5⟩; go_simp; with_reducible rfl); rotate_left; (exact pu_))
    refine aheadE_ (mk 41 274877906943) kr_ ?_
    refine ahead_ [(38, 53), (39, 54), (40, 55)] ?_
    iterate 3 (refine pB_ HT_ ?_)
    refine aheadE_ (mk 41 2199023255551) kr_ ?_
    refine done_ (done_of HT_.out (by kernel_rfl)) ?_
    try go_wp2
    go_roundg k1
    case measure => have := HK1.out; omega
    case rel => exact ⟨(wrap64 (x3_1 + 1)), rf_, H', ⟨ho_ HK1⟩, ⟨hb1_ HB GE511⟩⟩
   rw [if_pos c10] at H; have c10b0 : (((rd_T67 l0 x3_1).f1) == 0) = true := beq_iff_eq.mpr c10; have c10b1 : (((rd_T67 l0 x3_1).f1) != 0) = false := bne_eq_false_iff_eq.mpr c10; clear c10
   by_cases c11 : ((rd_T67 l0 x3_1).f2) = 0
   ·
    rw [if_pos c11] at H; have c11b0 : (((rd_T67 l0 x3_1).f2) == 0) = true := beq_iff_eq.mpr c11; have c11b1 : (((rd_T67 l0 x3_1).f2) != 0) = false := bne_eq_false_iff_eq.mpr c11; clear c11; obtain rfl := Option.some.inj H; have p510 : 0 ≤ (x3_1 : Int) := of_decide_eq_true as_; have q510 : x3_1 < (l0.length : Int) := of_decide_eq_true as_
    obtain ⟨ad510, e510, hx510_0, hx510_1, hx510_2⟩ := at_T67 HR0.out x3_1 p510 q510; cases e510; replace hx510_0 := hd_ HB hx510_0; replace hx510_1 := hd_ HB hx510_1; replace hx510_2 := hd_ HB hx510_2; replace p510 := eq_true p510; replace q510 := eq_true q510
    try go_wp2_with (first | ((with_reducible refine gate_dst (N := 4) rfl ?_); (try (refine gate_guard (by rfl) ?_; dsimp only)); refine box_event rf_ (N := 4) rf_ (cs := #[.int .i64 0, .int .i64 0, .int .i64 0]) (t := 67) lr_ ?_; intro gb511 hg w12 hbox hb; have BK511 := Aside0.mk hbox; have GE511 := Aside0.mk (ge_ HB hg (hb0_ HB)); replace HB := Aside0.mk (below_step (hb0_ HB) hb); clear hb hbox hg; obtain ⟨hcz13_0, hcz13_1, hcz13_2⟩ := cz3_ BK511; obtain ⟨hfz13_0, hfz13_1, hfz13_2⟩ := fz3_ BK511))
    have n0_ : Aside0 ((((w12.setCell ⟨gb511, 0, none⟩ (.int .i64 ((rd_T67 l0 x3_1).f0))).setCell ⟨gb511, 1, none⟩ (.int .i64 ((rd_T67 l0 x3_1).f1))).setCell ⟨gb511, 2, none⟩ (.int .i64 ((rd_T67 l0 x3_1).f2))).heap[gb511]? = some (.cells #[.int .i64 ((rd_T67 l0 x3_1).f0), .int .i64 ((rd_T67 l0 x3_1).f1), .int .i64 ((rd_T67 l0 x3_1).f2)] 67 (0, 0))) := ⟨bq0_ BK511⟩
    have n1_ : Aside0 (Below w.heap.size w (((w12.setCell ⟨gb511, 0, none⟩ (.int .i64 ((rd_T67 l0 x3_1).f0))).setCell ⟨gb511, 1, none⟩ (.int .i64 ((rd_T67 l0 x3_1).f1))).setCell ⟨gb511, 2, none⟩ (.int .i64 ((rd_T67 l0 x3_1).f2)))) := ⟨hb1_ HB GE511⟩; (try clear BK511); (try clear HB)
    generalize (((w12.setCell ⟨gb511, 0, none⟩ (.int .i64 ((rd_T67 l0 x3_1).f0))).setCell ⟨gb511, 1, none⟩ (.int .i64 ((rd_T67 l0 x3_1).f1))).setCell ⟨gb511, 2, none⟩ (.int .i64 ((rd_T67 l0 x3_1).f2))) = w14 at n0_ n1_ ⊢
    have BK511 := n0_; have HB := n1_; clear n0_ n1_; replace BK511 := Aside0.mk (blk_drew BK511.out); replace HB := Aside0.mk (below_drew1 HB.out)
    refine start_ (n := 41) (S := fun w' => w'.cell? ⟨gb511, 0, none⟩ = some (.int .i64 ((rd_T67 l0 x3_1).f0)) ∧ w'.cell? ⟨gb511, 1, none⟩ = some (.int .i64 ((rd_T67 l0 x3_1).f1)) ∧ w'.cell? ⟨gb511, 2, none⟩ = some (.int .i64 ((rd_T67 l0 x3_1).f2))) (ds := []) (mk 41 0) (by kernel_rfl) rfl rfl ⟨cl_ BK511 0, cl_ BK511 1, cl_ BK511 2⟩ (fun hHeld => ?_); refine with_tabW haberdashref10_tiers.tab5 haberdashref10_tiers.bits5 (fun HT_ HW_ => ?_)
    generalize w14.drew = w15 at BK511 HB hHeld ⊢
    refine pure_ (i := 0) (N := some 15) (v := ?_) (a' := ?_) (mk 41 1) rfl rfl (an_ HT_) nh_ (Or.inl ⟨ry_, ?_⟩) ?_ ?_
    rotate_left; (intro w'; go_simp; with_reducible rfl)
    rotate_left; (exact pu_)
    refine take_ (i := 1) (N := some 16) (v := ?_) (a' := ?_) (mk 41 3) rfl rfl (tw_ HT_ HW_) nh_ (Or.inl ⟨by rfl, ?_⟩) hHeld ?_ ?_
    rotate_left
    ·
     rintro w' ⟨s0, s1, s2⟩
     go_simp
     with_reducible rfl
    rotate_left; (exact pu_)
    refine one_ (i := 2) (N := some 17) (mk 41 7) rfl rfl (on_ HT_) de_ (fun K hK => ?_)
    refine goes_ Try.func52 (by kernel_rfl) rfl #[.int .i64 ((rd_T67 l0 x3_1).f0), .int .i64 10000000000000] (by rfl) rfl rfl am_ ?_
    with_reducible refine (haberdashref10_in.calls ((rd_T67 l0 x3_1).f0) 10000000000000 true _ A4.out).mono ?_
    rintro e w' ⟨rfl, ⟨nd, rfl⟩⟩
    refine ⟨_, rfl, ?_⟩
    refine hK.out _ _ ⟨cl_ BK511 0, cl_ BK511 1, cl_ BK511 2⟩ (fun hHeld => ?_)
    clear hK K
    refine norm_ pv_ ?_
    refine ahead_ [(3, 18), (4, 19), (5, 20)] ?_
    iterate 3 (refine pB_ HT_ ?_)
    refine aheadE_ (mk 41 63) kr_ ?_
    refine take_ (i := 6) (N := some 21) (v := ?_) (a' := ?_) (mk 41 127) rfl rfl (tw_ HT_ HW_) nh_ (Or.inl ⟨by rfl, ?_⟩) hHeld ?_ ?_
    rotate_left
    ·
     rintro w' ⟨s0, s1, s2⟩
     go_simp
     with_reducible rfl
    rotate_left; (exact pu_)
    refine one_ (i := 7) (N := some 22) (mk 41 255) rfl rfl (on_ HT_) de_ (fun K hK => ?_)
    refine goes_ Try.func52 (by kernel_rfl) rfl #[.int .i64 ((rd_T67 l0 x3_1).f1), .int .i64 10000] (by rfl) rfl rfl am_ ?_
    with_reducible refine (haberdashref10_in.calls ((rd_T67 l0 x3_1).f1) 10000 true _ A6.out).mono ?_
    rintro e w' ⟨rfl, ⟨nd, rfl⟩⟩
    refine ⟨_, rfl, ?_⟩
    refine hK.out _ _ ⟨cl_ BK511 0, cl_ BK511 1, cl_ BK511 2⟩ (fun hHeld => ?_)
    clear hK K
    refine norm_ pv_ ?_
    refine ahead_ [(8, 23), (9, 24), (10, 25), (11, 26)] ?_
    iterate 4 (refine pB_ HT_ ?_)
    refine aheadE_ (mk 41 4095) kr_ ?_
    refine take_ (i := 12) (N := some 27) (v := ?_) (a' := ?_) (mk 41 8191) rfl rfl (tw_ HT_ HW_) nh_ (Or.inl ⟨by rfl, ?_⟩) hHeld ?_ ?_
    rotate_left
    ·
     rintro w' ⟨s0, s1, s2⟩
     go_simp
     with_reducible rfl
    rotate_left; (exact pu_)
    refine one_ (i := 13) (N := some 28) (mk 41 16383) rfl rfl (on_ HT_) de_ (fun K hK => ?_)
    refine goes_ Try.func52 (by kernel_rfl) rfl #[.int .i64 ((rd_T67 l0 x3_1).f2), .int .i64 10000000000000] (by rfl) rfl rfl am_ ?_
    with_reducible refine (haberdashref10_in.calls ((rd_T67 l0 x3_1).f2) 10000000000000 true _ A8.out).mono ?_
    rintro e w' ⟨rfl, ⟨nd, rfl⟩⟩
    refine ⟨_, rfl, ?_⟩
    refine hK.out _ _ ⟨cl_ BK511 0, cl_ BK511 1, cl_ BK511 2⟩ (fun hHeld => ?_)
    clear hK K
    refine norm_ pv_ ?_
    refine ahead_ [(14, 29), (15, 30), (16, 31), (17, 32)] ?_
    iterate 4 (refine pB_ HT_ ?_)
    refine aheadE_ (mk 41 262143) kr_ ?_
    refine take_ (i := 18) (N := some 33) (v := ?_) (a' := ?_) (mk 41 524287) rfl rfl (tw_ HT_ HW_) nh_ (Or.inl ⟨by rfl, ?_⟩) hHeld ?_ ?_
    rotate_left
    ·
     rintro w' ⟨s0, s1, s2⟩
     go_simp
     with_reducible rfl
    rotate_left; (exact pu_)
    refine ahead_ [(19, 34), (20, 35), (21, 36)] ?_
    iterate 3 (refine pB_ HT_ ?_)
    refine aheadE_ (mk 41 4194303) kr_ ?_
    refine take_ (i := 22) (N := some 37) (v := ?_) (a' := ?_) (mk 41 8388607) rfl rfl (tw_ HT_ HW_) nh_ (Or.inl ⟨by rfl, ?_⟩) hHeld ?_ ?_
    rotate_left
    ·
     rintro w' ⟨s0, s1, s2⟩
     go_simp
     with_reducible rfl
    rotate_left; (exact pu_)
    refine ahead_ [(23, 38), (24, 39), (25, 40), (26, 41)] ?_
    iterate 4 (refine pB_ HT_ ?_)
    refine aheadE_ (mk 41 134217727) kr_ ?_
    refine ahead_ [(27, 42), (28, 43), (29, 44), (30, 45), (31, 46), (32, 47), (33, 48), (34, 49), (35, 50), (36, 51), (37, 52), (38, 53), (39, 54)] ?_
    iterate 13 (refine pA_ (v := undef) (a' := ?_) rfl rfl HT_.out kr_ nh_ ru_ ?_ ?_; rotate_left; (exact pu_))
    refine aheadE_ (mk 41 1099511627775) kr_ ?_
    refine pure_ (i := 40) (N := some 55) (v := ?_) (a' := ?_) (mk 41 2199023255551) rfl rfl (an_ HT_) nh_ (Or.inl ⟨ry_, ?_⟩) ?_ ?_
    rotate_left; (intro w'; go_simp; with_reducible rfl)
    rotate_left; (exact pu_)
    refine done_ (done_of HT_.out (by kernel_rfl)) ?_
    try go_wp2
    go_ret
    exact ⟨er_, hb1_ HB GE511⟩
   rw [if_neg c11] at H; have c11b0 : (((rd_T67 l0 x3_1).f2) == 0) = false := beq_eq_false_iff_ne.mpr c11; have c11b1 : (((rd_T67 l0 x3_1).f2) != 0) = true := bne_iff_ne.mpr c11
   by_cases c16 : x3_1 > 0
   rotate_left
   ·
    rw [if_neg c16] at H; have c16b0 := decide_eq_false c16; clear c16; have H' := Aside0.mk H; clear H; have p510 : 0 ≤ (x3_1 : Int) := of_decide_eq_true as_; have q510 : x3_1 < (l0.length : Int) := of_decide_eq_true as_; obtain ⟨ad510, e510, hx510_0, hx510_1, hx510_2⟩ := at_T67 HR0.out x3_1 p510 q510
    cases e510; replace hx510_0 := hd_ HB hx510_0; replace hx510_1 := hd_ HB hx510_1; replace hx510_2 := hd_ HB hx510_2; replace p510 := eq_true p510; replace q510 := eq_true q510
    try go_wp2_with (first | ((with_reducible refine gate_dst (N := 4) rfl ?_); (try (refine gate_guard (by rfl) ?_; dsimp only)); refine box_event rf_ (N := 4) rf_ (cs := #[.int .i64 0, .int .i64 0, .int .i64 0]) (t := 67) lr_ ?_; intro gb511 hg w29 hbox hb; have BK511 := Aside0.mk hbox; have GE511 := Aside0.mk (ge_ HB hg (hb0_ HB)); replace HB := Aside0.mk (below_step (hb0_ HB) hb); clear hb hbox hg; obtain ⟨hcz30_0, hcz30_1, hcz30_2⟩ := cz3_ BK511; obtain ⟨hfz30_0, hfz30_1, hfz30_2⟩ := fz3_ BK511))
    have n0_ : Aside0 ((((w29.setCell ⟨gb511, 0, none⟩ (.int .i64 ((rd_T67 l0 x3_1).f0))).setCell ⟨gb511, 1, none⟩ (.int .i64 ((rd_T67 l0 x3_1).f1))).setCell ⟨gb511, 2, none⟩ (.int .i64 ((rd_T67 l0 x3_1).f2))).heap[gb511]? = some (.cells #[.int .i64 ((rd_T67 l0 x3_1).f0), .int .i64 ((rd_T67 l0 x3_1).f1), .int .i64 ((rd_T67 l0 x3_1).f2)] 67 (0, 0))) := ⟨bq0_ BK511⟩
    have n1_ : Aside0 (Below w.heap.size w (((w29.setCell ⟨gb511, 0, none⟩ (.int .i64 ((rd_T67 l0 x3_1).f0))).setCell ⟨gb511, 1, none⟩ (.int .i64 ((rd_T67 l0 x3_1).f1))).setCell ⟨gb511, 2, none⟩ (.int .i64 ((rd_T67 l0 x3_1).f2)))) := ⟨hb1_ HB GE511⟩; (try clear BK511); (try clear HB)
    generalize (((w29.setCell ⟨gb511, 0, none⟩ (.int .i64 ((rd_T67 l0 x3_1).f0))).setCell ⟨gb511, 1, none⟩ (.int .i64 ((rd_T67 l0 x3_1).f1))).setCell ⟨gb511, 2, none⟩ (.int .i64 ((rd_T67 l0 x3_1).f2))) = w31 at n0_ n1_ ⊢
    have BK511 := n0_; have HB := n1_; clear n0_ n1_; replace BK511 := Aside0.mk (blk_drew BK511.out); replace HB := Aside0.mk (below_drew1 HB.out)
    refine start_ (n := 41) (S := fun w' => w'.cell? ⟨gb511, 0, none⟩ = some (.int .i64 ((rd_T67 l0 x3_1).f0)) ∧ w'.cell? ⟨gb511, 1, none⟩ = some (.int .i64 ((rd_T67 l0 x3_1).f1)) ∧ w'.cell? ⟨gb511, 2, none⟩ = some (.int .i64 ((rd_T67 l0 x3_1).f2))) (ds := []) (mk 41 0) (by kernel_rfl) rfl rfl ⟨cl_ BK511 0, cl_ BK511 1, cl_ BK511 2⟩ (fun hHeld => ?_); refine with_tabW haberdashref10_tiers.tab5 haberdashref10_tiers.bits5 (fun HT_ HW_ => ?_)
    generalize w31.drew = w32 at BK511 HB hHeld ⊢
    refine pure_ (i := 0) (N := some 15) (v := ?_) (a' := ?_) (mk 41 1) rfl rfl (an_ HT_) nh_ (Or.inl ⟨ry_, ?_⟩) ?_ ?_
    rotate_left; (intro w'; go_simp; with_reducible rfl)
    rotate_left; (exact pu_)
    refine take_ (i := 1) (N := some 16) (v := ?_) (a' := ?_) (mk 41 3) rfl rfl (tw_ HT_ HW_) nh_ (Or.inl ⟨by rfl, ?_⟩) hHeld ?_ ?_
    rotate_left
    ·
     rintro w' ⟨s0, s1, s2⟩
     go_simp
     with_reducible rfl
    rotate_left; (exact pu_)
    refine one_ (i := 2) (N := some 17) (mk 41 7) rfl rfl (on_ HT_) de_ (fun K hK => ?_)
    refine goes_ Try.func52 (by kernel_rfl) rfl #[.int .i64 ((rd_T67 l0 x3_1).f0), .int .i64 10000000000000] (by rfl) rfl rfl am_ ?_
    with_reducible refine (haberdashref10_in.calls ((rd_T67 l0 x3_1).f0) 10000000000000 true _ A4.out).mono ?_
    rintro e w' ⟨rfl, ⟨nd, rfl⟩⟩
    refine ⟨_, rfl, ?_⟩
    refine hK.out _ _ ⟨cl_ BK511 0, cl_ BK511 1, cl_ BK511 2⟩ (fun hHeld => ?_)
    clear hK K
    refine norm_ pv_ ?_
    refine ahead_ [(3, 18), (4, 19), (5, 20)] ?_
    iterate 3 (refine pB_ HT_ ?_)
    refine aheadE_ (mk 41 63) kr_ ?_
    refine take_ (i := 6) (N := some 21) (v := ?_) (a' := ?_) (mk 41 127) rfl rfl (tw_ HT_ HW_) nh_ (Or.inl ⟨by rfl, ?_⟩) hHeld ?_ ?_
    rotate_left
    ·
     rintro w' ⟨s0, s1, s2⟩
     go_simp
     with_reducible rfl
    rotate_left; (exact pu_)
    refine one_ (i := 7) (N := some 22) (mk 41 255) rfl rfl (on_ HT_) de_ (fun K hK => ?_)
    refine goes_ Try.func52 (by kernel_rfl) rfl #[.int .i64 ((rd_T67 l0 x3_1).f1), .int .i64 10000] (by rfl) rfl rfl am_ ?_
    with_reducible refine (haberdashref10_in.calls ((rd_T67 l0 x3_1).f1) 10000 true _ A6.out).mono ?_
    rintro e w' ⟨rfl, ⟨nd, rfl⟩⟩
    refine ⟨_, rfl, ?_⟩
    refine hK.out _ _ ⟨cl_ BK511 0, cl_ BK511 1, cl_ BK511 2⟩ (fun hHeld => ?_)
    clear hK K
    refine norm_ pv_ ?_
    refine ahead_ [(8, 23), (9, 24), (10, 25), (11, 26)] ?_
    iterate 4 (refine pB_ HT_ ?_)
    refine aheadE_ (mk 41 4095) kr_ ?_
    refine take_ (i := 12) (N := some 27) (v := ?_) (a' := ?_) (mk 41 8191) rfl rfl (tw_ HT_ HW_) nh_ (Or.inl ⟨by rfl, ?_⟩) hHeld ?_ ?_
    rotate_left
    ·
     rintro w' ⟨s0, s1, s2⟩
     go_simp
     with_reducible rfl
    rotate_left; (exact pu_)
    refine one_ (i := 13) (N := some 28) (mk 41 16383) rfl rfl (on_ HT_) de_ (fun K hK => ?_)
    refine goes_ Try.func52 (by kernel_rfl) rfl #[.int .i64 ((rd_T67 l0 x3_1).f2), .int .i64 10000000000000] (by rfl) rfl rfl am_ ?_
    with_reducible refine (haberdashref10_in.calls ((rd_T67 l0 x3_1).f2) 10000000000000 true _ A8.out).mono ?_
    rintro e w' ⟨rfl, ⟨nd, rfl⟩⟩
    refine ⟨_, rfl, ?_⟩
    refine hK.out _ _ ⟨cl_ BK511 0, cl_ BK511 1, cl_ BK511 2⟩ (fun hHeld => ?_)
    clear hK K
    refine norm_ pv_ ?_
    refine ahead_ [(14, 29), (15, 30), (16, 31), (17, 32)] ?_
    iterate 4 (refine pB_ HT_ ?_)
    refine aheadE_ (mk 41 262143) kr_ ?_
    refine take_ (i := 18) (N := some 33) (v := ?_) (a' := ?_) (mk 41 524287) rfl rfl (tw_ HT_ HW_) nh_ (Or.inl ⟨by rfl, ?_⟩) hHeld ?_ ?_
    rotate_left
    ·
     rintro w' ⟨s0, s1, s2⟩
     go_simp
     with_reducible rfl
    rotate_left; (exact pu_)
    refine ahead_ [(19, 34), (20, 35), (21, 36)] ?_
    iterate 3 (refine pB_ HT_ ?_)
    refine aheadE_ (mk 41 4194303) kr_ ?_
    refine take_ (i := 22) (N := some 37) (v := ?_) (a' := ?_) (mk 41 8388607) rfl rfl (tw_ HT_ HW_) nh_ (Or.inl ⟨by rfl, ?_⟩) hHeld ?_ ?_
    rotate_left
    ·
     rintro w' ⟨s0, s1, s2⟩
     go_simp
     with_reducible rfl
    rotate_left; (exact pu_)
    refine ahead_ [(23, 38), (24, 39), (25, 40), (26, 41), (27, 42), (28, 43), (29, 44)] ?_
    iterate 7 (refine pB_ HT_ ?_)
    refine aheadE_ (mk 41 1073741823) kr_ ?_
    refine ahead_ [(30, 45), (31, 46), (32, 47), (33, 48), (34, 49), (35, 50), (36, 51), (37, 52), (38, 53)] ?_
    iterate 9 (refine pA_ (v := undef) (a' := ?_) rfl rfl HT_.out kr_ nh_ ru_ ?_ ?_; rotate_left; (exact pu_))
    refine aheadE_ (mk 41 549755813887) kr_ ?_
    refine ahead_ [(39, 54), (40, 55)] ?_
    iterate 2 (refine pB_ HT_ ?_)
    refine aheadE_ (mk 41 2199023255551) kr_ ?_
    refine done_ (done_of HT_.out (by kernel_rfl)) ?_
    try go_wp2
    go_roundg k1
    case measure => have := HK1.out; omega
    case rel => exact ⟨(wrap64 (x3_1 + 1)), rf_, H', ⟨ho_ HK1⟩, ⟨hb1_ HB GE511⟩⟩
   rw [if_pos c16] at H; have c16b0 := decide_eq_true c16; clear c16; obtain ⟨ji17, hji17⟩ : ∃ j_ : Int, (wrap64 (x3_1 - 1)) = j_ := ⟨_, rfl⟩
   replace H : (if 0 ≤ (ji17) then (if (ji17) < (l0.length : Int) then (if ((rd_T67 l0 x3_1).f0) ≤ ((rd_T67 l0 (ji17)).f0) then (some false) else (haberdashref10_tiers.l0 k1 l0 (wrap64 (x3_1 + 1)))) else (none)) else (none)) = some r := by first | (rw [hji17] at H; exact H) | (simp only [hji17] at H ⊢; exact H)
   (try rw [hji17] at A4)
   (try rw [hji17] at A6)
   (try rw [hji17] at A8)
   have hji17w : (IntKind.i64.wrap (x3_1 - 1)) = ji17 := (i64_w _).trans hji17; replace H := ip_ H; obtain ⟨c18, H⟩ := H; have c18b0 := decide_eq_true c18; clear c18; replace H := ip_ H; obtain ⟨c19, H⟩ := H; have c19b0 := decide_eq_true c19; clear c19
   by_cases c20 : ((rd_T67 l0 x3_1).f0) ≤ ((rd_T67 l0 (ji17)).f0)
   ·
    rw [if_pos c20] at H; have c20b0 := decide_eq_true c20; clear c20; obtain rfl := Option.some.inj H; have p510 : 0 ≤ (x3_1 : Int) := of_decide_eq_true as_; have q510 : x3_1 < (l0.length : Int) := of_decide_eq_true as_; obtain ⟨ad510, e510, hx510_0, hx510_1, hx510_2⟩ := at_T67 HR0.out x3_1 p510 q510
    cases e510; replace hx510_0 := hd_ HB hx510_0; replace hx510_1 := hd_ HB hx510_1; replace hx510_2 := hd_ HB hx510_2; replace p510 := eq_true p510; replace q510 := eq_true q510
    try go_wp2_with (first | ((with_reducible refine gate_dst (N := 4) rfl ?_); (try (refine gate_guard (by rfl) ?_; dsimp only)); refine box_event rf_ (N := 4) rf_ (cs := #[.int .i64 0, .int .i64 0, .int .i64 0]) (t := 67) lr_ ?_; intro gb511 hg w21 hbox hb; have BK511 := Aside0.mk hbox; have GE511 := Aside0.mk (ge_ HB hg (hb0_ HB)); replace HB := Aside0.mk (below_step (hb0_ HB) hb); clear hb hbox hg; obtain ⟨hcz22_0, hcz22_1, hcz22_2⟩ := cz3_ BK511; obtain ⟨hfz22_0, hfz22_1, hfz22_2⟩ := fz3_ BK511))
    have n0_ : Aside0 ((((w21.setCell ⟨gb511, 0, none⟩ (.int .i64 ((rd_T67 l0 x3_1).f0))).setCell ⟨gb511, 1, none⟩ (.int .i64 ((rd_T67 l0 x3_1).f1))).setCell ⟨gb511, 2, none⟩ (.int .i64 ((rd_T67 l0 x3_1).f2))).heap[gb511]? = some (.cells #[.int .i64 ((rd_T67 l0 x3_1).f0), .int .i64 ((rd_T67 l0 x3_1).f1), .int .i64 ((rd_T67 l0 x3_1).f2)] 67 (0, 0))) := ⟨bq0_ BK511⟩
    have n1_ : Aside0 (Below w.heap.size w (((w21.setCell ⟨gb511, 0, none⟩ (.int .i64 ((rd_T67 l0 x3_1).f0))).setCell ⟨gb511, 1, none⟩ (.int .i64 ((rd_T67 l0 x3_1).f1))).setCell ⟨gb511, 2, none⟩ (.int .i64 ((rd_T67 l0 x3_1).f2)))) := ⟨hb1_ HB GE511⟩; (try clear BK511); (try clear HB)
    generalize (((w21.setCell ⟨gb511, 0, none⟩ (.int .i64 ((rd_T67 l0 x3_1).f0))).setCell ⟨gb511, 1, none⟩ (.int .i64 ((rd_T67 l0 x3_1).f1))).setCell ⟨gb511, 2, none⟩ (.int .i64 ((rd_T67 l0 x3_1).f2))) = w23 at n0_ n1_ ⊢
    have BK511 := n0_; have HB := n1_; clear n0_ n1_; replace BK511 := Aside0.mk (blk_drew BK511.out); replace HB := Aside0.mk (below_drew1 HB.out); have p515 : 0 ≤ ((ji17) : Int) := of_decide_eq_true as_; have q515 : (ji17) < (l0.length : Int) := of_decide_eq_true as_; obtain ⟨ad515, e515, hx515_0, hx515_1, hx515_2⟩ := at_T67 HR0.out (ji17) p515 q515
    have hw515_2 := hx515_2; have hw515_1 := hx515_1; have hw515_0 := hx515_0
    obtain rfl : ad510 = ad515 := (by injection e515)
    replace hx515_0 := hd_ HB hx515_0; replace hx515_1 := hd_ HB hx515_1; replace hx515_2 := hd_ HB hx515_2; replace p515 := eq_true p515; replace q515 := eq_true q515
    refine start_ (n := 41) (S := fun w' => w'.cell? ⟨gb511, 0, none⟩ = some (.int .i64 ((rd_T67 l0 x3_1).f0)) ∧ w'.cell? ⟨gb511, 1, none⟩ = some (.int .i64 ((rd_T67 l0 x3_1).f1)) ∧ w'.cell? ⟨gb511, 2, none⟩ = some (.int .i64 ((rd_T67 l0 x3_1).f2)) ∧ w'.cell? (ad510.add (((ji17)).toNat * 3)) = some (.int .i64 ((rd_T67 l0 (ji17)).f0)) ∧ w'.cell? ⟨(ad510.add (((ji17)).toNat * 3)).block, (ad510.add (((ji17)).toNat * 3)).off + 1, none⟩ = some (.int .i64 ((rd_T67 l0 (ji17)).f1)) ∧ w'.cell? ⟨(ad510.add (((ji17)).toNat * 3)).block, (ad510.add (((ji17)).toNat * 3)).off + 2, none⟩ = some (.int .i64 ((rd_T67 l0 (ji17)).f2))) (ds := []) (mk 41 0) (by kernel_rfl) rfl rfl ⟨cl_ BK511 0, cl_ BK511 1, cl_ BK511 2, (hc_ HB hw515_0), (hc_ HB hw515_1), (hc_ HB hw515_2)⟩ (fun hHeld => ?_); refine with_tabW haberdashref10_tiers.tab5 haberdashref10_tiers.bits5 (fun HT_ HW_ => ?_)
    generalize w23.drew = w24 at BK511 HB hx515_0 hx515_1 hx515_2 hHeld ⊢
    refine pure_ (i := 0) (N := some 15) (v := ?_) (a' := ?_) (mk 41 1) rfl rfl (an_ HT_) nh_ (Or.inl ⟨ry_, ?_⟩) ?_ ?_
    rotate_left; (intro w'; go_simp; with_reducible rfl)
    rotate_left; (exact pu_)
    refine take_ (i := 1) (N := some 16) (v := ?_) (a' := ?_) (mk 41 3) rfl rfl (tw_ HT_ HW_) nh_ (Or.inl ⟨by rfl, ?_⟩) hHeld ?_ ?_
    rotate_left
    ·
     rintro w' ⟨s0, s1, s2, s3, s4, s5⟩
     go_simp
     with_reducible rfl
    rotate_left; (exact pu_)
    refine one_ (i := 2) (N := some 17) (mk 41 7) rfl rfl (on_ HT_) de_ (fun K hK => ?_)
    refine goes_ Try.func52 (by kernel_rfl) rfl #[.int .i64 ((rd_T67 l0 x3_1).f0), .int .i64 10000000000000] (by rfl) rfl rfl am_ ?_
    with_reducible refine (haberdashref10_in.calls ((rd_T67 l0 x3_1).f0) 10000000000000 true _ A4.out).mono ?_
    rintro e w' ⟨rfl, ⟨nd, rfl⟩⟩
    refine ⟨_, rfl, ?_⟩
    refine hK.out _ _ ⟨cl_ BK511 0, cl_ BK511 1, cl_ BK511 2, (hc_ HB hw515_0), (hc_ HB hw515_1), (hc_ HB hw515_2)⟩ (fun hHeld => ?_)
    clear hK K
    refine norm_ pv_ ?_
    refine ahead_ [(3, 18), (4, 19), (5, 20)] ?_
    iterate 3 (refine pB_ HT_ ?_)
    refine aheadE_ (mk 41 63) kr_ ?_
    refine take_ (i := 6) (N := some 21) (v := ?_) (a' := ?_) (mk 41 127) rfl rfl (tw_ HT_ HW_) nh_ (Or.inl ⟨by rfl, ?_⟩) hHeld ?_ ?_
    rotate_left
    ·
     rintro w' ⟨s0, s1, s2, s3, s4, s5⟩
     go_simp
     with_reducible rfl
    rotate_left; (exact pu_)
    refine one_ (i := 7) (N := some 22) (mk 41 255) rfl rfl (on_ HT_) de_ (fun K hK => ?_)
    refine goes_ Try.func52 (by kernel_rfl) rfl #[.int .i64 ((rd_T67 l0 x3_1).f1), .int .i64 10000] (by rfl) rfl rfl am_ ?_
    with_reducible refine (haberdashref10_in.calls ((rd_T67 l0 x3_1).f1) 10000 true _ A6.out).mono ?_
    rintro e w' ⟨rfl, ⟨nd, rfl⟩⟩
    refine ⟨_, rfl, ?_⟩
    refine hK.out _ _ ⟨cl_ BK511 0, cl_ BK511 1, cl_ BK511 2, (hc_ HB hw515_0), (hc_ HB hw515_1), (hc_ HB hw515_2)⟩ (fun hHeld => ?_)
    clear hK K
    refine norm_ pv_ ?_
    refine ahead_ [(8, 23), (9, 24), (10, 25), (11, 26)] ?_
    iterate 4 (refine pB_ HT_ ?_)
    refine aheadE_ (mk 41 4095) kr_ ?_
    refine take_ (i := 12) (N := some 27) (v := ?_) (a' := ?_) (mk 41 8191) rfl rfl (tw_ HT_ HW_) nh_ (Or.inl ⟨by rfl, ?_⟩) hHeld ?_ ?_
    rotate_left
    ·
     rintro w' ⟨s0, s1, s2, s3, s4, s5⟩
     go_simp
     with_reducible rfl
    rotate_left; (exact pu_)
    refine one_ (i := 13) (N := some 28) (mk 41 16383) rfl rfl (on_ HT_) de_ (fun K hK => ?_)
    refine goes_ Try.func52 (by kernel_rfl) rfl #[.int .i64 ((rd_T67 l0 x3_1).f2), .int .i64 10000000000000] (by rfl) rfl rfl am_ ?_
    with_reducible refine (haberdashref10_in.calls ((rd_T67 l0 x3_1).f2) 10000000000000 true _ A8.out).mono ?_
    rintro e w' ⟨rfl, ⟨nd, rfl⟩⟩
    refine ⟨_, rfl, ?_⟩
    refine hK.out _ _ ⟨cl_ BK511 0, cl_ BK511 1, cl_ BK511 2, (hc_ HB hw515_0), (hc_ HB hw515_1), (hc_ HB hw515_2)⟩ (fun hHeld => ?_)
    clear hK K
    refine norm_ pv_ ?_
    refine ahead_ [(14, 29), (15, 30), (16, 31), (17, 32)] ?_
    iterate 4 (refine pB_ HT_ ?_)
    refine aheadE_ (mk 41 262143) kr_ ?_
    refine take_ (i := 18) (N := some 33) (v := ?_) (a' := ?_) (mk 41 524287) rfl rfl (tw_ HT_ HW_) nh_ (Or.inl ⟨by rfl, ?_⟩) hHeld ?_ ?_
    rotate_left
    ·
     rintro w' ⟨s0, s1, s2, s3, s4, s5⟩
     go_simp
     with_reducible rfl
    rotate_left; (exact pu_)
    refine ahead_ [(19, 34), (20, 35), (21, 36)] ?_
    iterate 3 (refine pB_ HT_ ?_)
    refine aheadE_ (mk 41 4194303) kr_ ?_
    refine take_ (i := 22) (N := some 37) (v := ?_) (a' := ?_) (mk 41 8388607) rfl rfl (tw_ HT_ HW_) nh_ (Or.inl ⟨by rfl, ?_⟩) hHeld ?_ ?_
    rotate_left
    ·
     rintro w' ⟨s0, s1, s2, s3, s4, s5⟩
     go_simp
     with_reducible rfl
    rotate_left; (exact pu_)
    refine ahead_ [(23, 38), (24, 39), (25, 40), (26, 41), (27, 42), (28, 43), (29, 44), (30, 45), (32, 47), (33, 48), (34, 49), (35, 50), (36, 51)] ?_
    iterate 13 (refine pB_ HT_ ?_)
    refine aheadE_ (mk 41 135291469823) kr_ ?_
    refine ahead_ [(31, 46), (37, 52)] ?_
    iterate 2 (refine tA_ (v := ?_) (a' := ?_) rfl rfl HT_.out HW_.out (by kernel_rfl) (fun _ _ _ h => h) (Or.inl ⟨by rfl, ?_⟩) hHeld ?_ ?_; rotate_left; (rintro w' ⟨s0, s1, s2, s3, s4, s5⟩; go_simp; with_reducible rfl); rotate_left; (exact pu_))
    refine aheadE_ (mk 41 274877906943) kr_ ?_
    refine ahead_ [(38, 53), (39, 54), (40, 55)] ?_
    iterate 3 (refine pB_ HT_ ?_)
    refine aheadE_ (mk 41 2199023255551) kr_ ?_
    refine done_ (done_of HT_.out (by kernel_rfl)) ?_
    try go_wp2
    go_ret
    exact ⟨by first | rfl | (simp [errW_none, errW_some] <;> rfl) | (simp only [← hji17]; first | rfl | (simp [errW_none, errW_some] <;> rfl)) | (simp [*, errW_none, errW_some] <;> rfl), hb1_ HB GE511⟩
   rw [if_neg c20] at H; have c20b0 := decide_eq_false c20; clear c20; have H' := Aside0.mk H; clear H; have p510 : 0 ≤ (x3_1 : Int) := of_decide_eq_true as_; have q510 : x3_1 < (l0.length : Int) := of_decide_eq_true as_; obtain ⟨ad510, e510, hx510_0, hx510_1, hx510_2⟩ := at_T67 HR0.out x3_1 p510 q510
   cases e510; replace hx510_0 := hd_ HB hx510_0; replace hx510_1 := hd_ HB hx510_1; replace hx510_2 := hd_ HB hx510_2; replace p510 := eq_true p510; replace q510 := eq_true q510
   try go_wp2_with (first | ((with_reducible refine gate_dst (N := 4) rfl ?_); (try (refine gate_guard (by rfl) ?_; dsimp only)); refine box_event rf_ (N := 4) rf_ (cs := #[.int .i64 0, .int .i64 0, .int .i64 0]) (t := 67) lr_ ?_; intro gb511 hg w25 hbox hb; have BK511 := Aside0.mk hbox; have GE511 := Aside0.mk (ge_ HB hg (hb0_ HB)); replace HB := Aside0.mk (below_step (hb0_ HB) hb); clear hb hbox hg; obtain ⟨hcz26_0, hcz26_1, hcz26_2⟩ := cz3_ BK511; obtain ⟨hfz26_0, hfz26_1, hfz26_2⟩ := fz3_ BK511))
   have n0_ : Aside0 ((((w25.setCell ⟨gb511, 0, none⟩ (.int .i64 ((rd_T67 l0 x3_1).f0))).setCell ⟨gb511, 1, none⟩ (.int .i64 ((rd_T67 l0 x3_1).f1))).setCell ⟨gb511, 2, none⟩ (.int .i64 ((rd_T67 l0 x3_1).f2))).heap[gb511]? = some (.cells #[.int .i64 ((rd_T67 l0 x3_1).f0), .int .i64 ((rd_T67 l0 x3_1).f1), .int .i64 ((rd_T67 l0 x3_1).f2)] 67 (0, 0))) := ⟨bq0_ BK511⟩
   have n1_ : Aside0 (Below w.heap.size w (((w25.setCell ⟨gb511, 0, none⟩ (.int .i64 ((rd_T67 l0 x3_1).f0))).setCell ⟨gb511, 1, none⟩ (.int .i64 ((rd_T67 l0 x3_1).f1))).setCell ⟨gb511, 2, none⟩ (.int .i64 ((rd_T67 l0 x3_1).f2)))) := ⟨hb1_ HB GE511⟩; (try clear BK511); (try clear HB)
   generalize (((w25.setCell ⟨gb511, 0, none⟩ (.int .i64 ((rd_T67 l0 x3_1).f0))).setCell ⟨gb511, 1, none⟩ (.int .i64 ((rd_T67 l0 x3_1).f1))).setCell ⟨gb511, 2, none⟩ (.int .i64 ((rd_T67 l0 x3_1).f2))) = w27 at n0_ n1_ ⊢
   have BK511 := n0_; have HB := n1_; clear n0_ n1_; replace BK511 := Aside0.mk (blk_drew BK511.out); replace HB := Aside0.mk (below_drew1 HB.out); have p515 : 0 ≤ ((ji17) : Int) := of_decide_eq_true as_; have q515 : (ji17) < (l0.length : Int) := of_decide_eq_true as_; obtain ⟨ad515, e515, hx515_0, hx515_1, hx515_2⟩ := at_T67 HR0.out (ji17) p515 q515
   have hw515_2 := hx515_2; have hw515_1 := hx515_1; have hw515_0 := hx515_0
   obtain rfl : ad510 = ad515 := (by injection e515)
   replace hx515_0 := hd_ HB hx515_0; replace hx515_1 := hd_ HB hx515_1; replace hx515_2 := hd_ HB hx515_2; replace p515 := eq_true p515; replace q515 := eq_true q515
   refine start_ (n := 41) (S := fun w' => w'.cell? ⟨gb511, 0, none⟩ = some (.int .i64 ((rd_T67 l0 x3_1).f0)) ∧ w'.cell? ⟨gb511, 1, none⟩ = some (.int .i64 ((rd_T67 l0 x3_1).f1)) ∧ w'.cell? ⟨gb511, 2, none⟩ = some (.int .i64 ((rd_T67 l0 x3_1).f2)) ∧ w'.cell? (ad510.add (((ji17)).toNat * 3)) = some (.int .i64 ((rd_T67 l0 (ji17)).f0)) ∧ w'.cell? ⟨(ad510.add (((ji17)).toNat * 3)).block, (ad510.add (((ji17)).toNat * 3)).off + 1, none⟩ = some (.int .i64 ((rd_T67 l0 (ji17)).f1)) ∧ w'.cell? ⟨(ad510.add (((ji17)).toNat * 3)).block, (ad510.add (((ji17)).toNat * 3)).off + 2, none⟩ = some (.int .i64 ((rd_T67 l0 (ji17)).f2))) (ds := []) (mk 41 0) (by kernel_rfl) rfl rfl ⟨cl_ BK511 0, cl_ BK511 1, cl_ BK511 2, (hc_ HB hw515_0), (hc_ HB hw515_1), (hc_ HB hw515_2)⟩ (fun hHeld => ?_); refine with_tabW haberdashref10_tiers.tab5 haberdashref10_tiers.bits5 (fun HT_ HW_ => ?_)
   generalize w27.drew = w28 at BK511 HB hx515_0 hx515_1 hx515_2 hHeld ⊢
   refine pure_ (i := 0) (N := some 15) (v := ?_) (a' := ?_) (mk 41 1) rfl rfl (an_ HT_) nh_ (Or.inl ⟨ry_, ?_⟩) ?_ ?_
   rotate_left; (intro w'; go_simp; with_reducible rfl)
   rotate_left; (exact pu_)
   refine take_ (i := 1) (N := some 16) (v := ?_) (a' := ?_) (mk 41 3) rfl rfl (tw_ HT_ HW_) nh_ (Or.inl ⟨by rfl, ?_⟩) hHeld ?_ ?_
   rotate_left
   ·
    rintro w' ⟨s0, s1, s2, s3, s4, s5⟩
    go_simp
    with_reducible rfl
   rotate_left; (exact pu_)
   refine one_ (i := 2) (N := some 17) (mk 41 7) rfl rfl (on_ HT_) de_ (fun K hK => ?_)
   refine goes_ Try.func52 (by kernel_rfl) rfl #[.int .i64 ((rd_T67 l0 x3_1).f0), .int .i64 10000000000000] (by rfl) rfl rfl am_ ?_
   with_reducible refine (haberdashref10_in.calls ((rd_T67 l0 x3_1).f0) 10000000000000 true _ A4.out).mono ?_
   rintro e w' ⟨rfl, ⟨nd, rfl⟩⟩
   refine ⟨_, rfl, ?_⟩
   refine hK.out _ _ ⟨cl_ BK511 0, cl_ BK511 1, cl_ BK511 2, (hc_ HB hw515_0), (hc_ HB hw515_1), (hc_ HB hw515_2)⟩ (fun hHeld => ?_)
   clear hK K
   refine norm_ pv_ ?_
   refine ahead_ [(3, 18), (4, 19), (5, 20)] ?_
   iterate 3 (refine pB_ HT_ ?_)
   refine aheadE_ (mk 41 63) kr_ ?_
   refine take_ (i := 6) (N := some 21) (v := ?_) (a' := ?_) (mk 41 127) rfl rfl (tw_ HT_ HW_) nh_ (Or.inl ⟨by rfl, ?_⟩) hHeld ?_ ?_
   rotate_left
   ·
    rintro w' ⟨s0, s1, s2, s3, s4, s5⟩
    go_simp
    with_reducible rfl
   rotate_left; (exact pu_)
   refine one_ (i := 7) (N := some 22) (mk 41 255) rfl rfl (on_ HT_) de_ (fun K hK => ?_)
   refine goes_ Try.func52 (by kernel_rfl) rfl #[.int .i64 ((rd_T67 l0 x3_1).f1), .int .i64 10000] (by rfl) rfl rfl am_ ?_
   with_reducible refine (haberdashref10_in.calls ((rd_T67 l0 x3_1).f1) 10000 true _ A6.out).mono ?_
   rintro e w' ⟨rfl, ⟨nd, rfl⟩⟩
   refine ⟨_, rfl, ?_⟩
   refine hK.out _ _ ⟨cl_ BK511 0, cl_ BK511 1, cl_ BK511 2, (hc_ HB hw515_0), (hc_ HB hw515_1), (hc_ HB hw515_2)⟩ (fun hHeld => ?_)
   clear hK K
   refine norm_ pv_ ?_
   refine ahead_ [(8, 23), (9, 24), (10, 25), (11, 26)] ?_
   iterate 4 (refine pB_ HT_ ?_)
   refine aheadE_ (mk 41 4095) kr_ ?_
   refine take_ (i := 12) (N := some 27) (v := ?_) (a' := ?_) (mk 41 8191) rfl rfl (tw_ HT_ HW_) nh_ (Or.inl ⟨by rfl, ?_⟩) hHeld ?_ ?_
   rotate_left
   ·
    rintro w' ⟨s0, s1, s2, s3, s4, s5⟩
    go_simp
    with_reducible rfl
   rotate_left; (exact pu_)
   refine one_ (i := 13) (N := some 28) (mk 41 16383) rfl rfl (on_ HT_) de_ (fun K hK => ?_)
   refine goes_ Try.func52 (by kernel_rfl) rfl #[.int .i64 ((rd_T67 l0 x3_1).f2), .int .i64 10000000000000] (by rfl) rfl rfl am_ ?_
   with_reducible refine (haberdashref10_in.calls ((rd_T67 l0 x3_1).f2) 10000000000000 true _ A8.out).mono ?_
   rintro e w' ⟨rfl, ⟨nd, rfl⟩⟩
   refine ⟨_, rfl, ?_⟩
   refine hK.out _ _ ⟨cl_ BK511 0, cl_ BK511 1, cl_ BK511 2, (hc_ HB hw515_0), (hc_ HB hw515_1), (hc_ HB hw515_2)⟩ (fun hHeld => ?_)
   clear hK K
   refine norm_ pv_ ?_
   refine ahead_ [(14, 29), (15, 30), (16, 31), (17, 32)] ?_
   iterate 4 (refine pB_ HT_ ?_)
   refine aheadE_ (mk 41 262143) kr_ ?_
   refine take_ (i := 18) (N := some 33) (v := ?_) (a' := ?_) (mk 41 524287) rfl rfl (tw_ HT_ HW_) nh_ (Or.inl ⟨by rfl, ?_⟩) hHeld ?_ ?_
   rotate_left
   ·
    rintro w' ⟨s0, s1, s2, s3, s4, s5⟩
    go_simp
    with_reducible rfl
   rotate_left; (exact pu_)
   refine ahead_ [(19, 34), (20, 35), (21, 36)] ?_
   iterate 3 (refine pB_ HT_ ?_)
   refine aheadE_ (mk 41 4194303) kr_ ?_
   refine take_ (i := 22) (N := some 37) (v := ?_) (a' := ?_) (mk 41 8388607) rfl rfl (tw_ HT_ HW_) nh_ (Or.inl ⟨by rfl, ?_⟩) hHeld ?_ ?_
   rotate_left
   ·
    rintro w' ⟨s0, s1, s2, s3, s4, s5⟩
    go_simp
    with_reducible rfl
   rotate_left; (exact pu_)
   refine ahead_ [(23, 38), (24, 39), (25, 40), (26, 41), (27, 42), (28, 43), (29, 44), (30, 45), (32, 47), (33, 48), (34, 49), (35, 50), (36, 51)] ?_
   iterate 13 (refine pB_ HT_ ?_)
   refine aheadE_ (mk 41 135291469823) kr_ ?_
   refine ahead_ [(31, 46), (37, 52)] ?_
   iterate 2 (refine tA_ (v := ?_) (a' := ?_) rfl rfl HT_.out HW_.out (by kernel_rfl) (fun _ _ _ h => h) (Or.inl ⟨by rfl, ?_⟩) hHeld ?_ ?_; rotate_left; (rintro w' ⟨s0, s1, s2, s3, s4, s5⟩; go_simp; with_reducible rfl); rotate_left; (exact pu_))
   refine aheadE_ (mk 41 274877906943) kr_ ?_
   refine ahead_ [(38, 53), (39, 54), (40, 55)] ?_
   iterate 3 (refine pB_ HT_ ?_)
   refine aheadE_ (mk 41 2199023255551) kr_ ?_
   refine done_ (done_of HT_.out (by kernel_rfl)) ?_
   try go_wp2
   go_roundg k1
   case measure => have := HK1.out; omega
   case rel => exact ⟨(wrap64 (x3_1 + 1)), rf_, H', ⟨ho_ HK1⟩, ⟨hb1_ HB GE511⟩⟩

end Go.Proofs.Ytdmeepjefccpgaa.Rw
end
section
/- Functions of the program as Lean functions, each with its contract: out of what the kit's printer wrote for this seat. -/
namespace Go.Proofs.Ytdmeepjefccpgaa.Rw
open Go.RowKit Go.Proofs.YtdmeepjefccpgaaW.PrintWords Go.Proofs.YtdmeepjefccpgaaW.PrintLast Go.Proofs.YtdmeepjefccpgaaW.PrintMore
attribute [local go_sem] max2_int min2_int max_two min_two max_three min_three max_four min_four   -- for this text's walks alone
set_option linter.unusedVariables false
set_option linter.unusedSimpArgs false
attribute [local go_sem high] leqS gtrS

/-! ### haberdashref10_names: function 91 -/
def haberdashref10_names.l0 : Nat → List ByteArray → Int → Int → Option (Bool)
 | 0, _, _, _ => none
 | k + 1, x0, x1, x5 => if x5 < (x0.length : Int) then (if 0 ≤ x5 then ((haberdashref10_Name.f k (rdOf ByteArray.empty x0 x5)).bind fun t500 => (if t500 = true then (if x5 > 0 then (if 0 ≤ (wrap64 (x5 - 1)) then (if (wrap64 (x5 - 1)) < (x0.length : Int) then (if ((Op.bytesLess ((rdOf ByteArray.empty x0 (wrap64 (x5 - 1))).toList) ((rdOf ByteArray.empty x0 x5).toList)) = true) then (haberdashref10_names.l0 k x0 x1 (wrap64 (x5 + 1))) else (some false)) else (none)) else (none)) else (haberdashref10_names.l0 k x0 x1 (wrap64 (x5 + 1)))) else (some false))) else (none)) else (some (decide ((x0.length : Int) ≤ x1)))
def haberdashref10_names.f (k : Nat) (l0 : List ByteArray) (a1 : Int) : Option (Bool) := haberdashref10_names.l0 k l0 a1 0
set_option maxHeartbeats 8000000 in
set_option maxRecDepth 100000 in
theorem haberdashref10_names.calls (k : Nat) (A0 : Option Addr) (c0 : Nat) (l0 : List ByteArray) (a1 : Int) (r : Bool) (w : World) (hr0 : Kd.C Kd.string w A0 l0.length l0) (hc0 : l0.length ≤ c0) (h : haberdashref10_names.f k l0 a1 = some r) :
 Calls Try.prog 91 #[.slice A0 l0.length c0, .int .i64 a1] w fun e w' => e = .returned (.bool r) ∧ Drawn0 w w' := by
 have HR0 := Aside0.mk hr0
 have HC0 := Aside0.mk hc0
 clear hr0 hc0
 have H : (haberdashref10_names.l0 k l0 a1 0) = some r := h
 clear h
 have H' := Aside0.mk H
 clear H
 go_enter Try.func91, Try.ntmps91
 go_wp2
 repeat (go_quiet (fail); try go_wp2)
 go_loopg [5] k (fun kq v5 w' => ∃ (x5_1 : Int), v5 = .int .i64 x5_1 ∧ Aside0 (haberdashref10_names.l0 kq l0 a1 x5_1 = some r) ∧ Aside0 (kq ≤ k) ∧ Drawn0 w w')
 case atStart => exact ⟨(0), rf_, H', ⟨Nat.le_refl _⟩, dr_⟩
 case round =>
  clear H'; (try clear p2); obtain ⟨x5_1, rfl, HA, HK1, ⟨m1, rfl⟩⟩ := hrel
  cases gk with
  | zero => exact absurd HA.out (by simp [haberdashref10_names.l0])
  | succ k1 =>
   have H := HA.out; clear HA
   simp only [haberdashref10_names.l0] at H
   by_cases c3 : x5_1 < (l0.length : Int)
   rotate_left
   ·
    rw [if_neg c3] at H; have c3b0 := decide_eq_false c3; clear c3; obtain rfl := Option.some.inj H
    go_wp2
    repeat (go_quiet (fail); try go_wp2)
    go_ret
    exact ⟨rf_, dr_⟩
   rw [if_pos c3] at H; have c3b0 := decide_eq_true c3; clear c3; replace H := ip_ H; obtain ⟨c4, H⟩ := H; have c4b0 := decide_eq_true c4; clear c4; replace H := Option.bind_eq_some_iff.mp H; obtain ⟨t500, A50, H⟩ := H
   (try dsimp only at H)
   have A5 := Aside0.mk A50; clear A50
   by_cases c6 : t500 = true
   rotate_left
   ·
    replace c6 := Bool.eq_false_iff.mpr c6; subst c6; rw [if_neg nf_] at H; obtain rfl := Option.some.inj H; have p499 : 0 ≤ (x5_1 : Int) := of_decide_eq_true as_; have q499 : x5_1 < (l0.length : Int) := of_decide_eq_true as_; obtain ⟨ad499, e499, hx499_0⟩ := Kd.at_string HR0.out x5_1 p499 q499; cases e499
    replace p499 := eq_true p499; replace q499 := eq_true q499
    go_wp2_with (first | (go_at_call 56; (with_reducible refine (haberdashref10_Name.calls k1 (rdOf ByteArray.empty l0 x5_1) false _ A5.out).mono ?_); rintro e w' ⟨rfl, ⟨nd, rfl⟩⟩; (try exact dq_)))
    repeat (go_quiet (first | (go_at_call 56; (with_reducible refine (haberdashref10_Name.calls k1 (rdOf ByteArray.empty l0 x5_1) false _ A5.out).mono ?_); rintro e w' ⟨rfl, ⟨nd, rfl⟩⟩; (try exact dq_))); try go_wp2_with (first | (go_at_call 56; (with_reducible refine (haberdashref10_Name.calls k1 (rdOf ByteArray.empty l0 x5_1) false _ A5.out).mono ?_); rintro e w' ⟨rfl, ⟨nd, rfl⟩⟩; (try exact dq_))))
    go_ret
    exact ⟨rf_, dr_⟩
   subst c6; rw [if_pos rfl] at H
   by_cases c7 : x5_1 > 0
   rotate_left
   ·
    rw [if_neg c7] at H; have c7b0 := decide_eq_false c7; clear c7; have H' := Aside0.mk H; clear H; have p499 : 0 ≤ (x5_1 : Int) := of_decide_eq_true as_; have q499 : x5_1 < (l0.length : Int) := of_decide_eq_true as_; obtain ⟨ad499, e499, hx499_0⟩ := Kd.at_string HR0.out x5_1 p499 q499; cases e499; replace p499 := eq_true p499
    replace q499 := eq_true q499
    go_wp2_with (first | (go_at_call 56; (with_reducible refine (haberdashref10_Name.calls k1 (rdOf ByteArray.empty l0 x5_1) true _ A5.out).mono ?_); rintro e w' ⟨rfl, ⟨nd, rfl⟩⟩; (try exact dq_)))
    repeat (go_quiet (first | (go_at_call 56; (with_reducible refine (haberdashref10_Name.calls k1 (rdOf ByteArray.empty l0 x5_1) true _ A5.out).mono ?_); rintro e w' ⟨rfl, ⟨nd, rfl⟩⟩; (try exact dq_))); try go_wp2_with (first | (go_at_call 56; (with_reducible refine (haberdashref10_Name.calls k1 (rdOf ByteArray.empty l0 x5_1) true _ A5.out).mono ?_); rintro e w' ⟨rfl, ⟨nd, rfl⟩⟩; (try exact dq_))))
    go_roundg k1
    case measure => have := HK1.out; omega
    case rel => exact ⟨(wrap64 (x5_1 + 1)), rf_, H', ⟨ho_ HK1⟩, dr_⟩
   rw [if_pos c7] at H; have c7b0 := decide_eq_true c7; clear c7; obtain ⟨ji8, hji8⟩ : ∃ j_ : Int, (wrap64 (x5_1 - 1)) = j_ := ⟨_, rfl⟩
   replace H : (if 0 ≤ (ji8) then (if (ji8) < (l0.length : Int) then (if ((Op.bytesLess ((rdOf ByteArray.empty l0 (ji8)).toList) ((rdOf ByteArray.empty l0 x5_1).toList)) = true) then (haberdashref10_names.l0 k1 l0 a1 (wrap64 (x5_1 + 1))) else (some false)) else (none)) else (none)) = some r := by first | (rw [hji8] at H; exact H) | (simp only [hji8] at H ⊢; exact H)
   (try rw [hji8] at A5)
   have hji8w : (IntKind.i64.wrap (x5_1 - 1)) = ji8 := (i64_w _).trans hji8; replace H := ip_ H; obtain ⟨c9, H⟩ := H; have c9b0 := decide_eq_true c9; clear c9; replace H := ip_ H; obtain ⟨c10, H⟩ := H; have c10b0 := decide_eq_true c10; clear c10
   by_cases c11 : ((Op.bytesLess ((rdOf ByteArray.empty l0 (ji8)).toList) ((rdOf ByteArray.empty l0 x5_1).toList)) = true)
   rotate_left
   ·
    rw [if_neg c11] at H
    have c11b0 : (Op.bytesLess ((rdOf ByteArray.empty l0 (ji8)).toList) ((rdOf ByteArray.empty l0 x5_1).toList)) = false := by simpa using c11
    clear c11; obtain rfl := Option.some.inj H; have p499 : 0 ≤ (x5_1 : Int) := of_decide_eq_true as_; have q499 : x5_1 < (l0.length : Int) := of_decide_eq_true as_; obtain ⟨ad499, e499, hx499_0⟩ := Kd.at_string HR0.out x5_1 p499 q499; cases e499; replace p499 := eq_true p499; replace q499 := eq_true q499
    go_wp2_with (first | (go_at_call 56; (with_reducible refine (haberdashref10_Name.calls k1 (rdOf ByteArray.empty l0 x5_1) true _ A5.out).mono ?_); rintro e w' ⟨rfl, ⟨nd, rfl⟩⟩; (try exact dq_); have p501 : 0 ≤ (x5_1 : Int) := of_decide_eq_true as_; have q501 : x5_1 < (l0.length : Int) := of_decide_eq_true as_; obtain ⟨ad501, e501, hx501_0⟩ := Kd.at_string HR0.out x5_1 p501 q501; obtain rfl : ad499 = ad501 := (by injection e501); replace p501 := eq_true p501; replace q501 := eq_true q501; have p502 : 0 ≤ ((ji8) : Int) := of_decide_eq_true as_; have q502 : (ji8) < (l0.length : Int) := of_decide_eq_true as_; obtain ⟨ad502, e502, hx502_0⟩ := Kd.at_string HR0.out (ji8) p502 q502; obtain rfl : ad499 = ad502 := (by injection e502); replace p502 := eq_true p502; replace q502 := eq_true q502))
    repeat (go_quiet (first | (go_at_call 56; (with_reducible refine (haberdashref10_Name.calls k1 (rdOf ByteArray.empty l0 x5_1) true _ A5.out).mono ?_); rintro e w' ⟨rfl, ⟨nd, rfl⟩⟩; (try exact dq_); have p501 : 0 ≤ (x5_1 : Int) := of_decide_eq_true as_; have q501 : x5_1 < (l0.length : Int) := of_decide_eq_true as_; obtain ⟨ad501, e501, hx501_0⟩ := Kd.at_string HR0.out x5_1 p501 q501; obtain rfl : ad499 = ad501 := (by injection e501); replace p501 := eq_true p501; replace q501 := eq_true q501; have p502 : 0 ≤ ((ji8) : Int) := of_decide_eq_true as_; have q502 : (ji8) < (l0.length : Int) := of_decide_eq_true as_; obtain ⟨ad502, e502, hx502_0⟩ := Kd.at_string HR0.out (ji8) p502 q502; obtain rfl : ad499 = ad502 := (by injection e502); replace p502 := eq_true p502; replace q502 := eq_true q502)); try go_wp2_with (first | (go_at_call 56; (with_reducible refine (haberdashref10_Name.calls k1 (rdOf ByteArray.empty l0 x5_1) true _ A5.out).mono ?_); rintro e w' ⟨rfl, ⟨nd, rfl⟩⟩; (try exact dq_); have p501 : 0 ≤ (x5_1 : Int) := of_decide_eq_true as_; have q501 : x5_1 < (l0.length : Int) := of_decide_eq_true as_; obtain ⟨ad501, e501, hx501_0⟩ := Kd.at_string HR0.out x5_1 p501 q501; obtain rfl : ad499 = ad501 := (by injection e501); replace p501 := eq_true p501; replace q501 := eq_true q501; have p502 : 0 ≤ ((ji8) : Int) := of_decide_eq_true as_; have q502 : (ji8) < (l0.length : Int) := of_decide_eq_true as_; obtain ⟨ad502, e502, hx502_0⟩ := Kd.at_string HR0.out (ji8) p502 q502; obtain rfl : ad499 = ad502 := (by injection e502); replace p502 := eq_true p502; replace q502 := eq_true q502)))
    go_ret
    exact ⟨by first | rfl | (simp; done) | (simp only [← hji8] <;> (first | rfl | simp)) | (simp [*]; done), dr_⟩
   rw [if_pos c11] at H; have c11b0 : (Op.bytesLess ((rdOf ByteArray.empty l0 (ji8)).toList) ((rdOf ByteArray.empty l0 x5_1).toList)) = true := c11; clear c11; have H' := Aside0.mk H; clear H; have p499 : 0 ≤ (x5_1 : Int) := of_decide_eq_true as_; have q499 : x5_1 < (l0.length : Int) := of_decide_eq_true as_
   obtain ⟨ad499, e499, hx499_0⟩ := Kd.at_string HR0.out x5_1 p499 q499; cases e499; replace p499 := eq_true p499; replace q499 := eq_true q499
   go_wp2_with (first | (go_at_call 56; (with_reducible refine (haberdashref10_Name.calls k1 (rdOf ByteArray.empty l0 x5_1) true _ A5.out).mono ?_); rintro e w' ⟨rfl, ⟨nd, rfl⟩⟩; (try exact dq_); have p501 : 0 ≤ (x5_1 : Int) := of_decide_eq_true as_; have q501 : x5_1 < (l0.length : Int) := of_decide_eq_true as_; obtain ⟨ad501, e501, hx501_0⟩ := Kd.at_string HR0.out x5_1 p501 q501; obtain rfl : ad499 = ad501 := (by injection e501); replace p501 := eq_true p501; replace q501 := eq_true q501; have p502 : 0 ≤ ((ji8) : Int) := of_decide_eq_true as_; have q502 : (ji8) < (l0.length : Int) := of_decide_eq_true as_; obtain ⟨ad502, e502, hx502_0⟩ := Kd.at_string HR0.out (ji8) p502 q502; obtain rfl : ad499 = ad502 := (by injection e502); replace p502 := eq_true p502; replace q502 := eq_true q502))
   repeat (go_quiet (first | (go_at_call 56; (with_reducible refine (haberdashref10_Name.calls k1 (rdOf ByteArray.empty l0 x5_1) true _ A5.out).mono ?_); rintro e w' ⟨rfl, ⟨nd, rfl⟩⟩; (try exact dq_); have p501 : 0 ≤ (x5_1 : Int) := of_decide_eq_true as_; have q501 : x5_1 < (l0.length : Int) := of_decide_eq_true as_; obtain ⟨ad501, e501, hx501_0⟩ := Kd.at_string HR0.out x5_1 p501 q501; obtain rfl : ad499 = ad501 := (by injection e501); replace p501 := eq_true p501; replace q501 := eq_true q501; have p502 : 0 ≤ ((ji8) : Int) := of_decide_eq_true as_; have q502 : (ji8) < (l0.length : Int) := of_decide_eq_true as_; obtain ⟨ad502, e502, hx502_0⟩ := Kd.at_string HR0.out (ji8) p502 q502; obtain rfl : ad499 = ad502 := (by injection e502); replace p502 := eq_true p502; replace q502 := eq_true q502)); try go_wp2_with (first | (go_at_call 56; (with_reducible refine (haberdashref10_Name.calls k1 (rdOf ByteArray.empty l0 x5_1) true _ A5.out).mono ?_); rintro e w' ⟨rfl, ⟨nd, rfl⟩⟩; (try exact dq_); have p501 : 0 ≤ (x5_1 : Int) := of_decide_eq_true as_; have q501 : x5_1 < (l0.length : Int) := of_decide_eq_true as_; obtain ⟨ad501, e501, hx501_0⟩ := Kd.at_string HR0.out x5_1 p501 q501; obtain rfl : ad499 = ad501 := (by injection e501); replace p501 := eq_true p501; replace q501 := eq_true q501; have p502 : 0 ≤ ((ji8) : Int) := of_decide_eq_true as_; have q502 : (ji8) < (l0.length : Int) := of_decide_eq_true as_; obtain ⟨ad502, e502, hx502_0⟩ := Kd.at_string HR0.out (ji8) p502 q502; obtain rfl : ad499 = ad502 := (by injection e502); replace p502 := eq_true p502; replace q502 := eq_true q502)))
   go_roundg k1
   case measure => have := HK1.out; omega
   case rel => exact ⟨(wrap64 (x5_1 + 1)), rf_, H', ⟨ho_ HK1⟩, dr_⟩

/-! ### haberdashref10_Scope: function 72 -/
def haberdashref10_Scope.f (k : Nat) (l0_0 : List ByteArray) (l0_1 : List ByteArray) : Option (Bool) := (haberdashref10_names.f k l0_0 20).bind fun t504 => (if t504 = true then ((haberdashref10_names.f k l0_1 20).bind fun t505 => (some t505)) else (some false))
set_option maxHeartbeats 8000000 in
set_option maxRecDepth 100000 in
theorem haberdashref10_Scope.calls (k : Nat) (A0_0 : Option Addr) (c0_0 : Nat) (l0_0 : List ByteArray) (A0_1 : Option Addr) (c0_1 : Nat) (l0_1 : List ByteArray) (r : Bool) (w : World) (hr0_0 : Kd.C Kd.string w A0_0 l0_0.length l0_0) (hc0_0 : l0_0.length ≤ c0_0) (hr0_1 : Kd.C Kd.string w A0_1 l0_1.length l0_1) (hc0_1 : l0_1.length ≤ c0_1) (h : haberdashref10_Scope.f k l0_0 l0_1 = some r) :
 Calls Try.prog 72 #[.agg #[.slice A0_0 l0_0.length c0_0, .slice A0_1 l0_1.length c0_1]] w fun e w' => e = .returned (.bool r) ∧ Below w.heap.size w w' := by
 have hu56 := Try.underlying56
 have HR0_0 := Aside0.mk hr0_0
 have HC0_0 := Aside0.mk hc0_0
 clear hr0_0 hc0_0
 have HR0_1 := Aside0.mk hr0_1
 have HC0_1 := Aside0.mk hc0_1
 clear hr0_1 hc0_1
 have HB := Aside0.mk (Below.refl w.heap.size w)
 have H : ((haberdashref10_names.f k l0_0 20).bind fun t504 => (if t504 = true then ((haberdashref10_names.f k l0_1 20).bind fun t505 => (some t505)) else (some false))) = some r := h
 clear h
 replace H := Option.bind_eq_some_iff.mp H
 obtain ⟨t504, A20, H⟩ := H
 (try dsimp only at H)
 have A2 := Aside0.mk A20
 clear A20
 by_cases c3 : t504 = true
 rotate_left
 ·
  replace c3 := Bool.eq_false_iff.mpr c3; subst c3; rw [if_neg nf_] at H; obtain rfl := Option.some.inj H
  go_enter Try.func72, Try.ntmps72
  go_wp2_with (first | ((with_reducible refine gate_dst (N := 1) rfl ?_); refine box_event rf_ (N := 1) rf_ (cs := #[.slice A0_0 l0_0.length c0_0, .slice A0_1 l0_1.length c0_1]) (t := 56) lr_ ?_; intro gb503 hg w7 hbox hb; have BK503 := Aside0.mk hbox; have GE503 := Aside0.mk (ge_ HB hg (hb0_ HB)); replace HB := Aside0.mk (below_step (hb0_ HB) hb); clear hb hbox hg; obtain ⟨hcz8_0, hcz8_1⟩ := cz2_ BK503; obtain ⟨hfz8_0, hfz8_1⟩ := fz2_ BK503) | (refine gl_ 91 5 Try.func91 #[.slice A0_0 l0_0.length c0_0, .int .i64 20] ?_; (with_reducible refine (haberdashref10_names.calls k _ _ l0_0 20 false _ ?side1 ?side2 A2.out).mono ?_); (case side1 => exact sc_ (Kd.C_below HR0_0.out HB.out)); (case side2 => exact HC0_0.out); rintro e w' ⟨rfl, ⟨nd, rfl⟩⟩; refine ⟨_, rfl, ?_⟩))
  go_ret
  exact ⟨er_, hb1_ HB GE503⟩
 subst c3
 rw [if_pos rfl] at H
 replace H := Option.bind_eq_some_iff.mp H
 obtain ⟨t505, A40, H⟩ := H
 (try dsimp only at H)
 have A4 := Aside0.mk A40
 clear A40
 obtain rfl := Option.some.inj H
 go_enter Try.func72, Try.ntmps72
 go_wp2_with (first | ((with_reducible refine gate_dst (N := 1) rfl ?_); refine box_event rf_ (N := 1) rf_ (cs := #[.slice A0_0 l0_0.length c0_0, .slice A0_1 l0_1.length c0_1]) (t := 56) lr_ ?_; intro gb503 hg w5 hbox hb; have BK503 := Aside0.mk hbox; have GE503 := Aside0.mk (ge_ HB hg (hb0_ HB)); replace HB := Aside0.mk (below_step (hb0_ HB) hb); clear hb hbox hg; obtain ⟨hcz6_0, hcz6_1⟩ := cz2_ BK503; obtain ⟨hfz6_0, hfz6_1⟩ := fz2_ BK503) | (refine gl_ 91 5 Try.func91 #[.slice A0_0 l0_0.length c0_0, .int .i64 20] ?_; (with_reducible refine (haberdashref10_names.calls k _ _ l0_0 20 true _ ?side1 ?side2 A2.out).mono ?_); (case side1 => exact sc_ (Kd.C_below HR0_0.out HB.out)); (case side2 => exact HC0_0.out); rintro e w' ⟨rfl, ⟨nd, rfl⟩⟩; refine ⟨_, rfl, ?_⟩) | (go_at_call 91; (with_reducible refine (haberdashref10_names.calls k _ _ l0_1 20 t505 _ ?side1 ?side2 A4.out).mono ?_); (case side1 => exact (Kd.C_below HR0_1.out (hb1_ HB GE503))); (case side2 => exact HC0_1.out); rintro e w' ⟨rfl, ⟨nd, rfl⟩⟩))
 go_ret
 exact ⟨er_, hb1_ HB GE503⟩

/-! ### haberdashref10_has: function 84 -/
/-! ### haberdashref10_Codes: function 40 -/
end Go.Proofs.Ytdmeepjefccpgaa.Rw
end
