/- RwRef10r. -/
import Derived.Test.YtmiamdnhofjifaaVRwA
import Derived.Test.YtmiamdnhofjifaaVRwPTax
section
/- Functions of the program as Lean functions, each with its contract: out of what the kit's printer wrote for this seat. -/
namespace Go.Proofs.Ytmiamdnhofjifaa.Rw
open Go.RowKit Go.Proofs.YtmiamdnhofjifaaW.PrintWords Go.Proofs.YtmiamdnhofjifaaW.PrintLast Go.Proofs.YtmiamdnhofjifaaW.PrintMore
attribute [local go_sem] max2_int min2_int max_two min_two max_three min_three max_four min_four   -- for this text's walks alone
set_option linter.unusedVariables false
set_option linter.unusedSimpArgs false
attribute [local go_sem high] leqS gtrS

/-! ### haberdashref10_rates: function 46 -/
def haberdashref10_rates.l0 : Nat → Int → ByteArray → List (S56) → Int → Int → Option (Bool)
 | 0, _, _, _, _, _ => none
 | k + 1, x3, x287000, x287001, x287002, x287003 => if x3 < (x287001.length : Int) then (if 0 ≤ x3 then ((haberdashref10_Name.f k ((rd_T56 x287001 x3).f0)).bind fun t290 => (if t290 = true then ((haberdashref10_in.f ((rd_T56 x287001 x3).f1) 10000).bind fun t292 => (if t292 = true then (if x3 > 0 then (if 0 ≤ (wrap64 (x3 - 1)) then (if (wrap64 (x3 - 1)) < (x287001.length : Int) then (if ((Op.bytesLess (((rd_T56 x287001 (wrap64 (x3 - 1))).f0).toList) (((rd_T56 x287001 x3).f0).toList)) = true) then (haberdashref10_rates.l0 k (wrap64 (x3 + 1)) x287000 x287001 x287002 x287003) else (some false)) else (none)) else (none)) else (haberdashref10_rates.l0 k (wrap64 (x3 + 1)) x287000 x287001 x287002 x287003)) else (some false))) else (some false))) else (none)) else (if (x287001.length : Int) ≤ 40 then ((haberdashref10_in.f x287002 10000).bind fun t287 => (if t287 = true then ((haberdashref10_in.f x287003 10000).bind fun t288 => (some t288)) else (some false))) else (some false))
def haberdashref10_rates.f (k : Nat) (a0_0 : ByteArray) (l0_1 : List (S56)) (a0_2 : Int) (a0_3 : Int) : Option (Bool) := haberdashref10_rates.l0 k 0 a0_0 l0_1 a0_2 a0_3
def haberdashref10_rates.T4 : Bool × List (List Nat × List Nat) := (true, [([], []), ([0], [0]), ([], []), ([1, 2], [1, 2]), ([3], [3]), ([4], [4]), ([5], [5]), ([6], [6]), ([7, 6], [7]), ([8], [8]), ([9, 8], [8, 9]), ([8], [8]), ([10, 11, 8], [8, 10, 11]), ([12, 8], [8, 12]), ([13, 8], [8, 13]), ([14, 8, 8], [8, 14]), ([15, 8], [8, 15]), ([8, 16], [8, 16]), ([17, 15], [17]), ([18], [18]), ([19, 18], [18, 19]), ([20, 18, 18], [18, 20]), ([21], [21]), ([22, 21], [21, 22]), ([21], [21]), ([23, 24, 21], [21, 23, 24]), ([25, 21], [21, 25]), ([26, 21], [21, 26]), ([21], [21]), ([28, 21], [21, 28]), ([21], [21]), ([30, 21], [21, 30]), ([29, 31, 21], [21, 29, 31]), ([32, 21], [21, 32]), ([33, 21], [21, 33]), ([27, 34, 21], [21, 27, 34]), ([21, 35, 18], [18, 21, 35]), ([18, 36], [18, 36])])
def haberdashref10_rates.B4 : List Nat := [0, 1, 0, 7, 15, 31, 63, 127, 255, 511, 1023, 511, 4095, 8191, 16383, 32767, 65535, 131071, 262143, 524287, 1048575, 2097151, 4194303, 8388607, 4194303, 33554431, 67108863, 134217727, 4194303, 272629759, 4194303, 1077936127, 4030726143, 8325693439, 16915628031, 34359738367, 68719476735, 137438953471]
theorem haberdashref10_rates.tab4 : rtab .any (opsOf Try.f46 4) = haberdashref10_rates.T4 := by kernel_rfl
theorem haberdashref10_rates.bits4 : waitsOk haberdashref10_rates.T4.2 haberdashref10_rates.B4 = true := by kernel_rfl
set_option maxHeartbeats 8000000 in
set_option maxRecDepth 100000 in
theorem haberdashref10_rates.calls (k : Nat) (a0_0 : ByteArray) (A0_1 : Option Addr) (c0_1 : Nat) (l0_1 : List (S56)) (a0_2 : Int) (a0_3 : Int) (r : Bool) (w : World) (hr0_1 : Kd.C k56 w A0_1 l0_1.length l0_1) (hc0_1 : l0_1.length ≤ c0_1) (h : haberdashref10_rates.f k a0_0 l0_1 a0_2 a0_3 = some r) :
 Calls Try.prog 46 #[.agg #[.string a0_0, .slice A0_1 l0_1.length c0_1, .int .i64 a0_2, .int .i64 a0_3]] w fun e w' => e = .returned (.bool r) ∧ Below w.heap.size w w' := by
 have hu51 := Try.underlying51
 have HR0_1 := Aside0.mk hr0_1
 have HC0_1 := Aside0.mk hc0_1
 clear hr0_1 hc0_1
 have HB := Aside0.mk (Below.refl w.heap.size w)
 have H : (haberdashref10_rates.l0 k 0 a0_0 l0_1 a0_2 a0_3) = some r := h
 clear h
 have H' := Aside0.mk H
 clear H
 go_enter Try.func46, Try.ntmps46
 go_wp2_with (first | ((with_reducible refine gate_dst (N := 1) rfl ?_); refine box_event rf_ (N := 1) rf_ (cs := #[.string a0_0, .slice A0_1 l0_1.length c0_1, .int .i64 a0_2, .int .i64 a0_3]) (t := 51) lr_ ?_; intro gb286 hg w2 hbox hb; have BK286 := Aside0.mk hbox; have GE286 := Aside0.mk (ge_ HB hg (hb0_ HB)); replace HB := Aside0.mk (below_step (hb0_ HB) hb); clear hb hbox hg))
 go_loopg [3] k (fun kq v3 w' => ∃ (x3_1 : Int), v3 = .int .i64 x3_1 ∧ Aside0 (haberdashref10_rates.l0 kq x3_1 a0_0 l0_1 a0_2 a0_3 = some r) ∧ Aside0 (kq ≤ k) ∧ Aside0 (w'.heap[gb286]? = some (.cells #[.string a0_0, (.slice A0_1 l0_1.length c0_1), .int .i64 a0_2, .int .i64 a0_3] 51 (0, 0))) ∧ Aside0 (Below w.heap.size w w'))
 case atStart => exact ⟨(0), rf_, H', ⟨Nat.le_refl _⟩, ⟨bk_ BK286⟩, ⟨hb1_ HB GE286⟩⟩
 case round =>
  clear H'; (try clear p2); obtain ⟨x3_1, rfl, HA, HK1, BK286, HB⟩ := hrel
  cases gk with
  | zero => exact absurd HA.out (by simp [haberdashref10_rates.l0])
  | succ k1 =>
   have H := HA.out; clear HA
   simp only [haberdashref10_rates.l0] at H
   by_cases c3 : x3_1 < (l0_1.length : Int)
   rotate_left
   ·
    rw [if_neg c3] at H; have c3b0 := decide_eq_false c3; clear c3
    by_cases c24 : (l0_1.length : Int) ≤ 40
    rotate_left
    ·
     rw [if_neg c24] at H; have c24b0 := decide_eq_false c24
     have c24b1 : decide (l0_1.length ≤ 40) = false := decide_eq_false (by omega)
     clear c24; obtain rfl := Option.some.inj H; obtain ⟨hcz30_0, hcz30_1, hcz30_2, hcz30_3⟩ := cz4_ BK286; obtain ⟨hfz30_0, hfz30_1, hfz30_2, hfz30_3⟩ := fz4_ BK286
     go_wp2
     go_ret
     exact ⟨er_, hb1_ HB GE286⟩
    rw [if_pos c24] at H; have c24b0 := decide_eq_true c24
    have c24b1 : decide (l0_1.length ≤ 40) = true := decide_eq_true (by omega)
    clear c24; replace H := Option.bind_eq_some_iff.mp H; obtain ⟨t287, A250, H⟩ := H
    (try dsimp only at H)
    have A25 := Aside0.mk A250; clear A250
    by_cases c26 : t287 = true
    rotate_left
    ·
     replace c26 := Bool.eq_false_iff.mpr c26; subst c26; rw [if_neg nf_] at H; obtain rfl := Option.some.inj H; obtain ⟨hcz29_0, hcz29_1, hcz29_2, hcz29_3⟩ := cz4_ BK286; obtain ⟨hfz29_0, hfz29_1, hfz29_2, hfz29_3⟩ := fz4_ BK286
     go_wp2_with (first | (go_at_call 65; (with_reducible refine (haberdashref10_in.calls a0_2 10000 false _ A25.out).mono ?_); rintro e w' ⟨rfl, ⟨nd, rfl⟩⟩))
     go_ret
     exact ⟨er_, hb1_ HB GE286⟩
    subst c26; rw [if_pos rfl] at H; replace H := Option.bind_eq_some_iff.mp H; obtain ⟨t288, A270, H⟩ := H
    (try dsimp only at H)
    have A27 := Aside0.mk A270; clear A270; obtain rfl := Option.some.inj H; obtain ⟨hcz28_0, hcz28_1, hcz28_2, hcz28_3⟩ := cz4_ BK286; obtain ⟨hfz28_0, hfz28_1, hfz28_2, hfz28_3⟩ := fz4_ BK286
    go_wp2_with (first | (go_at_call 65; (with_reducible refine (haberdashref10_in.calls a0_2 10000 true _ A25.out).mono ?_); rintro e w' ⟨rfl, ⟨nd, rfl⟩⟩) | (go_at_call 65; (with_reducible refine (haberdashref10_in.calls a0_3 10000 t288 _ A27.out).mono ?_); rintro e w' ⟨rfl, ⟨nd, rfl⟩⟩))
    go_ret
    exact ⟨er_, hb1_ HB GE286⟩
   rw [if_pos c3] at H; have c3b0 := decide_eq_true c3; clear c3; replace H := ip_ H; obtain ⟨c4, H⟩ := H; have c4b0 := decide_eq_true c4; clear c4; replace H := Option.bind_eq_some_iff.mp H; obtain ⟨t290, A50, H⟩ := H
   (try dsimp only at H)
   have A5 := Aside0.mk A50; clear A50
   by_cases c6 : t290 = true
   rotate_left
   ·
    replace c6 := Bool.eq_false_iff.mpr c6; subst c6; rw [if_neg nf_] at H; obtain rfl := Option.some.inj H; obtain ⟨hcz22_0, hcz22_1, hcz22_2, hcz22_3⟩ := cz4_ BK286; obtain ⟨hfz22_0, hfz22_1, hfz22_2, hfz22_3⟩ := fz4_ BK286
    try go_wp2
    replace BK286 := Aside0.mk (blk_drew BK286.out); replace HB := Aside0.mk (below_drew1 HB.out); have p289 : 0 ≤ (x3_1 : Int) := of_decide_eq_true as_; have q289 : x3_1 < (l0_1.length : Int) := of_decide_eq_true as_; obtain ⟨ad289, e289, hx289_0, hx289_1⟩ := at_T56 HR0_1.out x3_1 p289 q289; have hw289_1 := hx289_1
    have hw289_0 := hx289_0; cases e289; replace hx289_0 := hd_ HB hx289_0; replace hx289_1 := hd_ HB hx289_1; replace p289 := eq_true p289; replace q289 := eq_true q289
    refine start_ (n := 38) (S := fun w' => w'.cell? ⟨gb286, 0, none⟩ = some (.string a0_0) ∧ w'.cell? ⟨gb286, 1, none⟩ = some (.slice (some ad289) l0_1.length c0_1) ∧ w'.cell? ⟨gb286, 2, none⟩ = some (.int .i64 a0_2) ∧ w'.cell? ⟨gb286, 3, none⟩ = some (.int .i64 a0_3) ∧ w'.cell? (ad289.add ((x3_1).toNat * 2)) = some (.string ((rd_T56 l0_1 x3_1).f0)) ∧ w'.cell? ⟨(ad289.add ((x3_1).toNat * 2)).block, (ad289.add ((x3_1).toNat * 2)).off + 1, none⟩ = some (.int .i64 ((rd_T56 l0_1 x3_1).f1))) (ds := []) (mk 38 0) (by kernel_rfl) rfl rfl ⟨cl_ BK286 0, cl_ BK286 1, cl_ BK286 2, cl_ BK286 3, (hc_ HB hw289_0), (hc_ HB hw289_1)⟩ (fun hHeld => ?_); refine with_tabW haberdashref10_rates.tab4 haberdashref10_rates.bits4 (fun HT_ HW_ => ?_)
    generalize wr.drew = w23 at BK286 HB hx289_0 hx289_1 hHeld ⊢
    refine ahead_ [(0, 11), (2, 13)] ?_
    iterate 2 (refine pB_ HT_ ?_)
    refine aheadE_ (mk 38 5) kr_ ?_
    refine take_ (i := 1) (N := some 12) (v := ?_) (a' := ?_) (mk 38 7) rfl rfl (tw_ HT_ HW_) nh_ (Or.inl ⟨by rfl, ?_⟩) hHeld ?_ ?_
    rotate_left
    ·
     rintro w' ⟨s0, s1, s2, s3, s4, s5⟩
     go_simp
     with_reducible rfl
    rotate_left; (exact pu_)
    refine ahead_ [(3, 14), (4, 15)] ?_
    iterate 2 (refine pB_ HT_ ?_)
    refine aheadE_ (mk 38 31) kr_ ?_
    refine take_ (i := 5) (N := some 16) (v := ?_) (a' := ?_) (mk 38 63) rfl rfl (tw_ HT_ HW_) nh_ (Or.inl ⟨by rfl, ?_⟩) hHeld ?_ ?_
    rotate_left
    ·
     rintro w' ⟨s0, s1, s2, s3, s4, s5⟩
     go_simp
     with_reducible rfl
    rotate_left; (exact pu_)
    refine one_ (i := 6) (N := some 17) (mk 38 127) rfl rfl (on_ HT_) de_ (fun K hK => ?_)
    refine goes_ Try.func45 (by kernel_rfl) rfl #[.string ((rd_T56 l0_1 x3_1).f0)] (by rfl) rfl rfl am_ ?_
    with_reducible refine (haberdashref10_Name.calls k1 ((rd_T56 l0_1 x3_1).f0) false _ A5.out).mono ?_
    rintro e w' ⟨rfl, ⟨nd, rfl⟩⟩
    refine ⟨_, rfl, ?_⟩
    refine hK.out _ _ ⟨cl_ BK286 0, cl_ BK286 1, cl_ BK286 2, cl_ BK286 3, (hc_ HB hw289_0), (hc_ HB hw289_1)⟩ (fun hHeld => ?_)
    clear hK K
    refine norm_ pv_ ?_
    refine ahead_ [(7, 18), (8, 19)] ?_
    iterate 2 (refine pB_ HT_ ?_)
    refine aheadE_ (mk 38 511) kr_ ?_
    refine ahead_ [(9, 20), (10, 21), (11, 22), (12, 23), (13, 24), (14, 25), (15, 26), (16, 27)] ?_
    iterate 8 (refine pA_ (v := undef) (a' := ?_) rfl rfl HT_.out kr_ nh_ ru_ ?_ ?_; rotate_left; (exact pu_))
    refine aheadE_ (mk 38 131071) kr_ ?_
    refine ahead_ [(17, 28), (18, 29)] ?_
    iterate 2 (refine pB_ HT_ ?_)
    refine aheadE_ (mk 38 524287) kr_ ?_
    refine ahead_ [(19, 30), (20, 31), (21, 32), (22, 33), (23, 34), (24, 35), (25, 36), (26, 37), (27, 38), (28, 39), (29, 40), (30, 41), (31, 42), (32, 43), (33, 44), (34, 45), (35, 46), (36, 47)] ?_
    iterate 18 (refine pA_ (v := undef) (a' := ?_) rfl rfl HT_.out kr_ nh_ ru_ ?_ ?_; rotate_left; (exact pu_))
    refine aheadE_ (mk 38 137438953471) kr_ ?_
    refine pure_ (i := 37) (N := some 48) (v := ?_) (a' := ?_) (mk 38 274877906943) rfl rfl (an_ HT_) nh_ (Or.inl ⟨ry_, ?_⟩) ?_ ?_
    rotate_left; (intro w'; go_simp; with_reducible rfl)
    rotate_left; (exact pu_)
    refine done_ (done_of HT_.out (by kernel_rfl)) ?_
    try go_wp2
    go_ret
    exact ⟨er_, hb1_ HB GE286⟩
   subst c6; rw [if_pos rfl] at H; replace H := Option.bind_eq_some_iff.mp H; obtain ⟨t292, A70, H⟩ := H
   (try dsimp only at H)
   have A7 := Aside0.mk A70; clear A70
   by_cases c8 : t292 = true
   rotate_left
   ·
    replace c8 := Bool.eq_false_iff.mpr c8; subst c8; rw [if_neg nf_] at H; obtain rfl := Option.some.inj H; obtain ⟨hcz20_0, hcz20_1, hcz20_2, hcz20_3⟩ := cz4_ BK286; obtain ⟨hfz20_0, hfz20_1, hfz20_2, hfz20_3⟩ := fz4_ BK286
    try go_wp2
    replace BK286 := Aside0.mk (blk_drew BK286.out); replace HB := Aside0.mk (below_drew1 HB.out); have p289 : 0 ≤ (x3_1 : Int) := of_decide_eq_true as_; have q289 : x3_1 < (l0_1.length : Int) := of_decide_eq_true as_; obtain ⟨ad289, e289, hx289_0, hx289_1⟩ := at_T56 HR0_1.out x3_1 p289 q289; have hw289_1 := hx289_1
    have hw289_0 := hx289_0; cases e289; replace hx289_0 := hd_ HB hx289_0; replace hx289_1 := hd_ HB hx289_1; replace p289 := eq_true p289; replace q289 := eq_true q289; have p291 : 0 ≤ (x3_1 : Int) := of_decide_eq_true as_; have q291 : x3_1 < (l0_1.length : Int) := of_decide_eq_true as_; obtain ⟨ad291, e291, hx291_0, hx291_1⟩ := at_T56 HR0_1.out x3_1 p291 q291
    have hw291_1 := hx291_1; have hw291_0 := hx291_0
    obtain rfl : ad289 = ad291 := (by injection e291)
    replace hx291_0 := hd_ HB hx291_0; replace hx291_1 := hd_ HB hx291_1; replace p291 := eq_true p291; replace q291 := eq_true q291
    refine start_ (n := 38) (S := fun w' => w'.cell? ⟨gb286, 0, none⟩ = some (.string a0_0) ∧ w'.cell? ⟨gb286, 1, none⟩ = some (.slice (some ad289) l0_1.length c0_1) ∧ w'.cell? ⟨gb286, 2, none⟩ = some (.int .i64 a0_2) ∧ w'.cell? ⟨gb286, 3, none⟩ = some (.int .i64 a0_3) ∧ w'.cell? (ad289.add ((x3_1).toNat * 2)) = some (.string ((rd_T56 l0_1 x3_1).f0)) ∧ w'.cell? ⟨(ad289.add ((x3_1).toNat * 2)).block, (ad289.add ((x3_1).toNat * 2)).off + 1, none⟩ = some (.int .i64 ((rd_T56 l0_1 x3_1).f1)) ∧ w'.cell? (ad289.add ((x3_1).toNat * 2)) = some (.string ((rd_T56 l0_1 x3_1).f0)) ∧ w'.cell? ⟨(ad289.add ((x3_1).toNat * 2)).block, (ad289.add ((x3_1).toNat * 2)).off + 1, none⟩ = some (.int .i64 ((rd_T56 l0_1 x3_1).f1))) (ds := []) (mk 38 0) (by kernel_rfl) rfl rfl ⟨cl_ BK286 0, cl_ BK286 1, cl_ BK286 2, cl_ BK286 3, (hc_ HB hw289_0), (hc_ HB hw289_1), (hc_ HB hw291_0), (hc_ HB hw291_1)⟩ (fun hHeld => ?_); refine with_tabW haberdashref10_rates.tab4 haberdashref10_rates.bits4 (fun HT_ HW_ => ?_)
    generalize wr.drew = w21 at BK286 HB hx289_0 hx289_1 hx291_0 hx291_1 hHeld ⊢
    refine ahead_ [(0, 11), (2, 13)] ?_
    iterate 2 (refine pB_ HT_ ?_)
    refine aheadE_ (mk 38 5) kr_ ?_
    refine take_ (i := 1) (N := some 12) (v := ?_) (a' := ?_) (mk 38 7) rfl rfl (tw_ HT_ HW_) nh_ (Or.inl ⟨by rfl, ?_⟩) hHeld ?_ ?_
    rotate_left
    ·
     rintro w' ⟨s0, s1, s2, s3, s4, s5, s6, s7⟩
     go_simp
     with_reducible rfl
    rotate_left; (exact pu_)
    refine ahead_ [(3, 14), (4, 15)] ?_
    iterate 2 (refine pB_ HT_ ?_)
    refine aheadE_ (mk 38 31) kr_ ?_
    refine take_ (i := 5) (N := some 16) (v := ?_) (a' := ?_) (mk 38 63) rfl rfl (tw_ HT_ HW_) nh_ (Or.inl ⟨by rfl, ?_⟩) hHeld ?_ ?_
    rotate_left
    ·
     rintro w' ⟨s0, s1, s2, s3, s4, s5, s6, s7⟩
     go_simp
     with_reducible rfl
    rotate_left; (exact pu_)
    refine one_ (i := 6) (N := some 17) (mk 38 127) rfl rfl (on_ HT_) de_ (fun K hK => ?_)
    refine goes_ Try.func45 (by kernel_rfl) rfl #[.string ((rd_T56 l0_1 x3_1).f0)] (by rfl) rfl rfl am_ ?_
    with_reducible refine (haberdashref10_Name.calls k1 ((rd_T56 l0_1 x3_1).f0) true _ A5.out).mono ?_
    rintro e w' ⟨rfl, ⟨nd, rfl⟩⟩
    refine ⟨_, rfl, ?_⟩
    refine hK.out _ _ ⟨cl_ BK286 0, cl_ BK286 1, cl_ BK286 2, cl_ BK286 3, (hc_ HB hw289_0), (hc_ HB hw289_1), (hc_ HB hw291_0), (hc_ HB hw291_1)⟩ (fun hHeld => ?_)
    clear hK K
    refine norm_ pv_ ?_
    refine ahead_ [(7, 18), (8, 19), (9, 20), (11, 22)] ?_
    iterate 4 (refine pB_ HT_ ?_)
    refine aheadE_ (mk 38 3071) kr_ ?_
    refine take_ (i := 10) (N := some 21) (v := ?_) (a' := ?_) (mk 38 4095) rfl rfl (tw_ HT_ HW_) nh_ (Or.inl ⟨by rfl, ?_⟩) hHeld ?_ ?_
    rotate_left
    ·
     rintro w' ⟨s0, s1, s2, s3, s4, s5, s6, s7⟩
     go_simp
     with_reducible rfl
    rotate_left; (exact pu_)
    refine ahead_ [(12, 23), (13, 24)] ?_
    iterate 2 (refine pB_ HT_ ?_)
    refine aheadE_ (mk 38 16383) kr_ ?_
    refine take_ (i := 14) (N := some 25) (v := ?_) (a' := ?_) (mk 38 32767) rfl rfl (tw_ HT_ HW_) nh_ (Or.inl ⟨by rfl, ?_⟩) hHeld ?_ ?_
    rotate_left
    ·
     rintro w' ⟨s0, s1, s2, s3, s4, s5, s6, s7⟩
     go_simp
     with_reducible rfl
    rotate_left; (exact pu_)
    refine one_ (i := 15) (N := some 26) (mk 38 65535) rfl rfl (on_ HT_) de_ (fun K hK => ?_)
    refine goes_ Try.func65 (by kernel_rfl) rfl #[.int .i64 ((rd_T56 l0_1 x3_1).f1), .int .i64 10000] (by rfl) rfl rfl am_ ?_
    with_reducible refine (haberdashref10_in.calls ((rd_T56 l0_1 x3_1).f1) 10000 false _ A7.out).mono ?_
    rintro e w' ⟨rfl, ⟨nd, rfl⟩⟩
    refine ⟨_, rfl, ?_⟩
    refine hK.out _ _ ⟨cl_ BK286 0, cl_ BK286 1, cl_ BK286 2, cl_ BK286 3, (hc_ HB hw289_0), (hc_ HB hw289_1), (hc_ HB hw291_0), (hc_ HB hw291_1)⟩ (fun hHeld => ?_)
    clear hK K
    refine norm_ pv_ ?_
    refine ahead_ [(16, 27), (17, 28), (18, 29)] ?_
    iterate 3 (refine pB_ HT_ ?_)
    refine aheadE_ (mk 38 524287) kr_ ?_
    refine ahead_ [(19, 30), (20, 31), (21, 32), (22, 33), (23, 34), (24, 35), (25, 36), (26, 37), (27, 38), (28, 39), (29, 40), (30, 41), (31, 42), (32, 43), (33, 44), (34, 45), (35, 46), (36, 47)] ?_
    iterate 18 (refine pA_ (v := undef) (a' := ?_) rfl rfl HT_.out kr_ nh_ ru_ ?_ ?_; rotate_left; (exact pu_))
    refine aheadE_ (mk 38 137438953471) kr_ ?_
    refine pure_ (i := 37) (N := some 48) (v := ?_) (a' := ?_) (mk 38 274877906943) rfl rfl (an_ HT_) nh_ (Or.inl ⟨ry_, ?_⟩) ?_ ?_
    rotate_left; (intro w'; go_simp; with_reducible rfl)
    rotate_left; (exact pu_)
    refine done_ (done_of HT_.out (by kernel_rfl)) ?_
    try go_wp2
    go_ret
    exact ⟨er_, hb1_ HB GE286⟩
   subst c8; rw [if_pos rfl] at H
   by_cases c9 : x3_1 > 0
   rotate_left
   ·
    rw [if_neg c9] at H; have c9b0 := decide_eq_false c9; clear c9; have H' := Aside0.mk H; clear H; obtain ⟨hcz18_0, hcz18_1, hcz18_2, hcz18_3⟩ := cz4_ BK286; obtain ⟨hfz18_0, hfz18_1, hfz18_2, hfz18_3⟩ := fz4_ BK286
    try go_wp2
    replace BK286 := Aside0.mk (blk_drew BK286.out); replace HB := Aside0.mk (below_drew1 HB.out); have p289 : 0 ≤ (x3_1 : Int) := of_decide_eq_true as_; have q289 : x3_1 < (l0_1.length : Int) := of_decide_eq_true as_; obtain ⟨ad289, e289, hx289_0, hx289_1⟩ := at_T56 HR0_1.out x3_1 p289 q289; have hw289_1 := hx289_1
    have hw289_0 := hx289_0; cases e289; replace hx289_0 := hd_ HB hx289_0; replace hx289_1 := hd_ HB hx289_1; replace p289 := eq_true p289; replace q289 := eq_true q289; have p291 : 0 ≤ (x3_1 : Int) := of_decide_eq_true as_; have q291 : x3_1 < (l0_1.length : Int) := of_decide_eq_true as_; obtain ⟨ad291, e291, hx291_0, hx291_1⟩ := at_T56 HR0_1.out x3_1 p291 q291
    have hw291_1 := hx291_1; have hw291_0 := hx291_0
    obtain rfl : ad289 = ad291 := (by injection e291)
    replace hx291_0 := hd_ HB hx291_0; replace hx291_1 := hd_ HB hx291_1; replace p291 := eq_true p291; replace q291 := eq_true q291
    refine start_ (n := 38) (S := fun w' => w'.cell? ⟨gb286, 0, none⟩ = some (.string a0_0) ∧ w'.cell? ⟨gb286, 1, none⟩ = some (.slice (some ad289) l0_1.length c0_1) ∧ w'.cell? ⟨gb286, 2, none⟩ = some (.int .i64 a0_2) ∧ w'.cell? ⟨gb286, 3, none⟩ = some (.int .i64 a0_3) ∧ w'.cell? (ad289.add ((x3_1).toNat * 2)) = some (.string ((rd_T56 l0_1 x3_1).f0)) ∧ w'.cell? ⟨(ad289.add ((x3_1).toNat * 2)).block, (ad289.add ((x3_1).toNat * 2)).off + 1, none⟩ = some (.int .i64 ((rd_T56 l0_1 x3_1).f1)) ∧ w'.cell? (ad289.add ((x3_1).toNat * 2)) = some (.string ((rd_T56 l0_1 x3_1).f0)) ∧ w'.cell? ⟨(ad289.add ((x3_1).toNat * 2)).block, (ad289.add ((x3_1).toNat * 2)).off + 1, none⟩ = some (.int .i64 ((rd_T56 l0_1 x3_1).f1))) (ds := []) (mk 38 0) (by kernel_rfl) rfl rfl ⟨cl_ BK286 0, cl_ BK286 1, cl_ BK286 2, cl_ BK286 3, (hc_ HB hw289_0), (hc_ HB hw289_1), (hc_ HB hw291_0), (hc_ HB hw291_1)⟩ (fun hHeld => ?_); refine with_tabW haberdashref10_rates.tab4 haberdashref10_rates.bits4 (fun HT_ HW_ => ?_)
    generalize wr.drew = w19 at BK286 HB hx289_0 hx289_1 hx291_0 hx291_1 hHeld ⊢
    refine ahead_ [(0, 11), (2, 13)] ?_
    iterate 2 (refine pB_ HT_ ?_)
    refine aheadE_ (mk 38 5) kr_ ?_
    refine take_ (i := 1) (N := some 12) (v := ?_) (a' := ?_) (mk 38 7) rfl rfl (tw_ HT_ HW_) nh_ (Or.inl ⟨by rfl, ?_⟩) hHeld ?_ ?_
    rotate_left
    ·
     rintro w' ⟨s0, s1, s2, s3, s4, s5, s6, s7⟩
     go_simp
     with_reducible rfl
    rotate_left; (exact pu_)
    refine ahead_ [(3, 14), (4, 15)] ?_
    iterate 2 (refine pB_ HT_ ?_)
    refine aheadE_ (mk 38 31) kr_ ?_
    refine take_ (i := 5) (N := some 16) (v := ?_) (a' := ?_) (mk 38 63) rfl rfl (tw_ HT_ HW_) nh_ (Or.inl ⟨by rfl, ?_⟩) hHeld ?_ ?_
    rotate_left
    ·
     rintro w' ⟨s0, s1, s2, s3, s4, s5, s6, s7⟩
     go_simp
     with_reducible rfl
    rotate_left; (exact pu_)
    refine one_ (i := 6) (N := some 17) (mk 38 127) rfl rfl (on_ HT_) de_ (fun K hK => ?_)
    refine goes_ Try.func45 (by kernel_rfl) rfl #[.string ((rd_T56 l0_1 x3_1).f0)] (by rfl) rfl rfl am_ ?_
    with_reducible refine (haberdashref10_Name.calls k1 ((rd_T56 l0_1 x3_1).f0) true _ A5.out).mono ?_
    rintro e w' ⟨rfl, ⟨nd, rfl⟩⟩
    refine ⟨_, rfl, ?_⟩
    refine hK.out _ _ ⟨cl_ BK286 0, cl_ BK286 1, cl_ BK286 2, cl_ BK286 3, (hc_ HB hw289_0), (hc_ HB hw289_1), (hc_ HB hw291_0), (hc_ HB hw291_1)⟩ (fun hHeld => ?_)
    clear hK K
    refine norm_ pv_ ?_
    refine ahead_ [(7, 18), (8, 19), (9, 20), (11, 22)] ?_
    iterate 4 (refine pB_ HT_ ?_)
    refine aheadE_ (mk 38 3071) kr_ ?_
    refine take_ (i := 10) (N := some 21) (v := ?_) (a' := ?_) (mk 38 4095) rfl rfl (tw_ HT_ HW_) nh_ (Or.inl ⟨by rfl, ?_⟩) hHeld ?_ ?_
    rotate_left
    ·
     rintro w' ⟨s0, s1, s2, s3, s4, s5, s6, s7⟩
     go_simp
     with_reducible rfl
    rotate_left; (exact pu_)
    refine ahead_ [(12, 23), (13, 24)] ?_
    iterate 2 (refine pB_ HT_ ?_)
    refine aheadE_ (mk 38 16383) kr_ ?_
    refine take_ (i := 14) (N := some 25) (v := ?_) (a' := ?_) (mk 38 32767) rfl rfl (tw_ HT_ HW_) nh_ (Or.inl ⟨by rfl, ?_⟩) hHeld ?_ ?_
    rotate_left
    ·
     rintro w' ⟨s0, s1, s2, s3, s4, s5, s6, s7⟩
     go_simp
     with_reducible rfl
    rotate_left; (exact pu_)
    refine one_ (i := 15) (N := some 26) (mk 38 65535) rfl rfl (on_ HT_) de_ (fun K hK => ?_)
    refine goes_ Try.func65 (by kernel_rfl) rfl #[.int .i64 ((rd_T56 l0_1 x3_1).f1), .int .i64 10000] (by rfl) rfl rfl am_ ?_
    with_reducible refine (haberdashref10_in.calls ((rd_T56 l0_1 x3_1).f1) 10000 true _ A7.out).mono ?_
    rintro e w' ⟨rfl, ⟨nd, rfl⟩⟩
    refine ⟨_, rfl, ?_⟩
    refine hK.out _ _ ⟨cl_ BK286 0, cl_ BK286 1, cl_ BK286 2, cl_ BK286 3, (hc_ HB hw289_0), (hc_ HB hw289_1), (hc_ HB hw291_0), (hc_ HB hw291_1)⟩ (fun hHeld => ?_)
    clear hK K
    refine norm_ pv_ ?_
    refine ahead_ [(16, 27), (17, 28), (18, 29), (19, 30), (20, 31), (21, 32)] ?_
    iterate 6 (refine pB_ HT_ ?_)
    refine aheadE_ (mk 38 4194303) kr_ ?_
    refine ahead_ [(22, 33), (23, 34), (24, 35), (25, 36), (26, 37), (27, 38), (28, 39), (29, 40), (30, 41), (31, 42), (32, 43), (33, 44), (34, 45), (35, 46)] ?_
    iterate 14 (refine pA_ (v := undef) (a' := ?_) rfl rfl HT_.out kr_ nh_ ru_ ?_ ?_; rotate_left; (exact pu_))
    refine aheadE_ (mk 38 68719476735) kr_ ?_
    refine ahead_ [(36, 47), (37, 48)] ?_
    iterate 2 (refine pB_ HT_ ?_)
    refine aheadE_ (mk 38 274877906943) kr_ ?_
    refine done_ (done_of HT_.out (by kernel_rfl)) ?_
    try go_wp2
    go_roundg k1
    case measure => have := HK1.out; omega
    case rel => exact ⟨(wrap64 (x3_1 + 1)), rf_, H', ⟨ho_ HK1⟩, ⟨bk_ BK286⟩, ⟨hb1_ HB GE286⟩⟩
   rw [if_pos c9] at H; have c9b0 := decide_eq_true c9; clear c9; obtain ⟨ji10, hji10⟩ : ∃ j_ : Int, (wrap64 (x3_1 - 1)) = j_ := ⟨_, rfl⟩
   replace H : (if 0 ≤ (ji10) then (if (ji10) < (l0_1.length : Int) then (if ((Op.bytesLess (((rd_T56 l0_1 (ji10)).f0).toList) (((rd_T56 l0_1 x3_1).f0).toList)) = true) then (haberdashref10_rates.l0 k1 (wrap64 (x3_1 + 1)) a0_0 l0_1 a0_2 a0_3) else (some false)) else (none)) else (none)) = some r := by first | (rw [hji10] at H; exact H) | (simp only [hji10] at H ⊢; exact H)
   (try rw [hji10] at A5)
   (try rw [hji10] at A7)
   have hji10w : (IntKind.i64.wrap (x3_1 - 1)) = ji10 := (i64_w _).trans hji10; replace H := ip_ H; obtain ⟨c11, H⟩ := H; have c11b0 := decide_eq_true c11; clear c11; replace H := ip_ H; obtain ⟨c12, H⟩ := H; have c12b0 := decide_eq_true c12; clear c12
   by_cases c13 : ((Op.bytesLess (((rd_T56 l0_1 (ji10)).f0).toList) (((rd_T56 l0_1 x3_1).f0).toList)) = true)
   rotate_left
   ·
    rw [if_neg c13] at H
    have c13b0 : (Op.bytesLess (((rd_T56 l0_1 (ji10)).f0).toList) (((rd_T56 l0_1 x3_1).f0).toList)) = false := by simpa using c13
    clear c13; obtain rfl := Option.some.inj H; obtain ⟨hcz16_0, hcz16_1, hcz16_2, hcz16_3⟩ := cz4_ BK286; obtain ⟨hfz16_0, hfz16_1, hfz16_2, hfz16_3⟩ := fz4_ BK286
    try go_wp2
    replace BK286 := Aside0.mk (blk_drew BK286.out); replace HB := Aside0.mk (below_drew1 HB.out); have p289 : 0 ≤ (x3_1 : Int) := of_decide_eq_true as_; have q289 : x3_1 < (l0_1.length : Int) := of_decide_eq_true as_; obtain ⟨ad289, e289, hx289_0, hx289_1⟩ := at_T56 HR0_1.out x3_1 p289 q289; have hw289_1 := hx289_1
    have hw289_0 := hx289_0; cases e289; replace hx289_0 := hd_ HB hx289_0; replace hx289_1 := hd_ HB hx289_1; replace p289 := eq_true p289; replace q289 := eq_true q289; have p291 : 0 ≤ (x3_1 : Int) := of_decide_eq_true as_; have q291 : x3_1 < (l0_1.length : Int) := of_decide_eq_true as_; obtain ⟨ad291, e291, hx291_0, hx291_1⟩ := at_T56 HR0_1.out x3_1 p291 q291
    have hw291_1 := hx291_1; have hw291_0 := hx291_0
    obtain rfl : ad289 = ad291 := (by injection e291)
    replace hx291_0 := hd_ HB hx291_0; replace hx291_1 := hd_ HB hx291_1; replace p291 := eq_true p291; replace q291 := eq_true q291; have p293 : 0 ≤ (x3_1 : Int) := of_decide_eq_true as_; have q293 : x3_1 < (l0_1.length : Int) := of_decide_eq_true as_; obtain ⟨ad293, e293, hx293_0, hx293_1⟩ := at_T56 HR0_1.out x3_1 p293 q293
    have hw293_1 := hx293_1; have hw293_0 := hx293_0
    obtain rfl : ad289 = ad293 := (by injection e293)
    replace hx293_0 := hd_ HB hx293_0; replace hx293_1 := hd_ HB hx293_1; replace p293 := eq_true p293; replace q293 := eq_true q293; have p294 : 0 ≤ ((ji10) : Int) := of_decide_eq_true as_; have q294 : (ji10) < (l0_1.length : Int) := of_decide_eq_true as_; obtain ⟨ad294, e294, hx294_0, hx294_1⟩ := at_T56 HR0_1.out (ji10) p294 q294
    have hw294_1 := hx294_1; have hw294_0 := hx294_0
    obtain rfl : ad289 = ad294 := (by injection e294)
    replace hx294_0 := hd_ HB hx294_0; replace hx294_1 := hd_ HB hx294_1; replace p294 := eq_true p294; replace q294 := eq_true q294
    refine start_ (n := 38) (S := fun w' => w'.cell? ⟨gb286, 0, none⟩ = some (.string a0_0) ∧ w'.cell? ⟨gb286, 1, none⟩ = some (.slice (some ad289) l0_1.length c0_1) ∧ w'.cell? ⟨gb286, 2, none⟩ = some (.int .i64 a0_2) ∧ w'.cell? ⟨gb286, 3, none⟩ = some (.int .i64 a0_3) ∧ w'.cell? (ad289.add ((x3_1).toNat * 2)) = some (.string ((rd_T56 l0_1 x3_1).f0)) ∧ w'.cell? ⟨(ad289.add ((x3_1).toNat * 2)).block, (ad289.add ((x3_1).toNat * 2)).off + 1, none⟩ = some (.int .i64 ((rd_T56 l0_1 x3_1).f1)) ∧ w'.cell? (ad289.add ((x3_1).toNat * 2)) = some (.string ((rd_T56 l0_1 x3_1).f0)) ∧ w'.cell? ⟨(ad289.add ((x3_1).toNat * 2)).block, (ad289.add ((x3_1).toNat * 2)).off + 1, none⟩ = some (.int .i64 ((rd_T56 l0_1 x3_1).f1)) ∧ w'.cell? (ad289.add ((x3_1).toNat * 2)) = some (.string ((rd_T56 l0_1 x3_1).f0)) ∧ w'.cell? ⟨(ad289.add ((x3_1).toNat * 2)).block, (ad289.add ((x3_1).toNat * 2)).off + 1, none⟩ = some (.int .i64 ((rd_T56 l0_1 x3_1).f1)) ∧ w'.cell? (ad289.add (((ji10)).toNat * 2)) = some (.string ((rd_T56 l0_1 (ji10)).f0)) ∧ w'.cell? ⟨(ad289.add (((ji10)).toNat * 2)).block, (ad289.add (((ji10)).toNat * 2)).off + 1, none⟩ = some (.int .i64 ((rd_T56 l0_1 (ji10)).f1))) (ds := []) (mk 38 0) (by kernel_rfl) rfl rfl ⟨cl_ BK286 0, cl_ BK286 1, cl_ BK286 2, cl_ BK286 3, (hc_ HB hw289_0), (hc_ HB hw289_1), (hc_ HB hw291_0), (hc_ HB hw291_1), (hc_ HB hw293_0), (hc_ HB hw293_1), (hc_ HB hw294_0), (hc_ HB hw294_1)⟩ (fun hHeld => ?_); refine with_tabW haberdashref10_rates.tab4 haberdashref10_rates.bits4 (fun HT_ HW_ => ?_)
    generalize wr.drew = w17 at BK286 HB hx289_0 hx289_1 hx291_0 hx291_1 hx293_0 hx293_1 hx294_0 hx294_1 hHeld ⊢
    refine ahead_ [(0, 11), (2, 13)] ?_
    iterate 2 (refine pB_ HT_ ?_)
    refine aheadE_ (mk 38 5) kr_ ?_
    refine take_ (i := 1) (N := some 12) (v := ?_) (a' := ?_) (mk 38 7) rfl rfl (tw_ HT_ HW_) nh_ (Or.inl ⟨by rfl, ?_⟩) hHeld ?_ ?_
    rotate_left
    ·
     rintro w' ⟨s0, s1, s2, s3, s4, s5, s6, s7, s8, s9, s10, s11⟩
     go_simp
     with_reducible rfl
    rotate_left; (exact pu_)
    refine ahead_ [(3, 14), (4, 15)] ?_
    iterate 2 (refine pB_ HT_ ?_)
    refine aheadE_ (mk 38 31) kr_ ?_
    refine take_ (i := 5) (N := some 16) (v := ?_) (a' := ?_) (mk 38 63) rfl rfl (tw_ HT_ HW_) nh_ (Or.inl ⟨by rfl, ?_⟩) hHeld ?_ ?_
    rotate_left
    ·
     rintro w' ⟨s0, s1, s2, s3, s4, s5, s6, s7, s8, s9, s10, s11⟩
     go_simp
     with_reducible rfl
    rotate_left; (exact pu_)
    refine one_ (i := 6) (N := some 17) (mk 38 127) rfl rfl (on_ HT_) de_ (fun K hK => ?_)
    refine goes_ Try.func45 (by kernel_rfl) rfl #[.string ((rd_T56 l0_1 x3_1).f0)] (by rfl) rfl rfl am_ ?_
    with_reducible refine (haberdashref10_Name.calls k1 ((rd_T56 l0_1 x3_1).f0) true _ A5.out).mono ?_
    rintro e w' ⟨rfl, ⟨nd, rfl⟩⟩
    refine ⟨_, rfl, ?_⟩
    refine hK.out _ _ ⟨cl_ BK286 0, cl_ BK286 1, cl_ BK286 2, cl_ BK286 3, (hc_ HB hw289_0), (hc_ HB hw289_1), (hc_ HB hw291_0), (hc_ HB hw291_1), (hc_ HB hw293_0), (hc_ HB hw293_1), (hc_ HB hw294_0), (hc_ HB hw294_1)⟩ (fun hHeld => ?_)
    clear hK K
    refine norm_ pv_ ?_
    refine ahead_ [(7, 18), (8, 19), (9, 20), (11, 22)] ?_
    iterate 4 (refine pB_ HT_ ?_)
    refine aheadE_ (mk 38 3071) kr_ ?_
    refine take_ (i := 10) (N := some 21) (v := ?_) (a' := ?_) (mk 38 4095) rfl rfl (tw_ HT_ HW_) nh_ (Or.inl ⟨by rfl, ?_⟩) hHeld ?_ ?_
    rotate_left
    ·
     rintro w' ⟨s0, s1, s2, s3, s4, s5, s6, s7, s8, s9, s10, s11⟩
     go_simp
     with_reducible rfl
    rotate_left; (exact pu_)
    refine ahead_ [(12, 23), (13, 24)] ?_
    iterate 2 (refine pB_ HT_ ?_)
    refine aheadE_ (mk 38 16383) kr_ ?_
    refine take_ (i := 14) (N := some 25) (v := ?_) (a' := ?_) (mk 38 32767) rfl rfl (tw_ HT_ HW_) nh_ (Or.inl ⟨by rfl, ?_⟩) hHeld ?_ ?_
    rotate_left
    ·
     rintro w' ⟨s0, s1, s2, s3, s4, s5, s6, s7, s8, s9, s10, s11⟩
     go_simp
     with_reducible rfl
    rotate_left; (exact pu_)
    refine one_ (i := 15) (N := some 26) (mk 38 65535) rfl rfl (on_ HT_) de_ (fun K hK => ?_)
    refine goes_ Try.func65 (by kernel_rfl) rfl #[.int .i64 ((rd_T56 l0_1 x3_1).f1), .int .i64 10000] (by rfl) rfl rfl am_ ?_
    with_reducible refine (haberdashref10_in.calls ((rd_T56 l0_1 x3_1).f1) 10000 true _ A7.out).mono ?_
    rintro e w' ⟨rfl, ⟨nd, rfl⟩⟩
    refine ⟨_, rfl, ?_⟩
    refine hK.out _ _ ⟨cl_ BK286 0, cl_ BK286 1, cl_ BK286 2, cl_ BK286 3, (hc_ HB hw289_0), (hc_ HB hw289_1), (hc_ HB hw291_0), (hc_ HB hw291_1), (hc_ HB hw293_0), (hc_ HB hw293_1), (hc_ HB hw294_0), (hc_ HB hw294_1)⟩ (fun hHeld => ?_)
    clear hK K
    refine norm_ pv_ ?_
    refine ahead_ [(16, 27), (17, 28), (18, 29), (19, 30), (20, 31), (21, 32), (22, 33), (24, 35), (28, 39), (30, 41), (31, 42)] ?_
    iterate 11 (refine pB_ HT_ ?_)
    refine aheadE_ (mk 38 3514826751) kr_ ?_
    refine take_ (i := 23) (N := some 34) (v := ?_) (a' := ?_) (mk 38 3523215359) rfl rfl (tw_ HT_ HW_) nh_ (Or.inl ⟨by rfl, ?_⟩) hHeld ?_ ?_
    rotate_left
    ·
     rintro w' ⟨s0, s1, s2, s3, s4, s5, s6, s7, s8, s9, s10, s11⟩
     go_simp
     with_reducible rfl
    rotate_left; (exact pu_)
    refine ahead_ [(25, 36), (26, 37)] ?_
    iterate 2 (refine pB_ HT_ ?_)
    refine aheadE_ (mk 38 3623878655) kr_ ?_
    refine ahead_ [(27, 38), (29, 40)] ?_
    iterate 2 (refine tA_ (v := ?_) (a' := ?_) rfl rfl HT_.out HW_.out (by kernel_rfl) (fun _ _ _ h => h) (Or.inl ⟨by rfl, ?_⟩) hHeld ?_ ?_; rotate_left; (rintro w' ⟨s0, s1, s2, s3, s4, s5, s6, s7, s8, s9, s10, s11⟩; go_simp; with_reducible rfl); rotate_left; (exact pu_))
    refine aheadE_ (mk 38 4294967295) kr_ ?_
    refine ahead_ [(32, 43), (33, 44)] ?_
    iterate 2 (refine pB_ HT_ ?_)
    refine aheadE_ (mk 38 17179869183) kr_ ?_
    refine take_ (i := 34) (N := some 45) (v := ?_) (a' := ?_) (mk 38 34359738367) rfl rfl (tw_ HT_ HW_) nh_ (Or.inl ⟨by rfl, ?_⟩) hHeld ?_ ?_
    rotate_left
    ·
     rintro w' ⟨s0, s1, s2, s3, s4, s5, s6, s7, s8, s9, s10, s11⟩
     go_simp
     with_reducible rfl
    rotate_left; (exact pu_)
    refine ahead_ [(35, 46), (36, 47), (37, 48)] ?_
    iterate 3 (refine pB_ HT_ ?_)
    refine aheadE_ (mk 38 274877906943) kr_ ?_
    refine done_ (done_of HT_.out (by kernel_rfl)) ?_
    try go_wp2
    go_ret
    exact ⟨by first | rfl | (simp [errW_none, errW_some] <;> rfl) | (simp only [← hji10]; first | rfl | (simp [errW_none, errW_some] <;> rfl)) | (simp [*, errW_none, errW_some] <;> rfl), hb1_ HB GE286⟩
   rw [if_pos c13] at H; have c13b0 : (Op.bytesLess (((rd_T56 l0_1 (ji10)).f0).toList) (((rd_T56 l0_1 x3_1).f0).toList)) = true := c13; clear c13; have H' := Aside0.mk H; clear H; obtain ⟨hcz14_0, hcz14_1, hcz14_2, hcz14_3⟩ := cz4_ BK286; obtain ⟨hfz14_0, hfz14_1, hfz14_2, hfz14_3⟩ := fz4_ BK286
   try go_wp2
   replace BK286 := Aside0.mk (blk_drew BK286.out); replace HB := Aside0.mk (below_drew1 HB.out); have p289 : 0 ≤ (x3_1 : Int) := of_decide_eq_true as_; have q289 : x3_1 < (l0_1.length : Int) := of_decide_eq_true as_; obtain ⟨ad289, e289, hx289_0, hx289_1⟩ := at_T56 HR0_1.out x3_1 p289 q289; have hw289_1 := hx289_1
   have hw289_0 := hx289_0; cases e289; replace hx289_0 := hd_ HB hx289_0; replace hx289_1 := hd_ HB hx289_1; replace p289 := eq_true p289; replace q289 := eq_true q289; have p291 : 0 ≤ (x3_1 : Int) := of_decide_eq_true as_; have q291 : x3_1 < (l0_1.length : Int) := of_decide_eq_true as_; obtain ⟨ad291, e291, hx291_0, hx291_1⟩ := at_T56 HR0_1.out x3_1 p291 q291
   have hw291_1 := hx291_1; have hw291_0 := hx291_0
   obtain rfl : ad289 = ad291 := (by injection e291)
   replace hx291_0 := hd_ HB hx291_0; replace hx291_1 := hd_ HB hx291_1; replace p291 := eq_true p291; replace q291 := eq_true q291; have p293 : 0 ≤ (x3_1 : Int) := of_decide_eq_true as_; have q293 : x3_1 < (l0_1.length : Int) := of_decide_eq_true as_; obtain ⟨ad293, e293, hx293_0, hx293_1⟩ := at_T56 HR0_1.out x3_1 p293 q293
   have hw293_1 := hx293_1; have hw293_0 := hx293_0
   obtain rfl : ad289 = ad293 := (by injection e293)
   replace hx293_0 := hd_ HB hx293_0; replace hx293_1 := hd_ HB hx293_1; replace p293 := eq_true p293; replace q293 := eq_true q293; have p294 : 0 ≤ ((ji10) : Int) := of_decide_eq_true as_; have q294 : (ji10) < (l0_1.length : Int) := of_decide_eq_true as_; obtain ⟨ad294, e294, hx294_0, hx294_1⟩ := at_T56 HR0_1.out (ji10) p294 q294
   have hw294_1 := hx294_1; have hw294_0 := hx294_0
   obtain rfl : ad289 = ad294 := (by injection e294)
   replace hx294_0 := hd_ HB hx294_0; replace hx294_1 := hd_ HB hx294_1; replace p294 := eq_true p294; replace q294 := eq_true q294
   refine start_ (n := 38) (S := fun w' => w'.cell? ⟨gb286, 0, none⟩ = some (.string a0_0) ∧ w'.cell? ⟨gb286, 1, none⟩ = some (.slice (some ad289) l0_1.length c0_1) ∧ w'.cell? ⟨gb286, 2, none⟩ = some (.int .i64 a0_2) ∧ w'.cell? ⟨gb286, 3, none⟩ = some (.int .i64 a0_3) ∧ w'.cell? (ad289.add ((x3_1).toNat * 2)) = some (.string ((rd_T56 l0_1 x3_1).f0)) ∧ w'.cell? ⟨(ad289.add ((x3_1).toNat * 2)).block, (ad289.add ((x3_1).toNat * 2)).off + 1, none⟩ = some (.int .i64 ((rd_T56 l0_1 x3_1).f1)) ∧ w'.cell? (ad289.add ((x3_1).toNat * 2)) = some (.string ((rd_T56 l0_1 x3_1).f0)) ∧ w'.cell? ⟨(ad289.add ((x3_1).toNat * 2)).block, (ad289.add ((x3_1).toNat * 2)).off + 1, none⟩ = some (.int .i64 ((rd_T56 l0_1 x3_1).f1)) ∧ w'.cell? (ad289.add ((x3_1).toNat * 2)) = some (.string ((rd_T56 l0_1 x3_1).f0)) ∧ w'.cell? ⟨(ad289.add ((x3_1).toNat * 2)).block, (ad289.add ((x3_1).toNat * 2)).off + 1, none⟩ = some (.int .i64 ((rd_T56 l0_1 x3_1).f1)) ∧ w'.cell? (ad289.add (((ji10)).toNat * 2)) = some (.string ((rd_T56 l0_1 (ji10)).f0)) ∧ w'.cell? ⟨(ad289.add (((ji10)).toNat * 2)).block, (ad289.add (((ji10)).toNat * 2)).off + 1, none⟩ = some (.int .i64 ((rd_T56 l0_1 (ji10)).f1))) (ds := []) (mk 38 0) (by kernel_rfl) rfl rfl ⟨cl_ BK286 0, cl_ BK286 1, cl_ BK286 2, cl_ BK286 3, (hc_ HB hw289_0), (hc_ HB hw289_1), (hc_ HB hw291_0), (hc_ HB hw291_1), (hc_ HB hw293_0), (hc_ HB hw293_1), (hc_ HB hw294_0), (hc_ HB hw294_1)⟩ (fun hHeld => ?_); refine with_tabW haberdashref10_rates.tab4 haberdashref10_rates.bits4 (fun HT_ HW_ => ?_)
   generalize wr.drew = w15 at BK286 HB hx289_0 hx289_1 hx291_0 hx291_1 hx293_0 hx293_1 hx294_0 hx294_1 hHeld ⊢
   refine ahead_ [(0, 11), (2, 13)] ?_
   iterate 2 (refine pB_ HT_ ?_)
   refine aheadE_ (mk 38 5) kr_ ?_
   refine take_ (i := 1) (N := some 12) (v := ?_) (a' := ?_) (mk 38 7) rfl rfl (tw_ HT_ HW_) nh_ (Or.inl ⟨by rfl, ?_⟩) hHeld ?_ ?_
   rotate_left
   ·
    rintro w' ⟨s0, s1, s2, s3, s4, s5, s6, s7, s8, s9, s10, s11⟩
    go_simp
    with_reducible rfl
   rotate_left; (exact pu_)
   refine ahead_ [(3, 14), (4, 15)] ?_
   iterate 2 (refine pB_ HT_ ?_)
   refine aheadE_ (mk 38 31) kr_ ?_
   refine take_ (i := 5) (N := some 16) (v := ?_) (a' := ?_) (mk 38 63) rfl rfl (tw_ HT_ HW_) nh_ (Or.inl ⟨by rfl, ?_⟩) hHeld ?_ ?_
   rotate_left
   ·
    rintro w' ⟨s0, s1, s2, s3, s4, s5, s6, s7, s8, s9, s10, s11⟩
    go_simp
    with_reducible rfl
   rotate_left; (exact pu_)
   refine one_ (i := 6) (N := some 17) (mk 38 127) rfl rfl (on_ HT_) de_ (fun K hK => ?_)
   refine goes_ Try.func45 (by kernel_rfl) rfl #[.string ((rd_T56 l0_1 x3_1).f0)] (by rfl) rfl rfl am_ ?_
   with_reducible refine (haberdashref10_Name.calls k1 ((rd_T56 l0_1 x3_1).f0) true _ A5.out).mono ?_
   rintro e w' ⟨rfl, ⟨nd, rfl⟩⟩
   refine ⟨_, rfl, ?_⟩
   refine hK.out _ _ ⟨cl_ BK286 0, cl_ BK286 1, cl_ BK286 2, cl_ BK286 3, (hc_ HB hw289_0), (hc_ HB hw289_1), (hc_ HB hw291_0), (hc_ HB hw291_1), (hc_ HB hw293_0), (hc_ HB hw293_1), (hc_ HB hw294_0), (hc_ HB hw294_1)⟩ (fun hHeld => ?_)
   clear hK K
   refine norm_ pv_ ?_
   refine ahead_ [(7, 18), (8, 19), (9, 20), (11, 22)] ?_
   iterate 4 (refine pB_ HT_ ?_)
   refine aheadE_ (mk 38 3071) kr_ ?_
   refine take_ (i := 10) (N := some 21) (v := ?_) (a' := ?_) (mk 38 4095) rfl rfl (tw_ HT_ HW_) nh_ (Or.inl ⟨by rfl, ?_⟩) hHeld ?_ ?_
   rotate_left
   ·
    rintro w' ⟨s0, s1, s2, s3, s4, s5, s6, s7, s8, s9, s10, s11⟩
    go_simp
    with_reducible rfl
   rotate_left; (exact pu_)
   refine ahead_ [(12, 23), (13, 24)] ?_
   iterate 2 (refine pB_ HT_ ?_)
   refine aheadE_ (mk 38 16383) kr_ ?_
   refine take_ (i := 14) (N := some 25) (v := ?_) (a' := ?_) (mk 38 32767) rfl rfl (tw_ HT_ HW_) nh_ (Or.inl ⟨by rfl, ?_⟩) hHeld ?_ ?_
   rotate_left
   ·
    rintro w' ⟨s0, s1, s2, s3, s4, s5, s6, s7, s8, s9, s10, s11⟩
    go_simp
    with_reducible rfl
   rotate_left; (exact pu_)
   refine one_ (i := 15) (N := some 26) (mk 38 65535) rfl rfl (on_ HT_) de_ (fun K hK => ?_)
   refine goes_ Try.func65 (by kernel_rfl) rfl #[.int .i64 ((rd_T56 l0_1 x3_1).f1), .int .i64 10000] (by rfl) rfl rfl am_ ?_
   with_reducible refine (haberdashref10_in.calls ((rd_T56 l0_1 x3_1).f1) 10000 true _ A7.out).mono ?_
   rintro e w' ⟨rfl, ⟨nd, rfl⟩⟩
   refine ⟨_, rfl, ?_⟩
   refine hK.out _ _ ⟨cl_ BK286 0, cl_ BK286 1, cl_ BK286 2, cl_ BK286 3, (hc_ HB hw289_0), (hc_ HB hw289_1), (hc_ HB hw291_0), (hc_ HB hw291_1), (hc_ HB hw293_0), (hc_ HB hw293_1), (hc_ HB hw294_0), (hc_ HB hw294_1)⟩ (fun hHeld => ?_)
   clear hK K
   refine norm_ pv_ ?_
   refine ahead_ [(16, 27), (17, 28), (18, 29), (19, 30), (20, 31), (21, 32), (22, 33), (24, 35), (28, 39), (30, 41), (31, 42)] ?_
   iterate 11 (refine pB_ HT_ ?_)
   refine aheadE_ (mk 38 3514826751) kr_ ?_
   refine take_ (i := 23) (N := some 34) (v := ?_) (a' := ?_) (mk 38 3523215359) rfl rfl (tw_ HT_ HW_) nh_ (Or.inl ⟨by rfl, ?_⟩) hHeld ?_ ?_
   rotate_left
   ·
    rintro w' ⟨s0, s1, s2, s3, s4, s5, s6, s7, s8, s9, s10, s11⟩
    go_simp
    with_reducible rfl
   rotate_left; (exact pu_)
   refine ahead_ [(25, 36), (26, 37)] ?_
   iterate 2 (refine pB_ HT_ ?_)
   refine aheadE_ (mk 38 3623878655) kr_ ?_
   refine ahead_ [(27, 38), (29, 40)] ?_
   iterate 2 (refine tA_ (v := ?_) (a' := ?_) rfl rfl HT_.out HW_.out (by kernel_rfl) (fun _ _ _ h => h) (Or.inl ⟨by rfl, ?_⟩) hHeld ?_ ?_; rotate_left; (rintro w' ⟨s0, s1, s2, s3, s4, s5, s6, s7, s8, s9, s10, s11⟩; go_simp; with_reducible rfl); rotate_left; (exact pu_))
   refine aheadE_ (mk 38 4294967295) kr_ ?_
   refine ahead_ [(32, 43), (33, 44)] ?_
   iterate 2 (refine pB_ HT_ ?_)
   refine aheadE_ (mk 38 17179869183) kr_ ?_
   refine take_ (i := 34) (N := some 45) (v := ?_) (a' := ?_) (mk 38 34359738367) rfl rfl (tw_ HT_ HW_) nh_ (Or.inl ⟨by rfl, ?_⟩) hHeld ?_ ?_
   rotate_left
   ·
    rintro w' ⟨s0, s1, s2, s3, s4, s5, s6, s7, s8, s9, s10, s11⟩
    go_simp
    with_reducible rfl
   rotate_left; (exact pu_)
   refine ahead_ [(35, 46), (36, 47), (37, 48)] ?_
   iterate 3 (refine pB_ HT_ ?_)
   refine aheadE_ (mk 38 274877906943) kr_ ?_
   refine done_ (done_of HT_.out (by kernel_rfl)) ?_
   try go_wp2
   go_roundg k1
   case measure => have := HK1.out; omega
   case rel => exact ⟨(wrap64 (x3_1 + 1)), rf_, H', ⟨ho_ HK1⟩, ⟨bk_ BK286⟩, ⟨hb1_ HB GE286⟩⟩

end Go.Proofs.Ytmiamdnhofjifaa.Rw
end
section
/- Functions of the program as Lean functions, each with its contract: out of what the kit's printer wrote for this seat. -/
namespace Go.Proofs.Ytmiamdnhofjifaa.Rw
open Go.RowKit Go.Proofs.YtmiamdnhofjifaaW.PrintWords Go.Proofs.YtmiamdnhofjifaaW.PrintLast Go.Proofs.YtmiamdnhofjifaaW.PrintMore
attribute [local go_sem] max2_int min2_int max_two min_two max_three min_three max_four min_four   -- for this text's walks alone
set_option linter.unusedVariables false
set_option linter.unusedSimpArgs false
attribute [local go_sem high] leqS gtrS

/-! ### haberdashref10_Tax: function 27 -/
def haberdashref10_Tax.l0 : Nat → Int → Bool → Bool → Int → List (S51) → Option (Bool)
 | 0, _, _, _, _, _ => none
 | k + 1, x3, x296000, x296001, x296002, x296003 => if x3 < (x296003.length : Int) then (if 0 ≤ x3 then ((haberdashref10_Name.f k ((rd_T51 x296003 x3).f0)).bind fun t297 => (if t297 = true then ((haberdashref10_rates.f k ((rd_T51 x296003 x3).f0) ((rd_T51 x296003 x3).f1) ((rd_T51 x296003 x3).f2) ((rd_T51 x296003 x3).f3)).bind fun t299 => (if t299 = true then (if x3 > 0 then (if 0 ≤ (wrap64 (x3 - 1)) then (if (wrap64 (x3 - 1)) < (x296003.length : Int) then (if ((Op.bytesLess (((rd_T51 x296003 (wrap64 (x3 - 1))).f0).toList) (((rd_T51 x296003 x3).f0).toList)) = true) then (haberdashref10_Tax.l0 k (wrap64 (x3 + 1)) x296000 x296001 x296002 x296003) else (some false)) else (none)) else (none)) else (haberdashref10_Tax.l0 k (wrap64 (x3 + 1)) x296000 x296001 x296002 x296003)) else (some false))) else (some false))) else (none)) else (if (x296003.length : Int) ≤ 20 then (if x296002 ≥ 0 then (some (decide (x296002 ≤ 2))) else (some false)) else (some false))
def haberdashref10_Tax.f (k : Nat) (a0_0 : Bool) (a0_1 : Bool) (a0_2 : Int) (l0_3 : List (S51)) : Option (Bool) := haberdashref10_Tax.l0 k 0 a0_0 a0_1 a0_2 l0_3
def haberdashref10_Tax.T4 : Bool × List (List Nat × List Nat) := (true, [([], []), ([0], [0]), ([], []), ([1, 2], [1, 2]), ([3], [3]), ([4], [4]), ([5], [5]), ([6], [6]), ([7, 6], [7]), ([8], [8]), ([9, 8], [8, 9]), ([8], [8]), ([10, 11, 8], [8, 10, 11]), ([12, 8], [8, 12]), ([13, 8, 8], [8, 13]), ([14, 8], [8, 14]), ([8, 15], [8, 15]), ([16, 14], [16]), ([17], [17]), ([18, 17], [17, 18]), ([19, 17, 17], [17, 19]), ([20], [20]), ([21, 20], [20, 21]), ([20], [20]), ([22, 23, 20], [20, 22, 23]), ([24, 20], [20, 24]), ([25, 20], [20, 25]), ([20], [20]), ([27, 20], [20, 27]), ([20], [20]), ([29, 20], [20, 29]), ([28, 30, 20], [20, 28, 30]), ([31, 20], [20, 31]), ([32, 20], [20, 32]), ([26, 33, 20], [20, 26, 33]), ([20, 34, 17], [17, 20, 34]), ([17, 35], [17, 35])])
def haberdashref10_Tax.B4 : List Nat := [0, 1, 0, 7, 15, 31, 63, 127, 255, 511, 1023, 511, 4095, 8191, 16383, 32767, 65535, 131071, 262143, 524287, 1048575, 2097151, 4194303, 2097151, 16777215, 33554431, 67108863, 2097151, 136314879, 2097151, 538968063, 2015363071, 4162846719, 8457814015, 17179869183, 34359738367, 68719476735]
theorem haberdashref10_Tax.tab4 : rtab .any (opsOf Try.f27 4) = haberdashref10_Tax.T4 := by kernel_rfl
theorem haberdashref10_Tax.bits4 : waitsOk haberdashref10_Tax.T4.2 haberdashref10_Tax.B4 = true := by kernel_rfl
set_option maxHeartbeats 8000000 in
set_option maxRecDepth 100000 in
theorem haberdashref10_Tax.calls (k : Nat) (a0_0 : Bool) (a0_1 : Bool) (a0_2 : Int) (A0_3 : Option Addr) (c0_3 : Nat) (l0_3 : List (S51)) (r : Bool) (w : World) (hr0_3 : Kd.C k51 w A0_3 l0_3.length l0_3) (hc0_3 : l0_3.length ≤ c0_3) (h : haberdashref10_Tax.f k a0_0 a0_1 a0_2 l0_3 = some r) :
 Calls Try.prog 27 #[.agg #[.bool a0_0, .bool a0_1, .int .i64 a0_2, .slice A0_3 l0_3.length c0_3]] w fun e w' => e = .returned (.bool r) ∧ Below w.heap.size w w' := by
 have hu24 := Try.underlying24
 have hu51 := Try.underlying51
 have HR0_3 := Aside0.mk hr0_3
 have HC0_3 := Aside0.mk hc0_3
 clear hr0_3 hc0_3
 have HB := Aside0.mk (Below.refl w.heap.size w)
 have H : (haberdashref10_Tax.l0 k 0 a0_0 a0_1 a0_2 l0_3) = some r := h
 clear h
 have H' := Aside0.mk H
 clear H
 go_enter Try.func27, Try.ntmps27
 go_wp2_with (first | ((with_reducible refine gate_dst (N := 1) rfl ?_); refine box_event rf_ (N := 1) rf_ (cs := #[.bool a0_0, .bool a0_1, .int .i64 a0_2, .slice A0_3 l0_3.length c0_3]) (t := 24) lr_ ?_; intro gb295 hg w2 hbox hb; have BK295 := Aside0.mk hbox; have GE295 := Aside0.mk (ge_ HB hg (hb0_ HB)); replace HB := Aside0.mk (below_step (hb0_ HB) hb); clear hb hbox hg))
 go_loopg [3] k (fun kq v3 w' => ∃ (x3_1 : Int), v3 = .int .i64 x3_1 ∧ Aside0 (haberdashref10_Tax.l0 kq x3_1 a0_0 a0_1 a0_2 l0_3 = some r) ∧ Aside0 (kq ≤ k) ∧ Aside0 (w'.heap[gb295]? = some (.cells #[.bool a0_0, .bool a0_1, .int .i64 a0_2, (.slice A0_3 l0_3.length c0_3)] 24 (0, 0))) ∧ Aside0 (Below w.heap.size w w'))
 case atStart => exact ⟨(0), rf_, H', ⟨Nat.le_refl _⟩, ⟨bk_ BK295⟩, ⟨hb1_ HB GE295⟩⟩
 case round =>
  clear H'; (try clear c2); (try clear p2); obtain ⟨x3_1, rfl, HA, HK1, BK295, HB⟩ := hrel
  cases gk with
  | zero => exact absurd HA.out (by simp [haberdashref10_Tax.l0])
  | succ k1 =>
   have H := HA.out; clear HA
   simp only [haberdashref10_Tax.l0] at H
   by_cases c3 : x3_1 < (l0_3.length : Int)
   rotate_left
   ·
    rw [if_neg c3] at H; have c3b0 := decide_eq_false c3; clear c3
    by_cases c28 : (l0_3.length : Int) ≤ 20
    rotate_left
    ·
     rw [if_neg c28] at H; have c28b0 := decide_eq_false c28
     have c28b1 : decide (l0_3.length ≤ 20) = false := decide_eq_false (by omega)
     clear c28; obtain rfl := Option.some.inj H; obtain ⟨hcz32_0, hcz32_1, hcz32_2, hcz32_3⟩ := cz4_ BK295; obtain ⟨hfz32_0, hfz32_1, hfz32_2, hfz32_3⟩ := fz4_ BK295
     go_wp2
     go_ret
     exact ⟨er_, hb1_ HB GE295⟩
    rw [if_pos c28] at H; have c28b0 := decide_eq_true c28
    have c28b1 : decide (l0_3.length ≤ 20) = true := decide_eq_true (by omega)
    clear c28
    by_cases c29 : a0_2 ≥ 0
    rotate_left
    ·
     rw [if_neg c29] at H; have c29b0 := decide_eq_false c29; clear c29; obtain rfl := Option.some.inj H; obtain ⟨hcz31_0, hcz31_1, hcz31_2, hcz31_3⟩ := cz4_ BK295; obtain ⟨hfz31_0, hfz31_1, hfz31_2, hfz31_3⟩ := fz4_ BK295
     go_wp2
     go_ret
     exact ⟨er_, hb1_ HB GE295⟩
    rw [if_pos c29] at H; have c29b0 := decide_eq_true c29; clear c29; obtain rfl := Option.some.inj H; obtain ⟨hcz30_0, hcz30_1, hcz30_2, hcz30_3⟩ := cz4_ BK295; obtain ⟨hfz30_0, hfz30_1, hfz30_2, hfz30_3⟩ := fz4_ BK295
    go_wp2
    go_ret
    exact ⟨er_, hb1_ HB GE295⟩
   rw [if_pos c3] at H; have c3b0 := decide_eq_true c3; clear c3; replace H := ip_ H; obtain ⟨c4, H⟩ := H; have c4b0 := decide_eq_true c4; clear c4; replace H := Option.bind_eq_some_iff.mp H; obtain ⟨t297, A50, H⟩ := H
   (try dsimp only at H)
   have A5 := Aside0.mk A50; clear A50
   by_cases c6 : t297 = true
   rotate_left
   ·
    replace c6 := Bool.eq_false_iff.mpr c6; subst c6; rw [if_neg nf_] at H; obtain rfl := Option.some.inj H; obtain ⟨hcz26_0, hcz26_1, hcz26_2, hcz26_3⟩ := cz4_ BK295; obtain ⟨hfz26_0, hfz26_1, hfz26_2, hfz26_3⟩ := fz4_ BK295
    try go_wp2
    replace BK295 := Aside0.mk (blk_drew BK295.out); replace HB := Aside0.mk (below_drew1 HB.out); have p296 : 0 ≤ (x3_1 : Int) := of_decide_eq_true as_; have q296 : x3_1 < (l0_3.length : Int) := of_decide_eq_true as_; obtain ⟨ad296, A296_1, c296_1, e296, hx296_0, hx296_1, hx296_2, hx296_3, hl296_1, hi296_1⟩ := at_T51 HR0_3.out x3_1 p296 q296
    have hw296_3 := hx296_3; have hw296_2 := hx296_2; have hw296_1 := hx296_1; have hw296_0 := hx296_0; cases e296; replace hx296_0 := hd_ HB hx296_0; replace hx296_1 := hd_ HB hx296_1; replace hx296_2 := hd_ HB hx296_2; replace hx296_3 := hd_ HB hx296_3; have HR296_1 := Aside0.mk hi296_1; have HC296_1 := Aside0.mk hl296_1
    clear hi296_1 hl296_1; replace p296 := eq_true p296; replace q296 := eq_true q296
    refine start_ (n := 37) (S := fun w' => w'.cell? ⟨gb295, 0, none⟩ = some (.bool a0_0) ∧ w'.cell? ⟨gb295, 1, none⟩ = some (.bool a0_1) ∧ w'.cell? ⟨gb295, 2, none⟩ = some (.int .i64 a0_2) ∧ w'.cell? ⟨gb295, 3, none⟩ = some (.slice (some ad296) l0_3.length c0_3) ∧ w'.cell? (ad296.add ((x3_1).toNat * 4)) = some (.string ((rd_T51 l0_3 x3_1).f0)) ∧ w'.cell? ⟨(ad296.add ((x3_1).toNat * 4)).block, (ad296.add ((x3_1).toNat * 4)).off + 1, none⟩ = some (.slice A296_1 ((rd_T51 l0_3 x3_1).f1).length c296_1) ∧ w'.cell? ⟨(ad296.add ((x3_1).toNat * 4)).block, (ad296.add ((x3_1).toNat * 4)).off + 2, none⟩ = some (.int .i64 ((rd_T51 l0_3 x3_1).f2)) ∧ w'.cell? ⟨(ad296.add ((x3_1).toNat * 4)).block, (ad296.add ((x3_1).toNat * 4)).off + 3, none⟩ = some (.int .i64 ((rd_T51 l0_3 x3_1).f3))) (ds := []) (mk 37 0) (by kernel_rfl) rfl rfl ⟨cl_ BK295 0, cl_ BK295 1, cl_ BK295 2, cl_ BK295 3, (hc_ HB hw296_0), (hc_ HB hw296_1), (hc_ HB hw296_2), (hc_ HB hw296_3)⟩ (fun hHeld => ?_); refine with_tabW haberdashref10_Tax.tab4 haberdashref10_Tax.bits4 (fun HT_ HW_ => ?_)
    generalize wr.drew = w27 at BK295 HB HR296_1 hx296_0 hx296_1 hx296_2 hx296_3 hHeld ⊢
    refine ahead_ [(0, 11), (2, 13)] ?_
    iterate 2 (refine pB_ HT_ ?_)
    refine aheadE_ (mk 37 5) kr_ ?_
    refine take_ (i := 1) (N := some 12) (v := ?_) (a' := ?_) (mk 37 7) rfl rfl (tw_ HT_ HW_) nh_ (Or.inl ⟨by rfl, ?_⟩) hHeld ?_ ?_
    rotate_left
    ·
     rintro w' ⟨s0, s1, s2, s3, s4, s5, s6, s7⟩
     go_simp
     with_reducible rfl
    rotate_left; (exact pu_)
    refine ahead_ [(3, 14), (4, 15)] ?_
    iterate 2 (refine pB_ HT_ ?_)
    refine aheadE_ (mk 37 31) kr_ ?_
    refine take_ (i := 5) (N := some 16) (v := ?_) (a' := ?_) (mk 37 63) rfl rfl (tw_ HT_ HW_) nh_ (Or.inl ⟨by rfl, ?_⟩) hHeld ?_ ?_
    rotate_left
    ·
     rintro w' ⟨s0, s1, s2, s3, s4, s5, s6, s7⟩
     go_simp
     with_reducible rfl
    rotate_left; (exact pu_)
    refine one_ (i := 6) (N := some 17) (mk 37 127) rfl rfl (on_ HT_) de_ (fun K hK => ?_)
    refine goes_ Try.func45 (by kernel_rfl) rfl #[.string ((rd_T51 l0_3 x3_1).f0)] (by rfl) rfl rfl am_ ?_
    with_reducible refine (haberdashref10_Name.calls k1 ((rd_T51 l0_3 x3_1).f0) false _ A5.out).mono ?_
    rintro e w' ⟨rfl, ⟨nd, rfl⟩⟩
    refine ⟨_, rfl, ?_⟩
    refine hK.out _ _ ⟨cl_ BK295 0, cl_ BK295 1, cl_ BK295 2, cl_ BK295 3, (hc_ HB hw296_0), (hc_ HB hw296_1), (hc_ HB hw296_2), (hc_ HB hw296_3)⟩ (fun hHeld => ?_)
    clear hK K
    refine norm_ pv_ ?_
    refine ahead_ [(7, 18), (8, 19)] ?_
    iterate 2 (refine pB_ HT_ ?_)
    refine aheadE_ (mk 37 511) kr_ ?_
    refine ahead_ [(9, 20), (10, 21), (11, 22), (12, 23), (13, 24), (14, 25), (15, 26)] ?_
    iterate 7 (refine pA_ (v := undef) (a' := ?_) rfl rfl HT_.out kr_ nh_ ru_ ?_ ?_; rotate_left; (exact pu_))
    refine aheadE_ (mk 37 65535) kr_ ?_
    refine ahead_ [(16, 27), (17, 28)] ?_
    iterate 2 (refine pB_ HT_ ?_)
    refine aheadE_ (mk 37 262143) kr_ ?_
    refine ahead_ [(18, 29), (19, 30), (20, 31), (21, 32), (22, 33), (23, 34), (24, 35), (25, 36), (26, 37), (27, 38), (28, 39), (29, 40), (30, 41), (31, 42), (32, 43), (33, 44), (34, 45), (35, 46)] ?_
    iterate 18 (refine pA_ (v := undef) (a' := ?_) rfl rfl HT_.out kr_ nh_ ru_ ?_ ?_; rotate_left; (exact pu_))
    refine aheadE_ (mk 37 68719476735) kr_ ?_
    refine pure_ (i := 36) (N := some 47) (v := ?_) (a' := ?_) (mk 37 137438953471) rfl rfl (an_ HT_) nh_ (Or.inl ⟨ry_, ?_⟩) ?_ ?_
    rotate_left; (intro w'; go_simp; with_reducible rfl)
    rotate_left; (exact pu_)
    refine done_ (done_of HT_.out (by kernel_rfl)) ?_
    try go_wp2
    go_ret
    exact ⟨er_, hb1_ HB GE295⟩
   subst c6; rw [if_pos rfl] at H; replace H := Option.bind_eq_some_iff.mp H; obtain ⟨t299, A70, H⟩ := H
   (try dsimp only at H)
   have A7 := Aside0.mk A70; clear A70
   by_cases c8 : t299 = true
   rotate_left
   ·
    replace c8 := Bool.eq_false_iff.mpr c8; subst c8; rw [if_neg nf_] at H; obtain rfl := Option.some.inj H; obtain ⟨hcz23_0, hcz23_1, hcz23_2, hcz23_3⟩ := cz4_ BK295; obtain ⟨hfz23_0, hfz23_1, hfz23_2, hfz23_3⟩ := fz4_ BK295
    try go_wp2
    replace BK295 := Aside0.mk (blk_drew BK295.out); replace HB := Aside0.mk (below_drew1 HB.out); have p296 : 0 ≤ (x3_1 : Int) := of_decide_eq_true as_; have q296 : x3_1 < (l0_3.length : Int) := of_decide_eq_true as_; obtain ⟨ad296, A296_1, c296_1, e296, hx296_0, hx296_1, hx296_2, hx296_3, hl296_1, hi296_1⟩ := at_T51 HR0_3.out x3_1 p296 q296
    have hw296_3 := hx296_3; have hw296_2 := hx296_2; have hw296_1 := hx296_1; have hw296_0 := hx296_0; cases e296; replace hx296_0 := hd_ HB hx296_0; replace hx296_1 := hd_ HB hx296_1; replace hx296_2 := hd_ HB hx296_2; replace hx296_3 := hd_ HB hx296_3; have HR296_1 := Aside0.mk hi296_1; have HC296_1 := Aside0.mk hl296_1
    clear hi296_1 hl296_1; replace p296 := eq_true p296; replace q296 := eq_true q296; have p298 : 0 ≤ (x3_1 : Int) := of_decide_eq_true as_; have q298 : x3_1 < (l0_3.length : Int) := of_decide_eq_true as_; obtain ⟨ad298, A298_1, c298_1, e298, hx298_0, hx298_1, hx298_2, hx298_3, hl298_1, hi298_1⟩ := at_T51 HR0_3.out x3_1 p298 q298
    have hw298_3 := hx298_3; have hw298_2 := hx298_2; have hw298_1 := hx298_1; have hw298_0 := hx298_0
    obtain rfl : ad296 = ad298 := (by injection e298)
    replace hx298_0 := hd_ HB hx298_0; replace hx298_1 := hd_ HB hx298_1; replace hx298_2 := hd_ HB hx298_2; replace hx298_3 := hd_ HB hx298_3; have HR298_1 := Aside0.mk hi298_1; have HC298_1 := Aside0.mk hl298_1; clear hi298_1 hl298_1; replace p298 := eq_true p298; replace q298 := eq_true q298; have ea_ := Option.some.inj (hx296_1.symm.trans hx298_1)
    injection ea_ with ea_ en_ ec_
    subst ea_; subst ec_; clear en_
    refine start_ (n := 37) (S := fun w' => w'.cell? ⟨gb295, 0, none⟩ = some (.bool a0_0) ∧ w'.cell? ⟨gb295, 1, none⟩ = some (.bool a0_1) ∧ w'.cell? ⟨gb295, 2, none⟩ = some (.int .i64 a0_2) ∧ w'.cell? ⟨gb295, 3, none⟩ = some (.slice (some ad296) l0_3.length c0_3) ∧ w'.cell? (ad296.add ((x3_1).toNat * 4)) = some (.string ((rd_T51 l0_3 x3_1).f0)) ∧ w'.cell? ⟨(ad296.add ((x3_1).toNat * 4)).block, (ad296.add ((x3_1).toNat * 4)).off + 1, none⟩ = some (.slice A296_1 ((rd_T51 l0_3 x3_1).f1).length c296_1) ∧ w'.cell? ⟨(ad296.add ((x3_1).toNat * 4)).block, (ad296.add ((x3_1).toNat * 4)).off + 2, none⟩ = some (.int .i64 ((rd_T51 l0_3 x3_1).f2)) ∧ w'.cell? ⟨(ad296.add ((x3_1).toNat * 4)).block, (ad296.add ((x3_1).toNat * 4)).off + 3, none⟩ = some (.int .i64 ((rd_T51 l0_3 x3_1).f3)) ∧ w'.cell? (ad296.add ((x3_1).toNat * 4)) = some (.string ((rd_T51 l0_3 x3_1).f0)) ∧ w'.cell? ⟨(ad296.add ((x3_1).toNat * 4)).block, (ad296.add ((x3_1).toNat * 4)).off + 1, none⟩ = some (.slice A296_1 ((rd_T51 l0_3 x3_1).f1).length c296_1) ∧ w'.cell? ⟨(ad296.add ((x3_1).toNat * 4)).block, (ad296.add ((x3_1).toNat * 4)).off + 2, none⟩ = some (.int .i64 ((rd_T51 l0_3 x3_1).f2)) ∧ w'.cell? ⟨(ad296.add ((x3_1).toNat * 4)).block, (ad296.add ((x3_1).toNat * 4)).off + 3, none⟩ = some (.int .i64 ((rd_T51 l0_3 x3_1).f3))) (ds := []) (mk 37 0) (by kernel_rfl) rfl rfl ⟨cl_ BK295 0, cl_ BK295 1, cl_ BK295 2, cl_ BK295 3, (hc_ HB hw296_0), (hc_ HB hw296_1), (hc_ HB hw296_2), (hc_ HB hw296_3), (hc_ HB hw298_0), (hc_ HB hw298_1), (hc_ HB hw298_2), (hc_ HB hw298_3)⟩ (fun hHeld => ?_); refine with_tabW haberdashref10_Tax.tab4 haberdashref10_Tax.bits4 (fun HT_ HW_ => ?_)
    generalize wr.drew = w24 at BK295 HB HR296_1 HR298_1 hx296_0 hx296_1 hx296_2 hx296_3 hx298_0 hx298_1 hx298_2 hx298_3 hHeld ⊢
    refine ahead_ [(0, 11), (2, 13)] ?_
    iterate 2 (refine pB_ HT_ ?_)
    refine aheadE_ (mk 37 5) kr_ ?_
    refine take_ (i := 1) (N := some 12) (v := ?_) (a' := ?_) (mk 37 7) rfl rfl (tw_ HT_ HW_) nh_ (Or.inl ⟨by rfl, ?_⟩) hHeld ?_ ?_
    rotate_left
    ·
     rintro w' ⟨s0, s1, s2, s3, s4, s5, s6, s7, s8, s9, s10, s11⟩
     go_simp
     with_reducible rfl
    rotate_left; (exact pu_)
    refine ahead_ [(3, 14), (4, 15)] ?_
    iterate 2 (refine pB_ HT_ ?_)
    refine aheadE_ (mk 37 31) kr_ ?_
    refine take_ (i := 5) (N := some 16) (v := ?_) (a' := ?_) (mk 37 63) rfl rfl (tw_ HT_ HW_) nh_ (Or.inl ⟨by rfl, ?_⟩) hHeld ?_ ?_
    rotate_left
    ·
     rintro w' ⟨s0, s1, s2, s3, s4, s5, s6, s7, s8, s9, s10, s11⟩
     go_simp
     with_reducible rfl
    rotate_left; (exact pu_)
    refine one_ (i := 6) (N := some 17) (mk 37 127) rfl rfl (on_ HT_) de_ (fun K hK => ?_)
    refine goes_ Try.func45 (by kernel_rfl) rfl #[.string ((rd_T51 l0_3 x3_1).f0)] (by rfl) rfl rfl am_ ?_
    with_reducible refine (haberdashref10_Name.calls k1 ((rd_T51 l0_3 x3_1).f0) true _ A5.out).mono ?_
    rintro e w' ⟨rfl, ⟨nd, rfl⟩⟩
    refine ⟨_, rfl, ?_⟩
    refine hK.out _ _ ⟨cl_ BK295 0, cl_ BK295 1, cl_ BK295 2, cl_ BK295 3, (hc_ HB hw296_0), (hc_ HB hw296_1), (hc_ HB hw296_2), (hc_ HB hw296_3), (hc_ HB hw298_0), (hc_ HB hw298_1), (hc_ HB hw298_2), (hc_ HB hw298_3)⟩ (fun hHeld => ?_)
    clear hK K
    refine norm_ pv_ ?_
    refine ahead_ [(7, 18), (8, 19), (9, 20), (11, 22)] ?_
    iterate 4 (refine pB_ HT_ ?_)
    refine aheadE_ (mk 37 3071) kr_ ?_
    refine take_ (i := 10) (N := some 21) (v := ?_) (a' := ?_) (mk 37 4095) rfl rfl (tw_ HT_ HW_) nh_ (Or.inl ⟨by rfl, ?_⟩) hHeld ?_ ?_
    rotate_left
    ·
     rintro w' ⟨s0, s1, s2, s3, s4, s5, s6, s7, s8, s9, s10, s11⟩
     go_simp
     with_reducible rfl
    rotate_left; (exact pu_)
    refine pure_ (i := 12) (N := some 23) (v := ?_) (a' := ?_) (mk 37 8191) rfl rfl (an_ HT_) nh_ (Or.inl ⟨ry_, ?_⟩) ?_ ?_
    rotate_left; (intro w'; go_simp; with_reducible rfl)
    rotate_left; (exact pu_)
    refine take_ (i := 13) (N := some 24) (v := ?_) (a' := ?_) (mk 37 16383) rfl rfl (tw_ HT_ HW_) nh_ (Or.inl ⟨by rfl, ?_⟩) hHeld ?_ ?_
    rotate_left
    ·
     rintro w' ⟨s0, s1, s2, s3, s4, s5, s6, s7, s8, s9, s10, s11⟩
     go_simp
     with_reducible rfl
    rotate_left; (exact pu_)
    refine one_ (i := 14) (N := some 25) (mk 37 32767) rfl rfl (on_ HT_) de_ (fun K hK => ?_)
    refine goes_ Try.func46 (by kernel_rfl) rfl #[.agg #[.string ((rd_T51 l0_3 x3_1).f0), .slice A296_1 ((rd_T51 l0_3 x3_1).f1).length c296_1, .int .i64 ((rd_T51 l0_3 x3_1).f2), .int .i64 ((rd_T51 l0_3 x3_1).f3)]] (by rfl) rfl rfl am_ ?_
    with_reducible refine (haberdashref10_rates.calls k1 ((rd_T51 l0_3 x3_1).f0) _ _ ((rd_T51 l0_3 x3_1).f1) ((rd_T51 l0_3 x3_1).f2) ((rd_T51 l0_3 x3_1).f3) false _ ?side1 ?side2 A7.out).mono ?_
    (case side1 => exact (Kd.C_below HR298_1.out (hb1_ HB GE295)))
    (case side2 => exact HC298_1.out)
    rintro e w25 ⟨rfl, hb⟩
    refine ⟨_, rfl, ?_⟩
    replace BK295 := Aside0.mk (bb_ BK295 hb); replace HB := Aside0.mk (below_step (hb1_ HB GE295) hb); (try clear hb); (try clear hb2); (try clear hk); (try clear hi)
    refine hK.out _ _ ⟨cl_ BK295 0, cl_ BK295 1, cl_ BK295 2, cl_ BK295 3, (hc_ HB hw296_0), (hc_ HB hw296_1), (hc_ HB hw296_2), (hc_ HB hw296_3), (hc_ HB hw298_0), (hc_ HB hw298_1), (hc_ HB hw298_2), (hc_ HB hw298_3)⟩ (fun hHeld => ?_)
    clear hK K
    refine norm_ pv_ ?_
    refine ahead_ [(15, 26), (16, 27), (17, 28)] ?_
    iterate 3 (refine pB_ HT_ ?_)
    refine aheadE_ (mk 37 262143) kr_ ?_
    refine ahead_ [(18, 29), (19, 30), (20, 31), (21, 32), (22, 33), (23, 34), (24, 35), (25, 36), (26, 37), (27, 38), (28, 39), (29, 40), (30, 41), (31, 42), (32, 43), (33, 44), (34, 45), (35, 46)] ?_
    iterate 18 (refine pA_ (v := undef) (a' := ?_) rfl rfl HT_.out kr_ nh_ ru_ ?_ ?_; rotate_left; (exact pu_))
    refine aheadE_ (mk 37 68719476735) kr_ ?_
    refine pure_ (i := 36) (N := some 47) (v := ?_) (a' := ?_) (mk 37 137438953471) rfl rfl (an_ HT_) nh_ (Or.inl ⟨ry_, ?_⟩) ?_ ?_
    rotate_left; (intro w'; go_simp; with_reducible rfl)
    rotate_left; (exact pu_)
    refine done_ (done_of HT_.out (by kernel_rfl)) ?_
    try go_wp2
    go_ret
    exact ⟨er_, hb1_ HB GE295⟩
   subst c8; rw [if_pos rfl] at H
   by_cases c9 : x3_1 > 0
   rotate_left
   ·
    rw [if_neg c9] at H; have c9b0 := decide_eq_false c9; clear c9; have H' := Aside0.mk H; clear H; obtain ⟨hcz20_0, hcz20_1, hcz20_2, hcz20_3⟩ := cz4_ BK295; obtain ⟨hfz20_0, hfz20_1, hfz20_2, hfz20_3⟩ := fz4_ BK295
    try go_wp2
    replace BK295 := Aside0.mk (blk_drew BK295.out); replace HB := Aside0.mk (below_drew1 HB.out); have p296 : 0 ≤ (x3_1 : Int) := of_decide_eq_true as_; have q296 : x3_1 < (l0_3.length : Int) := of_decide_eq_true as_; obtain ⟨ad296, A296_1, c296_1, e296, hx296_0, hx296_1, hx296_2, hx296_3, hl296_1, hi296_1⟩ := at_T51 HR0_3.out x3_1 p296 q296
    have hw296_3 := hx296_3; have hw296_2 := hx296_2; have hw296_1 := hx296_1; have hw296_0 := hx296_0; cases e296; replace hx296_0 := hd_ HB hx296_0; replace hx296_1 := hd_ HB hx296_1; replace hx296_2 := hd_ HB hx296_2; replace hx296_3 := hd_ HB hx296_3; have HR296_1 := Aside0.mk hi296_1; have HC296_1 := Aside0.mk hl296_1
    clear hi296_1 hl296_1; replace p296 := eq_true p296; replace q296 := eq_true q296; have p298 : 0 ≤ (x3_1 : Int) := of_decide_eq_true as_; have q298 : x3_1 < (l0_3.length : Int) := of_decide_eq_true as_; obtain ⟨ad298, A298_1, c298_1, e298, hx298_0, hx298_1, hx298_2, hx298_3, hl298_1, hi298_1⟩ := at_T51 HR0_3.out x3_1 p298 q298
    have hw298_3 := hx298_3; have hw298_2 := hx298_2; have hw298_1 := hx298_1; have hw298_0 := hx298_0
    obtain rfl : ad296 = ad298 := (by injection e298)
    replace hx298_0 := hd_ HB hx298_0; replace hx298_1 := hd_ HB hx298_1; replace hx298_2 := hd_ HB hx298_2; replace hx298_3 := hd_ HB hx298_3; have HR298_1 := Aside0.mk hi298_1; have HC298_1 := Aside0.mk hl298_1; clear hi298_1 hl298_1; replace p298 := eq_true p298; replace q298 := eq_true q298; have ea_ := Option.some.inj (hx296_1.symm.trans hx298_1)
    injection ea_ with ea_ en_ ec_
    subst ea_; subst ec_; clear en_
    refine start_ (n := 37) (S := fun w' => w'.cell? ⟨gb295, 0, none⟩ = some (.bool a0_0) ∧ w'.cell? ⟨gb295, 1, none⟩ = some (.bool a0_1) ∧ w'.cell? ⟨gb295, 2, none⟩ = some (.int .i64 a0_2) ∧ w'.cell? ⟨gb295, 3, none⟩ = some (.slice (some ad296) l0_3.length c0_3) ∧ w'.cell? (ad296.add ((x3_1).toNat * 4)) = some (.string ((rd_T51 l0_3 x3_1).f0)) ∧ w'.cell? ⟨(ad296.add ((x3_1).toNat * 4)).block, (ad296.add ((x3_1).toNat * 4)).off + 1, none⟩ = some (.slice A296_1 ((rd_T51 l0_3 x3_1).f1).length c296_1) ∧ w'.cell? ⟨(ad296.add ((x3_1).toNat * 4)).block, (ad296.add ((x3_1).toNat * 4)).off + 2, none⟩ = some (.int .i64 ((rd_T51 l0_3 x3_1).f2)) ∧ w'.cell? ⟨(ad296.add ((x3_1).toNat * 4)).block, (ad296.add ((x3_1).toNat * 4)).off + 3, none⟩ = some (.int .i64 ((rd_T51 l0_3 x3_1).f3)) ∧ w'.cell? (ad296.add ((x3_1).toNat * 4)) = some (.string ((rd_T51 l0_3 x3_1).f0)) ∧ w'.cell? ⟨(ad296.add ((x3_1).toNat * 4)).block, (ad296.add ((x3_1).toNat * 4)).off + 1, none⟩ = some (.slice A296_1 ((rd_T51 l0_3 x3_1).f1).length c296_1) ∧ w'.cell? ⟨(ad296.add ((x3_1).toNat * 4)).block, (ad296.add ((x3_1).toNat * 4)).off + 2, none⟩ = some (.int .i64 ((rd_T51 l0_3 x3_1).f2)) ∧ w'.cell? ⟨(ad296.add ((x3_1).toNat * 4)).block, (ad296.add ((x3_1).toNat * 4)).off + 3, none⟩ = some (.int .i64 ((rd_T51 l0_3 x3_1).f3))) (ds := []) (mk 37 0) (by kernel_rfl) rfl rfl ⟨cl_ BK295 0, cl_ BK295 1, cl_ BK295 2, cl_ BK295 3, (hc_ HB hw296_0), (hc_ HB hw296_1), (hc_ HB hw296_2), (hc_ HB hw296_3), (hc_ HB hw298_0), (hc_ HB hw298_1), (hc_ HB hw298_2), (hc_ HB hw298_3)⟩ (fun hHeld => ?_); refine with_tabW haberdashref10_Tax.tab4 haberdashref10_Tax.bits4 (fun HT_ HW_ => ?_)
    generalize wr.drew = w21 at BK295 HB HR296_1 HR298_1 hx296_0 hx296_1 hx296_2 hx296_3 hx298_0 hx298_1 hx298_2 hx298_3 hHeld ⊢
    refine ahead_ [(0, 11), (2, 13)] ?_
    iterate 2 (refine pB_ HT_ ?_)
    refine aheadE_ (mk 37 5) kr_ ?_
    refine take_ (i := 1) (N := some 12) (v := ?_) (a' := ?_) (mk 37 7) rfl rfl (tw_ HT_ HW_) nh_ (Or.inl ⟨by rfl, ?_⟩) hHeld ?_ ?_
    rotate_left
    ·
     rintro w' ⟨s0, s1, s2, s3, s4, s5, s6, s7, s8, s9, s10, s11⟩
     go_simp
     with_reducible rfl
    rotate_left; (exact pu_)
    refine ahead_ [(3, 14), (4, 15)] ?_
    iterate 2 (refine pB_ HT_ ?_)
    refine aheadE_ (mk 37 31) kr_ ?_
    refine take_ (i := 5) (N := some 16) (v := ?_) (a' := ?_) (mk 37 63) rfl rfl (tw_ HT_ HW_) nh_ (Or.inl ⟨by rfl, ?_⟩) hHeld ?_ ?_
    rotate_left
    ·
     rintro w' ⟨s0, s1, s2, s3, s4, s5, s6, s7, s8, s9, s10, s11⟩
     go_simp
     with_reducible rfl
    rotate_left; (exact pu_)
    refine one_ (i := 6) (N := some 17) (mk 37 127) rfl rfl (on_ HT_) de_ (fun K hK => ?_)
    refine goes_ Try.func45 (by kernel_rfl) rfl #[.string ((rd_T51 l0_3 x3_1).f0)] (by rfl) rfl rfl am_ ?_
    with_reducible refine (haberdashref10_Name.calls k1 ((rd_T51 l0_3 x3_1).f0) true _ A5.out).mono ?_
    rintro e w' ⟨rfl, ⟨nd, rfl⟩⟩
    refine ⟨_, rfl, ?_⟩
    refine hK.out _ _ ⟨cl_ BK295 0, cl_ BK295 1, cl_ BK295 2, cl_ BK295 3, (hc_ HB hw296_0), (hc_ HB hw296_1), (hc_ HB hw296_2), (hc_ HB hw296_3), (hc_ HB hw298_0), (hc_ HB hw298_1), (hc_ HB hw298_2), (hc_ HB hw298_3)⟩ (fun hHeld => ?_)
    clear hK K
    refine norm_ pv_ ?_
    refine ahead_ [(7, 18), (8, 19), (9, 20), (11, 22)] ?_
    iterate 4 (refine pB_ HT_ ?_)
    refine aheadE_ (mk 37 3071) kr_ ?_
    refine take_ (i := 10) (N := some 21) (v := ?_) (a' := ?_) (mk 37 4095) rfl rfl (tw_ HT_ HW_) nh_ (Or.inl ⟨by rfl, ?_⟩) hHeld ?_ ?_
    rotate_left
    ·
     rintro w' ⟨s0, s1, s2, s3, s4, s5, s6, s7, s8, s9, s10, s11⟩
     go_simp
     with_reducible rfl
    rotate_left; (exact pu_)
    refine pure_ (i := 12) (N := some 23) (v := ?_) (a' := ?_) (mk 37 8191) rfl rfl (an_ HT_) nh_ (Or.inl ⟨ry_, ?_⟩) ?_ ?_
    rotate_left; (intro w'; go_simp; with_reducible rfl)
    rotate_left; (exact pu_)
    refine take_ (i := 13) (N := some 24) (v := ?_) (a' := ?_) (mk 37 16383) rfl rfl (tw_ HT_ HW_) nh_ (Or.inl ⟨by rfl, ?_⟩) hHeld ?_ ?_
    rotate_left
    ·
     rintro w' ⟨s0, s1, s2, s3, s4, s5, s6, s7, s8, s9, s10, s11⟩
     go_simp
     with_reducible rfl
    rotate_left; (exact pu_)
    refine one_ (i := 14) (N := some 25) (mk 37 32767) rfl rfl (on_ HT_) de_ (fun K hK => ?_)
    refine goes_ Try.func46 (by kernel_rfl) rfl #[.agg #[.string ((rd_T51 l0_3 x3_1).f0), .slice A296_1 ((rd_T51 l0_3 x3_1).f1).length c296_1, .int .i64 ((rd_T51 l0_3 x3_1).f2), .int .i64 ((rd_T51 l0_3 x3_1).f3)]] (by rfl) rfl rfl am_ ?_
    with_reducible refine (haberdashref10_rates.calls k1 ((rd_T51 l0_3 x3_1).f0) _ _ ((rd_T51 l0_3 x3_1).f1) ((rd_T51 l0_3 x3_1).f2) ((rd_T51 l0_3 x3_1).f3) true _ ?side1 ?side2 A7.out).mono ?_
    (case side1 => exact (Kd.C_below HR298_1.out (hb1_ HB GE295)))
    (case side2 => exact HC298_1.out)
    rintro e w22 ⟨rfl, hb⟩
    refine ⟨_, rfl, ?_⟩
    replace BK295 := Aside0.mk (bb_ BK295 hb); replace HB := Aside0.mk (below_step (hb1_ HB GE295) hb); (try clear hb); (try clear hb2); (try clear hk); (try clear hi)
    refine hK.out _ _ ⟨cl_ BK295 0, cl_ BK295 1, cl_ BK295 2, cl_ BK295 3, (hc_ HB hw296_0), (hc_ HB hw296_1), (hc_ HB hw296_2), (hc_ HB hw296_3), (hc_ HB hw298_0), (hc_ HB hw298_1), (hc_ HB hw298_2), (hc_ HB hw298_3)⟩ (fun hHeld => ?_)
    clear hK K
    refine norm_ pv_ ?_
    refine ahead_ [(15, 26), (16, 27), (17, 28), (18, 29), (19, 30), (20, 31)] ?_
    iterate 6 (refine pB_ HT_ ?_)
    refine aheadE_ (mk 37 2097151) kr_ ?_
    refine ahead_ [(21, 32), (22, 33), (23, 34), (24, 35), (25, 36), (26, 37), (27, 38), (28, 39), (29, 40), (30, 41), (31, 42), (32, 43), (33, 44), (34, 45)] ?_
    iterate 14 (refine pA_ (v := undef) (a' := ?_) rfl rfl HT_.out kr_ nh_ ru_ ?_ ?_; rotate_left; (exact pu_))
    refine aheadE_ (mk 37 34359738367) kr_ ?_
    refine ahead_ [(35, 46), (36, 47)] ?_
    iterate 2 (refine pB_ HT_ ?_)
    refine aheadE_ (mk 37 137438953471) kr_ ?_
    refine done_ (done_of HT_.out (by kernel_rfl)) ?_
    try go_wp2
    go_roundg k1
    case measure => have := HK1.out; omega
    case rel => exact ⟨(wrap64 (x3_1 + 1)), rf_, H', ⟨ho_ HK1⟩, ⟨bk_ BK295⟩, ⟨hb1_ HB GE295⟩⟩
   rw [if_pos c9] at H; have c9b0 := decide_eq_true c9; clear c9; obtain ⟨ji10, hji10⟩ : ∃ j_ : Int, (wrap64 (x3_1 - 1)) = j_ := ⟨_, rfl⟩
   replace H : (if 0 ≤ (ji10) then (if (ji10) < (l0_3.length : Int) then (if ((Op.bytesLess (((rd_T51 l0_3 (ji10)).f0).toList) (((rd_T51 l0_3 x3_1).f0).toList)) = true) then (haberdashref10_Tax.l0 k1 (wrap64 (x3_1 + 1)) a0_0 a0_1 a0_2 l0_3) else (some false)) else (none)) else (none)) = some r := by first | (rw [hji10] at H; exact H) | (simp only [hji10] at H ⊢; exact H)
   (try rw [hji10] at A5)
   (try rw [hji10] at A7)
   have hji10w : (IntKind.i64.wrap (x3_1 - 1)) = ji10 := (i64_w _).trans hji10; replace H := ip_ H; obtain ⟨c11, H⟩ := H; have c11b0 := decide_eq_true c11; clear c11; replace H := ip_ H; obtain ⟨c12, H⟩ := H; have c12b0 := decide_eq_true c12; clear c12
   by_cases c13 : ((Op.bytesLess (((rd_T51 l0_3 (ji10)).f0).toList) (((rd_T51 l0_3 x3_1).f0).toList)) = true)
   rotate_left
   ·
    rw [if_neg c13] at H
    have c13b0 : (Op.bytesLess (((rd_T51 l0_3 (ji10)).f0).toList) (((rd_T51 l0_3 x3_1).f0).toList)) = false := by simpa using c13
    clear c13; obtain rfl := Option.some.inj H; obtain ⟨hcz17_0, hcz17_1, hcz17_2, hcz17_3⟩ := cz4_ BK295; obtain ⟨hfz17_0, hfz17_1, hfz17_2, hfz17_3⟩ := fz4_ BK295
    try go_wp2
    replace BK295 := Aside0.mk (blk_drew BK295.out); replace HB := Aside0.mk (below_drew1 HB.out); have p296 : 0 ≤ (x3_1 : Int) := of_decide_eq_true as_; have q296 : x3_1 < (l0_3.length : Int) := of_decide_eq_true as_; obtain ⟨ad296, A296_1, c296_1, e296, hx296_0, hx296_1, hx296_2, hx296_3, hl296_1, hi296_1⟩ := at_T51 HR0_3.out x3_1 p296 q296
    have hw296_3 := hx296_3; have hw296_2 := hx296_2; have hw296_1 := hx296_1; have hw296_0 := hx296_0; cases e296; replace hx296_0 := hd_ HB hx296_0; replace hx296_1 := hd_ HB hx296_1; replace hx296_2 := hd_ HB hx296_2; replace hx296_3 := hd_ HB hx296_3; have HR296_1 := Aside0.mk hi296_1; have HC296_1 := Aside0.mk hl296_1
    clear hi296_1 hl296_1; replace p296 := eq_true p296; replace q296 := eq_true q296; have p298 : 0 ≤ (x3_1 : Int) := of_decide_eq_true as_; have q298 : x3_1 < (l0_3.length : Int) := of_decide_eq_true as_; obtain ⟨ad298, A298_1, c298_1, e298, hx298_0, hx298_1, hx298_2, hx298_3, hl298_1, hi298_1⟩ := at_T51 HR0_3.out x3_1 p298 q298
    have hw298_3 := hx298_3; have hw298_2 := hx298_2; have hw298_1 := hx298_1; have hw298_0 := hx298_0
    obtain rfl : ad296 = ad298 := (by injection e298)
    replace hx298_0 := hd_ HB hx298_0; replace hx298_1 := hd_ HB hx298_1; replace hx298_2 := hd_ HB hx298_2; replace hx298_3 := hd_ HB hx298_3; have HR298_1 := Aside0.mk hi298_1; have HC298_1 := Aside0.mk hl298_1; clear hi298_1 hl298_1; replace p298 := eq_true p298; replace q298 := eq_true q298; have ea_ := Option.some.inj (hx296_1.symm.trans hx298_1)
    injection ea_ with ea_ en_ ec_
    subst ea_; subst ec_; clear en_; have p300 : 0 ≤ (x3_1 : Int) := of_decide_eq_true as_; have q300 : x3_1 < (l0_3.length : Int) := of_decide_eq_true as_; obtain ⟨ad300, A300_1, c300_1, e300, hx300_0, hx300_1, hx300_2, hx300_3, hl300_1, hi300_1⟩ := at_T51 HR0_3.out x3_1 p300 q300; have hw300_3 := hx300_3
    have hw300_2 := hx300_2; have hw300_1 := hx300_1; have hw300_0 := hx300_0
    obtain rfl : ad296 = ad300 := (by injection e300)
    replace hx300_0 := hd_ HB hx300_0; replace hx300_1 := hd_ HB hx300_1; replace hx300_2 := hd_ HB hx300_2; replace hx300_3 := hd_ HB hx300_3; have HR300_1 := Aside0.mk hi300_1; have HC300_1 := Aside0.mk hl300_1; clear hi300_1 hl300_1; replace p300 := eq_true p300; replace q300 := eq_true q300; have p301 : 0 ≤ ((ji10) : Int) := of_decide_eq_true as_
    have q301 : (ji10) < (l0_3.length : Int) := of_decide_eq_true as_; obtain ⟨ad301, A301_1, c301_1, e301, hx301_0, hx301_1, hx301_2, hx301_3, hl301_1, hi301_1⟩ := at_T51 HR0_3.out (ji10) p301 q301; have hw301_3 := hx301_3; have hw301_2 := hx301_2; have hw301_1 := hx301_1; have hw301_0 := hx301_0
    obtain rfl : ad296 = ad301 := (by injection e301)
    replace hx301_0 := hd_ HB hx301_0; replace hx301_1 := hd_ HB hx301_1; replace hx301_2 := hd_ HB hx301_2; replace hx301_3 := hd_ HB hx301_3; have HR301_1 := Aside0.mk hi301_1; have HC301_1 := Aside0.mk hl301_1; clear hi301_1 hl301_1; replace p301 := eq_true p301; replace q301 := eq_true q301
    refine start_ (n := 37) (S := fun w' => w'.cell? ⟨gb295, 0, none⟩ = some (.bool a0_0) ∧ w'.cell? ⟨gb295, 1, none⟩ = some (.bool a0_1) ∧ w'.cell? ⟨gb295, 2, none⟩ = some (.int .i64 a0_2) ∧ w'.cell? ⟨gb295, 3, none⟩ = some (.slice (some ad296) l0_3.length c0_3) ∧ w'.cell? (ad296.add ((x3_1).toNat * 4)) = some (.string ((rd_T51 l0_3 x3_1).f0)) ∧ w'.cell? ⟨(ad296.add ((x3_1).toNat * 4)).block, (ad296.add ((x3_1).toNat * 4)).off + 1, none⟩ = some (.slice A296_1 ((rd_T51 l0_3 x3_1).f1).length c296_1) ∧ w'.cell? ⟨(ad296.add ((x3_1).toNat * 4)).block, (ad296.add ((x3_1).toNat * 4)).off + 2, none⟩ = some (.int .i64 ((rd_T51 l0_3 x3_1).f2)) ∧ w'.cell? ⟨(ad296.add ((x3_1).toNat * 4)).block, (ad296.add ((x3_1).toNat * 4)).off + 3, none⟩ = some (.int .i64 ((rd_T51 l0_3 x3_1).f3)) ∧ w'.cell? (ad296.add ((x3_1).toNat * 4)) = some (.string ((rd_T51 l0_3 x3_1).f0)) ∧ w'.cell? ⟨(ad296.add ((x3_1).toNat * 4)).block, (ad296.add ((x3_1).toNat * 4)).off + 1, none⟩ = some (.slice A296_1 ((rd_T51 l0_3 x3_1).f1).length c296_1) ∧ w'.cell? ⟨(ad296.add ((x3_1).toNat * 4)).block, (ad296.add ((x3_1).toNat * 4)).off + 2, none⟩ = some (.int .i64 ((rd_T51 l0_3 x3_1).f2)) ∧ w'.cell? ⟨(ad296.add ((x3_1).toNat * 4)).block, (ad296.add ((x3_1).toNat * 4)).off + 3, none⟩ = some (.int .i64 ((rd_T51 l0_3 x3_1).f3)) ∧ w'.cell? (ad296.add ((x3_1).toNat * 4)) = some (.string ((rd_T51 l0_3 x3_1).f0)) ∧ w'.cell? ⟨(ad296.add ((x3_1).toNat * 4)).block, (ad296.add ((x3_1).toNat * 4)).off + 1, none⟩ = some (.slice A300_1 ((rd_T51 l0_3 x3_1).f1).length c300_1) ∧ w'.cell? ⟨(ad296.add ((x3_1).toNat * 4)).block, (ad296.add ((x3_1).toNat * 4)).off + 2, none⟩ = some (.int .i64 ((rd_T51 l0_3 x3_1).f2)) ∧ w'.cell? ⟨(ad296.add ((x3_1).toNat * 4)).block, (ad296.add ((x3_1).toNat * 4)).off + 3, none⟩ = some (.int .i64 ((rd_T51 l0_3 x3_1).f3)) ∧ w'.cell? (ad296.add (((ji10)).toNat * 4)) = some (.string ((rd_T51 l0_3 (ji10)).f0)) ∧ w'.cell? ⟨(ad296.add (((ji10)).toNat * 4)).block, (ad296.add (((ji10)).toNat * 4)).off + 1, none⟩ = some (.slice A301_1 ((rd_T51 l0_3 (ji10)).f1).length c301_1) ∧ w'.cell? ⟨(ad296.add (((ji10)).toNat * 4)).block, (ad296.add (((ji10)).toNat * 4)).off + 2, none⟩ = some (.int .i64 ((rd_T51 l0_3 (ji10)).f2)) ∧ w'.cell? ⟨(ad296.add (((ji10)).toNat * 4)).block, (ad296.add (((ji10)).toNat * 4)).off + 3, none⟩ = some (.int .i64 ((rd_T51 l0_3 (ji10)).f3))) (ds := []) (mk 37 0) (by kernel_rfl) rfl rfl ⟨cl_ BK295 0, cl_ BK295 1, cl_ BK295 2, cl_ BK295 3, (hc_ HB hw296_0), (hc_ HB hw296_1), (hc_ HB hw296_2), (hc_ HB hw296_3), (hc_ HB hw298_0), (hc_ HB hw298_1), (hc_ HB hw298_2), (hc_ HB hw298_3), (hc_ HB hw300_0), (hc_ HB hw300_1), (hc_ HB hw300_2), (hc_ HB hw300_3), (hc_ HB hw301_0), (hc_ HB hw301_1), (hc_ HB hw301_2), (hc_ HB hw301_3)⟩ (fun hHeld => ?_); refine with_tabW haberdashref10_Tax.tab4 haberdashref10_Tax.bits4 (fun HT_ HW_ => ?_)
    generalize wr.drew = w18 at BK295 HB HR296_1 HR298_1 HR300_1 HR301_1 hx296_0 hx296_1 hx296_2 hx296_3 hx298_0 hx298_1 hx298_2 hx298_3 hx300_0 hx300_1 hx300_2 hx300_3 hx301_0 hx301_1 hx301_2 hx301_3 hHeld ⊢
    refine ahead_ [(0, 11), (2, 13)] ?_
    iterate 2 (refine pB_ HT_ ?_)
    refine aheadE_ (mk 37 5) kr_ ?_
    refine take_ (i := 1) (N := some 12) (v := ?_) (a' := ?_) (mk 37 7) rfl rfl (tw_ HT_ HW_) nh_ (Or.inl ⟨by rfl, ?_⟩) hHeld ?_ ?_
    rotate_left
    ·
     rintro w' ⟨s0, s1, s2, s3, s4, s5, s6, s7, s8, s9, s10, s11, s12, s13, s14, s15, s16, s17, s18, s19⟩
     go_simp
     with_reducible rfl
    rotate_left; (exact pu_)
    refine ahead_ [(3, 14), (4, 15)] ?_
    iterate 2 (refine pB_ HT_ ?_)
    refine aheadE_ (mk 37 31) kr_ ?_
    refine take_ (i := 5) (N := some 16) (v := ?_) (a' := ?_) (mk 37 63) rfl rfl (tw_ HT_ HW_) nh_ (Or.inl ⟨by rfl, ?_⟩) hHeld ?_ ?_
    rotate_left
    ·
     rintro w' ⟨s0, s1, s2, s3, s4, s5, s6, s7, s8, s9, s10, s11, s12, s13, s14, s15, s16, s17, s18, s19⟩
     go_simp
     with_reducible rfl
    rotate_left; (exact pu_)
    refine one_ (i := 6) (N := some 17) (mk 37 127) rfl rfl (on_ HT_) de_ (fun K hK => ?_)
    refine goes_ Try.func45 (by kernel_rfl) rfl #[.string ((rd_T51 l0_3 x3_1).f0)] (by rfl) rfl rfl am_ ?_
    with_reducible refine (haberdashref10_Name.calls k1 ((rd_T51 l0_3 x3_1).f0) true _ A5.out).mono ?_
    rintro e w' ⟨rfl, ⟨nd, rfl⟩⟩
    refine ⟨_, rfl, ?_⟩
    refine hK.out _ _ ⟨cl_ BK295 0, cl_ BK295 1, cl_ BK295 2, cl_ BK295 3, (hc_ HB hw296_0), (hc_ HB hw296_1), (hc_ HB hw296_2), (hc_ HB hw296_3), (hc_ HB hw298_0), (hc_ HB hw298_1), (hc_ HB hw298_2), (hc_ HB hw298_3), (hc_ HB hw300_0), (hc_ HB hw300_1), (hc_ HB hw300_2), (hc_ HB hw300_3), (hc_ HB hw301_0), (hc_ HB hw301_1), (hc_ HB hw301_2), (hc_ HB hw301_3)⟩ (fun hHeld => ?_)
    clear hK K
    refine norm_ pv_ ?_
    refine ahead_ [(7, 18), (8, 19), (9, 20), (11, 22)] ?_
    iterate 4 (refine pB_ HT_ ?_)
    refine aheadE_ (mk 37 3071) kr_ ?_
    refine take_ (i := 10) (N := some 21) (v := ?_) (a' := ?_) (mk 37 4095) rfl rfl (tw_ HT_ HW_) nh_ (Or.inl ⟨by rfl, ?_⟩) hHeld ?_ ?_
    rotate_left
    ·
     rintro w' ⟨s0, s1, s2, s3, s4, s5, s6, s7, s8, s9, s10, s11, s12, s13, s14, s15, s16, s17, s18, s19⟩
     go_simp
     with_reducible rfl
    rotate_left; (exact pu_)
    refine pure_ (i := 12) (N := some 23) (v := ?_) (a' := ?_) (mk 37 8191) rfl rfl (an_ HT_) nh_ (Or.inl ⟨ry_, ?_⟩) ?_ ?_
    rotate_left; (intro w'; go_simp; with_reducible rfl)
    rotate_left; (exact pu_)
    refine take_ (i := 13) (N := some 24) (v := ?_) (a' := ?_) (mk 37 16383) rfl rfl (tw_ HT_ HW_) nh_ (Or.inl ⟨by rfl, ?_⟩) hHeld ?_ ?_
    rotate_left
    ·
     rintro w' ⟨s0, s1, s2, s3, s4, s5, s6, s7, s8, s9, s10, s11, s12, s13, s14, s15, s16, s17, s18, s19⟩
     go_simp
     with_reducible rfl
    rotate_left; (exact pu_)
    refine one_ (i := 14) (N := some 25) (mk 37 32767) rfl rfl (on_ HT_) de_ (fun K hK => ?_)
    refine goes_ Try.func46 (by kernel_rfl) rfl #[.agg #[.string ((rd_T51 l0_3 x3_1).f0), .slice A296_1 ((rd_T51 l0_3 x3_1).f1).length c296_1, .int .i64 ((rd_T51 l0_3 x3_1).f2), .int .i64 ((rd_T51 l0_3 x3_1).f3)]] (by rfl) rfl rfl am_ ?_
    with_reducible refine (haberdashref10_rates.calls k1 ((rd_T51 l0_3 x3_1).f0) _ _ ((rd_T51 l0_3 x3_1).f1) ((rd_T51 l0_3 x3_1).f2) ((rd_T51 l0_3 x3_1).f3) true _ ?side1 ?side2 A7.out).mono ?_
    (case side1 => exact (Kd.C_below HR298_1.out (hb1_ HB GE295)))
    (case side2 => exact HC298_1.out)
    rintro e w19 ⟨rfl, hb⟩
    refine ⟨_, rfl, ?_⟩
    replace BK295 := Aside0.mk (bb_ BK295 hb); replace HB := Aside0.mk (below_step (hb1_ HB GE295) hb); (try clear hb); (try clear hb2); (try clear hk); (try clear hi)
    refine hK.out _ _ ⟨cl_ BK295 0, cl_ BK295 1, cl_ BK295 2, cl_ BK295 3, (hc_ HB hw296_0), (hc_ HB hw296_1), (hc_ HB hw296_2), (hc_ HB hw296_3), (hc_ HB hw298_0), (hc_ HB hw298_1), (hc_ HB hw298_2), (hc_ HB hw298_3), (hc_ HB hw300_0), (hc_ HB hw300_1), (hc_ HB hw300_2), (hc_ HB hw300_3), (hc_ HB hw301_0), (hc_ HB hw301_1), (hc_ HB hw301_2), (hc_ HB hw301_3)⟩ (fun hHeld => ?_)
    clear hK K
    refine norm_ pv_ ?_
    refine ahead_ [(15, 26), (16, 27), (17, 28), (18, 29), (19, 30), (20, 31), (21, 32), (23, 34), (27, 38), (29, 40), (30, 41)] ?_
    iterate 11 (refine pB_ HT_ ?_)
    refine aheadE_ (mk 37 1757413375) kr_ ?_
    refine take_ (i := 22) (N := some 33) (v := ?_) (a' := ?_) (mk 37 1761607679) rfl rfl (tw_ HT_ HW_) nh_ (Or.inl ⟨by rfl, ?_⟩) hHeld ?_ ?_
    rotate_left
    ·
     rintro w' ⟨s0, s1, s2, s3, s4, s5, s6, s7, s8, s9, s10, s11, s12, s13, s14, s15, s16, s17, s18, s19⟩
     go_simp
     with_reducible rfl
    rotate_left; (exact pu_)
    refine ahead_ [(24, 35), (25, 36)] ?_
    iterate 2 (refine pB_ HT_ ?_)
    refine aheadE_ (mk 37 1811939327) kr_ ?_
    refine ahead_ [(26, 37), (28, 39)] ?_
    iterate 2 (refine tA_ (v := ?_) (a' := ?_) rfl rfl HT_.out HW_.out (by kernel_rfl) (fun _ _ _ h => h) (Or.inl ⟨by rfl, ?_⟩) hHeld ?_ ?_; rotate_left; (rintro w' ⟨s0, s1, s2, s3, s4, s5, s6, s7, s8, s9, s10, s11, s12, s13, s14, s15, s16, s17, s18, s19⟩; go_simp; with_reducible rfl); rotate_left; (exact pu_))
    refine aheadE_ (mk 37 2147483647) kr_ ?_
    refine ahead_ [(31, 42), (32, 43)] ?_
    iterate 2 (refine pB_ HT_ ?_)
    refine aheadE_ (mk 37 8589934591) kr_ ?_
    refine take_ (i := 33) (N := some 44) (v := ?_) (a' := ?_) (mk 37 17179869183) rfl rfl (tw_ HT_ HW_) nh_ (Or.inl ⟨by rfl, ?_⟩) hHeld ?_ ?_
    rotate_left
    ·
     rintro w' ⟨s0, s1, s2, s3, s4, s5, s6, s7, s8, s9, s10, s11, s12, s13, s14, s15, s16, s17, s18, s19⟩
     go_simp
     with_reducible rfl
    rotate_left; (exact pu_)
    refine ahead_ [(34, 45), (35, 46), (36, 47)] ?_
    iterate 3 (refine pB_ HT_ ?_)
    refine aheadE_ (mk 37 137438953471) kr_ ?_
    refine done_ (done_of HT_.out (by kernel_rfl)) ?_
    try go_wp2
    go_ret
    exact ⟨by first | rfl | (simp [errW_none, errW_some] <;> rfl) | (simp only [← hji10]; first | rfl | (simp [errW_none, errW_some] <;> rfl)) | (simp [*, errW_none, errW_some] <;> rfl), hb1_ HB GE295⟩
   rw [if_pos c13] at H; have c13b0 : (Op.bytesLess (((rd_T51 l0_3 (ji10)).f0).toList) (((rd_T51 l0_3 x3_1).f0).toList)) = true := c13; clear c13; have H' := Aside0.mk H; clear H; obtain ⟨hcz14_0, hcz14_1, hcz14_2, hcz14_3⟩ := cz4_ BK295; obtain ⟨hfz14_0, hfz14_1, hfz14_2, hfz14_3⟩ := fz4_ BK295
   try go_wp2
   replace BK295 := Aside0.mk (blk_drew BK295.out); replace HB := Aside0.mk (below_drew1 HB.out); have p296 : 0 ≤ (x3_1 : Int) := of_decide_eq_true as_; have q296 : x3_1 < (l0_3.length : Int) := of_decide_eq_true as_; obtain ⟨ad296, A296_1, c296_1, e296, hx296_0, hx296_1, hx296_2, hx296_3, hl296_1, hi296_1⟩ := at_T51 HR0_3.out x3_1 p296 q296
   have hw296_3 := hx296_3; have hw296_2 := hx296_2; have hw296_1 := hx296_1; have hw296_0 := hx296_0; cases e296; replace hx296_0 := hd_ HB hx296_0; replace hx296_1 := hd_ HB hx296_1; replace hx296_2 := hd_ HB hx296_2; replace hx296_3 := hd_ HB hx296_3; have HR296_1 := Aside0.mk hi296_1; have HC296_1 := Aside0.mk hl296_1
   clear hi296_1 hl296_1; replace p296 := eq_true p296; replace q296 := eq_true q296; have p298 : 0 ≤ (x3_1 : Int) := of_decide_eq_true as_; have q298 : x3_1 < (l0_3.length : Int) := of_decide_eq_true as_; obtain ⟨ad298, A298_1, c298_1, e298, hx298_0, hx298_1, hx298_2, hx298_3, hl298_1, hi298_1⟩ := at_T51 HR0_3.out x3_1 p298 q298
   have hw298_3 := hx298_3; have hw298_2 := hx298_2; have hw298_1 := hx298_1; have hw298_0 := hx298_0
   obtain rfl : ad296 = ad298 := (by injection e298)
   replace hx298_0 := hd_ HB hx298_0; replace hx298_1 := hd_ HB hx298_1; replace hx298_2 := hd_ HB hx298_2; replace hx298_3 := hd_ HB hx298_3; have HR298_1 := Aside0.mk hi298_1; have HC298_1 := Aside0.mk hl298_1; clear hi298_1 hl298_1; replace p298 := eq_true p298; replace q298 := eq_true q298; have ea_ := Option.some.inj (hx296_1.symm.trans hx298_1)
   injection ea_ with ea_ en_ ec_
   subst ea_; subst ec_; clear en_; have p300 : 0 ≤ (x3_1 : Int) := of_decide_eq_true as_; have q300 : x3_1 < (l0_3.length : Int) := of_decide_eq_true as_; obtain ⟨ad300, A300_1, c300_1, e300, hx300_0, hx300_1, hx300_2, hx300_3, hl300_1, hi300_1⟩ := at_T51 HR0_3.out x3_1 p300 q300; have hw300_3 := hx300_3
   have hw300_2 := hx300_2; have hw300_1 := hx300_1; have hw300_0 := hx300_0
   obtain rfl : ad296 = ad300 := (by injection e300)
   replace hx300_0 := hd_ HB hx300_0; replace hx300_1 := hd_ HB hx300_1; replace hx300_2 := hd_ HB hx300_2; replace hx300_3 := hd_ HB hx300_3; have HR300_1 := Aside0.mk hi300_1; have HC300_1 := Aside0.mk hl300_1; clear hi300_1 hl300_1; replace p300 := eq_true p300; replace q300 := eq_true q300; have p301 : 0 ≤ ((ji10) : Int) := of_decide_eq_true as_
   have q301 : (ji10) < (l0_3.length : Int) := of_decide_eq_true as_; obtain ⟨ad301, A301_1, c301_1, e301, hx301_0, hx301_1, hx301_2, hx301_3, hl301_1, hi301_1⟩ := at_T51 HR0_3.out (ji10) p301 q301; have hw301_3 := hx301_3; have hw301_2 := hx301_2; have hw301_1 := hx301_1; have hw301_0 := hx301_0
   obtain rfl : ad296 = ad301 := (by injection e301)
   replace hx301_0 := hd_ HB hx301_0; replace hx301_1 := hd_ HB hx301_1; replace hx301_2 := hd_ HB hx301_2; replace hx301_3 := hd_ HB hx301_3; have HR301_1 := Aside0.mk hi301_1; have HC301_1 := Aside0.mk hl301_1; clear hi301_1 hl301_1; replace p301 := eq_true p301; replace q301 := eq_true q301
   refine start_ (n := 37) (S := fun w' => w'.cell? ⟨gb295, 0, none⟩ = some (.bool a0_0) ∧ w'.cell? ⟨gb295, 1, none⟩ = some (.bool a0_1) ∧ w'.cell? ⟨gb295, 2, none⟩ = some (.int .i64 a0_2) ∧ w'.cell? ⟨gb295, 3, none⟩ = some (.slice (some ad296) l0_3.length c0_3) ∧ w'.cell? (ad296.add ((x3_1).toNat * 4)) = some (.string ((rd_T51 l0_3 x3_1).f0)) ∧ w'.cell? ⟨(ad296.add ((x3_1).toNat * 4)).block, (ad296.add ((x3_1).toNat * 4)).off + 1, none⟩ = some (.slice A296_1 ((rd_T51 l0_3 x3_1).f1).length c296_1) ∧ w'.cell? ⟨(ad296.add ((x3_1).toNat * 4)).block, (ad296.add ((x3_1).toNat * 4)).off + 2, none⟩ = some (.int .i64 ((rd_T51 l0_3 x3_1).f2)) ∧ w'.cell? ⟨(ad296.add ((x3_1).toNat * 4)).block, (ad296.add ((x3_1).toNat * 4)).off + 3, none⟩ = some (.int .i64 ((rd_T51 l0_3 x3_1).f3)) ∧ w'.cell? (ad296.add ((x3_1).toNat * 4)) = some (.string ((rd_T51 l0_3 x3_1).f0)) ∧ w'.cell? ⟨(ad296.add ((x3_1).toNat * 4)).block, (ad296.add ((x3_1).toNat * 4)).off + 1, none⟩ = some (.slice A296_1 ((rd_T51 l0_3 x3_1).f1).length c296_1) ∧ w'.cell? ⟨(ad296.add ((x3_1).toNat * 4)).block, (ad296.add ((x3_1).toNat * 4)).off + 2, none⟩ = some (.int .i64 ((rd_T51 l0_3 x3_1).f2)) ∧ w'.cell? ⟨(ad296.add ((x3_1).toNat * 4)).block, (ad296.add ((x3_1).toNat * 4)).off + 3, none⟩ = some (.int .i64 ((rd_T51 l0_3 x3_1).f3)) ∧ w'.cell? (ad296.add ((x3_1).toNat * 4)) = some (.string ((rd_T51 l0_3 x3_1).f0)) ∧ w'.cell? ⟨(ad296.add ((x3_1).toNat * 4)).block, (ad296.add ((x3_1).toNat * 4)).off + 1, none⟩ = some (.slice A300_1 ((rd_T51 l0_3 x3_1).f1).length c300_1) ∧ w'.cell? ⟨(ad296.add ((x3_1).toNat * 4)).block, (ad296.add ((x3_1).toNat * 4)).off + 2, none⟩ = some (.int .i64 ((rd_T51 l0_3 x3_1).f2)) ∧ w'.cell? ⟨(ad296.add ((x3_1).toNat * 4)).block, (ad296.add ((x3_1).toNat * 4)).off + 3, none⟩ = some (.int .i64 ((rd_T51 l0_3 x3_1).f3)) ∧ w'.cell? (ad296.add (((ji10)).toNat * 4)) = some (.string ((rd_T51 l0_3 (ji10)).f0)) ∧ w'.cell? ⟨(ad296.add (((ji10)).toNat * 4)).block, (ad296.add (((ji10)).toNat * 4)).off + 1, none⟩ = some (.slice A301_1 ((rd_T51 l0_3 (ji10)).f1).length c301_1) ∧ w'.cell? ⟨(ad296.add (((ji10)).toNat * 4)).block, (ad296.add (((ji10)).toNat * 4)).off + 2, none⟩ = some (.int .i64 ((rd_T51 l0_3 (ji10)).f2)) ∧ w'.cell? ⟨(ad296.add (((ji10)).toNat * 4)).block, (ad296.add (((ji10)).toNat * 4)).off + 3, none⟩ = some (.int .i64 ((rd_T51 l0_3 (ji10)).f3))) (ds := []) (mk 37 0) (by kernel_rfl) rfl rfl ⟨cl_ BK295 0, cl_ BK295 1, cl_ BK295 2, cl_ BK295 3, (hc_ HB hw296_0), (hc_ HB hw296_1), (hc_ HB hw296_2), (hc_ HB hw296_3), (hc_ HB hw298_0), (hc_ HB hw298_1), (hc_ HB hw298_2), (hc_ HB hw298_3), (hc_ HB hw300_0), (hc_ HB hw300_1), (hc_ HB hw300_2), (hc_ HB hw300_3), (hc_ HB hw301_0), (hc_ HB hw301_1), (hc_ HB hw301_2), (hc_ HB hw301_3)⟩ (fun hHeld => ?_); refine with_tabW haberdashref10_Tax.tab4 haberdashref10_Tax.bits4 (fun HT_ HW_ => ?_)
   generalize wr.drew = w15 at BK295 HB HR296_1 HR298_1 HR300_1 HR301_1 hx296_0 hx296_1 hx296_2 hx296_3 hx298_0 hx298_1 hx298_2 hx298_3 hx300_0 hx300_1 hx300_2 hx300_3 hx301_0 hx301_1 hx301_2 hx301_3 hHeld ⊢
   refine ahead_ [(0, 11), (2, 13)] ?_
   iterate 2 (refine pB_ HT_ ?_)
   refine aheadE_ (mk 37 5) kr_ ?_
   refine take_ (i := 1) (N := some 12) (v := ?_) (a' := ?_) (mk 37 7) rfl rfl (tw_ HT_ HW_) nh_ (Or.inl ⟨by rfl, ?_⟩) hHeld ?_ ?_
   rotate_left
   ·
    rintro w' ⟨s0, s1, s2, s3, s4, s5, s6, s7, s8, s9, s10, s11, s12, s13, s14, s15, s16, s17, s18, s19⟩
    go_simp
    with_reducible rfl
   rotate_left; (exact pu_)
   refine ahead_ [(3, 14), (4, 15)] ?_
   iterate 2 (refine pB_ HT_ ?_)
   refine aheadE_ (mk 37 31) kr_ ?_
   refine take_ (i := 5) (N := some 16) (v := ?_) (a' := ?_) (mk 37 63) rfl rfl (tw_ HT_ HW_) nh_ (Or.inl ⟨by rfl, ?_⟩) hHeld ?_ ?_
   rotate_left
   ·
    rintro w' ⟨s0, s1, s2, s3, s4, s5, s6, s7, s8, s9, s10, s11, s12, s13, s14, s15, s16, s17, s18, s19⟩
    go_simp
    with_reducible rfl
   rotate_left; (exact pu_)
   refine one_ (i := 6) (N := some 17) (mk 37 127) rfl rfl (on_ HT_) de_ (fun K hK => ?_)
   refine goes_ Try.func45 (by kernel_rfl) rfl #[.string ((rd_T51 l0_3 x3_1).f0)] (by rfl) rfl rfl am_ ?_
   with_reducible refine (haberdashref10_Name.calls k1 ((rd_T51 l0_3 x3_1).f0) true _ A5.out).mono ?_
   rintro e w' ⟨rfl, ⟨nd, rfl⟩⟩
   refine ⟨_, rfl, ?_⟩
   refine hK.out _ _ ⟨cl_ BK295 0, cl_ BK295 1, cl_ BK295 2, cl_ BK295 3, (hc_ HB hw296_0), (hc_ HB hw296_1), (hc_ HB hw296_2), (hc_ HB hw296_3), (hc_ HB hw298_0), (hc_ HB hw298_1), (hc_ HB hw298_2), (hc_ HB hw298_3), (hc_ HB hw300_0), (hc_ HB hw300_1), (hc_ HB hw300_2), (hc_ HB hw300_3), (hc_ HB hw301_0), (hc_ HB hw301_1), (hc_ HB hw301_2), (hc_ HB hw301_3)⟩ (fun hHeld => ?_)
   clear hK K
   refine norm_ pv_ ?_
   refine ahead_ [(7, 18), (8, 19), (9, 20), (11, 22)] ?_
   iterate 4 (refine pB_ HT_ ?_)
   refine aheadE_ (mk 37 3071) kr_ ?_
   refine take_ (i := 10) (N := some 21) (v := ?_) (a' := ?_) (mk 37 4095) rfl rfl (tw_ HT_ HW_) nh_ (Or.inl ⟨by rfl, ?_⟩) hHeld ?_ ?_
   rotate_left
   ·
    rintro w' ⟨s0, s1, s2, s3, s4, s5, s6, s7, s8, s9, s10, s11, s12, s13, s14, s15, s16, s17, s18, s19⟩
    go_simp
    with_reducible rfl
   rotate_left; (exact pu_)
   refine pure_ (i := 12) (N := some 23) (v := ?_) (a' := ?_) (mk 37 8191) rfl rfl (an_ HT_) nh_ (Or.inl ⟨ry_, ?_⟩) ?_ ?_
   rotate_left; (intro w'; go_simp; with_reducible rfl)
   rotate_left; (exact pu_)
   refine take_ (i := 13) (N := some 24) (v := ?_) (a' := ?_) (mk 37 16383) rfl rfl (tw_ HT_ HW_) nh_ (Or.inl ⟨by rfl, ?_⟩) hHeld ?_ ?_
   rotate_left
   ·
    rintro w' ⟨s0, s1, s2, s3, s4, s5, s6, s7, s8, s9, s10, s11, s12, s13, s14, s15, s16, s17, s18, s19⟩
    go_simp
    with_reducible rfl
   rotate_left; (exact pu_)
   refine one_ (i := 14) (N := some 25) (mk 37 32767) rfl rfl (on_ HT_) de_ (fun K hK => ?_)
   refine goes_ Try.func46 (by kernel_rfl) rfl #[.agg #[.string ((rd_T51 l0_3 x3_1).f0), .slice A296_1 ((rd_T51 l0_3 x3_1).f1).length c296_1, .int .i64 ((rd_T51 l0_3 x3_1).f2), .int .i64 ((rd_T51 l0_3 x3_1).f3)]] (by rfl) rfl rfl am_ ?_
   with_reducible refine (haberdashref10_rates.calls k1 ((rd_T51 l0_3 x3_1).f0) _ _ ((rd_T51 l0_3 x3_1).f1) ((rd_T51 l0_3 x3_1).f2) ((rd_T51 l0_3 x3_1).f3) true _ ?side1 ?side2 A7.out).mono ?_
   (case side1 => exact (Kd.C_below HR298_1.out (hb1_ HB GE295)))
   (case side2 => exact HC298_1.out)
   rintro e w16 ⟨rfl, hb⟩
   refine ⟨_, rfl, ?_⟩
   replace BK295 := Aside0.mk (bb_ BK295 hb); replace HB := Aside0.mk (below_step (hb1_ HB GE295) hb); (try clear hb); (try clear hb2); (try clear hk); (try clear hi)
   refine hK.out _ _ ⟨cl_ BK295 0, cl_ BK295 1, cl_ BK295 2, cl_ BK295 3, (hc_ HB hw296_0), (hc_ HB hw296_1), (hc_ HB hw296_2), (hc_ HB hw296_3), (hc_ HB hw298_0), (hc_ HB hw298_1), (hc_ HB hw298_2), (hc_ HB hw298_3), (hc_ HB hw300_0), (hc_ HB hw300_1), (hc_ HB hw300_2), (hc_ HB hw300_3), (hc_ HB hw301_0), (hc_ HB hw301_1), (hc_ HB hw301_2), (hc_ HB hw301_3)⟩ (fun hHeld => ?_)
   clear hK K
   refine norm_ pv_ ?_
   refine ahead_ [(15, 26), (16, 27), (17, 28), (18, 29), (19, 30), (20, 31), (21, 32), (23, 34), (27, 38), (29, 40), (30, 41)] ?_
   iterate 11 (refine pB_ HT_ ?_)
   refine aheadE_ (mk 37 1757413375) kr_ ?_
   refine take_ (i := 22) (N := some 33) (v := ?_) (a' := ?_) (mk 37 1761607679) rfl rfl (tw_ HT_ HW_) nh_ (Or.inl ⟨by rfl, ?_⟩) hHeld ?_ ?_
   rotate_left
   ·
    rintro w' ⟨s0, s1, s2, s3, s4, s5, s6, s7, s8, s9, s10, s11, s12, s13, s14, s15, s16, s17, s18, s19⟩
    go_simp
    with_reducible rfl
   rotate_left; (exact pu_)
   refine ahead_ [(24, 35), (25, 36)] ?_
   iterate 2 (refine pB_ HT_ ?_)
   refine aheadE_ (mk 37 1811939327) kr_ ?_
   refine ahead_ [(26, 37), (28, 39)] ?_
   iterate 2 (refine tA_ (v := ?_) (a' := ?_) rfl rfl HT_.out HW_.out (by kernel_rfl) (fun _ _ _ h => h) (Or.inl ⟨by rfl, ?_⟩) hHeld ?_ ?_; rotate_left; (rintro w' ⟨s0, s1, s2, s3, s4, s5, s6, s7, s8, s9, s10, s11, s12, s13, s14, s15, s16, s17, s18, s19⟩; go_simp; with_reducible rfl); rotate_left; (exact pu_))
   refine aheadE_ (mk 37 2147483647) kr_ ?_
   refine ahead_ [(31, 42), (32, 43)] ?_
   iterate 2 (refine pB_ HT_ ?_)
   refine aheadE_ (mk 37 8589934591) kr_ ?_
   refine take_ (i := 33) (N := some 44) (v := ?_) (a' := ?_) (mk 37 17179869183) rfl rfl (tw_ HT_ HW_) nh_ (Or.inl ⟨by rfl, ?_⟩) hHeld ?_ ?_
   rotate_left
   ·
    rintro w' ⟨s0, s1, s2, s3, s4, s5, s6, s7, s8, s9, s10, s11, s12, s13, s14, s15, s16, s17, s18, s19⟩
    go_simp
    with_reducible rfl
   rotate_left; (exact pu_)
   refine ahead_ [(34, 45), (35, 46), (36, 47)] ?_
   iterate 3 (refine pB_ HT_ ?_)
   refine aheadE_ (mk 37 137438953471) kr_ ?_
   refine done_ (done_of HT_.out (by kernel_rfl)) ?_
   try go_wp2
   go_roundg k1
   case measure => have := HK1.out; omega
   case rel => exact ⟨(wrap64 (x3_1 + 1)), rf_, H', ⟨ho_ HK1⟩, ⟨bk_ BK295⟩, ⟨hb1_ HB GE295⟩⟩

end Go.Proofs.Ytmiamdnhofjifaa.Rw
end
