/- Functions of the program as Lean functions, each with its contract: out of what the kit's printer wrote for this seat. -/
import Derived.Test.YtebochcdbknodaaVRwA
import Derived.Test.YtebochcdbknodaaVRwAb
namespace Go.Proofs.Ytebochcdbknodaa.Rw
open Go.RowKit Go.Proofs.YtebochcdbknodaaW.PrintWords Go.Proofs.YtebochcdbknodaaW.PrintLast Go.Proofs.YtebochcdbknodaaW.PrintMore
attribute [local go_sem] max2_int min2_int max_two min_two max_three min_three max_four min_four   -- for this text's walks alone
set_option linter.unusedVariables false
set_option linter.unusedSimpArgs false
attribute [local go_sem high] leqS gtrS

/-! ### haberdashref21_in: function 32 -/
def haberdashref21_in.f (a0 : Int) (a1 : Int) : Option (Bool) := if a0 ≥ 0 then (some (decide (a0 ≤ a1))) else (some false)
set_option maxHeartbeats 8000000 in
set_option maxRecDepth 100000 in
theorem haberdashref21_in.calls (a0 : Int) (a1 : Int) (r : Bool) (w : World) (h : haberdashref21_in.f a0 a1 = some r) :
 Calls Try.prog 32 #[.int .i64 a0, .int .i64 a1] w fun e w' => e = .returned (.bool r) ∧ Drawn0 w w' := by
 have H : (if a0 ≥ 0 then (some (decide (a0 ≤ a1))) else (some false)) = some r := h
 clear h
 by_cases c3 : a0 ≥ 0
 rotate_left
 ·
  rw [if_neg c3] at H
  have c3b0 := decide_eq_false c3
  clear c3
  obtain rfl := Option.some.inj H
  go_enter Try.func32, Try.ntmps32
  go_wp2
  go_ret
  exact ⟨by first | rfl | (simp; done) | (simp [*]; done), by repeat (first | exact Drawn0.refl _ | apply Drawn0.step)⟩
 rw [if_pos c3] at H
 have c3b0 := decide_eq_true c3
 clear c3
 obtain rfl := Option.some.inj H
 go_enter Try.func32, Try.ntmps32
 go_wp2
 go_ret
 exact ⟨by first | rfl | (simp; done) | (simp [*]; done), by repeat (first | exact Drawn0.refl _ | apply Drawn0.step)⟩

/-! ### haberdashref21_Tenders: function 26 -/
def haberdashref21_Tenders.l0 : Nat → List (S39) → Int → Option (Bool)
 | 0, _, _ => none
 | k + 1, x0, x3 => if x3 < (x0.length : Int) then (if 0 ≤ x3 then (if ((rd_T39 x0 x3).f0) < 1 then (some false) else (if ((rd_T39 x0 x3).f0) > 9 then (some false) else ((haberdashref21_in.f ((rd_T39 x0 x3).f1) 100000000000000).bind fun t155 => (if t155 = true then ((haberdashref21_in.f ((rd_T39 x0 x3).f2) ((rd_T39 x0 x3).f1)).bind fun t158 => (if t158 = true then (haberdashref21_Tenders.l0 k x0 (wrap64 (x3 + 1))) else (some false))) else (some false))))) else (none)) else (some (decide ((x0.length : Int) ≤ 6)))
def haberdashref21_Tenders.f (k : Nat) (l0 : List (S39)) : Option (Bool) := haberdashref21_Tenders.l0 k l0 0
def haberdashref21_Tenders.T4 : Bool × List (List Nat × List Nat) := (true, [([], []), ([], []), ([0, 1], [0, 1]), ([2], [2]), ([3], [3]), ([4], [4]), ([5], [5]), ([6], [6]), ([6], [6]), ([7, 8, 6], [6, 7, 8]), ([9, 6], [6, 9]), ([10, 6], [6, 10]), ([11, 6], [6, 11]), ([6, 12], [6, 12]), ([13, 6], [13]), ([14], [14]), ([14], [14]), ([15, 16, 14], [14, 15, 16]), ([17, 14], [14, 17]), ([18, 14], [14, 18]), ([19, 14, 14], [14, 19]), ([20, 14], [14, 20]), ([14, 21], [14, 21]), ([22, 20], [22]), ([23], [23]), ([23], [23]), ([24, 25, 23], [23, 24, 25]), ([26, 23], [23, 26]), ([27, 23], [23, 27]), ([23], [23]), ([23], [23]), ([29, 30, 23], [23, 29, 30]), ([31, 23], [23, 31]), ([32, 23], [23, 32]), ([28, 33, 23, 23], [23, 28, 33]), ([34, 23], [23, 34]), ([23, 35], [23, 35])])
def haberdashref21_Tenders.B4 : List Nat := [0, 0, 3, 7, 15, 31, 63, 127, 127, 511, 1023, 2047, 4095, 8191, 16383, 32767, 32767, 131071, 262143, 524287, 1048575, 2097151, 4194303, 8388607, 16777215, 16777215, 67108863, 134217727, 268435455, 16777215, 16777215, 1627389951, 3774873599, 8069840895, 17179869183, 34359738367, 68719476735]
theorem haberdashref21_Tenders.tab4 : rtab .any (opsOf Try.f26 4) = haberdashref21_Tenders.T4 := by kernel_rfl
theorem haberdashref21_Tenders.bits4 : waitsOk haberdashref21_Tenders.T4.2 haberdashref21_Tenders.B4 = true := by kernel_rfl
set_option maxHeartbeats 8000000 in
set_option maxRecDepth 100000 in
theorem haberdashref21_Tenders.calls (k : Nat) (A0 : Option Addr) (c0 : Nat) (l0 : List (S39)) (r : Bool) (w : World) (hr0 : Kd.C k39 w A0 l0.length l0) (hc0 : l0.length ≤ c0) (h : haberdashref21_Tenders.f k l0 = some r) :
 Calls Try.prog 26 #[.slice A0 l0.length c0] w fun e w' => e = .returned (.bool r) ∧ Below w.heap.size w w' := by
 have HR0 := Aside0.mk hr0
 have HC0 := Aside0.mk hc0
 clear hr0 hc0
 have HB := Aside0.mk (Below.refl w.heap.size w)
 have H : (haberdashref21_Tenders.l0 k l0 0) = some r := h
 clear h
 have H' := Aside0.mk H
 clear H
 go_enter Try.func26, Try.ntmps26
 go_wp2
 go_loopg [3] k (fun kq v3 w' => ∃ (x3_1 : Int), v3 = .int .i64 x3_1 ∧ Aside0 (haberdashref21_Tenders.l0 kq l0 x3_1 = some r) ∧ Aside0 (kq ≤ k) ∧ Aside0 (Below w.heap.size w w'))
 case atStart => exact ⟨(0), rf_, H', ⟨Nat.le_refl _⟩, ⟨hb0_ HB⟩⟩
 case round =>
  clear H'
  obtain ⟨x3_1, rfl, HA, HK1, HB⟩ := hrel
  cases gk with
  | zero => exact absurd HA.out (by simp [haberdashref21_Tenders.l0])
  | succ k1 =>
   have H := HA.out
   clear HA
   simp only [haberdashref21_Tenders.l0] at H
   by_cases c2 : x3_1 < (l0.length : Int)
   rotate_left
   ·
    rw [if_neg c2] at H
    have c2b0 := decide_eq_false c2
    clear c2
    obtain rfl := Option.some.inj H
    go_wp2
    go_ret
    exact ⟨er_, hb0_ HB⟩
   rw [if_pos c2] at H
   have c2b0 := decide_eq_true c2
   clear c2
   by_cases c3 : 0 ≤ x3_1
   rotate_left
   ·
    rw [if_neg c3] at H
    exact absurd H (by simp)
   rw [if_pos c3] at H
   have c3b0 := decide_eq_true c3
   clear c3
   by_cases c4 : ((rd_T39 l0 x3_1).f0) < 1
   ·
    rw [if_pos c4] at H
    have c4b0 := decide_eq_true c4
    clear c4
    obtain rfl := Option.some.inj H
    try go_wp2
    replace HB := Aside0.mk (below_drew1 HB.out)
    have p152 : 0 ≤ (x3_1 : Int) := of_decide_eq_true as_
    have q152 : x3_1 < (l0.length : Int) := of_decide_eq_true as_
    obtain ⟨ad152, e152, hx152_0, hx152_1, hx152_2⟩ := at_T39 HR0.out x3_1 p152 q152
    have hw152_2 := hx152_2
    have hw152_1 := hx152_1
    have hw152_0 := hx152_0
    cases e152
    replace hx152_0 := hd_ HB hx152_0
    replace hx152_1 := hd_ HB hx152_1
    replace hx152_2 := hd_ HB hx152_2
    replace p152 := eq_true p152
    replace q152 := eq_true q152
    refine start_ (n := 37) (S := fun w' => w'.cell? (ad152.add ((x3_1).toNat * 3)) = some (.int .i64 ((rd_T39 l0 x3_1).f0)) ∧ w'.cell? ⟨(ad152.add ((x3_1).toNat * 3)).block, (ad152.add ((x3_1).toNat * 3)).off + 1, none⟩ = some (.int .i64 ((rd_T39 l0 x3_1).f1)) ∧ w'.cell? ⟨(ad152.add ((x3_1).toNat * 3)).block, (ad152.add ((x3_1).toNat * 3)).off + 2, none⟩ = some (.int .i64 ((rd_T39 l0 x3_1).f2))) (ds := []) (mk 37 0) (by kernel_rfl) rfl rfl ⟨(hc_ HB hw152_0), (hc_ HB hw152_1), (hc_ HB hw152_2)⟩ (fun hHeld => ?_); refine with_tabW haberdashref21_Tenders.tab4 haberdashref21_Tenders.bits4 (fun HT_ HW_ => ?_)
    generalize wr.drew = w5 at HB hx152_0 hx152_1 hx152_2 hHeld ⊢
    refine ahead_ [(0, 10), (1, 11), (2, 12), (3, 13)] ?_
    iterate 4 (refine pA_ (v := ?_) (a' := ?_) rfl rfl HT_.out kr_ nh_ (Or.inl ⟨ry_, ?_⟩) ?_ ?_; rotate_left; (intro w'; go_simp; with_reducible rfl); rotate_left; (exact pu_))
    refine aheadE_ (mk 37 15) (by kernel_rfl) ?_
    refine take_ (i := 4) (N := some 14) (v := ?_) (a' := ?_) (mk 37 31) rfl rfl (tw_ HT_ HW_) nh_ (Or.inl ⟨by rfl, ?_⟩) hHeld ?_ ?_
    rotate_left
    ·
     rintro w' ⟨s0, s1, s2⟩
     go_simp
     with_reducible rfl
    rotate_left; (exact pu_)
    refine ahead_ [(5, 15), (6, 16)] ?_
    iterate 2 (refine pA_ (v := ?_) (a' := ?_) rfl rfl HT_.out kr_ nh_ (Or.inl ⟨ry_, ?_⟩) ?_ ?_; rotate_left; (intro w'; go_simp; with_reducible rfl); rotate_left; (exact pu_))
    refine aheadE_ (mk 37 127) (by kernel_rfl) ?_
    refine ahead_ [(7, 17), (8, 18), (9, 19), (10, 20), (11, 21), (12, 22)] ?_
    iterate 6 (refine pA_ (v := undef) (a' := ?_) rfl rfl HT_.out kr_ nh_ ru_ ?_ ?_; rotate_left; (exact pu_))
    refine aheadE_ (mk 37 8191) (by kernel_rfl) ?_
    refine ahead_ [(13, 23), (14, 24)] ?_
    iterate 2 (refine pA_ (v := ?_) (a' := ?_) rfl rfl HT_.out kr_ nh_ (Or.inl ⟨ry_, ?_⟩) ?_ ?_; rotate_left; (intro w'; go_simp; with_reducible rfl); rotate_left; (exact pu_))
    refine aheadE_ (mk 37 32767) (by kernel_rfl) ?_
    refine ahead_ [(15, 25), (16, 26), (17, 27), (18, 28), (19, 29), (20, 30), (21, 31)] ?_
    iterate 7 (refine pA_ (v := undef) (a' := ?_) rfl rfl HT_.out kr_ nh_ ru_ ?_ ?_; rotate_left; (exact pu_))
    refine aheadE_ (mk 37 4194303) (by kernel_rfl) ?_
    refine ahead_ [(22, 32), (23, 33)] ?_
    iterate 2 (refine pA_ (v := ?_) (a' := ?_) rfl rfl HT_.out kr_ nh_ (Or.inl ⟨ry_, ?_⟩) ?_ ?_; rotate_left; (intro w'; go_simp; with_reducible rfl); rotate_left; (exact pu_))
    refine aheadE_ (mk 37 16777215) (by kernel_rfl) ?_
    refine ahead_ [(24, 34), (25, 35), (26, 36), (27, 37), (28, 38), (29, 39), (30, 40), (31, 41), (32, 42), (33, 43), (34, 44), (35, 45)] ?_
    iterate 12 (refine pA_ (v := undef) (a' := ?_) rfl rfl HT_.out kr_ nh_ ru_ ?_ ?_; rotate_left; (exact pu_))
    refine aheadE_ (mk 37 68719476735) (by kernel_rfl) ?_
    refine pure_ (i := 36) (N := some 46) (v := ?_) (a' := ?_) (mk 37 137438953471) rfl rfl (an_ HT_) nh_ (Or.inl ⟨ry_, ?_⟩) ?_ ?_
    rotate_left; (intro w'; go_simp; with_reducible rfl)
    rotate_left; (exact pu_)
    refine done_ (done_of HT_.out (by kernel_rfl)) ?_
    try go_wp2
    go_ret
    exact ⟨er_, hb0_ HB⟩
   rw [if_neg c4] at H
   have c4b0 := decide_eq_false c4
   clear c4
   by_cases c6 : ((rd_T39 l0 x3_1).f0) > 9
   ·
    rw [if_pos c6] at H
    have c6b0 := decide_eq_true c6
    clear c6
    obtain rfl := Option.some.inj H
    try go_wp2
    replace HB := Aside0.mk (below_drew1 HB.out)
    have p152 : 0 ≤ (x3_1 : Int) := of_decide_eq_true as_
    have q152 : x3_1 < (l0.length : Int) := of_decide_eq_true as_
    obtain ⟨ad152, e152, hx152_0, hx152_1, hx152_2⟩ := at_T39 HR0.out x3_1 p152 q152
    have hw152_2 := hx152_2
    have hw152_1 := hx152_1
    have hw152_0 := hx152_0
    cases e152
    replace hx152_0 := hd_ HB hx152_0
    replace hx152_1 := hd_ HB hx152_1
    replace hx152_2 := hd_ HB hx152_2
    replace p152 := eq_true p152
    replace q152 := eq_true q152
    have p153 : 0 ≤ (x3_1 : Int) := of_decide_eq_true as_
    have q153 : x3_1 < (l0.length : Int) := of_decide_eq_true as_
    obtain ⟨ad153, e153, hx153_0, hx153_1, hx153_2⟩ := at_T39 HR0.out x3_1 p153 q153
    have hw153_2 := hx153_2
    have hw153_1 := hx153_1
    have hw153_0 := hx153_0
    obtain rfl : ad152 = ad153 := (by injection e153)
    replace hx153_0 := hd_ HB hx153_0
    replace hx153_1 := hd_ HB hx153_1
    replace hx153_2 := hd_ HB hx153_2
    replace p153 := eq_true p153
    replace q153 := eq_true q153
    refine start_ (n := 37) (S := fun w' => w'.cell? (ad152.add ((x3_1).toNat * 3)) = some (.int .i64 ((rd_T39 l0 x3_1).f0)) ∧ w'.cell? ⟨(ad152.add ((x3_1).toNat * 3)).block, (ad152.add ((x3_1).toNat * 3)).off + 1, none⟩ = some (.int .i64 ((rd_T39 l0 x3_1).f1)) ∧ w'.cell? ⟨(ad152.add ((x3_1).toNat * 3)).block, (ad152.add ((x3_1).toNat * 3)).off + 2, none⟩ = some (.int .i64 ((rd_T39 l0 x3_1).f2)) ∧ w'.cell? (ad152.add ((x3_1).toNat * 3)) = some (.int .i64 ((rd_T39 l0 x3_1).f0)) ∧ w'.cell? ⟨(ad152.add ((x3_1).toNat * 3)).block, (ad152.add ((x3_1).toNat * 3)).off + 1, none⟩ = some (.int .i64 ((rd_T39 l0 x3_1).f1)) ∧ w'.cell? ⟨(ad152.add ((x3_1).toNat * 3)).block, (ad152.add ((x3_1).toNat * 3)).off + 2, none⟩ = some (.int .i64 ((rd_T39 l0 x3_1).f2))) (ds := []) (mk 37 0) (by kernel_rfl) rfl rfl ⟨(hc_ HB hw152_0), (hc_ HB hw152_1), (hc_ HB hw152_2), (hc_ HB hw153_0), (hc_ HB hw153_1), (hc_ HB hw153_2)⟩ (fun hHeld => ?_); refine with_tabW haberdashref21_Tenders.tab4 haberdashref21_Tenders.bits4 (fun HT_ HW_ => ?_)
    generalize wr.drew = w7 at HB hx152_0 hx152_1 hx152_2 hx153_0 hx153_1 hx153_2 hHeld ⊢
    refine ahead_ [(0, 10), (1, 11), (2, 12), (3, 13)] ?_
    iterate 4 (refine pA_ (v := ?_) (a' := ?_) rfl rfl HT_.out kr_ nh_ (Or.inl ⟨ry_, ?_⟩) ?_ ?_; rotate_left; (intro w'; go_simp; with_reducible rfl); rotate_left; (exact pu_))
    refine aheadE_ (mk 37 15) (by kernel_rfl) ?_
    refine take_ (i := 4) (N := some 14) (v := ?_) (a' := ?_) (mk 37 31) rfl rfl (tw_ HT_ HW_) nh_ (Or.inl ⟨by rfl, ?_⟩) hHeld ?_ ?_
    rotate_left
    ·
     rintro w' ⟨s0, s1, s2, s3, s4, s5⟩
     go_simp
     with_reducible rfl
    rotate_left; (exact pu_)
    refine ahead_ [(5, 15), (6, 16), (7, 17), (8, 18), (9, 19), (10, 20)] ?_
    iterate 6 (refine pA_ (v := ?_) (a' := ?_) rfl rfl HT_.out kr_ nh_ (Or.inl ⟨ry_, ?_⟩) ?_ ?_; rotate_left; (intro w'; go_simp; with_reducible rfl); rotate_left; (exact pu_))
    refine aheadE_ (mk 37 2047) (by kernel_rfl) ?_
    refine take_ (i := 11) (N := some 21) (v := ?_) (a' := ?_) (mk 37 4095) rfl rfl (tw_ HT_ HW_) nh_ (Or.inl ⟨by rfl, ?_⟩) hHeld ?_ ?_
    rotate_left
    ·
     rintro w' ⟨s0, s1, s2, s3, s4, s5⟩
     go_simp
     with_reducible rfl
    rotate_left; (exact pu_)
    refine ahead_ [(12, 22), (13, 23), (14, 24)] ?_
    iterate 3 (refine pA_ (v := ?_) (a' := ?_) rfl rfl HT_.out kr_ nh_ (Or.inl ⟨ry_, ?_⟩) ?_ ?_; rotate_left; (intro w'; go_simp; with_reducible rfl); rotate_left; (exact pu_))
    refine aheadE_ (mk 37 32767) (by kernel_rfl) ?_
    refine ahead_ [(15, 25), (16, 26), (17, 27), (18, 28), (19, 29), (20, 30), (21, 31)] ?_
    iterate 7 (refine pA_ (v := undef) (a' := ?_) rfl rfl HT_.out kr_ nh_ ru_ ?_ ?_; rotate_left; (exact pu_))
    refine aheadE_ (mk 37 4194303) (by kernel_rfl) ?_
    refine ahead_ [(22, 32), (23, 33)] ?_
    iterate 2 (refine pA_ (v := ?_) (a' := ?_) rfl rfl HT_.out kr_ nh_ (Or.inl ⟨ry_, ?_⟩) ?_ ?_; rotate_left; (intro w'; go_simp; with_reducible rfl); rotate_left; (exact pu_))
    refine aheadE_ (mk 37 16777215) (by kernel_rfl) ?_
    refine ahead_ [(24, 34), (25, 35), (26, 36), (27, 37), (28, 38), (29, 39), (30, 40), (31, 41), (32, 42), (33, 43), (34, 44), (35, 45)] ?_
    iterate 12 (refine pA_ (v := undef) (a' := ?_) rfl rfl HT_.out kr_ nh_ ru_ ?_ ?_; rotate_left; (exact pu_))
    refine aheadE_ (mk 37 68719476735) (by kernel_rfl) ?_
    refine pure_ (i := 36) (N := some 46) (v := ?_) (a' := ?_) (mk 37 137438953471) rfl rfl (an_ HT_) nh_ (Or.inl ⟨ry_, ?_⟩) ?_ ?_
    rotate_left; (intro w'; go_simp; with_reducible rfl)
    rotate_left; (exact pu_)
    refine done_ (done_of HT_.out (by kernel_rfl)) ?_
    try go_wp2
    go_ret
    exact ⟨er_, hb0_ HB⟩
   rw [if_neg c6] at H
   have c6b0 := decide_eq_false c6
   clear c6
   replace H := Option.bind_eq_some_iff.mp H
   obtain ⟨t155, A80, H⟩ := H
   (try dsimp only at H)
   have A8 := Aside0.mk A80
   clear A80
   by_cases c9 : t155 = true
   rotate_left
   ·
    replace c9 := Bool.eq_false_iff.mpr c9
    subst c9
    rw [if_neg nf_] at H
    obtain rfl := Option.some.inj H
    try go_wp2
    replace HB := Aside0.mk (below_drew1 HB.out)
    have p152 : 0 ≤ (x3_1 : Int) := of_decide_eq_true as_
    have q152 : x3_1 < (l0.length : Int) := of_decide_eq_true as_
    obtain ⟨ad152, e152, hx152_0, hx152_1, hx152_2⟩ := at_T39 HR0.out x3_1 p152 q152
    have hw152_2 := hx152_2
    have hw152_1 := hx152_1
    have hw152_0 := hx152_0
    cases e152
    replace hx152_0 := hd_ HB hx152_0
    replace hx152_1 := hd_ HB hx152_1
    replace hx152_2 := hd_ HB hx152_2
    replace p152 := eq_true p152
    replace q152 := eq_true q152
    have p153 : 0 ≤ (x3_1 : Int) := of_decide_eq_true as_
    have q153 : x3_1 < (l0.length : Int) := of_decide_eq_true as_
    obtain ⟨ad153, e153, hx153_0, hx153_1, hx153_2⟩ := at_T39 HR0.out x3_1 p153 q153
    have hw153_2 := hx153_2
    have hw153_1 := hx153_1
    have hw153_0 := hx153_0
    obtain rfl : ad152 = ad153 := (by injection e153)
    replace hx153_0 := hd_ HB hx153_0
    replace hx153_1 := hd_ HB hx153_1
    replace hx153_2 := hd_ HB hx153_2
    replace p153 := eq_true p153
    replace q153 := eq_true q153
    have p154 : 0 ≤ (x3_1 : Int) := of_decide_eq_true as_
    have q154 : x3_1 < (l0.length : Int) := of_decide_eq_true as_
    obtain ⟨ad154, e154, hx154_0, hx154_1, hx154_2⟩ := at_T39 HR0.out x3_1 p154 q154
    have hw154_2 := hx154_2
    have hw154_1 := hx154_1
    have hw154_0 := hx154_0
    obtain rfl : ad152 = ad154 := (by injection e154)
    replace hx154_0 := hd_ HB hx154_0
    replace hx154_1 := hd_ HB hx154_1
    replace hx154_2 := hd_ HB hx154_2
    replace p154 := eq_true p154
    replace q154 := eq_true q154
    refine start_ (n := 37) (S := fun w' => w'.cell? (ad152.add ((x3_1).toNat * 3)) = some (.int .i64 ((rd_T39 l0 x3_1).f0)) ∧ w'.cell? ⟨(ad152.add ((x3_1).toNat * 3)).block, (ad152.add ((x3_1).toNat * 3)).off + 1, none⟩ = some (.int .i64 ((rd_T39 l0 x3_1).f1)) ∧ w'.cell? ⟨(ad152.add ((x3_1).toNat * 3)).block, (ad152.add ((x3_1).toNat * 3)).off + 2, none⟩ = some (.int .i64 ((rd_T39 l0 x3_1).f2)) ∧ w'.cell? (ad152.add ((x3_1).toNat * 3)) = some (.int .i64 ((rd_T39 l0 x3_1).f0)) ∧ w'.cell? ⟨(ad152.add ((x3_1).toNat * 3)).block, (ad152.add ((x3_1).toNat * 3)).off + 1, none⟩ = some (.int .i64 ((rd_T39 l0 x3_1).f1)) ∧ w'.cell? ⟨(ad152.add ((x3_1).toNat * 3)).block, (ad152.add ((x3_1).toNat * 3)).off + 2, none⟩ = some (.int .i64 ((rd_T39 l0 x3_1).f2)) ∧ w'.cell? (ad152.add ((x3_1).toNat * 3)) = some (.int .i64 ((rd_T39 l0 x3_1).f0)) ∧ w'.cell? ⟨(ad152.add ((x3_1).toNat * 3)).block, (ad152.add ((x3_1).toNat * 3)).off + 1, none⟩ = some (.int .i64 ((rd_T39 l0 x3_1).f1)) ∧ w'.cell? ⟨(ad152.add ((x3_1).toNat * 3)).block, (ad152.add ((x3_1).toNat * 3)).off + 2, none⟩ = some (.int .i64 ((rd_T39 l0 x3_1).f2))) (ds := []) (mk 37 0) (by kernel_rfl) rfl rfl ⟨(hc_ HB hw152_0), (hc_ HB hw152_1), (hc_ HB hw152_2), (hc_ HB hw153_0), (hc_ HB hw153_1), (hc_ HB hw153_2), (hc_ HB hw154_0), (hc_ HB hw154_1), (hc_ HB hw154_2)⟩ (fun hHeld => ?_); refine with_tabW haberdashref21_Tenders.tab4 haberdashref21_Tenders.bits4 (fun HT_ HW_ => ?_)
    generalize wr.drew = w14 at HB hx152_0 hx152_1 hx152_2 hx153_0 hx153_1 hx153_2 hx154_0 hx154_1 hx154_2 hHeld ⊢
    refine ahead_ [(0, 10), (1, 11), (2, 12), (3, 13)] ?_
    iterate 4 (refine pA_ (v := ?_) (a' := ?_) rfl rfl HT_.out kr_ nh_ (Or.inl ⟨ry_, ?_⟩) ?_ ?_; rotate_left; (intro w'; go_simp; with_reducible rfl); rotate_left; (exact pu_))
    refine aheadE_ (mk 37 15) (by kernel_rfl) ?_
    refine take_ (i := 4) (N := some 14) (v := ?_) (a' := ?_) (mk 37 31) rfl rfl (tw_ HT_ HW_) nh_ (Or.inl ⟨by rfl, ?_⟩) hHeld ?_ ?_
    rotate_left
    ·
     rintro w' ⟨s0, s1, s2, s3, s4, s5, s6, s7, s8⟩
     go_simp
     with_reducible rfl
    rotate_left; (exact pu_)
    refine ahead_ [(5, 15), (6, 16), (7, 17), (8, 18), (9, 19), (10, 20)] ?_
    iterate 6 (refine pA_ (v := ?_) (a' := ?_) rfl rfl HT_.out kr_ nh_ (Or.inl ⟨ry_, ?_⟩) ?_ ?_; rotate_left; (intro w'; go_simp; with_reducible rfl); rotate_left; (exact pu_))
    refine aheadE_ (mk 37 2047) (by kernel_rfl) ?_
    refine take_ (i := 11) (N := some 21) (v := ?_) (a' := ?_) (mk 37 4095) rfl rfl (tw_ HT_ HW_) nh_ (Or.inl ⟨by rfl, ?_⟩) hHeld ?_ ?_
    rotate_left
    ·
     rintro w' ⟨s0, s1, s2, s3, s4, s5, s6, s7, s8⟩
     go_simp
     with_reducible rfl
    rotate_left; (exact pu_)
    refine ahead_ [(12, 22), (13, 23), (14, 24), (15, 25), (16, 26), (17, 27), (18, 28)] ?_
    iterate 7 (refine pA_ (v := ?_) (a' := ?_) rfl rfl HT_.out kr_ nh_ (Or.inl ⟨ry_, ?_⟩) ?_ ?_; rotate_left; (intro w'; go_simp; with_reducible rfl); rotate_left; (exact pu_))
    refine aheadE_ (mk 37 524287) (by kernel_rfl) ?_
    refine take_ (i := 19) (N := some 29) (v := ?_) (a' := ?_) (mk 37 1048575) rfl rfl (tw_ HT_ HW_) nh_ (Or.inl ⟨by rfl, ?_⟩) hHeld ?_ ?_
    rotate_left
    ·
     rintro w' ⟨s0, s1, s2, s3, s4, s5, s6, s7, s8⟩
     go_simp
     with_reducible rfl
    rotate_left; (exact pu_)
    refine one_ (i := 20) (N := some 30) (mk 37 2097151) rfl rfl (on_ HT_) de_ (fun K hK => ?_)
    refine goes_ Try.func32 (by kernel_rfl) rfl #[.int .i64 ((rd_T39 l0 x3_1).f1), .int .i64 100000000000000] (by rfl) rfl rfl am_ ?_
    with_reducible refine (haberdashref21_in.calls ((rd_T39 l0 x3_1).f1) 100000000000000 false _ A8.out).mono ?_
    rintro e w' ⟨rfl, ⟨nd, rfl⟩⟩
    refine ⟨_, rfl, ?_⟩
    refine hK.out _ _ ⟨(hc_ HB hw152_0), (hc_ HB hw152_1), (hc_ HB hw152_2), (hc_ HB hw153_0), (hc_ HB hw153_1), (hc_ HB hw153_2), (hc_ HB hw154_0), (hc_ HB hw154_1), (hc_ HB hw154_2)⟩ (fun hHeld => ?_)
    clear hK K
    refine norm_ (a' := ?_) ?_ ?_
    rotate_left; (show Act.put _ (some 30) _ = _; exact pu_)
    refine ahead_ [(21, 31), (22, 32), (23, 33)] ?_
    iterate 3 (refine pA_ (v := ?_) (a' := ?_) rfl rfl HT_.out kr_ nh_ (Or.inl ⟨ry_, ?_⟩) ?_ ?_; rotate_left; (intro w'; go_simp; with_reducible rfl); rotate_left; (exact pu_))
    refine aheadE_ (mk 37 16777215) (by kernel_rfl) ?_
    refine ahead_ [(24, 34), (25, 35), (26, 36), (27, 37), (28, 38), (29, 39), (30, 40), (31, 41), (32, 42), (33, 43), (34, 44), (35, 45)] ?_
    iterate 12 (refine pA_ (v := undef) (a' := ?_) rfl rfl HT_.out kr_ nh_ ru_ ?_ ?_; rotate_left; (exact pu_))
    refine aheadE_ (mk 37 68719476735) (by kernel_rfl) ?_
    refine pure_ (i := 36) (N := some 46) (v := ?_) (a' := ?_) (mk 37 137438953471) rfl rfl (an_ HT_) nh_ (Or.inl ⟨ry_, ?_⟩) ?_ ?_
    rotate_left; (intro w'; go_simp; with_reducible rfl)
    rotate_left; (exact pu_)
    refine done_ (done_of HT_.out (by kernel_rfl)) ?_
    try go_wp2
    go_ret
    exact ⟨er_, hb0_ HB⟩
   subst c9
   rw [if_pos rfl] at H
   replace H := Option.bind_eq_some_iff.mp H
   obtain ⟨t158, A100, H⟩ := H
   (try dsimp only at H)
   have A10 := Aside0.mk A100
   clear A100
   by_cases c11 : t158 = true
   rotate_left
   ·
    replace c11 := Bool.eq_false_iff.mpr c11
    subst c11
    rw [if_neg nf_] at H
    obtain rfl := Option.some.inj H
    try go_wp2
    replace HB := Aside0.mk (below_drew1 HB.out)
    have p152 : 0 ≤ (x3_1 : Int) := of_decide_eq_true as_
    have q152 : x3_1 < (l0.length : Int) := of_decide_eq_true as_
    obtain ⟨ad152, e152, hx152_0, hx152_1, hx152_2⟩ := at_T39 HR0.out x3_1 p152 q152
    have hw152_2 := hx152_2
    have hw152_1 := hx152_1
    have hw152_0 := hx152_0
    cases e152
    replace hx152_0 := hd_ HB hx152_0
    replace hx152_1 := hd_ HB hx152_1
    replace hx152_2 := hd_ HB hx152_2
    replace p152 := eq_true p152
    replace q152 := eq_true q152
    have p153 : 0 ≤ (x3_1 : Int) := of_decide_eq_true as_
    have q153 : x3_1 < (l0.length : Int) := of_decide_eq_true as_
    obtain ⟨ad153, e153, hx153_0, hx153_1, hx153_2⟩ := at_T39 HR0.out x3_1 p153 q153
    have hw153_2 := hx153_2
    have hw153_1 := hx153_1
    have hw153_0 := hx153_0
    obtain rfl : ad152 = ad153 := (by injection e153)
    replace hx153_0 := hd_ HB hx153_0
    replace hx153_1 := hd_ HB hx153_1
    replace hx153_2 := hd_ HB hx153_2
    replace p153 := eq_true p153
    replace q153 := eq_true q153
    have p154 : 0 ≤ (x3_1 : Int) := of_decide_eq_true as_
    have q154 : x3_1 < (l0.length : Int) := of_decide_eq_true as_
    obtain ⟨ad154, e154, hx154_0, hx154_1, hx154_2⟩ := at_T39 HR0.out x3_1 p154 q154
    have hw154_2 := hx154_2
    have hw154_1 := hx154_1
    have hw154_0 := hx154_0
    obtain rfl : ad152 = ad154 := (by injection e154)
    replace hx154_0 := hd_ HB hx154_0
    replace hx154_1 := hd_ HB hx154_1
    replace hx154_2 := hd_ HB hx154_2
    replace p154 := eq_true p154
    replace q154 := eq_true q154
    have p156 : 0 ≤ (x3_1 : Int) := of_decide_eq_true as_
    have q156 : x3_1 < (l0.length : Int) := of_decide_eq_true as_
    obtain ⟨ad156, e156, hx156_0, hx156_1, hx156_2⟩ := at_T39 HR0.out x3_1 p156 q156
    have hw156_2 := hx156_2
    have hw156_1 := hx156_1
    have hw156_0 := hx156_0
    obtain rfl : ad152 = ad156 := (by injection e156)
    replace hx156_0 := hd_ HB hx156_0
    replace hx156_1 := hd_ HB hx156_1
    replace hx156_2 := hd_ HB hx156_2
    replace p156 := eq_true p156
    replace q156 := eq_true q156
    have p157 : 0 ≤ (x3_1 : Int) := of_decide_eq_true as_
    have q157 : x3_1 < (l0.length : Int) := of_decide_eq_true as_
    obtain ⟨ad157, e157, hx157_0, hx157_1, hx157_2⟩ := at_T39 HR0.out x3_1 p157 q157
    have hw157_2 := hx157_2
    have hw157_1 := hx157_1
    have hw157_0 := hx157_0
    obtain rfl : ad152 = ad157 := (by injection e157)
    replace hx157_0 := hd_ HB hx157_0
    replace hx157_1 := hd_ HB hx157_1
    replace hx157_2 := hd_ HB hx157_2
    replace p157 := eq_true p157
    replace q157 := eq_true q157
    refine start_ (n := 37) (S := fun w' => w'.cell? (ad152.add ((x3_1).toNat * 3)) = some (.int .i64 ((rd_T39 l0 x3_1).f0)) ∧ w'.cell? ⟨(ad152.add ((x3_1).toNat * 3)).block, (ad152.add ((x3_1).toNat * 3)).off + 1, none⟩ = some (.int .i64 ((rd_T39 l0 x3_1).f1)) ∧ w'.cell? ⟨(ad152.add ((x3_1).toNat * 3)).block, (ad152.add ((x3_1).toNat * 3)).off + 2, none⟩ = some (.int .i64 ((rd_T39 l0 x3_1).f2)) ∧ w'.cell? (ad152.add ((x3_1).toNat * 3)) = some (.int .i64 ((rd_T39 l0 x3_1).f0)) ∧ w'.cell? ⟨(ad152.add ((x3_1).toNat * 3)).block, (ad152.add ((x3_1).toNat * 3)).off + 1, none⟩ = some (.int .i64 ((rd_T39 l0 x3_1).f1)) ∧ w'.cell? ⟨(ad152.add ((x3_1).toNat * 3)).block, (ad152.add ((x3_1).toNat * 3)).off + 2, none⟩ = some (.int .i64 ((rd_T39 l0 x3_1).f2)) ∧ w'.cell? (ad152.add ((x3_1).toNat * 3)) = some (.int .i64 ((rd_T39 l0 x3_1).f0)) ∧ w'.cell? ⟨(ad152.add ((x3_1).toNat * 3)).block, (ad152.add ((x3_1).toNat * 3)).off + 1, none⟩ = some (.int .i64 ((rd_T39 l0 x3_1).f1)) ∧ w'.cell? ⟨(ad152.add ((x3_1).toNat * 3)).block, (ad152.add ((x3_1).toNat * 3)).off + 2, none⟩ = some (.int .i64 ((rd_T39 l0 x3_1).f2)) ∧ w'.cell? (ad152.add ((x3_1).toNat * 3)) = some (.int .i64 ((rd_T39 l0 x3_1).f0)) ∧ w'.cell? ⟨(ad152.add ((x3_1).toNat * 3)).block, (ad152.add ((x3_1).toNat * 3)).off + 1, none⟩ = some (.int .i64 ((rd_T39 l0 x3_1).f1)) ∧ w'.cell? ⟨(ad152.add ((x3_1).toNat * 3)).block, (ad152.add ((x3_1).toNat * 3)).off + 2, none⟩ = some (.int .i64 ((rd_T39 l0 x3_1).f2)) ∧ w'.cell? (ad152.add ((x3_1).toNat * 3)) = some (.int .i64 ((rd_T39 l0 x3_1).f0)) ∧ w'.cell? ⟨(ad152.add ((x3_1).toNat * 3)).block, (ad152.add ((x3_1).toNat * 3)).off + 1, none⟩ = some (.int .i64 ((rd_T39 l0 x3_1).f1)) ∧ w'.cell? ⟨(ad152.add ((x3_1).toNat * 3)).block, (ad152.add ((x3_1).toNat * 3)).off + 2, none⟩ = some (.int .i64 ((rd_T39 l0 x3_1).f2))) (ds := []) (mk 37 0) (by kernel_rfl) rfl rfl ⟨(hc_ HB hw152_0), (hc_ HB hw152_1), (hc_ HB hw152_2), (hc_ HB hw153_0), (hc_ HB hw153_1), (hc_ HB hw153_2), (hc_ HB hw154_0), (hc_ HB hw154_1), (hc_ HB hw154_2), (hc_ HB hw156_0), (hc_ HB hw156_1), (hc_ HB hw156_2), (hc_ HB hw157_0), (hc_ HB hw157_1), (hc_ HB hw157_2)⟩ (fun hHeld => ?_); refine with_tabW haberdashref21_Tenders.tab4 haberdashref21_Tenders.bits4 (fun HT_ HW_ => ?_)
    generalize wr.drew = w13 at HB hx152_0 hx152_1 hx152_2 hx153_0 hx153_1 hx153_2 hx154_0 hx154_1 hx154_2 hx156_0 hx156_1 hx156_2 hx157_0 hx157_1 hx157_2 hHeld ⊢
    refine ahead_ [(0, 10), (1, 11), (2, 12), (3, 13)] ?_
    iterate 4 (refine pA_ (v := ?_) (a' := ?_) rfl rfl HT_.out kr_ nh_ (Or.inl ⟨ry_, ?_⟩) ?_ ?_; rotate_left; (intro w'; go_simp; with_reducible rfl); rotate_left; (exact pu_))
    refine aheadE_ (mk 37 15) (by kernel_rfl) ?_
    refine take_ (i := 4) (N := some 14) (v := ?_) (a' := ?_) (mk 37 31) rfl rfl (tw_ HT_ HW_) nh_ (Or.inl ⟨by rfl, ?_⟩) hHeld ?_ ?_
    rotate_left
    ·
     rintro w' ⟨s0, s1, s2, s3, s4, s5, s6, s7, s8, s9, s10, s11, s12, s13, s14⟩
     go_simp
     with_reducible rfl
    rotate_left; (exact pu_)
    refine ahead_ [(5, 15), (6, 16), (7, 17), (8, 18), (9, 19), (10, 20)] ?_
    iterate 6 (refine pA_ (v := ?_) (a' := ?_) rfl rfl HT_.out kr_ nh_ (Or.inl ⟨ry_, ?_⟩) ?_ ?_; rotate_left; (intro w'; go_simp; with_reducible rfl); rotate_left; (exact pu_))
    refine aheadE_ (mk 37 2047) (by kernel_rfl) ?_
    refine take_ (i := 11) (N := some 21) (v := ?_) (a' := ?_) (mk 37 4095) rfl rfl (tw_ HT_ HW_) nh_ (Or.inl ⟨by rfl, ?_⟩) hHeld ?_ ?_
    rotate_left
    ·
     rintro w' ⟨s0, s1, s2, s3, s4, s5, s6, s7, s8, s9, s10, s11, s12, s13, s14⟩
     go_simp
     with_reducible rfl
    rotate_left; (exact pu_)
    refine ahead_ [(12, 22), (13, 23), (14, 24), (15, 25), (16, 26), (17, 27), (18, 28)] ?_
    iterate 7 (refine pA_ (v := ?_) (a' := ?_) rfl rfl HT_.out kr_ nh_ (Or.inl ⟨ry_, ?_⟩) ?_ ?_; rotate_left; (intro w'; go_simp; with_reducible rfl); rotate_left; (exact pu_))
    refine aheadE_ (mk 37 524287) (by kernel_rfl) ?_
    refine take_ (i := 19) (N := some 29) (v := ?_) (a' := ?_) (mk 37 1048575) rfl rfl (tw_ HT_ HW_) nh_ (Or.inl ⟨by rfl, ?_⟩) hHeld ?_ ?_
    rotate_left
    ·
     rintro w' ⟨s0, s1, s2, s3, s4, s5, s6, s7, s8, s9, s10, s11, s12, s13, s14⟩
     go_simp
     with_reducible rfl
    rotate_left; (exact pu_)
    refine one_ (i := 20) (N := some 30) (mk 37 2097151) rfl rfl (on_ HT_) de_ (fun K hK => ?_)
    refine goes_ Try.func32 (by kernel_rfl) rfl #[.int .i64 ((rd_T39 l0 x3_1).f1), .int .i64 100000000000000] (by rfl) rfl rfl am_ ?_
    with_reducible refine (haberdashref21_in.calls ((rd_T39 l0 x3_1).f1) 100000000000000 true _ A8.out).mono ?_
    rintro e w' ⟨rfl, ⟨nd, rfl⟩⟩
    refine ⟨_, rfl, ?_⟩
    refine hK.out _ _ ⟨(hc_ HB hw152_0), (hc_ HB hw152_1), (hc_ HB hw152_2), (hc_ HB hw153_0), (hc_ HB hw153_1), (hc_ HB hw153_2), (hc_ HB hw154_0), (hc_ HB hw154_1), (hc_ HB hw154_2), (hc_ HB hw156_0), (hc_ HB hw156_1), (hc_ HB hw156_2), (hc_ HB hw157_0), (hc_ HB hw157_1), (hc_ HB hw157_2)⟩ (fun hHeld => ?_)
    clear hK K
    refine norm_ (a' := ?_) ?_ ?_
    rotate_left; (show Act.put _ (some 30) _ = _; exact pu_)
    refine ahead_ [(21, 31), (22, 32), (23, 33), (24, 34), (25, 35), (26, 36), (27, 37), (29, 39), (30, 40), (31, 41), (32, 42)] ?_
    iterate 11 (refine pA_ (v := ?_) (a' := ?_) rfl rfl HT_.out kr_ nh_ (Or.inl ⟨ry_, ?_⟩) ?_ ?_; rotate_left; (intro w'; go_simp; with_reducible rfl); rotate_left; (exact pu_))
    refine aheadE_ (mk 37 8321499135) (by kernel_rfl) ?_
    refine ahead_ [(28, 38), (33, 43)] ?_
    iterate 2 (refine tA_ (v := ?_) (a' := ?_) rfl rfl HT_.out HW_.out (by kernel_rfl) (fun _ _ _ h => h) (Or.inl ⟨by rfl, ?_⟩) hHeld ?_ ?_; rotate_left; (rintro w' ⟨s0, s1, s2, s3, s4, s5, s6, s7, s8, s9, s10, s11, s12, s13, s14⟩; go_simp; with_reducible rfl); rotate_left; (exact pu_))
    refine aheadE_ (mk 37 17179869183) (by kernel_rfl) ?_
    refine one_ (i := 34) (N := some 44) (mk 37 34359738367) rfl rfl (on_ HT_) de_ (fun K hK => ?_)
    refine goes_ Try.func32 (by kernel_rfl) rfl #[.int .i64 ((rd_T39 l0 x3_1).f2), .int .i64 ((rd_T39 l0 x3_1).f1)] (by rfl) rfl rfl am_ ?_
    with_reducible refine (haberdashref21_in.calls ((rd_T39 l0 x3_1).f2) ((rd_T39 l0 x3_1).f1) false _ A10.out).mono ?_
    rintro e w' ⟨rfl, ⟨nd, rfl⟩⟩
    refine ⟨_, rfl, ?_⟩
    refine hK.out _ _ ⟨(hc_ HB hw152_0), (hc_ HB hw152_1), (hc_ HB hw152_2), (hc_ HB hw153_0), (hc_ HB hw153_1), (hc_ HB hw153_2), (hc_ HB hw154_0), (hc_ HB hw154_1), (hc_ HB hw154_2), (hc_ HB hw156_0), (hc_ HB hw156_1), (hc_ HB hw156_2), (hc_ HB hw157_0), (hc_ HB hw157_1), (hc_ HB hw157_2)⟩ (fun hHeld => ?_)
    clear hK K
    refine norm_ (a' := ?_) ?_ ?_
    rotate_left; (show Act.put _ (some 44) _ = _; exact pu_)
    refine ahead_ [(35, 45), (36, 46)] ?_
    iterate 2 (refine pA_ (v := ?_) (a' := ?_) rfl rfl HT_.out kr_ nh_ (Or.inl ⟨ry_, ?_⟩) ?_ ?_; rotate_left; (intro w'; go_simp; with_reducible rfl); rotate_left; (exact pu_))
    refine aheadE_ (mk 37 137438953471) (by kernel_rfl) ?_
    refine done_ (done_of HT_.out (by kernel_rfl)) ?_
    try go_wp2
    go_ret
    exact ⟨er_, hb0_ HB⟩
   subst c11
   rw [if_pos rfl] at H
   have H' := Aside0.mk H
   clear H
   try go_wp2
   replace HB := Aside0.mk (below_drew1 HB.out)
   have p152 : 0 ≤ (x3_1 : Int) := of_decide_eq_true as_
   have q152 : x3_1 < (l0.length : Int) := of_decide_eq_true as_
   obtain ⟨ad152, e152, hx152_0, hx152_1, hx152_2⟩ := at_T39 HR0.out x3_1 p152 q152
   have hw152_2 := hx152_2
   have hw152_1 := hx152_1
   have hw152_0 := hx152_0
   cases e152
   replace hx152_0 := hd_ HB hx152_0
   replace hx152_1 := hd_ HB hx152_1
   replace hx152_2 := hd_ HB hx152_2
   replace p152 := eq_true p152
   replace q152 := eq_true q152
   have p153 : 0 ≤ (x3_1 : Int) := of_decide_eq_true as_
   have q153 : x3_1 < (l0.length : Int) := of_decide_eq_true as_
   obtain ⟨ad153, e153, hx153_0, hx153_1, hx153_2⟩ := at_T39 HR0.out x3_1 p153 q153
   have hw153_2 := hx153_2
   have hw153_1 := hx153_1
   have hw153_0 := hx153_0
   obtain rfl : ad152 = ad153 := (by injection e153)
   replace hx153_0 := hd_ HB hx153_0
   replace hx153_1 := hd_ HB hx153_1
   replace hx153_2 := hd_ HB hx153_2
   replace p153 := eq_true p153
   replace q153 := eq_true q153
   have p154 : 0 ≤ (x3_1 : Int) := of_decide_eq_true as_
   have q154 : x3_1 < (l0.length : Int) := of_decide_eq_true as_
   obtain ⟨ad154, e154, hx154_0, hx154_1, hx154_2⟩ := at_T39 HR0.out x3_1 p154 q154
   have hw154_2 := hx154_2
   have hw154_1 := hx154_1
   have hw154_0 := hx154_0
   obtain rfl : ad152 = ad154 := (by injection e154)
   replace hx154_0 := hd_ HB hx154_0
   replace hx154_1 := hd_ HB hx154_1
   replace hx154_2 := hd_ HB hx154_2
   replace p154 := eq_true p154
   replace q154 := eq_true q154
   have p156 : 0 ≤ (x3_1 : Int) := of_decide_eq_true as_
   have q156 : x3_1 < (l0.length : Int) := of_decide_eq_true as_
   obtain ⟨ad156, e156, hx156_0, hx156_1, hx156_2⟩ := at_T39 HR0.out x3_1 p156 q156
   have hw156_2 := hx156_2
   have hw156_1 := hx156_1
   have hw156_0 := hx156_0
   obtain rfl : ad152 = ad156 := (by injection e156)
   replace hx156_0 := hd_ HB hx156_0
   replace hx156_1 := hd_ HB hx156_1
   replace hx156_2 := hd_ HB hx156_2
   replace p156 := eq_true p156
   replace q156 := eq_true q156
   have p157 : 0 ≤ (x3_1 : Int) := of_decide_eq_true as_
   have q157 : x3_1 < (l0.length : Int) := of_decide_eq_true as_
   obtain ⟨ad157, e157, hx157_0, hx157_1, hx157_2⟩ := at_T39 HR0.out x3_1 p157 q157
   have hw157_2 := hx157_2
   have hw157_1 := hx157_1
   have hw157_0 := hx157_0
   obtain rfl : ad152 = ad157 := (by injection e157)
   replace hx157_0 := hd_ HB hx157_0
   replace hx157_1 := hd_ HB hx157_1
   replace hx157_2 := hd_ HB hx157_2
   replace p157 := eq_true p157
   replace q157 := eq_true q157
   refine start_ (n := 37) (S := fun w' => w'.cell? (ad152.add ((x3_1).toNat * 3)) = some (.int .i64 ((rd_T39 l0 x3_1).f0)) ∧ w'.cell? ⟨(ad152.add ((x3_1).toNat * 3)).block, (ad152.add ((x3_1).toNat * 3)).off + 1, none⟩ = some (.int .i64 ((rd_T39 l0 x3_1).f1)) ∧ w'.cell? ⟨(ad152.add ((x3_1).toNat * 3)).block, (ad152.add ((x3_1).toNat * 3)).off + 2, none⟩ = some (.int .i64 ((rd_T39 l0 x3_1).f2)) ∧ w'.cell? (ad152.add ((x3_1).toNat * 3)) = some (.int .i64 ((rd_T39 l0 x3_1).f0)) ∧ w'.cell? ⟨(ad152.add ((x3_1).toNat * 3)).block, (ad152.add ((x3_1).toNat * 3)).off + 1, none⟩ = some (.int .i64 ((rd_T39 l0 x3_1).f1)) ∧ w'.cell? ⟨(ad152.add ((x3_1).toNat * 3)).block, (ad152.add ((x3_1).toNat * 3)).off + 2, none⟩ = some (.int .i64 ((rd_T39 l0 x3_1).f2)) ∧ w'.cell? (ad152.add ((x3_1).toNat * 3)) = some (.int .i64 ((rd_T39 l0 x3_1).f0)) ∧ w'.cell? ⟨(ad152.add ((x3_1).toNat * 3)).block, (ad152.add ((x3_1).toNat * 3)).off + 1, none⟩ = some (.int .i64 ((rd_T39 l0 x3_1).f1)) ∧ w'.cell? ⟨(ad152.add ((x3_1).toNat * 3)).block, (ad152.add ((x3_1).toNat * 3)).off + 2, none⟩ = some (.int .i64 ((rd_T39 l0 x3_1).f2)) ∧ w'.cell? (ad152.add ((x3_1).toNat * 3)) = some (.int .i64 ((rd_T39 l0 x3_1).f0)) ∧ w'.cell? ⟨(ad152.add ((x3_1).toNat * 3)).block, (ad152.add ((x3_1).toNat * 3)).off + 1, none⟩ = some (.int .i64 ((rd_T39 l0 x3_1).f1)) ∧ w'.cell? ⟨(ad152.add ((x3_1).toNat * 3)).block, (ad152.add ((x3_1).toNat * 3)).off + 2, none⟩ = some (.int .i64 ((rd_T39 l0 x3_1).f2)) ∧ w'.cell? (ad152.add ((x3_1).toNat * 3)) = some (.int .i64 ((rd_T39 l0 x3_1).f0)) ∧ w'.cell? ⟨(ad152.add ((x3_1).toNat * 3)).block, (ad152.add ((x3_1).toNat * 3)).off + 1, none⟩ = some (.int .i64 ((rd_T39 l0 x3_1).f1)) ∧ w'.cell? ⟨(ad152.add ((x3_1).toNat * 3)).block, (ad152.add ((x3_1).toNat * 3)).off + 2, none⟩ = some (.int .i64 ((rd_T39 l0 x3_1).f2))) (ds := []) (mk 37 0) (by kernel_rfl) rfl rfl ⟨(hc_ HB hw152_0), (hc_ HB hw152_1), (hc_ HB hw152_2), (hc_ HB hw153_0), (hc_ HB hw153_1), (hc_ HB hw153_2), (hc_ HB hw154_0), (hc_ HB hw154_1), (hc_ HB hw154_2), (hc_ HB hw156_0), (hc_ HB hw156_1), (hc_ HB hw156_2), (hc_ HB hw157_0), (hc_ HB hw157_1), (hc_ HB hw157_2)⟩ (fun hHeld => ?_); refine with_tabW haberdashref21_Tenders.tab4 haberdashref21_Tenders.bits4 (fun HT_ HW_ => ?_)
   generalize wr.drew = w12 at HB hx152_0 hx152_1 hx152_2 hx153_0 hx153_1 hx153_2 hx154_0 hx154_1 hx154_2 hx156_0 hx156_1 hx156_2 hx157_0 hx157_1 hx157_2 hHeld ⊢
   refine ahead_ [(0, 10), (1, 11), (2, 12), (3, 13)] ?_
   iterate 4 (refine pA_ (v := ?_) (a' := ?_) rfl rfl HT_.out kr_ nh_ (Or.inl ⟨ry_, ?_⟩) ?_ ?_; rotate_left; (intro w'; go_simp; with_reducible rfl); rotate_left; (exact pu_))
   refine aheadE_ (mk 37 15) (by kernel_rfl) ?_
   refine take_ (i := 4) (N := some 14) (v := ?_) (a' := ?_) (mk 37 31) rfl rfl (tw_ HT_ HW_) nh_ (Or.inl ⟨by rfl, ?_⟩) hHeld ?_ ?_
   rotate_left
   ·
    rintro w' ⟨s0, s1, s2, s3, s4, s5, s6, s7, s8, s9, s10, s11, s12, s13, s14⟩
    go_simp
    with_reducible rfl
   rotate_left; (exact pu_)
   refine ahead_ [(5, 15), (6, 16), (7, 17), (8, 18), (9, 19), (10, 20)] ?_
   iterate 6 (refine pA_ (v := ?_) (a' := ?_) rfl rfl HT_.out kr_ nh_ (Or.inl ⟨ry_, ?_⟩) ?_ ?_; rotate_left; (intro w'; go_simp; with_reducible rfl); rotate_left; (exact pu_))
   refine aheadE_ (mk 37 2047) (by kernel_rfl) ?_
   refine take_ (i := 11) (N := some 21) (v := ?_) (a' := ?_) (mk 37 4095) rfl rfl (tw_ HT_ HW_) nh_ (Or.inl ⟨by rfl, ?_⟩) hHeld ?_ ?_
   rotate_left
   ·
    rintro w' ⟨s0, s1, s2, s3, s4, s5, s6, s7, s8, s9, s10, s11, s12, s13, s14⟩
    go_simp
    with_reducible rfl
   rotate_left; (exact pu_)
   refine ahead_ [(12, 22), (13, 23), (14, 24), (15, 25), (16, 26), (17, 27), (18, 28)] ?_
   iterate 7 (refine pA_ (v := ?_) (a' := ?_) rfl rfl HT_.out kr_ nh_ (Or.inl ⟨ry_, ?_⟩) ?_ ?_; rotate_left; (intro w'; go_simp; with_reducible rfl); rotate_left; (exact pu_))
   refine aheadE_ (mk 37 524287) (by kernel_rfl) ?_
   refine take_ (i := 19) (N := some 29) (v := ?_) (a' := ?_) (mk 37 1048575) rfl rfl (tw_ HT_ HW_) nh_ (Or.inl ⟨by rfl, ?_⟩) hHeld ?_ ?_
   rotate_left
   ·
    rintro w' ⟨s0, s1, s2, s3, s4, s5, s6, s7, s8, s9, s10, s11, s12, s13, s14⟩
    go_simp
    with_reducible rfl
   rotate_left; (exact pu_)
   refine one_ (i := 20) (N := some 30) (mk 37 2097151) rfl rfl (on_ HT_) de_ (fun K hK => ?_)
   refine goes_ Try.func32 (by kernel_rfl) rfl #[.int .i64 ((rd_T39 l0 x3_1).f1), .int .i64 100000000000000] (by rfl) rfl rfl am_ ?_
   with_reducible refine (haberdashref21_in.calls ((rd_T39 l0 x3_1).f1) 100000000000000 true _ A8.out).mono ?_
   rintro e w' ⟨rfl, ⟨nd, rfl⟩⟩
   refine ⟨_, rfl, ?_⟩
   refine hK.out _ _ ⟨(hc_ HB hw152_0), (hc_ HB hw152_1), (hc_ HB hw152_2), (hc_ HB hw153_0), (hc_ HB hw153_1), (hc_ HB hw153_2), (hc_ HB hw154_0), (hc_ HB hw154_1), (hc_ HB hw154_2), (hc_ HB hw156_0), (hc_ HB hw156_1), (hc_ HB hw156_2), (hc_ HB hw157_0), (hc_ HB hw157_1), (hc_ HB hw157_2)⟩ (fun hHeld => ?_)
   clear hK K
   refine norm_ (a' := ?_) ?_ ?_
   rotate_left; (show Act.put _ (some 30) _ = _; exact pu_)
   refine ahead_ [(21, 31), (22, 32), (23, 33), (24, 34), (25, 35), (26, 36), (27, 37), (29, 39), (30, 40), (31, 41), (32, 42)] ?_
   iterate 11 (refine pA_ (v := ?_) (a' := ?_) rfl rfl HT_.out kr_ nh_ (Or.inl ⟨ry_, ?_⟩) ?_ ?_; rotate_left; (intro w'; go_simp; with_reducible rfl); rotate_left; (exact pu_))
   refine aheadE_ (mk 37 8321499135) (by kernel_rfl) ?_
   refine ahead_ [(28, 38), (33, 43)] ?_
   iterate 2 (refine tA_ (v := ?_) (a' := ?_) rfl rfl HT_.out HW_.out (by kernel_rfl) (fun _ _ _ h => h) (Or.inl ⟨by rfl, ?_⟩) hHeld ?_ ?_; rotate_left; (rintro w' ⟨s0, s1, s2, s3, s4, s5, s6, s7, s8, s9, s10, s11, s12, s13, s14⟩; go_simp; with_reducible rfl); rotate_left; (exact pu_))
   refine aheadE_ (mk 37 17179869183) (by kernel_rfl) ?_
   refine one_ (i := 34) (N := some 44) (mk 37 34359738367) rfl rfl (on_ HT_) de_ (fun K hK => ?_)
   refine goes_ Try.func32 (by kernel_rfl) rfl #[.int .i64 ((rd_T39 l0 x3_1).f2), .int .i64 ((rd_T39 l0 x3_1).f1)] (by rfl) rfl rfl am_ ?_
   with_reducible refine (haberdashref21_in.calls ((rd_T39 l0 x3_1).f2) ((rd_T39 l0 x3_1).f1) true _ A10.out).mono ?_
   rintro e w' ⟨rfl, ⟨nd, rfl⟩⟩
   refine ⟨_, rfl, ?_⟩
   refine hK.out _ _ ⟨(hc_ HB hw152_0), (hc_ HB hw152_1), (hc_ HB hw152_2), (hc_ HB hw153_0), (hc_ HB hw153_1), (hc_ HB hw153_2), (hc_ HB hw154_0), (hc_ HB hw154_1), (hc_ HB hw154_2), (hc_ HB hw156_0), (hc_ HB hw156_1), (hc_ HB hw156_2), (hc_ HB hw157_0), (hc_ HB hw157_1), (hc_ HB hw157_2)⟩ (fun hHeld => ?_)
   clear hK K
   refine norm_ (a' := ?_) ?_ ?_
   rotate_left; (show Act.put _ (some 44) _ = _; exact pu_)
   refine ahead_ [(35, 45), (36, 46)] ?_
   iterate 2 (refine pA_ (v := ?_) (a' := ?_) rfl rfl HT_.out kr_ nh_ (Or.inl ⟨ry_, ?_⟩) ?_ ?_; rotate_left; (intro w'; go_simp; with_reducible rfl); rotate_left; (exact pu_))
   refine aheadE_ (mk 37 137438953471) (by kernel_rfl) ?_
   refine done_ (done_of HT_.out (by kernel_rfl)) ?_
   try go_wp2
   go_roundg k1
   case measure => have := HK1.out; omega
   case rel => exact ⟨(wrap64 (x3_1 + 1)), rf_, H', ⟨by have := HK1.out; omega⟩, ⟨hb0_ HB⟩⟩

/-! ### haberdashref21_Left: function 11 -/
def haberdashref21_Left.l0 : Nat → List (S39) → Int → Int → Option (Int)
 | 0, _, _, _ => none
 | k + 1, x0, x3, x4 => if x4 < (x0.length : Int) then (if 0 ≤ x4 then (haberdashref21_Left.l0 k x0 (wrap64 ((wrap64 (x3 + ((rd_T39 x0 x4).f1))) - ((rd_T39 x0 x4).f2))) (wrap64 (x4 + 1))) else (none)) else (some x3)
def haberdashref21_Left.f (k : Nat) (l0 : List (S39)) : Option (Int) := (haberdashref21_Tenders.f k l0).bind fun t159 => (if t159 = true then (haberdashref21_Left.l0 k l0 0 0) else (some 0))
set_option maxHeartbeats 8000000 in
set_option maxRecDepth 100000 in
theorem haberdashref21_Left.calls (k : Nat) (A0 : Option Addr) (c0 : Nat) (l0 : List (S39)) (r : Int) (w : World) (hr0 : Kd.C k39 w A0 l0.length l0) (hc0 : l0.length ≤ c0) (h : haberdashref21_Left.f k l0 = some r) :
 Calls Try.prog 11 #[.slice A0 l0.length c0] w fun e w' => e = .returned (.int .i64 r) ∧ Below w.heap.size w w' := by
 have HR0 := Aside0.mk hr0
 have HC0 := Aside0.mk hc0
 clear hr0 hc0
 have HB := Aside0.mk (Below.refl w.heap.size w)
 have H : ((haberdashref21_Tenders.f k l0).bind fun t159 => (if t159 = true then (haberdashref21_Left.l0 k l0 0 0) else (some 0))) = some r := h
 clear h
 replace H := Option.bind_eq_some_iff.mp H
 obtain ⟨t159, A20, H⟩ := H
 (try dsimp only at H)
 have A2 := Aside0.mk A20
 clear A20
 by_cases c3 : t159 = true
 rotate_left
 ·
  replace c3 := Bool.eq_false_iff.mpr c3
  subst c3
  rw [if_neg nf_] at H
  obtain rfl := Option.some.inj H
  go_enter Try.func11, Try.ntmps11
  go_wp2_with (first | (go_at_call 26; (with_reducible refine (haberdashref21_Tenders.calls k _ _ l0 false _ ?side1 ?side2 A2.out).mono ?_); (case side1 => repeat (first | exact HR0.out | (with_reducible refine Kd.C_alloc ?_ _) | (with_reducible refine Kd.C_drewN ?_ _) | (with_reducible refine Kd.C_drew ?_))); (case side2 => exact HC0.out); rintro e w7 ⟨rfl, hb⟩; replace HB := Aside0.mk (below_step (hb0_ HB) hb); (try clear hb)))
  repeat (go_quiet (first | (go_at_call 26; (with_reducible refine (haberdashref21_Tenders.calls k _ _ l0 false _ ?side1 ?side2 A2.out).mono ?_); (case side1 => repeat (first | exact HR0.out | (with_reducible refine Kd.C_alloc ?_ _) | (with_reducible refine Kd.C_drewN ?_ _) | (with_reducible refine Kd.C_drew ?_))); (case side2 => exact HC0.out); rintro e w7 ⟨rfl, hb⟩; replace HB := Aside0.mk (below_step (hb0_ HB) hb); (try clear hb))); try go_wp2_with (first | (go_at_call 26; (with_reducible refine (haberdashref21_Tenders.calls k _ _ l0 false _ ?side1 ?side2 A2.out).mono ?_); (case side1 => repeat (first | exact HR0.out | (with_reducible refine Kd.C_alloc ?_ _) | (with_reducible refine Kd.C_drewN ?_ _) | (with_reducible refine Kd.C_drew ?_))); (case side2 => exact HC0.out); rintro e w7 ⟨rfl, hb⟩; replace HB := Aside0.mk (below_step (hb0_ HB) hb); (try clear hb))))
  go_ret
  exact ⟨er_, hb0_ HB⟩
 subst c3
 rw [if_pos rfl] at H
 have H' := Aside0.mk H
 clear H
 go_enter Try.func11, Try.ntmps11
 go_wp2_with (first | (go_at_call 26; (with_reducible refine (haberdashref21_Tenders.calls k _ _ l0 true _ ?side1 ?side2 A2.out).mono ?_); (case side1 => repeat (first | exact HR0.out | (with_reducible refine Kd.C_alloc ?_ _) | (with_reducible refine Kd.C_drewN ?_ _) | (with_reducible refine Kd.C_drew ?_))); (case side2 => exact HC0.out); rintro e w4 ⟨rfl, hb⟩; replace HB := Aside0.mk (below_step (hb0_ HB) hb); (try clear hb)))
 repeat (go_quiet (first | (go_at_call 26; (with_reducible refine (haberdashref21_Tenders.calls k _ _ l0 true _ ?side1 ?side2 A2.out).mono ?_); (case side1 => repeat (first | exact HR0.out | (with_reducible refine Kd.C_alloc ?_ _) | (with_reducible refine Kd.C_drewN ?_ _) | (with_reducible refine Kd.C_drew ?_))); (case side2 => exact HC0.out); rintro e w4 ⟨rfl, hb⟩; replace HB := Aside0.mk (below_step (hb0_ HB) hb); (try clear hb))); try go_wp2_with (first | (go_at_call 26; (with_reducible refine (haberdashref21_Tenders.calls k _ _ l0 true _ ?side1 ?side2 A2.out).mono ?_); (case side1 => repeat (first | exact HR0.out | (with_reducible refine Kd.C_alloc ?_ _) | (with_reducible refine Kd.C_drewN ?_ _) | (with_reducible refine Kd.C_drew ?_))); (case side2 => exact HC0.out); rintro e w4 ⟨rfl, hb⟩; replace HB := Aside0.mk (below_step (hb0_ HB) hb); (try clear hb))))
 go_loopg [3, 4] k (fun kq v3 v4 w' => ∃ (x3_1 : Int) (x4_1 : Int), v3 = .int .i64 x3_1 ∧ v4 = .int .i64 x4_1 ∧ Aside0 (haberdashref21_Left.l0 kq l0 x3_1 x4_1 = some r) ∧ Aside0 (kq ≤ k) ∧ Aside0 (Below w.heap.size w w'))
 case atStart => exact ⟨(0), (0), rf_, rf_, H', ⟨Nat.le_refl _⟩, ⟨hb0_ HB⟩⟩
 case round =>
  clear H'
  try clear c1
  try clear p2
  try clear c3
  obtain ⟨x3_1, x4_1, rfl, rfl, HA, HK1, HB⟩ := hrel
  cases gk with
  | zero => exact absurd HA.out (by simp [haberdashref21_Left.l0])
  | succ k1 =>
   have H := HA.out
   clear HA
   simp only [haberdashref21_Left.l0] at H
   by_cases c5 : x4_1 < (l0.length : Int)
   rotate_left
   ·
    rw [if_neg c5] at H
    have c5b0 := decide_eq_false c5
    clear c5
    obtain rfl := Option.some.inj H
    go_wp2
    repeat (go_quiet (fail); try go_wp2)
    go_ret
    exact ⟨er_, hb0_ HB⟩
   rw [if_pos c5] at H
   have c5b0 := decide_eq_true c5
   clear c5
   by_cases c6 : 0 ≤ x4_1
   rotate_left
   ·
    rw [if_neg c6] at H
    exact absurd H (by simp)
   rw [if_pos c6] at H
   have c6b0 := decide_eq_true c6
   clear c6
   have H' := Aside0.mk H
   clear H
   have p160 : 0 ≤ (x4_1 : Int) := of_decide_eq_true as_
   have q160 : x4_1 < (l0.length : Int) := of_decide_eq_true as_
   obtain ⟨ad160, e160, hx160_0, hx160_1, hx160_2⟩ := at_T39 HR0.out x4_1 p160 q160
   cases e160
   replace hx160_0 := hd_ HB hx160_0
   replace hx160_1 := hd_ HB hx160_1
   replace hx160_2 := hd_ HB hx160_2
   replace p160 := eq_true p160
   replace q160 := eq_true q160
   have p161 : 0 ≤ (x4_1 : Int) := of_decide_eq_true as_
   have q161 : x4_1 < (l0.length : Int) := of_decide_eq_true as_
   obtain ⟨ad161, e161, hx161_0, hx161_1, hx161_2⟩ := at_T39 HR0.out x4_1 p161 q161
   obtain rfl : ad160 = ad161 := (by injection e161)
   replace hx161_0 := hd_ HB hx161_0
   replace hx161_1 := hd_ HB hx161_1
   replace hx161_2 := hd_ HB hx161_2
   replace p161 := eq_true p161
   replace q161 := eq_true q161
   go_wp2
   repeat (go_quiet (fail); try go_wp2)
   go_roundg k1
   case measure => have := HK1.out; omega
   case rel => exact ⟨(wrap64 ((wrap64 (x3_1 + ((rd_T39 l0 x4_1).f1))) - ((rd_T39 l0 x4_1).f2))), (wrap64 (x4_1 + 1)), rf_, rf_, H', ⟨by have := HK1.out; omega⟩, ⟨hb0_ HB⟩⟩

end Go.Proofs.Ytebochcdbknodaa.Rw
