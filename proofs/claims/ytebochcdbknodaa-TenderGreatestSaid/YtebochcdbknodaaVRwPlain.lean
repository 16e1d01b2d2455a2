/- Functions of the program as Lean functions, each with its contract: out of what the kit's printer wrote for this seat. -/
import Derived.Test.YtebochcdbknodaaVRwA
import Derived.Test.YtebochcdbknodaaVRwAb
import Derived.Test.YtebochcdbknodaaVHFun
namespace Go.Proofs.Ytebochcdbknodaa.Rw
open Go.RowKit Go.Proofs.YtebochcdbknodaaW.PrintWords Go.Proofs.YtebochcdbknodaaW.PrintLast Go.Proofs.YtebochcdbknodaaW.PrintMore
attribute [local go_sem] max2_int min2_int max_two min_two max_three min_three max_four min_four   -- for this text's walks alone
set_option linter.unusedVariables false
set_option linter.unusedSimpArgs false
attribute [local go_sem high] leqS gtrS
attribute [local go_sem high] eqA34
attribute [local go_sem high] eqA39

/-! ### api_Back_1: function 36 -/
def api_Back_1.f (a0_0 : Int) (a0_1 : Int) (a0_2 : Bool) (a1_0 : Int) (a1_1 : Int) (a1_2 : Bool) : Option (Bool) := some (a0_0 == a1_0 && (a0_1 == a1_1 && (a0_2 == a1_2)))
set_option maxHeartbeats 8000000 in
set_option maxRecDepth 100000 in
theorem api_Back_1.calls (a0_0 : Int) (a0_1 : Int) (a0_2 : Bool) (a1_0 : Int) (a1_1 : Int) (a1_2 : Bool) (r : Bool) (w : World) (h : api_Back_1.f a0_0 a0_1 a0_2 a1_0 a1_1 a1_2 = some r) :
 Calls Try.prog 36 #[.agg #[.int .i64 a0_0, .int .i64 a0_1, .bool a0_2], .agg #[.int .i64 a1_0, .int .i64 a1_1, .bool a1_2]] w fun e w' => e = .returned (.bool r) ∧ Below w.heap.size w w' := by
 have hu34 := Try.underlying34
 have HB := Aside0.mk (Below.refl w.heap.size w)
 have H : (some (a0_0 == a1_0 && (a0_1 == a1_1 && (a0_2 == a1_2)))) = some r := h
 clear h
 obtain rfl := Option.some.inj H
 go_enter Try.func36, Try.ntmps36
 go_wp2_with (first | ((with_reducible refine gate_dst (N := 2) rfl ?_); refine box_event ?hg (N := 2) ?hd (cs := #[.int .i64 a0_0, .int .i64 a0_1, .bool a0_2]) (t := 34) ?hr ?_; (case hd => rfl); (case hg => rfl); (case hr => first | (go_simp; done) | (go_simp; rfl)); intro gb118 hg w3 hbox hb; have BK118 := Aside0.mk (hbox); have GW118 := Aside0.mk ((ge_ HB hg (hb0_ HB))); have GE118 := Aside0.mk ((ge_ HB hg (hb0_ HB))); replace HB := Aside0.mk (below_step (hb0_ HB) hb); clear hb hbox hg) | ((with_reducible refine gate_dst (N := 3) rfl ?_); refine box_event ?hg (N := 3) ?hd (cs := #[.int .i64 a1_0, .int .i64 a1_1, .bool a1_2]) (t := 34) ?hr ?_; (case hd => rfl); (case hg => rfl); (case hr => first | (go_simp; done) | (go_simp; rfl)); intro gb119 hg w4 hbox hb; have BK119 := Aside0.mk (hbox); have GW119 := Aside0.mk ((ge_ HB hg (hb1_ HB GE118))); have GE119 := Aside0.mk ((ge_ HB hg (hb1_ HB GE118))); replace HB := Aside0.mk (below_step (hb1_ HB GE118) hb); have NB118_119 := Aside0.mk ((nl_ BK118 hg)); have NB119_118 := Aside0.mk ((ng_ BK118 hg)); replace BK118 := Aside0.mk (bb_ BK118 hb); clear hb hbox hg; have hnb5 := NB118_119.out; have hnc5 := NB119_118.out; obtain ⟨hcz6_0, hcz6_1, hcz6_2⟩ := cz3_ BK118; obtain ⟨hfz6_0, hfz6_1, hfz6_2⟩ := fz3_ BK118; obtain ⟨hcz7_0, hcz7_1, hcz7_2⟩ := cz3_ BK119; obtain ⟨hfz7_0, hfz7_1, hfz7_2⟩ := fz3_ BK119))
 go_ret
 exact ⟨er_, hb2_ HB GE118 GE119⟩

/-! ### api_Back_35: function 35 -/
def api_Back_35.l0 : Nat → List (S34) → List (S34) → Int → Option (Bool)
 | 0, _, _, _ => none
 | k + 1, x0, x1, x7 => if x7 < (x0.length : Int) then (if 0 ≤ x7 then (if x7 < (x1.length : Int) then ((api_Back_1.f ((rd_T34 x0 x7).f0) ((rd_T34 x0 x7).f1) ((rd_T34 x0 x7).f2) ((rd_T34 x1 x7).f0) ((rd_T34 x1 x7).f1) ((rd_T34 x1 x7).f2)).bind fun t122 => (if t122 = true then (api_Back_35.l0 k x0 x1 (wrap64 (x7 + 1))) else (some false))) else (none)) else (none)) else (some true)
def api_Back_35.f (k : Nat) (l0 : List (S34)) (l1 : List (S34)) (a2 : Int) : Option (Bool) := if (l0.length : Int) = (l1.length : Int) then (api_Back_35.l0 k l0 l1 0) else (some false)
def api_Back_35.T6 : Bool × List (List Nat × List Nat) := (true, [([], []), ([], []), ([], []), ([1, 2], [1, 2]), ([3], [3]), ([], []), ([], []), ([5, 6], [5, 6]), ([7], [7]), ([0, 4, 8], [0, 4, 8]), ([9], [9])])
def api_Back_35.B6 : List Nat := [0, 0, 0, 6, 14, 0, 0, 96, 224, 511, 1023]
theorem api_Back_35.tab6 : rtab .any (opsOf Try.f35 6) = api_Back_35.T6 := by kernel_rfl
theorem api_Back_35.bits6 : waitsOk api_Back_35.T6.2 api_Back_35.B6 = true := by kernel_rfl
set_option maxHeartbeats 8000000 in
set_option maxRecDepth 100000 in
theorem api_Back_35.calls (k : Nat) (A0 : Option Addr) (c0 : Nat) (l0 : List (S34)) (A1 : Option Addr) (c1 : Nat) (l1 : List (S34)) (a2 : Int) (r : Bool) (w : World) (hr0 : Kd.C k34 w A0 l0.length l0) (hc0 : l0.length ≤ c0) (hr1 : Kd.C k34 w A1 l1.length l1) (hc1 : l1.length ≤ c1) (h : api_Back_35.f k l0 l1 a2 = some r) :
 Calls Try.prog 35 #[.slice A0 l0.length c0, .slice A1 l1.length c1, .func (.func 36) #[] #[]] w fun e w' => e = .returned (.bool r) ∧ Below w.heap.size w w' := by
 have hu34 := Try.underlying34
 have HR0 := Aside0.mk hr0
 have HC0 := Aside0.mk hc0
 clear hr0 hc0
 have HR1 := Aside0.mk hr1
 have HC1 := Aside0.mk hc1
 clear hr1 hc1
 have HB := Aside0.mk (Below.refl w.heap.size w)
 have H : (if (l0.length : Int) = (l1.length : Int) then (api_Back_35.l0 k l0 l1 0) else (some false)) = some r := h
 clear h
 by_cases c4 : (l0.length : Int) = (l1.length : Int)
 rotate_left
 ·
  rw [if_neg c4] at H
  have c4b0 : ((l0.length : Int) == (l1.length : Int)) = false := beq_eq_false_iff_ne.mpr c4
  have c4b1 : ((l0.length : Int) != (l1.length : Int)) = true := bne_iff_ne.mpr c4
  have c4b2 : (l0.length == l1.length) = false := by first | simpa using c4 | (simp at c4 ⊢; omega)
  obtain rfl := Option.some.inj H
  go_enter Try.func35, Try.ntmps35
  go_wp2
  go_ret
  exact ⟨er_, hb0_ HB⟩
 rw [if_pos c4] at H
 have c4b0 : ((l0.length : Int) == (l1.length : Int)) = true := beq_iff_eq.mpr c4
 have c4b1 : ((l0.length : Int) != (l1.length : Int)) = false := bne_eq_false_iff_eq.mpr c4
 have c4b2 : (l0.length == l1.length) = true := by first | simpa using c4 | (simp at c4 ⊢; omega)
 clear c4
 have H' := Aside0.mk H
 clear H
 go_enter Try.func35, Try.ntmps35
 go_wp2
 go_loopg [7] k (fun kq v7 w' => ∃ (x7_1 : Int), v7 = .int .i64 x7_1 ∧ Aside0 (api_Back_35.l0 kq l0 l1 x7_1 = some r) ∧ Aside0 (kq ≤ k) ∧ Aside0 (Below w.heap.size w w'))
 case atStart => exact ⟨(0), rf_, H', ⟨Nat.le_refl _⟩, ⟨hb0_ HB⟩⟩
 case round =>
  clear H'
  try clear c1
  try clear p2
  try clear c3
  try clear c4
  try clear c4b0
  try clear c4b1
  try clear c4b2
  obtain ⟨x7_1, rfl, HA, HK1, HB⟩ := hrel
  cases gk with
  | zero => exact absurd HA.out (by simp [api_Back_35.l0])
  | succ k1 =>
   have H := HA.out
   clear HA
   simp only [api_Back_35.l0] at H
   by_cases c5 : x7_1 < (l0.length : Int)
   rotate_left
   ·
    rw [if_neg c5] at H
    have c5b0 := decide_eq_false c5
    clear c5
    obtain rfl := Option.some.inj H
    go_wp2
    go_ret
    exact ⟨er_, hb0_ HB⟩
   rw [if_pos c5] at H
   have c5b0 := decide_eq_true c5
   clear c5
   by_cases c6 : 0 ≤ x7_1
   rotate_left
   ·
    rw [if_neg c6] at H
    exact absurd H (by simp)
   rw [if_pos c6] at H
   have c6b0 := decide_eq_true c6
   clear c6
   by_cases c7 : x7_1 < (l1.length : Int)
   rotate_left
   ·
    rw [if_neg c7] at H
    exact absurd H (by simp)
   rw [if_pos c7] at H
   have c7b0 := decide_eq_true c7
   clear c7
   replace H := Option.bind_eq_some_iff.mp H
   obtain ⟨t122, A80, H⟩ := H
   (try dsimp only at H)
   have A8 := Aside0.mk A80
   clear A80
   by_cases c9 : t122 = true
   rotate_left
   ·
    replace c9 := Bool.eq_false_iff.mpr c9
    subst c9
    rw [if_neg nf_] at H
    obtain rfl := Option.some.inj H
    try go_wp2
    replace HB := Aside0.mk (below_drew1 HB.out)
    have p120 : 0 ≤ (x7_1 : Int) := of_decide_eq_true as_
    have q120 : x7_1 < (l0.length : Int) := of_decide_eq_true as_
    obtain ⟨ad120, e120, hx120_0, hx120_1, hx120_2⟩ := at_T34 HR0.out x7_1 p120 q120
    have hw120_2 := hx120_2
    have hw120_1 := hx120_1
    have hw120_0 := hx120_0
    cases e120
    replace hx120_0 := hd_ HB hx120_0
    replace hx120_1 := hd_ HB hx120_1
    replace hx120_2 := hd_ HB hx120_2
    replace p120 := eq_true p120
    replace q120 := eq_true q120
    have p121 : 0 ≤ (x7_1 : Int) := of_decide_eq_true as_
    have q121 : x7_1 < (l1.length : Int) := of_decide_eq_true as_
    obtain ⟨ad121, e121, hx121_0, hx121_1, hx121_2⟩ := at_T34 HR1.out x7_1 p121 q121
    have hw121_2 := hx121_2
    have hw121_1 := hx121_1
    have hw121_0 := hx121_0
    cases e121
    replace hx121_0 := hd_ HB hx121_0
    replace hx121_1 := hd_ HB hx121_1
    replace hx121_2 := hd_ HB hx121_2
    replace p121 := eq_true p121
    replace q121 := eq_true q121
    refine start_ (n := 11) (S := fun w' => w'.cell? (ad120.add ((x7_1).toNat * 3)) = some (.int .i64 ((rd_T34 l0 x7_1).f0)) ∧ w'.cell? ⟨(ad120.add ((x7_1).toNat * 3)).block, (ad120.add ((x7_1).toNat * 3)).off + 1, none⟩ = some (.int .i64 ((rd_T34 l0 x7_1).f1)) ∧ w'.cell? ⟨(ad120.add ((x7_1).toNat * 3)).block, (ad120.add ((x7_1).toNat * 3)).off + 2, none⟩ = some (.bool ((rd_T34 l0 x7_1).f2)) ∧ w'.cell? (ad121.add ((x7_1).toNat * 3)) = some (.int .i64 ((rd_T34 l1 x7_1).f0)) ∧ w'.cell? ⟨(ad121.add ((x7_1).toNat * 3)).block, (ad121.add ((x7_1).toNat * 3)).off + 1, none⟩ = some (.int .i64 ((rd_T34 l1 x7_1).f1)) ∧ w'.cell? ⟨(ad121.add ((x7_1).toNat * 3)).block, (ad121.add ((x7_1).toNat * 3)).off + 2, none⟩ = some (.bool ((rd_T34 l1 x7_1).f2))) (ds := []) (mk 11 0) (by kernel_rfl) rfl rfl ⟨(hc_ HB hw120_0), (hc_ HB hw120_1), (hc_ HB hw120_2), (hc_ HB hw121_0), (hc_ HB hw121_1), (hc_ HB hw121_2)⟩ (fun hHeld => ?_); refine with_tabW api_Back_35.tab6 api_Back_35.bits6 (fun HT_ HW_ => ?_)
    generalize wr.drew = w12 at HB hx120_0 hx120_1 hx120_2 hx121_0 hx121_1 hx121_2 hHeld ⊢
    refine ahead_ [(0, 19), (1, 20), (2, 21), (3, 22), (5, 24), (6, 25), (7, 26)] ?_
    iterate 7 (refine pA_ (v := ?_) (a' := ?_) rfl rfl HT_.out kr_ nh_ (Or.inl ⟨ry_, ?_⟩) ?_ ?_; rotate_left; (intro w'; go_simp; with_reducible rfl); rotate_left; (exact pu_))
    refine aheadE_ (mk 11 239) (by kernel_rfl) ?_
    refine ahead_ [(4, 23), (8, 27)] ?_
    iterate 2 (refine tA_ (v := ?_) (a' := ?_) rfl rfl HT_.out HW_.out (by kernel_rfl) (fun _ _ _ h => h) (Or.inl ⟨by rfl, ?_⟩) hHeld ?_ ?_; rotate_left; (rintro w' ⟨s0, s1, s2, s3, s4, s5⟩; go_simp; with_reducible rfl); rotate_left; (exact pu_))
    refine aheadE_ (mk 11 511) (by kernel_rfl) ?_
    refine one_ (i := 9) (N := some 28) (mk 11 1023) rfl rfl (on_ HT_) de_ (fun K hK => ?_)
    refine HF.goesv_ 19 Try.func36 (by kernel_rfl) rfl #[.agg #[.int .i64 ((rd_T34 l0 x7_1).f0), .int .i64 ((rd_T34 l0 x7_1).f1), .bool ((rd_T34 l0 x7_1).f2)], .agg #[.int .i64 ((rd_T34 l1 x7_1).f0), .int .i64 ((rd_T34 l1 x7_1).f1), .bool ((rd_T34 l1 x7_1).f2)]] (by rfl) rfl rfl (by rfl) am_ ?_
    with_reducible refine (api_Back_1.calls ((rd_T34 l0 x7_1).f0) ((rd_T34 l0 x7_1).f1) ((rd_T34 l0 x7_1).f2) ((rd_T34 l1 x7_1).f0) ((rd_T34 l1 x7_1).f1) ((rd_T34 l1 x7_1).f2) false _ A8.out).mono ?_
    rintro e w13 ⟨rfl, hb⟩
    refine ⟨_, rfl, ?_⟩
    replace HB := Aside0.mk (below_step (hb0_ HB) hb)
    (try clear hb)
    (try clear hb2)
    (try clear hk)
    (try clear hi)
    refine hK.out _ _ ⟨(hc_ HB hw120_0), (hc_ HB hw120_1), (hc_ HB hw120_2), (hc_ HB hw121_0), (hc_ HB hw121_1), (hc_ HB hw121_2)⟩ (fun hHeld => ?_)
    clear hK K
    refine norm_ (a' := ?_) ?_ ?_
    rotate_left; (show Act.put _ (some 28) _ = _; exact pu_)
    refine pure_ (i := 10) (N := some 29) (v := ?_) (a' := ?_) (mk 11 2047) rfl rfl (an_ HT_) nh_ (Or.inl ⟨ry_, ?_⟩) ?_ ?_
    rotate_left; (intro w'; go_simp; with_reducible rfl)
    rotate_left; (exact pu_)
    refine done_ (done_of HT_.out (by kernel_rfl)) ?_
    try go_wp2
    go_ret
    exact ⟨er_, hb0_ HB⟩
   subst c9
   rw [if_pos rfl] at H
   have H' := Aside0.mk H
   clear H
   try go_wp2
   replace HB := Aside0.mk (below_drew1 HB.out)
   have p120 : 0 ≤ (x7_1 : Int) := of_decide_eq_true as_
   have q120 : x7_1 < (l0.length : Int) := of_decide_eq_true as_
   obtain ⟨ad120, e120, hx120_0, hx120_1, hx120_2⟩ := at_T34 HR0.out x7_1 p120 q120
   have hw120_2 := hx120_2
   have hw120_1 := hx120_1
   have hw120_0 := hx120_0
   cases e120
   replace hx120_0 := hd_ HB hx120_0
   replace hx120_1 := hd_ HB hx120_1
   replace hx120_2 := hd_ HB hx120_2
   replace p120 := eq_true p120
   replace q120 := eq_true q120
   have p121 : 0 ≤ (x7_1 : Int) := of_decide_eq_true as_
   have q121 : x7_1 < (l1.length : Int) := of_decide_eq_true as_
   obtain ⟨ad121, e121, hx121_0, hx121_1, hx121_2⟩ := at_T34 HR1.out x7_1 p121 q121
   have hw121_2 := hx121_2
   have hw121_1 := hx121_1
   have hw121_0 := hx121_0
   cases e121
   replace hx121_0 := hd_ HB hx121_0
   replace hx121_1 := hd_ HB hx121_1
   replace hx121_2 := hd_ HB hx121_2
   replace p121 := eq_true p121
   replace q121 := eq_true q121
   refine start_ (n := 11) (S := fun w' => w'.cell? (ad120.add ((x7_1).toNat * 3)) = some (.int .i64 ((rd_T34 l0 x7_1).f0)) ∧ w'.cell? ⟨(ad120.add ((x7_1).toNat * 3)).block, (ad120.add ((x7_1).toNat * 3)).off + 1, none⟩ = some (.int .i64 ((rd_T34 l0 x7_1).f1)) ∧ w'.cell? ⟨(ad120.add ((x7_1).toNat * 3)).block, (ad120.add ((x7_1).toNat * 3)).off + 2, none⟩ = some (.bool ((rd_T34 l0 x7_1).f2)) ∧ w'.cell? (ad121.add ((x7_1).toNat * 3)) = some (.int .i64 ((rd_T34 l1 x7_1).f0)) ∧ w'.cell? ⟨(ad121.add ((x7_1).toNat * 3)).block, (ad121.add ((x7_1).toNat * 3)).off + 1, none⟩ = some (.int .i64 ((rd_T34 l1 x7_1).f1)) ∧ w'.cell? ⟨(ad121.add ((x7_1).toNat * 3)).block, (ad121.add ((x7_1).toNat * 3)).off + 2, none⟩ = some (.bool ((rd_T34 l1 x7_1).f2))) (ds := []) (mk 11 0) (by kernel_rfl) rfl rfl ⟨(hc_ HB hw120_0), (hc_ HB hw120_1), (hc_ HB hw120_2), (hc_ HB hw121_0), (hc_ HB hw121_1), (hc_ HB hw121_2)⟩ (fun hHeld => ?_); refine with_tabW api_Back_35.tab6 api_Back_35.bits6 (fun HT_ HW_ => ?_)
   generalize wr.drew = w10 at HB hx120_0 hx120_1 hx120_2 hx121_0 hx121_1 hx121_2 hHeld ⊢
   refine ahead_ [(0, 19), (1, 20), (2, 21), (3, 22), (5, 24), (6, 25), (7, 26)] ?_
   iterate 7 (refine pA_ (v := ?_) (a' := ?_) rfl rfl HT_.out kr_ nh_ (Or.inl ⟨ry_, ?_⟩) ?_ ?_; rotate_left; (intro w'; go_simp; with_reducible rfl); rotate_left; (exact pu_))
   refine aheadE_ (mk 11 239) (by kernel_rfl) ?_
   refine ahead_ [(4, 23), (8, 27)] ?_
   iterate 2 (refine tA_ (v := ?_) (a' := ?_) rfl rfl HT_.out HW_.out (by kernel_rfl) (fun _ _ _ h => h) (Or.inl ⟨by rfl, ?_⟩) hHeld ?_ ?_; rotate_left; (rintro w' ⟨s0, s1, s2, s3, s4, s5⟩; go_simp; with_reducible rfl); rotate_left; (exact pu_))
   refine aheadE_ (mk 11 511) (by kernel_rfl) ?_
   refine one_ (i := 9) (N := some 28) (mk 11 1023) rfl rfl (on_ HT_) de_ (fun K hK => ?_)
   refine HF.goesv_ 19 Try.func36 (by kernel_rfl) rfl #[.agg #[.int .i64 ((rd_T34 l0 x7_1).f0), .int .i64 ((rd_T34 l0 x7_1).f1), .bool ((rd_T34 l0 x7_1).f2)], .agg #[.int .i64 ((rd_T34 l1 x7_1).f0), .int .i64 ((rd_T34 l1 x7_1).f1), .bool ((rd_T34 l1 x7_1).f2)]] (by rfl) rfl rfl (by rfl) am_ ?_
   with_reducible refine (api_Back_1.calls ((rd_T34 l0 x7_1).f0) ((rd_T34 l0 x7_1).f1) ((rd_T34 l0 x7_1).f2) ((rd_T34 l1 x7_1).f0) ((rd_T34 l1 x7_1).f1) ((rd_T34 l1 x7_1).f2) true _ A8.out).mono ?_
   rintro e w11 ⟨rfl, hb⟩
   refine ⟨_, rfl, ?_⟩
   replace HB := Aside0.mk (below_step (hb0_ HB) hb)
   (try clear hb)
   (try clear hb2)
   (try clear hk)
   (try clear hi)
   refine hK.out _ _ ⟨(hc_ HB hw120_0), (hc_ HB hw120_1), (hc_ HB hw120_2), (hc_ HB hw121_0), (hc_ HB hw121_1), (hc_ HB hw121_2)⟩ (fun hHeld => ?_)
   clear hK K
   refine norm_ (a' := ?_) ?_ ?_
   rotate_left; (show Act.put _ (some 28) _ = _; exact pu_)
   refine pure_ (i := 10) (N := some 29) (v := ?_) (a' := ?_) (mk 11 2047) rfl rfl (an_ HT_) nh_ (Or.inl ⟨ry_, ?_⟩) ?_ ?_
   rotate_left; (intro w'; go_simp; with_reducible rfl)
   rotate_left; (exact pu_)
   refine done_ (done_of HT_.out (by kernel_rfl)) ?_
   try go_wp2
   go_roundg k1
   case measure => have := HK1.out; omega
   case rel => exact ⟨(wrap64 (x7_1 + 1)), rf_, H', ⟨by have := HK1.out; omega⟩, ⟨hb0_ HB⟩⟩

/-! ### api_Back_14: function 14 -/
def api_Back_14.f (k : Nat) (l0 : List (S34)) (l1 : List (S34)) : Option (Bool) := (api_Back_35.f k l0 l1 77700036).bind fun t123 => (some t123)
set_option maxHeartbeats 8000000 in
set_option maxRecDepth 100000 in
theorem api_Back_14.calls (k : Nat) (A0 : Option Addr) (c0 : Nat) (l0 : List (S34)) (A1 : Option Addr) (c1 : Nat) (l1 : List (S34)) (r : Bool) (w : World) (hr0 : Kd.C k34 w A0 l0.length l0) (hc0 : l0.length ≤ c0) (hr1 : Kd.C k34 w A1 l1.length l1) (hc1 : l1.length ≤ c1) (h : api_Back_14.f k l0 l1 = some r) :
 Calls Try.prog 14 #[.slice A0 l0.length c0, .slice A1 l1.length c1] w fun e w' => e = .returned (.bool r) ∧ Below w.heap.size w w' := by
 have HR0 := Aside0.mk hr0
 have HC0 := Aside0.mk hc0
 clear hr0 hc0
 have HR1 := Aside0.mk hr1
 have HC1 := Aside0.mk hc1
 clear hr1 hc1
 have HB := Aside0.mk (Below.refl w.heap.size w)
 have H : ((api_Back_35.f k l0 l1 77700036).bind fun t123 => (some t123)) = some r := h
 clear h
 replace H := Option.bind_eq_some_iff.mp H
 obtain ⟨t123, A30, H⟩ := H
 (try dsimp only at H)
 have A3 := Aside0.mk A30
 clear A30
 obtain rfl := Option.some.inj H
 go_enter Try.func14, Try.ntmps14
 go_wp2_with (first | ((with_reducible refine gate_callee (f := 35) rfl ?_); refine goesL_ (some 7) rfl rfl Try.func35 (by kernel_rfl) rfl #[.slice A0 l0.length c0, .slice A1 l1.length c1, .func (.func 36) #[] #[]] rfl am_ ?_; (with_reducible refine (api_Back_35.calls k _ _ l0 _ _ l1 77700036 t123 _ ?side1 ?side2 ?side3 ?side4 A3.out).mono ?_); (case side1 => repeat (first | exact HR0.out | (with_reducible refine Kd.C_alloc ?_ _) | (with_reducible refine Kd.C_drewN ?_ _) | (with_reducible refine Kd.C_drew ?_))); (case side2 => exact HC0.out); (case side3 => repeat (first | exact HR1.out | (with_reducible refine Kd.C_alloc ?_ _) | (with_reducible refine Kd.C_drewN ?_ _) | (with_reducible refine Kd.C_drew ?_))); (case side4 => exact HC1.out); rintro e w4 ⟨rfl, hb⟩; refine ⟨_, rfl, ?_⟩; replace HB := Aside0.mk (below_step (hb0_ HB) hb); (try clear hb)))
 go_ret
 exact ⟨er_, hb0_ HB⟩

/-! ### api_Tender_1: function 42 -/
def api_Tender_1.f (a0_0 : Int) (a0_1 : Int) (a0_2 : Int) (a1_0 : Int) (a1_1 : Int) (a1_2 : Int) : Option (Bool) := some (a0_0 == a1_0 && (a0_1 == a1_1 && (a0_2 == a1_2)))
/-! ### api_Tender_41: function 41 -/
def api_Tender_41.l0 : Nat → List (S39) → List (S39) → Int → Option (Bool)
 | 0, _, _, _ => none
 | k + 1, x0, x1, x7 => if x7 < (x0.length : Int) then (if 0 ≤ x7 then (if x7 < (x1.length : Int) then ((api_Tender_1.f ((rd_T39 x0 x7).f0) ((rd_T39 x0 x7).f1) ((rd_T39 x0 x7).f2) ((rd_T39 x1 x7).f0) ((rd_T39 x1 x7).f1) ((rd_T39 x1 x7).f2)).bind fun t271 => (if t271 = true then (api_Tender_41.l0 k x0 x1 (wrap64 (x7 + 1))) else (some false))) else (none)) else (none)) else (some true)
/-! ### api_Tender_19: function 19 -/
/-! ### haberdashhelp_Plain_int64_1: function 57 -/
/-! ### haberdashhelp_Same_int64: function 56 -/
/-! ### haberdashhelp_Plain_int64: function 48 -/
end Go.Proofs.Ytebochcdbknodaa.Rw
