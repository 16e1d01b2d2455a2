/- Functions of the program as Lean functions, each with its contract: out of what the kit's printer wrote for this seat. -/
import Derived.Test.YtgfhjamaabaleaaVRwA
import Derived.Test.YtgfhjamaabaleaaVRwAb
import Derived.Test.YtgfhjamaabaleaaVHFun
namespace Go.Proofs.Ytgfhjamaabaleaa.Rw
open Go.RowKit Go.Proofs.YtgfhjamaabaleaaW.PrintWords Go.Proofs.YtgfhjamaabaleaaW.PrintLast Go.Proofs.YtgfhjamaabaleaaW.PrintMore
attribute [local go_sem] max2_int min2_int max_two min_two max_three min_three max_four min_four   -- for this text's walks alone
set_option linter.unusedVariables false
set_option linter.unusedSimpArgs false
attribute [local go_sem high] leqS gtrS
attribute [local go_sem high] eqA39

/-! ### api_CatRate_1: function 43 -/
def api_CatRate_1.f (a0_0 : ByteArray) (a0_1 : Int) (a1_0 : ByteArray) (a1_1 : Int) : Option (Bool) := some (a0_0.toList == a1_0.toList && (a0_1 == a1_1))
set_option maxHeartbeats 8000000 in
set_option maxRecDepth 100000 in
theorem api_CatRate_1.calls (a0_0 : ByteArray) (a0_1 : Int) (a1_0 : ByteArray) (a1_1 : Int) (r : Bool) (w : World) (h : api_CatRate_1.f a0_0 a0_1 a1_0 a1_1 = some r) :
 Calls Try.prog 43 #[.agg #[.string a0_0, .int .i64 a0_1], .agg #[.string a1_0, .int .i64 a1_1]] w fun e w' => e = .returned (.bool r) ∧ Below w.heap.size w w' := by
 have hu39 := Try.underlying39
 have HB := Aside0.mk (Below.refl w.heap.size w)
 have H : (some (a0_0.toList == a1_0.toList && (a0_1 == a1_1))) = some r := h
 clear h
 obtain rfl := Option.some.inj H
 go_enter Try.func43, Try.ntmps43
 go_wp2_with (first | ((with_reducible refine gate_dst (N := 2) rfl ?_); refine box_event rf_ (N := 2) rf_ (cs := #[.string a0_0, .int .i64 a0_1]) (t := 39) lr_ ?_; intro gb235 hg w3 hbox hb; have BK235 := Aside0.mk hbox; have GE235 := Aside0.mk (ge_ HB hg (hb0_ HB)); replace HB := Aside0.mk (below_step (hb0_ HB) hb); clear hb hbox hg) | ((with_reducible refine gate_dst (N := 3) rfl ?_); refine box_event rf_ (N := 3) rf_ (cs := #[.string a1_0, .int .i64 a1_1]) (t := 39) lr_ ?_; intro gb236 hg w4 hbox hb; have BK236 := Aside0.mk hbox; have GE236 := Aside0.mk (ge_ HB hg (hb1_ HB GE235)); replace HB := Aside0.mk (below_step (hb1_ HB GE235) hb); have NB235_236 := Aside0.mk (nl_ BK235 hg); have NB236_235 := Aside0.mk (ng_ BK235 hg); replace BK235 := Aside0.mk (bb_ BK235 hb); clear hb hbox hg; have hnb5 := NB235_236.out; have hnc5 := NB236_235.out; obtain ⟨hcz6_0, hcz6_1⟩ := cz2_ BK235; obtain ⟨hfz6_0, hfz6_1⟩ := fz2_ BK235; obtain ⟨hcz7_0, hcz7_1⟩ := cz2_ BK236; obtain ⟨hfz7_0, hfz7_1⟩ := fz2_ BK236))
 go_ret
 exact ⟨er_, hb2_ HB GE235 GE236⟩

/-! ### api_CatRate_42: function 42 -/
def api_CatRate_42.l0 : Nat → List (S39) → List (S39) → Int → Option (Bool)
 | 0, _, _, _ => none
 | k + 1, x0, x1, x7 => if x7 < (x0.length : Int) then (if 0 ≤ x7 then (if x7 < (x1.length : Int) then ((api_CatRate_1.f ((rd_T39 x0 x7).f0) ((rd_T39 x0 x7).f1) ((rd_T39 x1 x7).f0) ((rd_T39 x1 x7).f1)).bind fun t239 => (if t239 = true then (api_CatRate_42.l0 k x0 x1 (wrap64 (x7 + 1))) else (some false))) else (none)) else (none)) else (some true)
def api_CatRate_42.f (k : Nat) (l0 : List (S39)) (l1 : List (S39)) (a2 : Int) : Option (Bool) := if (l0.length : Int) = (l1.length : Int) then (api_CatRate_42.l0 k l0 l1 0) else (some false)
def api_CatRate_42.T6 : Bool × List (List Nat × List Nat) := (true, [([], []), ([], []), ([], []), ([1, 2], [1, 2]), ([3], [3]), ([], []), ([], []), ([5, 6], [5, 6]), ([7], [7]), ([0, 4, 8], [0, 4, 8]), ([9], [9])])
def api_CatRate_42.B6 : List Nat := [0, 0, 0, 6, 14, 0, 0, 96, 224, 511, 1023]
theorem api_CatRate_42.tab6 : rtab .any (opsOf Try.f42 6) = api_CatRate_42.T6 := by kernel_rfl
theorem api_CatRate_42.bits6 : waitsOk api_CatRate_42.T6.2 api_CatRate_42.B6 = true := by kernel_rfl
set_option maxHeartbeats 8000000 in
set_option maxRecDepth 100000 in
theorem api_CatRate_42.calls (k : Nat) (A0 : Option Addr) (c0 : Nat) (l0 : List (S39)) (A1 : Option Addr) (c1 : Nat) (l1 : List (S39)) (a2 : Int) (r : Bool) (w : World) (hr0 : Kd.C k39 w A0 l0.length l0) (hc0 : l0.length ≤ c0) (hr1 : Kd.C k39 w A1 l1.length l1) (hc1 : l1.length ≤ c1) (h : api_CatRate_42.f k l0 l1 a2 = some r) :
 Calls Try.prog 42 #[.slice A0 l0.length c0, .slice A1 l1.length c1, .func (.func 43) #[] #[]] w fun e w' => e = .returned (.bool r) ∧ Below w.heap.size w w' := by
 have hu39 := Try.underlying39
 have HR0 := Aside0.mk hr0
 have HC0 := Aside0.mk hc0
 clear hr0 hc0
 have HR1 := Aside0.mk hr1
 have HC1 := Aside0.mk hc1
 clear hr1 hc1
 have HB := Aside0.mk (Below.refl w.heap.size w)
 have H : (if (l0.length : Int) = (l1.length : Int) then (api_CatRate_42.l0 k l0 l1 0) else (some false)) = some r := h
 clear h
 by_cases c4 : (l0.length : Int) = (l1.length : Int)
 rotate_left
 ·
  rw [if_neg c4] at H; have c4b0 : ((l0.length : Int) == (l1.length : Int)) = false := beq_eq_false_iff_ne.mpr c4; have c4b1 : ((l0.length : Int) != (l1.length : Int)) = true := bne_iff_ne.mpr c4
  have c4b2 : (l0.length == l1.length) = false := by first | simpa using c4 | (simp at c4 ⊢; omega)
  obtain rfl := Option.some.inj H
  go_enter Try.func42, Try.ntmps42
  go_wp2
  go_ret
  exact ⟨er_, hb0_ HB⟩
 rw [if_pos c4] at H
 have c4b0 : ((l0.length : Int) == (l1.length : Int)) = true := beq_iff_eq.mpr c4
 have c4b1 : ((l0.length : Int) != (l1.length : Int)) = false := bne_eq_false_iff_eq.mpr c4
 have c4b2 : (l0.length == l1.length) = true := by first | simpa using c4 | (simp at c4 ⊢; omega)
 clear c4
 have H' := Aside0.mk H
 clear H
 go_enter Try.func42, Try.ntmps42
 go_wp2
 go_loopg [7] k (fun kq v7 w' => ∃ (x7_1 : Int), v7 = .int .i64 x7_1 ∧ Aside0 (api_CatRate_42.l0 kq l0 l1 x7_1 = some r) ∧ Aside0 (kq ≤ k) ∧ Aside0 (Below w.heap.size w w'))
 case atStart => exact ⟨(0), rf_, H', ⟨Nat.le_refl _⟩, ⟨hb0_ HB⟩⟩
 case round =>
  clear H'; (try clear c1); (try clear p2); (try clear c4); (try clear c4b0); (try clear c4b1); (try clear c4b2); obtain ⟨x7_1, rfl, HA, HK1, HB⟩ := hrel
  cases gk with
  | zero => exact absurd HA.out (by simp [api_CatRate_42.l0])
  | succ k1 =>
   have H := HA.out; clear HA
   simp only [api_CatRate_42.l0] at H
   by_cases c5 : x7_1 < (l0.length : Int)
   rotate_left
   ·
    rw [if_neg c5] at H; have c5b0 := decide_eq_false c5; clear c5; obtain rfl := Option.some.inj H
    go_wp2
    go_ret
    exact ⟨er_, hb0_ HB⟩
   rw [if_pos c5] at H; have c5b0 := decide_eq_true c5; clear c5; replace H := ip_ H; obtain ⟨c6, H⟩ := H; have c6b0 := decide_eq_true c6; clear c6; replace H := ip_ H; obtain ⟨c7, H⟩ := H; have c7b0 := decide_eq_true c7; clear c7; replace H := Option.bind_eq_some_iff.mp H; obtain ⟨t239, A80, H⟩ := H
   (try dsimp only at H)
   have A8 := Aside0.mk A80; clear A80
   by_cases c9 : t239 = true
   rotate_left
   ·
    replace c9 := Bool.eq_false_iff.mpr c9; subst c9; rw [if_neg nf_] at H; obtain rfl := Option.some.inj H
    try go_wp2
    replace HB := Aside0.mk (below_drew1 HB.out); have p237 : 0 ≤ (x7_1 : Int) := of_decide_eq_true as_; have q237 : x7_1 < (l0.length : Int) := of_decide_eq_true as_; obtain ⟨ad237, e237, hx237_0, hx237_1⟩ := at_T39 HR0.out x7_1 p237 q237; have hw237_1 := hx237_1; have hw237_0 := hx237_0; cases e237
    replace hx237_0 := hd_ HB hx237_0; replace hx237_1 := hd_ HB hx237_1; replace p237 := eq_true p237; replace q237 := eq_true q237; have p238 : 0 ≤ (x7_1 : Int) := of_decide_eq_true as_; have q238 : x7_1 < (l1.length : Int) := of_decide_eq_true as_; obtain ⟨ad238, e238, hx238_0, hx238_1⟩ := at_T39 HR1.out x7_1 p238 q238
    have hw238_1 := hx238_1; have hw238_0 := hx238_0; cases e238; replace hx238_0 := hd_ HB hx238_0; replace hx238_1 := hd_ HB hx238_1; replace p238 := eq_true p238; replace q238 := eq_true q238
    refine start_ (n := 11) (S := fun w' => w'.cell? (ad237.add ((x7_1).toNat * 2)) = some (.string ((rd_T39 l0 x7_1).f0)) ∧ w'.cell? ⟨(ad237.add ((x7_1).toNat * 2)).block, (ad237.add ((x7_1).toNat * 2)).off + 1, none⟩ = some (.int .i64 ((rd_T39 l0 x7_1).f1)) ∧ w'.cell? (ad238.add ((x7_1).toNat * 2)) = some (.string ((rd_T39 l1 x7_1).f0)) ∧ w'.cell? ⟨(ad238.add ((x7_1).toNat * 2)).block, (ad238.add ((x7_1).toNat * 2)).off + 1, none⟩ = some (.int .i64 ((rd_T39 l1 x7_1).f1))) (ds := []) (mk 11 0) (by kernel_rfl) rfl rfl ⟨(hc_ HB hw237_0), (hc_ HB hw237_1), (hc_ HB hw238_0), (hc_ HB hw238_1)⟩ (fun hHeld => ?_); refine with_tabW api_CatRate_42.tab6 api_CatRate_42.bits6 (fun HT_ HW_ => ?_)
    generalize wr.drew = w12 at HB hx237_0 hx237_1 hx238_0 hx238_1 hHeld ⊢
    refine ahead_ [(0, 19), (1, 20), (2, 21), (3, 22), (5, 24), (6, 25), (7, 26)] ?_
    iterate 7 (refine pB_ HT_ ?_)
    refine aheadE_ (mk 11 239) kr_ ?_
    refine ahead_ [(4, 23), (8, 27)] ?_
    iterate 2 (refine tA_ (v := ?_) (a' := ?_) rfl rfl HT_.out HW_.out (by kernel_rfl) (fun _ _ _ h => h) (Or.inl ⟨by rfl, ?_⟩) hHeld ?_ ?_; rotate_left; (rintro w' ⟨s0, s1, s2, s3⟩; go_simp; with_reducible rfl); rotate_left; (exact pu_))
    refine aheadE_ (mk 11 511) kr_ ?_
    refine one_ (i := 9) (N := some 28) (mk 11 1023) rfl rfl (on_ HT_) de_ (fun K hK => ?_)
    refine HF.goesv_ 19 Try.func43 (by kernel_rfl) rfl #[.agg #[.string ((rd_T39 l0 x7_1).f0), .int .i64 ((rd_T39 l0 x7_1).f1)], .agg #[.string ((rd_T39 l1 x7_1).f0), .int .i64 ((rd_T39 l1 x7_1).f1)]] (by rfl) rfl rfl (by rfl) am_ ?_
    with_reducible refine (api_CatRate_1.calls ((rd_T39 l0 x7_1).f0) ((rd_T39 l0 x7_1).f1) ((rd_T39 l1 x7_1).f0) ((rd_T39 l1 x7_1).f1) false _ A8.out).mono ?_
    rintro e w13 ⟨rfl, hb⟩
    refine ⟨_, rfl, ?_⟩
    replace HB := Aside0.mk (below_step (hb0_ HB) hb); (try clear hb); (try clear hb2); (try clear hk); (try clear hi)
    refine hK.out _ _ ⟨(hc_ HB hw237_0), (hc_ HB hw237_1), (hc_ HB hw238_0), (hc_ HB hw238_1)⟩ (fun hHeld => ?_)
    clear hK K
    refine norm_ pv_ ?_
    refine pure_ (i := 10) (N := some 29) (v := ?_) (a' := ?_) (mk 11 2047) rfl rfl (an_ HT_) nh_ (Or.inl ⟨ry_, ?_⟩) ?_ ?_
    rotate_left; (intro w'; go_simp; with_reducible rfl)
    rotate_left; (exact pu_)
    refine done_ (done_of HT_.out (by kernel_rfl)) ?_
    try go_wp2
    go_ret
    exact ⟨er_, hb0_ HB⟩
   subst c9; rw [if_pos rfl] at H; have H' := Aside0.mk H; clear H
   try go_wp2
   replace HB := Aside0.mk (below_drew1 HB.out); have p237 : 0 ≤ (x7_1 : Int) := of_decide_eq_true as_; have q237 : x7_1 < (l0.length : Int) := of_decide_eq_true as_; obtain ⟨ad237, e237, hx237_0, hx237_1⟩ := at_T39 HR0.out x7_1 p237 q237; have hw237_1 := hx237_1; have hw237_0 := hx237_0; cases e237
   replace hx237_0 := hd_ HB hx237_0; replace hx237_1 := hd_ HB hx237_1; replace p237 := eq_true p237; replace q237 := eq_true q237; have p238 : 0 ≤ (x7_1 : Int) := of_decide_eq_true as_; have q238 : x7_1 < (l1.length : Int) := of_decide_eq_true as_; obtain ⟨ad238, e238, hx238_0, hx238_1⟩ := at_T39 HR1.out x7_1 p238 q238
   have hw238_1 := hx238_1; have hw238_0 := hx238_0; cases e238; replace hx238_0 := hd_ HB hx238_0; replace hx238_1 := hd_ HB hx238_1; replace p238 := eq_true p238; replace q238 := eq_true q238
   refine start_ (n := 11) (S := fun w' => w'.cell? (ad237.add ((x7_1).toNat * 2)) = some (.string ((rd_T39 l0 x7_1).f0)) ∧ w'.cell? ⟨(ad237.add ((x7_1).toNat * 2)).block, (ad237.add ((x7_1).toNat * 2)).off + 1, none⟩ = some (.int .i64 ((rd_T39 l0 x7_1).f1)) ∧ w'.cell? (ad238.add ((x7_1).toNat * 2)) = some (.string ((rd_T39 l1 x7_1).f0)) ∧ w'.cell? ⟨(ad238.add ((x7_1).toNat * 2)).block, (ad238.add ((x7_1).toNat * 2)).off + 1, none⟩ = some (.int .i64 ((rd_T39 l1 x7_1).f1))) (ds := []) (mk 11 0) (by kernel_rfl) rfl rfl ⟨(hc_ HB hw237_0), (hc_ HB hw237_1), (hc_ HB hw238_0), (hc_ HB hw238_1)⟩ (fun hHeld => ?_); refine with_tabW api_CatRate_42.tab6 api_CatRate_42.bits6 (fun HT_ HW_ => ?_)
   generalize wr.drew = w10 at HB hx237_0 hx237_1 hx238_0 hx238_1 hHeld ⊢
   refine ahead_ [(0, 19), (1, 20), (2, 21), (3, 22), (5, 24), (6, 25), (7, 26)] ?_
   iterate 7 (refine pB_ HT_ ?_)
   refine aheadE_ (mk 11 239) kr_ ?_
   refine ahead_ [(4, 23), (8, 27)] ?_
   iterate 2 (refine tA_ (v := ?_) (a' := ?_) rfl rfl HT_.out HW_.out (by kernel_rfl) (fun _ _ _ h => h) (Or.inl ⟨by rfl, ?_⟩) hHeld ?_ ?_; rotate_left; (rintro w' ⟨s0, s1, s2, s3⟩; go_simp; with_reducible rfl); rotate_left; (exact pu_))
   refine aheadE_ (mk 11 511) kr_ ?_
   refine one_ (i := 9) (N := some 28) (mk 11 1023) rfl rfl (on_ HT_) de_ (fun K hK => ?_)
   refine HF.goesv_ 19 Try.func43 (by kernel_rfl) rfl #[.agg #[.string ((rd_T39 l0 x7_1).f0), .int .i64 ((rd_T39 l0 x7_1).f1)], .agg #[.string ((rd_T39 l1 x7_1).f0), .int .i64 ((rd_T39 l1 x7_1).f1)]] (by rfl) rfl rfl (by rfl) am_ ?_
   with_reducible refine (api_CatRate_1.calls ((rd_T39 l0 x7_1).f0) ((rd_T39 l0 x7_1).f1) ((rd_T39 l1 x7_1).f0) ((rd_T39 l1 x7_1).f1) true _ A8.out).mono ?_
   rintro e w11 ⟨rfl, hb⟩
   refine ⟨_, rfl, ?_⟩
   replace HB := Aside0.mk (below_step (hb0_ HB) hb); (try clear hb); (try clear hb2); (try clear hk); (try clear hi)
   refine hK.out _ _ ⟨(hc_ HB hw237_0), (hc_ HB hw237_1), (hc_ HB hw238_0), (hc_ HB hw238_1)⟩ (fun hHeld => ?_)
   clear hK K
   refine norm_ pv_ ?_
   refine pure_ (i := 10) (N := some 29) (v := ?_) (a' := ?_) (mk 11 2047) rfl rfl (an_ HT_) nh_ (Or.inl ⟨ry_, ?_⟩) ?_ ?_
   rotate_left; (intro w'; go_simp; with_reducible rfl)
   rotate_left; (exact pu_)
   refine done_ (done_of HT_.out (by kernel_rfl)) ?_
   try go_wp2
   go_roundg k1
   case measure => have := HK1.out; omega
   case rel => exact ⟨(wrap64 (x7_1 + 1)), rf_, H', ⟨ho_ HK1⟩, ⟨hb0_ HB⟩⟩

/-! ### api_CatRate_20: function 20 -/
def api_CatRate_20.f (k : Nat) (l0 : List (S39)) (l1 : List (S39)) : Option (Bool) := (api_CatRate_42.f k l0 l1 77700043).bind fun t240 => (some t240)
set_option maxHeartbeats 8000000 in
set_option maxRecDepth 100000 in
theorem api_CatRate_20.calls (k : Nat) (A0 : Option Addr) (c0 : Nat) (l0 : List (S39)) (A1 : Option Addr) (c1 : Nat) (l1 : List (S39)) (r : Bool) (w : World) (hr0 : Kd.C k39 w A0 l0.length l0) (hc0 : l0.length ≤ c0) (hr1 : Kd.C k39 w A1 l1.length l1) (hc1 : l1.length ≤ c1) (h : api_CatRate_20.f k l0 l1 = some r) :
 Calls Try.prog 20 #[.slice A0 l0.length c0, .slice A1 l1.length c1] w fun e w' => e = .returned (.bool r) ∧ Below w.heap.size w w' := by
 have HR0 := Aside0.mk hr0
 have HC0 := Aside0.mk hc0
 clear hr0 hc0
 have HR1 := Aside0.mk hr1
 have HC1 := Aside0.mk hc1
 clear hr1 hc1
 have HB := Aside0.mk (Below.refl w.heap.size w)
 have H : ((api_CatRate_42.f k l0 l1 77700043).bind fun t240 => (some t240)) = some r := h
 clear h
 replace H := Option.bind_eq_some_iff.mp H
 obtain ⟨t240, A30, H⟩ := H
 (try dsimp only at H)
 have A3 := Aside0.mk A30
 clear A30
 obtain rfl := Option.some.inj H
 go_enter Try.func20, Try.ntmps20
 go_wp2_with (first | (refine gl_ 42 7 Try.func42 #[.slice A0 l0.length c0, .slice A1 l1.length c1, .func (.func 43) #[] #[]] ?_; (with_reducible refine (api_CatRate_42.calls k _ _ l0 _ _ l1 77700043 t240 _ ?side1 ?side2 ?side3 ?side4 A3.out).mono ?_); (case side1 => exact sc_ HR0.out); (case side2 => exact HC0.out); (case side3 => exact sc_ HR1.out); (case side4 => exact HC1.out); rintro e w4 ⟨rfl, hb⟩; refine ⟨_, rfl, ?_⟩; replace HB := Aside0.mk (below_step (hb0_ HB) hb); (try clear hb)))
 go_ret
 exact ⟨er_, hb0_ HB⟩

end Go.Proofs.Ytgfhjamaabaleaa.Rw
