/- Functions of the program as Lean functions, each with its contract: out of what the kit's printer wrote for this seat. -/
import Derived.Test.YtmiamdnhofjifaaVRwA
import Derived.Test.YtmiamdnhofjifaaVRwPlain
import Derived.Test.YtmiamdnhofjifaaVRwRulesZ
import Derived.Test.YtmiamdnhofjifaaVRwPTax
import Derived.Test.YtmiamdnhofjifaaVRwRef15l
namespace Go.Proofs.Ytmiamdnhofjifaa.Rw
open Go.RowKit Go.Proofs.YtmiamdnhofjifaaW.PrintWords Go.Proofs.YtmiamdnhofjifaaW.PrintLast Go.Proofs.YtmiamdnhofjifaaW.PrintMore
attribute [local go_sem] max2_int min2_int max_two min_two max_three min_three max_four min_four   -- for this text's walks alone
set_option linter.unusedVariables false
set_option linter.unusedSimpArgs false
attribute [local go_sem high] leqS gtrS

/-! ### haberdashlaw19_LevyAll: function 4 -/
def haberdashlaw19_LevyAll.j0 : Nat → Int → Bool → List Int → List Int → Int → Bool → Bool → Bool → Int → List (S51) → Option (Bool)
 | 0, _, _, _, _, _, _, _, _, _, _ => none
 | k + 1, x1, x2, x3, x4, x5, x30, x472000, x472001, x472002, x472003 => if x30 = true then ((haberdashlaw19_awake.f k).bind fun t473 => (some t473)) else ((haberdashplay_Tax.f k x472000 x472001 x472002 x472003).bind fun bt474 => ((haberdashplay_Mod64.f x5 5000).bind fun t480 => ((haberdashlaw19_near.f k x3 x4).bind fun bt481 => ((haberdashplay_Zone.f x1).bind fun t487 => ((levy_Levy.f k bt474.1 bt474.2.1 bt474.2.2.1 bt474.2.2.2 t487 x2 bt481.1 bt481.2 t480).bind fun bt488 => ((haberdashplay_Zone.f x1).bind fun t497 => ((haberdashref15_Levy.f k bt474.1 bt474.2.1 bt474.2.2.1 bt474.2.2.2 t497 x2 bt481.1 bt481.2 t480).bind fun bt498 => ((haberdashlaw19_awake.f k).bind fun t508 => (if t508 = true then ((haberdashlaw19_same5.f k bt498.1 bt498.2.1 bt498.2.2.1 bt498.2.2.2.1 bt498.2.2.2.2 bt488.1 bt488.2.1 bt488.2.2.1 bt488.2.2.2.1 bt488.2.2.2.2).bind fun t509 => (if t509 = true then (some (bt488.2.2.2.2 == 0)) else (some false))) else (some false))))))))))
def haberdashlaw19_LevyAll.f (k : Nat) (a0_0 : Bool) (a0_1 : Bool) (a0_2 : Int) (l0_3 : List (S51)) (a1 : Int) (a2 : Bool) (l3 : List Int) (l4 : List Int) (a5 : Int) : Option (Bool) := (haberdashlaw19_few.f k a0_0 a0_1 a0_2 l0_3 ([] : List ByteArray) l4).bind fun t472 => (if t472 = true then (haberdashlaw19_LevyAll.j0 k a1 a2 l3 l4 a5 (decide ((l3.length : Int) > 60)) a0_0 a0_1 a0_2 l0_3) else (haberdashlaw19_LevyAll.j0 k a1 a2 l3 l4 a5 true a0_0 a0_1 a0_2 l0_3))
def haberdashlaw19_LevyAll.T5 : Bool × List (List Nat × List Nat) := (true, [([], []), ([], []), ([1], [1]), ([], []), ([], []), ([], []), ([], []), ([0, 2, 3, 4, 5, 6, 2], [0, 2, 3, 4, 5, 6]), ([7], [7]), ([8], [8]), ([8], [8]), ([8], [8]), ([8], [8]), ([8], [8]), ([9, 7, 0, 1, 2, 3, 4, 5, 6, 7, 8, 9], [9]), ([10, 14, 0, 1, 2, 3, 4, 5, 6, 7, 8, 9, 10, 14], [10]), ([11, 15, 0, 1, 2, 3, 4, 5, 6, 7, 8, 9, 10, 11, 14, 15], [11]), ([12, 16, 0, 1, 2, 3, 4, 5, 6, 7, 8, 9, 10, 11, 12, 14, 15, 16], [12]), ([13, 17, 0, 1, 2, 3, 4, 5, 6, 7, 8, 9, 10, 11, 12, 13, 14, 15, 16, 17], [13])])
def haberdashlaw19_LevyAll.B5 : List Nat := [0, 0, 2, 0, 0, 0, 0, 127, 255, 511, 511, 511, 511, 511, 1023, 18431, 53247, 122879, 262143]
theorem haberdashlaw19_LevyAll.tab5 : rtab .any (opsOf Try.f4 5) = haberdashlaw19_LevyAll.T5 := by kernel_rfl
theorem haberdashlaw19_LevyAll.bits5 : waitsOk haberdashlaw19_LevyAll.T5.2 haberdashlaw19_LevyAll.B5 = true := by kernel_rfl
def haberdashlaw19_LevyAll.T6 : Bool × List (List Nat × List Nat) := (true, [([], []), ([], []), ([1], [1]), ([], []), ([], []), ([], []), ([], []), ([0, 2, 3, 4, 5, 6, 2], [0, 2, 3, 4, 5, 6]), ([7], [7]), ([8], [8]), ([8], [8]), ([], []), ([11, 9, 7, 0, 1, 2, 3, 4, 5, 6, 7, 8, 9, 11], [9, 11]), ([10, 12, 0, 1, 2, 3, 4, 5, 6, 7, 8, 9, 10, 11, 12], [10])])
def haberdashlaw19_LevyAll.B6 : List Nat := [0, 0, 2, 0, 0, 0, 0, 127, 255, 511, 511, 0, 3071, 8191]
theorem haberdashlaw19_LevyAll.tab6 : rtab .any (opsOf Try.f4 6) = haberdashlaw19_LevyAll.T6 := by kernel_rfl
theorem haberdashlaw19_LevyAll.bits6 : waitsOk haberdashlaw19_LevyAll.T6.2 haberdashlaw19_LevyAll.B6 = true := by kernel_rfl
set_option maxHeartbeats 8000000 in
set_option maxRecDepth 100000 in
theorem haberdashlaw19_LevyAll.calls (k : Nat) (a0_0 : Bool) (a0_1 : Bool) (a0_2 : Int) (A0_3 : Option Addr) (c0_3 : Nat) (l0_3 : List (S51)) (a1 : Int) (a2 : Bool) (A3 : Option Addr) (c3 : Nat) (l3 : List Int) (A4 : Option Addr) (c4 : Nat) (l4 : List Int) (a5 : Int) (r : Bool) (w : World) (hr0_3 : Kd.C k51 w A0_3 l0_3.length l0_3) (hc0_3 : l0_3.length ≤ c0_3) (hr3 : Kd.C (Kd.int .i64) w A3 l3.length l3) (hc3 : l3.length ≤ c3) (hr4 : Kd.C (Kd.int .i64) w A4 l4.length l4) (hc4 : l4.length ≤ c4) (h : haberdashlaw19_LevyAll.f k a0_0 a0_1 a0_2 l0_3 a1 a2 l3 l4 a5 = some r) :
 Calls Try.prog 4 #[.agg #[.bool a0_0, .bool a0_1, .int .i64 a0_2, .slice A0_3 l0_3.length c0_3], .int .i64 a1, .bool a2, .slice A3 l3.length c3, .slice A4 l4.length c4, .int .i64 a5] w fun e w' => e = .returned (.bool r) ∧ Below w.heap.size w w' := by
 have hu24 := Try.underlying24
 have hu37 := Try.underlying37
 have HR0_3 := Aside0.mk hr0_3
 have HC0_3 := Aside0.mk hc0_3
 clear hr0_3 hc0_3
 have HR3 := Aside0.mk hr3
 have HC3 := Aside0.mk hc3
 clear hr3 hc3
 have HR4 := Aside0.mk hr4
 have HC4 := Aside0.mk hc4
 clear hr4 hc4
 have HB := Aside0.mk (Below.refl w.heap.size w)
 have H : ((haberdashlaw19_few.f k a0_0 a0_1 a0_2 l0_3 ([] : List ByteArray) l4).bind fun t472 => (if t472 = true then (haberdashlaw19_LevyAll.j0 k a1 a2 l3 l4 a5 (decide ((l3.length : Int) > 60)) a0_0 a0_1 a0_2 l0_3) else (haberdashlaw19_LevyAll.j0 k a1 a2 l3 l4 a5 true a0_0 a0_1 a0_2 l0_3))) = some r := h
 clear h
 have HC7 := Aside0.mk H
 clear H
 go_enter Try.func4, Try.ntmps4
 go_upto_region 1 with (first | ((with_reducible refine gate_dst (N := 6) rfl ?_); (try (refine gate_guard (by rfl) ?_; dsimp only)); refine box_event rf_ (N := 6) rf_ (cs := #[.bool a0_0, .bool a0_1, .int .i64 a0_2, .slice A0_3 l0_3.length c0_3]) (t := 24) lr_ ?_; intro gb471 hg w8 hbox hb; have BK471 := Aside0.mk hbox; have GE471 := Aside0.mk (ge_ HB hg (hb0_ HB)); replace HB := Aside0.mk (below_step (hb0_ HB) hb); clear hb hbox hg))
 (try simp only [Act.put, List.setIfInBounds_toArray, List.set_cons_zero, List.set_cons_succ])
 go_cut [30] (fun v30 wc => ∃ (kq : Nat) (x30_6 : Bool), v30 = .bool x30_6 ∧ Aside0 (haberdashlaw19_LevyAll.j0 kq a1 a2 l3 l4 a5 x30_6 a0_0 a0_1 a0_2 l0_3 = some r) ∧ Aside0 (kq ≤ k) ∧ Aside0 (wc.heap[gb471]? = some (.cells #[.bool a0_0, .bool a0_1, .int .i64 a0_2, (.slice A0_3 l0_3.length c0_3)] 24 (0, 0))) ∧ Aside0 (Below w.heap.size w wc))
 case first =>
  have H := HC7.out; clear HC7; replace H := Option.bind_eq_some_iff.mp H; obtain ⟨t472, A90, H⟩ := H
  (try dsimp only at H)
  have A9 := Aside0.mk A90; clear A90
  by_cases c10 : t472 = true
  ·
   subst c10; rw [if_pos rfl] at H; have H' := Aside0.mk H; clear H; obtain ⟨hcz11_0, hcz11_1, hcz11_2, hcz11_3⟩ := cz4_ BK471; obtain ⟨hfz11_0, hfz11_1, hfz11_2, hfz11_3⟩ := fz4_ BK471
   go_wp2_with (first | (refine gl_ 5 24 Try.func5 #[.agg #[.bool a0_0, .bool a0_1, .int .i64 a0_2, .slice A0_3 l0_3.length c0_3], .slice none 0 0, .slice A4 l4.length c4] ?_; (refine (haberdashlaw19_few.calls k a0_0 a0_1 a0_2 _ _ l0_3 _ _ ([] : List ByteArray) _ _ l4 true _ ?side1 ?side2 ?side3 ?side4 ?side5 ?side6 A9.out).mono ?_); (case side1 => exact sc_ (Kd.C_below HR0_3.out HB.out)); (case side2 => exact HC0_3.out); (case side3 => exact Kd.C_nil _ _); (case side4 => exact Nat.le_refl _); (case side5 => exact sc_ (Kd.C_below HR4.out HB.out)); (case side6 => exact HC4.out); rintro e w12 ⟨rfl, hb⟩; refine ⟨_, rfl, ?_⟩; replace BK471 := Aside0.mk (bb_ BK471 hb); replace HB := Aside0.mk (below_step (hb1_ HB GE471) hb); (try clear hb)))
   go_meet
   case rel => exact ⟨_, (decide ((l3.length : Int) > 60)), rf_, H', ⟨om_⟩, ⟨bk_ BK471⟩, ⟨hb1_ HB GE471⟩⟩
  replace c10 := Bool.eq_false_iff.mpr c10; subst c10; rw [if_neg nf_] at H; have H' := Aside0.mk H; clear H; obtain ⟨hcz13_0, hcz13_1, hcz13_2, hcz13_3⟩ := cz4_ BK471; obtain ⟨hfz13_0, hfz13_1, hfz13_2, hfz13_3⟩ := fz4_ BK471
  go_wp2_with (first | (refine gl_ 5 24 Try.func5 #[.agg #[.bool a0_0, .bool a0_1, .int .i64 a0_2, .slice A0_3 l0_3.length c0_3], .slice none 0 0, .slice A4 l4.length c4] ?_; (refine (haberdashlaw19_few.calls k a0_0 a0_1 a0_2 _ _ l0_3 _ _ ([] : List ByteArray) _ _ l4 false _ ?side1 ?side2 ?side3 ?side4 ?side5 ?side6 A9.out).mono ?_); (case side1 => exact sc_ (Kd.C_below HR0_3.out HB.out)); (case side2 => exact HC0_3.out); (case side3 => exact Kd.C_nil _ _); (case side4 => exact Nat.le_refl _); (case side5 => exact sc_ (Kd.C_below HR4.out HB.out)); (case side6 => exact HC4.out); rintro e w14 ⟨rfl, hb⟩; refine ⟨_, rfl, ?_⟩; replace BK471 := Aside0.mk (bb_ BK471 hb); replace HB := Aside0.mk (below_step (hb1_ HB GE471) hb); (try clear hb)))
  go_meet
  case rel => exact ⟨_, (true), rf_, H', ⟨om_⟩, ⟨bk_ BK471⟩, ⟨hb1_ HB GE471⟩⟩
 case rest =>
  clear HC7; (try clear c1); (try clear p2); (try clear c3); (try clear c4); (try clear c5); (try clear c10); (try clear hcz11_0 hcz11_1 hcz11_2 hcz11_3); (try clear hcz13_0 hcz13_1 hcz13_2 hcz13_3); (try clear hfz11_0 hfz11_1 hfz11_2 hfz11_3); (try clear hfz13_0 hfz13_1 hfz13_2 hfz13_3); obtain ⟨kq, x30_6, rfl, HA, HJ6, BK471, HB⟩ := hcut
  cases kq with
  | zero => exact absurd HA.out (by simp [haberdashlaw19_LevyAll.j0])
  | succ kj6 =>
   have H := HA.out; clear HA
   simp only [haberdashlaw19_LevyAll.j0] at H
   by_cases c15 : x30_6 = true
   ·
    subst c15; rw [if_pos rfl] at H; replace H := Option.bind_eq_some_iff.mp H; obtain ⟨t473, A160, H⟩ := H
    (try dsimp only at H)
    have A16 := Aside0.mk A160; clear A160; obtain rfl := Option.some.inj H
    go_wp2_with (first | (refine gl_ 6 31 Try.func6 #[] ?_; (with_reducible refine (haberdashlaw19_awake.calls kj6  t473 _ A16.out).mono ?_); rintro e w17 ⟨rfl, hb⟩; refine ⟨_, rfl, ?_⟩; replace BK471 := Aside0.mk (bb_ BK471 hb); replace HB := Aside0.mk (below_step (hb1_ HB GE471) hb); (try clear hb)))
    go_ret
    exact ⟨er_, hb1_ HB GE471⟩
   replace c15 := Bool.eq_false_iff.mpr c15; subst c15; rw [if_neg nf_] at H; replace H := Option.bind_eq_some_iff.mp H; obtain ⟨⟨t474, t475, t476, t477⟩, A180, H⟩ := H
   (try dsimp only at H)
   have A18 := Aside0.mk A180; clear A180; replace H := Option.bind_eq_some_iff.mp H; obtain ⟨t480, A190, H⟩ := H
   (try dsimp only at H)
   have A19 := Aside0.mk A190; clear A190; replace H := Option.bind_eq_some_iff.mp H; obtain ⟨⟨t481, t482⟩, A200, H⟩ := H
   (try dsimp only at H)
   have A20 := Aside0.mk A200; clear A200; replace H := Option.bind_eq_some_iff.mp H; obtain ⟨t487, A210, H⟩ := H
   (try dsimp only at H)
   have A21 := Aside0.mk A210; clear A210; replace H := Option.bind_eq_some_iff.mp H; obtain ⟨⟨t488, t491, t494, t495, t496⟩, A220, H⟩ := H
   (try dsimp only at H)
   have A22 := Aside0.mk A220; clear A220; replace H := Option.bind_eq_some_iff.mp H; obtain ⟨t497, A230, H⟩ := H
   (try dsimp only at H)
   have A23 := Aside0.mk A230; clear A230; replace H := Option.bind_eq_some_iff.mp H; obtain ⟨⟨t498, t501, t504, t505, t506⟩, A240, H⟩ := H
   (try dsimp only at H)
   have A24 := Aside0.mk A240; clear A240; replace H := Option.bind_eq_some_iff.mp H; obtain ⟨t508, A250, H⟩ := H
   (try dsimp only at H)
   have A25 := Aside0.mk A250; clear A250; have HH_ := Aside0.mk H; clear H; obtain ⟨hcz83_0, hcz83_1, hcz83_2, hcz83_3⟩ := cz4_ BK471; obtain ⟨hfz83_0, hfz83_1, hfz83_2, hfz83_3⟩ := fz4_ BK471
   try go_wp2_with (first | (refine gl_ 7 33 Try.func7 #[.agg #[.bool a0_0, .bool a0_1, .int .i64 a0_2, .slice A0_3 l0_3.length c0_3]] ?_; (with_reducible refine (haberdashplay_Tax.calls kj6 a0_0 a0_1 a0_2 _ _ l0_3 t474 t475 t476 t477 _ ?side1 ?side2 A18.out).mono ?_); (case side1 => exact sc_ (Kd.C_below HR0_3.out HB.out)); (case side2 => exact HC0_3.out); rintro e w84 ⟨v478, rfl, ho0, hb⟩; refine ⟨_, rfl, ?_⟩; have HO479 := Aside0.mk (Kd.S_lower ho0 (below_size (hb1_ HB GE471))); replace BK471 := Aside0.mk (bb_ BK471 hb); replace HB := Aside0.mk (below_step (hb1_ HB GE471) hb); (try clear hb); (try clear ho0)) | (refine gl_ 16 35 Try.func16 #[.int .i64 a5, .int .i64 5000] ?_; (with_reducible refine (haberdashplay_Mod64.calls a5 5000 t480 _ A19.out).mono ?_); rintro e w' ⟨rfl, ⟨nd, rfl⟩⟩; refine ⟨_, rfl, ?_⟩; (try (rw [drewN_self w84]; generalize hq_ : World.drewN w84 _ = w84; have n0_ : Aside0 (Kd.S k51 51 w84 w.heap.size (fun _ => True) v478 t477) := ⟨by rw [← hq_]; exact (so_ HO479)⟩; have n1_ : Aside0 (w84.heap[gb471]? = some (.cells #[.bool a0_0, .bool a0_1, .int .i64 a0_2, .slice A0_3 l0_3.length c0_3] 24 (0, 0))) := ⟨by rw [← hq_]; exact (bk_ BK471)⟩; have n2_ : Aside0 (Below w.heap.size w w84) := ⟨by rw [← hq_]; exact (hb1_ HB GE471)⟩; clear HO479 BK471 HB hq_; have HO479 := n0_; have BK471 := n1_; have HB := n2_; clear n0_ n1_ n2_)); obtain ⟨hcz85_0, hcz85_1, hcz85_2, hcz85_3⟩ := cz4_ BK471; obtain ⟨hfz85_0, hfz85_1, hfz85_2, hfz85_3⟩ := fz4_ BK471; obtain ⟨Ao86, co86, eo86⟩ := Kd.S_slice HO479.out; subst eo86) | (refine gl_ 17 39 Try.func17 #[.slice A3 l3.length c3, .slice A4 l4.length c4] ?_; (with_reducible refine (haberdashlaw19_near.calls kj6 _ _ l3 _ _ l4 t481 t482 _ ?side1 ?side2 ?side3 ?side4 A20.out).mono ?_); (case side1 => exact Kd.C_below HR3.out (hb1_ HB GE471)); (case side2 => exact HC3.out); (case side3 => exact Kd.C_below HR4.out (hb1_ HB GE471)); (case side4 => exact HC4.out); rintro e w87 ⟨v483, v485, rfl, ho0, ho1, hb⟩; refine ⟨_, rfl, ?_⟩; replace HO479 := Aside0.mk (Kd.S_below (by (with_reducible repeat (first | apply Kd.S_alloc | apply Kd.S_drewN | apply Kd.S_drew)); exact (Kd.S_mono (Kd.S_far (p := ⟨gb471, 3, none⟩) (Kd.S_far (p := ⟨gb471, 2, none⟩) (Kd.S_far (p := ⟨gb471, 1, none⟩) (Kd.S_far (p := ⟨gb471, 0, none⟩) (Kd.S_types HO479.out BK471.out (by decide)) (fun _ hk => hk.2) (.bool t474)) (fun _ hk => hk.2) (.bool t475)) (fun _ hk => hk.2) (.int .i64 t476)) (fun _ hk => hk.2) (.slice Ao86 t477.length co86)) (fun _ h_ => h_.1))) hb); have HO484 := Aside0.mk (Kd.R_lower ho0 (below_size (hb1_ HB GE471))); have HO486 := Aside0.mk (Kd.R_lower ho1 (below_size (hb1_ HB GE471))); replace BK471 := Aside0.mk (blk_below (g := gb471) (o := .cells #[.bool t474, .bool t475, .int .i64 t476, .slice Ao86 t477.length co86] 24 (0, 0)) (bq0_ BK471) hb); replace HB := Aside0.mk (below_step (hb1_ HB GE471) hb); (try clear hb); (try clear hk); (try clear ho0); (try clear ho1)))
   replace HO479 := Aside0.mk (Kd.S_drew HO479.out); replace HO484 := Aside0.mk (Kd.R_drew HO484.out); replace HO486 := Aside0.mk (Kd.R_drew HO486.out); replace BK471 := Aside0.mk (blk_drew BK471.out); replace HB := Aside0.mk (below_drew1 HB.out)
   refine start_ (n := 19) (S := fun w' => w'.cell? ⟨gb471, 0, none⟩ = some (.bool t474) ∧ w'.cell? ⟨gb471, 1, none⟩ = some (.bool t475) ∧ w'.cell? ⟨gb471, 2, none⟩ = some (.int .i64 t476) ∧ w'.cell? ⟨gb471, 3, none⟩ = some (.slice Ao86 t477.length co86)) (ds := []) (mk 19 0) (by kernel_rfl) rfl rfl ⟨cl_ BK471 0, cl_ BK471 1, cl_ BK471 2, cl_ BK471 3⟩ (fun hHeld => ?_); refine with_tabW haberdashlaw19_LevyAll.tab5 haberdashlaw19_LevyAll.bits5 (fun HT_ HW_ => ?_)
   generalize w87.drew = w88 at HO479 HO484 HO486 BK471 HB hHeld ⊢
   refine ahead_ [(1, 44), (3, 46), (4, 47), (5, 48), (6, 49)] ?_
   iterate 5 (refine pB_ HT_ ?_)
   refine aheadE_ (mk 19 122) kr_ ?_
   refine take_ (i := 0) (N := some 43) (v := ?_) (a' := ?_) (mk 19 123) rfl rfl (tw_ HT_ HW_) nh_ (Or.inl ⟨by rfl, ?_⟩) hHeld ?_ ?_
   rotate_left
   ·
    rintro w' ⟨s0, s1, s2, s3⟩
    go_simp
    with_reducible rfl
   rotate_left; (exact pu_)
   refine one_ (i := 2) (N := some 45) (mk 19 127) rfl rfl (on_ HT_) de_ (fun K hK => ?_)
   refine goes_ Try.func8 (by kernel_rfl) rfl #[.int .i64 a1] (by rfl) rfl rfl am_ ?_
   with_reducible refine (haberdashplay_Zone.calls a1 t487 _ A21.out).mono ?_
   rintro e w89 ⟨rfl, hb⟩
   refine ⟨_, rfl, ?_⟩
   replace HO479 := Aside0.mk (Kd.S_below (so_ HO479) hb); replace HO484 := Aside0.mk (Kd.R_below (ro_ HO484) hb); replace HO486 := Aside0.mk (Kd.R_below (ro_ HO486) hb); replace BK471 := Aside0.mk (bb_ BK471 hb); replace HB := Aside0.mk (below_step (hb1_ HB GE471) hb); (try clear hb); (try clear hb2)
   (try clear hk); (try clear hi); obtain ⟨Ao90, co90, eo90⟩ := Kd.R_slice HO484.out
   (first | subst eo90 | (injection eo90 with f1_ f2_ f3_; have f4_ := f1_.symm; have f5_ := f3_.symm; clear f1_ f2_ f3_; subst f4_; subst f5_))
   obtain ⟨Ao91, co91, eo91⟩ := Kd.R_slice HO486.out
   (first | subst eo91 | (injection eo91 with f1_ f2_ f3_; have f4_ := f1_.symm; have f5_ := f3_.symm; clear f1_ f2_ f3_; subst f4_; subst f5_))
   refine hK.out _ _ ⟨cl_ BK471 0, cl_ BK471 1, cl_ BK471 2, cl_ BK471 3⟩ (fun hHeld => ?_)
   clear hK K
   refine norm_ pv_ ?_
   refine one_ (i := 7) (N := some 50) (mk 19 255) rfl rfl (on_ HT_) de_ (fun K hK => ?_)
   refine goes_ Try.func11 (by kernel_rfl) rfl #[.agg #[.bool t474, .bool t475, .int .i64 t476, .slice Ao86 t477.length co86], .string t487, .bool a2, .slice Ao90 t481.length co90, .slice Ao91 t482.length co91, .int .i64 t480] (by rfl) rfl rfl am_ ?_
   with_reducible refine (levy_Levy.calls kj6 t474 t475 t476 _ _ t477 t487 a2 _ _ t481 _ _ t482 t480 t488 t491 t494 t495 t496 _ ?side1 ?side2 ?side3 ?side4 ?side5 ?side6 A22.out).mono ?_
   (case side1 => exact sc_ (Kd.S_reads' HO479.out).2.2)
   (case side2 => exact (Kd.S_reads' HO479.out).2.1)
   (case side3 => exact sc_ (Kd.R_reads' HO484.out).2.2)
   (case side4 => exact (Kd.R_reads' HO484.out).2.1)
   (case side5 => exact sc_ (Kd.R_reads' HO486.out).2.2)
   (case side6 => exact (Kd.R_reads' HO486.out).2.1)
   rintro e w92 ⟨v489, v492, rfl, ho0, ho1, hb⟩
   refine ⟨_, rfl, ?_⟩
   replace HO479 := Aside0.mk (Kd.S_below (so_ HO479) hb); replace HO484 := Aside0.mk (Kd.R_below (ro_ HO484) hb); have HO490 := Aside0.mk (Kd.R_lower (Kd.R_new' ho0 (Kd.R_lt (ro_ HO486))) (below_size (hb1_ HB GE471))); have HO493 := Aside0.mk (Kd.R_lower (Kd.R_new' ho1 (Kd.R_lt (ro_ HO486))) (below_size (hb1_ HB GE471)))
   replace HO486 := Aside0.mk (Kd.R_mono (Kd.R_told (Kd.R_told (Kd.R_old (ro_ HO486) hb) (Kd.R_base ho0)) (Kd.R_base ho1)) (fun _ h_ => h_.1))
   replace BK471 := Aside0.mk (bb_ BK471 hb); replace HB := Aside0.mk (below_step (hb1_ HB GE471) hb); (try clear hb); (try clear hb2); (try clear hk); (try clear hi); (try clear ho0); (try clear ho1)
   refine hK.out _ _ ⟨cl_ BK471 0, cl_ BK471 1, cl_ BK471 2, cl_ BK471 3⟩ (fun hHeld => ?_)
   clear hK K
   refine norm_ pv_ ?_
   refine ahead_ [(8, 42), (9, 51), (10, 52), (11, 53), (12, 54), (13, 55), (14, 15), (15, 16), (16, 17), (17, 18), (18, 19)] ?_
   iterate 11 (refine pB_ HT_ ?_)
   refine aheadE_ (mk 19 524287) kr_ ?_
   refine done_ (done_of HT_.out (by kernel_rfl)) ?_
   try go_wp2
   replace HO479 := Aside0.mk (Kd.S_drew HO479.out); replace HO484 := Aside0.mk (Kd.R_drew HO484.out); replace HO486 := Aside0.mk (Kd.R_drew HO486.out); replace HO490 := Aside0.mk (Kd.R_drew HO490.out); replace HO493 := Aside0.mk (Kd.R_drew HO493.out); replace BK471 := Aside0.mk (blk_drew BK471.out)
   replace HB := Aside0.mk (below_drew1 HB.out)
   refine start_ (n := 14) (S := fun w' => w'.cell? ⟨gb471, 0, none⟩ = some (.bool t474) ∧ w'.cell? ⟨gb471, 1, none⟩ = some (.bool t475) ∧ w'.cell? ⟨gb471, 2, none⟩ = some (.int .i64 t476) ∧ w'.cell? ⟨gb471, 3, none⟩ = some (.slice Ao86 t477.length co86)) (ds := []) (mk 14 0) (by kernel_rfl) rfl rfl ⟨cl_ BK471 0, cl_ BK471 1, cl_ BK471 2, cl_ BK471 3⟩ (fun hHeld => ?_); refine with_tabW haberdashlaw19_LevyAll.tab6 haberdashlaw19_LevyAll.bits6 (fun HT_ HW_ => ?_)
   generalize w92.drew = w93 at HO479 HO484 HO486 HO490 HO493 BK471 HB hHeld ⊢
   refine ahead_ [(1, 58), (3, 60), (4, 61), (5, 62), (6, 63)] ?_
   iterate 5 (refine pB_ HT_ ?_)
   refine aheadE_ (mk 14 122) kr_ ?_
   refine take_ (i := 0) (N := some 57) (v := ?_) (a' := ?_) (mk 14 123) rfl rfl (tw_ HT_ HW_) nh_ (Or.inl ⟨by rfl, ?_⟩) hHeld ?_ ?_
   rotate_left
   ·
    rintro w' ⟨s0, s1, s2, s3⟩
    go_simp
    with_reducible rfl
   rotate_left; (exact pu_)
   refine join_ (σ := Value × Value × Nat) 2 (mk 14 4095) (fun s_ => [(59, .string t497), (64, .tuple #[.agg #[s_.1, s_.2.1, .int .i64 t504, .int .i64 t505], .int .i64 t506]), (20, .pointer (some ⟨s_.2.2, 0, none⟩)), (56, .tuple #[.agg #[s_.1, s_.2.1, .int .i64 t504, .int .i64 t505], .int .i64 t506]), (65, .agg #[s_.1, s_.2.1, .int .i64 t504, .int .i64 t505]), (66, .int .i64 t506)]) (fun s_ w' => (w'.cell? ⟨gb471, 0, none⟩ = some (.bool t474) ∧ w'.cell? ⟨gb471, 1, none⟩ = some (.bool t475) ∧ w'.cell? ⟨gb471, 2, none⟩ = some (.int .i64 t476) ∧ w'.cell? ⟨gb471, 3, none⟩ = some (.slice Ao86 t477.length co86)) ∧ (Kd.S k51 51 w' w.heap.size (fun _ => True) (.slice Ao86 t477.length co86) t477) ∧ (Kd.R Kd.string 9 w' w.heap.size (fun _ => True) (.slice Ao90 t481.length co90) t481) ∧ (Kd.R (Kd.int .i64) 2 w' w.heap.size (fun k_ => some k_ ≠ (v489 : Value).ownBlock ∧ some k_ ≠ (v492 : Value).ownBlock ∧ some k_ ≠ (s_.1 : Value).ownBlock ∧ some k_ ≠ (s_.2.1 : Value).ownBlock) (.slice Ao91 t482.length co91) t482) ∧ (Kd.R (Kd.int .i64) 2 w' w.heap.size (fun k_ => some k_ ≠ (.slice Ao91 t482.length co91 : Value).ownBlock ∧ some k_ ≠ (v492 : Value).ownBlock ∧ some k_ ≠ (s_.1 : Value).ownBlock ∧ some k_ ≠ (s_.2.1 : Value).ownBlock) v489 t488) ∧ (Kd.R (Kd.int .i64) 2 w' w.heap.size (fun k_ => some k_ ≠ (.slice Ao91 t482.length co91 : Value).ownBlock ∧ some k_ ≠ (v489 : Value).ownBlock ∧ some k_ ≠ (s_.1 : Value).ownBlock ∧ some k_ ≠ (s_.2.1 : Value).ownBlock) v492 t491) ∧ (Kd.R (Kd.int .i64) 2 w' w.heap.size (fun k_ => some k_ ≠ (.slice Ao91 t482.length co91 : Value).ownBlock ∧ some k_ ≠ (v489 : Value).ownBlock ∧ some k_ ≠ (v492 : Value).ownBlock ∧ some k_ ≠ (s_.2.1 : Value).ownBlock) s_.1 t498) ∧ (Kd.R (Kd.int .i64) 2 w' w.heap.size (fun k_ => some k_ ≠ (.slice Ao91 t482.length co91 : Value).ownBlock ∧ some k_ ≠ (v489 : Value).ownBlock ∧ some k_ ≠ (v492 : Value).ownBlock ∧ some k_ ≠ (s_.1 : Value).ownBlock) s_.2.1 t501) ∧ (w'.heap[gb471]? = some (.cells #[.bool t474, .bool t475, .int .i64 t476, .slice Ao86 t477.length co86] 24 (0, 0))) ∧ (w'.heap[s_.2.2]? = some (.cells #[.slice none 0 0, .slice none 0 0, .int .i64 0, .int .i64 0] 37 (0, 0))) ∧ (w.heap.size ≤ s_.2.2) ∧ (w.heap.size ≤ s_.2.2) ∧ (gb471 ≠ s_.2.2) ∧ (s_.2.2 ≠ gb471) ∧ (Below w.heap.size w w')) ?_ ?_
   rotate_left
   ·
    intro hCont
    refine two_ (i := 2) (j := 11) (Ni := some 59) (Nj := some 20) (mk 14 127) (mk 14 2171) rfl rfl rfl rfl (two_of HT_.out (by kernel_rfl)) (by decide) (by decide) (fun K hK => ?_) (fun K hK => ?_)
    ·
     skip
     refine goes_ Try.func8 (by kernel_rfl) rfl #[.int .i64 a1] (by rfl) rfl rfl am_ ?_
     with_reducible refine (haberdashplay_Zone.calls a1 t497 _ A23.out).mono ?_
     rintro e w94 ⟨rfl, hb⟩
     refine ⟨_, rfl, ?_⟩
     replace HO479 := Aside0.mk (Kd.S_below (so_ HO479) hb); replace HO484 := Aside0.mk (Kd.R_below (ro_ HO484) hb); replace HO486 := Aside0.mk (Kd.R_below (ro_ HO486) hb); replace HO490 := Aside0.mk (Kd.R_below (ro_ HO490) hb); replace HO493 := Aside0.mk (Kd.R_below (ro_ HO493) hb); replace BK471 := Aside0.mk (bb_ BK471 hb)
     replace HB := Aside0.mk (below_step (hb1_ HB GE471) hb); (try clear hb); (try clear hb2); (try clear hk); (try clear hi)
     refine hK.out _ _ ⟨cl_ BK471 0, cl_ BK471 1, cl_ BK471 2, cl_ BK471 3⟩ (fun hHeld => ?_)
     clear hK K
     refine norm_ pv_ ?_
     refine two_ (i := 7) (j := 11) (Ni := some 64) (Nj := some 20) (mk 14 255) (mk 14 2175) rfl rfl rfl rfl (two_of HT_.out (by kernel_rfl)) (by decide) (by decide) (fun K hK => ?_) (fun K hK => ?_)
     ·
      skip
      refine goes_ Try.func12 (by kernel_rfl) rfl #[.agg #[.bool t474, .bool t475, .int .i64 t476, .slice Ao86 t477.length co86], .string t497, .bool a2, .slice Ao90 t481.length co90, .slice Ao91 t482.length co91, .int .i64 t480] (by rfl) rfl rfl am_ ?_
      with_reducible refine (haberdashref15_Levy.calls kj6 t474 t475 t476 _ _ t477 t497 a2 _ _ t481 _ _ t482 t480 t498 t501 t504 t505 t506 _ ?side1 ?side2 ?side3 ?side4 ?side5 ?side6 A24.out).mono ?_
      (case side1 => exact sc_ (Kd.S_reads' HO479.out).2.2)
      (case side2 => exact (Kd.S_reads' HO479.out).2.1)
      (case side3 => exact sc_ (Kd.R_reads' HO484.out).2.2)
      (case side4 => exact (Kd.R_reads' HO484.out).2.1)
      (case side5 => exact sc_ (Kd.R_reads' HO486.out).2.2)
      (case side6 => exact (Kd.R_reads' HO486.out).2.1)
      rintro e w95 ⟨v499, v502, rfl, ho0, ho1, hb⟩
      refine ⟨_, rfl, ?_⟩
      replace HO479 := Aside0.mk (Kd.S_below (so_ HO479) hb); replace HO484 := Aside0.mk (Kd.R_below (ro_ HO484) hb); have HO500 := Aside0.mk (Kd.R_lower (Kd.R_new' (Kd.R_new' (Kd.R_new' ho0 (Kd.R_lt (ro_ HO486))) (Kd.R_lt (ro_ HO490))) (Kd.R_lt (ro_ HO493))) (below_size (hb1_ HB GE471))); have HO503 := Aside0.mk (Kd.R_lower (Kd.R_new' (Kd.R_new' (Kd.R_new' ho1 (Kd.R_lt (ro_ HO486))) (Kd.R_lt (ro_ HO490))) (Kd.R_lt (ro_ HO493))) (below_size (hb1_ HB GE471)))
      replace HO486 := Aside0.mk (Kd.R_mono (Kd.R_told (Kd.R_told (Kd.R_old (ro_ HO486) hb) (Kd.R_base ho0)) (Kd.R_base ho1)) (fun _ h_ => h_.1))
      replace HO490 := Aside0.mk (Kd.R_mono (Kd.R_told (Kd.R_told (Kd.R_old (ro_ HO490) hb) (Kd.R_base ho0)) (Kd.R_base ho1)) (fun _ h_ => h_.1))
      replace HO493 := Aside0.mk (Kd.R_mono (Kd.R_told (Kd.R_told (Kd.R_old (ro_ HO493) hb) (Kd.R_base ho0)) (Kd.R_base ho1)) (fun _ h_ => h_.1))
      replace BK471 := Aside0.mk (bb_ BK471 hb); replace HB := Aside0.mk (below_step (hb1_ HB GE471) hb); (try clear hb); (try clear hb2); (try clear hk); (try clear hi); (try clear ho0); (try clear ho1)
      refine hK.out _ _ ⟨cl_ BK471 0, cl_ BK471 1, cl_ BK471 2, cl_ BK471 3⟩ (fun hHeld => ?_)
      clear hK K
      refine norm_ pv_ ?_
      refine ahead_ [(8, 56), (9, 65), (10, 66)] ?_
      iterate 3 (refine pB_ HT_ ?_)
      refine aheadE_ (mk 14 2047) kr_ ?_
      refine one_ (i := 11) (N := some 20) (mk 14 4095) rfl rfl (on_ HT_) de_ (fun K hK => ?_)
      refine box_step ?hg (N := 20) ?hd (cs := #[.slice none 0 0, .slice none 0 0, .int .i64 0, .int .i64 0]) (t := 37) ?hr ?_; (case hd => rfl); (case hg => rfl); (case hr => first | (go_simp; done) | (go_simp; rfl))
      intro gb507 hg w96 hbox hb
      replace HO479 := Aside0.mk (Kd.S_below (so_ HO479) hb); replace HO484 := Aside0.mk (Kd.R_below (ro_ HO484) hb); replace HO486 := Aside0.mk (Kd.R_below (ro_ HO486) hb); replace HO490 := Aside0.mk (Kd.R_below (ro_ HO490) hb); replace HO493 := Aside0.mk (Kd.R_below (ro_ HO493) hb); replace HO500 := Aside0.mk (Kd.R_below (ro_ HO500) hb)
      replace HO503 := Aside0.mk (Kd.R_below (ro_ HO503) hb); have BK507 := Aside0.mk hbox; have GW507 := Aside0.mk (ge_ HB hg (hb1_ HB GE471)); have GE507 := Aside0.mk (ge_ HB hg (hb1_ HB GE471)); replace HB := Aside0.mk (below_step (hb1_ HB GE471) hb); have NB471_507 := Aside0.mk (nl_ BK471 hg); have NB507_471 := Aside0.mk (ng_ BK471 hg)
      replace BK471 := Aside0.mk (bb_ BK471 hb); clear hb hbox hg
      refine hK.out _ _ ⟨cl_ BK471 0, cl_ BK471 1, cl_ BK471 2, cl_ BK471 3⟩ (fun hHeld => ?_)
      clear hK K
      refine norm_ pv_ ?_
      exact norm_ (by simp only [putAll, Act.put, List.setIfInBounds_toArray, List.set_cons_zero, List.set_cons_succ]) (hCont (v499, v502, gb507) _ ⟨hHeld, (so_ HO479), (ro_ HO484), (rm_ HO486 (fun _ hk => ⟨hk.1.1.1.2, ⟨hk.1.1.2, ⟨hk.1.2, hk.2⟩⟩⟩)), (rm_ HO490 (fun _ hk => ⟨hk.1.1.2, ⟨hk.1.1.1, ⟨hk.1.2, hk.2⟩⟩⟩)), (rm_ HO493 (fun _ hk => ⟨hk.1.1.2, ⟨hk.1.1.1, ⟨hk.1.2, hk.2⟩⟩⟩)), (rm_ HO500 (fun _ hk => ⟨hk.1.1.2, ⟨hk.1.2, ⟨hk.2, hk.1.1.1⟩⟩⟩)), (rm_ HO503 (fun _ hk => ⟨hk.1.1.2, ⟨hk.1.2, ⟨hk.2, hk.1.1.1⟩⟩⟩)), (bk_ BK471), (bk_ BK507), GW507.out, GE507.out, NB471_507.out, NB507_471.out, (hb2_ HB GE471 GE507)⟩)
     ·
      skip
      refine box_step ?hg (N := 20) ?hd (cs := #[.slice none 0 0, .slice none 0 0, .int .i64 0, .int .i64 0]) (t := 37) ?hr ?_; (case hd => rfl); (case hg => rfl); (case hr => first | (go_simp; done) | (go_simp; rfl))
      intro gb507 hg w95 hbox hb
      replace HO479 := Aside0.mk (Kd.S_below (so_ HO479) hb); replace HO484 := Aside0.mk (Kd.R_below (ro_ HO484) hb); replace HO486 := Aside0.mk (Kd.R_below (ro_ HO486) hb); replace HO490 := Aside0.mk (Kd.R_below (ro_ HO490) hb); replace HO493 := Aside0.mk (Kd.R_below (ro_ HO493) hb); have BK507 := Aside0.mk hbox
      have GW507 := Aside0.mk (ge_ HB hg (hb1_ HB GE471)); have GE507 := Aside0.mk (ge_ HB hg (hb1_ HB GE471)); replace HB := Aside0.mk (below_step (hb1_ HB GE471) hb); have NB471_507 := Aside0.mk (nl_ BK471 hg); have NB507_471 := Aside0.mk (ng_ BK471 hg); replace BK471 := Aside0.mk (bb_ BK471 hb); clear hb hbox hg
      refine hK.out _ _ ⟨cl_ BK471 0, cl_ BK471 1, cl_ BK471 2, cl_ BK471 3⟩ (fun hHeld => ?_)
      clear hK K
      refine norm_ pv_ ?_
      refine one_ (i := 7) (N := some 64) (mk 14 2303) rfl rfl (on_ HT_) de_ (fun K hK => ?_)
      refine goes_ Try.func12 (by kernel_rfl) rfl #[.agg #[.bool t474, .bool t475, .int .i64 t476, .slice Ao86 t477.length co86], .string t497, .bool a2, .slice Ao90 t481.length co90, .slice Ao91 t482.length co91, .int .i64 t480] (by rfl) rfl rfl am_ ?_
      with_reducible refine (haberdashref15_Levy.calls kj6 t474 t475 t476 _ _ t477 t497 a2 _ _ t481 _ _ t482 t480 t498 t501 t504 t505 t506 _ ?side1 ?side2 ?side3 ?side4 ?side5 ?side6 A24.out).mono ?_
      (case side1 => exact sc_ (Kd.S_reads' HO479.out).2.2)
      (case side2 => exact (Kd.S_reads' HO479.out).2.1)
      (case side3 => exact sc_ (Kd.R_reads' HO484.out).2.2)
      (case side4 => exact (Kd.R_reads' HO484.out).2.1)
      (case side5 => exact sc_ (Kd.R_reads' HO486.out).2.2)
      (case side6 => exact (Kd.R_reads' HO486.out).2.1)
      rintro e w96 ⟨v499, v502, rfl, ho0, ho1, hb⟩
      refine ⟨_, rfl, ?_⟩
      replace HO479 := Aside0.mk (Kd.S_below (so_ HO479) hb); replace HO484 := Aside0.mk (Kd.R_below (ro_ HO484) hb); have HO500 := Aside0.mk (Kd.R_lower (Kd.R_new' (Kd.R_new' (Kd.R_new' ho0 (Kd.R_lt (ro_ HO486))) (Kd.R_lt (ro_ HO490))) (Kd.R_lt (ro_ HO493))) (below_size (hb2_ HB GE471 GE507))); have HO503 := Aside0.mk (Kd.R_lower (Kd.R_new' (Kd.R_new' (Kd.R_new' ho1 (Kd.R_lt (ro_ HO486))) (Kd.R_lt (ro_ HO490))) (Kd.R_lt (ro_ HO493))) (below_size (hb2_ HB GE471 GE507)))
      replace HO486 := Aside0.mk (Kd.R_mono (Kd.R_told (Kd.R_told (Kd.R_old (ro_ HO486) hb) (Kd.R_base ho0)) (Kd.R_base ho1)) (fun _ h_ => h_.1))
      replace HO490 := Aside0.mk (Kd.R_mono (Kd.R_told (Kd.R_told (Kd.R_old (ro_ HO490) hb) (Kd.R_base ho0)) (Kd.R_base ho1)) (fun _ h_ => h_.1))
      replace HO493 := Aside0.mk (Kd.R_mono (Kd.R_told (Kd.R_told (Kd.R_old (ro_ HO493) hb) (Kd.R_base ho0)) (Kd.R_base ho1)) (fun _ h_ => h_.1))
      replace BK471 := Aside0.mk (bb_ BK471 hb); replace BK507 := Aside0.mk (bb_ BK507 hb); replace HB := Aside0.mk (below_step (hb2_ HB GE471 GE507) hb); (try clear hb); (try clear hb2); (try clear hk); (try clear hi); (try clear ho0); (try clear ho1)
      refine hK.out _ _ ⟨cl_ BK471 0, cl_ BK471 1, cl_ BK471 2, cl_ BK471 3⟩ (fun hHeld => ?_)
      clear hK K
      refine norm_ pv_ ?_
      refine ahead_ [(8, 56), (9, 65), (10, 66)] ?_
      iterate 3 (refine pB_ HT_ ?_)
      refine aheadE_ (mk 14 4095) kr_ ?_
      exact norm_ (by simp only [putAll, Act.put, List.setIfInBounds_toArray, List.set_cons_zero, List.set_cons_succ]) (hCont (v499, v502, gb507) _ ⟨hHeld, (so_ HO479), (ro_ HO484), (rm_ HO486 (fun _ hk => ⟨hk.1.1.1.2, ⟨hk.1.1.2, ⟨hk.1.2, hk.2⟩⟩⟩)), (rm_ HO490 (fun _ hk => ⟨hk.1.1.2, ⟨hk.1.1.1, ⟨hk.1.2, hk.2⟩⟩⟩)), (rm_ HO493 (fun _ hk => ⟨hk.1.1.2, ⟨hk.1.1.1, ⟨hk.1.2, hk.2⟩⟩⟩)), (rm_ HO500 (fun _ hk => ⟨hk.1.1.2, ⟨hk.1.2, ⟨hk.2, hk.1.1.1⟩⟩⟩)), (rm_ HO503 (fun _ hk => ⟨hk.1.1.2, ⟨hk.1.2, ⟨hk.2, hk.1.1.1⟩⟩⟩)), (bk_ BK471), (bk_ BK507), GW507.out, GE507.out, NB471_507.out, NB507_471.out, (hb2_ HB GE471 GE507)⟩)
    ·
     skip
     refine box_step ?hg (N := 20) ?hd (cs := #[.slice none 0 0, .slice none 0 0, .int .i64 0, .int .i64 0]) (t := 37) ?hr ?_; (case hd => rfl); (case hg => rfl); (case hr => first | (go_simp; done) | (go_simp; rfl))
     intro gb507 hg w94 hbox hb
     replace HO479 := Aside0.mk (Kd.S_below (so_ HO479) hb); replace HO484 := Aside0.mk (Kd.R_below (ro_ HO484) hb); replace HO486 := Aside0.mk (Kd.R_below (ro_ HO486) hb); replace HO490 := Aside0.mk (Kd.R_below (ro_ HO490) hb); replace HO493 := Aside0.mk (Kd.R_below (ro_ HO493) hb); have BK507 := Aside0.mk hbox
     have GW507 := Aside0.mk (ge_ HB hg (hb1_ HB GE471)); have GE507 := Aside0.mk (ge_ HB hg (hb1_ HB GE471)); replace HB := Aside0.mk (below_step (hb1_ HB GE471) hb); have NB471_507 := Aside0.mk (nl_ BK471 hg); have NB507_471 := Aside0.mk (ng_ BK471 hg); replace BK471 := Aside0.mk (bb_ BK471 hb); clear hb hbox hg
     refine hK.out _ _ ⟨cl_ BK471 0, cl_ BK471 1, cl_ BK471 2, cl_ BK471 3⟩ (fun hHeld => ?_)
     clear hK K
     refine norm_ pv_ ?_
     refine one_ (i := 2) (N := some 59) (mk 14 2175) rfl rfl (on_ HT_) de_ (fun K hK => ?_)
     refine goes_ Try.func8 (by kernel_rfl) rfl #[.int .i64 a1] (by rfl) rfl rfl am_ ?_
     with_reducible refine (haberdashplay_Zone.calls a1 t497 _ A23.out).mono ?_
     rintro e w95 ⟨rfl, hb⟩
     refine ⟨_, rfl, ?_⟩
     replace HO479 := Aside0.mk (Kd.S_below (so_ HO479) hb); replace HO484 := Aside0.mk (Kd.R_below (ro_ HO484) hb); replace HO486 := Aside0.mk (Kd.R_below (ro_ HO486) hb); replace HO490 := Aside0.mk (Kd.R_below (ro_ HO490) hb); replace HO493 := Aside0.mk (Kd.R_below (ro_ HO493) hb); replace BK471 := Aside0.mk (bb_ BK471 hb)
     replace BK507 := Aside0.mk (bb_ BK507 hb); replace HB := Aside0.mk (below_step (hb2_ HB GE471 GE507) hb); (try clear hb); (try clear hb2); (try clear hk); (try clear hi)
     refine hK.out _ _ ⟨cl_ BK471 0, cl_ BK471 1, cl_ BK471 2, cl_ BK471 3⟩ (fun hHeld => ?_)
     clear hK K
     refine norm_ pv_ ?_
     refine one_ (i := 7) (N := some 64) (mk 14 2303) rfl rfl (on_ HT_) de_ (fun K hK => ?_)
     refine goes_ Try.func12 (by kernel_rfl) rfl #[.agg #[.bool t474, .bool t475, .int .i64 t476, .slice Ao86 t477.length co86], .string t497, .bool a2, .slice Ao90 t481.length co90, .slice Ao91 t482.length co91, .int .i64 t480] (by rfl) rfl rfl am_ ?_
     with_reducible refine (haberdashref15_Levy.calls kj6 t474 t475 t476 _ _ t477 t497 a2 _ _ t481 _ _ t482 t480 t498 t501 t504 t505 t506 _ ?side1 ?side2 ?side3 ?side4 ?side5 ?side6 A24.out).mono ?_
     (case side1 => exact sc_ (Kd.S_reads' HO479.out).2.2)
     (case side2 => exact (Kd.S_reads' HO479.out).2.1)
     (case side3 => exact sc_ (Kd.R_reads' HO484.out).2.2)
     (case side4 => exact (Kd.R_reads' HO484.out).2.1)
     (case side5 => exact sc_ (Kd.R_reads' HO486.out).2.2)
     (case side6 => exact (Kd.R_reads' HO486.out).2.1)
     rintro e w96 ⟨v499, v502, rfl, ho0, ho1, hb⟩
     refine ⟨_, rfl, ?_⟩
     replace HO479 := Aside0.mk (Kd.S_below (so_ HO479) hb); replace HO484 := Aside0.mk (Kd.R_below (ro_ HO484) hb); have HO500 := Aside0.mk (Kd.R_lower (Kd.R_new' (Kd.R_new' (Kd.R_new' ho0 (Kd.R_lt (ro_ HO486))) (Kd.R_lt (ro_ HO490))) (Kd.R_lt (ro_ HO493))) (below_size (hb2_ HB GE471 GE507))); have HO503 := Aside0.mk (Kd.R_lower (Kd.R_new' (Kd.R_new' (Kd.R_new' ho1 (Kd.R_lt (ro_ HO486))) (Kd.R_lt (ro_ HO490))) (Kd.R_lt (ro_ HO493))) (below_size (hb2_ HB GE471 GE507)))
     replace HO486 := Aside0.mk (Kd.R_mono (Kd.R_told (Kd.R_told (Kd.R_old (ro_ HO486) hb) (Kd.R_base ho0)) (Kd.R_base ho1)) (fun _ h_ => h_.1))
     replace HO490 := Aside0.mk (Kd.R_mono (Kd.R_told (Kd.R_told (Kd.R_old (ro_ HO490) hb) (Kd.R_base ho0)) (Kd.R_base ho1)) (fun _ h_ => h_.1))
     replace HO493 := Aside0.mk (Kd.R_mono (Kd.R_told (Kd.R_told (Kd.R_old (ro_ HO493) hb) (Kd.R_base ho0)) (Kd.R_base ho1)) (fun _ h_ => h_.1))
     replace BK471 := Aside0.mk (bb_ BK471 hb); replace BK507 := Aside0.mk (bb_ BK507 hb); replace HB := Aside0.mk (below_step (hb2_ HB GE471 GE507) hb); (try clear hb); (try clear hb2); (try clear hk); (try clear hi); (try clear ho0); (try clear ho1)
     refine hK.out _ _ ⟨cl_ BK471 0, cl_ BK471 1, cl_ BK471 2, cl_ BK471 3⟩ (fun hHeld => ?_)
     clear hK K
     refine norm_ pv_ ?_
     refine ahead_ [(8, 56), (9, 65), (10, 66)] ?_
     iterate 3 (refine pB_ HT_ ?_)
     refine aheadE_ (mk 14 4095) kr_ ?_
     exact norm_ (by simp only [putAll, Act.put, List.setIfInBounds_toArray, List.set_cons_zero, List.set_cons_succ]) (hCont (v499, v502, gb507) _ ⟨hHeld, (so_ HO479), (ro_ HO484), (rm_ HO486 (fun _ hk => ⟨hk.1.1.1.2, ⟨hk.1.1.2, ⟨hk.1.2, hk.2⟩⟩⟩)), (rm_ HO490 (fun _ hk => ⟨hk.1.1.2, ⟨hk.1.1.1, ⟨hk.1.2, hk.2⟩⟩⟩)), (rm_ HO493 (fun _ hk => ⟨hk.1.1.2, ⟨hk.1.1.1, ⟨hk.1.2, hk.2⟩⟩⟩)), (rm_ HO500 (fun _ hk => ⟨hk.1.1.2, ⟨hk.1.2, ⟨hk.2, hk.1.1.1⟩⟩⟩)), (rm_ HO503 (fun _ hk => ⟨hk.1.1.2, ⟨hk.1.2, ⟨hk.2, hk.1.1.1⟩⟩⟩)), (bk_ BK471), (bk_ BK507), GW507.out, GE507.out, NB471_507.out, NB507_471.out, (hb2_ HB GE471 GE507)⟩)
   rintro ⟨v499, v502, gb507⟩ w97 ⟨hS_, h0_, h1_, h2_, h3_, h4_, h5_, h6_, h7_, h8_, h9_, h10_, h11_, h12_, h13_⟩
   have n0_ : Aside0 (Kd.S k51 51 w97 w.heap.size (fun _ => True) (.slice Ao86 t477.length co86) t477) := ⟨h0_⟩
   have n1_ : Aside0 (Kd.R Kd.string 9 w97 w.heap.size (fun _ => True) (.slice Ao90 t481.length co90) t481) := ⟨h1_⟩
   have n2_ : Aside0 (Kd.R (Kd.int .i64) 2 w97 w.heap.size (fun k_ => some k_ ≠ (v489 : Value).ownBlock ∧ some k_ ≠ (v492 : Value).ownBlock ∧ some k_ ≠ (v499 : Value).ownBlock ∧ some k_ ≠ (v502 : Value).ownBlock) (.slice Ao91 t482.length co91) t482) := ⟨h2_⟩
   have n3_ : Aside0 (Kd.R (Kd.int .i64) 2 w97 w.heap.size (fun k_ => some k_ ≠ (.slice Ao91 t482.length co91 : Value).ownBlock ∧ some k_ ≠ (v492 : Value).ownBlock ∧ some k_ ≠ (v499 : Value).ownBlock ∧ some k_ ≠ (v502 : Value).ownBlock) v489 t488) := ⟨h3_⟩
   have n4_ : Aside0 (Kd.R (Kd.int .i64) 2 w97 w.heap.size (fun k_ => some k_ ≠ (.slice Ao91 t482.length co91 : Value).ownBlock ∧ some k_ ≠ (v489 : Value).ownBlock ∧ some k_ ≠ (v499 : Value).ownBlock ∧ some k_ ≠ (v502 : Value).ownBlock) v492 t491) := ⟨h4_⟩
   have n5_ : Aside0 (Kd.R (Kd.int .i64) 2 w97 w.heap.size (fun k_ => some k_ ≠ (.slice Ao91 t482.length co91 : Value).ownBlock ∧ some k_ ≠ (v489 : Value).ownBlock ∧ some k_ ≠ (v492 : Value).ownBlock ∧ some k_ ≠ (v502 : Value).ownBlock) v499 t498) := ⟨h5_⟩
   have n6_ : Aside0 (Kd.R (Kd.int .i64) 2 w97 w.heap.size (fun k_ => some k_ ≠ (.slice Ao91 t482.length co91 : Value).ownBlock ∧ some k_ ≠ (v489 : Value).ownBlock ∧ some k_ ≠ (v492 : Value).ownBlock ∧ some k_ ≠ (v499 : Value).ownBlock) v502 t501) := ⟨h6_⟩
   have n7_ : Aside0 (w97.heap[gb471]? = some (.cells #[.bool t474, .bool t475, .int .i64 t476, .slice Ao86 t477.length co86] 24 (0, 0))) := ⟨h7_⟩; have n8_ : Aside0 (w97.heap[gb507]? = some (.cells #[.slice none 0 0, .slice none 0 0, .int .i64 0, .int .i64 0] 37 (0, 0))) := ⟨h8_⟩; have n9_ : Aside0 (w.heap.size ≤ gb507) := ⟨h9_⟩
   have n10_ : Aside0 (w.heap.size ≤ gb507) := ⟨h10_⟩; have n11_ : Aside0 (gb471 ≠ gb507) := ⟨h11_⟩; have n12_ : Aside0 (gb507 ≠ gb471) := ⟨h12_⟩; have n13_ : Aside0 (Below w.heap.size w w97) := ⟨h13_⟩; clear HO479; clear HO484; clear HO486; clear HO490; clear HO493; clear BK471; clear HB; clear h0_ h1_ h2_ h3_ h4_ h5_ h6_ h7_ h8_ h9_ h10_ h11_ h12_ h13_
   have HO479 := n0_; have HO484 := n1_; have HO486 := n2_; have HO490 := n3_; have HO493 := n4_; have HO500 := n5_; have HO503 := n6_; have BK471 := n7_; have BK507 := n8_; have GW507 := n9_; have GE507 := n10_; have NB471_507 := n11_; have NB507_471 := n12_; have HB := n13_; clear n0_ n1_ n2_ n3_ n4_ n5_ n6_ n7_ n8_ n9_ n10_ n11_ n12_ n13_
   have hHeld : w97.cell? ⟨gb471, 0, none⟩ = some (.bool t474) ∧ w97.cell? ⟨gb471, 1, none⟩ = some (.bool t475) ∧ w97.cell? ⟨gb471, 2, none⟩ = some (.int .i64 t476) ∧ w97.cell? ⟨gb471, 3, none⟩ = some (.slice Ao86 t477.length co86) := hS_; obtain ⟨Ao98, co98, eo98⟩ := Kd.R_slice HO500.out
   (first | subst eo98 | (injection eo98 with f1_ f2_ f3_; have f4_ := f1_.symm; have f5_ := f3_.symm; clear f1_ f2_ f3_; subst f4_; subst f5_))
   obtain ⟨Ao100, co100, eo100⟩ := Kd.R_slice HO503.out
   (first | subst eo100 | (injection eo100 with f1_ f2_ f3_; have f4_ := f1_.symm; have f5_ := f3_.symm; clear f1_ f2_ f3_; subst f4_; subst f5_))
   refine norm_ (a' := ?_) ?_ ?_
   rotate_left
   ·
    simp only [putAll, Act.put, List.setIfInBounds_toArray, List.set_cons_zero, List.set_cons_succ]
    rfl
   refine one_ (i := 12) (N := none) (mk 14 8191) rfl rfl (on_ HT_) de_ (fun K hK => ?_)
   have hs99 : w97.cell? ⟨gb507, 0, none⟩ = some (.slice none 0 0) := (blk_cell BK507.out 0).trans rfl; have hfs99 := blk_frozen BK507.out 0; have hns99_0 := NB471_507.out; have hms99_0 := NB507_471.out; have hs101 : w97.cell? ⟨gb507, 1, none⟩ = some (.slice none 0 0) := (blk_cell BK507.out 1).trans rfl
   have hfs101 := blk_frozen BK507.out 1; have hns101_0 := NB471_507.out; have hms101_0 := NB507_471.out; have hs102 : w97.cell? ⟨gb507, 2, none⟩ = some (.int .i64 0) := (blk_cell BK507.out 2).trans rfl; have hfs102 := blk_frozen BK507.out 2; have hns102_0 := NB471_507.out; have hms102_0 := NB507_471.out
   have hs103 : w97.cell? ⟨gb507, 3, none⟩ = some (.int .i64 0) := (blk_cell BK507.out 3).trans rfl; have hfs103 := blk_frozen BK507.out 3; have hns103_0 := NB471_507.out; have hms103_0 := NB507_471.out
   refine skip_ (w1 := ?_) (by rfl) rfl ?_ ?_
   rotate_left
   ·
    go_simp
    rfl
   refine hK.out _ _ ⟨(cf1_ NB471_507 (cf1_ NB471_507 (cf1_ NB471_507 (cf1_ NB471_507 (hHeld.1))))), (cf1_ NB471_507 (cf1_ NB471_507 (cf1_ NB471_507 (cf1_ NB471_507 (hHeld.2.1))))), (cf1_ NB471_507 (cf1_ NB471_507 (cf1_ NB471_507 (cf1_ NB471_507 (hHeld.2.2.1))))), (cf1_ NB471_507 (cf1_ NB471_507 (cf1_ NB471_507 (cf1_ NB471_507 (hHeld.2.2.2)))))⟩ (fun hHeld => ?_)
   clear hK K
   refine pure_ (i := 13) (N := some 21) (v := ?_) (a' := ?_) (mk 14 16383) rfl rfl (an_ HT_) nh_ (Or.inl ⟨ry_, ?_⟩) ?_ ?_
   rotate_left; (intro w'; go_simp; with_reducible rfl)
   rotate_left; (exact pu_)
   refine done_ (done_of HT_.out (by kernel_rfl)) ?_
   have H := HH_.out; clear HH_
   by_cases c26 : t508 = true
   rotate_left
   ·
    replace c26 := Bool.eq_false_iff.mpr c26; subst c26; rw [if_neg nf_] at H; obtain rfl := Option.some.inj H
    try go_wp2_with (first | (refine gl_ 6 67 Try.func6 #[] ?_; (with_reducible refine (haberdashlaw19_awake.calls kj6  false _ A25.out).mono ?_); rintro e w104 ⟨rfl, hb⟩; refine ⟨_, rfl, ?_⟩; replace HO479 := Aside0.mk (Kd.S_below (by (with_reducible repeat (first | apply Kd.S_alloc | apply Kd.S_drewN | apply Kd.S_drew)); exact (Kd.S_mono (Kd.S_far (p := ⟨gb507, 3, none⟩) (Kd.S_far (p := ⟨gb507, 2, none⟩) (Kd.S_far (p := ⟨gb507, 1, none⟩) (Kd.S_far (p := ⟨gb507, 0, none⟩) (Kd.S_types HO479.out BK507.out (by decide)) (fun _ hk => hk.2) (.slice Ao98 t498.length co98)) (fun _ hk => hk.2) (.slice Ao100 t501.length co100)) (fun _ hk => hk.2) (.int .i64 t504)) (fun _ hk => hk.2) (.int .i64 t505)) (fun _ h_ => h_.1))) hb); replace HO484 := Aside0.mk (Kd.R_below (by (with_reducible repeat (first | apply Kd.R_alloc | apply Kd.R_drewN | apply Kd.R_drew)); exact (rf1_ HO484 BK507)) hb); replace HO486 := Aside0.mk (Kd.R_below (by (with_reducible repeat (first | apply Kd.R_alloc | apply Kd.R_drewN | apply Kd.R_drew)); exact (rf1_ HO486 BK507)) hb); replace HO490 := Aside0.mk (Kd.R_below (by (with_reducible repeat (first | apply Kd.R_alloc | apply Kd.R_drewN | apply Kd.R_drew)); exact (rf1_ HO490 BK507)) hb); replace HO493 := Aside0.mk (Kd.R_below (by (with_reducible repeat (first | apply Kd.R_alloc | apply Kd.R_drewN | apply Kd.R_drew)); exact (rf1_ HO493 BK507)) hb); replace HO500 := Aside0.mk (Kd.R_below (by (with_reducible repeat (first | apply Kd.R_alloc | apply Kd.R_drewN | apply Kd.R_drew)); exact (rf1_ HO500 BK507)) hb); replace HO503 := Aside0.mk (Kd.R_below (by (with_reducible repeat (first | apply Kd.R_alloc | apply Kd.R_drewN | apply Kd.R_drew)); exact (rf1_ HO503 BK507)) hb); replace BK471 := Aside0.mk (blk_below (g := gb471) (o := .cells #[.bool t474, .bool t475, .int .i64 t476, .slice Ao86 t477.length co86] 24 (0, 0)) (bf4_ BK471 NB471_507 NB471_507 NB471_507 NB471_507) hb); replace BK507 := Aside0.mk (blk_below (g := gb507) (o := .cells #[.slice Ao98 t498.length co98, .slice Ao100 t501.length co100, .int .i64 t504, .int .i64 t505] 37 (0, 0)) (bq0_ BK507) hb); replace HB := Aside0.mk (below_step (hb2_ HB GE471 GE507) hb); (try clear hb); (try clear hk)))
    go_ret
    exact ⟨er_, hb2_ HB GE471 GE507⟩
   subst c26; rw [if_pos rfl] at H; replace H := Option.bind_eq_some_iff.mp H; obtain ⟨t509, A270, H⟩ := H
   (try dsimp only at H)
   have A27 := Aside0.mk A270; clear A270
   by_cases c28 : t509 = true
   ·
    subst c28; rw [if_pos rfl] at H; obtain rfl := Option.some.inj H
    try go_wp2_with (first | (refine gl_ 6 67 Try.func6 #[] ?_; (with_reducible refine (haberdashlaw19_awake.calls kj6  true _ A25.out).mono ?_); rintro e w50 ⟨rfl, hb⟩; refine ⟨_, rfl, ?_⟩; replace HO479 := Aside0.mk (Kd.S_below (by (with_reducible repeat (first | apply Kd.S_alloc | apply Kd.S_drewN | apply Kd.S_drew)); exact (Kd.S_mono (Kd.S_far (p := ⟨gb507, 3, none⟩) (Kd.S_far (p := ⟨gb507, 2, none⟩) (Kd.S_far (p := ⟨gb507, 1, none⟩) (Kd.S_far (p := ⟨gb507, 0, none⟩) (Kd.S_types HO479.out BK507.out (by decide)) (fun _ hk => hk.2) (.slice Ao98 t498.length co98)) (fun _ hk => hk.2) (.slice Ao100 t501.length co100)) (fun _ hk => hk.2) (.int .i64 t504)) (fun _ hk => hk.2) (.int .i64 t505)) (fun _ h_ => h_.1))) hb); replace HO484 := Aside0.mk (Kd.R_below (by (with_reducible repeat (first | apply Kd.R_alloc | apply Kd.R_drewN | apply Kd.R_drew)); exact (rf1_ HO484 BK507)) hb); replace HO486 := Aside0.mk (Kd.R_below (by (with_reducible repeat (first | apply Kd.R_alloc | apply Kd.R_drewN | apply Kd.R_drew)); exact (rf1_ HO486 BK507)) hb); replace HO490 := Aside0.mk (Kd.R_below (by (with_reducible repeat (first | apply Kd.R_alloc | apply Kd.R_drewN | apply Kd.R_drew)); exact (rf1_ HO490 BK507)) hb); replace HO493 := Aside0.mk (Kd.R_below (by (with_reducible repeat (first | apply Kd.R_alloc | apply Kd.R_drewN | apply Kd.R_drew)); exact (rf1_ HO493 BK507)) hb); replace HO500 := Aside0.mk (Kd.R_below (by (with_reducible repeat (first | apply Kd.R_alloc | apply Kd.R_drewN | apply Kd.R_drew)); exact (rf1_ HO500 BK507)) hb); replace HO503 := Aside0.mk (Kd.R_below (by (with_reducible repeat (first | apply Kd.R_alloc | apply Kd.R_drewN | apply Kd.R_drew)); exact (rf1_ HO503 BK507)) hb); replace BK471 := Aside0.mk (blk_below (g := gb471) (o := .cells #[.bool t474, .bool t475, .int .i64 t476, .slice Ao86 t477.length co86] 24 (0, 0)) (bf4_ BK471 NB471_507 NB471_507 NB471_507 NB471_507) hb); replace BK507 := Aside0.mk (blk_below (g := gb507) (o := .cells #[.slice Ao98 t498.length co98, .slice Ao100 t501.length co100, .int .i64 t504, .int .i64 t505] 37 (0, 0)) (bq0_ BK507) hb); replace HB := Aside0.mk (below_step (hb2_ HB GE471 GE507) hb); (try clear hb); (try clear hk); have hnb51 := NB507_471.out; have hnc51 := NB471_507.out; obtain ⟨hcz52_0, hcz52_1, hcz52_2, hcz52_3⟩ := cz4_ BK507; obtain ⟨hfz52_0, hfz52_1, hfz52_2, hfz52_3⟩ := fz4_ BK507; obtain ⟨Ao107, co107, eo107⟩ := Kd.R_slice HO490.out; subst eo107; obtain ⟨Ao108, co108, eo108⟩ := Kd.R_slice HO493.out; subst eo108) | (go_at_call 13; (with_reducible refine (haberdashlaw19_same5.calls kj6 _ _ t498 _ _ t501 t504 t505 t506 _ _ t488 _ _ t491 t494 t495 t496 true _ ?side1 ?side2 ?side3 ?side4 ?side5 ?side6 ?side7 ?side8 A27.out).mono ?_); (case side1 => exact sc_ (Kd.R_reads' HO500.out).2.2); (case side2 => exact (Kd.R_reads' HO500.out).2.1); (case side3 => exact sc_ (Kd.R_reads' HO503.out).2.2); (case side4 => exact (Kd.R_reads' HO503.out).2.1); (case side5 => exact sc_ (Kd.R_reads' HO490.out).2.2); (case side6 => exact (Kd.R_reads' HO490.out).2.1); (case side7 => exact sc_ (Kd.R_reads' HO493.out).2.2); (case side8 => exact (Kd.R_reads' HO493.out).2.1); rintro e w55 ⟨rfl, hb⟩; replace HO479 := Aside0.mk (Kd.S_below (so_ HO479) hb); replace HO484 := Aside0.mk (Kd.R_below (ro_ HO484) hb); replace HO486 := Aside0.mk (Kd.R_below (ro_ HO486) hb); replace HO490 := Aside0.mk (Kd.R_below (ro_ HO490) hb); replace HO493 := Aside0.mk (Kd.R_below (ro_ HO493) hb); replace HO500 := Aside0.mk (Kd.R_below (ro_ HO500) hb); replace HO503 := Aside0.mk (Kd.R_below (ro_ HO503) hb); replace BK471 := Aside0.mk (bb_ BK471 hb); replace BK507 := Aside0.mk (bb_ BK507 hb); replace HB := Aside0.mk (below_step (hb2_ HB GE471 GE507) hb); (try clear hb)))
    go_ret
    exact ⟨er_, hb2_ HB GE471 GE507⟩
   replace c28 := Bool.eq_false_iff.mpr c28; subst c28; rw [if_neg nf_] at H; obtain rfl := Option.some.inj H
   try go_wp2_with (first | (refine gl_ 6 67 Try.func6 #[] ?_; (with_reducible refine (haberdashlaw19_awake.calls kj6  true _ A25.out).mono ?_); rintro e w77 ⟨rfl, hb⟩; refine ⟨_, rfl, ?_⟩; replace HO479 := Aside0.mk (Kd.S_below (by (with_reducible repeat (first | apply Kd.S_alloc | apply Kd.S_drewN | apply Kd.S_drew)); exact (Kd.S_mono (Kd.S_far (p := ⟨gb507, 3, none⟩) (Kd.S_far (p := ⟨gb507, 2, none⟩) (Kd.S_far (p := ⟨gb507, 1, none⟩) (Kd.S_far (p := ⟨gb507, 0, none⟩) (Kd.S_types HO479.out BK507.out (by decide)) (fun _ hk => hk.2) (.slice Ao98 t498.length co98)) (fun _ hk => hk.2) (.slice Ao100 t501.length co100)) (fun _ hk => hk.2) (.int .i64 t504)) (fun _ hk => hk.2) (.int .i64 t505)) (fun _ h_ => h_.1))) hb); replace HO484 := Aside0.mk (Kd.R_below (by (with_reducible repeat (first | apply Kd.R_alloc | apply Kd.R_drewN | apply Kd.R_drew)); exact (rf1_ HO484 BK507)) hb); replace HO486 := Aside0.mk (Kd.R_below (by (with_reducible repeat (first | apply Kd.R_alloc | apply Kd.R_drewN | apply Kd.R_drew)); exact (rf1_ HO486 BK507)) hb); replace HO490 := Aside0.mk (Kd.R_below (by (with_reducible repeat (first | apply Kd.R_alloc | apply Kd.R_drewN | apply Kd.R_drew)); exact (rf1_ HO490 BK507)) hb); replace HO493 := Aside0.mk (Kd.R_below (by (with_reducible repeat (first | apply Kd.R_alloc | apply Kd.R_drewN | apply Kd.R_drew)); exact (rf1_ HO493 BK507)) hb); replace HO500 := Aside0.mk (Kd.R_below (by (with_reducible repeat (first | apply Kd.R_alloc | apply Kd.R_drewN | apply Kd.R_drew)); exact (rf1_ HO500 BK507)) hb); replace HO503 := Aside0.mk (Kd.R_below (by (with_reducible repeat (first | apply Kd.R_alloc | apply Kd.R_drewN | apply Kd.R_drew)); exact (rf1_ HO503 BK507)) hb); replace BK471 := Aside0.mk (blk_below (g := gb471) (o := .cells #[.bool t474, .bool t475, .int .i64 t476, .slice Ao86 t477.length co86] 24 (0, 0)) (bf4_ BK471 NB471_507 NB471_507 NB471_507 NB471_507) hb); replace BK507 := Aside0.mk (blk_below (g := gb507) (o := .cells #[.slice Ao98 t498.length co98, .slice Ao100 t501.length co100, .int .i64 t504, .int .i64 t505] 37 (0, 0)) (bq0_ BK507) hb); replace HB := Aside0.mk (below_step (hb2_ HB GE471 GE507) hb); (try clear hb); (try clear hk); have hnb78 := NB507_471.out; have hnc78 := NB471_507.out; obtain ⟨hcz79_0, hcz79_1, hcz79_2, hcz79_3⟩ := cz4_ BK507; obtain ⟨hfz79_0, hfz79_1, hfz79_2, hfz79_3⟩ := fz4_ BK507; obtain ⟨Ao107, co107, eo107⟩ := Kd.R_slice HO490.out; subst eo107; obtain ⟨Ao108, co108, eo108⟩ := Kd.R_slice HO493.out; subst eo108) | (go_at_call 13; (with_reducible refine (haberdashlaw19_same5.calls kj6 _ _ t498 _ _ t501 t504 t505 t506 _ _ t488 _ _ t491 t494 t495 t496 false _ ?side1 ?side2 ?side3 ?side4 ?side5 ?side6 ?side7 ?side8 A27.out).mono ?_); (case side1 => exact sc_ (Kd.R_reads' HO500.out).2.2); (case side2 => exact (Kd.R_reads' HO500.out).2.1); (case side3 => exact sc_ (Kd.R_reads' HO503.out).2.2); (case side4 => exact (Kd.R_reads' HO503.out).2.1); (case side5 => exact sc_ (Kd.R_reads' HO490.out).2.2); (case side6 => exact (Kd.R_reads' HO490.out).2.1); (case side7 => exact sc_ (Kd.R_reads' HO493.out).2.2); (case side8 => exact (Kd.R_reads' HO493.out).2.1); rintro e w82 ⟨rfl, hb⟩; replace HO479 := Aside0.mk (Kd.S_below (so_ HO479) hb); replace HO484 := Aside0.mk (Kd.R_below (ro_ HO484) hb); replace HO486 := Aside0.mk (Kd.R_below (ro_ HO486) hb); replace HO490 := Aside0.mk (Kd.R_below (ro_ HO490) hb); replace HO493 := Aside0.mk (Kd.R_below (ro_ HO493) hb); replace HO500 := Aside0.mk (Kd.R_below (ro_ HO500) hb); replace HO503 := Aside0.mk (Kd.R_below (ro_ HO503) hb); replace BK471 := Aside0.mk (bb_ BK471 hb); replace BK507 := Aside0.mk (bb_ BK507 hb); replace HB := Aside0.mk (below_step (hb2_ HB GE471 GE507) hb); (try clear hb)))
   go_ret
   exact ⟨er_, hb2_ HB GE471 GE507⟩

end Go.Proofs.Ytmiamdnhofjifaa.Rw
