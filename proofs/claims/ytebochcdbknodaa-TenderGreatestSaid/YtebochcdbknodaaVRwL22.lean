/- Functions of the program as Lean functions, each with its contract: out of what the kit's printer wrote for this seat. -/
import Derived.Test.YtebochcdbknodaaVRwA
import Derived.Test.YtebochcdbknodaaVRwAb
import Derived.Test.YtebochcdbknodaaVRwMon
namespace Go.Proofs.Ytebochcdbknodaa.Rw
open Go.RowKit Go.Proofs.YtebochcdbknodaaW.PrintWords Go.Proofs.YtebochcdbknodaaW.PrintLast Go.Proofs.YtebochcdbknodaaW.PrintMore
attribute [local go_sem] max2_int min2_int max_two min_two max_three min_three max_four min_four   -- for this text's walks alone
set_option linter.unusedVariables false
set_option linter.unusedSimpArgs false
attribute [local go_sem high] leqS gtrS

/-! ### haberdashlaw22_near: function 9 -/
mutual
def haberdashlaw22_near.l0 : Nat → List (S39) → List (S39) → Int → Option ((List (S39)))
 | 0, _, _, _ => none
 | k + 1, x0, x3, x4 => if x4 < (x0.length : Int) then (haberdashlaw22_near.j1 k x0 x3 x4 (decide (x4 < 6))) else (haberdashlaw22_near.j1 k x0 x3 x4 false)
def haberdashlaw22_near.j1 : Nat → List (S39) → List (S39) → Int → Bool → Option ((List (S39)))
 | 0, _, _, _, _ => none
 | k + 1, x0, x3, x4, x13 => if x13 = true then (if 0 ≤ x4 then (if x4 < (x0.length : Int) then ((haberdashplay_Mod64.f ((rd_T39 x0 x4).f1) 5000).bind fun t144 => ((haberdashplay_Mod.f ((rd_T39 x0 x4).f0) 4).bind fun t146 => ((haberdashplay_Mod64.f ((rd_T39 x0 x4).f2) (wrap64 (t144 + 1))).bind fun t148 => (if x3.length < 5864062014805 then (haberdashlaw22_near.l0 k x0 (x3 ++ [(⟨wrap64 (1 + t146), t144, t148⟩ : S39)]) (wrap64 (x4 + 1))) else (none))))) else (none)) else (none)) else (some x3)
end
def haberdashlaw22_near.f (k : Nat) (l0 : List (S39)) : Option ((List (S39))) := haberdashlaw22_near.l0 k l0 ([] : List (S39)) 0
def haberdashlaw22_near.T6 : Bool × List (List Nat × List Nat) := (true, [([], []), ([], []), ([], []), ([1, 2], [1, 2]), ([3], [3]), ([4], [4]), ([5], [5]), ([6], [6]), ([], []), ([], []), ([], []), ([9, 10], [9, 10]), ([11], [11]), ([12], [12]), ([], []), ([14], [14]), ([13, 15, 6], [13, 15]), ([7, 8, 16], [7, 8, 16]), ([17], [17]), ([0, 18, 16], [0, 18]), ([19, 19, 0, 1, 2, 3, 4, 5, 6, 7, 8, 9, 10, 11, 12, 13, 14, 15, 16, 17, 18, 19], [0, 19])])
def haberdashlaw22_near.B6 : List Nat := [0, 0, 0, 6, 14, 30, 62, 126, 0, 0, 0, 1536, 3584, 7680, 0, 16384, 65150, 131070, 262142, 524287, 1048575]
theorem haberdashlaw22_near.tab6 : rtab .any (opsOf Try.f9 6) = haberdashlaw22_near.T6 := by kernel_rfl
theorem haberdashlaw22_near.bits6 : waitsOk haberdashlaw22_near.T6.2 haberdashlaw22_near.B6 = true := by kernel_rfl
set_option maxHeartbeats 8000000 in
set_option maxRecDepth 100000 in
theorem haberdashlaw22_near.calls (k : Nat) (A0 : Option Addr) (c0 : Nat) (l0 : List (S39)) (r : List (S39)) (w : World) (hr0 : Kd.C k39 w A0 l0.length l0) (hc0 : l0.length ≤ c0) (h : haberdashlaw22_near.f k l0 = some r) :
 Calls Try.prog 9 #[.slice A0 l0.length c0] w fun e w' => ∃ v0_ : Value, e = .returned (v0_) ∧ Kd.R k39 39 w' w.heap.size (fun _ => True) v0_ r ∧ Below w.heap.size w w' := by
 have hu39 := Try.underlying39
 have HR0 := Aside0.mk hr0
 have HC0 := Aside0.mk hc0
 clear hr0 hc0
 have HB := Aside0.mk (Below.refl w.heap.size w)
 have H : (haberdashlaw22_near.l0 k l0 ([] : List (S39)) 0) = some r := h
 clear h
 have H' := Aside0.mk H
 clear H
 go_enter Try.func9, Try.ntmps9
 go_wp2
 go_loopg [3, 4] k (fun kq v3 v4 w' => ∃ (x3_1 : List (S39)) (x4_1 : Int), v4 = .int .i64 x4_1 ∧ Aside0 (haberdashlaw22_near.l0 kq l0 x3_1 x4_1 = some r) ∧ Aside0 (kq ≤ k) ∧ Aside0 (Kd.R k39 39 w' w.heap.size (fun _ => True) v3 x3_1) ∧ Aside0 (Below w.heap.size w w'))
 case atStart => exact ⟨(([] : List (S39))), (0), rf_, H', ⟨Nat.le_refl _⟩, ⟨by first | exact Kd.R_nil _ _ _ _ _ | exact Kd.N_nil _ _ _ _ _ | exact Kd.V_nil _ _ _ _ _ | exact Kd.Q_nil _ _ _ _ _ | exact Kd.S_nil _ _ _ _ _⟩, ⟨hb0_ HB⟩⟩
 case round =>
  clear H'
  obtain ⟨x3_1, x4_1, rfl, HA, HK1, HO_3, HB⟩ := hrel
  cases gk with
  | zero => exact absurd HA.out (by simp [haberdashlaw22_near.l0])
  | succ k1 =>
   have H := HA.out
   clear HA
   simp only [haberdashlaw22_near.l0] at H
   have HC2 := Aside0.mk H
   clear H
   go_upto_region 3 with (fail)
   go_cut [13] (fun v13 wc => ∃ (kq : Nat) (x13_1 : Bool), v13 = .bool x13_1 ∧ Aside0 (haberdashlaw22_near.j1 kq l0 x3_1 x4_1 x13_1 = some r) ∧ Aside0 (kq ≤ k1) ∧ Aside0 (Kd.R k39 39 wc w.heap.size (fun _ => True) u3 x3_1) ∧ Aside0 (Below w.heap.size w wc))
   case first =>
    have H := HC2.out
    clear HC2
    by_cases c3 : x4_1 < (l0.length : Int)
    rotate_left
    ·
     rw [if_neg c3] at H
     have c3b0 := decide_eq_false c3
     clear c3
     (first | rw [c3b0] | (simp only [i64_w, i32_w]; rw [c3b0]) | skip)
     have H' := Aside0.mk H
     clear H
     go_wp2
     go_meet
     case rel => exact ⟨_, (false), rf_, H', ⟨by have := HK1.out; first | omega | exact Nat.le_refl _⟩, ⟨ro_ HO_3⟩, ⟨hb0_ HB⟩⟩
    rw [if_pos c3] at H
    have c3b0 := decide_eq_true c3
    clear c3
    (first | rw [c3b0] | (simp only [i64_w, i32_w]; rw [c3b0]) | skip)
    have H' := Aside0.mk H
    clear H
    go_wp2
    go_meet
    case rel => exact ⟨_, (decide (x4_1 < 6)), rf_, H', ⟨by have := HK1.out; first | omega | exact Nat.le_refl _⟩, ⟨ro_ HO_3⟩, ⟨hb0_ HB⟩⟩
   case rest =>
    clear HC2
    try clear p2
    try clear c3
    try clear c3b0
    obtain ⟨kq, x13_1, rfl, HA, HJ1, HO_3, HB⟩ := hcut
    cases kq with
    | zero => exact absurd HA.out (by simp [haberdashlaw22_near.j1])
    | succ kj1 =>
     have H := HA.out
     clear HA
     simp only [haberdashlaw22_near.j1] at H
     by_cases c4 : x13_1 = true
     rotate_left
     ·
      replace c4 := Bool.eq_false_iff.mpr c4
      subst c4
      rw [if_neg nf_] at H
      obtain rfl := Option.some.inj H
      go_wp2
      go_ret
      exact ⟨_, er_, ro_ HO_3, hb0_ HB⟩
     subst c4
     rw [if_pos rfl] at H
     by_cases c5 : 0 ≤ x4_1
     rotate_left
     ·
      rw [if_neg c5] at H
      exact absurd H (by simp)
     rw [if_pos c5] at H
     have c5b0 := decide_eq_true c5
     clear c5
     by_cases c6 : x4_1 < (l0.length : Int)
     rotate_left
     ·
      rw [if_neg c6] at H
      exact absurd H (by simp)
     rw [if_pos c6] at H
     have c6b0 := decide_eq_true c6
     clear c6
     replace H := Option.bind_eq_some_iff.mp H
     obtain ⟨t144, A70, H⟩ := H
     (try dsimp only at H)
     have A7 := Aside0.mk A70
     clear A70
     replace H := Option.bind_eq_some_iff.mp H
     obtain ⟨t146, A80, H⟩ := H
     (try dsimp only at H)
     have A8 := Aside0.mk A80
     clear A80
     replace H := Option.bind_eq_some_iff.mp H
     obtain ⟨t148, A90, H⟩ := H
     (try dsimp only at H)
     have A9 := Aside0.mk A90
     clear A90
     by_cases c10 : x3_1.length < 5864062014805
     rotate_left
     ·
      rw [if_neg c10] at H
      exact absurd H (by simp)
     rw [if_pos c10] at H
     have LMc10 := Aside0.mk c10
     clear c10
     obtain ⟨y149, hy149⟩ : ∃ y_ : List (S39), y_ = (x3_1 ++ [(⟨wrap64 (1 + t146), t144, t148⟩ : S39)]) := ⟨_, rfl⟩
     replace H : (haberdashlaw22_near.l0 kj1 l0 y149 (wrap64 (x4_1 + 1))) = some r := by first | (rw [hy149]; with_reducible exact H) | (have H2_ := (Option.bind_some _ _).symm.trans H; rw [hy149]; with_reducible exact H2_) | (have H2_ := (Option.bind_some _ _).symm.trans H; with_reducible exact H2_) | with_reducible exact H | (rw [hy149]; exact H) | exact H
     have Ny149 := Aside0.mk hy149
     clear hy149
     have H' := Aside0.mk H
     clear H
     have p143 : 0 ≤ (x4_1 : Int) := of_decide_eq_true as_
     have q143 : x4_1 < (l0.length : Int) := of_decide_eq_true as_
     obtain ⟨ad143, e143, hx143_0, hx143_1, hx143_2⟩ := at_T39 HR0.out x4_1 p143 q143
     cases e143
     replace hx143_0 := hd_ HB hx143_0
     replace hx143_1 := hd_ HB hx143_1
     replace hx143_2 := hd_ HB hx143_2
     replace p143 := eq_true p143
     replace q143 := eq_true q143
     try go_wp2_with (first | ((with_reducible refine gate_callee (f := 10) rfl ?_); refine goesL_ (some 21) rfl rfl Try.func10 (by kernel_rfl) rfl #[.int .i64 ((rd_T39 l0 x4_1).f1), .int .i64 5000] rfl am_ ?_; (with_reducible refine (haberdashplay_Mod64.calls ((rd_T39 l0 x4_1).f1) 5000 t144 _ A7.out).mono ?_); rintro e w' ⟨rfl, ⟨nd, rfl⟩⟩; refine ⟨_, rfl, ?_⟩))
     (try (rw [drewN_self wc]; generalize hq_ : World.drewN wc _ = wc; have n0_ : Aside0 (Kd.R k39 39 wc w.heap.size (fun _ => True) u3 x3_1) := ⟨by rw [← hq_]; exact (ro_ HO_3)⟩; have n1_ : Aside0 (Below w.heap.size w wc) := ⟨by rw [← hq_]; exact (hb0_ HB)⟩; clear HO_3 HB hq_; have HO_3 := n0_; have HB := n1_; clear n0_ n1_))
     replace HO_3 := Aside0.mk (Kd.R_drew HO_3.out)
     replace HB := Aside0.mk (below_drew1 HB.out)
     have p145 : 0 ≤ (x4_1 : Int) := of_decide_eq_true as_
     have q145 : x4_1 < (l0.length : Int) := of_decide_eq_true as_
     obtain ⟨ad145, e145, hx145_0, hx145_1, hx145_2⟩ := at_T39 HR0.out x4_1 p145 q145
     have hw145_2 := hx145_2
     have hw145_1 := hx145_1
     have hw145_0 := hx145_0
     obtain rfl : ad143 = ad145 := (by injection e145)
     replace hx145_0 := hd_ HB hx145_0
     replace hx145_1 := hd_ HB hx145_1
     replace hx145_2 := hd_ HB hx145_2
     replace p145 := eq_true p145
     replace q145 := eq_true q145
     have p147 : 0 ≤ (x4_1 : Int) := of_decide_eq_true as_
     have q147 : x4_1 < (l0.length : Int) := of_decide_eq_true as_
     obtain ⟨ad147, e147, hx147_0, hx147_1, hx147_2⟩ := at_T39 HR0.out x4_1 p147 q147
     have hw147_2 := hx147_2
     have hw147_1 := hx147_1
     have hw147_0 := hx147_0
     obtain rfl : ad143 = ad147 := (by injection e147)
     replace hx147_0 := hd_ HB hx147_0
     replace hx147_1 := hd_ HB hx147_1
     replace hx147_2 := hd_ HB hx147_2
     replace p147 := eq_true p147
     replace q147 := eq_true q147
     refine start_ (n := 21) (S := fun w' => w'.cell? (ad143.add ((x4_1).toNat * 3)) = some (.int .i64 ((rd_T39 l0 x4_1).f0)) ∧ w'.cell? ⟨(ad143.add ((x4_1).toNat * 3)).block, (ad143.add ((x4_1).toNat * 3)).off + 1, none⟩ = some (.int .i64 ((rd_T39 l0 x4_1).f1)) ∧ w'.cell? ⟨(ad143.add ((x4_1).toNat * 3)).block, (ad143.add ((x4_1).toNat * 3)).off + 2, none⟩ = some (.int .i64 ((rd_T39 l0 x4_1).f2)) ∧ w'.cell? (ad143.add ((x4_1).toNat * 3)) = some (.int .i64 ((rd_T39 l0 x4_1).f0)) ∧ w'.cell? ⟨(ad143.add ((x4_1).toNat * 3)).block, (ad143.add ((x4_1).toNat * 3)).off + 1, none⟩ = some (.int .i64 ((rd_T39 l0 x4_1).f1)) ∧ w'.cell? ⟨(ad143.add ((x4_1).toNat * 3)).block, (ad143.add ((x4_1).toNat * 3)).off + 2, none⟩ = some (.int .i64 ((rd_T39 l0 x4_1).f2))) (ds := []) (mk 21 0) (by kernel_rfl) rfl rfl ⟨(hc_ HB hw145_0), (hc_ HB hw145_1), (hc_ HB hw145_2), (hc_ HB hw147_0), (hc_ HB hw147_1), (hc_ HB hw147_2)⟩ (fun hHeld => ?_); refine with_tabW haberdashlaw22_near.tab6 haberdashlaw22_near.bits6 (fun HT_ HW_ => ?_)
     generalize wc.drew = w11 at HO_3 HB hx145_0 hx145_1 hx145_2 hx147_0 hx147_1 hx147_2 hHeld ⊢
     refine ahead_ [(0, 22), (1, 23), (2, 24), (3, 25), (4, 26), (8, 30), (9, 31), (10, 32), (11, 33), (12, 34), (14, 36), (15, 37)] ?_
     iterate 12 (refine pA_ (v := ?_) (a' := ?_) rfl rfl HT_.out kr_ nh_ (Or.inl ⟨ry_, ?_⟩) ?_ ?_; rotate_left; (intro w'; go_simp; with_reducible rfl); rotate_left; (exact pu_))
     refine aheadE_ (mk 21 57119) (by kernel_rfl) ?_
     refine ahead_ [(5, 27), (13, 35)] ?_
     iterate 2 (refine tA_ (v := ?_) (a' := ?_) rfl rfl HT_.out HW_.out (by kernel_rfl) (fun _ _ _ h => h) (Or.inl ⟨by rfl, ?_⟩) hHeld ?_ ?_; rotate_left; (rintro w' ⟨s0, s1, s2, s3, s4, s5⟩; go_simp; with_reducible rfl); rotate_left; (exact pu_))
     refine aheadE_ (mk 21 65343) (by kernel_rfl) ?_
     refine one_ (i := 6) (N := some 28) (mk 21 65407) rfl rfl (on_ HT_) de_ (fun K hK => ?_)
     refine goes_ Try.func20 (by kernel_rfl) rfl #[.int .i64 ((rd_T39 l0 x4_1).f0), .int .i64 4] (by rfl) rfl rfl am_ ?_
     with_reducible refine (haberdashplay_Mod.calls ((rd_T39 l0 x4_1).f0) 4 t146 _ A8.out).mono ?_
     rintro e w' ⟨rfl, ⟨nd, rfl⟩⟩
     refine ⟨_, rfl, ?_⟩
     refine hK.out _ _ ⟨(hc_ HB hw145_0), (hc_ HB hw145_1), (hc_ HB hw145_2), (hc_ HB hw147_0), (hc_ HB hw147_1), (hc_ HB hw147_2)⟩ (fun hHeld => ?_)
     clear hK K
     refine norm_ (a' := ?_) ?_ ?_
     rotate_left; (show Act.put _ (some 28) _ = _; exact pu_)
     refine pure_ (i := 7) (N := some 29) (v := ?_) (a' := ?_) (mk 21 65535) rfl rfl (an_ HT_) nh_ (Or.inl ⟨ry_, ?_⟩) ?_ ?_
     rotate_left; (intro w'; go_simp; with_reducible rfl)
     rotate_left; (exact pu_)
     refine one_ (i := 16) (N := some 38) (mk 21 131071) rfl rfl (on_ HT_) de_ (fun K hK => ?_)
     refine goes_ Try.func10 (by kernel_rfl) rfl #[.int .i64 ((rd_T39 l0 x4_1).f2), .int .i64 (wrap64 (t144 + 1))] (by rfl) rfl rfl am_ ?_
     with_reducible refine (haberdashplay_Mod64.calls ((rd_T39 l0 x4_1).f2) (wrap64 (t144 + 1)) t148 _ A9.out).mono ?_
     rintro e w' ⟨rfl, ⟨nd, rfl⟩⟩
     refine ⟨_, rfl, ?_⟩
     refine hK.out _ _ ⟨(hc_ HB hw145_0), (hc_ HB hw145_1), (hc_ HB hw145_2), (hc_ HB hw147_0), (hc_ HB hw147_1), (hc_ HB hw147_2)⟩ (fun hHeld => ?_)
     clear hK K
     refine norm_ (a' := ?_) ?_ ?_
     rotate_left; (show Act.put _ (some 38) _ = _; exact pu_)
     refine pure_ (i := 17) (N := some 39) (v := ?_) (a' := ?_) (mk 21 262143) rfl rfl (an_ HT_) nh_ (Or.inl ⟨ry_, ?_⟩) ?_ ?_
     rotate_left; (intro w'; go_simp; with_reducible rfl)
     rotate_left; (exact pu_)
     refine one_ (i := 18) (N := some 40) (mk 21 524287) rfl rfl (on_ HT_) de_ (fun K hK => ?_)
     refine value_ (w1 := ?_) (v := ?_) (by rfl) rfl ?_ ?_
     rotate_left 2
     ·
      go_simp
      constructor
      ·
       rfl
      ·
       rfl
     refine hK.out _ _ ⟨(World.cell?_alloc_lt _ _ _ (World.block_lt_of_cell? _ _ ((hc_ HB hw145_0)))).trans ((hc_ HB hw145_0)), (World.cell?_alloc_lt _ _ _ (World.block_lt_of_cell? _ _ ((hc_ HB hw145_1)))).trans ((hc_ HB hw145_1)), (World.cell?_alloc_lt _ _ _ (World.block_lt_of_cell? _ _ ((hc_ HB hw145_2)))).trans ((hc_ HB hw145_2)), (World.cell?_alloc_lt _ _ _ (World.block_lt_of_cell? _ _ ((hc_ HB hw147_0)))).trans ((hc_ HB hw147_0)), (World.cell?_alloc_lt _ _ _ (World.block_lt_of_cell? _ _ ((hc_ HB hw147_1)))).trans ((hc_ HB hw147_1)), (World.cell?_alloc_lt _ _ _ (World.block_lt_of_cell? _ _ ((hc_ HB hw147_2)))).trans ((hc_ HB hw147_2))⟩ (fun hHeld => ?_)
     clear hK K
     refine norm_ (a' := ?_) ?_ ?_
     rotate_left; (show Act.put _ (some 40) _ = _; exact pu_)
     refine one_ (i := 19) (N := some 41) (mk 21 1048575) rfl rfl (on_ HT_) de_ (fun K hK => ?_)
     refine Kd.R_append_step k39 (w0 := w) w.heap.size (by rfl) (.tmp 22) (.tmp 40) 22 39 (.agg #[(.int .i64 0), (.int .i64 0), (.int .i64 0)]) 24 rfl Try.underlying22 info39 rfl (by decide) (by omega) u3 x3_1 (⟨wrap64 (1 + t146), t144, t148⟩ : S39) [.int .i64 (wrap64 (1 + t146)), .int .i64 t144, .int .i64 t148] (fun _ => True) (fun _ => False) rfl rfl ?aP (fun _ hk => hk.elim) ?aF ?aO ?aB ?aS ?aL ?_
     (case aP => exact k39_mkM _ _ _ (⟨wrap64 (1 + t146), t144, t148⟩ : S39))
     (case aB => exact (hb0_ HB))
     (case aF => exact (fun _ _ => trivial))
     (case aO => exact (ro_ HO_3))
     (case aS => exact (below_size (hb0_ HB)))
     (case aL => have := LMc10.out; omega)
     intro v150 w12 ho hb hg hat
     rw [← Ny149.out] at ho
     have n0_ := Aside0.mk (hb)
     have n1_ := Aside0.mk (ho)
     clear HB
     clear HO_3
     have HB := n0_
     have HO151 := n1_
     clear n0_ n1_
     clear ho hb hg hat
     refine hK.out _ _ ⟨(hc_ HB hw145_0), (hc_ HB hw145_1), (hc_ HB hw145_2), (hc_ HB hw147_0), (hc_ HB hw147_1), (hc_ HB hw147_2)⟩ (fun hHeld => ?_)
     clear hK K
     refine norm_ (a' := ?_) ?_ ?_
     rotate_left; (show Act.put _ (some 41) _ = _; exact pu_)
     refine pure_ (i := 20) (N := some 3) (v := ?_) (a' := ?_) (mk 21 2097151) rfl rfl (an_ HT_) nh_ (Or.inl ⟨ry_, ?_⟩) ?_ ?_
     rotate_left; (intro w'; go_simp; with_reducible rfl)
     rotate_left; (exact pu_)
     refine done_ (done_of HT_.out (by kernel_rfl)) ?_
     try go_wp2
     go_roundg kj1
     case measure => have := HK1.out; have := HJ1.out; omega
     case rel => exact ⟨(y149), (wrap64 (x4_1 + 1)), rf_, H', ⟨by have := HK1.out; have := HJ1.out; omega⟩, ⟨ro_ HO151⟩, ⟨hb0_ HB⟩⟩

/-! ### haberdashlaw22_earlier: function 16 -/
def haberdashlaw22_earlier.l0 : Nat → List (S39) → List Int → Int → Int → Int → Int → Int → Option (Bool)
 | 0, _, _, _, _, _, _, _ => none
 | k + 1, x0, x1, x2, x3, x9, x10, x11 => if x11 ≥ 0 then (if 0 ≤ x11 then (if x11 < (x1.length : Int) then (if 0 ≤ x2 then (if x2 < (x0.length : Int) then (if (rd x1 x11) = ((rd_T39 x0 x2).f0) then (if 0 ≤ x3 then (if x3 < (x0.length : Int) then (if (rd x1 x11) = ((rd_T39 x0 x3).f0) then (haberdashlaw22_earlier.l0 k x0 x1 x2 x3 x11 x11 (wrap64 (x11 - 1))) else (haberdashlaw22_earlier.l0 k x0 x1 x2 x3 x11 x10 (wrap64 (x11 - 1)))) else (none)) else (none)) else (if 0 ≤ x3 then (if x3 < (x0.length : Int) then (if (rd x1 x11) = ((rd_T39 x0 x3).f0) then (haberdashlaw22_earlier.l0 k x0 x1 x2 x3 x9 x11 (wrap64 (x11 - 1))) else (haberdashlaw22_earlier.l0 k x0 x1 x2 x3 x9 x10 (wrap64 (x11 - 1)))) else (none)) else (none))) else (none)) else (none)) else (none)) else (none)) else (if x9 = x10 then (if 0 ≤ x2 then (if x2 < (x0.length : Int) then (if 0 ≤ x3 then (if x3 < (x0.length : Int) then (if ((rd_T39 x0 x2).f0) = ((rd_T39 x0 x3).f0) then (some (decide (x2 < x3))) else (some (decide (((rd_T39 x0 x2).f0) < ((rd_T39 x0 x3).f0))))) else (none)) else (none)) else (none)) else (none)) else (some (decide (x9 < x10))))
def haberdashlaw22_earlier.f (k : Nat) (l0 : List (S39)) (l1 : List Int) (a2 : Int) (a3 : Int) : Option (Bool) := haberdashlaw22_earlier.l0 k l0 l1 a2 a3 (l1.length : Int) (l1.length : Int) (wrap64 ((l1.length : Int) - 1))
set_option maxHeartbeats 8000000 in
set_option maxRecDepth 100000 in
theorem haberdashlaw22_earlier.calls (k : Nat) (A0 : Option Addr) (c0 : Nat) (l0 : List (S39)) (A1 : Option Addr) (c1 : Nat) (l1 : List Int) (a2 : Int) (a3 : Int) (r : Bool) (w : World) (hr0 : Kd.C k39 w A0 l0.length l0) (hc0 : l0.length ≤ c0) (hr1 : Kd.C (Kd.int .i64) w A1 l1.length l1) (hc1 : l1.length ≤ c1) (h : haberdashlaw22_earlier.f k l0 l1 a2 a3 = some r) :
 Calls Try.prog 16 #[.slice A0 l0.length c0, .slice A1 l1.length c1, .int .i64 a2, .int .i64 a3] w fun e w' => e = .returned (.bool r) ∧ Drawn0 w w' := by
 have HR0 := Aside0.mk hr0
 have HC0 := Aside0.mk hc0
 clear hr0 hc0
 have HR1 := Aside0.mk hr1
 have HC1 := Aside0.mk hc1
 clear hr1 hc1
 have H : (haberdashlaw22_earlier.l0 k l0 l1 a2 a3 (l1.length : Int) (l1.length : Int) (wrap64 ((l1.length : Int) - 1))) = some r := h
 clear h
 have H' := Aside0.mk H
 clear H
 go_enter Try.func16, Try.ntmps16
 go_wp2
 repeat (go_quiet (fail); try go_wp2)
 go_loopg [9, 10, 11] k (fun kq v9 v10 v11 w' => ∃ (x9_1 : Int) (x10_1 : Int) (x11_1 : Int), v9 = .int .i64 x9_1 ∧ v10 = .int .i64 x10_1 ∧ v11 = .int .i64 x11_1 ∧ Aside0 (haberdashlaw22_earlier.l0 kq l0 l1 a2 a3 x9_1 x10_1 x11_1 = some r) ∧ Aside0 (kq ≤ k) ∧ Drawn0 w w')
 case atStart => exact ⟨((l1.length : Int)), ((l1.length : Int)), (wrap64 ((l1.length : Int) - 1)), rf_, rf_, rf_, H', ⟨Nat.le_refl _⟩, by repeat (first | exact Drawn0.refl _ | apply Drawn0.step)⟩
 case round =>
  clear H'
  try clear c1
  try clear p2
  obtain ⟨x9_1, x10_1, x11_1, rfl, rfl, rfl, HA, HK1, ⟨m1, rfl⟩⟩ := hrel
  cases gk with
  | zero => exact absurd HA.out (by simp [haberdashlaw22_earlier.l0])
  | succ k1 =>
   have H := HA.out
   clear HA
   simp only [haberdashlaw22_earlier.l0] at H
   by_cases c5 : x11_1 ≥ 0
   rotate_left
   ·
    rw [if_neg c5] at H
    have c5b0 := decide_eq_false c5
    clear c5
    by_cases c17 : x9_1 = x10_1
    rotate_left
    ·
     rw [if_neg c17] at H
     have c17b0 : (x9_1 == x10_1) = false := beq_eq_false_iff_ne.mpr c17
     have c17b1 : (x9_1 != x10_1) = true := bne_iff_ne.mpr c17
     obtain rfl := Option.some.inj H
     go_wp2
     repeat (go_quiet (fail); try go_wp2)
     go_ret
     exact ⟨by first | rfl | (simp; done) | (simp [*]; done), by repeat (first | exact Drawn0.refl _ | apply Drawn0.step)⟩
    rw [if_pos c17] at H
    have c17b0 : (x9_1 == x10_1) = true := beq_iff_eq.mpr c17
    have c17b1 : (x9_1 != x10_1) = false := bne_eq_false_iff_eq.mpr c17
    clear c17
    by_cases c18 : 0 ≤ a2
    rotate_left
    ·
     rw [if_neg c18] at H
     exact absurd H (by simp)
    rw [if_pos c18] at H
    have c18b0 := decide_eq_true c18
    clear c18
    by_cases c19 : a2 < (l0.length : Int)
    rotate_left
    ·
     rw [if_neg c19] at H
     exact absurd H (by simp)
    rw [if_pos c19] at H
    have c19b0 := decide_eq_true c19
    clear c19
    by_cases c20 : 0 ≤ a3
    rotate_left
    ·
     rw [if_neg c20] at H
     exact absurd H (by simp)
    rw [if_pos c20] at H
    have c20b0 := decide_eq_true c20
    clear c20
    by_cases c21 : a3 < (l0.length : Int)
    rotate_left
    ·
     rw [if_neg c21] at H
     exact absurd H (by simp)
    rw [if_pos c21] at H
    have c21b0 := decide_eq_true c21
    clear c21
    by_cases c22 : ((rd_T39 l0 a2).f0) = ((rd_T39 l0 a3).f0)
    ·
     rw [if_pos c22] at H
     have c22b0 : (((rd_T39 l0 a2).f0) == ((rd_T39 l0 a3).f0)) = true := beq_iff_eq.mpr c22
     have c22b1 : (((rd_T39 l0 a2).f0) != ((rd_T39 l0 a3).f0)) = false := bne_eq_false_iff_eq.mpr c22
     clear c22
     obtain rfl := Option.some.inj H
     have p226 : 0 ≤ (a2 : Int) := of_decide_eq_true as_
     have q226 : a2 < (l0.length : Int) := of_decide_eq_true as_
     obtain ⟨ad226, e226, hx226_0, hx226_1, hx226_2⟩ := at_T39 HR0.out a2 p226 q226
     cases e226
     replace p226 := eq_true p226
     replace q226 := eq_true q226
     have p227 : 0 ≤ (a3 : Int) := of_decide_eq_true as_
     have q227 : a3 < (l0.length : Int) := of_decide_eq_true as_
     obtain ⟨ad227, e227, hx227_0, hx227_1, hx227_2⟩ := at_T39 HR0.out a3 p227 q227
     obtain rfl : ad226 = ad227 := (by injection e227)
     replace p227 := eq_true p227
     replace q227 := eq_true q227
     go_wp2
     repeat (go_quiet (fail); try go_wp2)
     go_ret
     exact ⟨by first | rfl | (simp; done) | (simp [*]; done), by repeat (first | exact Drawn0.refl _ | apply Drawn0.step)⟩
    rw [if_neg c22] at H
    have c22b0 : (((rd_T39 l0 a2).f0) == ((rd_T39 l0 a3).f0)) = false := beq_eq_false_iff_ne.mpr c22
    have c22b1 : (((rd_T39 l0 a2).f0) != ((rd_T39 l0 a3).f0)) = true := bne_iff_ne.mpr c22
    obtain rfl := Option.some.inj H
    have p226 : 0 ≤ (a2 : Int) := of_decide_eq_true as_
    have q226 : a2 < (l0.length : Int) := of_decide_eq_true as_
    obtain ⟨ad226, e226, hx226_0, hx226_1, hx226_2⟩ := at_T39 HR0.out a2 p226 q226
    cases e226
    replace p226 := eq_true p226
    replace q226 := eq_true q226
    have p227 : 0 ≤ (a3 : Int) := of_decide_eq_true as_
    have q227 : a3 < (l0.length : Int) := of_decide_eq_true as_
    obtain ⟨ad227, e227, hx227_0, hx227_1, hx227_2⟩ := at_T39 HR0.out a3 p227 q227
    obtain rfl : ad226 = ad227 := (by injection e227)
    replace p227 := eq_true p227
    replace q227 := eq_true q227
    have p228 : 0 ≤ (a2 : Int) := of_decide_eq_true as_
    have q228 : a2 < (l0.length : Int) := of_decide_eq_true as_
    obtain ⟨ad228, e228, hx228_0, hx228_1, hx228_2⟩ := at_T39 HR0.out a2 p228 q228
    obtain rfl : ad226 = ad228 := (by injection e228)
    replace p228 := eq_true p228
    replace q228 := eq_true q228
    have p229 : 0 ≤ (a3 : Int) := of_decide_eq_true as_
    have q229 : a3 < (l0.length : Int) := of_decide_eq_true as_
    obtain ⟨ad229, e229, hx229_0, hx229_1, hx229_2⟩ := at_T39 HR0.out a3 p229 q229
    obtain rfl : ad226 = ad229 := (by injection e229)
    replace p229 := eq_true p229
    replace q229 := eq_true q229
    go_wp2
    repeat (go_quiet (fail); try go_wp2)
    go_ret
    exact ⟨by first | rfl | (simp; done) | (simp [*]; done), by repeat (first | exact Drawn0.refl _ | apply Drawn0.step)⟩
   rw [if_pos c5] at H
   have c5b0 := decide_eq_true c5
   clear c5
   by_cases c6 : 0 ≤ x11_1
   rotate_left
   ·
    rw [if_neg c6] at H
    exact absurd H (by simp)
   rw [if_pos c6] at H
   have c6b0 := decide_eq_true c6
   clear c6
   by_cases c7 : x11_1 < (l1.length : Int)
   rotate_left
   ·
    rw [if_neg c7] at H
    exact absurd H (by simp)
   rw [if_pos c7] at H
   have c7b0 := decide_eq_true c7
   clear c7
   by_cases c8 : 0 ≤ a2
   rotate_left
   ·
    rw [if_neg c8] at H
    exact absurd H (by simp)
   rw [if_pos c8] at H
   have c8b0 := decide_eq_true c8
   clear c8
   by_cases c9 : a2 < (l0.length : Int)
   rotate_left
   ·
    rw [if_neg c9] at H
    exact absurd H (by simp)
   rw [if_pos c9] at H
   have c9b0 := decide_eq_true c9
   clear c9
   by_cases c10 : (rd l1 x11_1) = ((rd_T39 l0 a2).f0)
   rotate_left
   ·
    rw [if_neg c10] at H
    have c10b0 : ((rd l1 x11_1) == ((rd_T39 l0 a2).f0)) = false := beq_eq_false_iff_ne.mpr c10
    have c10b1 : ((rd l1 x11_1) != ((rd_T39 l0 a2).f0)) = true := bne_iff_ne.mpr c10
    by_cases c14 : 0 ≤ a3
    rotate_left
    ·
     rw [if_neg c14] at H
     exact absurd H (by simp)
    rw [if_pos c14] at H
    have c14b0 := decide_eq_true c14
    clear c14
    by_cases c15 : a3 < (l0.length : Int)
    rotate_left
    ·
     rw [if_neg c15] at H
     exact absurd H (by simp)
    rw [if_pos c15] at H
    have c15b0 := decide_eq_true c15
    clear c15
    by_cases c16 : (rd l1 x11_1) = ((rd_T39 l0 a3).f0)
    rotate_left
    ·
     rw [if_neg c16] at H
     have c16b0 : ((rd l1 x11_1) == ((rd_T39 l0 a3).f0)) = false := beq_eq_false_iff_ne.mpr c16
     have c16b1 : ((rd l1 x11_1) != ((rd_T39 l0 a3).f0)) = true := bne_iff_ne.mpr c16
     have H' := Aside0.mk H
     clear H
     have p220 : 0 ≤ (x11_1 : Int) := of_decide_eq_true as_
     have q220 : x11_1 < (l1.length : Int) := of_decide_eq_true as_
     obtain ⟨ad220, e220, hx220_0⟩ := Kd.at_int HR1.out x11_1 p220 q220
     cases e220
     replace p220 := eq_true p220
     replace q220 := eq_true q220
     have p221 : 0 ≤ (a2 : Int) := of_decide_eq_true as_
     have q221 : a2 < (l0.length : Int) := of_decide_eq_true as_
     obtain ⟨ad221, e221, hx221_0, hx221_1, hx221_2⟩ := at_T39 HR0.out a2 p221 q221
     cases e221
     replace p221 := eq_true p221
     replace q221 := eq_true q221
     have p224 : 0 ≤ (x11_1 : Int) := of_decide_eq_true as_
     have q224 : x11_1 < (l1.length : Int) := of_decide_eq_true as_
     obtain ⟨ad224, e224, hx224_0⟩ := Kd.at_int HR1.out x11_1 p224 q224
     obtain rfl : ad220 = ad224 := (by injection e224)
     replace p224 := eq_true p224
     replace q224 := eq_true q224
     have p225 : 0 ≤ (a3 : Int) := of_decide_eq_true as_
     have q225 : a3 < (l0.length : Int) := of_decide_eq_true as_
     obtain ⟨ad225, e225, hx225_0, hx225_1, hx225_2⟩ := at_T39 HR0.out a3 p225 q225
     obtain rfl : ad221 = ad225 := (by injection e225)
     replace p225 := eq_true p225
     replace q225 := eq_true q225
     go_wp2
     repeat (go_quiet (fail); try go_wp2)
     go_roundg k1
     case measure => have := HK1.out; omega
     case rel => exact ⟨(x9_1), (x10_1), (wrap64 (x11_1 - 1)), rf_, rf_, rf_, H', ⟨by have := HK1.out; omega⟩, by repeat (first | exact Drawn0.refl _ | apply Drawn0.step)⟩
    rw [if_pos c16] at H
    have c16b0 : ((rd l1 x11_1) == ((rd_T39 l0 a3).f0)) = true := beq_iff_eq.mpr c16
    have c16b1 : ((rd l1 x11_1) != ((rd_T39 l0 a3).f0)) = false := bne_eq_false_iff_eq.mpr c16
    clear c16
    have H' := Aside0.mk H
    clear H
    have p220 : 0 ≤ (x11_1 : Int) := of_decide_eq_true as_
    have q220 : x11_1 < (l1.length : Int) := of_decide_eq_true as_
    obtain ⟨ad220, e220, hx220_0⟩ := Kd.at_int HR1.out x11_1 p220 q220
    cases e220
    replace p220 := eq_true p220
    replace q220 := eq_true q220
    have p221 : 0 ≤ (a2 : Int) := of_decide_eq_true as_
    have q221 : a2 < (l0.length : Int) := of_decide_eq_true as_
    obtain ⟨ad221, e221, hx221_0, hx221_1, hx221_2⟩ := at_T39 HR0.out a2 p221 q221
    cases e221
    replace p221 := eq_true p221
    replace q221 := eq_true q221
    have p224 : 0 ≤ (x11_1 : Int) := of_decide_eq_true as_
    have q224 : x11_1 < (l1.length : Int) := of_decide_eq_true as_
    obtain ⟨ad224, e224, hx224_0⟩ := Kd.at_int HR1.out x11_1 p224 q224
    obtain rfl : ad220 = ad224 := (by injection e224)
    replace p224 := eq_true p224
    replace q224 := eq_true q224
    have p225 : 0 ≤ (a3 : Int) := of_decide_eq_true as_
    have q225 : a3 < (l0.length : Int) := of_decide_eq_true as_
    obtain ⟨ad225, e225, hx225_0, hx225_1, hx225_2⟩ := at_T39 HR0.out a3 p225 q225
    obtain rfl : ad221 = ad225 := (by injection e225)
    replace p225 := eq_true p225
    replace q225 := eq_true q225
    go_wp2
    repeat (go_quiet (fail); try go_wp2)
    go_roundg k1
    case measure => have := HK1.out; omega
    case rel => exact ⟨(x9_1), (x11_1), (wrap64 (x11_1 - 1)), rf_, rf_, rf_, H', ⟨by have := HK1.out; omega⟩, by repeat (first | exact Drawn0.refl _ | apply Drawn0.step)⟩
   rw [if_pos c10] at H
   have c10b0 : ((rd l1 x11_1) == ((rd_T39 l0 a2).f0)) = true := beq_iff_eq.mpr c10
   have c10b1 : ((rd l1 x11_1) != ((rd_T39 l0 a2).f0)) = false := bne_eq_false_iff_eq.mpr c10
   clear c10
   by_cases c11 : 0 ≤ a3
   rotate_left
   ·
    rw [if_neg c11] at H
    exact absurd H (by simp)
   rw [if_pos c11] at H
   have c11b0 := decide_eq_true c11
   clear c11
   by_cases c12 : a3 < (l0.length : Int)
   rotate_left
   ·
    rw [if_neg c12] at H
    exact absurd H (by simp)
   rw [if_pos c12] at H
   have c12b0 := decide_eq_true c12
   clear c12
   by_cases c13 : (rd l1 x11_1) = ((rd_T39 l0 a3).f0)
   rotate_left
   ·
    rw [if_neg c13] at H
    have c13b0 : ((rd l1 x11_1) == ((rd_T39 l0 a3).f0)) = false := beq_eq_false_iff_ne.mpr c13
    have c13b1 : ((rd l1 x11_1) != ((rd_T39 l0 a3).f0)) = true := bne_iff_ne.mpr c13
    have H' := Aside0.mk H
    clear H
    have p220 : 0 ≤ (x11_1 : Int) := of_decide_eq_true as_
    have q220 : x11_1 < (l1.length : Int) := of_decide_eq_true as_
    obtain ⟨ad220, e220, hx220_0⟩ := Kd.at_int HR1.out x11_1 p220 q220
    cases e220
    replace p220 := eq_true p220
    replace q220 := eq_true q220
    have p221 : 0 ≤ (a2 : Int) := of_decide_eq_true as_
    have q221 : a2 < (l0.length : Int) := of_decide_eq_true as_
    obtain ⟨ad221, e221, hx221_0, hx221_1, hx221_2⟩ := at_T39 HR0.out a2 p221 q221
    cases e221
    replace p221 := eq_true p221
    replace q221 := eq_true q221
    have p222 : 0 ≤ (x11_1 : Int) := of_decide_eq_true as_
    have q222 : x11_1 < (l1.length : Int) := of_decide_eq_true as_
    obtain ⟨ad222, e222, hx222_0⟩ := Kd.at_int HR1.out x11_1 p222 q222
    obtain rfl : ad220 = ad222 := (by injection e222)
    replace p222 := eq_true p222
    replace q222 := eq_true q222
    have p223 : 0 ≤ (a3 : Int) := of_decide_eq_true as_
    have q223 : a3 < (l0.length : Int) := of_decide_eq_true as_
    obtain ⟨ad223, e223, hx223_0, hx223_1, hx223_2⟩ := at_T39 HR0.out a3 p223 q223
    obtain rfl : ad221 = ad223 := (by injection e223)
    replace p223 := eq_true p223
    replace q223 := eq_true q223
    go_wp2
    repeat (go_quiet (fail); try go_wp2)
    go_roundg k1
    case measure => have := HK1.out; omega
    case rel => exact ⟨(x11_1), (x10_1), (wrap64 (x11_1 - 1)), rf_, rf_, rf_, H', ⟨by have := HK1.out; omega⟩, by repeat (first | exact Drawn0.refl _ | apply Drawn0.step)⟩
   rw [if_pos c13] at H
   have c13b0 : ((rd l1 x11_1) == ((rd_T39 l0 a3).f0)) = true := beq_iff_eq.mpr c13
   have c13b1 : ((rd l1 x11_1) != ((rd_T39 l0 a3).f0)) = false := bne_eq_false_iff_eq.mpr c13
   clear c13
   have H' := Aside0.mk H
   clear H
   have p220 : 0 ≤ (x11_1 : Int) := of_decide_eq_true as_
   have q220 : x11_1 < (l1.length : Int) := of_decide_eq_true as_
   obtain ⟨ad220, e220, hx220_0⟩ := Kd.at_int HR1.out x11_1 p220 q220
   cases e220
   replace p220 := eq_true p220
   replace q220 := eq_true q220
   have p221 : 0 ≤ (a2 : Int) := of_decide_eq_true as_
   have q221 : a2 < (l0.length : Int) := of_decide_eq_true as_
   obtain ⟨ad221, e221, hx221_0, hx221_1, hx221_2⟩ := at_T39 HR0.out a2 p221 q221
   cases e221
   replace p221 := eq_true p221
   replace q221 := eq_true q221
   have p222 : 0 ≤ (x11_1 : Int) := of_decide_eq_true as_
   have q222 : x11_1 < (l1.length : Int) := of_decide_eq_true as_
   obtain ⟨ad222, e222, hx222_0⟩ := Kd.at_int HR1.out x11_1 p222 q222
   obtain rfl : ad220 = ad222 := (by injection e222)
   replace p222 := eq_true p222
   replace q222 := eq_true q222
   have p223 : 0 ≤ (a3 : Int) := of_decide_eq_true as_
   have q223 : a3 < (l0.length : Int) := of_decide_eq_true as_
   obtain ⟨ad223, e223, hx223_0, hx223_1, hx223_2⟩ := at_T39 HR0.out a3 p223 q223
   obtain rfl : ad221 = ad223 := (by injection e223)
   replace p223 := eq_true p223
   replace q223 := eq_true q223
   go_wp2
   repeat (go_quiet (fail); try go_wp2)
   go_roundg k1
   case measure => have := HK1.out; omega
   case rel => exact ⟨(x11_1), (x11_1), (wrap64 (x11_1 - 1)), rf_, rf_, rf_, H', ⟨by have := HK1.out; omega⟩, by repeat (first | exact Drawn0.refl _ | apply Drawn0.step)⟩

end Go.Proofs.Ytebochcdbknodaa.Rw
