/- Functions of the program as Lean functions, each with its contract: out of what the kit's printer wrote for this seat. -/
import Derived.Test.YtgfhjamaabaleaaVRwA
import Derived.Test.YtgfhjamaabaleaaVRwAb
namespace Go.Proofs.Ytgfhjamaabaleaa.Rw
open Go.RowKit Go.Proofs.YtgfhjamaabaleaaW.PrintWords Go.Proofs.YtgfhjamaabaleaaW.PrintLast Go.Proofs.YtgfhjamaabaleaaW.PrintMore
attribute [local go_sem] max2_int min2_int max_two min_two max_three min_three max_four min_four   -- for this text's walks alone
set_option linter.unusedVariables false
set_option linter.unusedSimpArgs false
attribute [local go_sem high] leqS gtrS

/-! ### api_CatRate_41: function 41 -/
def api_CatRate_41.f (l0 : List (S39)) : Option ((List (S39))) := (some (([] : List (S39)) : List (S39))).bind fun y101 => (if y101.length + l0.length < 5864062014805 then (some (y101 ++ l0)) else (none))
set_option maxHeartbeats 8000000 in
set_option maxRecDepth 100000 in
theorem api_CatRate_41.calls (A0 : Option Addr) (c0 : Nat) (l0 : List (S39)) (r : List (S39)) (w : World) (hr0 : Kd.C k39 w A0 l0.length l0) (hc0 : l0.length ≤ c0) (h : api_CatRate_41.f l0 = some r) :
 Calls Try.prog 41 #[.slice A0 l0.length c0] w fun e w' => ∃ v0_ : Value, e = .returned (v0_) ∧ Kd.R k39 39 w' w.heap.size (fun _ => True) v0_ r ∧ Below w.heap.size w w' := by
 have HR0 := Aside0.mk hr0
 have HC0 := Aside0.mk hc0
 clear hr0 hc0
 have HB := Aside0.mk (Below.refl w.heap.size w)
 have H : ((some (([] : List (S39)) : List (S39))).bind fun y101 => (if y101.length + l0.length < 5864062014805 then (some (y101 ++ l0)) else (none))) = some r := h
 clear h
 obtain ⟨y101, hy101⟩ : ∃ y_ : List (S39), y_ = (([] : List (S39))) := ⟨_, rfl⟩
 replace H : (if y101.length + l0.length < 5864062014805 then (some (y101 ++ l0)) else (none)) = some r := hy_ hy101 H
 have Ny101 := Aside0.mk hy101
 clear hy101
 replace H := ip_ H
 obtain ⟨c2, H⟩ := H
 have LMc2 := Aside0.mk c2
 clear c2
 obtain ⟨y104, hy104⟩ : ∃ y_ : List (S39), y_ = (y101 ++ l0) := ⟨_, rfl⟩
 replace H : (some y104) = some r := hy_ hy104 H
 have Ny104 := Aside0.mk hy104
 clear hy104
 obtain rfl := Option.some.inj H
 have he_ := fun W => Lib.run_eql_slice_nil (P := Try.prog) W 26 39 A0 l0.length c0 0 0 Try.underlying26
 rcases A0 with _ | ad_
 ·
  simp only [Option.isNone] at he_
  have h0_ : l0 = [] := by
   rcases Nat.eq_zero_or_pos l0.length with h | h
   ·
    exact List.eq_nil_of_length_eq_zero h
   ·
    obtain ⟨_, h2, _⟩ := HR0.out.2.2 h; cases h2
  have H0_ := Aside0.mk h0_; clear h0_
  go_enter Try.func41, Try.ntmps41
  go_wp2
  go_ret
  exact ⟨_, rfl, by rw [Ny104.out, Ny101.out, H0_.out]; exact Kd.R_nil _ _ _ _ _, HB.out⟩
 ·
  simp only [Option.isNone] at he_
  go_enter Try.func41, Try.ntmps41
  go_wp2_with (first | ((with_reducible refine gate_dst (N := 5) rfl ?_); refine Kd.R_lit k39 _ 39 rf_ (N := 5) rf_ (xs := ([] : List (S39))) (inner := []) (ok := fun _ => True) (okp := fun _ => True) lr_ ?hp (fun _ hk => hk) trivial (Below.refl _ _) (Nat.le_refl _) (by simp) ?_; (case hp => exact (Reps.none _ _)); intro v102 w3 ho4 hb hg_ hnew_; clear hg_ hnew_; (first | rw [← Ny101.out] at ho4 | (simp only [Int.reduceToNat] at ho4; rw [← Ny101.out] at ho4)); have HO103 := Aside0.mk (Kd.R_lower ho4 (below_size (hb0_ HB))); replace HB := Aside0.mk (below_step (hb0_ HB) hb); clear hb ho4) | ((with_reducible refine gate_builtin (b := .append) (xs := #[.tmp 5, .tmp 6]) rfl ?_); at_builtin; refine Kd.R_append_rows k39 (w0 := w) w.heap.size rfl (.tmp 5) (.tmp 6) 26 39 (.agg #[(.string ⟨#[]⟩), (.int .i64 0)]) 24 rfl Try.underlying26 info39 rfl (by decide) (by omega) v102 y101 l0 _ _ _ (fun _ => True) (fun _ => False) rfl rfl ?aO ?aR (fun _ _ h => h) (fun _ h => h.elim) ?aF ?aB ?aS ?aL ?_; (case aR => exact sc_ (Kd.C_below HR0.out HB.out)); (case aB => exact (hb0_ HB)); (case aF => exact (fun _ _ => trivial)); (case aO => exact (ro_ HO103)); (case aS => exact (below_size (hb0_ HB))); (case aL => have := LMc2.out; omega); intro v105 w5 ho hb hg hat; rw [← Ny104.out] at ho; have n0_ := Aside0.mk hb; have n1_ := Aside0.mk ho; clear HB; clear HO103; have HB := n0_; have HO106 := n1_; clear n0_ n1_; clear ho hb hg hat))
  go_ret
  exact ⟨_, er_, ro_ HO106, hb0_ HB⟩

/-! ### rules_cloneZone: function 19 -/
def rules_cloneZone.f (a0_0 : ByteArray) (l0_1 : List (S39)) (a0_2 : Int) (a0_3 : Int) : Option (ByteArray × (List (S39)) × Int × Int) := (api_CatRate_41.f l0_1).bind fun t109 => (some (a0_0, t109, a0_2, a0_3))
set_option maxHeartbeats 8000000 in
set_option maxRecDepth 100000 in
theorem rules_cloneZone.calls (a0_0 : ByteArray) (A0_1 : Option Addr) (c0_1 : Nat) (l0_1 : List (S39)) (a0_2 : Int) (a0_3 : Int) (r1 : ByteArray) (r2 : List (S39)) (r3 : Int) (r4 : Int) (w : World) (hr0_1 : Kd.C k39 w A0_1 l0_1.length l0_1) (hc0_1 : l0_1.length ≤ c0_1) (h : rules_cloneZone.f a0_0 l0_1 a0_2 a0_3 = some (r1, r2, r3, r4)) :
 Calls Try.prog 19 #[.agg #[.string a0_0, .slice A0_1 l0_1.length c0_1, .int .i64 a0_2, .int .i64 a0_3]] w fun e w' => ∃ v1_ : Value, e = .returned (.agg #[.string r1, v1_, .int .i64 r3, .int .i64 r4]) ∧ Kd.R k39 39 w' w.heap.size (fun _ => True) v1_ r2 ∧ Below w.heap.size w w' := by
 have hu28 := Try.underlying28
 have HR0_1 := Aside0.mk hr0_1
 have HC0_1 := Aside0.mk hc0_1
 clear hr0_1 hc0_1
 have HB := Aside0.mk (Below.refl w.heap.size w)
 have H : ((api_CatRate_41.f l0_1).bind fun t109 => (some (a0_0, t109, a0_2, a0_3))) = some (r1, r2, r3, r4) := h
 clear h
 replace H := Option.bind_eq_some_iff.mp H
 obtain ⟨t109, A20, H⟩ := H
 replace H : (some (a0_0, t109, a0_2, a0_3)) = some (r1, r2, r3, r4) := H
 have A2 := Aside0.mk A20
 clear A20
 simp only [Option.some.injEq, Prod.mk.injEq] at H
 obtain ⟨rfl, rfl, rfl, rfl⟩ := H
 go_enter Try.func19, Try.ntmps19
 go_wp2_with (first | ((with_reducible refine gate_dst (N := 1) rfl ?_); refine box_event rf_ (N := 1) rf_ (cs := #[.string a0_0, .slice A0_1 l0_1.length c0_1, .int .i64 a0_2, .int .i64 a0_3]) (t := 28) lr_ ?_; intro gb107 hg w3 hbox hb; have BK107 := Aside0.mk hbox; have GE107 := Aside0.mk (ge_ HB hg (hb0_ HB)); replace HB := Aside0.mk (below_step (hb0_ HB) hb); clear hb hbox hg) | ((with_reducible refine gate_dst (N := 2) rfl ?_); refine box_event rf_ (N := 2) rf_ (cs := #[.string (⟨#[]⟩ : ByteArray), .slice none 0 0, .int .i64 0, .int .i64 0]) (t := 28) lr_ ?_; intro gb108 hg w4 hbox hb; have BK108 := Aside0.mk hbox; have GE108 := Aside0.mk (ge_ HB hg (hb1_ HB GE107)); replace HB := Aside0.mk (below_step (hb1_ HB GE107) hb); have NB107_108 := Aside0.mk (nl_ BK107 hg); have NB108_107 := Aside0.mk (ng_ BK107 hg); replace BK107 := Aside0.mk (bb_ BK107 hb); clear hb hbox hg; have hnb5 := NB107_108.out; have hnc5 := NB108_107.out; obtain ⟨hcz6_0, hcz6_1, hcz6_2, hcz6_3⟩ := cz4_ BK107; obtain ⟨hfz6_0, hfz6_1, hfz6_2, hfz6_3⟩ := fz4_ BK107) | (refine gl_ 41 5 Try.func41 #[.slice A0_1 l0_1.length c0_1] ?_; (with_reducible refine (api_CatRate_41.calls _ _ l0_1 t109 _ ?side1 ?side2 A2.out).mono ?_); (case side1 => exact sc_ (Kd.C_below HR0_1.out HB.out)); (case side2 => exact HC0_1.out); rintro e w7 ⟨v110, rfl, ho0, hb⟩; refine ⟨_, rfl, ?_⟩; have HO111 := Aside0.mk (Kd.R_lower ho0 (below_size (hb2_ HB GE107 GE108))); replace BK107 := Aside0.mk (bb_ BK107 hb); replace BK108 := Aside0.mk (bb_ BK108 hb); replace HB := Aside0.mk (below_step (hb2_ HB GE107 GE108) hb); (try clear hb); (try clear ho0); obtain ⟨Ao8, co8, eo8⟩ := Kd.R_slice HO111.out; subst eo8; obtain ⟨hcz9_0, hcz9_1, hcz9_2, hcz9_3⟩ := cz4_ BK107; obtain ⟨hfz9_0, hfz9_1, hfz9_2, hfz9_3⟩ := fz4_ BK107; obtain ⟨hcz10_0, hcz10_1, hcz10_2, hcz10_3⟩ := cz4_ BK108; obtain ⟨hfz10_0, hfz10_1, hfz10_2, hfz10_3⟩ := fz4_ BK108))
 refine bodyPost_ret (results_cell_row rfl _ _ gb108 28 #[.string a0_0, .slice Ao8 t109.length co8, .int .i64 a0_2, .int .i64 a0_3] (0, 0) _ rfl (bq1_ BK108 NB108_107) Try.underlying28 rfl (by kernel_rfl)) rfl ?_
 exact ⟨_, er_, rf2_ HO111 BK107 BK108, hb2_ HB GE107 GE108⟩

/-! ### rules_Zone: function 9 -/
def rules_Zone.l0 : Nat → ByteArray → List (S28) → Int → Int → Option (ByteArray × (List (S39)) × Int × Int × Bool)
 | 0, _, _, _, _ => none
 | k + 1, x1, x9, x10, x11 => if x11 < x10 then (if 0 ≤ x11 then (if x11 < (x9.length : Int) then (if ((rd_T28 x9 x11).f0).toList = x1.toList then ((rules_cloneZone.f ((rd_T28 x9 x11).f0) ((rd_T28 x9 x11).f1) ((rd_T28 x9 x11).f2) ((rd_T28 x9 x11).f3)).bind fun bt116 => (some (bt116.1, bt116.2.1, bt116.2.2.1, bt116.2.2.2, true))) else (rules_Zone.l0 k x1 x9 x10 (wrap64 (x11 + 1)))) else (none)) else (none)) else (some ((⟨#[]⟩ : ByteArray), ([] : List (S39)), 0, 0, false))
def rules_Zone.f (k : Nat) (a0_0 : Bool) (a0_1 : Bool) (a0_2 : Int) (l0_3 : List (S28)) (a1 : ByteArray) : Option (ByteArray × (List (S39)) × Int × Int × Bool) := rules_Zone.l0 k a1 l0_3 (l0_3.length : Int) 0
theorem rules_Zone.mono_l : ∀ k, (∀ y0 y1 y2 y3, LeO (rules_Zone.l0 k y0 y1 y2 y3) (rules_Zone.l0 (k + 1) y0 y1 y2 y3))
 | 0 => fun _ _ _ _ r h => by simp [rules_Zone.l0] at h
 | k + 1 => by
  have ih0 := rules_Zone.mono_l k
  intros; unfold rules_Zone.l0; with_reducible repeat' first | exact ih0 .. | exact lo_ | refine LeO.ite ?_ ?_ | refine LeO.bind ?_ (fun _ => ?_)
theorem rules_Zone.mono : ∀ a0 a1 a2 a3 a4 k, LeO (rules_Zone.f k a0 a1 a2 a3 a4) (rules_Zone.f (k + 1) a0 a1 a2 a3 a4) := by
 intro a0 a1 a2 a3 a4 k
 have ih0 := rules_Zone.mono_l k
 unfold rules_Zone.f
 with_reducible repeat' first | exact ih0 .. | exact lo_ | refine LeO.ite ?_ ?_ | refine LeO.bind ?_ (fun _ => ?_)
set_option maxHeartbeats 8000000 in
set_option maxRecDepth 100000 in
theorem rules_Zone.calls (k : Nat) (a0_0 : Bool) (a0_1 : Bool) (a0_2 : Int) (A0_3 : Option Addr) (c0_3 : Nat) (l0_3 : List (S28)) (a1 : ByteArray) (r1 : ByteArray) (r2 : List (S39)) (r3 : Int) (r4 : Int) (r5 : Bool) (w : World) (hr0_3 : Kd.C k28 w A0_3 l0_3.length l0_3) (hc0_3 : l0_3.length ≤ c0_3) (h : rules_Zone.f k a0_0 a0_1 a0_2 l0_3 a1 = some (r1, r2, r3, r4, r5)) :
 Calls Try.prog 9 #[.agg #[.bool a0_0, .bool a0_1, .int .i64 a0_2, .slice A0_3 l0_3.length c0_3], .string a1] w fun e w' => ∃ v1_ : Value, e = .returned (.tuple #[.agg #[.string r1, v1_, .int .i64 r3, .int .i64 r4], .bool r5]) ∧ Kd.R k39 39 w' w.heap.size (fun _ => True) v1_ r2 ∧ Below w.heap.size w w' := by
 have hu24 := Try.underlying24
 have hu28 := Try.underlying28
 have HR0_3 := Aside0.mk hr0_3
 have HC0_3 := Aside0.mk hc0_3
 clear hr0_3 hc0_3
 have HB := Aside0.mk (Below.refl w.heap.size w)
 have H : (rules_Zone.l0 k a1 l0_3 (l0_3.length : Int) 0) = some (r1, r2, r3, r4, r5) := h
 clear h
 have H' := Aside0.mk H
 clear H
 go_enter Try.func9, Try.ntmps9
 go_wp2_with (first | ((with_reducible refine gate_dst (N := 2) rfl ?_); refine box_event rf_ (N := 2) rf_ (cs := #[.bool a0_0, .bool a0_1, .int .i64 a0_2, .slice A0_3 l0_3.length c0_3]) (t := 24) lr_ ?_; intro gb112 hg w3 hbox hb; have BK112 := Aside0.mk hbox; have GE112 := Aside0.mk (ge_ HB hg (hb0_ HB)); replace HB := Aside0.mk (below_step (hb0_ HB) hb); clear hb hbox hg) | ((with_reducible refine gate_dst (N := 4) rfl ?_); refine box_event rf_ (N := 4) rf_ (cs := #[.string (⟨#[]⟩ : ByteArray), .slice none 0 0, .int .i64 0, .int .i64 0]) (t := 28) lr_ ?_; intro gb113 hg w4 hbox hb; have BK113 := Aside0.mk hbox; have GE113 := Aside0.mk (ge_ HB hg (hb1_ HB GE112)); replace HB := Aside0.mk (below_step (hb1_ HB GE112) hb); have NB112_113 := Aside0.mk (nl_ BK112 hg); have NB113_112 := Aside0.mk (ng_ BK112 hg); replace BK112 := Aside0.mk (bb_ BK112 hb); clear hb hbox hg; have hnb5 := NB112_113.out; have hnc5 := NB113_112.out; obtain ⟨hcz6_0, hcz6_1, hcz6_2, hcz6_3⟩ := cz4_ BK112; obtain ⟨hfz6_0, hfz6_1, hfz6_2, hfz6_3⟩ := fz4_ BK112))
 go_loopg [11] k (fun kq v11 w' => ∃ (x11_1 : Int) (x114000_1 : ByteArray) (x114002_1 : Int) (x114003_1 : Int), v11 = .int .i64 x11_1 ∧ Aside0 (rules_Zone.l0 kq a1 l0_3 (l0_3.length : Int) x11_1 = some (r1, r2, r3, r4, r5)) ∧ Aside0 (kq ≤ k) ∧ Aside0 (w'.heap[gb112]? = some (.cells #[.bool a0_0, .bool a0_1, .int .i64 a0_2, (.slice A0_3 l0_3.length c0_3)] 24 (0, 0))) ∧ Aside0 (w'.heap[gb113]? = some (.cells #[.string x114000_1, (.slice none 0 0), .int .i64 x114002_1, .int .i64 x114003_1] 28 (0, 0))) ∧ Aside0 (Below w.heap.size w w'))
 case atStart => exact ⟨(0), ((⟨#[]⟩ : ByteArray)), (0), (0), rf_, H', ⟨Nat.le_refl _⟩, ⟨bk_ BK112⟩, ⟨bk_ BK113⟩, ⟨hb2_ HB GE112 GE113⟩⟩
 case round =>
  clear H'; (try clear p2); (try clear c5); (try clear hcz6_0 hcz6_1 hcz6_2 hcz6_3); (try clear hfz6_0 hfz6_1 hfz6_2 hfz6_3); obtain ⟨x11_1, x114000_1, x114002_1, x114003_1, rfl, HA, HK1, BK112, BK113, HB⟩ := hrel
  cases gk with
  | zero => exact absurd HA.out (by simp [rules_Zone.l0])
  | succ k1 =>
   have H := HA.out; clear HA
   simp only [rules_Zone.l0] at H
   by_cases c7 : x11_1 < (l0_3.length : Int)
   rotate_left
   ·
    rw [if_neg c7] at H; have c7b0 := decide_eq_false c7; clear c7
    simp only [Option.some.injEq, Prod.mk.injEq] at H
    obtain ⟨rfl, rfl, rfl, rfl, rfl⟩ := H; have hnb24 := NB113_112.out; have hnc24 := NB112_113.out; obtain ⟨hcz25_0, hcz25_1, hcz25_2, hcz25_3⟩ := cz4_ BK113; obtain ⟨hfz25_0, hfz25_1, hfz25_2, hfz25_3⟩ := fz4_ BK113
    go_wp2
    refine bodyPost_ret (results_ct rfl _ _ gb113 28 #[.string (⟨#[]⟩ : ByteArray), .slice none 0 0, .int .i64 0, .int .i64 0] (0, 0) _ rfl (bq0_ BK113) Try.underlying28 rfl (by kernel_rfl)) rfl ?_
    exact ⟨_, er_, ni_, hb2_ HB GE112 GE113⟩
   rw [if_pos c7] at H; have c7b0 := decide_eq_true c7; clear c7; replace H := ip_ H; obtain ⟨c8, H⟩ := H; have c8b0 := decide_eq_true c8; clear c8; replace H := ip_ H; obtain ⟨c9, H⟩ := H; have c9b0 := decide_eq_true c9; clear c9
   by_cases c10 : ((rd_T28 l0_3 x11_1).f0).toList = a1.toList
   rotate_left
   ·
    rw [if_neg c10] at H; have c10b0 : (((rd_T28 l0_3 x11_1).f0).toList == a1.toList) = false := beq_eq_false_iff_ne.mpr c10; have c10b1 : (((rd_T28 l0_3 x11_1).f0).toList != a1.toList) = true := bne_iff_ne.mpr c10; have H' := Aside0.mk H; clear H; have p114 : 0 ≤ (x11_1 : Int) := of_decide_eq_true as_
    have q114 : x11_1 < (l0_3.length : Int) := of_decide_eq_true as_; obtain ⟨ad114, A114_1, c114_1, e114, hx114_0, hx114_1, hx114_2, hx114_3, hl114_1, hi114_1⟩ := at_T28 HR0_3.out x11_1 p114 q114; cases e114; replace hx114_0 := hd_ HB hx114_0; replace hx114_1 := hd_ HB hx114_1; replace hx114_2 := hd_ HB hx114_2
    replace hx114_3 := hd_ HB hx114_3; have HR114_1 := Aside0.mk hi114_1; have HC114_1 := Aside0.mk hl114_1; clear hi114_1 hl114_1; replace p114 := eq_true p114; replace q114 := eq_true q114
    go_wp2_with (first | ((with_reducible refine gate_dst (N := 7) rfl ?_); refine box_event rf_ (N := 7) rf_ (cs := #[.string (⟨#[]⟩ : ByteArray), .slice none 0 0, .int .i64 0, .int .i64 0]) (t := 28) lr_ ?_; intro gb115 hg w20 hbox hb; have BK115 := Aside0.mk hbox; have GE115 := Aside0.mk (ge_ HB hg (hb2_ HB GE112 GE113)); replace HB := Aside0.mk (below_step (hb2_ HB GE112 GE113) hb); have NB112_115 := Aside0.mk (nl_ BK112 hg); have NB115_112 := Aside0.mk (ng_ BK112 hg); replace BK112 := Aside0.mk (bb_ BK112 hb); have NB113_115 := Aside0.mk (nl_ BK113 hg); have NB115_113 := Aside0.mk (ng_ BK113 hg); replace BK113 := Aside0.mk (bb_ BK113 hb); clear hb hbox hg; have hnb21 := NB115_112.out; have hnc21 := NB112_115.out; have hnb22 := NB115_113.out; have hnc22 := NB113_115.out; obtain ⟨hcz23_0, hcz23_1, hcz23_2, hcz23_3⟩ := cz4_ BK115; obtain ⟨hfz23_0, hfz23_1, hfz23_2, hfz23_3⟩ := fz4_ BK115))
    go_roundg k1
    case measure => have := HK1.out; omega
    case rel => exact ⟨(wrap64 (x11_1 + 1)), (x114000_1), (x114002_1), (x114003_1), rf_, H', ⟨ho_ HK1⟩, ⟨bf4_ BK112 NB112_115 NB112_115 NB112_115 NB112_115⟩, ⟨bf4_ BK113 NB113_115 NB113_115 NB113_115 NB113_115⟩, ⟨hb3_ HB GE112 GE113 GE115⟩⟩
   rw [if_pos c10] at H; have c10b0 : (((rd_T28 l0_3 x11_1).f0).toList == a1.toList) = true := beq_iff_eq.mpr c10; have c10b1 : (((rd_T28 l0_3 x11_1).f0).toList != a1.toList) = false := bne_eq_false_iff_eq.mpr c10; clear c10; replace H := Option.bind_eq_some_iff.mp H; obtain ⟨⟨t116, t117, t120, t121⟩, A110, H⟩ := H
   replace H : (some (t116, t117, t120, t121, true)) = some (r1, r2, r3, r4, r5) := H; have A11 := Aside0.mk A110; clear A110
   simp only [Option.some.injEq, Prod.mk.injEq] at H
   obtain ⟨rfl, rfl, rfl, rfl, rfl⟩ := H; have p114 : 0 ≤ (x11_1 : Int) := of_decide_eq_true as_; have q114 : x11_1 < (l0_3.length : Int) := of_decide_eq_true as_; obtain ⟨ad114, A114_1, c114_1, e114, hx114_0, hx114_1, hx114_2, hx114_3, hl114_1, hi114_1⟩ := at_T28 HR0_3.out x11_1 p114 q114; cases e114
   replace hx114_0 := hd_ HB hx114_0; replace hx114_1 := hd_ HB hx114_1; replace hx114_2 := hd_ HB hx114_2; replace hx114_3 := hd_ HB hx114_3; have HR114_1 := Aside0.mk hi114_1; have HC114_1 := Aside0.mk hl114_1; clear hi114_1 hl114_1; replace p114 := eq_true p114; replace q114 := eq_true q114
   go_wp2_with (first | ((with_reducible refine gate_dst (N := 7) rfl ?_); refine box_event rf_ (N := 7) rf_ (cs := #[.string (⟨#[]⟩ : ByteArray), .slice none 0 0, .int .i64 0, .int .i64 0]) (t := 28) lr_ ?_; intro gb115 hg w12 hbox hb; have BK115 := Aside0.mk hbox; have GE115 := Aside0.mk (ge_ HB hg (hb2_ HB GE112 GE113)); replace HB := Aside0.mk (below_step (hb2_ HB GE112 GE113) hb); have NB112_115 := Aside0.mk (nl_ BK112 hg); have NB115_112 := Aside0.mk (ng_ BK112 hg); replace BK112 := Aside0.mk (bb_ BK112 hb); have NB113_115 := Aside0.mk (nl_ BK113 hg); have NB115_113 := Aside0.mk (ng_ BK113 hg); replace BK113 := Aside0.mk (bb_ BK113 hb); clear hb hbox hg; have hnb13 := NB115_112.out; have hnc13 := NB112_115.out; have hnb14 := NB115_113.out; have hnc14 := NB113_115.out; obtain ⟨hcz15_0, hcz15_1, hcz15_2, hcz15_3⟩ := cz4_ BK115; obtain ⟨hfz15_0, hfz15_1, hfz15_2, hfz15_3⟩ := fz4_ BK115) | (refine gl_ 19 20 Try.func19 #[.agg #[.string ((rd_T28 l0_3 x11_1).f0), .slice A114_1 ((rd_T28 l0_3 x11_1).f1).length c114_1, .int .i64 ((rd_T28 l0_3 x11_1).f2), .int .i64 ((rd_T28 l0_3 x11_1).f3)]] ?_; (with_reducible refine (rules_cloneZone.calls ((rd_T28 l0_3 x11_1).f0) _ _ ((rd_T28 l0_3 x11_1).f1) ((rd_T28 l0_3 x11_1).f2) ((rd_T28 l0_3 x11_1).f3) t116 t117 t120 t121 _ ?side1 ?side2 A11.out).mono ?_); (case side1 => exact Kd.C_below HR114_1.out (hb3_ HB GE112 GE113 GE115)); (case side2 => exact HC114_1.out); rintro e w16 ⟨v118, rfl, ho0, hb⟩; refine ⟨_, rfl, ?_⟩; have HO119 := Aside0.mk (Kd.R_lower ho0 (below_size (hb3_ HB GE112 GE113 GE115))); replace BK112 := Aside0.mk (blk_below (g := gb112) (o := .cells #[.bool a0_0, .bool a0_1, .int .i64 a0_2, .slice (some ad114) l0_3.length c0_3] 24 (0, 0)) (bf4_ BK112 NB112_115 NB112_115 NB112_115 NB112_115) hb); replace BK113 := Aside0.mk (blk_below (g := gb113) (o := .cells #[.string x114000_1, .slice none 0 0, .int .i64 x114002_1, .int .i64 x114003_1] 28 (0, 0)) (bf4_ BK113 NB113_115 NB113_115 NB113_115 NB113_115) hb); replace BK115 := Aside0.mk (blk_below (g := gb115) (o := .cells #[.string ((rd_T28 l0_3 x11_1).f0), .slice A114_1 ((rd_T28 l0_3 x11_1).f1).length c114_1, .int .i64 ((rd_T28 l0_3 x11_1).f2), .int .i64 ((rd_T28 l0_3 x11_1).f3)] 28 (0, 0)) (bq0_ BK115) hb); replace HB := Aside0.mk (below_step (hb3_ HB GE112 GE113 GE115) hb); (try clear hb); (try clear ho0); have hnb17 := NB113_112.out; have hnc17 := NB112_113.out; obtain ⟨hcz18_0, hcz18_1, hcz18_2, hcz18_3⟩ := cz4_ BK113; obtain ⟨hfz18_0, hfz18_1, hfz18_2, hfz18_3⟩ := fz4_ BK113; obtain ⟨Ao19, co19, eo19⟩ := Kd.R_slice HO119.out; subst eo19))
   refine bodyPost_ret (results_ct rfl _ _ gb113 28 #[.string t116, .slice Ao19 t117.length co19, .int .i64 t120, .int .i64 t121] (0, 0) _ rfl (bq0_ BK113) Try.underlying28 rfl (by kernel_rfl)) rfl ?_
   exact ⟨_, er_, rf1_ HO119 BK113, hb3_ HB GE112 GE113 GE115⟩

/-! ### rules_Rate: function 12 -/
def rules_Rate.l0 : Nat → ByteArray → List (S39) → Int → Int → ByteArray → List (S39) → Int → Int → Option (Int)
 | 0, _, _, _, _, _, _, _, _ => none
 | k + 1, x1, x8, x9, x10, x123000, x123001, x123002, x123003 => if x10 < x9 then (if 0 ≤ x10 then (if x10 < (x8.length : Int) then (if ((rd_T39 x8 x10).f0).toList = x1.toList then (some ((rd_T39 x8 x10).f1)) else (rules_Rate.l0 k x1 x8 x9 (wrap64 (x10 + 1)) x123000 x123001 x123002 x123003)) else (none)) else (none)) else (some x123002)
def rules_Rate.f (k : Nat) (a0_0 : ByteArray) (l0_1 : List (S39)) (a0_2 : Int) (a0_3 : Int) (a1 : ByteArray) : Option (Int) := rules_Rate.l0 k a1 l0_1 (l0_1.length : Int) 0 a0_0 l0_1 a0_2 a0_3
theorem rules_Rate.mono_l : ∀ k, (∀ y0 y1 y2 y3 y4 y5 y6 y7, LeO (rules_Rate.l0 k y0 y1 y2 y3 y4 y5 y6 y7) (rules_Rate.l0 (k + 1) y0 y1 y2 y3 y4 y5 y6 y7))
 | 0 => fun _ _ _ _ _ _ _ _ r h => by simp [rules_Rate.l0] at h
 | k + 1 => by
  have ih0 := rules_Rate.mono_l k
  intros; unfold rules_Rate.l0; with_reducible repeat' first | exact ih0 .. | exact lo_ | refine LeO.ite ?_ ?_ | refine LeO.bind ?_ (fun _ => ?_)
theorem rules_Rate.mono : ∀ a0 a1 a2 a3 a4 k, LeO (rules_Rate.f k a0 a1 a2 a3 a4) (rules_Rate.f (k + 1) a0 a1 a2 a3 a4) := by
 intro a0 a1 a2 a3 a4 k
 have ih0 := rules_Rate.mono_l k
 unfold rules_Rate.f
 with_reducible repeat' first | exact ih0 .. | exact lo_ | refine LeO.ite ?_ ?_ | refine LeO.bind ?_ (fun _ => ?_)
set_option maxHeartbeats 8000000 in
set_option maxRecDepth 100000 in
theorem rules_Rate.calls (k : Nat) (a0_0 : ByteArray) (A0_1 : Option Addr) (c0_1 : Nat) (l0_1 : List (S39)) (a0_2 : Int) (a0_3 : Int) (a1 : ByteArray) (r : Int) (w : World) (hr0_1 : Kd.C k39 w A0_1 l0_1.length l0_1) (hc0_1 : l0_1.length ≤ c0_1) (h : rules_Rate.f k a0_0 l0_1 a0_2 a0_3 a1 = some r) :
 Calls Try.prog 12 #[.agg #[.string a0_0, .slice A0_1 l0_1.length c0_1, .int .i64 a0_2, .int .i64 a0_3], .string a1] w fun e w' => e = .returned (.int .i64 r) ∧ Below w.heap.size w w' := by
 have hu28 := Try.underlying28
 have hu39 := Try.underlying39
 have HR0_1 := Aside0.mk hr0_1
 have HC0_1 := Aside0.mk hc0_1
 clear hr0_1 hc0_1
 have HB := Aside0.mk (Below.refl w.heap.size w)
 have H : (rules_Rate.l0 k a1 l0_1 (l0_1.length : Int) 0 a0_0 l0_1 a0_2 a0_3) = some r := h
 clear h
 have H' := Aside0.mk H
 clear H
 go_enter Try.func12, Try.ntmps12
 go_wp2_with (first | ((with_reducible refine gate_dst (N := 2) rfl ?_); refine box_event rf_ (N := 2) rf_ (cs := #[.string a0_0, .slice A0_1 l0_1.length c0_1, .int .i64 a0_2, .int .i64 a0_3]) (t := 28) lr_ ?_; intro gb122 hg w3 hbox hb; have BK122 := Aside0.mk hbox; have GE122 := Aside0.mk (ge_ HB hg (hb0_ HB)); replace HB := Aside0.mk (below_step (hb0_ HB) hb); clear hb hbox hg; obtain ⟨hcz4_0, hcz4_1, hcz4_2, hcz4_3⟩ := cz4_ BK122; obtain ⟨hfz4_0, hfz4_1, hfz4_2, hfz4_3⟩ := fz4_ BK122))
 go_loopg [10] k (fun kq v10 w' => ∃ (x10_1 : Int), v10 = .int .i64 x10_1 ∧ Aside0 (rules_Rate.l0 kq a1 l0_1 (l0_1.length : Int) x10_1 a0_0 l0_1 a0_2 a0_3 = some r) ∧ Aside0 (kq ≤ k) ∧ Aside0 (w'.heap[gb122]? = some (.cells #[.string a0_0, (.slice A0_1 l0_1.length c0_1), .int .i64 a0_2, .int .i64 a0_3] 28 (0, 0))) ∧ Aside0 (Below w.heap.size w w'))
 case atStart => exact ⟨(0), rf_, H', ⟨Nat.le_refl _⟩, ⟨bk_ BK122⟩, ⟨hb1_ HB GE122⟩⟩
 case round =>
  clear H'; (try clear c1); (try clear p2); (try clear hcz4_0 hcz4_1 hcz4_2 hcz4_3); (try clear hfz4_0 hfz4_1 hfz4_2 hfz4_3); obtain ⟨x10_1, rfl, HA, HK1, BK122, HB⟩ := hrel
  cases gk with
  | zero => exact absurd HA.out (by simp [rules_Rate.l0])
  | succ k1 =>
   have H := HA.out; clear HA
   simp only [rules_Rate.l0] at H
   by_cases c5 : x10_1 < (l0_1.length : Int)
   rotate_left
   ·
    rw [if_neg c5] at H; have c5b0 := decide_eq_false c5; clear c5; obtain rfl := Option.some.inj H; obtain ⟨hcz15_0, hcz15_1, hcz15_2, hcz15_3⟩ := cz4_ BK122; obtain ⟨hfz15_0, hfz15_1, hfz15_2, hfz15_3⟩ := fz4_ BK122
    go_wp2
    go_ret
    exact ⟨er_, hb1_ HB GE122⟩
   rw [if_pos c5] at H; have c5b0 := decide_eq_true c5; clear c5; replace H := ip_ H; obtain ⟨c6, H⟩ := H; have c6b0 := decide_eq_true c6; clear c6; replace H := ip_ H; obtain ⟨c7, H⟩ := H; have c7b0 := decide_eq_true c7; clear c7
   by_cases c8 : ((rd_T39 l0_1 x10_1).f0).toList = a1.toList
   ·
    rw [if_pos c8] at H; have c8b0 : (((rd_T39 l0_1 x10_1).f0).toList == a1.toList) = true := beq_iff_eq.mpr c8; have c8b1 : (((rd_T39 l0_1 x10_1).f0).toList != a1.toList) = false := bne_eq_false_iff_eq.mpr c8; clear c8; obtain rfl := Option.some.inj H; have p123 : 0 ≤ (x10_1 : Int) := of_decide_eq_true as_
    have q123 : x10_1 < (l0_1.length : Int) := of_decide_eq_true as_; obtain ⟨ad123, e123, hx123_0, hx123_1⟩ := at_T39 HR0_1.out x10_1 p123 q123; cases e123; replace hx123_0 := hd_ HB hx123_0; replace hx123_1 := hd_ HB hx123_1; replace p123 := eq_true p123; replace q123 := eq_true q123
    go_wp2_with (first | ((with_reducible refine gate_dst (N := 6) rfl ?_); refine box_event rf_ (N := 6) rf_ (cs := #[.string (⟨#[]⟩ : ByteArray), .int .i64 0]) (t := 39) lr_ ?_; intro gb124 hg w9 hbox hb; have BK124 := Aside0.mk hbox; have GE124 := Aside0.mk (ge_ HB hg (hb1_ HB GE122)); replace HB := Aside0.mk (below_step (hb1_ HB GE122) hb); have NB122_124 := Aside0.mk (nl_ BK122 hg); have NB124_122 := Aside0.mk (ng_ BK122 hg); replace BK122 := Aside0.mk (bb_ BK122 hb); clear hb hbox hg; have hnb10 := NB124_122.out; have hnc10 := NB122_124.out; obtain ⟨hcz11_0, hcz11_1⟩ := cz2_ BK124; obtain ⟨hfz11_0, hfz11_1⟩ := fz2_ BK124))
    go_ret
    exact ⟨er_, hb2_ HB GE122 GE124⟩
   rw [if_neg c8] at H; have c8b0 : (((rd_T39 l0_1 x10_1).f0).toList == a1.toList) = false := beq_eq_false_iff_ne.mpr c8; have c8b1 : (((rd_T39 l0_1 x10_1).f0).toList != a1.toList) = true := bne_iff_ne.mpr c8; have H' := Aside0.mk H; clear H; have p123 : 0 ≤ (x10_1 : Int) := of_decide_eq_true as_; have q123 : x10_1 < (l0_1.length : Int) := of_decide_eq_true as_
   obtain ⟨ad123, e123, hx123_0, hx123_1⟩ := at_T39 HR0_1.out x10_1 p123 q123; cases e123; replace hx123_0 := hd_ HB hx123_0; replace hx123_1 := hd_ HB hx123_1; replace p123 := eq_true p123; replace q123 := eq_true q123
   go_wp2_with (first | ((with_reducible refine gate_dst (N := 6) rfl ?_); refine box_event rf_ (N := 6) rf_ (cs := #[.string (⟨#[]⟩ : ByteArray), .int .i64 0]) (t := 39) lr_ ?_; intro gb124 hg w12 hbox hb; have BK124 := Aside0.mk hbox; have GE124 := Aside0.mk (ge_ HB hg (hb1_ HB GE122)); replace HB := Aside0.mk (below_step (hb1_ HB GE122) hb); have NB122_124 := Aside0.mk (nl_ BK122 hg); have NB124_122 := Aside0.mk (ng_ BK122 hg); replace BK122 := Aside0.mk (bb_ BK122 hb); clear hb hbox hg; have hnb13 := NB124_122.out; have hnc13 := NB122_124.out; obtain ⟨hcz14_0, hcz14_1⟩ := cz2_ BK124; obtain ⟨hfz14_0, hfz14_1⟩ := fz2_ BK124))
   go_roundg k1
   case measure => have := HK1.out; omega
   case rel => exact ⟨(wrap64 (x10_1 + 1)), rf_, H', ⟨ho_ HK1⟩, ⟨bf2_ BK122 NB122_124 NB122_124⟩, ⟨hb2_ HB GE122 GE124⟩⟩

end Go.Proofs.Ytgfhjamaabaleaa.Rw
