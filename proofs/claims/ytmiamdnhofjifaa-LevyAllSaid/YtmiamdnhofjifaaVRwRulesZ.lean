/- RwRulesZ. -/
import Derived.Test.YtmiamdnhofjifaaVRwA
import Derived.Test.YtmiamdnhofjifaaVHFun
import Derived.Test.YtmiamdnhofjifaaVHByOrder
import Derived.Test.YtmiamdnhofjifaaVRwGoods
import Derived.Test.YtmiamdnhofjifaaVRwPlain
section
/- Functions of the program as Lean functions, each with its contract: out of what the kit's printer wrote for this seat. -/
namespace Go.Proofs.Ytmiamdnhofjifaa.Rw
open Go.RowKit Go.Proofs.YtmiamdnhofjifaaW.PrintWords Go.Proofs.YtmiamdnhofjifaaW.PrintLast Go.Proofs.YtmiamdnhofjifaaW.PrintMore
attribute [local go_sem] max2_int min2_int max_two min_two max_three min_three max_four min_four   -- for this text's walks alone
set_option linter.unusedVariables false
set_option linter.unusedSimpArgs false
attribute [local go_sem high] leqS gtrS

/-! ### api_CatRate: function 54 -/
def api_CatRate.f (l0 : List (S56)) : Option ((List (S56))) := (some (([] : List (S56)) : List (S56))).bind fun y131 => (if y131.length + l0.length < 5864062014805 then (some (y131 ++ l0)) else (none))
set_option maxHeartbeats 8000000 in
set_option maxRecDepth 100000 in
theorem api_CatRate.calls (A0 : Option Addr) (c0 : Nat) (l0 : List (S56)) (r : List (S56)) (w : World) (hr0 : Kd.C k56 w A0 l0.length l0) (hc0 : l0.length ≤ c0) (h : api_CatRate.f l0 = some r) :
 Calls Try.prog 54 #[.slice A0 l0.length c0] w fun e w' => ∃ v0_ : Value, e = .returned (v0_) ∧ Kd.R k56 56 w' w.heap.size (fun _ => True) v0_ r ∧ Below w.heap.size w w' := by
 have HR0 := Aside0.mk hr0
 have HC0 := Aside0.mk hc0
 clear hr0 hc0
 have HB := Aside0.mk (Below.refl w.heap.size w)
 have H : ((some (([] : List (S56)) : List (S56))).bind fun y131 => (if y131.length + l0.length < 5864062014805 then (some (y131 ++ l0)) else (none))) = some r := h
 clear h
 obtain ⟨y131, hy131⟩ : ∃ y_ : List (S56), y_ = (([] : List (S56))) := ⟨_, rfl⟩
 replace H : (if y131.length + l0.length < 5864062014805 then (some (y131 ++ l0)) else (none)) = some r := hy_ hy131 H
 have Ny131 := Aside0.mk hy131
 clear hy131
 replace H := ip_ H
 obtain ⟨c2, H⟩ := H
 have LMc2 := Aside0.mk c2
 clear c2
 obtain ⟨y134, hy134⟩ : ∃ y_ : List (S56), y_ = (y131 ++ l0) := ⟨_, rfl⟩
 replace H : (some y134) = some r := hy_ hy134 H
 have Ny134 := Aside0.mk hy134
 clear hy134
 obtain rfl := Option.some.inj H
 have he_ := fun W => Lib.run_eql_slice_nil (P := Try.prog) W 49 56 A0 l0.length c0 0 0 Try.underlying49
 rcases A0 with _ | ad_
 ·
  simp only [Option.isNone] at he_
  have h0_ : l0 = [] := by
   rcases Nat.eq_zero_or_pos l0.length with h | h
   ·
    exact List.eq_nil_of_length_eq_zero h
   ·
    obtain ⟨_, h2, _⟩ := HR0.out.2.2 h; cases h2
  have H0_ := Aside0.mk h0_; clear h0_
  go_enter Try.func54, Try.ntmps54
  go_wp2
  go_ret
  exact ⟨_, rfl, by rw [Ny134.out, Ny131.out, H0_.out]; exact Kd.R_nil _ _ _ _ _, HB.out⟩
 ·
  simp only [Option.isNone] at he_
  go_enter Try.func54, Try.ntmps54
  go_wp2_with (first | ((with_reducible refine gate_dst (N := 5) rfl ?_); refine Kd.R_lit k56 _ 56 rf_ (N := 5) rf_ (xs := ([] : List (S56))) (inner := []) (ok := fun _ => True) (okp := fun _ => True) lr_ ?hp (fun _ hk => hk) trivial (Below.refl _ _) (Nat.le_refl _) (by simp) ?_; (case hp => exact (Reps.none _ _)); intro v132 w3 ho4 hb hg_ hnew_; clear hg_ hnew_; (first | rw [← Ny131.out] at ho4 | (simp only [Int.reduceToNat] at ho4; rw [← Ny131.out] at ho4)); have HO133 := Aside0.mk (Kd.R_lower ho4 (below_size (hb0_ HB))); replace HB := Aside0.mk (below_step (hb0_ HB) hb); clear hb ho4) | ((with_reducible refine gate_builtin (b := .append) (xs := #[.tmp 5, .tmp 6]) rfl ?_); at_builtin; refine Kd.R_append_rows k56 (w0 := w) w.heap.size rfl (.tmp 5) (.tmp 6) 49 56 (.agg #[(.string ⟨#[]⟩), (.int .i64 0)]) 24 rfl Try.underlying49 info56 rfl (by decide) (by omega) v132 y131 l0 _ _ _ (fun _ => True) (fun _ => False) rfl rfl ?aO ?aR (fun _ _ h => h) (fun _ h => h.elim) ?aF ?aB ?aS ?aL ?_; (case aR => exact sc_ (Kd.C_below HR0.out HB.out)); (case aB => exact (hb0_ HB)); (case aF => exact (fun _ _ => trivial)); (case aO => exact (ro_ HO133)); (case aS => exact (below_size (hb0_ HB))); (case aL => have := LMc2.out; omega); intro v135 w5 ho hb hg hat; rw [← Ny134.out] at ho; have n0_ := Aside0.mk hb; have n1_ := Aside0.mk ho; clear HB; clear HO133; have HB := n0_; have HO136 := n1_; clear n0_ n1_; clear ho hb hg hat))
  go_ret
  exact ⟨_, er_, ro_ HO136, hb0_ HB⟩

/-! ### rules_cloneZone: function 37 -/
def rules_cloneZone.f (a0_0 : ByteArray) (l0_1 : List (S56)) (a0_2 : Int) (a0_3 : Int) : Option (ByteArray × (List (S56)) × Int × Int) := (api_CatRate.f l0_1).bind fun t139 => (some (a0_0, t139, a0_2, a0_3))
set_option maxHeartbeats 8000000 in
set_option maxRecDepth 100000 in
theorem rules_cloneZone.calls (a0_0 : ByteArray) (A0_1 : Option Addr) (c0_1 : Nat) (l0_1 : List (S56)) (a0_2 : Int) (a0_3 : Int) (r1 : ByteArray) (r2 : List (S56)) (r3 : Int) (r4 : Int) (w : World) (hr0_1 : Kd.C k56 w A0_1 l0_1.length l0_1) (hc0_1 : l0_1.length ≤ c0_1) (h : rules_cloneZone.f a0_0 l0_1 a0_2 a0_3 = some (r1, r2, r3, r4)) :
 Calls Try.prog 37 #[.agg #[.string a0_0, .slice A0_1 l0_1.length c0_1, .int .i64 a0_2, .int .i64 a0_3]] w fun e w' => ∃ v1_ : Value, e = .returned (.agg #[.string r1, v1_, .int .i64 r3, .int .i64 r4]) ∧ Kd.R k56 56 w' w.heap.size (fun _ => True) v1_ r2 ∧ Below w.heap.size w w' := by
 have hu51 := Try.underlying51
 have HR0_1 := Aside0.mk hr0_1
 have HC0_1 := Aside0.mk hc0_1
 clear hr0_1 hc0_1
 have HB := Aside0.mk (Below.refl w.heap.size w)
 have H : ((api_CatRate.f l0_1).bind fun t139 => (some (a0_0, t139, a0_2, a0_3))) = some (r1, r2, r3, r4) := h
 clear h
 replace H := Option.bind_eq_some_iff.mp H
 obtain ⟨t139, A20, H⟩ := H
 replace H : (some (a0_0, t139, a0_2, a0_3)) = some (r1, r2, r3, r4) := H
 have A2 := Aside0.mk A20
 clear A20
 simp only [Option.some.injEq, Prod.mk.injEq] at H
 obtain ⟨rfl, rfl, rfl, rfl⟩ := H
 go_enter Try.func37, Try.ntmps37
 go_wp2_with (first | ((with_reducible refine gate_dst (N := 1) rfl ?_); refine box_event rf_ (N := 1) rf_ (cs := #[.string a0_0, .slice A0_1 l0_1.length c0_1, .int .i64 a0_2, .int .i64 a0_3]) (t := 51) lr_ ?_; intro gb137 hg w3 hbox hb; have BK137 := Aside0.mk hbox; have GE137 := Aside0.mk (ge_ HB hg (hb0_ HB)); replace HB := Aside0.mk (below_step (hb0_ HB) hb); clear hb hbox hg) | ((with_reducible refine gate_dst (N := 2) rfl ?_); refine box_event rf_ (N := 2) rf_ (cs := #[.string (⟨#[]⟩ : ByteArray), .slice none 0 0, .int .i64 0, .int .i64 0]) (t := 51) lr_ ?_; intro gb138 hg w4 hbox hb; have BK138 := Aside0.mk hbox; have GE138 := Aside0.mk (ge_ HB hg (hb1_ HB GE137)); replace HB := Aside0.mk (below_step (hb1_ HB GE137) hb); have NB137_138 := Aside0.mk (nl_ BK137 hg); have NB138_137 := Aside0.mk (ng_ BK137 hg); replace BK137 := Aside0.mk (bb_ BK137 hb); clear hb hbox hg; have hnb5 := NB137_138.out; have hnc5 := NB138_137.out; obtain ⟨hcz6_0, hcz6_1, hcz6_2, hcz6_3⟩ := cz4_ BK137; obtain ⟨hfz6_0, hfz6_1, hfz6_2, hfz6_3⟩ := fz4_ BK137) | (refine gl_ 54 5 Try.func54 #[.slice A0_1 l0_1.length c0_1] ?_; (with_reducible refine (api_CatRate.calls _ _ l0_1 t139 _ ?side1 ?side2 A2.out).mono ?_); (case side1 => exact sc_ (Kd.C_below HR0_1.out HB.out)); (case side2 => exact HC0_1.out); rintro e w7 ⟨v140, rfl, ho0, hb⟩; refine ⟨_, rfl, ?_⟩; have HO141 := Aside0.mk (Kd.R_lower ho0 (below_size (hb2_ HB GE137 GE138))); replace BK137 := Aside0.mk (bb_ BK137 hb); replace BK138 := Aside0.mk (bb_ BK138 hb); replace HB := Aside0.mk (below_step (hb2_ HB GE137 GE138) hb); (try clear hb); (try clear ho0); obtain ⟨Ao8, co8, eo8⟩ := Kd.R_slice HO141.out; subst eo8; obtain ⟨hcz9_0, hcz9_1, hcz9_2, hcz9_3⟩ := cz4_ BK137; obtain ⟨hfz9_0, hfz9_1, hfz9_2, hfz9_3⟩ := fz4_ BK137; obtain ⟨hcz10_0, hcz10_1, hcz10_2, hcz10_3⟩ := cz4_ BK138; obtain ⟨hfz10_0, hfz10_1, hfz10_2, hfz10_3⟩ := fz4_ BK138))
 refine bodyPost_ret (results_cell_row rfl _ _ gb138 51 #[.string a0_0, .slice Ao8 t139.length co8, .int .i64 a0_2, .int .i64 a0_3] (0, 0) _ rfl (bq1_ BK138 NB138_137) Try.underlying51 rfl (by kernel_rfl)) rfl ?_
 exact ⟨_, er_, rf2_ HO141 BK137 BK138, hb2_ HB GE137 GE138⟩

/-! ### rules_Zone: function 22 -/
def rules_Zone.l0 : Nat → ByteArray → List (S51) → Int → Int → Option (ByteArray × (List (S56)) × Int × Int × Bool)
 | 0, _, _, _, _ => none
 | k + 1, x1, x9, x10, x11 => if x11 < x10 then (if 0 ≤ x11 then (if x11 < (x9.length : Int) then (if ((rd_T51 x9 x11).f0).toList = x1.toList then ((rules_cloneZone.f ((rd_T51 x9 x11).f0) ((rd_T51 x9 x11).f1) ((rd_T51 x9 x11).f2) ((rd_T51 x9 x11).f3)).bind fun bt146 => (some (bt146.1, bt146.2.1, bt146.2.2.1, bt146.2.2.2, true))) else (rules_Zone.l0 k x1 x9 x10 (wrap64 (x11 + 1)))) else (none)) else (none)) else (some ((⟨#[]⟩ : ByteArray), ([] : List (S56)), 0, 0, false))
def rules_Zone.f (k : Nat) (a0_0 : Bool) (a0_1 : Bool) (a0_2 : Int) (l0_3 : List (S51)) (a1 : ByteArray) : Option (ByteArray × (List (S56)) × Int × Int × Bool) := rules_Zone.l0 k a1 l0_3 (l0_3.length : Int) 0
set_option maxHeartbeats 8000000 in
set_option maxRecDepth 100000 in
theorem rules_Zone.calls (k : Nat) (a0_0 : Bool) (a0_1 : Bool) (a0_2 : Int) (A0_3 : Option Addr) (c0_3 : Nat) (l0_3 : List (S51)) (a1 : ByteArray) (r1 : ByteArray) (r2 : List (S56)) (r3 : Int) (r4 : Int) (r5 : Bool) (w : World) (hr0_3 : Kd.C k51 w A0_3 l0_3.length l0_3) (hc0_3 : l0_3.length ≤ c0_3) (h : rules_Zone.f k a0_0 a0_1 a0_2 l0_3 a1 = some (r1, r2, r3, r4, r5)) :
 Calls Try.prog 22 #[.agg #[.bool a0_0, .bool a0_1, .int .i64 a0_2, .slice A0_3 l0_3.length c0_3], .string a1] w fun e w' => ∃ v1_ : Value, e = .returned (.tuple #[.agg #[.string r1, v1_, .int .i64 r3, .int .i64 r4], .bool r5]) ∧ Kd.R k56 56 w' w.heap.size (fun _ => True) v1_ r2 ∧ Below w.heap.size w w' := by
 have hu24 := Try.underlying24
 have hu51 := Try.underlying51
 have HR0_3 := Aside0.mk hr0_3
 have HC0_3 := Aside0.mk hc0_3
 clear hr0_3 hc0_3
 have HB := Aside0.mk (Below.refl w.heap.size w)
 have H : (rules_Zone.l0 k a1 l0_3 (l0_3.length : Int) 0) = some (r1, r2, r3, r4, r5) := h
 clear h
 have H' := Aside0.mk H
 clear H
 go_enter Try.func22, Try.ntmps22
 go_wp2_with (first | ((with_reducible refine gate_dst (N := 2) rfl ?_); refine box_event rf_ (N := 2) rf_ (cs := #[.bool a0_0, .bool a0_1, .int .i64 a0_2, .slice A0_3 l0_3.length c0_3]) (t := 24) lr_ ?_; intro gb142 hg w3 hbox hb; have BK142 := Aside0.mk hbox; have GE142 := Aside0.mk (ge_ HB hg (hb0_ HB)); replace HB := Aside0.mk (below_step (hb0_ HB) hb); clear hb hbox hg) | ((with_reducible refine gate_dst (N := 4) rfl ?_); refine box_event rf_ (N := 4) rf_ (cs := #[.string (⟨#[]⟩ : ByteArray), .slice none 0 0, .int .i64 0, .int .i64 0]) (t := 51) lr_ ?_; intro gb143 hg w4 hbox hb; have BK143 := Aside0.mk hbox; have GE143 := Aside0.mk (ge_ HB hg (hb1_ HB GE142)); replace HB := Aside0.mk (below_step (hb1_ HB GE142) hb); have NB142_143 := Aside0.mk (nl_ BK142 hg); have NB143_142 := Aside0.mk (ng_ BK142 hg); replace BK142 := Aside0.mk (bb_ BK142 hb); clear hb hbox hg; have hnb5 := NB142_143.out; have hnc5 := NB143_142.out; obtain ⟨hcz6_0, hcz6_1, hcz6_2, hcz6_3⟩ := cz4_ BK142; obtain ⟨hfz6_0, hfz6_1, hfz6_2, hfz6_3⟩ := fz4_ BK142))
 go_loopg [11] k (fun kq v11 w' => ∃ (x11_1 : Int) (x144000_1 : ByteArray) (x144002_1 : Int) (x144003_1 : Int), v11 = .int .i64 x11_1 ∧ Aside0 (rules_Zone.l0 kq a1 l0_3 (l0_3.length : Int) x11_1 = some (r1, r2, r3, r4, r5)) ∧ Aside0 (kq ≤ k) ∧ Aside0 (w'.heap[gb142]? = some (.cells #[.bool a0_0, .bool a0_1, .int .i64 a0_2, (.slice A0_3 l0_3.length c0_3)] 24 (0, 0))) ∧ Aside0 (w'.heap[gb143]? = some (.cells #[.string x144000_1, (.slice none 0 0), .int .i64 x144002_1, .int .i64 x144003_1] 51 (0, 0))) ∧ Aside0 (Below w.heap.size w w'))
 case atStart => exact ⟨(0), ((⟨#[]⟩ : ByteArray)), (0), (0), rf_, H', ⟨Nat.le_refl _⟩, ⟨bk_ BK142⟩, ⟨bk_ BK143⟩, ⟨hb2_ HB GE142 GE143⟩⟩
 case round =>
  clear H'; (try clear c2); (try clear p2); (try clear c5); (try clear hcz6_0 hcz6_1 hcz6_2 hcz6_3); (try clear hfz6_0 hfz6_1 hfz6_2 hfz6_3); obtain ⟨x11_1, x144000_1, x144002_1, x144003_1, rfl, HA, HK1, BK142, BK143, HB⟩ := hrel
  cases gk with
  | zero => exact absurd HA.out (by simp [rules_Zone.l0])
  | succ k1 =>
   have H := HA.out; clear HA
   simp only [rules_Zone.l0] at H
   by_cases c7 : x11_1 < (l0_3.length : Int)
   rotate_left
   ·
    rw [if_neg c7] at H; have c7b0 := decide_eq_false c7; clear c7
    simp only [Option.some.injEq, Prod.mk.injEq] at H
    obtain ⟨rfl, rfl, rfl, rfl, rfl⟩ := H; have hnb24 := NB143_142.out; have hnc24 := NB142_143.out; obtain ⟨hcz25_0, hcz25_1, hcz25_2, hcz25_3⟩ := cz4_ BK143; obtain ⟨hfz25_0, hfz25_1, hfz25_2, hfz25_3⟩ := fz4_ BK143
    go_wp2
    refine bodyPost_ret (results_ct rfl _ _ gb143 51 #[.string (⟨#[]⟩ : ByteArray), .slice none 0 0, .int .i64 0, .int .i64 0] (0, 0) _ rfl (bq0_ BK143) Try.underlying51 rfl (by kernel_rfl)) rfl ?_
    exact ⟨_, er_, ni_, hb2_ HB GE142 GE143⟩
   rw [if_pos c7] at H; have c7b0 := decide_eq_true c7; clear c7; replace H := ip_ H; obtain ⟨c8, H⟩ := H; have c8b0 := decide_eq_true c8; clear c8; replace H := ip_ H; obtain ⟨c9, H⟩ := H; have c9b0 := decide_eq_true c9; clear c9
   by_cases c10 : ((rd_T51 l0_3 x11_1).f0).toList = a1.toList
   rotate_left
   ·
    rw [if_neg c10] at H; have c10b0 : (((rd_T51 l0_3 x11_1).f0).toList == a1.toList) = false := beq_eq_false_iff_ne.mpr c10; have c10b1 : (((rd_T51 l0_3 x11_1).f0).toList != a1.toList) = true := bne_iff_ne.mpr c10; have H' := Aside0.mk H; clear H; have p144 : 0 ≤ (x11_1 : Int) := of_decide_eq_true as_
    have q144 : x11_1 < (l0_3.length : Int) := of_decide_eq_true as_; obtain ⟨ad144, A144_1, c144_1, e144, hx144_0, hx144_1, hx144_2, hx144_3, hl144_1, hi144_1⟩ := at_T51 HR0_3.out x11_1 p144 q144; cases e144; replace hx144_0 := hd_ HB hx144_0; replace hx144_1 := hd_ HB hx144_1; replace hx144_2 := hd_ HB hx144_2
    replace hx144_3 := hd_ HB hx144_3; have HR144_1 := Aside0.mk hi144_1; have HC144_1 := Aside0.mk hl144_1; clear hi144_1 hl144_1; replace p144 := eq_true p144; replace q144 := eq_true q144
    go_wp2_with (first | ((with_reducible refine gate_dst (N := 7) rfl ?_); refine box_event rf_ (N := 7) rf_ (cs := #[.string (⟨#[]⟩ : ByteArray), .slice none 0 0, .int .i64 0, .int .i64 0]) (t := 51) lr_ ?_; intro gb145 hg w20 hbox hb; have BK145 := Aside0.mk hbox; have GE145 := Aside0.mk (ge_ HB hg (hb2_ HB GE142 GE143)); replace HB := Aside0.mk (below_step (hb2_ HB GE142 GE143) hb); have NB142_145 := Aside0.mk (nl_ BK142 hg); have NB145_142 := Aside0.mk (ng_ BK142 hg); replace BK142 := Aside0.mk (bb_ BK142 hb); have NB143_145 := Aside0.mk (nl_ BK143 hg); have NB145_143 := Aside0.mk (ng_ BK143 hg); replace BK143 := Aside0.mk (bb_ BK143 hb); clear hb hbox hg; have hnb21 := NB145_142.out; have hnc21 := NB142_145.out; have hnb22 := NB145_143.out; have hnc22 := NB143_145.out; obtain ⟨hcz23_0, hcz23_1, hcz23_2, hcz23_3⟩ := cz4_ BK145; obtain ⟨hfz23_0, hfz23_1, hfz23_2, hfz23_3⟩ := fz4_ BK145))
    go_roundg k1
    case measure => have := HK1.out; omega
    case rel => exact ⟨(wrap64 (x11_1 + 1)), (x144000_1), (x144002_1), (x144003_1), rf_, H', ⟨ho_ HK1⟩, ⟨bf4_ BK142 NB142_145 NB142_145 NB142_145 NB142_145⟩, ⟨bf4_ BK143 NB143_145 NB143_145 NB143_145 NB143_145⟩, ⟨hb3_ HB GE142 GE143 GE145⟩⟩
   rw [if_pos c10] at H; have c10b0 : (((rd_T51 l0_3 x11_1).f0).toList == a1.toList) = true := beq_iff_eq.mpr c10; have c10b1 : (((rd_T51 l0_3 x11_1).f0).toList != a1.toList) = false := bne_eq_false_iff_eq.mpr c10; clear c10; replace H := Option.bind_eq_some_iff.mp H; obtain ⟨⟨t146, t147, t150, t151⟩, A110, H⟩ := H
   replace H : (some (t146, t147, t150, t151, true)) = some (r1, r2, r3, r4, r5) := H; have A11 := Aside0.mk A110; clear A110
   simp only [Option.some.injEq, Prod.mk.injEq] at H
   obtain ⟨rfl, rfl, rfl, rfl, rfl⟩ := H; have p144 : 0 ≤ (x11_1 : Int) := of_decide_eq_true as_; have q144 : x11_1 < (l0_3.length : Int) := of_decide_eq_true as_; obtain ⟨ad144, A144_1, c144_1, e144, hx144_0, hx144_1, hx144_2, hx144_3, hl144_1, hi144_1⟩ := at_T51 HR0_3.out x11_1 p144 q144; cases e144
   replace hx144_0 := hd_ HB hx144_0; replace hx144_1 := hd_ HB hx144_1; replace hx144_2 := hd_ HB hx144_2; replace hx144_3 := hd_ HB hx144_3; have HR144_1 := Aside0.mk hi144_1; have HC144_1 := Aside0.mk hl144_1; clear hi144_1 hl144_1; replace p144 := eq_true p144; replace q144 := eq_true q144
   go_wp2_with (first | ((with_reducible refine gate_dst (N := 7) rfl ?_); refine box_event rf_ (N := 7) rf_ (cs := #[.string (⟨#[]⟩ : ByteArray), .slice none 0 0, .int .i64 0, .int .i64 0]) (t := 51) lr_ ?_; intro gb145 hg w12 hbox hb; have BK145 := Aside0.mk hbox; have GE145 := Aside0.mk (ge_ HB hg (hb2_ HB GE142 GE143)); replace HB := Aside0.mk (below_step (hb2_ HB GE142 GE143) hb); have NB142_145 := Aside0.mk (nl_ BK142 hg); have NB145_142 := Aside0.mk (ng_ BK142 hg); replace BK142 := Aside0.mk (bb_ BK142 hb); have NB143_145 := Aside0.mk (nl_ BK143 hg); have NB145_143 := Aside0.mk (ng_ BK143 hg); replace BK143 := Aside0.mk (bb_ BK143 hb); clear hb hbox hg; have hnb13 := NB145_142.out; have hnc13 := NB142_145.out; have hnb14 := NB145_143.out; have hnc14 := NB143_145.out; obtain ⟨hcz15_0, hcz15_1, hcz15_2, hcz15_3⟩ := cz4_ BK145; obtain ⟨hfz15_0, hfz15_1, hfz15_2, hfz15_3⟩ := fz4_ BK145) | (refine gl_ 37 20 Try.func37 #[.agg #[.string ((rd_T51 l0_3 x11_1).f0), .slice A144_1 ((rd_T51 l0_3 x11_1).f1).length c144_1, .int .i64 ((rd_T51 l0_3 x11_1).f2), .int .i64 ((rd_T51 l0_3 x11_1).f3)]] ?_; (with_reducible refine (rules_cloneZone.calls ((rd_T51 l0_3 x11_1).f0) _ _ ((rd_T51 l0_3 x11_1).f1) ((rd_T51 l0_3 x11_1).f2) ((rd_T51 l0_3 x11_1).f3) t146 t147 t150 t151 _ ?side1 ?side2 A11.out).mono ?_); (case side1 => exact Kd.C_below HR144_1.out (hb3_ HB GE142 GE143 GE145)); (case side2 => exact HC144_1.out); rintro e w16 ⟨v148, rfl, ho0, hb⟩; refine ⟨_, rfl, ?_⟩; have HO149 := Aside0.mk (Kd.R_lower ho0 (below_size (hb3_ HB GE142 GE143 GE145))); replace BK142 := Aside0.mk (blk_below (g := gb142) (o := .cells #[.bool a0_0, .bool a0_1, .int .i64 a0_2, .slice (some ad144) l0_3.length c0_3] 24 (0, 0)) (bf4_ BK142 NB142_145 NB142_145 NB142_145 NB142_145) hb); replace BK143 := Aside0.mk (blk_below (g := gb143) (o := .cells #[.string x144000_1, .slice none 0 0, .int .i64 x144002_1, .int .i64 x144003_1] 51 (0, 0)) (bf4_ BK143 NB143_145 NB143_145 NB143_145 NB143_145) hb); replace BK145 := Aside0.mk (blk_below (g := gb145) (o := .cells #[.string ((rd_T51 l0_3 x11_1).f0), .slice A144_1 ((rd_T51 l0_3 x11_1).f1).length c144_1, .int .i64 ((rd_T51 l0_3 x11_1).f2), .int .i64 ((rd_T51 l0_3 x11_1).f3)] 51 (0, 0)) (bq0_ BK145) hb); replace HB := Aside0.mk (below_step (hb3_ HB GE142 GE143 GE145) hb); (try clear hb); (try clear ho0); have hnb17 := NB143_142.out; have hnc17 := NB142_143.out; obtain ⟨hcz18_0, hcz18_1, hcz18_2, hcz18_3⟩ := cz4_ BK143; obtain ⟨hfz18_0, hfz18_1, hfz18_2, hfz18_3⟩ := fz4_ BK143; obtain ⟨Ao19, co19, eo19⟩ := Kd.R_slice HO149.out; subst eo19))
   refine bodyPost_ret (results_ct rfl _ _ gb143 51 #[.string t146, .slice Ao19 t147.length co19, .int .i64 t150, .int .i64 t151] (0, 0) _ rfl (bq0_ BK143) Try.underlying51 rfl (by kernel_rfl)) rfl ?_
   exact ⟨_, er_, rf1_ HO149 BK143, hb3_ HB GE142 GE143 GE145⟩

/-! ### rules_Rate: function 23 -/
def rules_Rate.l0 : Nat → ByteArray → List (S56) → Int → Int → ByteArray → List (S56) → Int → Int → Option (Int)
 | 0, _, _, _, _, _, _, _, _ => none
 | k + 1, x1, x8, x9, x10, x153000, x153001, x153002, x153003 => if x10 < x9 then (if 0 ≤ x10 then (if x10 < (x8.length : Int) then (if ((rd_T56 x8 x10).f0).toList = x1.toList then (some ((rd_T56 x8 x10).f1)) else (rules_Rate.l0 k x1 x8 x9 (wrap64 (x10 + 1)) x153000 x153001 x153002 x153003)) else (none)) else (none)) else (some x153002)
def rules_Rate.f (k : Nat) (a0_0 : ByteArray) (l0_1 : List (S56)) (a0_2 : Int) (a0_3 : Int) (a1 : ByteArray) : Option (Int) := rules_Rate.l0 k a1 l0_1 (l0_1.length : Int) 0 a0_0 l0_1 a0_2 a0_3
set_option maxHeartbeats 8000000 in
set_option maxRecDepth 100000 in
theorem rules_Rate.calls (k : Nat) (a0_0 : ByteArray) (A0_1 : Option Addr) (c0_1 : Nat) (l0_1 : List (S56)) (a0_2 : Int) (a0_3 : Int) (a1 : ByteArray) (r : Int) (w : World) (hr0_1 : Kd.C k56 w A0_1 l0_1.length l0_1) (hc0_1 : l0_1.length ≤ c0_1) (h : rules_Rate.f k a0_0 l0_1 a0_2 a0_3 a1 = some r) :
 Calls Try.prog 23 #[.agg #[.string a0_0, .slice A0_1 l0_1.length c0_1, .int .i64 a0_2, .int .i64 a0_3], .string a1] w fun e w' => e = .returned (.int .i64 r) ∧ Below w.heap.size w w' := by
 have hu51 := Try.underlying51
 have hu56 := Try.underlying56
 have HR0_1 := Aside0.mk hr0_1
 have HC0_1 := Aside0.mk hc0_1
 clear hr0_1 hc0_1
 have HB := Aside0.mk (Below.refl w.heap.size w)
 have H : (rules_Rate.l0 k a1 l0_1 (l0_1.length : Int) 0 a0_0 l0_1 a0_2 a0_3) = some r := h
 clear h
 have H' := Aside0.mk H
 clear H
 go_enter Try.func23, Try.ntmps23
 go_wp2_with (first | ((with_reducible refine gate_dst (N := 2) rfl ?_); refine box_event rf_ (N := 2) rf_ (cs := #[.string a0_0, .slice A0_1 l0_1.length c0_1, .int .i64 a0_2, .int .i64 a0_3]) (t := 51) lr_ ?_; intro gb152 hg w3 hbox hb; have BK152 := Aside0.mk hbox; have GE152 := Aside0.mk (ge_ HB hg (hb0_ HB)); replace HB := Aside0.mk (below_step (hb0_ HB) hb); clear hb hbox hg; obtain ⟨hcz4_0, hcz4_1, hcz4_2, hcz4_3⟩ := cz4_ BK152; obtain ⟨hfz4_0, hfz4_1, hfz4_2, hfz4_3⟩ := fz4_ BK152))
 go_loopg [10] k (fun kq v10 w' => ∃ (x10_1 : Int), v10 = .int .i64 x10_1 ∧ Aside0 (rules_Rate.l0 kq a1 l0_1 (l0_1.length : Int) x10_1 a0_0 l0_1 a0_2 a0_3 = some r) ∧ Aside0 (kq ≤ k) ∧ Aside0 (w'.heap[gb152]? = some (.cells #[.string a0_0, (.slice A0_1 l0_1.length c0_1), .int .i64 a0_2, .int .i64 a0_3] 51 (0, 0))) ∧ Aside0 (Below w.heap.size w w'))
 case atStart => exact ⟨(0), rf_, H', ⟨Nat.le_refl _⟩, ⟨bk_ BK152⟩, ⟨hb1_ HB GE152⟩⟩
 case round =>
  clear H'; (try clear c2); (try clear p2); (try clear hcz4_0 hcz4_1 hcz4_2 hcz4_3); (try clear hfz4_0 hfz4_1 hfz4_2 hfz4_3); obtain ⟨x10_1, rfl, HA, HK1, BK152, HB⟩ := hrel
  cases gk with
  | zero => exact absurd HA.out (by simp [rules_Rate.l0])
  | succ k1 =>
   have H := HA.out; clear HA
   simp only [rules_Rate.l0] at H
   by_cases c5 : x10_1 < (l0_1.length : Int)
   rotate_left
   ·
    rw [if_neg c5] at H; have c5b0 := decide_eq_false c5; clear c5; obtain rfl := Option.some.inj H; obtain ⟨hcz15_0, hcz15_1, hcz15_2, hcz15_3⟩ := cz4_ BK152; obtain ⟨hfz15_0, hfz15_1, hfz15_2, hfz15_3⟩ := fz4_ BK152
    go_wp2
    go_ret
    exact ⟨er_, hb1_ HB GE152⟩
   rw [if_pos c5] at H; have c5b0 := decide_eq_true c5; clear c5; replace H := ip_ H; obtain ⟨c6, H⟩ := H; have c6b0 := decide_eq_true c6; clear c6; replace H := ip_ H; obtain ⟨c7, H⟩ := H; have c7b0 := decide_eq_true c7; clear c7
   by_cases c8 : ((rd_T56 l0_1 x10_1).f0).toList = a1.toList
   ·
    rw [if_pos c8] at H; have c8b0 : (((rd_T56 l0_1 x10_1).f0).toList == a1.toList) = true := beq_iff_eq.mpr c8; have c8b1 : (((rd_T56 l0_1 x10_1).f0).toList != a1.toList) = false := bne_eq_false_iff_eq.mpr c8; clear c8; obtain rfl := Option.some.inj H; have p153 : 0 ≤ (x10_1 : Int) := of_decide_eq_true as_
    have q153 : x10_1 < (l0_1.length : Int) := of_decide_eq_true as_; obtain ⟨ad153, e153, hx153_0, hx153_1⟩ := at_T56 HR0_1.out x10_1 p153 q153; cases e153; replace hx153_0 := hd_ HB hx153_0; replace hx153_1 := hd_ HB hx153_1; replace p153 := eq_true p153; replace q153 := eq_true q153
    go_wp2_with (first | ((with_reducible refine gate_dst (N := 6) rfl ?_); refine box_event rf_ (N := 6) rf_ (cs := #[.string (⟨#[]⟩ : ByteArray), .int .i64 0]) (t := 56) lr_ ?_; intro gb154 hg w9 hbox hb; have BK154 := Aside0.mk hbox; have GE154 := Aside0.mk (ge_ HB hg (hb1_ HB GE152)); replace HB := Aside0.mk (below_step (hb1_ HB GE152) hb); have NB152_154 := Aside0.mk (nl_ BK152 hg); have NB154_152 := Aside0.mk (ng_ BK152 hg); replace BK152 := Aside0.mk (bb_ BK152 hb); clear hb hbox hg; have hnb10 := NB154_152.out; have hnc10 := NB152_154.out; obtain ⟨hcz11_0, hcz11_1⟩ := cz2_ BK154; obtain ⟨hfz11_0, hfz11_1⟩ := fz2_ BK154))
    go_ret
    exact ⟨er_, hb2_ HB GE152 GE154⟩
   rw [if_neg c8] at H; have c8b0 : (((rd_T56 l0_1 x10_1).f0).toList == a1.toList) = false := beq_eq_false_iff_ne.mpr c8; have c8b1 : (((rd_T56 l0_1 x10_1).f0).toList != a1.toList) = true := bne_iff_ne.mpr c8; have H' := Aside0.mk H; clear H; have p153 : 0 ≤ (x10_1 : Int) := of_decide_eq_true as_; have q153 : x10_1 < (l0_1.length : Int) := of_decide_eq_true as_
   obtain ⟨ad153, e153, hx153_0, hx153_1⟩ := at_T56 HR0_1.out x10_1 p153 q153; cases e153; replace hx153_0 := hd_ HB hx153_0; replace hx153_1 := hd_ HB hx153_1; replace p153 := eq_true p153; replace q153 := eq_true q153
   go_wp2_with (first | ((with_reducible refine gate_dst (N := 6) rfl ?_); refine box_event rf_ (N := 6) rf_ (cs := #[.string (⟨#[]⟩ : ByteArray), .int .i64 0]) (t := 56) lr_ ?_; intro gb154 hg w12 hbox hb; have BK154 := Aside0.mk hbox; have GE154 := Aside0.mk (ge_ HB hg (hb1_ HB GE152)); replace HB := Aside0.mk (below_step (hb1_ HB GE152) hb); have NB152_154 := Aside0.mk (nl_ BK152 hg); have NB154_152 := Aside0.mk (ng_ BK152 hg); replace BK152 := Aside0.mk (bb_ BK152 hb); clear hb hbox hg; have hnb13 := NB154_152.out; have hnc13 := NB152_154.out; obtain ⟨hcz14_0, hcz14_1⟩ := cz2_ BK154; obtain ⟨hfz14_0, hfz14_1⟩ := fz2_ BK154))
   go_roundg k1
   case measure => have := HK1.out; omega
   case rel => exact ⟨(wrap64 (x10_1 + 1)), rf_, H', ⟨ho_ HK1⟩, ⟨bf2_ BK152 NB152_154 NB152_154⟩, ⟨hb2_ HB GE152 GE154⟩⟩

end Go.Proofs.Ytmiamdnhofjifaa.Rw
end
section
/- Functions of the program as Lean functions, each with its contract: out of what the kit's printer wrote for this seat. -/
namespace Go.Proofs.Ytmiamdnhofjifaa.Rw
open Go.RowKit Go.Proofs.YtmiamdnhofjifaaW.PrintWords Go.Proofs.YtmiamdnhofjifaaW.PrintLast Go.Proofs.YtmiamdnhofjifaaW.PrintMore
attribute [local go_sem] max2_int min2_int max_two min_two max_three min_three max_four min_four   -- for this text's walks alone
set_option linter.unusedVariables false
set_option linter.unusedSimpArgs false
attribute [local go_sem high] leqS gtrS

/-! ### levy_Levy: function 11 -/
mutual
def levy_Levy.l0 : Nat → Bool → List Int → Int → List Int → List ByteArray → Int → Int → Bool → Bool → Int → List (S51) → ByteArray → List (S56) → Int → Int → Option (List Int × List Int × Int × Int × Int)
 | 0, _, _, _, _, _, _, _, _, _, _, _, _, _, _, _ => none
 | k + 1, x2, x4, x5, x19, x39, x40, x41, x189000, x189001, x189002, x189003, x198000, x198001, x198002, x198003 => if x41 < x40 then (if 0 ≤ x41 then (if x41 < (x39.length : Int) then ((rules_Rate.f k x198000 x198001 x198002 x198003 (rdOf ByteArray.empty x39 x41)).bind fun t199 => (if x19.length < 17592186044416 then (levy_Levy.l0 k x2 x4 x5 (x19 ++ [t199]) x39 x40 (wrap64 (x41 + 1)) x189000 x189001 x189002 x189003 x198000 x198001 x198002 x198003) else (none))) else (none)) else (none)) else (if x189001 = true then (levy_Levy.j1 k x2 x4 x5 ([] : List Int) x19 77700025 x189000 x189001 x189002 x189003 x198000 x198001 x198002 x198003) else (levy_Levy.j1 k x2 x4 x5 ([] : List Int) x19 77700024 x189000 x189001 x189002 x189003 x198000 x198001 x198002 x198003))
def levy_Levy.j1 : Nat → Bool → List Int → Int → List Int → List Int → Int → Bool → Bool → Int → List (S51) → ByteArray → List (S56) → Int → Int → Option (List Int × List Int × Int × Int × Int)
 | 0, _, _, _, _, _, _, _, _, _, _, _, _, _, _ => none
 | k + 1, x2, x4, x5, x12, x19, x22, x189000, x189001, x189002, x189003, x198000, x198001, x198002, x198003 => (levy_byOrder.f x22 x189000 x189001 x189002 x189003 x19 x4).bind fun t203 => ((levy_much.f x189000 x189001 x189002 x189003 x5 x198003).bind fun t206 => (levy_Levy.l1 k x2 x4 x12 t203 x5 t206 x4 (x4.length : Int) 0 x189000 x189001 x189002 x189003))
def levy_Levy.l1 : Nat → Bool → List Int → List Int → List Int → Int → Int → List Int → Int → Int → Bool → Bool → Int → List (S51) → Option (List Int × List Int × Int × Int × Int)
 | 0, _, _, _, _, _, _, _, _, _, _, _, _, _ => none
 | k + 1, x2, x4, x12, x13, x14, x15, x65, x66, x67, x189000, x189001, x189002, x189003 => if x67 < x66 then (if 0 ≤ x67 then (if x67 < (x65.length : Int) then (if x189000 = true then (if x67 < (x13.length : Int) then (if x12.length < 17592186044416 then (levy_Levy.l1 k x2 x4 (x12 ++ [wrap64 ((rd x65 x67) - (rd x13 x67))]) x13 x14 x15 x65 x66 (wrap64 (x67 + 1)) x189000 x189001 x189002 x189003) else (none)) else (none)) else (if x12.length < 17592186044416 then (levy_Levy.l1 k x2 x4 (x12 ++ [rd x65 x67]) x13 x14 x15 x65 x66 (wrap64 (x67 + 1)) x189000 x189001 x189002 x189003) else (none))) else (none)) else (none)) else (if x189000 = true then (if x2 = true then (if 0 ≤ (x4.length : Int) then (if ((x4.length : Int) : Int).toNat ≤ 35184372088832 then (some (x12, (List.replicate ((x4.length : Int) : Int).toNat 0), wrap64 (x14 - x15), 0, 0)) else (none)) else (none)) else (some (x12, x13, wrap64 (x14 - x15), x15, 0))) else (if x2 = true then (if 0 ≤ (x4.length : Int) then (if ((x4.length : Int) : Int).toNat ≤ 35184372088832 then (some (x12, (List.replicate ((x4.length : Int) : Int).toNat 0), x14, 0, 0)) else (none)) else (none)) else (some (x12, x13, x14, x15, 0))))
end
def levy_Levy.f (k : Nat) (a0_0 : Bool) (a0_1 : Bool) (a0_2 : Int) (l0_3 : List (S51)) (a1 : ByteArray) (a2 : Bool) (l3 : List ByteArray) (l4 : List Int) (a5 : Int) : Option (List Int × List Int × Int × Int × Int) := (levy_may.f k a0_0 a0_1 a0_2 l0_3 l3 l4 a5).bind fun t189 => (if t189 = true then ((rules_Zone.f k a0_0 a0_1 a0_2 l0_3 a1).bind fun bt190 => (if bt190.2.2.2.2 = true then (levy_Levy.l0 k a2 l4 a5 ([] : List Int) l3 (l3.length : Int) 0 a0_0 a0_1 a0_2 l0_3 bt190.1 bt190.2.1 bt190.2.2.1 bt190.2.2.2.1) else (some (([] : List Int), ([] : List Int), 0, 0, 7)))) else (some (([] : List Int), ([] : List Int), 0, 0, 2)))
set_option maxHeartbeats 8000000 in
set_option maxRecDepth 100000 in
theorem levy_Levy.calls (k : Nat) (a0_0 : Bool) (a0_1 : Bool) (a0_2 : Int) (A0_3 : Option Addr) (c0_3 : Nat) (l0_3 : List (S51)) (a1 : ByteArray) (a2 : Bool) (A3 : Option Addr) (c3 : Nat) (l3 : List ByteArray) (A4 : Option Addr) (c4 : Nat) (l4 : List Int) (a5 : Int) (r1 : List Int) (r2 : List Int) (r3 : Int) (r4 : Int) (r5 : Int) (w : World) (hr0_3 : Kd.C k51 w A0_3 l0_3.length l0_3) (hc0_3 : l0_3.length ≤ c0_3) (hr3 : Kd.C Kd.string w A3 l3.length l3) (hc3 : l3.length ≤ c3) (hr4 : Kd.C (Kd.int .i64) w A4 l4.length l4) (hc4 : l4.length ≤ c4) (h : levy_Levy.f k a0_0 a0_1 a0_2 l0_3 a1 a2 l3 l4 a5 = some (r1, r2, r3, r4, r5)) :
 Calls Try.prog 11 #[.agg #[.bool a0_0, .bool a0_1, .int .i64 a0_2, .slice A0_3 l0_3.length c0_3], .string a1, .bool a2, .slice A3 l3.length c3, .slice A4 l4.length c4, .int .i64 a5] w fun e w' => ∃ v0_ v1_ : Value, e = .returned (.tuple #[v0_, v1_, .int .i64 r3, .int .i64 r4, .int .i64 r5]) ∧ Kd.R (Kd.int .i64) 2 w' w.heap.size (fun k_ => some k_ ≠ (v1_ : Value).ownBlock) v0_ r1 ∧ Kd.R (Kd.int .i64) 2 w' w.heap.size (fun k_ => some k_ ≠ (v0_ : Value).ownBlock) v1_ r2 ∧ Below w.heap.size w w' := by
 have hu24 := Try.underlying24
 have hu51 := Try.underlying51
 have HR0_3 := Aside0.mk hr0_3
 have HC0_3 := Aside0.mk hc0_3
 clear hr0_3 hc0_3
 have HR3 := Aside0.mk hr3
 have HC3 := Aside0.mk hc3
 clear hr3 hc3
 have HR4 := Aside0.mk hr4
 have HC4 := Aside0.mk hc4
 clear hr4 hc4
 have HB := Aside0.mk (Below.refl w.heap.size w)
 have H : ((levy_may.f k a0_0 a0_1 a0_2 l0_3 l3 l4 a5).bind fun t189 => (if t189 = true then ((rules_Zone.f k a0_0 a0_1 a0_2 l0_3 a1).bind fun bt190 => (if bt190.2.2.2.2 = true then (levy_Levy.l0 k a2 l4 a5 ([] : List Int) l3 (l3.length : Int) 0 a0_0 a0_1 a0_2 l0_3 bt190.1 bt190.2.1 bt190.2.2.1 bt190.2.2.2.1) else (some (([] : List Int), ([] : List Int), 0, 0, 7)))) else (some (([] : List Int), ([] : List Int), 0, 0, 2)))) = some (r1, r2, r3, r4, r5) := h
 clear h
 replace H := Option.bind_eq_some_iff.mp H
 obtain ⟨t189, A70, H⟩ := H
 replace H : (if t189 = true then ((rules_Zone.f k a0_0 a0_1 a0_2 l0_3 a1).bind fun bt190 => (if bt190.2.2.2.2 = true then (levy_Levy.l0 k a2 l4 a5 ([] : List Int) l3 (l3.length : Int) 0 a0_0 a0_1 a0_2 l0_3 bt190.1 bt190.2.1 bt190.2.2.1 bt190.2.2.2.1) else (some (([] : List Int), ([] : List Int), 0, 0, 7)))) else (some (([] : List Int), ([] : List Int), 0, 0, 2))) = some (r1, r2, r3, r4, r5) := H
 have A7 := Aside0.mk A70
 clear A70
 by_cases c8 : t189 = true
 rotate_left
 ·
  replace c8 := Bool.eq_false_iff.mpr c8; subst c8; rw [if_neg nf_] at H
  simp only [Option.some.injEq, Prod.mk.injEq] at H
  obtain ⟨rfl, rfl, rfl, rfl, rfl⟩ := H
  go_enter Try.func11, Try.ntmps11
  go_wp2_with (first | ((with_reducible refine gate_dst (N := 6) rfl ?_); refine box_event rf_ (N := 6) rf_ (cs := #[.bool a0_0, .bool a0_1, .int .i64 a0_2, .slice A0_3 l0_3.length c0_3]) (t := 24) lr_ ?_; intro gb188 hg w84 hbox hb; have BK188 := Aside0.mk hbox; have GE188 := Aside0.mk (ge_ HB hg (hb0_ HB)); replace HB := Aside0.mk (below_step (hb0_ HB) hb); clear hb hbox hg; obtain ⟨hcz85_0, hcz85_1, hcz85_2, hcz85_3⟩ := cz4_ BK188; obtain ⟨hfz85_0, hfz85_1, hfz85_2, hfz85_3⟩ := fz4_ BK188) | (refine gl_ 21 29 Try.func21 #[.agg #[.bool a0_0, .bool a0_1, .int .i64 a0_2, .slice A0_3 l0_3.length c0_3], .slice A3 l3.length c3, .slice A4 l4.length c4, .int .i64 a5] ?_; (with_reducible refine (levy_may.calls k a0_0 a0_1 a0_2 _ _ l0_3 _ _ l3 _ _ l4 a5 false _ ?side1 ?side2 ?side3 ?side4 ?side5 ?side6 A7.out).mono ?_); (case side1 => exact sc_ (Kd.C_below HR0_3.out HB.out)); (case side2 => exact HC0_3.out); (case side3 => exact sc_ (Kd.C_below HR3.out HB.out)); (case side4 => exact HC3.out); (case side5 => exact sc_ (Kd.C_below HR4.out HB.out)); (case side6 => exact HC4.out); rintro e w86 ⟨rfl, hb⟩; refine ⟨_, rfl, ?_⟩; replace BK188 := Aside0.mk (bb_ BK188 hb); replace HB := Aside0.mk (below_step (hb1_ HB GE188) hb); (try clear hb)))
  refine bodyPost_ret (results_list (rs := [.tmp 12, .tmp 13, .tmp 14, .tmp 15, .tmp 16]) rfl (by simp) (.tmp (.tmp (.tmp (.tmp (.tmp .nil)))))) rfl ?_
  exact ⟨_, _, er_, ni_, ni_, hb1_ HB GE188⟩
 subst c8
 rw [if_pos rfl] at H
 replace H := Option.bind_eq_some_iff.mp H
 obtain ⟨⟨t190, t191, t194, t195, t196⟩, A90, H⟩ := H
 replace H : (if t196 = true then (levy_Levy.l0 k a2 l4 a5 ([] : List Int) l3 (l3.length : Int) 0 a0_0 a0_1 a0_2 l0_3 t190 t191 t194 t195) else (some (([] : List Int), ([] : List Int), 0, 0, 7))) = some (r1, r2, r3, r4, r5) := H
 have A9 := Aside0.mk A90
 clear A90
 by_cases c10 : t196 = true
 rotate_left
 ·
  replace c10 := Bool.eq_false_iff.mpr c10; subst c10; rw [if_neg nf_] at H
  simp only [Option.some.injEq, Prod.mk.injEq] at H
  obtain ⟨rfl, rfl, rfl, rfl, rfl⟩ := H
  go_enter Try.func11, Try.ntmps11
  go_wp2_with (first | ((with_reducible refine gate_dst (N := 6) rfl ?_); refine box_event rf_ (N := 6) rf_ (cs := #[.bool a0_0, .bool a0_1, .int .i64 a0_2, .slice A0_3 l0_3.length c0_3]) (t := 24) lr_ ?_; intro gb188 hg w75 hbox hb; have BK188 := Aside0.mk hbox; have GE188 := Aside0.mk (ge_ HB hg (hb0_ HB)); replace HB := Aside0.mk (below_step (hb0_ HB) hb); clear hb hbox hg; obtain ⟨hcz76_0, hcz76_1, hcz76_2, hcz76_3⟩ := cz4_ BK188; obtain ⟨hfz76_0, hfz76_1, hfz76_2, hfz76_3⟩ := fz4_ BK188) | (refine gl_ 21 29 Try.func21 #[.agg #[.bool a0_0, .bool a0_1, .int .i64 a0_2, .slice A0_3 l0_3.length c0_3], .slice A3 l3.length c3, .slice A4 l4.length c4, .int .i64 a5] ?_; (with_reducible refine (levy_may.calls k a0_0 a0_1 a0_2 _ _ l0_3 _ _ l3 _ _ l4 a5 true _ ?side1 ?side2 ?side3 ?side4 ?side5 ?side6 A7.out).mono ?_); (case side1 => exact sc_ (Kd.C_below HR0_3.out HB.out)); (case side2 => exact HC0_3.out); (case side3 => exact sc_ (Kd.C_below HR3.out HB.out)); (case side4 => exact HC3.out); (case side5 => exact sc_ (Kd.C_below HR4.out HB.out)); (case side6 => exact HC4.out); rintro e w77 ⟨rfl, hb⟩; refine ⟨_, rfl, ?_⟩; replace BK188 := Aside0.mk (bb_ BK188 hb); replace HB := Aside0.mk (below_step (hb1_ HB GE188) hb); (try clear hb); obtain ⟨hcz78_0, hcz78_1, hcz78_2, hcz78_3⟩ := cz4_ BK188; obtain ⟨hfz78_0, hfz78_1, hfz78_2, hfz78_3⟩ := fz4_ BK188) | (refine gl_ 22 34 Try.func22 #[.agg #[.bool a0_0, .bool a0_1, .int .i64 a0_2, .slice A0_3 l0_3.length c0_3], .string a1] ?_; (with_reducible refine (rules_Zone.calls k a0_0 a0_1 a0_2 _ _ l0_3 a1 t190 t191 t194 t195 false _ ?side1 ?side2 A9.out).mono ?_); (case side1 => exact sc_ (Kd.C_below HR0_3.out HB.out)); (case side2 => exact HC0_3.out); rintro e w79 ⟨v192, rfl, ho0, hb⟩; refine ⟨_, rfl, ?_⟩; have HO193 := Aside0.mk (Kd.R_lower ho0 (below_size (hb1_ HB GE188))); replace BK188 := Aside0.mk (bb_ BK188 hb); replace HB := Aside0.mk (below_step (hb1_ HB GE188) hb); (try clear hb); (try clear ho0)) | ((with_reducible refine gate_dst (N := 17) rfl ?_); refine box_event rf_ (N := 17) rf_ (cs := #[.string (⟨#[]⟩ : ByteArray), .slice none 0 0, .int .i64 0, .int .i64 0]) (t := 51) lr_ ?_; intro gb197 hg w80 hbox hb; replace HO193 := Aside0.mk (Kd.R_below (ro_ HO193) hb); have BK197 := Aside0.mk hbox; have GE197 := Aside0.mk (ge_ HB hg (hb1_ HB GE188)); replace HB := Aside0.mk (below_step (hb1_ HB GE188) hb); have NB188_197 := Aside0.mk (nl_ BK188 hg); have NB197_188 := Aside0.mk (ng_ BK188 hg); replace BK188 := Aside0.mk (bb_ BK188 hb); clear hb hbox hg; have hnb81 := NB197_188.out; have hnc81 := NB188_197.out; obtain ⟨hcz82_0, hcz82_1, hcz82_2, hcz82_3⟩ := cz4_ BK197; obtain ⟨hfz82_0, hfz82_1, hfz82_2, hfz82_3⟩ := fz4_ BK197; obtain ⟨Ao83, co83, eo83⟩ := Kd.R_slice HO193.out; subst eo83))
  refine bodyPost_ret (results_list (rs := [.tmp 12, .tmp 13, .tmp 14, .tmp 15, .tmp 16]) rfl (by simp) (.tmp (.tmp (.tmp (.tmp (.tmp .nil)))))) rfl ?_
  exact ⟨_, _, er_, ni_, ni_, hb2_ HB GE188 GE197⟩
 subst c10
 rw [if_pos rfl] at H
 have H' := Aside0.mk H
 clear H
 go_enter Try.func11, Try.ntmps11
 go_wp2_with (first | ((with_reducible refine gate_dst (N := 6) rfl ?_); refine box_event rf_ (N := 6) rf_ (cs := #[.bool a0_0, .bool a0_1, .int .i64 a0_2, .slice A0_3 l0_3.length c0_3]) (t := 24) lr_ ?_; intro gb188 hg w11 hbox hb; have BK188 := Aside0.mk hbox; have GE188 := Aside0.mk (ge_ HB hg (hb0_ HB)); replace HB := Aside0.mk (below_step (hb0_ HB) hb); clear hb hbox hg; obtain ⟨hcz12_0, hcz12_1, hcz12_2, hcz12_3⟩ := cz4_ BK188; obtain ⟨hfz12_0, hfz12_1, hfz12_2, hfz12_3⟩ := fz4_ BK188) | (refine gl_ 21 29 Try.func21 #[.agg #[.bool a0_0, .bool a0_1, .int .i64 a0_2, .slice A0_3 l0_3.length c0_3], .slice A3 l3.length c3, .slice A4 l4.length c4, .int .i64 a5] ?_; (with_reducible refine (levy_may.calls k a0_0 a0_1 a0_2 _ _ l0_3 _ _ l3 _ _ l4 a5 true _ ?side1 ?side2 ?side3 ?side4 ?side5 ?side6 A7.out).mono ?_); (case side1 => exact sc_ (Kd.C_below HR0_3.out HB.out)); (case side2 => exact HC0_3.out); (case side3 => exact sc_ (Kd.C_below HR3.out HB.out)); (case side4 => exact HC3.out); (case side5 => exact sc_ (Kd.C_below HR4.out HB.out)); (case side6 => exact HC4.out); rintro e w13 ⟨rfl, hb⟩; refine ⟨_, rfl, ?_⟩; replace BK188 := Aside0.mk (bb_ BK188 hb); replace HB := Aside0.mk (below_step (hb1_ HB GE188) hb); (try clear hb); obtain ⟨hcz14_0, hcz14_1, hcz14_2, hcz14_3⟩ := cz4_ BK188; obtain ⟨hfz14_0, hfz14_1, hfz14_2, hfz14_3⟩ := fz4_ BK188) | (refine gl_ 22 34 Try.func22 #[.agg #[.bool a0_0, .bool a0_1, .int .i64 a0_2, .slice A0_3 l0_3.length c0_3], .string a1] ?_; (with_reducible refine (rules_Zone.calls k a0_0 a0_1 a0_2 _ _ l0_3 a1 t190 t191 t194 t195 true _ ?side1 ?side2 A9.out).mono ?_); (case side1 => exact sc_ (Kd.C_below HR0_3.out HB.out)); (case side2 => exact HC0_3.out); rintro e w15 ⟨v192, rfl, ho0, hb⟩; refine ⟨_, rfl, ?_⟩; have HO193 := Aside0.mk (Kd.R_lower ho0 (below_size (hb1_ HB GE188))); replace BK188 := Aside0.mk (bb_ BK188 hb); replace HB := Aside0.mk (below_step (hb1_ HB GE188) hb); (try clear hb); (try clear ho0)) | ((with_reducible refine gate_dst (N := 17) rfl ?_); refine box_event rf_ (N := 17) rf_ (cs := #[.string (⟨#[]⟩ : ByteArray), .slice none 0 0, .int .i64 0, .int .i64 0]) (t := 51) lr_ ?_; intro gb197 hg w16 hbox hb; replace HO193 := Aside0.mk (Kd.R_below (ro_ HO193) hb); have BK197 := Aside0.mk hbox; have GE197 := Aside0.mk (ge_ HB hg (hb1_ HB GE188)); replace HB := Aside0.mk (below_step (hb1_ HB GE188) hb); have NB188_197 := Aside0.mk (nl_ BK188 hg); have NB197_188 := Aside0.mk (ng_ BK188 hg); replace BK188 := Aside0.mk (bb_ BK188 hb); clear hb hbox hg; have hnb17 := NB197_188.out; have hnc17 := NB188_197.out; obtain ⟨hcz18_0, hcz18_1, hcz18_2, hcz18_3⟩ := cz4_ BK197; obtain ⟨hfz18_0, hfz18_1, hfz18_2, hfz18_3⟩ := fz4_ BK197; obtain ⟨Ao19, co19, eo19⟩ := Kd.R_slice HO193.out; subst eo19))
 go_loopg [19, 41] k (fun kq v19 v41 w' => ∃ (x19_1 : List Int) (x41_1 : Int), v41 = .int .i64 x41_1 ∧ Aside0 (levy_Levy.l0 kq a2 l4 a5 x19_1 l3 (l3.length : Int) x41_1 a0_0 a0_1 a0_2 l0_3 t190 t191 t194 t195 = some (r1, r2, r3, r4, r5)) ∧ Aside0 (kq ≤ k) ∧ Aside0 (Kd.R (Kd.int .i64) 2 w' w.heap.size (fun _ => True) v19 x19_1) ∧ Aside0 (Kd.R k56 56 w' w.heap.size (fun _ => True) (.slice Ao19 t191.length co19) t191) ∧ Aside0 (w'.heap[gb188]? = some (.cells #[.bool a0_0, .bool a0_1, .int .i64 a0_2, (.slice A0_3 l0_3.length c0_3)] 24 (0, 0))) ∧ Aside0 (w'.heap[gb197]? = some (.cells #[.string t190, (.slice Ao19 t191.length co19), .int .i64 t194, .int .i64 t195] 51 (0, 0))) ∧ Aside0 (Below w.heap.size w w'))
 case atStart => exact ⟨(([] : List Int)), (0), rf_, H', ⟨Nat.le_refl _⟩, ⟨ni_⟩, ⟨rf1_ HO193 BK197⟩, ⟨bf4_ BK188 NB188_197 NB188_197 NB188_197 NB188_197⟩, ⟨bq0_ BK197⟩, ⟨hb2_ HB GE188 GE197⟩⟩
 case round =>
  clear H'; (try clear c1); (try clear c2); (try clear p2); (try clear c3); (try clear c4); (try clear c8); (try clear c10); (try clear c11); (try clear c17); (try clear hcz12_0 hcz12_1 hcz12_2 hcz12_3); (try clear hcz14_0 hcz14_1 hcz14_2 hcz14_3); (try clear hcz18_0 hcz18_1 hcz18_2 hcz18_3); (try clear hfz12_0 hfz12_1 hfz12_2 hfz12_3)
  (try clear hfz14_0 hfz14_1 hfz14_2 hfz14_3); (try clear hfz18_0 hfz18_1 hfz18_2 hfz18_3); obtain ⟨x19_1, x41_1, rfl, HA, HK1, HO_19, HO_198001, BK188, BK197, HB⟩ := hrel
  cases gk with
  | zero => exact absurd HA.out (by simp [levy_Levy.l0])
  | succ k1 =>
   have H := HA.out; clear HA
   simp only [levy_Levy.l0] at H
   by_cases c20 : x41_1 < (l3.length : Int)
   ·
    rw [if_pos c20] at H; have c20b0 := decide_eq_true c20; clear c20; replace H := ip_ H; obtain ⟨c21, H⟩ := H; have c21b0 := decide_eq_true c21; clear c21; replace H := ip_ H; obtain ⟨c22, H⟩ := H; have c22b0 := decide_eq_true c22; clear c22; replace H := Option.bind_eq_some_iff.mp H; obtain ⟨t199, A230, H⟩ := H
    replace H : (if x19_1.length < 17592186044416 then (levy_Levy.l0 k1 a2 l4 a5 (x19_1 ++ [t199]) l3 (l3.length : Int) (wrap64 (x41_1 + 1)) a0_0 a0_1 a0_2 l0_3 t190 t191 t194 t195) else (none)) = some (r1, r2, r3, r4, r5) := H; have A23 := Aside0.mk A230; clear A230; replace H := ip_ H; obtain ⟨c24, H⟩ := H
    have LMc24 := Aside0.mk c24; clear c24; obtain ⟨y200, hy200⟩ : ∃ y_ : List Int, y_ = (x19_1 ++ [t199]) := ⟨_, rfl⟩; replace H : (levy_Levy.l0 k1 a2 l4 a5 y200 l3 (l3.length : Int) (wrap64 (x41_1 + 1)) a0_0 a0_1 a0_2 l0_3 t190 t191 t194 t195) = some (r1, r2, r3, r4, r5) := hy_ hy200 H; have Ny200 := Aside0.mk hy200
    clear hy200; have H' := Aside0.mk H; clear H; have p198 : 0 ≤ (x41_1 : Int) := of_decide_eq_true as_; have q198 : x41_1 < (l3.length : Int) := of_decide_eq_true as_; obtain ⟨ad198, e198, hx198_0⟩ := Kd.at_string HR3.out x41_1 p198 q198; cases e198; replace hx198_0 := hd_ HB hx198_0; replace p198 := eq_true p198
    replace q198 := eq_true q198; have hnb25 := NB197_188.out; have hnc25 := NB188_197.out; obtain ⟨hcz26_0, hcz26_1, hcz26_2, hcz26_3⟩ := cz4_ BK197; obtain ⟨hfz26_0, hfz26_1, hfz26_2, hfz26_3⟩ := fz4_ BK197
    go_wp2_with (first | (refine gl_ 23 48 Try.func23 #[.agg #[.string t190, .slice Ao19 t191.length co19, .int .i64 t194, .int .i64 t195], .string (rdOf ByteArray.empty l3 x41_1)] ?_; (with_reducible refine (rules_Rate.calls k1 t190 _ _ t191 t194 t195 (rdOf ByteArray.empty l3 x41_1) t199 _ ?side1 ?side2 A23.out).mono ?_); (case side1 => exact sc_ (Kd.R_reads' HO_198001.out).2.2); (case side2 => exact (Kd.R_reads' HO_198001.out).2.1); rintro e w27 ⟨rfl, hb⟩; refine ⟨_, rfl, ?_⟩; replace HO_19 := Aside0.mk (Kd.R_below (ro_ HO_19) hb); replace HO_198001 := Aside0.mk (Kd.R_below (ro_ HO_198001) hb); replace BK188 := Aside0.mk (bb_ BK188 hb); replace BK197 := Aside0.mk (bb_ BK197 hb); replace HB := Aside0.mk (below_step (hb2_ HB GE188 GE197) hb); (try clear hb)) | ((with_reducible refine gate_builtin (b := .append) (xs := #[.tmp 45, .tmp 49]) rfl ?_); at_builtin; refine Kd.R_append (Kd.int .i64) (w0 := w) w.heap.size rfl (.tmp 45) (.tmp 49) 26 2 (.int .i64 0) 8 rfl Try.underlying26 info2 rfl (by decide) (by omega) u19 x19_1 t199 [.int .i64 t199] (fun _ => True) (fun _ => False) rfl rfl ?aP (fun _ hk => hk.elim) ?aF ?aO ?aB ?aS ?aL ?_; (case aP => exact rfl); (case aB => exact (hb2_ HB GE188 GE197)); (case aF => exact (fun _ _ => trivial)); (case aO => exact (ro_ HO_19)); (case aS => exact (below_size (hb2_ HB GE188 GE197))); (case aL => have := LMc24.out; omega); intro v201 w28 ho hb hg hat; rw [← Ny200.out] at ho; have n0_ := Aside0.mk (Kd.R_over' (ro_ HO_198001) (Kd.R_typed (ro_ HO_19)) (by decide) hg); have n1_ := Aside0.mk (blk_grown (g := gb188) (o := .cells #[.bool a0_0, .bool a0_1, .int .i64 a0_2, .slice A0_3 l0_3.length c0_3] 24 (0, 0)) (bk_ BK188) hg (Kd.R_ne HO_19.out BK188.out (by decide))); have n2_ := Aside0.mk (blk_grown (g := gb197) (o := .cells #[.string t190, .slice Ao19 t191.length co19, .int .i64 t194, .int .i64 t195] 51 (0, 0)) (bk_ BK197) hg (Kd.R_ne HO_19.out BK197.out (by decide))); have n3_ := Aside0.mk hb; have n4_ := Aside0.mk ho; clear HO_198001; clear BK188; clear BK197; clear HB; clear HO_19; have HO_198001 := n0_; have BK188 := n1_; have BK197 := n2_; have HB := n3_; have HO202 := n4_; clear n0_ n1_ n2_ n3_ n4_; clear ho hb hg hat))
    go_roundg k1
    case measure => have := HK1.out; omega
    case rel => exact ⟨(y200), (wrap64 (x41_1 + 1)), rf_, H', ⟨ho_ HK1⟩, ⟨ro_ HO202⟩, ⟨ro_ HO_198001⟩, ⟨bk_ BK188⟩, ⟨bk_ BK197⟩, ⟨hb2_ HB GE188 GE197⟩⟩
   rw [if_neg c20] at H; have c20b0 := decide_eq_false c20; clear c20; have HC29 := Aside0.mk H; clear H; have hnb30 := NB188_197.out; have hnc30 := NB197_188.out; obtain ⟨hcz31_0, hcz31_1, hcz31_2, hcz31_3⟩ := cz4_ BK188; obtain ⟨hfz31_0, hfz31_1, hfz31_2, hfz31_3⟩ := fz4_ BK188
   go_upto_if 53 with (fail)
   go_cut [22] (fun v22 wc => ∃ (kq : Nat) (x22_28 : Int), v22 = (.func (.func (HF.wy x22_28)) #[] #[]) ∧ Aside0 (levy_Levy.j1 kq a2 l4 a5 ([] : List Int) x19_1 x22_28 a0_0 a0_1 a0_2 l0_3 t190 t191 t194 t195 = some (r1, r2, r3, r4, r5)) ∧ Aside0 (kq ≤ k1) ∧ Aside0 (Kd.R (Kd.int .i64) 2 wc w.heap.size (fun k_ => some k_ ≠ (u19 : Value).ownBlock) (.slice none 0 0) ([] : List Int)) ∧ Aside0 (Kd.R (Kd.int .i64) 2 wc w.heap.size (fun k_ => some k_ ≠ ((.slice none 0 0) : Value).ownBlock) u19 x19_1) ∧ Aside0 (Kd.R k56 56 wc w.heap.size (fun _ => True) (.slice Ao19 t191.length co19) t191) ∧ Aside0 (wc.heap[gb188]? = some (.cells #[.bool a0_0, .bool a0_1, .int .i64 a0_2, (.slice A0_3 l0_3.length c0_3)] 24 (0, 0))) ∧ Aside0 (wc.heap[gb197]? = some (.cells #[.string t190, (.slice Ao19 t191.length co19), .int .i64 t194, .int .i64 t195] 51 (0, 0))) ∧ Aside0 (Below w.heap.size w wc))
   case first =>
    have H := HC29.out; clear HC29
    by_cases c32 : a0_1 = true
    ·
     subst c32; rw [if_pos rfl] at H; have H' := Aside0.mk H; clear H
     go_wp2
     go_meet
     case rel => exact ⟨_, (77700025), rf_, H', ⟨by have := HK1.out; first | omega | exact Nat.le_refl _⟩, ⟨ni_⟩, ⟨rm_ HO_19 (fun _ hk => (by simp [Value.ownBlock]))⟩, ⟨ro_ HO_198001⟩, ⟨bk_ BK188⟩, ⟨bk_ BK197⟩, ⟨hb2_ HB GE188 GE197⟩⟩
    replace c32 := Bool.eq_false_iff.mpr c32; subst c32; rw [if_neg nf_] at H; have H' := Aside0.mk H; clear H
    go_wp2
    go_meet
    case rel => exact ⟨_, (77700024), rf_, H', ⟨by have := HK1.out; first | omega | exact Nat.le_refl _⟩, ⟨ni_⟩, ⟨rm_ HO_19 (fun _ hk => (by simp [Value.ownBlock]))⟩, ⟨ro_ HO_198001⟩, ⟨bk_ BK188⟩, ⟨bk_ BK197⟩, ⟨hb2_ HB GE188 GE197⟩⟩
   case rest =>
    clear HC29; (try clear c1); (try clear p1); (try clear q1); (try clear hx1); (try clear c2); (try clear p2); (try clear c3); (try clear c4); (try clear p6); (try clear c8); (try clear c10); (try clear c11); (try clear c17); (try clear p19); (try clear q19); (try clear hx19); (try clear c20); (try clear c20b0)
    (try clear c21); (try clear c21b0); (try clear c22); (try clear c22b0); (try clear c23); (try clear c24); (try clear c25); (try clear c30); (try clear c32); (try clear hcz12_0 hcz12_1 hcz12_2 hcz12_3); (try clear hcz14_0 hcz14_1 hcz14_2 hcz14_3); (try clear hcz18_0 hcz18_1 hcz18_2 hcz18_3); (try clear hcz26_0 hcz26_1 hcz26_2 hcz26_3)
    (try clear hcz31_0 hcz31_1 hcz31_2 hcz31_3); (try clear hfz12_0 hfz12_1 hfz12_2 hfz12_3); (try clear hfz14_0 hfz14_1 hfz14_2 hfz14_3); (try clear hfz18_0 hfz18_1 hfz18_2 hfz18_3); (try clear hfz26_0 hfz26_1 hfz26_2 hfz26_3); (try clear hfz31_0 hfz31_1 hfz31_2 hfz31_3); (try clear hx198_0); (try clear p198)
    (try clear p2); (try clear q198); obtain ⟨kq, x22_28, rfl, HA, HJ28, HO_12, HO_19, HO_198001, BK188, BK197, HB⟩ := hcut
    cases kq with
    | zero => exact absurd HA.out (by simp [levy_Levy.j1])
    | succ kj28 =>
     have H := HA.out; clear HA
     simp only [levy_Levy.j1] at H
     replace H := Option.bind_eq_some_iff.mp H; obtain ⟨t203, A330, H⟩ := H
     replace H : ((levy_much.f a0_0 a0_1 a0_2 l0_3 a5 t195).bind fun t206 => (levy_Levy.l1 kj28 a2 l4 ([] : List Int) t203 a5 t206 l4 (l4.length : Int) 0 a0_0 a0_1 a0_2 l0_3)) = some (r1, r2, r3, r4, r5) := H
     have A33 := Aside0.mk A330; clear A330; replace H := Option.bind_eq_some_iff.mp H; obtain ⟨t206, A340, H⟩ := H; replace H : (levy_Levy.l1 kj28 a2 l4 ([] : List Int) t203 a5 t206 l4 (l4.length : Int) 0 a0_0 a0_1 a0_2 l0_3) = some (r1, r2, r3, r4, r5) := H; have A34 := Aside0.mk A340; clear A340; have H' := Aside0.mk H
     clear H; have hnb35 := NB188_197.out; have hnc35 := NB197_188.out; obtain ⟨hcz36_0, hcz36_1, hcz36_2, hcz36_3⟩ := cz4_ BK188; obtain ⟨hfz36_0, hfz36_1, hfz36_2, hfz36_3⟩ := fz4_ BK188; obtain ⟨Ao37, co37, eo37⟩ := Kd.R_slice HO_19.out; subst eo37
     go_wp2_with (first | ((with_reducible refine HF.gate_calleev (t := 54) rfl ?_); refine HF.goesW_ (some 58) rfl rfl (f := HF.wy x22_28) 54 #[.agg #[.bool a0_0, .bool a0_1, .int .i64 a0_2, .slice A0_3 l0_3.length c0_3], .slice Ao37 x19_1.length co37, .slice A4 l4.length c4] rfl rfl am_ (levy_byOrder.enter A33.out) ?_; (with_reducible refine (levy_byOrder.calls x22_28 a0_0 a0_1 a0_2 _ _ l0_3 _ _ x19_1 _ _ l4 t203 _ ?side1 ?side2 ?side3 ?side4 ?side5 ?side6 A33.out).mono ?_); (case side1 => exact sc_ (Kd.C_below HR0_3.out HB.out)); (case side2 => exact HC0_3.out); (case side3 => exact sc_ (Kd.R_reads' HO_19.out).2.2); (case side4 => exact (Kd.R_reads' HO_19.out).2.1); (case side5 => exact sc_ (Kd.C_below HR4.out HB.out)); (case side6 => exact HC4.out); rintro e w38 ⟨v204, rfl, ho0, hb⟩; refine ⟨_, rfl, ?_⟩; replace HO_198001 := Aside0.mk (Kd.R_below (ro_ HO_198001) hb); have HO205 := Aside0.mk (Kd.R_lower (Kd.R_new' (Kd.R_new' ho0 (Kd.R_lt (ro_ HO_12))) (Kd.R_lt (ro_ HO_19))) (below_size (hb2_ HB GE188 GE197))); replace HO_12 := Aside0.mk (Kd.R_elder' (ro_ HO_12) (Kd.R_base ho0) hb); replace HO_19 := Aside0.mk (Kd.R_elder' (ro_ HO_19) (Kd.R_base ho0) hb); replace BK188 := Aside0.mk (bb_ BK188 hb); replace BK197 := Aside0.mk (bb_ BK197 hb); replace HB := Aside0.mk (below_step (hb2_ HB GE188 GE197) hb); (try clear hb); (try clear ho0); obtain ⟨hcz39_0, hcz39_1, hcz39_2, hcz39_3⟩ := cz4_ BK188; obtain ⟨hfz39_0, hfz39_1, hfz39_2, hfz39_3⟩ := fz4_ BK188; obtain ⟨hcz40_0, hcz40_1, hcz40_2, hcz40_3⟩ := cz4_ BK197; obtain ⟨hfz40_0, hfz40_1, hfz40_2, hfz40_3⟩ := fz4_ BK197) | (refine gl_ 26 64 Try.func26 #[.agg #[.bool a0_0, .bool a0_1, .int .i64 a0_2, .slice A0_3 l0_3.length c0_3], .int .i64 a5, .int .i64 t195] ?_; (with_reducible refine (levy_much.calls a0_0 a0_1 a0_2 _ _ l0_3 a5 t195 t206 _ ?side1 ?side2 A34.out).mono ?_); (case side1 => exact sc_ (Kd.C_below HR0_3.out HB.out)); (case side2 => exact HC0_3.out); rintro e w41 ⟨rfl, hb⟩; refine ⟨_, rfl, ?_⟩; replace HO_12 := Aside0.mk (Kd.R_below (ro_ HO_12) hb); replace HO_19 := Aside0.mk (Kd.R_below (ro_ HO_19) hb); replace HO_198001 := Aside0.mk (Kd.R_below (ro_ HO_198001) hb); replace HO205 := Aside0.mk (Kd.R_below (ro_ HO205) hb); replace BK188 := Aside0.mk (bb_ BK188 hb); replace BK197 := Aside0.mk (bb_ BK197 hb); replace HB := Aside0.mk (below_step (hb2_ HB GE188 GE197) hb); (try clear hb)))
     go_loopg [12, 67] kj28 (fun kq v12 v67 w' => ∃ (x12_3 : List Int) (x67_3 : Int), v67 = .int .i64 x67_3 ∧ Aside0 (levy_Levy.l1 kq a2 l4 x12_3 t203 a5 t206 l4 (l4.length : Int) x67_3 a0_0 a0_1 a0_2 l0_3 = some (r1, r2, r3, r4, r5)) ∧ Aside0 (kq ≤ kj28) ∧ Aside0 (Kd.R (Kd.int .i64) 2 w' w.heap.size (fun k_ => some k_ ≠ (v204 : Value).ownBlock) v12 x12_3) ∧ Aside0 (Kd.R (Kd.int .i64) 2 w' w.heap.size (fun k_ => some k_ ≠ (v12 : Value).ownBlock) v204 t203) ∧ Aside0 (Kd.R k56 56 w' w.heap.size (fun _ => True) (.slice Ao19 t191.length co19) t191) ∧ Aside0 (w'.heap[gb188]? = some (.cells #[.bool a0_0, .bool a0_1, .int .i64 a0_2, (.slice A0_3 l0_3.length c0_3)] 24 (0, 0))) ∧ Aside0 (w'.heap[gb197]? = some (.cells #[.string t190, (.slice Ao19 t191.length co19), .int .i64 t194, .int .i64 t195] 51 (0, 0))) ∧ Aside0 (Below w.heap.size w w'))
     case atStart => exact ⟨(([] : List Int)), (0), rf_, H', ⟨Nat.le_refl _⟩, ⟨rm_ HO_12 (fun _ hk => hk.2)⟩, ⟨rm_ HO205 (fun _ hk => hk.1.2)⟩, ⟨ro_ HO_198001⟩, ⟨bk_ BK188⟩, ⟨bk_ BK197⟩, ⟨hb2_ HB GE188 GE197⟩⟩
     case round =>
      clear H'; (try clear c1); (try clear p1); (try clear q1); (try clear hx1); (try clear c2); (try clear p2); (try clear c3); (try clear c4); (try clear p6); (try clear c8); (try clear c10); (try clear c11); (try clear c17); (try clear p19); (try clear q19); (try clear hx19); (try clear c20); (try clear c20b0)
      (try clear c21); (try clear c21b0); (try clear c22); (try clear c22b0); (try clear c23); (try clear c24); (try clear c25); (try clear c26); (try clear c30); (try clear c32); (try clear c35); (try clear hcz12_0 hcz12_1 hcz12_2 hcz12_3); (try clear hcz14_0 hcz14_1 hcz14_2 hcz14_3); (try clear hcz18_0 hcz18_1 hcz18_2 hcz18_3)
      (try clear hcz26_0 hcz26_1 hcz26_2 hcz26_3); (try clear hcz31_0 hcz31_1 hcz31_2 hcz31_3); (try clear hcz36_0 hcz36_1 hcz36_2 hcz36_3); (try clear hcz39_0 hcz39_1 hcz39_2 hcz39_3); (try clear hcz40_0 hcz40_1 hcz40_2 hcz40_3); (try clear hfz12_0 hfz12_1 hfz12_2 hfz12_3); (try clear hfz14_0 hfz14_1 hfz14_2 hfz14_3)
      (try clear hfz18_0 hfz18_1 hfz18_2 hfz18_3); (try clear hfz26_0 hfz26_1 hfz26_2 hfz26_3); (try clear hfz31_0 hfz31_1 hfz31_2 hfz31_3); (try clear hfz36_0 hfz36_1 hfz36_2 hfz36_3); (try clear hfz39_0 hfz39_1 hfz39_2 hfz39_3); (try clear hfz40_0 hfz40_1 hfz40_2 hfz40_3); (try clear hx198_0); (try clear p1)
      (try clear p19); (try clear p198); (try clear p2); (try clear p6); (try clear q1); (try clear q19); (try clear q198); obtain ⟨x12_3, x67_3, rfl, HA, HK3, HO_12, HO_13, HO_198001, BK188, BK197, HB⟩ := hrel
      cases gk with
      | zero => exact absurd HA.out (by simp [levy_Levy.l1])
      | succ k3 =>
       have H := HA.out; clear HA
       simp only [levy_Levy.l1] at H
       by_cases c42 : x67_3 < (l4.length : Int)
       ·
        rw [if_pos c42] at H; have c42b0 := decide_eq_true c42; clear c42; replace H := ip_ H; obtain ⟨c43, H⟩ := H; have c43b0 := decide_eq_true c43; clear c43; replace H := ip_ H; obtain ⟨c44, H⟩ := H; have c44b0 := decide_eq_true c44; clear c44
        by_cases c45 : a0_0 = true
        rotate_left
        ·
         replace c45 := Bool.eq_false_iff.mpr c45; subst c45; rw [if_neg nf_] at H; replace H := ip_ H; obtain ⟨c52, H⟩ := H; have LMc52 := Aside0.mk c52; clear c52; obtain ⟨y212, hy212⟩ : ∃ y_ : List Int, y_ = (x12_3 ++ [rd l4 x67_3]) := ⟨_, rfl⟩; replace H : (levy_Levy.l1 k3 a2 l4 y212 t203 a5 t206 l4 (l4.length : Int) (wrap64 (x67_3 + 1)) false a0_1 a0_2 l0_3) = some (r1, r2, r3, r4, r5) := hy_ hy212 H
         have Ny212 := Aside0.mk hy212; clear hy212; have H' := Aside0.mk H; clear H; have p207 : 0 ≤ (x67_3 : Int) := of_decide_eq_true as_; have q207 : x67_3 < (l4.length : Int) := of_decide_eq_true as_; obtain ⟨ad207, e207, hx207_0⟩ := Kd.at_int HR4.out x67_3 p207 q207; cases e207; replace hx207_0 := hd_ HB hx207_0
         replace p207 := eq_true p207; replace q207 := eq_true q207; have hnb53 := NB188_197.out; have hnc53 := NB197_188.out; obtain ⟨hcz54_0, hcz54_1, hcz54_2, hcz54_3⟩ := cz4_ BK188; obtain ⟨hfz54_0, hfz54_1, hfz54_2, hfz54_3⟩ := fz4_ BK188
         go_wp2_with (first | ((with_reducible refine gate_builtin (b := .append) (xs := #[.tmp 80, .tmp 82]) rfl ?_); at_builtin; refine Kd.R_append (Kd.int .i64) (w0 := w) w.heap.size rfl (.tmp 80) (.tmp 82) 26 2 (.int .i64 0) 8 rfl Try.underlying26 info2 rfl (by decide) (by omega) u12 x12_3 (rd l4 x67_3) [.int .i64 (rd l4 x67_3)] (fun k_ => some k_ ≠ (v204 : Value).ownBlock) (fun _ => False) rfl rfl ?aP (fun _ hk => hk.elim) ?aF ?aO ?aB ?aS ?aL ?_; (case aP => exact rfl); (case aB => exact (hb2_ HB GE188 GE197)); (case aF => exact (fun k_ hk => Kd.fresh' (Kd.R_lt (ro_ HO_13)) k_ hk)); (case aO => exact (ro_ HO_12)); (case aS => exact (below_size (hb2_ HB GE188 GE197))); (case aL => have := LMc52.out; omega); intro v213 w55 ho hb hg hat; rw [← Ny212.out] at ho; have n0_ := Aside0.mk (Kd.R_after (ok := (fun _ => True)) (rm_ HO_13 (fun _ hk => ⟨trivial, hk⟩)) hg hat); have n1_ := Aside0.mk (Kd.R_over' (ro_ HO_198001) (Kd.R_typed (ro_ HO_12)) (by decide) hg); have n2_ := Aside0.mk (blk_grown (g := gb188) (o := .cells #[.bool false, .bool a0_1, .int .i64 a0_2, .slice A0_3 l0_3.length c0_3] 24 (0, 0)) (bk_ BK188) hg (Kd.R_ne HO_12.out BK188.out (by decide))); have n3_ := Aside0.mk (blk_grown (g := gb197) (o := .cells #[.string t190, .slice Ao19 t191.length co19, .int .i64 t194, .int .i64 t195] 51 (0, 0)) (bk_ BK197) hg (Kd.R_ne HO_12.out BK197.out (by decide))); have n4_ := Aside0.mk hb; have n5_ := Aside0.mk ho; clear HO_13; clear HO_198001; clear BK188; clear BK197; clear HB; clear HO_12; have HO_13 := n0_; have HO_198001 := n1_; have BK188 := n2_; have BK197 := n3_; have HB := n4_; have HO214 := n5_; clear n0_ n1_ n2_ n3_ n4_ n5_; clear ho hb hg hat))
         go_roundg k3
         case measure => have := HK1.out; have := HJ28.out; have := HK3.out; omega
         case rel => exact ⟨(y212), (wrap64 (x67_3 + 1)), rf_, H', ⟨ho3_ HK1 HJ28 HK3⟩, ⟨ro_ HO214⟩, ⟨rm_ HO_13 (fun _ hk => hk.2)⟩, ⟨ro_ HO_198001⟩, ⟨bk_ BK188⟩, ⟨bk_ BK197⟩, ⟨hb2_ HB GE188 GE197⟩⟩
        subst c45; rw [if_pos rfl] at H; replace H := ip_ H; obtain ⟨c46, H⟩ := H; have c46b0 := decide_eq_true c46; clear c46; replace H := ip_ H; obtain ⟨c47, H⟩ := H; have LMc47 := Aside0.mk c47; clear c47; obtain ⟨y209, hy209⟩ : ∃ y_ : List Int, y_ = (x12_3 ++ [wrap64 ((rd l4 x67_3) - (rd t203 x67_3))]) := ⟨_, rfl⟩
        replace H : (levy_Levy.l1 k3 a2 l4 y209 t203 a5 t206 l4 (l4.length : Int) (wrap64 (x67_3 + 1)) true a0_1 a0_2 l0_3) = some (r1, r2, r3, r4, r5) := hy_ hy209 H; have Ny209 := Aside0.mk hy209; clear hy209; have H' := Aside0.mk H; clear H; have p207 : 0 ≤ (x67_3 : Int) := of_decide_eq_true as_; have q207 : x67_3 < (l4.length : Int) := of_decide_eq_true as_
        obtain ⟨ad207, e207, hx207_0⟩ := Kd.at_int HR4.out x67_3 p207 q207; cases e207; replace hx207_0 := hd_ HB hx207_0; replace p207 := eq_true p207; replace q207 := eq_true q207; have hnb48 := NB188_197.out; have hnc48 := NB197_188.out; obtain ⟨hcz49_0, hcz49_1, hcz49_2, hcz49_3⟩ := cz4_ BK188; obtain ⟨hfz49_0, hfz49_1, hfz49_2, hfz49_3⟩ := fz4_ BK188
        obtain ⟨Ao50, co50, eo50⟩ := Kd.R_slice HO_13.out; subst eo50; have p208 : 0 ≤ (x67_3 : Int) := of_decide_eq_true as_; have q208 : x67_3 < (t203.length : Int) := of_decide_eq_true as_; obtain ⟨ad208, e208, hx208_0⟩ := Kd.at_int (Kd.R_reads' HO_13.out).2.2 x67_3 p208 q208; cases e208; replace p208 := eq_true p208
        replace q208 := eq_true q208
        go_wp2_with (first | ((with_reducible refine gate_builtin (b := .append) (xs := #[.tmp 80, .tmp 82]) rfl ?_); at_builtin; refine Kd.R_append (Kd.int .i64) (w0 := w) w.heap.size rfl (.tmp 80) (.tmp 82) 26 2 (.int .i64 0) 8 rfl Try.underlying26 info2 rfl (by decide) (by omega) u12 x12_3 (wrap64 ((rd l4 x67_3) - (rd t203 x67_3))) [.int .i64 (wrap64 ((rd l4 x67_3) - (rd t203 x67_3)))] (fun k_ => some k_ ≠ (.slice (some ad208) t203.length co50 : Value).ownBlock) (fun _ => False) rfl rfl ?aP (fun _ hk => hk.elim) ?aF ?aO ?aB ?aS ?aL ?_; (case aP => exact rfl); (case aB => exact (hb2_ HB GE188 GE197)); (case aF => exact (fun k_ hk => Kd.fresh' (Kd.R_lt (ro_ HO_13)) k_ hk)); (case aO => exact (ro_ HO_12)); (case aS => exact (below_size (hb2_ HB GE188 GE197))); (case aL => have := LMc47.out; omega); intro v210 w51 ho hb hg hat; rw [← Ny209.out] at ho; have n0_ := Aside0.mk (Kd.R_after (ok := (fun _ => True)) (rm_ HO_13 (fun _ hk => ⟨trivial, hk⟩)) hg hat); have n1_ := Aside0.mk (Kd.R_over' (ro_ HO_198001) (Kd.R_typed (ro_ HO_12)) (by decide) hg); have n2_ := Aside0.mk (blk_grown (g := gb188) (o := .cells #[.bool true, .bool a0_1, .int .i64 a0_2, .slice A0_3 l0_3.length c0_3] 24 (0, 0)) (bk_ BK188) hg (Kd.R_ne HO_12.out BK188.out (by decide))); have n3_ := Aside0.mk (blk_grown (g := gb197) (o := .cells #[.string t190, .slice Ao19 t191.length co19, .int .i64 t194, .int .i64 t195] 51 (0, 0)) (bk_ BK197) hg (Kd.R_ne HO_12.out BK197.out (by decide))); have n4_ := Aside0.mk hb; have n5_ := Aside0.mk ho; clear HO_13; clear HO_198001; clear BK188; clear BK197; clear HB; clear HO_12; have HO_13 := n0_; have HO_198001 := n1_; have BK188 := n2_; have BK197 := n3_; have HB := n4_; have HO211 := n5_; clear n0_ n1_ n2_ n3_ n4_ n5_; clear ho hb hg hat))
        go_roundg k3
        case measure => have := HK1.out; have := HJ28.out; have := HK3.out; omega
        case rel => exact ⟨(y209), (wrap64 (x67_3 + 1)), rf_, H', ⟨ho3_ HK1 HJ28 HK3⟩, ⟨ro_ HO211⟩, ⟨rm_ HO_13 (fun _ hk => hk.2)⟩, ⟨ro_ HO_198001⟩, ⟨bk_ BK188⟩, ⟨bk_ BK197⟩, ⟨hb2_ HB GE188 GE197⟩⟩
       rw [if_neg c42] at H; have c42b0 := decide_eq_false c42; clear c42
       by_cases c56 : a0_0 = true
       ·
        subst c56; rw [if_pos rfl] at H
        by_cases c57 : a2 = true
        rotate_left
        ·
         replace c57 := Bool.eq_false_iff.mpr c57; subst c57; rw [if_neg nf_] at H
         simp only [Option.some.injEq, Prod.mk.injEq] at H
         obtain ⟨rfl, rfl, rfl, rfl, rfl⟩ := H; have hnb64 := NB188_197.out; have hnc64 := NB197_188.out; obtain ⟨hcz65_0, hcz65_1, hcz65_2, hcz65_3⟩ := cz4_ BK188; obtain ⟨hfz65_0, hfz65_1, hfz65_2, hfz65_3⟩ := fz4_ BK188
         go_wp2
         refine bodyPost_ret (results_list (rs := [.tmp 12, .tmp 13, .tmp 14, .tmp 15, .tmp 16]) rfl (by simp) (.tmp (.tmp (.tmp (.tmp (.tmp .nil)))))) rfl ?_
         exact ⟨_, _, er_, ro_ HO_12, ro_ HO_13, hb2_ HB GE188 GE197⟩
        subst c57; rw [if_pos rfl] at H; replace H := ip_ H; obtain ⟨c58, H⟩ := H; have c58b0 := eq_true c58; have c58b1 := decide_eq_true c58; clear c58; replace H := ip_ H; obtain ⟨c59, H⟩ := H; have c59b0 := eq_true c59; have c59b1 := decide_eq_true c59; clear c59; obtain ⟨y215, hy215⟩ : ∃ y_ : List Int, y_ = (List.replicate ((l4.length : Int) : Int).toNat 0) := ⟨_, rfl⟩
        replace H : (some (x12_3, y215, wrap64 (a5 - t206), 0, 0)) = some (r1, r2, r3, r4, r5) := hy_ hy215 H; have Ny215 := Aside0.mk hy215; clear hy215
        simp only [Option.some.injEq, Prod.mk.injEq] at H
        obtain ⟨rfl, rfl, rfl, rfl, rfl⟩ := H; have hnb60 := NB188_197.out; have hnc60 := NB197_188.out; obtain ⟨hcz61_0, hcz61_1, hcz61_2, hcz61_3⟩ := cz4_ BK188; obtain ⟨hfz61_0, hfz61_1, hfz61_2, hfz61_3⟩ := fz4_ BK188
        go_wp2_with (first | ((with_reducible refine gate_dst (N := 93) rfl ?_); refine Kd.R_make (Kd.int .i64) _ 2 rfl (N := 93) rfl 26 _ _ rfl (l4.length : Int) rfl rfl Try.underlying26 (.int .i64 0) 8 info2 rfl (by decide) (by omega) 0 (ok := fun _ => True) (okp := fun _ => True) rfl (fun _ hk => hk) trivial (of_decide_eq_true as_) (Nat.le_trans (Nat.mul_le_mul_right _ (of_decide_eq_true as_ : (l4.length : Int).toNat ≤ 35184372088832)) (by omega)) (Below.refl _ _) (Nat.le_refl _) ?_; intro v216 w62 ho63 hb hg_ hnew_; clear hg_ hnew_; (first | rw [← Ny215.out] at ho63 | (simp only [Int.reduceToNat] at ho63; rw [← Ny215.out] at ho63)); replace HO_198001 := Aside0.mk (Kd.R_below (ro_ HO_198001) hb); have HO217 := Aside0.mk (Kd.R_lower (Kd.R_new' (Kd.R_new' ho63 (Kd.R_lt (ro_ HO_12))) (Kd.R_lt (ro_ HO_13))) (below_size (hb2_ HB GE188 GE197))); replace HO_12 := Aside0.mk (Kd.R_elder' (ro_ HO_12) (Kd.R_base ho63) hb); replace HO_13 := Aside0.mk (Kd.R_elder' (ro_ HO_13) (Kd.R_base ho63) hb); replace BK188 := Aside0.mk (bb_ BK188 hb); replace BK197 := Aside0.mk (bb_ BK197 hb); replace HB := Aside0.mk (below_step (hb2_ HB GE188 GE197) hb); clear hb ho63))
        refine bodyPost_ret (results_list (rs := [.tmp 12, .tmp 13, .tmp 14, .tmp 15, .tmp 16]) rfl (by simp) (.tmp (.tmp (.tmp (.tmp (.tmp .nil)))))) rfl ?_
        exact ⟨_, _, er_, rm_ HO_12 (fun _ hk => hk.2), rm_ HO217 (fun _ hk => hk.1.2), hb2_ HB GE188 GE197⟩
       replace c56 := Bool.eq_false_iff.mpr c56; subst c56; rw [if_neg nf_] at H
       by_cases c66 : a2 = true
       rotate_left
       ·
        replace c66 := Bool.eq_false_iff.mpr c66; subst c66; rw [if_neg nf_] at H
        simp only [Option.some.injEq, Prod.mk.injEq] at H
        obtain ⟨rfl, rfl, rfl, rfl, rfl⟩ := H; have hnb73 := NB188_197.out; have hnc73 := NB197_188.out; obtain ⟨hcz74_0, hcz74_1, hcz74_2, hcz74_3⟩ := cz4_ BK188; obtain ⟨hfz74_0, hfz74_1, hfz74_2, hfz74_3⟩ := fz4_ BK188
        go_wp2
        refine bodyPost_ret (results_list (rs := [.tmp 12, .tmp 13, .tmp 14, .tmp 15, .tmp 16]) rfl (by simp) (.tmp (.tmp (.tmp (.tmp (.tmp .nil)))))) rfl ?_
        exact ⟨_, _, er_, ro_ HO_12, ro_ HO_13, hb2_ HB GE188 GE197⟩
       subst c66; rw [if_pos rfl] at H; replace H := ip_ H; obtain ⟨c67, H⟩ := H; have c67b0 := eq_true c67; have c67b1 := decide_eq_true c67; clear c67; replace H := ip_ H; obtain ⟨c68, H⟩ := H; have c68b0 := eq_true c68; have c68b1 := decide_eq_true c68; clear c68; obtain ⟨y218, hy218⟩ : ∃ y_ : List Int, y_ = (List.replicate ((l4.length : Int) : Int).toNat 0) := ⟨_, rfl⟩
       replace H : (some (x12_3, y218, a5, 0, 0)) = some (r1, r2, r3, r4, r5) := hy_ hy218 H; have Ny218 := Aside0.mk hy218; clear hy218
       simp only [Option.some.injEq, Prod.mk.injEq] at H
       obtain ⟨rfl, rfl, rfl, rfl, rfl⟩ := H; have hnb69 := NB188_197.out; have hnc69 := NB197_188.out; obtain ⟨hcz70_0, hcz70_1, hcz70_2, hcz70_3⟩ := cz4_ BK188; obtain ⟨hfz70_0, hfz70_1, hfz70_2, hfz70_3⟩ := fz4_ BK188
       go_wp2_with (first | ((with_reducible refine gate_dst (N := 93) rfl ?_); refine Kd.R_make (Kd.int .i64) _ 2 rfl (N := 93) rfl 26 _ _ rfl (l4.length : Int) rfl rfl Try.underlying26 (.int .i64 0) 8 info2 rfl (by decide) (by omega) 0 (ok := fun _ => True) (okp := fun _ => True) rfl (fun _ hk => hk) trivial (of_decide_eq_true as_) (Nat.le_trans (Nat.mul_le_mul_right _ (of_decide_eq_true as_ : (l4.length : Int).toNat ≤ 35184372088832)) (by omega)) (Below.refl _ _) (Nat.le_refl _) ?_; intro v219 w71 ho72 hb hg_ hnew_; clear hg_ hnew_; (first | rw [← Ny218.out] at ho72 | (simp only [Int.reduceToNat] at ho72; rw [← Ny218.out] at ho72)); replace HO_198001 := Aside0.mk (Kd.R_below (ro_ HO_198001) hb); have HO220 := Aside0.mk (Kd.R_lower (Kd.R_new' (Kd.R_new' ho72 (Kd.R_lt (ro_ HO_12))) (Kd.R_lt (ro_ HO_13))) (below_size (hb2_ HB GE188 GE197))); replace HO_12 := Aside0.mk (Kd.R_elder' (ro_ HO_12) (Kd.R_base ho72) hb); replace HO_13 := Aside0.mk (Kd.R_elder' (ro_ HO_13) (Kd.R_base ho72) hb); replace BK188 := Aside0.mk (bb_ BK188 hb); replace BK197 := Aside0.mk (bb_ BK197 hb); replace HB := Aside0.mk (below_step (hb2_ HB GE188 GE197) hb); clear hb ho72))
       refine bodyPost_ret (results_list (rs := [.tmp 12, .tmp 13, .tmp 14, .tmp 15, .tmp 16]) rfl (by simp) (.tmp (.tmp (.tmp (.tmp (.tmp .nil)))))) rfl ?_
       exact ⟨_, _, er_, rm_ HO_12 (fun _ hk => hk.2), rm_ HO220 (fun _ hk => hk.1.2), hb2_ HB GE188 GE197⟩

end Go.Proofs.Ytmiamdnhofjifaa.Rw
end
section
/- Functions of the program as Lean functions, each with its contract: out of what the kit's printer wrote for this seat. -/
namespace Go.Proofs.Ytmiamdnhofjifaa.Rw
open Go.RowKit Go.Proofs.YtmiamdnhofjifaaW.PrintWords Go.Proofs.YtmiamdnhofjifaaW.PrintLast Go.Proofs.YtmiamdnhofjifaaW.PrintMore
attribute [local go_sem] max2_int min2_int max_two min_two max_three min_three max_four min_four   -- for this text's walks alone
set_option linter.unusedVariables false
set_option linter.unusedSimpArgs false
attribute [local go_sem high] leqS gtrS

/-! ### haberdashlaw19_awake: function 6 -/
def haberdashlaw19_awake.f (k : Nat)  : Option (Bool) := (levy_Levy.f k true false 1 (([(⟨(⟨#[122]⟩ : ByteArray), ([] : List (S56)), 2500, 0⟩ : S51)] : List (S51))) (⟨#[122]⟩ : ByteArray) false (([(⟨#[99]⟩ : ByteArray)] : List ByteArray)) (([100] : List Int)) 0).bind fun bt235 => (if bt235.2.2.2.2 = 0 then ((haberdashhelp_Plain_int64.f k bt235.1 (([80] : List Int))).bind fun t247 => (if t247 = true then ((haberdashhelp_Plain_int64.f k bt235.2.1 (([20] : List Int))).bind fun t251 => (some t251)) else (some false))) else (some false))
set_option maxHeartbeats 8000000 in
set_option maxRecDepth 100000 in
theorem haberdashlaw19_awake.calls (k : Nat)  (r : Bool) (w : World) (h : haberdashlaw19_awake.f k  = some r) :
 Calls Try.prog 6 #[] w fun e w' => e = .returned (.bool r) ∧ Below w.heap.size w w' := by
 have hu51 := Try.underlying51
 have hu24 := Try.underlying24
 have HB := Aside0.mk (Below.refl w.heap.size w)
 have H : ((levy_Levy.f k true false 1 (([(⟨(⟨#[122]⟩ : ByteArray), ([] : List (S56)), 2500, 0⟩ : S51)] : List (S51))) (⟨#[122]⟩ : ByteArray) false (([(⟨#[99]⟩ : ByteArray)] : List ByteArray)) (([100] : List Int)) 0).bind fun bt235 => (if bt235.2.2.2.2 = 0 then ((haberdashhelp_Plain_int64.f k bt235.1 (([80] : List Int))).bind fun t247 => (if t247 = true then ((haberdashhelp_Plain_int64.f k bt235.2.1 (([20] : List Int))).bind fun t251 => (some t251)) else (some false))) else (some false))) = some r := h
 clear h
 obtain ⟨y225, hy225⟩ : ∃ y_ : List (S51), y_ = (([(⟨(⟨#[122]⟩ : ByteArray), ([] : List (S56)), 2500, 0⟩ : S51)] : List (S51))) := ⟨_, rfl⟩
 replace H : ((levy_Levy.f k true false 1 y225 (⟨#[122]⟩ : ByteArray) false (([(⟨#[99]⟩ : ByteArray)] : List ByteArray)) (([100] : List Int)) 0).bind fun bt235 => (if bt235.2.2.2.2 = 0 then ((haberdashhelp_Plain_int64.f k bt235.1 (([80] : List Int))).bind fun t247 => (if t247 = true then ((haberdashhelp_Plain_int64.f k bt235.2.1 (([20] : List Int))).bind fun t251 => (some t251)) else (some false))) else (some false))) = some r := hy_ hy225 H
 have Ny225 := Aside0.mk hy225
 clear hy225
 obtain ⟨y229, hy229⟩ : ∃ y_ : List ByteArray, y_ = (([(⟨#[99]⟩ : ByteArray)] : List ByteArray)) := ⟨_, rfl⟩
 replace H : ((levy_Levy.f k true false 1 y225 (⟨#[122]⟩ : ByteArray) false y229 (([100] : List Int)) 0).bind fun bt235 => (if bt235.2.2.2.2 = 0 then ((haberdashhelp_Plain_int64.f k bt235.1 (([80] : List Int))).bind fun t247 => (if t247 = true then ((haberdashhelp_Plain_int64.f k bt235.2.1 (([20] : List Int))).bind fun t251 => (some t251)) else (some false))) else (some false))) = some r := hy_ hy229 H
 have Ny229 := Aside0.mk hy229
 clear hy229
 obtain ⟨y232, hy232⟩ : ∃ y_ : List Int, y_ = (([100] : List Int)) := ⟨_, rfl⟩
 replace H : ((levy_Levy.f k true false 1 y225 (⟨#[122]⟩ : ByteArray) false y229 y232 0).bind fun bt235 => (if bt235.2.2.2.2 = 0 then ((haberdashhelp_Plain_int64.f k bt235.1 (([80] : List Int))).bind fun t247 => (if t247 = true then ((haberdashhelp_Plain_int64.f k bt235.2.1 (([20] : List Int))).bind fun t251 => (some t251)) else (some false))) else (some false))) = some r := hy_ hy232 H
 have Ny232 := Aside0.mk hy232
 clear hy232
 replace H := Option.bind_eq_some_iff.mp H
 obtain ⟨⟨t235, t238, t241, t242, t243⟩, A10, H⟩ := H
 (try dsimp only at H)
 have A1 := Aside0.mk A10
 clear A10
 by_cases c2 : t243 = 0
 rotate_left
 ·
  rw [if_neg c2] at H; have c2b0 : (t243 == 0) = false := beq_eq_false_iff_ne.mpr c2; have c2b1 : (t243 != 0) = true := bne_iff_ne.mpr c2; obtain rfl := Option.some.inj H
  go_enter Try.func6, Try.ntmps6
  go_wp2_with (first | ((with_reducible refine gate_dst (N := 8) rfl ?_); (try (refine gate_guard (by rfl) ?_; dsimp only)); refine Kd.S_lit k51 _ 51 rf_ (N := 8) rf_ (xs := ([(⟨(⟨#[122]⟩ : ByteArray), ([] : List (S56)), 2500, 0⟩ : S51)] : List (S51))) (inner := [.string (⟨#[122]⟩ : ByteArray), .slice none 0 0, .int .i64 2500, .int .i64 0]) (ok := fun _ => True) (okp := fun _ => True) lr_ ?hp (fun _ hk => hk) trivial (Below.refl _ _) (Nat.le_refl _) (by simp) ?_; (case hp => exact (Reps.c4 (show Kd.M k51 _ _ _ (⟨(⟨#[122]⟩ : ByteArray), ([] : List (S56)), 2500, 0⟩ : S51) [.string (⟨#[122]⟩ : ByteArray), .slice none 0 0, .int .i64 2500, .int .i64 0] from (k51_mkM _ _ _ (⟨(⟨#[122]⟩ : ByteArray), ([] : List (S56)), 2500, 0⟩ : S51) (Kd.R_nil _ _ _ _ _))) (Reps.none _ _))); intro v226 w42 ho43 hb hg_ hnew_; clear hg_ hnew_; (first | rw [← Ny225.out] at ho43 | (simp only [Int.reduceToNat] at ho43; rw [← Ny225.out] at ho43)); have HO227 := Aside0.mk (Kd.S_lower ho43 (below_size (hb0_ HB))); replace HB := Aside0.mk (below_step (hb0_ HB) hb); clear hb ho43; obtain ⟨Ao44, co44, eo44⟩ := Kd.S_slice HO227.out; subst eo44) | ((with_reducible refine gate_dst (N := 1) rfl ?_); (try (refine gate_guard (by rfl) ?_; dsimp only)); refine box_event rf_ (N := 1) rf_ (cs := #[.bool false, .bool false, .int .i64 0, .slice none 0 0]) (t := 24) lr_ ?_; intro gb228 hg w45 hbox hb; replace HO227 := Aside0.mk (Kd.S_below (so_ HO227) hb); have BK228 := Aside0.mk hbox; have GE228 := Aside0.mk (ge_ HB hg (hb0_ HB)); replace HB := Aside0.mk (below_step (hb0_ HB) hb); clear hb hbox hg; obtain ⟨hcz46_0, hcz46_1, hcz46_2, hcz46_3⟩ := cz4_ BK228; obtain ⟨hfz46_0, hfz46_1, hfz46_2, hfz46_3⟩ := fz4_ BK228) | ((with_reducible refine gate_dst (N := 12) rfl ?_); (try (refine gate_guard (by rfl) ?_; dsimp only)); refine Kd.R_lit Kd.string _ 9 rf_ (N := 12) rf_ (xs := ([(⟨#[99]⟩ : ByteArray)] : List ByteArray)) (inner := [.string (⟨#[99]⟩ : ByteArray)]) (ok := fun _ => True) (okp := fun _ => True) lr_ ?hp (fun _ hk => hk) trivial (Below.refl _ _) (Nat.le_refl _) (by simp) ?_; (case hp => exact (Reps.one (show Kd.M Kd.string _ _ _ (⟨#[99]⟩ : ByteArray) [.string (⟨#[99]⟩ : ByteArray)] from rfl) (Reps.none _ _))); intro v230 w47 ho48 hb hg_ hnew_; clear hg_ hnew_; (first | rw [← Ny229.out] at ho48 | (simp only [Int.reduceToNat] at ho48; rw [← Ny229.out] at ho48)); replace HO227 := Aside0.mk (Kd.S_below (by (with_reducible repeat (first | apply Kd.S_alloc | apply Kd.S_drewN | apply Kd.S_drew)); exact (Kd.S_mono (Kd.S_far (p := ⟨gb228, 3, none⟩) (Kd.S_far (p := ⟨gb228, 2, none⟩) (Kd.S_far (p := ⟨gb228, 1, none⟩) (Kd.S_far (p := ⟨gb228, 0, none⟩) (Kd.S_types HO227.out BK228.out (by decide)) (fun _ hk => hk.2) (.bool true)) (fun _ hk => hk.2) (.bool false)) (fun _ hk => hk.2) (.int .i64 1)) (fun _ hk => hk.2) (.slice Ao44 y225.length co44)) (fun _ h_ => h_.1))) hb); have HO231 := Aside0.mk (Kd.R_lower ho48 (below_size (hb1_ HB GE228))); replace BK228 := Aside0.mk (blk_below (g := gb228) (o := .cells #[.bool true, .bool false, .int .i64 1, .slice Ao44 y225.length co44] 24 (0, 0)) (bq0_ BK228) hb); replace HB := Aside0.mk (below_step (hb1_ HB GE228) hb); clear hb ho48) | ((with_reducible refine gate_dst (N := 13) rfl ?_); (try (refine gate_guard (by rfl) ?_; dsimp only)); refine Kd.R_lit (Kd.int .i64) _ 2 rf_ (N := 13) rf_ (xs := ([100] : List Int)) (inner := [.int .i64 100]) (ok := fun _ => True) (okp := fun _ => True) lr_ ?hp (fun _ hk => hk) trivial (Below.refl _ _) (Nat.le_refl _) (by simp) ?_; (case hp => exact (Reps.one (show Kd.M (Kd.int .i64) _ _ _ 100 [.int .i64 100] from rfl) (Reps.none _ _))); intro v233 w49 ho50 hb hg_ hnew_; clear hg_ hnew_; (first | rw [← Ny232.out] at ho50 | (simp only [Int.reduceToNat] at ho50; rw [← Ny232.out] at ho50)); replace HO227 := Aside0.mk (Kd.S_below (so_ HO227) hb); replace HO231 := Aside0.mk (Kd.R_below (ro_ HO231) hb); have HO234 := Aside0.mk (Kd.R_lower ho50 (below_size (hb1_ HB GE228))); replace BK228 := Aside0.mk (bb_ BK228 hb); replace HB := Aside0.mk (below_step (hb1_ HB GE228) hb); clear hb ho50; obtain ⟨Ao51, co51, eo51⟩ := Kd.R_slice HO231.out; subst eo51; obtain ⟨Ao52, co52, eo52⟩ := Kd.R_slice HO234.out; subst eo52) | (refine gl_ 11 14 Try.func11 #[.agg #[.bool true, .bool false, .int .i64 1, .slice Ao44 y225.length co44], .string (⟨#[122]⟩ : ByteArray), .bool false, .slice Ao51 y229.length co51, .slice Ao52 y232.length co52, .int .i64 0] ?_; (with_reducible refine (levy_Levy.calls k true false 1 _ _ y225 (⟨#[122]⟩ : ByteArray) false _ _ y229 _ _ y232 0 t235 t238 t241 t242 t243 _ ?side1 ?side2 ?side3 ?side4 ?side5 ?side6 A1.out).mono ?_); (case side1 => exact sc_ (Kd.S_reads' HO227.out).2.2); (case side2 => exact (Kd.S_reads' HO227.out).2.1); (case side3 => exact sc_ (Kd.R_reads' HO231.out).2.2); (case side4 => exact (Kd.R_reads' HO231.out).2.1); (case side5 => exact sc_ (Kd.R_reads' HO234.out).2.2); (case side6 => exact (Kd.R_reads' HO234.out).2.1); rintro e w53 ⟨v236, v239, rfl, ho0, ho1, hb⟩; refine ⟨_, rfl, ?_⟩; replace HO227 := Aside0.mk (Kd.S_below (so_ HO227) hb); replace HO231 := Aside0.mk (Kd.R_below (ro_ HO231) hb); have HO237 := Aside0.mk (Kd.R_lower (Kd.R_new' ho0 (Kd.R_lt (ro_ HO234))) (below_size (hb1_ HB GE228))); have HO240 := Aside0.mk (Kd.R_lower (Kd.R_new' ho1 (Kd.R_lt (ro_ HO234))) (below_size (hb1_ HB GE228))); replace HO234 := Aside0.mk (Kd.R_mono (Kd.R_told (Kd.R_told (Kd.R_old (ro_ HO234) hb) (Kd.R_base ho0)) (Kd.R_base ho1)) (fun _ h_ => h_.1)); replace BK228 := Aside0.mk (bb_ BK228 hb); replace HB := Aside0.mk (below_step (hb1_ HB GE228) hb); (try clear hb); (try clear ho0); (try clear ho1)))
  go_ret
  exact ⟨er_, hb1_ HB GE228⟩
 rw [if_pos c2] at H
 have c2b0 : (t243 == 0) = true := beq_iff_eq.mpr c2
 have c2b1 : (t243 != 0) = false := bne_eq_false_iff_eq.mpr c2
 clear c2
 obtain ⟨y244, hy244⟩ : ∃ y_ : List Int, y_ = (([80] : List Int)) := ⟨_, rfl⟩
 replace H : ((haberdashhelp_Plain_int64.f k t235 y244).bind fun t247 => (if t247 = true then ((haberdashhelp_Plain_int64.f k t238 (([20] : List Int))).bind fun t251 => (some t251)) else (some false))) = some r := hy_ hy244 H
 have Ny244 := Aside0.mk hy244
 clear hy244
 replace H := Option.bind_eq_some_iff.mp H
 obtain ⟨t247, A30, H⟩ := H
 (try dsimp only at H)
 have A3 := Aside0.mk A30
 clear A30
 by_cases c4 : t247 = true
 rotate_left
 ·
  replace c4 := Bool.eq_false_iff.mpr c4; subst c4; rw [if_neg nf_] at H; obtain rfl := Option.some.inj H
  go_enter Try.func6, Try.ntmps6
  go_wp2_with (first | ((with_reducible refine gate_dst (N := 8) rfl ?_); (try (refine gate_guard (by rfl) ?_; dsimp only)); refine Kd.S_lit k51 _ 51 rf_ (N := 8) rf_ (xs := ([(⟨(⟨#[122]⟩ : ByteArray), ([] : List (S56)), 2500, 0⟩ : S51)] : List (S51))) (inner := [.string (⟨#[122]⟩ : ByteArray), .slice none 0 0, .int .i64 2500, .int .i64 0]) (ok := fun _ => True) (okp := fun _ => True) lr_ ?hp (fun _ hk => hk) trivial (Below.refl _ _) (Nat.le_refl _) (by simp) ?_; (case hp => exact (Reps.c4 (show Kd.M k51 _ _ _ (⟨(⟨#[122]⟩ : ByteArray), ([] : List (S56)), 2500, 0⟩ : S51) [.string (⟨#[122]⟩ : ByteArray), .slice none 0 0, .int .i64 2500, .int .i64 0] from (k51_mkM _ _ _ (⟨(⟨#[122]⟩ : ByteArray), ([] : List (S56)), 2500, 0⟩ : S51) (Kd.R_nil _ _ _ _ _))) (Reps.none _ _))); intro v226 w26 ho27 hb hg_ hnew_; clear hg_ hnew_; (first | rw [← Ny225.out] at ho27 | (simp only [Int.reduceToNat] at ho27; rw [← Ny225.out] at ho27)); have HO227 := Aside0.mk (Kd.S_lower ho27 (below_size (hb0_ HB))); replace HB := Aside0.mk (below_step (hb0_ HB) hb); clear hb ho27; obtain ⟨Ao28, co28, eo28⟩ := Kd.S_slice HO227.out; subst eo28) | ((with_reducible refine gate_dst (N := 1) rfl ?_); (try (refine gate_guard (by rfl) ?_; dsimp only)); refine box_event rf_ (N := 1) rf_ (cs := #[.bool false, .bool false, .int .i64 0, .slice none 0 0]) (t := 24) lr_ ?_; intro gb228 hg w29 hbox hb; replace HO227 := Aside0.mk (Kd.S_below (so_ HO227) hb); have BK228 := Aside0.mk hbox; have GE228 := Aside0.mk (ge_ HB hg (hb0_ HB)); replace HB := Aside0.mk (below_step (hb0_ HB) hb); clear hb hbox hg; obtain ⟨hcz30_0, hcz30_1, hcz30_2, hcz30_3⟩ := cz4_ BK228; obtain ⟨hfz30_0, hfz30_1, hfz30_2, hfz30_3⟩ := fz4_ BK228) | ((with_reducible refine gate_dst (N := 12) rfl ?_); (try (refine gate_guard (by rfl) ?_; dsimp only)); refine Kd.R_lit Kd.string _ 9 rf_ (N := 12) rf_ (xs := ([(⟨#[99]⟩ : ByteArray)] : List ByteArray)) (inner := [.string (⟨#[99]⟩ : ByteArray)]) (ok := fun _ => True) (okp := fun _ => True) lr_ ?hp (fun _ hk => hk) trivial (Below.refl _ _) (Nat.le_refl _) (by simp) ?_; (case hp => exact (Reps.one (show Kd.M Kd.string _ _ _ (⟨#[99]⟩ : ByteArray) [.string (⟨#[99]⟩ : ByteArray)] from rfl) (Reps.none _ _))); intro v230 w31 ho32 hb hg_ hnew_; clear hg_ hnew_; (first | rw [← Ny229.out] at ho32 | (simp only [Int.reduceToNat] at ho32; rw [← Ny229.out] at ho32)); replace HO227 := Aside0.mk (Kd.S_below (by (with_reducible repeat (first | apply Kd.S_alloc | apply Kd.S_drewN | apply Kd.S_drew)); exact (Kd.S_mono (Kd.S_far (p := ⟨gb228, 3, none⟩) (Kd.S_far (p := ⟨gb228, 2, none⟩) (Kd.S_far (p := ⟨gb228, 1, none⟩) (Kd.S_far (p := ⟨gb228, 0, none⟩) (Kd.S_types HO227.out BK228.out (by decide)) (fun _ hk => hk.2) (.bool true)) (fun _ hk => hk.2) (.bool false)) (fun _ hk => hk.2) (.int .i64 1)) (fun _ hk => hk.2) (.slice Ao28 y225.length co28)) (fun _ h_ => h_.1))) hb); have HO231 := Aside0.mk (Kd.R_lower ho32 (below_size (hb1_ HB GE228))); replace BK228 := Aside0.mk (blk_below (g := gb228) (o := .cells #[.bool true, .bool false, .int .i64 1, .slice Ao28 y225.length co28] 24 (0, 0)) (bq0_ BK228) hb); replace HB := Aside0.mk (below_step (hb1_ HB GE228) hb); clear hb ho32) | ((with_reducible refine gate_dst (N := 13) rfl ?_); (try (refine gate_guard (by rfl) ?_; dsimp only)); refine Kd.R_lit (Kd.int .i64) _ 2 rf_ (N := 13) rf_ (xs := ([100] : List Int)) (inner := [.int .i64 100]) (ok := fun _ => True) (okp := fun _ => True) lr_ ?hp (fun _ hk => hk) trivial (Below.refl _ _) (Nat.le_refl _) (by simp) ?_; (case hp => exact (Reps.one (show Kd.M (Kd.int .i64) _ _ _ 100 [.int .i64 100] from rfl) (Reps.none _ _))); intro v233 w33 ho34 hb hg_ hnew_; clear hg_ hnew_; (first | rw [← Ny232.out] at ho34 | (simp only [Int.reduceToNat] at ho34; rw [← Ny232.out] at ho34)); replace HO227 := Aside0.mk (Kd.S_below (so_ HO227) hb); replace HO231 := Aside0.mk (Kd.R_below (ro_ HO231) hb); have HO234 := Aside0.mk (Kd.R_lower ho34 (below_size (hb1_ HB GE228))); replace BK228 := Aside0.mk (bb_ BK228 hb); replace HB := Aside0.mk (below_step (hb1_ HB GE228) hb); clear hb ho34; obtain ⟨Ao35, co35, eo35⟩ := Kd.R_slice HO231.out; subst eo35; obtain ⟨Ao36, co36, eo36⟩ := Kd.R_slice HO234.out; subst eo36) | (refine gl_ 11 14 Try.func11 #[.agg #[.bool true, .bool false, .int .i64 1, .slice Ao28 y225.length co28], .string (⟨#[122]⟩ : ByteArray), .bool false, .slice Ao35 y229.length co35, .slice Ao36 y232.length co36, .int .i64 0] ?_; (with_reducible refine (levy_Levy.calls k true false 1 _ _ y225 (⟨#[122]⟩ : ByteArray) false _ _ y229 _ _ y232 0 t235 t238 t241 t242 t243 _ ?side1 ?side2 ?side3 ?side4 ?side5 ?side6 A1.out).mono ?_); (case side1 => exact sc_ (Kd.S_reads' HO227.out).2.2); (case side2 => exact (Kd.S_reads' HO227.out).2.1); (case side3 => exact sc_ (Kd.R_reads' HO231.out).2.2); (case side4 => exact (Kd.R_reads' HO231.out).2.1); (case side5 => exact sc_ (Kd.R_reads' HO234.out).2.2); (case side6 => exact (Kd.R_reads' HO234.out).2.1); rintro e w37 ⟨v236, v239, rfl, ho0, ho1, hb⟩; refine ⟨_, rfl, ?_⟩; replace HO227 := Aside0.mk (Kd.S_below (so_ HO227) hb); replace HO231 := Aside0.mk (Kd.R_below (ro_ HO231) hb); have HO237 := Aside0.mk (Kd.R_lower (Kd.R_new' ho0 (Kd.R_lt (ro_ HO234))) (below_size (hb1_ HB GE228))); have HO240 := Aside0.mk (Kd.R_lower (Kd.R_new' ho1 (Kd.R_lt (ro_ HO234))) (below_size (hb1_ HB GE228))); replace HO234 := Aside0.mk (Kd.R_mono (Kd.R_told (Kd.R_told (Kd.R_old (ro_ HO234) hb) (Kd.R_base ho0)) (Kd.R_base ho1)) (fun _ h_ => h_.1)); replace BK228 := Aside0.mk (bb_ BK228 hb); replace HB := Aside0.mk (below_step (hb1_ HB GE228) hb); (try clear hb); (try clear ho0); (try clear ho1)) | ((with_reducible refine gate_dst (N := 24) rfl ?_); (try (refine gate_guard (by rfl) ?_; dsimp only)); refine Kd.R_lit (Kd.int .i64) _ 2 rf_ (N := 24) rf_ (xs := ([80] : List Int)) (inner := [.int .i64 80]) (ok := fun _ => True) (okp := fun _ => True) lr_ ?hp (fun _ hk => hk) trivial (Below.refl _ _) (Nat.le_refl _) (by simp) ?_; (case hp => exact (Reps.one (show Kd.M (Kd.int .i64) _ _ _ 80 [.int .i64 80] from rfl) (Reps.none _ _))); intro v245 w38 ho39 hb hg_ hnew_; clear hg_ hnew_; (first | rw [← Ny244.out] at ho39 | (simp only [Int.reduceToNat] at ho39; rw [← Ny244.out] at ho39)); replace HO227 := Aside0.mk (Kd.S_below (so_ HO227) hb); replace HO231 := Aside0.mk (Kd.R_below (ro_ HO231) hb); have HO246 := Aside0.mk (Kd.R_lower (Kd.R_new' (Kd.R_new' (Kd.R_new' ho39 (Kd.R_lt (ro_ HO234))) (Kd.R_lt (ro_ HO237))) (Kd.R_lt (ro_ HO240))) (below_size (hb1_ HB GE228))); replace HO234 := Aside0.mk (Kd.R_elder' (ro_ HO234) (Kd.R_base ho39) hb); replace HO237 := Aside0.mk (Kd.R_elder' (ro_ HO237) (Kd.R_base ho39) hb); replace HO240 := Aside0.mk (Kd.R_elder' (ro_ HO240) (Kd.R_base ho39) hb); replace BK228 := Aside0.mk (bb_ BK228 hb); replace HB := Aside0.mk (below_step (hb1_ HB GE228) hb); clear hb ho39; obtain ⟨Ao40, co40, eo40⟩ := Kd.R_slice HO237.out; subst eo40; obtain ⟨Ao41, co41, eo41⟩ := Kd.R_slice HO246.out; subst eo41) | (go_at_call 18; (with_reducible refine (haberdashhelp_Plain_int64.calls k _ _ t235 _ _ y244 false _ ?side1 ?side2 ?side3 ?side4 A3.out).mono ?_); (case side1 => exact sc_ (Kd.R_reads' HO237.out).2.2); (case side2 => exact (Kd.R_reads' HO237.out).2.1); (case side3 => exact sc_ (Kd.R_reads' HO246.out).2.2); (case side4 => exact (Kd.R_reads' HO246.out).2.1); rintro e w' ⟨rfl, ⟨nd, rfl⟩⟩))
  go_ret
  exact ⟨er_, hb1_ HB GE228⟩
 subst c4
 rw [if_pos rfl] at H
 obtain ⟨y248, hy248⟩ : ∃ y_ : List Int, y_ = (([20] : List Int)) := ⟨_, rfl⟩
 replace H : ((haberdashhelp_Plain_int64.f k t238 y248).bind fun t251 => (some t251)) = some r := hy_ hy248 H
 have Ny248 := Aside0.mk hy248
 clear hy248
 replace H := Option.bind_eq_some_iff.mp H
 obtain ⟨t251, A50, H⟩ := H
 (try dsimp only at H)
 have A5 := Aside0.mk A50
 clear A50
 obtain rfl := Option.some.inj H
 go_enter Try.func6, Try.ntmps6
 go_wp2_with (first | ((with_reducible refine gate_dst (N := 8) rfl ?_); (try (refine gate_guard (by rfl) ?_; dsimp only)); refine Kd.S_lit k51 _ 51 rf_ (N := 8) rf_ (xs := ([(⟨(⟨#[122]⟩ : ByteArray), ([] : List (S56)), 2500, 0⟩ : S51)] : List (S51))) (inner := [.string (⟨#[122]⟩ : ByteArray), .slice none 0 0, .int .i64 2500, .int .i64 0]) (ok := fun _ => True) (okp := fun _ => True) lr_ ?hp (fun _ hk => hk) trivial (Below.refl _ _) (Nat.le_refl _) (by simp) ?_; (case hp => exact (Reps.c4 (show Kd.M k51 _ _ _ (⟨(⟨#[122]⟩ : ByteArray), ([] : List (S56)), 2500, 0⟩ : S51) [.string (⟨#[122]⟩ : ByteArray), .slice none 0 0, .int .i64 2500, .int .i64 0] from (k51_mkM _ _ _ (⟨(⟨#[122]⟩ : ByteArray), ([] : List (S56)), 2500, 0⟩ : S51) (Kd.R_nil _ _ _ _ _))) (Reps.none _ _))); intro v226 w6 ho7 hb hg_ hnew_; clear hg_ hnew_; (first | rw [← Ny225.out] at ho7 | (simp only [Int.reduceToNat] at ho7; rw [← Ny225.out] at ho7)); have HO227 := Aside0.mk (Kd.S_lower ho7 (below_size (hb0_ HB))); replace HB := Aside0.mk (below_step (hb0_ HB) hb); clear hb ho7; obtain ⟨Ao8, co8, eo8⟩ := Kd.S_slice HO227.out; subst eo8) | ((with_reducible refine gate_dst (N := 1) rfl ?_); (try (refine gate_guard (by rfl) ?_; dsimp only)); refine box_event rf_ (N := 1) rf_ (cs := #[.bool false, .bool false, .int .i64 0, .slice none 0 0]) (t := 24) lr_ ?_; intro gb228 hg w9 hbox hb; replace HO227 := Aside0.mk (Kd.S_below (so_ HO227) hb); have BK228 := Aside0.mk hbox; have GE228 := Aside0.mk (ge_ HB hg (hb0_ HB)); replace HB := Aside0.mk (below_step (hb0_ HB) hb); clear hb hbox hg; obtain ⟨hcz10_0, hcz10_1, hcz10_2, hcz10_3⟩ := cz4_ BK228; obtain ⟨hfz10_0, hfz10_1, hfz10_2, hfz10_3⟩ := fz4_ BK228) | ((with_reducible refine gate_dst (N := 12) rfl ?_); (try (refine gate_guard (by rfl) ?_; dsimp only)); refine Kd.R_lit Kd.string _ 9 rf_ (N := 12) rf_ (xs := ([(⟨#[99]⟩ : ByteArray)] : List ByteArray)) (inner := [.string (⟨#[99]⟩ : ByteArray)]) (ok := fun _ => True) (okp := fun _ => True) lr_ ?hp (fun _ hk => hk) trivial (Below.refl _ _) (Nat.le_refl _) (by simp) ?_; (case hp => exact (Reps.one (show Kd.M Kd.string _ _ _ (⟨#[99]⟩ : ByteArray) [.string (⟨#[99]⟩ : ByteArray)] from rfl) (Reps.none _ _))); intro v230 w11 ho12 hb hg_ hnew_; clear hg_ hnew_; (first | rw [← Ny229.out] at ho12 | (simp only [Int.reduceToNat] at ho12; rw [← Ny229.out] at ho12)); replace HO227 := Aside0.mk (Kd.S_below (by (with_reducible repeat (first | apply Kd.S_alloc | apply Kd.S_drewN | apply Kd.S_drew)); exact (Kd.S_mono (Kd.S_far (p := ⟨gb228, 3, none⟩) (Kd.S_far (p := ⟨gb228, 2, none⟩) (Kd.S_far (p := ⟨gb228, 1, none⟩) (Kd.S_far (p := ⟨gb228, 0, none⟩) (Kd.S_types HO227.out BK228.out (by decide)) (fun _ hk => hk.2) (.bool true)) (fun _ hk => hk.2) (.bool false)) (fun _ hk => hk.2) (.int .i64 1)) (fun _ hk => hk.2) (.slice Ao8 y225.length co8)) (fun _ h_ => h_.1))) hb); have HO231 := Aside0.mk (Kd.R_lower ho12 (below_size (hb1_ HB GE228))); replace BK228 := Aside0.mk (blk_below (g := gb228) (o := .cells #[.bool true, .bool false, .int .i64 1, .slice Ao8 y225.length co8] 24 (0, 0)) (bq0_ BK228) hb); replace HB := Aside0.mk (below_step (hb1_ HB GE228) hb); clear hb ho12) | ((with_reducible refine gate_dst (N := 13) rfl ?_); (try (refine gate_guard (by rfl) ?_; dsimp only)); refine Kd.R_lit (Kd.int .i64) _ 2 rf_ (N := 13) rf_ (xs := ([100] : List Int)) (inner := [.int .i64 100]) (ok := fun _ => True) (okp := fun _ => True) lr_ ?hp (fun _ hk => hk) trivial (Below.refl _ _) (Nat.le_refl _) (by simp) ?_; (case hp => exact (Reps.one (show Kd.M (Kd.int .i64) _ _ _ 100 [.int .i64 100] from rfl) (Reps.none _ _))); intro v233 w13 ho14 hb hg_ hnew_; clear hg_ hnew_; (first | rw [← Ny232.out] at ho14 | (simp only [Int.reduceToNat] at ho14; rw [← Ny232.out] at ho14)); replace HO227 := Aside0.mk (Kd.S_below (so_ HO227) hb); replace HO231 := Aside0.mk (Kd.R_below (ro_ HO231) hb); have HO234 := Aside0.mk (Kd.R_lower ho14 (below_size (hb1_ HB GE228))); replace BK228 := Aside0.mk (bb_ BK228 hb); replace HB := Aside0.mk (below_step (hb1_ HB GE228) hb); clear hb ho14; obtain ⟨Ao15, co15, eo15⟩ := Kd.R_slice HO231.out; subst eo15; obtain ⟨Ao16, co16, eo16⟩ := Kd.R_slice HO234.out; subst eo16) | (refine gl_ 11 14 Try.func11 #[.agg #[.bool true, .bool false, .int .i64 1, .slice Ao8 y225.length co8], .string (⟨#[122]⟩ : ByteArray), .bool false, .slice Ao15 y229.length co15, .slice Ao16 y232.length co16, .int .i64 0] ?_; (with_reducible refine (levy_Levy.calls k true false 1 _ _ y225 (⟨#[122]⟩ : ByteArray) false _ _ y229 _ _ y232 0 t235 t238 t241 t242 t243 _ ?side1 ?side2 ?side3 ?side4 ?side5 ?side6 A1.out).mono ?_); (case side1 => exact sc_ (Kd.S_reads' HO227.out).2.2); (case side2 => exact (Kd.S_reads' HO227.out).2.1); (case side3 => exact sc_ (Kd.R_reads' HO231.out).2.2); (case side4 => exact (Kd.R_reads' HO231.out).2.1); (case side5 => exact sc_ (Kd.R_reads' HO234.out).2.2); (case side6 => exact (Kd.R_reads' HO234.out).2.1); rintro e w17 ⟨v236, v239, rfl, ho0, ho1, hb⟩; refine ⟨_, rfl, ?_⟩; replace HO227 := Aside0.mk (Kd.S_below (so_ HO227) hb); replace HO231 := Aside0.mk (Kd.R_below (ro_ HO231) hb); have HO237 := Aside0.mk (Kd.R_lower (Kd.R_new' ho0 (Kd.R_lt (ro_ HO234))) (below_size (hb1_ HB GE228))); have HO240 := Aside0.mk (Kd.R_lower (Kd.R_new' ho1 (Kd.R_lt (ro_ HO234))) (below_size (hb1_ HB GE228))); replace HO234 := Aside0.mk (Kd.R_mono (Kd.R_told (Kd.R_told (Kd.R_old (ro_ HO234) hb) (Kd.R_base ho0)) (Kd.R_base ho1)) (fun _ h_ => h_.1)); replace BK228 := Aside0.mk (bb_ BK228 hb); replace HB := Aside0.mk (below_step (hb1_ HB GE228) hb); (try clear hb); (try clear ho0); (try clear ho1)) | ((with_reducible refine gate_dst (N := 24) rfl ?_); (try (refine gate_guard (by rfl) ?_; dsimp only)); refine Kd.R_lit (Kd.int .i64) _ 2 rf_ (N := 24) rf_ (xs := ([80] : List Int)) (inner := [.int .i64 80]) (ok := fun _ => True) (okp := fun _ => True) lr_ ?hp (fun _ hk => hk) trivial (Below.refl _ _) (Nat.le_refl _) (by simp) ?_; (case hp => exact (Reps.one (show Kd.M (Kd.int .i64) _ _ _ 80 [.int .i64 80] from rfl) (Reps.none _ _))); intro v245 w18 ho19 hb hg_ hnew_; clear hg_ hnew_; (first | rw [← Ny244.out] at ho19 | (simp only [Int.reduceToNat] at ho19; rw [← Ny244.out] at ho19)); replace HO227 := Aside0.mk (Kd.S_below (so_ HO227) hb); replace HO231 := Aside0.mk (Kd.R_below (ro_ HO231) hb); have HO246 := Aside0.mk (Kd.R_lower (Kd.R_new' (Kd.R_new' (Kd.R_new' ho19 (Kd.R_lt (ro_ HO234))) (Kd.R_lt (ro_ HO237))) (Kd.R_lt (ro_ HO240))) (below_size (hb1_ HB GE228))); replace HO234 := Aside0.mk (Kd.R_elder' (ro_ HO234) (Kd.R_base ho19) hb); replace HO237 := Aside0.mk (Kd.R_elder' (ro_ HO237) (Kd.R_base ho19) hb); replace HO240 := Aside0.mk (Kd.R_elder' (ro_ HO240) (Kd.R_base ho19) hb); replace BK228 := Aside0.mk (bb_ BK228 hb); replace HB := Aside0.mk (below_step (hb1_ HB GE228) hb); clear hb ho19; obtain ⟨Ao20, co20, eo20⟩ := Kd.R_slice HO237.out; subst eo20; obtain ⟨Ao21, co21, eo21⟩ := Kd.R_slice HO246.out; subst eo21) | (go_at_call 18; (with_reducible refine (haberdashhelp_Plain_int64.calls k _ _ t235 _ _ y244 true _ ?side1 ?side2 ?side3 ?side4 A3.out).mono ?_); (case side1 => exact sc_ (Kd.R_reads' HO237.out).2.2); (case side2 => exact (Kd.R_reads' HO237.out).2.1); (case side3 => exact sc_ (Kd.R_reads' HO246.out).2.2); (case side4 => exact (Kd.R_reads' HO246.out).2.1); rintro e w' ⟨rfl, ⟨nd, rfl⟩⟩) | ((with_reducible refine gate_dst (N := 29) rfl ?_); (try (refine gate_guard (by rfl) ?_; dsimp only)); refine Kd.R_lit (Kd.int .i64) _ 2 rf_ (N := 29) rf_ (xs := ([20] : List Int)) (inner := [.int .i64 20]) (ok := fun _ => True) (okp := fun _ => True) lr_ ?hp (fun _ hk => hk) trivial (Below.refl _ _) (Nat.le_refl _) (by simp) ?_; (case hp => exact (Reps.one (show Kd.M (Kd.int .i64) _ _ _ 20 [.int .i64 20] from rfl) (Reps.none _ _))); intro v249 w22 ho23 hb hg_ hnew_; clear hg_ hnew_; (first | rw [← Ny248.out] at ho23 | (simp only [Int.reduceToNat] at ho23; rw [← Ny248.out] at ho23)); replace HO227 := Aside0.mk (Kd.S_below (so_ HO227) hb); replace HO231 := Aside0.mk (Kd.R_below (ro_ HO231) hb); have HO250 := Aside0.mk (Kd.R_lower (Kd.R_new' (Kd.R_new' (Kd.R_new' (Kd.R_new' ho23 (Kd.R_lt (ro_ HO234))) (Kd.R_lt (ro_ HO237))) (Kd.R_lt (ro_ HO240))) (Kd.R_lt (ro_ HO246))) (below_size (hb1_ HB GE228))); replace HO234 := Aside0.mk (Kd.R_elder' (ro_ HO234) (Kd.R_base ho23) hb); replace HO237 := Aside0.mk (Kd.R_elder' (ro_ HO237) (Kd.R_base ho23) hb); replace HO240 := Aside0.mk (Kd.R_elder' (ro_ HO240) (Kd.R_base ho23) hb); replace HO246 := Aside0.mk (Kd.R_elder' (ro_ HO246) (Kd.R_base ho23) hb); replace BK228 := Aside0.mk (bb_ BK228 hb); replace HB := Aside0.mk (below_step (hb1_ HB GE228) hb); clear hb ho23; obtain ⟨Ao24, co24, eo24⟩ := Kd.R_slice HO240.out; subst eo24; obtain ⟨Ao25, co25, eo25⟩ := Kd.R_slice HO250.out; subst eo25) | (go_at_call 18; (with_reducible refine (haberdashhelp_Plain_int64.calls k _ _ t238 _ _ y248 t251 _ ?side1 ?side2 ?side3 ?side4 A5.out).mono ?_); (case side1 => exact sc_ (Kd.R_reads' HO240.out).2.2); (case side2 => exact (Kd.R_reads' HO240.out).2.1); (case side3 => exact sc_ (Kd.R_reads' HO250.out).2.2); (case side4 => exact (Kd.R_reads' HO250.out).2.1); rintro e w' ⟨rfl, ⟨nd, rfl⟩⟩))
 go_ret
 exact ⟨er_, hb1_ HB GE228⟩

end Go.Proofs.Ytmiamdnhofjifaa.Rw
end
