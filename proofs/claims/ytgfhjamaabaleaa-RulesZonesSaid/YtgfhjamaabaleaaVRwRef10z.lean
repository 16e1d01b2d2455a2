/- Functions of the program as Lean functions, each with its contract: out of what the kit's printer wrote for this seat. -/
import Derived.Test.YtgfhjamaabaleaaVRwA
import Derived.Test.YtgfhjamaabaleaaVRwAb
namespace Go.Proofs.Ytgfhjamaabaleaa.Rw
open Go.RowKit Go.Proofs.YtgfhjamaabaleaaW.PrintWords Go.Proofs.YtgfhjamaabaleaaW.PrintLast Go.Proofs.YtgfhjamaabaleaaW.PrintMore
attribute [local go_sem] max2_int min2_int max_two min_two max_three min_three max_four min_four   -- for this text's walks alone
set_option linter.unusedVariables false
set_option linter.unusedSimpArgs false
attribute [local go_sem high] leqS gtrS
attribute [local go_sem high] eqA39

/-! ### haberdashref10_Zone: function 10 -/
def haberdashref10_Zone.l0 : Nat → ByteArray → Int → Bool → Bool → Int → List (S28) → Option (ByteArray × (List (S39)) × Int × Int × Bool)
 | 0, _, _, _, _, _, _ => none
 | k + 1, x1, x6, x232000, x232001, x232002, x232003 => if x6 < (x232003.length : Int) then (if 0 ≤ x6 then (if ((rd_T28 x232003 x6).f0).toList = x1.toList then (some ((rd_T28 x232003 x6).f0, (rd_T28 x232003 x6).f1, (rd_T28 x232003 x6).f2, (rd_T28 x232003 x6).f3, true)) else (haberdashref10_Zone.l0 k x1 (wrap64 (x6 + 1)) x232000 x232001 x232002 x232003)) else (none)) else (some ((⟨#[]⟩ : ByteArray), ([] : List (S39)), 0, 0, false))
def haberdashref10_Zone.f (k : Nat) (a0_0 : Bool) (a0_1 : Bool) (a0_2 : Int) (l0_3 : List (S28)) (a1 : ByteArray) : Option (ByteArray × (List (S39)) × Int × Int × Bool) := haberdashref10_Zone.l0 k a1 0 a0_0 a0_1 a0_2 l0_3
set_option maxHeartbeats 8000000 in
set_option maxRecDepth 100000 in
theorem haberdashref10_Zone.calls (k : Nat) (a0_0 : Bool) (a0_1 : Bool) (a0_2 : Int) (P0_3_ : Nat → Prop) (A0_3 : Option Addr) (c0_3 : Nat) (l0_3 : List (S28)) (a1 : ByteArray) (r1 : ByteArray) (r2 : List (S39)) (r3 : Int) (r4 : Int) (r5 : Bool) (w : World) (hs0_3 : Kd.V k28 28 w w.heap.size (fun k_ => P0_3_ k_) (.slice A0_3 l0_3.length c0_3) l0_3) (h : haberdashref10_Zone.f k a0_0 a0_1 a0_2 l0_3 a1 = some (r1, r2, r3, r4, r5)) :
 Calls Try.prog 10 #[.agg #[.bool a0_0, .bool a0_1, .int .i64 a0_2, .slice A0_3 l0_3.length c0_3], .string a1] w fun e w' => ∃ v1_ : Value, e = .returned (.tuple #[.agg #[.string r1, v1_, .int .i64 r3, .int .i64 r4], .bool r5]) ∧ Kd.V k39 39 w' w.heap.size (fun k_ => (P0_3_ k_ ∨ w.heap.size ≤ k_)) v1_ r2 ∧ Below w.heap.size w w' := by
 have hu24 := Try.underlying24
 have hu28 := Try.underlying28
 have HO0_3 := Aside0.mk (show Kd.V k28 28 w w.heap.size (fun k_ => (P0_3_ k_ ∨ w.heap.size ≤ k_)) (.slice A0_3 l0_3.length c0_3) l0_3 from Kd.V_mono hs0_3 (fun k_ hk => .inl hk))
 have HB := Aside0.mk (Below.refl w.heap.size w)
 have H : (haberdashref10_Zone.l0 k a1 0 a0_0 a0_1 a0_2 l0_3) = some (r1, r2, r3, r4, r5) := h
 clear h
 have H' := Aside0.mk H
 clear H
 go_enter Try.func10, Try.ntmps10
 go_wp2_with (first | ((with_reducible refine gate_dst (N := 2) rfl ?_); refine box_event rf_ (N := 2) rf_ (cs := #[.bool a0_0, .bool a0_1, .int .i64 a0_2, .slice A0_3 l0_3.length c0_3]) (t := 24) lr_ ?_; intro gb231 hg w3 hbox hb; replace HO0_3 := Aside0.mk (Kd.V_below (Kd.V_elderB (vo_ HO0_3) gb231 (Nat.le_of_eq hg.symm)) hb); have BK231 := Aside0.mk hbox; have GE231 := Aside0.mk (ge_ HB hg (hb0_ HB)); replace HB := Aside0.mk (below_step (hb0_ HB) hb); clear hb hbox hg) | ((with_reducible refine gate_dst (N := 4) rfl ?_); refine box_event rf_ (N := 4) rf_ (cs := #[.string (⟨#[]⟩ : ByteArray), .slice none 0 0, .int .i64 0, .int .i64 0]) (t := 28) lr_ ?_; intro gb232 hg w4 hbox hb; replace HO0_3 := Aside0.mk (Kd.V_below (Kd.V_elderB (vo_ HO0_3) gb232 (Nat.le_of_eq hg.symm)) hb); have BK232 := Aside0.mk hbox; have GE232 := Aside0.mk (ge_ HB hg (hb1_ HB GE231)); replace HB := Aside0.mk (below_step (hb1_ HB GE231) hb); have NB231_232 := Aside0.mk (nl_ BK231 hg); have NB232_231 := Aside0.mk (ng_ BK231 hg); replace BK231 := Aside0.mk (bb_ BK231 hb); clear hb hbox hg))
 go_loopg [6] k (fun kq v6 w' => ∃ (x6_1 : Int) (x233000_1 : ByteArray) (x233002_1 : Int) (x233003_1 : Int), v6 = .int .i64 x6_1 ∧ Aside0 (haberdashref10_Zone.l0 kq a1 x6_1 a0_0 a0_1 a0_2 l0_3 = some (r1, r2, r3, r4, r5)) ∧ Aside0 (kq ≤ k) ∧ Aside0 (Kd.V k28 28 w' w.heap.size (fun k_ => (P0_3_ k_ ∨ w.heap.size ≤ k_) ∧ k_ ≠ gb231 ∧ k_ ≠ gb232) (.slice A0_3 l0_3.length c0_3) l0_3) ∧ Aside0 (w'.heap[gb231]? = some (.cells #[.bool a0_0, .bool a0_1, .int .i64 a0_2, (.slice A0_3 l0_3.length c0_3)] 24 (0, 0))) ∧ Aside0 (w'.heap[gb232]? = some (.cells #[.string x233000_1, (.slice none 0 0), .int .i64 x233002_1, .int .i64 x233003_1] 28 (0, 0))) ∧ Aside0 (Below w.heap.size w w'))
 case atStart => exact ⟨(0), ((⟨#[]⟩ : ByteArray)), (0), (0), rf_, H', ⟨Nat.le_refl _⟩, ⟨by (with_reducible repeat (first | apply Kd.V_alloc | apply Kd.V_drewN | apply Kd.V_drew)); exact Kd.V_mono HO0_3.out (fun _ hk => ⟨hk.1.1, ⟨hk.1.2, hk.2⟩⟩)⟩, ⟨bk_ BK231⟩, ⟨bk_ BK232⟩, ⟨hb2_ HB GE231 GE232⟩⟩
 case round =>
  clear H'; (try clear c1); (try clear p2); obtain ⟨x6_1, x233000_1, x233002_1, x233003_1, rfl, HA, HK1, HO_232003, BK231, BK232, HB⟩ := hrel
  cases gk with
  | zero => exact absurd HA.out (by simp [haberdashref10_Zone.l0])
  | succ k1 =>
   have H := HA.out; clear HA
   simp only [haberdashref10_Zone.l0] at H
   by_cases c5 : x6_1 < (l0_3.length : Int)
   rotate_left
   ·
    rw [if_neg c5] at H; have c5b0 := decide_eq_false c5; clear c5
    simp only [Option.some.injEq, Prod.mk.injEq] at H
    obtain ⟨rfl, rfl, rfl, rfl, rfl⟩ := H; have hnb13 := NB231_232.out; have hnc13 := NB232_231.out; obtain ⟨hcz14_0, hcz14_1, hcz14_2, hcz14_3⟩ := cz4_ BK231; obtain ⟨hfz14_0, hfz14_1, hfz14_2, hfz14_3⟩ := fz4_ BK231; obtain ⟨hcz15_0, hcz15_1, hcz15_2, hcz15_3⟩ := cz4_ BK232; obtain ⟨hfz15_0, hfz15_1, hfz15_2, hfz15_3⟩ := fz4_ BK232
    go_wp2
    refine bodyPost_ret (results_ct rfl _ _ gb232 28 #[.string (⟨#[]⟩ : ByteArray), .slice none 0 0, .int .i64 0, .int .i64 0] (0, 0) _ rfl (bq0_ BK232) Try.underlying28 rfl (by kernel_rfl)) rfl ?_
    exact ⟨_, er_, (by first | exact Kd.V_nil _ _ _ _ _ | exact Kd.V_mono (Kd.R_V (ni_)) (fun k_ hk => by first | exact ⟨(.inr (hk.1)), hk.2⟩ | exact (.inr (hk)))), hb2_ HB GE231 GE232⟩
   rw [if_pos c5] at H; have c5b0 := decide_eq_true c5; clear c5; replace H := ip_ H; obtain ⟨c6, H⟩ := H; have c6b0 := decide_eq_true c6; clear c6
   by_cases c7 : ((rd_T28 l0_3 x6_1).f0).toList = a1.toList
   rotate_left
   ·
    rw [if_neg c7] at H; have c7b0 : (((rd_T28 l0_3 x6_1).f0).toList == a1.toList) = false := beq_eq_false_iff_ne.mpr c7; have c7b1 : (((rd_T28 l0_3 x6_1).f0).toList != a1.toList) = true := bne_iff_ne.mpr c7; have H' := Aside0.mk H; clear H; have hnb11 := NB231_232.out; have hnc11 := NB232_231.out; obtain ⟨hcz12_0, hcz12_1, hcz12_2, hcz12_3⟩ := cz4_ BK231
    obtain ⟨hfz12_0, hfz12_1, hfz12_2, hfz12_3⟩ := fz4_ BK231; have p233 : 0 ≤ (x6_1 : Int) := of_decide_eq_true as_; have q233 : x6_1 < (l0_3.length : Int) := of_decide_eq_true as_; obtain ⟨ad233, A233_1, c233_1, e233, hx233_0, hx233_1, hx233_2, hx233_3, hl233_1, hi233_1⟩ := at_T28 (Kd.V_reads' HO_232003.out).2.2 x6_1 p233 q233
    cases e233
    obtain ⟨ce233, hce233, hMe233, hcc233⟩ := Kd.V_get HO_232003.out z28 x6_1 p233 (by first | exact q233 | exact of_decide_eq_true as_ | (have e_ := (Kd.V_reads' HO_232003.out).1; omega))
    obtain ⟨ua233_1, uc233_1, rfl, ul233_1, ge233_1⟩ := k28_openF hMe233; have hv233_1 := hcc233 1 _ rfl
    rw [add_field _ _ 1 (by omega)] at hv233_1
    replace hv233_1 := Option.some.inj (hv233_1.symm.trans hx233_1)
    injection hv233_1 with hva_ hvn_ hvc_
    rw [hva_] at ge233_1; rw [hvc_] at ul233_1; have HL233_1 := Aside0.mk (show Kd.V k39 39 _ w.heap.size _ _ ((rd_T28 l0_3 x6_1).f1) from Kd.V_mk ul233_1 ge233_1); clear hva_ hvn_ hvc_ ge233_1 ul233_1; clear hcc233 hce233; have HR233_1 := Aside0.mk hi233_1; have HC233_1 := Aside0.mk hl233_1; clear hi233_1 hl233_1
    replace p233 := eq_true p233; replace q233 := eq_true q233
    go_wp2
    go_roundg k1
    case measure => have := HK1.out; omega
    case rel => exact ⟨(wrap64 (x6_1 + 1)), (x233000_1), (x233002_1), (x233003_1), rf_, H', ⟨ho_ HK1⟩, ⟨vo_ HO_232003⟩, ⟨bk_ BK231⟩, ⟨bk_ BK232⟩, ⟨hb2_ HB GE231 GE232⟩⟩
   rw [if_pos c7] at H; have c7b0 : (((rd_T28 l0_3 x6_1).f0).toList == a1.toList) = true := beq_iff_eq.mpr c7; have c7b1 : (((rd_T28 l0_3 x6_1).f0).toList != a1.toList) = false := bne_eq_false_iff_eq.mpr c7; clear c7
   simp only [Option.some.injEq, Prod.mk.injEq] at H
   obtain ⟨rfl, rfl, rfl, rfl, rfl⟩ := H; have hnb8 := NB231_232.out; have hnc8 := NB232_231.out; obtain ⟨hcz9_0, hcz9_1, hcz9_2, hcz9_3⟩ := cz4_ BK231; obtain ⟨hfz9_0, hfz9_1, hfz9_2, hfz9_3⟩ := fz4_ BK231; have p233 : 0 ≤ (x6_1 : Int) := of_decide_eq_true as_; have q233 : x6_1 < (l0_3.length : Int) := of_decide_eq_true as_
   obtain ⟨ad233, A233_1, c233_1, e233, hx233_0, hx233_1, hx233_2, hx233_3, hl233_1, hi233_1⟩ := at_T28 (Kd.V_reads' HO_232003.out).2.2 x6_1 p233 q233; cases e233
   obtain ⟨ce233, hce233, hMe233, hcc233⟩ := Kd.V_get HO_232003.out z28 x6_1 p233 (by first | exact q233 | exact of_decide_eq_true as_ | (have e_ := (Kd.V_reads' HO_232003.out).1; omega))
   obtain ⟨ua233_1, uc233_1, rfl, ul233_1, ge233_1⟩ := k28_openF hMe233; have hv233_1 := hcc233 1 _ rfl
   rw [add_field _ _ 1 (by omega)] at hv233_1
   replace hv233_1 := Option.some.inj (hv233_1.symm.trans hx233_1)
   injection hv233_1 with hva_ hvn_ hvc_
   rw [hva_] at ge233_1; rw [hvc_] at ul233_1; have HL233_1 := Aside0.mk (show Kd.V k39 39 _ w.heap.size _ _ ((rd_T28 l0_3 x6_1).f1) from Kd.V_mk ul233_1 ge233_1); clear hva_ hvn_ hvc_ ge233_1 ul233_1; clear hcc233 hce233; have HR233_1 := Aside0.mk hi233_1; have HC233_1 := Aside0.mk hl233_1; clear hi233_1 hl233_1
   replace p233 := eq_true p233; replace q233 := eq_true q233; have p234 : 0 ≤ (x6_1 : Int) := of_decide_eq_true as_; have q234 : x6_1 < (l0_3.length : Int) := of_decide_eq_true as_; obtain ⟨ad234, A234_1, c234_1, e234, hx234_0, hx234_1, hx234_2, hx234_3, hl234_1, hi234_1⟩ := at_T28 (Kd.V_reads' HO_232003.out).2.2 x6_1 p234 q234
   obtain rfl : ad233 = ad234 := (by injection e234)
   obtain ⟨ce234, hce234, hMe234, hcc234⟩ := Kd.V_get HO_232003.out z28 x6_1 p234 (by first | exact q234 | exact of_decide_eq_true as_ | (have e_ := (Kd.V_reads' HO_232003.out).1; omega))
   obtain ⟨ua234_1, uc234_1, rfl, ul234_1, ge234_1⟩ := k28_openF hMe234; have hv234_1 := hcc234 1 _ rfl
   rw [add_field _ _ 1 (by omega)] at hv234_1
   replace hv234_1 := Option.some.inj (hv234_1.symm.trans hx234_1)
   injection hv234_1 with hva_ hvn_ hvc_
   rw [hva_] at ge234_1; rw [hvc_] at ul234_1; have HL234_1 := Aside0.mk (show Kd.V k39 39 _ w.heap.size _ _ ((rd_T28 l0_3 x6_1).f1) from Kd.V_mk ul234_1 ge234_1); clear hva_ hvn_ hvc_ ge234_1 ul234_1; clear hcc234 hce234; have HR234_1 := Aside0.mk hi234_1; have HC234_1 := Aside0.mk hl234_1; clear hi234_1 hl234_1
   replace p234 := eq_true p234; replace q234 := eq_true q234; have ea_ := Option.some.inj (hx233_1.symm.trans hx234_1)
   injection ea_ with ea_ en_ ec_
   subst ea_; subst ec_; clear en_; obtain ⟨hcz10_0, hcz10_1, hcz10_2, hcz10_3⟩ := cz4_ BK232; obtain ⟨hfz10_0, hfz10_1, hfz10_2, hfz10_3⟩ := fz4_ BK232
   go_wp2
   refine bodyPost_ret (results_ct rfl _ _ gb232 28 #[.string ((rd_T28 l0_3 x6_1).f0), .slice A233_1 ((rd_T28 l0_3 x6_1).f1).length c233_1, .int .i64 ((rd_T28 l0_3 x6_1).f2), .int .i64 ((rd_T28 l0_3 x6_1).f3)] (0, 0) _ rfl (bq0_ BK232) Try.underlying28 rfl (by kernel_rfl)) rfl ?_
   exact ⟨_, er_, by (with_reducible repeat (first | apply Kd.V_alloc | apply Kd.V_drewN | apply Kd.V_drew)); exact Kd.V_mono (Kd.V_far (p := ⟨gb232, 3, none⟩) (Kd.V_far (p := ⟨gb232, 2, none⟩) (Kd.V_far (p := ⟨gb232, 1, none⟩) (Kd.V_far (p := ⟨gb232, 0, none⟩) (Kd.V_mono HL234_1.out (fun k_ hk => (⟨hk, hk.2.2⟩ : _ ∧ k_ ≠ gb232))) (fun _ hk => hk.2) (.string ((rd_T28 l0_3 x6_1).f0))) (fun _ hk => hk.2) (.slice A233_1 ((rd_T28 l0_3 x6_1).f1).length c233_1)) (fun _ hk => hk.2) (.int .i64 ((rd_T28 l0_3 x6_1).f2))) (fun _ hk => hk.2) (.int .i64 ((rd_T28 l0_3 x6_1).f3))) (fun _ hk => hk.1.1), hb2_ HB GE231 GE232⟩

/-! ### haberdashref10_Rate: function 13 -/
def haberdashref10_Rate.l0 : Nat → ByteArray → Int → ByteArray → List (S39) → Int → Int → Option (Int)
 | 0, _, _, _, _, _, _ => none
 | k + 1, x1, x5, x245000, x245001, x245002, x245003 => if x5 < (x245001.length : Int) then (if 0 ≤ x5 then (if ((rd_T39 x245001 x5).f0).toList = x1.toList then (some ((rd_T39 x245001 x5).f1)) else (haberdashref10_Rate.l0 k x1 (wrap64 (x5 + 1)) x245000 x245001 x245002 x245003)) else (none)) else (some x245002)
def haberdashref10_Rate.f (k : Nat) (a0_0 : ByteArray) (l0_1 : List (S39)) (a0_2 : Int) (a0_3 : Int) (a1 : ByteArray) : Option (Int) := haberdashref10_Rate.l0 k a1 0 a0_0 l0_1 a0_2 a0_3
set_option maxHeartbeats 8000000 in
set_option maxRecDepth 100000 in
theorem haberdashref10_Rate.calls (k : Nat) (a0_0 : ByteArray) (A0_1 : Option Addr) (c0_1 : Nat) (l0_1 : List (S39)) (a0_2 : Int) (a0_3 : Int) (a1 : ByteArray) (r : Int) (w : World) (hr0_1 : Kd.C k39 w A0_1 l0_1.length l0_1) (hc0_1 : l0_1.length ≤ c0_1) (h : haberdashref10_Rate.f k a0_0 l0_1 a0_2 a0_3 a1 = some r) :
 Calls Try.prog 13 #[.agg #[.string a0_0, .slice A0_1 l0_1.length c0_1, .int .i64 a0_2, .int .i64 a0_3], .string a1] w fun e w' => e = .returned (.int .i64 r) ∧ Below w.heap.size w w' := by
 have hu28 := Try.underlying28
 have HR0_1 := Aside0.mk hr0_1
 have HC0_1 := Aside0.mk hc0_1
 clear hr0_1 hc0_1
 have HB := Aside0.mk (Below.refl w.heap.size w)
 have H : (haberdashref10_Rate.l0 k a1 0 a0_0 l0_1 a0_2 a0_3) = some r := h
 clear h
 have H' := Aside0.mk H
 clear H
 go_enter Try.func13, Try.ntmps13
 go_wp2_with (first | ((with_reducible refine gate_dst (N := 2) rfl ?_); refine box_event rf_ (N := 2) rf_ (cs := #[.string a0_0, .slice A0_1 l0_1.length c0_1, .int .i64 a0_2, .int .i64 a0_3]) (t := 28) lr_ ?_; intro gb244 hg w3 hbox hb; have BK244 := Aside0.mk hbox; have GE244 := Aside0.mk (ge_ HB hg (hb0_ HB)); replace HB := Aside0.mk (below_step (hb0_ HB) hb); clear hb hbox hg))
 go_loopg [5] k (fun kq v5 w' => ∃ (x5_1 : Int), v5 = .int .i64 x5_1 ∧ Aside0 (haberdashref10_Rate.l0 kq a1 x5_1 a0_0 l0_1 a0_2 a0_3 = some r) ∧ Aside0 (kq ≤ k) ∧ Aside0 (w'.heap[gb244]? = some (.cells #[.string a0_0, (.slice A0_1 l0_1.length c0_1), .int .i64 a0_2, .int .i64 a0_3] 28 (0, 0))) ∧ Aside0 (Below w.heap.size w w'))
 case atStart => exact ⟨(0), rf_, H', ⟨Nat.le_refl _⟩, ⟨bk_ BK244⟩, ⟨hb1_ HB GE244⟩⟩
 case round =>
  clear H'; (try clear c1); (try clear p2); obtain ⟨x5_1, rfl, HA, HK1, BK244, HB⟩ := hrel
  cases gk with
  | zero => exact absurd HA.out (by simp [haberdashref10_Rate.l0])
  | succ k1 =>
   have H := HA.out; clear HA
   simp only [haberdashref10_Rate.l0] at H
   by_cases c4 : x5_1 < (l0_1.length : Int)
   rotate_left
   ·
    rw [if_neg c4] at H; have c4b0 := decide_eq_false c4; clear c4; obtain rfl := Option.some.inj H; obtain ⟨hcz9_0, hcz9_1, hcz9_2, hcz9_3⟩ := cz4_ BK244; obtain ⟨hfz9_0, hfz9_1, hfz9_2, hfz9_3⟩ := fz4_ BK244
    go_wp2
    go_ret
    exact ⟨er_, hb1_ HB GE244⟩
   rw [if_pos c4] at H; have c4b0 := decide_eq_true c4; clear c4; replace H := ip_ H; obtain ⟨c5, H⟩ := H; have c5b0 := decide_eq_true c5; clear c5
   by_cases c6 : ((rd_T39 l0_1 x5_1).f0).toList = a1.toList
   rotate_left
   ·
    rw [if_neg c6] at H; have c6b0 : (((rd_T39 l0_1 x5_1).f0).toList == a1.toList) = false := beq_eq_false_iff_ne.mpr c6; have c6b1 : (((rd_T39 l0_1 x5_1).f0).toList != a1.toList) = true := bne_iff_ne.mpr c6; have H' := Aside0.mk H; clear H; obtain ⟨hcz8_0, hcz8_1, hcz8_2, hcz8_3⟩ := cz4_ BK244; obtain ⟨hfz8_0, hfz8_1, hfz8_2, hfz8_3⟩ := fz4_ BK244
    have p245 : 0 ≤ (x5_1 : Int) := of_decide_eq_true as_; have q245 : x5_1 < (l0_1.length : Int) := of_decide_eq_true as_; obtain ⟨ad245, e245, hx245_0, hx245_1⟩ := at_T39 HR0_1.out x5_1 p245 q245; cases e245; replace hx245_0 := hd_ HB hx245_0; replace hx245_1 := hd_ HB hx245_1; replace p245 := eq_true p245
    replace q245 := eq_true q245
    go_wp2
    go_roundg k1
    case measure => have := HK1.out; omega
    case rel => exact ⟨(wrap64 (x5_1 + 1)), rf_, H', ⟨ho_ HK1⟩, ⟨bk_ BK244⟩, ⟨hb1_ HB GE244⟩⟩
   rw [if_pos c6] at H; have c6b0 : (((rd_T39 l0_1 x5_1).f0).toList == a1.toList) = true := beq_iff_eq.mpr c6; have c6b1 : (((rd_T39 l0_1 x5_1).f0).toList != a1.toList) = false := bne_eq_false_iff_eq.mpr c6; clear c6; obtain rfl := Option.some.inj H; obtain ⟨hcz7_0, hcz7_1, hcz7_2, hcz7_3⟩ := cz4_ BK244
   obtain ⟨hfz7_0, hfz7_1, hfz7_2, hfz7_3⟩ := fz4_ BK244; have p245 : 0 ≤ (x5_1 : Int) := of_decide_eq_true as_; have q245 : x5_1 < (l0_1.length : Int) := of_decide_eq_true as_; obtain ⟨ad245, e245, hx245_0, hx245_1⟩ := at_T39 HR0_1.out x5_1 p245 q245; cases e245; replace hx245_0 := hd_ HB hx245_0; replace hx245_1 := hd_ HB hx245_1
   replace p245 := eq_true p245; replace q245 := eq_true q245; have p246 : 0 ≤ (x5_1 : Int) := of_decide_eq_true as_; have q246 : x5_1 < (l0_1.length : Int) := of_decide_eq_true as_; obtain ⟨ad246, e246, hx246_0, hx246_1⟩ := at_T39 HR0_1.out x5_1 p246 q246
   obtain rfl : ad245 = ad246 := (by injection e246)
   replace hx246_0 := hd_ HB hx246_0; replace hx246_1 := hd_ HB hx246_1; replace p246 := eq_true p246; replace q246 := eq_true q246
   go_wp2
   go_ret
   exact ⟨er_, hb1_ HB GE244⟩

end Go.Proofs.Ytgfhjamaabaleaa.Rw
