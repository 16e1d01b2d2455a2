/- Functions of the program as Lean functions, each with its contract: out of what the kit's printer wrote for this seat. -/
import Derived.Test.YtmiamdnhofjifaaVRwA
namespace Go.Proofs.Ytmiamdnhofjifaa.Rw
open Go.RowKit Go.Proofs.YtmiamdnhofjifaaW.PrintWords Go.Proofs.YtmiamdnhofjifaaW.PrintLast Go.Proofs.YtmiamdnhofjifaaW.PrintMore
attribute [local go_sem] max2_int min2_int max_two min_two max_three min_three max_four min_four   -- for this text's walks alone
set_option linter.unusedVariables false
set_option linter.unusedSimpArgs false
attribute [local go_sem high] leqS gtrS

/-! ### haberdashref10_Zone: function 28 -/
def haberdashref10_Zone.l0 : Nat → ByteArray → Int → Bool → Bool → Int → List (S51) → Option (ByteArray × (List (S56)) × Int × Int × Bool)
 | 0, _, _, _, _, _, _ => none
 | k + 1, x1, x6, x303000, x303001, x303002, x303003 => if x6 < (x303003.length : Int) then (if 0 ≤ x6 then (if ((rd_T51 x303003 x6).f0).toList = x1.toList then (some ((rd_T51 x303003 x6).f0, (rd_T51 x303003 x6).f1, (rd_T51 x303003 x6).f2, (rd_T51 x303003 x6).f3, true)) else (haberdashref10_Zone.l0 k x1 (wrap64 (x6 + 1)) x303000 x303001 x303002 x303003)) else (none)) else (some ((⟨#[]⟩ : ByteArray), ([] : List (S56)), 0, 0, false))
def haberdashref10_Zone.f (k : Nat) (a0_0 : Bool) (a0_1 : Bool) (a0_2 : Int) (l0_3 : List (S51)) (a1 : ByteArray) : Option (ByteArray × (List (S56)) × Int × Int × Bool) := haberdashref10_Zone.l0 k a1 0 a0_0 a0_1 a0_2 l0_3
set_option maxHeartbeats 8000000 in
set_option maxRecDepth 100000 in
theorem haberdashref10_Zone.calls (k : Nat) (a0_0 : Bool) (a0_1 : Bool) (a0_2 : Int) (P0_3_ : Nat → Prop) (A0_3 : Option Addr) (c0_3 : Nat) (l0_3 : List (S51)) (a1 : ByteArray) (r1 : ByteArray) (r2 : List (S56)) (r3 : Int) (r4 : Int) (r5 : Bool) (w : World) (hs0_3 : Kd.V k51 51 w w.heap.size (fun k_ => P0_3_ k_) (.slice A0_3 l0_3.length c0_3) l0_3) (h : haberdashref10_Zone.f k a0_0 a0_1 a0_2 l0_3 a1 = some (r1, r2, r3, r4, r5)) :
 Calls Try.prog 28 #[.agg #[.bool a0_0, .bool a0_1, .int .i64 a0_2, .slice A0_3 l0_3.length c0_3], .string a1] w fun e w' => ∃ v1_ : Value, e = .returned (.tuple #[.agg #[.string r1, v1_, .int .i64 r3, .int .i64 r4], .bool r5]) ∧ Kd.V k56 56 w' w.heap.size (fun k_ => (P0_3_ k_ ∨ w.heap.size ≤ k_)) v1_ r2 ∧ Below w.heap.size w w' := by
 have hu24 := Try.underlying24
 have hu51 := Try.underlying51
 have HO0_3 := Aside0.mk (show Kd.V k51 51 w w.heap.size (fun k_ => (P0_3_ k_ ∨ w.heap.size ≤ k_)) (.slice A0_3 l0_3.length c0_3) l0_3 from Kd.V_mono hs0_3 (fun k_ hk => .inl hk))
 have HB := Aside0.mk (Below.refl w.heap.size w)
 have H : (haberdashref10_Zone.l0 k a1 0 a0_0 a0_1 a0_2 l0_3) = some (r1, r2, r3, r4, r5) := h
 clear h
 have H' := Aside0.mk H
 clear H
 go_enter Try.func28, Try.ntmps28
 go_wp2_with (first | ((with_reducible refine gate_dst (N := 2) rfl ?_); refine box_event rf_ (N := 2) rf_ (cs := #[.bool a0_0, .bool a0_1, .int .i64 a0_2, .slice A0_3 l0_3.length c0_3]) (t := 24) lr_ ?_; intro gb302 hg w3 hbox hb; replace HO0_3 := Aside0.mk (Kd.V_below (Kd.V_elderB (vo_ HO0_3) gb302 (Nat.le_of_eq hg.symm)) hb); have BK302 := Aside0.mk hbox; have GE302 := Aside0.mk (ge_ HB hg (hb0_ HB)); replace HB := Aside0.mk (below_step (hb0_ HB) hb); clear hb hbox hg) | ((with_reducible refine gate_dst (N := 4) rfl ?_); refine box_event rf_ (N := 4) rf_ (cs := #[.string (⟨#[]⟩ : ByteArray), .slice none 0 0, .int .i64 0, .int .i64 0]) (t := 51) lr_ ?_; intro gb303 hg w4 hbox hb; replace HO0_3 := Aside0.mk (Kd.V_below (Kd.V_elderB (vo_ HO0_3) gb303 (Nat.le_of_eq hg.symm)) hb); have BK303 := Aside0.mk hbox; have GE303 := Aside0.mk (ge_ HB hg (hb1_ HB GE302)); replace HB := Aside0.mk (below_step (hb1_ HB GE302) hb); have NB302_303 := Aside0.mk (nl_ BK302 hg); have NB303_302 := Aside0.mk (ng_ BK302 hg); replace BK302 := Aside0.mk (bb_ BK302 hb); clear hb hbox hg))
 go_loopg [6] k (fun kq v6 w' => ∃ (x6_1 : Int) (x304000_1 : ByteArray) (x304002_1 : Int) (x304003_1 : Int), v6 = .int .i64 x6_1 ∧ Aside0 (haberdashref10_Zone.l0 kq a1 x6_1 a0_0 a0_1 a0_2 l0_3 = some (r1, r2, r3, r4, r5)) ∧ Aside0 (kq ≤ k) ∧ Aside0 (Kd.V k51 51 w' w.heap.size (fun k_ => (P0_3_ k_ ∨ w.heap.size ≤ k_) ∧ k_ ≠ gb302 ∧ k_ ≠ gb303) (.slice A0_3 l0_3.length c0_3) l0_3) ∧ Aside0 (w'.heap[gb302]? = some (.cells #[.bool a0_0, .bool a0_1, .int .i64 a0_2, (.slice A0_3 l0_3.length c0_3)] 24 (0, 0))) ∧ Aside0 (w'.heap[gb303]? = some (.cells #[.string x304000_1, (.slice none 0 0), .int .i64 x304002_1, .int .i64 x304003_1] 51 (0, 0))) ∧ Aside0 (Below w.heap.size w w'))
 case atStart => exact ⟨(0), ((⟨#[]⟩ : ByteArray)), (0), (0), rf_, H', ⟨Nat.le_refl _⟩, ⟨by (with_reducible repeat (first | apply Kd.V_alloc | apply Kd.V_drewN | apply Kd.V_drew)); exact Kd.V_mono HO0_3.out (fun _ hk => ⟨hk.1.1, ⟨hk.1.2, hk.2⟩⟩)⟩, ⟨bk_ BK302⟩, ⟨bk_ BK303⟩, ⟨hb2_ HB GE302 GE303⟩⟩
 case round =>
  clear H'; (try clear c2); (try clear p2); obtain ⟨x6_1, x304000_1, x304002_1, x304003_1, rfl, HA, HK1, HO_303003, BK302, BK303, HB⟩ := hrel
  cases gk with
  | zero => exact absurd HA.out (by simp [haberdashref10_Zone.l0])
  | succ k1 =>
   have H := HA.out; clear HA
   simp only [haberdashref10_Zone.l0] at H
   by_cases c5 : x6_1 < (l0_3.length : Int)
   rotate_left
   ·
    rw [if_neg c5] at H; have c5b0 := decide_eq_false c5; clear c5
    simp only [Option.some.injEq, Prod.mk.injEq] at H
    obtain ⟨rfl, rfl, rfl, rfl, rfl⟩ := H; have hnb13 := NB302_303.out; have hnc13 := NB303_302.out; obtain ⟨hcz14_0, hcz14_1, hcz14_2, hcz14_3⟩ := cz4_ BK302; obtain ⟨hfz14_0, hfz14_1, hfz14_2, hfz14_3⟩ := fz4_ BK302; obtain ⟨hcz15_0, hcz15_1, hcz15_2, hcz15_3⟩ := cz4_ BK303; obtain ⟨hfz15_0, hfz15_1, hfz15_2, hfz15_3⟩ := fz4_ BK303
    go_wp2
    refine bodyPost_ret (results_ct rfl _ _ gb303 51 #[.string (⟨#[]⟩ : ByteArray), .slice none 0 0, .int .i64 0, .int .i64 0] (0, 0) _ rfl (bq0_ BK303) Try.underlying51 rfl (by kernel_rfl)) rfl ?_
    exact ⟨_, er_, (by first | exact Kd.V_nil _ _ _ _ _ | exact Kd.V_mono (Kd.R_V (ni_)) (fun k_ hk => by first | exact ⟨(.inr (hk.1)), hk.2⟩ | exact (.inr (hk)))), hb2_ HB GE302 GE303⟩
   rw [if_pos c5] at H; have c5b0 := decide_eq_true c5; clear c5; replace H := ip_ H; obtain ⟨c6, H⟩ := H; have c6b0 := decide_eq_true c6; clear c6
   by_cases c7 : ((rd_T51 l0_3 x6_1).f0).toList = a1.toList
   rotate_left
   ·
    rw [if_neg c7] at H; have c7b0 : (((rd_T51 l0_3 x6_1).f0).toList == a1.toList) = false := beq_eq_false_iff_ne.mpr c7; have c7b1 : (((rd_T51 l0_3 x6_1).f0).toList != a1.toList) = true := bne_iff_ne.mpr c7; have H' := Aside0.mk H; clear H; have hnb11 := NB302_303.out; have hnc11 := NB303_302.out; obtain ⟨hcz12_0, hcz12_1, hcz12_2, hcz12_3⟩ := cz4_ BK302
    obtain ⟨hfz12_0, hfz12_1, hfz12_2, hfz12_3⟩ := fz4_ BK302; have p304 : 0 ≤ (x6_1 : Int) := of_decide_eq_true as_; have q304 : x6_1 < (l0_3.length : Int) := of_decide_eq_true as_; obtain ⟨ad304, A304_1, c304_1, e304, hx304_0, hx304_1, hx304_2, hx304_3, hl304_1, hi304_1⟩ := at_T51 (Kd.V_reads' HO_303003.out).2.2 x6_1 p304 q304
    cases e304
    obtain ⟨ce304, hce304, hMe304, hcc304⟩ := Kd.V_get HO_303003.out z51 x6_1 p304 (by first | exact q304 | exact of_decide_eq_true as_ | (have e_ := (Kd.V_reads' HO_303003.out).1; omega))
    obtain ⟨ua304_1, uc304_1, rfl, ul304_1, ge304_1⟩ := k51_openF hMe304; have hv304_1 := hcc304 1 _ rfl
    rw [add_field _ _ 1 (by omega)] at hv304_1
    replace hv304_1 := Option.some.inj (hv304_1.symm.trans hx304_1)
    injection hv304_1 with hva_ hvn_ hvc_
    rw [hva_] at ge304_1; rw [hvc_] at ul304_1; have HL304_1 := Aside0.mk (show Kd.V k56 56 _ w.heap.size _ _ ((rd_T51 l0_3 x6_1).f1) from Kd.V_mk ul304_1 ge304_1); clear hva_ hvn_ hvc_ ge304_1 ul304_1; clear hcc304 hce304; have HR304_1 := Aside0.mk hi304_1; have HC304_1 := Aside0.mk hl304_1; clear hi304_1 hl304_1
    replace p304 := eq_true p304; replace q304 := eq_true q304
    go_wp2
    go_roundg k1
    case measure => have := HK1.out; omega
    case rel => exact ⟨(wrap64 (x6_1 + 1)), (x304000_1), (x304002_1), (x304003_1), rf_, H', ⟨ho_ HK1⟩, ⟨vo_ HO_303003⟩, ⟨bk_ BK302⟩, ⟨bk_ BK303⟩, ⟨hb2_ HB GE302 GE303⟩⟩
   rw [if_pos c7] at H; have c7b0 : (((rd_T51 l0_3 x6_1).f0).toList == a1.toList) = true := beq_iff_eq.mpr c7; have c7b1 : (((rd_T51 l0_3 x6_1).f0).toList != a1.toList) = false := bne_eq_false_iff_eq.mpr c7; clear c7
   simp only [Option.some.injEq, Prod.mk.injEq] at H
   obtain ⟨rfl, rfl, rfl, rfl, rfl⟩ := H; have hnb8 := NB302_303.out; have hnc8 := NB303_302.out; obtain ⟨hcz9_0, hcz9_1, hcz9_2, hcz9_3⟩ := cz4_ BK302; obtain ⟨hfz9_0, hfz9_1, hfz9_2, hfz9_3⟩ := fz4_ BK302; have p304 : 0 ≤ (x6_1 : Int) := of_decide_eq_true as_; have q304 : x6_1 < (l0_3.length : Int) := of_decide_eq_true as_
   obtain ⟨ad304, A304_1, c304_1, e304, hx304_0, hx304_1, hx304_2, hx304_3, hl304_1, hi304_1⟩ := at_T51 (Kd.V_reads' HO_303003.out).2.2 x6_1 p304 q304; cases e304
   obtain ⟨ce304, hce304, hMe304, hcc304⟩ := Kd.V_get HO_303003.out z51 x6_1 p304 (by first | exact q304 | exact of_decide_eq_true as_ | (have e_ := (Kd.V_reads' HO_303003.out).1; omega))
   obtain ⟨ua304_1, uc304_1, rfl, ul304_1, ge304_1⟩ := k51_openF hMe304; have hv304_1 := hcc304 1 _ rfl
   rw [add_field _ _ 1 (by omega)] at hv304_1
   replace hv304_1 := Option.some.inj (hv304_1.symm.trans hx304_1)
   injection hv304_1 with hva_ hvn_ hvc_
   rw [hva_] at ge304_1; rw [hvc_] at ul304_1; have HL304_1 := Aside0.mk (show Kd.V k56 56 _ w.heap.size _ _ ((rd_T51 l0_3 x6_1).f1) from Kd.V_mk ul304_1 ge304_1); clear hva_ hvn_ hvc_ ge304_1 ul304_1; clear hcc304 hce304; have HR304_1 := Aside0.mk hi304_1; have HC304_1 := Aside0.mk hl304_1; clear hi304_1 hl304_1
   replace p304 := eq_true p304; replace q304 := eq_true q304; have p305 : 0 ≤ (x6_1 : Int) := of_decide_eq_true as_; have q305 : x6_1 < (l0_3.length : Int) := of_decide_eq_true as_; obtain ⟨ad305, A305_1, c305_1, e305, hx305_0, hx305_1, hx305_2, hx305_3, hl305_1, hi305_1⟩ := at_T51 (Kd.V_reads' HO_303003.out).2.2 x6_1 p305 q305
   obtain rfl : ad304 = ad305 := (by injection e305)
   obtain ⟨ce305, hce305, hMe305, hcc305⟩ := Kd.V_get HO_303003.out z51 x6_1 p305 (by first | exact q305 | exact of_decide_eq_true as_ | (have e_ := (Kd.V_reads' HO_303003.out).1; omega))
   obtain ⟨ua305_1, uc305_1, rfl, ul305_1, ge305_1⟩ := k51_openF hMe305; have hv305_1 := hcc305 1 _ rfl
   rw [add_field _ _ 1 (by omega)] at hv305_1
   replace hv305_1 := Option.some.inj (hv305_1.symm.trans hx305_1)
   injection hv305_1 with hva_ hvn_ hvc_
   rw [hva_] at ge305_1; rw [hvc_] at ul305_1; have HL305_1 := Aside0.mk (show Kd.V k56 56 _ w.heap.size _ _ ((rd_T51 l0_3 x6_1).f1) from Kd.V_mk ul305_1 ge305_1); clear hva_ hvn_ hvc_ ge305_1 ul305_1; clear hcc305 hce305; have HR305_1 := Aside0.mk hi305_1; have HC305_1 := Aside0.mk hl305_1; clear hi305_1 hl305_1
   replace p305 := eq_true p305; replace q305 := eq_true q305; have ea_ := Option.some.inj (hx304_1.symm.trans hx305_1)
   injection ea_ with ea_ en_ ec_
   subst ea_; subst ec_; clear en_; obtain ⟨hcz10_0, hcz10_1, hcz10_2, hcz10_3⟩ := cz4_ BK303; obtain ⟨hfz10_0, hfz10_1, hfz10_2, hfz10_3⟩ := fz4_ BK303
   go_wp2
   refine bodyPost_ret (results_ct rfl _ _ gb303 51 #[.string ((rd_T51 l0_3 x6_1).f0), .slice A304_1 ((rd_T51 l0_3 x6_1).f1).length c304_1, .int .i64 ((rd_T51 l0_3 x6_1).f2), .int .i64 ((rd_T51 l0_3 x6_1).f3)] (0, 0) _ rfl (bq0_ BK303) Try.underlying51 rfl (by kernel_rfl)) rfl ?_
   exact ⟨_, er_, by (with_reducible repeat (first | apply Kd.V_alloc | apply Kd.V_drewN | apply Kd.V_drew)); exact Kd.V_mono (Kd.V_far (p := ⟨gb303, 3, none⟩) (Kd.V_far (p := ⟨gb303, 2, none⟩) (Kd.V_far (p := ⟨gb303, 1, none⟩) (Kd.V_far (p := ⟨gb303, 0, none⟩) (Kd.V_mono HL305_1.out (fun k_ hk => (⟨hk, hk.2.2⟩ : _ ∧ k_ ≠ gb303))) (fun _ hk => hk.2) (.string ((rd_T51 l0_3 x6_1).f0))) (fun _ hk => hk.2) (.slice A304_1 ((rd_T51 l0_3 x6_1).f1).length c304_1)) (fun _ hk => hk.2) (.int .i64 ((rd_T51 l0_3 x6_1).f2))) (fun _ hk => hk.2) (.int .i64 ((rd_T51 l0_3 x6_1).f3))) (fun _ hk => hk.1.1), hb2_ HB GE302 GE303⟩

/-! ### haberdashref10_Rate: function 30 -/
def haberdashref10_Rate.l0 : Nat → ByteArray → Int → ByteArray → List (S56) → Int → Int → Option (Int)
 | 0, _, _, _, _, _, _ => none
 | k + 1, x1, x5, x319000, x319001, x319002, x319003 => if x5 < (x319001.length : Int) then (if 0 ≤ x5 then (if ((rd_T56 x319001 x5).f0).toList = x1.toList then (some ((rd_T56 x319001 x5).f1)) else (haberdashref10_Rate.l0 k x1 (wrap64 (x5 + 1)) x319000 x319001 x319002 x319003)) else (none)) else (some x319002)
def haberdashref10_Rate.f (k : Nat) (a0_0 : ByteArray) (l0_1 : List (S56)) (a0_2 : Int) (a0_3 : Int) (a1 : ByteArray) : Option (Int) := haberdashref10_Rate.l0 k a1 0 a0_0 l0_1 a0_2 a0_3
set_option maxHeartbeats 8000000 in
set_option maxRecDepth 100000 in
theorem haberdashref10_Rate.calls (k : Nat) (a0_0 : ByteArray) (A0_1 : Option Addr) (c0_1 : Nat) (l0_1 : List (S56)) (a0_2 : Int) (a0_3 : Int) (a1 : ByteArray) (r : Int) (w : World) (hr0_1 : Kd.C k56 w A0_1 l0_1.length l0_1) (hc0_1 : l0_1.length ≤ c0_1) (h : haberdashref10_Rate.f k a0_0 l0_1 a0_2 a0_3 a1 = some r) :
 Calls Try.prog 30 #[.agg #[.string a0_0, .slice A0_1 l0_1.length c0_1, .int .i64 a0_2, .int .i64 a0_3], .string a1] w fun e w' => e = .returned (.int .i64 r) ∧ Below w.heap.size w w' := by
 have hu51 := Try.underlying51
 have HR0_1 := Aside0.mk hr0_1
 have HC0_1 := Aside0.mk hc0_1
 clear hr0_1 hc0_1
 have HB := Aside0.mk (Below.refl w.heap.size w)
 have H : (haberdashref10_Rate.l0 k a1 0 a0_0 l0_1 a0_2 a0_3) = some r := h
 clear h
 have H' := Aside0.mk H
 clear H
 go_enter Try.func30, Try.ntmps30
 go_wp2_with (first | ((with_reducible refine gate_dst (N := 2) rfl ?_); refine box_event rf_ (N := 2) rf_ (cs := #[.string a0_0, .slice A0_1 l0_1.length c0_1, .int .i64 a0_2, .int .i64 a0_3]) (t := 51) lr_ ?_; intro gb318 hg w3 hbox hb; have BK318 := Aside0.mk hbox; have GE318 := Aside0.mk (ge_ HB hg (hb0_ HB)); replace HB := Aside0.mk (below_step (hb0_ HB) hb); clear hb hbox hg))
 go_loopg [5] k (fun kq v5 w' => ∃ (x5_1 : Int), v5 = .int .i64 x5_1 ∧ Aside0 (haberdashref10_Rate.l0 kq a1 x5_1 a0_0 l0_1 a0_2 a0_3 = some r) ∧ Aside0 (kq ≤ k) ∧ Aside0 (w'.heap[gb318]? = some (.cells #[.string a0_0, (.slice A0_1 l0_1.length c0_1), .int .i64 a0_2, .int .i64 a0_3] 51 (0, 0))) ∧ Aside0 (Below w.heap.size w w'))
 case atStart => exact ⟨(0), rf_, H', ⟨Nat.le_refl _⟩, ⟨bk_ BK318⟩, ⟨hb1_ HB GE318⟩⟩
 case round =>
  clear H'; (try clear p2); (try clear c3); obtain ⟨x5_1, rfl, HA, HK1, BK318, HB⟩ := hrel
  cases gk with
  | zero => exact absurd HA.out (by simp [haberdashref10_Rate.l0])
  | succ k1 =>
   have H := HA.out; clear HA
   simp only [haberdashref10_Rate.l0] at H
   by_cases c4 : x5_1 < (l0_1.length : Int)
   rotate_left
   ·
    rw [if_neg c4] at H; have c4b0 := decide_eq_false c4; clear c4; obtain rfl := Option.some.inj H; obtain ⟨hcz9_0, hcz9_1, hcz9_2, hcz9_3⟩ := cz4_ BK318; obtain ⟨hfz9_0, hfz9_1, hfz9_2, hfz9_3⟩ := fz4_ BK318
    go_wp2
    go_ret
    exact ⟨er_, hb1_ HB GE318⟩
   rw [if_pos c4] at H; have c4b0 := decide_eq_true c4; clear c4; replace H := ip_ H; obtain ⟨c5, H⟩ := H; have c5b0 := decide_eq_true c5; clear c5
   by_cases c6 : ((rd_T56 l0_1 x5_1).f0).toList = a1.toList
   rotate_left
   ·
    rw [if_neg c6] at H; have c6b0 : (((rd_T56 l0_1 x5_1).f0).toList == a1.toList) = false := beq_eq_false_iff_ne.mpr c6; have c6b1 : (((rd_T56 l0_1 x5_1).f0).toList != a1.toList) = true := bne_iff_ne.mpr c6; have H' := Aside0.mk H; clear H; obtain ⟨hcz8_0, hcz8_1, hcz8_2, hcz8_3⟩ := cz4_ BK318; obtain ⟨hfz8_0, hfz8_1, hfz8_2, hfz8_3⟩ := fz4_ BK318
    have p319 : 0 ≤ (x5_1 : Int) := of_decide_eq_true as_; have q319 : x5_1 < (l0_1.length : Int) := of_decide_eq_true as_; obtain ⟨ad319, e319, hx319_0, hx319_1⟩ := at_T56 HR0_1.out x5_1 p319 q319; cases e319; replace hx319_0 := hd_ HB hx319_0; replace hx319_1 := hd_ HB hx319_1; replace p319 := eq_true p319
    replace q319 := eq_true q319
    go_wp2
    go_roundg k1
    case measure => have := HK1.out; omega
    case rel => exact ⟨(wrap64 (x5_1 + 1)), rf_, H', ⟨ho_ HK1⟩, ⟨bk_ BK318⟩, ⟨hb1_ HB GE318⟩⟩
   rw [if_pos c6] at H; have c6b0 : (((rd_T56 l0_1 x5_1).f0).toList == a1.toList) = true := beq_iff_eq.mpr c6; have c6b1 : (((rd_T56 l0_1 x5_1).f0).toList != a1.toList) = false := bne_eq_false_iff_eq.mpr c6; clear c6; obtain rfl := Option.some.inj H; obtain ⟨hcz7_0, hcz7_1, hcz7_2, hcz7_3⟩ := cz4_ BK318
   obtain ⟨hfz7_0, hfz7_1, hfz7_2, hfz7_3⟩ := fz4_ BK318; have p319 : 0 ≤ (x5_1 : Int) := of_decide_eq_true as_; have q319 : x5_1 < (l0_1.length : Int) := of_decide_eq_true as_; obtain ⟨ad319, e319, hx319_0, hx319_1⟩ := at_T56 HR0_1.out x5_1 p319 q319; cases e319; replace hx319_0 := hd_ HB hx319_0; replace hx319_1 := hd_ HB hx319_1
   replace p319 := eq_true p319; replace q319 := eq_true q319; have p320 : 0 ≤ (x5_1 : Int) := of_decide_eq_true as_; have q320 : x5_1 < (l0_1.length : Int) := of_decide_eq_true as_; obtain ⟨ad320, e320, hx320_0, hx320_1⟩ := at_T56 HR0_1.out x5_1 p320 q320
   obtain rfl : ad319 = ad320 := (by injection e320)
   replace hx320_0 := hd_ HB hx320_0; replace hx320_1 := hd_ HB hx320_1; replace p320 := eq_true p320; replace q320 := eq_true q320
   go_wp2
   go_ret
   exact ⟨er_, hb1_ HB GE318⟩

end Go.Proofs.Ytmiamdnhofjifaa.Rw
