/- Functions of the program as Lean functions, each with its contract: out of what the kit's printer wrote for this seat. -/
import Derived.Test.YtdmeepjefccpgaaVRwA
import Derived.Test.YtdmeepjefccpgaaVRwPlP
namespace Go.Proofs.Ytdmeepjefccpgaa.Rw
open Go.RowKit Go.Proofs.YtdmeepjefccpgaaW.PrintWords Go.Proofs.YtdmeepjefccpgaaW.PrintLast Go.Proofs.YtdmeepjefccpgaaW.PrintMore
attribute [local go_sem] max2_int min2_int max_two min_two max_three min_three max_four min_four   -- for this text's walks alone
set_option linter.unusedVariables false
set_option linter.unusedSimpArgs false
attribute [local go_sem high] leqS gtrS

/-! ### haberdashplay_Promos: function 32 -/
def haberdashplay_Promos.l0 : Nat → List (S60) → List (S60) → Int → Option ((List (S60)))
 | 0, _, _, _ => none
 | k + 1, x0, x3, x4 => if x4 < (x0.length : Int) then (if x4 < 6 then (if 0 ≤ x4 then ((haberdashplay_Promo.f k ((rd_T60 x0 x4).f0) ((rd_T60 x0 x4).f1) ((rd_T60 x0 x4).f2) ((rd_T60 x0 x4).f3) ((rd_T60 x0 x4).f4) ((rd_T60 x0 x4).f5) ((rd_T60 x0 x4).f6.f0) ((rd_T60 x0 x4).f6.f1) ((rd_T60 x0 x4).f7) ((rd_T60 x0 x4).f8) ((rd_T60 x0 x4).f9) ((rd_T60 x0 x4).f10) ((rd_T60 x0 x4).f11) ((rd_T60 x0 x4).f12) ((rd_T60 x0 x4).f13) (Int.tmod (wrap64 ((wrap64 (x4 * 7)) + 3)) 10)).bind fun bt405 => (if x3.length < 676622540169 then (haberdashplay_Promos.l0 k x0 (x3 ++ [(⟨bt405.1, bt405.2.1, bt405.2.2.1, bt405.2.2.2.1, bt405.2.2.2.2.1, bt405.2.2.2.2.2.1, (⟨bt405.2.2.2.2.2.2.1, bt405.2.2.2.2.2.2.2.1⟩ : S56), bt405.2.2.2.2.2.2.2.2.1, bt405.2.2.2.2.2.2.2.2.2.1, bt405.2.2.2.2.2.2.2.2.2.2.1, bt405.2.2.2.2.2.2.2.2.2.2.2.1, bt405.2.2.2.2.2.2.2.2.2.2.2.2.1, bt405.2.2.2.2.2.2.2.2.2.2.2.2.2.1, bt405.2.2.2.2.2.2.2.2.2.2.2.2.2.2⟩ : S60)]) (wrap64 (x4 + 1))) else (none))) else (none)) else (some x3)) else (some x3)
def haberdashplay_Promos.f (k : Nat) (l0 : List (S60)) : Option ((List (S60))) := haberdashplay_Promos.l0 k l0 ([] : List (S60)) 0
set_option maxHeartbeats 8000000 in
set_option maxRecDepth 100000 in
theorem haberdashplay_Promos.calls (k : Nat) (A0 : Option Addr) (c0 : Nat) (l0 : List (S60)) (r : List (S60)) (w : World) (hr0 : Kd.C k60 w A0 l0.length l0) (hc0 : l0.length ≤ c0) (h : haberdashplay_Promos.f k l0 = some r) :
 Calls Try.prog 32 #[.slice A0 l0.length c0] w fun e w' => ∃ v0_ : Value, e = .returned (v0_) ∧ Kd.R k60 60 w' w.heap.size (fun _ => True) v0_ r ∧ Below w.heap.size w w' := by
 have hu60 := Try.underlying60
 have HR0 := Aside0.mk hr0
 have HC0 := Aside0.mk hc0
 clear hr0 hc0
 have HB := Aside0.mk (Below.refl w.heap.size w)
 have H : (haberdashplay_Promos.l0 k l0 ([] : List (S60)) 0) = some r := h
 clear h
 have H' := Aside0.mk H
 clear H
 go_enter Try.func32, Try.ntmps32
 go_wp2
 go_loopg [3, 4] k (fun kq v3 v4 w' => ∃ (x3_1 : List (S60)) (x4_1 : Int), v4 = .int .i64 x4_1 ∧ Aside0 (haberdashplay_Promos.l0 kq l0 x3_1 x4_1 = some r) ∧ Aside0 (kq ≤ k) ∧ Aside0 (Kd.R k60 60 w' w.heap.size (fun _ => True) v3 x3_1) ∧ Aside0 (Below w.heap.size w w'))
 case atStart => exact ⟨(([] : List (S60))), (0), rf_, H', ⟨Nat.le_refl _⟩, ⟨ni_⟩, ⟨hb0_ HB⟩⟩
 case round =>
  clear H'; obtain ⟨x3_1, x4_1, rfl, HA, HK1, HO_3, HB⟩ := hrel
  cases gk with
  | zero => exact absurd HA.out (by simp [haberdashplay_Promos.l0])
  | succ k1 =>
   have H := HA.out; clear HA
   simp only [haberdashplay_Promos.l0] at H
   by_cases c2 : x4_1 < (l0.length : Int)
   rotate_left
   ·
    rw [if_neg c2] at H; have c2b0 := decide_eq_false c2; clear c2; obtain rfl := Option.some.inj H
    go_wp2
    go_ret
    exact ⟨_, er_, ro_ HO_3, hb0_ HB⟩
   rw [if_pos c2] at H; have c2b0 := decide_eq_true c2; clear c2
   by_cases c3 : x4_1 < 6
   rotate_left
   ·
    rw [if_neg c3] at H; have c3b0 := decide_eq_false c3; clear c3; obtain rfl := Option.some.inj H
    go_wp2
    go_ret
    exact ⟨_, er_, ro_ HO_3, hb0_ HB⟩
   rw [if_pos c3] at H; have c3b0 := decide_eq_true c3; clear c3; replace H := ip_ H; obtain ⟨c4, H⟩ := H; have c4b0 := decide_eq_true c4; clear c4; replace H := Option.bind_eq_some_iff.mp H; obtain ⟨⟨t405, t406, t407, t408, t409, t410, t411, t414, t417, t418, t419, t420, t421, t422, t425⟩, A50, H⟩ := H
   (try dsimp only at H)
   have A5 := Aside0.mk A50; clear A50; replace H := ip_ H; obtain ⟨c6, H⟩ := H; have LMc6 := Aside0.mk c6; clear c6; obtain ⟨y428, hy428⟩ : ∃ y_ : List (S60), y_ = (x3_1 ++ [(⟨t405, t406, t407, t408, t409, t410, (⟨t411, t414⟩ : S56), t417, t418, t419, t420, t421, t422, t425⟩ : S60)]) := ⟨_, rfl⟩; replace H : (haberdashplay_Promos.l0 k1 l0 y428 (wrap64 (x4_1 + 1))) = some r := hy_ hy428 H
   have Ny428 := Aside0.mk hy428; clear hy428; have H' := Aside0.mk H; clear H; have p404 : 0 ≤ (x4_1 : Int) := of_decide_eq_true as_; have q404 : x4_1 < (l0.length : Int) := of_decide_eq_true as_; obtain ⟨ad404, A404_6, c404_6, A404_7, c404_7, A404_13, c404_13, A404_14, c404_14, e404, hx404_0, hx404_1, hx404_2, hx404_3, hx404_4, hx404_5, hx404_6, hx404_7, hx404_8, hx404_9, hx404_10, hx404_11, hx404_12, hx404_13, hx404_14, hl404_6, hi404_6, hl404_7, hi404_7, hl404_13, hi404_13, hl404_14, hi404_14⟩ := at_T60 HR0.out x4_1 p404 q404
   cases e404; replace hx404_0 := hd_ HB hx404_0; replace hx404_1 := hd_ HB hx404_1; replace hx404_2 := hd_ HB hx404_2; replace hx404_3 := hd_ HB hx404_3; replace hx404_4 := hd_ HB hx404_4; replace hx404_5 := hd_ HB hx404_5; replace hx404_6 := hd_ HB hx404_6; replace hx404_7 := hd_ HB hx404_7; replace hx404_8 := hd_ HB hx404_8
   replace hx404_9 := hd_ HB hx404_9; replace hx404_10 := hd_ HB hx404_10; replace hx404_11 := hd_ HB hx404_11; replace hx404_12 := hd_ HB hx404_12; replace hx404_13 := hd_ HB hx404_13; replace hx404_14 := hd_ HB hx404_14; have HR404_6 := Aside0.mk hi404_6; have HC404_6 := Aside0.mk hl404_6; clear hi404_6 hl404_6
   have HR404_7 := Aside0.mk hi404_7; have HC404_7 := Aside0.mk hl404_7; clear hi404_7 hl404_7; have HR404_13 := Aside0.mk hi404_13; have HC404_13 := Aside0.mk hl404_13; clear hi404_13 hl404_13; have HR404_14 := Aside0.mk hi404_14; have HC404_14 := Aside0.mk hl404_14; clear hi404_14 hl404_14; replace p404 := eq_true p404
   replace q404 := eq_true q404
   go_wp2_with (first | (refine gl_ 29 24 Try.func29 #[.agg #[.string ((rd_T60 l0 x4_1).f0), .int .i64 ((rd_T60 l0 x4_1).f1), .int .i64 ((rd_T60 l0 x4_1).f2), .string ((rd_T60 l0 x4_1).f3), .string ((rd_T60 l0 x4_1).f4), .bool ((rd_T60 l0 x4_1).f5), .slice A404_6 ((rd_T60 l0 x4_1).f6.f0).length c404_6, .slice A404_7 ((rd_T60 l0 x4_1).f6.f1).length c404_7, .int .i64 ((rd_T60 l0 x4_1).f7), .int .i64 ((rd_T60 l0 x4_1).f8), .int .i64 ((rd_T60 l0 x4_1).f9), .int .i64 ((rd_T60 l0 x4_1).f10), .int .i64 ((rd_T60 l0 x4_1).f11), .slice A404_13 ((rd_T60 l0 x4_1).f12).length c404_13, .slice A404_14 ((rd_T60 l0 x4_1).f13).length c404_14], .int .i64 (Int.tmod (wrap64 ((wrap64 (x4_1 * 7)) + 3)) 10)] ?_; (with_reducible refine (haberdashplay_Promo.calls k1 ((rd_T60 l0 x4_1).f0) ((rd_T60 l0 x4_1).f1) ((rd_T60 l0 x4_1).f2) ((rd_T60 l0 x4_1).f3) ((rd_T60 l0 x4_1).f4) ((rd_T60 l0 x4_1).f5) _ _ ((rd_T60 l0 x4_1).f6.f0) _ _ ((rd_T60 l0 x4_1).f6.f1) ((rd_T60 l0 x4_1).f7) ((rd_T60 l0 x4_1).f8) ((rd_T60 l0 x4_1).f9) ((rd_T60 l0 x4_1).f10) ((rd_T60 l0 x4_1).f11) _ _ ((rd_T60 l0 x4_1).f12) _ _ ((rd_T60 l0 x4_1).f13) (Int.tmod (wrap64 ((wrap64 (x4_1 * 7)) + 3)) 10) t405 t406 t407 t408 t409 t410 t411 t414 t417 t418 t419 t420 t421 t422 t425 _ ?side1 ?side2 ?side3 ?side4 ?side5 ?side6 ?side7 ?side8 A5.out).mono ?_); (case side1 => exact sc_ (Kd.C_below HR404_6.out HB.out)); (case side2 => exact HC404_6.out); (case side3 => exact sc_ (Kd.C_below HR404_7.out HB.out)); (case side4 => exact HC404_7.out); (case side5 => exact sc_ (Kd.C_below HR404_13.out HB.out)); (case side6 => exact HC404_13.out); (case side7 => exact sc_ (Kd.C_below HR404_14.out HB.out)); (case side8 => exact HC404_14.out); rintro e w7 ⟨v412, v415, v423, v426, rfl, ho0, ho1, ho2, ho3, hb⟩; refine ⟨_, rfl, ?_⟩; replace HO_3 := Aside0.mk (Kd.R_mono (Kd.R_told (Kd.R_told (Kd.R_told (Kd.R_told (Kd.R_old (ro_ HO_3) hb) (Kd.R_base ho0)) (Kd.R_base ho1)) (Kd.S_base ho2)) (Kd.R_base ho3)) (fun _ h_ => h_.1)); have HO413 := Aside0.mk (Kd.R_lower ho0 (below_size (hb0_ HB))); have HO416 := Aside0.mk (Kd.R_lower ho1 (below_size (hb0_ HB))); have HO424 := Aside0.mk (Kd.S_lower ho2 (below_size (hb0_ HB))); have HO427 := Aside0.mk (Kd.R_lower ho3 (below_size (hb0_ HB))); replace HB := Aside0.mk (below_step (hb0_ HB) hb); (try clear hb); (try clear ho0); (try clear ho1); (try clear ho2); (try clear ho3); obtain ⟨Ao9, co9, eo9⟩ := Kd.R_slice HO413.out; subst eo9; obtain ⟨Ao10, co10, eo10⟩ := Kd.R_slice HO416.out; subst eo10; obtain ⟨Ao11, co11, eo11⟩ := Kd.S_slice HO424.out; subst eo11; obtain ⟨Ao12, co12, eo12⟩ := Kd.R_slice HO427.out; subst eo12) | ((with_reducible refine gate_builtin (b := .append) (xs := #[.tmp 15, .tmp 25]) rfl ?_); at_builtin; refine Kd.R_append k60 (w0 := w) w.heap.size rfl (.tmp 15) (.tmp 25) 23 60 (.agg #[(.string ⟨#[]⟩), (.int .i64 0), (.int .i64 0), (.string ⟨#[]⟩), (.string ⟨#[]⟩), (.bool false), (.slice none 0 0), (.slice none 0 0), (.int .i64 0), (.int .i64 0), (.int .i64 0), (.int .i64 0), (.int .i64 0), (.slice none 0 0), (.slice none 0 0)]) 208 rfl Try.underlying23 info60 rfl (by decide) (by omega) u3 x3_1 (⟨t405, t406, t407, t408, t409, t410, (⟨t411, t414⟩ : S56), t417, t418, t419, t420, t421, t422, t425⟩ : S60) [.string t405, .int .i64 t406, .int .i64 t407, .string t408, .string t409, .bool t410, .slice Ao9 t411.length co9, .slice Ao10 t414.length co10, .int .i64 t417, .int .i64 t418, .int .i64 t419, .int .i64 t420, .int .i64 t421, .slice Ao11 t422.length co11, .slice Ao12 t425.length co12] (fun _ => True) (fun k_ => ((fun _ => True)) k_ ∧ some k_ ≠ (u3 : Value).ownBlock) rfl rfl ?aP (fun _ hk => hk) ?aF ?aO ?aB ?aS ?aL ?_; (case aP => exact k60_mkM _ _ _ (⟨t405, t406, t407, t408, t409, t410, (⟨t411, t414⟩ : S56), t417, t418, t419, t420, t421, t422, t425⟩ : S60) (Kd.R_mono (Kd.R_apart' (HO413.out) (Kd.R_typed HO_3.out) (by decide)) (fun k_ hk => ⟨trivial, hk.2⟩)) (Kd.R_mono (Kd.R_apart' (HO416.out) (Kd.R_typed HO_3.out) (by decide)) (fun k_ hk => ⟨trivial, hk.2⟩)) (Kd.R_mono (Kd.R_apart' ((Kd.S_R HO424.out)) (Kd.R_typed HO_3.out) (by decide)) (fun k_ hk => ⟨trivial, hk.2⟩)) (Kd.R_mono (Kd.R_apart' (HO427.out) (Kd.R_typed HO_3.out) (by decide)) (fun k_ hk => ⟨trivial, hk.2⟩))); (case aB => exact (hb0_ HB)); (case aF => exact (fun _ _ => trivial)); (case aO => exact (rm_ HO_3 (fun _ hk => trivial))); (case aS => exact (below_size (hb0_ HB))); (case aL => have := LMc6.out; omega); intro v429 w8 ho hb hg hat; rw [← Ny428.out] at ho; have n0_ := Aside0.mk hb; have n1_ := Aside0.mk ho; clear HB; clear HO_3; clear HO413; clear HO416; clear HO424; clear HO427; have HB := n0_; have HO430 := n1_; clear n0_ n1_; clear ho hb hg hat))
   go_roundg k1
   case measure => have := HK1.out; omega
   case rel => exact ⟨(y428), (wrap64 (x4_1 + 1)), rf_, H', ⟨ho_ HK1⟩, ⟨ro_ HO430⟩, ⟨hb0_ HB⟩⟩

end Go.Proofs.Ytdmeepjefccpgaa.Rw
