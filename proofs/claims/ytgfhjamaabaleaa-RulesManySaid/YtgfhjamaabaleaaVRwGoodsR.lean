/- Functions of the program as Lean functions, each with its contract: out of what the kit's printer wrote for this seat. -/
import Derived.Test.YtgfhjamaabaleaaVRwA
import Derived.Test.YtgfhjamaabaleaaVRwAb
import Derived.Test.YtgfhjamaabaleaaVRwGoods
namespace Go.Proofs.Ytgfhjamaabaleaa.Rw
open Go.RowKit Go.Proofs.YtgfhjamaabaleaaW.PrintWords Go.Proofs.YtgfhjamaabaleaaW.PrintLast Go.Proofs.YtgfhjamaabaleaaW.PrintMore
attribute [local go_sem] max2_int min2_int max_two min_two max_three min_three max_four min_four   -- for this text's walks alone
set_option linter.unusedVariables false
set_option linter.unusedSimpArgs false
attribute [local go_sem high] leqS gtrS

/-! ### goods_Right: function 23 -/
def goods_Right.l0 : Nat → List ByteArray → List (S66) → Int → Int → Option (Bool)
 | 0, _, _, _, _ => none
 | k + 1, x3, x9, x10, x11 => if x11 < x10 then (if 0 ≤ x11 then (if x11 < (x9.length : Int) then ((goods_Name.f k ((rd_T66 x9 x11).f0)).bind fun t150 => (if t150 = true then ((goods_Name.f k ((rd_T66 x9 x11).f1)).bind fun t151 => (if t151 = true then (if ((rd_T66 x9 x11).f2) < 0 then (some false) else (if ((rd_T66 x9 x11).f2) > 1000000000 then (some false) else (if x3.length < 8796093022208 then (goods_Right.l0 k (x3 ++ [(rd_T66 x9 x11).f0]) x9 x10 (wrap64 (x11 + 1))) else (none)))) else (some false))) else (some false))) else (none)) else (none)) else ((goods_Rise.f k x3).bind fun t147 => (some t147))
def goods_Right.f (k : Nat) (l0 : List (S66)) : Option (Bool) := if (l0.length : Int) > 500 then (some false) else (goods_Right.l0 k ([] : List ByteArray) l0 (l0.length : Int) 0)
theorem goods_Right.mono_l : ∀ k, (∀ y0 y1 y2 y3, LeO (goods_Right.l0 k y0 y1 y2 y3) (goods_Right.l0 (k + 1) y0 y1 y2 y3))
 | 0 => fun _ _ _ _ r h => by simp [goods_Right.l0] at h
 | k + 1 => by
  have ih0 := goods_Right.mono_l k
  intros; unfold goods_Right.l0; with_reducible repeat' first | exact ih0 .. | exact goods_Name.mono .. | exact goods_Rise.mono .. | exact lo_ | refine LeO.ite ?_ ?_ | refine LeO.bind ?_ (fun _ => ?_)
theorem goods_Right.mono : ∀ a0 k, LeO (goods_Right.f k a0) (goods_Right.f (k + 1) a0) := by
 intro a0 k
 have ih0 := goods_Right.mono_l k
 unfold goods_Right.f
 with_reducible repeat' first | exact ih0 .. | exact goods_Name.mono .. | exact goods_Rise.mono .. | exact lo_ | refine LeO.ite ?_ ?_ | refine LeO.bind ?_ (fun _ => ?_)
set_option maxHeartbeats 8000000 in
set_option maxRecDepth 100000 in
theorem goods_Right.calls (k : Nat) (A0 : Option Addr) (c0 : Nat) (l0 : List (S66)) (r : Bool) (w : World) (hr0 : Kd.C k66 w A0 l0.length l0) (hc0 : l0.length ≤ c0) (h : goods_Right.f k l0 = some r) :
 Calls Try.prog 23 #[.slice A0 l0.length c0] w fun e w' => e = .returned (.bool r) ∧ Below w.heap.size w w' := by
 have hu66 := Try.underlying66
 have HR0 := Aside0.mk hr0
 have HC0 := Aside0.mk hc0
 clear hr0 hc0
 have HB := Aside0.mk (Below.refl w.heap.size w)
 have H : (if (l0.length : Int) > 500 then (some false) else (goods_Right.l0 k ([] : List ByteArray) l0 (l0.length : Int) 0)) = some r := h
 clear h
 by_cases c2 : (l0.length : Int) > 500
 ·
  rw [if_pos c2] at H; have c2b0 := decide_eq_true c2
  have c2b1 : decide (500 < l0.length) = true := decide_eq_true (by omega)
  clear c2; obtain rfl := Option.some.inj H
  go_enter Try.func23, Try.ntmps23
  go_wp2
  go_ret
  exact ⟨er_, hb0_ HB⟩
 rw [if_neg c2] at H
 have c2b0 := decide_eq_false c2
 have c2b1 : decide (500 < l0.length) = false := decide_eq_false (by omega)
 clear c2
 have H' := Aside0.mk H
 clear H
 go_enter Try.func23, Try.ntmps23
 go_wp2
 go_loopg [3, 11] k (fun kq v3 v11 w' => ∃ (x3_1 : List ByteArray) (x11_1 : Int), v11 = .int .i64 x11_1 ∧ Aside0 (goods_Right.l0 kq x3_1 l0 (l0.length : Int) x11_1 = some r) ∧ Aside0 (kq ≤ k) ∧ Aside0 (Kd.R Kd.string 9 w' w.heap.size (fun _ => True) v3 x3_1) ∧ Aside0 (Below w.heap.size w w'))
 case atStart => exact ⟨(([] : List ByteArray)), (0), rf_, H', ⟨Nat.le_refl _⟩, ⟨ni_⟩, ⟨hb0_ HB⟩⟩
 case round =>
  clear H'; (try clear c2); (try clear c2b0); (try clear c2b1); (try clear p2); obtain ⟨x3_1, x11_1, rfl, HA, HK1, HO_3, HB⟩ := hrel
  cases gk with
  | zero => exact absurd HA.out (by simp [goods_Right.l0])
  | succ k1 =>
   have H := HA.out; clear HA
   simp only [goods_Right.l0] at H
   by_cases c3 : x11_1 < (l0.length : Int)
   rotate_left
   ·
    rw [if_neg c3] at H; have c3b0 := decide_eq_false c3; clear c3; replace H := Option.bind_eq_some_iff.mp H; obtain ⟨t147, A240, H⟩ := H
    (try dsimp only at H)
    have A24 := Aside0.mk A240; clear A240; obtain rfl := Option.some.inj H; obtain ⟨Ao25, co25, eo25⟩ := Kd.R_slice HO_3.out; subst eo25
    go_wp2_with (first | (refine gl_ 22 42 Try.func22 #[.slice Ao25 x3_1.length co25] ?_; (with_reducible refine (goods_Rise.calls k1 _ _ x3_1 t147 _ ?side1 ?side2 A24.out).mono ?_); (case side1 => exact sc_ (Kd.R_reads' HO_3.out).2.2); (case side2 => exact (Kd.R_reads' HO_3.out).2.1); rintro e w' ⟨rfl, ⟨nd, rfl⟩⟩; refine ⟨_, rfl, ?_⟩))
    go_ret
    exact ⟨er_, hb0_ HB⟩
   rw [if_pos c3] at H; have c3b0 := decide_eq_true c3; clear c3; replace H := ip_ H; obtain ⟨c4, H⟩ := H; have c4b0 := decide_eq_true c4; clear c4; replace H := ip_ H; obtain ⟨c5, H⟩ := H; have c5b0 := decide_eq_true c5; clear c5; replace H := Option.bind_eq_some_iff.mp H; obtain ⟨t150, A60, H⟩ := H
   (try dsimp only at H)
   have A6 := Aside0.mk A60; clear A60
   by_cases c7 : t150 = true
   rotate_left
   ·
    replace c7 := Bool.eq_false_iff.mpr c7; subst c7; rw [if_neg nf_] at H; obtain rfl := Option.some.inj H; have p148 : 0 ≤ (x11_1 : Int) := of_decide_eq_true as_; have q148 : x11_1 < (l0.length : Int) := of_decide_eq_true as_; obtain ⟨ad148, e148, hx148_0, hx148_1, hx148_2, hx148_3⟩ := at_T66 HR0.out x11_1 p148 q148
    cases e148; replace hx148_0 := hd_ HB hx148_0; replace hx148_1 := hd_ HB hx148_1; replace hx148_2 := hd_ HB hx148_2; replace hx148_3 := hd_ HB hx148_3; replace p148 := eq_true p148; replace q148 := eq_true q148
    go_wp2_with (first | ((with_reducible refine gate_dst (N := 5) rfl ?_); refine box_event rf_ (N := 5) rf_ (cs := #[.string (⟨#[]⟩ : ByteArray), .string (⟨#[]⟩ : ByteArray), .int .i64 0, .bool false]) (t := 66) lr_ ?_; intro gb149 hg w22 hbox hb; replace HO_3 := Aside0.mk (Kd.R_below (ro_ HO_3) hb); have BK149 := Aside0.mk hbox; have GE149 := Aside0.mk (ge_ HB hg (hb0_ HB)); replace HB := Aside0.mk (below_step (hb0_ HB) hb); clear hb hbox hg; obtain ⟨hcz23_0, hcz23_1, hcz23_2, hcz23_3⟩ := cz4_ BK149; obtain ⟨hfz23_0, hfz23_1, hfz23_2, hfz23_3⟩ := fz4_ BK149) | (refine gl_ 44 17 Try.func44 #[.string ((rd_T66 l0 x11_1).f0)] ?_; (with_reducible refine (goods_Name.calls k1 ((rd_T66 l0 x11_1).f0) false _ A6.out).mono ?_); rintro e w' ⟨rfl, ⟨nd, rfl⟩⟩; refine ⟨_, rfl, ?_⟩))
    go_ret
    exact ⟨er_, hb1_ HB GE149⟩
   subst c7; rw [if_pos rfl] at H; replace H := Option.bind_eq_some_iff.mp H; obtain ⟨t151, A80, H⟩ := H
   (try dsimp only at H)
   have A8 := Aside0.mk A80; clear A80
   by_cases c9 : t151 = true
   rotate_left
   ·
    replace c9 := Bool.eq_false_iff.mpr c9; subst c9; rw [if_neg nf_] at H; obtain rfl := Option.some.inj H; have p148 : 0 ≤ (x11_1 : Int) := of_decide_eq_true as_; have q148 : x11_1 < (l0.length : Int) := of_decide_eq_true as_; obtain ⟨ad148, e148, hx148_0, hx148_1, hx148_2, hx148_3⟩ := at_T66 HR0.out x11_1 p148 q148
    cases e148; replace hx148_0 := hd_ HB hx148_0; replace hx148_1 := hd_ HB hx148_1; replace hx148_2 := hd_ HB hx148_2; replace hx148_3 := hd_ HB hx148_3; replace p148 := eq_true p148; replace q148 := eq_true q148
    go_wp2_with (first | ((with_reducible refine gate_dst (N := 5) rfl ?_); refine box_event rf_ (N := 5) rf_ (cs := #[.string (⟨#[]⟩ : ByteArray), .string (⟨#[]⟩ : ByteArray), .int .i64 0, .bool false]) (t := 66) lr_ ?_; intro gb149 hg w20 hbox hb; replace HO_3 := Aside0.mk (Kd.R_below (ro_ HO_3) hb); have BK149 := Aside0.mk hbox; have GE149 := Aside0.mk (ge_ HB hg (hb0_ HB)); replace HB := Aside0.mk (below_step (hb0_ HB) hb); clear hb hbox hg; obtain ⟨hcz21_0, hcz21_1, hcz21_2, hcz21_3⟩ := cz4_ BK149; obtain ⟨hfz21_0, hfz21_1, hfz21_2, hfz21_3⟩ := fz4_ BK149) | (refine gl_ 44 17 Try.func44 #[.string ((rd_T66 l0 x11_1).f0)] ?_; (with_reducible refine (goods_Name.calls k1 ((rd_T66 l0 x11_1).f0) true _ A6.out).mono ?_); rintro e w' ⟨rfl, ⟨nd, rfl⟩⟩; refine ⟨_, rfl, ?_⟩) | (go_at_call 44; (with_reducible refine (goods_Name.calls k1 ((rd_T66 l0 x11_1).f1) false _ A8.out).mono ?_); rintro e w' ⟨rfl, ⟨nd, rfl⟩⟩))
    go_ret
    exact ⟨er_, hb1_ HB GE149⟩
   subst c9; rw [if_pos rfl] at H
   by_cases c10 : ((rd_T66 l0 x11_1).f2) < 0
   ·
    rw [if_pos c10] at H; have c10b0 := decide_eq_true c10; clear c10; obtain rfl := Option.some.inj H; have p148 : 0 ≤ (x11_1 : Int) := of_decide_eq_true as_; have q148 : x11_1 < (l0.length : Int) := of_decide_eq_true as_; obtain ⟨ad148, e148, hx148_0, hx148_1, hx148_2, hx148_3⟩ := at_T66 HR0.out x11_1 p148 q148
    cases e148; replace hx148_0 := hd_ HB hx148_0; replace hx148_1 := hd_ HB hx148_1; replace hx148_2 := hd_ HB hx148_2; replace hx148_3 := hd_ HB hx148_3; replace p148 := eq_true p148; replace q148 := eq_true q148
    go_wp2_with (first | ((with_reducible refine gate_dst (N := 5) rfl ?_); refine box_event rf_ (N := 5) rf_ (cs := #[.string (⟨#[]⟩ : ByteArray), .string (⟨#[]⟩ : ByteArray), .int .i64 0, .bool false]) (t := 66) lr_ ?_; intro gb149 hg w11 hbox hb; replace HO_3 := Aside0.mk (Kd.R_below (ro_ HO_3) hb); have BK149 := Aside0.mk hbox; have GE149 := Aside0.mk (ge_ HB hg (hb0_ HB)); replace HB := Aside0.mk (below_step (hb0_ HB) hb); clear hb hbox hg; obtain ⟨hcz12_0, hcz12_1, hcz12_2, hcz12_3⟩ := cz4_ BK149; obtain ⟨hfz12_0, hfz12_1, hfz12_2, hfz12_3⟩ := fz4_ BK149) | (refine gl_ 44 17 Try.func44 #[.string ((rd_T66 l0 x11_1).f0)] ?_; (with_reducible refine (goods_Name.calls k1 ((rd_T66 l0 x11_1).f0) true _ A6.out).mono ?_); rintro e w' ⟨rfl, ⟨nd, rfl⟩⟩; refine ⟨_, rfl, ?_⟩) | (go_at_call 44; (with_reducible refine (goods_Name.calls k1 ((rd_T66 l0 x11_1).f1) true _ A8.out).mono ?_); rintro e w' ⟨rfl, ⟨nd, rfl⟩⟩))
    go_ret
    exact ⟨er_, hb1_ HB GE149⟩
   rw [if_neg c10] at H; have c10b0 := decide_eq_false c10; clear c10
   by_cases c13 : ((rd_T66 l0 x11_1).f2) > 1000000000
   ·
    rw [if_pos c13] at H; have c13b0 := decide_eq_true c13; clear c13; obtain rfl := Option.some.inj H; have p148 : 0 ≤ (x11_1 : Int) := of_decide_eq_true as_; have q148 : x11_1 < (l0.length : Int) := of_decide_eq_true as_; obtain ⟨ad148, e148, hx148_0, hx148_1, hx148_2, hx148_3⟩ := at_T66 HR0.out x11_1 p148 q148
    cases e148; replace hx148_0 := hd_ HB hx148_0; replace hx148_1 := hd_ HB hx148_1; replace hx148_2 := hd_ HB hx148_2; replace hx148_3 := hd_ HB hx148_3; replace p148 := eq_true p148; replace q148 := eq_true q148
    go_wp2_with (first | ((with_reducible refine gate_dst (N := 5) rfl ?_); refine box_event rf_ (N := 5) rf_ (cs := #[.string (⟨#[]⟩ : ByteArray), .string (⟨#[]⟩ : ByteArray), .int .i64 0, .bool false]) (t := 66) lr_ ?_; intro gb149 hg w14 hbox hb; replace HO_3 := Aside0.mk (Kd.R_below (ro_ HO_3) hb); have BK149 := Aside0.mk hbox; have GE149 := Aside0.mk (ge_ HB hg (hb0_ HB)); replace HB := Aside0.mk (below_step (hb0_ HB) hb); clear hb hbox hg; obtain ⟨hcz15_0, hcz15_1, hcz15_2, hcz15_3⟩ := cz4_ BK149; obtain ⟨hfz15_0, hfz15_1, hfz15_2, hfz15_3⟩ := fz4_ BK149) | (refine gl_ 44 17 Try.func44 #[.string ((rd_T66 l0 x11_1).f0)] ?_; (with_reducible refine (goods_Name.calls k1 ((rd_T66 l0 x11_1).f0) true _ A6.out).mono ?_); rintro e w' ⟨rfl, ⟨nd, rfl⟩⟩; refine ⟨_, rfl, ?_⟩) | (go_at_call 44; (with_reducible refine (goods_Name.calls k1 ((rd_T66 l0 x11_1).f1) true _ A8.out).mono ?_); rintro e w' ⟨rfl, ⟨nd, rfl⟩⟩))
    go_ret
    exact ⟨er_, hb1_ HB GE149⟩
   rw [if_neg c13] at H; have c13b0 := decide_eq_false c13; clear c13; replace H := ip_ H; obtain ⟨c16, H⟩ := H; have LMc16 := Aside0.mk c16; clear c16; obtain ⟨y152, hy152⟩ : ∃ y_ : List ByteArray, y_ = (x3_1 ++ [(rd_T66 l0 x11_1).f0]) := ⟨_, rfl⟩; replace H : (goods_Right.l0 k1 y152 l0 (l0.length : Int) (wrap64 (x11_1 + 1))) = some r := hy_ hy152 H
   have Ny152 := Aside0.mk hy152; clear hy152; have H' := Aside0.mk H; clear H; have p148 : 0 ≤ (x11_1 : Int) := of_decide_eq_true as_; have q148 : x11_1 < (l0.length : Int) := of_decide_eq_true as_; obtain ⟨ad148, e148, hx148_0, hx148_1, hx148_2, hx148_3⟩ := at_T66 HR0.out x11_1 p148 q148; cases e148
   replace hx148_0 := hd_ HB hx148_0; replace hx148_1 := hd_ HB hx148_1; replace hx148_2 := hd_ HB hx148_2; replace hx148_3 := hd_ HB hx148_3; replace p148 := eq_true p148; replace q148 := eq_true q148
   go_wp2_with (first | ((with_reducible refine gate_dst (N := 5) rfl ?_); refine box_event rf_ (N := 5) rf_ (cs := #[.string (⟨#[]⟩ : ByteArray), .string (⟨#[]⟩ : ByteArray), .int .i64 0, .bool false]) (t := 66) lr_ ?_; intro gb149 hg w17 hbox hb; replace HO_3 := Aside0.mk (Kd.R_below (ro_ HO_3) hb); have BK149 := Aside0.mk hbox; have GE149 := Aside0.mk (ge_ HB hg (hb0_ HB)); replace HB := Aside0.mk (below_step (hb0_ HB) hb); clear hb hbox hg; obtain ⟨hcz18_0, hcz18_1, hcz18_2, hcz18_3⟩ := cz4_ BK149; obtain ⟨hfz18_0, hfz18_1, hfz18_2, hfz18_3⟩ := fz4_ BK149) | (refine gl_ 44 17 Try.func44 #[.string ((rd_T66 l0 x11_1).f0)] ?_; (with_reducible refine (goods_Name.calls k1 ((rd_T66 l0 x11_1).f0) true _ A6.out).mono ?_); rintro e w' ⟨rfl, ⟨nd, rfl⟩⟩; refine ⟨_, rfl, ?_⟩) | (go_at_call 44; (with_reducible refine (goods_Name.calls k1 ((rd_T66 l0 x11_1).f1) true _ A8.out).mono ?_); rintro e w' ⟨rfl, ⟨nd, rfl⟩⟩) | ((with_reducible refine gate_builtin (b := .append) (xs := #[.tmp 35, .tmp 38]) rfl ?_); at_builtin; refine Kd.R_append Kd.string (w0 := w) w.heap.size rfl (.tmp 35) (.tmp 38) 57 9 (.string ⟨#[]⟩) 16 rfl Try.underlying57 info9 rfl (by decide) (by omega) u3 x3_1 ((rd_T66 l0 x11_1).f0) [.string ((rd_T66 l0 x11_1).f0)] (fun _ => True) (fun _ => False) rfl (by first | (go_simp; done) | (go_simp; rfl)) ?aP (fun _ hk => hk.elim) ?aF ?aO ?aB ?aS ?aL ?_; (case aP => exact rfl); (case aB => exact (hb1_ HB GE149)); (case aF => exact (fun _ _ => trivial)); (case aO => exact (rf1_ HO_3 BK149)); (case aS => exact (below_size (hb1_ HB GE149))); (case aL => have := LMc16.out; omega); intro v153 w19 ho hb hg hat; rw [← Ny152.out] at ho; have n0_ := Aside0.mk (blk_grown (g := gb149) (o := .cells #[.string ((rd_T66 l0 x11_1).f0), .string ((rd_T66 l0 x11_1).f1), .int .i64 ((rd_T66 l0 x11_1).f2), .bool ((rd_T66 l0 x11_1).f3)] 66 (0, 0)) (bq0_ BK149) hg (Kd.R_ne HO_3.out BK149.out (by decide))); have n1_ := Aside0.mk hb; have n2_ := Aside0.mk ho; clear BK149; clear HB; clear HO_3; have BK149 := n0_; have HB := n1_; have HO154 := n2_; clear n0_ n1_ n2_; clear ho hb hg hat))
   go_roundg k1
   case measure => have := HK1.out; omega
   case rel => exact ⟨(y152), (wrap64 (x11_1 + 1)), rf_, H', ⟨ho_ HK1⟩, ⟨ro_ HO154⟩, ⟨hb1_ HB GE149⟩⟩

end Go.Proofs.Ytgfhjamaabaleaa.Rw
