/- RwRef10p. -/
import Derived.Test.YtdmeepjefccpgaaVRwA
import Derived.Test.YtdmeepjefccpgaaVRwRef10T
import Derived.Test.YtdmeepjefccpgaaVRwGoods
section
/- Functions of the program as Lean functions, each with its contract: out of what the kit's printer wrote for this seat. -/
namespace Go.Proofs.Ytdmeepjefccpgaa.Rw
open Go.RowKit Go.Proofs.YtdmeepjefccpgaaW.PrintWords Go.Proofs.YtdmeepjefccpgaaW.PrintLast Go.Proofs.YtdmeepjefccpgaaW.PrintMore
attribute [local go_sem] max2_int min2_int max_two min_two max_three min_three max_four min_four   -- for this text's walks alone
set_option linter.unusedVariables false
set_option linter.unusedSimpArgs false
attribute [local go_sem high] leqS gtrS

/-! ### haberdashref10_parts: function 73 -/
def haberdashref10_parts.l0 : Nat → List (S65) → Int → Option (Bool)
 | 0, _, _ => none
 | k + 1, x0, x3 => if x3 < (x0.length : Int) then (if 0 ≤ x3 then ((haberdashref10_Scope.f k ((rd_T65 x0 x3).f0.f0) ((rd_T65 x0 x3).f0.f1)).bind fun t507 => (if t507 = true then (if ((rd_T65 x0 x3).f1) < 1 then (some false) else (if ((rd_T65 x0 x3).f1) > 100 then (some false) else (haberdashref10_parts.l0 k x0 (wrap64 (x3 + 1))))) else (some false))) else (none)) else (if (x0.length : Int) ≥ 1 then (some (decide ((x0.length : Int) ≤ 3))) else (some false))
def haberdashref10_parts.f (k : Nat) (l0 : List (S65)) : Option (Bool) := haberdashref10_parts.l0 k l0 0
set_option maxHeartbeats 8000000 in
set_option maxRecDepth 100000 in
theorem haberdashref10_parts.calls (k : Nat) (A0 : Option Addr) (c0 : Nat) (l0 : List (S65)) (r : Bool) (w : World) (hr0 : Kd.C k65 w A0 l0.length l0) (hc0 : l0.length ≤ c0) (h : haberdashref10_parts.f k l0 = some r) :
 Calls Try.prog 73 #[.slice A0 l0.length c0] w fun e w' => e = .returned (.bool r) ∧ Below w.heap.size w w' := by
 have hu56 := Try.underlying56
 have HR0 := Aside0.mk hr0
 have HC0 := Aside0.mk hc0
 clear hr0 hc0
 have HB := Aside0.mk (Below.refl w.heap.size w)
 have H : (haberdashref10_parts.l0 k l0 0) = some r := h
 clear h
 have H' := Aside0.mk H
 clear H
 go_enter Try.func73, Try.ntmps73
 go_wp2
 go_loopg [3] k (fun kq v3 w' => ∃ (x3_1 : Int), v3 = .int .i64 x3_1 ∧ Aside0 (haberdashref10_parts.l0 kq l0 x3_1 = some r) ∧ Aside0 (kq ≤ k) ∧ Aside0 (Below w.heap.size w w'))
 case atStart => exact ⟨(0), rf_, H', ⟨Nat.le_refl _⟩, ⟨hb0_ HB⟩⟩
 case round =>
  clear H'; obtain ⟨x3_1, rfl, HA, HK1, HB⟩ := hrel
  cases gk with
  | zero => exact absurd HA.out (by simp [haberdashref10_parts.l0])
  | succ k1 =>
   have H := HA.out; clear HA
   simp only [haberdashref10_parts.l0] at H
   by_cases c2 : x3_1 < (l0.length : Int)
   rotate_left
   ·
    rw [if_neg c2] at H; have c2b0 := decide_eq_false c2; clear c2
    by_cases c12 : (l0.length : Int) ≥ 1
    rotate_left
    ·
     rw [if_neg c12] at H; have c12b0 := decide_eq_false c12
     have c12b1 : decide (1 ≤ l0.length) = false := decide_eq_false (by omega)
     clear c12; obtain rfl := Option.some.inj H
     go_wp2
     go_ret
     exact ⟨er_, hb0_ HB⟩
    rw [if_pos c12] at H; have c12b0 := decide_eq_true c12
    have c12b1 : decide (1 ≤ l0.length) = true := decide_eq_true (by omega)
    clear c12; obtain rfl := Option.some.inj H
    go_wp2
    go_ret
    exact ⟨er_, hb0_ HB⟩
   rw [if_pos c2] at H; have c2b0 := decide_eq_true c2; clear c2; replace H := ip_ H; obtain ⟨c3, H⟩ := H; have c3b0 := decide_eq_true c3; clear c3; replace H := Option.bind_eq_some_iff.mp H; obtain ⟨t507, A40, H⟩ := H
   (try dsimp only at H)
   have A4 := Aside0.mk A40; clear A40
   by_cases c5 : t507 = true
   rotate_left
   ·
    replace c5 := Bool.eq_false_iff.mpr c5; subst c5; rw [if_neg nf_] at H; obtain rfl := Option.some.inj H; have p506 : 0 ≤ (x3_1 : Int) := of_decide_eq_true as_; have q506 : x3_1 < (l0.length : Int) := of_decide_eq_true as_; obtain ⟨ad506, A506_0, c506_0, A506_1, c506_1, e506, hx506_0, hx506_1, hx506_2, hl506_0, hi506_0, hl506_1, hi506_1⟩ := at_T65 HR0.out x3_1 p506 q506
    cases e506; replace hx506_0 := hd_ HB hx506_0; replace hx506_1 := hd_ HB hx506_1; replace hx506_2 := hd_ HB hx506_2; have HR506_0 := Aside0.mk hi506_0; have HC506_0 := Aside0.mk hl506_0; clear hi506_0 hl506_0; have HR506_1 := Aside0.mk hi506_1; have HC506_1 := Aside0.mk hl506_1; clear hi506_1 hl506_1
    replace p506 := eq_true p506; replace q506 := eq_true q506
    go_wp2_with (first | (refine gl_ 72 15 Try.func72 #[.agg #[.slice A506_0 ((rd_T65 l0 x3_1).f0.f0).length c506_0, .slice A506_1 ((rd_T65 l0 x3_1).f0.f1).length c506_1]] ?_; (with_reducible refine (haberdashref10_Scope.calls k1 _ _ ((rd_T65 l0 x3_1).f0.f0) _ _ ((rd_T65 l0 x3_1).f0.f1) false _ ?side1 ?side2 ?side3 ?side4 A4.out).mono ?_); (case side1 => exact sc_ (Kd.C_below HR506_0.out HB.out)); (case side2 => exact HC506_0.out); (case side3 => exact sc_ (Kd.C_below HR506_1.out HB.out)); (case side4 => exact HC506_1.out); rintro e w11 ⟨rfl, hb⟩; refine ⟨_, rfl, ?_⟩; replace HB := Aside0.mk (below_step (hb0_ HB) hb); (try clear hb)))
    go_ret
    exact ⟨er_, hb0_ HB⟩
   subst c5; rw [if_pos rfl] at H
   by_cases c6 : ((rd_T65 l0 x3_1).f1) < 1
   ·
    rw [if_pos c6] at H; have c6b0 := decide_eq_true c6; clear c6; obtain rfl := Option.some.inj H; have p506 : 0 ≤ (x3_1 : Int) := of_decide_eq_true as_; have q506 : x3_1 < (l0.length : Int) := of_decide_eq_true as_; obtain ⟨ad506, A506_0, c506_0, A506_1, c506_1, e506, hx506_0, hx506_1, hx506_2, hl506_0, hi506_0, hl506_1, hi506_1⟩ := at_T65 HR0.out x3_1 p506 q506
    cases e506; replace hx506_0 := hd_ HB hx506_0; replace hx506_1 := hd_ HB hx506_1; replace hx506_2 := hd_ HB hx506_2; have HR506_0 := Aside0.mk hi506_0; have HC506_0 := Aside0.mk hl506_0; clear hi506_0 hl506_0; have HR506_1 := Aside0.mk hi506_1; have HC506_1 := Aside0.mk hl506_1; clear hi506_1 hl506_1
    replace p506 := eq_true p506; replace q506 := eq_true q506
    go_wp2_with (first | (refine gl_ 72 15 Try.func72 #[.agg #[.slice A506_0 ((rd_T65 l0 x3_1).f0.f0).length c506_0, .slice A506_1 ((rd_T65 l0 x3_1).f0.f1).length c506_1]] ?_; (with_reducible refine (haberdashref10_Scope.calls k1 _ _ ((rd_T65 l0 x3_1).f0.f0) _ _ ((rd_T65 l0 x3_1).f0.f1) true _ ?side1 ?side2 ?side3 ?side4 A4.out).mono ?_); (case side1 => exact sc_ (Kd.C_below HR506_0.out HB.out)); (case side2 => exact HC506_0.out); (case side3 => exact sc_ (Kd.C_below HR506_1.out HB.out)); (case side4 => exact HC506_1.out); rintro e w7 ⟨rfl, hb⟩; refine ⟨_, rfl, ?_⟩; replace HB := Aside0.mk (below_step (hb0_ HB) hb); (try clear hb); have p508 : 0 ≤ (x3_1 : Int) := of_decide_eq_true as_; have q508 : x3_1 < (l0.length : Int) := of_decide_eq_true as_; obtain ⟨ad508, A508_0, c508_0, A508_1, c508_1, e508, hx508_0, hx508_1, hx508_2, hl508_0, hi508_0, hl508_1, hi508_1⟩ := at_T65 HR0.out x3_1 p508 q508; obtain rfl : ad506 = ad508 := (by injection e508); replace hx508_0 := hd_ HB hx508_0; replace hx508_1 := hd_ HB hx508_1; replace hx508_2 := hd_ HB hx508_2; have HR508_0 := Aside0.mk hi508_0; have HC508_0 := Aside0.mk hl508_0; clear hi508_0 hl508_0; have HR508_1 := Aside0.mk hi508_1; have HC508_1 := Aside0.mk hl508_1; clear hi508_1 hl508_1; replace p508 := eq_true p508; replace q508 := eq_true q508))
    go_ret
    exact ⟨er_, hb0_ HB⟩
   rw [if_neg c6] at H; have c6b0 := decide_eq_false c6; clear c6
   by_cases c8 : ((rd_T65 l0 x3_1).f1) > 100
   ·
    rw [if_pos c8] at H; have c8b0 := decide_eq_true c8; clear c8; obtain rfl := Option.some.inj H; have p506 : 0 ≤ (x3_1 : Int) := of_decide_eq_true as_; have q506 : x3_1 < (l0.length : Int) := of_decide_eq_true as_; obtain ⟨ad506, A506_0, c506_0, A506_1, c506_1, e506, hx506_0, hx506_1, hx506_2, hl506_0, hi506_0, hl506_1, hi506_1⟩ := at_T65 HR0.out x3_1 p506 q506
    cases e506; replace hx506_0 := hd_ HB hx506_0; replace hx506_1 := hd_ HB hx506_1; replace hx506_2 := hd_ HB hx506_2; have HR506_0 := Aside0.mk hi506_0; have HC506_0 := Aside0.mk hl506_0; clear hi506_0 hl506_0; have HR506_1 := Aside0.mk hi506_1; have HC506_1 := Aside0.mk hl506_1; clear hi506_1 hl506_1
    replace p506 := eq_true p506; replace q506 := eq_true q506
    go_wp2_with (first | (refine gl_ 72 15 Try.func72 #[.agg #[.slice A506_0 ((rd_T65 l0 x3_1).f0.f0).length c506_0, .slice A506_1 ((rd_T65 l0 x3_1).f0.f1).length c506_1]] ?_; (with_reducible refine (haberdashref10_Scope.calls k1 _ _ ((rd_T65 l0 x3_1).f0.f0) _ _ ((rd_T65 l0 x3_1).f0.f1) true _ ?side1 ?side2 ?side3 ?side4 A4.out).mono ?_); (case side1 => exact sc_ (Kd.C_below HR506_0.out HB.out)); (case side2 => exact HC506_0.out); (case side3 => exact sc_ (Kd.C_below HR506_1.out HB.out)); (case side4 => exact HC506_1.out); rintro e w9 ⟨rfl, hb⟩; refine ⟨_, rfl, ?_⟩; replace HB := Aside0.mk (below_step (hb0_ HB) hb); (try clear hb); have p508 : 0 ≤ (x3_1 : Int) := of_decide_eq_true as_; have q508 : x3_1 < (l0.length : Int) := of_decide_eq_true as_; obtain ⟨ad508, A508_0, c508_0, A508_1, c508_1, e508, hx508_0, hx508_1, hx508_2, hl508_0, hi508_0, hl508_1, hi508_1⟩ := at_T65 HR0.out x3_1 p508 q508; obtain rfl : ad506 = ad508 := (by injection e508); replace hx508_0 := hd_ HB hx508_0; replace hx508_1 := hd_ HB hx508_1; replace hx508_2 := hd_ HB hx508_2; have HR508_0 := Aside0.mk hi508_0; have HC508_0 := Aside0.mk hl508_0; clear hi508_0 hl508_0; have HR508_1 := Aside0.mk hi508_1; have HC508_1 := Aside0.mk hl508_1; clear hi508_1 hl508_1; replace p508 := eq_true p508; replace q508 := eq_true q508; have p509 : 0 ≤ (x3_1 : Int) := of_decide_eq_true as_; have q509 : x3_1 < (l0.length : Int) := of_decide_eq_true as_; obtain ⟨ad509, A509_0, c509_0, A509_1, c509_1, e509, hx509_0, hx509_1, hx509_2, hl509_0, hi509_0, hl509_1, hi509_1⟩ := at_T65 HR0.out x3_1 p509 q509; obtain rfl : ad506 = ad509 := (by injection e509); replace hx509_0 := hd_ HB hx509_0; replace hx509_1 := hd_ HB hx509_1; replace hx509_2 := hd_ HB hx509_2; have HR509_0 := Aside0.mk hi509_0; have HC509_0 := Aside0.mk hl509_0; clear hi509_0 hl509_0; have HR509_1 := Aside0.mk hi509_1; have HC509_1 := Aside0.mk hl509_1; clear hi509_1 hl509_1; replace p509 := eq_true p509; replace q509 := eq_true q509; have ea_ := Option.some.inj (hx508_0.symm.trans hx509_0); injection ea_ with ea_ en_ ec_; subst ea_; subst ec_; clear en_; have ea_ := Option.some.inj (hx508_1.symm.trans hx509_1); injection ea_ with ea_ en_ ec_; subst ea_; subst ec_; clear en_))
    go_ret
    exact ⟨er_, hb0_ HB⟩
   rw [if_neg c8] at H; have c8b0 := decide_eq_false c8; clear c8; have H' := Aside0.mk H; clear H; have p506 : 0 ≤ (x3_1 : Int) := of_decide_eq_true as_; have q506 : x3_1 < (l0.length : Int) := of_decide_eq_true as_; obtain ⟨ad506, A506_0, c506_0, A506_1, c506_1, e506, hx506_0, hx506_1, hx506_2, hl506_0, hi506_0, hl506_1, hi506_1⟩ := at_T65 HR0.out x3_1 p506 q506
   cases e506; replace hx506_0 := hd_ HB hx506_0; replace hx506_1 := hd_ HB hx506_1; replace hx506_2 := hd_ HB hx506_2; have HR506_0 := Aside0.mk hi506_0; have HC506_0 := Aside0.mk hl506_0; clear hi506_0 hl506_0; have HR506_1 := Aside0.mk hi506_1; have HC506_1 := Aside0.mk hl506_1; clear hi506_1 hl506_1
   replace p506 := eq_true p506; replace q506 := eq_true q506
   go_wp2_with (first | (refine gl_ 72 15 Try.func72 #[.agg #[.slice A506_0 ((rd_T65 l0 x3_1).f0.f0).length c506_0, .slice A506_1 ((rd_T65 l0 x3_1).f0.f1).length c506_1]] ?_; (with_reducible refine (haberdashref10_Scope.calls k1 _ _ ((rd_T65 l0 x3_1).f0.f0) _ _ ((rd_T65 l0 x3_1).f0.f1) true _ ?side1 ?side2 ?side3 ?side4 A4.out).mono ?_); (case side1 => exact sc_ (Kd.C_below HR506_0.out HB.out)); (case side2 => exact HC506_0.out); (case side3 => exact sc_ (Kd.C_below HR506_1.out HB.out)); (case side4 => exact HC506_1.out); rintro e w10 ⟨rfl, hb⟩; refine ⟨_, rfl, ?_⟩; replace HB := Aside0.mk (below_step (hb0_ HB) hb); (try clear hb); have p508 : 0 ≤ (x3_1 : Int) := of_decide_eq_true as_; have q508 : x3_1 < (l0.length : Int) := of_decide_eq_true as_; obtain ⟨ad508, A508_0, c508_0, A508_1, c508_1, e508, hx508_0, hx508_1, hx508_2, hl508_0, hi508_0, hl508_1, hi508_1⟩ := at_T65 HR0.out x3_1 p508 q508; obtain rfl : ad506 = ad508 := (by injection e508); replace hx508_0 := hd_ HB hx508_0; replace hx508_1 := hd_ HB hx508_1; replace hx508_2 := hd_ HB hx508_2; have HR508_0 := Aside0.mk hi508_0; have HC508_0 := Aside0.mk hl508_0; clear hi508_0 hl508_0; have HR508_1 := Aside0.mk hi508_1; have HC508_1 := Aside0.mk hl508_1; clear hi508_1 hl508_1; replace p508 := eq_true p508; replace q508 := eq_true q508; have p509 : 0 ≤ (x3_1 : Int) := of_decide_eq_true as_; have q509 : x3_1 < (l0.length : Int) := of_decide_eq_true as_; obtain ⟨ad509, A509_0, c509_0, A509_1, c509_1, e509, hx509_0, hx509_1, hx509_2, hl509_0, hi509_0, hl509_1, hi509_1⟩ := at_T65 HR0.out x3_1 p509 q509; obtain rfl : ad506 = ad509 := (by injection e509); replace hx509_0 := hd_ HB hx509_0; replace hx509_1 := hd_ HB hx509_1; replace hx509_2 := hd_ HB hx509_2; have HR509_0 := Aside0.mk hi509_0; have HC509_0 := Aside0.mk hl509_0; clear hi509_0 hl509_0; have HR509_1 := Aside0.mk hi509_1; have HC509_1 := Aside0.mk hl509_1; clear hi509_1 hl509_1; replace p509 := eq_true p509; replace q509 := eq_true q509; have ea_ := Option.some.inj (hx508_0.symm.trans hx509_0); injection ea_ with ea_ en_ ec_; subst ea_; subst ec_; clear en_; have ea_ := Option.some.inj (hx508_1.symm.trans hx509_1); injection ea_ with ea_ en_ ec_; subst ea_; subst ec_; clear en_))
   go_roundg k1
   case measure => have := HK1.out; omega
   case rel => exact ⟨(wrap64 (x3_1 + 1)), rf_, H', ⟨ho_ HK1⟩, ⟨hb0_ HB⟩⟩

end Go.Proofs.Ytdmeepjefccpgaa.Rw
end
section
/- Functions of the program as Lean functions, each with its contract: out of what the kit's printer wrote for this seat. -/
namespace Go.Proofs.Ytdmeepjefccpgaa.Rw
open Go.RowKit Go.Proofs.YtdmeepjefccpgaaW.PrintWords Go.Proofs.YtdmeepjefccpgaaW.PrintLast Go.Proofs.YtdmeepjefccpgaaW.PrintMore
attribute [local go_sem] max2_int min2_int max_two min_two max_three min_three max_four min_four   -- for this text's walks alone
set_option linter.unusedVariables false
set_option linter.unusedSimpArgs false
attribute [local go_sem high] leqS gtrS

/-! ### haberdashref10_Promo: function 31 -/
mutual
def haberdashref10_Promo.j0 : Nat → Bool → ByteArray → Int → Int → ByteArray → ByteArray → Bool → List ByteArray → List ByteArray → Int → Int → Int → Int → Int → List (S65) → List (S67) → Option (Bool)
 | 0, _, _, _, _, _, _, _, _, _, _, _, _, _, _, _, _ => none
 | k + 1, x67, x518000, x518001, x518002, x518003, x518004, x518005, x518006, x518007, x518008, x518009, x518010, x518011, x518012, x518013, x518014 => if x67 = true then (some false) else (if x518011 = 0 then (haberdashref10_Promo.j1 k (x518009 == 0) (x518010 == 0) (x518012 == 0) ((x518013.length : Int) == 0) ((x518014.length : Int) == 0) x518000 x518001 x518002 x518003 x518004 x518005 x518006 x518007 x518008 x518009 x518010 x518011 x518012 x518013 x518014) else (haberdashref10_Promo.j1 k (x518009 == 0) (x518010 == 0) false ((x518013.length : Int) == 0) ((x518014.length : Int) == 0) x518000 x518001 x518002 x518003 x518004 x518005 x518006 x518007 x518008 x518009 x518010 x518011 x518012 x518013 x518014))
def haberdashref10_Promo.j1 : Nat → Bool → Bool → Bool → Bool → Bool → ByteArray → Int → Int → ByteArray → ByteArray → Bool → List ByteArray → List ByteArray → Int → Int → Int → Int → Int → List (S65) → List (S67) → Option (Bool)
 | 0, _, _, _, _, _, _, _, _, _, _, _, _, _, _, _, _, _, _, _, _ => none
 | k + 1, x3, x4, x5, x6, x7, x518000, x518001, x518002, x518003, x518004, x518005, x518006, x518007, x518008, x518009, x518010, x518011, x518012, x518013, x518014 => if (x518006.length : Int) = 0 then (haberdashref10_Promo.j2 k x3 x4 x5 x6 x7 ((x518007.length : Int) == 0) x518000 x518001 x518002 x518003 x518004 x518005 x518006 x518007 x518008 x518009 x518010 x518011 x518012 x518013 x518014) else (haberdashref10_Promo.j2 k x3 x4 x5 x6 x7 false x518000 x518001 x518002 x518003 x518004 x518005 x518006 x518007 x518008 x518009 x518010 x518011 x518012 x518013 x518014)
def haberdashref10_Promo.j2 : Nat → Bool → Bool → Bool → Bool → Bool → Bool → ByteArray → Int → Int → ByteArray → ByteArray → Bool → List ByteArray → List ByteArray → Int → Int → Int → Int → Int → List (S65) → List (S67) → Option (Bool)
 | 0, _, _, _, _, _, _, _, _, _, _, _, _, _, _, _, _, _, _, _, _, _ => none
 | k + 1, x3, x4, x5, x6, x7, x8, x518000, x518001, x518002, x518003, x518004, x518005, x518006, x518007, x518008, x518009, x518010, x518011, x518012, x518013, x518014 => if x518009 ≥ 1 then (haberdashref10_Promo.j3 k x3 x4 x5 x6 x7 x8 (decide (x518009 ≤ 10000)) x518000 x518001 x518002 x518003 x518004 x518005 x518006 x518007 x518008 x518009 x518010 x518011 x518012 x518013 x518014) else (haberdashref10_Promo.j3 k x3 x4 x5 x6 x7 x8 false x518000 x518001 x518002 x518003 x518004 x518005 x518006 x518007 x518008 x518009 x518010 x518011 x518012 x518013 x518014)
def haberdashref10_Promo.j3 : Nat → Bool → Bool → Bool → Bool → Bool → Bool → Bool → ByteArray → Int → Int → ByteArray → ByteArray → Bool → List ByteArray → List ByteArray → Int → Int → Int → Int → Int → List (S65) → List (S67) → Option (Bool)
 | 0, _, _, _, _, _, _, _, _, _, _, _, _, _, _, _, _, _, _, _, _, _, _ => none
 | k + 1, x3, x4, x5, x6, x7, x8, x9, x518000, x518001, x518002, x518003, x518004, x518005, x518006, x518007, x518008, x518009, x518010, x518011, x518012, x518013, x518014 => if x518001 = 1 then (if x9 = true then (if x4 = true then (if x5 = true then (if x6 = true then (some x7) else (some false)) else (some false)) else (some false)) else (some false)) else (if x518001 = 2 then (if x3 = true then (if x518010 ≥ 1 then (if x518010 ≤ 1000000000 then (if x5 = true then (if x6 = true then (some x7) else (some false)) else (some false)) else (some false)) else (some false)) else (some false)) else (if x518001 = 3 then (if x9 = true then (if x4 = true then (if x518011 ≥ 1 then (if x518011 ≤ 100 then (if x518012 ≥ 1 then (if x518012 ≤ 100 then (if x6 = true then (some x7) else (some false)) else (some false)) else (some false)) else (some false)) else (some false)) else (some false)) else (some false)) else (if x518001 = 4 then (if x3 = true then ((haberdashref10_in.f x518010 10000000000000).bind fun t530 => (if t530 = true then (if x5 = true then ((haberdashref10_parts.f k x518013).bind fun t531 => (if t531 = true then (if x7 = true then (some x8) else (some false)) else (some false))) else (some false)) else (some false))) else (some false)) else (if x518001 = 7 then (if x9 = true then (if x4 = true then (if x5 = true then (if x6 = true then (if x7 = true then (if x8 = true then (some (!x518005)) else (some false)) else (some false)) else (some false)) else (some false)) else (some false)) else (some false)) else (if x3 = true then (if x4 = true then (if x5 = true then (if x6 = true then ((haberdashref10_tiers.f k x518014).bind fun t532 => (some t532)) else (some false)) else (some false)) else (some false)) else (some false))))))
end
def haberdashref10_Promo.f (k : Nat) (a0_0 : ByteArray) (a0_1 : Int) (a0_2 : Int) (a0_3 : ByteArray) (a0_4 : ByteArray) (a0_5 : Bool) (l0_6 : List ByteArray) (l0_7 : List ByteArray) (a0_8 : Int) (a0_9 : Int) (a0_10 : Int) (a0_11 : Int) (a0_12 : Int) (l0_13 : List (S65)) (l0_14 : List (S67)) : Option (Bool) := (haberdashref10_Name.f k a0_0).bind fun t518 => (if t518 = true then (if a0_1 < 1 then (haberdashref10_Promo.j0 k true a0_0 a0_1 a0_2 a0_3 a0_4 a0_5 l0_6 l0_7 a0_8 a0_9 a0_10 a0_11 a0_12 l0_13 l0_14) else (if a0_1 > 7 then (haberdashref10_Promo.j0 k true a0_0 a0_1 a0_2 a0_3 a0_4 a0_5 l0_6 l0_7 a0_8 a0_9 a0_10 a0_11 a0_12 l0_13 l0_14) else (if a0_2 < 0 then (haberdashref10_Promo.j0 k true a0_0 a0_1 a0_2 a0_3 a0_4 a0_5 l0_6 l0_7 a0_8 a0_9 a0_10 a0_11 a0_12 l0_13 l0_14) else (if a0_2 > 1000 then (haberdashref10_Promo.j0 k true a0_0 a0_1 a0_2 a0_3 a0_4 a0_5 l0_6 l0_7 a0_8 a0_9 a0_10 a0_11 a0_12 l0_13 l0_14) else (if a0_3.toList = ([] : List UInt8) then (if a0_4.toList = ([] : List UInt8) then ((haberdashref10_Scope.f k l0_6 l0_7).bind fun t519 => (if t519 = true then ((haberdashref10_in.f a0_8 10000000000000).bind fun t520 => (haberdashref10_Promo.j0 k (!t520) a0_0 a0_1 a0_2 a0_3 a0_4 a0_5 l0_6 l0_7 a0_8 a0_9 a0_10 a0_11 a0_12 l0_13 l0_14)) else (haberdashref10_Promo.j0 k true a0_0 a0_1 a0_2 a0_3 a0_4 a0_5 l0_6 l0_7 a0_8 a0_9 a0_10 a0_11 a0_12 l0_13 l0_14))) else ((haberdashref10_Name.f k a0_4).bind fun t521 => (if t521 = true then ((haberdashref10_Scope.f k l0_6 l0_7).bind fun t522 => (if t522 = true then ((haberdashref10_in.f a0_8 10000000000000).bind fun t523 => (haberdashref10_Promo.j0 k (!t523) a0_0 a0_1 a0_2 a0_3 a0_4 a0_5 l0_6 l0_7 a0_8 a0_9 a0_10 a0_11 a0_12 l0_13 l0_14)) else (haberdashref10_Promo.j0 k true a0_0 a0_1 a0_2 a0_3 a0_4 a0_5 l0_6 l0_7 a0_8 a0_9 a0_10 a0_11 a0_12 l0_13 l0_14))) else (haberdashref10_Promo.j0 k true a0_0 a0_1 a0_2 a0_3 a0_4 a0_5 l0_6 l0_7 a0_8 a0_9 a0_10 a0_11 a0_12 l0_13 l0_14)))) else ((haberdashref10_Name.f k a0_3).bind fun t524 => (if t524 = true then (if a0_4.toList = ([] : List UInt8) then ((haberdashref10_Scope.f k l0_6 l0_7).bind fun t525 => (if t525 = true then ((haberdashref10_in.f a0_8 10000000000000).bind fun t526 => (haberdashref10_Promo.j0 k (!t526) a0_0 a0_1 a0_2 a0_3 a0_4 a0_5 l0_6 l0_7 a0_8 a0_9 a0_10 a0_11 a0_12 l0_13 l0_14)) else (haberdashref10_Promo.j0 k true a0_0 a0_1 a0_2 a0_3 a0_4 a0_5 l0_6 l0_7 a0_8 a0_9 a0_10 a0_11 a0_12 l0_13 l0_14))) else ((haberdashref10_Name.f k a0_4).bind fun t527 => (if t527 = true then ((haberdashref10_Scope.f k l0_6 l0_7).bind fun t528 => (if t528 = true then ((haberdashref10_in.f a0_8 10000000000000).bind fun t529 => (haberdashref10_Promo.j0 k (!t529) a0_0 a0_1 a0_2 a0_3 a0_4 a0_5 l0_6 l0_7 a0_8 a0_9 a0_10 a0_11 a0_12 l0_13 l0_14)) else (haberdashref10_Promo.j0 k true a0_0 a0_1 a0_2 a0_3 a0_4 a0_5 l0_6 l0_7 a0_8 a0_9 a0_10 a0_11 a0_12 l0_13 l0_14))) else (haberdashref10_Promo.j0 k true a0_0 a0_1 a0_2 a0_3 a0_4 a0_5 l0_6 l0_7 a0_8 a0_9 a0_10 a0_11 a0_12 l0_13 l0_14)))) else (haberdashref10_Promo.j0 k true a0_0 a0_1 a0_2 a0_3 a0_4 a0_5 l0_6 l0_7 a0_8 a0_9 a0_10 a0_11 a0_12 l0_13 l0_14)))))))) else (haberdashref10_Promo.j0 k true a0_0 a0_1 a0_2 a0_3 a0_4 a0_5 l0_6 l0_7 a0_8 a0_9 a0_10 a0_11 a0_12 l0_13 l0_14))
end Go.Proofs.Ytdmeepjefccpgaa.Rw
end
