/- Functions of the program as Lean functions, each with its contract: out of what the kit's printer wrote for this seat. -/
import Derived.Test.YtgfhjamaabaleaaVRwA
import Derived.Test.YtgfhjamaabaleaaVRwAb
import Derived.Test.YtgfhjamaabaleaaVRwGoods
namespace Go.Proofs.Ytgfhjamaabaleaa.Rw
open Go.RowKit Go.Proofs.YtgfhjamaabaleaaW.PrintWords Go.Proofs.YtgfhjamaabaleaaW.PrintLast Go.Proofs.YtgfhjamaabaleaaW.PrintMore
attribute [local go_sem] max2_int min2_int max_two min_two max_three min_three max_four min_four   -- for this text's walks alone
set_option linter.unusedVariables false
set_option linter.unusedSimpArgs false
attribute [local go_sem high] leqS gtrS

/-! ### rules_rate: function 45 -/
def rules_rate.f (a0 : Int) : Option (Bool) := if a0 ≥ 0 then (some (decide (a0 ≤ 10000))) else (some false)
set_option maxHeartbeats 8000000 in
set_option maxRecDepth 100000 in
theorem rules_rate.calls (a0 : Int) (r : Bool) (w : World) (h : rules_rate.f a0 = some r) :
 Calls Try.prog 45 #[.int .i64 a0] w fun e w' => e = .returned (.bool r) ∧ Drawn0 w w' := by
 have H : (if a0 ≥ 0 then (some (decide (a0 ≤ 10000))) else (some false)) = some r := h
 clear h
 by_cases c2 : a0 ≥ 0
 rotate_left
 ·
  rw [if_neg c2] at H; have c2b0 := decide_eq_false c2; clear c2; obtain rfl := Option.some.inj H
  go_enter Try.func45, Try.ntmps45
  go_wp2
  go_ret
  exact ⟨rf_, dr_⟩
 rw [if_pos c2] at H
 have c2b0 := decide_eq_true c2
 clear c2
 obtain rfl := Option.some.inj H
 go_enter Try.func45, Try.ntmps45
 go_wp2
 go_ret
 exact ⟨rf_, dr_⟩

/-! ### rules_zone: function 21 -/
mutual
def rules_zone.j0 : Nat → Bool → ByteArray → List (S39) → Int → Int → Option (Bool)
 | 0, _, _, _, _, _ => none
 | k + 1, x27, x128000, x128001, x128002, x128003 => if x27 = true then (some false) else (rules_zone.l0 k ([] : List ByteArray) x128001 (x128001.length : Int) 0)
def rules_zone.l0 : Nat → List ByteArray → List (S39) → Int → Int → Option (Bool)
 | 0, _, _, _, _ => none
 | k + 1, x3, x29, x30, x31 => if x31 < x30 then (if 0 ≤ x31 then (if x31 < (x29.length : Int) then ((goods_Name.f k ((rd_T39 x29 x31).f0)).bind fun t134 => (if t134 = true then ((rules_rate.f ((rd_T39 x29 x31).f1)).bind fun t135 => (if t135 = true then (if x3.length < 8796093022208 then (rules_zone.l0 k (x3 ++ [(rd_T39 x29 x31).f0]) x29 x30 (wrap64 (x31 + 1))) else (none)) else (some false))) else (some false))) else (none)) else (none)) else ((goods_Rise.f k x3).bind fun t131 => (some t131))
end
def rules_zone.f (k : Nat) (a0_0 : ByteArray) (l0_1 : List (S39)) (a0_2 : Int) (a0_3 : Int) : Option (Bool) := (goods_Name.f k a0_0).bind fun t128 => (if t128 = true then ((rules_rate.f a0_2).bind fun t129 => (if t129 = true then ((rules_rate.f a0_3).bind fun t130 => (if t130 = true then (rules_zone.j0 k (decide ((l0_1.length : Int) > 40)) a0_0 l0_1 a0_2 a0_3) else (rules_zone.j0 k true a0_0 l0_1 a0_2 a0_3))) else (rules_zone.j0 k true a0_0 l0_1 a0_2 a0_3))) else (rules_zone.j0 k true a0_0 l0_1 a0_2 a0_3))
theorem rules_zone.mono_l : ∀ k, (∀ y0 y1 y2 y3 y4, LeO (rules_zone.j0 k y0 y1 y2 y3 y4) (rules_zone.j0 (k + 1) y0 y1 y2 y3 y4)) ∧ (∀ y0 y1 y2 y3, LeO (rules_zone.l0 k y0 y1 y2 y3) (rules_zone.l0 (k + 1) y0 y1 y2 y3))
 | 0 => ⟨fun _ _ _ _ _ r h => by simp [rules_zone.j0] at h, fun _ _ _ _ r h => by simp [rules_zone.l0] at h⟩
 | k + 1 => by
  obtain ⟨ih0, ih1⟩ := rules_zone.mono_l k
  refine ⟨?_, ?_⟩ <;> (intros; first | unfold rules_zone.j0 | unfold rules_zone.l0) <;> (with_reducible repeat' first | exact ih0 .. | exact ih1 .. | exact goods_Name.mono .. | exact goods_Rise.mono .. | exact lo_ | refine LeO.ite ?_ ?_ | refine LeO.bind ?_ (fun _ => ?_))
theorem rules_zone.mono : ∀ a0 a1 a2 a3 k, LeO (rules_zone.f k a0 a1 a2 a3) (rules_zone.f (k + 1) a0 a1 a2 a3) := by
 intro a0 a1 a2 a3 k
 obtain ⟨ih0, ih1⟩ := rules_zone.mono_l k
 unfold rules_zone.f
 with_reducible repeat' first | exact ih0 .. | exact ih1 .. | exact goods_Name.mono .. | exact goods_Rise.mono .. | exact lo_ | refine LeO.ite ?_ ?_ | refine LeO.bind ?_ (fun _ => ?_)
set_option maxHeartbeats 8000000 in
set_option maxRecDepth 100000 in
theorem rules_zone.calls (k : Nat) (a0_0 : ByteArray) (A0_1 : Option Addr) (c0_1 : Nat) (l0_1 : List (S39)) (a0_2 : Int) (a0_3 : Int) (r : Bool) (w : World) (hr0_1 : Kd.C k39 w A0_1 l0_1.length l0_1) (hc0_1 : l0_1.length ≤ c0_1) (h : rules_zone.f k a0_0 l0_1 a0_2 a0_3 = some r) :
 Calls Try.prog 21 #[.agg #[.string a0_0, .slice A0_1 l0_1.length c0_1, .int .i64 a0_2, .int .i64 a0_3]] w fun e w' => e = .returned (.bool r) ∧ Below w.heap.size w w' := by
 have hu28 := Try.underlying28
 have hu39 := Try.underlying39
 have HR0_1 := Aside0.mk hr0_1
 have HC0_1 := Aside0.mk hc0_1
 clear hr0_1 hc0_1
 have HB := Aside0.mk (Below.refl w.heap.size w)
 have H : ((goods_Name.f k a0_0).bind fun t128 => (if t128 = true then ((rules_rate.f a0_2).bind fun t129 => (if t129 = true then ((rules_rate.f a0_3).bind fun t130 => (if t130 = true then (rules_zone.j0 k (decide ((l0_1.length : Int) > 40)) a0_0 l0_1 a0_2 a0_3) else (rules_zone.j0 k true a0_0 l0_1 a0_2 a0_3))) else (rules_zone.j0 k true a0_0 l0_1 a0_2 a0_3))) else (rules_zone.j0 k true a0_0 l0_1 a0_2 a0_3))) = some r := h
 clear h
 have HC2 := Aside0.mk H
 clear H
 go_enter Try.func21, Try.ntmps21
 go_upto_region 1 with (first | ((with_reducible refine gate_dst (N := 1) rfl ?_); (try (refine gate_guard (by rfl) ?_; dsimp only)); refine box_event rf_ (N := 1) rf_ (cs := #[.string a0_0, .slice A0_1 l0_1.length c0_1, .int .i64 a0_2, .int .i64 a0_3]) (t := 28) lr_ ?_; intro gb127 hg w3 hbox hb; have BK127 := Aside0.mk hbox; have GE127 := Aside0.mk (ge_ HB hg (hb0_ HB)); replace HB := Aside0.mk (below_step (hb0_ HB) hb); clear hb hbox hg))
 (try simp only [Act.put, List.setIfInBounds_toArray, List.set_cons_zero, List.set_cons_succ])
 go_cut [27] (fun v27 wc => ∃ (kq : Nat) (x27_1 : Bool), v27 = .bool x27_1 ∧ Aside0 (rules_zone.j0 kq x27_1 a0_0 l0_1 a0_2 a0_3 = some r) ∧ Aside0 (kq ≤ k) ∧ Aside0 (wc.heap[gb127]? = some (.cells #[.string a0_0, (.slice A0_1 l0_1.length c0_1), .int .i64 a0_2, .int .i64 a0_3] 28 (0, 0))) ∧ Aside0 (Below w.heap.size w wc))
 case first =>
  have H := HC2.out; clear HC2; replace H := Option.bind_eq_some_iff.mp H; obtain ⟨t128, A40, H⟩ := H
  (try dsimp only at H)
  have A4 := Aside0.mk A40; clear A40
  by_cases c5 : t128 = true
  rotate_left
  ·
   replace c5 := Bool.eq_false_iff.mpr c5; subst c5; rw [if_neg nf_] at H; have H' := Aside0.mk H; clear H; obtain ⟨hcz13_0, hcz13_1, hcz13_2, hcz13_3⟩ := cz4_ BK127; obtain ⟨hfz13_0, hfz13_1, hfz13_2, hfz13_3⟩ := fz4_ BK127
   go_wp2_with (first | (refine gl_ 44 8 Try.func44 #[.string a0_0] ?_; (with_reducible refine (goods_Name.calls k a0_0 false _ A4.out).mono ?_); rintro e w' ⟨rfl, ⟨nd, rfl⟩⟩; refine ⟨_, rfl, ?_⟩))
   go_meet
   case rel => exact ⟨_, (true), rf_, H', ⟨om_⟩, ⟨bk_ BK127⟩, ⟨hb1_ HB GE127⟩⟩
  subst c5; rw [if_pos rfl] at H; replace H := Option.bind_eq_some_iff.mp H; obtain ⟨t129, A60, H⟩ := H
  (try dsimp only at H)
  have A6 := Aside0.mk A60; clear A60
  by_cases c7 : t129 = true
  rotate_left
  ·
   replace c7 := Bool.eq_false_iff.mpr c7; subst c7; rw [if_neg nf_] at H; have H' := Aside0.mk H; clear H; obtain ⟨hcz12_0, hcz12_1, hcz12_2, hcz12_3⟩ := cz4_ BK127; obtain ⟨hfz12_0, hfz12_1, hfz12_2, hfz12_3⟩ := fz4_ BK127
   go_wp2_with (first | (refine gl_ 44 8 Try.func44 #[.string a0_0] ?_; (with_reducible refine (goods_Name.calls k a0_0 true _ A4.out).mono ?_); rintro e w' ⟨rfl, ⟨nd, rfl⟩⟩; refine ⟨_, rfl, ?_⟩) | (go_at_call 45; (with_reducible refine (rules_rate.calls a0_2 false _ A6.out).mono ?_); rintro e w' ⟨rfl, ⟨nd, rfl⟩⟩))
   go_meet
   case rel => exact ⟨_, (true), rf_, H', ⟨om_⟩, ⟨bk_ BK127⟩, ⟨hb1_ HB GE127⟩⟩
  subst c7; rw [if_pos rfl] at H; replace H := Option.bind_eq_some_iff.mp H; obtain ⟨t130, A80, H⟩ := H
  (try dsimp only at H)
  have A8 := Aside0.mk A80; clear A80
  by_cases c9 : t130 = true
  ·
   subst c9; rw [if_pos rfl] at H; have H' := Aside0.mk H; clear H; obtain ⟨hcz10_0, hcz10_1, hcz10_2, hcz10_3⟩ := cz4_ BK127; obtain ⟨hfz10_0, hfz10_1, hfz10_2, hfz10_3⟩ := fz4_ BK127
   go_wp2_with (first | (refine gl_ 44 8 Try.func44 #[.string a0_0] ?_; (with_reducible refine (goods_Name.calls k a0_0 true _ A4.out).mono ?_); rintro e w' ⟨rfl, ⟨nd, rfl⟩⟩; refine ⟨_, rfl, ?_⟩) | (go_at_call 45; (with_reducible refine (rules_rate.calls a0_2 true _ A6.out).mono ?_); rintro e w' ⟨rfl, ⟨nd, rfl⟩⟩) | (go_at_call 45; (with_reducible refine (rules_rate.calls a0_3 true _ A8.out).mono ?_); rintro e w' ⟨rfl, ⟨nd, rfl⟩⟩))
   go_meet
   case rel => exact ⟨_, (decide ((l0_1.length : Int) > 40)), rf_, H', ⟨om_⟩, ⟨bk_ BK127⟩, ⟨hb1_ HB GE127⟩⟩
  replace c9 := Bool.eq_false_iff.mpr c9; subst c9; rw [if_neg nf_] at H; have H' := Aside0.mk H; clear H; obtain ⟨hcz11_0, hcz11_1, hcz11_2, hcz11_3⟩ := cz4_ BK127; obtain ⟨hfz11_0, hfz11_1, hfz11_2, hfz11_3⟩ := fz4_ BK127
  go_wp2_with (first | (refine gl_ 44 8 Try.func44 #[.string a0_0] ?_; (with_reducible refine (goods_Name.calls k a0_0 true _ A4.out).mono ?_); rintro e w' ⟨rfl, ⟨nd, rfl⟩⟩; refine ⟨_, rfl, ?_⟩) | (go_at_call 45; (with_reducible refine (rules_rate.calls a0_2 true _ A6.out).mono ?_); rintro e w' ⟨rfl, ⟨nd, rfl⟩⟩) | (go_at_call 45; (with_reducible refine (rules_rate.calls a0_3 false _ A8.out).mono ?_); rintro e w' ⟨rfl, ⟨nd, rfl⟩⟩))
  go_meet
  case rel => exact ⟨_, (true), rf_, H', ⟨om_⟩, ⟨bk_ BK127⟩, ⟨hb1_ HB GE127⟩⟩
 case rest =>
  clear HC2; (try clear c2); (try clear p2); (try clear c4); (try clear c5); (try clear c7); (try clear c9); (try clear hcz10_0 hcz10_1 hcz10_2 hcz10_3); (try clear hcz11_0 hcz11_1 hcz11_2 hcz11_3); (try clear hcz12_0 hcz12_1 hcz12_2 hcz12_3); (try clear hcz13_0 hcz13_1 hcz13_2 hcz13_3); (try clear hfz10_0 hfz10_1 hfz10_2 hfz10_3)
  (try clear hfz11_0 hfz11_1 hfz11_2 hfz11_3); (try clear hfz12_0 hfz12_1 hfz12_2 hfz12_3); (try clear hfz13_0 hfz13_1 hfz13_2 hfz13_3); obtain ⟨kq, x27_1, rfl, HA, HJ1, BK127, HB⟩ := hcut
  cases kq with
  | zero => exact absurd HA.out (by simp [rules_zone.j0])
  | succ kj1 =>
   have H := HA.out; clear HA
   simp only [rules_zone.j0] at H
   by_cases c14 : x27_1 = true
   ·
    subst c14; rw [if_pos rfl] at H; obtain rfl := Option.some.inj H
    go_wp2
    go_ret
    exact ⟨er_, hb1_ HB GE127⟩
   replace c14 := Bool.eq_false_iff.mpr c14; subst c14; rw [if_neg nf_] at H; have H' := Aside0.mk H; clear H; obtain ⟨hcz15_0, hcz15_1, hcz15_2, hcz15_3⟩ := cz4_ BK127; obtain ⟨hfz15_0, hfz15_1, hfz15_2, hfz15_3⟩ := fz4_ BK127
   go_wp2
   go_loopg [3, 31] kj1 (fun kq v3 v31 w' => ∃ (x3_2 : List ByteArray) (x31_2 : Int), v31 = .int .i64 x31_2 ∧ Aside0 (rules_zone.l0 kq x3_2 l0_1 (l0_1.length : Int) x31_2 = some r) ∧ Aside0 (kq ≤ kj1) ∧ Aside0 (Kd.R Kd.string 9 w' w.heap.size (fun _ => True) v3 x3_2) ∧ Aside0 (w'.heap[gb127]? = some (.cells #[.string a0_0, (.slice A0_1 l0_1.length c0_1), .int .i64 a0_2, .int .i64 a0_3] 28 (0, 0))) ∧ Aside0 (Below w.heap.size w w'))
   case atStart => exact ⟨(([] : List ByteArray)), (0), rf_, H', ⟨Nat.le_refl _⟩, ⟨ni_⟩, ⟨bk_ BK127⟩, ⟨hb1_ HB GE127⟩⟩
   case round =>
    clear H'; (try clear c1); (try clear c2); (try clear p2); (try clear c4); (try clear c5); (try clear c7); (try clear c9); (try clear c14); (try clear hcz10_0 hcz10_1 hcz10_2 hcz10_3); (try clear hcz11_0 hcz11_1 hcz11_2 hcz11_3); (try clear hcz12_0 hcz12_1 hcz12_2 hcz12_3); (try clear hcz13_0 hcz13_1 hcz13_2 hcz13_3)
    (try clear hcz15_0 hcz15_1 hcz15_2 hcz15_3); (try clear hfz10_0 hfz10_1 hfz10_2 hfz10_3); (try clear hfz11_0 hfz11_1 hfz11_2 hfz11_3); (try clear hfz12_0 hfz12_1 hfz12_2 hfz12_3); (try clear hfz13_0 hfz13_1 hfz13_2 hfz13_3); (try clear hfz15_0 hfz15_1 hfz15_2 hfz15_3); (try clear p2); obtain ⟨x3_2, x31_2, rfl, HA, HK2, HO_3, BK127, HB⟩ := hrel
    cases gk with
    | zero => exact absurd HA.out (by simp [rules_zone.l0])
    | succ k2 =>
     have H := HA.out; clear HA
     simp only [rules_zone.l0] at H
     by_cases c16 : x31_2 < (l0_1.length : Int)
     rotate_left
     ·
      rw [if_neg c16] at H; have c16b0 := decide_eq_false c16; clear c16; replace H := Option.bind_eq_some_iff.mp H; obtain ⟨t131, A340, H⟩ := H
      (try dsimp only at H)
      have A34 := Aside0.mk A340; clear A340; obtain rfl := Option.some.inj H; obtain ⟨Ao35, co35, eo35⟩ := Kd.R_slice HO_3.out; subst eo35
      go_wp2_with (first | (refine gl_ 22 52 Try.func22 #[.slice Ao35 x3_2.length co35] ?_; (with_reducible refine (goods_Rise.calls k2 _ _ x3_2 t131 _ ?side1 ?side2 A34.out).mono ?_); (case side1 => exact sc_ (Kd.R_reads' HO_3.out).2.2); (case side2 => exact (Kd.R_reads' HO_3.out).2.1); rintro e w' ⟨rfl, ⟨nd, rfl⟩⟩; refine ⟨_, rfl, ?_⟩))
      go_ret
      exact ⟨er_, hb1_ HB GE127⟩
     rw [if_pos c16] at H; have c16b0 := decide_eq_true c16; clear c16; replace H := ip_ H; obtain ⟨c17, H⟩ := H; have c17b0 := decide_eq_true c17; clear c17; replace H := ip_ H; obtain ⟨c18, H⟩ := H; have c18b0 := decide_eq_true c18; clear c18; replace H := Option.bind_eq_some_iff.mp H; obtain ⟨t134, A190, H⟩ := H
     (try dsimp only at H)
     have A19 := Aside0.mk A190; clear A190
     by_cases c20 : t134 = true
     rotate_left
     ·
      replace c20 := Bool.eq_false_iff.mpr c20; subst c20; rw [if_neg nf_] at H; obtain rfl := Option.some.inj H; have p132 : 0 ≤ (x31_2 : Int) := of_decide_eq_true as_; have q132 : x31_2 < (l0_1.length : Int) := of_decide_eq_true as_; obtain ⟨ad132, e132, hx132_0, hx132_1⟩ := at_T39 HR0_1.out x31_2 p132 q132
      cases e132; replace hx132_0 := hd_ HB hx132_0; replace hx132_1 := hd_ HB hx132_1; replace p132 := eq_true p132; replace q132 := eq_true q132
      go_wp2_with (first | ((with_reducible refine gate_dst (N := 5) rfl ?_); (try (refine gate_guard (by rfl) ?_; dsimp only)); refine box_event rf_ (N := 5) rf_ (cs := #[.string (⟨#[]⟩ : ByteArray), .int .i64 0]) (t := 39) lr_ ?_; intro gb133 hg w31 hbox hb; replace HO_3 := Aside0.mk (Kd.R_below (ro_ HO_3) hb); have BK133 := Aside0.mk hbox; have GE133 := Aside0.mk (ge_ HB hg (hb1_ HB GE127)); replace HB := Aside0.mk (below_step (hb1_ HB GE127) hb); have NB127_133 := Aside0.mk (nl_ BK127 hg); have NB133_127 := Aside0.mk (ng_ BK127 hg); replace BK127 := Aside0.mk (bb_ BK127 hb); clear hb hbox hg; have hnb32 := NB133_127.out; have hnc32 := NB127_133.out; obtain ⟨hcz33_0, hcz33_1⟩ := cz2_ BK133; obtain ⟨hfz33_0, hfz33_1⟩ := fz2_ BK133) | (refine gl_ 44 37 Try.func44 #[.string ((rd_T39 l0_1 x31_2).f0)] ?_; (with_reducible refine (goods_Name.calls k2 ((rd_T39 l0_1 x31_2).f0) false _ A19.out).mono ?_); rintro e w' ⟨rfl, ⟨nd, rfl⟩⟩; refine ⟨_, rfl, ?_⟩))
      go_ret
      exact ⟨er_, hb2_ HB GE127 GE133⟩
     subst c20; rw [if_pos rfl] at H; replace H := Option.bind_eq_some_iff.mp H; obtain ⟨t135, A210, H⟩ := H
     (try dsimp only at H)
     have A21 := Aside0.mk A210; clear A210
     by_cases c22 : t135 = true
     rotate_left
     ·
      replace c22 := Bool.eq_false_iff.mpr c22; subst c22; rw [if_neg nf_] at H; obtain rfl := Option.some.inj H; have p132 : 0 ≤ (x31_2 : Int) := of_decide_eq_true as_; have q132 : x31_2 < (l0_1.length : Int) := of_decide_eq_true as_; obtain ⟨ad132, e132, hx132_0, hx132_1⟩ := at_T39 HR0_1.out x31_2 p132 q132
      cases e132; replace hx132_0 := hd_ HB hx132_0; replace hx132_1 := hd_ HB hx132_1; replace p132 := eq_true p132; replace q132 := eq_true q132
      go_wp2_with (first | ((with_reducible refine gate_dst (N := 5) rfl ?_); (try (refine gate_guard (by rfl) ?_; dsimp only)); refine box_event rf_ (N := 5) rf_ (cs := #[.string (⟨#[]⟩ : ByteArray), .int .i64 0]) (t := 39) lr_ ?_; intro gb133 hg w28 hbox hb; replace HO_3 := Aside0.mk (Kd.R_below (ro_ HO_3) hb); have BK133 := Aside0.mk hbox; have GE133 := Aside0.mk (ge_ HB hg (hb1_ HB GE127)); replace HB := Aside0.mk (below_step (hb1_ HB GE127) hb); have NB127_133 := Aside0.mk (nl_ BK127 hg); have NB133_127 := Aside0.mk (ng_ BK127 hg); replace BK127 := Aside0.mk (bb_ BK127 hb); clear hb hbox hg; have hnb29 := NB133_127.out; have hnc29 := NB127_133.out; obtain ⟨hcz30_0, hcz30_1⟩ := cz2_ BK133; obtain ⟨hfz30_0, hfz30_1⟩ := fz2_ BK133) | (refine gl_ 44 37 Try.func44 #[.string ((rd_T39 l0_1 x31_2).f0)] ?_; (with_reducible refine (goods_Name.calls k2 ((rd_T39 l0_1 x31_2).f0) true _ A19.out).mono ?_); rintro e w' ⟨rfl, ⟨nd, rfl⟩⟩; refine ⟨_, rfl, ?_⟩) | (go_at_call 45; (with_reducible refine (rules_rate.calls ((rd_T39 l0_1 x31_2).f1) false _ A21.out).mono ?_); rintro e w' ⟨rfl, ⟨nd, rfl⟩⟩))
      go_ret
      exact ⟨er_, hb2_ HB GE127 GE133⟩
     subst c22; rw [if_pos rfl] at H; replace H := ip_ H; obtain ⟨c23, H⟩ := H; have LMc23 := Aside0.mk c23; clear c23; obtain ⟨y136, hy136⟩ : ∃ y_ : List ByteArray, y_ = (x3_2 ++ [(rd_T39 l0_1 x31_2).f0]) := ⟨_, rfl⟩; replace H : (rules_zone.l0 k2 y136 l0_1 (l0_1.length : Int) (wrap64 (x31_2 + 1))) = some r := hy_ hy136 H
     have Ny136 := Aside0.mk hy136; clear hy136; have H' := Aside0.mk H; clear H; have p132 : 0 ≤ (x31_2 : Int) := of_decide_eq_true as_; have q132 : x31_2 < (l0_1.length : Int) := of_decide_eq_true as_; obtain ⟨ad132, e132, hx132_0, hx132_1⟩ := at_T39 HR0_1.out x31_2 p132 q132; cases e132; replace hx132_0 := hd_ HB hx132_0
     replace hx132_1 := hd_ HB hx132_1; replace p132 := eq_true p132; replace q132 := eq_true q132
     go_wp2_with (first | ((with_reducible refine gate_dst (N := 5) rfl ?_); (try (refine gate_guard (by rfl) ?_; dsimp only)); refine box_event rf_ (N := 5) rf_ (cs := #[.string (⟨#[]⟩ : ByteArray), .int .i64 0]) (t := 39) lr_ ?_; intro gb133 hg w24 hbox hb; replace HO_3 := Aside0.mk (Kd.R_below (ro_ HO_3) hb); have BK133 := Aside0.mk hbox; have GE133 := Aside0.mk (ge_ HB hg (hb1_ HB GE127)); replace HB := Aside0.mk (below_step (hb1_ HB GE127) hb); have NB127_133 := Aside0.mk (nl_ BK127 hg); have NB133_127 := Aside0.mk (ng_ BK127 hg); replace BK127 := Aside0.mk (bb_ BK127 hb); clear hb hbox hg; have hnb25 := NB133_127.out; have hnc25 := NB127_133.out; obtain ⟨hcz26_0, hcz26_1⟩ := cz2_ BK133; obtain ⟨hfz26_0, hfz26_1⟩ := fz2_ BK133) | (refine gl_ 44 37 Try.func44 #[.string ((rd_T39 l0_1 x31_2).f0)] ?_; (with_reducible refine (goods_Name.calls k2 ((rd_T39 l0_1 x31_2).f0) true _ A19.out).mono ?_); rintro e w' ⟨rfl, ⟨nd, rfl⟩⟩; refine ⟨_, rfl, ?_⟩) | (go_at_call 45; (with_reducible refine (rules_rate.calls ((rd_T39 l0_1 x31_2).f1) true _ A21.out).mono ?_); rintro e w' ⟨rfl, ⟨nd, rfl⟩⟩) | ((with_reducible refine gate_builtin (b := .append) (xs := #[.tmp 45, .tmp 48]) rfl ?_); (try (refine gate_guard (by rfl) ?_; dsimp only)); at_builtin; refine Kd.R_append Kd.string (w0 := w) w.heap.size rfl (.tmp 45) (.tmp 48) 57 9 (.string ⟨#[]⟩) 16 rfl Try.underlying57 info9 rfl (by decide) (by omega) u3 x3_2 ((rd_T39 l0_1 x31_2).f0) [.string ((rd_T39 l0_1 x31_2).f0)] (fun _ => True) (fun _ => False) rfl (by first | (go_simp; done) | (go_simp; rfl)) ?aP (fun _ hk => hk.elim) ?aF ?aO ?aB ?aS ?aL ?_; (case aP => exact rfl); (case aB => exact (hb2_ HB GE127 GE133)); (case aF => exact (fun _ _ => trivial)); (case aO => exact (rf1_ HO_3 BK133)); (case aS => exact (below_size (hb2_ HB GE127 GE133))); (case aL => have := LMc23.out; omega); intro v137 w27 ho hb hg hat; rw [← Ny136.out] at ho; have n0_ := Aside0.mk (blk_grown (g := gb127) (o := .cells #[.string a0_0, .slice (some ad132) l0_1.length c0_1, .int .i64 a0_2, .int .i64 a0_3] 28 (0, 0)) (bf2_ BK127 NB127_133 NB127_133) hg (Kd.R_ne HO_3.out BK127.out (by decide))); have n1_ := Aside0.mk (blk_grown (g := gb133) (o := .cells #[.string ((rd_T39 l0_1 x31_2).f0), .int .i64 ((rd_T39 l0_1 x31_2).f1)] 39 (0, 0)) (bq0_ BK133) hg (Kd.R_ne HO_3.out BK133.out (by decide))); have n2_ := Aside0.mk hb; have n3_ := Aside0.mk ho; clear BK127; clear BK133; clear HB; clear HO_3; have BK127 := n0_; have BK133 := n1_; have HB := n2_; have HO138 := n3_; clear n0_ n1_ n2_ n3_; clear ho hb hg hat))
     go_roundg k2
     case measure => have := HJ1.out; have := HK2.out; omega
     case rel => exact ⟨(y136), (wrap64 (x31_2 + 1)), rf_, H', ⟨ho2_ HJ1 HK2⟩, ⟨ro_ HO138⟩, ⟨bk_ BK127⟩, ⟨hb2_ HB GE127 GE133⟩⟩

/-! ### rules_Tax: function 15 -/
mutual
def rules_Tax.j0 : Nat → Bool → Bool → Bool → Int → List (S28) → Option (Bool)
 | 0, _, _, _, _, _ => none
 | k + 1, x19, x140000, x140001, x140002, x140003 => if x19 = true then (some false) else (rules_Tax.l0 k ([] : List ByteArray) x140003 (x140003.length : Int) 0)
def rules_Tax.l0 : Nat → List ByteArray → List (S28) → Int → Int → Option (Bool)
 | 0, _, _, _, _ => none
 | k + 1, x3, x21, x22, x23 => if x23 < x22 then (if 0 ≤ x23 then (if x23 < (x21.length : Int) then ((rules_zone.f k ((rd_T28 x21 x23).f0) ((rd_T28 x21 x23).f1) ((rd_T28 x21 x23).f2) ((rd_T28 x21 x23).f3)).bind fun t142 => (if t142 = true then (if x3.length < 8796093022208 then (rules_Tax.l0 k (x3 ++ [(rd_T28 x21 x23).f0]) x21 x22 (wrap64 (x23 + 1))) else (none)) else (some false))) else (none)) else (none)) else ((goods_Rise.f k x3).bind fun t146 => (some t146))
end
def rules_Tax.f (k : Nat) (a0_0 : Bool) (a0_1 : Bool) (a0_2 : Int) (l0_3 : List (S28)) : Option (Bool) := if a0_2 < 0 then (rules_Tax.j0 k true a0_0 a0_1 a0_2 l0_3) else (if a0_2 > 2 then (rules_Tax.j0 k true a0_0 a0_1 a0_2 l0_3) else (rules_Tax.j0 k (decide ((l0_3.length : Int) > 20)) a0_0 a0_1 a0_2 l0_3))
theorem rules_Tax.mono_l : ∀ k, (∀ y0 y1 y2 y3 y4, LeO (rules_Tax.j0 k y0 y1 y2 y3 y4) (rules_Tax.j0 (k + 1) y0 y1 y2 y3 y4)) ∧ (∀ y0 y1 y2 y3, LeO (rules_Tax.l0 k y0 y1 y2 y3) (rules_Tax.l0 (k + 1) y0 y1 y2 y3))
 | 0 => ⟨fun _ _ _ _ _ r h => by simp [rules_Tax.j0] at h, fun _ _ _ _ r h => by simp [rules_Tax.l0] at h⟩
 | k + 1 => by
  obtain ⟨ih0, ih1⟩ := rules_Tax.mono_l k
  refine ⟨?_, ?_⟩ <;> (intros; first | unfold rules_Tax.j0 | unfold rules_Tax.l0) <;> (with_reducible repeat' first | exact ih0 .. | exact ih1 .. | exact goods_Rise.mono .. | exact rules_zone.mono .. | exact lo_ | refine LeO.ite ?_ ?_ | refine LeO.bind ?_ (fun _ => ?_))
theorem rules_Tax.mono : ∀ a0 a1 a2 a3 k, LeO (rules_Tax.f k a0 a1 a2 a3) (rules_Tax.f (k + 1) a0 a1 a2 a3) := by
 intro a0 a1 a2 a3 k
 obtain ⟨ih0, ih1⟩ := rules_Tax.mono_l k
 unfold rules_Tax.f
 with_reducible repeat' first | exact ih0 .. | exact ih1 .. | exact goods_Rise.mono .. | exact rules_zone.mono .. | exact lo_ | refine LeO.ite ?_ ?_ | refine LeO.bind ?_ (fun _ => ?_)
set_option maxHeartbeats 8000000 in
set_option maxRecDepth 100000 in
theorem rules_Tax.calls (k : Nat) (a0_0 : Bool) (a0_1 : Bool) (a0_2 : Int) (A0_3 : Option Addr) (c0_3 : Nat) (l0_3 : List (S28)) (r : Bool) (w : World) (hr0_3 : Kd.C k28 w A0_3 l0_3.length l0_3) (hc0_3 : l0_3.length ≤ c0_3) (h : rules_Tax.f k a0_0 a0_1 a0_2 l0_3 = some r) :
 Calls Try.prog 15 #[.agg #[.bool a0_0, .bool a0_1, .int .i64 a0_2, .slice A0_3 l0_3.length c0_3]] w fun e w' => e = .returned (.bool r) ∧ Below w.heap.size w w' := by
 have hu24 := Try.underlying24
 have hu28 := Try.underlying28
 have HR0_3 := Aside0.mk hr0_3
 have HC0_3 := Aside0.mk hc0_3
 clear hr0_3 hc0_3
 have HB := Aside0.mk (Below.refl w.heap.size w)
 have H : (if a0_2 < 0 then (rules_Tax.j0 k true a0_0 a0_1 a0_2 l0_3) else (if a0_2 > 2 then (rules_Tax.j0 k true a0_0 a0_1 a0_2 l0_3) else (rules_Tax.j0 k (decide ((l0_3.length : Int) > 20)) a0_0 a0_1 a0_2 l0_3))) = some r := h
 clear h
 have HC2 := Aside0.mk H
 clear H
 go_enter Try.func15, Try.ntmps15
 go_upto_region 1 with (first | ((with_reducible refine gate_dst (N := 1) rfl ?_); (try (refine gate_guard (by rfl) ?_; dsimp only)); refine box_event rf_ (N := 1) rf_ (cs := #[.bool a0_0, .bool a0_1, .int .i64 a0_2, .slice A0_3 l0_3.length c0_3]) (t := 24) lr_ ?_; intro gb139 hg w3 hbox hb; have BK139 := Aside0.mk hbox; have GE139 := Aside0.mk (ge_ HB hg (hb0_ HB)); replace HB := Aside0.mk (below_step (hb0_ HB) hb); clear hb hbox hg))
 (try simp only [Act.put, List.setIfInBounds_toArray, List.set_cons_zero, List.set_cons_succ])
 go_cut [19] (fun v19 wc => ∃ (kq : Nat) (x19_1 : Bool), v19 = .bool x19_1 ∧ Aside0 (rules_Tax.j0 kq x19_1 a0_0 a0_1 a0_2 l0_3 = some r) ∧ Aside0 (kq ≤ k) ∧ Aside0 (wc.heap[gb139]? = some (.cells #[.bool a0_0, .bool a0_1, .int .i64 a0_2, (.slice A0_3 l0_3.length c0_3)] 24 (0, 0))) ∧ Aside0 (Below w.heap.size w wc))
 case first =>
  have H := HC2.out; clear HC2
  by_cases c4 : a0_2 < 0
  ·
   rw [if_pos c4] at H; have c4b0 := decide_eq_true c4; clear c4
   (first | rw [c4b0] | (simp only [i64_w, i32_w]; rw [c4b0]) | skip)
   have H' := Aside0.mk H; clear H; obtain ⟨hcz5_0, hcz5_1, hcz5_2, hcz5_3⟩ := cz4_ BK139; obtain ⟨hfz5_0, hfz5_1, hfz5_2, hfz5_3⟩ := fz4_ BK139
   go_wp2
   go_meet
   case rel => exact ⟨_, (true), rf_, H', ⟨om_⟩, ⟨bk_ BK139⟩, ⟨hb1_ HB GE139⟩⟩
  rw [if_neg c4] at H; have c4b0 := decide_eq_false c4; clear c4
  (first | rw [c4b0] | (simp only [i64_w, i32_w]; rw [c4b0]) | skip)
  by_cases c6 : a0_2 > 2
  rotate_left
  ·
   rw [if_neg c6] at H; have c6b0 := decide_eq_false c6; clear c6; have H' := Aside0.mk H; clear H; obtain ⟨hcz8_0, hcz8_1, hcz8_2, hcz8_3⟩ := cz4_ BK139; obtain ⟨hfz8_0, hfz8_1, hfz8_2, hfz8_3⟩ := fz4_ BK139
   go_wp2
   go_meet
   case rel => exact ⟨_, (decide ((l0_3.length : Int) > 20)), rf_, H', ⟨om_⟩, ⟨bk_ BK139⟩, ⟨hb1_ HB GE139⟩⟩
  rw [if_pos c6] at H; have c6b0 := decide_eq_true c6; clear c6; have H' := Aside0.mk H; clear H; obtain ⟨hcz7_0, hcz7_1, hcz7_2, hcz7_3⟩ := cz4_ BK139; obtain ⟨hfz7_0, hfz7_1, hfz7_2, hfz7_3⟩ := fz4_ BK139
  go_wp2
  go_meet
  case rel => exact ⟨_, (true), rf_, H', ⟨om_⟩, ⟨bk_ BK139⟩, ⟨hb1_ HB GE139⟩⟩
 case rest =>
  clear HC2; (try clear c1); (try clear p2); (try clear c4); (try clear c4b0); (try clear c6); (try clear c6b0); (try clear hcz5_0 hcz5_1 hcz5_2 hcz5_3); (try clear hcz7_0 hcz7_1 hcz7_2 hcz7_3); (try clear hcz8_0 hcz8_1 hcz8_2 hcz8_3); (try clear hfz5_0 hfz5_1 hfz5_2 hfz5_3); (try clear hfz7_0 hfz7_1 hfz7_2 hfz7_3)
  (try clear hfz8_0 hfz8_1 hfz8_2 hfz8_3); obtain ⟨kq, x19_1, rfl, HA, HJ1, BK139, HB⟩ := hcut
  cases kq with
  | zero => exact absurd HA.out (by simp [rules_Tax.j0])
  | succ kj1 =>
   have H := HA.out; clear HA
   simp only [rules_Tax.j0] at H
   by_cases c9 : x19_1 = true
   ·
    subst c9; rw [if_pos rfl] at H; obtain rfl := Option.some.inj H
    go_wp2
    go_ret
    exact ⟨er_, hb1_ HB GE139⟩
   replace c9 := Bool.eq_false_iff.mpr c9; subst c9; rw [if_neg nf_] at H; have H' := Aside0.mk H; clear H; obtain ⟨hcz10_0, hcz10_1, hcz10_2, hcz10_3⟩ := cz4_ BK139; obtain ⟨hfz10_0, hfz10_1, hfz10_2, hfz10_3⟩ := fz4_ BK139
   go_wp2
   go_loopg [3, 23] kj1 (fun kq v3 v23 w' => ∃ (x3_2 : List ByteArray) (x23_2 : Int), v23 = .int .i64 x23_2 ∧ Aside0 (rules_Tax.l0 kq x3_2 l0_3 (l0_3.length : Int) x23_2 = some r) ∧ Aside0 (kq ≤ kj1) ∧ Aside0 (Kd.R Kd.string 9 w' w.heap.size (fun _ => True) v3 x3_2) ∧ Aside0 (w'.heap[gb139]? = some (.cells #[.bool a0_0, .bool a0_1, .int .i64 a0_2, (.slice A0_3 l0_3.length c0_3)] 24 (0, 0))) ∧ Aside0 (Below w.heap.size w w'))
   case atStart => exact ⟨(([] : List ByteArray)), (0), rf_, H', ⟨Nat.le_refl _⟩, ⟨ni_⟩, ⟨bk_ BK139⟩, ⟨hb1_ HB GE139⟩⟩
   case round =>
    clear H'; (try clear c1); (try clear p2); (try clear c4); (try clear c4b0); (try clear c6); (try clear c6b0); (try clear c9); (try clear hcz10_0 hcz10_1 hcz10_2 hcz10_3); (try clear hcz5_0 hcz5_1 hcz5_2 hcz5_3); (try clear hcz7_0 hcz7_1 hcz7_2 hcz7_3); (try clear hcz8_0 hcz8_1 hcz8_2 hcz8_3); (try clear hfz10_0 hfz10_1 hfz10_2 hfz10_3)
    (try clear hfz5_0 hfz5_1 hfz5_2 hfz5_3); (try clear hfz7_0 hfz7_1 hfz7_2 hfz7_3); (try clear hfz8_0 hfz8_1 hfz8_2 hfz8_3); (try clear p2); obtain ⟨x3_2, x23_2, rfl, HA, HK2, HO_3, BK139, HB⟩ := hrel
    cases gk with
    | zero => exact absurd HA.out (by simp [rules_Tax.l0])
    | succ k2 =>
     have H := HA.out; clear HA
     simp only [rules_Tax.l0] at H
     by_cases c11 : x23_2 < (l0_3.length : Int)
     rotate_left
     ·
      rw [if_neg c11] at H; have c11b0 := decide_eq_false c11; clear c11; replace H := Option.bind_eq_some_iff.mp H; obtain ⟨t146, A270, H⟩ := H
      (try dsimp only at H)
      have A27 := Aside0.mk A270; clear A270; obtain rfl := Option.some.inj H; obtain ⟨Ao28, co28, eo28⟩ := Kd.R_slice HO_3.out; subst eo28
      go_wp2_with (first | (refine gl_ 22 37 Try.func22 #[.slice Ao28 x3_2.length co28] ?_; (with_reducible refine (goods_Rise.calls k2 _ _ x3_2 t146 _ ?side1 ?side2 A27.out).mono ?_); (case side1 => exact sc_ (Kd.R_reads' HO_3.out).2.2); (case side2 => exact (Kd.R_reads' HO_3.out).2.1); rintro e w' ⟨rfl, ⟨nd, rfl⟩⟩; refine ⟨_, rfl, ?_⟩))
      go_ret
      exact ⟨er_, hb1_ HB GE139⟩
     rw [if_pos c11] at H; have c11b0 := decide_eq_true c11; clear c11; replace H := ip_ H; obtain ⟨c12, H⟩ := H; have c12b0 := decide_eq_true c12; clear c12; replace H := ip_ H; obtain ⟨c13, H⟩ := H; have c13b0 := decide_eq_true c13; clear c13; replace H := Option.bind_eq_some_iff.mp H; obtain ⟨t142, A140, H⟩ := H
     (try dsimp only at H)
     have A14 := Aside0.mk A140; clear A140
     by_cases c15 : t142 = true
     rotate_left
     ·
      replace c15 := Bool.eq_false_iff.mpr c15; subst c15; rw [if_neg nf_] at H; obtain rfl := Option.some.inj H; have p140 : 0 ≤ (x23_2 : Int) := of_decide_eq_true as_; have q140 : x23_2 < (l0_3.length : Int) := of_decide_eq_true as_; obtain ⟨ad140, A140_1, c140_1, e140, hx140_0, hx140_1, hx140_2, hx140_3, hl140_1, hi140_1⟩ := at_T28 HR0_3.out x23_2 p140 q140
      cases e140; replace hx140_0 := hd_ HB hx140_0; replace hx140_1 := hd_ HB hx140_1; replace hx140_2 := hd_ HB hx140_2; replace hx140_3 := hd_ HB hx140_3; have HR140_1 := Aside0.mk hi140_1; have HC140_1 := Aside0.mk hl140_1; clear hi140_1 hl140_1; replace p140 := eq_true p140; replace q140 := eq_true q140
      go_wp2_with (first | ((with_reducible refine gate_dst (N := 5) rfl ?_); (try (refine gate_guard (by rfl) ?_; dsimp only)); refine box_event rf_ (N := 5) rf_ (cs := #[.string (⟨#[]⟩ : ByteArray), .slice none 0 0, .int .i64 0, .int .i64 0]) (t := 28) lr_ ?_; intro gb141 hg w23 hbox hb; replace HO_3 := Aside0.mk (Kd.R_below (ro_ HO_3) hb); have BK141 := Aside0.mk hbox; have GE141 := Aside0.mk (ge_ HB hg (hb1_ HB GE139)); replace HB := Aside0.mk (below_step (hb1_ HB GE139) hb); have NB139_141 := Aside0.mk (nl_ BK139 hg); have NB141_139 := Aside0.mk (ng_ BK139 hg); replace BK139 := Aside0.mk (bb_ BK139 hb); clear hb hbox hg; have hnb24 := NB141_139.out; have hnc24 := NB139_141.out; obtain ⟨hcz25_0, hcz25_1, hcz25_2, hcz25_3⟩ := cz4_ BK141; obtain ⟨hfz25_0, hfz25_1, hfz25_2, hfz25_3⟩ := fz4_ BK141) | (refine gl_ 21 28 Try.func21 #[.agg #[.string ((rd_T28 l0_3 x23_2).f0), .slice A140_1 ((rd_T28 l0_3 x23_2).f1).length c140_1, .int .i64 ((rd_T28 l0_3 x23_2).f2), .int .i64 ((rd_T28 l0_3 x23_2).f3)]] ?_; (with_reducible refine (rules_zone.calls k2 ((rd_T28 l0_3 x23_2).f0) _ _ ((rd_T28 l0_3 x23_2).f1) ((rd_T28 l0_3 x23_2).f2) ((rd_T28 l0_3 x23_2).f3) false _ ?side1 ?side2 A14.out).mono ?_); (case side1 => exact Kd.C_below HR140_1.out (hb2_ HB GE139 GE141)); (case side2 => exact HC140_1.out); rintro e w26 ⟨rfl, hb⟩; refine ⟨_, rfl, ?_⟩; replace HO_3 := Aside0.mk (Kd.R_below (by (with_reducible repeat (first | apply Kd.R_alloc | apply Kd.R_drewN | apply Kd.R_drew)); exact (rf1_ HO_3 BK141)) hb); replace BK139 := Aside0.mk (blk_below (g := gb139) (o := .cells #[.bool a0_0, .bool a0_1, .int .i64 a0_2, .slice (some ad140) l0_3.length c0_3] 24 (0, 0)) (bf4_ BK139 NB139_141 NB139_141 NB139_141 NB139_141) hb); replace BK141 := Aside0.mk (blk_below (g := gb141) (o := .cells #[.string ((rd_T28 l0_3 x23_2).f0), .slice A140_1 ((rd_T28 l0_3 x23_2).f1).length c140_1, .int .i64 ((rd_T28 l0_3 x23_2).f2), .int .i64 ((rd_T28 l0_3 x23_2).f3)] 28 (0, 0)) (bq0_ BK141) hb); replace HB := Aside0.mk (below_step (hb2_ HB GE139 GE141) hb); (try clear hb); (try clear hk)))
      go_ret
      exact ⟨er_, hb2_ HB GE139 GE141⟩
     subst c15; rw [if_pos rfl] at H; replace H := ip_ H; obtain ⟨c16, H⟩ := H; have LMc16 := Aside0.mk c16; clear c16; obtain ⟨y143, hy143⟩ : ∃ y_ : List ByteArray, y_ = (x3_2 ++ [(rd_T28 l0_3 x23_2).f0]) := ⟨_, rfl⟩; replace H : (rules_Tax.l0 k2 y143 l0_3 (l0_3.length : Int) (wrap64 (x23_2 + 1))) = some r := hy_ hy143 H
     have Ny143 := Aside0.mk hy143; clear hy143; have H' := Aside0.mk H; clear H; have p140 : 0 ≤ (x23_2 : Int) := of_decide_eq_true as_; have q140 : x23_2 < (l0_3.length : Int) := of_decide_eq_true as_; obtain ⟨ad140, A140_1, c140_1, e140, hx140_0, hx140_1, hx140_2, hx140_3, hl140_1, hi140_1⟩ := at_T28 HR0_3.out x23_2 p140 q140
     cases e140; replace hx140_0 := hd_ HB hx140_0; replace hx140_1 := hd_ HB hx140_1; replace hx140_2 := hd_ HB hx140_2; replace hx140_3 := hd_ HB hx140_3; have HR140_1 := Aside0.mk hi140_1; have HC140_1 := Aside0.mk hl140_1; clear hi140_1 hl140_1; replace p140 := eq_true p140; replace q140 := eq_true q140
     go_wp2_with (first | ((with_reducible refine gate_dst (N := 5) rfl ?_); (try (refine gate_guard (by rfl) ?_; dsimp only)); refine box_event rf_ (N := 5) rf_ (cs := #[.string (⟨#[]⟩ : ByteArray), .slice none 0 0, .int .i64 0, .int .i64 0]) (t := 28) lr_ ?_; intro gb141 hg w17 hbox hb; replace HO_3 := Aside0.mk (Kd.R_below (ro_ HO_3) hb); have BK141 := Aside0.mk hbox; have GE141 := Aside0.mk (ge_ HB hg (hb1_ HB GE139)); replace HB := Aside0.mk (below_step (hb1_ HB GE139) hb); have NB139_141 := Aside0.mk (nl_ BK139 hg); have NB141_139 := Aside0.mk (ng_ BK139 hg); replace BK139 := Aside0.mk (bb_ BK139 hb); clear hb hbox hg; have hnb18 := NB141_139.out; have hnc18 := NB139_141.out; obtain ⟨hcz19_0, hcz19_1, hcz19_2, hcz19_3⟩ := cz4_ BK141; obtain ⟨hfz19_0, hfz19_1, hfz19_2, hfz19_3⟩ := fz4_ BK141) | (refine gl_ 21 28 Try.func21 #[.agg #[.string ((rd_T28 l0_3 x23_2).f0), .slice A140_1 ((rd_T28 l0_3 x23_2).f1).length c140_1, .int .i64 ((rd_T28 l0_3 x23_2).f2), .int .i64 ((rd_T28 l0_3 x23_2).f3)]] ?_; (with_reducible refine (rules_zone.calls k2 ((rd_T28 l0_3 x23_2).f0) _ _ ((rd_T28 l0_3 x23_2).f1) ((rd_T28 l0_3 x23_2).f2) ((rd_T28 l0_3 x23_2).f3) true _ ?side1 ?side2 A14.out).mono ?_); (case side1 => exact Kd.C_below HR140_1.out (hb2_ HB GE139 GE141)); (case side2 => exact HC140_1.out); rintro e w20 ⟨rfl, hb⟩; refine ⟨_, rfl, ?_⟩; replace HO_3 := Aside0.mk (Kd.R_below (by (with_reducible repeat (first | apply Kd.R_alloc | apply Kd.R_drewN | apply Kd.R_drew)); exact (rf1_ HO_3 BK141)) hb); replace BK139 := Aside0.mk (blk_below (g := gb139) (o := .cells #[.bool a0_0, .bool a0_1, .int .i64 a0_2, .slice (some ad140) l0_3.length c0_3] 24 (0, 0)) (bf4_ BK139 NB139_141 NB139_141 NB139_141 NB139_141) hb); replace BK141 := Aside0.mk (blk_below (g := gb141) (o := .cells #[.string ((rd_T28 l0_3 x23_2).f0), .slice A140_1 ((rd_T28 l0_3 x23_2).f1).length c140_1, .int .i64 ((rd_T28 l0_3 x23_2).f2), .int .i64 ((rd_T28 l0_3 x23_2).f3)] 28 (0, 0)) (bq0_ BK141) hb); replace HB := Aside0.mk (below_step (hb2_ HB GE139 GE141) hb); (try clear hb); (try clear hk); obtain ⟨hcz21_0, hcz21_1, hcz21_2, hcz21_3⟩ := cz4_ BK141; obtain ⟨hfz21_0, hfz21_1, hfz21_2, hfz21_3⟩ := fz4_ BK141) | ((with_reducible refine gate_builtin (b := .append) (xs := #[.tmp 30, .tmp 33]) rfl ?_); (try (refine gate_guard (by rfl) ?_; dsimp only)); at_builtin; refine Kd.R_append Kd.string (w0 := w) w.heap.size rfl (.tmp 30) (.tmp 33) 57 9 (.string ⟨#[]⟩) 16 rfl Try.underlying57 info9 rfl (by decide) (by omega) u3 x3_2 ((rd_T28 l0_3 x23_2).f0) [.string ((rd_T28 l0_3 x23_2).f0)] (fun _ => True) (fun _ => False) rfl rfl ?aP (fun _ hk => hk.elim) ?aF ?aO ?aB ?aS ?aL ?_; (case aP => exact rfl); (case aB => exact (hb2_ HB GE139 GE141)); (case aF => exact (fun _ _ => trivial)); (case aO => exact (ro_ HO_3)); (case aS => exact (below_size (hb2_ HB GE139 GE141))); (case aL => have := LMc16.out; omega); intro v144 w22 ho hb hg hat; rw [← Ny143.out] at ho; have n0_ := Aside0.mk (blk_grown (g := gb139) (o := .cells #[.bool a0_0, .bool a0_1, .int .i64 a0_2, .slice (some ad140) l0_3.length c0_3] 24 (0, 0)) (bk_ BK139) hg (Kd.R_ne HO_3.out BK139.out (by decide))); have n1_ := Aside0.mk (blk_grown (g := gb141) (o := .cells #[.string ((rd_T28 l0_3 x23_2).f0), .slice A140_1 ((rd_T28 l0_3 x23_2).f1).length c140_1, .int .i64 ((rd_T28 l0_3 x23_2).f2), .int .i64 ((rd_T28 l0_3 x23_2).f3)] 28 (0, 0)) (bk_ BK141) hg (Kd.R_ne HO_3.out BK141.out (by decide))); have n2_ := Aside0.mk hb; have n3_ := Aside0.mk ho; clear BK139; clear BK141; clear HB; clear HO_3; have BK139 := n0_; have BK141 := n1_; have HB := n2_; have HO145 := n3_; clear n0_ n1_ n2_ n3_; clear ho hb hg hat))
     go_roundg k2
     case measure => have := HJ1.out; have := HK2.out; omega
     case rel => exact ⟨(y143), (wrap64 (x23_2 + 1)), rf_, H', ⟨ho2_ HJ1 HK2⟩, ⟨ro_ HO145⟩, ⟨bk_ BK139⟩, ⟨hb2_ HB GE139 GE141⟩⟩

end Go.Proofs.Ytgfhjamaabaleaa.Rw
