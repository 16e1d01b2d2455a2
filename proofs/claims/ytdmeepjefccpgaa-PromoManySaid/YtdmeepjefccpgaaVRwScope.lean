/- Functions of the program as Lean functions, each with its contract: out of what the kit's printer wrote for this seat. -/
import Derived.Test.YtdmeepjefccpgaaVRwA
import Derived.Test.YtdmeepjefccpgaaVRwAb
import Derived.Test.YtdmeepjefccpgaaVHFun
import Derived.Test.YtdmeepjefccpgaaVRwGoods
namespace Go.Proofs.Ytdmeepjefccpgaa.Rw
open Go.RowKit Go.Proofs.YtdmeepjefccpgaaW.PrintWords Go.Proofs.YtdmeepjefccpgaaW.PrintLast Go.Proofs.YtdmeepjefccpgaaW.PrintMore
attribute [local go_sem] max2_int min2_int max_two min_two max_three min_three max_four min_four   -- for this text's walks alone
set_option linter.unusedVariables false
set_option linter.unusedSimpArgs false
attribute [local go_sem high] leqS gtrS

/-! ### scope_names_right_1: function 145 -/
def scope_names_right_1.f (k : Nat) (a0 : ByteArray) : Option (Bool) := (goods_Name.f k a0).bind fun t133 => (some (!t133))
set_option maxHeartbeats 8000000 in
set_option maxRecDepth 100000 in
theorem scope_names_right_1.calls (k : Nat) (a0 : ByteArray) (r : Bool) (w : World) (h : scope_names_right_1.f k a0 = some r) :
 Calls Try.prog 145 #[.string a0] w fun e w' => e = .returned (.bool r) ∧ Drawn0 w w' := by
 have H : ((goods_Name.f k a0).bind fun t133 => (some (!t133))) = some r := h
 clear h
 replace H := Option.bind_eq_some_iff.mp H
 obtain ⟨t133, A20, H⟩ := H
 (try dsimp only at H)
 have A2 := Aside0.mk A20
 clear A20
 obtain rfl := Option.some.inj H
 go_enter Try.func145, Try.ntmps145
 go_wp2_with (first | (refine gl_ 90 4 Try.func90 #[.string a0] ?_; (with_reducible refine (goods_Name.calls k a0 t133 _ A2.out).mono ?_); rintro e w' ⟨rfl, ⟨nd, rfl⟩⟩; refine ⟨_, rfl, ?_⟩))
 go_ret
 exact ⟨rf_, dr_⟩

/-! ### scope_names_string_147: function 147 -/
def scope_names_string_147.l0 : Nat → List ByteArray → Int → Int → Option (Int)
 | 0, _, _, _ => none
 | k + 1, x0, x7, x8 => if x8 < x7 then (if 0 ≤ x8 then (if x8 < (x0.length : Int) then ((scope_names_right_1.f k (rdOf ByteArray.empty x0 x8)).bind fun t135 => (if t135 = true then (some x8) else (scope_names_string_147.l0 k x0 x7 (wrap64 (x8 + 1))))) else (none)) else (none)) else (some (-1))
def scope_names_string_147.f (k : Nat) (l0 : List ByteArray) (a1 : Int) : Option (Int) := scope_names_string_147.l0 k l0 (l0.length : Int) 0
set_option maxHeartbeats 8000000 in
set_option maxRecDepth 100000 in
theorem scope_names_string_147.calls (k : Nat) (A0 : Option Addr) (c0 : Nat) (l0 : List ByteArray) (a1 : Int) (r : Int) (w : World) (hr0 : Kd.C Kd.string w A0 l0.length l0) (hc0 : l0.length ≤ c0) (h : scope_names_string_147.f k l0 a1 = some r) :
 Calls Try.prog 147 #[.slice A0 l0.length c0, .func (.func 145) #[] #[]] w fun e w' => e = .returned (.int .i64 r) ∧ Drawn0 w w' := by
 have HR0 := Aside0.mk hr0
 have HC0 := Aside0.mk hc0
 clear hr0 hc0
 have H : (scope_names_string_147.l0 k l0 (l0.length : Int) 0) = some r := h
 clear h
 have H' := Aside0.mk H
 clear H
 go_enter Try.func147, Try.ntmps147
 go_wp2
 go_loopg [8] k (fun kq v8 w' => ∃ (x8_1 : Int), v8 = .int .i64 x8_1 ∧ Aside0 (scope_names_string_147.l0 kq l0 (l0.length : Int) x8_1 = some r) ∧ Aside0 (kq ≤ k) ∧ Drawn0 w w')
 case atStart => exact ⟨(0), rf_, H', ⟨Nat.le_refl _⟩, dr_⟩
 case round =>
  clear H'; (try clear c1); (try clear p2); obtain ⟨x8_1, rfl, HA, HK1, ⟨m1, rfl⟩⟩ := hrel
  cases gk with
  | zero => exact absurd HA.out (by simp [scope_names_string_147.l0])
  | succ k1 =>
   have H := HA.out; clear HA
   simp only [scope_names_string_147.l0] at H
   by_cases c3 : x8_1 < (l0.length : Int)
   rotate_left
   ·
    rw [if_neg c3] at H; have c3b0 := decide_eq_false c3; clear c3; obtain rfl := Option.some.inj H
    go_wp2
    go_ret
    exact ⟨rf_, dr_⟩
   rw [if_pos c3] at H; have c3b0 := decide_eq_true c3; clear c3; replace H := ip_ H; obtain ⟨c4, H⟩ := H; have c4b0 := decide_eq_true c4; clear c4; replace H := ip_ H; obtain ⟨c5, H⟩ := H; have c5b0 := decide_eq_true c5; clear c5; replace H := Option.bind_eq_some_iff.mp H; obtain ⟨t135, A60, H⟩ := H
   (try dsimp only at H)
   have A6 := Aside0.mk A60; clear A60
   by_cases c7 : t135 = true
   ·
    subst c7; rw [if_pos rfl] at H; obtain rfl := Option.some.inj H; have p134 : 0 ≤ (x8_1 : Int) := of_decide_eq_true as_; have q134 : x8_1 < (l0.length : Int) := of_decide_eq_true as_; obtain ⟨ad134, e134, hx134_0⟩ := Kd.at_string HR0.out x8_1 p134 q134; cases e134; replace p134 := eq_true p134; replace q134 := eq_true q134
    go_wp2_with (first | ((with_reducible refine HF.gate_calleev (t := 11) rfl ?_); refine HF.goesLv_ (some 16) rfl rfl 11 Try.func145 (by kernel_rfl) rfl #[.string (rdOf ByteArray.empty l0 x8_1)] rfl rfl am_ ?_; (with_reducible refine (scope_names_right_1.calls k1 (rdOf ByteArray.empty l0 x8_1) true _ A6.out).mono ?_); rintro e w' ⟨rfl, ⟨nd, rfl⟩⟩; refine ⟨_, rfl, ?_⟩))
    go_ret
    exact ⟨rf_, dr_⟩
   replace c7 := Bool.eq_false_iff.mpr c7; subst c7; rw [if_neg nf_] at H; have H' := Aside0.mk H; clear H; have p134 : 0 ≤ (x8_1 : Int) := of_decide_eq_true as_; have q134 : x8_1 < (l0.length : Int) := of_decide_eq_true as_; obtain ⟨ad134, e134, hx134_0⟩ := Kd.at_string HR0.out x8_1 p134 q134; cases e134
   replace p134 := eq_true p134; replace q134 := eq_true q134
   go_wp2_with (first | ((with_reducible refine HF.gate_calleev (t := 11) rfl ?_); refine HF.goesLv_ (some 16) rfl rfl 11 Try.func145 (by kernel_rfl) rfl #[.string (rdOf ByteArray.empty l0 x8_1)] rfl rfl am_ ?_; (with_reducible refine (scope_names_right_1.calls k1 (rdOf ByteArray.empty l0 x8_1) false _ A6.out).mono ?_); rintro e w' ⟨rfl, ⟨nd, rfl⟩⟩; refine ⟨_, rfl, ?_⟩))
   go_roundg k1
   case measure => have := HK1.out; omega
   case rel => exact ⟨(wrap64 (x8_1 + 1)), rf_, H', ⟨ho_ HK1⟩, dr_⟩

/-! ### scope_names_string_144: function 144 -/
def scope_names_string_144.f (k : Nat) (l0 : List ByteArray) (a1 : Int) : Option (Bool) := (scope_names_string_147.f k l0 a1).bind fun t136 => (some (decide (t136 ≥ 0)))
set_option maxHeartbeats 8000000 in
set_option maxRecDepth 100000 in
theorem scope_names_string_144.calls (k : Nat) (A0 : Option Addr) (c0 : Nat) (l0 : List ByteArray) (a1 : Int) (r : Bool) (w : World) (hr0 : Kd.C Kd.string w A0 l0.length l0) (hc0 : l0.length ≤ c0) (h : scope_names_string_144.f k l0 a1 = some r) :
 Calls Try.prog 144 #[.slice A0 l0.length c0, .func (.func 145) #[] #[]] w fun e w' => e = .returned (.bool r) ∧ Drawn0 w w' := by
 have HR0 := Aside0.mk hr0
 have HC0 := Aside0.mk hc0
 clear hr0 hc0
 have H : ((scope_names_string_147.f k l0 a1).bind fun t136 => (some (decide (t136 ≥ 0)))) = some r := h
 clear h
 replace H := Option.bind_eq_some_iff.mp H
 obtain ⟨t136, A30, H⟩ := H
 (try dsimp only at H)
 have A3 := Aside0.mk A30
 clear A30
 obtain rfl := Option.some.inj H
 go_enter Try.func144, Try.ntmps144
 go_wp2_with (first | (refine gl_ 147 7 Try.func147 #[.slice A0 l0.length c0, .func (.func 145) #[] #[]] ?_; (with_reducible refine (scope_names_string_147.calls k _ _ l0 a1 t136 _ ?side1 ?side2 A3.out).mono ?_); (case side1 => exact sc_ HR0.out); (case side2 => exact HC0.out); rintro e w' ⟨rfl, ⟨nd, rfl⟩⟩; refine ⟨_, rfl, ?_⟩))
 go_ret
 exact ⟨rf_, dr_⟩

/-! ### scope_names_right: function 137 -/
def scope_names_right.f (k : Nat) (l0 : List ByteArray) : Option (Bool) := if (l0.length : Int) ≤ 20 then ((goods_Rise.f k l0).bind fun t137 => (if t137 = true then ((scope_names_string_144.f k l0 77700145).bind fun t138 => (some (!t138))) else (some false))) else (some false)
set_option maxHeartbeats 8000000 in
set_option maxRecDepth 100000 in
theorem scope_names_right.calls (k : Nat) (A0 : Option Addr) (c0 : Nat) (l0 : List ByteArray) (r : Bool) (w : World) (hr0 : Kd.C Kd.string w A0 l0.length l0) (hc0 : l0.length ≤ c0) (h : scope_names_right.f k l0 = some r) :
 Calls Try.prog 137 #[.slice A0 l0.length c0] w fun e w' => e = .returned (.bool r) ∧ Drawn0 w w' := by
 have HR0 := Aside0.mk hr0
 have HC0 := Aside0.mk hc0
 clear hr0 hc0
 have H : (if (l0.length : Int) ≤ 20 then ((goods_Rise.f k l0).bind fun t137 => (if t137 = true then ((scope_names_string_144.f k l0 77700145).bind fun t138 => (some (!t138))) else (some false))) else (some false)) = some r := h
 clear h
 by_cases c2 : (l0.length : Int) ≤ 20
 rotate_left
 ·
  rw [if_neg c2] at H; have c2b0 := decide_eq_false c2
  have c2b1 : decide (l0.length ≤ 20) = false := decide_eq_false (by omega)
  clear c2; obtain rfl := Option.some.inj H
  go_enter Try.func137, Try.ntmps137
  go_wp2
  go_ret
  exact ⟨rf_, dr_⟩
 rw [if_pos c2] at H
 have c2b0 := decide_eq_true c2
 have c2b1 : decide (l0.length ≤ 20) = true := decide_eq_true (by omega)
 clear c2
 replace H := Option.bind_eq_some_iff.mp H
 obtain ⟨t137, A30, H⟩ := H
 (try dsimp only at H)
 have A3 := Aside0.mk A30
 clear A30
 by_cases c4 : t137 = true
 rotate_left
 ·
  replace c4 := Bool.eq_false_iff.mpr c4; subst c4; rw [if_neg nf_] at H; obtain rfl := Option.some.inj H
  go_enter Try.func137, Try.ntmps137
  go_wp2_with (first | (go_at_call 55; (with_reducible refine (goods_Rise.calls k _ _ l0 false _ ?side1 ?side2 A3.out).mono ?_); (case side1 => exact sc_ HR0.out); (case side2 => exact HC0.out); rintro e w' ⟨rfl, ⟨nd, rfl⟩⟩))
  go_ret
  exact ⟨rf_, dr_⟩
 subst c4
 rw [if_pos rfl] at H
 replace H := Option.bind_eq_some_iff.mp H
 obtain ⟨t138, A50, H⟩ := H
 (try dsimp only at H)
 have A5 := Aside0.mk A50
 clear A50
 obtain rfl := Option.some.inj H
 go_enter Try.func137, Try.ntmps137
 go_wp2_with (first | (go_at_call 55; (with_reducible refine (goods_Rise.calls k _ _ l0 true _ ?side1 ?side2 A3.out).mono ?_); (case side1 => exact sc_ HR0.out); (case side2 => exact HC0.out); rintro e w' ⟨rfl, ⟨nd, rfl⟩⟩) | (go_at_call 144; (with_reducible refine (scope_names_string_144.calls k _ _ l0 77700145 t138 _ ?side1 ?side2 A5.out).mono ?_); (case side1 => exact sc_ HR0.out); (case side2 => exact HC0.out); rintro e w' ⟨rfl, ⟨nd, rfl⟩⟩))
 go_ret
 exact ⟨rf_, dr_⟩

/-! ### scope_Right: function 118 -/
def scope_Right.f (k : Nat) (l0_0 : List ByteArray) (l0_1 : List ByteArray) : Option (Bool) := (scope_names_right.f k l0_0).bind fun t140 => (if t140 = true then ((scope_names_right.f k l0_1).bind fun t141 => (some t141)) else (some false))
set_option maxHeartbeats 8000000 in
set_option maxRecDepth 100000 in
theorem scope_Right.calls (k : Nat) (A0_0 : Option Addr) (c0_0 : Nat) (l0_0 : List ByteArray) (A0_1 : Option Addr) (c0_1 : Nat) (l0_1 : List ByteArray) (r : Bool) (w : World) (hr0_0 : Kd.C Kd.string w A0_0 l0_0.length l0_0) (hc0_0 : l0_0.length ≤ c0_0) (hr0_1 : Kd.C Kd.string w A0_1 l0_1.length l0_1) (hc0_1 : l0_1.length ≤ c0_1) (h : scope_Right.f k l0_0 l0_1 = some r) :
 Calls Try.prog 118 #[.agg #[.slice A0_0 l0_0.length c0_0, .slice A0_1 l0_1.length c0_1]] w fun e w' => e = .returned (.bool r) ∧ Below w.heap.size w w' := by
 have hu56 := Try.underlying56
 have HR0_0 := Aside0.mk hr0_0
 have HC0_0 := Aside0.mk hc0_0
 clear hr0_0 hc0_0
 have HR0_1 := Aside0.mk hr0_1
 have HC0_1 := Aside0.mk hc0_1
 clear hr0_1 hc0_1
 have HB := Aside0.mk (Below.refl w.heap.size w)
 have H : ((scope_names_right.f k l0_0).bind fun t140 => (if t140 = true then ((scope_names_right.f k l0_1).bind fun t141 => (some t141)) else (some false))) = some r := h
 clear h
 replace H := Option.bind_eq_some_iff.mp H
 obtain ⟨t140, A20, H⟩ := H
 (try dsimp only at H)
 have A2 := Aside0.mk A20
 clear A20
 by_cases c3 : t140 = true
 rotate_left
 ·
  replace c3 := Bool.eq_false_iff.mpr c3; subst c3; rw [if_neg nf_] at H; obtain rfl := Option.some.inj H
  go_enter Try.func118, Try.ntmps118
  go_wp2_with (first | ((with_reducible refine gate_dst (N := 1) rfl ?_); refine box_event rf_ (N := 1) rf_ (cs := #[.slice A0_0 l0_0.length c0_0, .slice A0_1 l0_1.length c0_1]) (t := 56) lr_ ?_; intro gb139 hg w7 hbox hb; have BK139 := Aside0.mk hbox; have GE139 := Aside0.mk (ge_ HB hg (hb0_ HB)); replace HB := Aside0.mk (below_step (hb0_ HB) hb); clear hb hbox hg; obtain ⟨hcz8_0, hcz8_1⟩ := cz2_ BK139; obtain ⟨hfz8_0, hfz8_1⟩ := fz2_ BK139) | (refine gl_ 137 5 Try.func137 #[.slice A0_0 l0_0.length c0_0] ?_; (with_reducible refine (scope_names_right.calls k _ _ l0_0 false _ ?side1 ?side2 A2.out).mono ?_); (case side1 => exact sc_ (Kd.C_below HR0_0.out HB.out)); (case side2 => exact HC0_0.out); rintro e w' ⟨rfl, ⟨nd, rfl⟩⟩; refine ⟨_, rfl, ?_⟩))
  go_ret
  exact ⟨er_, hb1_ HB GE139⟩
 subst c3
 rw [if_pos rfl] at H
 replace H := Option.bind_eq_some_iff.mp H
 obtain ⟨t141, A40, H⟩ := H
 (try dsimp only at H)
 have A4 := Aside0.mk A40
 clear A40
 obtain rfl := Option.some.inj H
 go_enter Try.func118, Try.ntmps118
 go_wp2_with (first | ((with_reducible refine gate_dst (N := 1) rfl ?_); refine box_event rf_ (N := 1) rf_ (cs := #[.slice A0_0 l0_0.length c0_0, .slice A0_1 l0_1.length c0_1]) (t := 56) lr_ ?_; intro gb139 hg w5 hbox hb; have BK139 := Aside0.mk hbox; have GE139 := Aside0.mk (ge_ HB hg (hb0_ HB)); replace HB := Aside0.mk (below_step (hb0_ HB) hb); clear hb hbox hg; obtain ⟨hcz6_0, hcz6_1⟩ := cz2_ BK139; obtain ⟨hfz6_0, hfz6_1⟩ := fz2_ BK139) | (refine gl_ 137 5 Try.func137 #[.slice A0_0 l0_0.length c0_0] ?_; (with_reducible refine (scope_names_right.calls k _ _ l0_0 true _ ?side1 ?side2 A2.out).mono ?_); (case side1 => exact sc_ (Kd.C_below HR0_0.out HB.out)); (case side2 => exact HC0_0.out); rintro e w' ⟨rfl, ⟨nd, rfl⟩⟩; refine ⟨_, rfl, ?_⟩) | (go_at_call 137; (with_reducible refine (scope_names_right.calls k _ _ l0_1 t141 _ ?side1 ?side2 A4.out).mono ?_); (case side1 => exact (Kd.C_below HR0_1.out (hb1_ HB GE139))); (case side2 => exact HC0_1.out); rintro e w' ⟨rfl, ⟨nd, rfl⟩⟩))
 go_ret
 exact ⟨er_, hb1_ HB GE139⟩

end Go.Proofs.Ytdmeepjefccpgaa.Rw
