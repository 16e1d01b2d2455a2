/- RwPlS. -/
import Derived.Test.YtdmeepjefccpgaaVRwA
import Derived.Test.YtdmeepjefccpgaaVHFun
import Derived.Test.YtdmeepjefccpgaaVHName
import Derived.Test.YtdmeepjefccpgaaVRwMon
section
/- Functions of the program as Lean functions, each with its contract: out of what the kit's printer wrote for this seat. -/
namespace Go.Proofs.Ytdmeepjefccpgaa.Rw
open Go.RowKit Go.Proofs.YtdmeepjefccpgaaW.PrintWords Go.Proofs.YtdmeepjefccpgaaW.PrintLast Go.Proofs.YtdmeepjefccpgaaW.PrintMore
attribute [local go_sem] max2_int min2_int max_two min_two max_three min_three max_four min_four   -- for this text's walks alone
set_option linter.unusedVariables false
set_option linter.unusedSimpArgs false
attribute [local go_sem high] leqS gtrS

/-! ### haberdashplay_some: function 75 -/
mutual
def haberdashplay_some.l0 : Nat → List ByteArray → Int → Int → Int → List ByteArray → Int → Option (List ByteArray)
 | 0, _, _, _, _, _, _ => none
 | k + 1, x0, x1, x2, x3, x9, x10 => if x10 < x2 then (haberdashplay_some.l1 k x0 x1 x2 x3 x9 x10 0) else (some x9)
def haberdashplay_some.l1 : Nat → List ByteArray → Int → Int → Int → List ByteArray → Int → Int → Option (List ByteArray)
 | 0, _, _, _, _, _, _, _ => none
 | k + 1, x0, x1, x2, x3, x9, x10, x11 => if x11 < (x0.length : Int) then (if x11 < 4 then (haberdashplay_some.j2 k x0 x1 x2 x3 x9 x10 x11 (decide ((x9.length : Int) < x1))) else (haberdashplay_some.j2 k x0 x1 x2 x3 x9 x10 x11 false)) else (haberdashplay_some.j2 k x0 x1 x2 x3 x9 x10 x11 false)
def haberdashplay_some.j2 : Nat → List ByteArray → Int → Int → Int → List ByteArray → Int → Int → Bool → Option (List ByteArray)
 | 0, _, _, _, _, _, _, _, _ => none
 | k + 1, x0, x1, x2, x3, x9, x10, x11, x30 => if x30 = true then (if 0 ≤ x11 then (if x11 < (x0.length : Int) then ((haberdashplay_pick.f k (rdOf ByteArray.empty x0 x11)).bind fun t316 => ((haberdashplay_Mod.f t316 x2).bind fun t317 => (if t317 = x10 then ((haberdashplay_Zone.f x3 x10).bind fun t318 => (if x9.length < 8796093022208 then (haberdashplay_some.l0 k x0 x1 x2 x3 (x9 ++ [t318]) (wrap64 (x10 + 1))) else (none))) else (haberdashplay_some.l1 k x0 x1 x2 x3 x9 x10 (wrap64 (x11 + 1)))))) else (none)) else (none)) else (haberdashplay_some.l0 k x0 x1 x2 x3 x9 (wrap64 (x10 + 1)))
end
def haberdashplay_some.f (k : Nat) (l0 : List ByteArray) (a1 : Int) (a2 : Int) (a3 : Int) : Option (List ByteArray) := haberdashplay_some.l0 k l0 a1 a2 a3 ([] : List ByteArray) 0
set_option maxHeartbeats 8000000 in
set_option maxRecDepth 100000 in
theorem haberdashplay_some.calls (k : Nat) (A0 : Option Addr) (c0 : Nat) (l0 : List ByteArray) (a1 : Int) (a2 : Int) (a3 : Int) (r : List ByteArray) (w : World) (hr0 : Kd.C Kd.string w A0 l0.length l0) (hc0 : l0.length ≤ c0) (h : haberdashplay_some.f k l0 a1 a2 a3 = some r) :
 Calls Try.prog 75 #[.slice A0 l0.length c0, .int .i64 a1, .int .i64 a2, (.func (.func (HF.wy a3)) #[] #[])] w fun e w' => ∃ v0_ : Value, e = .returned (v0_) ∧ Kd.R Kd.string 9 w' w.heap.size (fun _ => True) v0_ r ∧ Below w.heap.size w w' := by
 have HR0 := Aside0.mk hr0
 have HC0 := Aside0.mk hc0
 clear hr0 hc0
 have HB := Aside0.mk (Below.refl w.heap.size w)
 have H : (haberdashplay_some.l0 k l0 a1 a2 a3 ([] : List ByteArray) 0) = some r := h
 clear h
 have H' := Aside0.mk H
 clear H
 go_enter Try.func75, Try.ntmps75
 go_wp2
 go_loopg [9, 10] k (fun kq v9 v10 w' => ∃ (x9_1 : List ByteArray) (x10_1 : Int), v10 = .int .i64 x10_1 ∧ Aside0 (haberdashplay_some.l0 kq l0 a1 a2 a3 x9_1 x10_1 = some r) ∧ Aside0 (kq ≤ k) ∧ Aside0 (Kd.R Kd.string 9 w' w.heap.size (fun _ => True) v9 x9_1) ∧ Aside0 (Below w.heap.size w w'))
 case atStart => exact ⟨(([] : List ByteArray)), (0), rf_, H', ⟨Nat.le_refl _⟩, ⟨ni_⟩, ⟨hb0_ HB⟩⟩
 case round =>
  clear H'; (try clear p2); obtain ⟨x9_1, x10_1, rfl, HA, HK1, HO_9, HB⟩ := hrel
  cases gk with
  | zero => exact absurd HA.out (by simp [haberdashplay_some.l0])
  | succ k1 =>
   have H := HA.out; clear HA
   simp only [haberdashplay_some.l0] at H
   by_cases c5 : x10_1 < a2
   rotate_left
   ·
    rw [if_neg c5] at H; have c5b0 := decide_eq_false c5; clear c5; obtain rfl := Option.some.inj H
    go_wp2
    go_ret
    exact ⟨_, er_, ro_ HO_9, hb0_ HB⟩
   rw [if_pos c5] at H; have c5b0 := decide_eq_true c5; clear c5; have H' := Aside0.mk H; clear H
   go_wp2
   go_loopg [9, 11] k1 (fun kq v9 v11 w' => ∃ (x9_2 : List ByteArray) (x11_2 : Int), v11 = .int .i64 x11_2 ∧ Aside0 (haberdashplay_some.l1 kq l0 a1 a2 a3 x9_2 x10_1 x11_2 = some r) ∧ Aside0 (kq ≤ k1) ∧ Aside0 (Kd.R Kd.string 9 w' w.heap.size (fun _ => True) v9 x9_2) ∧ Aside0 (Below w.heap.size w w'))
   case atStart => exact ⟨(x9_1), (0), rf_, H', ⟨Nat.le_refl _⟩, ⟨ro_ HO_9⟩, ⟨hb0_ HB⟩⟩
   case round =>
    clear H'; (try clear p2); (try clear c5); (try clear c5b0); (try clear p2); obtain ⟨x9_2, x11_2, rfl, HA, HK2, HO_9, HB⟩ := hrel
    cases gk with
    | zero => exact absurd HA.out (by simp [haberdashplay_some.l1])
    | succ k2 =>
     have H := HA.out; clear HA
     simp only [haberdashplay_some.l1] at H
     have HC6 := Aside0.mk H; clear H
     go_upto_region 6 with (fail)
     go_cut [30] (fun v30 wc => ∃ (kq : Nat) (x30_5 : Bool), v30 = .bool x30_5 ∧ Aside0 (haberdashplay_some.j2 kq l0 a1 a2 a3 x9_2 x10_1 x11_2 x30_5 = some r) ∧ Aside0 (kq ≤ k2) ∧ Aside0 (Kd.R Kd.string 9 wc w.heap.size (fun _ => True) u9 x9_2) ∧ Aside0 (Below w.heap.size w wc))
     case first =>
      have H := HC6.out; clear HC6
      by_cases c7 : x11_2 < (l0.length : Int)
      rotate_left
      ·
       rw [if_neg c7] at H; have c7b0 := decide_eq_false c7; clear c7
       (first | rw [c7b0] | (simp only [i64_w, i32_w]; rw [c7b0]) | skip)
       have H' := Aside0.mk H; clear H
       go_wp2
       go_meet
       case rel => exact ⟨_, (false), rf_, H', ⟨by have := HK1.out; have := HK2.out; first | omega | exact Nat.le_refl _⟩, ⟨ro_ HO_9⟩, ⟨hb0_ HB⟩⟩
      rw [if_pos c7] at H; have c7b0 := decide_eq_true c7; clear c7
      (first | rw [c7b0] | (simp only [i64_w, i32_w]; rw [c7b0]) | skip)
      by_cases c8 : x11_2 < 4
      rotate_left
      ·
       rw [if_neg c8] at H; have c8b0 := decide_eq_false c8; clear c8; have H' := Aside0.mk H; clear H
       go_wp2
       go_meet
       case rel => exact ⟨_, (false), rf_, H', ⟨by have := HK1.out; have := HK2.out; first | omega | exact Nat.le_refl _⟩, ⟨ro_ HO_9⟩, ⟨hb0_ HB⟩⟩
      rw [if_pos c8] at H; have c8b0 := decide_eq_true c8; clear c8; have H' := Aside0.mk H; clear H; obtain ⟨Ao9, co9, eo9⟩ := Kd.R_slice HO_9.out; subst eo9
      go_wp2
      go_meet
      case rel => exact ⟨_, (decide ((x9_2.length : Int) < a1)), rf_, H', ⟨by have := HK1.out; have := HK2.out; first | omega | exact Nat.le_refl _⟩, ⟨ro_ HO_9⟩, ⟨hb0_ HB⟩⟩
     case rest =>
      clear HC6; (try clear p2); (try clear c5); (try clear c5b0); (try clear c7); (try clear c7b0); (try clear c8); (try clear c8b0); (try clear p2); obtain ⟨kq, x30_5, rfl, HA, HJ5, HO_9, HB⟩ := hcut
      cases kq with
      | zero => exact absurd HA.out (by simp [haberdashplay_some.j2])
      | succ kj5 =>
       have H := HA.out; clear HA
       simp only [haberdashplay_some.j2] at H
       by_cases c10 : x30_5 = true
       rotate_left
       ·
        replace c10 := Bool.eq_false_iff.mpr c10; subst c10; rw [if_neg nf_] at H; have H' := Aside0.mk H; clear H
        go_wp2
        go_roundg kj5
        case measure => have := HK1.out; have := HK2.out; have := HJ5.out; omega
        case rel => exact ⟨(x9_2), (wrap64 (x10_1 + 1)), rf_, H', ⟨ho3_ HK1 HK2 HJ5⟩, ⟨ro_ HO_9⟩, ⟨hb0_ HB⟩⟩
       subst c10; rw [if_pos rfl] at H; replace H := ip_ H; obtain ⟨c11, H⟩ := H; have c11b0 := decide_eq_true c11; clear c11; replace H := ip_ H; obtain ⟨c12, H⟩ := H; have c12b0 := decide_eq_true c12; clear c12; replace H := Option.bind_eq_some_iff.mp H; obtain ⟨t316, A130, H⟩ := H
       (try dsimp only at H)
       have A13 := Aside0.mk A130; clear A130; replace H := Option.bind_eq_some_iff.mp H; obtain ⟨t317, A140, H⟩ := H
       (try dsimp only at H)
       have A14 := Aside0.mk A140; clear A140
       by_cases c15 : t317 = x10_1
       rotate_left
       ·
        rw [if_neg c15] at H; have c15b0 : (t317 == x10_1) = false := beq_eq_false_iff_ne.mpr c15; have c15b1 : (t317 != x10_1) = true := bne_iff_ne.mpr c15; have H' := Aside0.mk H; clear H; have p315 : 0 ≤ (x11_2 : Int) := of_decide_eq_true as_; have q315 : x11_2 < (l0.length : Int) := of_decide_eq_true as_
        obtain ⟨ad315, e315, hx315_0⟩ := Kd.at_string HR0.out x11_2 p315 q315; cases e315; replace hx315_0 := hd_ HB hx315_0; replace p315 := eq_true p315; replace q315 := eq_true q315
        go_wp2_with (first | (refine gl_ 62 37 Try.func62 #[.string (rdOf ByteArray.empty l0 x11_2)] ?_; (with_reducible refine (haberdashplay_pick.calls kj5 (rdOf ByteArray.empty l0 x11_2) t316 _ A13.out).mono ?_); rintro e w' ⟨rfl, ⟨nd, rfl⟩⟩; refine ⟨_, rfl, ?_⟩) | (refine gl_ 26 39 Try.func26 #[.int .i64 t316, .int .i64 a2] ?_; (with_reducible refine (haberdashplay_Mod.calls t316 a2 t317 _ A14.out).mono ?_); rintro e w' ⟨rfl, ⟨nd, rfl⟩⟩; refine ⟨_, rfl, ?_⟩))
        go_roundg kj5
        case measure => have := HK1.out; have := HK2.out; have := HJ5.out; omega
        case rel => exact ⟨(x9_2), (wrap64 (x11_2 + 1)), rf_, H', ⟨ho3_ HK1 HK2 HJ5⟩, ⟨ro_ HO_9⟩, ⟨hb0_ HB⟩⟩
       rw [if_pos c15] at H; have c15b0 : (t317 == x10_1) = true := beq_iff_eq.mpr c15; have c15b1 : (t317 != x10_1) = false := bne_eq_false_iff_eq.mpr c15; clear c15; replace H := Option.bind_eq_some_iff.mp H; obtain ⟨t318, A160, H⟩ := H
       (try dsimp only at H)
       have A16 := Aside0.mk A160; clear A160; replace H := ip_ H; obtain ⟨c17, H⟩ := H; have LMc17 := Aside0.mk c17; clear c17; obtain ⟨y319, hy319⟩ : ∃ y_ : List ByteArray, y_ = (x9_2 ++ [t318]) := ⟨_, rfl⟩; replace H : (haberdashplay_some.l0 kj5 l0 a1 a2 a3 y319 (wrap64 (x10_1 + 1))) = some r := hy_ hy319 H
       have Ny319 := Aside0.mk hy319; clear hy319; have H' := Aside0.mk H; clear H; have p315 : 0 ≤ (x11_2 : Int) := of_decide_eq_true as_; have q315 : x11_2 < (l0.length : Int) := of_decide_eq_true as_; obtain ⟨ad315, e315, hx315_0⟩ := Kd.at_string HR0.out x11_2 p315 q315; cases e315; replace hx315_0 := hd_ HB hx315_0
       replace p315 := eq_true p315; replace q315 := eq_true q315
       go_wp2_with (first | (refine gl_ 62 37 Try.func62 #[.string (rdOf ByteArray.empty l0 x11_2)] ?_; (with_reducible refine (haberdashplay_pick.calls kj5 (rdOf ByteArray.empty l0 x11_2) t316 _ A13.out).mono ?_); rintro e w' ⟨rfl, ⟨nd, rfl⟩⟩; refine ⟨_, rfl, ?_⟩) | (refine gl_ 26 39 Try.func26 #[.int .i64 t316, .int .i64 a2] ?_; (with_reducible refine (haberdashplay_Mod.calls t316 a2 t317 _ A14.out).mono ?_); rintro e w' ⟨rfl, ⟨nd, rfl⟩⟩; refine ⟨_, rfl, ?_⟩) | ((with_reducible refine HF.gate_calleev (t := 43) rfl ?_); refine HF.goesW_ (some 45) rfl rfl (f := HF.wy a3) 43 #[.int .i64 x10_1] rfl rfl am_ (haberdashplay_Zone.enter A16.out) ?_; (with_reducible refine (haberdashplay_Zone.calls a3 x10_1 t318 _ A16.out).mono ?_); rintro e w18 ⟨rfl, hb⟩; refine ⟨_, rfl, ?_⟩; replace HO_9 := Aside0.mk (Kd.R_below (ro_ HO_9) hb); replace HB := Aside0.mk (below_step (hb0_ HB) hb); (try clear hb)) | ((with_reducible refine gate_builtin (b := .append) (xs := #[.tmp 42, .tmp 46]) rfl ?_); (try (refine gate_guard (by rfl) ?_; dsimp only)); at_builtin; refine Kd.R_append Kd.string (w0 := w) w.heap.size rfl (.tmp 42) (.tmp 46) 54 9 (.string ⟨#[]⟩) 16 rfl Try.underlying54 info9 rfl (by decide) (by omega) u9 x9_2 t318 [.string t318] (fun _ => True) (fun _ => False) rfl rfl ?aP (fun _ hk => hk.elim) ?aF ?aO ?aB ?aS ?aL ?_; (case aP => exact rfl); (case aB => exact (hb0_ HB)); (case aF => exact (fun _ _ => trivial)); (case aO => exact (ro_ HO_9)); (case aS => exact (below_size (hb0_ HB))); (case aL => have := LMc17.out; omega); intro v320 w19 ho hb hg hat; rw [← Ny319.out] at ho; have n0_ := Aside0.mk hb; have n1_ := Aside0.mk ho; clear HB; clear HO_9; have HB := n0_; have HO321 := n1_; clear n0_ n1_; clear ho hb hg hat))
       go_roundg kj5
       case measure => have := HK1.out; have := HK2.out; have := HJ5.out; omega
       case rel => exact ⟨(y319), (wrap64 (x10_1 + 1)), rf_, H', ⟨ho3_ HK1 HK2 HJ5⟩, ⟨ro_ HO321⟩, ⟨hb0_ HB⟩⟩

/-! ### haberdashplay_Scope: function 61 -/
def haberdashplay_Scope.f (k : Nat) (l0_0 : List ByteArray) (l0_1 : List ByteArray) : Option (List ByteArray × List ByteArray) := (haberdashplay_some.f k l0_0 3 8 77700109).bind fun t328 => ((haberdashplay_some.f k l0_1 2 3 77700020).bind fun t331 => (some (t328, t331)))
def haberdashplay_Scope.T1 : Bool × List (List Nat × List Nat) := (true, [([], []), ([0], [0]), ([1], [1]), ([], []), ([3], [3]), ([4, 2], [4]), ([2, 5], [2, 5]), ([6, 5, 0, 1, 2, 3, 4, 5, 6], [6])])
def haberdashplay_Scope.B1 : List Nat := [0, 1, 3, 0, 8, 31, 63, 127]
theorem haberdashplay_Scope.tab1 : rtab .any (opsOf Try.f61 1) = haberdashplay_Scope.T1 := by kernel_rfl
theorem haberdashplay_Scope.bits1 : waitsOk haberdashplay_Scope.T1.2 haberdashplay_Scope.B1 = true := by kernel_rfl
set_option maxHeartbeats 8000000 in
set_option maxRecDepth 100000 in
theorem haberdashplay_Scope.calls (k : Nat) (A0_0 : Option Addr) (c0_0 : Nat) (l0_0 : List ByteArray) (A0_1 : Option Addr) (c0_1 : Nat) (l0_1 : List ByteArray) (r1 : List ByteArray) (r2 : List ByteArray) (w : World) (hr0_0 : Kd.C Kd.string w A0_0 l0_0.length l0_0) (hc0_0 : l0_0.length ≤ c0_0) (hr0_1 : Kd.C Kd.string w A0_1 l0_1.length l0_1) (hc0_1 : l0_1.length ≤ c0_1) (h : haberdashplay_Scope.f k l0_0 l0_1 = some (r1, r2)) :
 Calls Try.prog 61 #[.agg #[.slice A0_0 l0_0.length c0_0, .slice A0_1 l0_1.length c0_1]] w fun e w' => ∃ v0_ v1_ : Value, e = .returned (.agg #[v0_, v1_]) ∧ Kd.R Kd.string 9 w' w.heap.size (fun k_ => some k_ ≠ (v1_ : Value).ownBlock) v0_ r1 ∧ Kd.R Kd.string 9 w' w.heap.size (fun k_ => some k_ ≠ (v0_ : Value).ownBlock) v1_ r2 ∧ Below w.heap.size w w' := by
 have hu56 := Try.underlying56
 have HR0_0 := Aside0.mk hr0_0
 have HC0_0 := Aside0.mk hc0_0
 clear hr0_0 hc0_0
 have HR0_1 := Aside0.mk hr0_1
 have HC0_1 := Aside0.mk hc0_1
 clear hr0_1 hc0_1
 have HB := Aside0.mk (Below.refl w.heap.size w)
 have H : ((haberdashplay_some.f k l0_0 3 8 77700109).bind fun t328 => ((haberdashplay_some.f k l0_1 2 3 77700020).bind fun t331 => (some (t328, t331)))) = some (r1, r2) := h
 clear h
 replace H := Option.bind_eq_some_iff.mp H
 obtain ⟨t328, A20, H⟩ := H
 replace H : ((haberdashplay_some.f k l0_1 2 3 77700020).bind fun t331 => (some (t328, t331))) = some (r1, r2) := H
 have A2 := Aside0.mk A20
 clear A20
 replace H := Option.bind_eq_some_iff.mp H
 obtain ⟨t331, A30, H⟩ := H
 replace H : (some (t328, t331)) = some (r1, r2) := H
 have A3 := Aside0.mk A30
 clear A30
 simp only [Option.some.injEq, Prod.mk.injEq] at H
 obtain ⟨rfl, rfl⟩ := H
 go_enter Try.func61, Try.ntmps61
 try go_wp2_with (first | ((with_reducible refine gate_dst (N := 1) rfl ?_); refine box_event rf_ (N := 1) rf_ (cs := #[.slice A0_0 l0_0.length c0_0, .slice A0_1 l0_1.length c0_1]) (t := 56) lr_ ?_; intro gb326 hg w4 hbox hb; have BK326 := Aside0.mk hbox; have GE326 := Aside0.mk (ge_ HB hg (hb0_ HB)); replace HB := Aside0.mk (below_step (hb0_ HB) hb); clear hb hbox hg) | ((with_reducible refine gate_dst (N := 2) rfl ?_); refine box_event rf_ (N := 2) rf_ (cs := #[.slice none 0 0, .slice none 0 0]) (t := 56) lr_ ?_; intro gb327 hg w5 hbox hb; have BK327 := Aside0.mk hbox; have GE327 := Aside0.mk (ge_ HB hg (hb1_ HB GE326)); replace HB := Aside0.mk (below_step (hb1_ HB GE326) hb); have NB326_327 := Aside0.mk (nl_ BK326 hg); have NB327_326 := Aside0.mk (ng_ BK326 hg); replace BK326 := Aside0.mk (bb_ BK326 hb); clear hb hbox hg))
 replace BK326 := Aside0.mk (blk_drew BK326.out)
 replace BK327 := Aside0.mk (blk_drew BK327.out)
 replace HB := Aside0.mk (below_drew1 HB.out)
 refine start_ (n := 8) (S := fun w' => w'.cell? ⟨gb326, 0, none⟩ = some (.slice A0_0 l0_0.length c0_0) ∧ w'.cell? ⟨gb326, 1, none⟩ = some (.slice A0_1 l0_1.length c0_1)) (ds := []) (mk 8 0) (by kernel_rfl) rfl rfl ⟨cl_ BK326 0, cl_ BK326 1⟩ (fun hHeld => ?_); refine with_tabW haberdashplay_Scope.tab1 haberdashplay_Scope.bits1 (fun HT_ HW_ => ?_)
 generalize w5.drew = w6 at BK326 BK327 HB hHeld ⊢
 refine ahead_ [(0, 3), (3, 6)] ?_
 iterate 2 (refine pB_ HT_ ?_)
 refine aheadE_ (mk 8 9) kr_ ?_
 refine ahead_ [(1, 4), (4, 7)] ?_
 iterate 2 (refine tA_ (v := ?_) (a' := ?_) rfl rfl HT_.out HW_.out (by kernel_rfl) (fun _ _ _ h => h) (Or.inl ⟨by rfl, ?_⟩) hHeld ?_ ?_; rotate_left; (rintro w' ⟨s0, s1⟩; go_simp; with_reducible rfl); rotate_left; (exact pu_))
 refine aheadE_ (mk 8 27) kr_ ?_
 refine one_ (i := 2) (N := some 5) (mk 8 31) rfl rfl (on_ HT_) de_ (fun K hK => ?_)
 refine goes_ Try.func75 (by kernel_rfl) rfl #[.slice A0_0 l0_0.length c0_0, .int .i64 3, .int .i64 8, .func (.func 109) #[] #[]] (by rfl) rfl rfl am_ ?_
 with_reducible refine (HF.wyl_ (by decide) (haberdashplay_some.calls k _ _ l0_0 3 8 77700109 t328 _ ?side1 ?side2 A2.out)).mono ?_
 (case side1 => exact sc_ (Kd.C_below HR0_0.out HB.out))
 (case side2 => exact HC0_0.out)
 rintro e w7 ⟨v329, rfl, ho0, hb⟩
 refine ⟨_, rfl, ?_⟩
 have HO330 := Aside0.mk (Kd.R_lower ho0 (below_size (hb2_ HB GE326 GE327)))
 replace BK326 := Aside0.mk (bb_ BK326 hb)
 replace BK327 := Aside0.mk (bb_ BK327 hb)
 replace HB := Aside0.mk (below_step (hb2_ HB GE326 GE327) hb)
 (try clear hb)
 (try clear hb2)
 (try clear hk)
 (try clear hi)
 (try clear ho0)
 refine hK.out _ _ ⟨cl_ BK326 0, cl_ BK326 1⟩ (fun hHeld => ?_)
 clear hK K
 refine norm_ pv_ ?_
 refine one_ (i := 5) (N := some 8) (mk 8 63) rfl rfl (on_ HT_) de_ (fun K hK => ?_)
 refine goes_ Try.func75 (by kernel_rfl) rfl #[.slice A0_1 l0_1.length c0_1, .int .i64 2, .int .i64 3, .func (.func 20) #[] #[]] (by rfl) rfl rfl am_ ?_
 with_reducible refine (HF.wyl_ (by decide) (haberdashplay_some.calls k _ _ l0_1 2 3 77700020 t331 _ ?side1 ?side2 A3.out)).mono ?_
 (case side1 => exact sc_ (Kd.C_below HR0_1.out HB.out))
 (case side2 => exact HC0_1.out)
 rintro e w8 ⟨v332, rfl, ho0, hb⟩
 refine ⟨_, rfl, ?_⟩
 have HO333 := Aside0.mk (Kd.R_lower (Kd.R_new' ho0 (Kd.R_lt (ro_ HO330))) (below_size (hb2_ HB GE326 GE327)))
 replace HO330 := Aside0.mk (Kd.R_elder' (ro_ HO330) (Kd.R_base ho0) hb)
 replace BK326 := Aside0.mk (bb_ BK326 hb)
 replace BK327 := Aside0.mk (bb_ BK327 hb)
 replace HB := Aside0.mk (below_step (hb2_ HB GE326 GE327) hb)
 (try clear hb)
 (try clear hb2)
 (try clear hk)
 (try clear hi)
 (try clear ho0)
 obtain ⟨Ao9, co9, eo9⟩ := Kd.R_slice HO333.out
 (first | subst eo9 | (injection eo9 with f1_ f2_ f3_; have f4_ := f1_.symm; have f5_ := f3_.symm; clear f1_ f2_ f3_; subst f4_; subst f5_))
 obtain ⟨Ao10, co10, eo10⟩ := Kd.R_slice HO330.out
 (first | subst eo10 | (injection eo10 with f1_ f2_ f3_; have f4_ := f1_.symm; have f5_ := f3_.symm; clear f1_ f2_ f3_; subst f4_; subst f5_))
 refine hK.out _ _ ⟨cl_ BK326 0, cl_ BK326 1⟩ (fun hHeld => ?_)
 clear hK K
 refine norm_ pv_ ?_
 refine pure_ (i := 6) (N := some 9) (v := ?_) (a' := ?_) (mk 8 127) rfl rfl (an_ HT_) nh_ (Or.inl ⟨ry_, ?_⟩) ?_ ?_
 rotate_left; (intro w'; go_simp; with_reducible rfl)
 rotate_left; (exact pu_)
 refine one_ (i := 7) (N := none) (mk 8 255) rfl rfl (on_ HT_) de_ (fun K hK => ?_)
 have hs11 : w8.cell? ⟨gb327, 0, none⟩ = some (.slice none 0 0) := (blk_cell BK327.out 0).trans rfl
 have hfs11 := blk_frozen BK327.out 0
 have hns11_0 := NB326_327.out
 have hms11_0 := NB327_326.out
 have hs12 : w8.cell? ⟨gb327, 1, none⟩ = some (.slice none 0 0) := (blk_cell BK327.out 1).trans rfl
 have hfs12 := blk_frozen BK327.out 1
 have hns12_0 := NB326_327.out
 have hms12_0 := NB327_326.out
 refine skip_ (w1 := ?_) (by rfl) rfl ?_ ?_
 rotate_left
 ·
  go_simp
  rfl
 refine hK.out _ _ ⟨(cf1_ NB326_327 (cf1_ NB326_327 (hHeld.1))), (cf1_ NB326_327 (cf1_ NB326_327 (hHeld.2)))⟩ (fun hHeld => ?_)
 clear hK K
 refine done_ (done_of HT_.out (by kernel_rfl)) ?_
 try go_wp2
 refine bodyPost_ret (results_cell_row rfl _ _ gb327 56 #[.slice Ao10 t328.length co10, .slice Ao9 t331.length co9] (0, 0) _ rfl (bq0_ BK327) Try.underlying56 rfl (by kernel_rfl)) rfl ?_
 exact ⟨_, _, er_, rf1_ HO330 BK327, rf1_ HO333 BK327, hb2_ HB GE326 GE327⟩

/-! ### haberdashplay_Codes: function 33 -/
def haberdashplay_Codes.f (k : Nat) (l0 : List ByteArray) : Option (List ByteArray) := (haberdashplay_some.f k l0 3 3 77700063).bind fun t793 => (some t793)
set_option maxHeartbeats 8000000 in
set_option maxRecDepth 100000 in
theorem haberdashplay_Codes.calls (k : Nat) (A0 : Option Addr) (c0 : Nat) (l0 : List ByteArray) (r : List ByteArray) (w : World) (hr0 : Kd.C Kd.string w A0 l0.length l0) (hc0 : l0.length ≤ c0) (h : haberdashplay_Codes.f k l0 = some r) :
 Calls Try.prog 33 #[.slice A0 l0.length c0] w fun e w' => ∃ v0_ : Value, e = .returned (v0_) ∧ Kd.R Kd.string 9 w' w.heap.size (fun _ => True) v0_ r ∧ Below w.heap.size w w' := by
 have HR0 := Aside0.mk hr0
 have HC0 := Aside0.mk hc0
 clear hr0 hc0
 have HB := Aside0.mk (Below.refl w.heap.size w)
 have H : ((haberdashplay_some.f k l0 3 3 77700063).bind fun t793 => (some t793)) = some r := h
 clear h
 replace H := Option.bind_eq_some_iff.mp H
 obtain ⟨t793, A20, H⟩ := H
 (try dsimp only at H)
 have A2 := Aside0.mk A20
 clear A20
 obtain rfl := Option.some.inj H
 go_enter Try.func33, Try.ntmps33
 go_wp2_with (first | (refine gl_ 75 4 Try.func75 #[.slice A0 l0.length c0, .int .i64 3, .int .i64 3, .func (.func 63) #[] #[]] ?_; (with_reducible refine (HF.wyl_ (by decide) (haberdashplay_some.calls k _ _ l0 3 3 77700063 t793 _ ?side1 ?side2 A2.out)).mono ?_); (case side1 => exact sc_ HR0.out); (case side2 => exact HC0.out); rintro e w3 ⟨v794, rfl, ho0, hb⟩; refine ⟨_, rfl, ?_⟩; have HO795 := Aside0.mk (Kd.R_lower ho0 (below_size (hb0_ HB))); replace HB := Aside0.mk (below_step (hb0_ HB) hb); (try clear hb); (try clear ho0)))
 go_ret
 exact ⟨_, er_, ro_ HO795, hb0_ HB⟩

end Go.Proofs.Ytdmeepjefccpgaa.Rw
end
section
/- Functions of the program as Lean functions, each with its contract: out of what the kit's printer wrote for this seat. -/
namespace Go.Proofs.Ytdmeepjefccpgaa.Rw
open Go.RowKit Go.Proofs.YtdmeepjefccpgaaW.PrintWords Go.Proofs.YtdmeepjefccpgaaW.PrintLast Go.Proofs.YtdmeepjefccpgaaW.PrintMore
attribute [local go_sem] max2_int min2_int max_two min_two max_three min_three max_four min_four   -- for this text's walks alone
set_option linter.unusedVariables false
set_option linter.unusedSimpArgs false
attribute [local go_sem high] leqS gtrS

/-! ### haberdashplay_tiers: function 64 -/
mutual
def haberdashplay_tiers.l0 : Nat → List (S67) → Int → List (S67) → Int → Int → Option ((List (S67)))
 | 0, _, _, _, _, _ => none
 | k + 1, x0, x1, x5, x6, x7 => if x7 < (x0.length : Int) then (haberdashplay_tiers.j1 k x0 x1 x5 x6 x7 (decide (x7 < 3))) else (haberdashplay_tiers.j1 k x0 x1 x5 x6 x7 false)
def haberdashplay_tiers.j1 : Nat → List (S67) → Int → List (S67) → Int → Int → Bool → Option ((List (S67)))
 | 0, _, _, _, _, _, _ => none
 | k + 1, x0, x1, x5, x6, x7, x16 => if x16 = true then (if 0 ≤ x7 then (if x7 < (x0.length : Int) then ((haberdashplay_Mod64.f ((rd_T67 x0 x7).f0) x1).bind fun t342 => ((haberdashplay_Mod64.f ((rd_T67 x0 x7).f1) 4000).bind fun t344 => ((haberdashplay_Mod64.f ((rd_T67 x0 x7).f2) 300).bind fun t346 => (if x5.length < 5864062014805 then (haberdashplay_tiers.l0 k x0 x1 (x5 ++ [(⟨wrap64 (x6 + t342), t344, wrap64 (1 + t346)⟩ : S67)]) (wrap64 ((wrap64 (x6 + t342)) + 1)) (wrap64 (x7 + 1))) else (none))))) else (none)) else (none)) else (if (x5.length : Int) = 0 then (if x5.length < 5864062014805 then (some (x5 ++ [(⟨wrap64 (Int.tdiv x1 2), 1000, 0⟩ : S67)])) else (none)) else (some x5))
end
def haberdashplay_tiers.f (k : Nat) (l0 : List (S67)) (a1 : Int) : Option ((List (S67))) := haberdashplay_tiers.l0 k l0 a1 (([] : List (S67))) 0 0
def haberdashplay_tiers.T7 : Bool × List (List Nat × List Nat) := (true, [([], []), ([], []), ([], []), ([], []), ([2, 3], [2, 3]), ([4], [4]), ([5], [5]), ([6], [6]), ([], []), ([], []), ([8, 9], [8, 9]), ([10], [10]), ([11], [11]), ([12, 7], [12]), ([13], [13]), ([1, 7, 14], [1, 7, 14]), ([15], [15]), ([0, 16, 13], [0, 16]), ([17, 17, 0, 1, 2, 3, 4, 5, 6, 7, 8, 9, 10, 11, 12, 13, 14, 15, 16, 17], [0, 17])])
def haberdashplay_tiers.B7 : List Nat := [0, 0, 0, 0, 12, 28, 60, 124, 0, 0, 768, 1792, 3840, 8188, 16380, 32766, 65534, 131071, 262143]
theorem haberdashplay_tiers.tab7 : rtab .any (opsOf Try.f64 7) = haberdashplay_tiers.T7 := by kernel_rfl
theorem haberdashplay_tiers.bits7 : waitsOk haberdashplay_tiers.T7.2 haberdashplay_tiers.B7 = true := by kernel_rfl
set_option maxHeartbeats 8000000 in
set_option maxRecDepth 100000 in
theorem haberdashplay_tiers.calls (k : Nat) (A0 : Option Addr) (c0 : Nat) (l0 : List (S67)) (a1 : Int) (r : List (S67)) (w : World) (hr0 : Kd.C k67 w A0 l0.length l0) (hc0 : l0.length ≤ c0) (h : haberdashplay_tiers.f k l0 a1 = some r) :
 Calls Try.prog 64 #[.slice A0 l0.length c0, .int .i64 a1] w fun e w' => ∃ v0_ : Value, e = .returned (v0_) ∧ Kd.R k67 67 w' w.heap.size (fun _ => True) v0_ r ∧ Below w.heap.size w w' := by
 have hu67 := Try.underlying67
 have HR0 := Aside0.mk hr0
 have HC0 := Aside0.mk hc0
 clear hr0 hc0
 have HB := Aside0.mk (Below.refl w.heap.size w)
 have H : (haberdashplay_tiers.l0 k l0 a1 (([] : List (S67))) 0 0) = some r := h
 clear h
 obtain ⟨y338, hy338⟩ : ∃ y_ : List (S67), y_ = (([] : List (S67))) := ⟨_, rfl⟩
 replace H : (haberdashplay_tiers.l0 k l0 a1 y338 0 0) = some r := hy_ hy338 H
 have Ny338 := Aside0.mk hy338
 clear hy338
 have H' := Aside0.mk H
 clear H
 go_enter Try.func64, Try.ntmps64
 go_wp2_with (first | ((with_reducible refine gate_dst (N := 8) rfl ?_); refine Kd.R_lit k67 _ 67 rf_ (N := 8) rf_ (xs := ([] : List (S67))) (inner := []) (ok := fun _ => True) (okp := fun _ => True) lr_ ?hp (fun _ hk => hk) trivial (Below.refl _ _) (Nat.le_refl _) (by simp) ?_; (case hp => exact (Reps.none _ _)); intro v339 w3 ho4 hb hg_ hnew_; clear hg_ hnew_; (first | rw [← Ny338.out] at ho4 | (simp only [Int.reduceToNat] at ho4; rw [← Ny338.out] at ho4)); have HO340 := Aside0.mk (Kd.R_lower ho4 (below_size (hb0_ HB))); replace HB := Aside0.mk (below_step (hb0_ HB) hb); clear hb ho4))
 go_loopg [5, 6, 7] k (fun kq v5 v6 v7 w' => ∃ (x5_1 : List (S67)) (x6_1 : Int) (x7_1 : Int), v6 = .int .i64 x6_1 ∧ v7 = .int .i64 x7_1 ∧ Aside0 (haberdashplay_tiers.l0 kq l0 a1 x5_1 x6_1 x7_1 = some r) ∧ Aside0 (kq ≤ k) ∧ Aside0 (Kd.R k67 67 w' w.heap.size (fun _ => True) v5 x5_1) ∧ Aside0 (Below w.heap.size w w'))
 case atStart => exact ⟨(y338), (0), (0), rf_, rf_, H', ⟨Nat.le_refl _⟩, ⟨ro_ HO340⟩, ⟨hb0_ HB⟩⟩
 case round =>
  clear H'; (try clear p2); obtain ⟨x5_1, x6_1, x7_1, rfl, rfl, HA, HK1, HO_5, HB⟩ := hrel
  cases gk with
  | zero => exact absurd HA.out (by simp [haberdashplay_tiers.l0])
  | succ k1 =>
   have H := HA.out; clear HA
   simp only [haberdashplay_tiers.l0] at H
   have HC5 := Aside0.mk H; clear H
   go_upto_region 4 with (fail)
   go_cut [16] (fun v16 wc => ∃ (kq : Nat) (x16_4 : Bool), v16 = .bool x16_4 ∧ Aside0 (haberdashplay_tiers.j1 kq l0 a1 x5_1 x6_1 x7_1 x16_4 = some r) ∧ Aside0 (kq ≤ k1) ∧ Aside0 (Kd.R k67 67 wc w.heap.size (fun _ => True) u5 x5_1) ∧ Aside0 (Below w.heap.size w wc))
   case first =>
    have H := HC5.out; clear HC5
    by_cases c6 : x7_1 < (l0.length : Int)
    rotate_left
    ·
     rw [if_neg c6] at H; have c6b0 := decide_eq_false c6; clear c6
     (first | rw [c6b0] | (simp only [i64_w, i32_w]; rw [c6b0]) | skip)
     have H' := Aside0.mk H; clear H
     go_wp2
     go_meet
     case rel => exact ⟨_, (false), rf_, H', ⟨by have := HK1.out; first | omega | exact Nat.le_refl _⟩, ⟨ro_ HO_5⟩, ⟨hb0_ HB⟩⟩
    rw [if_pos c6] at H; have c6b0 := decide_eq_true c6; clear c6
    (first | rw [c6b0] | (simp only [i64_w, i32_w]; rw [c6b0]) | skip)
    have H' := Aside0.mk H; clear H
    go_wp2
    go_meet
    case rel => exact ⟨_, (decide (x7_1 < 3)), rf_, H', ⟨by have := HK1.out; first | omega | exact Nat.le_refl _⟩, ⟨ro_ HO_5⟩, ⟨hb0_ HB⟩⟩
   case rest =>
    clear HC5; (try clear p2); (try clear c6); (try clear c6b0); (try clear p2); obtain ⟨kq, x16_4, rfl, HA, HJ4, HO_5, HB⟩ := hcut
    cases kq with
    | zero => exact absurd HA.out (by simp [haberdashplay_tiers.j1])
    | succ kj4 =>
     have H := HA.out; clear HA
     simp only [haberdashplay_tiers.j1] at H
     by_cases c7 : x16_4 = true
     rotate_left
     ·
      replace c7 := Bool.eq_false_iff.mpr c7; subst c7; rw [if_neg nf_] at H
      by_cases c16 : (x5_1.length : Int) = 0
      rotate_left
      ·
       rw [if_neg c16] at H; have c16b0 : ((x5_1.length : Int) == 0) = false := beq_eq_false_iff_ne.mpr c16; have c16b1 : ((x5_1.length : Int) != 0) = true := bne_iff_ne.mpr c16
       have c16b2 : ¬ (x5_1 = []) := fun h_ => c16 (by rw [h_]; rfl)
       obtain rfl := Option.some.inj H; obtain ⟨Ao20, co20, eo20⟩ := Kd.R_slice HO_5.out; subst eo20
       go_wp2
       go_ret
       exact ⟨_, er_, ro_ HO_5, hb0_ HB⟩
      rw [if_pos c16] at H; have c16b0 : ((x5_1.length : Int) == 0) = true := beq_iff_eq.mpr c16; have c16b1 : ((x5_1.length : Int) != 0) = false := bne_eq_false_iff_eq.mpr c16; clear c16; replace H := ip_ H; obtain ⟨c17, H⟩ := H; have LMc17 := Aside0.mk c17; clear c17; obtain ⟨y350, hy350⟩ : ∃ y_ : List (S67), y_ = (x5_1 ++ [(⟨wrap64 (Int.tdiv a1 2), 1000, 0⟩ : S67)]) := ⟨_, rfl⟩
      replace H : (some y350) = some r := hy_ hy350 H; have Ny350 := Aside0.mk hy350; clear hy350; obtain rfl := Option.some.inj H; obtain ⟨Ao18, co18, eo18⟩ := Kd.R_slice HO_5.out; subst eo18
      go_wp2_with (first | ((with_reducible refine gate_builtin (b := .append) (xs := #[.tmp 51, .tmp 55]) rfl ?_); at_builtin; refine Kd.R_append k67 (w0 := w) w.heap.size rfl (.tmp 51) (.tmp 55) 58 67 (.agg #[(.int .i64 0), (.int .i64 0), (.int .i64 0)]) 24 rfl Try.underlying58 info67 rfl (by decide) (by omega) (.slice Ao18 x5_1.length co18) x5_1 (⟨wrap64 (Int.tdiv a1 2), 1000, 0⟩ : S67) [.int .i64 (wrap64 (Int.tdiv a1 2)), .int .i64 1000, .int .i64 0] (fun _ => True) (fun _ => False) rfl rfl ?aP (fun _ hk => hk.elim) ?aF ?aO ?aB ?aS ?aL ?_; (case aP => exact k67_mkM _ _ _ (⟨wrap64 (Int.tdiv a1 2), 1000, 0⟩ : S67)); (case aB => exact (hb0_ HB)); (case aF => exact (fun _ _ => trivial)); (case aO => exact (ro_ HO_5)); (case aS => exact (below_size (hb0_ HB))); (case aL => have := LMc17.out; omega); intro v351 w19 ho hb hg hat; rw [← Ny350.out] at ho; have n0_ := Aside0.mk hb; have n1_ := Aside0.mk ho; clear HB; clear HO_5; have HB := n0_; have HO352 := n1_; clear n0_ n1_; clear ho hb hg hat))
      go_ret
      exact ⟨_, er_, ro_ HO352, hb0_ HB⟩
     subst c7; rw [if_pos rfl] at H; replace H := ip_ H; obtain ⟨c8, H⟩ := H; have c8b0 := decide_eq_true c8; clear c8; replace H := ip_ H; obtain ⟨c9, H⟩ := H; have c9b0 := decide_eq_true c9; clear c9; replace H := Option.bind_eq_some_iff.mp H; obtain ⟨t342, A100, H⟩ := H
     (try dsimp only at H)
     have A10 := Aside0.mk A100; clear A100; replace H := Option.bind_eq_some_iff.mp H; obtain ⟨t344, A110, H⟩ := H
     (try dsimp only at H)
     have A11 := Aside0.mk A110; clear A110; replace H := Option.bind_eq_some_iff.mp H; obtain ⟨t346, A120, H⟩ := H
     (try dsimp only at H)
     have A12 := Aside0.mk A120; clear A120; replace H := ip_ H; obtain ⟨c13, H⟩ := H; have LMc13 := Aside0.mk c13; clear c13; obtain ⟨y347, hy347⟩ : ∃ y_ : List (S67), y_ = (x5_1 ++ [(⟨wrap64 (x6_1 + t342), t344, wrap64 (1 + t346)⟩ : S67)]) := ⟨_, rfl⟩; replace H : (haberdashplay_tiers.l0 kj4 l0 a1 y347 (wrap64 ((wrap64 (x6_1 + t342)) + 1)) (wrap64 (x7_1 + 1))) = some r := hy_ hy347 H
     have Ny347 := Aside0.mk hy347; clear hy347; have H' := Aside0.mk H; clear H; have p341 : 0 ≤ (x7_1 : Int) := of_decide_eq_true as_; have q341 : x7_1 < (l0.length : Int) := of_decide_eq_true as_; obtain ⟨ad341, e341, hx341_0, hx341_1, hx341_2⟩ := at_T67 HR0.out x7_1 p341 q341; cases e341; replace hx341_0 := hd_ HB hx341_0
     replace hx341_1 := hd_ HB hx341_1; replace hx341_2 := hd_ HB hx341_2; replace p341 := eq_true p341; replace q341 := eq_true q341
     try go_wp2_with (first | (refine gl_ 46 26 Try.func46 #[.int .i64 ((rd_T67 l0 x7_1).f0), .int .i64 a1] ?_; (with_reducible refine (haberdashplay_Mod64.calls ((rd_T67 l0 x7_1).f0) a1 t342 _ A10.out).mono ?_); rintro e w' ⟨rfl, ⟨nd, rfl⟩⟩; refine ⟨_, rfl, ?_⟩))
     (try (rw [drewN_self wc]; generalize hq_ : World.drewN wc _ = wc; have n0_ : Aside0 (Kd.R k67 67 wc w.heap.size (fun _ => True) u5 x5_1) := ⟨by rw [← hq_]; exact (ro_ HO_5)⟩; have n1_ : Aside0 (Below w.heap.size w wc) := ⟨by rw [← hq_]; exact (hb0_ HB)⟩; clear HO_5 HB hq_; have HO_5 := n0_; have HB := n1_; clear n0_ n1_))
     replace HO_5 := Aside0.mk (Kd.R_drew HO_5.out); replace HB := Aside0.mk (below_drew1 HB.out); have p343 : 0 ≤ (x7_1 : Int) := of_decide_eq_true as_; have q343 : x7_1 < (l0.length : Int) := of_decide_eq_true as_; obtain ⟨ad343, e343, hx343_0, hx343_1, hx343_2⟩ := at_T67 HR0.out x7_1 p343 q343; have hw343_2 := hx343_2
     have hw343_1 := hx343_1; have hw343_0 := hx343_0
     obtain rfl : ad341 = ad343 := (by injection e343)
     replace hx343_0 := hd_ HB hx343_0; replace hx343_1 := hd_ HB hx343_1; replace hx343_2 := hd_ HB hx343_2; replace p343 := eq_true p343; replace q343 := eq_true q343; have p345 : 0 ≤ (x7_1 : Int) := of_decide_eq_true as_; have q345 : x7_1 < (l0.length : Int) := of_decide_eq_true as_; obtain ⟨ad345, e345, hx345_0, hx345_1, hx345_2⟩ := at_T67 HR0.out x7_1 p345 q345
     have hw345_2 := hx345_2; have hw345_1 := hx345_1; have hw345_0 := hx345_0
     obtain rfl : ad341 = ad345 := (by injection e345)
     replace hx345_0 := hd_ HB hx345_0; replace hx345_1 := hd_ HB hx345_1; replace hx345_2 := hd_ HB hx345_2; replace p345 := eq_true p345; replace q345 := eq_true q345
     refine start_ (n := 19) (S := fun w' => w'.cell? (ad341.add ((x7_1).toNat * 3)) = some (.int .i64 ((rd_T67 l0 x7_1).f0)) ∧ w'.cell? ⟨(ad341.add ((x7_1).toNat * 3)).block, (ad341.add ((x7_1).toNat * 3)).off + 1, none⟩ = some (.int .i64 ((rd_T67 l0 x7_1).f1)) ∧ w'.cell? ⟨(ad341.add ((x7_1).toNat * 3)).block, (ad341.add ((x7_1).toNat * 3)).off + 2, none⟩ = some (.int .i64 ((rd_T67 l0 x7_1).f2)) ∧ w'.cell? (ad341.add ((x7_1).toNat * 3)) = some (.int .i64 ((rd_T67 l0 x7_1).f0)) ∧ w'.cell? ⟨(ad341.add ((x7_1).toNat * 3)).block, (ad341.add ((x7_1).toNat * 3)).off + 1, none⟩ = some (.int .i64 ((rd_T67 l0 x7_1).f1)) ∧ w'.cell? ⟨(ad341.add ((x7_1).toNat * 3)).block, (ad341.add ((x7_1).toNat * 3)).off + 2, none⟩ = some (.int .i64 ((rd_T67 l0 x7_1).f2))) (ds := []) (mk 19 0) (by kernel_rfl) rfl rfl ⟨(hc_ HB hw343_0), (hc_ HB hw343_1), (hc_ HB hw343_2), (hc_ HB hw345_0), (hc_ HB hw345_1), (hc_ HB hw345_2)⟩ (fun hHeld => ?_); refine with_tabW haberdashplay_tiers.tab7 haberdashplay_tiers.bits7 (fun HT_ HW_ => ?_)
     generalize wc.drew = w14 at HO_5 HB hx343_0 hx343_1 hx343_2 hx345_0 hx345_1 hx345_2 hHeld ⊢
     refine ahead_ [(0, 28), (1, 29), (2, 30), (3, 31), (4, 32), (5, 33), (8, 36), (9, 37), (10, 38), (11, 39)] ?_
     iterate 10 (refine pB_ HT_ ?_)
     refine aheadE_ (mk 19 3903) kr_ ?_
     refine ahead_ [(6, 34), (12, 40)] ?_
     iterate 2 (refine tA_ (v := ?_) (a' := ?_) rfl rfl HT_.out HW_.out (by kernel_rfl) (fun _ _ _ h => h) (Or.inl ⟨by rfl, ?_⟩) hHeld ?_ ?_; rotate_left; (rintro w' ⟨s0, s1, s2, s3, s4, s5⟩; go_simp; with_reducible rfl); rotate_left; (exact pu_))
     refine aheadE_ (mk 19 8063) kr_ ?_
     refine one_ (i := 7) (N := some 35) (mk 19 8191) rfl rfl (on_ HT_) de_ (fun K hK => ?_)
     refine goes_ Try.func46 (by kernel_rfl) rfl #[.int .i64 ((rd_T67 l0 x7_1).f1), .int .i64 4000] (by rfl) rfl rfl am_ ?_
     with_reducible refine (haberdashplay_Mod64.calls ((rd_T67 l0 x7_1).f1) 4000 t344 _ A11.out).mono ?_
     rintro e w' ⟨rfl, ⟨nd, rfl⟩⟩
     refine ⟨_, rfl, ?_⟩
     refine hK.out _ _ ⟨(hc_ HB hw343_0), (hc_ HB hw343_1), (hc_ HB hw343_2), (hc_ HB hw345_0), (hc_ HB hw345_1), (hc_ HB hw345_2)⟩ (fun hHeld => ?_)
     clear hK K
     refine norm_ pv_ ?_
     refine one_ (i := 13) (N := some 41) (mk 19 16383) rfl rfl (on_ HT_) de_ (fun K hK => ?_)
     refine goes_ Try.func46 (by kernel_rfl) rfl #[.int .i64 ((rd_T67 l0 x7_1).f2), .int .i64 300] (by rfl) rfl rfl am_ ?_
     with_reducible refine (haberdashplay_Mod64.calls ((rd_T67 l0 x7_1).f2) 300 t346 _ A12.out).mono ?_
     rintro e w' ⟨rfl, ⟨nd, rfl⟩⟩
     refine ⟨_, rfl, ?_⟩
     refine hK.out _ _ ⟨(hc_ HB hw343_0), (hc_ HB hw343_1), (hc_ HB hw343_2), (hc_ HB hw345_0), (hc_ HB hw345_1), (hc_ HB hw345_2)⟩ (fun hHeld => ?_)
     clear hK K
     refine norm_ pv_ ?_
     refine ahead_ [(14, 42), (15, 43)] ?_
     iterate 2 (refine pB_ HT_ ?_)
     refine aheadE_ (mk 19 65535) kr_ ?_
     refine one_ (i := 16) (N := some 44) (mk 19 131071) rfl rfl (on_ HT_) de_ (fun K hK => ?_)
     refine value_ (w1 := ?_) (v := ?_) (by rfl) rfl ?_ ?_
     rotate_left 2
     ·
      go_simp
      constructor
      ·
       rfl
      ·
       rfl
     refine hK.out _ _ ⟨(World.cell?_alloc_lt _ _ _ (World.block_lt_of_cell? _ _ ((hc_ HB hw343_0)))).trans ((hc_ HB hw343_0)), (World.cell?_alloc_lt _ _ _ (World.block_lt_of_cell? _ _ ((hc_ HB hw343_1)))).trans ((hc_ HB hw343_1)), (World.cell?_alloc_lt _ _ _ (World.block_lt_of_cell? _ _ ((hc_ HB hw343_2)))).trans ((hc_ HB hw343_2)), (World.cell?_alloc_lt _ _ _ (World.block_lt_of_cell? _ _ ((hc_ HB hw345_0)))).trans ((hc_ HB hw345_0)), (World.cell?_alloc_lt _ _ _ (World.block_lt_of_cell? _ _ ((hc_ HB hw345_1)))).trans ((hc_ HB hw345_1)), (World.cell?_alloc_lt _ _ _ (World.block_lt_of_cell? _ _ ((hc_ HB hw345_2)))).trans ((hc_ HB hw345_2))⟩ (fun hHeld => ?_)
     clear hK K
     refine norm_ pv_ ?_
     refine one_ (i := 17) (N := some 45) (mk 19 262143) rfl rfl (on_ HT_) de_ (fun K hK => ?_)
     refine Kd.R_append_step k67 (w0 := w) w.heap.size (by rfl) (.tmp 28) (.tmp 44) 58 67 (.agg #[(.int .i64 0), (.int .i64 0), (.int .i64 0)]) 24 rfl Try.underlying58 info67 rfl (by decide) (by omega) u5 x5_1 (⟨wrap64 (x6_1 + t342), t344, wrap64 (1 + t346)⟩ : S67) [.int .i64 (wrap64 (x6_1 + t342)), .int .i64 t344, .int .i64 (wrap64 (1 + t346))] (fun _ => True) (fun _ => False) rfl rfl ?aP (fun _ hk => hk.elim) ?aF ?aO ?aB ?aS ?aL ?_
     (case aP => exact k67_mkM _ _ _ (⟨wrap64 (x6_1 + t342), t344, wrap64 (1 + t346)⟩ : S67))
     (case aB => exact (hb0_ HB))
     (case aF => exact (fun _ _ => trivial))
     (case aO => exact (ro_ HO_5))
     (case aS => exact (below_size (hb0_ HB)))
     (case aL => have := LMc13.out; omega)
     intro v348 w15 ho hb hg hat
     rw [← Ny347.out] at ho; have n0_ := Aside0.mk hb; have n1_ := Aside0.mk ho; clear HB; clear HO_5; have HB := n0_; have HO349 := n1_; clear n0_ n1_; clear ho hb hg hat
     refine hK.out _ _ ⟨(hc_ HB hw343_0), (hc_ HB hw343_1), (hc_ HB hw343_2), (hc_ HB hw345_0), (hc_ HB hw345_1), (hc_ HB hw345_2)⟩ (fun hHeld => ?_)
     clear hK K
     refine norm_ pv_ ?_
     refine pure_ (i := 18) (N := some 5) (v := ?_) (a' := ?_) (mk 19 524287) rfl rfl (an_ HT_) nh_ (Or.inl ⟨ry_, ?_⟩) ?_ ?_
     rotate_left; (intro w'; go_simp; with_reducible rfl)
     rotate_left; (exact pu_)
     refine done_ (done_of HT_.out (by kernel_rfl)) ?_
     try go_wp2
     go_roundg kj4
     case measure => have := HK1.out; have := HJ4.out; omega
     case rel => exact ⟨(y347), (wrap64 ((wrap64 (x6_1 + t342)) + 1)), (wrap64 (x7_1 + 1)), rf_, rf_, H', ⟨ho2_ HK1 HJ4⟩, ⟨ro_ HO349⟩, ⟨hb0_ HB⟩⟩

/-! ### haberdashplay_kinds: function 47 -/
end Go.Proofs.Ytdmeepjefccpgaa.Rw
end
section
/- Functions of the program as Lean functions, each with its contract: out of what the kit's printer wrote for this seat. -/
namespace Go.Proofs.Ytdmeepjefccpgaa.Rw
open Go.RowKit Go.Proofs.YtdmeepjefccpgaaW.PrintWords Go.Proofs.YtdmeepjefccpgaaW.PrintLast Go.Proofs.YtdmeepjefccpgaaW.PrintMore
attribute [local go_sem] max2_int min2_int max_two min_two max_three min_three max_four min_four   -- for this text's walks alone
set_option linter.unusedVariables false
set_option linter.unusedSimpArgs false
attribute [local go_sem high] leqS gtrS

/-! ### haberdashplay_Promo: function 29 -/
mutual
def haberdashplay_Promo.j0 : Nat → ByteArray → Int → Int → ByteArray → ByteArray → Bool → List ByteArray → List ByteArray → Int → Int → Int → Int → Int → List (S65) → List (S67) → ByteArray → Int → Int → ByteArray → ByteArray → Bool → List ByteArray → List ByteArray → Int → Int → Int → Int → Int → Option (ByteArray × Int × Int × ByteArray × ByteArray × Bool × List ByteArray × List ByteArray × Int × Int × Int × Int × Int × (List (S65)) × (List (S67)))
 | 0, _, _, _, _, _, _, _, _, _, _, _, _, _, _, _, _, _, _, _, _, _, _, _, _, _, _, _, _ => none
 | k + 1, x354000, x354001, x354002, x354003, x354004, x354005, x354006, x354007, x354008, x354009, x354010, x354011, x354012, x354013, x354014, x365000, x365001, x365002, x365003, x365004, x365005, x365006, x365007, x365008, x365009, x365010, x365011, x365012 => (haberdashplay_pick.f k x354004).bind fun t371 => ((haberdashplay_Mod.f t371 3).bind fun t372 => (if t372 = 1 then ((haberdashplay_Code.f (x354004.size : Int)).bind fun t373 => (haberdashplay_Promo.j1 k x354000 x354001 x354002 x354003 x354004 x354005 x354006 x354007 x354008 x354009 x354010 x354011 x354012 x354013 x354014 x365000 x365001 x365002 x365003 t373 x365005 x365006 x365007 x365008 x365009 x365010 x365011 x365012)) else (haberdashplay_Promo.j1 k x354000 x354001 x354002 x354003 x354004 x354005 x354006 x354007 x354008 x354009 x354010 x354011 x354012 x354013 x354014 x365000 x365001 x365002 x365003 x365004 x365005 x365006 x365007 x365008 x365009 x365010 x365011 x365012)))
def haberdashplay_Promo.j1 : Nat → ByteArray → Int → Int → ByteArray → ByteArray → Bool → List ByteArray → List ByteArray → Int → Int → Int → Int → Int → List (S65) → List (S67) → ByteArray → Int → Int → ByteArray → ByteArray → Bool → List ByteArray → List ByteArray → Int → Int → Int → Int → Int → Option (ByteArray × Int × Int × ByteArray × ByteArray × Bool × List ByteArray × List ByteArray × Int × Int × Int × Int × Int × (List (S65)) × (List (S67)))
 | 0, _, _, _, _, _, _, _, _, _, _, _, _, _, _, _, _, _, _, _, _, _, _, _, _, _, _, _, _ => none
 | k + 1, x354000, x354001, x354002, x354003, x354004, x354005, x354006, x354007, x354008, x354009, x354010, x354011, x354012, x354013, x354014, x365000, x365001, x365002, x365003, x365004, x365005, x365006, x365007, x365008, x365009, x365010, x365011, x365012 => (haberdashplay_Mod64.f x354008 3).bind fun t374 => (if t374 = 1 then ((haberdashplay_Mod64.f x354008 9000).bind fun t375 => (haberdashplay_Promo.j2 k x354000 x354001 x354002 x354003 x354004 x354005 x354006 x354007 x354008 x354009 x354010 x354011 x354012 x354013 x354014 x365000 x365001 x365002 x365003 x365004 x365005 x365006 x365007 t375 x365009 x365010 x365011 x365012)) else (haberdashplay_Promo.j2 k x354000 x354001 x354002 x354003 x354004 x354005 x354006 x354007 x354008 x354009 x354010 x354011 x354012 x354013 x354014 x365000 x365001 x365002 x365003 x365004 x365005 x365006 x365007 x365008 x365009 x365010 x365011 x365012))
def haberdashplay_Promo.j2 : Nat → ByteArray → Int → Int → ByteArray → ByteArray → Bool → List ByteArray → List ByteArray → Int → Int → Int → Int → Int → List (S65) → List (S67) → ByteArray → Int → Int → ByteArray → ByteArray → Bool → List ByteArray → List ByteArray → Int → Int → Int → Int → Int → Option (ByteArray × Int × Int × ByteArray × ByteArray × Bool × List ByteArray × List ByteArray × Int × Int × Int × Int × Int × (List (S65)) × (List (S67)))
 | 0, _, _, _, _, _, _, _, _, _, _, _, _, _, _, _, _, _, _, _, _, _, _, _, _, _, _, _, _ => none
 | k + 1, x354000, x354001, x354002, x354003, x354004, x354005, x354006, x354007, x354008, x354009, x354010, x354011, x354012, x354013, x354014, x365000, x365001, x365002, x365003, x365004, x365005, x365006, x365007, x365008, x365009, x365010, x365011, x365012 => if x365001 = 1 then ((haberdashplay_Mod64.f x354009 10000).bind fun t376 => (some (x365000, x365001, x365002, x365003, x365004, x365005, x365006, x365007, x365008, wrap64 (1 + t376), x365010, x365011, x365012, ([] : List (S65)), ([] : List (S67))))) else (if x365001 = 2 then ((haberdashplay_Mod64.f x354010 900).bind fun t377 => (some (x365000, x365001, x365002, x365003, x365004, x365005, x365006, x365007, x365008, x365009, wrap64 (1 + t377), x365011, x365012, ([] : List (S65)), ([] : List (S67))))) else (if x365001 = 3 then ((haberdashplay_Mod64.f x354009 10000).bind fun t378 => ((haberdashplay_Mod.f x354011 3).bind fun t379 => ((haberdashplay_Mod.f x354012 2).bind fun t380 => (some (x365000, x365001, x365002, x365003, x365004, x365005, x365006, x365007, x365008, wrap64 (1 + t378), x365010, wrap64 (1 + t379), wrap64 (1 + t380), ([] : List (S65)), ([] : List (S67))))))) else (if x365001 = 4 then ((haberdashplay_Mod64.f x354010 3000).bind fun t381 => (haberdashplay_Promo.l0 k 0 x354000 x354001 x354002 x354003 x354004 x354005 x354006 x354007 x354008 x354009 x354010 x354011 x354012 x354013 x354014 x365000 x365001 x365002 x365003 x365004 x365005 x365008 x365009 t381 x365011 x365012 ([] : List (S65)))) else (if x365001 = 5 then ((haberdashplay_tiers.f k x354014 5000).bind fun t397 => (some (x365000, x365001, x365002, x365003, x365004, x365005, x365006, x365007, x365008, x365009, x365010, x365011, x365012, ([] : List (S65)), t397))) else (if x365001 = 6 then ((haberdashplay_tiers.f k x354014 5).bind fun t400 => (some (x365000, x365001, x365002, x365003, x365004, x365005, x365006, x365007, x365008, x365009, x365010, x365011, x365012, ([] : List (S65)), t400))) else ((haberdashplay_Mod64.f x354009 10000).bind fun t403 => (some (x365000, x365001, x365002, x365003, x365004, false, ([] : List ByteArray), ([] : List ByteArray), x365008, wrap64 (1 + t403), x365010, x365011, x365012, ([] : List (S65)), ([] : List (S67))))))))))
def haberdashplay_Promo.l0 : Nat → Int → ByteArray → Int → Int → ByteArray → ByteArray → Bool → List ByteArray → List ByteArray → Int → Int → Int → Int → Int → List (S65) → List (S67) → ByteArray → Int → Int → ByteArray → ByteArray → Bool → Int → Int → Int → Int → Int → List (S65) → Option (ByteArray × Int × Int × ByteArray × ByteArray × Bool × List ByteArray × List ByteArray × Int × Int × Int × Int × Int × (List (S65)) × (List (S67)))
 | 0, _, _, _, _, _, _, _, _, _, _, _, _, _, _, _, _, _, _, _, _, _, _, _, _, _, _, _, _ => none
 | k + 1, x6, x354000, x354001, x354002, x354003, x354004, x354005, x354006, x354007, x354008, x354009, x354010, x354011, x354012, x354013, x354014, x365000, x365001, x365002, x365003, x365004, x365005, x365008, x365009, x365010, x365011, x365012, x365013 => if x6 < (x354013.length : Int) then (haberdashplay_Promo.j4 k x6 (decide (x6 < 3)) x354000 x354001 x354002 x354003 x354004 x354005 x354006 x354007 x354008 x354009 x354010 x354011 x354012 x354013 x354014 x365000 x365001 x365002 x365003 x365004 x365005 x365008 x365009 x365010 x365011 x365012 x365013) else (haberdashplay_Promo.j4 k x6 false x354000 x354001 x354002 x354003 x354004 x354005 x354006 x354007 x354008 x354009 x354010 x354011 x354012 x354013 x354014 x365000 x365001 x365002 x365003 x365004 x365005 x365008 x365009 x365010 x365011 x365012 x365013)
def haberdashplay_Promo.j4 : Nat → Int → Bool → ByteArray → Int → Int → ByteArray → ByteArray → Bool → List ByteArray → List ByteArray → Int → Int → Int → Int → Int → List (S65) → List (S67) → ByteArray → Int → Int → ByteArray → ByteArray → Bool → Int → Int → Int → Int → Int → List (S65) → Option (ByteArray × Int × Int × ByteArray × ByteArray × Bool × List ByteArray × List ByteArray × Int × Int × Int × Int × Int × (List (S65)) × (List (S67)))
 | 0, _, _, _, _, _, _, _, _, _, _, _, _, _, _, _, _, _, _, _, _, _, _, _, _, _, _, _, _, _ => none
 | k + 1, x6, x113, x354000, x354001, x354002, x354003, x354004, x354005, x354006, x354007, x354008, x354009, x354010, x354011, x354012, x354013, x354014, x365000, x365001, x365002, x365003, x365004, x365005, x365008, x365009, x365010, x365011, x365012, x365013 => if x113 = true then (if 0 ≤ x6 then (if x6 < (x354013.length : Int) then ((haberdashplay_Scope.f k ((rd_T65 x354013 x6).f0.f0) ((rd_T65 x354013 x6).f0.f1)).bind fun bt383 => ((haberdashplay_Mod.f ((rd_T65 x354013 x6).f1) 2).bind fun t390 => (if x365013.length < 2513169434916 then (haberdashplay_Promo.l0 k (wrap64 (x6 + 1)) x354000 x354001 x354002 x354003 x354004 x354005 x354006 x354007 x354008 x354009 x354010 x354011 x354012 x354013 x354014 x365000 x365001 x365002 x365003 x365004 x365005 x365008 x365009 x365010 x365011 x365012 (x365013 ++ [(⟨(⟨bt383.1, bt383.2⟩ : S56), wrap64 (1 + t390)⟩ : S65)])) else (none)))) else (none)) else (none)) else (if (x365013.length : Int) = 0 then (some (x365000, x365001, x365002, x365003, x365004, x365005, ([] : List ByteArray), ([] : List ByteArray), x365008, x365009, x365010, x365011, x365012, (([(⟨(⟨([] : List ByteArray), ([] : List ByteArray)⟩ : S56), 2⟩ : S65)] : List (S65))), ([] : List (S67)))) else (some (x365000, x365001, x365002, x365003, x365004, x365005, ([] : List ByteArray), ([] : List ByteArray), x365008, x365009, x365010, x365011, x365012, x365013, ([] : List (S67)))))
end
def haberdashplay_Promo.f (k : Nat) (a0_0 : ByteArray) (a0_1 : Int) (a0_2 : Int) (a0_3 : ByteArray) (a0_4 : ByteArray) (a0_5 : Bool) (l0_6 : List ByteArray) (l0_7 : List ByteArray) (a0_8 : Int) (a0_9 : Int) (a0_10 : Int) (a0_11 : Int) (a0_12 : Int) (l0_13 : List (S65)) (l0_14 : List (S67)) (a1 : Int) : Option (ByteArray × Int × Int × ByteArray × ByteArray × Bool × List ByteArray × List ByteArray × Int × Int × Int × Int × Int × (List (S65)) × (List (S67))) := (haberdashplay_Id.f a1).bind fun t355 => ((haberdashplay_Mod.f (wrap64 (a0_1 - 1)) 7).bind fun t356 => ((haberdashplay_Mod.f a0_2 5).bind fun t357 => ((haberdashplay_Scope.f k l0_6 l0_7).bind fun bt358 => ((haberdashplay_pick.f k a0_3).bind fun t365 => ((haberdashplay_Mod.f t365 3).bind fun t366 => (if t366 = 1 then ((haberdashplay_Mod.f (a0_3.size : Int) 2).bind fun t367 => ((some (([(48 + ((t367) % 256)) % 256] : List Int) : List Int)).bind fun y368 => (if 1 + (strOfNums y368).size ≤ 9223372036854775807 then (haberdashplay_Promo.j0 k a0_0 a0_1 a0_2 a0_3 a0_4 a0_5 l0_6 l0_7 a0_8 a0_9 a0_10 a0_11 a0_12 l0_13 l0_14 t355 (wrap64 (1 + t356)) t357 ((⟨#[103]⟩ : ByteArray) ++ (strOfNums y368)) (⟨#[]⟩ : ByteArray) a0_5 bt358.1 bt358.2 0 0 0 0 0) else (none)))) else (haberdashplay_Promo.j0 k a0_0 a0_1 a0_2 a0_3 a0_4 a0_5 l0_6 l0_7 a0_8 a0_9 a0_10 a0_11 a0_12 l0_13 l0_14 t355 (wrap64 (1 + t356)) t357 (⟨#[]⟩ : ByteArray) (⟨#[]⟩ : ByteArray) a0_5 bt358.1 bt358.2 0 0 0 0 0)))))))
def haberdashplay_Promo.T1 : Bool × List (List Nat × List Nat) := (true, [([], []), ([0], [0]), ([], []), ([2], [2]), ([3], [3]), ([4, 1], [4]), ([5], [5]), ([], []), ([7], [7]), ([8, 5], [8]), ([], []), ([10], [10]), ([], []), ([12], [12]), ([13, 9], [13]), ([1, 6, 9, 11, 14], [1, 6, 9, 11, 14]), ([], []), ([16, 15, 14, 0, 1, 2, 3, 4, 5, 6, 7, 8, 9, 10, 11, 12, 13, 14, 15, 16], [15, 16])])
def haberdashplay_Promo.B1 : List Nat := [0, 1, 0, 4, 12, 31, 63, 0, 128, 447, 0, 1024, 0, 4096, 13247, 32767, 0, 131071]
theorem haberdashplay_Promo.tab1 : rtab .any (opsOf Try.f29 1) = haberdashplay_Promo.T1 := by kernel_rfl
theorem haberdashplay_Promo.bits1 : waitsOk haberdashplay_Promo.T1.2 haberdashplay_Promo.B1 = true := by kernel_rfl
def haberdashplay_Promo.T15 : Bool × List (List Nat × List Nat) := (true, [([], []), ([0], [0]), ([1], [1]), ([2], [2]), ([], []), ([4], [4]), ([5, 2], [5]), ([6], [6]), ([], []), ([8], [8]), ([9, 6], [9]), ([10], [10]), ([0, 1, 2, 3], []), ([12, 3, 10, 0, 1, 2, 3], [3, 12]), ([0, 1, 2, 3, 4, 5, 6, 7, 12, 13], []), ([14, 7, 13, 0, 1, 2, 3, 4, 5, 6, 7, 12, 13], [7, 14]), ([0, 1, 2, 3, 4, 5, 6, 7, 8, 9, 10, 11, 12, 13, 14, 15], []), ([16, 11, 15, 0, 1, 2, 3, 4, 5, 6, 7, 8, 9, 10, 11, 12, 13, 14, 15], [11, 16])])
def haberdashplay_Promo.B15 : List Nat := [0, 1, 3, 7, 0, 16, 55, 119, 0, 256, 887, 1911, 15, 6015, 14335, 30719, 65535, 131071]
theorem haberdashplay_Promo.tab15 : rtab .any (opsOf Try.f29 15) = haberdashplay_Promo.T15 := by kernel_rfl
theorem haberdashplay_Promo.bits15 : waitsOk haberdashplay_Promo.T15.2 haberdashplay_Promo.B15 = true := by kernel_rfl
def haberdashplay_Promo.T21 : Bool × List (List Nat × List Nat) := (true, [([], []), ([0], [0]), ([], []), ([2], [2]), ([], []), ([3, 4], [3, 4]), ([5], [5]), ([6], [6]), ([7], [7]), ([], []), ([9], [9]), ([], []), ([10, 11], [10, 11]), ([12], [12]), ([13], [13]), ([14, 8], [14]), ([15], [15]), ([8, 16], [8, 16]), ([17], [17]), ([1, 18, 15], [1, 18]), ([0, 1, 2, 3, 4, 5, 6, 7, 8, 9, 10, 11, 12, 13, 14, 15, 16, 17, 18, 19], []), ([20, 19, 19, 0, 1, 2, 3, 4, 5, 6, 7, 8, 9, 10, 11, 12, 13, 14, 15, 16, 17, 18, 19], [19, 20])])
def haberdashplay_Promo.B21 : List Nat := [0, 1, 0, 4, 0, 28, 60, 124, 252, 0, 512, 0, 3584, 7680, 15872, 32764, 65532, 131068, 262140, 524287, 1048575, 2097151]
theorem haberdashplay_Promo.tab21 : rtab .any (opsOf Try.f29 21) = haberdashplay_Promo.T21 := by kernel_rfl
end Go.Proofs.Ytdmeepjefccpgaa.Rw
end
