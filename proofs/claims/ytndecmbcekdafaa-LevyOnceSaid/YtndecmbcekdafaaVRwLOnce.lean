/- Functions of the program as Lean functions, each with its contract: out of what the kit's printer wrote for this seat. -/
import Derived.Test.YtndecmbcekdafaaVRwA
import Derived.Test.YtndecmbcekdafaaVRwPlain
import Derived.Test.YtndecmbcekdafaaVRwL19b
import Derived.Test.YtndecmbcekdafaaVRwLevy3
import Derived.Test.YtndecmbcekdafaaVRwPTax
namespace Go.Proofs.Ytndecmbcekdafaa.Rw
open Go.RowKit Go.Proofs.YtndecmbcekdafaaW.PrintWords Go.Proofs.YtndecmbcekdafaaW.PrintLast Go.Proofs.YtndecmbcekdafaaW.PrintMore
attribute [local go_sem] max2_int min2_int max_two min_two max_three min_three max_four min_four   -- for this text's walks alone
set_option linter.unusedVariables false
set_option linter.unusedSimpArgs false
attribute [local go_sem high] leqS gtrS

/-! ### haberdashlaw19_LevyOnce: function 6 -/
theorem anyR {α : Type} {d : Kd α} {e b : Nat} {ok : Nat → Prop} {w : World} {v : Value} {xs : List α} (h : d.R e w b ok v xs) : d.R e w b (fun _ => True) v xs := Kd.R_mono h (fun _ _ => trivial)
mutual
def haberdashlaw19_LevyOnce.l0 : Nat → Int → Bool → List Int → List ByteArray → Int → Int → Bool → Bool → Int → List (S56) → Option (Bool)
  | 0, _, _, _, _, _, _, _, _, _, _ => none
  | k + 1, x1, x3, x10, x11, x12, x13, x560000, x560001, x560002, x560003 => if x13 < (x10.length : Int) then (if 0 ≤ x13 then (if x13 < (x11.length : Int) then (haberdashlaw19_LevyOnce.l0 k x1 x3 x10 (x11.set (x13 : Int).toNat (⟨#[120]⟩ : ByteArray)) (wrap64 (x12 + (rd x10 x13))) (wrap64 (x13 + 1)) x560000 x560001 x560002 x560003) else (none)) else (none)) else ((haberdashplay_Zone.f x1).bind fun t579 => ((levy_Levy.f k x560000 x560001 x560002 x560003 t579 false x11 x10 0).bind fun bt580 => ((haberdashplay_Zone.f x1).bind fun t589 => ((levy_Levy.f k x560000 x560001 x560002 x560003 t589 false (([(⟨#[120]⟩ : ByteArray)] : List ByteArray)) (([x12] : List Int)) 0).bind fun bt596 => ((haberdashlaw19_awake.f k).bind fun t605 => (if t605 = true then (if bt580.2.2.2.2 = 0 then (if bt596.2.2.2.2 = 0 then (if (bt580.2.1.length : Int) = (x10.length : Int) then (haberdashlaw19_LevyOnce.j1 k x1 x3 x10 x11 bt580.2.1 bt596.2.1 ((bt596.2.1.length : Int) != 1) x560000 x560001 x560002 x560003) else (haberdashlaw19_LevyOnce.j1 k x1 x3 x10 x11 bt580.2.1 bt596.2.1 true x560000 x560001 x560002 x560003)) else (haberdashlaw19_LevyOnce.j1 k x1 x3 x10 x11 bt580.2.1 bt596.2.1 true x560000 x560001 x560002 x560003)) else (haberdashlaw19_LevyOnce.j1 k x1 x3 x10 x11 bt580.2.1 bt596.2.1 true x560000 x560001 x560002 x560003)) else (haberdashlaw19_LevyOnce.j1 k x1 x3 x10 x11 bt580.2.1 bt596.2.1 true x560000 x560001 x560002 x560003)))))))
def haberdashlaw19_LevyOnce.j1 : Nat → Int → Bool → List Int → List ByteArray → List Int → List Int → Bool → Bool → Bool → Int → List (S56) → Option (Bool)
  | 0, _, _, _, _, _, _, _, _, _, _, _ => none
  | k + 1, x1, x3, x10, x11, x15, x20, x109, x560000, x560001, x560002, x560003 => if x109 = true then (some false) else (haberdashlaw19_LevyOnce.l1 k x1 x3 x10 x11 x15 x20 0 0 x560000 x560001 x560002 x560003)
def haberdashlaw19_LevyOnce.l1 : Nat → Int → Bool → List Int → List ByteArray → List Int → List Int → Int → Int → Bool → Bool → Int → List (S56) → Option (Bool)
  | 0, _, _, _, _, _, _, _, _, _, _, _, _ => none
  | k + 1, x1, x3, x10, x11, x15, x20, x24, x25, x560000, x560001, x560002, x560003 => if x25 < (x10.length : Int) then ((haberdashplay_Zone.f x1).bind fun t607 => (if 0 ≤ x25 then (if x25 ≤ (wrap64 (x25 + 1)) then (if (wrap64 (x25 + 1)) ≤ (x11.length : Int) then (if (wrap64 (x25 + 1)) ≤ (x10.length : Int) then ((levy_Levy.f k x560000 x560001 x560002 x560003 t607 false ((x11.take ((wrap64 (x25 + 1)) : Int).toNat).drop (x25 : Int).toNat) ((x10.take ((wrap64 (x25 + 1)) : Int).toNat).drop (x25 : Int).toNat) 0).bind fun bt616 => (if bt616.2.2.2.2 = 0 then (if (bt616.2.1.length : Int) = 1 then (if x3 = true then (if x25 < (x15.length : Int) then (haberdashlaw19_LevyOnce.l1 k x1 x3 x10 x11 x15 x20 (wrap64 (x24 + (rd x15 x25))) (wrap64 (x25 + 1)) x560000 x560001 x560002 x560003) else (none)) else (if 0 < (bt616.2.1.length : Int) then (if x25 < (x15.length : Int) then (if (rd bt616.2.1 0) = (rd x15 x25) then (haberdashlaw19_LevyOnce.l1 k x1 x3 x10 x11 x15 x20 (wrap64 (x24 + (rd x15 x25))) (wrap64 (x25 + 1)) x560000 x560001 x560002 x560003) else (some false)) else (none)) else (none))) else (some false)) else (some false))) else (none)) else (none)) else (none)) else (none))) else (if x3 = true then (if 0 < (x20.length : Int) then (some (x24 == (rd x20 0))) else (none)) else (some true))
end
def haberdashlaw19_LevyOnce.f (k : Nat) (a0_0 : Bool) (a0_1 : Bool) (a0_2 : Int) (l0_3 : List (S56)) (a1 : Int) (l2 : List Int) (a3 : Bool) : Option (Bool) := (haberdashlaw19_few.f k a0_0 a0_1 a0_2 l0_3 ([] : List ByteArray) l2).bind fun t560 => (if t560 = true then ((haberdashplay_Tax.f k a0_0 a0_1 a0_2 l0_3).bind fun bt562 => ((haberdashlaw19_near.f k ([] : List Int) l2).bind fun bt568 => (if 0 ≤ (bt568.2.length : Int) then (if ((bt568.2.length : Int) : Int).toNat ≤ 17592186044416 then (haberdashlaw19_LevyOnce.l0 k a1 a3 bt568.2 (List.replicate ((bt568.2.length : Int) : Int).toNat (⟨#[]⟩ : ByteArray)) 0 0 bt562.1 a3 bt562.2.2.1 bt562.2.2.2) else (none)) else (none)))) else ((haberdashlaw19_awake.f k).bind fun t561 => (some t561)))
def haberdashlaw19_LevyOnce.T13 : Bool × List (List Nat × List Nat) := (true, [([], []), ([], []), ([1], [1]), ([], []), ([], []), ([0, 2, 3, 4, 2], [0, 2, 3, 4]), ([5], [5]), ([6], [6]), ([6], [6]), ([6], [6]), ([6], [6]), ([6], [6]), ([7, 5, 0, 1, 2, 3, 4, 5, 6, 7], [7]), ([8, 12, 0, 1, 2, 3, 4, 5, 6, 7, 8, 12], [8]), ([9, 13, 0, 1, 2, 3, 4, 5, 6, 7, 8, 9, 12, 13], [9]), ([10, 14, 0, 1, 2, 3, 4, 5, 6, 7, 8, 9, 10, 12, 13, 14], [10]), ([11, 15, 0, 1, 2, 3, 4, 5, 6, 7, 8, 9, 10, 11, 12, 13, 14, 15], [11])])
def haberdashlaw19_LevyOnce.B13 : List Nat := [0, 0, 2, 0, 0, 31, 63, 127, 127, 127, 127, 127, 255, 4607, 13311, 30719, 65535]
theorem haberdashlaw19_LevyOnce.tab13 : rtab .any (opsOf Try.f6 13) = haberdashlaw19_LevyOnce.T13 := by kernel_rfl
theorem haberdashlaw19_LevyOnce.bits13 : waitsOk haberdashlaw19_LevyOnce.T13.2 haberdashlaw19_LevyOnce.B13 = true := by kernel_rfl
def haberdashlaw19_LevyOnce.T14 : Bool × List (List Nat × List Nat) := (true, [([], []), ([], []), ([1], [1]), ([], []), ([], []), ([4], [4]), ([0, 2, 3, 5, 2], [0, 2, 3, 5]), ([6], [6]), ([7], [7]), ([7], [7]), ([7], [7]), ([7], [7]), ([7], [7]), ([8, 6, 0, 1, 2, 3, 4, 5, 6, 7, 8], [8]), ([9, 13, 0, 1, 2, 3, 4, 5, 6, 7, 8, 9, 13], [9]), ([10, 14, 0, 1, 2, 3, 4, 5, 6, 7, 8, 9, 10, 13, 14], [10]), ([11, 15, 0, 1, 2, 3, 4, 5, 6, 7, 8, 9, 10, 11, 13, 14, 15], [11]), ([12, 16, 0, 1, 2, 3, 4, 5, 6, 7, 8, 9, 10, 11, 12, 13, 14, 15, 16], [12])])
def haberdashlaw19_LevyOnce.B14 : List Nat := [0, 0, 2, 0, 0, 16, 63, 127, 255, 255, 255, 255, 255, 511, 9215, 26623, 61439, 131071]
theorem haberdashlaw19_LevyOnce.tab14 : rtab .any (opsOf Try.f6 14) = haberdashlaw19_LevyOnce.T14 := by kernel_rfl
theorem haberdashlaw19_LevyOnce.bits14 : waitsOk haberdashlaw19_LevyOnce.T14.2 haberdashlaw19_LevyOnce.B14 = true := by kernel_rfl
def haberdashlaw19_LevyOnce.T21 : Bool × List (List Nat × List Nat) := (true, [([], []), ([], []), ([1], [1]), ([], []), ([], []), ([], []), ([5], [5]), ([3, 4, 6], [3, 4, 6]), ([], []), ([], []), ([], []), ([10], [10]), ([8, 9, 11], [8, 9, 11]), ([0, 2, 7, 12, 2], [0, 2, 7, 12]), ([13], [13]), ([14], [14]), ([14], [14]), ([14], [14]), ([14], [14]), ([14], [14]), ([15, 13, 0, 1, 2, 3, 4, 5, 6, 7, 8, 9, 10, 11, 12, 13, 14, 15], [15]), ([16, 20, 0, 1, 2, 3, 4, 5, 6, 7, 8, 9, 10, 11, 12, 13, 14, 15, 16, 20], [16]), ([17, 21, 0, 1, 2, 3, 4, 5, 6, 7, 8, 9, 10, 11, 12, 13, 14, 15, 16, 17, 20, 21], [17]), ([18, 22, 0, 1, 2, 3, 4, 5, 6, 7, 8, 9, 10, 11, 12, 13, 14, 15, 16, 17, 18, 20, 21, 22], [18]), ([19, 23, 0, 1, 2, 3, 4, 5, 6, 7, 8, 9, 10, 11, 12, 13, 14, 15, 16, 17, 18, 19, 20, 21, 22, 23], [19])])
def haberdashlaw19_LevyOnce.B21 : List Nat := [0, 0, 2, 0, 0, 0, 32, 120, 0, 0, 0, 1024, 3840, 8191, 16383, 32767, 32767, 32767, 32767, 32767, 65535, 1179647, 3407871, 7864319, 16777215]
theorem haberdashlaw19_LevyOnce.tab21 : rtab .any (opsOf Try.f6 21) = haberdashlaw19_LevyOnce.T21 := by kernel_rfl
theorem haberdashlaw19_LevyOnce.bits21 : waitsOk haberdashlaw19_LevyOnce.T21.2 haberdashlaw19_LevyOnce.B21 = true := by kernel_rfl
def haberdashlaw19_LevyOnce.T22 : Bool × List (List Nat × List Nat) := (true, [([], []), ([0], [0]), ([1], [1]), ([2], [2]), ([3, 2], [2, 3]), ([4, 2], [2, 4]), ([2, 5], [2, 5]), ([6, 2], [6]), ([7], [7]), ([8, 7], [7, 8]), ([9, 7, 7], [7, 9]), ([10], [10]), ([11, 10], [10, 11]), ([12, 10], [10, 12]), ([10], [10]), ([10], [10]), ([14, 15, 10], [10, 14, 15]), ([16, 10], [10, 16]), ([13, 17, 10], [10, 13, 17]), ([10, 18, 7], [7, 10, 18]), ([7, 19], [7, 19])])
def haberdashlaw19_LevyOnce.B22 : List Nat := [0, 1, 3, 7, 15, 31, 63, 127, 255, 511, 1023, 2047, 4095, 8191, 2047, 2047, 51199, 116735, 262143, 524287, 1048575]
theorem haberdashlaw19_LevyOnce.tab22 : rtab .any (opsOf Try.f6 22) = haberdashlaw19_LevyOnce.T22 := by kernel_rfl
theorem haberdashlaw19_LevyOnce.bits22 : waitsOk haberdashlaw19_LevyOnce.T22.2 haberdashlaw19_LevyOnce.B22 = true := by kernel_rfl
set_option maxHeartbeats 8000000 in
set_option maxRecDepth 100000 in
theorem haberdashlaw19_LevyOnce.calls (k : Nat) (a0_0 : Bool) (a0_1 : Bool) (a0_2 : Int) (A0_3 : Option Addr) (c0_3 : Nat) (l0_3 : List (S56)) (a1 : Int) (A2 : Option Addr) (c2 : Nat) (l2 : List Int) (a3 : Bool) (r : Bool) (w : World) (hr0_3 : Kd.C k56 w A0_3 l0_3.length l0_3) (hc0_3 : l0_3.length ≤ c0_3) (hr2 : Kd.C (Kd.int .i64) w A2 l2.length l2) (hc2 : l2.length ≤ c2) (h : haberdashlaw19_LevyOnce.f k a0_0 a0_1 a0_2 l0_3 a1 l2 a3 = some r) :
   Calls Try.prog 6 #[.agg #[.bool a0_0, .bool a0_1, .int .i64 a0_2, .slice A0_3 l0_3.length c0_3], .int .i64 a1, .slice A2 l2.length c2, .bool a3] w fun e w' => e = .returned (.bool r) ∧ Below w.heap.size w w' := by
  have hu24 := Try.underlying24
  have HR0_3 := Aside0.mk hr0_3
  have HC0_3 := Aside0.mk hc0_3
  clear hr0_3 hc0_3
  have HR2 := Aside0.mk hr2
  have HC2 := Aside0.mk hc2
  clear hr2 hc2
  have HB := Aside0.mk (Below.refl w.heap.size w)
  have H : ((haberdashlaw19_few.f k a0_0 a0_1 a0_2 l0_3 ([] : List ByteArray) l2).bind fun t560 => (if t560 = true then ((haberdashplay_Tax.f k a0_0 a0_1 a0_2 l0_3).bind fun bt562 => ((haberdashlaw19_near.f k ([] : List Int) l2).bind fun bt568 => (if 0 ≤ (bt568.2.length : Int) then (if ((bt568.2.length : Int) : Int).toNat ≤ 17592186044416 then (haberdashlaw19_LevyOnce.l0 k a1 a3 bt568.2 (List.replicate ((bt568.2.length : Int) : Int).toNat (⟨#[]⟩ : ByteArray)) 0 0 bt562.1 a3 bt562.2.2.1 bt562.2.2.2) else (none)) else (none)))) else ((haberdashlaw19_awake.f k).bind fun t561 => (some t561)))) = some r := h
  clear h
  replace H := Option.bind_eq_some_iff.mp H
  obtain ⟨t560, A50, H⟩ := H
  replace H : (if t560 = true then ((haberdashplay_Tax.f k a0_0 a0_1 a0_2 l0_3).bind fun bt562 => ((haberdashlaw19_near.f k ([] : List Int) l2).bind fun bt568 => (if 0 ≤ (bt568.2.length : Int) then (if ((bt568.2.length : Int) : Int).toNat ≤ 17592186044416 then (haberdashlaw19_LevyOnce.l0 k a1 a3 bt568.2 (List.replicate ((bt568.2.length : Int) : Int).toNat (⟨#[]⟩ : ByteArray)) 0 0 bt562.1 a3 bt562.2.2.1 bt562.2.2.2) else (none)) else (none)))) else ((haberdashlaw19_awake.f k).bind fun t561 => (some t561))) = some r := H
  have A5 := Aside0.mk A50
  clear A50
  by_cases c6 : t560 = true
  ·
   subst c6
   have H1 : ((haberdashplay_Tax.f k a0_0 a0_1 a0_2 l0_3).bind fun bt562 => ((haberdashlaw19_near.f k ([] : List Int) l2).bind fun bt568 => (if 0 ≤ (bt568.2.length : Int) then (if ((bt568.2.length : Int) : Int).toNat ≤ 17592186044416 then (haberdashlaw19_LevyOnce.l0 k a1 a3 bt568.2 (List.replicate ((bt568.2.length : Int) : Int).toNat (⟨#[]⟩ : ByteArray)) 0 0 bt562.1 a3 bt562.2.2.1 bt562.2.2.2) else (none)) else (none)))) = some r := by rw [if_pos rfl] at H; exact H
   clear H
   have H := H1
   clear H1
   replace H := Option.bind_eq_some_iff.mp H
   obtain ⟨⟨t562, t563, t564, t565⟩, A70, H⟩ := H
   replace H : ((haberdashlaw19_near.f k ([] : List Int) l2).bind fun bt568 => (if 0 ≤ (bt568.2.length : Int) then (if ((bt568.2.length : Int) : Int).toNat ≤ 17592186044416 then (haberdashlaw19_LevyOnce.l0 k a1 a3 bt568.2 (List.replicate ((bt568.2.length : Int) : Int).toNat (⟨#[]⟩ : ByteArray)) 0 0 t562 a3 t564 t565) else (none)) else (none))) = some r := H
   have A7 := Aside0.mk A70
   clear A70
   replace H := Option.bind_eq_some_iff.mp H
   obtain ⟨⟨t568, t569⟩, A80, H⟩ := H
   replace H : (if 0 ≤ (t569.length : Int) then (if ((t569.length : Int) : Int).toNat ≤ 17592186044416 then (haberdashlaw19_LevyOnce.l0 k a1 a3 t569 (List.replicate ((t569.length : Int) : Int).toNat (⟨#[]⟩ : ByteArray)) 0 0 t562 a3 t564 t565) else (none)) else (none)) = some r := H
   have A8 := Aside0.mk A80
   clear A80
   by_cases c9 : 0 ≤ (t569.length : Int)
   ·
    rw [if_pos c9] at H
    have c9b0 := eq_true c9
    have c9b1 : decide (0 ≤ (t569.length : Int)) = true := decide_eq_true c9
    clear c9
    by_cases c10 : ((t569.length : Int) : Int).toNat ≤ 17592186044416
    ·
     rw [if_pos c10] at H
     have c10b0 := eq_true c10
     have c10b1 : decide (((t569.length : Int) : Int).toNat ≤ 17592186044416) = true := decide_eq_true c10
     clear c10
     obtain ⟨y574, hy574⟩ : ∃ y_ : List ByteArray, y_ = (List.replicate ((t569.length : Int) : Int).toNat (⟨#[]⟩ : ByteArray)) := ⟨_, rfl⟩
     replace H : (haberdashlaw19_LevyOnce.l0 k a1 a3 t569 y574 0 0 t562 a3 t564 t565) = some r := by first | (rw [hy574]; with_reducible exact H) | (have H2_ := (Option.bind_some _ _).symm.trans H; rw [hy574]; with_reducible exact H2_) | (have H2_ := (Option.bind_some _ _).symm.trans H; with_reducible exact H2_) | with_reducible exact H | (rw [hy574]; exact H) | exact H
     have Ny574 := Aside0.mk hy574
     clear hy574
     have H' := Aside0.mk H
     clear H
     go_enter Try.func6, Try.ntmps6
     go_wp2_with (first | ((with_reducible refine gate_dst (N := 4) rfl ?_); (try (refine gate_guard (by rfl) ?_; dsimp only)); refine box_event ?hg (N := 4) ?hd (cs := #[.bool a0_0, .bool a0_1, .int .i64 a0_2, .slice A0_3 l0_3.length c0_3]) (t := 24) ?hr ?_; (case hd => rfl); (case hg => rfl); (case hr => first | (go_simp; done) | (go_simp; rfl)); intro gb559 hg w11 hbox hb; have BK559 := Aside0.mk (hbox); have GW559 := Aside0.mk ((by rw [hg]; exact (below_size (by repeat (first | (with_reducible first | exact HB.out | apply below_alloc | apply pw_below_drewN | apply below_drew1) | exact HB.out))) : w.heap.size ≤ gb559)); have GE559 := Aside0.mk ((by rw [hg]; exact (below_size (by repeat (first | (with_reducible first | exact HB.out | apply below_alloc | apply pw_below_drewN | apply below_drew1) | exact HB.out))) : w.heap.size ≤ gb559)); replace HB := Aside0.mk (below_step (by repeat (first | (with_reducible first | exact HB.out | apply below_alloc | apply pw_below_drewN | apply below_drew1) | exact HB.out)) hb); clear hb hbox hg; have hcz12_0 : w11.cell? ⟨gb559, 0, none⟩ = some (.bool a0_0) := (blk_cell BK559.out 0).trans rfl; have hcz12_1 : w11.cell? ⟨gb559, 1, none⟩ = some (.bool a0_1) := (blk_cell BK559.out 1).trans rfl; have hcz12_2 : w11.cell? ⟨gb559, 2, none⟩ = some (.int .i64 a0_2) := (blk_cell BK559.out 2).trans rfl; have hcz12_3 : w11.cell? ⟨gb559, 3, none⟩ = some (.slice A0_3 l0_3.length c0_3) := (blk_cell BK559.out 3).trans rfl; have hfz12_0 := blk_frozen BK559.out 0; have hfz12_1 := blk_frozen BK559.out 1; have hfz12_2 := blk_frozen BK559.out 2; have hfz12_3 := blk_frozen BK559.out 3) | ((with_reducible refine gate_callee (f := 13) rfl ?_); refine goesL_ (some 33) rfl rfl Try.func13 (by kernel_rfl) rfl #[.agg #[.bool a0_0, .bool a0_1, .int .i64 a0_2, .slice A0_3 l0_3.length c0_3], .slice none 0 0, .slice A2 l2.length c2] rfl (by (try simp only [List.map_toArray, List.map_cons, List.map_nil]); first | done | rfl | (simp only [List.length_drop, List.length_take]; rfl)) ?_; (refine (haberdashlaw19_few.calls k a0_0 a0_1 a0_2 _ _ l0_3 _ _ ([] : List ByteArray) _ _ l2 true _ ?side1 ?side2 ?side3 ?side4 ?side5 ?side6 A5.out).mono ?_); (case side1 => repeat (first | exact (Kd.C_below HR0_3.out HB.out) | (with_reducible refine Kd.C_alloc ?_ _) | (with_reducible refine Kd.C_drewN ?_ _) | (with_reducible refine Kd.C_drew ?_))); (case side2 => exact HC0_3.out); (case side3 => exact Kd.C_nil _ _); (case side4 => exact Nat.le_refl _); (case side5 => repeat (first | exact (Kd.C_below HR2.out HB.out) | (with_reducible refine Kd.C_alloc ?_ _) | (with_reducible refine Kd.C_drewN ?_ _) | (with_reducible refine Kd.C_drew ?_))); (case side6 => exact HC2.out); rintro e w13 ⟨rfl, hb⟩; refine ⟨_, rfl, ?_⟩; replace BK559 := Aside0.mk (blk_below (g := gb559) (o := .cells #[.bool a0_0, .bool a0_1, .int .i64 a0_2, .slice A0_3 l0_3.length c0_3] 24 (0, 0)) (by (with_reducible repeat (first | refine blk_drewN ?_ _ | refine blk_drew ?_ | refine blk_alloc ?_ _)); exact BK559.out) hb); replace HB := Aside0.mk (below_step (by repeat (first | (with_reducible first | exact HB.out | apply below_alloc | apply pw_below_drewN | apply below_drew1 | refine below_set ?_ GE559.out) | exact HB.out)) hb); (try clear hb); (try clear hb2); (try clear hk); (try clear hi); have hcz14_0 : w13.cell? ⟨gb559, 0, none⟩ = some (.bool a0_0) := (blk_cell BK559.out 0).trans rfl; have hcz14_1 : w13.cell? ⟨gb559, 1, none⟩ = some (.bool a0_1) := (blk_cell BK559.out 1).trans rfl; have hcz14_2 : w13.cell? ⟨gb559, 2, none⟩ = some (.int .i64 a0_2) := (blk_cell BK559.out 2).trans rfl; have hcz14_3 : w13.cell? ⟨gb559, 3, none⟩ = some (.slice A0_3 l0_3.length c0_3) := (blk_cell BK559.out 3).trans rfl; have hfz14_0 := blk_frozen BK559.out 0; have hfz14_1 := blk_frozen BK559.out 1; have hfz14_2 := blk_frozen BK559.out 2; have hfz14_3 := blk_frozen BK559.out 3) | ((with_reducible refine gate_callee (f := 15) rfl ?_); refine goesL_ (some 37) rfl rfl Try.func15 (by kernel_rfl) rfl #[.agg #[.bool a0_0, .bool a0_1, .int .i64 a0_2, .slice A0_3 l0_3.length c0_3]] rfl (by (try simp only [List.map_toArray, List.map_cons, List.map_nil]); first | done | rfl | (simp only [List.length_drop, List.length_take]; rfl)) ?_; (with_reducible refine (haberdashplay_Tax.calls k a0_0 a0_1 a0_2 _ _ l0_3 t562 t563 t564 t565 _ ?side1 ?side2 A7.out).mono ?_); (case side1 => repeat (first | exact (Kd.C_below HR0_3.out HB.out) | (with_reducible refine Kd.C_alloc ?_ _) | (with_reducible refine Kd.C_drewN ?_ _) | (with_reducible refine Kd.C_drew ?_))); (case side2 => exact HC0_3.out); rintro e w15 ⟨v566, rfl, ho0, hb⟩; refine ⟨_, rfl, ?_⟩; have HO567 := Aside0.mk (Kd.S_lower ho0 (below_size (by repeat (first | (with_reducible first | exact HB.out | apply below_alloc | apply pw_below_drewN | apply below_drew1 | refine below_set ?_ GE559.out) | exact HB.out)))); replace BK559 := Aside0.mk (blk_below (g := gb559) (o := .cells #[.bool a0_0, .bool a0_1, .int .i64 a0_2, .slice A0_3 l0_3.length c0_3] 24 (0, 0)) (by (with_reducible repeat (first | refine blk_drewN ?_ _ | refine blk_drew ?_ | refine blk_alloc ?_ _)); exact BK559.out) hb); replace HB := Aside0.mk (below_step (by repeat (first | (with_reducible first | exact HB.out | apply below_alloc | apply pw_below_drewN | apply below_drew1 | refine below_set ?_ GE559.out) | exact HB.out)) hb); (try clear hb); (try clear hb2); (try clear hk); (try clear hi); (try clear ho0); have hcz16_0 : w15.cell? ⟨gb559, 0, none⟩ = some (.bool a0_0) := (blk_cell BK559.out 0).trans rfl; have hcz16_1 : w15.cell? ⟨gb559, 1, none⟩ = some (.bool a0_1) := (blk_cell BK559.out 1).trans rfl; have hcz16_2 : w15.cell? ⟨gb559, 2, none⟩ = some (.int .i64 a0_2) := (blk_cell BK559.out 2).trans rfl; have hcz16_3 : w15.cell? ⟨gb559, 3, none⟩ = some (.slice A0_3 l0_3.length c0_3) := (blk_cell BK559.out 3).trans rfl; have hfz16_0 := blk_frozen BK559.out 0; have hfz16_1 := blk_frozen BK559.out 1; have hfz16_2 := blk_frozen BK559.out 2; have hfz16_3 := blk_frozen BK559.out 3; obtain ⟨Ao17, co17, eo17⟩ := Kd.S_slice HO567.out; subst eo17) | ((with_reducible refine gate_callee (f := 25) rfl ?_); refine goesL_ (some 42) rfl rfl Try.func25 (by kernel_rfl) rfl #[.slice none 0 0, .slice A2 l2.length c2] rfl (by (try simp only [List.map_toArray, List.map_cons, List.map_nil]); first | done | rfl | (simp only [List.length_drop, List.length_take]; rfl)) ?_; (refine (haberdashlaw19_near.calls k _ _ ([] : List Int) _ _ l2 t568 t569 _ ?side1 ?side2 ?side3 ?side4 A8.out).mono ?_); (case side1 => exact Kd.C_nil _ _); (case side2 => exact Nat.le_refl _); (case side3 => exact Kd.C_below HR2.out (by repeat (first | (with_reducible first | exact HB.out | apply below_alloc | apply pw_below_drewN | apply below_drew1 | refine below_set ?_ GE559.out) | exact HB.out))); (case side4 => exact HC2.out); rintro e w18 ⟨v570, v572, rfl, ho0, ho1, hb⟩; refine ⟨_, rfl, ?_⟩; replace HO567 := Aside0.mk (Kd.S_below (by (with_reducible repeat (first | apply Kd.S_alloc | apply Kd.S_drewN | apply Kd.S_drew)); exact (Kd.S_mono (Kd.S_far (p := ⟨gb559, 1, none⟩) (Kd.S_far (p := ⟨gb559, 3, none⟩) (Kd.S_far (p := ⟨gb559, 2, none⟩) (Kd.S_far (p := ⟨gb559, 1, none⟩) (Kd.S_far (p := ⟨gb559, 0, none⟩) (Kd.S_types HO567.out BK559.out (by decide)) (fun _ hk => hk.2) (.bool t562)) (fun _ hk => hk.2) (.bool t563)) (fun _ hk => hk.2) (.int .i64 t564)) (fun _ hk => hk.2) (.slice Ao17 t565.length co17)) (fun _ hk => hk.2) (.bool a3)) (fun _ h_ => h_.1))) hb); have HO571 := Aside0.mk (Kd.R_lower ho0 (below_size (by repeat (first | (with_reducible first | exact HB.out | apply below_alloc | apply pw_below_drewN | apply below_drew1 | refine below_set ?_ GE559.out) | exact HB.out)))); have HO573 := Aside0.mk (Kd.R_lower ho1 (below_size (by repeat (first | (with_reducible first | exact HB.out | apply below_alloc | apply pw_below_drewN | apply below_drew1 | refine below_set ?_ GE559.out) | exact HB.out)))); replace BK559 := Aside0.mk (blk_below (g := gb559) (o := .cells #[.bool t562, .bool a3, .int .i64 t564, .slice Ao17 t565.length co17] 24 (0, 0)) (by (with_reducible repeat (first | refine blk_drewN ?_ _ | refine blk_drew ?_ | refine blk_alloc ?_ _)); refine blk_put (cs := #[.bool t562, .bool t563, .int .i64 t564, .slice Ao17 t565.length co17]) ?_ 1 _ rfl; (with_reducible repeat (first | refine blk_drewN ?_ _ | refine blk_drew ?_ | refine blk_alloc ?_ _)); refine blk_put (cs := #[.bool t562, .bool t563, .int .i64 t564, .slice A0_3 l0_3.length c0_3]) ?_ 3 _ rfl; (with_reducible repeat (first | refine blk_drewN ?_ _ | refine blk_drew ?_ | refine blk_alloc ?_ _)); refine blk_put (cs := #[.bool t562, .bool t563, .int .i64 a0_2, .slice A0_3 l0_3.length c0_3]) ?_ 2 _ rfl; (with_reducible repeat (first | refine blk_drewN ?_ _ | refine blk_drew ?_ | refine blk_alloc ?_ _)); refine blk_put (cs := #[.bool t562, .bool a0_1, .int .i64 a0_2, .slice A0_3 l0_3.length c0_3]) ?_ 1 _ rfl; (with_reducible repeat (first | refine blk_drewN ?_ _ | refine blk_drew ?_ | refine blk_alloc ?_ _)); refine blk_put (cs := #[.bool a0_0, .bool a0_1, .int .i64 a0_2, .slice A0_3 l0_3.length c0_3]) ?_ 0 _ rfl; (with_reducible repeat (first | refine blk_drewN ?_ _ | refine blk_drew ?_ | refine blk_alloc ?_ _)); exact BK559.out) hb); replace HB := Aside0.mk (below_step (by repeat (first | (with_reducible first | exact HB.out | apply below_alloc | apply pw_below_drewN | apply below_drew1 | refine below_set ?_ GE559.out) | exact HB.out)) hb); (try clear hb); (try clear hb2); (try clear hk); (try clear hi); (try clear ho0); (try clear ho1); obtain ⟨Ao19, co19, eo19⟩ := Kd.R_slice HO573.out; subst eo19) | ((with_reducible refine gate_dst (N := 47) rfl ?_); (try (refine gate_guard (by rfl) ?_; dsimp only)); refine Kd.R_make Kd.string _ 9 rfl (N := 47) rfl 25 _ _ rfl (t569.length : Int) rfl rfl Try.underlying25 (.string ⟨#[]⟩) 16 info9 rfl (by decide) (by omega) (⟨#[]⟩ : ByteArray) (ok := fun _ => True) (okp := fun _ => True) rfl (fun _ hk => hk) trivial (of_decide_eq_true (by first | (with_reducible assumption) | assumption)) (Nat.le_trans (Nat.mul_le_mul_right _ (of_decide_eq_true (by first | (with_reducible assumption) | assumption) : (t569.length : Int).toNat ≤ 17592186044416)) (by omega)) (Below.refl _ _) (Nat.le_refl _) ?_; intro v575 w20 ho21 hb hg_ hnew_; clear hg_ hnew_; (first | rw [← Ny574.out] at ho21 | (simp only [Int.reduceToNat] at ho21; rw [← Ny574.out] at ho21)); replace HO567 := Aside0.mk (Kd.S_below (by (with_reducible repeat (first | apply Kd.S_alloc | apply Kd.S_drewN | apply Kd.S_drew)); exact HO567.out) hb); replace HO573 := Aside0.mk (Kd.R_below (by (with_reducible repeat (first | apply Kd.R_alloc | apply Kd.R_drewN | apply Kd.R_drew)); exact HO573.out) hb); have HO576 := Aside0.mk (Kd.R_lower (Kd.R_new' ho21 (Kd.R_lt (by (with_reducible repeat (first | apply Kd.R_alloc | apply Kd.R_drewN | apply Kd.R_drew)); exact HO571.out))) (below_size (by repeat (first | (with_reducible first | exact HB.out | apply below_alloc | apply pw_below_drewN | apply below_drew1 | refine below_set ?_ GE559.out) | exact HB.out)))); replace HO571 := Aside0.mk (Kd.R_elder' (by (with_reducible repeat (first | apply Kd.R_alloc | apply Kd.R_drewN | apply Kd.R_drew)); exact HO571.out) (Kd.R_base ho21) hb); replace BK559 := Aside0.mk (blk_below (g := gb559) (o := .cells #[.bool t562, .bool a3, .int .i64 t564, .slice Ao17 t565.length co17] 24 (0, 0)) (by (with_reducible repeat (first | refine blk_drewN ?_ _ | refine blk_drew ?_ | refine blk_alloc ?_ _)); exact BK559.out) hb); replace HB := Aside0.mk (below_step (by repeat (first | (with_reducible first | exact HB.out | apply below_alloc | apply pw_below_drewN | apply below_drew1 | refine below_set ?_ GE559.out) | exact HB.out)) hb); clear hb ho21))
     (try simp only [addr0])
     go_loopg [12, 13] k (fun kq v12 v13 w' => ∃ (x11_1 : List ByteArray) (x12_1 : Int) (x13_1 : Int), v12 = .int .i64 x12_1 ∧ v13 = .int .i64 x13_1 ∧ Aside0 (haberdashlaw19_LevyOnce.l0 kq a1 a3 t569 x11_1 x12_1 x13_1 t562 a3 t564 t565 = some r) ∧ Aside0 (kq ≤ k) ∧ Aside0 (Kd.R (Kd.int .i64) 2 w' w.heap.size (fun _ => True) (.slice Ao19 t569.length co19) t569) ∧ Aside0 (Kd.R Kd.string 9 w' w.heap.size (fun _ => True) v575 x11_1) ∧ Aside0 (Kd.S k56 56 w' w.heap.size (fun _ => True) (.slice Ao17 t565.length co17) t565) ∧ Aside0 (w'.heap[gb559]? = some (.cells #[.bool t562, .bool a3, .int .i64 t564, (.slice Ao17 t565.length co17)] 24 (0, 0))) ∧ Aside0 (Below w.heap.size w w'))
     case atStart => exact ⟨(y574), (0), (0), (by first | rfl | (simp; done) | (simp [*]; done)), (by first | rfl | (simp; done) | (simp [*]; done)), H', ⟨Nat.le_refl _⟩, ⟨by (with_reducible repeat (first | apply Kd.R_alloc | apply Kd.R_drewN | apply Kd.R_drew)); exact HO573.out⟩, ⟨by (with_reducible repeat (first | apply Kd.R_alloc | apply Kd.R_drewN | apply Kd.R_drew)); exact Kd.R_mono HO576.out (fun _ hk => trivial)⟩, ⟨by (with_reducible repeat (first | apply Kd.S_alloc | apply Kd.S_drewN | apply Kd.S_drew)); exact HO567.out⟩, ⟨by (with_reducible repeat (first | refine blk_drewN ?_ _ | refine blk_drew ?_ | refine blk_alloc ?_ _)); exact BK559.out⟩, ⟨by repeat (first | (with_reducible first | exact HB.out | apply below_alloc | apply pw_below_drewN | apply below_drew1 | refine below_set ?_ GE559.out) | exact HB.out)⟩⟩
     case round =>
      clear H'
      try clear c1
      try clear c2
      try clear p2
      try clear c6
      try clear c9
      try clear c9b0
      try clear c9b1
      try clear c10
      try clear c10b0
      try clear c10b1
      try clear c13
      try clear c15
      try clear hcz12_0
      try clear hcz12_1
      try clear hcz12_2
      try clear hcz12_3
      try clear hcz14_0
      try clear hcz14_1
      try clear hcz14_2
      try clear hcz14_3
      try clear hcz16_0
      try clear hcz16_1
      try clear hcz16_2
      try clear hcz16_3
      try clear hfz12_0
      try clear hfz12_1
      try clear hfz12_2
      try clear hfz12_3
      try clear hfz14_0
      try clear hfz14_1
      try clear hfz14_2
      try clear hfz14_3
      try clear hfz16_0
      try clear hfz16_1
      try clear hfz16_2
      try clear hfz16_3
      obtain ⟨x11_1, x12_1, x13_1, rfl, rfl, HA, HK1, HO_10, HO_11, HO_560003, BK559, HB⟩ := hrel
      cases gk with
      | zero => exact absurd HA.out (by simp [haberdashlaw19_LevyOnce.l0])
      | succ k1 =>
       have H := HA.out
       clear HA
       simp only [haberdashlaw19_LevyOnce.l0] at H
       by_cases c22 : x13_1 < (t569.length : Int)
       ·
        rw [if_pos c22] at H
        have c22b0 : decide (x13_1 < (t569.length : Int)) = true := decide_eq_true c22
        clear c22
        by_cases c23 : 0 ≤ x13_1
        ·
         rw [if_pos c23] at H
         have c23b0 : decide (0 ≤ x13_1) = true := decide_eq_true c23
         clear c23
         by_cases c24 : x13_1 < (x11_1.length : Int)
         ·
          rw [if_pos c24] at H
          have c24b0 : decide (x13_1 < (x11_1.length : Int)) = true := decide_eq_true c24
          clear c24
          obtain ⟨y577, hy577⟩ : ∃ y_ : List ByteArray, y_ = (x11_1.set (x13_1 : Int).toNat (⟨#[120]⟩ : ByteArray)) := ⟨_, rfl⟩
          replace H : (haberdashlaw19_LevyOnce.l0 k1 a1 a3 t569 y577 (wrap64 (x12_1 + (rd t569 x13_1))) (wrap64 (x13_1 + 1)) t562 a3 t564 t565) = some r := by first | (rw [hy577]; with_reducible exact H) | (have H2_ := (Option.bind_some _ _).symm.trans H; rw [hy577]; with_reducible exact H2_) | (have H2_ := (Option.bind_some _ _).symm.trans H; with_reducible exact H2_) | with_reducible exact H | (rw [hy577]; exact H) | exact H
          have Ny577 := Aside0.mk hy577
          clear hy577
          have H' := Aside0.mk H
          clear H
          have p25 : 0 ≤ (x13_1 : Int) := of_decide_eq_true (by first | (with_reducible assumption) | assumption)
          have q25 : (x13_1 : Int) < ((x11_1.length : Int) : Int) := of_decide_eq_true (by first | (with_reducible assumption) | assumption)
          obtain ⟨go25, co25, eo25, gb25, gl25, cl25, HG25⟩ := Kd.R_form HO_11.out (by omega)
          (first | cases eo25 | (injection eo25 with ea_ en_ ec_; (first | subst ea_ | (injection ea_ with ea_; subst ea_)); subst ec_; clear en_))
          have GB25 := Aside0.mk gb25
          have GG25 := Aside0.mk HG25
          clear gb25 gl25 HG25
          obtain ⟨hx25_0, hf25_0⟩ := Kd.R_celln (⟨#[]⟩ : ByteArray) HO_11.out (x13_1 : Int) p25 q25
          replace p25 := eq_true p25
          replace q25 := eq_true q25
          have HP26 := Kd.R_putg HO_11.out (x13_1 : Int) (⟨#[120]⟩ : ByteArray)
          go_wp2_with (first | ((with_reducible refine gate_store (t := 9) (p := 56) rfl ?_); refine store_event (t := 9) (p := 56) (v := ?vo_w27) (w1 := (wr.setCell ⟨go25, (x13_1 : Int).toNat, none⟩ (.string (⟨#[120]⟩ : ByteArray)))) ?hg ?ho ?hn ?hr ?_; (case ho => rfl); (case hg => rfl); (case hn => rfl); (case hr => first | (go_simp; done) | (go_simp; rfl)); intro w27 hw; have hg : wr.grownBy w27 (some go25) := (by rw [hw]; exact HP26.2); have hp_ : Kd.R Kd.string 9 w27 w.heap.size (fun _ => True) (.slice (some ⟨go25, 0, none⟩) x11_1.length co25) y577 := (by rw [hw, Ny577.out]; exact HP26.1); clear HP26; replace HO_10 := Aside0.mk (Kd.R_over' (v := (.slice (some ⟨go25, 0, none⟩) x11_1.length co25)) (by (with_reducible repeat (first | apply Kd.R_alloc | apply Kd.R_drewN | apply Kd.R_drew)); exact HO_10.out) (Kd.R_typed HO_11.out) (by decide) hg); replace HO_560003 := Aside0.mk (Kd.S_over' (v := (.slice (some ⟨go25, 0, none⟩) x11_1.length co25)) (by (with_reducible repeat (first | apply Kd.S_alloc | apply Kd.S_drewN | apply Kd.S_drew)); exact HO_560003.out) (Kd.R_typed HO_11.out) (by decide) hg); replace BK559 := Aside0.mk (blk_grown (g := gb559) (o := .cells #[.bool t562, .bool a3, .int .i64 t564, .slice Ao17 t565.length co17] 24 (0, 0)) (by (with_reducible repeat (first | refine blk_drewN ?_ _ | refine blk_drew ?_ | refine blk_alloc ?_ _)); exact BK559.out) hg (Kd.R_ne HO_11.out BK559.out (by decide))); replace HO_11 := Aside0.mk (hp_); replace HB := Aside0.mk ((by rw [hw]; exact below_set (HB.out) GB25.out : Below w.heap.size w w27)); clear hg hw hp_; have p578 : 0 ≤ (x13_1 : Int) := of_decide_eq_true (by first | (with_reducible assumption) | assumption); have q578 : x13_1 < (t569.length : Int) := of_decide_eq_true (by first | (with_reducible assumption) | assumption); obtain ⟨ad578, e578, hx578_0⟩ := Kd.at_int (Kd.R_reads' HO_10.out).2.2 x13_1 p578 q578; cases e578; replace p578 := eq_true p578; replace q578 := eq_true q578))
          go_roundg k1
          case measure => have := HK1.out; omega
          case rel => exact ⟨(y577), (wrap64 (x12_1 + (rd t569 x13_1))), (wrap64 (x13_1 + 1)), (by first | rfl | (simp; done) | (simp [*]; done)), (by first | rfl | (simp; done) | (simp [*]; done)), H', ⟨by have := HK1.out; omega⟩, ⟨by (with_reducible repeat (first | apply Kd.R_alloc | apply Kd.R_drewN | apply Kd.R_drew)); exact HO_10.out⟩, ⟨by (with_reducible repeat (first | apply Kd.R_alloc | apply Kd.R_drewN | apply Kd.R_drew)); exact HO_11.out⟩, ⟨by (with_reducible repeat (first | apply Kd.S_alloc | apply Kd.S_drewN | apply Kd.S_drew)); exact HO_560003.out⟩, ⟨by (with_reducible repeat (first | refine blk_drewN ?_ _ | refine blk_drew ?_ | refine blk_alloc ?_ _)); exact BK559.out⟩, ⟨by repeat (first | (with_reducible first | exact HB.out | apply below_alloc | apply pw_below_drewN | apply below_drew1 | refine below_set ?_ GE559.out) | exact HB.out)⟩⟩
         ·
          rw [if_neg c24] at H
          exact absurd H (by simp)
        ·
         rw [if_neg c23] at H
         exact absurd H (by simp)
       ·
        rw [if_neg c22] at H
        have c22b0 : decide (x13_1 < (t569.length : Int)) = false := decide_eq_false c22
        clear c22
        replace H := Option.bind_eq_some_iff.mp H
        obtain ⟨t579, A280, H⟩ := H
        replace H : ((levy_Levy.f k1 t562 a3 t564 t565 t579 false x11_1 t569 0).bind fun bt580 => ((haberdashplay_Zone.f a1).bind fun t589 => ((levy_Levy.f k1 t562 a3 t564 t565 t589 false (([(⟨#[120]⟩ : ByteArray)] : List ByteArray)) (([x12_1] : List Int)) 0).bind fun bt596 => ((haberdashlaw19_awake.f k1).bind fun t605 => (if t605 = true then (if bt580.2.2.2.2 = 0 then (if bt596.2.2.2.2 = 0 then (if (bt580.2.1.length : Int) = (t569.length : Int) then (haberdashlaw19_LevyOnce.j1 k1 a1 a3 t569 x11_1 bt580.2.1 bt596.2.1 ((bt596.2.1.length : Int) != 1) t562 a3 t564 t565) else (haberdashlaw19_LevyOnce.j1 k1 a1 a3 t569 x11_1 bt580.2.1 bt596.2.1 true t562 a3 t564 t565)) else (haberdashlaw19_LevyOnce.j1 k1 a1 a3 t569 x11_1 bt580.2.1 bt596.2.1 true t562 a3 t564 t565)) else (haberdashlaw19_LevyOnce.j1 k1 a1 a3 t569 x11_1 bt580.2.1 bt596.2.1 true t562 a3 t564 t565)) else (haberdashlaw19_LevyOnce.j1 k1 a1 a3 t569 x11_1 bt580.2.1 bt596.2.1 true t562 a3 t564 t565)))))) = some r := H
        have A28 := Aside0.mk A280
        clear A280
        replace H := Option.bind_eq_some_iff.mp H
        obtain ⟨⟨t580, t583, t586, t587, t588⟩, A290, H⟩ := H
        replace H : ((haberdashplay_Zone.f a1).bind fun t589 => ((levy_Levy.f k1 t562 a3 t564 t565 t589 false (([(⟨#[120]⟩ : ByteArray)] : List ByteArray)) (([x12_1] : List Int)) 0).bind fun bt596 => ((haberdashlaw19_awake.f k1).bind fun t605 => (if t605 = true then (if t588 = 0 then (if bt596.2.2.2.2 = 0 then (if (t583.length : Int) = (t569.length : Int) then (haberdashlaw19_LevyOnce.j1 k1 a1 a3 t569 x11_1 t583 bt596.2.1 ((bt596.2.1.length : Int) != 1) t562 a3 t564 t565) else (haberdashlaw19_LevyOnce.j1 k1 a1 a3 t569 x11_1 t583 bt596.2.1 true t562 a3 t564 t565)) else (haberdashlaw19_LevyOnce.j1 k1 a1 a3 t569 x11_1 t583 bt596.2.1 true t562 a3 t564 t565)) else (haberdashlaw19_LevyOnce.j1 k1 a1 a3 t569 x11_1 t583 bt596.2.1 true t562 a3 t564 t565)) else (haberdashlaw19_LevyOnce.j1 k1 a1 a3 t569 x11_1 t583 bt596.2.1 true t562 a3 t564 t565))))) = some r := H
        have A29 := Aside0.mk A290
        clear A290
        replace H := Option.bind_eq_some_iff.mp H
        obtain ⟨t589, A300, H⟩ := H
        replace H : ((levy_Levy.f k1 t562 a3 t564 t565 t589 false (([(⟨#[120]⟩ : ByteArray)] : List ByteArray)) (([x12_1] : List Int)) 0).bind fun bt596 => ((haberdashlaw19_awake.f k1).bind fun t605 => (if t605 = true then (if t588 = 0 then (if bt596.2.2.2.2 = 0 then (if (t583.length : Int) = (t569.length : Int) then (haberdashlaw19_LevyOnce.j1 k1 a1 a3 t569 x11_1 t583 bt596.2.1 ((bt596.2.1.length : Int) != 1) t562 a3 t564 t565) else (haberdashlaw19_LevyOnce.j1 k1 a1 a3 t569 x11_1 t583 bt596.2.1 true t562 a3 t564 t565)) else (haberdashlaw19_LevyOnce.j1 k1 a1 a3 t569 x11_1 t583 bt596.2.1 true t562 a3 t564 t565)) else (haberdashlaw19_LevyOnce.j1 k1 a1 a3 t569 x11_1 t583 bt596.2.1 true t562 a3 t564 t565)) else (haberdashlaw19_LevyOnce.j1 k1 a1 a3 t569 x11_1 t583 bt596.2.1 true t562 a3 t564 t565)))) = some r := H
        have A30 := Aside0.mk A300
        clear A300
        obtain ⟨y590, hy590⟩ : ∃ y_ : List ByteArray, y_ = (([(⟨#[120]⟩ : ByteArray)] : List ByteArray)) := ⟨_, rfl⟩
        replace H : ((levy_Levy.f k1 t562 a3 t564 t565 t589 false y590 (([x12_1] : List Int)) 0).bind fun bt596 => ((haberdashlaw19_awake.f k1).bind fun t605 => (if t605 = true then (if t588 = 0 then (if bt596.2.2.2.2 = 0 then (if (t583.length : Int) = (t569.length : Int) then (haberdashlaw19_LevyOnce.j1 k1 a1 a3 t569 x11_1 t583 bt596.2.1 ((bt596.2.1.length : Int) != 1) t562 a3 t564 t565) else (haberdashlaw19_LevyOnce.j1 k1 a1 a3 t569 x11_1 t583 bt596.2.1 true t562 a3 t564 t565)) else (haberdashlaw19_LevyOnce.j1 k1 a1 a3 t569 x11_1 t583 bt596.2.1 true t562 a3 t564 t565)) else (haberdashlaw19_LevyOnce.j1 k1 a1 a3 t569 x11_1 t583 bt596.2.1 true t562 a3 t564 t565)) else (haberdashlaw19_LevyOnce.j1 k1 a1 a3 t569 x11_1 t583 bt596.2.1 true t562 a3 t564 t565)))) = some r := by first | (rw [hy590]; with_reducible exact H) | (have H2_ := (Option.bind_some _ _).symm.trans H; rw [hy590]; with_reducible exact H2_) | (have H2_ := (Option.bind_some _ _).symm.trans H; with_reducible exact H2_) | with_reducible exact H | (rw [hy590]; exact H) | exact H
        have Ny590 := Aside0.mk hy590
        clear hy590
        obtain ⟨y593, hy593⟩ : ∃ y_ : List Int, y_ = (([x12_1] : List Int)) := ⟨_, rfl⟩
        replace H : ((levy_Levy.f k1 t562 a3 t564 t565 t589 false y590 y593 0).bind fun bt596 => ((haberdashlaw19_awake.f k1).bind fun t605 => (if t605 = true then (if t588 = 0 then (if bt596.2.2.2.2 = 0 then (if (t583.length : Int) = (t569.length : Int) then (haberdashlaw19_LevyOnce.j1 k1 a1 a3 t569 x11_1 t583 bt596.2.1 ((bt596.2.1.length : Int) != 1) t562 a3 t564 t565) else (haberdashlaw19_LevyOnce.j1 k1 a1 a3 t569 x11_1 t583 bt596.2.1 true t562 a3 t564 t565)) else (haberdashlaw19_LevyOnce.j1 k1 a1 a3 t569 x11_1 t583 bt596.2.1 true t562 a3 t564 t565)) else (haberdashlaw19_LevyOnce.j1 k1 a1 a3 t569 x11_1 t583 bt596.2.1 true t562 a3 t564 t565)) else (haberdashlaw19_LevyOnce.j1 k1 a1 a3 t569 x11_1 t583 bt596.2.1 true t562 a3 t564 t565)))) = some r := by first | (rw [hy593]; with_reducible exact H) | (have H2_ := (Option.bind_some _ _).symm.trans H; rw [hy593]; with_reducible exact H2_) | (have H2_ := (Option.bind_some _ _).symm.trans H; with_reducible exact H2_) | with_reducible exact H | (rw [hy593]; exact H) | exact H
        have Ny593 := Aside0.mk hy593
        clear hy593
        replace H := Option.bind_eq_some_iff.mp H
        obtain ⟨⟨t596, t599, t602, t603, t604⟩, A310, H⟩ := H
        replace H : ((haberdashlaw19_awake.f k1).bind fun t605 => (if t605 = true then (if t588 = 0 then (if t604 = 0 then (if (t583.length : Int) = (t569.length : Int) then (haberdashlaw19_LevyOnce.j1 k1 a1 a3 t569 x11_1 t583 t599 ((t599.length : Int) != 1) t562 a3 t564 t565) else (haberdashlaw19_LevyOnce.j1 k1 a1 a3 t569 x11_1 t583 t599 true t562 a3 t564 t565)) else (haberdashlaw19_LevyOnce.j1 k1 a1 a3 t569 x11_1 t583 t599 true t562 a3 t564 t565)) else (haberdashlaw19_LevyOnce.j1 k1 a1 a3 t569 x11_1 t583 t599 true t562 a3 t564 t565)) else (haberdashlaw19_LevyOnce.j1 k1 a1 a3 t569 x11_1 t583 t599 true t562 a3 t564 t565))) = some r := H
        have A31 := Aside0.mk A310
        clear A310
        have HC32 := Aside0.mk H
        clear H
        try go_wp2
        replace HO_10 := Aside0.mk (Kd.R_drew HO_10.out)
        replace HO_11 := Aside0.mk (Kd.R_drew HO_11.out)
        replace HO_560003 := Aside0.mk (Kd.S_drew HO_560003.out)
        replace BK559 := Aside0.mk (blk_drew BK559.out)
        replace HB := Aside0.mk (below_drew1 HB.out)
        refine start_ (n := 17) (S := fun w' => w'.cell? ⟨gb559, 0, none⟩ = some (.bool t562) ∧ w'.cell? ⟨gb559, 1, none⟩ = some (.bool a3) ∧ w'.cell? ⟨gb559, 2, none⟩ = some (.int .i64 t564) ∧ w'.cell? ⟨gb559, 3, none⟩ = some (.slice Ao17 t565.length co17)) (ds := []) (mk 17 0) (by kernel_rfl) rfl rfl ⟨(blk_cell BK559.out 0).trans rfl, (blk_cell BK559.out 1).trans rfl, (blk_cell BK559.out 2).trans rfl, (blk_cell BK559.out 3).trans rfl⟩ (fun hHeld => ?_); refine with_tabW haberdashlaw19_LevyOnce.tab13 haberdashlaw19_LevyOnce.bits13 (fun HT_ HW_ => ?_)
        generalize wr.drew = w33 at HO_10 HO_11 HO_560003 BK559 HB hHeld ⊢
        refine ahead_ [(1, 65), (3, 67), (4, 68)] ?_
        iterate 3 (refine pA_ (v := ?_) (a' := ?_) rfl rfl HT_.out (by kernel_rfl) (fun _ _ _ h => h) (Or.inl ⟨by rfl, ?_⟩) ?_ ?_; rotate_left; (intro w'; go_simp; with_reducible rfl); rotate_left; (simp only [Act.put, List.setIfInBounds_toArray, List.set_cons_zero, List.set_cons_succ, i64_w, i32_w]; rfl))
        refine aheadE_ (mk 17 26) (by kernel_rfl) ?_
        refine take_ (i := 0) (N := some 64) (v := ?_) (a' := ?_) (mk 17 27) rfl rfl (take_ofW HT_.out HW_.out (by kernel_rfl)) (fun _ _ _ h => h) (Or.inl ⟨by rfl, ?_⟩) hHeld ?_ ?_
        rotate_left
        ·
         rintro w' ⟨s0, s1, s2, s3⟩
         go_simp
         with_reducible rfl
        rotate_left; (simp only [Act.put, List.setIfInBounds_toArray, List.set_cons_zero, List.set_cons_succ, i64_w, i32_w]; rfl)
        refine one_ (i := 2) (N := some 66) (mk 17 31) rfl rfl (one_of HT_.out (by kernel_rfl)) (by decide) (fun K hK => ?_)
        refine goes_ Try.func16 (by kernel_rfl) rfl #[.int .i64 a1] (by rfl) rfl rfl (by (try simp only [List.map_toArray, List.map_cons, List.map_nil]); first | done | rfl | (simp only [List.length_drop, List.length_take]; rfl)) ?_
        with_reducible refine (haberdashplay_Zone.calls a1 t579 _ A28.out).mono ?_
        rintro e w34 ⟨rfl, hb⟩
        refine ⟨_, rfl, ?_⟩
        replace HO_10 := Aside0.mk (Kd.R_below (by (with_reducible repeat (first | apply Kd.R_alloc | apply Kd.R_drewN | apply Kd.R_drew)); exact HO_10.out) hb)
        replace HO_11 := Aside0.mk (Kd.R_below (by (with_reducible repeat (first | apply Kd.R_alloc | apply Kd.R_drewN | apply Kd.R_drew)); exact HO_11.out) hb)
        replace HO_560003 := Aside0.mk (Kd.S_below (by (with_reducible repeat (first | apply Kd.S_alloc | apply Kd.S_drewN | apply Kd.S_drew)); exact HO_560003.out) hb)
        replace BK559 := Aside0.mk (blk_below (g := gb559) (o := .cells #[.bool t562, .bool a3, .int .i64 t564, .slice Ao17 t565.length co17] 24 (0, 0)) (by (with_reducible repeat (first | refine blk_drewN ?_ _ | refine blk_drew ?_ | refine blk_alloc ?_ _)); exact BK559.out) hb)
        replace HB := Aside0.mk (below_step (by repeat (first | (with_reducible first | exact HB.out | apply below_alloc | apply pw_below_drewN | apply below_drew1 | refine below_set ?_ GE559.out) | exact HB.out)) hb)
        (try clear hb)
        (try clear hb2)
        (try clear hk)
        (try clear hi)
        obtain ⟨Ao35, co35, eo35⟩ := Kd.R_slice HO_11.out
        (first | subst eo35 | (injection eo35 with f1_ f2_ f3_; have f4_ := f1_.symm; have f5_ := f3_.symm; clear f1_ f2_ f3_; subst f4_; subst f5_))
        refine hK.out _ _ ⟨(blk_cell BK559.out 0).trans rfl, (blk_cell BK559.out 1).trans rfl, (blk_cell BK559.out 2).trans rfl, (blk_cell BK559.out 3).trans rfl⟩ (fun hHeld => ?_)
        clear hK K
        refine norm_ (a' := ?_) ?_ ?_
        rotate_left; (show Act.put _ (some 66) _ = _; simp only [Act.put, List.setIfInBounds_toArray, List.set_cons_zero, List.set_cons_succ, i64_w, i32_w]; rfl)
        refine one_ (i := 5) (N := some 69) (mk 17 63) rfl rfl (one_of HT_.out (by kernel_rfl)) (by decide) (fun K hK => ?_)
        refine goes_ Try.func19 (by kernel_rfl) rfl #[.agg #[.bool t562, .bool a3, .int .i64 t564, .slice Ao17 t565.length co17], .string t579, .bool false, .slice Ao35 x11_1.length co35, .slice Ao19 t569.length co19, .int .i64 0] (by rfl) rfl rfl (by (try simp only [List.map_toArray, List.map_cons, List.map_nil]); first | done | rfl | (simp only [List.length_drop, List.length_take]; rfl)) ?_
        with_reducible refine (levy_Levy.calls k1 t562 a3 t564 _ _ t565 t579 false _ _ x11_1 _ _ t569 0 t580 t583 t586 t587 t588 _ ?side1 ?side2 ?side3 ?side4 ?side5 ?side6 A29.out).mono ?_
        (case side1 => repeat (first | exact (Kd.S_reads' HO_560003.out).2.2 | (with_reducible refine Kd.C_alloc ?_ _) | (with_reducible refine Kd.C_drewN ?_ _) | (with_reducible refine Kd.C_drew ?_)))
        (case side2 => exact (Kd.S_reads' HO_560003.out).2.1)
        (case side3 => repeat (first | exact (Kd.R_reads' HO_11.out).2.2 | (with_reducible refine Kd.C_alloc ?_ _) | (with_reducible refine Kd.C_drewN ?_ _) | (with_reducible refine Kd.C_drew ?_)))
        (case side4 => exact (Kd.R_reads' HO_11.out).2.1)
        (case side5 => repeat (first | exact (Kd.R_reads' HO_10.out).2.2 | (with_reducible refine Kd.C_alloc ?_ _) | (with_reducible refine Kd.C_drewN ?_ _) | (with_reducible refine Kd.C_drew ?_)))
        (case side6 => exact (Kd.R_reads' (anyR HO_10.out)).2.1)
        rintro e w36 ⟨v581, v584, rfl, ho0, ho1, hb⟩
        refine ⟨_, rfl, ?_⟩
        replace HO_11 := Aside0.mk (Kd.R_below (by (with_reducible repeat (first | apply Kd.R_alloc | apply Kd.R_drewN | apply Kd.R_drew)); exact (anyR HO_11.out)) hb)
        replace HO_560003 := Aside0.mk (Kd.S_below (by (with_reducible repeat (first | apply Kd.S_alloc | apply Kd.S_drewN | apply Kd.S_drew)); exact HO_560003.out) hb)
        have HO582 := Aside0.mk (Kd.R_lower (Kd.R_new' ho0 (Kd.R_lt (by (with_reducible repeat (first | apply Kd.R_alloc | apply Kd.R_drewN | apply Kd.R_drew)); exact (anyR HO_10.out)))) (below_size (by repeat (first | (with_reducible first | exact HB.out | apply below_alloc | apply pw_below_drewN | apply below_drew1 | refine below_set ?_ GE559.out) | exact HB.out))))
        have HO585 := Aside0.mk (Kd.R_lower (Kd.R_new' ho1 (Kd.R_lt (by (with_reducible repeat (first | apply Kd.R_alloc | apply Kd.R_drewN | apply Kd.R_drew)); exact (anyR HO_10.out)))) (below_size (by repeat (first | (with_reducible first | exact HB.out | apply below_alloc | apply pw_below_drewN | apply below_drew1 | refine below_set ?_ GE559.out) | exact HB.out))))
        replace HO_10 := Aside0.mk (Kd.R_mono (Kd.R_told (Kd.R_told (Kd.R_old (by (with_reducible repeat (first | apply Kd.R_alloc | apply Kd.R_drewN | apply Kd.R_drew)); exact (anyR HO_10.out)) hb) (Kd.R_base ho0)) (Kd.R_base ho1)) (fun _ h_ => h_.1))
        replace BK559 := Aside0.mk (blk_below (g := gb559) (o := .cells #[.bool t562, .bool a3, .int .i64 t564, .slice Ao17 t565.length co17] 24 (0, 0)) (by (with_reducible repeat (first | refine blk_drewN ?_ _ | refine blk_drew ?_ | refine blk_alloc ?_ _)); exact BK559.out) hb)
        replace HB := Aside0.mk (below_step (by repeat (first | (with_reducible first | exact HB.out | apply below_alloc | apply pw_below_drewN | apply below_drew1 | refine below_set ?_ GE559.out) | exact HB.out)) hb)
        (try clear hb)
        (try clear hb2)
        (try clear hk)
        (try clear hi)
        (try clear ho0)
        (try clear ho1)
        refine hK.out _ _ ⟨(blk_cell BK559.out 0).trans rfl, (blk_cell BK559.out 1).trans rfl, (blk_cell BK559.out 2).trans rfl, (blk_cell BK559.out 3).trans rfl⟩ (fun hHeld => ?_)
        clear hK K
        refine norm_ (a' := ?_) ?_ ?_
        rotate_left; (show Act.put _ (some 69) _ = _; simp only [Act.put, List.setIfInBounds_toArray, List.set_cons_zero, List.set_cons_succ, i64_w, i32_w]; rfl)
        refine ahead_ [(6, 63), (7, 70), (8, 71), (9, 72), (10, 73), (11, 74), (12, 14), (13, 15), (14, 16), (15, 17), (16, 18)] ?_
        iterate 11 (refine pA_ (v := ?_) (a' := ?_) rfl rfl HT_.out (by kernel_rfl) (fun _ _ _ h => h) (Or.inl ⟨by rfl, ?_⟩) ?_ ?_; rotate_left; (intro w'; go_simp; with_reducible rfl); rotate_left; (simp only [Act.put, List.setIfInBounds_toArray, List.set_cons_zero, List.set_cons_succ, i64_w, i32_w]; rfl))
        refine aheadE_ (mk 17 131071) (by kernel_rfl) ?_
        refine done_ (done_of HT_.out (by kernel_rfl)) ?_
        try go_wp2
        replace HO_10 := Aside0.mk (Kd.R_drew (anyR HO_10.out))
        replace HO_11 := Aside0.mk (Kd.R_drew (anyR HO_11.out))
        replace HO_560003 := Aside0.mk (Kd.S_drew HO_560003.out)
        replace HO582 := Aside0.mk (Kd.R_drew (anyR HO582.out))
        replace HO585 := Aside0.mk (Kd.R_drew (anyR HO585.out))
        replace BK559 := Aside0.mk (blk_drew BK559.out)
        replace HB := Aside0.mk (below_drew1 HB.out)
        refine start_ (n := 18) (S := fun w' => True) (ds := []) (mk 18 0) (by kernel_rfl) rfl rfl trivial (fun hHeld => ?_); refine with_tabW haberdashlaw19_LevyOnce.tab14 haberdashlaw19_LevyOnce.bits14 (fun HT_ HW_ => ?_)
        generalize w36.drew = w37 at HO_10 HO_11 HO_560003 HO582 HO585 BK559 HB hHeld ⊢
        refine ahead_ [(1, 77), (4, 80)] ?_
        iterate 2 (refine pA_ (v := ?_) (a' := ?_) rfl rfl HT_.out (by kernel_rfl) (fun _ _ _ h => h) (Or.inl ⟨by rfl, ?_⟩) ?_ ?_; rotate_left; (intro w'; go_simp; with_reducible rfl); rotate_left; (simp only [Act.put, List.setIfInBounds_toArray, List.set_cons_zero, List.set_cons_succ, i64_w, i32_w]; rfl))
        refine aheadE_ (mk 18 18) (by kernel_rfl) ?_
        refine inv_at [0, 2, 3, 5, 6, 7, 8, 9, 10, 11, 12, 13, 14, 15, 16, 17] (fun a0_ b a w' => ∃ (v591 : Value) (v594 : Value) (v597 : Value) (v600 : Value) (m6_ : Value) (m7_ : Value) (m8_ : Value) (m9_ : Value) (m13_ : Value) (m14_ : Value), a = putSel a0_ b [(0, 76, .agg #[.bool t562, .bool a3, .int .i64 t564, .slice Ao17 t565.length co17]), (2, 78, .string t589), (3, 79, v591), (5, 81, v594), (6, 82, m6_), (7, 75, m7_), (8, 83, m8_), (9, 84, m9_), (10, 85, .int .i64 t602), (11, 86, .int .i64 t603), (12, 87, .int .i64 t604), (13, 19, m13_), (14, 20, m14_), (15, 21, .int .i64 t602), (16, 22, .int .i64 t603), (17, 23, .int .i64 t604)] ∧ (Kd.R (Kd.int .i64) 2 w' w.heap.size (fun _ => True) v581 t580) ∧ (Kd.R (Kd.int .i64) 2 w' w.heap.size (fun _ => True) v584 t583) ∧ (Kd.R (Kd.int .i64) 2 w' w.heap.size (fun _ => True) (.slice Ao19 t569.length co19) t569) ∧ (Kd.R Kd.string 9 w' w.heap.size (fun _ => True) (.slice Ao35 x11_1.length co35) x11_1) ∧ (Kd.S k56 56 w' w.heap.size (fun _ => True) (.slice Ao17 t565.length co17) t565) ∧ (w'.heap[gb559]? = some (.cells #[.bool t562, .bool a3, .int .i64 t564, .slice Ao17 t565.length co17] 24 (0, 0))) ∧ (Below w.heap.size w w') ∧ (b 3 = true → Kd.R Kd.string 9 w' w.heap.size (fun _ => True) v591 y590) ∧ (b 5 = true → Kd.R (Kd.int .i64) 2 w' w.heap.size (fun _ => True) v594 y593) ∧ (b 6 = true → Kd.R (Kd.int .i64) 2 w' w.heap.size (fun _ => True) v597 t596) ∧ (b 6 = true → Kd.R (Kd.int .i64) 2 w' w.heap.size (fun _ => True) v600 t599) ∧ (b 6 = true → (m6_ : Value) = .tuple #[v597, v600, .int .i64 t602, .int .i64 t603, .int .i64 t604]) ∧ (b 7 = true → (m7_ : Value) = .tuple #[v597, v600, .int .i64 t602, .int .i64 t603, .int .i64 t604]) ∧ (b 8 = true → (m8_ : Value) = v597) ∧ (b 9 = true → (m9_ : Value) = v600) ∧ (b 13 = true → (m13_ : Value) = v597) ∧ (b 14 = true → (m14_ : Value) = v600)) HT_.out HW_.out (by kernel_rfl) (by kernel_rfl) ?_ ?_ ?_
        ·
         exact ⟨.bool false, .bool false, .bool false, .bool false, .bool false, .bool false, .bool false, .bool false, .bool false, .bool false, by simp only [putSel, Bool.false_eq_true, if_false], (anyR HO582.out), (anyR HO585.out), (anyR HO_10.out), (anyR HO_11.out), HO_560003.out, BK559.out, HB.out, fun h_ => absurd h_ (by decide), fun h_ => absurd h_ (by decide), fun h_ => absurd h_ (by decide), fun h_ => absurd h_ (by decide), fun h_ => absurd h_ (by decide), fun h_ => absurd h_ (by decide), fun h_ => absurd h_ (by decide), fun h_ => absurd h_ (by decide), fun h_ => absurd h_ (by decide), fun h_ => absurd h_ (by decide)⟩
        ·
         skip
         clear BK559 HB HO582 HO585 HO_10 HO_11 HO_560003
         refine steps_cons ?_ ?_
         ·
          rintro b a w' ⟨v591, v594, v597, v600, m6_, m7_, m8_, m9_, m13_, m14_, ha, Q_HO582, Q_HO585, Q_HO_10, Q_HO_11, Q_HO_560003, Q_BK559, Q_HB, Q_HO592, Q_HO595, Q_HO598, Q_HO601, Q_X6_, Q_X7_, Q_X8_, Q_X9_, Q_X13_, Q_X14_⟩ hb_ hon hoff
          refine ⟨_, rfl, fun K hK => ?_⟩
          have e4 : a.tmps[4]? = some (.pointer (some ⟨gb559, 0, none⟩)) := by rw [ha]; exact (putSel_off rfl).trans rfl
          replace ha := Aside0.mk ha
          have HO582 := Aside0.mk Q_HO582
          have HO585 := Aside0.mk Q_HO585
          have HO_10 := Aside0.mk Q_HO_10
          have HO_11 := Aside0.mk Q_HO_11
          have HO_560003 := Aside0.mk Q_HO_560003
          have BK559 := Aside0.mk Q_BK559
          have HB := Aside0.mk Q_HB
          have hc0_ : w'.cell? ⟨gb559, 0, none⟩ = some (.bool t562) := (blk_cell BK559.out 0).trans rfl
          have hc1_ : w'.cell? ⟨gb559, 1, none⟩ = some (.bool a3) := (blk_cell BK559.out 1).trans rfl
          have hc2_ : w'.cell? ⟨gb559, 2, none⟩ = some (.int .i64 t564) := (blk_cell BK559.out 2).trans rfl
          have hc3_ : w'.cell? ⟨gb559, 3, none⟩ = some (.slice Ao17 t565.length co17) := (blk_cell BK559.out 3).trans rfl
          refine value_ (w1 := w') (v := .agg #[.bool t562, .bool a3, .int .i64 t564, .slice Ao17 t565.length co17]) (by rfl) rfl ?_ ?_
          ·
           go_simp
           (try simp only [i64_w])
           try rfl
          refine hK.out _ _ ⟨v591, v594, v597, v600, m6_, m7_, m8_, m9_, m13_, m14_, (by rw [ha.out]; exact putSel_upk 0 hb_ rfl rfl rfl), Q_HO582, Q_HO585, Q_HO_10, Q_HO_11, Q_HO_560003, Q_BK559, Q_HB, Q_HO592, Q_HO595, fun h0_ => absurd ((hoff 6 (by kernel_rfl)).symm.trans h0_) (by decide), fun h0_ => absurd ((hoff 6 (by kernel_rfl)).symm.trans h0_) (by decide), fun h0_ => absurd ((hoff 6 (by kernel_rfl)).symm.trans h0_) (by decide), fun h0_ => absurd ((hoff 7 (by kernel_rfl)).symm.trans h0_) (by decide), fun h0_ => absurd ((hoff 8 (by kernel_rfl)).symm.trans h0_) (by decide), fun h0_ => absurd ((hoff 9 (by kernel_rfl)).symm.trans h0_) (by decide), fun h0_ => absurd ((hoff 13 (by kernel_rfl)).symm.trans h0_) (by decide), fun h0_ => absurd ((hoff 14 (by kernel_rfl)).symm.trans h0_) (by decide)⟩
         refine steps_cons ?_ ?_
         ·
          rintro b a w' ⟨v591, v594, v597, v600, m6_, m7_, m8_, m9_, m13_, m14_, ha, Q_HO582, Q_HO585, Q_HO_10, Q_HO_11, Q_HO_560003, Q_BK559, Q_HB, Q_HO592, Q_HO595, Q_HO598, Q_HO601, Q_X6_, Q_X7_, Q_X8_, Q_X9_, Q_X13_, Q_X14_⟩ hb_ hon hoff
          refine ⟨_, rfl, fun K hK => ?_⟩
          have e77 : a.tmps[77]? = some (.int .i64 a1) := by rw [ha]; exact (putSel_off rfl).trans rfl
          replace ha := Aside0.mk ha
          have HO582 := Aside0.mk Q_HO582
          have HO585 := Aside0.mk Q_HO585
          have HO_10 := Aside0.mk Q_HO_10
          have HO_11 := Aside0.mk Q_HO_11
          have HO_560003 := Aside0.mk Q_HO_560003
          have BK559 := Aside0.mk Q_BK559
          have HB := Aside0.mk Q_HB
          refine goes_ Try.func16 (by kernel_rfl) rfl #[.int .i64 a1] (by rfl) rfl rfl (by first | (simp only [List.map_toArray, List.map_cons, List.map_nil, Act.eval, Array.getD_eq_getD_getElem?, Option.getD_some, e77]; done) | (simp only [List.map_toArray, List.map_cons, List.map_nil, Act.eval, Array.getD_eq_getD_getElem?, Option.getD_some, e77]; rfl)) ?_
          with_reducible refine (haberdashplay_Zone.calls a1 t589 _ A30.out).mono ?_
          rintro e w38 ⟨rfl, hb⟩
          refine ⟨_, rfl, ?_⟩
          have n0_ := Aside0.mk (Kd.R_below (by (with_reducible repeat (first | apply Kd.R_alloc | apply Kd.R_drewN | apply Kd.R_drew)); exact (anyR HO_10.out)) hb)
          have n1_ := Aside0.mk (Kd.R_below (by (with_reducible repeat (first | apply Kd.R_alloc | apply Kd.R_drewN | apply Kd.R_drew)); exact (anyR HO_11.out)) hb)
          have n2_ := Aside0.mk (Kd.S_below (by (with_reducible repeat (first | apply Kd.S_alloc | apply Kd.S_drewN | apply Kd.S_drew)); exact HO_560003.out) hb)
          have n3_ := Aside0.mk (Kd.R_below (by (with_reducible repeat (first | apply Kd.R_alloc | apply Kd.R_drewN | apply Kd.R_drew)); exact (anyR HO582.out)) hb)
          have n4_ := Aside0.mk (Kd.R_below (by (with_reducible repeat (first | apply Kd.R_alloc | apply Kd.R_drewN | apply Kd.R_drew)); exact (anyR HO585.out)) hb)
          have n5_ := Aside0.mk (blk_below (g := gb559) (o := .cells #[.bool t562, .bool a3, .int .i64 t564, .slice Ao17 t565.length co17] 24 (0, 0)) (by (with_reducible repeat (first | refine blk_drewN ?_ _ | refine blk_drew ?_ | refine blk_alloc ?_ _)); exact BK559.out) hb)
          have n6_ := Aside0.mk (below_step (by repeat (first | (with_reducible first | exact HB.out | apply below_alloc | apply pw_below_drewN | apply below_drew1 | refine below_set ?_ GE559.out) | exact HB.out)) hb)
          have z_HO592 := fun (h0_ : b 3 = true) => (show Kd.R Kd.string 9 w38 w.heap.size (fun _ => True) v591 y590 from by first | exact (Kd.R_below (by (with_reducible repeat (first | apply Kd.R_alloc | apply Kd.R_drewN | apply Kd.R_drew)); exact (Q_HO592 h0_)) hb) | exact Kd.R_mono (Kd.R_below (by (with_reducible repeat (first | apply Kd.R_alloc | apply Kd.R_drewN | apply Kd.R_drew)); exact (Q_HO592 h0_)) hb) (fun _ h_ => by first | trivial | exact h_ | exact h_.1))
          have z_HO595 := fun (h0_ : b 5 = true) => (show Kd.R (Kd.int .i64) 2 w38 w.heap.size (fun _ => True) v594 y593 from by first | exact (Kd.R_below (by (with_reducible repeat (first | apply Kd.R_alloc | apply Kd.R_drewN | apply Kd.R_drew)); exact (Q_HO595 h0_)) hb) | exact Kd.R_mono (Kd.R_below (by (with_reducible repeat (first | apply Kd.R_alloc | apply Kd.R_drewN | apply Kd.R_drew)); exact (Q_HO595 h0_)) hb) (fun _ h_ => by first | trivial | exact h_ | exact h_.1))
          clear HO_10
          clear HO_11
          clear HO_560003
          clear HO582
          clear HO585
          clear BK559
          clear HB
          have HO_10 := n0_
          have HO_11 := n1_
          have HO_560003 := n2_
          have HO582 := n3_
          have HO585 := n4_
          have BK559 := n5_
          have HB := n6_
          clear n0_ n1_ n2_ n3_ n4_ n5_ n6_
          (try clear hb)
          (try clear hb2)
          (try clear hk)
          (try clear hi)
          refine hK.out _ _ ⟨v591, v594, v597, v600, m6_, m7_, m8_, m9_, m13_, m14_, (by rw [ha.out]; exact putSel_upk 1 hb_ rfl rfl rfl), (by (with_reducible repeat (first | apply Kd.R_alloc | apply Kd.R_drewN | apply Kd.R_drew)); exact (anyR HO582.out)), (by (with_reducible repeat (first | apply Kd.R_alloc | apply Kd.R_drewN | apply Kd.R_drew)); exact (anyR HO585.out)), (by (with_reducible repeat (first | apply Kd.R_alloc | apply Kd.R_drewN | apply Kd.R_drew)); exact anyR HO_10.out), (by (with_reducible repeat (first | apply Kd.R_alloc | apply Kd.R_drewN | apply Kd.R_drew)); exact (anyR HO_11.out)), (by (with_reducible repeat (first | apply Kd.S_alloc | apply Kd.S_drewN | apply Kd.S_drew)); exact HO_560003.out), (by (with_reducible repeat (first | refine blk_drewN ?_ _ | refine blk_drew ?_ | refine blk_alloc ?_ _)); exact BK559.out), (by repeat (first | (with_reducible first | exact HB.out | apply below_alloc | apply pw_below_drewN | apply below_drew1 | refine below_set ?_ GE559.out) | exact HB.out)), z_HO592, z_HO595, fun h0_ => absurd ((hoff 6 (by kernel_rfl)).symm.trans h0_) (by decide), fun h0_ => absurd ((hoff 6 (by kernel_rfl)).symm.trans h0_) (by decide), fun h0_ => absurd ((hoff 6 (by kernel_rfl)).symm.trans h0_) (by decide), fun h0_ => absurd ((hoff 7 (by kernel_rfl)).symm.trans h0_) (by decide), fun h0_ => absurd ((hoff 8 (by kernel_rfl)).symm.trans h0_) (by decide), fun h0_ => absurd ((hoff 9 (by kernel_rfl)).symm.trans h0_) (by decide), fun h0_ => absurd ((hoff 13 (by kernel_rfl)).symm.trans h0_) (by decide), fun h0_ => absurd ((hoff 14 (by kernel_rfl)).symm.trans h0_) (by decide)⟩
         refine steps_cons ?_ ?_
         ·
          rintro b a w' ⟨v591, v594, v597, v600, m6_, m7_, m8_, m9_, m13_, m14_, ha, Q_HO582, Q_HO585, Q_HO_10, Q_HO_11, Q_HO_560003, Q_BK559, Q_HB, Q_HO592, Q_HO595, Q_HO598, Q_HO601, Q_X6_, Q_X7_, Q_X8_, Q_X9_, Q_X13_, Q_X14_⟩ hb_ hon hoff
          refine ⟨_, rfl, fun K hK => ?_⟩
          replace ha := Aside0.mk ha
          have HO582 := Aside0.mk Q_HO582
          have HO585 := Aside0.mk Q_HO585
          have HO_10 := Aside0.mk Q_HO_10
          have HO_11 := Aside0.mk Q_HO_11
          have HO_560003 := Aside0.mk Q_HO_560003
          have BK559 := Aside0.mk Q_BK559
          have HB := Aside0.mk Q_HB
          refine Kd.R_lit_step Kd.string _ 9 ?hg (N := 79) ?hd (xs := ([(⟨#[120]⟩ : ByteArray)] : List ByteArray)) (inner := [.string (⟨#[120]⟩ : ByteArray)]) (ok := fun _ => True) (okp := fun _ => True) ?hr ?hp (fun _ _ => trivial) trivial (Below.refl _ _) (Nat.le_refl _) (by simp) ?_; (case hd => rfl); (case hg => rfl); (case hr => first | (go_simp; done) | (go_simp; rfl)); (case hp => exact (Reps.one (show Kd.M Kd.string _ _ _ (⟨#[120]⟩ : ByteArray) [.string (⟨#[120]⟩ : ByteArray)] from rfl) (Reps.none _ _)))
          intro v591 w38 ho39 hb hg_ hnew_
          clear hg_ hnew_
          (first | rw [← Ny590.out] at ho39 | (simp only [Int.reduceToNat] at ho39; rw [← Ny590.out] at ho39))
          have n0_ := Aside0.mk (Kd.R_below (by (with_reducible repeat (first | apply Kd.R_alloc | apply Kd.R_drewN | apply Kd.R_drew)); exact (anyR HO_10.out)) hb)
          have n1_ := Aside0.mk (Kd.R_elder' (by (with_reducible repeat (first | apply Kd.R_alloc | apply Kd.R_drewN | apply Kd.R_drew)); exact (anyR HO_11.out)) (Kd.R_base ho39) hb)
          have n2_ := Aside0.mk (Kd.S_below (by (with_reducible repeat (first | apply Kd.S_alloc | apply Kd.S_drewN | apply Kd.S_drew)); exact HO_560003.out) hb)
          have n3_ := Aside0.mk (Kd.R_below (by (with_reducible repeat (first | apply Kd.R_alloc | apply Kd.R_drewN | apply Kd.R_drew)); exact (anyR HO582.out)) hb)
          have n4_ := Aside0.mk (Kd.R_below (by (with_reducible repeat (first | apply Kd.R_alloc | apply Kd.R_drewN | apply Kd.R_drew)); exact (anyR HO585.out)) hb)
          have n5_ := Aside0.mk (Kd.R_lower (Kd.R_new' ho39 (Kd.R_lt (by (with_reducible repeat (first | apply Kd.R_alloc | apply Kd.R_drewN | apply Kd.R_drew)); exact (anyR HO_11.out)))) (below_size (by repeat (first | (with_reducible first | exact HB.out | apply below_alloc | apply pw_below_drewN | apply below_drew1 | refine below_set ?_ GE559.out) | exact HB.out))))
          have n6_ := Aside0.mk (blk_below (g := gb559) (o := .cells #[.bool t562, .bool a3, .int .i64 t564, .slice Ao17 t565.length co17] 24 (0, 0)) (by (with_reducible repeat (first | refine blk_drewN ?_ _ | refine blk_drew ?_ | refine blk_alloc ?_ _)); exact BK559.out) hb)
          have n7_ := Aside0.mk (below_step (by repeat (first | (with_reducible first | exact HB.out | apply below_alloc | apply pw_below_drewN | apply below_drew1 | refine below_set ?_ GE559.out) | exact HB.out)) hb)
          have z_HO595 := fun (h0_ : b 5 = true) => (show Kd.R (Kd.int .i64) 2 w38 w.heap.size (fun _ => True) v594 y593 from by first | exact (Kd.R_below (by (with_reducible repeat (first | apply Kd.R_alloc | apply Kd.R_drewN | apply Kd.R_drew)); exact (Q_HO595 h0_)) hb) | exact Kd.R_mono (Kd.R_below (by (with_reducible repeat (first | apply Kd.R_alloc | apply Kd.R_drewN | apply Kd.R_drew)); exact (Q_HO595 h0_)) hb) (fun _ h_ => by first | trivial | exact h_ | exact h_.1))
          clear HO_10
          clear HO_11
          clear HO_560003
          clear HO582
          clear HO585
          clear BK559
          clear HB
          have HO_10 := n0_
          have HO_11 := n1_
          have HO_560003 := n2_
          have HO582 := n3_
          have HO585 := n4_
          have HO592 := n5_
          have BK559 := n6_
          have HB := n7_
          clear n0_ n1_ n2_ n3_ n4_ n5_ n6_ n7_
          clear hb ho39
          refine hK.out _ _ ⟨v591, v594, v597, v600, m6_, m7_, m8_, m9_, m13_, m14_, (by rw [ha.out]; exact putSel_upk 2 hb_ rfl rfl rfl), (by (with_reducible repeat (first | apply Kd.R_alloc | apply Kd.R_drewN | apply Kd.R_drew)); exact (anyR HO582.out)), (by (with_reducible repeat (first | apply Kd.R_alloc | apply Kd.R_drewN | apply Kd.R_drew)); exact (anyR HO585.out)), (by (with_reducible repeat (first | apply Kd.R_alloc | apply Kd.R_drewN | apply Kd.R_drew)); exact anyR HO_10.out), (by (with_reducible repeat (first | apply Kd.R_alloc | apply Kd.R_drewN | apply Kd.R_drew)); exact anyR HO_11.out), (by (with_reducible repeat (first | apply Kd.S_alloc | apply Kd.S_drewN | apply Kd.S_drew)); exact HO_560003.out), (by (with_reducible repeat (first | refine blk_drewN ?_ _ | refine blk_drew ?_ | refine blk_alloc ?_ _)); exact BK559.out), (by repeat (first | (with_reducible first | exact HB.out | apply below_alloc | apply pw_below_drewN | apply below_drew1 | refine below_set ?_ GE559.out) | exact HB.out)), fun _ => (by (with_reducible repeat (first | apply Kd.R_alloc | apply Kd.R_drewN | apply Kd.R_drew)); exact anyR HO592.out), z_HO595, fun h0_ => absurd ((hoff 6 (by kernel_rfl)).symm.trans h0_) (by decide), fun h0_ => absurd ((hoff 6 (by kernel_rfl)).symm.trans h0_) (by decide), fun h0_ => absurd ((hoff 6 (by kernel_rfl)).symm.trans h0_) (by decide), fun h0_ => absurd ((hoff 7 (by kernel_rfl)).symm.trans h0_) (by decide), fun h0_ => absurd ((hoff 8 (by kernel_rfl)).symm.trans h0_) (by decide), fun h0_ => absurd ((hoff 9 (by kernel_rfl)).symm.trans h0_) (by decide), fun h0_ => absurd ((hoff 13 (by kernel_rfl)).symm.trans h0_) (by decide), fun h0_ => absurd ((hoff 14 (by kernel_rfl)).symm.trans h0_) (by decide)⟩
         refine steps_cons ?_ ?_
         ·
          rintro b a w' ⟨v591, v594, v597, v600, m6_, m7_, m8_, m9_, m13_, m14_, ha, Q_HO582, Q_HO585, Q_HO_10, Q_HO_11, Q_HO_560003, Q_BK559, Q_HB, Q_HO592, Q_HO595, Q_HO598, Q_HO601, Q_X6_, Q_X7_, Q_X8_, Q_X9_, Q_X13_, Q_X14_⟩ hb_ hon hoff
          refine ⟨_, rfl, fun K hK => ?_⟩
          have e80 : a.tmps[80]? = some (.int .i64 x12_1) := by rw [ha]; exact (putSel_off rfl).trans rfl
          replace ha := Aside0.mk ha
          have HO582 := Aside0.mk Q_HO582
          have HO585 := Aside0.mk Q_HO585
          have HO_10 := Aside0.mk Q_HO_10
          have HO_11 := Aside0.mk Q_HO_11
          have HO_560003 := Aside0.mk Q_HO_560003
          have BK559 := Aside0.mk Q_BK559
          have HB := Aside0.mk Q_HB
          refine Kd.R_lit_step (Kd.int .i64) _ 2 ?hg (N := 81) ?hd (xs := ([x12_1] : List Int)) (inner := [.int .i64 x12_1]) (ok := fun _ => True) (okp := fun _ => True) ?hr ?hp (fun _ _ => trivial) trivial (Below.refl _ _) (Nat.le_refl _) (by simp) ?_; (case hd => rfl); (case hg => rfl); (case hr => first | (go_simp; done) | (go_simp; rfl)); (case hp => exact (Reps.one (show Kd.M (Kd.int .i64) _ _ _ x12_1 [.int .i64 x12_1] from rfl) (Reps.none _ _)))
          intro v594 w38 ho39 hb hg_ hnew_
          clear hg_ hnew_
          (first | rw [← Ny593.out] at ho39 | (simp only [Int.reduceToNat] at ho39; rw [← Ny593.out] at ho39))
          have n0_ := Aside0.mk (Kd.R_elder' (by (with_reducible repeat (first | apply Kd.R_alloc | apply Kd.R_drewN | apply Kd.R_drew)); exact (anyR HO_10.out)) (Kd.R_base ho39) hb)
          have n1_ := Aside0.mk (Kd.R_below (by (with_reducible repeat (first | apply Kd.R_alloc | apply Kd.R_drewN | apply Kd.R_drew)); exact (anyR HO_11.out)) hb)
          have n2_ := Aside0.mk (Kd.S_below (by (with_reducible repeat (first | apply Kd.S_alloc | apply Kd.S_drewN | apply Kd.S_drew)); exact HO_560003.out) hb)
          have n3_ := Aside0.mk (Kd.R_elder' (by (with_reducible repeat (first | apply Kd.R_alloc | apply Kd.R_drewN | apply Kd.R_drew)); exact (anyR HO582.out)) (Kd.R_base ho39) hb)
          have n4_ := Aside0.mk (Kd.R_elder' (by (with_reducible repeat (first | apply Kd.R_alloc | apply Kd.R_drewN | apply Kd.R_drew)); exact (anyR HO585.out)) (Kd.R_base ho39) hb)
          have n5_ := Aside0.mk (Kd.R_lower (Kd.R_new' (Kd.R_new' (Kd.R_new' ho39 (Kd.R_lt (by (with_reducible repeat (first | apply Kd.R_alloc | apply Kd.R_drewN | apply Kd.R_drew)); exact (anyR HO_10.out)))) (Kd.R_lt (by (with_reducible repeat (first | apply Kd.R_alloc | apply Kd.R_drewN | apply Kd.R_drew)); exact (anyR HO582.out)))) (Kd.R_lt (by (with_reducible repeat (first | apply Kd.R_alloc | apply Kd.R_drewN | apply Kd.R_drew)); exact (anyR HO585.out)))) (below_size (by repeat (first | (with_reducible first | exact HB.out | apply below_alloc | apply pw_below_drewN | apply below_drew1 | refine below_set ?_ GE559.out) | exact HB.out))))
          have n6_ := Aside0.mk (blk_below (g := gb559) (o := .cells #[.bool t562, .bool a3, .int .i64 t564, .slice Ao17 t565.length co17] 24 (0, 0)) (by (with_reducible repeat (first | refine blk_drewN ?_ _ | refine blk_drew ?_ | refine blk_alloc ?_ _)); exact BK559.out) hb)
          have n7_ := Aside0.mk (below_step (by repeat (first | (with_reducible first | exact HB.out | apply below_alloc | apply pw_below_drewN | apply below_drew1 | refine below_set ?_ GE559.out) | exact HB.out)) hb)
          have z_HO592 := fun (h0_ : b 3 = true) => (show Kd.R Kd.string 9 w38 w.heap.size (fun _ => True) v591 y590 from by first | exact (Kd.R_below (by (with_reducible repeat (first | apply Kd.R_alloc | apply Kd.R_drewN | apply Kd.R_drew)); exact (Q_HO592 h0_)) hb) | exact Kd.R_mono (Kd.R_below (by (with_reducible repeat (first | apply Kd.R_alloc | apply Kd.R_drewN | apply Kd.R_drew)); exact (Q_HO592 h0_)) hb) (fun _ h_ => by first | trivial | exact h_ | exact h_.1))
          clear HO_10
          clear HO_11
          clear HO_560003
          clear HO582
          clear HO585
          clear BK559
          clear HB
          have HO_10 := n0_
          have HO_11 := n1_
          have HO_560003 := n2_
          have HO582 := n3_
          have HO585 := n4_
          have HO595 := n5_
          have BK559 := n6_
          have HB := n7_
          clear n0_ n1_ n2_ n3_ n4_ n5_ n6_ n7_
          clear hb ho39
          refine hK.out _ _ ⟨v591, v594, v597, v600, m6_, m7_, m8_, m9_, m13_, m14_, (by rw [ha.out]; exact putSel_upk 3 hb_ rfl rfl rfl), (by (with_reducible repeat (first | apply Kd.R_alloc | apply Kd.R_drewN | apply Kd.R_drew)); exact anyR HO582.out), (by (with_reducible repeat (first | apply Kd.R_alloc | apply Kd.R_drewN | apply Kd.R_drew)); exact anyR HO585.out), (by (with_reducible repeat (first | apply Kd.R_alloc | apply Kd.R_drewN | apply Kd.R_drew)); exact anyR HO_10.out), (by (with_reducible repeat (first | apply Kd.R_alloc | apply Kd.R_drewN | apply Kd.R_drew)); exact (anyR HO_11.out)), (by (with_reducible repeat (first | apply Kd.S_alloc | apply Kd.S_drewN | apply Kd.S_drew)); exact HO_560003.out), (by (with_reducible repeat (first | refine blk_drewN ?_ _ | refine blk_drew ?_ | refine blk_alloc ?_ _)); exact BK559.out), (by repeat (first | (with_reducible first | exact HB.out | apply below_alloc | apply pw_below_drewN | apply below_drew1 | refine below_set ?_ GE559.out) | exact HB.out)), z_HO592, fun _ => (by (with_reducible repeat (first | apply Kd.R_alloc | apply Kd.R_drewN | apply Kd.R_drew)); exact anyR HO595.out), fun h0_ => absurd ((hoff 6 (by kernel_rfl)).symm.trans h0_) (by decide), fun h0_ => absurd ((hoff 6 (by kernel_rfl)).symm.trans h0_) (by decide), fun h0_ => absurd ((hoff 6 (by kernel_rfl)).symm.trans h0_) (by decide), fun h0_ => absurd ((hoff 7 (by kernel_rfl)).symm.trans h0_) (by decide), fun h0_ => absurd ((hoff 8 (by kernel_rfl)).symm.trans h0_) (by decide), fun h0_ => absurd ((hoff 9 (by kernel_rfl)).symm.trans h0_) (by decide), fun h0_ => absurd ((hoff 13 (by kernel_rfl)).symm.trans h0_) (by decide), fun h0_ => absurd ((hoff 14 (by kernel_rfl)).symm.trans h0_) (by decide)⟩
         refine steps_cons ?_ ?_
         ·
          rintro b a w' ⟨v591, v594, v597, v600, m6_, m7_, m8_, m9_, m13_, m14_, ha, Q_HO582, Q_HO585, Q_HO_10, Q_HO_11, Q_HO_560003, Q_BK559, Q_HB, Q_HO592, Q_HO595, Q_HO598, Q_HO601, Q_X6_, Q_X7_, Q_X8_, Q_X9_, Q_X13_, Q_X14_⟩ hb_ hon hoff
          refine ⟨_, rfl, fun K hK => ?_⟩
          have e76 : a.tmps[76]? = some (.agg #[.bool t562, .bool a3, .int .i64 t564, .slice Ao17 t565.length co17]) := by rw [ha]; exact putSel_on (e := (0, 76, .agg #[.bool t562, .bool a3, .int .i64 t564, .slice Ao17 t565.length co17])) 0 rfl rfl (hon 0 (by kernel_rfl)) rfl
          have e78 : a.tmps[78]? = some (.string t589) := by rw [ha]; exact putSel_on (e := (2, 78, .string t589)) 1 rfl rfl (hon 2 (by kernel_rfl)) rfl
          have e79 : a.tmps[79]? = some (v591) := by rw [ha]; exact putSel_on (e := (3, 79, v591)) 2 rfl rfl (hon 3 (by kernel_rfl)) rfl
          have e81 : a.tmps[81]? = some (v594) := by rw [ha]; exact putSel_on (e := (5, 81, v594)) 3 rfl rfl (hon 5 (by kernel_rfl)) rfl
          replace ha := Aside0.mk ha
          have HO582 := Aside0.mk Q_HO582
          have HO585 := Aside0.mk Q_HO585
          have HO_10 := Aside0.mk Q_HO_10
          have HO_11 := Aside0.mk Q_HO_11
          have HO_560003 := Aside0.mk Q_HO_560003
          have BK559 := Aside0.mk Q_BK559
          have HB := Aside0.mk Q_HB
          have HO592 := Aside0.mk (Q_HO592 (hon 3 (by kernel_rfl)))
          have HO595 := Aside0.mk (Q_HO595 (hon 5 (by kernel_rfl)))
          obtain ⟨Ao44, co44, eo44⟩ := Kd.R_slice HO592.out
          (first | subst eo44 | (injection eo44 with f1_ f2_ f3_; have f4_ := f1_.symm; have f5_ := f3_.symm; clear f1_ f2_ f3_; subst f4_; subst f5_))
          obtain ⟨Ao45, co45, eo45⟩ := Kd.R_slice HO595.out
          (first | subst eo45 | (injection eo45 with f1_ f2_ f3_; have f4_ := f1_.symm; have f5_ := f3_.symm; clear f1_ f2_ f3_; subst f4_; subst f5_))
          refine goes_ Try.func19 (by kernel_rfl) rfl #[.agg #[.bool t562, .bool a3, .int .i64 t564, .slice Ao17 t565.length co17], .string t589, .bool false, .slice Ao44 y590.length co44, .slice Ao45 y593.length co45, .int .i64 0] (by rfl) rfl rfl (by first | (simp only [List.map_toArray, List.map_cons, List.map_nil, Act.eval, Array.getD_eq_getD_getElem?, Option.getD_some, e76, e78, e79, e81]; done) | (simp only [List.map_toArray, List.map_cons, List.map_nil, Act.eval, Array.getD_eq_getD_getElem?, Option.getD_some, e76, e78, e79, e81]; rfl)) ?_
          with_reducible refine (levy_Levy.calls k1 t562 a3 t564 _ _ t565 t589 false _ _ y590 _ _ y593 0 t596 t599 t602 t603 t604 _ ?side1 ?side2 ?side3 ?side4 ?side5 ?side6 A31.out).mono ?_
          (case side1 => repeat (first | exact (Kd.S_reads' HO_560003.out).2.2 | (with_reducible refine Kd.C_alloc ?_ _) | (with_reducible refine Kd.C_drewN ?_ _) | (with_reducible refine Kd.C_drew ?_)))
          (case side2 => exact (Kd.S_reads' HO_560003.out).2.1)
          (case side3 => repeat (first | exact (Kd.R_reads' (anyR HO592.out)).2.2 | (with_reducible refine Kd.C_alloc ?_ _) | (with_reducible refine Kd.C_drewN ?_ _) | (with_reducible refine Kd.C_drew ?_)))
          (case side4 => exact (Kd.R_reads' (anyR HO592.out)).2.1)
          (case side5 => repeat (first | exact (Kd.R_reads' (anyR HO595.out)).2.2 | (with_reducible refine Kd.C_alloc ?_ _) | (with_reducible refine Kd.C_drewN ?_ _) | (with_reducible refine Kd.C_drew ?_)))
          (case side6 => exact (Kd.R_reads' (anyR HO595.out)).2.1)
          rintro e w46 ⟨v597, v600, rfl, ho0, ho1, hb⟩
          refine ⟨_, rfl, ?_⟩
          replace HO_11 := Aside0.mk (Kd.R_below (by (with_reducible repeat (first | apply Kd.R_alloc | apply Kd.R_drewN | apply Kd.R_drew)); exact (anyR HO_11.out)) hb)
          replace HO_560003 := Aside0.mk (Kd.S_below (by (with_reducible repeat (first | apply Kd.S_alloc | apply Kd.S_drewN | apply Kd.S_drew)); exact HO_560003.out) hb)
          replace HO592 := Aside0.mk (Kd.R_below (by (with_reducible repeat (first | apply Kd.R_alloc | apply Kd.R_drewN | apply Kd.R_drew)); exact (anyR HO592.out)) hb)
          have HO598 := Aside0.mk (Kd.R_lower (Kd.R_new' (Kd.R_new' (Kd.R_new' (Kd.R_new' ho0 (Kd.R_lt (by (with_reducible repeat (first | apply Kd.R_alloc | apply Kd.R_drewN | apply Kd.R_drew)); exact (anyR HO_10.out)))) (Kd.R_lt (by (with_reducible repeat (first | apply Kd.R_alloc | apply Kd.R_drewN | apply Kd.R_drew)); exact (anyR HO582.out)))) (Kd.R_lt (by (with_reducible repeat (first | apply Kd.R_alloc | apply Kd.R_drewN | apply Kd.R_drew)); exact (anyR HO585.out)))) (Kd.R_lt (by (with_reducible repeat (first | apply Kd.R_alloc | apply Kd.R_drewN | apply Kd.R_drew)); exact (anyR HO595.out)))) (below_size (by repeat (first | (with_reducible first | exact HB.out | apply below_alloc | apply pw_below_drewN | apply below_drew1 | refine below_set ?_ GE559.out) | exact HB.out))))
          have HO601 := Aside0.mk (Kd.R_lower (Kd.R_new' (Kd.R_new' (Kd.R_new' (Kd.R_new' ho1 (Kd.R_lt (by (with_reducible repeat (first | apply Kd.R_alloc | apply Kd.R_drewN | apply Kd.R_drew)); exact (anyR HO_10.out)))) (Kd.R_lt (by (with_reducible repeat (first | apply Kd.R_alloc | apply Kd.R_drewN | apply Kd.R_drew)); exact (anyR HO582.out)))) (Kd.R_lt (by (with_reducible repeat (first | apply Kd.R_alloc | apply Kd.R_drewN | apply Kd.R_drew)); exact (anyR HO585.out)))) (Kd.R_lt (by (with_reducible repeat (first | apply Kd.R_alloc | apply Kd.R_drewN | apply Kd.R_drew)); exact (anyR HO595.out)))) (below_size (by repeat (first | (with_reducible first | exact HB.out | apply below_alloc | apply pw_below_drewN | apply below_drew1 | refine below_set ?_ GE559.out) | exact HB.out))))
          replace HO_10 := Aside0.mk (Kd.R_mono (Kd.R_told (Kd.R_told (Kd.R_old (by (with_reducible repeat (first | apply Kd.R_alloc | apply Kd.R_drewN | apply Kd.R_drew)); exact (anyR HO_10.out)) hb) (Kd.R_base ho0)) (Kd.R_base ho1)) (fun _ h_ => h_.1))
          replace HO582 := Aside0.mk (Kd.R_mono (Kd.R_told (Kd.R_told (Kd.R_old (by (with_reducible repeat (first | apply Kd.R_alloc | apply Kd.R_drewN | apply Kd.R_drew)); exact (anyR HO582.out)) hb) (Kd.R_base ho0)) (Kd.R_base ho1)) (fun _ h_ => h_.1))
          replace HO585 := Aside0.mk (Kd.R_mono (Kd.R_told (Kd.R_told (Kd.R_old (by (with_reducible repeat (first | apply Kd.R_alloc | apply Kd.R_drewN | apply Kd.R_drew)); exact (anyR HO585.out)) hb) (Kd.R_base ho0)) (Kd.R_base ho1)) (fun _ h_ => h_.1))
          replace HO595 := Aside0.mk (Kd.R_mono (Kd.R_told (Kd.R_told (Kd.R_old (by (with_reducible repeat (first | apply Kd.R_alloc | apply Kd.R_drewN | apply Kd.R_drew)); exact (anyR HO595.out)) hb) (Kd.R_base ho0)) (Kd.R_base ho1)) (fun _ h_ => h_.1))
          replace BK559 := Aside0.mk (blk_below (g := gb559) (o := .cells #[.bool t562, .bool a3, .int .i64 t564, .slice Ao17 t565.length co17] 24 (0, 0)) (by (with_reducible repeat (first | refine blk_drewN ?_ _ | refine blk_drew ?_ | refine blk_alloc ?_ _)); exact BK559.out) hb)
          replace HB := Aside0.mk (below_step (by repeat (first | (with_reducible first | exact HB.out | apply below_alloc | apply pw_below_drewN | apply below_drew1 | refine below_set ?_ GE559.out) | exact HB.out)) hb)
          (try clear hb)
          (try clear hb2)
          (try clear hk)
          (try clear hi)
          (try clear ho0)
          (try clear ho1)
          refine hK.out _ _ ⟨.slice Ao44 y590.length co44, .slice Ao45 y593.length co45, v597, v600, (.tuple #[v597, v600, .int .i64 t602, .int .i64 t603, .int .i64 t604]), m7_, m8_, m9_, m13_, m14_, (by rw [ha.out]; exact putSel_upk 4 hb_ rfl rfl rfl), (by (with_reducible repeat (first | apply Kd.R_alloc | apply Kd.R_drewN | apply Kd.R_drew)); exact anyR HO582.out), (by (with_reducible repeat (first | apply Kd.R_alloc | apply Kd.R_drewN | apply Kd.R_drew)); exact anyR HO585.out), (by (with_reducible repeat (first | apply Kd.R_alloc | apply Kd.R_drewN | apply Kd.R_drew)); exact anyR HO_10.out), (by (with_reducible repeat (first | apply Kd.R_alloc | apply Kd.R_drewN | apply Kd.R_drew)); exact (anyR HO_11.out)), (by (with_reducible repeat (first | apply Kd.S_alloc | apply Kd.S_drewN | apply Kd.S_drew)); exact HO_560003.out), (by (with_reducible repeat (first | refine blk_drewN ?_ _ | refine blk_drew ?_ | refine blk_alloc ?_ _)); exact BK559.out), (by repeat (first | (with_reducible first | exact HB.out | apply below_alloc | apply pw_below_drewN | apply below_drew1 | refine below_set ?_ GE559.out) | exact HB.out)), fun _ => (by (with_reducible repeat (first | apply Kd.R_alloc | apply Kd.R_drewN | apply Kd.R_drew)); exact (anyR HO592.out)), fun _ => (by (with_reducible repeat (first | apply Kd.R_alloc | apply Kd.R_drewN | apply Kd.R_drew)); exact anyR HO595.out), fun _ => (by (with_reducible repeat (first | apply Kd.R_alloc | apply Kd.R_drewN | apply Kd.R_drew)); exact anyR HO598.out), fun _ => (by (with_reducible repeat (first | apply Kd.R_alloc | apply Kd.R_drewN | apply Kd.R_drew)); exact anyR HO601.out), fun _ => rfl, fun h0_ => absurd ((hoff 7 (by kernel_rfl)).symm.trans h0_) (by decide), fun h0_ => absurd ((hoff 8 (by kernel_rfl)).symm.trans h0_) (by decide), fun h0_ => absurd ((hoff 9 (by kernel_rfl)).symm.trans h0_) (by decide), fun h0_ => absurd ((hoff 13 (by kernel_rfl)).symm.trans h0_) (by decide), fun h0_ => absurd ((hoff 14 (by kernel_rfl)).symm.trans h0_) (by decide)⟩
         refine steps_cons ?_ ?_
         ·
          rintro b a w' ⟨v591, v594, v597, v600, m6_, m7_, m8_, m9_, m13_, m14_, ha, Q_HO582, Q_HO585, Q_HO_10, Q_HO_11, Q_HO_560003, Q_BK559, Q_HB, Q_HO592, Q_HO595, Q_HO598, Q_HO601, Q_X6_, Q_X7_, Q_X8_, Q_X9_, Q_X13_, Q_X14_⟩ hb_ hon hoff
          refine ⟨_, rfl, fun K hK => ?_⟩
          have e82 : a.tmps[82]? = some (m6_) := by rw [ha]; exact putSel_on (e := (6, 82, m6_)) 4 rfl rfl (hon 6 (by kernel_rfl)) rfl
          rw [Q_X6_ (hon 6 (by kernel_rfl))] at e82
          replace ha := Aside0.mk ha
          have HO582 := Aside0.mk Q_HO582
          have HO585 := Aside0.mk Q_HO585
          have HO_10 := Aside0.mk Q_HO_10
          have HO_11 := Aside0.mk Q_HO_11
          have HO_560003 := Aside0.mk Q_HO_560003
          have BK559 := Aside0.mk Q_BK559
          have HB := Aside0.mk Q_HB
          have HO592 := Aside0.mk (Q_HO592 (hon 3 (by kernel_rfl)))
          have HO595 := Aside0.mk (Q_HO595 (hon 5 (by kernel_rfl)))
          have HO598 := Aside0.mk (Q_HO598 (hon 6 (by kernel_rfl)))
          have HO601 := Aside0.mk (Q_HO601 (hon 6 (by kernel_rfl)))
          refine value_ (w1 := w') (v := .tuple #[v597, v600, .int .i64 t602, .int .i64 t603, .int .i64 t604]) (by rfl) rfl ?_ ?_
          ·
           go_simp
           (try simp only [i64_w])
           try rfl
          refine hK.out _ _ ⟨v591, v594, v597, v600, m6_, (.tuple #[v597, v600, .int .i64 t602, .int .i64 t603, .int .i64 t604]), m8_, m9_, m13_, m14_, (by rw [ha.out]; exact putSel_upk 5 hb_ rfl rfl rfl), Q_HO582, Q_HO585, Q_HO_10, Q_HO_11, Q_HO_560003, Q_BK559, Q_HB, Q_HO592, Q_HO595, Q_HO598, Q_HO601, Q_X6_, fun _ => rfl, fun h0_ => absurd ((hoff 8 (by kernel_rfl)).symm.trans h0_) (by decide), fun h0_ => absurd ((hoff 9 (by kernel_rfl)).symm.trans h0_) (by decide), fun h0_ => absurd ((hoff 13 (by kernel_rfl)).symm.trans h0_) (by decide), fun h0_ => absurd ((hoff 14 (by kernel_rfl)).symm.trans h0_) (by decide)⟩
         refine steps_cons ?_ ?_
         ·
          rintro b a w' ⟨v591, v594, v597, v600, m6_, m7_, m8_, m9_, m13_, m14_, ha, Q_HO582, Q_HO585, Q_HO_10, Q_HO_11, Q_HO_560003, Q_BK559, Q_HB, Q_HO592, Q_HO595, Q_HO598, Q_HO601, Q_X6_, Q_X7_, Q_X8_, Q_X9_, Q_X13_, Q_X14_⟩ hb_ hon hoff
          refine ⟨_, rfl, fun K hK => ?_⟩
          have e75 : a.tmps[75]? = some (m7_) := by rw [ha]; exact putSel_on (e := (7, 75, m7_)) 5 rfl rfl (hon 7 (by kernel_rfl)) rfl
          rw [Q_X7_ (hon 7 (by kernel_rfl))] at e75
          replace ha := Aside0.mk ha
          have HO582 := Aside0.mk Q_HO582
          have HO585 := Aside0.mk Q_HO585
          have HO_10 := Aside0.mk Q_HO_10
          have HO_11 := Aside0.mk Q_HO_11
          have HO_560003 := Aside0.mk Q_HO_560003
          have BK559 := Aside0.mk Q_BK559
          have HB := Aside0.mk Q_HB
          have HO592 := Aside0.mk (Q_HO592 (hon 3 (by kernel_rfl)))
          have HO595 := Aside0.mk (Q_HO595 (hon 5 (by kernel_rfl)))
          have HO598 := Aside0.mk (Q_HO598 (hon 6 (by kernel_rfl)))
          have HO601 := Aside0.mk (Q_HO601 (hon 6 (by kernel_rfl)))
          obtain ⟨Ao8_0, co8_0, eo_⟩ := Kd.R_slice HO598.out
          subst eo_
          obtain ⟨Ao8_1, co8_1, eo_⟩ := Kd.R_slice HO601.out
          subst eo_
          refine value_ (w1 := w') (v := .slice Ao8_0 t596.length co8_0) (by rfl) rfl ?_ ?_
          ·
           go_simp
           (try simp only [i64_w])
           try rfl
          refine hK.out _ _ ⟨v591, v594, .slice Ao8_0 t596.length co8_0, .slice Ao8_1 t599.length co8_1, m6_, m7_, (.slice Ao8_0 t596.length co8_0), m9_, m13_, m14_, (by rw [ha.out]; exact putSel_upk 6 hb_ rfl rfl rfl), Q_HO582, Q_HO585, Q_HO_10, Q_HO_11, Q_HO_560003, Q_BK559, Q_HB, Q_HO592, Q_HO595, Q_HO598, Q_HO601, Q_X6_, Q_X7_, fun _ => rfl, Q_X9_, fun h0_ => absurd ((hoff 13 (by kernel_rfl)).symm.trans h0_) (by decide), fun h0_ => absurd ((hoff 14 (by kernel_rfl)).symm.trans h0_) (by decide)⟩
         refine steps_cons ?_ ?_
         ·
          rintro b a w' ⟨v591, v594, v597, v600, m6_, m7_, m8_, m9_, m13_, m14_, ha, Q_HO582, Q_HO585, Q_HO_10, Q_HO_11, Q_HO_560003, Q_BK559, Q_HB, Q_HO592, Q_HO595, Q_HO598, Q_HO601, Q_X6_, Q_X7_, Q_X8_, Q_X9_, Q_X13_, Q_X14_⟩ hb_ hon hoff
          refine ⟨_, rfl, fun K hK => ?_⟩
          have e75 : a.tmps[75]? = some (m7_) := by rw [ha]; exact putSel_on (e := (7, 75, m7_)) 5 rfl rfl (hon 7 (by kernel_rfl)) rfl
          rw [Q_X7_ (hon 7 (by kernel_rfl))] at e75
          replace ha := Aside0.mk ha
          have HO582 := Aside0.mk Q_HO582
          have HO585 := Aside0.mk Q_HO585
          have HO_10 := Aside0.mk Q_HO_10
          have HO_11 := Aside0.mk Q_HO_11
          have HO_560003 := Aside0.mk Q_HO_560003
          have BK559 := Aside0.mk Q_BK559
          have HB := Aside0.mk Q_HB
          have HO592 := Aside0.mk (Q_HO592 (hon 3 (by kernel_rfl)))
          have HO595 := Aside0.mk (Q_HO595 (hon 5 (by kernel_rfl)))
          have HO598 := Aside0.mk (Q_HO598 (hon 6 (by kernel_rfl)))
          have HO601 := Aside0.mk (Q_HO601 (hon 6 (by kernel_rfl)))
          obtain ⟨Ao9_0, co9_0, eo_⟩ := Kd.R_slice HO598.out
          subst eo_
          obtain ⟨Ao9_1, co9_1, eo_⟩ := Kd.R_slice HO601.out
          subst eo_
          refine value_ (w1 := w') (v := .slice Ao9_1 t599.length co9_1) (by rfl) rfl ?_ ?_
          ·
           go_simp
           (try simp only [i64_w])
           try rfl
          refine hK.out _ _ ⟨v591, v594, .slice Ao9_0 t596.length co9_0, .slice Ao9_1 t599.length co9_1, m6_, m7_, m8_, (.slice Ao9_1 t599.length co9_1), m13_, m14_, (by rw [ha.out]; exact putSel_upk 7 hb_ rfl rfl rfl), Q_HO582, Q_HO585, Q_HO_10, Q_HO_11, Q_HO_560003, Q_BK559, Q_HB, Q_HO592, Q_HO595, Q_HO598, Q_HO601, Q_X6_, Q_X7_, Q_X8_, fun _ => rfl, Q_X13_, fun h0_ => absurd ((hoff 14 (by kernel_rfl)).symm.trans h0_) (by decide)⟩
         refine steps_cons ?_ ?_
         ·
          rintro b a w' ⟨v591, v594, v597, v600, m6_, m7_, m8_, m9_, m13_, m14_, ha, Q_HO582, Q_HO585, Q_HO_10, Q_HO_11, Q_HO_560003, Q_BK559, Q_HB, Q_HO592, Q_HO595, Q_HO598, Q_HO601, Q_X6_, Q_X7_, Q_X8_, Q_X9_, Q_X13_, Q_X14_⟩ hb_ hon hoff
          refine ⟨_, rfl, fun K hK => ?_⟩
          have e75 : a.tmps[75]? = some (m7_) := by rw [ha]; exact putSel_on (e := (7, 75, m7_)) 5 rfl rfl (hon 7 (by kernel_rfl)) rfl
          rw [Q_X7_ (hon 7 (by kernel_rfl))] at e75
          replace ha := Aside0.mk ha
          have HO582 := Aside0.mk Q_HO582
          have HO585 := Aside0.mk Q_HO585
          have HO_10 := Aside0.mk Q_HO_10
          have HO_11 := Aside0.mk Q_HO_11
          have HO_560003 := Aside0.mk Q_HO_560003
          have BK559 := Aside0.mk Q_BK559
          have HB := Aside0.mk Q_HB
          have HO592 := Aside0.mk (Q_HO592 (hon 3 (by kernel_rfl)))
          have HO595 := Aside0.mk (Q_HO595 (hon 5 (by kernel_rfl)))
          have HO598 := Aside0.mk (Q_HO598 (hon 6 (by kernel_rfl)))
          have HO601 := Aside0.mk (Q_HO601 (hon 6 (by kernel_rfl)))
          obtain ⟨Ao10_0, co10_0, eo_⟩ := Kd.R_slice HO598.out
          subst eo_
          obtain ⟨Ao10_1, co10_1, eo_⟩ := Kd.R_slice HO601.out
          subst eo_
          refine value_ (w1 := w') (v := .int .i64 t602) (by rfl) rfl ?_ ?_
          ·
           go_simp
           (try simp only [i64_w])
           try rfl
          refine hK.out _ _ ⟨v591, v594, .slice Ao10_0 t596.length co10_0, .slice Ao10_1 t599.length co10_1, m6_, m7_, m8_, m9_, m13_, m14_, (by rw [ha.out]; exact putSel_upk 8 hb_ rfl rfl rfl), Q_HO582, Q_HO585, Q_HO_10, Q_HO_11, Q_HO_560003, Q_BK559, Q_HB, Q_HO592, Q_HO595, Q_HO598, Q_HO601, Q_X6_, Q_X7_, Q_X8_, Q_X9_, Q_X13_, Q_X14_⟩
         refine steps_cons ?_ ?_
         ·
          rintro b a w' ⟨v591, v594, v597, v600, m6_, m7_, m8_, m9_, m13_, m14_, ha, Q_HO582, Q_HO585, Q_HO_10, Q_HO_11, Q_HO_560003, Q_BK559, Q_HB, Q_HO592, Q_HO595, Q_HO598, Q_HO601, Q_X6_, Q_X7_, Q_X8_, Q_X9_, Q_X13_, Q_X14_⟩ hb_ hon hoff
          refine ⟨_, rfl, fun K hK => ?_⟩
          have e75 : a.tmps[75]? = some (m7_) := by rw [ha]; exact putSel_on (e := (7, 75, m7_)) 5 rfl rfl (hon 7 (by kernel_rfl)) rfl
          rw [Q_X7_ (hon 7 (by kernel_rfl))] at e75
          replace ha := Aside0.mk ha
          have HO582 := Aside0.mk Q_HO582
          have HO585 := Aside0.mk Q_HO585
          have HO_10 := Aside0.mk Q_HO_10
          have HO_11 := Aside0.mk Q_HO_11
          have HO_560003 := Aside0.mk Q_HO_560003
          have BK559 := Aside0.mk Q_BK559
          have HB := Aside0.mk Q_HB
          have HO592 := Aside0.mk (Q_HO592 (hon 3 (by kernel_rfl)))
          have HO595 := Aside0.mk (Q_HO595 (hon 5 (by kernel_rfl)))
          have HO598 := Aside0.mk (Q_HO598 (hon 6 (by kernel_rfl)))
          have HO601 := Aside0.mk (Q_HO601 (hon 6 (by kernel_rfl)))
          obtain ⟨Ao11_0, co11_0, eo_⟩ := Kd.R_slice HO598.out
          subst eo_
          obtain ⟨Ao11_1, co11_1, eo_⟩ := Kd.R_slice HO601.out
          subst eo_
          refine value_ (w1 := w') (v := .int .i64 t603) (by rfl) rfl ?_ ?_
          ·
           go_simp
           (try simp only [i64_w])
           try rfl
          refine hK.out _ _ ⟨v591, v594, .slice Ao11_0 t596.length co11_0, .slice Ao11_1 t599.length co11_1, m6_, m7_, m8_, m9_, m13_, m14_, (by rw [ha.out]; exact putSel_upk 9 hb_ rfl rfl rfl), Q_HO582, Q_HO585, Q_HO_10, Q_HO_11, Q_HO_560003, Q_BK559, Q_HB, Q_HO592, Q_HO595, Q_HO598, Q_HO601, Q_X6_, Q_X7_, Q_X8_, Q_X9_, Q_X13_, Q_X14_⟩
         refine steps_cons ?_ ?_
         ·
          rintro b a w' ⟨v591, v594, v597, v600, m6_, m7_, m8_, m9_, m13_, m14_, ha, Q_HO582, Q_HO585, Q_HO_10, Q_HO_11, Q_HO_560003, Q_BK559, Q_HB, Q_HO592, Q_HO595, Q_HO598, Q_HO601, Q_X6_, Q_X7_, Q_X8_, Q_X9_, Q_X13_, Q_X14_⟩ hb_ hon hoff
          refine ⟨_, rfl, fun K hK => ?_⟩
          have e75 : a.tmps[75]? = some (m7_) := by rw [ha]; exact putSel_on (e := (7, 75, m7_)) 5 rfl rfl (hon 7 (by kernel_rfl)) rfl
          rw [Q_X7_ (hon 7 (by kernel_rfl))] at e75
          replace ha := Aside0.mk ha
          have HO582 := Aside0.mk Q_HO582
          have HO585 := Aside0.mk Q_HO585
          have HO_10 := Aside0.mk Q_HO_10
          have HO_11 := Aside0.mk Q_HO_11
          have HO_560003 := Aside0.mk Q_HO_560003
          have BK559 := Aside0.mk Q_BK559
          have HB := Aside0.mk Q_HB
          have HO592 := Aside0.mk (Q_HO592 (hon 3 (by kernel_rfl)))
          have HO595 := Aside0.mk (Q_HO595 (hon 5 (by kernel_rfl)))
          have HO598 := Aside0.mk (Q_HO598 (hon 6 (by kernel_rfl)))
          have HO601 := Aside0.mk (Q_HO601 (hon 6 (by kernel_rfl)))
          obtain ⟨Ao12_0, co12_0, eo_⟩ := Kd.R_slice HO598.out
          subst eo_
          obtain ⟨Ao12_1, co12_1, eo_⟩ := Kd.R_slice HO601.out
          subst eo_
          refine value_ (w1 := w') (v := .int .i64 t604) (by rfl) rfl ?_ ?_
          ·
           go_simp
           (try simp only [i64_w])
           try rfl
          refine hK.out _ _ ⟨v591, v594, .slice Ao12_0 t596.length co12_0, .slice Ao12_1 t599.length co12_1, m6_, m7_, m8_, m9_, m13_, m14_, (by rw [ha.out]; exact putSel_upk 10 hb_ rfl rfl rfl), Q_HO582, Q_HO585, Q_HO_10, Q_HO_11, Q_HO_560003, Q_BK559, Q_HB, Q_HO592, Q_HO595, Q_HO598, Q_HO601, Q_X6_, Q_X7_, Q_X8_, Q_X9_, Q_X13_, Q_X14_⟩
         refine steps_cons ?_ ?_
         ·
          rintro b a w' ⟨v591, v594, v597, v600, m6_, m7_, m8_, m9_, m13_, m14_, ha, Q_HO582, Q_HO585, Q_HO_10, Q_HO_11, Q_HO_560003, Q_BK559, Q_HB, Q_HO592, Q_HO595, Q_HO598, Q_HO601, Q_X6_, Q_X7_, Q_X8_, Q_X9_, Q_X13_, Q_X14_⟩ hb_ hon hoff
          refine ⟨_, rfl, fun K hK => ?_⟩
          have e83 : a.tmps[83]? = some (m8_) := by rw [ha]; exact putSel_on (e := (8, 83, m8_)) 6 rfl rfl (hon 8 (by kernel_rfl)) rfl
          rw [Q_X8_ (hon 8 (by kernel_rfl))] at e83
          replace ha := Aside0.mk ha
          have HO582 := Aside0.mk Q_HO582
          have HO585 := Aside0.mk Q_HO585
          have HO_10 := Aside0.mk Q_HO_10
          have HO_11 := Aside0.mk Q_HO_11
          have HO_560003 := Aside0.mk Q_HO_560003
          have BK559 := Aside0.mk Q_BK559
          have HB := Aside0.mk Q_HB
          have HO592 := Aside0.mk (Q_HO592 (hon 3 (by kernel_rfl)))
          have HO595 := Aside0.mk (Q_HO595 (hon 5 (by kernel_rfl)))
          have HO598 := Aside0.mk (Q_HO598 (hon 6 (by kernel_rfl)))
          have HO601 := Aside0.mk (Q_HO601 (hon 6 (by kernel_rfl)))
          refine value_ (w1 := w') (v := v597) (by rfl) rfl ?_ ?_
          ·
           go_simp
           (try simp only [i64_w])
           try rfl
          refine hK.out _ _ ⟨v591, v594, v597, v600, m6_, m7_, m8_, m9_, (v597), m14_, (by rw [ha.out]; exact putSel_upk 11 hb_ rfl rfl rfl), Q_HO582, Q_HO585, Q_HO_10, Q_HO_11, Q_HO_560003, Q_BK559, Q_HB, Q_HO592, Q_HO595, Q_HO598, Q_HO601, Q_X6_, Q_X7_, Q_X8_, Q_X9_, fun _ => rfl, fun h0_ => absurd ((hoff 14 (by kernel_rfl)).symm.trans h0_) (by decide)⟩
         refine steps_cons ?_ ?_
         ·
          rintro b a w' ⟨v591, v594, v597, v600, m6_, m7_, m8_, m9_, m13_, m14_, ha, Q_HO582, Q_HO585, Q_HO_10, Q_HO_11, Q_HO_560003, Q_BK559, Q_HB, Q_HO592, Q_HO595, Q_HO598, Q_HO601, Q_X6_, Q_X7_, Q_X8_, Q_X9_, Q_X13_, Q_X14_⟩ hb_ hon hoff
          refine ⟨_, rfl, fun K hK => ?_⟩
          have e84 : a.tmps[84]? = some (m9_) := by rw [ha]; exact putSel_on (e := (9, 84, m9_)) 7 rfl rfl (hon 9 (by kernel_rfl)) rfl
          rw [Q_X9_ (hon 9 (by kernel_rfl))] at e84
          replace ha := Aside0.mk ha
          have HO582 := Aside0.mk Q_HO582
          have HO585 := Aside0.mk Q_HO585
          have HO_10 := Aside0.mk Q_HO_10
          have HO_11 := Aside0.mk Q_HO_11
          have HO_560003 := Aside0.mk Q_HO_560003
          have BK559 := Aside0.mk Q_BK559
          have HB := Aside0.mk Q_HB
          have HO592 := Aside0.mk (Q_HO592 (hon 3 (by kernel_rfl)))
          have HO595 := Aside0.mk (Q_HO595 (hon 5 (by kernel_rfl)))
          have HO598 := Aside0.mk (Q_HO598 (hon 6 (by kernel_rfl)))
          have HO601 := Aside0.mk (Q_HO601 (hon 6 (by kernel_rfl)))
          refine value_ (w1 := w') (v := v600) (by rfl) rfl ?_ ?_
          ·
           go_simp
           (try simp only [i64_w])
           try rfl
          refine hK.out _ _ ⟨v591, v594, v597, v600, m6_, m7_, m8_, m9_, m13_, (v600), (by rw [ha.out]; exact putSel_upk 12 hb_ rfl rfl rfl), Q_HO582, Q_HO585, Q_HO_10, Q_HO_11, Q_HO_560003, Q_BK559, Q_HB, Q_HO592, Q_HO595, Q_HO598, Q_HO601, Q_X6_, Q_X7_, Q_X8_, Q_X9_, Q_X13_, fun _ => rfl⟩
         refine steps_cons ?_ ?_
         ·
          rintro b a w' ⟨v591, v594, v597, v600, m6_, m7_, m8_, m9_, m13_, m14_, ha, Q_HO582, Q_HO585, Q_HO_10, Q_HO_11, Q_HO_560003, Q_BK559, Q_HB, Q_HO592, Q_HO595, Q_HO598, Q_HO601, Q_X6_, Q_X7_, Q_X8_, Q_X9_, Q_X13_, Q_X14_⟩ hb_ hon hoff
          refine ⟨_, rfl, fun K hK => ?_⟩
          have e85 : a.tmps[85]? = some (.int .i64 t602) := by rw [ha]; exact putSel_on (e := (10, 85, .int .i64 t602)) 8 rfl rfl (hon 10 (by kernel_rfl)) rfl
          replace ha := Aside0.mk ha
          have HO582 := Aside0.mk Q_HO582
          have HO585 := Aside0.mk Q_HO585
          have HO_10 := Aside0.mk Q_HO_10
          have HO_11 := Aside0.mk Q_HO_11
          have HO_560003 := Aside0.mk Q_HO_560003
          have BK559 := Aside0.mk Q_BK559
          have HB := Aside0.mk Q_HB
          have HO592 := Aside0.mk (Q_HO592 (hon 3 (by kernel_rfl)))
          have HO595 := Aside0.mk (Q_HO595 (hon 5 (by kernel_rfl)))
          have HO598 := Aside0.mk (Q_HO598 (hon 6 (by kernel_rfl)))
          have HO601 := Aside0.mk (Q_HO601 (hon 6 (by kernel_rfl)))
          refine value_ (w1 := w') (v := .int .i64 t602) (by rfl) rfl ?_ ?_
          ·
           go_simp
           (try simp only [i64_w])
           try rfl
          refine hK.out _ _ ⟨v591, v594, v597, v600, m6_, m7_, m8_, m9_, m13_, m14_, (by rw [ha.out]; exact putSel_upk 13 hb_ rfl rfl rfl), Q_HO582, Q_HO585, Q_HO_10, Q_HO_11, Q_HO_560003, Q_BK559, Q_HB, Q_HO592, Q_HO595, Q_HO598, Q_HO601, Q_X6_, Q_X7_, Q_X8_, Q_X9_, Q_X13_, Q_X14_⟩
         refine steps_cons ?_ ?_
         ·
          rintro b a w' ⟨v591, v594, v597, v600, m6_, m7_, m8_, m9_, m13_, m14_, ha, Q_HO582, Q_HO585, Q_HO_10, Q_HO_11, Q_HO_560003, Q_BK559, Q_HB, Q_HO592, Q_HO595, Q_HO598, Q_HO601, Q_X6_, Q_X7_, Q_X8_, Q_X9_, Q_X13_, Q_X14_⟩ hb_ hon hoff
          refine ⟨_, rfl, fun K hK => ?_⟩
          have e86 : a.tmps[86]? = some (.int .i64 t603) := by rw [ha]; exact putSel_on (e := (11, 86, .int .i64 t603)) 9 rfl rfl (hon 11 (by kernel_rfl)) rfl
          replace ha := Aside0.mk ha
          have HO582 := Aside0.mk Q_HO582
          have HO585 := Aside0.mk Q_HO585
          have HO_10 := Aside0.mk Q_HO_10
          have HO_11 := Aside0.mk Q_HO_11
          have HO_560003 := Aside0.mk Q_HO_560003
          have BK559 := Aside0.mk Q_BK559
          have HB := Aside0.mk Q_HB
          have HO592 := Aside0.mk (Q_HO592 (hon 3 (by kernel_rfl)))
          have HO595 := Aside0.mk (Q_HO595 (hon 5 (by kernel_rfl)))
          have HO598 := Aside0.mk (Q_HO598 (hon 6 (by kernel_rfl)))
          have HO601 := Aside0.mk (Q_HO601 (hon 6 (by kernel_rfl)))
          refine value_ (w1 := w') (v := .int .i64 t603) (by rfl) rfl ?_ ?_
          ·
           go_simp
           (try simp only [i64_w])
           try rfl
          refine hK.out _ _ ⟨v591, v594, v597, v600, m6_, m7_, m8_, m9_, m13_, m14_, (by rw [ha.out]; exact putSel_upk 14 hb_ rfl rfl rfl), Q_HO582, Q_HO585, Q_HO_10, Q_HO_11, Q_HO_560003, Q_BK559, Q_HB, Q_HO592, Q_HO595, Q_HO598, Q_HO601, Q_X6_, Q_X7_, Q_X8_, Q_X9_, Q_X13_, Q_X14_⟩
         refine steps_cons ?_ ?_
         ·
          rintro b a w' ⟨v591, v594, v597, v600, m6_, m7_, m8_, m9_, m13_, m14_, ha, Q_HO582, Q_HO585, Q_HO_10, Q_HO_11, Q_HO_560003, Q_BK559, Q_HB, Q_HO592, Q_HO595, Q_HO598, Q_HO601, Q_X6_, Q_X7_, Q_X8_, Q_X9_, Q_X13_, Q_X14_⟩ hb_ hon hoff
          refine ⟨_, rfl, fun K hK => ?_⟩
          have e87 : a.tmps[87]? = some (.int .i64 t604) := by rw [ha]; exact putSel_on (e := (12, 87, .int .i64 t604)) 10 rfl rfl (hon 12 (by kernel_rfl)) rfl
          replace ha := Aside0.mk ha
          have HO582 := Aside0.mk Q_HO582
          have HO585 := Aside0.mk Q_HO585
          have HO_10 := Aside0.mk Q_HO_10
          have HO_11 := Aside0.mk Q_HO_11
          have HO_560003 := Aside0.mk Q_HO_560003
          have BK559 := Aside0.mk Q_BK559
          have HB := Aside0.mk Q_HB
          have HO592 := Aside0.mk (Q_HO592 (hon 3 (by kernel_rfl)))
          have HO595 := Aside0.mk (Q_HO595 (hon 5 (by kernel_rfl)))
          have HO598 := Aside0.mk (Q_HO598 (hon 6 (by kernel_rfl)))
          have HO601 := Aside0.mk (Q_HO601 (hon 6 (by kernel_rfl)))
          refine value_ (w1 := w') (v := .int .i64 t604) (by rfl) rfl ?_ ?_
          ·
           go_simp
           (try simp only [i64_w])
           try rfl
          refine hK.out _ _ ⟨v591, v594, v597, v600, m6_, m7_, m8_, m9_, m13_, m14_, (by rw [ha.out]; exact putSel_upk 15 hb_ rfl rfl rfl), Q_HO582, Q_HO585, Q_HO_10, Q_HO_11, Q_HO_560003, Q_BK559, Q_HB, Q_HO592, Q_HO595, Q_HO598, Q_HO601, Q_X6_, Q_X7_, Q_X8_, Q_X9_, Q_X13_, Q_X14_⟩
         exact steps_nil
        rintro b a w46 hall ⟨v591, v594, v597, v600, m6_, m7_, m8_, m9_, m13_, m14_, ha, Q_HO582, Q_HO585, Q_HO_10, Q_HO_11, Q_HO_560003, Q_BK559, Q_HB, Q_HO592, Q_HO595, Q_HO598, Q_HO601, Q_X6_, Q_X7_, Q_X8_, Q_X9_, Q_X13_, Q_X14_⟩
        clear BK559 HB HO582 HO585 HO_10 HO_11 HO_560003
        have hb0_ := hall 0 (by kernel_rfl)
        have hb2_ := hall 2 (by kernel_rfl)
        have hb3_ := hall 3 (by kernel_rfl)
        have hb5_ := hall 5 (by kernel_rfl)
        have hb6_ := hall 6 (by kernel_rfl)
        have hb7_ := hall 7 (by kernel_rfl)
        have hb8_ := hall 8 (by kernel_rfl)
        have hb9_ := hall 9 (by kernel_rfl)
        have hb10_ := hall 10 (by kernel_rfl)
        have hb11_ := hall 11 (by kernel_rfl)
        have hb12_ := hall 12 (by kernel_rfl)
        have hb13_ := hall 13 (by kernel_rfl)
        have hb14_ := hall 14 (by kernel_rfl)
        have hb15_ := hall 15 (by kernel_rfl)
        have hb16_ := hall 16 (by kernel_rfl)
        have hb17_ := hall 17 (by kernel_rfl)
        subst ha
        obtain rfl := (Q_X6_ hb6_).symm
        obtain rfl := (Q_X7_ hb7_).symm
        obtain rfl := (Q_X8_ hb8_).symm
        obtain rfl := (Q_X9_ hb9_).symm
        obtain rfl := (Q_X13_ hb13_).symm
        obtain rfl := (Q_X14_ hb14_).symm
        simp only [putSel, hb0_, hb2_, hb3_, hb5_, hb6_, hb7_, hb8_, hb9_, hb10_, hb11_, hb12_, hb13_, hb14_, hb15_, hb16_, hb17_, if_true, Act.put, List.setIfInBounds_toArray, List.set_cons_zero, List.set_cons_succ]
        have HO582 := Aside0.mk Q_HO582
        clear Q_HO582
        have HO585 := Aside0.mk Q_HO585
        clear Q_HO585
        have HO_10 := Aside0.mk Q_HO_10
        clear Q_HO_10
        have HO_11 := Aside0.mk Q_HO_11
        clear Q_HO_11
        have HO_560003 := Aside0.mk Q_HO_560003
        clear Q_HO_560003
        have BK559 := Aside0.mk Q_BK559
        clear Q_BK559
        have HB := Aside0.mk Q_HB
        clear Q_HB
        have HO592 := Aside0.mk (Q_HO592 hb3_)
        clear Q_HO592
        have HO595 := Aside0.mk (Q_HO595 hb5_)
        clear Q_HO595
        have HO598 := Aside0.mk (Q_HO598 hb6_)
        clear Q_HO598
        have HO601 := Aside0.mk (Q_HO601 hb6_)
        clear Q_HO601
        clear hall hb0_ hb2_ hb3_ hb5_ hb6_ hb7_ hb8_ hb9_ hb10_ hb11_ hb12_ hb13_ hb14_ hb15_ hb16_ hb17_
        go_upto_region 15 with (fail)
        go_cut [109] (fun v109 wc => ∃ (kq : Nat) (x109_31 : Bool), v109 = .bool x109_31 ∧ Aside0 (haberdashlaw19_LevyOnce.j1 kq a1 a3 t569 x11_1 t583 t599 x109_31 t562 a3 t564 t565 = some r) ∧ Aside0 (kq ≤ k1) ∧ Aside0 (Kd.R (Kd.int .i64) 2 wc w.heap.size (fun _ => True) (.slice Ao19 t569.length co19) t569) ∧ Aside0 (Kd.R Kd.string 9 wc w.heap.size (fun _ => True) (.slice Ao35 x11_1.length co35) x11_1) ∧ Aside0 (Kd.R (Kd.int .i64) 2 wc w.heap.size (fun _ => True) v584 t583) ∧ Aside0 (Kd.R (Kd.int .i64) 2 wc w.heap.size (fun _ => True) v600 t599) ∧ Aside0 (Kd.S k56 56 wc w.heap.size (fun _ => True) (.slice Ao17 t565.length co17) t565) ∧ Aside0 (wc.heap[gb559]? = some (.cells #[.bool t562, .bool a3, .int .i64 t564, (.slice Ao17 t565.length co17)] 24 (0, 0))) ∧ Aside0 (Below w.heap.size w wc))
        case first =>
         have H := HC32.out
         clear HC32
         replace H := Option.bind_eq_some_iff.mp H
         obtain ⟨t605, A470, H⟩ := H
         replace H : (if t605 = true then (if t588 = 0 then (if t604 = 0 then (if (t583.length : Int) = (t569.length : Int) then (haberdashlaw19_LevyOnce.j1 k1 a1 a3 t569 x11_1 t583 t599 ((t599.length : Int) != 1) t562 a3 t564 t565) else (haberdashlaw19_LevyOnce.j1 k1 a1 a3 t569 x11_1 t583 t599 true t562 a3 t564 t565)) else (haberdashlaw19_LevyOnce.j1 k1 a1 a3 t569 x11_1 t583 t599 true t562 a3 t564 t565)) else (haberdashlaw19_LevyOnce.j1 k1 a1 a3 t569 x11_1 t583 t599 true t562 a3 t564 t565)) else (haberdashlaw19_LevyOnce.j1 k1 a1 a3 t569 x11_1 t583 t599 true t562 a3 t564 t565)) = some r := H
         have A47 := Aside0.mk A470
         clear A470
         by_cases c48 : t605 = true
         ·
          subst c48
          have H1 : (if t588 = 0 then (if t604 = 0 then (if (t583.length : Int) = (t569.length : Int) then (haberdashlaw19_LevyOnce.j1 k1 a1 a3 t569 x11_1 t583 t599 ((t599.length : Int) != 1) t562 a3 t564 t565) else (haberdashlaw19_LevyOnce.j1 k1 a1 a3 t569 x11_1 t583 t599 true t562 a3 t564 t565)) else (haberdashlaw19_LevyOnce.j1 k1 a1 a3 t569 x11_1 t583 t599 true t562 a3 t564 t565)) else (haberdashlaw19_LevyOnce.j1 k1 a1 a3 t569 x11_1 t583 t599 true t562 a3 t564 t565)) = some r := by rw [if_pos rfl] at H; exact H
          clear H
          have H := H1
          clear H1
          by_cases c49 : t588 = 0
          ·
           rw [if_pos c49] at H
           have c49b0 : (t588 == 0) = true := beq_iff_eq.mpr c49
           have c49b1 : (t588 != 0) = false := bne_eq_false_iff_eq.mpr c49
           clear c49
           (first | rw [c49b0] | (simp only [i64_w, i32_w]; rw [c49b0]) | skip)
           by_cases c50 : t604 = 0
           ·
            rw [if_pos c50] at H
            have c50b0 : (t604 == 0) = true := beq_iff_eq.mpr c50
            have c50b1 : (t604 != 0) = false := bne_eq_false_iff_eq.mpr c50
            clear c50
            by_cases c51 : (t583.length : Int) = (t569.length : Int)
            ·
             rw [if_pos c51] at H
             have c51b0 : ((t583.length : Int) == (t569.length : Int)) = true := beq_iff_eq.mpr c51
             have c51b1 : ((t583.length : Int) != (t569.length : Int)) = false := bne_eq_false_iff_eq.mpr c51
             have c51b2 : (t583.length == t569.length) = true := by first | simpa using c51 | (simp at c51 ⊢; omega)
             clear c51
             have H' := Aside0.mk H
             clear H
             go_wp2_with (first | ((with_reducible refine gate_callee (f := 14) rfl ?_); refine goesL_ (some 88) rfl rfl Try.func14 (by kernel_rfl) rfl #[] rfl (by (try simp only [List.map_toArray, List.map_cons, List.map_nil]); first | done | rfl | (simp only [List.length_drop, List.length_take]; rfl)) ?_; (with_reducible refine (haberdashlaw19_awake.calls k1  true _ A47.out).mono ?_); rintro e w52 ⟨rfl, hb⟩; refine ⟨_, rfl, ?_⟩; replace HO_10 := Aside0.mk (Kd.R_below (by (with_reducible repeat (first | apply Kd.R_alloc | apply Kd.R_drewN | apply Kd.R_drew)); exact (anyR HO_10.out)) hb); replace HO_11 := Aside0.mk (Kd.R_below (by (with_reducible repeat (first | apply Kd.R_alloc | apply Kd.R_drewN | apply Kd.R_drew)); exact (anyR HO_11.out)) hb); replace HO_560003 := Aside0.mk (Kd.S_below (by (with_reducible repeat (first | apply Kd.S_alloc | apply Kd.S_drewN | apply Kd.S_drew)); exact HO_560003.out) hb); replace HO582 := Aside0.mk (Kd.R_below (by (with_reducible repeat (first | apply Kd.R_alloc | apply Kd.R_drewN | apply Kd.R_drew)); exact (anyR HO582.out)) hb); replace HO585 := Aside0.mk (Kd.R_below (by (with_reducible repeat (first | apply Kd.R_alloc | apply Kd.R_drewN | apply Kd.R_drew)); exact (anyR HO585.out)) hb); replace HO592 := Aside0.mk (Kd.R_below (by (with_reducible repeat (first | apply Kd.R_alloc | apply Kd.R_drewN | apply Kd.R_drew)); exact (anyR HO592.out)) hb); replace HO595 := Aside0.mk (Kd.R_below (by (with_reducible repeat (first | apply Kd.R_alloc | apply Kd.R_drewN | apply Kd.R_drew)); exact (anyR HO595.out)) hb); replace HO598 := Aside0.mk (Kd.R_below (by (with_reducible repeat (first | apply Kd.R_alloc | apply Kd.R_drewN | apply Kd.R_drew)); exact (anyR HO598.out)) hb); replace HO601 := Aside0.mk (Kd.R_below (by (with_reducible repeat (first | apply Kd.R_alloc | apply Kd.R_drewN | apply Kd.R_drew)); exact (anyR HO601.out)) hb); replace BK559 := Aside0.mk (blk_below (g := gb559) (o := .cells #[.bool t562, .bool a3, .int .i64 t564, .slice Ao17 t565.length co17] 24 (0, 0)) (by (with_reducible repeat (first | refine blk_drewN ?_ _ | refine blk_drew ?_ | refine blk_alloc ?_ _)); exact BK559.out) hb); replace HB := Aside0.mk (below_step (by repeat (first | (with_reducible first | exact HB.out | apply below_alloc | apply pw_below_drewN | apply below_drew1 | refine below_set ?_ GE559.out) | exact HB.out)) hb); (try clear hb); (try clear hb2); (try clear hk); (try clear hi); obtain ⟨Ao53, co53, eo53⟩ := Kd.R_slice HO585.out; subst eo53; obtain ⟨Ao54, co54, eo54⟩ := Kd.R_slice HO601.out; subst eo54))
             go_meet
             case rel => exact ⟨_, (((t599.length : Int) != 1)), (by first | rfl | (simp; done) | (simp [*]; done)), H', ⟨by have := HK1.out; first | omega | exact Nat.le_refl _⟩, ⟨by (with_reducible repeat (first | apply Kd.R_alloc | apply Kd.R_drewN | apply Kd.R_drew)); exact anyR HO_10.out⟩, ⟨by (with_reducible repeat (first | apply Kd.R_alloc | apply Kd.R_drewN | apply Kd.R_drew)); exact anyR HO_11.out⟩, ⟨by (with_reducible repeat (first | apply Kd.R_alloc | apply Kd.R_drewN | apply Kd.R_drew)); exact anyR HO585.out⟩, ⟨by (with_reducible repeat (first | apply Kd.R_alloc | apply Kd.R_drewN | apply Kd.R_drew)); exact anyR HO601.out⟩, ⟨by (with_reducible repeat (first | apply Kd.S_alloc | apply Kd.S_drewN | apply Kd.S_drew)); exact HO_560003.out⟩, ⟨by (with_reducible repeat (first | refine blk_drewN ?_ _ | refine blk_drew ?_ | refine blk_alloc ?_ _)); exact BK559.out⟩, ⟨by repeat (first | (with_reducible first | exact HB.out | apply below_alloc | apply pw_below_drewN | apply below_drew1 | refine below_set ?_ GE559.out) | exact HB.out)⟩⟩
            ·
             rw [if_neg c51] at H
             have c51b0 : ((t583.length : Int) == (t569.length : Int)) = false := beq_eq_false_iff_ne.mpr c51
             have c51b1 : ((t583.length : Int) != (t569.length : Int)) = true := bne_iff_ne.mpr c51
             have c51b2 : (t583.length == t569.length) = false := by first | simpa using c51 | (simp at c51 ⊢; omega)
             have H' := Aside0.mk H
             clear H
             go_wp2_with (first | ((with_reducible refine gate_callee (f := 14) rfl ?_); refine goesL_ (some 88) rfl rfl Try.func14 (by kernel_rfl) rfl #[] rfl (by (try simp only [List.map_toArray, List.map_cons, List.map_nil]); first | done | rfl | (simp only [List.length_drop, List.length_take]; rfl)) ?_; (with_reducible refine (haberdashlaw19_awake.calls k1  true _ A47.out).mono ?_); rintro e w55 ⟨rfl, hb⟩; refine ⟨_, rfl, ?_⟩; replace HO_10 := Aside0.mk (Kd.R_below (by (with_reducible repeat (first | apply Kd.R_alloc | apply Kd.R_drewN | apply Kd.R_drew)); exact (anyR HO_10.out)) hb); replace HO_11 := Aside0.mk (Kd.R_below (by (with_reducible repeat (first | apply Kd.R_alloc | apply Kd.R_drewN | apply Kd.R_drew)); exact (anyR HO_11.out)) hb); replace HO_560003 := Aside0.mk (Kd.S_below (by (with_reducible repeat (first | apply Kd.S_alloc | apply Kd.S_drewN | apply Kd.S_drew)); exact HO_560003.out) hb); replace HO582 := Aside0.mk (Kd.R_below (by (with_reducible repeat (first | apply Kd.R_alloc | apply Kd.R_drewN | apply Kd.R_drew)); exact (anyR HO582.out)) hb); replace HO585 := Aside0.mk (Kd.R_below (by (with_reducible repeat (first | apply Kd.R_alloc | apply Kd.R_drewN | apply Kd.R_drew)); exact (anyR HO585.out)) hb); replace HO592 := Aside0.mk (Kd.R_below (by (with_reducible repeat (first | apply Kd.R_alloc | apply Kd.R_drewN | apply Kd.R_drew)); exact (anyR HO592.out)) hb); replace HO595 := Aside0.mk (Kd.R_below (by (with_reducible repeat (first | apply Kd.R_alloc | apply Kd.R_drewN | apply Kd.R_drew)); exact (anyR HO595.out)) hb); replace HO598 := Aside0.mk (Kd.R_below (by (with_reducible repeat (first | apply Kd.R_alloc | apply Kd.R_drewN | apply Kd.R_drew)); exact (anyR HO598.out)) hb); replace HO601 := Aside0.mk (Kd.R_below (by (with_reducible repeat (first | apply Kd.R_alloc | apply Kd.R_drewN | apply Kd.R_drew)); exact (anyR HO601.out)) hb); replace BK559 := Aside0.mk (blk_below (g := gb559) (o := .cells #[.bool t562, .bool a3, .int .i64 t564, .slice Ao17 t565.length co17] 24 (0, 0)) (by (with_reducible repeat (first | refine blk_drewN ?_ _ | refine blk_drew ?_ | refine blk_alloc ?_ _)); exact BK559.out) hb); replace HB := Aside0.mk (below_step (by repeat (first | (with_reducible first | exact HB.out | apply below_alloc | apply pw_below_drewN | apply below_drew1 | refine below_set ?_ GE559.out) | exact HB.out)) hb); (try clear hb); (try clear hb2); (try clear hk); (try clear hi); obtain ⟨Ao56, co56, eo56⟩ := Kd.R_slice HO585.out; subst eo56))
             go_meet
             case rel => exact ⟨_, (true), (by first | rfl | (simp; done) | (simp [*]; done)), H', ⟨by have := HK1.out; first | omega | exact Nat.le_refl _⟩, ⟨by (with_reducible repeat (first | apply Kd.R_alloc | apply Kd.R_drewN | apply Kd.R_drew)); exact anyR HO_10.out⟩, ⟨by (with_reducible repeat (first | apply Kd.R_alloc | apply Kd.R_drewN | apply Kd.R_drew)); exact anyR HO_11.out⟩, ⟨by (with_reducible repeat (first | apply Kd.R_alloc | apply Kd.R_drewN | apply Kd.R_drew)); exact anyR HO585.out⟩, ⟨by (with_reducible repeat (first | apply Kd.R_alloc | apply Kd.R_drewN | apply Kd.R_drew)); exact anyR HO601.out⟩, ⟨by (with_reducible repeat (first | apply Kd.S_alloc | apply Kd.S_drewN | apply Kd.S_drew)); exact HO_560003.out⟩, ⟨by (with_reducible repeat (first | refine blk_drewN ?_ _ | refine blk_drew ?_ | refine blk_alloc ?_ _)); exact BK559.out⟩, ⟨by repeat (first | (with_reducible first | exact HB.out | apply below_alloc | apply pw_below_drewN | apply below_drew1 | refine below_set ?_ GE559.out) | exact HB.out)⟩⟩
           ·
            rw [if_neg c50] at H
            have c50b0 : (t604 == 0) = false := beq_eq_false_iff_ne.mpr c50
            have c50b1 : (t604 != 0) = true := bne_iff_ne.mpr c50
            have H' := Aside0.mk H
            clear H
            go_wp2_with (first | ((with_reducible refine gate_callee (f := 14) rfl ?_); refine goesL_ (some 88) rfl rfl Try.func14 (by kernel_rfl) rfl #[] rfl (by (try simp only [List.map_toArray, List.map_cons, List.map_nil]); first | done | rfl | (simp only [List.length_drop, List.length_take]; rfl)) ?_; (with_reducible refine (haberdashlaw19_awake.calls k1  true _ A47.out).mono ?_); rintro e w57 ⟨rfl, hb⟩; refine ⟨_, rfl, ?_⟩; replace HO_10 := Aside0.mk (Kd.R_below (by (with_reducible repeat (first | apply Kd.R_alloc | apply Kd.R_drewN | apply Kd.R_drew)); exact (anyR HO_10.out)) hb); replace HO_11 := Aside0.mk (Kd.R_below (by (with_reducible repeat (first | apply Kd.R_alloc | apply Kd.R_drewN | apply Kd.R_drew)); exact (anyR HO_11.out)) hb); replace HO_560003 := Aside0.mk (Kd.S_below (by (with_reducible repeat (first | apply Kd.S_alloc | apply Kd.S_drewN | apply Kd.S_drew)); exact HO_560003.out) hb); replace HO582 := Aside0.mk (Kd.R_below (by (with_reducible repeat (first | apply Kd.R_alloc | apply Kd.R_drewN | apply Kd.R_drew)); exact (anyR HO582.out)) hb); replace HO585 := Aside0.mk (Kd.R_below (by (with_reducible repeat (first | apply Kd.R_alloc | apply Kd.R_drewN | apply Kd.R_drew)); exact (anyR HO585.out)) hb); replace HO592 := Aside0.mk (Kd.R_below (by (with_reducible repeat (first | apply Kd.R_alloc | apply Kd.R_drewN | apply Kd.R_drew)); exact (anyR HO592.out)) hb); replace HO595 := Aside0.mk (Kd.R_below (by (with_reducible repeat (first | apply Kd.R_alloc | apply Kd.R_drewN | apply Kd.R_drew)); exact (anyR HO595.out)) hb); replace HO598 := Aside0.mk (Kd.R_below (by (with_reducible repeat (first | apply Kd.R_alloc | apply Kd.R_drewN | apply Kd.R_drew)); exact (anyR HO598.out)) hb); replace HO601 := Aside0.mk (Kd.R_below (by (with_reducible repeat (first | apply Kd.R_alloc | apply Kd.R_drewN | apply Kd.R_drew)); exact (anyR HO601.out)) hb); replace BK559 := Aside0.mk (blk_below (g := gb559) (o := .cells #[.bool t562, .bool a3, .int .i64 t564, .slice Ao17 t565.length co17] 24 (0, 0)) (by (with_reducible repeat (first | refine blk_drewN ?_ _ | refine blk_drew ?_ | refine blk_alloc ?_ _)); exact BK559.out) hb); replace HB := Aside0.mk (below_step (by repeat (first | (with_reducible first | exact HB.out | apply below_alloc | apply pw_below_drewN | apply below_drew1 | refine below_set ?_ GE559.out) | exact HB.out)) hb); (try clear hb); (try clear hb2); (try clear hk); (try clear hi)))
            go_meet
            case rel => exact ⟨_, (true), (by first | rfl | (simp; done) | (simp [*]; done)), H', ⟨by have := HK1.out; first | omega | exact Nat.le_refl _⟩, ⟨by (with_reducible repeat (first | apply Kd.R_alloc | apply Kd.R_drewN | apply Kd.R_drew)); exact anyR HO_10.out⟩, ⟨by (with_reducible repeat (first | apply Kd.R_alloc | apply Kd.R_drewN | apply Kd.R_drew)); exact anyR HO_11.out⟩, ⟨by (with_reducible repeat (first | apply Kd.R_alloc | apply Kd.R_drewN | apply Kd.R_drew)); exact anyR HO585.out⟩, ⟨by (with_reducible repeat (first | apply Kd.R_alloc | apply Kd.R_drewN | apply Kd.R_drew)); exact anyR HO601.out⟩, ⟨by (with_reducible repeat (first | apply Kd.S_alloc | apply Kd.S_drewN | apply Kd.S_drew)); exact HO_560003.out⟩, ⟨by (with_reducible repeat (first | refine blk_drewN ?_ _ | refine blk_drew ?_ | refine blk_alloc ?_ _)); exact BK559.out⟩, ⟨by repeat (first | (with_reducible first | exact HB.out | apply below_alloc | apply pw_below_drewN | apply below_drew1 | refine below_set ?_ GE559.out) | exact HB.out)⟩⟩
          ·
           rw [if_neg c49] at H
           have c49b0 : (t588 == 0) = false := beq_eq_false_iff_ne.mpr c49
           have c49b1 : (t588 != 0) = true := bne_iff_ne.mpr c49
           (first | rw [c49b0] | (simp only [i64_w, i32_w]; rw [c49b0]) | skip)
           have H' := Aside0.mk H
           clear H
           go_wp2_with (first | ((with_reducible refine gate_callee (f := 14) rfl ?_); refine goesL_ (some 88) rfl rfl Try.func14 (by kernel_rfl) rfl #[] rfl (by (try simp only [List.map_toArray, List.map_cons, List.map_nil]); first | done | rfl | (simp only [List.length_drop, List.length_take]; rfl)) ?_; (with_reducible refine (haberdashlaw19_awake.calls k1  true _ A47.out).mono ?_); rintro e w58 ⟨rfl, hb⟩; refine ⟨_, rfl, ?_⟩; replace HO_10 := Aside0.mk (Kd.R_below (by (with_reducible repeat (first | apply Kd.R_alloc | apply Kd.R_drewN | apply Kd.R_drew)); exact (anyR HO_10.out)) hb); replace HO_11 := Aside0.mk (Kd.R_below (by (with_reducible repeat (first | apply Kd.R_alloc | apply Kd.R_drewN | apply Kd.R_drew)); exact (anyR HO_11.out)) hb); replace HO_560003 := Aside0.mk (Kd.S_below (by (with_reducible repeat (first | apply Kd.S_alloc | apply Kd.S_drewN | apply Kd.S_drew)); exact HO_560003.out) hb); replace HO582 := Aside0.mk (Kd.R_below (by (with_reducible repeat (first | apply Kd.R_alloc | apply Kd.R_drewN | apply Kd.R_drew)); exact (anyR HO582.out)) hb); replace HO585 := Aside0.mk (Kd.R_below (by (with_reducible repeat (first | apply Kd.R_alloc | apply Kd.R_drewN | apply Kd.R_drew)); exact (anyR HO585.out)) hb); replace HO592 := Aside0.mk (Kd.R_below (by (with_reducible repeat (first | apply Kd.R_alloc | apply Kd.R_drewN | apply Kd.R_drew)); exact (anyR HO592.out)) hb); replace HO595 := Aside0.mk (Kd.R_below (by (with_reducible repeat (first | apply Kd.R_alloc | apply Kd.R_drewN | apply Kd.R_drew)); exact (anyR HO595.out)) hb); replace HO598 := Aside0.mk (Kd.R_below (by (with_reducible repeat (first | apply Kd.R_alloc | apply Kd.R_drewN | apply Kd.R_drew)); exact (anyR HO598.out)) hb); replace HO601 := Aside0.mk (Kd.R_below (by (with_reducible repeat (first | apply Kd.R_alloc | apply Kd.R_drewN | apply Kd.R_drew)); exact (anyR HO601.out)) hb); replace BK559 := Aside0.mk (blk_below (g := gb559) (o := .cells #[.bool t562, .bool a3, .int .i64 t564, .slice Ao17 t565.length co17] 24 (0, 0)) (by (with_reducible repeat (first | refine blk_drewN ?_ _ | refine blk_drew ?_ | refine blk_alloc ?_ _)); exact BK559.out) hb); replace HB := Aside0.mk (below_step (by repeat (first | (with_reducible first | exact HB.out | apply below_alloc | apply pw_below_drewN | apply below_drew1 | refine below_set ?_ GE559.out) | exact HB.out)) hb); (try clear hb); (try clear hb2); (try clear hk); (try clear hi)))
           go_meet
           case rel => exact ⟨_, (true), (by first | rfl | (simp; done) | (simp [*]; done)), H', ⟨by have := HK1.out; first | omega | exact Nat.le_refl _⟩, ⟨by (with_reducible repeat (first | apply Kd.R_alloc | apply Kd.R_drewN | apply Kd.R_drew)); exact anyR HO_10.out⟩, ⟨by (with_reducible repeat (first | apply Kd.R_alloc | apply Kd.R_drewN | apply Kd.R_drew)); exact anyR HO_11.out⟩, ⟨by (with_reducible repeat (first | apply Kd.R_alloc | apply Kd.R_drewN | apply Kd.R_drew)); exact anyR HO585.out⟩, ⟨by (with_reducible repeat (first | apply Kd.R_alloc | apply Kd.R_drewN | apply Kd.R_drew)); exact anyR HO601.out⟩, ⟨by (with_reducible repeat (first | apply Kd.S_alloc | apply Kd.S_drewN | apply Kd.S_drew)); exact HO_560003.out⟩, ⟨by (with_reducible repeat (first | refine blk_drewN ?_ _ | refine blk_drew ?_ | refine blk_alloc ?_ _)); exact BK559.out⟩, ⟨by repeat (first | (with_reducible first | exact HB.out | apply below_alloc | apply pw_below_drewN | apply below_drew1 | refine below_set ?_ GE559.out) | exact HB.out)⟩⟩
         ·
          replace c48 := Bool.eq_false_iff.mpr c48
          subst c48
          have H1 : (haberdashlaw19_LevyOnce.j1 k1 a1 a3 t569 x11_1 t583 t599 true t562 a3 t564 t565) = some r := by rw [if_neg (show ¬ (false = true) by decide)] at H; exact H
          clear H
          have H := H1
          clear H1
          have H' := Aside0.mk H
          clear H
          go_wp2_with (first | ((with_reducible refine gate_callee (f := 14) rfl ?_); refine goesL_ (some 88) rfl rfl Try.func14 (by kernel_rfl) rfl #[] rfl (by (try simp only [List.map_toArray, List.map_cons, List.map_nil]); first | done | rfl | (simp only [List.length_drop, List.length_take]; rfl)) ?_; (with_reducible refine (haberdashlaw19_awake.calls k1  false _ A47.out).mono ?_); rintro e w59 ⟨rfl, hb⟩; refine ⟨_, rfl, ?_⟩; replace HO_10 := Aside0.mk (Kd.R_below (by (with_reducible repeat (first | apply Kd.R_alloc | apply Kd.R_drewN | apply Kd.R_drew)); exact (anyR HO_10.out)) hb); replace HO_11 := Aside0.mk (Kd.R_below (by (with_reducible repeat (first | apply Kd.R_alloc | apply Kd.R_drewN | apply Kd.R_drew)); exact (anyR HO_11.out)) hb); replace HO_560003 := Aside0.mk (Kd.S_below (by (with_reducible repeat (first | apply Kd.S_alloc | apply Kd.S_drewN | apply Kd.S_drew)); exact HO_560003.out) hb); replace HO582 := Aside0.mk (Kd.R_below (by (with_reducible repeat (first | apply Kd.R_alloc | apply Kd.R_drewN | apply Kd.R_drew)); exact (anyR HO582.out)) hb); replace HO585 := Aside0.mk (Kd.R_below (by (with_reducible repeat (first | apply Kd.R_alloc | apply Kd.R_drewN | apply Kd.R_drew)); exact (anyR HO585.out)) hb); replace HO592 := Aside0.mk (Kd.R_below (by (with_reducible repeat (first | apply Kd.R_alloc | apply Kd.R_drewN | apply Kd.R_drew)); exact (anyR HO592.out)) hb); replace HO595 := Aside0.mk (Kd.R_below (by (with_reducible repeat (first | apply Kd.R_alloc | apply Kd.R_drewN | apply Kd.R_drew)); exact (anyR HO595.out)) hb); replace HO598 := Aside0.mk (Kd.R_below (by (with_reducible repeat (first | apply Kd.R_alloc | apply Kd.R_drewN | apply Kd.R_drew)); exact (anyR HO598.out)) hb); replace HO601 := Aside0.mk (Kd.R_below (by (with_reducible repeat (first | apply Kd.R_alloc | apply Kd.R_drewN | apply Kd.R_drew)); exact (anyR HO601.out)) hb); replace BK559 := Aside0.mk (blk_below (g := gb559) (o := .cells #[.bool t562, .bool a3, .int .i64 t564, .slice Ao17 t565.length co17] 24 (0, 0)) (by (with_reducible repeat (first | refine blk_drewN ?_ _ | refine blk_drew ?_ | refine blk_alloc ?_ _)); exact BK559.out) hb); replace HB := Aside0.mk (below_step (by repeat (first | (with_reducible first | exact HB.out | apply below_alloc | apply pw_below_drewN | apply below_drew1 | refine below_set ?_ GE559.out) | exact HB.out)) hb); (try clear hb); (try clear hb2); (try clear hk); (try clear hi)))
          go_meet
          case rel => exact ⟨_, (true), (by first | rfl | (simp; done) | (simp [*]; done)), H', ⟨by have := HK1.out; first | omega | exact Nat.le_refl _⟩, ⟨by (with_reducible repeat (first | apply Kd.R_alloc | apply Kd.R_drewN | apply Kd.R_drew)); exact anyR HO_10.out⟩, ⟨by (with_reducible repeat (first | apply Kd.R_alloc | apply Kd.R_drewN | apply Kd.R_drew)); exact anyR HO_11.out⟩, ⟨by (with_reducible repeat (first | apply Kd.R_alloc | apply Kd.R_drewN | apply Kd.R_drew)); exact anyR HO585.out⟩, ⟨by (with_reducible repeat (first | apply Kd.R_alloc | apply Kd.R_drewN | apply Kd.R_drew)); exact anyR HO601.out⟩, ⟨by (with_reducible repeat (first | apply Kd.S_alloc | apply Kd.S_drewN | apply Kd.S_drew)); exact HO_560003.out⟩, ⟨by (with_reducible repeat (first | refine blk_drewN ?_ _ | refine blk_drew ?_ | refine blk_alloc ?_ _)); exact BK559.out⟩, ⟨by repeat (first | (with_reducible first | exact HB.out | apply below_alloc | apply pw_below_drewN | apply below_drew1 | refine below_set ?_ GE559.out) | exact HB.out)⟩⟩
        case rest =>
         clear HC32
         try clear c1
         try clear c2
         try clear p2
         try clear c3
         try clear c4
         try clear c5
         try clear c14
         try clear c16
         try clear c19
         try clear c48
         try clear c49
         try clear c49b0
         try clear c49b1
         try clear c50
         try clear c50b0
         try clear c50b1
         try clear c51
         try clear c51b0
         try clear c51b1
         try clear c51b2
         obtain ⟨kq, x109_31, rfl, HA, HJ31, HO_10, HO_11, HO_15, HO_20, HO_560003, BK559, HB⟩ := hcut
         cases kq with
         | zero => exact absurd HA.out (by simp [haberdashlaw19_LevyOnce.j1])
         | succ kj31 =>
          have H := HA.out
          clear HA
          simp only [haberdashlaw19_LevyOnce.j1] at H
          by_cases c60 : x109_31 = true
          ·
           subst c60
           have H1 : (some false) = some r := by rw [if_pos rfl] at H; exact H
           clear H
           have H := H1
           clear H1
           obtain rfl := Option.some.inj H
           go_wp2
           go_ret
           exact ⟨by first | rfl | (simp [errW_none, errW_some] <;> rfl) | (simp [*, errW_none, errW_some] <;> rfl), by repeat (first | (with_reducible first | exact HB.out | apply below_alloc | apply pw_below_drewN | apply below_drew1 | refine below_set ?_ GE559.out) | exact HB.out)⟩
          ·
           replace c60 := Bool.eq_false_iff.mpr c60
           subst c60
           have H1 : (haberdashlaw19_LevyOnce.l1 kj31 a1 a3 t569 x11_1 t583 t599 0 0 t562 a3 t564 t565) = some r := by rw [if_neg (show ¬ (false = true) by decide)] at H; exact H
           clear H
           have H := H1
           clear H1
           have H' := Aside0.mk H
           clear H
           go_wp2
           (try simp only [addr0])
           go_loopg [24, 25] kj31 (fun kq v24 v25 w' => ∃ (x24_3 : Int) (x25_3 : Int), v24 = .int .i64 x24_3 ∧ v25 = .int .i64 x25_3 ∧ Aside0 (haberdashlaw19_LevyOnce.l1 kq a1 a3 t569 x11_1 t583 t599 x24_3 x25_3 t562 a3 t564 t565 = some r) ∧ Aside0 (kq ≤ kj31) ∧ Aside0 (Kd.R (Kd.int .i64) 2 w' w.heap.size (fun _ => True) (.slice Ao19 t569.length co19) t569) ∧ Aside0 (Kd.R Kd.string 9 w' w.heap.size (fun _ => True) (.slice Ao35 x11_1.length co35) x11_1) ∧ Aside0 (Kd.R (Kd.int .i64) 2 w' w.heap.size (fun _ => True) v584 t583) ∧ Aside0 (Kd.R (Kd.int .i64) 2 w' w.heap.size (fun _ => True) v600 t599) ∧ Aside0 (Kd.S k56 56 w' w.heap.size (fun _ => True) (.slice Ao17 t565.length co17) t565) ∧ Aside0 (w'.heap[gb559]? = some (.cells #[.bool t562, .bool a3, .int .i64 t564, (.slice Ao17 t565.length co17)] 24 (0, 0))) ∧ Aside0 (Below w.heap.size w w'))
           case atStart => exact ⟨(0), (0), (by first | rfl | (simp; done) | (simp [*]; done)), (by first | rfl | (simp; done) | (simp [*]; done)), H', ⟨Nat.le_refl _⟩, ⟨by (with_reducible repeat (first | apply Kd.R_alloc | apply Kd.R_drewN | apply Kd.R_drew)); exact (anyR HO_10.out)⟩, ⟨by (with_reducible repeat (first | apply Kd.R_alloc | apply Kd.R_drewN | apply Kd.R_drew)); exact (anyR HO_11.out)⟩, ⟨by (with_reducible repeat (first | apply Kd.R_alloc | apply Kd.R_drewN | apply Kd.R_drew)); exact (anyR HO_15.out)⟩, ⟨by (with_reducible repeat (first | apply Kd.R_alloc | apply Kd.R_drewN | apply Kd.R_drew)); exact (anyR HO_20.out)⟩, ⟨by (with_reducible repeat (first | apply Kd.S_alloc | apply Kd.S_drewN | apply Kd.S_drew)); exact HO_560003.out⟩, ⟨by (with_reducible repeat (first | refine blk_drewN ?_ _ | refine blk_drew ?_ | refine blk_alloc ?_ _)); exact BK559.out⟩, ⟨by repeat (first | (with_reducible first | exact HB.out | apply below_alloc | apply pw_below_drewN | apply below_drew1 | refine below_set ?_ GE559.out) | exact HB.out)⟩⟩
           case round =>
            clear H'
            try clear c1
            try clear c2
            try clear p2
            try clear c3
            try clear c4
            try clear c5
            try clear c6
            try clear c14
            try clear c16
            try clear c19
            try clear c48
            try clear c49
            try clear c49b0
            try clear c49b1
            try clear c50
            try clear c50b0
            try clear c50b1
            try clear c51
            try clear c51b0
            try clear c51b1
            try clear c51b2
            try clear c60
            try clear p2
            obtain ⟨x24_3, x25_3, rfl, rfl, HA, HK3, HO_10, HO_11, HO_15, HO_20, HO_560003, BK559, HB⟩ := hrel
            cases gk with
            | zero => exact absurd HA.out (by simp [haberdashlaw19_LevyOnce.l1])
            | succ k3 =>
             have H := HA.out
             clear HA
             simp only [haberdashlaw19_LevyOnce.l1] at H
             by_cases c61 : x25_3 < (t569.length : Int)
             ·
              rw [if_pos c61] at H
              have c61b0 : decide (x25_3 < (t569.length : Int)) = true := decide_eq_true c61
              clear c61
              replace H := Option.bind_eq_some_iff.mp H
              obtain ⟨t607, A620, H⟩ := H
              replace H : (if 0 ≤ x25_3 then (if x25_3 ≤ (wrap64 (x25_3 + 1)) then (if (wrap64 (x25_3 + 1)) ≤ (x11_1.length : Int) then (if (wrap64 (x25_3 + 1)) ≤ (t569.length : Int) then ((levy_Levy.f k3 t562 a3 t564 t565 t607 false ((x11_1.take ((wrap64 (x25_3 + 1)) : Int).toNat).drop (x25_3 : Int).toNat) ((t569.take ((wrap64 (x25_3 + 1)) : Int).toNat).drop (x25_3 : Int).toNat) 0).bind fun bt616 => (if bt616.2.2.2.2 = 0 then (if (bt616.2.1.length : Int) = 1 then (if a3 = true then (if x25_3 < (t583.length : Int) then (haberdashlaw19_LevyOnce.l1 k3 a1 a3 t569 x11_1 t583 t599 (wrap64 (x24_3 + (rd t583 x25_3))) (wrap64 (x25_3 + 1)) t562 a3 t564 t565) else (none)) else (if 0 < (bt616.2.1.length : Int) then (if x25_3 < (t583.length : Int) then (if (rd bt616.2.1 0) = (rd t583 x25_3) then (haberdashlaw19_LevyOnce.l1 k3 a1 a3 t569 x11_1 t583 t599 (wrap64 (x24_3 + (rd t583 x25_3))) (wrap64 (x25_3 + 1)) t562 a3 t564 t565) else (some false)) else (none)) else (none))) else (some false)) else (some false))) else (none)) else (none)) else (none)) else (none)) = some r := H
              have A62 := Aside0.mk A620
              clear A620
              by_cases c63 : 0 ≤ x25_3
              ·
               rw [if_pos c63] at H
               have c63b0 := eq_true c63
               have c63b1 : decide (0 ≤ x25_3) = true := decide_eq_true c63
               clear c63
               by_cases c64 : x25_3 ≤ (wrap64 (x25_3 + 1))
               ·
                rw [if_pos c64] at H
                have c64b0 := eq_true c64
                have c64b1 : decide (x25_3 ≤ (wrap64 (x25_3 + 1))) = true := decide_eq_true c64
                by_cases c65 : (wrap64 (x25_3 + 1)) ≤ (x11_1.length : Int)
                ·
                 rw [if_pos c65] at H
                 have c65b0 := eq_true c65
                 have c65b1 : decide ((wrap64 (x25_3 + 1)) ≤ (x11_1.length : Int)) = true := decide_eq_true c65
                 obtain ⟨y608, hy608⟩ : ∃ y_ : List ByteArray, y_ = ((x11_1.take ((wrap64 (x25_3 + 1)) : Int).toNat).drop (x25_3 : Int).toNat) := ⟨_, rfl⟩
                 replace H : (if (wrap64 (x25_3 + 1)) ≤ (t569.length : Int) then ((levy_Levy.f k3 t562 a3 t564 t565 t607 false y608 ((t569.take ((wrap64 (x25_3 + 1)) : Int).toNat).drop (x25_3 : Int).toNat) 0).bind fun bt616 => (if bt616.2.2.2.2 = 0 then (if (bt616.2.1.length : Int) = 1 then (if a3 = true then (if x25_3 < (t583.length : Int) then (haberdashlaw19_LevyOnce.l1 k3 a1 a3 t569 x11_1 t583 t599 (wrap64 (x24_3 + (rd t583 x25_3))) (wrap64 (x25_3 + 1)) t562 a3 t564 t565) else (none)) else (if 0 < (bt616.2.1.length : Int) then (if x25_3 < (t583.length : Int) then (if (rd bt616.2.1 0) = (rd t583 x25_3) then (haberdashlaw19_LevyOnce.l1 k3 a1 a3 t569 x11_1 t583 t599 (wrap64 (x24_3 + (rd t583 x25_3))) (wrap64 (x25_3 + 1)) t562 a3 t564 t565) else (some false)) else (none)) else (none))) else (some false)) else (some false))) else (none)) = some r := by first | (rw [hy608]; with_reducible exact H) | (have H2_ := (Option.bind_some _ _).symm.trans H; rw [hy608]; with_reducible exact H2_) | (have H2_ := (Option.bind_some _ _).symm.trans H; with_reducible exact H2_) | with_reducible exact H | (rw [hy608]; exact H) | exact H
                 have Ny608 := Aside0.mk hy608
                 clear hy608
                 have c66b0 := eq_true (of_decide_eq_true (by first | (with_reducible assumption) | assumption) : 0 ≤ x25_3)
                 have c67b0 := eq_true (of_decide_eq_true (by first | (with_reducible assumption) | assumption) : x25_3 ≤ (wrap64 (x25_3 + 1)))
                 by_cases c68 : (wrap64 (x25_3 + 1)) ≤ (t569.length : Int)
                 ·
                  rw [if_pos c68] at H
                  have c68b0 := eq_true c68
                  have c68b1 : decide ((wrap64 (x25_3 + 1)) ≤ (t569.length : Int)) = true := decide_eq_true c68
                  obtain ⟨y612, hy612⟩ : ∃ y_ : List Int, y_ = ((t569.take ((wrap64 (x25_3 + 1)) : Int).toNat).drop (x25_3 : Int).toNat) := ⟨_, rfl⟩
                  replace H : ((levy_Levy.f k3 t562 a3 t564 t565 t607 false y608 y612 0).bind fun bt616 => (if bt616.2.2.2.2 = 0 then (if (bt616.2.1.length : Int) = 1 then (if a3 = true then (if x25_3 < (t583.length : Int) then (haberdashlaw19_LevyOnce.l1 k3 a1 a3 t569 x11_1 t583 t599 (wrap64 (x24_3 + (rd t583 x25_3))) (wrap64 (x25_3 + 1)) t562 a3 t564 t565) else (none)) else (if 0 < (bt616.2.1.length : Int) then (if x25_3 < (t583.length : Int) then (if (rd bt616.2.1 0) = (rd t583 x25_3) then (haberdashlaw19_LevyOnce.l1 k3 a1 a3 t569 x11_1 t583 t599 (wrap64 (x24_3 + (rd t583 x25_3))) (wrap64 (x25_3 + 1)) t562 a3 t564 t565) else (some false)) else (none)) else (none))) else (some false)) else (some false))) = some r := by first | (rw [hy612]; with_reducible exact H) | (have H2_ := (Option.bind_some _ _).symm.trans H; rw [hy612]; with_reducible exact H2_) | (have H2_ := (Option.bind_some _ _).symm.trans H; with_reducible exact H2_) | with_reducible exact H | (rw [hy612]; exact H) | exact H
                  have Ny612 := Aside0.mk hy612
                  clear hy612
                  replace H := Option.bind_eq_some_iff.mp H
                  obtain ⟨⟨t616, t619, t622, t623, t624⟩, A690, H⟩ := H
                  replace H : (if t624 = 0 then (if (t619.length : Int) = 1 then (if a3 = true then (if x25_3 < (t583.length : Int) then (haberdashlaw19_LevyOnce.l1 k3 a1 a3 t569 x11_1 t583 t599 (wrap64 (x24_3 + (rd t583 x25_3))) (wrap64 (x25_3 + 1)) t562 a3 t564 t565) else (none)) else (if 0 < (t619.length : Int) then (if x25_3 < (t583.length : Int) then (if (rd t619 0) = (rd t583 x25_3) then (haberdashlaw19_LevyOnce.l1 k3 a1 a3 t569 x11_1 t583 t599 (wrap64 (x24_3 + (rd t583 x25_3))) (wrap64 (x25_3 + 1)) t562 a3 t564 t565) else (some false)) else (none)) else (none))) else (some false)) else (some false)) = some r := H
                  have A69 := Aside0.mk A690
                  clear A690
                  by_cases c70 : t624 = 0
                  ·
                   rw [if_pos c70] at H
                   have c70b0 : (t624 == 0) = true := beq_iff_eq.mpr c70
                   have c70b1 : (t624 != 0) = false := bne_eq_false_iff_eq.mpr c70
                   clear c70
                   by_cases c71 : (t619.length : Int) = 1
                   ·
                    rw [if_pos c71] at H
                    have c71b0 : ((t619.length : Int) == 1) = true := beq_iff_eq.mpr c71
                    have c71b1 : ((t619.length : Int) != 1) = false := bne_eq_false_iff_eq.mpr c71
                    clear c71
                    by_cases c72 : a3 = true
                    ·
                     subst c72
                     have H1 : (if x25_3 < (t583.length : Int) then (haberdashlaw19_LevyOnce.l1 k3 a1 true t569 x11_1 t583 t599 (wrap64 (x24_3 + (rd t583 x25_3))) (wrap64 (x25_3 + 1)) t562 true t564 t565) else (none)) = some r := by rw [if_pos rfl] at H; exact H
                     clear H
                     have H := H1
                     clear H1
                     by_cases c73 : x25_3 < (t583.length : Int)
                     ·
                      rw [if_pos c73] at H
                      have c73b0 : decide (x25_3 < (t583.length : Int)) = true := decide_eq_true c73
                      clear c73
                      have H' := Aside0.mk H
                      clear H
                      try go_wp2
                      replace HO_10 := Aside0.mk (Kd.R_drew (anyR HO_10.out))
                      replace HO_11 := Aside0.mk (Kd.R_drew (anyR HO_11.out))
                      replace HO_15 := Aside0.mk (Kd.R_drew (anyR HO_15.out))
                      replace HO_20 := Aside0.mk (Kd.R_drew (anyR HO_20.out))
                      replace HO_560003 := Aside0.mk (Kd.S_drew HO_560003.out)
                      replace BK559 := Aside0.mk (blk_drew BK559.out)
                      replace HB := Aside0.mk (below_drew1 HB.out)
                      have q75 : ((wrap64 (x25_3 + 1)) : Int) ≤ ((x11_1.length : Int) : Int) := of_decide_eq_true (by first | (with_reducible assumption) | assumption)
                      obtain ⟨i075, hi075, _, hsz75, _⟩ := info_parts info9
                      have hroom75 : x11_1.length ≤ co35 := (Kd.R_reads' (anyR HO_11.out)).2.1
                      have hC75 : Kd.C Kd.string _ Ao35 x11_1.length x11_1 := (Kd.R_reads' (anyR HO_11.out)).2.2
                      have ql75 : (x25_3 : Int) ≤ ((wrap64 (x25_3 + 1)) : Int) := of_decide_eq_true (by first | (with_reducible assumption) | assumption)
                      have q075 : (0 : Int) ≤ (x25_3 : Int) := of_decide_eq_true (by first | (with_reducible assumption) | assumption)
                      have hcut75 := cut_mid (P := Try.prog) 25 9 .i64 .i64 Try.underlying25 hi075 1 hsz75 Ao35 x11_1.length co35 x25_3 (wrap64 (x25_3 + 1)) q075 ql75 q75 hroom75
                      have hr75 := Kd.C_mid (lo := (x25_3 : Int).toNat) (hi := ((wrap64 (x25_3 + 1)) : Int).toNat) (c := co35) hC75 (by omega) (by omega) hroom75
                      obtain ⟨A75, hA75⟩ : ∃ A1, A1 = (if co35 = (x25_3 : Int).toNat then Ao35 else (Ao35 : Option Addr).map (·.add ((x25_3 : Int).toNat * 1))) := ⟨_, rfl⟩
                      obtain ⟨c75, hc75⟩ : ∃ c1, c1 = co35 - (x25_3 : Int).toNat := ⟨_, rfl⟩
                      have hy75 : y608.length = ((wrap64 (x25_3 + 1)) : Int).toNat - (x25_3 : Int).toNat := (by rw [Ny608.out, List.length_drop, List.length_take] <;> omega)
                      rw [show ((x11_1).take ((wrap64 (x25_3 + 1)) : Int).toNat).drop (x25_3 : Int).toNat = y608 from Ny608.out.symm] at hr75
                      replace hr75 : Kd.C Kd.string _ A75 y608.length y608 := (by rw [hA75]; exact hr75)
                      rw [← hy75, ← hA75, ← hc75] at hcut75
                      have HR611 := Aside0.mk hr75
                      have HC611 := Aside0.mk (show y608.length ≤ c75 from by rw [hy75, hc75]; exact Nat.sub_le_sub_right (Nat.le_trans (by omega) hroom75) _)
                      clear hr75 hC75 hroom75 hi075 hsz75 hc75
                      have KY75 := Aside0.mk hy75
                      have KA75 := Aside0.mk hA75
                      clear hy75 hA75
                      have KL75 := Aside0.mk (show ((wrap64 (x25_3 + 1)) : Int).toNat ≤ x11_1.length from by omega)
                      have KM75 := Aside0.mk (show (x25_3 : Int).toNat ≤ ((wrap64 (x25_3 + 1)) : Int).toNat from by omega)
                      replace q75 := eq_true q75
                      have q76 : ((wrap64 (x25_3 + 1)) : Int) ≤ ((t569.length : Int) : Int) := of_decide_eq_true (by first | (with_reducible assumption) | assumption)
                      obtain ⟨i076, hi076, _, hsz76, _⟩ := info_parts info2
                      have hroom76 : t569.length ≤ co19 := (Kd.R_reads' (anyR HO_10.out)).2.1
                      have hC76 : Kd.C (Kd.int .i64) _ Ao19 t569.length t569 := (Kd.R_reads' (anyR HO_10.out)).2.2
                      have ql76 : (x25_3 : Int) ≤ ((wrap64 (x25_3 + 1)) : Int) := of_decide_eq_true (by first | (with_reducible assumption) | assumption)
                      have q076 : (0 : Int) ≤ (x25_3 : Int) := of_decide_eq_true (by first | (with_reducible assumption) | assumption)
                      have hcut76 := cut_mid (P := Try.prog) 26 2 .i64 .i64 Try.underlying26 hi076 1 hsz76 Ao19 t569.length co19 x25_3 (wrap64 (x25_3 + 1)) q076 ql76 q76 hroom76
                      have hr76 := Kd.C_mid (lo := (x25_3 : Int).toNat) (hi := ((wrap64 (x25_3 + 1)) : Int).toNat) (c := co19) hC76 (by omega) (by omega) hroom76
                      obtain ⟨A76, hA76⟩ : ∃ A1, A1 = (if co19 = (x25_3 : Int).toNat then Ao19 else (Ao19 : Option Addr).map (·.add ((x25_3 : Int).toNat * 1))) := ⟨_, rfl⟩
                      obtain ⟨c76, hc76⟩ : ∃ c1, c1 = co19 - (x25_3 : Int).toNat := ⟨_, rfl⟩
                      have hy76 : y612.length = ((wrap64 (x25_3 + 1)) : Int).toNat - (x25_3 : Int).toNat := (by rw [Ny612.out, List.length_drop, List.length_take] <;> omega)
                      rw [show ((t569).take ((wrap64 (x25_3 + 1)) : Int).toNat).drop (x25_3 : Int).toNat = y612 from Ny612.out.symm] at hr76
                      replace hr76 : Kd.C (Kd.int .i64) _ A76 y612.length y612 := (by rw [hA76]; exact hr76)
                      rw [← hy76, ← hA76, ← hc76] at hcut76
                      have HR615 := Aside0.mk hr76
                      have HC615 := Aside0.mk (show y612.length ≤ c76 from by rw [hy76, hc76]; exact Nat.sub_le_sub_right (Nat.le_trans (by omega) hroom76) _)
                      clear hr76 hC76 hroom76 hi076 hsz76 hc76
                      have KY76 := Aside0.mk hy76
                      have KA76 := Aside0.mk hA76
                      clear hy76 hA76
                      have KL76 := Aside0.mk (show ((wrap64 (x25_3 + 1)) : Int).toNat ≤ t569.length from by omega)
                      have KM76 := Aside0.mk (show (x25_3 : Int).toNat ≤ ((wrap64 (x25_3 + 1)) : Int).toNat from by omega)
                      replace q76 := eq_true q76
                      refine start_ (n := 25) (S := fun w' => w'.cell? ⟨gb559, 0, none⟩ = some (.bool t562) ∧ w'.cell? ⟨gb559, 1, none⟩ = some (.bool true) ∧ w'.cell? ⟨gb559, 2, none⟩ = some (.int .i64 t564) ∧ w'.cell? ⟨gb559, 3, none⟩ = some (.slice Ao17 t565.length co17)) (ds := []) (mk 25 0) (by kernel_rfl) rfl rfl ⟨(blk_cell BK559.out 0).trans rfl, (blk_cell BK559.out 1).trans rfl, (blk_cell BK559.out 2).trans rfl, (blk_cell BK559.out 3).trans rfl⟩ (fun hHeld => ?_); refine with_tabW haberdashlaw19_LevyOnce.tab21 haberdashlaw19_LevyOnce.bits21 (fun HT_ HW_ => ?_)
                      generalize wr.drew = w74 at HO_10 HO_11 HO_15 HO_20 HO_560003 BK559 HB HR611 HR615 hHeld ⊢
                      refine ahead_ [(1, 118), (3, 120), (4, 121), (5, 122), (6, 123), (7, 124), (8, 125), (9, 126), (10, 127), (11, 128), (12, 129)] ?_
                      iterate 11 (refine pA_ (v := ?_) (a' := ?_) rfl rfl HT_.out (by kernel_rfl) (fun _ _ _ h => h) (Or.inl ⟨by rfl, ?_⟩) ?_ ?_; rotate_left; (intro w'; go_simp; with_reducible rfl); rotate_left; (simp only [Act.put, List.setIfInBounds_toArray, List.set_cons_zero, List.set_cons_succ, i64_w, i32_w]; rfl))
                      refine aheadE_ (mk 25 8186) (by kernel_rfl) ?_
                      refine take_ (i := 0) (N := some 117) (v := ?_) (a' := ?_) (mk 25 8187) rfl rfl (take_ofW HT_.out HW_.out (by kernel_rfl)) (fun _ _ _ h => h) (Or.inl ⟨by rfl, ?_⟩) hHeld ?_ ?_
                      rotate_left
                      ·
                       rintro w' ⟨s0, s1, s2, s3⟩
                       go_simp
                       with_reducible rfl
                      rotate_left; (simp only [Act.put, List.setIfInBounds_toArray, List.set_cons_zero, List.set_cons_succ, i64_w, i32_w]; rfl)
                      refine one_ (i := 2) (N := some 119) (mk 25 8191) rfl rfl (one_of HT_.out (by kernel_rfl)) (by decide) (fun K hK => ?_)
                      refine goes_ Try.func16 (by kernel_rfl) rfl #[.int .i64 a1] (by rfl) rfl rfl (by (try simp only [List.map_toArray, List.map_cons, List.map_nil]); first | done | rfl | (simp only [List.length_drop, List.length_take]; rfl)) ?_
                      with_reducible refine (haberdashplay_Zone.calls a1 t607 _ A62.out).mono ?_
                      rintro e w77 ⟨rfl, hb⟩
                      refine ⟨_, rfl, ?_⟩
                      replace HO_10 := Aside0.mk (Kd.R_below (by (with_reducible repeat (first | apply Kd.R_alloc | apply Kd.R_drewN | apply Kd.R_drew)); exact (anyR HO_10.out)) hb)
                      replace HO_11 := Aside0.mk (Kd.R_below (by (with_reducible repeat (first | apply Kd.R_alloc | apply Kd.R_drewN | apply Kd.R_drew)); exact (anyR HO_11.out)) hb)
                      replace HO_15 := Aside0.mk (Kd.R_below (by (with_reducible repeat (first | apply Kd.R_alloc | apply Kd.R_drewN | apply Kd.R_drew)); exact (anyR HO_15.out)) hb)
                      replace HO_20 := Aside0.mk (Kd.R_below (by (with_reducible repeat (first | apply Kd.R_alloc | apply Kd.R_drewN | apply Kd.R_drew)); exact (anyR HO_20.out)) hb)
                      replace HO_560003 := Aside0.mk (Kd.S_below (by (with_reducible repeat (first | apply Kd.S_alloc | apply Kd.S_drewN | apply Kd.S_drew)); exact HO_560003.out) hb)
                      replace BK559 := Aside0.mk (blk_below (g := gb559) (o := .cells #[.bool t562, .bool true, .int .i64 t564, .slice Ao17 t565.length co17] 24 (0, 0)) (by (with_reducible repeat (first | refine blk_drewN ?_ _ | refine blk_drew ?_ | refine blk_alloc ?_ _)); exact BK559.out) hb)
                      replace HR611 := Aside0.mk (Kd.C_below (by repeat (first | (with_reducible exact HR611.out) | (with_reducible refine Kd.C_alloc ?_ _) | (with_reducible refine Kd.C_drewN ?_ _) | (with_reducible refine Kd.C_drew ?_) | exact HR611.out)) hb)
                      replace HR615 := Aside0.mk (Kd.C_below (by repeat (first | (with_reducible exact HR615.out) | (with_reducible refine Kd.C_alloc ?_ _) | (with_reducible refine Kd.C_drewN ?_ _) | (with_reducible refine Kd.C_drew ?_) | exact HR615.out)) hb)
                      replace HB := Aside0.mk (below_step (by repeat (first | (with_reducible first | exact HB.out | apply below_alloc | apply pw_below_drewN | apply below_drew1 | refine below_set ?_ GE559.out) | exact HB.out)) hb)
                      (try clear hb)
                      (try clear hb2)
                      (try clear hk)
                      (try clear hi)
                      refine hK.out _ _ ⟨(blk_cell BK559.out 0).trans rfl, (blk_cell BK559.out 1).trans rfl, (blk_cell BK559.out 2).trans rfl, (blk_cell BK559.out 3).trans rfl⟩ (fun hHeld => ?_)
                      clear hK K
                      refine norm_ (a' := ?_) ?_ ?_
                      rotate_left; (show Act.put _ (some 119) _ = _; simp only [Act.put, List.setIfInBounds_toArray, List.set_cons_zero, List.set_cons_succ, i64_w, i32_w]; rfl)
                      refine one_ (i := 13) (N := some 130) (mk 25 16383) rfl rfl (one_of HT_.out (by kernel_rfl)) (by decide) (fun K hK => ?_)
                      refine goes_ Try.func19 (by kernel_rfl) rfl #[.agg #[.bool t562, .bool true, .int .i64 t564, .slice Ao17 t565.length co17], .string t607, .bool false, .slice A75 y608.length c75, .slice A76 y612.length c76, .int .i64 0] (by rfl) rfl rfl (by (try simp only [List.map_toArray, List.map_cons, List.map_nil]); first | done | rfl | (simp only [List.length_drop, List.length_take]; rfl)) ?_
                      with_reducible refine (levy_Levy.calls k3 t562 true t564 _ _ t565 t607 false _ _ y608 _ _ y612 0 t616 t619 t622 t623 t624 _ ?side1 ?side2 ?side3 ?side4 ?side5 ?side6 A69.out).mono ?_
                      (case side1 => repeat (first | exact (Kd.S_reads' HO_560003.out).2.2 | (with_reducible refine Kd.C_alloc ?_ _) | (with_reducible refine Kd.C_drewN ?_ _) | (with_reducible refine Kd.C_drew ?_)))
                      (case side2 => exact (Kd.S_reads' HO_560003.out).2.1)
                      (case side3 => repeat (first | exact (by repeat (first | (with_reducible exact HR611.out) | (with_reducible refine Kd.C_alloc ?_ _) | (with_reducible refine Kd.C_drewN ?_ _) | (with_reducible refine Kd.C_drew ?_) | exact HR611.out)) | (with_reducible refine Kd.C_alloc ?_ _) | (with_reducible refine Kd.C_drewN ?_ _) | (with_reducible refine Kd.C_drew ?_)))
                      (case side4 => exact HC611.out)
                      (case side5 => repeat (first | exact (by repeat (first | (with_reducible exact HR615.out) | (with_reducible refine Kd.C_alloc ?_ _) | (with_reducible refine Kd.C_drewN ?_ _) | (with_reducible refine Kd.C_drew ?_) | exact HR615.out)) | (with_reducible refine Kd.C_alloc ?_ _) | (with_reducible refine Kd.C_drewN ?_ _) | (with_reducible refine Kd.C_drew ?_)))
                      (case side6 => exact HC615.out)
                      rintro e w78 ⟨v617, v620, rfl, ho0, ho1, hb⟩
                      refine ⟨_, rfl, ?_⟩
                      replace HO_11 := Aside0.mk (Kd.R_below (by (with_reducible repeat (first | apply Kd.R_alloc | apply Kd.R_drewN | apply Kd.R_drew)); exact (anyR HO_11.out)) hb)
                      replace HO_560003 := Aside0.mk (Kd.S_below (by (with_reducible repeat (first | apply Kd.S_alloc | apply Kd.S_drewN | apply Kd.S_drew)); exact HO_560003.out) hb)
                      have HO618 := Aside0.mk (Kd.R_lower (Kd.R_new' (Kd.R_new' (Kd.R_new' ho0 (Kd.R_lt (by (with_reducible repeat (first | apply Kd.R_alloc | apply Kd.R_drewN | apply Kd.R_drew)); exact (anyR HO_10.out)))) (Kd.R_lt (by (with_reducible repeat (first | apply Kd.R_alloc | apply Kd.R_drewN | apply Kd.R_drew)); exact (anyR HO_15.out)))) (Kd.R_lt (by (with_reducible repeat (first | apply Kd.R_alloc | apply Kd.R_drewN | apply Kd.R_drew)); exact (anyR HO_20.out)))) (below_size (by repeat (first | (with_reducible first | exact HB.out | apply below_alloc | apply pw_below_drewN | apply below_drew1 | refine below_set ?_ GE559.out) | exact HB.out))))
                      have HO621 := Aside0.mk (Kd.R_lower (Kd.R_new' (Kd.R_new' (Kd.R_new' ho1 (Kd.R_lt (by (with_reducible repeat (first | apply Kd.R_alloc | apply Kd.R_drewN | apply Kd.R_drew)); exact (anyR HO_10.out)))) (Kd.R_lt (by (with_reducible repeat (first | apply Kd.R_alloc | apply Kd.R_drewN | apply Kd.R_drew)); exact (anyR HO_15.out)))) (Kd.R_lt (by (with_reducible repeat (first | apply Kd.R_alloc | apply Kd.R_drewN | apply Kd.R_drew)); exact (anyR HO_20.out)))) (below_size (by repeat (first | (with_reducible first | exact HB.out | apply below_alloc | apply pw_below_drewN | apply below_drew1 | refine below_set ?_ GE559.out) | exact HB.out))))
                      replace HO_10 := Aside0.mk (Kd.R_mono (Kd.R_told (Kd.R_told (Kd.R_old (by (with_reducible repeat (first | apply Kd.R_alloc | apply Kd.R_drewN | apply Kd.R_drew)); exact (anyR HO_10.out)) hb) (Kd.R_base ho0)) (Kd.R_base ho1)) (fun _ h_ => h_.1))
                      replace HO_15 := Aside0.mk (Kd.R_mono (Kd.R_told (Kd.R_told (Kd.R_old (by (with_reducible repeat (first | apply Kd.R_alloc | apply Kd.R_drewN | apply Kd.R_drew)); exact (anyR HO_15.out)) hb) (Kd.R_base ho0)) (Kd.R_base ho1)) (fun _ h_ => h_.1))
                      replace HO_20 := Aside0.mk (Kd.R_mono (Kd.R_told (Kd.R_told (Kd.R_old (by (with_reducible repeat (first | apply Kd.R_alloc | apply Kd.R_drewN | apply Kd.R_drew)); exact (anyR HO_20.out)) hb) (Kd.R_base ho0)) (Kd.R_base ho1)) (fun _ h_ => h_.1))
                      replace BK559 := Aside0.mk (blk_below (g := gb559) (o := .cells #[.bool t562, .bool true, .int .i64 t564, .slice Ao17 t565.length co17] 24 (0, 0)) (by (with_reducible repeat (first | refine blk_drewN ?_ _ | refine blk_drew ?_ | refine blk_alloc ?_ _)); exact BK559.out) hb)
                      replace HR611 := Aside0.mk (Kd.C_below (by repeat (first | (with_reducible exact HR611.out) | (with_reducible refine Kd.C_alloc ?_ _) | (with_reducible refine Kd.C_drewN ?_ _) | (with_reducible refine Kd.C_drew ?_) | exact HR611.out)) hb)
                      replace HR615 := Aside0.mk (Kd.C_below (by repeat (first | (with_reducible exact HR615.out) | (with_reducible refine Kd.C_alloc ?_ _) | (with_reducible refine Kd.C_drewN ?_ _) | (with_reducible refine Kd.C_drew ?_) | exact HR615.out)) hb)
                      replace HB := Aside0.mk (below_step (by repeat (first | (with_reducible first | exact HB.out | apply below_alloc | apply pw_below_drewN | apply below_drew1 | refine below_set ?_ GE559.out) | exact HB.out)) hb)
                      (try clear hb)
                      (try clear hb2)
                      (try clear hk)
                      (try clear hi)
                      (try clear ho0)
                      (try clear ho1)
                      refine hK.out _ _ ⟨(blk_cell BK559.out 0).trans rfl, (blk_cell BK559.out 1).trans rfl, (blk_cell BK559.out 2).trans rfl, (blk_cell BK559.out 3).trans rfl⟩ (fun hHeld => ?_)
                      clear hK K
                      refine norm_ (a' := ?_) ?_ ?_
                      rotate_left; (show Act.put _ (some 130) _ = _; simp only [Act.put, List.setIfInBounds_toArray, List.set_cons_zero, List.set_cons_succ, i64_w, i32_w]; rfl)
                      refine ahead_ [(14, 116), (15, 131), (16, 132), (17, 133), (18, 134), (19, 135), (20, 26), (21, 27), (22, 28), (23, 29), (24, 30)] ?_
                      iterate 11 (refine pA_ (v := ?_) (a' := ?_) rfl rfl HT_.out (by kernel_rfl) (fun _ _ _ h => h) (Or.inl ⟨by rfl, ?_⟩) ?_ ?_; rotate_left; (intro w'; go_simp; with_reducible rfl); rotate_left; (simp only [Act.put, List.setIfInBounds_toArray, List.set_cons_zero, List.set_cons_succ, i64_w, i32_w]; rfl))
                      refine aheadE_ (mk 25 33554431) (by kernel_rfl) ?_
                      refine done_ (done_of HT_.out (by kernel_rfl)) ?_
                      try go_wp2
                      replace HO_10 := Aside0.mk (Kd.R_drew (anyR HO_10.out))
                      replace HO_11 := Aside0.mk (Kd.R_drew (anyR HO_11.out))
                      replace HO_15 := Aside0.mk (Kd.R_drew (anyR HO_15.out))
                      replace HO_20 := Aside0.mk (Kd.R_drew (anyR HO_20.out))
                      replace HO_560003 := Aside0.mk (Kd.S_drew HO_560003.out)
                      replace HO618 := Aside0.mk (Kd.R_drew (anyR HO618.out))
                      replace HO621 := Aside0.mk (Kd.R_drew (anyR HO621.out))
                      replace BK559 := Aside0.mk (blk_drew BK559.out)
                      replace HR611 := Aside0.mk (Kd.C_drew HR611.out)
                      replace HR615 := Aside0.mk (Kd.C_drew HR615.out)
                      replace HB := Aside0.mk (below_drew1 HB.out)
                      obtain ⟨Ao80, co80, eo80⟩ := Kd.R_slice HO621.out
                      (first | subst eo80 | (injection eo80 with f1_ f2_ f3_; have f4_ := f1_.symm; have f5_ := f3_.symm; clear f1_ f2_ f3_; subst f4_; subst f5_))
                      refine start_ (n := 21) (S := fun w' => True) (ds := []) (mk 21 0) (by kernel_rfl) rfl rfl trivial (fun hHeld => ?_); refine with_tabW haberdashlaw19_LevyOnce.tab22 haberdashlaw19_LevyOnce.bits22 (fun HT_ HW_ => ?_)
                      generalize w78.drew = w79 at HO_10 HO_11 HO_15 HO_20 HO_560003 HO618 HO621 BK559 HR611 HR615 HB hHeld ⊢
                      refine ahead_ [(0, 136), (1, 137), (2, 138), (3, 139), (4, 140), (5, 141), (6, 142), (7, 143), (8, 144), (9, 145), (10, 146)] ?_
                      iterate 11 (refine pA_ (v := ?_) (a' := ?_) rfl rfl HT_.out (by kernel_rfl) (fun _ _ _ h => h) (Or.inl ⟨by rfl, ?_⟩) ?_ ?_; rotate_left; (intro w'; go_simp; with_reducible rfl); rotate_left; (simp only [Act.put, List.setIfInBounds_toArray, List.set_cons_zero, List.set_cons_succ, i64_w, i32_w]; rfl))
                      refine aheadE_ (mk 21 2047) (by kernel_rfl) ?_
                      refine ahead_ [(11, 147), (12, 148), (13, 149), (14, 150), (15, 151), (16, 152), (17, 153), (18, 154)] ?_
                      iterate 8 (refine pA_ (v := undef) (a' := ?_) rfl rfl HT_.out (by kernel_rfl) (fun _ _ _ h => h) (Or.inr ⟨by rfl, rfl⟩) ?_ ?_; rotate_left; (simp only [Act.put, List.setIfInBounds_toArray, List.set_cons_zero, List.set_cons_succ, i64_w, i32_w]; rfl))
                      refine aheadE_ (mk 21 524287) (by kernel_rfl) ?_
                      refine ahead_ [(19, 155), (20, 156)] ?_
                      iterate 2 (refine pA_ (v := ?_) (a' := ?_) rfl rfl HT_.out (by kernel_rfl) (fun _ _ _ h => h) (Or.inl ⟨by rfl, ?_⟩) ?_ ?_; rotate_left; (intro w'; go_simp; with_reducible rfl); rotate_left; (simp only [Act.put, List.setIfInBounds_toArray, List.set_cons_zero, List.set_cons_succ, i64_w, i32_w]; rfl))
                      refine aheadE_ (mk 21 2097151) (by kernel_rfl) ?_
                      refine done_ (done_of HT_.out (by kernel_rfl)) ?_
                      obtain ⟨Ao81, co81, eo81⟩ := Kd.R_slice HO_15.out
                      subst eo81
                      have p625 : 0 ≤ (x25_3 : Int) := of_decide_eq_true (by first | (with_reducible assumption) | assumption)
                      have q625 : x25_3 < (t583.length : Int) := of_decide_eq_true (by first | (with_reducible assumption) | assumption)
                      obtain ⟨ad625, e625, hx625_0⟩ := Kd.at_int (Kd.R_reads' (anyR HO_15.out)).2.2 x25_3 p625 q625
                      cases e625
                      replace p625 := eq_true p625
                      replace q625 := eq_true q625
                      try go_wp2
                      go_roundg k3
                      case measure => have := HK1.out; have := HJ31.out; have := HK3.out; omega
                      case rel => exact ⟨(wrap64 (x24_3 + (rd t583 x25_3))), (wrap64 (x25_3 + 1)), (by first | rfl | (simp; done) | (simp [*]; done)), (by first | rfl | (simp; done) | (simp [*]; done)), H', ⟨by have := HK1.out; have := HJ31.out; have := HK3.out; omega⟩, ⟨by (with_reducible repeat (first | apply Kd.R_alloc | apply Kd.R_drewN | apply Kd.R_drew)); exact anyR HO_10.out⟩, ⟨by (with_reducible repeat (first | apply Kd.R_alloc | apply Kd.R_drewN | apply Kd.R_drew)); exact (anyR HO_11.out)⟩, ⟨by (with_reducible repeat (first | apply Kd.R_alloc | apply Kd.R_drewN | apply Kd.R_drew)); exact anyR HO_15.out⟩, ⟨by (with_reducible repeat (first | apply Kd.R_alloc | apply Kd.R_drewN | apply Kd.R_drew)); exact anyR HO_20.out⟩, ⟨by (with_reducible repeat (first | apply Kd.S_alloc | apply Kd.S_drewN | apply Kd.S_drew)); exact HO_560003.out⟩, ⟨by (with_reducible repeat (first | refine blk_drewN ?_ _ | refine blk_drew ?_ | refine blk_alloc ?_ _)); exact BK559.out⟩, ⟨by repeat (first | (with_reducible first | exact HB.out | apply below_alloc | apply pw_below_drewN | apply below_drew1 | refine below_set ?_ GE559.out) | exact HB.out)⟩⟩
                     ·
                      rw [if_neg c73] at H
                      exact absurd H (by simp)
                    ·
                     replace c72 := Bool.eq_false_iff.mpr c72
                     subst c72
                     have H1 : (if 0 < (t619.length : Int) then (if x25_3 < (t583.length : Int) then (if (rd t619 0) = (rd t583 x25_3) then (haberdashlaw19_LevyOnce.l1 k3 a1 false t569 x11_1 t583 t599 (wrap64 (x24_3 + (rd t583 x25_3))) (wrap64 (x25_3 + 1)) t562 false t564 t565) else (some false)) else (none)) else (none)) = some r := by rw [if_neg (show ¬ (false = true) by decide)] at H; exact H
                     clear H
                     have H := H1
                     clear H1
                     by_cases c82 : 0 < (t619.length : Int)
                     ·
                      rw [if_pos c82] at H
                      have c82b0 : decide (0 < (t619.length : Int)) = true := decide_eq_true c82
                      have c82b1 : decide (0 < t619.length) = true := decide_eq_true (by omega)
                      clear c82
                      by_cases c83 : x25_3 < (t583.length : Int)
                      ·
                       rw [if_pos c83] at H
                       have c83b0 : decide (x25_3 < (t583.length : Int)) = true := decide_eq_true c83
                       clear c83
                       by_cases c84 : (rd t619 0) = (rd t583 x25_3)
                       ·
                        rw [if_pos c84] at H
                        have c84b0 : ((rd t619 0) == (rd t583 x25_3)) = true := beq_iff_eq.mpr c84
                        have c84b1 : ((rd t619 0) != (rd t583 x25_3)) = false := bne_eq_false_iff_eq.mpr c84
                        clear c84
                        have H' := Aside0.mk H
                        clear H
                        try go_wp2
                        replace HO_10 := Aside0.mk (Kd.R_drew (anyR HO_10.out))
                        replace HO_11 := Aside0.mk (Kd.R_drew (anyR HO_11.out))
                        replace HO_15 := Aside0.mk (Kd.R_drew (anyR HO_15.out))
                        replace HO_20 := Aside0.mk (Kd.R_drew (anyR HO_20.out))
                        replace HO_560003 := Aside0.mk (Kd.S_drew HO_560003.out)
                        replace BK559 := Aside0.mk (blk_drew BK559.out)
                        replace HB := Aside0.mk (below_drew1 HB.out)
                        have q86 : ((wrap64 (x25_3 + 1)) : Int) ≤ ((x11_1.length : Int) : Int) := of_decide_eq_true (by first | (with_reducible assumption) | assumption)
                        obtain ⟨i086, hi086, _, hsz86, _⟩ := info_parts info9
                        have hroom86 : x11_1.length ≤ co35 := (Kd.R_reads' (anyR HO_11.out)).2.1
                        have hC86 : Kd.C Kd.string _ Ao35 x11_1.length x11_1 := (Kd.R_reads' (anyR HO_11.out)).2.2
                        have ql86 : (x25_3 : Int) ≤ ((wrap64 (x25_3 + 1)) : Int) := of_decide_eq_true (by first | (with_reducible assumption) | assumption)
                        have q086 : (0 : Int) ≤ (x25_3 : Int) := of_decide_eq_true (by first | (with_reducible assumption) | assumption)
                        have hcut86 := cut_mid (P := Try.prog) 25 9 .i64 .i64 Try.underlying25 hi086 1 hsz86 Ao35 x11_1.length co35 x25_3 (wrap64 (x25_3 + 1)) q086 ql86 q86 hroom86
                        have hr86 := Kd.C_mid (lo := (x25_3 : Int).toNat) (hi := ((wrap64 (x25_3 + 1)) : Int).toNat) (c := co35) hC86 (by omega) (by omega) hroom86
                        obtain ⟨A86, hA86⟩ : ∃ A1, A1 = (if co35 = (x25_3 : Int).toNat then Ao35 else (Ao35 : Option Addr).map (·.add ((x25_3 : Int).toNat * 1))) := ⟨_, rfl⟩
                        obtain ⟨c86, hc86⟩ : ∃ c1, c1 = co35 - (x25_3 : Int).toNat := ⟨_, rfl⟩
                        have hy86 : y608.length = ((wrap64 (x25_3 + 1)) : Int).toNat - (x25_3 : Int).toNat := (by rw [Ny608.out, List.length_drop, List.length_take] <;> omega)
                        rw [show ((x11_1).take ((wrap64 (x25_3 + 1)) : Int).toNat).drop (x25_3 : Int).toNat = y608 from Ny608.out.symm] at hr86
                        replace hr86 : Kd.C Kd.string _ A86 y608.length y608 := (by rw [hA86]; exact hr86)
                        rw [← hy86, ← hA86, ← hc86] at hcut86
                        have HR611 := Aside0.mk hr86
                        have HC611 := Aside0.mk (show y608.length ≤ c86 from by rw [hy86, hc86]; exact Nat.sub_le_sub_right (Nat.le_trans (by omega) hroom86) _)
                        clear hr86 hC86 hroom86 hi086 hsz86 hc86
                        have KY86 := Aside0.mk hy86
                        have KA86 := Aside0.mk hA86
                        clear hy86 hA86
                        have KL86 := Aside0.mk (show ((wrap64 (x25_3 + 1)) : Int).toNat ≤ x11_1.length from by omega)
                        have KM86 := Aside0.mk (show (x25_3 : Int).toNat ≤ ((wrap64 (x25_3 + 1)) : Int).toNat from by omega)
                        replace q86 := eq_true q86
                        have q87 : ((wrap64 (x25_3 + 1)) : Int) ≤ ((t569.length : Int) : Int) := of_decide_eq_true (by first | (with_reducible assumption) | assumption)
                        obtain ⟨i087, hi087, _, hsz87, _⟩ := info_parts info2
                        have hroom87 : t569.length ≤ co19 := (Kd.R_reads' (anyR HO_10.out)).2.1
                        have hC87 : Kd.C (Kd.int .i64) _ Ao19 t569.length t569 := (Kd.R_reads' (anyR HO_10.out)).2.2
                        have ql87 : (x25_3 : Int) ≤ ((wrap64 (x25_3 + 1)) : Int) := of_decide_eq_true (by first | (with_reducible assumption) | assumption)
                        have q087 : (0 : Int) ≤ (x25_3 : Int) := of_decide_eq_true (by first | (with_reducible assumption) | assumption)
                        have hcut87 := cut_mid (P := Try.prog) 26 2 .i64 .i64 Try.underlying26 hi087 1 hsz87 Ao19 t569.length co19 x25_3 (wrap64 (x25_3 + 1)) q087 ql87 q87 hroom87
                        have hr87 := Kd.C_mid (lo := (x25_3 : Int).toNat) (hi := ((wrap64 (x25_3 + 1)) : Int).toNat) (c := co19) hC87 (by omega) (by omega) hroom87
                        obtain ⟨A87, hA87⟩ : ∃ A1, A1 = (if co19 = (x25_3 : Int).toNat then Ao19 else (Ao19 : Option Addr).map (·.add ((x25_3 : Int).toNat * 1))) := ⟨_, rfl⟩
                        obtain ⟨c87, hc87⟩ : ∃ c1, c1 = co19 - (x25_3 : Int).toNat := ⟨_, rfl⟩
                        have hy87 : y612.length = ((wrap64 (x25_3 + 1)) : Int).toNat - (x25_3 : Int).toNat := (by rw [Ny612.out, List.length_drop, List.length_take] <;> omega)
                        rw [show ((t569).take ((wrap64 (x25_3 + 1)) : Int).toNat).drop (x25_3 : Int).toNat = y612 from Ny612.out.symm] at hr87
                        replace hr87 : Kd.C (Kd.int .i64) _ A87 y612.length y612 := (by rw [hA87]; exact hr87)
                        rw [← hy87, ← hA87, ← hc87] at hcut87
                        have HR615 := Aside0.mk hr87
                        have HC615 := Aside0.mk (show y612.length ≤ c87 from by rw [hy87, hc87]; exact Nat.sub_le_sub_right (Nat.le_trans (by omega) hroom87) _)
                        clear hr87 hC87 hroom87 hi087 hsz87 hc87
                        have KY87 := Aside0.mk hy87
                        have KA87 := Aside0.mk hA87
                        clear hy87 hA87
                        have KL87 := Aside0.mk (show ((wrap64 (x25_3 + 1)) : Int).toNat ≤ t569.length from by omega)
                        have KM87 := Aside0.mk (show (x25_3 : Int).toNat ≤ ((wrap64 (x25_3 + 1)) : Int).toNat from by omega)
                        replace q87 := eq_true q87
                        refine start_ (n := 25) (S := fun w' => w'.cell? ⟨gb559, 0, none⟩ = some (.bool t562) ∧ w'.cell? ⟨gb559, 1, none⟩ = some (.bool false) ∧ w'.cell? ⟨gb559, 2, none⟩ = some (.int .i64 t564) ∧ w'.cell? ⟨gb559, 3, none⟩ = some (.slice Ao17 t565.length co17)) (ds := []) (mk 25 0) (by kernel_rfl) rfl rfl ⟨(blk_cell BK559.out 0).trans rfl, (blk_cell BK559.out 1).trans rfl, (blk_cell BK559.out 2).trans rfl, (blk_cell BK559.out 3).trans rfl⟩ (fun hHeld => ?_); refine with_tabW haberdashlaw19_LevyOnce.tab21 haberdashlaw19_LevyOnce.bits21 (fun HT_ HW_ => ?_)
                        generalize wr.drew = w85 at HO_10 HO_11 HO_15 HO_20 HO_560003 BK559 HB HR611 HR615 hHeld ⊢
                        refine ahead_ [(1, 118), (3, 120), (4, 121), (5, 122), (6, 123), (7, 124), (8, 125), (9, 126), (10, 127), (11, 128), (12, 129)] ?_
                        iterate 11 (refine pA_ (v := ?_) (a' := ?_) rfl rfl HT_.out (by kernel_rfl) (fun _ _ _ h => h) (Or.inl ⟨by rfl, ?_⟩) ?_ ?_; rotate_left; (intro w'; go_simp; with_reducible rfl); rotate_left; (simp only [Act.put, List.setIfInBounds_toArray, List.set_cons_zero, List.set_cons_succ, i64_w, i32_w]; rfl))
                        refine aheadE_ (mk 25 8186) (by kernel_rfl) ?_
                        refine take_ (i := 0) (N := some 117) (v := ?_) (a' := ?_) (mk 25 8187) rfl rfl (take_ofW HT_.out HW_.out (by kernel_rfl)) (fun _ _ _ h => h) (Or.inl ⟨by rfl, ?_⟩) hHeld ?_ ?_
                        rotate_left
                        ·
                         rintro w' ⟨s0, s1, s2, s3⟩
                         go_simp
                         with_reducible rfl
                        rotate_left; (simp only [Act.put, List.setIfInBounds_toArray, List.set_cons_zero, List.set_cons_succ, i64_w, i32_w]; rfl)
                        refine one_ (i := 2) (N := some 119) (mk 25 8191) rfl rfl (one_of HT_.out (by kernel_rfl)) (by decide) (fun K hK => ?_)
                        refine goes_ Try.func16 (by kernel_rfl) rfl #[.int .i64 a1] (by rfl) rfl rfl (by (try simp only [List.map_toArray, List.map_cons, List.map_nil]); first | done | rfl | (simp only [List.length_drop, List.length_take]; rfl)) ?_
                        with_reducible refine (haberdashplay_Zone.calls a1 t607 _ A62.out).mono ?_
                        rintro e w88 ⟨rfl, hb⟩
                        refine ⟨_, rfl, ?_⟩
                        replace HO_10 := Aside0.mk (Kd.R_below (by (with_reducible repeat (first | apply Kd.R_alloc | apply Kd.R_drewN | apply Kd.R_drew)); exact (anyR HO_10.out)) hb)
                        replace HO_11 := Aside0.mk (Kd.R_below (by (with_reducible repeat (first | apply Kd.R_alloc | apply Kd.R_drewN | apply Kd.R_drew)); exact (anyR HO_11.out)) hb)
                        replace HO_15 := Aside0.mk (Kd.R_below (by (with_reducible repeat (first | apply Kd.R_alloc | apply Kd.R_drewN | apply Kd.R_drew)); exact (anyR HO_15.out)) hb)
                        replace HO_20 := Aside0.mk (Kd.R_below (by (with_reducible repeat (first | apply Kd.R_alloc | apply Kd.R_drewN | apply Kd.R_drew)); exact (anyR HO_20.out)) hb)
                        replace HO_560003 := Aside0.mk (Kd.S_below (by (with_reducible repeat (first | apply Kd.S_alloc | apply Kd.S_drewN | apply Kd.S_drew)); exact HO_560003.out) hb)
                        replace BK559 := Aside0.mk (blk_below (g := gb559) (o := .cells #[.bool t562, .bool false, .int .i64 t564, .slice Ao17 t565.length co17] 24 (0, 0)) (by (with_reducible repeat (first | refine blk_drewN ?_ _ | refine blk_drew ?_ | refine blk_alloc ?_ _)); exact BK559.out) hb)
                        replace HR611 := Aside0.mk (Kd.C_below (by repeat (first | (with_reducible exact HR611.out) | (with_reducible refine Kd.C_alloc ?_ _) | (with_reducible refine Kd.C_drewN ?_ _) | (with_reducible refine Kd.C_drew ?_) | exact HR611.out)) hb)
                        replace HR615 := Aside0.mk (Kd.C_below (by repeat (first | (with_reducible exact HR615.out) | (with_reducible refine Kd.C_alloc ?_ _) | (with_reducible refine Kd.C_drewN ?_ _) | (with_reducible refine Kd.C_drew ?_) | exact HR615.out)) hb)
                        replace HB := Aside0.mk (below_step (by repeat (first | (with_reducible first | exact HB.out | apply below_alloc | apply pw_below_drewN | apply below_drew1 | refine below_set ?_ GE559.out) | exact HB.out)) hb)
                        (try clear hb)
                        (try clear hb2)
                        (try clear hk)
                        (try clear hi)
                        refine hK.out _ _ ⟨(blk_cell BK559.out 0).trans rfl, (blk_cell BK559.out 1).trans rfl, (blk_cell BK559.out 2).trans rfl, (blk_cell BK559.out 3).trans rfl⟩ (fun hHeld => ?_)
                        clear hK K
                        refine norm_ (a' := ?_) ?_ ?_
                        rotate_left; (show Act.put _ (some 119) _ = _; simp only [Act.put, List.setIfInBounds_toArray, List.set_cons_zero, List.set_cons_succ, i64_w, i32_w]; rfl)
                        refine one_ (i := 13) (N := some 130) (mk 25 16383) rfl rfl (one_of HT_.out (by kernel_rfl)) (by decide) (fun K hK => ?_)
                        refine goes_ Try.func19 (by kernel_rfl) rfl #[.agg #[.bool t562, .bool false, .int .i64 t564, .slice Ao17 t565.length co17], .string t607, .bool false, .slice A86 y608.length c86, .slice A87 y612.length c87, .int .i64 0] (by rfl) rfl rfl (by (try simp only [List.map_toArray, List.map_cons, List.map_nil]); first | done | rfl | (simp only [List.length_drop, List.length_take]; rfl)) ?_
                        with_reducible refine (levy_Levy.calls k3 t562 false t564 _ _ t565 t607 false _ _ y608 _ _ y612 0 t616 t619 t622 t623 t624 _ ?side1 ?side2 ?side3 ?side4 ?side5 ?side6 A69.out).mono ?_
                        (case side1 => repeat (first | exact (Kd.S_reads' HO_560003.out).2.2 | (with_reducible refine Kd.C_alloc ?_ _) | (with_reducible refine Kd.C_drewN ?_ _) | (with_reducible refine Kd.C_drew ?_)))
                        (case side2 => exact (Kd.S_reads' HO_560003.out).2.1)
                        (case side3 => repeat (first | exact (by repeat (first | (with_reducible exact HR611.out) | (with_reducible refine Kd.C_alloc ?_ _) | (with_reducible refine Kd.C_drewN ?_ _) | (with_reducible refine Kd.C_drew ?_) | exact HR611.out)) | (with_reducible refine Kd.C_alloc ?_ _) | (with_reducible refine Kd.C_drewN ?_ _) | (with_reducible refine Kd.C_drew ?_)))
                        (case side4 => exact HC611.out)
                        (case side5 => repeat (first | exact (by repeat (first | (with_reducible exact HR615.out) | (with_reducible refine Kd.C_alloc ?_ _) | (with_reducible refine Kd.C_drewN ?_ _) | (with_reducible refine Kd.C_drew ?_) | exact HR615.out)) | (with_reducible refine Kd.C_alloc ?_ _) | (with_reducible refine Kd.C_drewN ?_ _) | (with_reducible refine Kd.C_drew ?_)))
                        (case side6 => exact HC615.out)
                        rintro e w89 ⟨v617, v620, rfl, ho0, ho1, hb⟩
                        refine ⟨_, rfl, ?_⟩
                        replace HO_11 := Aside0.mk (Kd.R_below (by (with_reducible repeat (first | apply Kd.R_alloc | apply Kd.R_drewN | apply Kd.R_drew)); exact (anyR HO_11.out)) hb)
                        replace HO_560003 := Aside0.mk (Kd.S_below (by (with_reducible repeat (first | apply Kd.S_alloc | apply Kd.S_drewN | apply Kd.S_drew)); exact HO_560003.out) hb)
                        have HO618 := Aside0.mk (Kd.R_lower (Kd.R_new' (Kd.R_new' (Kd.R_new' ho0 (Kd.R_lt (by (with_reducible repeat (first | apply Kd.R_alloc | apply Kd.R_drewN | apply Kd.R_drew)); exact (anyR HO_10.out)))) (Kd.R_lt (by (with_reducible repeat (first | apply Kd.R_alloc | apply Kd.R_drewN | apply Kd.R_drew)); exact (anyR HO_15.out)))) (Kd.R_lt (by (with_reducible repeat (first | apply Kd.R_alloc | apply Kd.R_drewN | apply Kd.R_drew)); exact (anyR HO_20.out)))) (below_size (by repeat (first | (with_reducible first | exact HB.out | apply below_alloc | apply pw_below_drewN | apply below_drew1 | refine below_set ?_ GE559.out) | exact HB.out))))
                        have HO621 := Aside0.mk (Kd.R_lower (Kd.R_new' (Kd.R_new' (Kd.R_new' ho1 (Kd.R_lt (by (with_reducible repeat (first | apply Kd.R_alloc | apply Kd.R_drewN | apply Kd.R_drew)); exact (anyR HO_10.out)))) (Kd.R_lt (by (with_reducible repeat (first | apply Kd.R_alloc | apply Kd.R_drewN | apply Kd.R_drew)); exact (anyR HO_15.out)))) (Kd.R_lt (by (with_reducible repeat (first | apply Kd.R_alloc | apply Kd.R_drewN | apply Kd.R_drew)); exact (anyR HO_20.out)))) (below_size (by repeat (first | (with_reducible first | exact HB.out | apply below_alloc | apply pw_below_drewN | apply below_drew1 | refine below_set ?_ GE559.out) | exact HB.out))))
                        replace HO_10 := Aside0.mk (Kd.R_mono (Kd.R_told (Kd.R_told (Kd.R_old (by (with_reducible repeat (first | apply Kd.R_alloc | apply Kd.R_drewN | apply Kd.R_drew)); exact (anyR HO_10.out)) hb) (Kd.R_base ho0)) (Kd.R_base ho1)) (fun _ h_ => h_.1))
                        replace HO_15 := Aside0.mk (Kd.R_mono (Kd.R_told (Kd.R_told (Kd.R_old (by (with_reducible repeat (first | apply Kd.R_alloc | apply Kd.R_drewN | apply Kd.R_drew)); exact (anyR HO_15.out)) hb) (Kd.R_base ho0)) (Kd.R_base ho1)) (fun _ h_ => h_.1))
                        replace HO_20 := Aside0.mk (Kd.R_mono (Kd.R_told (Kd.R_told (Kd.R_old (by (with_reducible repeat (first | apply Kd.R_alloc | apply Kd.R_drewN | apply Kd.R_drew)); exact (anyR HO_20.out)) hb) (Kd.R_base ho0)) (Kd.R_base ho1)) (fun _ h_ => h_.1))
                        replace BK559 := Aside0.mk (blk_below (g := gb559) (o := .cells #[.bool t562, .bool false, .int .i64 t564, .slice Ao17 t565.length co17] 24 (0, 0)) (by (with_reducible repeat (first | refine blk_drewN ?_ _ | refine blk_drew ?_ | refine blk_alloc ?_ _)); exact BK559.out) hb)
                        replace HR611 := Aside0.mk (Kd.C_below (by repeat (first | (with_reducible exact HR611.out) | (with_reducible refine Kd.C_alloc ?_ _) | (with_reducible refine Kd.C_drewN ?_ _) | (with_reducible refine Kd.C_drew ?_) | exact HR611.out)) hb)
                        replace HR615 := Aside0.mk (Kd.C_below (by repeat (first | (with_reducible exact HR615.out) | (with_reducible refine Kd.C_alloc ?_ _) | (with_reducible refine Kd.C_drewN ?_ _) | (with_reducible refine Kd.C_drew ?_) | exact HR615.out)) hb)
                        replace HB := Aside0.mk (below_step (by repeat (first | (with_reducible first | exact HB.out | apply below_alloc | apply pw_below_drewN | apply below_drew1 | refine below_set ?_ GE559.out) | exact HB.out)) hb)
                        (try clear hb)
                        (try clear hb2)
                        (try clear hk)
                        (try clear hi)
                        (try clear ho0)
                        (try clear ho1)
                        refine hK.out _ _ ⟨(blk_cell BK559.out 0).trans rfl, (blk_cell BK559.out 1).trans rfl, (blk_cell BK559.out 2).trans rfl, (blk_cell BK559.out 3).trans rfl⟩ (fun hHeld => ?_)
                        clear hK K
                        refine norm_ (a' := ?_) ?_ ?_
                        rotate_left; (show Act.put _ (some 130) _ = _; simp only [Act.put, List.setIfInBounds_toArray, List.set_cons_zero, List.set_cons_succ, i64_w, i32_w]; rfl)
                        refine ahead_ [(14, 116), (15, 131), (16, 132), (17, 133), (18, 134), (19, 135), (20, 26), (21, 27), (22, 28), (23, 29), (24, 30)] ?_
                        iterate 11 (refine pA_ (v := ?_) (a' := ?_) rfl rfl HT_.out (by kernel_rfl) (fun _ _ _ h => h) (Or.inl ⟨by rfl, ?_⟩) ?_ ?_; rotate_left; (intro w'; go_simp; with_reducible rfl); rotate_left; (simp only [Act.put, List.setIfInBounds_toArray, List.set_cons_zero, List.set_cons_succ, i64_w, i32_w]; rfl))
                        refine aheadE_ (mk 25 33554431) (by kernel_rfl) ?_
                        refine done_ (done_of HT_.out (by kernel_rfl)) ?_
                        try go_wp2
                        replace HO_10 := Aside0.mk (Kd.R_drew (anyR HO_10.out))
                        replace HO_11 := Aside0.mk (Kd.R_drew (anyR HO_11.out))
                        replace HO_15 := Aside0.mk (Kd.R_drew (anyR HO_15.out))
                        replace HO_20 := Aside0.mk (Kd.R_drew (anyR HO_20.out))
                        replace HO_560003 := Aside0.mk (Kd.S_drew HO_560003.out)
                        replace HO618 := Aside0.mk (Kd.R_drew (anyR HO618.out))
                        replace HO621 := Aside0.mk (Kd.R_drew (anyR HO621.out))
                        replace BK559 := Aside0.mk (blk_drew BK559.out)
                        replace HR611 := Aside0.mk (Kd.C_drew HR611.out)
                        replace HR615 := Aside0.mk (Kd.C_drew HR615.out)
                        replace HB := Aside0.mk (below_drew1 HB.out)
                        obtain ⟨Ao91, co91, eo91⟩ := Kd.R_slice HO621.out
                        (first | subst eo91 | (injection eo91 with f1_ f2_ f3_; have f4_ := f1_.symm; have f5_ := f3_.symm; clear f1_ f2_ f3_; subst f4_; subst f5_))
                        have p626 : 0 ≤ (0 : Int) := (by omega)
                        have q626 : 0 < (t619.length : Int) := of_decide_eq_true (by first | (with_reducible assumption) | assumption)
                        obtain ⟨ad626, e626, hx626_0⟩ := Kd.at_int (Kd.R_reads' (anyR HO621.out)).2.2 0 p626 q626
                        cases e626
                        have qi626 : (0 < t619.length) = True := eq_true (by omega)
                        (try rw [show ((0 : Int)).toNat = 0 from rfl] at hx626_0)
                        (try rw [Addr.add_zero'] at hx626_0)
                        replace p626 := eq_true p626
                        replace q626 := eq_true q626
                        obtain ⟨Ao92, co92, eo92⟩ := Kd.R_slice HO_15.out
                        (first | subst eo92 | (injection eo92 with f1_ f2_ f3_; have f4_ := f1_.symm; have f5_ := f3_.symm; clear f1_ f2_ f3_; subst f4_; subst f5_))
                        have p627 : 0 ≤ (x25_3 : Int) := of_decide_eq_true (by first | (with_reducible assumption) | assumption)
                        have q627 : x25_3 < (t583.length : Int) := of_decide_eq_true (by first | (with_reducible assumption) | assumption)
                        obtain ⟨ad627, e627, hx627_0⟩ := Kd.at_int (Kd.R_reads' (anyR HO_15.out)).2.2 x25_3 p627 q627
                        cases e627
                        replace p627 := eq_true p627
                        replace q627 := eq_true q627
                        refine start_ (n := 21) (S := fun w' => w'.cell? ad626 = some (.int .i64 (rd t619 0)) ∧ w'.cell? (ad627.add (x25_3).toNat) = some (.int .i64 (rd t583 x25_3))) (ds := []) (mk 21 0) (by kernel_rfl) rfl rfl ⟨hx626_0, hx627_0⟩ (fun hHeld => ?_); refine with_tabW haberdashlaw19_LevyOnce.tab22 haberdashlaw19_LevyOnce.bits22 (fun HT_ HW_ => ?_)
                        generalize w89.drew = w90 at HO_10 HO_11 HO_15 HO_20 HO_560003 HO618 HO621 BK559 HR611 HR615 HB hx626_0 hx627_0 hHeld ⊢
                        refine ahead_ [(0, 136), (1, 137), (2, 138), (3, 139), (4, 140), (5, 141), (6, 142), (7, 143), (8, 144), (9, 145), (10, 146), (11, 147), (12, 148), (14, 150), (15, 151), (16, 152)] ?_
                        iterate 16 (refine pA_ (v := ?_) (a' := ?_) rfl rfl HT_.out (by kernel_rfl) (fun _ _ _ h => h) (Or.inl ⟨by rfl, ?_⟩) ?_ ?_; rotate_left; (intro w'; go_simp; with_reducible rfl); rotate_left; (simp only [Act.put, List.setIfInBounds_toArray, List.set_cons_zero, List.set_cons_succ, i64_w, i32_w]; rfl))
                        refine aheadE_ (mk 21 122879) (by kernel_rfl) ?_
                        refine ahead_ [(13, 149), (17, 153)] ?_
                        iterate 2 (refine tA_ (v := ?_) (a' := ?_) rfl rfl HT_.out HW_.out (by kernel_rfl) (fun _ _ _ h => h) (Or.inl ⟨by rfl, ?_⟩) hHeld ?_ ?_; rotate_left; (rintro w' ⟨s0, s1⟩; go_simp; with_reducible rfl); rotate_left; (simp only [Act.put, List.setIfInBounds_toArray, List.set_cons_zero, List.set_cons_succ, i64_w, i32_w]; rfl))
                        refine aheadE_ (mk 21 262143) (by kernel_rfl) ?_
                        refine ahead_ [(18, 154), (19, 155), (20, 156)] ?_
                        iterate 3 (refine pA_ (v := ?_) (a' := ?_) rfl rfl HT_.out (by kernel_rfl) (fun _ _ _ h => h) (Or.inl ⟨by rfl, ?_⟩) ?_ ?_; rotate_left; (intro w'; go_simp; with_reducible rfl); rotate_left; (simp only [Act.put, List.setIfInBounds_toArray, List.set_cons_zero, List.set_cons_succ, i64_w, i32_w]; rfl))
                        refine aheadE_ (mk 21 2097151) (by kernel_rfl) ?_
                        refine done_ (done_of HT_.out (by kernel_rfl)) ?_
                        have p628 : 0 ≤ (x25_3 : Int) := of_decide_eq_true (by first | (with_reducible assumption) | assumption)
                        have q628 : x25_3 < (t583.length : Int) := of_decide_eq_true (by first | (with_reducible assumption) | assumption)
                        obtain ⟨ad628, e628, hx628_0⟩ := Kd.at_int (Kd.R_reads' (anyR HO_15.out)).2.2 x25_3 p628 q628
                        obtain rfl : ad627 = ad628 := (by injection e628)
                        replace p628 := eq_true p628
                        replace q628 := eq_true q628
                        try go_wp2
                        go_roundg k3
                        case measure => have := HK1.out; have := HJ31.out; have := HK3.out; omega
                        case rel => exact ⟨(wrap64 (x24_3 + (rd t583 x25_3))), (wrap64 (x25_3 + 1)), (by first | rfl | (simp; done) | (simp [*]; done)), (by first | rfl | (simp; done) | (simp [*]; done)), H', ⟨by have := HK1.out; have := HJ31.out; have := HK3.out; omega⟩, ⟨by (with_reducible repeat (first | apply Kd.R_alloc | apply Kd.R_drewN | apply Kd.R_drew)); exact anyR HO_10.out⟩, ⟨by (with_reducible repeat (first | apply Kd.R_alloc | apply Kd.R_drewN | apply Kd.R_drew)); exact (anyR HO_11.out)⟩, ⟨by (with_reducible repeat (first | apply Kd.R_alloc | apply Kd.R_drewN | apply Kd.R_drew)); exact anyR HO_15.out⟩, ⟨by (with_reducible repeat (first | apply Kd.R_alloc | apply Kd.R_drewN | apply Kd.R_drew)); exact anyR HO_20.out⟩, ⟨by (with_reducible repeat (first | apply Kd.S_alloc | apply Kd.S_drewN | apply Kd.S_drew)); exact HO_560003.out⟩, ⟨by (with_reducible repeat (first | refine blk_drewN ?_ _ | refine blk_drew ?_ | refine blk_alloc ?_ _)); exact BK559.out⟩, ⟨by repeat (first | (with_reducible first | exact HB.out | apply below_alloc | apply pw_below_drewN | apply below_drew1 | refine below_set ?_ GE559.out) | exact HB.out)⟩⟩
                       ·
                        rw [if_neg c84] at H
                        have c84b0 : ((rd t619 0) == (rd t583 x25_3)) = false := beq_eq_false_iff_ne.mpr c84
                        have c84b1 : ((rd t619 0) != (rd t583 x25_3)) = true := bne_iff_ne.mpr c84
                        obtain rfl := Option.some.inj H
                        try go_wp2
                        replace HO_10 := Aside0.mk (Kd.R_drew (anyR HO_10.out))
                        replace HO_11 := Aside0.mk (Kd.R_drew (anyR HO_11.out))
                        replace HO_15 := Aside0.mk (Kd.R_drew (anyR HO_15.out))
                        replace HO_20 := Aside0.mk (Kd.R_drew (anyR HO_20.out))
                        replace HO_560003 := Aside0.mk (Kd.S_drew HO_560003.out)
                        replace BK559 := Aside0.mk (blk_drew BK559.out)
                        replace HB := Aside0.mk (below_drew1 HB.out)
                        have q94 : ((wrap64 (x25_3 + 1)) : Int) ≤ ((x11_1.length : Int) : Int) := of_decide_eq_true (by first | (with_reducible assumption) | assumption)
                        obtain ⟨i094, hi094, _, hsz94, _⟩ := info_parts info9
                        have hroom94 : x11_1.length ≤ co35 := (Kd.R_reads' (anyR HO_11.out)).2.1
                        have hC94 : Kd.C Kd.string _ Ao35 x11_1.length x11_1 := (Kd.R_reads' (anyR HO_11.out)).2.2
                        have ql94 : (x25_3 : Int) ≤ ((wrap64 (x25_3 + 1)) : Int) := of_decide_eq_true (by first | (with_reducible assumption) | assumption)
                        have q094 : (0 : Int) ≤ (x25_3 : Int) := of_decide_eq_true (by first | (with_reducible assumption) | assumption)
                        have hcut94 := cut_mid (P := Try.prog) 25 9 .i64 .i64 Try.underlying25 hi094 1 hsz94 Ao35 x11_1.length co35 x25_3 (wrap64 (x25_3 + 1)) q094 ql94 q94 hroom94
                        have hr94 := Kd.C_mid (lo := (x25_3 : Int).toNat) (hi := ((wrap64 (x25_3 + 1)) : Int).toNat) (c := co35) hC94 (by omega) (by omega) hroom94
                        obtain ⟨A94, hA94⟩ : ∃ A1, A1 = (if co35 = (x25_3 : Int).toNat then Ao35 else (Ao35 : Option Addr).map (·.add ((x25_3 : Int).toNat * 1))) := ⟨_, rfl⟩
                        obtain ⟨c94, hc94⟩ : ∃ c1, c1 = co35 - (x25_3 : Int).toNat := ⟨_, rfl⟩
                        have hy94 : y608.length = ((wrap64 (x25_3 + 1)) : Int).toNat - (x25_3 : Int).toNat := (by rw [Ny608.out, List.length_drop, List.length_take] <;> omega)
                        rw [show ((x11_1).take ((wrap64 (x25_3 + 1)) : Int).toNat).drop (x25_3 : Int).toNat = y608 from Ny608.out.symm] at hr94
                        replace hr94 : Kd.C Kd.string _ A94 y608.length y608 := (by rw [hA94]; exact hr94)
                        rw [← hy94, ← hA94, ← hc94] at hcut94
                        have HR611 := Aside0.mk hr94
                        have HC611 := Aside0.mk (show y608.length ≤ c94 from by rw [hy94, hc94]; exact Nat.sub_le_sub_right (Nat.le_trans (by omega) hroom94) _)
                        clear hr94 hC94 hroom94 hi094 hsz94 hc94
                        have KY94 := Aside0.mk hy94
                        have KA94 := Aside0.mk hA94
                        clear hy94 hA94
                        have KL94 := Aside0.mk (show ((wrap64 (x25_3 + 1)) : Int).toNat ≤ x11_1.length from by omega)
                        have KM94 := Aside0.mk (show (x25_3 : Int).toNat ≤ ((wrap64 (x25_3 + 1)) : Int).toNat from by omega)
                        replace q94 := eq_true q94
                        have q95 : ((wrap64 (x25_3 + 1)) : Int) ≤ ((t569.length : Int) : Int) := of_decide_eq_true (by first | (with_reducible assumption) | assumption)
                        obtain ⟨i095, hi095, _, hsz95, _⟩ := info_parts info2
                        have hroom95 : t569.length ≤ co19 := (Kd.R_reads' (anyR HO_10.out)).2.1
                        have hC95 : Kd.C (Kd.int .i64) _ Ao19 t569.length t569 := (Kd.R_reads' (anyR HO_10.out)).2.2
                        have ql95 : (x25_3 : Int) ≤ ((wrap64 (x25_3 + 1)) : Int) := of_decide_eq_true (by first | (with_reducible assumption) | assumption)
                        have q095 : (0 : Int) ≤ (x25_3 : Int) := of_decide_eq_true (by first | (with_reducible assumption) | assumption)
                        have hcut95 := cut_mid (P := Try.prog) 26 2 .i64 .i64 Try.underlying26 hi095 1 hsz95 Ao19 t569.length co19 x25_3 (wrap64 (x25_3 + 1)) q095 ql95 q95 hroom95
                        have hr95 := Kd.C_mid (lo := (x25_3 : Int).toNat) (hi := ((wrap64 (x25_3 + 1)) : Int).toNat) (c := co19) hC95 (by omega) (by omega) hroom95
                        obtain ⟨A95, hA95⟩ : ∃ A1, A1 = (if co19 = (x25_3 : Int).toNat then Ao19 else (Ao19 : Option Addr).map (·.add ((x25_3 : Int).toNat * 1))) := ⟨_, rfl⟩
                        obtain ⟨c95, hc95⟩ : ∃ c1, c1 = co19 - (x25_3 : Int).toNat := ⟨_, rfl⟩
                        have hy95 : y612.length = ((wrap64 (x25_3 + 1)) : Int).toNat - (x25_3 : Int).toNat := (by rw [Ny612.out, List.length_drop, List.length_take] <;> omega)
                        rw [show ((t569).take ((wrap64 (x25_3 + 1)) : Int).toNat).drop (x25_3 : Int).toNat = y612 from Ny612.out.symm] at hr95
                        replace hr95 : Kd.C (Kd.int .i64) _ A95 y612.length y612 := (by rw [hA95]; exact hr95)
                        rw [← hy95, ← hA95, ← hc95] at hcut95
                        have HR615 := Aside0.mk hr95
                        have HC615 := Aside0.mk (show y612.length ≤ c95 from by rw [hy95, hc95]; exact Nat.sub_le_sub_right (Nat.le_trans (by omega) hroom95) _)
                        clear hr95 hC95 hroom95 hi095 hsz95 hc95
                        have KY95 := Aside0.mk hy95
                        have KA95 := Aside0.mk hA95
                        clear hy95 hA95
                        have KL95 := Aside0.mk (show ((wrap64 (x25_3 + 1)) : Int).toNat ≤ t569.length from by omega)
                        have KM95 := Aside0.mk (show (x25_3 : Int).toNat ≤ ((wrap64 (x25_3 + 1)) : Int).toNat from by omega)
                        replace q95 := eq_true q95
                        refine start_ (n := 25) (S := fun w' => w'.cell? ⟨gb559, 0, none⟩ = some (.bool t562) ∧ w'.cell? ⟨gb559, 1, none⟩ = some (.bool false) ∧ w'.cell? ⟨gb559, 2, none⟩ = some (.int .i64 t564) ∧ w'.cell? ⟨gb559, 3, none⟩ = some (.slice Ao17 t565.length co17)) (ds := []) (mk 25 0) (by kernel_rfl) rfl rfl ⟨(blk_cell BK559.out 0).trans rfl, (blk_cell BK559.out 1).trans rfl, (blk_cell BK559.out 2).trans rfl, (blk_cell BK559.out 3).trans rfl⟩ (fun hHeld => ?_); refine with_tabW haberdashlaw19_LevyOnce.tab21 haberdashlaw19_LevyOnce.bits21 (fun HT_ HW_ => ?_)
                        generalize wr.drew = w93 at HO_10 HO_11 HO_15 HO_20 HO_560003 BK559 HB HR611 HR615 hHeld ⊢
                        refine ahead_ [(1, 118), (3, 120), (4, 121), (5, 122), (6, 123), (7, 124), (8, 125), (9, 126), (10, 127), (11, 128), (12, 129)] ?_
                        iterate 11 (refine pA_ (v := ?_) (a' := ?_) rfl rfl HT_.out (by kernel_rfl) (fun _ _ _ h => h) (Or.inl ⟨by rfl, ?_⟩) ?_ ?_; rotate_left; (intro w'; go_simp; with_reducible rfl); rotate_left; (simp only [Act.put, List.setIfInBounds_toArray, List.set_cons_zero, List.set_cons_succ, i64_w, i32_w]; rfl))
                        refine aheadE_ (mk 25 8186) (by kernel_rfl) ?_
                        refine take_ (i := 0) (N := some 117) (v := ?_) (a' := ?_) (mk 25 8187) rfl rfl (take_ofW HT_.out HW_.out (by kernel_rfl)) (fun _ _ _ h => h) (Or.inl ⟨by rfl, ?_⟩) hHeld ?_ ?_
                        rotate_left
                        ·
                         rintro w' ⟨s0, s1, s2, s3⟩
                         go_simp
                         with_reducible rfl
                        rotate_left; (simp only [Act.put, List.setIfInBounds_toArray, List.set_cons_zero, List.set_cons_succ, i64_w, i32_w]; rfl)
                        refine one_ (i := 2) (N := some 119) (mk 25 8191) rfl rfl (one_of HT_.out (by kernel_rfl)) (by decide) (fun K hK => ?_)
                        refine goes_ Try.func16 (by kernel_rfl) rfl #[.int .i64 a1] (by rfl) rfl rfl (by (try simp only [List.map_toArray, List.map_cons, List.map_nil]); first | done | rfl | (simp only [List.length_drop, List.length_take]; rfl)) ?_
                        with_reducible refine (haberdashplay_Zone.calls a1 t607 _ A62.out).mono ?_
                        rintro e w96 ⟨rfl, hb⟩
                        refine ⟨_, rfl, ?_⟩
                        replace HO_10 := Aside0.mk (Kd.R_below (by (with_reducible repeat (first | apply Kd.R_alloc | apply Kd.R_drewN | apply Kd.R_drew)); exact (anyR HO_10.out)) hb)
                        replace HO_11 := Aside0.mk (Kd.R_below (by (with_reducible repeat (first | apply Kd.R_alloc | apply Kd.R_drewN | apply Kd.R_drew)); exact (anyR HO_11.out)) hb)
                        replace HO_15 := Aside0.mk (Kd.R_below (by (with_reducible repeat (first | apply Kd.R_alloc | apply Kd.R_drewN | apply Kd.R_drew)); exact (anyR HO_15.out)) hb)
                        replace HO_20 := Aside0.mk (Kd.R_below (by (with_reducible repeat (first | apply Kd.R_alloc | apply Kd.R_drewN | apply Kd.R_drew)); exact (anyR HO_20.out)) hb)
                        replace HO_560003 := Aside0.mk (Kd.S_below (by (with_reducible repeat (first | apply Kd.S_alloc | apply Kd.S_drewN | apply Kd.S_drew)); exact HO_560003.out) hb)
                        replace BK559 := Aside0.mk (blk_below (g := gb559) (o := .cells #[.bool t562, .bool false, .int .i64 t564, .slice Ao17 t565.length co17] 24 (0, 0)) (by (with_reducible repeat (first | refine blk_drewN ?_ _ | refine blk_drew ?_ | refine blk_alloc ?_ _)); exact BK559.out) hb)
                        replace HR611 := Aside0.mk (Kd.C_below (by repeat (first | (with_reducible exact HR611.out) | (with_reducible refine Kd.C_alloc ?_ _) | (with_reducible refine Kd.C_drewN ?_ _) | (with_reducible refine Kd.C_drew ?_) | exact HR611.out)) hb)
                        replace HR615 := Aside0.mk (Kd.C_below (by repeat (first | (with_reducible exact HR615.out) | (with_reducible refine Kd.C_alloc ?_ _) | (with_reducible refine Kd.C_drewN ?_ _) | (with_reducible refine Kd.C_drew ?_) | exact HR615.out)) hb)
                        replace HB := Aside0.mk (below_step (by repeat (first | (with_reducible first | exact HB.out | apply below_alloc | apply pw_below_drewN | apply below_drew1 | refine below_set ?_ GE559.out) | exact HB.out)) hb)
                        (try clear hb)
                        (try clear hb2)
                        (try clear hk)
                        (try clear hi)
                        refine hK.out _ _ ⟨(blk_cell BK559.out 0).trans rfl, (blk_cell BK559.out 1).trans rfl, (blk_cell BK559.out 2).trans rfl, (blk_cell BK559.out 3).trans rfl⟩ (fun hHeld => ?_)
                        clear hK K
                        refine norm_ (a' := ?_) ?_ ?_
                        rotate_left; (show Act.put _ (some 119) _ = _; simp only [Act.put, List.setIfInBounds_toArray, List.set_cons_zero, List.set_cons_succ, i64_w, i32_w]; rfl)
                        refine one_ (i := 13) (N := some 130) (mk 25 16383) rfl rfl (one_of HT_.out (by kernel_rfl)) (by decide) (fun K hK => ?_)
                        refine goes_ Try.func19 (by kernel_rfl) rfl #[.agg #[.bool t562, .bool false, .int .i64 t564, .slice Ao17 t565.length co17], .string t607, .bool false, .slice A94 y608.length c94, .slice A95 y612.length c95, .int .i64 0] (by rfl) rfl rfl (by (try simp only [List.map_toArray, List.map_cons, List.map_nil]); first | done | rfl | (simp only [List.length_drop, List.length_take]; rfl)) ?_
                        with_reducible refine (levy_Levy.calls k3 t562 false t564 _ _ t565 t607 false _ _ y608 _ _ y612 0 t616 t619 t622 t623 t624 _ ?side1 ?side2 ?side3 ?side4 ?side5 ?side6 A69.out).mono ?_
                        (case side1 => repeat (first | exact (Kd.S_reads' HO_560003.out).2.2 | (with_reducible refine Kd.C_alloc ?_ _) | (with_reducible refine Kd.C_drewN ?_ _) | (with_reducible refine Kd.C_drew ?_)))
                        (case side2 => exact (Kd.S_reads' HO_560003.out).2.1)
                        (case side3 => repeat (first | exact (by repeat (first | (with_reducible exact HR611.out) | (with_reducible refine Kd.C_alloc ?_ _) | (with_reducible refine Kd.C_drewN ?_ _) | (with_reducible refine Kd.C_drew ?_) | exact HR611.out)) | (with_reducible refine Kd.C_alloc ?_ _) | (with_reducible refine Kd.C_drewN ?_ _) | (with_reducible refine Kd.C_drew ?_)))
                        (case side4 => exact HC611.out)
                        (case side5 => repeat (first | exact (by repeat (first | (with_reducible exact HR615.out) | (with_reducible refine Kd.C_alloc ?_ _) | (with_reducible refine Kd.C_drewN ?_ _) | (with_reducible refine Kd.C_drew ?_) | exact HR615.out)) | (with_reducible refine Kd.C_alloc ?_ _) | (with_reducible refine Kd.C_drewN ?_ _) | (with_reducible refine Kd.C_drew ?_)))
                        (case side6 => exact HC615.out)
                        rintro e w97 ⟨v617, v620, rfl, ho0, ho1, hb⟩
                        refine ⟨_, rfl, ?_⟩
                        replace HO_11 := Aside0.mk (Kd.R_below (by (with_reducible repeat (first | apply Kd.R_alloc | apply Kd.R_drewN | apply Kd.R_drew)); exact (anyR HO_11.out)) hb)
                        replace HO_560003 := Aside0.mk (Kd.S_below (by (with_reducible repeat (first | apply Kd.S_alloc | apply Kd.S_drewN | apply Kd.S_drew)); exact HO_560003.out) hb)
                        have HO618 := Aside0.mk (Kd.R_lower (Kd.R_new' (Kd.R_new' (Kd.R_new' ho0 (Kd.R_lt (by (with_reducible repeat (first | apply Kd.R_alloc | apply Kd.R_drewN | apply Kd.R_drew)); exact (anyR HO_10.out)))) (Kd.R_lt (by (with_reducible repeat (first | apply Kd.R_alloc | apply Kd.R_drewN | apply Kd.R_drew)); exact (anyR HO_15.out)))) (Kd.R_lt (by (with_reducible repeat (first | apply Kd.R_alloc | apply Kd.R_drewN | apply Kd.R_drew)); exact (anyR HO_20.out)))) (below_size (by repeat (first | (with_reducible first | exact HB.out | apply below_alloc | apply pw_below_drewN | apply below_drew1 | refine below_set ?_ GE559.out) | exact HB.out))))
                        have HO621 := Aside0.mk (Kd.R_lower (Kd.R_new' (Kd.R_new' (Kd.R_new' ho1 (Kd.R_lt (by (with_reducible repeat (first | apply Kd.R_alloc | apply Kd.R_drewN | apply Kd.R_drew)); exact (anyR HO_10.out)))) (Kd.R_lt (by (with_reducible repeat (first | apply Kd.R_alloc | apply Kd.R_drewN | apply Kd.R_drew)); exact (anyR HO_15.out)))) (Kd.R_lt (by (with_reducible repeat (first | apply Kd.R_alloc | apply Kd.R_drewN | apply Kd.R_drew)); exact (anyR HO_20.out)))) (below_size (by repeat (first | (with_reducible first | exact HB.out | apply below_alloc | apply pw_below_drewN | apply below_drew1 | refine below_set ?_ GE559.out) | exact HB.out))))
                        replace HO_10 := Aside0.mk (Kd.R_mono (Kd.R_told (Kd.R_told (Kd.R_old (by (with_reducible repeat (first | apply Kd.R_alloc | apply Kd.R_drewN | apply Kd.R_drew)); exact (anyR HO_10.out)) hb) (Kd.R_base ho0)) (Kd.R_base ho1)) (fun _ h_ => h_.1))
                        replace HO_15 := Aside0.mk (Kd.R_mono (Kd.R_told (Kd.R_told (Kd.R_old (by (with_reducible repeat (first | apply Kd.R_alloc | apply Kd.R_drewN | apply Kd.R_drew)); exact (anyR HO_15.out)) hb) (Kd.R_base ho0)) (Kd.R_base ho1)) (fun _ h_ => h_.1))
                        replace HO_20 := Aside0.mk (Kd.R_mono (Kd.R_told (Kd.R_told (Kd.R_old (by (with_reducible repeat (first | apply Kd.R_alloc | apply Kd.R_drewN | apply Kd.R_drew)); exact (anyR HO_20.out)) hb) (Kd.R_base ho0)) (Kd.R_base ho1)) (fun _ h_ => h_.1))
                        replace BK559 := Aside0.mk (blk_below (g := gb559) (o := .cells #[.bool t562, .bool false, .int .i64 t564, .slice Ao17 t565.length co17] 24 (0, 0)) (by (with_reducible repeat (first | refine blk_drewN ?_ _ | refine blk_drew ?_ | refine blk_alloc ?_ _)); exact BK559.out) hb)
                        replace HR611 := Aside0.mk (Kd.C_below (by repeat (first | (with_reducible exact HR611.out) | (with_reducible refine Kd.C_alloc ?_ _) | (with_reducible refine Kd.C_drewN ?_ _) | (with_reducible refine Kd.C_drew ?_) | exact HR611.out)) hb)
                        replace HR615 := Aside0.mk (Kd.C_below (by repeat (first | (with_reducible exact HR615.out) | (with_reducible refine Kd.C_alloc ?_ _) | (with_reducible refine Kd.C_drewN ?_ _) | (with_reducible refine Kd.C_drew ?_) | exact HR615.out)) hb)
                        replace HB := Aside0.mk (below_step (by repeat (first | (with_reducible first | exact HB.out | apply below_alloc | apply pw_below_drewN | apply below_drew1 | refine below_set ?_ GE559.out) | exact HB.out)) hb)
                        (try clear hb)
                        (try clear hb2)
                        (try clear hk)
                        (try clear hi)
                        (try clear ho0)
                        (try clear ho1)
                        refine hK.out _ _ ⟨(blk_cell BK559.out 0).trans rfl, (blk_cell BK559.out 1).trans rfl, (blk_cell BK559.out 2).trans rfl, (blk_cell BK559.out 3).trans rfl⟩ (fun hHeld => ?_)
                        clear hK K
                        refine norm_ (a' := ?_) ?_ ?_
                        rotate_left; (show Act.put _ (some 130) _ = _; simp only [Act.put, List.setIfInBounds_toArray, List.set_cons_zero, List.set_cons_succ, i64_w, i32_w]; rfl)
                        refine ahead_ [(14, 116), (15, 131), (16, 132), (17, 133), (18, 134), (19, 135), (20, 26), (21, 27), (22, 28), (23, 29), (24, 30)] ?_
                        iterate 11 (refine pA_ (v := ?_) (a' := ?_) rfl rfl HT_.out (by kernel_rfl) (fun _ _ _ h => h) (Or.inl ⟨by rfl, ?_⟩) ?_ ?_; rotate_left; (intro w'; go_simp; with_reducible rfl); rotate_left; (simp only [Act.put, List.setIfInBounds_toArray, List.set_cons_zero, List.set_cons_succ, i64_w, i32_w]; rfl))
                        refine aheadE_ (mk 25 33554431) (by kernel_rfl) ?_
                        refine done_ (done_of HT_.out (by kernel_rfl)) ?_
                        try go_wp2
                        replace HO_10 := Aside0.mk (Kd.R_drew (anyR HO_10.out))
                        replace HO_11 := Aside0.mk (Kd.R_drew (anyR HO_11.out))
                        replace HO_15 := Aside0.mk (Kd.R_drew (anyR HO_15.out))
                        replace HO_20 := Aside0.mk (Kd.R_drew (anyR HO_20.out))
                        replace HO_560003 := Aside0.mk (Kd.S_drew HO_560003.out)
                        replace HO618 := Aside0.mk (Kd.R_drew (anyR HO618.out))
                        replace HO621 := Aside0.mk (Kd.R_drew (anyR HO621.out))
                        replace BK559 := Aside0.mk (blk_drew BK559.out)
                        replace HR611 := Aside0.mk (Kd.C_drew HR611.out)
                        replace HR615 := Aside0.mk (Kd.C_drew HR615.out)
                        replace HB := Aside0.mk (below_drew1 HB.out)
                        obtain ⟨Ao99, co99, eo99⟩ := Kd.R_slice HO621.out
                        (first | subst eo99 | (injection eo99 with f1_ f2_ f3_; have f4_ := f1_.symm; have f5_ := f3_.symm; clear f1_ f2_ f3_; subst f4_; subst f5_))
                        have p626 : 0 ≤ (0 : Int) := (by omega)
                        have q626 : 0 < (t619.length : Int) := of_decide_eq_true (by first | (with_reducible assumption) | assumption)
                        obtain ⟨ad626, e626, hx626_0⟩ := Kd.at_int (Kd.R_reads' (anyR HO621.out)).2.2 0 p626 q626
                        cases e626
                        have qi626 : (0 < t619.length) = True := eq_true (by omega)
                        (try rw [show ((0 : Int)).toNat = 0 from rfl] at hx626_0)
                        (try rw [Addr.add_zero'] at hx626_0)
                        replace p626 := eq_true p626
                        replace q626 := eq_true q626
                        obtain ⟨Ao100, co100, eo100⟩ := Kd.R_slice HO_15.out
                        (first | subst eo100 | (injection eo100 with f1_ f2_ f3_; have f4_ := f1_.symm; have f5_ := f3_.symm; clear f1_ f2_ f3_; subst f4_; subst f5_))
                        have p627 : 0 ≤ (x25_3 : Int) := of_decide_eq_true (by first | (with_reducible assumption) | assumption)
                        have q627 : x25_3 < (t583.length : Int) := of_decide_eq_true (by first | (with_reducible assumption) | assumption)
                        obtain ⟨ad627, e627, hx627_0⟩ := Kd.at_int (Kd.R_reads' (anyR HO_15.out)).2.2 x25_3 p627 q627
                        cases e627
                        replace p627 := eq_true p627
                        replace q627 := eq_true q627
                        refine start_ (n := 21) (S := fun w' => w'.cell? ad626 = some (.int .i64 (rd t619 0)) ∧ w'.cell? (ad627.add (x25_3).toNat) = some (.int .i64 (rd t583 x25_3))) (ds := []) (mk 21 0) (by kernel_rfl) rfl rfl ⟨hx626_0, hx627_0⟩ (fun hHeld => ?_); refine with_tabW haberdashlaw19_LevyOnce.tab22 haberdashlaw19_LevyOnce.bits22 (fun HT_ HW_ => ?_)
                        generalize w97.drew = w98 at HO_10 HO_11 HO_15 HO_20 HO_560003 HO618 HO621 BK559 HR611 HR615 HB hx626_0 hx627_0 hHeld ⊢
                        refine ahead_ [(0, 136), (1, 137), (2, 138), (3, 139), (4, 140), (5, 141), (6, 142), (7, 143), (8, 144), (9, 145), (10, 146), (11, 147), (12, 148), (14, 150), (15, 151), (16, 152)] ?_
                        iterate 16 (refine pA_ (v := ?_) (a' := ?_) rfl rfl HT_.out (by kernel_rfl) (fun _ _ _ h => h) (Or.inl ⟨by rfl, ?_⟩) ?_ ?_; rotate_left; (intro w'; go_simp; with_reducible rfl); rotate_left; (simp only [Act.put, List.setIfInBounds_toArray, List.set_cons_zero, List.set_cons_succ, i64_w, i32_w]; rfl))
                        refine aheadE_ (mk 21 122879) (by kernel_rfl) ?_
                        refine ahead_ [(13, 149), (17, 153)] ?_
                        iterate 2 (refine tA_ (v := ?_) (a' := ?_) rfl rfl HT_.out HW_.out (by kernel_rfl) (fun _ _ _ h => h) (Or.inl ⟨by rfl, ?_⟩) hHeld ?_ ?_; rotate_left; (rintro w' ⟨s0, s1⟩; go_simp; with_reducible rfl); rotate_left; (simp only [Act.put, List.setIfInBounds_toArray, List.set_cons_zero, List.set_cons_succ, i64_w, i32_w]; rfl))
                        refine aheadE_ (mk 21 262143) (by kernel_rfl) ?_
                        refine ahead_ [(18, 154), (19, 155), (20, 156)] ?_
                        iterate 3 (refine pA_ (v := ?_) (a' := ?_) rfl rfl HT_.out (by kernel_rfl) (fun _ _ _ h => h) (Or.inl ⟨by rfl, ?_⟩) ?_ ?_; rotate_left; (intro w'; go_simp; with_reducible rfl); rotate_left; (simp only [Act.put, List.setIfInBounds_toArray, List.set_cons_zero, List.set_cons_succ, i64_w, i32_w]; rfl))
                        refine aheadE_ (mk 21 2097151) (by kernel_rfl) ?_
                        refine done_ (done_of HT_.out (by kernel_rfl)) ?_
                        try go_wp2
                        go_ret
                        exact ⟨by first | rfl | (simp [errW_none, errW_some] <;> rfl) | (simp [*, errW_none, errW_some] <;> rfl), by repeat (first | (with_reducible first | exact HB.out | apply below_alloc | apply pw_below_drewN | apply below_drew1 | refine below_set ?_ GE559.out) | exact HB.out)⟩
                      ·
                       rw [if_neg c83] at H
                       exact absurd H (by simp)
                     ·
                      rw [if_neg c82] at H
                      exact absurd H (by simp)
                   ·
                    rw [if_neg c71] at H
                    have c71b0 : ((t619.length : Int) == 1) = false := beq_eq_false_iff_ne.mpr c71
                    have c71b1 : ((t619.length : Int) != 1) = true := bne_iff_ne.mpr c71
                    obtain rfl := Option.some.inj H
                    try go_wp2
                    replace HO_10 := Aside0.mk (Kd.R_drew (anyR HO_10.out))
                    replace HO_11 := Aside0.mk (Kd.R_drew (anyR HO_11.out))
                    replace HO_15 := Aside0.mk (Kd.R_drew (anyR HO_15.out))
                    replace HO_20 := Aside0.mk (Kd.R_drew (anyR HO_20.out))
                    replace HO_560003 := Aside0.mk (Kd.S_drew HO_560003.out)
                    replace BK559 := Aside0.mk (blk_drew BK559.out)
                    replace HB := Aside0.mk (below_drew1 HB.out)
                    have q102 : ((wrap64 (x25_3 + 1)) : Int) ≤ ((x11_1.length : Int) : Int) := of_decide_eq_true (by first | (with_reducible assumption) | assumption)
                    obtain ⟨i0102, hi0102, _, hsz102, _⟩ := info_parts info9
                    have hroom102 : x11_1.length ≤ co35 := (Kd.R_reads' (anyR HO_11.out)).2.1
                    have hC102 : Kd.C Kd.string _ Ao35 x11_1.length x11_1 := (Kd.R_reads' (anyR HO_11.out)).2.2
                    have ql102 : (x25_3 : Int) ≤ ((wrap64 (x25_3 + 1)) : Int) := of_decide_eq_true (by first | (with_reducible assumption) | assumption)
                    have q0102 : (0 : Int) ≤ (x25_3 : Int) := of_decide_eq_true (by first | (with_reducible assumption) | assumption)
                    have hcut102 := cut_mid (P := Try.prog) 25 9 .i64 .i64 Try.underlying25 hi0102 1 hsz102 Ao35 x11_1.length co35 x25_3 (wrap64 (x25_3 + 1)) q0102 ql102 q102 hroom102
                    have hr102 := Kd.C_mid (lo := (x25_3 : Int).toNat) (hi := ((wrap64 (x25_3 + 1)) : Int).toNat) (c := co35) hC102 (by omega) (by omega) hroom102
                    obtain ⟨A102, hA102⟩ : ∃ A1, A1 = (if co35 = (x25_3 : Int).toNat then Ao35 else (Ao35 : Option Addr).map (·.add ((x25_3 : Int).toNat * 1))) := ⟨_, rfl⟩
                    obtain ⟨c102, hc102⟩ : ∃ c1, c1 = co35 - (x25_3 : Int).toNat := ⟨_, rfl⟩
                    have hy102 : y608.length = ((wrap64 (x25_3 + 1)) : Int).toNat - (x25_3 : Int).toNat := (by rw [Ny608.out, List.length_drop, List.length_take] <;> omega)
                    rw [show ((x11_1).take ((wrap64 (x25_3 + 1)) : Int).toNat).drop (x25_3 : Int).toNat = y608 from Ny608.out.symm] at hr102
                    replace hr102 : Kd.C Kd.string _ A102 y608.length y608 := (by rw [hA102]; exact hr102)
                    rw [← hy102, ← hA102, ← hc102] at hcut102
                    have HR611 := Aside0.mk hr102
                    have HC611 := Aside0.mk (show y608.length ≤ c102 from by rw [hy102, hc102]; exact Nat.sub_le_sub_right (Nat.le_trans (by omega) hroom102) _)
                    clear hr102 hC102 hroom102 hi0102 hsz102 hc102
                    have KY102 := Aside0.mk hy102
                    have KA102 := Aside0.mk hA102
                    clear hy102 hA102
                    have KL102 := Aside0.mk (show ((wrap64 (x25_3 + 1)) : Int).toNat ≤ x11_1.length from by omega)
                    have KM102 := Aside0.mk (show (x25_3 : Int).toNat ≤ ((wrap64 (x25_3 + 1)) : Int).toNat from by omega)
                    replace q102 := eq_true q102
                    have q103 : ((wrap64 (x25_3 + 1)) : Int) ≤ ((t569.length : Int) : Int) := of_decide_eq_true (by first | (with_reducible assumption) | assumption)
                    obtain ⟨i0103, hi0103, _, hsz103, _⟩ := info_parts info2
                    have hroom103 : t569.length ≤ co19 := (Kd.R_reads' (anyR HO_10.out)).2.1
                    have hC103 : Kd.C (Kd.int .i64) _ Ao19 t569.length t569 := (Kd.R_reads' (anyR HO_10.out)).2.2
                    have ql103 : (x25_3 : Int) ≤ ((wrap64 (x25_3 + 1)) : Int) := of_decide_eq_true (by first | (with_reducible assumption) | assumption)
                    have q0103 : (0 : Int) ≤ (x25_3 : Int) := of_decide_eq_true (by first | (with_reducible assumption) | assumption)
                    have hcut103 := cut_mid (P := Try.prog) 26 2 .i64 .i64 Try.underlying26 hi0103 1 hsz103 Ao19 t569.length co19 x25_3 (wrap64 (x25_3 + 1)) q0103 ql103 q103 hroom103
                    have hr103 := Kd.C_mid (lo := (x25_3 : Int).toNat) (hi := ((wrap64 (x25_3 + 1)) : Int).toNat) (c := co19) hC103 (by omega) (by omega) hroom103
                    obtain ⟨A103, hA103⟩ : ∃ A1, A1 = (if co19 = (x25_3 : Int).toNat then Ao19 else (Ao19 : Option Addr).map (·.add ((x25_3 : Int).toNat * 1))) := ⟨_, rfl⟩
                    obtain ⟨c103, hc103⟩ : ∃ c1, c1 = co19 - (x25_3 : Int).toNat := ⟨_, rfl⟩
                    have hy103 : y612.length = ((wrap64 (x25_3 + 1)) : Int).toNat - (x25_3 : Int).toNat := (by rw [Ny612.out, List.length_drop, List.length_take] <;> omega)
                    rw [show ((t569).take ((wrap64 (x25_3 + 1)) : Int).toNat).drop (x25_3 : Int).toNat = y612 from Ny612.out.symm] at hr103
                    replace hr103 : Kd.C (Kd.int .i64) _ A103 y612.length y612 := (by rw [hA103]; exact hr103)
                    rw [← hy103, ← hA103, ← hc103] at hcut103
                    have HR615 := Aside0.mk hr103
                    have HC615 := Aside0.mk (show y612.length ≤ c103 from by rw [hy103, hc103]; exact Nat.sub_le_sub_right (Nat.le_trans (by omega) hroom103) _)
                    clear hr103 hC103 hroom103 hi0103 hsz103 hc103
                    have KY103 := Aside0.mk hy103
                    have KA103 := Aside0.mk hA103
                    clear hy103 hA103
                    have KL103 := Aside0.mk (show ((wrap64 (x25_3 + 1)) : Int).toNat ≤ t569.length from by omega)
                    have KM103 := Aside0.mk (show (x25_3 : Int).toNat ≤ ((wrap64 (x25_3 + 1)) : Int).toNat from by omega)
                    replace q103 := eq_true q103
                    refine start_ (n := 25) (S := fun w' => w'.cell? ⟨gb559, 0, none⟩ = some (.bool t562) ∧ w'.cell? ⟨gb559, 1, none⟩ = some (.bool a3) ∧ w'.cell? ⟨gb559, 2, none⟩ = some (.int .i64 t564) ∧ w'.cell? ⟨gb559, 3, none⟩ = some (.slice Ao17 t565.length co17)) (ds := []) (mk 25 0) (by kernel_rfl) rfl rfl ⟨(blk_cell BK559.out 0).trans rfl, (blk_cell BK559.out 1).trans rfl, (blk_cell BK559.out 2).trans rfl, (blk_cell BK559.out 3).trans rfl⟩ (fun hHeld => ?_); refine with_tabW haberdashlaw19_LevyOnce.tab21 haberdashlaw19_LevyOnce.bits21 (fun HT_ HW_ => ?_)
                    generalize wr.drew = w101 at HO_10 HO_11 HO_15 HO_20 HO_560003 BK559 HB HR611 HR615 hHeld ⊢
                    refine ahead_ [(1, 118), (3, 120), (4, 121), (5, 122), (6, 123), (7, 124), (8, 125), (9, 126), (10, 127), (11, 128), (12, 129)] ?_
                    iterate 11 (refine pA_ (v := ?_) (a' := ?_) rfl rfl HT_.out (by kernel_rfl) (fun _ _ _ h => h) (Or.inl ⟨by rfl, ?_⟩) ?_ ?_; rotate_left; (intro w'; go_simp; with_reducible rfl); rotate_left; (simp only [Act.put, List.setIfInBounds_toArray, List.set_cons_zero, List.set_cons_succ, i64_w, i32_w]; rfl))
                    refine aheadE_ (mk 25 8186) (by kernel_rfl) ?_
                    refine take_ (i := 0) (N := some 117) (v := ?_) (a' := ?_) (mk 25 8187) rfl rfl (take_ofW HT_.out HW_.out (by kernel_rfl)) (fun _ _ _ h => h) (Or.inl ⟨by rfl, ?_⟩) hHeld ?_ ?_
                    rotate_left
                    ·
                     rintro w' ⟨s0, s1, s2, s3⟩
                     go_simp
                     with_reducible rfl
                    rotate_left; (simp only [Act.put, List.setIfInBounds_toArray, List.set_cons_zero, List.set_cons_succ, i64_w, i32_w]; rfl)
                    refine one_ (i := 2) (N := some 119) (mk 25 8191) rfl rfl (one_of HT_.out (by kernel_rfl)) (by decide) (fun K hK => ?_)
                    refine goes_ Try.func16 (by kernel_rfl) rfl #[.int .i64 a1] (by rfl) rfl rfl (by (try simp only [List.map_toArray, List.map_cons, List.map_nil]); first | done | rfl | (simp only [List.length_drop, List.length_take]; rfl)) ?_
                    with_reducible refine (haberdashplay_Zone.calls a1 t607 _ A62.out).mono ?_
                    rintro e w104 ⟨rfl, hb⟩
                    refine ⟨_, rfl, ?_⟩
                    replace HO_10 := Aside0.mk (Kd.R_below (by (with_reducible repeat (first | apply Kd.R_alloc | apply Kd.R_drewN | apply Kd.R_drew)); exact (anyR HO_10.out)) hb)
                    replace HO_11 := Aside0.mk (Kd.R_below (by (with_reducible repeat (first | apply Kd.R_alloc | apply Kd.R_drewN | apply Kd.R_drew)); exact (anyR HO_11.out)) hb)
                    replace HO_15 := Aside0.mk (Kd.R_below (by (with_reducible repeat (first | apply Kd.R_alloc | apply Kd.R_drewN | apply Kd.R_drew)); exact (anyR HO_15.out)) hb)
                    replace HO_20 := Aside0.mk (Kd.R_below (by (with_reducible repeat (first | apply Kd.R_alloc | apply Kd.R_drewN | apply Kd.R_drew)); exact (anyR HO_20.out)) hb)
                    replace HO_560003 := Aside0.mk (Kd.S_below (by (with_reducible repeat (first | apply Kd.S_alloc | apply Kd.S_drewN | apply Kd.S_drew)); exact HO_560003.out) hb)
                    replace BK559 := Aside0.mk (blk_below (g := gb559) (o := .cells #[.bool t562, .bool a3, .int .i64 t564, .slice Ao17 t565.length co17] 24 (0, 0)) (by (with_reducible repeat (first | refine blk_drewN ?_ _ | refine blk_drew ?_ | refine blk_alloc ?_ _)); exact BK559.out) hb)
                    replace HR611 := Aside0.mk (Kd.C_below (by repeat (first | (with_reducible exact HR611.out) | (with_reducible refine Kd.C_alloc ?_ _) | (with_reducible refine Kd.C_drewN ?_ _) | (with_reducible refine Kd.C_drew ?_) | exact HR611.out)) hb)
                    replace HR615 := Aside0.mk (Kd.C_below (by repeat (first | (with_reducible exact HR615.out) | (with_reducible refine Kd.C_alloc ?_ _) | (with_reducible refine Kd.C_drewN ?_ _) | (with_reducible refine Kd.C_drew ?_) | exact HR615.out)) hb)
                    replace HB := Aside0.mk (below_step (by repeat (first | (with_reducible first | exact HB.out | apply below_alloc | apply pw_below_drewN | apply below_drew1 | refine below_set ?_ GE559.out) | exact HB.out)) hb)
                    (try clear hb)
                    (try clear hb2)
                    (try clear hk)
                    (try clear hi)
                    refine hK.out _ _ ⟨(blk_cell BK559.out 0).trans rfl, (blk_cell BK559.out 1).trans rfl, (blk_cell BK559.out 2).trans rfl, (blk_cell BK559.out 3).trans rfl⟩ (fun hHeld => ?_)
                    clear hK K
                    refine norm_ (a' := ?_) ?_ ?_
                    rotate_left; (show Act.put _ (some 119) _ = _; simp only [Act.put, List.setIfInBounds_toArray, List.set_cons_zero, List.set_cons_succ, i64_w, i32_w]; rfl)
                    refine one_ (i := 13) (N := some 130) (mk 25 16383) rfl rfl (one_of HT_.out (by kernel_rfl)) (by decide) (fun K hK => ?_)
                    refine goes_ Try.func19 (by kernel_rfl) rfl #[.agg #[.bool t562, .bool a3, .int .i64 t564, .slice Ao17 t565.length co17], .string t607, .bool false, .slice A102 y608.length c102, .slice A103 y612.length c103, .int .i64 0] (by rfl) rfl rfl (by (try simp only [List.map_toArray, List.map_cons, List.map_nil]); first | done | rfl | (simp only [List.length_drop, List.length_take]; rfl)) ?_
                    with_reducible refine (levy_Levy.calls k3 t562 a3 t564 _ _ t565 t607 false _ _ y608 _ _ y612 0 t616 t619 t622 t623 t624 _ ?side1 ?side2 ?side3 ?side4 ?side5 ?side6 A69.out).mono ?_
                    (case side1 => repeat (first | exact (Kd.S_reads' HO_560003.out).2.2 | (with_reducible refine Kd.C_alloc ?_ _) | (with_reducible refine Kd.C_drewN ?_ _) | (with_reducible refine Kd.C_drew ?_)))
                    (case side2 => exact (Kd.S_reads' HO_560003.out).2.1)
                    (case side3 => repeat (first | exact (by repeat (first | (with_reducible exact HR611.out) | (with_reducible refine Kd.C_alloc ?_ _) | (with_reducible refine Kd.C_drewN ?_ _) | (with_reducible refine Kd.C_drew ?_) | exact HR611.out)) | (with_reducible refine Kd.C_alloc ?_ _) | (with_reducible refine Kd.C_drewN ?_ _) | (with_reducible refine Kd.C_drew ?_)))
                    (case side4 => exact HC611.out)
                    (case side5 => repeat (first | exact (by repeat (first | (with_reducible exact HR615.out) | (with_reducible refine Kd.C_alloc ?_ _) | (with_reducible refine Kd.C_drewN ?_ _) | (with_reducible refine Kd.C_drew ?_) | exact HR615.out)) | (with_reducible refine Kd.C_alloc ?_ _) | (with_reducible refine Kd.C_drewN ?_ _) | (with_reducible refine Kd.C_drew ?_)))
                    (case side6 => exact HC615.out)
                    rintro e w105 ⟨v617, v620, rfl, ho0, ho1, hb⟩
                    refine ⟨_, rfl, ?_⟩
                    replace HO_11 := Aside0.mk (Kd.R_below (by (with_reducible repeat (first | apply Kd.R_alloc | apply Kd.R_drewN | apply Kd.R_drew)); exact (anyR HO_11.out)) hb)
                    replace HO_560003 := Aside0.mk (Kd.S_below (by (with_reducible repeat (first | apply Kd.S_alloc | apply Kd.S_drewN | apply Kd.S_drew)); exact HO_560003.out) hb)
                    have HO618 := Aside0.mk (Kd.R_lower (Kd.R_new' (Kd.R_new' (Kd.R_new' ho0 (Kd.R_lt (by (with_reducible repeat (first | apply Kd.R_alloc | apply Kd.R_drewN | apply Kd.R_drew)); exact (anyR HO_10.out)))) (Kd.R_lt (by (with_reducible repeat (first | apply Kd.R_alloc | apply Kd.R_drewN | apply Kd.R_drew)); exact (anyR HO_15.out)))) (Kd.R_lt (by (with_reducible repeat (first | apply Kd.R_alloc | apply Kd.R_drewN | apply Kd.R_drew)); exact (anyR HO_20.out)))) (below_size (by repeat (first | (with_reducible first | exact HB.out | apply below_alloc | apply pw_below_drewN | apply below_drew1 | refine below_set ?_ GE559.out) | exact HB.out))))
                    have HO621 := Aside0.mk (Kd.R_lower (Kd.R_new' (Kd.R_new' (Kd.R_new' ho1 (Kd.R_lt (by (with_reducible repeat (first | apply Kd.R_alloc | apply Kd.R_drewN | apply Kd.R_drew)); exact (anyR HO_10.out)))) (Kd.R_lt (by (with_reducible repeat (first | apply Kd.R_alloc | apply Kd.R_drewN | apply Kd.R_drew)); exact (anyR HO_15.out)))) (Kd.R_lt (by (with_reducible repeat (first | apply Kd.R_alloc | apply Kd.R_drewN | apply Kd.R_drew)); exact (anyR HO_20.out)))) (below_size (by repeat (first | (with_reducible first | exact HB.out | apply below_alloc | apply pw_below_drewN | apply below_drew1 | refine below_set ?_ GE559.out) | exact HB.out))))
                    replace HO_10 := Aside0.mk (Kd.R_mono (Kd.R_told (Kd.R_told (Kd.R_old (by (with_reducible repeat (first | apply Kd.R_alloc | apply Kd.R_drewN | apply Kd.R_drew)); exact (anyR HO_10.out)) hb) (Kd.R_base ho0)) (Kd.R_base ho1)) (fun _ h_ => h_.1))
                    replace HO_15 := Aside0.mk (Kd.R_mono (Kd.R_told (Kd.R_told (Kd.R_old (by (with_reducible repeat (first | apply Kd.R_alloc | apply Kd.R_drewN | apply Kd.R_drew)); exact (anyR HO_15.out)) hb) (Kd.R_base ho0)) (Kd.R_base ho1)) (fun _ h_ => h_.1))
                    replace HO_20 := Aside0.mk (Kd.R_mono (Kd.R_told (Kd.R_told (Kd.R_old (by (with_reducible repeat (first | apply Kd.R_alloc | apply Kd.R_drewN | apply Kd.R_drew)); exact (anyR HO_20.out)) hb) (Kd.R_base ho0)) (Kd.R_base ho1)) (fun _ h_ => h_.1))
                    replace BK559 := Aside0.mk (blk_below (g := gb559) (o := .cells #[.bool t562, .bool a3, .int .i64 t564, .slice Ao17 t565.length co17] 24 (0, 0)) (by (with_reducible repeat (first | refine blk_drewN ?_ _ | refine blk_drew ?_ | refine blk_alloc ?_ _)); exact BK559.out) hb)
                    replace HR611 := Aside0.mk (Kd.C_below (by repeat (first | (with_reducible exact HR611.out) | (with_reducible refine Kd.C_alloc ?_ _) | (with_reducible refine Kd.C_drewN ?_ _) | (with_reducible refine Kd.C_drew ?_) | exact HR611.out)) hb)
                    replace HR615 := Aside0.mk (Kd.C_below (by repeat (first | (with_reducible exact HR615.out) | (with_reducible refine Kd.C_alloc ?_ _) | (with_reducible refine Kd.C_drewN ?_ _) | (with_reducible refine Kd.C_drew ?_) | exact HR615.out)) hb)
                    replace HB := Aside0.mk (below_step (by repeat (first | (with_reducible first | exact HB.out | apply below_alloc | apply pw_below_drewN | apply below_drew1 | refine below_set ?_ GE559.out) | exact HB.out)) hb)
                    (try clear hb)
                    (try clear hb2)
                    (try clear hk)
                    (try clear hi)
                    (try clear ho0)
                    (try clear ho1)
                    refine hK.out _ _ ⟨(blk_cell BK559.out 0).trans rfl, (blk_cell BK559.out 1).trans rfl, (blk_cell BK559.out 2).trans rfl, (blk_cell BK559.out 3).trans rfl⟩ (fun hHeld => ?_)
                    clear hK K
                    refine norm_ (a' := ?_) ?_ ?_
                    rotate_left; (show Act.put _ (some 130) _ = _; simp only [Act.put, List.setIfInBounds_toArray, List.set_cons_zero, List.set_cons_succ, i64_w, i32_w]; rfl)
                    refine ahead_ [(14, 116), (15, 131), (16, 132), (17, 133), (18, 134), (19, 135), (20, 26), (21, 27), (22, 28), (23, 29), (24, 30)] ?_
                    iterate 11 (refine pA_ (v := ?_) (a' := ?_) rfl rfl HT_.out (by kernel_rfl) (fun _ _ _ h => h) (Or.inl ⟨by rfl, ?_⟩) ?_ ?_; rotate_left; (intro w'; go_simp; with_reducible rfl); rotate_left; (simp only [Act.put, List.setIfInBounds_toArray, List.set_cons_zero, List.set_cons_succ, i64_w, i32_w]; rfl))
                    refine aheadE_ (mk 25 33554431) (by kernel_rfl) ?_
                    refine done_ (done_of HT_.out (by kernel_rfl)) ?_
                    try go_wp2
                    replace HO_10 := Aside0.mk (Kd.R_drew (anyR HO_10.out))
                    replace HO_11 := Aside0.mk (Kd.R_drew (anyR HO_11.out))
                    replace HO_15 := Aside0.mk (Kd.R_drew (anyR HO_15.out))
                    replace HO_20 := Aside0.mk (Kd.R_drew (anyR HO_20.out))
                    replace HO_560003 := Aside0.mk (Kd.S_drew HO_560003.out)
                    replace HO618 := Aside0.mk (Kd.R_drew (anyR HO618.out))
                    replace HO621 := Aside0.mk (Kd.R_drew (anyR HO621.out))
                    replace BK559 := Aside0.mk (blk_drew BK559.out)
                    replace HR611 := Aside0.mk (Kd.C_drew HR611.out)
                    replace HR615 := Aside0.mk (Kd.C_drew HR615.out)
                    replace HB := Aside0.mk (below_drew1 HB.out)
                    obtain ⟨Ao107, co107, eo107⟩ := Kd.R_slice HO621.out
                    (first | subst eo107 | (injection eo107 with f1_ f2_ f3_; have f4_ := f1_.symm; have f5_ := f3_.symm; clear f1_ f2_ f3_; subst f4_; subst f5_))
                    refine start_ (n := 21) (S := fun w' => True) (ds := []) (mk 21 0) (by kernel_rfl) rfl rfl trivial (fun hHeld => ?_); refine with_tabW haberdashlaw19_LevyOnce.tab22 haberdashlaw19_LevyOnce.bits22 (fun HT_ HW_ => ?_)
                    generalize w105.drew = w106 at HO_10 HO_11 HO_15 HO_20 HO_560003 HO618 HO621 BK559 HR611 HR615 HB hHeld ⊢
                    refine ahead_ [(0, 136), (1, 137), (2, 138), (3, 139), (4, 140), (5, 141), (6, 142), (7, 143)] ?_
                    iterate 8 (refine pA_ (v := ?_) (a' := ?_) rfl rfl HT_.out (by kernel_rfl) (fun _ _ _ h => h) (Or.inl ⟨by rfl, ?_⟩) ?_ ?_; rotate_left; (intro w'; go_simp; with_reducible rfl); rotate_left; (simp only [Act.put, List.setIfInBounds_toArray, List.set_cons_zero, List.set_cons_succ, i64_w, i32_w]; rfl))
                    refine aheadE_ (mk 21 255) (by kernel_rfl) ?_
                    refine ahead_ [(8, 144), (9, 145), (10, 146), (11, 147), (12, 148), (13, 149), (14, 150), (15, 151), (16, 152), (17, 153), (18, 154), (19, 155)] ?_
                    iterate 12 (refine pA_ (v := undef) (a' := ?_) rfl rfl HT_.out (by kernel_rfl) (fun _ _ _ h => h) (Or.inr ⟨by rfl, rfl⟩) ?_ ?_; rotate_left; (simp only [Act.put, List.setIfInBounds_toArray, List.set_cons_zero, List.set_cons_succ, i64_w, i32_w]; rfl))
                    refine aheadE_ (mk 21 1048575) (by kernel_rfl) ?_
                    refine pure_ (i := 20) (N := some 156) (v := ?_) (a' := ?_) (mk 21 2097151) rfl rfl (any_of HT_.out (by kernel_rfl)) (fun _ _ _ h => h) (Or.inl ⟨by rfl, ?_⟩) ?_ ?_
                    rotate_left; (intro w'; go_simp; with_reducible rfl)
                    rotate_left; (simp only [Act.put, List.setIfInBounds_toArray, List.set_cons_zero, List.set_cons_succ, i64_w, i32_w]; rfl)
                    refine done_ (done_of HT_.out (by kernel_rfl)) ?_
                    try go_wp2
                    go_ret
                    exact ⟨by first | rfl | (simp [errW_none, errW_some] <;> rfl) | (simp [*, errW_none, errW_some] <;> rfl), by repeat (first | (with_reducible first | exact HB.out | apply below_alloc | apply pw_below_drewN | apply below_drew1 | refine below_set ?_ GE559.out) | exact HB.out)⟩
                  ·
                   rw [if_neg c70] at H
                   have c70b0 : (t624 == 0) = false := beq_eq_false_iff_ne.mpr c70
                   have c70b1 : (t624 != 0) = true := bne_iff_ne.mpr c70
                   obtain rfl := Option.some.inj H
                   try go_wp2
                   replace HO_10 := Aside0.mk (Kd.R_drew (anyR HO_10.out))
                   replace HO_11 := Aside0.mk (Kd.R_drew (anyR HO_11.out))
                   replace HO_15 := Aside0.mk (Kd.R_drew (anyR HO_15.out))
                   replace HO_20 := Aside0.mk (Kd.R_drew (anyR HO_20.out))
                   replace HO_560003 := Aside0.mk (Kd.S_drew HO_560003.out)
                   replace BK559 := Aside0.mk (blk_drew BK559.out)
                   replace HB := Aside0.mk (below_drew1 HB.out)
                   have q109 : ((wrap64 (x25_3 + 1)) : Int) ≤ ((x11_1.length : Int) : Int) := of_decide_eq_true (by first | (with_reducible assumption) | assumption)
                   obtain ⟨i0109, hi0109, _, hsz109, _⟩ := info_parts info9
                   have hroom109 : x11_1.length ≤ co35 := (Kd.R_reads' (anyR HO_11.out)).2.1
                   have hC109 : Kd.C Kd.string _ Ao35 x11_1.length x11_1 := (Kd.R_reads' (anyR HO_11.out)).2.2
                   have ql109 : (x25_3 : Int) ≤ ((wrap64 (x25_3 + 1)) : Int) := of_decide_eq_true (by first | (with_reducible assumption) | assumption)
                   have q0109 : (0 : Int) ≤ (x25_3 : Int) := of_decide_eq_true (by first | (with_reducible assumption) | assumption)
                   have hcut109 := cut_mid (P := Try.prog) 25 9 .i64 .i64 Try.underlying25 hi0109 1 hsz109 Ao35 x11_1.length co35 x25_3 (wrap64 (x25_3 + 1)) q0109 ql109 q109 hroom109
                   have hr109 := Kd.C_mid (lo := (x25_3 : Int).toNat) (hi := ((wrap64 (x25_3 + 1)) : Int).toNat) (c := co35) hC109 (by omega) (by omega) hroom109
                   obtain ⟨A109, hA109⟩ : ∃ A1, A1 = (if co35 = (x25_3 : Int).toNat then Ao35 else (Ao35 : Option Addr).map (·.add ((x25_3 : Int).toNat * 1))) := ⟨_, rfl⟩
                   obtain ⟨c109, hc109⟩ : ∃ c1, c1 = co35 - (x25_3 : Int).toNat := ⟨_, rfl⟩
                   have hy109 : y608.length = ((wrap64 (x25_3 + 1)) : Int).toNat - (x25_3 : Int).toNat := (by rw [Ny608.out, List.length_drop, List.length_take] <;> omega)
                   rw [show ((x11_1).take ((wrap64 (x25_3 + 1)) : Int).toNat).drop (x25_3 : Int).toNat = y608 from Ny608.out.symm] at hr109
                   replace hr109 : Kd.C Kd.string _ A109 y608.length y608 := (by rw [hA109]; exact hr109)
                   rw [← hy109, ← hA109, ← hc109] at hcut109
                   have HR611 := Aside0.mk hr109
                   have HC611 := Aside0.mk (show y608.length ≤ c109 from by rw [hy109, hc109]; exact Nat.sub_le_sub_right (Nat.le_trans (by omega) hroom109) _)
                   clear hr109 hC109 hroom109 hi0109 hsz109 hc109
                   have KY109 := Aside0.mk hy109
                   have KA109 := Aside0.mk hA109
                   clear hy109 hA109
                   have KL109 := Aside0.mk (show ((wrap64 (x25_3 + 1)) : Int).toNat ≤ x11_1.length from by omega)
                   have KM109 := Aside0.mk (show (x25_3 : Int).toNat ≤ ((wrap64 (x25_3 + 1)) : Int).toNat from by omega)
                   replace q109 := eq_true q109
                   have q110 : ((wrap64 (x25_3 + 1)) : Int) ≤ ((t569.length : Int) : Int) := of_decide_eq_true (by first | (with_reducible assumption) | assumption)
                   obtain ⟨i0110, hi0110, _, hsz110, _⟩ := info_parts info2
                   have hroom110 : t569.length ≤ co19 := (Kd.R_reads' (anyR HO_10.out)).2.1
                   have hC110 : Kd.C (Kd.int .i64) _ Ao19 t569.length t569 := (Kd.R_reads' (anyR HO_10.out)).2.2
                   have ql110 : (x25_3 : Int) ≤ ((wrap64 (x25_3 + 1)) : Int) := of_decide_eq_true (by first | (with_reducible assumption) | assumption)
                   have q0110 : (0 : Int) ≤ (x25_3 : Int) := of_decide_eq_true (by first | (with_reducible assumption) | assumption)
                   have hcut110 := cut_mid (P := Try.prog) 26 2 .i64 .i64 Try.underlying26 hi0110 1 hsz110 Ao19 t569.length co19 x25_3 (wrap64 (x25_3 + 1)) q0110 ql110 q110 hroom110
                   have hr110 := Kd.C_mid (lo := (x25_3 : Int).toNat) (hi := ((wrap64 (x25_3 + 1)) : Int).toNat) (c := co19) hC110 (by omega) (by omega) hroom110
                   obtain ⟨A110, hA110⟩ : ∃ A1, A1 = (if co19 = (x25_3 : Int).toNat then Ao19 else (Ao19 : Option Addr).map (·.add ((x25_3 : Int).toNat * 1))) := ⟨_, rfl⟩
                   obtain ⟨c110, hc110⟩ : ∃ c1, c1 = co19 - (x25_3 : Int).toNat := ⟨_, rfl⟩
                   have hy110 : y612.length = ((wrap64 (x25_3 + 1)) : Int).toNat - (x25_3 : Int).toNat := (by rw [Ny612.out, List.length_drop, List.length_take] <;> omega)
                   rw [show ((t569).take ((wrap64 (x25_3 + 1)) : Int).toNat).drop (x25_3 : Int).toNat = y612 from Ny612.out.symm] at hr110
                   replace hr110 : Kd.C (Kd.int .i64) _ A110 y612.length y612 := (by rw [hA110]; exact hr110)
                   rw [← hy110, ← hA110, ← hc110] at hcut110
                   have HR615 := Aside0.mk hr110
                   have HC615 := Aside0.mk (show y612.length ≤ c110 from by rw [hy110, hc110]; exact Nat.sub_le_sub_right (Nat.le_trans (by omega) hroom110) _)
                   clear hr110 hC110 hroom110 hi0110 hsz110 hc110
                   have KY110 := Aside0.mk hy110
                   have KA110 := Aside0.mk hA110
                   clear hy110 hA110
                   have KL110 := Aside0.mk (show ((wrap64 (x25_3 + 1)) : Int).toNat ≤ t569.length from by omega)
                   have KM110 := Aside0.mk (show (x25_3 : Int).toNat ≤ ((wrap64 (x25_3 + 1)) : Int).toNat from by omega)
                   replace q110 := eq_true q110
                   refine start_ (n := 25) (S := fun w' => w'.cell? ⟨gb559, 0, none⟩ = some (.bool t562) ∧ w'.cell? ⟨gb559, 1, none⟩ = some (.bool a3) ∧ w'.cell? ⟨gb559, 2, none⟩ = some (.int .i64 t564) ∧ w'.cell? ⟨gb559, 3, none⟩ = some (.slice Ao17 t565.length co17)) (ds := []) (mk 25 0) (by kernel_rfl) rfl rfl ⟨(blk_cell BK559.out 0).trans rfl, (blk_cell BK559.out 1).trans rfl, (blk_cell BK559.out 2).trans rfl, (blk_cell BK559.out 3).trans rfl⟩ (fun hHeld => ?_); refine with_tabW haberdashlaw19_LevyOnce.tab21 haberdashlaw19_LevyOnce.bits21 (fun HT_ HW_ => ?_)
                   generalize wr.drew = w108 at HO_10 HO_11 HO_15 HO_20 HO_560003 BK559 HB HR611 HR615 hHeld ⊢
                   refine ahead_ [(1, 118), (3, 120), (4, 121), (5, 122), (6, 123), (7, 124), (8, 125), (9, 126), (10, 127), (11, 128), (12, 129)] ?_
                   iterate 11 (refine pA_ (v := ?_) (a' := ?_) rfl rfl HT_.out (by kernel_rfl) (fun _ _ _ h => h) (Or.inl ⟨by rfl, ?_⟩) ?_ ?_; rotate_left; (intro w'; go_simp; with_reducible rfl); rotate_left; (simp only [Act.put, List.setIfInBounds_toArray, List.set_cons_zero, List.set_cons_succ, i64_w, i32_w]; rfl))
                   refine aheadE_ (mk 25 8186) (by kernel_rfl) ?_
                   refine take_ (i := 0) (N := some 117) (v := ?_) (a' := ?_) (mk 25 8187) rfl rfl (take_ofW HT_.out HW_.out (by kernel_rfl)) (fun _ _ _ h => h) (Or.inl ⟨by rfl, ?_⟩) hHeld ?_ ?_
                   rotate_left
                   ·
                    rintro w' ⟨s0, s1, s2, s3⟩
                    go_simp
                    with_reducible rfl
                   rotate_left; (simp only [Act.put, List.setIfInBounds_toArray, List.set_cons_zero, List.set_cons_succ, i64_w, i32_w]; rfl)
                   refine one_ (i := 2) (N := some 119) (mk 25 8191) rfl rfl (one_of HT_.out (by kernel_rfl)) (by decide) (fun K hK => ?_)
                   refine goes_ Try.func16 (by kernel_rfl) rfl #[.int .i64 a1] (by rfl) rfl rfl (by (try simp only [List.map_toArray, List.map_cons, List.map_nil]); first | done | rfl | (simp only [List.length_drop, List.length_take]; rfl)) ?_
                   with_reducible refine (haberdashplay_Zone.calls a1 t607 _ A62.out).mono ?_
                   rintro e w111 ⟨rfl, hb⟩
                   refine ⟨_, rfl, ?_⟩
                   replace HO_10 := Aside0.mk (Kd.R_below (by (with_reducible repeat (first | apply Kd.R_alloc | apply Kd.R_drewN | apply Kd.R_drew)); exact (anyR HO_10.out)) hb)
                   replace HO_11 := Aside0.mk (Kd.R_below (by (with_reducible repeat (first | apply Kd.R_alloc | apply Kd.R_drewN | apply Kd.R_drew)); exact (anyR HO_11.out)) hb)
                   replace HO_15 := Aside0.mk (Kd.R_below (by (with_reducible repeat (first | apply Kd.R_alloc | apply Kd.R_drewN | apply Kd.R_drew)); exact (anyR HO_15.out)) hb)
                   replace HO_20 := Aside0.mk (Kd.R_below (by (with_reducible repeat (first | apply Kd.R_alloc | apply Kd.R_drewN | apply Kd.R_drew)); exact (anyR HO_20.out)) hb)
                   replace HO_560003 := Aside0.mk (Kd.S_below (by (with_reducible repeat (first | apply Kd.S_alloc | apply Kd.S_drewN | apply Kd.S_drew)); exact HO_560003.out) hb)
                   replace BK559 := Aside0.mk (blk_below (g := gb559) (o := .cells #[.bool t562, .bool a3, .int .i64 t564, .slice Ao17 t565.length co17] 24 (0, 0)) (by (with_reducible repeat (first | refine blk_drewN ?_ _ | refine blk_drew ?_ | refine blk_alloc ?_ _)); exact BK559.out) hb)
                   replace HR611 := Aside0.mk (Kd.C_below (by repeat (first | (with_reducible exact HR611.out) | (with_reducible refine Kd.C_alloc ?_ _) | (with_reducible refine Kd.C_drewN ?_ _) | (with_reducible refine Kd.C_drew ?_) | exact HR611.out)) hb)
                   replace HR615 := Aside0.mk (Kd.C_below (by repeat (first | (with_reducible exact HR615.out) | (with_reducible refine Kd.C_alloc ?_ _) | (with_reducible refine Kd.C_drewN ?_ _) | (with_reducible refine Kd.C_drew ?_) | exact HR615.out)) hb)
                   replace HB := Aside0.mk (below_step (by repeat (first | (with_reducible first | exact HB.out | apply below_alloc | apply pw_below_drewN | apply below_drew1 | refine below_set ?_ GE559.out) | exact HB.out)) hb)
                   (try clear hb)
                   (try clear hb2)
                   (try clear hk)
                   (try clear hi)
                   refine hK.out _ _ ⟨(blk_cell BK559.out 0).trans rfl, (blk_cell BK559.out 1).trans rfl, (blk_cell BK559.out 2).trans rfl, (blk_cell BK559.out 3).trans rfl⟩ (fun hHeld => ?_)
                   clear hK K
                   refine norm_ (a' := ?_) ?_ ?_
                   rotate_left; (show Act.put _ (some 119) _ = _; simp only [Act.put, List.setIfInBounds_toArray, List.set_cons_zero, List.set_cons_succ, i64_w, i32_w]; rfl)
                   refine one_ (i := 13) (N := some 130) (mk 25 16383) rfl rfl (one_of HT_.out (by kernel_rfl)) (by decide) (fun K hK => ?_)
                   refine goes_ Try.func19 (by kernel_rfl) rfl #[.agg #[.bool t562, .bool a3, .int .i64 t564, .slice Ao17 t565.length co17], .string t607, .bool false, .slice A109 y608.length c109, .slice A110 y612.length c110, .int .i64 0] (by rfl) rfl rfl (by (try simp only [List.map_toArray, List.map_cons, List.map_nil]); first | done | rfl | (simp only [List.length_drop, List.length_take]; rfl)) ?_
                   with_reducible refine (levy_Levy.calls k3 t562 a3 t564 _ _ t565 t607 false _ _ y608 _ _ y612 0 t616 t619 t622 t623 t624 _ ?side1 ?side2 ?side3 ?side4 ?side5 ?side6 A69.out).mono ?_
                   (case side1 => repeat (first | exact (Kd.S_reads' HO_560003.out).2.2 | (with_reducible refine Kd.C_alloc ?_ _) | (with_reducible refine Kd.C_drewN ?_ _) | (with_reducible refine Kd.C_drew ?_)))
                   (case side2 => exact (Kd.S_reads' HO_560003.out).2.1)
                   (case side3 => repeat (first | exact (by repeat (first | (with_reducible exact HR611.out) | (with_reducible refine Kd.C_alloc ?_ _) | (with_reducible refine Kd.C_drewN ?_ _) | (with_reducible refine Kd.C_drew ?_) | exact HR611.out)) | (with_reducible refine Kd.C_alloc ?_ _) | (with_reducible refine Kd.C_drewN ?_ _) | (with_reducible refine Kd.C_drew ?_)))
                   (case side4 => exact HC611.out)
                   (case side5 => repeat (first | exact (by repeat (first | (with_reducible exact HR615.out) | (with_reducible refine Kd.C_alloc ?_ _) | (with_reducible refine Kd.C_drewN ?_ _) | (with_reducible refine Kd.C_drew ?_) | exact HR615.out)) | (with_reducible refine Kd.C_alloc ?_ _) | (with_reducible refine Kd.C_drewN ?_ _) | (with_reducible refine Kd.C_drew ?_)))
                   (case side6 => exact HC615.out)
                   rintro e w112 ⟨v617, v620, rfl, ho0, ho1, hb⟩
                   refine ⟨_, rfl, ?_⟩
                   replace HO_11 := Aside0.mk (Kd.R_below (by (with_reducible repeat (first | apply Kd.R_alloc | apply Kd.R_drewN | apply Kd.R_drew)); exact (anyR HO_11.out)) hb)
                   replace HO_560003 := Aside0.mk (Kd.S_below (by (with_reducible repeat (first | apply Kd.S_alloc | apply Kd.S_drewN | apply Kd.S_drew)); exact HO_560003.out) hb)
                   have HO618 := Aside0.mk (Kd.R_lower (Kd.R_new' (Kd.R_new' (Kd.R_new' ho0 (Kd.R_lt (by (with_reducible repeat (first | apply Kd.R_alloc | apply Kd.R_drewN | apply Kd.R_drew)); exact (anyR HO_10.out)))) (Kd.R_lt (by (with_reducible repeat (first | apply Kd.R_alloc | apply Kd.R_drewN | apply Kd.R_drew)); exact (anyR HO_15.out)))) (Kd.R_lt (by (with_reducible repeat (first | apply Kd.R_alloc | apply Kd.R_drewN | apply Kd.R_drew)); exact (anyR HO_20.out)))) (below_size (by repeat (first | (with_reducible first | exact HB.out | apply below_alloc | apply pw_below_drewN | apply below_drew1 | refine below_set ?_ GE559.out) | exact HB.out))))
                   have HO621 := Aside0.mk (Kd.R_lower (Kd.R_new' (Kd.R_new' (Kd.R_new' ho1 (Kd.R_lt (by (with_reducible repeat (first | apply Kd.R_alloc | apply Kd.R_drewN | apply Kd.R_drew)); exact (anyR HO_10.out)))) (Kd.R_lt (by (with_reducible repeat (first | apply Kd.R_alloc | apply Kd.R_drewN | apply Kd.R_drew)); exact (anyR HO_15.out)))) (Kd.R_lt (by (with_reducible repeat (first | apply Kd.R_alloc | apply Kd.R_drewN | apply Kd.R_drew)); exact (anyR HO_20.out)))) (below_size (by repeat (first | (with_reducible first | exact HB.out | apply below_alloc | apply pw_below_drewN | apply below_drew1 | refine below_set ?_ GE559.out) | exact HB.out))))
                   replace HO_10 := Aside0.mk (Kd.R_mono (Kd.R_told (Kd.R_told (Kd.R_old (by (with_reducible repeat (first | apply Kd.R_alloc | apply Kd.R_drewN | apply Kd.R_drew)); exact (anyR HO_10.out)) hb) (Kd.R_base ho0)) (Kd.R_base ho1)) (fun _ h_ => h_.1))
                   replace HO_15 := Aside0.mk (Kd.R_mono (Kd.R_told (Kd.R_told (Kd.R_old (by (with_reducible repeat (first | apply Kd.R_alloc | apply Kd.R_drewN | apply Kd.R_drew)); exact (anyR HO_15.out)) hb) (Kd.R_base ho0)) (Kd.R_base ho1)) (fun _ h_ => h_.1))
                   replace HO_20 := Aside0.mk (Kd.R_mono (Kd.R_told (Kd.R_told (Kd.R_old (by (with_reducible repeat (first | apply Kd.R_alloc | apply Kd.R_drewN | apply Kd.R_drew)); exact (anyR HO_20.out)) hb) (Kd.R_base ho0)) (Kd.R_base ho1)) (fun _ h_ => h_.1))
                   replace BK559 := Aside0.mk (blk_below (g := gb559) (o := .cells #[.bool t562, .bool a3, .int .i64 t564, .slice Ao17 t565.length co17] 24 (0, 0)) (by (with_reducible repeat (first | refine blk_drewN ?_ _ | refine blk_drew ?_ | refine blk_alloc ?_ _)); exact BK559.out) hb)
                   replace HR611 := Aside0.mk (Kd.C_below (by repeat (first | (with_reducible exact HR611.out) | (with_reducible refine Kd.C_alloc ?_ _) | (with_reducible refine Kd.C_drewN ?_ _) | (with_reducible refine Kd.C_drew ?_) | exact HR611.out)) hb)
                   replace HR615 := Aside0.mk (Kd.C_below (by repeat (first | (with_reducible exact HR615.out) | (with_reducible refine Kd.C_alloc ?_ _) | (with_reducible refine Kd.C_drewN ?_ _) | (with_reducible refine Kd.C_drew ?_) | exact HR615.out)) hb)
                   replace HB := Aside0.mk (below_step (by repeat (first | (with_reducible first | exact HB.out | apply below_alloc | apply pw_below_drewN | apply below_drew1 | refine below_set ?_ GE559.out) | exact HB.out)) hb)
                   (try clear hb)
                   (try clear hb2)
                   (try clear hk)
                   (try clear hi)
                   (try clear ho0)
                   (try clear ho1)
                   refine hK.out _ _ ⟨(blk_cell BK559.out 0).trans rfl, (blk_cell BK559.out 1).trans rfl, (blk_cell BK559.out 2).trans rfl, (blk_cell BK559.out 3).trans rfl⟩ (fun hHeld => ?_)
                   clear hK K
                   refine norm_ (a' := ?_) ?_ ?_
                   rotate_left; (show Act.put _ (some 130) _ = _; simp only [Act.put, List.setIfInBounds_toArray, List.set_cons_zero, List.set_cons_succ, i64_w, i32_w]; rfl)
                   refine ahead_ [(14, 116), (15, 131), (16, 132), (17, 133), (18, 134), (19, 135), (20, 26), (21, 27), (22, 28), (23, 29), (24, 30)] ?_
                   iterate 11 (refine pA_ (v := ?_) (a' := ?_) rfl rfl HT_.out (by kernel_rfl) (fun _ _ _ h => h) (Or.inl ⟨by rfl, ?_⟩) ?_ ?_; rotate_left; (intro w'; go_simp; with_reducible rfl); rotate_left; (simp only [Act.put, List.setIfInBounds_toArray, List.set_cons_zero, List.set_cons_succ, i64_w, i32_w]; rfl))
                   refine aheadE_ (mk 25 33554431) (by kernel_rfl) ?_
                   refine done_ (done_of HT_.out (by kernel_rfl)) ?_
                   try go_wp2
                   replace HO_10 := Aside0.mk (Kd.R_drew (anyR HO_10.out))
                   replace HO_11 := Aside0.mk (Kd.R_drew (anyR HO_11.out))
                   replace HO_15 := Aside0.mk (Kd.R_drew (anyR HO_15.out))
                   replace HO_20 := Aside0.mk (Kd.R_drew (anyR HO_20.out))
                   replace HO_560003 := Aside0.mk (Kd.S_drew HO_560003.out)
                   replace HO618 := Aside0.mk (Kd.R_drew (anyR HO618.out))
                   replace HO621 := Aside0.mk (Kd.R_drew (anyR HO621.out))
                   replace BK559 := Aside0.mk (blk_drew BK559.out)
                   replace HR611 := Aside0.mk (Kd.C_drew HR611.out)
                   replace HR615 := Aside0.mk (Kd.C_drew HR615.out)
                   replace HB := Aside0.mk (below_drew1 HB.out)
                   refine start_ (n := 21) (S := fun w' => True) (ds := []) (mk 21 0) (by kernel_rfl) rfl rfl trivial (fun hHeld => ?_); refine with_tabW haberdashlaw19_LevyOnce.tab22 haberdashlaw19_LevyOnce.bits22 (fun HT_ HW_ => ?_)
                   generalize w112.drew = w113 at HO_10 HO_11 HO_15 HO_20 HO_560003 HO618 HO621 BK559 HR611 HR615 HB hHeld ⊢
                   refine ahead_ [(0, 136), (1, 137), (2, 138)] ?_
                   iterate 3 (refine pA_ (v := ?_) (a' := ?_) rfl rfl HT_.out (by kernel_rfl) (fun _ _ _ h => h) (Or.inl ⟨by rfl, ?_⟩) ?_ ?_; rotate_left; (intro w'; go_simp; with_reducible rfl); rotate_left; (simp only [Act.put, List.setIfInBounds_toArray, List.set_cons_zero, List.set_cons_succ, i64_w, i32_w]; rfl))
                   refine aheadE_ (mk 21 7) (by kernel_rfl) ?_
                   refine ahead_ [(3, 139), (4, 140), (5, 141)] ?_
                   iterate 3 (refine pA_ (v := undef) (a' := ?_) rfl rfl HT_.out (by kernel_rfl) (fun _ _ _ h => h) (Or.inr ⟨by rfl, rfl⟩) ?_ ?_; rotate_left; (simp only [Act.put, List.setIfInBounds_toArray, List.set_cons_zero, List.set_cons_succ, i64_w, i32_w]; rfl))
                   refine aheadE_ (mk 21 63) (by kernel_rfl) ?_
                   refine ahead_ [(6, 142), (7, 143)] ?_
                   iterate 2 (refine pA_ (v := ?_) (a' := ?_) rfl rfl HT_.out (by kernel_rfl) (fun _ _ _ h => h) (Or.inl ⟨by rfl, ?_⟩) ?_ ?_; rotate_left; (intro w'; go_simp; with_reducible rfl); rotate_left; (simp only [Act.put, List.setIfInBounds_toArray, List.set_cons_zero, List.set_cons_succ, i64_w, i32_w]; rfl))
                   refine aheadE_ (mk 21 255) (by kernel_rfl) ?_
                   refine ahead_ [(8, 144), (9, 145), (10, 146), (11, 147), (12, 148), (13, 149), (14, 150), (15, 151), (16, 152), (17, 153), (18, 154), (19, 155)] ?_
                   iterate 12 (refine pA_ (v := undef) (a' := ?_) rfl rfl HT_.out (by kernel_rfl) (fun _ _ _ h => h) (Or.inr ⟨by rfl, rfl⟩) ?_ ?_; rotate_left; (simp only [Act.put, List.setIfInBounds_toArray, List.set_cons_zero, List.set_cons_succ, i64_w, i32_w]; rfl))
                   refine aheadE_ (mk 21 1048575) (by kernel_rfl) ?_
                   refine pure_ (i := 20) (N := some 156) (v := ?_) (a' := ?_) (mk 21 2097151) rfl rfl (any_of HT_.out (by kernel_rfl)) (fun _ _ _ h => h) (Or.inl ⟨by rfl, ?_⟩) ?_ ?_
                   rotate_left; (intro w'; go_simp; with_reducible rfl)
                   rotate_left; (simp only [Act.put, List.setIfInBounds_toArray, List.set_cons_zero, List.set_cons_succ, i64_w, i32_w]; rfl)
                   refine done_ (done_of HT_.out (by kernel_rfl)) ?_
                   try go_wp2
                   go_ret
                   exact ⟨by first | rfl | (simp [errW_none, errW_some] <;> rfl) | (simp [*, errW_none, errW_some] <;> rfl), by repeat (first | (with_reducible first | exact HB.out | apply below_alloc | apply pw_below_drewN | apply below_drew1 | refine below_set ?_ GE559.out) | exact HB.out)⟩
                 ·
                  rw [if_neg c68] at H
                  exact absurd H (by simp)
                ·
                 rw [if_neg c65] at H
                 exact absurd H (by simp)
               ·
                rw [if_neg c64] at H
                exact absurd H (by simp)
              ·
               rw [if_neg c63] at H
               exact absurd H (by simp)
             ·
              rw [if_neg c61] at H
              have c61b0 : decide (x25_3 < (t569.length : Int)) = false := decide_eq_false c61
              clear c61
              by_cases c114 : a3 = true
              ·
               subst c114
               have H1 : (if 0 < (t599.length : Int) then (some (x24_3 == (rd t599 0))) else (none)) = some r := by rw [if_pos rfl] at H; exact H
               clear H
               have H := H1
               clear H1
               by_cases c115 : 0 < (t599.length : Int)
               ·
                rw [if_pos c115] at H
                have c115b0 : decide (0 < (t599.length : Int)) = true := decide_eq_true c115
                have c115b1 : decide (0 < t599.length) = true := decide_eq_true (by omega)
                clear c115
                obtain rfl := Option.some.inj H
                obtain ⟨Ao116, co116, eo116⟩ := Kd.R_slice HO_20.out
                subst eo116
                have p606 : 0 ≤ (0 : Int) := (by omega)
                have q606 : 0 < (t599.length : Int) := of_decide_eq_true (by first | (with_reducible assumption) | assumption)
                obtain ⟨ad606, e606, hx606_0⟩ := Kd.at_int (Kd.R_reads' (anyR HO_20.out)).2.2 0 p606 q606
                cases e606
                have qi606 : (0 < t599.length) = True := eq_true (by omega)
                (try rw [show ((0 : Int)).toNat = 0 from rfl] at hx606_0)
                (try rw [Addr.add_zero'] at hx606_0)
                replace p606 := eq_true p606
                replace q606 := eq_true q606
                go_wp2
                go_ret
                exact ⟨by first | rfl | (simp [errW_none, errW_some] <;> rfl) | (simp [*, errW_none, errW_some] <;> rfl), by repeat (first | (with_reducible first | exact HB.out | apply below_alloc | apply pw_below_drewN | apply below_drew1 | refine below_set ?_ GE559.out) | exact HB.out)⟩
               ·
                rw [if_neg c115] at H
                exact absurd H (by simp)
              ·
               replace c114 := Bool.eq_false_iff.mpr c114
               subst c114
               have H1 : (some true) = some r := by rw [if_neg (show ¬ (false = true) by decide)] at H; exact H
               clear H
               have H := H1
               clear H1
               obtain rfl := Option.some.inj H
               go_wp2
               go_ret
               exact ⟨by first | rfl | (simp [errW_none, errW_some] <;> rfl) | (simp [*, errW_none, errW_some] <;> rfl), by repeat (first | (with_reducible first | exact HB.out | apply below_alloc | apply pw_below_drewN | apply below_drew1 | refine below_set ?_ GE559.out) | exact HB.out)⟩
    ·
     rw [if_neg c10] at H
     exact absurd H (by simp)
   ·
    rw [if_neg c9] at H
    exact absurd H (by simp)
  ·
   replace c6 := Bool.eq_false_iff.mpr c6
   subst c6
   have H1 : ((haberdashlaw19_awake.f k).bind fun t561 => (some t561)) = some r := by rw [if_neg (show ¬ (false = true) by decide)] at H; exact H
   clear H
   have H := H1
   clear H1
   replace H := Option.bind_eq_some_iff.mp H
   obtain ⟨t561, A1170, H⟩ := H
   replace H : (some t561) = some r := H
   have A117 := Aside0.mk A1170
   clear A1170
   obtain rfl := Option.some.inj H
   go_enter Try.func6, Try.ntmps6
   go_wp2_with (first | ((with_reducible refine gate_dst (N := 4) rfl ?_); (try (refine gate_guard (by rfl) ?_; dsimp only)); refine box_event ?hg (N := 4) ?hd (cs := #[.bool a0_0, .bool a0_1, .int .i64 a0_2, .slice A0_3 l0_3.length c0_3]) (t := 24) ?hr ?_; (case hd => rfl); (case hg => rfl); (case hr => first | (go_simp; done) | (go_simp; rfl)); intro gb559 hg w118 hbox hb; have BK559 := Aside0.mk (hbox); have GW559 := Aside0.mk ((by rw [hg]; exact (below_size (by repeat (first | (with_reducible first | exact HB.out | apply below_alloc | apply pw_below_drewN | apply below_drew1) | exact HB.out))) : w.heap.size ≤ gb559)); have GE559 := Aside0.mk ((by rw [hg]; exact (below_size (by repeat (first | (with_reducible first | exact HB.out | apply below_alloc | apply pw_below_drewN | apply below_drew1) | exact HB.out))) : w.heap.size ≤ gb559)); replace HB := Aside0.mk (below_step (by repeat (first | (with_reducible first | exact HB.out | apply below_alloc | apply pw_below_drewN | apply below_drew1) | exact HB.out)) hb); clear hb hbox hg; have hcz119_0 : w118.cell? ⟨gb559, 0, none⟩ = some (.bool a0_0) := (blk_cell BK559.out 0).trans rfl; have hcz119_1 : w118.cell? ⟨gb559, 1, none⟩ = some (.bool a0_1) := (blk_cell BK559.out 1).trans rfl; have hcz119_2 : w118.cell? ⟨gb559, 2, none⟩ = some (.int .i64 a0_2) := (blk_cell BK559.out 2).trans rfl; have hcz119_3 : w118.cell? ⟨gb559, 3, none⟩ = some (.slice A0_3 l0_3.length c0_3) := (blk_cell BK559.out 3).trans rfl; have hfz119_0 := blk_frozen BK559.out 0; have hfz119_1 := blk_frozen BK559.out 1; have hfz119_2 := blk_frozen BK559.out 2; have hfz119_3 := blk_frozen BK559.out 3) | ((with_reducible refine gate_callee (f := 13) rfl ?_); refine goesL_ (some 33) rfl rfl Try.func13 (by kernel_rfl) rfl #[.agg #[.bool a0_0, .bool a0_1, .int .i64 a0_2, .slice A0_3 l0_3.length c0_3], .slice none 0 0, .slice A2 l2.length c2] rfl (by (try simp only [List.map_toArray, List.map_cons, List.map_nil]); first | done | rfl | (simp only [List.length_drop, List.length_take]; rfl)) ?_; (refine (haberdashlaw19_few.calls k a0_0 a0_1 a0_2 _ _ l0_3 _ _ ([] : List ByteArray) _ _ l2 false _ ?side1 ?side2 ?side3 ?side4 ?side5 ?side6 A5.out).mono ?_); (case side1 => repeat (first | exact (Kd.C_below HR0_3.out HB.out) | (with_reducible refine Kd.C_alloc ?_ _) | (with_reducible refine Kd.C_drewN ?_ _) | (with_reducible refine Kd.C_drew ?_))); (case side2 => exact HC0_3.out); (case side3 => exact Kd.C_nil _ _); (case side4 => exact Nat.le_refl _); (case side5 => repeat (first | exact (Kd.C_below HR2.out HB.out) | (with_reducible refine Kd.C_alloc ?_ _) | (with_reducible refine Kd.C_drewN ?_ _) | (with_reducible refine Kd.C_drew ?_))); (case side6 => exact HC2.out); rintro e w120 ⟨rfl, hb⟩; refine ⟨_, rfl, ?_⟩; replace BK559 := Aside0.mk (blk_below (g := gb559) (o := .cells #[.bool a0_0, .bool a0_1, .int .i64 a0_2, .slice A0_3 l0_3.length c0_3] 24 (0, 0)) (by (with_reducible repeat (first | refine blk_drewN ?_ _ | refine blk_drew ?_ | refine blk_alloc ?_ _)); exact BK559.out) hb); replace HB := Aside0.mk (below_step (by repeat (first | (with_reducible first | exact HB.out | apply below_alloc | apply pw_below_drewN | apply below_drew1 | refine below_set ?_ GE559.out) | exact HB.out)) hb); (try clear hb); (try clear hb2); (try clear hk); (try clear hi)) | ((with_reducible refine gate_callee (f := 14) rfl ?_); refine goesL_ (some 35) rfl rfl Try.func14 (by kernel_rfl) rfl #[] rfl (by (try simp only [List.map_toArray, List.map_cons, List.map_nil]); first | done | rfl | (simp only [List.length_drop, List.length_take]; rfl)) ?_; (with_reducible refine (haberdashlaw19_awake.calls k  t561 _ A117.out).mono ?_); rintro e w121 ⟨rfl, hb⟩; refine ⟨_, rfl, ?_⟩; replace BK559 := Aside0.mk (blk_below (g := gb559) (o := .cells #[.bool a0_0, .bool a0_1, .int .i64 a0_2, .slice A0_3 l0_3.length c0_3] 24 (0, 0)) (by (with_reducible repeat (first | refine blk_drewN ?_ _ | refine blk_drew ?_ | refine blk_alloc ?_ _)); exact BK559.out) hb); replace HB := Aside0.mk (below_step (by repeat (first | (with_reducible first | exact HB.out | apply below_alloc | apply pw_below_drewN | apply below_drew1 | refine below_set ?_ GE559.out) | exact HB.out)) hb); (try clear hb); (try clear hb2); (try clear hk); (try clear hi)))
   go_ret
   exact ⟨by first | rfl | (simp [errW_none, errW_some] <;> rfl) | (simp [*, errW_none, errW_some] <;> rfl), by repeat (first | (with_reducible first | exact HB.out | apply below_alloc | apply pw_below_drewN | apply below_drew1 | refine below_set ?_ GE559.out) | exact HB.out)⟩

end Go.Proofs.Ytndecmbcekdafaa.Rw
