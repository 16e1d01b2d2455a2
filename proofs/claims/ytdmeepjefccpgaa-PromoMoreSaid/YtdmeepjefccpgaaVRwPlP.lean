/- A contract of the program: out of what the kit's printer wrote for this seat. -/
import Derived.Test.YtdmeepjefccpgaaVRwPlS
import Derived.Test.YtdmeepjefccpgaaVRwA
namespace Go.Proofs.Ytdmeepjefccpgaa.Rw
open Go.RowKit Go.Proofs.YtdmeepjefccpgaaW.PrintWords Go.Proofs.YtdmeepjefccpgaaW.PrintLast Go.Proofs.YtdmeepjefccpgaaW.PrintMore
attribute [local go_sem] max2_int min2_int max_two min_two max_three min_three max_four min_four   -- for this text's walks alone
set_option linter.unusedVariables false
set_option linter.unusedSimpArgs false
attribute [local go_sem high] leqS gtrS
theorem haberdashplay_Promo.bits21 : waitsOk haberdashplay_Promo.T21.2 haberdashplay_Promo.B21 = true := by kernel_rfl
theorem nameP_ {K : Go.Act → Go.World → Prop} {Q : Go.Exit → Go.Act → Go.World → Prop} {e : Go.Exit} {a : Go.Act} {w : Go.World} (h : ∀ wA, wA = w → Go.Exit.then K Q e a wA) : Go.Exit.then K Q e a w := h w rfl
theorem krow_ (w : Go.World) (g : Nat) (cs : Array Go.Value) : Kept w (w.setRow g cs) (fun k => k = g) := ⟨by rw [Go.size_setRow]; exact Nat.le_refl _, fun i _ h => Go.setRow_other w g i cs h⟩
theorem brow_ {w W : Go.World} {g : Nat} {cs : Array Go.Value} (h : Below w.heap.size w W) (hg : w.heap.size ≤ g) : Below w.heap.size w (W.setRow g cs) := ⟨h.os, h.tape, h.output, by rw [Go.size_setRow]; exact h.size, fun i hi => (Go.setRow_other _ _ _ _ (by omega)).trans (h.block i hi)⟩
theorem nameL_ {P : Go.Program} {ops : Array Go.Oper} {rest : List Go.Oper} {a : Go.Act} {Q : Go.Exit → Go.Act → Go.World → Prop} {w : Go.World} (h : ∀ wA, wA = w → Go.wpList P ops Q rest a wA) : Go.wpList P ops Q rest a w := h w rfl
set_option maxHeartbeats 40000000 in
set_option maxRecDepth 100000 in
theorem haberdashplay_Promo.calls (k : Nat) (a0_0 : ByteArray) (a0_1 : Int) (a0_2 : Int) (a0_3 : ByteArray) (a0_4 : ByteArray) (a0_5 : Bool) (A0_6 : Option Addr) (c0_6 : Nat) (l0_6 : List ByteArray) (A0_7 : Option Addr) (c0_7 : Nat) (l0_7 : List ByteArray) (a0_8 : Int) (a0_9 : Int) (a0_10 : Int) (a0_11 : Int) (a0_12 : Int) (A0_13 : Option Addr) (c0_13 : Nat) (l0_13 : List (S65)) (A0_14 : Option Addr) (c0_14 : Nat) (l0_14 : List (S67)) (a1 : Int) (r1 : ByteArray) (r2 : Int) (r3 : Int) (r4 : ByteArray) (r5 : ByteArray) (r6 : Bool) (r7 : List ByteArray) (r8 : List ByteArray) (r9 : Int) (r10 : Int) (r11 : Int) (r12 : Int) (r13 : Int) (r14 : List (S65)) (r15 : List (S67)) (w : World) (hr0_6 : Kd.C Kd.string w A0_6 l0_6.length l0_6) (hc0_6 : l0_6.length ≤ c0_6) (hr0_7 : Kd.C Kd.string w A0_7 l0_7.length l0_7) (hc0_7 : l0_7.length ≤ c0_7) (hr0_13 : Kd.C k65 w A0_13 l0_13.length l0_13) (hc0_13 : l0_13.length ≤ c0_13) (hr0_14 : Kd.C k67 w A0_14 l0_14.length l0_14) (hc0_14 : l0_14.length ≤ c0_14) (h : haberdashplay_Promo.f k a0_0 a0_1 a0_2 a0_3 a0_4 a0_5 l0_6 l0_7 a0_8 a0_9 a0_10 a0_11 a0_12 l0_13 l0_14 a1 = some (r1, r2, r3, r4, r5, r6, r7, r8, r9, r10, r11, r12, r13, r14, r15)) :
 Calls Try.prog 29 #[.agg #[.string a0_0, .int .i64 a0_1, .int .i64 a0_2, .string a0_3, .string a0_4, .bool a0_5, .slice A0_6 l0_6.length c0_6, .slice A0_7 l0_7.length c0_7, .int .i64 a0_8, .int .i64 a0_9, .int .i64 a0_10, .int .i64 a0_11, .int .i64 a0_12, .slice A0_13 l0_13.length c0_13, .slice A0_14 l0_14.length c0_14], .int .i64 a1] w fun e w' => ∃ v6_ v7_ v13_ v14_ : Value, e = .returned (.agg #[.string r1, .int .i64 r2, .int .i64 r3, .string r4, .string r5, .bool r6, v6_, v7_, .int .i64 r9, .int .i64 r10, .int .i64 r11, .int .i64 r12, .int .i64 r13, v13_, v14_]) ∧ Kd.R Kd.string 9 w' w.heap.size (fun k_ => some k_ ≠ (v7_ : Value).ownBlock) v6_ r7 ∧ Kd.R Kd.string 9 w' w.heap.size (fun k_ => some k_ ≠ (v6_ : Value).ownBlock) v7_ r8 ∧ Kd.S k65 65 w' w.heap.size (fun k_ => some k_ ≠ (v6_ : Value).ownBlock ∧ some k_ ≠ (v7_ : Value).ownBlock) v13_ r14 ∧ Kd.R k67 67 w' w.heap.size (fun _ => True) v14_ r15 ∧ Below w.heap.size w w' := by
 have hu60 := Try.underlying60
 have hu56 := Try.underlying56
 have hu65 := Try.underlying65
 have HR0_6 := Aside0.mk hr0_6
 have HC0_6 := Aside0.mk hc0_6
 clear hr0_6 hc0_6
 have HR0_7 := Aside0.mk hr0_7
 have HC0_7 := Aside0.mk hc0_7
 clear hr0_7 hc0_7
 have HR0_13 := Aside0.mk hr0_13
 have HC0_13 := Aside0.mk hc0_13
 clear hr0_13 hc0_13
 have HR0_14 := Aside0.mk hr0_14
 have HC0_14 := Aside0.mk hc0_14
 clear hr0_14 hc0_14
 have HB := Aside0.mk (Below.refl w.heap.size w)
 have H : ((haberdashplay_Id.f a1).bind fun t355 => ((haberdashplay_Mod.f (wrap64 (a0_1 - 1)) 7).bind fun t356 => ((haberdashplay_Mod.f a0_2 5).bind fun t357 => ((haberdashplay_Scope.f k l0_6 l0_7).bind fun bt358 => ((haberdashplay_pick.f k a0_3).bind fun t365 => ((haberdashplay_Mod.f t365 3).bind fun t366 => (if t366 = 1 then ((haberdashplay_Mod.f (a0_3.size : Int) 2).bind fun t367 => ((some (([(48 + ((t367) % 256)) % 256] : List Int) : List Int)).bind fun y368 => (if 1 + (strOfNums y368).size ≤ 9223372036854775807 then (haberdashplay_Promo.j0 k a0_0 a0_1 a0_2 a0_3 a0_4 a0_5 l0_6 l0_7 a0_8 a0_9 a0_10 a0_11 a0_12 l0_13 l0_14 t355 (wrap64 (1 + t356)) t357 ((⟨#[103]⟩ : ByteArray) ++ (strOfNums y368)) (⟨#[]⟩ : ByteArray) a0_5 bt358.1 bt358.2 0 0 0 0 0) else (none)))) else (haberdashplay_Promo.j0 k a0_0 a0_1 a0_2 a0_3 a0_4 a0_5 l0_6 l0_7 a0_8 a0_9 a0_10 a0_11 a0_12 l0_13 l0_14 t355 (wrap64 (1 + t356)) t357 (⟨#[]⟩ : ByteArray) (⟨#[]⟩ : ByteArray) a0_5 bt358.1 bt358.2 0 0 0 0 0)))))))) = some (r1, r2, r3, r4, r5, r6, r7, r8, r9, r10, r11, r12, r13, r14, r15) := h
 clear h
 replace H := Option.bind_eq_some_iff.mp H
 obtain ⟨t355, A30, H⟩ := H
 replace H : ((haberdashplay_Mod.f (wrap64 (a0_1 - 1)) 7).bind fun t356 => ((haberdashplay_Mod.f a0_2 5).bind fun t357 => ((haberdashplay_Scope.f k l0_6 l0_7).bind fun bt358 => ((haberdashplay_pick.f k a0_3).bind fun t365 => ((haberdashplay_Mod.f t365 3).bind fun t366 => (if t366 = 1 then ((haberdashplay_Mod.f (a0_3.size : Int) 2).bind fun t367 => ((some (([(48 + ((t367) % 256)) % 256] : List Int) : List Int)).bind fun y368 => (if 1 + (strOfNums y368).size ≤ 9223372036854775807 then (haberdashplay_Promo.j0 k a0_0 a0_1 a0_2 a0_3 a0_4 a0_5 l0_6 l0_7 a0_8 a0_9 a0_10 a0_11 a0_12 l0_13 l0_14 t355 (wrap64 (1 + t356)) t357 ((⟨#[103]⟩ : ByteArray) ++ (strOfNums y368)) (⟨#[]⟩ : ByteArray) a0_5 bt358.1 bt358.2 0 0 0 0 0) else (none)))) else (haberdashplay_Promo.j0 k a0_0 a0_1 a0_2 a0_3 a0_4 a0_5 l0_6 l0_7 a0_8 a0_9 a0_10 a0_11 a0_12 l0_13 l0_14 t355 (wrap64 (1 + t356)) t357 (⟨#[]⟩ : ByteArray) (⟨#[]⟩ : ByteArray) a0_5 bt358.1 bt358.2 0 0 0 0 0))))))) = some (r1, r2, r3, r4, r5, r6, r7, r8, r9, r10, r11, r12, r13, r14, r15) := H
 have A3 := Aside0.mk A30
 clear A30
 replace H := Option.bind_eq_some_iff.mp H
 obtain ⟨t356, A40, H⟩ := H
 replace H : ((haberdashplay_Mod.f a0_2 5).bind fun t357 => ((haberdashplay_Scope.f k l0_6 l0_7).bind fun bt358 => ((haberdashplay_pick.f k a0_3).bind fun t365 => ((haberdashplay_Mod.f t365 3).bind fun t366 => (if t366 = 1 then ((haberdashplay_Mod.f (a0_3.size : Int) 2).bind fun t367 => ((some (([(48 + ((t367) % 256)) % 256] : List Int) : List Int)).bind fun y368 => (if 1 + (strOfNums y368).size ≤ 9223372036854775807 then (haberdashplay_Promo.j0 k a0_0 a0_1 a0_2 a0_3 a0_4 a0_5 l0_6 l0_7 a0_8 a0_9 a0_10 a0_11 a0_12 l0_13 l0_14 t355 (wrap64 (1 + t356)) t357 ((⟨#[103]⟩ : ByteArray) ++ (strOfNums y368)) (⟨#[]⟩ : ByteArray) a0_5 bt358.1 bt358.2 0 0 0 0 0) else (none)))) else (haberdashplay_Promo.j0 k a0_0 a0_1 a0_2 a0_3 a0_4 a0_5 l0_6 l0_7 a0_8 a0_9 a0_10 a0_11 a0_12 l0_13 l0_14 t355 (wrap64 (1 + t356)) t357 (⟨#[]⟩ : ByteArray) (⟨#[]⟩ : ByteArray) a0_5 bt358.1 bt358.2 0 0 0 0 0)))))) = some (r1, r2, r3, r4, r5, r6, r7, r8, r9, r10, r11, r12, r13, r14, r15) := H
 have A4 := Aside0.mk A40
 clear A40
 replace H := Option.bind_eq_some_iff.mp H
 obtain ⟨t357, A50, H⟩ := H
 replace H : ((haberdashplay_Scope.f k l0_6 l0_7).bind fun bt358 => ((haberdashplay_pick.f k a0_3).bind fun t365 => ((haberdashplay_Mod.f t365 3).bind fun t366 => (if t366 = 1 then ((haberdashplay_Mod.f (a0_3.size : Int) 2).bind fun t367 => ((some (([(48 + ((t367) % 256)) % 256] : List Int) : List Int)).bind fun y368 => (if 1 + (strOfNums y368).size ≤ 9223372036854775807 then (haberdashplay_Promo.j0 k a0_0 a0_1 a0_2 a0_3 a0_4 a0_5 l0_6 l0_7 a0_8 a0_9 a0_10 a0_11 a0_12 l0_13 l0_14 t355 (wrap64 (1 + t356)) t357 ((⟨#[103]⟩ : ByteArray) ++ (strOfNums y368)) (⟨#[]⟩ : ByteArray) a0_5 bt358.1 bt358.2 0 0 0 0 0) else (none)))) else (haberdashplay_Promo.j0 k a0_0 a0_1 a0_2 a0_3 a0_4 a0_5 l0_6 l0_7 a0_8 a0_9 a0_10 a0_11 a0_12 l0_13 l0_14 t355 (wrap64 (1 + t356)) t357 (⟨#[]⟩ : ByteArray) (⟨#[]⟩ : ByteArray) a0_5 bt358.1 bt358.2 0 0 0 0 0))))) = some (r1, r2, r3, r4, r5, r6, r7, r8, r9, r10, r11, r12, r13, r14, r15) := H
 have A5 := Aside0.mk A50
 clear A50
 replace H := Option.bind_eq_some_iff.mp H
 obtain ⟨⟨t358, t361⟩, A60, H⟩ := H
 replace H : ((haberdashplay_pick.f k a0_3).bind fun t365 => ((haberdashplay_Mod.f t365 3).bind fun t366 => (if t366 = 1 then ((haberdashplay_Mod.f (a0_3.size : Int) 2).bind fun t367 => ((some (([(48 + ((t367) % 256)) % 256] : List Int) : List Int)).bind fun y368 => (if 1 + (strOfNums y368).size ≤ 9223372036854775807 then (haberdashplay_Promo.j0 k a0_0 a0_1 a0_2 a0_3 a0_4 a0_5 l0_6 l0_7 a0_8 a0_9 a0_10 a0_11 a0_12 l0_13 l0_14 t355 (wrap64 (1 + t356)) t357 ((⟨#[103]⟩ : ByteArray) ++ (strOfNums y368)) (⟨#[]⟩ : ByteArray) a0_5 t358 t361 0 0 0 0 0) else (none)))) else (haberdashplay_Promo.j0 k a0_0 a0_1 a0_2 a0_3 a0_4 a0_5 l0_6 l0_7 a0_8 a0_9 a0_10 a0_11 a0_12 l0_13 l0_14 t355 (wrap64 (1 + t356)) t357 (⟨#[]⟩ : ByteArray) (⟨#[]⟩ : ByteArray) a0_5 t358 t361 0 0 0 0 0)))) = some (r1, r2, r3, r4, r5, r6, r7, r8, r9, r10, r11, r12, r13, r14, r15) := H
 have A6 := Aside0.mk A60
 clear A60
 replace H := Option.bind_eq_some_iff.mp H
 obtain ⟨t365, A70, H⟩ := H
 replace H : ((haberdashplay_Mod.f t365 3).bind fun t366 => (if t366 = 1 then ((haberdashplay_Mod.f (a0_3.size : Int) 2).bind fun t367 => ((some (([(48 + ((t367) % 256)) % 256] : List Int) : List Int)).bind fun y368 => (if 1 + (strOfNums y368).size ≤ 9223372036854775807 then (haberdashplay_Promo.j0 k a0_0 a0_1 a0_2 a0_3 a0_4 a0_5 l0_6 l0_7 a0_8 a0_9 a0_10 a0_11 a0_12 l0_13 l0_14 t355 (wrap64 (1 + t356)) t357 ((⟨#[103]⟩ : ByteArray) ++ (strOfNums y368)) (⟨#[]⟩ : ByteArray) a0_5 t358 t361 0 0 0 0 0) else (none)))) else (haberdashplay_Promo.j0 k a0_0 a0_1 a0_2 a0_3 a0_4 a0_5 l0_6 l0_7 a0_8 a0_9 a0_10 a0_11 a0_12 l0_13 l0_14 t355 (wrap64 (1 + t356)) t357 (⟨#[]⟩ : ByteArray) (⟨#[]⟩ : ByteArray) a0_5 t358 t361 0 0 0 0 0))) = some (r1, r2, r3, r4, r5, r6, r7, r8, r9, r10, r11, r12, r13, r14, r15) := H
 have A7 := Aside0.mk A70
 clear A70
 replace H := Option.bind_eq_some_iff.mp H
 obtain ⟨t366, A80, H⟩ := H
 replace H : (if t366 = 1 then ((haberdashplay_Mod.f (a0_3.size : Int) 2).bind fun t367 => ((some (([(48 + ((t367) % 256)) % 256] : List Int) : List Int)).bind fun y368 => (if 1 + (strOfNums y368).size ≤ 9223372036854775807 then (haberdashplay_Promo.j0 k a0_0 a0_1 a0_2 a0_3 a0_4 a0_5 l0_6 l0_7 a0_8 a0_9 a0_10 a0_11 a0_12 l0_13 l0_14 t355 (wrap64 (1 + t356)) t357 ((⟨#[103]⟩ : ByteArray) ++ (strOfNums y368)) (⟨#[]⟩ : ByteArray) a0_5 t358 t361 0 0 0 0 0) else (none)))) else (haberdashplay_Promo.j0 k a0_0 a0_1 a0_2 a0_3 a0_4 a0_5 l0_6 l0_7 a0_8 a0_9 a0_10 a0_11 a0_12 l0_13 l0_14 t355 (wrap64 (1 + t356)) t357 (⟨#[]⟩ : ByteArray) (⟨#[]⟩ : ByteArray) a0_5 t358 t361 0 0 0 0 0)) = some (r1, r2, r3, r4, r5, r6, r7, r8, r9, r10, r11, r12, r13, r14, r15) := H
 have A8 := Aside0.mk A80
 clear A80
 have HC9 := Aside0.mk H
 clear H
 go_enter Try.func29, Try.ntmps29
 try go_wp2_with (first | ((with_reducible refine gate_dst (N := 2) rfl ?_); refine box_event rf_ (N := 2) rf_ (cs := #[.string a0_0, .int .i64 a0_1, .int .i64 a0_2, .string a0_3, .string a0_4, .bool a0_5, .slice A0_6 l0_6.length c0_6, .slice A0_7 l0_7.length c0_7, .int .i64 a0_8, .int .i64 a0_9, .int .i64 a0_10, .int .i64 a0_11, .int .i64 a0_12, .slice A0_13 l0_13.length c0_13, .slice A0_14 l0_14.length c0_14]) (t := 60) lr_ ?_; intro gb353 hg w10 hbox hb; have BK353 := Aside0.mk hbox; have GE353 := Aside0.mk (ge_ HB hg (hb0_ HB)); replace HB := Aside0.mk (below_step (hb0_ HB) hb); clear hb hbox hg) | ((with_reducible refine gate_dst (N := 4) rfl ?_); refine box_event rf_ (N := 4) rf_ (cs := #[.string (⟨#[]⟩ : ByteArray), .int .i64 0, .int .i64 0, .string (⟨#[]⟩ : ByteArray), .string (⟨#[]⟩ : ByteArray), .bool false, .slice none 0 0, .slice none 0 0, .int .i64 0, .int .i64 0, .int .i64 0, .int .i64 0, .int .i64 0, .slice none 0 0, .slice none 0 0]) (t := 60) lr_ ?_; intro gb354 hg w11 hbox hb; have BK354 := Aside0.mk hbox; have GE354 := Aside0.mk (ge_ HB hg (hb1_ HB GE353)); replace HB := Aside0.mk (below_step (hb1_ HB GE353) hb); have NB353_354 := Aside0.mk (nl_ BK353 hg); have NB354_353 := Aside0.mk (ng_ BK353 hg); replace BK353 := Aside0.mk (bb_ BK353 hb); clear hb hbox hg))
 replace BK353 := Aside0.mk (blk_drew BK353.out)
 replace BK354 := Aside0.mk (blk_drew BK354.out)
 replace HB := Aside0.mk (below_drew1 HB.out)
 refine start_ (n := 18) (S := fun w' => w'.cell? ⟨gb353, 0, none⟩ = some (.string a0_0) ∧ w'.cell? ⟨gb353, 1, none⟩ = some (.int .i64 a0_1) ∧ w'.cell? ⟨gb353, 2, none⟩ = some (.int .i64 a0_2) ∧ w'.cell? ⟨gb353, 3, none⟩ = some (.string a0_3) ∧ w'.cell? ⟨gb353, 4, none⟩ = some (.string a0_4) ∧ w'.cell? ⟨gb353, 5, none⟩ = some (.bool a0_5) ∧ w'.cell? ⟨gb353, 6, none⟩ = some (.slice A0_6 l0_6.length c0_6) ∧ w'.cell? ⟨gb353, 7, none⟩ = some (.slice A0_7 l0_7.length c0_7) ∧ w'.cell? ⟨gb353, 8, none⟩ = some (.int .i64 a0_8) ∧ w'.cell? ⟨gb353, 9, none⟩ = some (.int .i64 a0_9) ∧ w'.cell? ⟨gb353, 10, none⟩ = some (.int .i64 a0_10) ∧ w'.cell? ⟨gb353, 11, none⟩ = some (.int .i64 a0_11) ∧ w'.cell? ⟨gb353, 12, none⟩ = some (.int .i64 a0_12) ∧ w'.cell? ⟨gb353, 13, none⟩ = some (.slice A0_13 l0_13.length c0_13) ∧ w'.cell? ⟨gb353, 14, none⟩ = some (.slice A0_14 l0_14.length c0_14)) (ds := []) (mk 18 0) (by kernel_rfl) rfl rfl ⟨cl_ BK353 0, cl_ BK353 1, cl_ BK353 2, cl_ BK353 3, cl_ BK353 4, cl_ BK353 5, cl_ BK353 6, cl_ BK353 7, cl_ BK353 8, cl_ BK353 9, cl_ BK353 10, cl_ BK353 11, cl_ BK353 12, cl_ BK353 13, cl_ BK353 14⟩ (fun hHeld => ?_); refine with_tabW haberdashplay_Promo.tab1 haberdashplay_Promo.bits1 (fun HT_ HW_ => ?_)
 generalize w11.drew = w12 at BK353 BK354 HB hHeld ⊢
 refine ahead_ [(0, 7), (2, 9), (7, 14), (10, 17), (12, 19)] ?_
 iterate 5 (refine pB_ HT_ ?_)
 refine aheadE_ (mk 18 5253) kr_ ?_
 refine take_ (i := 3) (N := some 10) (v := ?_) (a' := ?_) (mk 18 5261) rfl rfl (tw_ HT_ HW_) nh_ (Or.inl ⟨by rfl, ?_⟩) hHeld ?_ ?_
 rotate_left
 ·
  rintro w' ⟨s0, s1, s2, s3, s4, s5, s6, s7, s8, s9, s10, s11, s12, s13, s14⟩
  go_simp
  with_reducible rfl
 rotate_left; (exact pu_)
 refine pure_ (i := 4) (N := some 11) (v := ?_) (a' := ?_) (mk 18 5277) rfl rfl (an_ HT_) nh_ (Or.inl ⟨ry_, ?_⟩) ?_ ?_
 rotate_left; (intro w'; go_simp; with_reducible rfl)
 rotate_left; (exact pu_)
 refine ahead_ [(8, 15), (11, 18), (13, 20)] ?_
 iterate 3 (refine tA_ (v := ?_) (a' := ?_) rfl rfl HT_.out HW_.out (by kernel_rfl) (fun _ _ _ h => h) (Or.inl ⟨by rfl, ?_⟩) hHeld ?_ ?_; rotate_left; (rintro w' ⟨s0, s1, s2, s3, s4, s5, s6, s7, s8, s9, s10, s11, s12, s13, s14⟩; go_simp; with_reducible rfl); rotate_left; (exact pu_))
 refine aheadE_ (mk 18 15773) kr_ ?_
 refine join_ (σ := Value × Value × Nat) 1 (mk 18 131071) (fun s_ => [(8, .string t355), (12, .int .i64 t356), (16, .int .i64 t357), (21, .agg #[s_.1, s_.2.1]), (5, .pointer (some ⟨s_.2.2, 0, none⟩)), (13, .int .i64 (wrap64 (1 + t356))), (22, .agg #[.string t355, .int .i64 (wrap64 (1 + t356)), .int .i64 t357, .string (⟨#[]⟩ : ByteArray), .string (⟨#[]⟩ : ByteArray), .bool a0_5, s_.1, s_.2.1, .int .i64 0, .int .i64 0, .int .i64 0, .int .i64 0, .int .i64 0, .slice none 0 0, .slice none 0 0])]) (fun s_ w' => (w'.cell? ⟨gb353, 0, none⟩ = some (.string a0_0) ∧ w'.cell? ⟨gb353, 1, none⟩ = some (.int .i64 a0_1) ∧ w'.cell? ⟨gb353, 2, none⟩ = some (.int .i64 a0_2) ∧ w'.cell? ⟨gb353, 3, none⟩ = some (.string a0_3) ∧ w'.cell? ⟨gb353, 4, none⟩ = some (.string a0_4) ∧ w'.cell? ⟨gb353, 5, none⟩ = some (.bool a0_5) ∧ w'.cell? ⟨gb353, 6, none⟩ = some (.slice A0_6 l0_6.length c0_6) ∧ w'.cell? ⟨gb353, 7, none⟩ = some (.slice A0_7 l0_7.length c0_7) ∧ w'.cell? ⟨gb353, 8, none⟩ = some (.int .i64 a0_8) ∧ w'.cell? ⟨gb353, 9, none⟩ = some (.int .i64 a0_9) ∧ w'.cell? ⟨gb353, 10, none⟩ = some (.int .i64 a0_10) ∧ w'.cell? ⟨gb353, 11, none⟩ = some (.int .i64 a0_11) ∧ w'.cell? ⟨gb353, 12, none⟩ = some (.int .i64 a0_12) ∧ w'.cell? ⟨gb353, 13, none⟩ = some (.slice A0_13 l0_13.length c0_13) ∧ w'.cell? ⟨gb353, 14, none⟩ = some (.slice A0_14 l0_14.length c0_14)) ∧ (Kd.R Kd.string 9 w' w.heap.size (fun k_ => some k_ ≠ (s_.2.1 : Value).ownBlock) s_.1 t358) ∧ (Kd.R Kd.string 9 w' w.heap.size (fun k_ => some k_ ≠ (s_.1 : Value).ownBlock) s_.2.1 t361) ∧ (w'.heap[gb353]? = some (.cells #[.string a0_0, .int .i64 a0_1, .int .i64 a0_2, .string a0_3, .string a0_4, .bool a0_5, .slice A0_6 l0_6.length c0_6, .slice A0_7 l0_7.length c0_7, .int .i64 a0_8, .int .i64 a0_9, .int .i64 a0_10, .int .i64 a0_11, .int .i64 a0_12, .slice A0_13 l0_13.length c0_13, .slice A0_14 l0_14.length c0_14] 60 (0, 0))) ∧ (w'.heap[gb354]? = some (.cells #[.string (⟨#[]⟩ : ByteArray), .int .i64 0, .int .i64 0, .string (⟨#[]⟩ : ByteArray), .string (⟨#[]⟩ : ByteArray), .bool false, .slice none 0 0, .slice none 0 0, .int .i64 0, .int .i64 0, .int .i64 0, .int .i64 0, .int .i64 0, .slice none 0 0, .slice none 0 0] 60 (0, 0))) ∧ (w'.heap[s_.2.2]? = some (.cells #[.string (⟨#[]⟩ : ByteArray), .int .i64 0, .int .i64 0, .string (⟨#[]⟩ : ByteArray), .string (⟨#[]⟩ : ByteArray), .bool false, .slice none 0 0, .slice none 0 0, .int .i64 0, .int .i64 0, .int .i64 0, .int .i64 0, .int .i64 0, .slice none 0 0, .slice none 0 0] 60 (0, 0))) ∧ (w.heap.size ≤ s_.2.2) ∧ (w.heap.size ≤ s_.2.2) ∧ (gb353 ≠ s_.2.2) ∧ (s_.2.2 ≠ gb353) ∧ (gb354 ≠ s_.2.2) ∧ (s_.2.2 ≠ gb354) ∧ (Below w.heap.size w w')) ?_ ?_
 rotate_left
 ·
  intro hJ1_5_9_14_16
  refine join_ (σ := Value × Value) 2 (mk 18 65535) (fun s_ => [(8, .string t355), (12, .int .i64 t356), (16, .int .i64 t357), (21, .agg #[s_.1, s_.2]), (13, .int .i64 (wrap64 (1 + t356))), (22, .agg #[.string t355, .int .i64 (wrap64 (1 + t356)), .int .i64 t357, .string (⟨#[]⟩ : ByteArray), .string (⟨#[]⟩ : ByteArray), .bool a0_5, s_.1, s_.2, .int .i64 0, .int .i64 0, .int .i64 0, .int .i64 0, .int .i64 0, .slice none 0 0, .slice none 0 0])]) (fun s_ w' => (w'.cell? ⟨gb353, 0, none⟩ = some (.string a0_0) ∧ w'.cell? ⟨gb353, 1, none⟩ = some (.int .i64 a0_1) ∧ w'.cell? ⟨gb353, 2, none⟩ = some (.int .i64 a0_2) ∧ w'.cell? ⟨gb353, 3, none⟩ = some (.string a0_3) ∧ w'.cell? ⟨gb353, 4, none⟩ = some (.string a0_4) ∧ w'.cell? ⟨gb353, 5, none⟩ = some (.bool a0_5) ∧ w'.cell? ⟨gb353, 6, none⟩ = some (.slice A0_6 l0_6.length c0_6) ∧ w'.cell? ⟨gb353, 7, none⟩ = some (.slice A0_7 l0_7.length c0_7) ∧ w'.cell? ⟨gb353, 8, none⟩ = some (.int .i64 a0_8) ∧ w'.cell? ⟨gb353, 9, none⟩ = some (.int .i64 a0_9) ∧ w'.cell? ⟨gb353, 10, none⟩ = some (.int .i64 a0_10) ∧ w'.cell? ⟨gb353, 11, none⟩ = some (.int .i64 a0_11) ∧ w'.cell? ⟨gb353, 12, none⟩ = some (.int .i64 a0_12) ∧ w'.cell? ⟨gb353, 13, none⟩ = some (.slice A0_13 l0_13.length c0_13) ∧ w'.cell? ⟨gb353, 14, none⟩ = some (.slice A0_14 l0_14.length c0_14)) ∧ (Kd.R Kd.string 9 w' w.heap.size (fun k_ => some k_ ≠ (s_.2 : Value).ownBlock) s_.1 t358) ∧ (Kd.R Kd.string 9 w' w.heap.size (fun k_ => some k_ ≠ (s_.1 : Value).ownBlock) s_.2 t361) ∧ (w'.heap[gb353]? = some (.cells #[.string a0_0, .int .i64 a0_1, .int .i64 a0_2, .string a0_3, .string a0_4, .bool a0_5, .slice A0_6 l0_6.length c0_6, .slice A0_7 l0_7.length c0_7, .int .i64 a0_8, .int .i64 a0_9, .int .i64 a0_10, .int .i64 a0_11, .int .i64 a0_12, .slice A0_13 l0_13.length c0_13, .slice A0_14 l0_14.length c0_14] 60 (0, 0))) ∧ (w'.heap[gb354]? = some (.cells #[.string (⟨#[]⟩ : ByteArray), .int .i64 0, .int .i64 0, .string (⟨#[]⟩ : ByteArray), .string (⟨#[]⟩ : ByteArray), .bool false, .slice none 0 0, .slice none 0 0, .int .i64 0, .int .i64 0, .int .i64 0, .int .i64 0, .int .i64 0, .slice none 0 0, .slice none 0 0] 60 (0, 0))) ∧ (Below w.heap.size w w')) ?_ ?_
  rotate_left
  ·
   intro hJ1_5_9_14
   refine join_ (σ := Nat) 3 (mk 18 81919) (fun s_ => [(8, .string t355), (12, .int .i64 t356), (16, .int .i64 t357), (5, .pointer (some ⟨s_, 0, none⟩)), (13, .int .i64 (wrap64 (1 + t356)))]) (fun s_ w' => (w'.cell? ⟨gb353, 0, none⟩ = some (.string a0_0) ∧ w'.cell? ⟨gb353, 1, none⟩ = some (.int .i64 a0_1) ∧ w'.cell? ⟨gb353, 2, none⟩ = some (.int .i64 a0_2) ∧ w'.cell? ⟨gb353, 3, none⟩ = some (.string a0_3) ∧ w'.cell? ⟨gb353, 4, none⟩ = some (.string a0_4) ∧ w'.cell? ⟨gb353, 5, none⟩ = some (.bool a0_5) ∧ w'.cell? ⟨gb353, 6, none⟩ = some (.slice A0_6 l0_6.length c0_6) ∧ w'.cell? ⟨gb353, 7, none⟩ = some (.slice A0_7 l0_7.length c0_7) ∧ w'.cell? ⟨gb353, 8, none⟩ = some (.int .i64 a0_8) ∧ w'.cell? ⟨gb353, 9, none⟩ = some (.int .i64 a0_9) ∧ w'.cell? ⟨gb353, 10, none⟩ = some (.int .i64 a0_10) ∧ w'.cell? ⟨gb353, 11, none⟩ = some (.int .i64 a0_11) ∧ w'.cell? ⟨gb353, 12, none⟩ = some (.int .i64 a0_12) ∧ w'.cell? ⟨gb353, 13, none⟩ = some (.slice A0_13 l0_13.length c0_13) ∧ w'.cell? ⟨gb353, 14, none⟩ = some (.slice A0_14 l0_14.length c0_14)) ∧ (w'.heap[gb353]? = some (.cells #[.string a0_0, .int .i64 a0_1, .int .i64 a0_2, .string a0_3, .string a0_4, .bool a0_5, .slice A0_6 l0_6.length c0_6, .slice A0_7 l0_7.length c0_7, .int .i64 a0_8, .int .i64 a0_9, .int .i64 a0_10, .int .i64 a0_11, .int .i64 a0_12, .slice A0_13 l0_13.length c0_13, .slice A0_14 l0_14.length c0_14] 60 (0, 0))) ∧ (w'.heap[gb354]? = some (.cells #[.string (⟨#[]⟩ : ByteArray), .int .i64 0, .int .i64 0, .string (⟨#[]⟩ : ByteArray), .string (⟨#[]⟩ : ByteArray), .bool false, .slice none 0 0, .slice none 0 0, .int .i64 0, .int .i64 0, .int .i64 0, .int .i64 0, .int .i64 0, .slice none 0 0, .slice none 0 0] 60 (0, 0))) ∧ (w'.heap[s_]? = some (.cells #[.string (⟨#[]⟩ : ByteArray), .int .i64 0, .int .i64 0, .string (⟨#[]⟩ : ByteArray), .string (⟨#[]⟩ : ByteArray), .bool false, .slice none 0 0, .slice none 0 0, .int .i64 0, .int .i64 0, .int .i64 0, .int .i64 0, .int .i64 0, .slice none 0 0, .slice none 0 0] 60 (0, 0))) ∧ (w.heap.size ≤ s_) ∧ (w.heap.size ≤ s_) ∧ (gb353 ≠ s_) ∧ (s_ ≠ gb353) ∧ (gb354 ≠ s_) ∧ (s_ ≠ gb354) ∧ (Below w.heap.size w w')) ?_ ?_
   rotate_left
   ·
    intro hJ1_5_9_16
    refine join_ (σ := Unit) 4 (mk 18 16383) (fun s_ => [(8, .string t355), (12, .int .i64 t356), (16, .int .i64 t357), (13, .int .i64 (wrap64 (1 + t356)))]) (fun s_ w' => (w'.cell? ⟨gb353, 0, none⟩ = some (.string a0_0) ∧ w'.cell? ⟨gb353, 1, none⟩ = some (.int .i64 a0_1) ∧ w'.cell? ⟨gb353, 2, none⟩ = some (.int .i64 a0_2) ∧ w'.cell? ⟨gb353, 3, none⟩ = some (.string a0_3) ∧ w'.cell? ⟨gb353, 4, none⟩ = some (.string a0_4) ∧ w'.cell? ⟨gb353, 5, none⟩ = some (.bool a0_5) ∧ w'.cell? ⟨gb353, 6, none⟩ = some (.slice A0_6 l0_6.length c0_6) ∧ w'.cell? ⟨gb353, 7, none⟩ = some (.slice A0_7 l0_7.length c0_7) ∧ w'.cell? ⟨gb353, 8, none⟩ = some (.int .i64 a0_8) ∧ w'.cell? ⟨gb353, 9, none⟩ = some (.int .i64 a0_9) ∧ w'.cell? ⟨gb353, 10, none⟩ = some (.int .i64 a0_10) ∧ w'.cell? ⟨gb353, 11, none⟩ = some (.int .i64 a0_11) ∧ w'.cell? ⟨gb353, 12, none⟩ = some (.int .i64 a0_12) ∧ w'.cell? ⟨gb353, 13, none⟩ = some (.slice A0_13 l0_13.length c0_13) ∧ w'.cell? ⟨gb353, 14, none⟩ = some (.slice A0_14 l0_14.length c0_14)) ∧ (w'.heap[gb353]? = some (.cells #[.string a0_0, .int .i64 a0_1, .int .i64 a0_2, .string a0_3, .string a0_4, .bool a0_5, .slice A0_6 l0_6.length c0_6, .slice A0_7 l0_7.length c0_7, .int .i64 a0_8, .int .i64 a0_9, .int .i64 a0_10, .int .i64 a0_11, .int .i64 a0_12, .slice A0_13 l0_13.length c0_13, .slice A0_14 l0_14.length c0_14] 60 (0, 0))) ∧ (w'.heap[gb354]? = some (.cells #[.string (⟨#[]⟩ : ByteArray), .int .i64 0, .int .i64 0, .string (⟨#[]⟩ : ByteArray), .string (⟨#[]⟩ : ByteArray), .bool false, .slice none 0 0, .slice none 0 0, .int .i64 0, .int .i64 0, .int .i64 0, .int .i64 0, .int .i64 0, .slice none 0 0, .slice none 0 0] 60 (0, 0))) ∧ (Below w.heap.size w w')) ?_ ?_
    rotate_left
    ·
     intro hJ1_5_9
     refine join_ (σ := Nat) 4 (mk 18 81407) (fun s_ => [(8, .string t355), (12, .int .i64 t356), (5, .pointer (some ⟨s_, 0, none⟩)), (13, .int .i64 (wrap64 (1 + t356)))]) (fun s_ w' => (w'.cell? ⟨gb353, 0, none⟩ = some (.string a0_0) ∧ w'.cell? ⟨gb353, 1, none⟩ = some (.int .i64 a0_1) ∧ w'.cell? ⟨gb353, 2, none⟩ = some (.int .i64 a0_2) ∧ w'.cell? ⟨gb353, 3, none⟩ = some (.string a0_3) ∧ w'.cell? ⟨gb353, 4, none⟩ = some (.string a0_4) ∧ w'.cell? ⟨gb353, 5, none⟩ = some (.bool a0_5) ∧ w'.cell? ⟨gb353, 6, none⟩ = some (.slice A0_6 l0_6.length c0_6) ∧ w'.cell? ⟨gb353, 7, none⟩ = some (.slice A0_7 l0_7.length c0_7) ∧ w'.cell? ⟨gb353, 8, none⟩ = some (.int .i64 a0_8) ∧ w'.cell? ⟨gb353, 9, none⟩ = some (.int .i64 a0_9) ∧ w'.cell? ⟨gb353, 10, none⟩ = some (.int .i64 a0_10) ∧ w'.cell? ⟨gb353, 11, none⟩ = some (.int .i64 a0_11) ∧ w'.cell? ⟨gb353, 12, none⟩ = some (.int .i64 a0_12) ∧ w'.cell? ⟨gb353, 13, none⟩ = some (.slice A0_13 l0_13.length c0_13) ∧ w'.cell? ⟨gb353, 14, none⟩ = some (.slice A0_14 l0_14.length c0_14)) ∧ (w'.heap[gb353]? = some (.cells #[.string a0_0, .int .i64 a0_1, .int .i64 a0_2, .string a0_3, .string a0_4, .bool a0_5, .slice A0_6 l0_6.length c0_6, .slice A0_7 l0_7.length c0_7, .int .i64 a0_8, .int .i64 a0_9, .int .i64 a0_10, .int .i64 a0_11, .int .i64 a0_12, .slice A0_13 l0_13.length c0_13, .slice A0_14 l0_14.length c0_14] 60 (0, 0))) ∧ (w'.heap[gb354]? = some (.cells #[.string (⟨#[]⟩ : ByteArray), .int .i64 0, .int .i64 0, .string (⟨#[]⟩ : ByteArray), .string (⟨#[]⟩ : ByteArray), .bool false, .slice none 0 0, .slice none 0 0, .int .i64 0, .int .i64 0, .int .i64 0, .int .i64 0, .int .i64 0, .slice none 0 0, .slice none 0 0] 60 (0, 0))) ∧ (w'.heap[s_]? = some (.cells #[.string (⟨#[]⟩ : ByteArray), .int .i64 0, .int .i64 0, .string (⟨#[]⟩ : ByteArray), .string (⟨#[]⟩ : ByteArray), .bool false, .slice none 0 0, .slice none 0 0, .int .i64 0, .int .i64 0, .int .i64 0, .int .i64 0, .int .i64 0, .slice none 0 0, .slice none 0 0] 60 (0, 0))) ∧ (w.heap.size ≤ s_) ∧ (w.heap.size ≤ s_) ∧ (gb353 ≠ s_) ∧ (s_ ≠ gb353) ∧ (gb354 ≠ s_) ∧ (s_ ≠ gb354) ∧ (Below w.heap.size w w')) ?_ ?_
     rotate_left
     ·
      intro hJ1_5_16
      refine join_ (σ := Unit) 5 (mk 18 15871) (fun s_ => [(8, .string t355), (12, .int .i64 t356), (13, .int .i64 (wrap64 (1 + t356)))]) (fun s_ w' => (w'.cell? ⟨gb353, 0, none⟩ = some (.string a0_0) ∧ w'.cell? ⟨gb353, 1, none⟩ = some (.int .i64 a0_1) ∧ w'.cell? ⟨gb353, 2, none⟩ = some (.int .i64 a0_2) ∧ w'.cell? ⟨gb353, 3, none⟩ = some (.string a0_3) ∧ w'.cell? ⟨gb353, 4, none⟩ = some (.string a0_4) ∧ w'.cell? ⟨gb353, 5, none⟩ = some (.bool a0_5) ∧ w'.cell? ⟨gb353, 6, none⟩ = some (.slice A0_6 l0_6.length c0_6) ∧ w'.cell? ⟨gb353, 7, none⟩ = some (.slice A0_7 l0_7.length c0_7) ∧ w'.cell? ⟨gb353, 8, none⟩ = some (.int .i64 a0_8) ∧ w'.cell? ⟨gb353, 9, none⟩ = some (.int .i64 a0_9) ∧ w'.cell? ⟨gb353, 10, none⟩ = some (.int .i64 a0_10) ∧ w'.cell? ⟨gb353, 11, none⟩ = some (.int .i64 a0_11) ∧ w'.cell? ⟨gb353, 12, none⟩ = some (.int .i64 a0_12) ∧ w'.cell? ⟨gb353, 13, none⟩ = some (.slice A0_13 l0_13.length c0_13) ∧ w'.cell? ⟨gb353, 14, none⟩ = some (.slice A0_14 l0_14.length c0_14)) ∧ (w'.heap[gb353]? = some (.cells #[.string a0_0, .int .i64 a0_1, .int .i64 a0_2, .string a0_3, .string a0_4, .bool a0_5, .slice A0_6 l0_6.length c0_6, .slice A0_7 l0_7.length c0_7, .int .i64 a0_8, .int .i64 a0_9, .int .i64 a0_10, .int .i64 a0_11, .int .i64 a0_12, .slice A0_13 l0_13.length c0_13, .slice A0_14 l0_14.length c0_14] 60 (0, 0))) ∧ (w'.heap[gb354]? = some (.cells #[.string (⟨#[]⟩ : ByteArray), .int .i64 0, .int .i64 0, .string (⟨#[]⟩ : ByteArray), .string (⟨#[]⟩ : ByteArray), .bool false, .slice none 0 0, .slice none 0 0, .int .i64 0, .int .i64 0, .int .i64 0, .int .i64 0, .int .i64 0, .slice none 0 0, .slice none 0 0] 60 (0, 0))) ∧ (Below w.heap.size w w')) ?_ ?_
      rotate_left
      ·
       intro hJ1_5
       refine join_ (σ := Nat) 6 (mk 18 81311) (fun s_ => [(8, .string t355), (5, .pointer (some ⟨s_, 0, none⟩))]) (fun s_ w' => (w'.cell? ⟨gb353, 0, none⟩ = some (.string a0_0) ∧ w'.cell? ⟨gb353, 1, none⟩ = some (.int .i64 a0_1) ∧ w'.cell? ⟨gb353, 2, none⟩ = some (.int .i64 a0_2) ∧ w'.cell? ⟨gb353, 3, none⟩ = some (.string a0_3) ∧ w'.cell? ⟨gb353, 4, none⟩ = some (.string a0_4) ∧ w'.cell? ⟨gb353, 5, none⟩ = some (.bool a0_5) ∧ w'.cell? ⟨gb353, 6, none⟩ = some (.slice A0_6 l0_6.length c0_6) ∧ w'.cell? ⟨gb353, 7, none⟩ = some (.slice A0_7 l0_7.length c0_7) ∧ w'.cell? ⟨gb353, 8, none⟩ = some (.int .i64 a0_8) ∧ w'.cell? ⟨gb353, 9, none⟩ = some (.int .i64 a0_9) ∧ w'.cell? ⟨gb353, 10, none⟩ = some (.int .i64 a0_10) ∧ w'.cell? ⟨gb353, 11, none⟩ = some (.int .i64 a0_11) ∧ w'.cell? ⟨gb353, 12, none⟩ = some (.int .i64 a0_12) ∧ w'.cell? ⟨gb353, 13, none⟩ = some (.slice A0_13 l0_13.length c0_13) ∧ w'.cell? ⟨gb353, 14, none⟩ = some (.slice A0_14 l0_14.length c0_14)) ∧ (w'.heap[gb353]? = some (.cells #[.string a0_0, .int .i64 a0_1, .int .i64 a0_2, .string a0_3, .string a0_4, .bool a0_5, .slice A0_6 l0_6.length c0_6, .slice A0_7 l0_7.length c0_7, .int .i64 a0_8, .int .i64 a0_9, .int .i64 a0_10, .int .i64 a0_11, .int .i64 a0_12, .slice A0_13 l0_13.length c0_13, .slice A0_14 l0_14.length c0_14] 60 (0, 0))) ∧ (w'.heap[gb354]? = some (.cells #[.string (⟨#[]⟩ : ByteArray), .int .i64 0, .int .i64 0, .string (⟨#[]⟩ : ByteArray), .string (⟨#[]⟩ : ByteArray), .bool false, .slice none 0 0, .slice none 0 0, .int .i64 0, .int .i64 0, .int .i64 0, .int .i64 0, .int .i64 0, .slice none 0 0, .slice none 0 0] 60 (0, 0))) ∧ (w'.heap[s_]? = some (.cells #[.string (⟨#[]⟩ : ByteArray), .int .i64 0, .int .i64 0, .string (⟨#[]⟩ : ByteArray), .string (⟨#[]⟩ : ByteArray), .bool false, .slice none 0 0, .slice none 0 0, .int .i64 0, .int .i64 0, .int .i64 0, .int .i64 0, .int .i64 0, .slice none 0 0, .slice none 0 0] 60 (0, 0))) ∧ (w.heap.size ≤ s_) ∧ (w.heap.size ≤ s_) ∧ (gb353 ≠ s_) ∧ (s_ ≠ gb353) ∧ (gb354 ≠ s_) ∧ (s_ ≠ gb354) ∧ (Below w.heap.size w w')) ?_ ?_
       rotate_left
       ·
        intro hJ1_16
        refine join_ (σ := Unit) 7 (mk 18 15775) (fun s_ => [(8, .string t355)]) (fun s_ w' => (w'.cell? ⟨gb353, 0, none⟩ = some (.string a0_0) ∧ w'.cell? ⟨gb353, 1, none⟩ = some (.int .i64 a0_1) ∧ w'.cell? ⟨gb353, 2, none⟩ = some (.int .i64 a0_2) ∧ w'.cell? ⟨gb353, 3, none⟩ = some (.string a0_3) ∧ w'.cell? ⟨gb353, 4, none⟩ = some (.string a0_4) ∧ w'.cell? ⟨gb353, 5, none⟩ = some (.bool a0_5) ∧ w'.cell? ⟨gb353, 6, none⟩ = some (.slice A0_6 l0_6.length c0_6) ∧ w'.cell? ⟨gb353, 7, none⟩ = some (.slice A0_7 l0_7.length c0_7) ∧ w'.cell? ⟨gb353, 8, none⟩ = some (.int .i64 a0_8) ∧ w'.cell? ⟨gb353, 9, none⟩ = some (.int .i64 a0_9) ∧ w'.cell? ⟨gb353, 10, none⟩ = some (.int .i64 a0_10) ∧ w'.cell? ⟨gb353, 11, none⟩ = some (.int .i64 a0_11) ∧ w'.cell? ⟨gb353, 12, none⟩ = some (.int .i64 a0_12) ∧ w'.cell? ⟨gb353, 13, none⟩ = some (.slice A0_13 l0_13.length c0_13) ∧ w'.cell? ⟨gb353, 14, none⟩ = some (.slice A0_14 l0_14.length c0_14)) ∧ (w'.heap[gb353]? = some (.cells #[.string a0_0, .int .i64 a0_1, .int .i64 a0_2, .string a0_3, .string a0_4, .bool a0_5, .slice A0_6 l0_6.length c0_6, .slice A0_7 l0_7.length c0_7, .int .i64 a0_8, .int .i64 a0_9, .int .i64 a0_10, .int .i64 a0_11, .int .i64 a0_12, .slice A0_13 l0_13.length c0_13, .slice A0_14 l0_14.length c0_14] 60 (0, 0))) ∧ (w'.heap[gb354]? = some (.cells #[.string (⟨#[]⟩ : ByteArray), .int .i64 0, .int .i64 0, .string (⟨#[]⟩ : ByteArray), .string (⟨#[]⟩ : ByteArray), .bool false, .slice none 0 0, .slice none 0 0, .int .i64 0, .int .i64 0, .int .i64 0, .int .i64 0, .int .i64 0, .slice none 0 0, .slice none 0 0] 60 (0, 0))) ∧ (Below w.heap.size w w')) ?_ ?_
        rotate_left
        ·
         intro hJ1
         refine join_ (σ := Nat) 7 (mk 18 81309) (fun s_ => [(5, .pointer (some ⟨s_, 0, none⟩))]) (fun s_ w' => (w'.cell? ⟨gb353, 0, none⟩ = some (.string a0_0) ∧ w'.cell? ⟨gb353, 1, none⟩ = some (.int .i64 a0_1) ∧ w'.cell? ⟨gb353, 2, none⟩ = some (.int .i64 a0_2) ∧ w'.cell? ⟨gb353, 3, none⟩ = some (.string a0_3) ∧ w'.cell? ⟨gb353, 4, none⟩ = some (.string a0_4) ∧ w'.cell? ⟨gb353, 5, none⟩ = some (.bool a0_5) ∧ w'.cell? ⟨gb353, 6, none⟩ = some (.slice A0_6 l0_6.length c0_6) ∧ w'.cell? ⟨gb353, 7, none⟩ = some (.slice A0_7 l0_7.length c0_7) ∧ w'.cell? ⟨gb353, 8, none⟩ = some (.int .i64 a0_8) ∧ w'.cell? ⟨gb353, 9, none⟩ = some (.int .i64 a0_9) ∧ w'.cell? ⟨gb353, 10, none⟩ = some (.int .i64 a0_10) ∧ w'.cell? ⟨gb353, 11, none⟩ = some (.int .i64 a0_11) ∧ w'.cell? ⟨gb353, 12, none⟩ = some (.int .i64 a0_12) ∧ w'.cell? ⟨gb353, 13, none⟩ = some (.slice A0_13 l0_13.length c0_13) ∧ w'.cell? ⟨gb353, 14, none⟩ = some (.slice A0_14 l0_14.length c0_14)) ∧ (w'.heap[gb353]? = some (.cells #[.string a0_0, .int .i64 a0_1, .int .i64 a0_2, .string a0_3, .string a0_4, .bool a0_5, .slice A0_6 l0_6.length c0_6, .slice A0_7 l0_7.length c0_7, .int .i64 a0_8, .int .i64 a0_9, .int .i64 a0_10, .int .i64 a0_11, .int .i64 a0_12, .slice A0_13 l0_13.length c0_13, .slice A0_14 l0_14.length c0_14] 60 (0, 0))) ∧ (w'.heap[gb354]? = some (.cells #[.string (⟨#[]⟩ : ByteArray), .int .i64 0, .int .i64 0, .string (⟨#[]⟩ : ByteArray), .string (⟨#[]⟩ : ByteArray), .bool false, .slice none 0 0, .slice none 0 0, .int .i64 0, .int .i64 0, .int .i64 0, .int .i64 0, .int .i64 0, .slice none 0 0, .slice none 0 0] 60 (0, 0))) ∧ (w'.heap[s_]? = some (.cells #[.string (⟨#[]⟩ : ByteArray), .int .i64 0, .int .i64 0, .string (⟨#[]⟩ : ByteArray), .string (⟨#[]⟩ : ByteArray), .bool false, .slice none 0 0, .slice none 0 0, .int .i64 0, .int .i64 0, .int .i64 0, .int .i64 0, .int .i64 0, .slice none 0 0, .slice none 0 0] 60 (0, 0))) ∧ (w.heap.size ≤ s_) ∧ (w.heap.size ≤ s_) ∧ (gb353 ≠ s_) ∧ (s_ ≠ gb353) ∧ (gb354 ≠ s_) ∧ (s_ ≠ gb354) ∧ (Below w.heap.size w w')) ?_ ?_
         rotate_left
         ·
          intro hJ16
          refine two_ (i := 1) (j := 16) (Ni := some 8) (Nj := some 5) (mk 18 15775) (mk 18 81309) rfl rfl rfl rfl (two_of HT_.out (by kernel_rfl)) (by decide) (by decide) (fun K hK => ?_) (fun K hK => ?_)
          ·
           skip
           refine goes_ Try.func60 (by kernel_rfl) rfl #[.int .i64 a1] (by rfl) rfl rfl am_ ?_
           with_reducible refine (haberdashplay_Id.calls a1 t355 _ A3.out).mono ?_
           rintro e w13 ⟨rfl, hb⟩
           refine ⟨_, rfl, ?_⟩
           replace BK353 := Aside0.mk (bb_ BK353 hb); replace BK354 := Aside0.mk (bb_ BK354 hb); replace HB := Aside0.mk (below_step (hb2_ HB GE353 GE354) hb); (try clear hb); (try clear hb2); (try clear hk); (try clear hi)
           refine hK.out _ _ ⟨cl_ BK353 0, cl_ BK353 1, cl_ BK353 2, cl_ BK353 3, cl_ BK353 4, cl_ BK353 5, cl_ BK353 6, cl_ BK353 7, cl_ BK353 8, cl_ BK353 9, cl_ BK353 10, cl_ BK353 11, cl_ BK353 12, cl_ BK353 13, cl_ BK353 14⟩ (fun hHeld => ?_)
           clear hK K
           refine norm_ pv_ ?_
           exact norm_ (by first | (simp only [putAll, Act.put, List.setIfInBounds_toArray, List.set_cons_zero, List.set_cons_succ]; done) | (simp only [putAll, Act.put, List.setIfInBounds_toArray, List.set_cons_zero, List.set_cons_succ]; rfl)) (hJ1 () _ ⟨hHeld, (bk_ BK353), (bk_ BK354), (hb2_ HB GE353 GE354)⟩)
          ·
           skip
           refine box_step ?hg (N := 5) ?hd (cs := #[.string (⟨#[]⟩ : ByteArray), .int .i64 0, .int .i64 0, .string (⟨#[]⟩ : ByteArray), .string (⟨#[]⟩ : ByteArray), .bool false, .slice none 0 0, .slice none 0 0, .int .i64 0, .int .i64 0, .int .i64 0, .int .i64 0, .int .i64 0, .slice none 0 0, .slice none 0 0]) (t := 60) ?hr ?_; (case hd => rfl); (case hg => rfl); (case hr => first | (go_simp; done) | (go_simp; rfl))
           intro gb364 hg w13 hbox hb
           have BK364 := Aside0.mk hbox; have GW364 := Aside0.mk (ge_ HB hg (hb2_ HB GE353 GE354)); have GE364 := Aside0.mk (ge_ HB hg (hb2_ HB GE353 GE354)); replace HB := Aside0.mk (below_step (hb2_ HB GE353 GE354) hb); have NB353_364 := Aside0.mk (nl_ BK353 hg); have NB364_353 := Aside0.mk (ng_ BK353 hg)
           replace BK353 := Aside0.mk (bb_ BK353 hb); have NB354_364 := Aside0.mk (nl_ BK354 hg); have NB364_354 := Aside0.mk (ng_ BK354 hg); replace BK354 := Aside0.mk (bb_ BK354 hb); clear hb hbox hg
           refine hK.out _ _ ⟨cl_ BK353 0, cl_ BK353 1, cl_ BK353 2, cl_ BK353 3, cl_ BK353 4, cl_ BK353 5, cl_ BK353 6, cl_ BK353 7, cl_ BK353 8, cl_ BK353 9, cl_ BK353 10, cl_ BK353 11, cl_ BK353 12, cl_ BK353 13, cl_ BK353 14⟩ (fun hHeld => ?_)
           clear hK K
           refine norm_ pv_ ?_
           exact norm_ (by first | (simp only [putAll, Act.put, List.setIfInBounds_toArray, List.set_cons_zero, List.set_cons_succ]; done) | (simp only [putAll, Act.put, List.setIfInBounds_toArray, List.set_cons_zero, List.set_cons_succ]; rfl)) (hJ16 (gb364) _ ⟨hHeld, (bk_ BK353), (bk_ BK354), (bk_ BK364), GW364.out, GE364.out, NB353_364.out, NB364_353.out, NB354_364.out, NB364_354.out, (hb3_ HB GE353 GE354 GE364)⟩)
         ·
          skip
          rintro gb364 w14 ⟨hS_, h0_, h1_, h2_, h3_, h4_, h5_, h6_, h7_, h8_, h9_⟩
          have n0_ : Aside0 (w14.heap[gb353]? = some (.cells #[.string a0_0, .int .i64 a0_1, .int .i64 a0_2, .string a0_3, .string a0_4, .bool a0_5, .slice A0_6 l0_6.length c0_6, .slice A0_7 l0_7.length c0_7, .int .i64 a0_8, .int .i64 a0_9, .int .i64 a0_10, .int .i64 a0_11, .int .i64 a0_12, .slice A0_13 l0_13.length c0_13, .slice A0_14 l0_14.length c0_14] 60 (0, 0))) := ⟨h0_⟩
          have n1_ : Aside0 (w14.heap[gb354]? = some (.cells #[.string (⟨#[]⟩ : ByteArray), .int .i64 0, .int .i64 0, .string (⟨#[]⟩ : ByteArray), .string (⟨#[]⟩ : ByteArray), .bool false, .slice none 0 0, .slice none 0 0, .int .i64 0, .int .i64 0, .int .i64 0, .int .i64 0, .int .i64 0, .slice none 0 0, .slice none 0 0] 60 (0, 0))) := ⟨h1_⟩
          have n2_ : Aside0 (w14.heap[gb364]? = some (.cells #[.string (⟨#[]⟩ : ByteArray), .int .i64 0, .int .i64 0, .string (⟨#[]⟩ : ByteArray), .string (⟨#[]⟩ : ByteArray), .bool false, .slice none 0 0, .slice none 0 0, .int .i64 0, .int .i64 0, .int .i64 0, .int .i64 0, .int .i64 0, .slice none 0 0, .slice none 0 0] 60 (0, 0))) := ⟨h2_⟩
          have n3_ : Aside0 (w.heap.size ≤ gb364) := ⟨h3_⟩; have n4_ : Aside0 (w.heap.size ≤ gb364) := ⟨h4_⟩; have n5_ : Aside0 (gb353 ≠ gb364) := ⟨h5_⟩; have n6_ : Aside0 (gb364 ≠ gb353) := ⟨h6_⟩; have n7_ : Aside0 (gb354 ≠ gb364) := ⟨h7_⟩; have n8_ : Aside0 (gb364 ≠ gb354) := ⟨h8_⟩; have n9_ : Aside0 (Below w.heap.size w w14) := ⟨h9_⟩
          clear BK353; clear BK354; clear HB; clear h0_ h1_ h2_ h3_ h4_ h5_ h6_ h7_ h8_ h9_; have BK353 := n0_; have BK354 := n1_; have BK364 := n2_; have GW364 := n3_; have GE364 := n4_; have NB353_364 := n5_; have NB364_353 := n6_; have NB354_364 := n7_; have NB364_354 := n8_; have HB := n9_; clear n0_ n1_ n2_ n3_ n4_ n5_ n6_ n7_ n8_ n9_
          have hHeld : w14.cell? ⟨gb353, 0, none⟩ = some (.string a0_0) ∧ w14.cell? ⟨gb353, 1, none⟩ = some (.int .i64 a0_1) ∧ w14.cell? ⟨gb353, 2, none⟩ = some (.int .i64 a0_2) ∧ w14.cell? ⟨gb353, 3, none⟩ = some (.string a0_3) ∧ w14.cell? ⟨gb353, 4, none⟩ = some (.string a0_4) ∧ w14.cell? ⟨gb353, 5, none⟩ = some (.bool a0_5) ∧ w14.cell? ⟨gb353, 6, none⟩ = some (.slice A0_6 l0_6.length c0_6) ∧ w14.cell? ⟨gb353, 7, none⟩ = some (.slice A0_7 l0_7.length c0_7) ∧ w14.cell? ⟨gb353, 8, none⟩ = some (.int .i64 a0_8) ∧ w14.cell? ⟨gb353, 9, none⟩ = some (.int .i64 a0_9) ∧ w14.cell? ⟨gb353, 10, none⟩ = some (.int .i64 a0_10) ∧ w14.cell? ⟨gb353, 11, none⟩ = some (.int .i64 a0_11) ∧ w14.cell? ⟨gb353, 12, none⟩ = some (.int .i64 a0_12) ∧ w14.cell? ⟨gb353, 13, none⟩ = some (.slice A0_13 l0_13.length c0_13) ∧ w14.cell? ⟨gb353, 14, none⟩ = some (.slice A0_14 l0_14.length c0_14) := hS_
          refine norm_ (a' := ?_) ?_ ?_
          rotate_left
          ·
           simp only [putAll, Act.put, List.setIfInBounds_toArray, List.set_cons_zero, List.set_cons_succ]
           rfl
          refine one_ (i := 1) (N := some 8) (mk 18 81311) rfl rfl (on_ HT_) de_ (fun K hK => ?_)
          refine goes_ Try.func60 (by kernel_rfl) rfl #[.int .i64 a1] (by rfl) rfl rfl am_ ?_
          with_reducible refine (haberdashplay_Id.calls a1 t355 _ A3.out).mono ?_
          rintro e w15 ⟨rfl, hb⟩
          refine ⟨_, rfl, ?_⟩
          replace BK353 := Aside0.mk (bb_ BK353 hb); replace BK354 := Aside0.mk (bb_ BK354 hb); replace BK364 := Aside0.mk (bb_ BK364 hb); replace HB := Aside0.mk (below_step (hb3_ HB GE353 GE354 GE364) hb); (try clear hb); (try clear hb2); (try clear hk); (try clear hi)
          refine hK.out _ _ ⟨cl_ BK353 0, cl_ BK353 1, cl_ BK353 2, cl_ BK353 3, cl_ BK353 4, cl_ BK353 5, cl_ BK353 6, cl_ BK353 7, cl_ BK353 8, cl_ BK353 9, cl_ BK353 10, cl_ BK353 11, cl_ BK353 12, cl_ BK353 13, cl_ BK353 14⟩ (fun hHeld => ?_)
          clear hK K
          refine norm_ pv_ ?_
          exact norm_ (by first | (simp only [putAll, Act.put, List.setIfInBounds_toArray, List.set_cons_zero, List.set_cons_succ]; done) | (simp only [putAll, Act.put, List.setIfInBounds_toArray, List.set_cons_zero, List.set_cons_succ]; rfl)) (hJ1_16 (gb364) _ ⟨hHeld, (bk_ BK353), (bk_ BK354), (bk_ BK364), GW364.out, GE364.out, NB353_364.out, NB364_353.out, NB354_364.out, NB364_354.out, (hb3_ HB GE353 GE354 GE364)⟩)
        ·
         skip
         rintro _ w14 ⟨hS_, h0_, h1_, h2_⟩
         have n0_ : Aside0 (w14.heap[gb353]? = some (.cells #[.string a0_0, .int .i64 a0_1, .int .i64 a0_2, .string a0_3, .string a0_4, .bool a0_5, .slice A0_6 l0_6.length c0_6, .slice A0_7 l0_7.length c0_7, .int .i64 a0_8, .int .i64 a0_9, .int .i64 a0_10, .int .i64 a0_11, .int .i64 a0_12, .slice A0_13 l0_13.length c0_13, .slice A0_14 l0_14.length c0_14] 60 (0, 0))) := ⟨h0_⟩
         have n1_ : Aside0 (w14.heap[gb354]? = some (.cells #[.string (⟨#[]⟩ : ByteArray), .int .i64 0, .int .i64 0, .string (⟨#[]⟩ : ByteArray), .string (⟨#[]⟩ : ByteArray), .bool false, .slice none 0 0, .slice none 0 0, .int .i64 0, .int .i64 0, .int .i64 0, .int .i64 0, .int .i64 0, .slice none 0 0, .slice none 0 0] 60 (0, 0))) := ⟨h1_⟩
         have n2_ : Aside0 (Below w.heap.size w w14) := ⟨h2_⟩; clear BK353; clear BK354; clear HB; clear h0_ h1_ h2_; have BK353 := n0_; have BK354 := n1_; have HB := n2_; clear n0_ n1_ n2_; have hHeld : w14.cell? ⟨gb353, 0, none⟩ = some (.string a0_0) ∧ w14.cell? ⟨gb353, 1, none⟩ = some (.int .i64 a0_1) ∧ w14.cell? ⟨gb353, 2, none⟩ = some (.int .i64 a0_2) ∧ w14.cell? ⟨gb353, 3, none⟩ = some (.string a0_3) ∧ w14.cell? ⟨gb353, 4, none⟩ = some (.string a0_4) ∧ w14.cell? ⟨gb353, 5, none⟩ = some (.bool a0_5) ∧ w14.cell? ⟨gb353, 6, none⟩ = some (.slice A0_6 l0_6.length c0_6) ∧ w14.cell? ⟨gb353, 7, none⟩ = some (.slice A0_7 l0_7.length c0_7) ∧ w14.cell? ⟨gb353, 8, none⟩ = some (.int .i64 a0_8) ∧ w14.cell? ⟨gb353, 9, none⟩ = some (.int .i64 a0_9) ∧ w14.cell? ⟨gb353, 10, none⟩ = some (.int .i64 a0_10) ∧ w14.cell? ⟨gb353, 11, none⟩ = some (.int .i64 a0_11) ∧ w14.cell? ⟨gb353, 12, none⟩ = some (.int .i64 a0_12) ∧ w14.cell? ⟨gb353, 13, none⟩ = some (.slice A0_13 l0_13.length c0_13) ∧ w14.cell? ⟨gb353, 14, none⟩ = some (.slice A0_14 l0_14.length c0_14) := hS_
         refine norm_ (a' := ?_) ?_ ?_
         rotate_left
         ·
          simp only [putAll, Act.put, List.setIfInBounds_toArray, List.set_cons_zero, List.set_cons_succ]
          rfl
         refine two_ (i := 5) (j := 16) (Ni := some 12) (Nj := some 5) (mk 18 15807) (mk 18 81311) rfl rfl rfl rfl (two_of HT_.out (by kernel_rfl)) (by decide) (by decide) (fun K hK => ?_) (fun K hK => ?_)
         ·
          skip
          refine goes_ Try.func26 (by kernel_rfl) rfl #[.int .i64 (wrap64 (a0_1 - 1)), .int .i64 7] (by rfl) rfl rfl am_ ?_
          with_reducible refine (haberdashplay_Mod.calls (wrap64 (a0_1 - 1)) 7 t356 _ A4.out).mono ?_
          rintro e w' ⟨rfl, ⟨nd, rfl⟩⟩
          refine ⟨_, rfl, ?_⟩
          refine hK.out _ _ ⟨cl_ BK353 0, cl_ BK353 1, cl_ BK353 2, cl_ BK353 3, cl_ BK353 4, cl_ BK353 5, cl_ BK353 6, cl_ BK353 7, cl_ BK353 8, cl_ BK353 9, cl_ BK353 10, cl_ BK353 11, cl_ BK353 12, cl_ BK353 13, cl_ BK353 14⟩ (fun hHeld => ?_)
          clear hK K
          refine norm_ pv_ ?_
          refine pure_ (i := 6) (N := some 13) (v := ?_) (a' := ?_) (mk 18 15871) rfl rfl (an_ HT_) nh_ (Or.inl ⟨ry_, ?_⟩) ?_ ?_
          rotate_left; (intro w'; go_simp; with_reducible rfl)
          rotate_left; (exact pu_)
          exact norm_ (by first | (simp only [putAll, Act.put, List.setIfInBounds_toArray, List.set_cons_zero, List.set_cons_succ]; done) | (simp only [putAll, Act.put, List.setIfInBounds_toArray, List.set_cons_zero, List.set_cons_succ]; rfl)) (hJ1_5 () _ ⟨hHeld, (bk_ BK353), (bk_ BK354), (hb2_ HB GE353 GE354)⟩)
         ·
          skip
          refine box_step ?hg (N := 5) ?hd (cs := #[.string (⟨#[]⟩ : ByteArray), .int .i64 0, .int .i64 0, .string (⟨#[]⟩ : ByteArray), .string (⟨#[]⟩ : ByteArray), .bool false, .slice none 0 0, .slice none 0 0, .int .i64 0, .int .i64 0, .int .i64 0, .int .i64 0, .int .i64 0, .slice none 0 0, .slice none 0 0]) (t := 60) ?hr ?_; (case hd => rfl); (case hg => rfl); (case hr => first | (go_simp; done) | (go_simp; rfl))
          intro gb364 hg w15 hbox hb
          have BK364 := Aside0.mk hbox; have GW364 := Aside0.mk (ge_ HB hg (hb2_ HB GE353 GE354)); have GE364 := Aside0.mk (ge_ HB hg (hb2_ HB GE353 GE354)); replace HB := Aside0.mk (below_step (hb2_ HB GE353 GE354) hb); have NB353_364 := Aside0.mk (nl_ BK353 hg); have NB364_353 := Aside0.mk (ng_ BK353 hg)
          replace BK353 := Aside0.mk (bb_ BK353 hb); have NB354_364 := Aside0.mk (nl_ BK354 hg); have NB364_354 := Aside0.mk (ng_ BK354 hg); replace BK354 := Aside0.mk (bb_ BK354 hb); clear hb hbox hg
          refine hK.out _ _ ⟨cl_ BK353 0, cl_ BK353 1, cl_ BK353 2, cl_ BK353 3, cl_ BK353 4, cl_ BK353 5, cl_ BK353 6, cl_ BK353 7, cl_ BK353 8, cl_ BK353 9, cl_ BK353 10, cl_ BK353 11, cl_ BK353 12, cl_ BK353 13, cl_ BK353 14⟩ (fun hHeld => ?_)
          clear hK K
          refine norm_ pv_ ?_
          exact norm_ (by first | (simp only [putAll, Act.put, List.setIfInBounds_toArray, List.set_cons_zero, List.set_cons_succ]; done) | (simp only [putAll, Act.put, List.setIfInBounds_toArray, List.set_cons_zero, List.set_cons_succ]; rfl)) (hJ1_16 (gb364) _ ⟨hHeld, (bk_ BK353), (bk_ BK354), (bk_ BK364), GW364.out, GE364.out, NB353_364.out, NB364_353.out, NB354_364.out, NB364_354.out, (hb3_ HB GE353 GE354 GE364)⟩)
       ·
        skip
        rintro gb364 w15 ⟨hS_, h0_, h1_, h2_, h3_, h4_, h5_, h6_, h7_, h8_, h9_⟩
        have n0_ : Aside0 (w15.heap[gb353]? = some (.cells #[.string a0_0, .int .i64 a0_1, .int .i64 a0_2, .string a0_3, .string a0_4, .bool a0_5, .slice A0_6 l0_6.length c0_6, .slice A0_7 l0_7.length c0_7, .int .i64 a0_8, .int .i64 a0_9, .int .i64 a0_10, .int .i64 a0_11, .int .i64 a0_12, .slice A0_13 l0_13.length c0_13, .slice A0_14 l0_14.length c0_14] 60 (0, 0))) := ⟨h0_⟩
        have n1_ : Aside0 (w15.heap[gb354]? = some (.cells #[.string (⟨#[]⟩ : ByteArray), .int .i64 0, .int .i64 0, .string (⟨#[]⟩ : ByteArray), .string (⟨#[]⟩ : ByteArray), .bool false, .slice none 0 0, .slice none 0 0, .int .i64 0, .int .i64 0, .int .i64 0, .int .i64 0, .int .i64 0, .slice none 0 0, .slice none 0 0] 60 (0, 0))) := ⟨h1_⟩
        have n2_ : Aside0 (w15.heap[gb364]? = some (.cells #[.string (⟨#[]⟩ : ByteArray), .int .i64 0, .int .i64 0, .string (⟨#[]⟩ : ByteArray), .string (⟨#[]⟩ : ByteArray), .bool false, .slice none 0 0, .slice none 0 0, .int .i64 0, .int .i64 0, .int .i64 0, .int .i64 0, .int .i64 0, .slice none 0 0, .slice none 0 0] 60 (0, 0))) := ⟨h2_⟩
        have n3_ : Aside0 (w.heap.size ≤ gb364) := ⟨h3_⟩; have n4_ : Aside0 (w.heap.size ≤ gb364) := ⟨h4_⟩; have n5_ : Aside0 (gb353 ≠ gb364) := ⟨h5_⟩; have n6_ : Aside0 (gb364 ≠ gb353) := ⟨h6_⟩; have n7_ : Aside0 (gb354 ≠ gb364) := ⟨h7_⟩; have n8_ : Aside0 (gb364 ≠ gb354) := ⟨h8_⟩; have n9_ : Aside0 (Below w.heap.size w w15) := ⟨h9_⟩
        clear BK353; clear BK354; clear HB; clear h0_ h1_ h2_ h3_ h4_ h5_ h6_ h7_ h8_ h9_; have BK353 := n0_; have BK354 := n1_; have BK364 := n2_; have GW364 := n3_; have GE364 := n4_; have NB353_364 := n5_; have NB364_353 := n6_; have NB354_364 := n7_; have NB364_354 := n8_; have HB := n9_; clear n0_ n1_ n2_ n3_ n4_ n5_ n6_ n7_ n8_ n9_
        have hHeld : w15.cell? ⟨gb353, 0, none⟩ = some (.string a0_0) ∧ w15.cell? ⟨gb353, 1, none⟩ = some (.int .i64 a0_1) ∧ w15.cell? ⟨gb353, 2, none⟩ = some (.int .i64 a0_2) ∧ w15.cell? ⟨gb353, 3, none⟩ = some (.string a0_3) ∧ w15.cell? ⟨gb353, 4, none⟩ = some (.string a0_4) ∧ w15.cell? ⟨gb353, 5, none⟩ = some (.bool a0_5) ∧ w15.cell? ⟨gb353, 6, none⟩ = some (.slice A0_6 l0_6.length c0_6) ∧ w15.cell? ⟨gb353, 7, none⟩ = some (.slice A0_7 l0_7.length c0_7) ∧ w15.cell? ⟨gb353, 8, none⟩ = some (.int .i64 a0_8) ∧ w15.cell? ⟨gb353, 9, none⟩ = some (.int .i64 a0_9) ∧ w15.cell? ⟨gb353, 10, none⟩ = some (.int .i64 a0_10) ∧ w15.cell? ⟨gb353, 11, none⟩ = some (.int .i64 a0_11) ∧ w15.cell? ⟨gb353, 12, none⟩ = some (.int .i64 a0_12) ∧ w15.cell? ⟨gb353, 13, none⟩ = some (.slice A0_13 l0_13.length c0_13) ∧ w15.cell? ⟨gb353, 14, none⟩ = some (.slice A0_14 l0_14.length c0_14) := hS_
        refine norm_ (a' := ?_) ?_ ?_
        rotate_left
        ·
         simp only [putAll, Act.put, List.setIfInBounds_toArray, List.set_cons_zero, List.set_cons_succ]
         rfl
        refine one_ (i := 5) (N := some 12) (mk 18 81343) rfl rfl (on_ HT_) de_ (fun K hK => ?_)
        refine goes_ Try.func26 (by kernel_rfl) rfl #[.int .i64 (wrap64 (a0_1 - 1)), .int .i64 7] (by rfl) rfl rfl am_ ?_
        with_reducible refine (haberdashplay_Mod.calls (wrap64 (a0_1 - 1)) 7 t356 _ A4.out).mono ?_
        rintro e w' ⟨rfl, ⟨nd, rfl⟩⟩
        refine ⟨_, rfl, ?_⟩
        refine hK.out _ _ ⟨cl_ BK353 0, cl_ BK353 1, cl_ BK353 2, cl_ BK353 3, cl_ BK353 4, cl_ BK353 5, cl_ BK353 6, cl_ BK353 7, cl_ BK353 8, cl_ BK353 9, cl_ BK353 10, cl_ BK353 11, cl_ BK353 12, cl_ BK353 13, cl_ BK353 14⟩ (fun hHeld => ?_)
        clear hK K
        refine norm_ pv_ ?_
        refine pure_ (i := 6) (N := some 13) (v := ?_) (a' := ?_) (mk 18 81407) rfl rfl (an_ HT_) nh_ (Or.inl ⟨ry_, ?_⟩) ?_ ?_
        rotate_left; (intro w'; go_simp; with_reducible rfl)
        rotate_left; (exact pu_)
        exact norm_ (by first | (simp only [putAll, Act.put, List.setIfInBounds_toArray, List.set_cons_zero, List.set_cons_succ]; done) | (simp only [putAll, Act.put, List.setIfInBounds_toArray, List.set_cons_zero, List.set_cons_succ]; rfl)) (hJ1_5_16 (gb364) _ ⟨hHeld, (bk_ BK353), (bk_ BK354), (bk_ BK364), GW364.out, GE364.out, NB353_364.out, NB364_353.out, NB354_364.out, NB364_354.out, (hb3_ HB GE353 GE354 GE364)⟩)
      ·
       skip
       rintro _ w14 ⟨hS_, h0_, h1_, h2_⟩
       have n0_ : Aside0 (w14.heap[gb353]? = some (.cells #[.string a0_0, .int .i64 a0_1, .int .i64 a0_2, .string a0_3, .string a0_4, .bool a0_5, .slice A0_6 l0_6.length c0_6, .slice A0_7 l0_7.length c0_7, .int .i64 a0_8, .int .i64 a0_9, .int .i64 a0_10, .int .i64 a0_11, .int .i64 a0_12, .slice A0_13 l0_13.length c0_13, .slice A0_14 l0_14.length c0_14] 60 (0, 0))) := ⟨h0_⟩
       have n1_ : Aside0 (w14.heap[gb354]? = some (.cells #[.string (⟨#[]⟩ : ByteArray), .int .i64 0, .int .i64 0, .string (⟨#[]⟩ : ByteArray), .string (⟨#[]⟩ : ByteArray), .bool false, .slice none 0 0, .slice none 0 0, .int .i64 0, .int .i64 0, .int .i64 0, .int .i64 0, .int .i64 0, .slice none 0 0, .slice none 0 0] 60 (0, 0))) := ⟨h1_⟩
       have n2_ : Aside0 (Below w.heap.size w w14) := ⟨h2_⟩; clear BK353; clear BK354; clear HB; clear h0_ h1_ h2_; have BK353 := n0_; have BK354 := n1_; have HB := n2_; clear n0_ n1_ n2_; have hHeld : w14.cell? ⟨gb353, 0, none⟩ = some (.string a0_0) ∧ w14.cell? ⟨gb353, 1, none⟩ = some (.int .i64 a0_1) ∧ w14.cell? ⟨gb353, 2, none⟩ = some (.int .i64 a0_2) ∧ w14.cell? ⟨gb353, 3, none⟩ = some (.string a0_3) ∧ w14.cell? ⟨gb353, 4, none⟩ = some (.string a0_4) ∧ w14.cell? ⟨gb353, 5, none⟩ = some (.bool a0_5) ∧ w14.cell? ⟨gb353, 6, none⟩ = some (.slice A0_6 l0_6.length c0_6) ∧ w14.cell? ⟨gb353, 7, none⟩ = some (.slice A0_7 l0_7.length c0_7) ∧ w14.cell? ⟨gb353, 8, none⟩ = some (.int .i64 a0_8) ∧ w14.cell? ⟨gb353, 9, none⟩ = some (.int .i64 a0_9) ∧ w14.cell? ⟨gb353, 10, none⟩ = some (.int .i64 a0_10) ∧ w14.cell? ⟨gb353, 11, none⟩ = some (.int .i64 a0_11) ∧ w14.cell? ⟨gb353, 12, none⟩ = some (.int .i64 a0_12) ∧ w14.cell? ⟨gb353, 13, none⟩ = some (.slice A0_13 l0_13.length c0_13) ∧ w14.cell? ⟨gb353, 14, none⟩ = some (.slice A0_14 l0_14.length c0_14) := hS_
       refine norm_ (a' := ?_) ?_ ?_
       rotate_left
       ·
        simp only [putAll, Act.put, List.setIfInBounds_toArray, List.set_cons_zero, List.set_cons_succ]
        rfl
       refine two_ (i := 9) (j := 16) (Ni := some 16) (Nj := some 5) (mk 18 16383) (mk 18 81407) rfl rfl rfl rfl (two_of HT_.out (by kernel_rfl)) (by decide) (by decide) (fun K hK => ?_) (fun K hK => ?_)
       ·
        skip
        refine goes_ Try.func26 (by kernel_rfl) rfl #[.int .i64 a0_2, .int .i64 5] (by rfl) rfl rfl am_ ?_
        with_reducible refine (haberdashplay_Mod.calls a0_2 5 t357 _ A5.out).mono ?_
        rintro e w' ⟨rfl, ⟨nd, rfl⟩⟩
        refine ⟨_, rfl, ?_⟩
        refine hK.out _ _ ⟨cl_ BK353 0, cl_ BK353 1, cl_ BK353 2, cl_ BK353 3, cl_ BK353 4, cl_ BK353 5, cl_ BK353 6, cl_ BK353 7, cl_ BK353 8, cl_ BK353 9, cl_ BK353 10, cl_ BK353 11, cl_ BK353 12, cl_ BK353 13, cl_ BK353 14⟩ (fun hHeld => ?_)
        clear hK K
        refine norm_ pv_ ?_
        exact norm_ (by first | (simp only [putAll, Act.put, List.setIfInBounds_toArray, List.set_cons_zero, List.set_cons_succ]; done) | (simp only [putAll, Act.put, List.setIfInBounds_toArray, List.set_cons_zero, List.set_cons_succ]; rfl)) (hJ1_5_9 () _ ⟨hHeld, (bk_ BK353), (bk_ BK354), (hb2_ HB GE353 GE354)⟩)
       ·
        skip
        refine box_step ?hg (N := 5) ?hd (cs := #[.string (⟨#[]⟩ : ByteArray), .int .i64 0, .int .i64 0, .string (⟨#[]⟩ : ByteArray), .string (⟨#[]⟩ : ByteArray), .bool false, .slice none 0 0, .slice none 0 0, .int .i64 0, .int .i64 0, .int .i64 0, .int .i64 0, .int .i64 0, .slice none 0 0, .slice none 0 0]) (t := 60) ?hr ?_; (case hd => rfl); (case hg => rfl); (case hr => first | (go_simp; done) | (go_simp; rfl))
        intro gb364 hg w15 hbox hb
        have BK364 := Aside0.mk hbox; have GW364 := Aside0.mk (ge_ HB hg (hb2_ HB GE353 GE354)); have GE364 := Aside0.mk (ge_ HB hg (hb2_ HB GE353 GE354)); replace HB := Aside0.mk (below_step (hb2_ HB GE353 GE354) hb); have NB353_364 := Aside0.mk (nl_ BK353 hg); have NB364_353 := Aside0.mk (ng_ BK353 hg)
        replace BK353 := Aside0.mk (bb_ BK353 hb); have NB354_364 := Aside0.mk (nl_ BK354 hg); have NB364_354 := Aside0.mk (ng_ BK354 hg); replace BK354 := Aside0.mk (bb_ BK354 hb); clear hb hbox hg
        refine hK.out _ _ ⟨cl_ BK353 0, cl_ BK353 1, cl_ BK353 2, cl_ BK353 3, cl_ BK353 4, cl_ BK353 5, cl_ BK353 6, cl_ BK353 7, cl_ BK353 8, cl_ BK353 9, cl_ BK353 10, cl_ BK353 11, cl_ BK353 12, cl_ BK353 13, cl_ BK353 14⟩ (fun hHeld => ?_)
        clear hK K
        refine norm_ pv_ ?_
        exact norm_ (by first | (simp only [putAll, Act.put, List.setIfInBounds_toArray, List.set_cons_zero, List.set_cons_succ]; done) | (simp only [putAll, Act.put, List.setIfInBounds_toArray, List.set_cons_zero, List.set_cons_succ]; rfl)) (hJ1_5_16 (gb364) _ ⟨hHeld, (bk_ BK353), (bk_ BK354), (bk_ BK364), GW364.out, GE364.out, NB353_364.out, NB364_353.out, NB354_364.out, NB364_354.out, (hb3_ HB GE353 GE354 GE364)⟩)
     ·
      skip
      rintro gb364 w15 ⟨hS_, h0_, h1_, h2_, h3_, h4_, h5_, h6_, h7_, h8_, h9_⟩
      have n0_ : Aside0 (w15.heap[gb353]? = some (.cells #[.string a0_0, .int .i64 a0_1, .int .i64 a0_2, .string a0_3, .string a0_4, .bool a0_5, .slice A0_6 l0_6.length c0_6, .slice A0_7 l0_7.length c0_7, .int .i64 a0_8, .int .i64 a0_9, .int .i64 a0_10, .int .i64 a0_11, .int .i64 a0_12, .slice A0_13 l0_13.length c0_13, .slice A0_14 l0_14.length c0_14] 60 (0, 0))) := ⟨h0_⟩
      have n1_ : Aside0 (w15.heap[gb354]? = some (.cells #[.string (⟨#[]⟩ : ByteArray), .int .i64 0, .int .i64 0, .string (⟨#[]⟩ : ByteArray), .string (⟨#[]⟩ : ByteArray), .bool false, .slice none 0 0, .slice none 0 0, .int .i64 0, .int .i64 0, .int .i64 0, .int .i64 0, .int .i64 0, .slice none 0 0, .slice none 0 0] 60 (0, 0))) := ⟨h1_⟩
      have n2_ : Aside0 (w15.heap[gb364]? = some (.cells #[.string (⟨#[]⟩ : ByteArray), .int .i64 0, .int .i64 0, .string (⟨#[]⟩ : ByteArray), .string (⟨#[]⟩ : ByteArray), .bool false, .slice none 0 0, .slice none 0 0, .int .i64 0, .int .i64 0, .int .i64 0, .int .i64 0, .int .i64 0, .slice none 0 0, .slice none 0 0] 60 (0, 0))) := ⟨h2_⟩
      have n3_ : Aside0 (w.heap.size ≤ gb364) := ⟨h3_⟩; have n4_ : Aside0 (w.heap.size ≤ gb364) := ⟨h4_⟩; have n5_ : Aside0 (gb353 ≠ gb364) := ⟨h5_⟩; have n6_ : Aside0 (gb364 ≠ gb353) := ⟨h6_⟩; have n7_ : Aside0 (gb354 ≠ gb364) := ⟨h7_⟩; have n8_ : Aside0 (gb364 ≠ gb354) := ⟨h8_⟩; have n9_ : Aside0 (Below w.heap.size w w15) := ⟨h9_⟩
      clear BK353; clear BK354; clear HB; clear h0_ h1_ h2_ h3_ h4_ h5_ h6_ h7_ h8_ h9_; have BK353 := n0_; have BK354 := n1_; have BK364 := n2_; have GW364 := n3_; have GE364 := n4_; have NB353_364 := n5_; have NB364_353 := n6_; have NB354_364 := n7_; have NB364_354 := n8_; have HB := n9_; clear n0_ n1_ n2_ n3_ n4_ n5_ n6_ n7_ n8_ n9_
      have hHeld : w15.cell? ⟨gb353, 0, none⟩ = some (.string a0_0) ∧ w15.cell? ⟨gb353, 1, none⟩ = some (.int .i64 a0_1) ∧ w15.cell? ⟨gb353, 2, none⟩ = some (.int .i64 a0_2) ∧ w15.cell? ⟨gb353, 3, none⟩ = some (.string a0_3) ∧ w15.cell? ⟨gb353, 4, none⟩ = some (.string a0_4) ∧ w15.cell? ⟨gb353, 5, none⟩ = some (.bool a0_5) ∧ w15.cell? ⟨gb353, 6, none⟩ = some (.slice A0_6 l0_6.length c0_6) ∧ w15.cell? ⟨gb353, 7, none⟩ = some (.slice A0_7 l0_7.length c0_7) ∧ w15.cell? ⟨gb353, 8, none⟩ = some (.int .i64 a0_8) ∧ w15.cell? ⟨gb353, 9, none⟩ = some (.int .i64 a0_9) ∧ w15.cell? ⟨gb353, 10, none⟩ = some (.int .i64 a0_10) ∧ w15.cell? ⟨gb353, 11, none⟩ = some (.int .i64 a0_11) ∧ w15.cell? ⟨gb353, 12, none⟩ = some (.int .i64 a0_12) ∧ w15.cell? ⟨gb353, 13, none⟩ = some (.slice A0_13 l0_13.length c0_13) ∧ w15.cell? ⟨gb353, 14, none⟩ = some (.slice A0_14 l0_14.length c0_14) := hS_
      refine norm_ (a' := ?_) ?_ ?_
      rotate_left
      ·
       simp only [putAll, Act.put, List.setIfInBounds_toArray, List.set_cons_zero, List.set_cons_succ]
       rfl
      refine one_ (i := 9) (N := some 16) (mk 18 81919) rfl rfl (on_ HT_) de_ (fun K hK => ?_)
      refine goes_ Try.func26 (by kernel_rfl) rfl #[.int .i64 a0_2, .int .i64 5] (by rfl) rfl rfl am_ ?_
      with_reducible refine (haberdashplay_Mod.calls a0_2 5 t357 _ A5.out).mono ?_
      rintro e w' ⟨rfl, ⟨nd, rfl⟩⟩
      refine ⟨_, rfl, ?_⟩
      refine hK.out _ _ ⟨cl_ BK353 0, cl_ BK353 1, cl_ BK353 2, cl_ BK353 3, cl_ BK353 4, cl_ BK353 5, cl_ BK353 6, cl_ BK353 7, cl_ BK353 8, cl_ BK353 9, cl_ BK353 10, cl_ BK353 11, cl_ BK353 12, cl_ BK353 13, cl_ BK353 14⟩ (fun hHeld => ?_)
      clear hK K
      refine norm_ pv_ ?_
      exact norm_ (by first | (simp only [putAll, Act.put, List.setIfInBounds_toArray, List.set_cons_zero, List.set_cons_succ]; done) | (simp only [putAll, Act.put, List.setIfInBounds_toArray, List.set_cons_zero, List.set_cons_succ]; rfl)) (hJ1_5_9_16 (gb364) _ ⟨hHeld, (bk_ BK353), (bk_ BK354), (bk_ BK364), GW364.out, GE364.out, NB353_364.out, NB364_353.out, NB354_364.out, NB364_354.out, (hb3_ HB GE353 GE354 GE364)⟩)
    ·
     skip
     rintro _ w14 ⟨hS_, h0_, h1_, h2_⟩
     have n0_ : Aside0 (w14.heap[gb353]? = some (.cells #[.string a0_0, .int .i64 a0_1, .int .i64 a0_2, .string a0_3, .string a0_4, .bool a0_5, .slice A0_6 l0_6.length c0_6, .slice A0_7 l0_7.length c0_7, .int .i64 a0_8, .int .i64 a0_9, .int .i64 a0_10, .int .i64 a0_11, .int .i64 a0_12, .slice A0_13 l0_13.length c0_13, .slice A0_14 l0_14.length c0_14] 60 (0, 0))) := ⟨h0_⟩
     have n1_ : Aside0 (w14.heap[gb354]? = some (.cells #[.string (⟨#[]⟩ : ByteArray), .int .i64 0, .int .i64 0, .string (⟨#[]⟩ : ByteArray), .string (⟨#[]⟩ : ByteArray), .bool false, .slice none 0 0, .slice none 0 0, .int .i64 0, .int .i64 0, .int .i64 0, .int .i64 0, .int .i64 0, .slice none 0 0, .slice none 0 0] 60 (0, 0))) := ⟨h1_⟩
     have n2_ : Aside0 (Below w.heap.size w w14) := ⟨h2_⟩; clear BK353; clear BK354; clear HB; clear h0_ h1_ h2_; have BK353 := n0_; have BK354 := n1_; have HB := n2_; clear n0_ n1_ n2_; have hHeld : w14.cell? ⟨gb353, 0, none⟩ = some (.string a0_0) ∧ w14.cell? ⟨gb353, 1, none⟩ = some (.int .i64 a0_1) ∧ w14.cell? ⟨gb353, 2, none⟩ = some (.int .i64 a0_2) ∧ w14.cell? ⟨gb353, 3, none⟩ = some (.string a0_3) ∧ w14.cell? ⟨gb353, 4, none⟩ = some (.string a0_4) ∧ w14.cell? ⟨gb353, 5, none⟩ = some (.bool a0_5) ∧ w14.cell? ⟨gb353, 6, none⟩ = some (.slice A0_6 l0_6.length c0_6) ∧ w14.cell? ⟨gb353, 7, none⟩ = some (.slice A0_7 l0_7.length c0_7) ∧ w14.cell? ⟨gb353, 8, none⟩ = some (.int .i64 a0_8) ∧ w14.cell? ⟨gb353, 9, none⟩ = some (.int .i64 a0_9) ∧ w14.cell? ⟨gb353, 10, none⟩ = some (.int .i64 a0_10) ∧ w14.cell? ⟨gb353, 11, none⟩ = some (.int .i64 a0_11) ∧ w14.cell? ⟨gb353, 12, none⟩ = some (.int .i64 a0_12) ∧ w14.cell? ⟨gb353, 13, none⟩ = some (.slice A0_13 l0_13.length c0_13) ∧ w14.cell? ⟨gb353, 14, none⟩ = some (.slice A0_14 l0_14.length c0_14) := hS_
     refine norm_ (a' := ?_) ?_ ?_
     rotate_left
     ·
      simp only [putAll, Act.put, List.setIfInBounds_toArray, List.set_cons_zero, List.set_cons_succ]
      rfl
     refine two_ (i := 14) (j := 16) (Ni := some 21) (Nj := some 5) (mk 18 32767) (mk 18 81919) rfl rfl rfl rfl (two_of HT_.out (by kernel_rfl)) (by decide) (by decide) (fun K hK => ?_) (fun K hK => ?_)
     ·
      skip
      refine goes_ Try.func61 (by kernel_rfl) rfl #[.agg #[.slice A0_6 l0_6.length c0_6, .slice A0_7 l0_7.length c0_7]] (by rfl) rfl rfl am_ ?_
      with_reducible refine (haberdashplay_Scope.calls k _ _ l0_6 _ _ l0_7 t358 t361 _ ?side1 ?side2 ?side3 ?side4 A6.out).mono ?_
      (case side1 => exact sc_ (Kd.C_below HR0_6.out HB.out))
      (case side2 => exact HC0_6.out)
      (case side3 => exact sc_ (Kd.C_below HR0_7.out HB.out))
      (case side4 => exact HC0_7.out)
      rintro e w15 ⟨v359, v362, rfl, ho0, ho1, hb⟩
      refine ⟨_, rfl, ?_⟩
      have HO360 := Aside0.mk (Kd.R_lower ho0 (below_size (hb2_ HB GE353 GE354))); have HO363 := Aside0.mk (Kd.R_lower ho1 (below_size (hb2_ HB GE353 GE354))); replace BK353 := Aside0.mk (bb_ BK353 hb); replace BK354 := Aside0.mk (bb_ BK354 hb); replace HB := Aside0.mk (below_step (hb2_ HB GE353 GE354) hb)
      (try clear hb); (try clear hb2); (try clear hk); (try clear hi); (try clear ho0); (try clear ho1); obtain ⟨Ao16, co16, eo16⟩ := Kd.R_slice HO363.out
      (first | subst eo16 | (injection eo16 with f1_ f2_ f3_; have f4_ := f1_.symm; have f5_ := f3_.symm; clear f1_ f2_ f3_; subst f4_; subst f5_))
      obtain ⟨Ao17, co17, eo17⟩ := Kd.R_slice HO360.out
      (first | subst eo17 | (injection eo17 with f1_ f2_ f3_; have f4_ := f1_.symm; have f5_ := f3_.symm; clear f1_ f2_ f3_; subst f4_; subst f5_))
      refine hK.out _ _ ⟨cl_ BK353 0, cl_ BK353 1, cl_ BK353 2, cl_ BK353 3, cl_ BK353 4, cl_ BK353 5, cl_ BK353 6, cl_ BK353 7, cl_ BK353 8, cl_ BK353 9, cl_ BK353 10, cl_ BK353 11, cl_ BK353 12, cl_ BK353 13, cl_ BK353 14⟩ (fun hHeld => ?_)
      clear hK K
      refine norm_ pv_ ?_
      refine pure_ (i := 15) (N := some 22) (v := ?_) (a' := ?_) (mk 18 65535) rfl rfl (an_ HT_) nh_ (Or.inl ⟨ry_, ?_⟩) ?_ ?_
      rotate_left; (intro w'; go_simp; with_reducible rfl)
      rotate_left; (exact pu_)
      exact norm_ (by first | (simp only [putAll, Act.put, List.setIfInBounds_toArray, List.set_cons_zero, List.set_cons_succ]; done) | (simp only [putAll, Act.put, List.setIfInBounds_toArray, List.set_cons_zero, List.set_cons_succ]; rfl)) (hJ1_5_9_14 (.slice Ao17 t358.length co17, .slice Ao16 t361.length co16) _ ⟨hHeld, (ro_ HO360), (ro_ HO363), (bk_ BK353), (bk_ BK354), (hb2_ HB GE353 GE354)⟩)
     ·
      skip
      refine box_step ?hg (N := 5) ?hd (cs := #[.string (⟨#[]⟩ : ByteArray), .int .i64 0, .int .i64 0, .string (⟨#[]⟩ : ByteArray), .string (⟨#[]⟩ : ByteArray), .bool false, .slice none 0 0, .slice none 0 0, .int .i64 0, .int .i64 0, .int .i64 0, .int .i64 0, .int .i64 0, .slice none 0 0, .slice none 0 0]) (t := 60) ?hr ?_; (case hd => rfl); (case hg => rfl); (case hr => first | (go_simp; done) | (go_simp; rfl))
      intro gb364 hg w15 hbox hb
      have BK364 := Aside0.mk hbox; have GW364 := Aside0.mk (ge_ HB hg (hb2_ HB GE353 GE354)); have GE364 := Aside0.mk (ge_ HB hg (hb2_ HB GE353 GE354)); replace HB := Aside0.mk (below_step (hb2_ HB GE353 GE354) hb); have NB353_364 := Aside0.mk (nl_ BK353 hg); have NB364_353 := Aside0.mk (ng_ BK353 hg)
      replace BK353 := Aside0.mk (bb_ BK353 hb); have NB354_364 := Aside0.mk (nl_ BK354 hg); have NB364_354 := Aside0.mk (ng_ BK354 hg); replace BK354 := Aside0.mk (bb_ BK354 hb); clear hb hbox hg
      refine hK.out _ _ ⟨cl_ BK353 0, cl_ BK353 1, cl_ BK353 2, cl_ BK353 3, cl_ BK353 4, cl_ BK353 5, cl_ BK353 6, cl_ BK353 7, cl_ BK353 8, cl_ BK353 9, cl_ BK353 10, cl_ BK353 11, cl_ BK353 12, cl_ BK353 13, cl_ BK353 14⟩ (fun hHeld => ?_)
      clear hK K
      refine norm_ pv_ ?_
      exact norm_ (by first | (simp only [putAll, Act.put, List.setIfInBounds_toArray, List.set_cons_zero, List.set_cons_succ]; done) | (simp only [putAll, Act.put, List.setIfInBounds_toArray, List.set_cons_zero, List.set_cons_succ]; rfl)) (hJ1_5_9_16 (gb364) _ ⟨hHeld, (bk_ BK353), (bk_ BK354), (bk_ BK364), GW364.out, GE364.out, NB353_364.out, NB364_353.out, NB354_364.out, NB364_354.out, (hb3_ HB GE353 GE354 GE364)⟩)
   ·
    skip
    rintro gb364 w15 ⟨hS_, h0_, h1_, h2_, h3_, h4_, h5_, h6_, h7_, h8_, h9_⟩
    have n0_ : Aside0 (w15.heap[gb353]? = some (.cells #[.string a0_0, .int .i64 a0_1, .int .i64 a0_2, .string a0_3, .string a0_4, .bool a0_5, .slice A0_6 l0_6.length c0_6, .slice A0_7 l0_7.length c0_7, .int .i64 a0_8, .int .i64 a0_9, .int .i64 a0_10, .int .i64 a0_11, .int .i64 a0_12, .slice A0_13 l0_13.length c0_13, .slice A0_14 l0_14.length c0_14] 60 (0, 0))) := ⟨h0_⟩
    have n1_ : Aside0 (w15.heap[gb354]? = some (.cells #[.string (⟨#[]⟩ : ByteArray), .int .i64 0, .int .i64 0, .string (⟨#[]⟩ : ByteArray), .string (⟨#[]⟩ : ByteArray), .bool false, .slice none 0 0, .slice none 0 0, .int .i64 0, .int .i64 0, .int .i64 0, .int .i64 0, .int .i64 0, .slice none 0 0, .slice none 0 0] 60 (0, 0))) := ⟨h1_⟩
    have n2_ : Aside0 (w15.heap[gb364]? = some (.cells #[.string (⟨#[]⟩ : ByteArray), .int .i64 0, .int .i64 0, .string (⟨#[]⟩ : ByteArray), .string (⟨#[]⟩ : ByteArray), .bool false, .slice none 0 0, .slice none 0 0, .int .i64 0, .int .i64 0, .int .i64 0, .int .i64 0, .int .i64 0, .slice none 0 0, .slice none 0 0] 60 (0, 0))) := ⟨h2_⟩
    have n3_ : Aside0 (w.heap.size ≤ gb364) := ⟨h3_⟩; have n4_ : Aside0 (w.heap.size ≤ gb364) := ⟨h4_⟩; have n5_ : Aside0 (gb353 ≠ gb364) := ⟨h5_⟩; have n6_ : Aside0 (gb364 ≠ gb353) := ⟨h6_⟩; have n7_ : Aside0 (gb354 ≠ gb364) := ⟨h7_⟩; have n8_ : Aside0 (gb364 ≠ gb354) := ⟨h8_⟩; have n9_ : Aside0 (Below w.heap.size w w15) := ⟨h9_⟩
    clear BK353; clear BK354; clear HB; clear h0_ h1_ h2_ h3_ h4_ h5_ h6_ h7_ h8_ h9_; have BK353 := n0_; have BK354 := n1_; have BK364 := n2_; have GW364 := n3_; have GE364 := n4_; have NB353_364 := n5_; have NB364_353 := n6_; have NB354_364 := n7_; have NB364_354 := n8_; have HB := n9_; clear n0_ n1_ n2_ n3_ n4_ n5_ n6_ n7_ n8_ n9_
    have hHeld : w15.cell? ⟨gb353, 0, none⟩ = some (.string a0_0) ∧ w15.cell? ⟨gb353, 1, none⟩ = some (.int .i64 a0_1) ∧ w15.cell? ⟨gb353, 2, none⟩ = some (.int .i64 a0_2) ∧ w15.cell? ⟨gb353, 3, none⟩ = some (.string a0_3) ∧ w15.cell? ⟨gb353, 4, none⟩ = some (.string a0_4) ∧ w15.cell? ⟨gb353, 5, none⟩ = some (.bool a0_5) ∧ w15.cell? ⟨gb353, 6, none⟩ = some (.slice A0_6 l0_6.length c0_6) ∧ w15.cell? ⟨gb353, 7, none⟩ = some (.slice A0_7 l0_7.length c0_7) ∧ w15.cell? ⟨gb353, 8, none⟩ = some (.int .i64 a0_8) ∧ w15.cell? ⟨gb353, 9, none⟩ = some (.int .i64 a0_9) ∧ w15.cell? ⟨gb353, 10, none⟩ = some (.int .i64 a0_10) ∧ w15.cell? ⟨gb353, 11, none⟩ = some (.int .i64 a0_11) ∧ w15.cell? ⟨gb353, 12, none⟩ = some (.int .i64 a0_12) ∧ w15.cell? ⟨gb353, 13, none⟩ = some (.slice A0_13 l0_13.length c0_13) ∧ w15.cell? ⟨gb353, 14, none⟩ = some (.slice A0_14 l0_14.length c0_14) := hS_
    refine norm_ (a' := ?_) ?_ ?_
    rotate_left
    ·
     simp only [putAll, Act.put, List.setIfInBounds_toArray, List.set_cons_zero, List.set_cons_succ]
     rfl
    refine one_ (i := 14) (N := some 21) (mk 18 98303) rfl rfl (on_ HT_) de_ (fun K hK => ?_)
    refine goes_ Try.func61 (by kernel_rfl) rfl #[.agg #[.slice A0_6 l0_6.length c0_6, .slice A0_7 l0_7.length c0_7]] (by rfl) rfl rfl am_ ?_
    with_reducible refine (haberdashplay_Scope.calls k _ _ l0_6 _ _ l0_7 t358 t361 _ ?side1 ?side2 ?side3 ?side4 A6.out).mono ?_
    (case side1 => exact sc_ (Kd.C_below HR0_6.out HB.out))
    (case side2 => exact HC0_6.out)
    (case side3 => exact sc_ (Kd.C_below HR0_7.out HB.out))
    (case side4 => exact HC0_7.out)
    rintro e w16 ⟨v359, v362, rfl, ho0, ho1, hb⟩
    refine ⟨_, rfl, ?_⟩
    have HO360 := Aside0.mk (Kd.R_lower ho0 (below_size (hb3_ HB GE353 GE354 GE364))); have HO363 := Aside0.mk (Kd.R_lower ho1 (below_size (hb3_ HB GE353 GE354 GE364))); replace BK353 := Aside0.mk (bb_ BK353 hb); replace BK354 := Aside0.mk (bb_ BK354 hb); replace BK364 := Aside0.mk (bb_ BK364 hb); replace HB := Aside0.mk (below_step (hb3_ HB GE353 GE354 GE364) hb)
    (try clear hb); (try clear hb2); (try clear hk); (try clear hi); (try clear ho0); (try clear ho1); obtain ⟨Ao17, co17, eo17⟩ := Kd.R_slice HO363.out
    (first | subst eo17 | (injection eo17 with f1_ f2_ f3_; have f4_ := f1_.symm; have f5_ := f3_.symm; clear f1_ f2_ f3_; subst f4_; subst f5_))
    obtain ⟨Ao18, co18, eo18⟩ := Kd.R_slice HO360.out
    (first | subst eo18 | (injection eo18 with f1_ f2_ f3_; have f4_ := f1_.symm; have f5_ := f3_.symm; clear f1_ f2_ f3_; subst f4_; subst f5_))
    refine hK.out _ _ ⟨cl_ BK353 0, cl_ BK353 1, cl_ BK353 2, cl_ BK353 3, cl_ BK353 4, cl_ BK353 5, cl_ BK353 6, cl_ BK353 7, cl_ BK353 8, cl_ BK353 9, cl_ BK353 10, cl_ BK353 11, cl_ BK353 12, cl_ BK353 13, cl_ BK353 14⟩ (fun hHeld => ?_)
    clear hK K
    refine norm_ pv_ ?_
    refine pure_ (i := 15) (N := some 22) (v := ?_) (a' := ?_) (mk 18 131071) rfl rfl (an_ HT_) nh_ (Or.inl ⟨ry_, ?_⟩) ?_ ?_
    rotate_left; (intro w'; go_simp; with_reducible rfl)
    rotate_left; (exact pu_)
    exact norm_ (by first | (simp only [putAll, Act.put, List.setIfInBounds_toArray, List.set_cons_zero, List.set_cons_succ]; done) | (simp only [putAll, Act.put, List.setIfInBounds_toArray, List.set_cons_zero, List.set_cons_succ]; rfl)) (hJ1_5_9_14_16 (.slice Ao18 t358.length co18, .slice Ao17 t361.length co17, gb364) _ ⟨hHeld, (ro_ HO360), (ro_ HO363), (bk_ BK353), (bk_ BK354), (bk_ BK364), GW364.out, GE364.out, NB353_364.out, NB364_353.out, NB354_364.out, NB364_354.out, (hb3_ HB GE353 GE354 GE364)⟩)
  ·
   skip
   rintro ⟨v359, v362⟩ w17 ⟨hS_, h0_, h1_, h2_, h3_, h4_⟩
   have n0_ : Aside0 (Kd.R Kd.string 9 w17 w.heap.size (fun k_ => some k_ ≠ (v362 : Value).ownBlock) v359 t358) := ⟨h0_⟩
   have n1_ : Aside0 (Kd.R Kd.string 9 w17 w.heap.size (fun k_ => some k_ ≠ (v359 : Value).ownBlock) v362 t361) := ⟨h1_⟩
   have n2_ : Aside0 (w17.heap[gb353]? = some (.cells #[.string a0_0, .int .i64 a0_1, .int .i64 a0_2, .string a0_3, .string a0_4, .bool a0_5, .slice A0_6 l0_6.length c0_6, .slice A0_7 l0_7.length c0_7, .int .i64 a0_8, .int .i64 a0_9, .int .i64 a0_10, .int .i64 a0_11, .int .i64 a0_12, .slice A0_13 l0_13.length c0_13, .slice A0_14 l0_14.length c0_14] 60 (0, 0))) := ⟨h2_⟩
   have n3_ : Aside0 (w17.heap[gb354]? = some (.cells #[.string (⟨#[]⟩ : ByteArray), .int .i64 0, .int .i64 0, .string (⟨#[]⟩ : ByteArray), .string (⟨#[]⟩ : ByteArray), .bool false, .slice none 0 0, .slice none 0 0, .int .i64 0, .int .i64 0, .int .i64 0, .int .i64 0, .int .i64 0, .slice none 0 0, .slice none 0 0] 60 (0, 0))) := ⟨h3_⟩
   have n4_ : Aside0 (Below w.heap.size w w17) := ⟨h4_⟩; clear BK353; clear BK354; clear HB; clear h0_ h1_ h2_ h3_ h4_; have HO360 := n0_; have HO363 := n1_; have BK353 := n2_; have BK354 := n3_; have HB := n4_; clear n0_ n1_ n2_ n3_ n4_; have hHeld : w17.cell? ⟨gb353, 0, none⟩ = some (.string a0_0) ∧ w17.cell? ⟨gb353, 1, none⟩ = some (.int .i64 a0_1) ∧ w17.cell? ⟨gb353, 2, none⟩ = some (.int .i64 a0_2) ∧ w17.cell? ⟨gb353, 3, none⟩ = some (.string a0_3) ∧ w17.cell? ⟨gb353, 4, none⟩ = some (.string a0_4) ∧ w17.cell? ⟨gb353, 5, none⟩ = some (.bool a0_5) ∧ w17.cell? ⟨gb353, 6, none⟩ = some (.slice A0_6 l0_6.length c0_6) ∧ w17.cell? ⟨gb353, 7, none⟩ = some (.slice A0_7 l0_7.length c0_7) ∧ w17.cell? ⟨gb353, 8, none⟩ = some (.int .i64 a0_8) ∧ w17.cell? ⟨gb353, 9, none⟩ = some (.int .i64 a0_9) ∧ w17.cell? ⟨gb353, 10, none⟩ = some (.int .i64 a0_10) ∧ w17.cell? ⟨gb353, 11, none⟩ = some (.int .i64 a0_11) ∧ w17.cell? ⟨gb353, 12, none⟩ = some (.int .i64 a0_12) ∧ w17.cell? ⟨gb353, 13, none⟩ = some (.slice A0_13 l0_13.length c0_13) ∧ w17.cell? ⟨gb353, 14, none⟩ = some (.slice A0_14 l0_14.length c0_14) := hS_
   obtain ⟨Ao18, co18, eo18⟩ := Kd.R_slice HO363.out
   (first | subst eo18 | (injection eo18 with f1_ f2_ f3_; have f4_ := f1_.symm; have f5_ := f3_.symm; clear f1_ f2_ f3_; subst f4_; subst f5_))
   obtain ⟨Ao19, co19, eo19⟩ := Kd.R_slice HO360.out
   (first | subst eo19 | (injection eo19 with f1_ f2_ f3_; have f4_ := f1_.symm; have f5_ := f3_.symm; clear f1_ f2_ f3_; subst f4_; subst f5_))
   refine norm_ (a' := ?_) ?_ ?_
   rotate_left
   ·
    simp only [putAll, Act.put, List.setIfInBounds_toArray, List.set_cons_zero, List.set_cons_succ]
    rfl
   refine one_ (i := 16) (N := some 5) (mk 18 131071) rfl rfl (on_ HT_) de_ (fun K hK => ?_)
   refine box_step ?hg (N := 5) ?hd (cs := #[.string (⟨#[]⟩ : ByteArray), .int .i64 0, .int .i64 0, .string (⟨#[]⟩ : ByteArray), .string (⟨#[]⟩ : ByteArray), .bool false, .slice none 0 0, .slice none 0 0, .int .i64 0, .int .i64 0, .int .i64 0, .int .i64 0, .int .i64 0, .slice none 0 0, .slice none 0 0]) (t := 60) ?hr ?_; (case hd => rfl); (case hg => rfl); (case hr => first | (go_simp; done) | (go_simp; rfl))
   intro gb364 hg w20 hbox hb
   replace HO360 := Aside0.mk (Kd.R_below (ro_ HO360) hb); replace HO363 := Aside0.mk (Kd.R_below (ro_ HO363) hb); have BK364 := Aside0.mk hbox; have GW364 := Aside0.mk (ge_ HB hg (hb2_ HB GE353 GE354)); have GE364 := Aside0.mk (ge_ HB hg (hb2_ HB GE353 GE354)); replace HB := Aside0.mk (below_step (hb2_ HB GE353 GE354) hb)
   have NB353_364 := Aside0.mk (nl_ BK353 hg); have NB364_353 := Aside0.mk (ng_ BK353 hg); replace BK353 := Aside0.mk (bb_ BK353 hb); have NB354_364 := Aside0.mk (nl_ BK354 hg); have NB364_354 := Aside0.mk (ng_ BK354 hg); replace BK354 := Aside0.mk (bb_ BK354 hb); clear hb hbox hg
   refine hK.out _ _ ⟨cl_ BK353 0, cl_ BK353 1, cl_ BK353 2, cl_ BK353 3, cl_ BK353 4, cl_ BK353 5, cl_ BK353 6, cl_ BK353 7, cl_ BK353 8, cl_ BK353 9, cl_ BK353 10, cl_ BK353 11, cl_ BK353 12, cl_ BK353 13, cl_ BK353 14⟩ (fun hHeld => ?_)
   clear hK K
   refine norm_ pv_ ?_
   exact norm_ (by first | (simp only [putAll, Act.put, List.setIfInBounds_toArray, List.set_cons_zero, List.set_cons_succ]; done) | (simp only [putAll, Act.put, List.setIfInBounds_toArray, List.set_cons_zero, List.set_cons_succ]; rfl)) (hJ1_5_9_14_16 (.slice Ao19 t358.length co19, .slice Ao18 t361.length co18, gb364) _ ⟨hHeld, (ro_ HO360), (ro_ HO363), (bk_ BK353), (bk_ BK354), (bk_ BK364), GW364.out, GE364.out, NB353_364.out, NB364_353.out, NB354_364.out, NB364_354.out, (hb3_ HB GE353 GE354 GE364)⟩)
 rintro ⟨v359, v362, gb364⟩ w18 ⟨hS_, h0_, h1_, h2_, h3_, h4_, h5_, h6_, h7_, h8_, h9_, h10_, h11_⟩
 have n0_ : Aside0 (Kd.R Kd.string 9 w18 w.heap.size (fun k_ => some k_ ≠ (v362 : Value).ownBlock) v359 t358) := ⟨h0_⟩
 have n1_ : Aside0 (Kd.R Kd.string 9 w18 w.heap.size (fun k_ => some k_ ≠ (v359 : Value).ownBlock) v362 t361) := ⟨h1_⟩
 have n2_ : Aside0 (w18.heap[gb353]? = some (.cells #[.string a0_0, .int .i64 a0_1, .int .i64 a0_2, .string a0_3, .string a0_4, .bool a0_5, .slice A0_6 l0_6.length c0_6, .slice A0_7 l0_7.length c0_7, .int .i64 a0_8, .int .i64 a0_9, .int .i64 a0_10, .int .i64 a0_11, .int .i64 a0_12, .slice A0_13 l0_13.length c0_13, .slice A0_14 l0_14.length c0_14] 60 (0, 0))) := ⟨h2_⟩
 have n3_ : Aside0 (w18.heap[gb354]? = some (.cells #[.string (⟨#[]⟩ : ByteArray), .int .i64 0, .int .i64 0, .string (⟨#[]⟩ : ByteArray), .string (⟨#[]⟩ : ByteArray), .bool false, .slice none 0 0, .slice none 0 0, .int .i64 0, .int .i64 0, .int .i64 0, .int .i64 0, .int .i64 0, .slice none 0 0, .slice none 0 0] 60 (0, 0))) := ⟨h3_⟩
 have n4_ : Aside0 (w18.heap[gb364]? = some (.cells #[.string (⟨#[]⟩ : ByteArray), .int .i64 0, .int .i64 0, .string (⟨#[]⟩ : ByteArray), .string (⟨#[]⟩ : ByteArray), .bool false, .slice none 0 0, .slice none 0 0, .int .i64 0, .int .i64 0, .int .i64 0, .int .i64 0, .int .i64 0, .slice none 0 0, .slice none 0 0] 60 (0, 0))) := ⟨h4_⟩
 have n5_ : Aside0 (w.heap.size ≤ gb364) := ⟨h5_⟩
 have n6_ : Aside0 (w.heap.size ≤ gb364) := ⟨h6_⟩
 have n7_ : Aside0 (gb353 ≠ gb364) := ⟨h7_⟩
 have n8_ : Aside0 (gb364 ≠ gb353) := ⟨h8_⟩
 have n9_ : Aside0 (gb354 ≠ gb364) := ⟨h9_⟩
 have n10_ : Aside0 (gb364 ≠ gb354) := ⟨h10_⟩
 have n11_ : Aside0 (Below w.heap.size w w18) := ⟨h11_⟩
 clear BK353
 clear BK354
 clear HB
 clear h0_ h1_ h2_ h3_ h4_ h5_ h6_ h7_ h8_ h9_ h10_ h11_
 have HO360 := n0_
 have HO363 := n1_
 have BK353 := n2_
 have BK354 := n3_
 have BK364 := n4_
 have GW364 := n5_
 have GE364 := n6_
 have NB353_364 := n7_
 have NB364_353 := n8_
 have NB354_364 := n9_
 have NB364_354 := n10_
 have HB := n11_
 clear n0_ n1_ n2_ n3_ n4_ n5_ n6_ n7_ n8_ n9_ n10_ n11_
 have hHeld : w18.cell? ⟨gb353, 0, none⟩ = some (.string a0_0) ∧ w18.cell? ⟨gb353, 1, none⟩ = some (.int .i64 a0_1) ∧ w18.cell? ⟨gb353, 2, none⟩ = some (.int .i64 a0_2) ∧ w18.cell? ⟨gb353, 3, none⟩ = some (.string a0_3) ∧ w18.cell? ⟨gb353, 4, none⟩ = some (.string a0_4) ∧ w18.cell? ⟨gb353, 5, none⟩ = some (.bool a0_5) ∧ w18.cell? ⟨gb353, 6, none⟩ = some (.slice A0_6 l0_6.length c0_6) ∧ w18.cell? ⟨gb353, 7, none⟩ = some (.slice A0_7 l0_7.length c0_7) ∧ w18.cell? ⟨gb353, 8, none⟩ = some (.int .i64 a0_8) ∧ w18.cell? ⟨gb353, 9, none⟩ = some (.int .i64 a0_9) ∧ w18.cell? ⟨gb353, 10, none⟩ = some (.int .i64 a0_10) ∧ w18.cell? ⟨gb353, 11, none⟩ = some (.int .i64 a0_11) ∧ w18.cell? ⟨gb353, 12, none⟩ = some (.int .i64 a0_12) ∧ w18.cell? ⟨gb353, 13, none⟩ = some (.slice A0_13 l0_13.length c0_13) ∧ w18.cell? ⟨gb353, 14, none⟩ = some (.slice A0_14 l0_14.length c0_14) := hS_
 obtain ⟨Ao19, co19, eo19⟩ := Kd.R_slice HO363.out
 (first | subst eo19 | (injection eo19 with f1_ f2_ f3_; have f4_ := f1_.symm; have f5_ := f3_.symm; clear f1_ f2_ f3_; subst f4_; subst f5_))
 obtain ⟨Ao20, co20, eo20⟩ := Kd.R_slice HO360.out
 (first | subst eo20 | (injection eo20 with f1_ f2_ f3_; have f4_ := f1_.symm; have f5_ := f3_.symm; clear f1_ f2_ f3_; subst f4_; subst f5_))
 refine norm_ (a' := ?_) ?_ ?_
 rotate_left
 ·
  simp only [putAll, Act.put, List.setIfInBounds_toArray, List.set_cons_zero, List.set_cons_succ]
  rfl
 refine one_ (i := 17) (N := none) (mk 18 262143) rfl rfl (on_ HT_) de_ (fun K hK => ?_)
 have hs21 : w18.cell? ⟨gb364, 0, none⟩ = some (.string (⟨#[]⟩ : ByteArray)) := (blk_cell BK364.out 0).trans rfl
 have hfs21 := blk_frozen BK364.out 0
 have hns21_0 := NB353_364.out
 have hns21_1 := NB354_364.out
 have hms21_0 := NB364_353.out
 have hms21_1 := NB364_354.out
 have hs22 : w18.cell? ⟨gb364, 1, none⟩ = some (.int .i64 0) := (blk_cell BK364.out 1).trans rfl
 have hfs22 := blk_frozen BK364.out 1
 have hns22_0 := NB353_364.out
 have hns22_1 := NB354_364.out
 have hms22_0 := NB364_353.out
 have hms22_1 := NB364_354.out
 have hs23 : w18.cell? ⟨gb364, 2, none⟩ = some (.int .i64 0) := (blk_cell BK364.out 2).trans rfl
 have hfs23 := blk_frozen BK364.out 2
 have hns23_0 := NB353_364.out
 have hns23_1 := NB354_364.out
 have hms23_0 := NB364_353.out
 have hms23_1 := NB364_354.out
 have hs24 : w18.cell? ⟨gb364, 3, none⟩ = some (.string (⟨#[]⟩ : ByteArray)) := (blk_cell BK364.out 3).trans rfl
 have hfs24 := blk_frozen BK364.out 3
 have hns24_0 := NB353_364.out
 have hns24_1 := NB354_364.out
 have hms24_0 := NB364_353.out
 have hms24_1 := NB364_354.out
 have hs25 : w18.cell? ⟨gb364, 4, none⟩ = some (.string (⟨#[]⟩ : ByteArray)) := (blk_cell BK364.out 4).trans rfl
 have hfs25 := blk_frozen BK364.out 4
 have hns25_0 := NB353_364.out
 have hns25_1 := NB354_364.out
 have hms25_0 := NB364_353.out
 have hms25_1 := NB364_354.out
 have hs26 : w18.cell? ⟨gb364, 5, none⟩ = some (.bool false) := (blk_cell BK364.out 5).trans rfl
 have hfs26 := blk_frozen BK364.out 5
 have hns26_0 := NB353_364.out
 have hns26_1 := NB354_364.out
 have hms26_0 := NB364_353.out
 have hms26_1 := NB364_354.out
 have hs27 : w18.cell? ⟨gb364, 6, none⟩ = some (.slice none 0 0) := (blk_cell BK364.out 6).trans rfl
 have hfs27 := blk_frozen BK364.out 6
 have hns27_0 := NB353_364.out
 have hns27_1 := NB354_364.out
 have hms27_0 := NB364_353.out
 have hms27_1 := NB364_354.out
 have hs28 : w18.cell? ⟨gb364, 7, none⟩ = some (.slice none 0 0) := (blk_cell BK364.out 7).trans rfl
 have hfs28 := blk_frozen BK364.out 7
 have hns28_0 := NB353_364.out
 have hns28_1 := NB354_364.out
 have hms28_0 := NB364_353.out
 have hms28_1 := NB364_354.out
 have hs29 : w18.cell? ⟨gb364, 8, none⟩ = some (.int .i64 0) := (blk_cell BK364.out 8).trans rfl
 have hfs29 := blk_frozen BK364.out 8
 have hns29_0 := NB353_364.out
 have hns29_1 := NB354_364.out
 have hms29_0 := NB364_353.out
 have hms29_1 := NB364_354.out
 have hs30 : w18.cell? ⟨gb364, 9, none⟩ = some (.int .i64 0) := (blk_cell BK364.out 9).trans rfl
 have hfs30 := blk_frozen BK364.out 9
 have hns30_0 := NB353_364.out
 have hns30_1 := NB354_364.out
 have hms30_0 := NB364_353.out
 have hms30_1 := NB364_354.out
 have hs31 : w18.cell? ⟨gb364, 10, none⟩ = some (.int .i64 0) := (blk_cell BK364.out 10).trans rfl
 have hfs31 := blk_frozen BK364.out 10
 have hns31_0 := NB353_364.out
 have hns31_1 := NB354_364.out
 have hms31_0 := NB364_353.out
 have hms31_1 := NB364_354.out
 have hs32 : w18.cell? ⟨gb364, 11, none⟩ = some (.int .i64 0) := (blk_cell BK364.out 11).trans rfl
 have hfs32 := blk_frozen BK364.out 11
 have hns32_0 := NB353_364.out
 have hns32_1 := NB354_364.out
 have hms32_0 := NB364_353.out
 have hms32_1 := NB364_354.out
 have hs33 : w18.cell? ⟨gb364, 12, none⟩ = some (.int .i64 0) := (blk_cell BK364.out 12).trans rfl
 have hfs33 := blk_frozen BK364.out 12
 have hns33_0 := NB353_364.out
 have hns33_1 := NB354_364.out
 have hms33_0 := NB364_353.out
 have hms33_1 := NB364_354.out
 have hs34 : w18.cell? ⟨gb364, 13, none⟩ = some (.slice none 0 0) := (blk_cell BK364.out 13).trans rfl
 have hfs34 := blk_frozen BK364.out 13
 have hns34_0 := NB353_364.out
 have hns34_1 := NB354_364.out
 have hms34_0 := NB364_353.out
 have hms34_1 := NB364_354.out
 have hs35 : w18.cell? ⟨gb364, 14, none⟩ = some (.slice none 0 0) := (blk_cell BK364.out 14).trans rfl
 have hfs35 := blk_frozen BK364.out 14
 have hns35_0 := NB353_364.out
 have hns35_1 := NB354_364.out
 have hms35_0 := NB364_353.out
 have hms35_1 := NB364_354.out
 refine skip_ (w1 := ?_) (by rfl) rfl ?_ ?_
 rotate_left
 ·
  go_simp
  rfl
 refine hK.out _ _ ⟨(cf1_ NB353_364 (cf1_ NB353_364 (cf1_ NB353_364 (cf1_ NB353_364 (cf1_ NB353_364 (cf1_ NB353_364 (cf1_ NB353_364 (cf1_ NB353_364 (cf1_ NB353_364 (cf1_ NB353_364 (cf1_ NB353_364 (cf1_ NB353_364 (cf1_ NB353_364 (cf1_ NB353_364 (cf1_ NB353_364 (hHeld.1)))))))))))))))), (cf1_ NB353_364 (cf1_ NB353_364 (cf1_ NB353_364 (cf1_ NB353_364 (cf1_ NB353_364 (cf1_ NB353_364 (cf1_ NB353_364 (cf1_ NB353_364 (cf1_ NB353_364 (cf1_ NB353_364 (cf1_ NB353_364 (cf1_ NB353_364 (cf1_ NB353_364 (cf1_ NB353_364 (cf1_ NB353_364 (hHeld.2.1)))))))))))))))), (cf1_ NB353_364 (cf1_ NB353_364 (cf1_ NB353_364 (cf1_ NB353_364 (cf1_ NB353_364 (cf1_ NB353_364 (cf1_ NB353_364 (cf1_ NB353_364 (cf1_ NB353_364 (cf1_ NB353_364 (cf1_ NB353_364 (cf1_ NB353_364 (cf1_ NB353_364 (cf1_ NB353_364 (cf1_ NB353_364 (hHeld.2.2.1)))))))))))))))), (cf1_ NB353_364 (cf1_ NB353_364 (cf1_ NB353_364 (cf1_ NB353_364 (cf1_ NB353_364 (cf1_ NB353_364 (cf1_ NB353_364 (cf1_ NB353_364 (cf1_ NB353_364 (cf1_ NB353_364 (cf1_ NB353_364 (cf1_ NB353_364 (cf1_ NB353_364 (cf1_ NB353_364 (cf1_ NB353_364 (hHeld.2.2.2.1)))))))))))))))), (cf1_ NB353_364 (cf1_ NB353_364 (cf1_ NB353_364 (cf1_ NB353_364 (cf1_ NB353_364 (cf1_ NB353_364 (cf1_ NB353_364 (cf1_ NB353_364 (cf1_ NB353_364 (cf1_ NB353_364 (cf1_ NB353_364 (cf1_ NB353_364 (cf1_ NB353_364 (cf1_ NB353_364 (cf1_ NB353_364 (hHeld.2.2.2.2.1)))))))))))))))), (cf1_ NB353_364 (cf1_ NB353_364 (cf1_ NB353_364 (cf1_ NB353_364 (cf1_ NB353_364 (cf1_ NB353_364 (cf1_ NB353_364 (cf1_ NB353_364 (cf1_ NB353_364 (cf1_ NB353_364 (cf1_ NB353_364 (cf1_ NB353_364 (cf1_ NB353_364 (cf1_ NB353_364 (cf1_ NB353_364 (hHeld.2.2.2.2.2.1)))))))))))))))), (cf1_ NB353_364 (cf1_ NB353_364 (cf1_ NB353_364 (cf1_ NB353_364 (cf1_ NB353_364 (cf1_ NB353_364 (cf1_ NB353_364 (cf1_ NB353_364 (cf1_ NB353_364 (cf1_ NB353_364 (cf1_ NB353_364 (cf1_ NB353_364 (cf1_ NB353_364 (cf1_ NB353_364 (cf1_ NB353_364 (hHeld.2.2.2.2.2.2.1)))))))))))))))), (cf1_ NB353_364 (cf1_ NB353_364 (cf1_ NB353_364 (cf1_ NB353_364 (cf1_ NB353_364 (cf1_ NB353_364 (cf1_ NB353_364 (cf1_ NB353_364 (cf1_ NB353_364 (cf1_ NB353_364 (cf1_ NB353_364 (cf1_ NB353_364 (cf1_ NB353_364 (cf1_ NB353_364 (cf1_ NB353_364 (hHeld.2.2.2.2.2.2.2.1)))))))))))))))), (cf1_ NB353_364 (cf1_ NB353_364 (cf1_ NB353_364 (cf1_ NB353_364 (cf1_ NB353_364 (cf1_ NB353_364 (cf1_ NB353_364 (cf1_ NB353_364 (cf1_ NB353_364 (cf1_ NB353_364 (cf1_ NB353_364 (cf1_ NB353_364 (cf1_ NB353_364 (cf1_ NB353_364 (cf1_ NB353_364 (hHeld.2.2.2.2.2.2.2.2.1)))))))))))))))), (cf1_ NB353_364 (cf1_ NB353_364 (cf1_ NB353_364 (cf1_ NB353_364 (cf1_ NB353_364 (cf1_ NB353_364 (cf1_ NB353_364 (cf1_ NB353_364 (cf1_ NB353_364 (cf1_ NB353_364 (cf1_ NB353_364 (cf1_ NB353_364 (cf1_ NB353_364 (cf1_ NB353_364 (cf1_ NB353_364 (hHeld.2.2.2.2.2.2.2.2.2.1)))))))))))))))), (cf1_ NB353_364 (cf1_ NB353_364 (cf1_ NB353_364 (cf1_ NB353_364 (cf1_ NB353_364 (cf1_ NB353_364 (cf1_ NB353_364 (cf1_ NB353_364 (cf1_ NB353_364 (cf1_ NB353_364 (cf1_ NB353_364 (cf1_ NB353_364 (cf1_ NB353_364 (cf1_ NB353_364 (cf1_ NB353_364 (hHeld.2.2.2.2.2.2.2.2.2.2.1)))))))))))))))), (cf1_ NB353_364 (cf1_ NB353_364 (cf1_ NB353_364 (cf1_ NB353_364 (cf1_ NB353_364 (cf1_ NB353_364 (cf1_ NB353_364 (cf1_ NB353_364 (cf1_ NB353_364 (cf1_ NB353_364 (cf1_ NB353_364 (cf1_ NB353_364 (cf1_ NB353_364 (cf1_ NB353_364 (cf1_ NB353_364 (hHeld.2.2.2.2.2.2.2.2.2.2.2.1)))))))))))))))), (cf1_ NB353_364 (cf1_ NB353_364 (cf1_ NB353_364 (cf1_ NB353_364 (cf1_ NB353_364 (cf1_ NB353_364 (cf1_ NB353_364 (cf1_ NB353_364 (cf1_ NB353_364 (cf1_ NB353_364 (cf1_ NB353_364 (cf1_ NB353_364 (cf1_ NB353_364 (cf1_ NB353_364 (cf1_ NB353_364 (hHeld.2.2.2.2.2.2.2.2.2.2.2.2.1)))))))))))))))), (cf1_ NB353_364 (cf1_ NB353_364 (cf1_ NB353_364 (cf1_ NB353_364 (cf1_ NB353_364 (cf1_ NB353_364 (cf1_ NB353_364 (cf1_ NB353_364 (cf1_ NB353_364 (cf1_ NB353_364 (cf1_ NB353_364 (cf1_ NB353_364 (cf1_ NB353_364 (cf1_ NB353_364 (cf1_ NB353_364 (hHeld.2.2.2.2.2.2.2.2.2.2.2.2.2.1)))))))))))))))), (cf1_ NB353_364 (cf1_ NB353_364 (cf1_ NB353_364 (cf1_ NB353_364 (cf1_ NB353_364 (cf1_ NB353_364 (cf1_ NB353_364 (cf1_ NB353_364 (cf1_ NB353_364 (cf1_ NB353_364 (cf1_ NB353_364 (cf1_ NB353_364 (cf1_ NB353_364 (cf1_ NB353_364 (cf1_ NB353_364 (hHeld.2.2.2.2.2.2.2.2.2.2.2.2.2.2))))))))))))))))⟩ (fun hHeld => ?_)
 clear hK K
 refine done_ (done_of HT_.out (by kernel_rfl)) ?_
 refine nameP_ (fun wA hwA => ?_)
 have nHO360 : Aside0 (Kd.R Kd.string 9 wA w.heap.size (fun k_ => some k_ ≠ ((.slice Ao19 t361.length co19) : Value).ownBlock) (.slice Ao20 t358.length co20) t358) := ⟨by rw [hwA]; exact rf1_ HO360 BK364⟩
 have nHO363 : Aside0 (Kd.R Kd.string 9 wA w.heap.size (fun k_ => some k_ ≠ ((.slice Ao20 t358.length co20) : Value).ownBlock) (.slice Ao19 t361.length co19) t361) := ⟨by rw [hwA]; exact rf1_ HO363 BK364⟩
 have nBK353 : Aside0 (wA.heap[gb353]? = some (.cells #[.string a0_0, .int .i64 a0_1, .int .i64 a0_2, .string a0_3, .string a0_4, .bool a0_5, (.slice A0_6 l0_6.length c0_6), (.slice A0_7 l0_7.length c0_7), .int .i64 a0_8, .int .i64 a0_9, .int .i64 a0_10, .int .i64 a0_11, .int .i64 a0_12, (.slice A0_13 l0_13.length c0_13), (.slice A0_14 l0_14.length c0_14)] 60 (0, 0))) := ⟨by rw [hwA]; exact (bfo_ (bfo_ (bfo_ (bfo_ (bfo_ (bfo_ (bfo_ (bfo_ (bfo_ (bfo_ (bfo_ (bfo_ (bfo_ (bfo_ (bfo_ BK353.out NB353_364.out _) NB353_364.out _) NB353_364.out _) NB353_364.out _) NB353_364.out _) NB353_364.out _) NB353_364.out _) NB353_364.out _) NB353_364.out _) NB353_364.out _) NB353_364.out _) NB353_364.out _) NB353_364.out _) NB353_364.out _) NB353_364.out _)⟩
 have nBK354 : Aside0 (wA.heap[gb354]? = some (.cells #[.string (⟨#[]⟩ : ByteArray), .int .i64 0, .int .i64 0, .string (⟨#[]⟩ : ByteArray), .string (⟨#[]⟩ : ByteArray), .bool false, (.slice none 0 0), (.slice none 0 0), .int .i64 0, .int .i64 0, .int .i64 0, .int .i64 0, .int .i64 0, (.slice none 0 0), (.slice none 0 0)] 60 (0, 0))) := ⟨by rw [hwA]; exact (bfo_ (bfo_ (bfo_ (bfo_ (bfo_ (bfo_ (bfo_ (bfo_ (bfo_ (bfo_ (bfo_ (bfo_ (bfo_ (bfo_ (bfo_ BK354.out NB354_364.out _) NB354_364.out _) NB354_364.out _) NB354_364.out _) NB354_364.out _) NB354_364.out _) NB354_364.out _) NB354_364.out _) NB354_364.out _) NB354_364.out _) NB354_364.out _) NB354_364.out _) NB354_364.out _) NB354_364.out _) NB354_364.out _)⟩
 have bp0_ := blk_put (cs' := #[.string t355, .int .i64 0, .int .i64 0, .string (⟨#[]⟩ : ByteArray), .string (⟨#[]⟩ : ByteArray), .bool false, .slice none 0 0, .slice none 0 0, .int .i64 0, .int .i64 0, .int .i64 0, .int .i64 0, .int .i64 0, .slice none 0 0, .slice none 0 0]) BK364.out 0 (.string t355) (by rfl)
 have bp1_ := blk_put (cs' := #[.string t355, .int .i64 (wrap64 (1 + t356)), .int .i64 0, .string (⟨#[]⟩ : ByteArray), .string (⟨#[]⟩ : ByteArray), .bool false, .slice none 0 0, .slice none 0 0, .int .i64 0, .int .i64 0, .int .i64 0, .int .i64 0, .int .i64 0, .slice none 0 0, .slice none 0 0]) bp0_ 1 (.int .i64 (wrap64 (1 + t356))) (by rfl)
 have bp2_ := blk_put (cs' := #[.string t355, .int .i64 (wrap64 (1 + t356)), .int .i64 t357, .string (⟨#[]⟩ : ByteArray), .string (⟨#[]⟩ : ByteArray), .bool false, .slice none 0 0, .slice none 0 0, .int .i64 0, .int .i64 0, .int .i64 0, .int .i64 0, .int .i64 0, .slice none 0 0, .slice none 0 0]) bp1_ 2 (.int .i64 t357) (by rfl)
 have bp3_ := blk_put (cs' := #[.string t355, .int .i64 (wrap64 (1 + t356)), .int .i64 t357, .string (⟨#[]⟩ : ByteArray), .string (⟨#[]⟩ : ByteArray), .bool false, .slice none 0 0, .slice none 0 0, .int .i64 0, .int .i64 0, .int .i64 0, .int .i64 0, .int .i64 0, .slice none 0 0, .slice none 0 0]) bp2_ 3 (.string (⟨#[]⟩ : ByteArray)) (by rfl)
 have bp4_ := blk_put (cs' := #[.string t355, .int .i64 (wrap64 (1 + t356)), .int .i64 t357, .string (⟨#[]⟩ : ByteArray), .string (⟨#[]⟩ : ByteArray), .bool false, .slice none 0 0, .slice none 0 0, .int .i64 0, .int .i64 0, .int .i64 0, .int .i64 0, .int .i64 0, .slice none 0 0, .slice none 0 0]) bp3_ 4 (.string (⟨#[]⟩ : ByteArray)) (by rfl)
 have bp5_ := blk_put (cs' := #[.string t355, .int .i64 (wrap64 (1 + t356)), .int .i64 t357, .string (⟨#[]⟩ : ByteArray), .string (⟨#[]⟩ : ByteArray), .bool a0_5, .slice none 0 0, .slice none 0 0, .int .i64 0, .int .i64 0, .int .i64 0, .int .i64 0, .int .i64 0, .slice none 0 0, .slice none 0 0]) bp4_ 5 (.bool a0_5) (by rfl)
 have bp6_ := blk_put (cs' := #[.string t355, .int .i64 (wrap64 (1 + t356)), .int .i64 t357, .string (⟨#[]⟩ : ByteArray), .string (⟨#[]⟩ : ByteArray), .bool a0_5, (.slice Ao20 t358.length co20), .slice none 0 0, .int .i64 0, .int .i64 0, .int .i64 0, .int .i64 0, .int .i64 0, .slice none 0 0, .slice none 0 0]) bp5_ 6 ((.slice Ao20 t358.length co20)) (by rfl)
 have bp7_ := blk_put (cs' := #[.string t355, .int .i64 (wrap64 (1 + t356)), .int .i64 t357, .string (⟨#[]⟩ : ByteArray), .string (⟨#[]⟩ : ByteArray), .bool a0_5, (.slice Ao20 t358.length co20), (.slice Ao19 t361.length co19), .int .i64 0, .int .i64 0, .int .i64 0, .int .i64 0, .int .i64 0, .slice none 0 0, .slice none 0 0]) bp6_ 7 ((.slice Ao19 t361.length co19)) (by rfl)
 have bp8_ := blk_put (cs' := #[.string t355, .int .i64 (wrap64 (1 + t356)), .int .i64 t357, .string (⟨#[]⟩ : ByteArray), .string (⟨#[]⟩ : ByteArray), .bool a0_5, (.slice Ao20 t358.length co20), (.slice Ao19 t361.length co19), .int .i64 0, .int .i64 0, .int .i64 0, .int .i64 0, .int .i64 0, .slice none 0 0, .slice none 0 0]) bp7_ 8 (.int .i64 0) (by rfl)
 have bp9_ := blk_put (cs' := #[.string t355, .int .i64 (wrap64 (1 + t356)), .int .i64 t357, .string (⟨#[]⟩ : ByteArray), .string (⟨#[]⟩ : ByteArray), .bool a0_5, (.slice Ao20 t358.length co20), (.slice Ao19 t361.length co19), .int .i64 0, .int .i64 0, .int .i64 0, .int .i64 0, .int .i64 0, .slice none 0 0, .slice none 0 0]) bp8_ 9 (.int .i64 0) (by rfl)
 have bp10_ := blk_put (cs' := #[.string t355, .int .i64 (wrap64 (1 + t356)), .int .i64 t357, .string (⟨#[]⟩ : ByteArray), .string (⟨#[]⟩ : ByteArray), .bool a0_5, (.slice Ao20 t358.length co20), (.slice Ao19 t361.length co19), .int .i64 0, .int .i64 0, .int .i64 0, .int .i64 0, .int .i64 0, .slice none 0 0, .slice none 0 0]) bp9_ 10 (.int .i64 0) (by rfl)
 have bp11_ := blk_put (cs' := #[.string t355, .int .i64 (wrap64 (1 + t356)), .int .i64 t357, .string (⟨#[]⟩ : ByteArray), .string (⟨#[]⟩ : ByteArray), .bool a0_5, (.slice Ao20 t358.length co20), (.slice Ao19 t361.length co19), .int .i64 0, .int .i64 0, .int .i64 0, .int .i64 0, .int .i64 0, .slice none 0 0, .slice none 0 0]) bp10_ 11 (.int .i64 0) (by rfl)
 have bp12_ := blk_put (cs' := #[.string t355, .int .i64 (wrap64 (1 + t356)), .int .i64 t357, .string (⟨#[]⟩ : ByteArray), .string (⟨#[]⟩ : ByteArray), .bool a0_5, (.slice Ao20 t358.length co20), (.slice Ao19 t361.length co19), .int .i64 0, .int .i64 0, .int .i64 0, .int .i64 0, .int .i64 0, .slice none 0 0, .slice none 0 0]) bp11_ 12 (.int .i64 0) (by rfl)
 have bp13_ := blk_put (cs' := #[.string t355, .int .i64 (wrap64 (1 + t356)), .int .i64 t357, .string (⟨#[]⟩ : ByteArray), .string (⟨#[]⟩ : ByteArray), .bool a0_5, (.slice Ao20 t358.length co20), (.slice Ao19 t361.length co19), .int .i64 0, .int .i64 0, .int .i64 0, .int .i64 0, .int .i64 0, (.slice none 0 0), .slice none 0 0]) bp12_ 13 ((.slice none 0 0)) (by rfl)
 have bp14_ := blk_put (cs' := #[.string t355, .int .i64 (wrap64 (1 + t356)), .int .i64 t357, .string (⟨#[]⟩ : ByteArray), .string (⟨#[]⟩ : ByteArray), .bool a0_5, (.slice Ao20 t358.length co20), (.slice Ao19 t361.length co19), .int .i64 0, .int .i64 0, .int .i64 0, .int .i64 0, .int .i64 0, (.slice none 0 0), (.slice none 0 0)]) bp13_ 14 ((.slice none 0 0)) (by rfl)
 have nBK364 : Aside0 (wA.heap[gb364]? = some (.cells #[.string t355, .int .i64 (wrap64 (1 + t356)), .int .i64 t357, .string (⟨#[]⟩ : ByteArray), .string (⟨#[]⟩ : ByteArray), .bool a0_5, (.slice Ao20 t358.length co20), (.slice Ao19 t361.length co19), .int .i64 0, .int .i64 0, .int .i64 0, .int .i64 0, .int .i64 0, (.slice none 0 0), (.slice none 0 0)] 60 (0, 0))) := ⟨by rw [hwA]; exact bp14_⟩
 have nHB : Aside0 (Below w.heap.size w wA) := ⟨by rw [hwA]; exact hb3_ HB GE353 GE354 GE364⟩
 clear hwA bp0_ bp1_ bp2_ bp3_ bp4_ bp5_ bp6_ bp7_ bp8_ bp9_ bp10_ bp11_ bp12_ bp13_ bp14_ HO360 HO363 BK353 BK354 BK364 HB
 clear hs21 hfs21 hns21_0 hns21_1 hms21_0 hms21_1 hs22 hfs22 hns22_0 hns22_1 hms22_0 hms22_1 hs23 hfs23 hns23_0 hns23_1 hms23_0 hms23_1 hs24 hfs24 hns24_0 hns24_1 hms24_0 hms24_1 hs25 hfs25 hns25_0 hns25_1 hms25_0 hms25_1 hs26 hfs26 hns26_0 hns26_1 hms26_0 hms26_1 hs27 hfs27 hns27_0 hns27_1 hms27_0 hms27_1 hs28 hfs28 hns28_0 hns28_1 hms28_0 hms28_1 hs29 hfs29 hns29_0 hns29_1 hms29_0 hms29_1 hs30 hfs30 hns30_0 hns30_1 hms30_0 hms30_1 hs31 hfs31 hns31_0 hns31_1 hms31_0 hms31_1 hs32 hfs32 hns32_0 hns32_1 hms32_0 hms32_1 hs33 hfs33 hns33_0 hns33_1 hms33_0 hms33_1 hs34 hfs34 hns34_0 hns34_1 hms34_0 hms34_1 hs35 hfs35 hns35_0 hns35_1 hms35_0 hms35_1
 (try clear hHeld)
 have HO360 := nHO360; clear nHO360
 have HO363 := nHO363; clear nHO363
 have BK353 := nBK353; clear nBK353
 have BK354 := nBK354; clear nBK354
 have BK364 := nBK364; clear nBK364
 have HB := nHB; clear nHB
 have hnb36 := NB353_354.out
 have hnc36 := NB354_353.out
 have hnb37 := NB353_364.out
 have hnc37 := NB364_353.out
 obtain ⟨hcz38_0, hcz38_1, hcz38_2, hcz38_3, hcz38_4, hcz38_5, hcz38_6, hcz38_7, hcz38_8, hcz38_9, hcz38_10, hcz38_11, hcz38_12, hcz38_13, hcz38_14⟩ := cz15_ BK353
 obtain ⟨hfz38_0, hfz38_1, hfz38_2, hfz38_3, hfz38_4, hfz38_5, hfz38_6, hfz38_7, hfz38_8, hfz38_9, hfz38_10, hfz38_11, hfz38_12, hfz38_13, hfz38_14⟩ := fz15_ BK353
 go_upto_if 27 with (first | (refine gl_ 62 25 Try.func62 #[.string a0_3] ?_; (with_reducible refine (haberdashplay_pick.calls k a0_3 t365 _ A7.out).mono ?_); rintro e w' ⟨rfl, ⟨nd, rfl⟩⟩; refine ⟨_, rfl, ?_⟩) | (refine gl_ 26 26 Try.func26 #[.int .i64 t365, .int .i64 3] ?_; (with_reducible refine (haberdashplay_Mod.calls t365 3 t366 _ A8.out).mono ?_); rintro e w' ⟨rfl, ⟨nd, rfl⟩⟩; refine ⟨_, rfl, ?_⟩))
 (try simp only [Act.put, List.setIfInBounds_toArray, List.set_cons_zero, List.set_cons_succ])
 go_cut [] (fun wc => ∃ (kq : Nat) (x365003_8 : ByteArray), Aside0 (haberdashplay_Promo.j0 kq a0_0 a0_1 a0_2 a0_3 a0_4 a0_5 l0_6 l0_7 a0_8 a0_9 a0_10 a0_11 a0_12 l0_13 l0_14 t355 (wrap64 (1 + t356)) t357 x365003_8 (⟨#[]⟩ : ByteArray) a0_5 t358 t361 0 0 0 0 0 = some (r1, r2, r3, r4, r5, r6, r7, r8, r9, r10, r11, r12, r13, r14, r15)) ∧ Aside0 (kq ≤ k) ∧ Aside0 (Kd.R Kd.string 9 wc w.heap.size (fun k_ => some k_ ≠ ((.slice Ao19 t361.length co19) : Value).ownBlock) (.slice Ao20 t358.length co20) t358) ∧ Aside0 (Kd.R Kd.string 9 wc w.heap.size (fun k_ => some k_ ≠ ((.slice Ao20 t358.length co20) : Value).ownBlock) (.slice Ao19 t361.length co19) t361) ∧ Aside0 (wc.heap[gb353]? = some (.cells #[.string a0_0, .int .i64 a0_1, .int .i64 a0_2, .string a0_3, .string a0_4, .bool a0_5, (.slice A0_6 l0_6.length c0_6), (.slice A0_7 l0_7.length c0_7), .int .i64 a0_8, .int .i64 a0_9, .int .i64 a0_10, .int .i64 a0_11, .int .i64 a0_12, (.slice A0_13 l0_13.length c0_13), (.slice A0_14 l0_14.length c0_14)] 60 (0, 0))) ∧ Aside0 (wc.heap[gb354]? = some (.cells #[.string (⟨#[]⟩ : ByteArray), .int .i64 0, .int .i64 0, .string (⟨#[]⟩ : ByteArray), .string (⟨#[]⟩ : ByteArray), .bool false, (.slice none 0 0), (.slice none 0 0), .int .i64 0, .int .i64 0, .int .i64 0, .int .i64 0, .int .i64 0, (.slice none 0 0), (.slice none 0 0)] 60 (0, 0))) ∧ Aside0 (wc.heap[gb364]? = some (.cells #[.string t355, .int .i64 (wrap64 (1 + t356)), .int .i64 t357, .string x365003_8, .string (⟨#[]⟩ : ByteArray), .bool a0_5, (.slice Ao20 t358.length co20), (.slice Ao19 t361.length co19), .int .i64 0, .int .i64 0, .int .i64 0, .int .i64 0, .int .i64 0, (.slice none 0 0), (.slice none 0 0)] 60 (0, 0))) ∧ Aside0 (Below w.heap.size w wc))
 case first => as_aux_lemma =>
  have H := HC9.out; clear HC9
  by_cases c39 : t366 = 1
  rotate_left
  ·
   rw [if_neg c39] at H; have c39b0 : (t366 == 1) = false := beq_eq_false_iff_ne.mpr c39; have c39b1 : (t366 != 1) = true := bne_iff_ne.mpr c39
   (first | rw [c39b0] | (simp only [i64_w, i32_w]; rw [c39b0]) | skip)
   have H' := Aside0.mk H; clear H
   go_wp2
   go_meet
   case rel => exact ⟨_, ((⟨#[]⟩ : ByteArray)), H', ⟨om_⟩, ⟨rf1_ HO360 BK364⟩, ⟨rf1_ HO363 BK364⟩, ⟨bk_ BK353⟩, ⟨bk_ BK354⟩, ⟨bq0_ BK364⟩, ⟨hb3_ HB GE353 GE354 GE364⟩⟩
  rw [if_pos c39] at H; have c39b0 : (t366 == 1) = true := beq_iff_eq.mpr c39; have c39b1 : (t366 != 1) = false := bne_eq_false_iff_eq.mpr c39; clear c39
  (first | rw [c39b0] | (simp only [i64_w, i32_w]; rw [c39b0]) | skip)
  replace H := Option.bind_eq_some_iff.mp H; obtain ⟨t367, A400, H⟩ := H
  replace H : ((some (([(48 + ((t367) % 256)) % 256] : List Int) : List Int)).bind fun y368 => (if 1 + (strOfNums y368).size ≤ 9223372036854775807 then (haberdashplay_Promo.j0 k a0_0 a0_1 a0_2 a0_3 a0_4 a0_5 l0_6 l0_7 a0_8 a0_9 a0_10 a0_11 a0_12 l0_13 l0_14 t355 (wrap64 (1 + t356)) t357 ((⟨#[103]⟩ : ByteArray) ++ (strOfNums y368)) (⟨#[]⟩ : ByteArray) a0_5 t358 t361 0 0 0 0 0) else (none))) = some (r1, r2, r3, r4, r5, r6, r7, r8, r9, r10, r11, r12, r13, r14, r15) := H
  have A40 := Aside0.mk A400; clear A400; obtain ⟨y368, hy368⟩ : ∃ y_ : List Int, y_ = (([(48 + ((t367) % 256)) % 256] : List Int)) := ⟨_, rfl⟩; replace H : (if 1 + (strOfNums y368).size ≤ 9223372036854775807 then (haberdashplay_Promo.j0 k a0_0 a0_1 a0_2 a0_3 a0_4 a0_5 l0_6 l0_7 a0_8 a0_9 a0_10 a0_11 a0_12 l0_13 l0_14 t355 (wrap64 (1 + t356)) t357 ((⟨#[103]⟩ : ByteArray) ++ (strOfNums y368)) (⟨#[]⟩ : ByteArray) a0_5 t358 t361 0 0 0 0 0) else (none)) = some (r1, r2, r3, r4, r5, r6, r7, r8, r9, r10, r11, r12, r13, r14, r15) := hy_ hy368 H
  have Ny368 := Aside0.mk hy368; clear hy368; replace H := ip_ H; obtain ⟨c41, H⟩ := H; have c41b0 := eq_true c41; have c41b1 := decide_eq_true c41
  try have c41b2 : (9223372036854775807 < 1 + (strOfNums y368).size) = False := eq_false (Nat.not_lt.2 c41)
  have H' := Aside0.mk H; clear H; have hnb42 := NB353_354.out; have hnc42 := NB354_353.out; have hnb43 := NB353_364.out; have hnc43 := NB364_353.out; obtain ⟨hcz44_0, hcz44_1, hcz44_2, hcz44_3, hcz44_4, hcz44_5, hcz44_6, hcz44_7, hcz44_8, hcz44_9, hcz44_10, hcz44_11, hcz44_12, hcz44_13, hcz44_14⟩ := cz15_ BK353
  obtain ⟨hfz44_0, hfz44_1, hfz44_2, hfz44_3, hfz44_4, hfz44_5, hfz44_6, hfz44_7, hfz44_8, hfz44_9, hfz44_10, hfz44_11, hfz44_12, hfz44_13, hfz44_14⟩ := fz15_ BK353
  go_wp2_with (first | (refine gl_ 26 31 Try.func26 #[.int .i64 (a0_3.size : Int), .int .i64 2] ?_; (with_reducible refine (haberdashplay_Mod.calls (a0_3.size : Int) 2 t367 _ A40.out).mono ?_); rintro e w' ⟨rfl, ⟨nd, rfl⟩⟩; refine ⟨_, rfl, ?_⟩) | ((with_reducible refine gate_dst (N := 34) rfl ?_); refine Kd.R_lit (Kd.int .u8) _ 5 rf_ (N := 34) rf_ (xs := ([(48 + ((t367) % 256)) % 256] : List Int)) (inner := [.int .u8 ((48 + ((t367) % 256)) % 256)]) (ok := fun _ => True) (okp := fun _ => True) lr_ ?hp (fun _ hk => hk) trivial (Below.refl _ _) (Nat.le_refl _) (by simp) ?_; (case hp => exact (Reps.one (show Kd.M (Kd.int .u8) _ _ _ ((48 + ((t367) % 256)) % 256) [.int .u8 ((48 + ((t367) % 256)) % 256)] from rfl) (Reps.none _ _))); intro v369 w45 ho46 hb hg_ hnew_; clear hg_ hnew_; (first | rw [← Ny368.out] at ho46 | (simp only [Int.reduceToNat] at ho46; rw [← Ny368.out] at ho46)); replace HO360 := Aside0.mk (Kd.R_below (by (with_reducible repeat (first | apply Kd.R_alloc | apply Kd.R_drewN | apply Kd.R_drew)); exact (rf1_ HO360 BK364)) hb); replace HO363 := Aside0.mk (Kd.R_below (by (with_reducible repeat (first | apply Kd.R_alloc | apply Kd.R_drewN | apply Kd.R_drew)); exact (rf1_ HO363 BK364)) hb); have HO370 := Aside0.mk (Kd.R_lower ho46 (below_size (hb3_ HB GE353 GE354 GE364))); replace BK353 := Aside0.mk (blk_below (g := gb353) (o := .cells #[.string a0_0, .int .i64 a0_1, .int .i64 a0_2, .string a0_3, .string a0_4, .bool a0_5, .slice A0_6 l0_6.length c0_6, .slice A0_7 l0_7.length c0_7, .int .i64 a0_8, .int .i64 a0_9, .int .i64 a0_10, .int .i64 a0_11, .int .i64 a0_12, .slice A0_13 l0_13.length c0_13, .slice A0_14 l0_14.length c0_14] 60 (0, 0)) (bk_ BK353) hb); replace BK354 := Aside0.mk (blk_below (g := gb354) (o := .cells #[.string (⟨#[]⟩ : ByteArray), .int .i64 0, .int .i64 0, .string (⟨#[]⟩ : ByteArray), .string (⟨#[]⟩ : ByteArray), .bool false, .slice none 0 0, .slice none 0 0, .int .i64 0, .int .i64 0, .int .i64 0, .int .i64 0, .int .i64 0, .slice none 0 0, .slice none 0 0] 60 (0, 0)) (bk_ BK354) hb); replace BK364 := Aside0.mk (blk_below (g := gb364) (o := .cells #[.string t355, .int .i64 (wrap64 (1 + t356)), .int .i64 t357, .string (⟨#[]⟩ : ByteArray), .string (⟨#[]⟩ : ByteArray), .bool a0_5, .slice Ao20 t358.length co20, .slice Ao19 t361.length co19, .int .i64 0, .int .i64 0, .int .i64 0, .int .i64 0, .int .i64 0, .slice none 0 0, .slice none 0 0] 60 (0, 0)) (bq0_ BK364) hb); replace HB := Aside0.mk (below_step (hb3_ HB GE353 GE354 GE364) hb); clear hb ho46; have hcv47 := own_string (P := Try.prog) Try.underlying50 Try.underlying5 Try.underlying9 (Kd.own_of_R HO370.out); have hnb48 := NB364_354.out; have hnc48 := NB354_364.out; obtain ⟨hcz49_0, hcz49_1, hcz49_2, hcz49_3, hcz49_4, hcz49_5, hcz49_6, hcz49_7, hcz49_8, hcz49_9, hcz49_10, hcz49_11, hcz49_12, hcz49_13, hcz49_14⟩ := cz15_ BK364; obtain ⟨hfz49_0, hfz49_1, hfz49_2, hfz49_3, hfz49_4, hfz49_5, hfz49_6, hfz49_7, hfz49_8, hfz49_9, hfz49_10, hfz49_11, hfz49_12, hfz49_13, hfz49_14⟩ := fz15_ BK364))
  go_meet
  case rel => exact ⟨_, ((⟨#[103]⟩ : ByteArray) ++ (strOfNums y368)), H', ⟨om_⟩, ⟨rf1_ HO360 BK364⟩, ⟨rf1_ HO363 BK364⟩, ⟨bf1_ BK353 NB353_364⟩, ⟨bf1_ BK354 NB354_364⟩, ⟨bq0_ BK364⟩, ⟨hb3_ HB GE353 GE354 GE364⟩⟩
 case rest => as_aux_lemma =>
  clear HC9; (try clear c2); (try clear p2); (try clear c3); (try clear c4); (try clear hcv4); (try clear c6); (try clear p6); (try clear c26); (try clear c36); (try clear c37); (try clear c39); (try clear c39b0); (try clear c39b1); (try clear c41); (try clear c41b0); (try clear c41b1); (try clear c41b2)
  (try clear c42); (try clear c43); (try clear hcv47); (try clear c48); (try clear hcz38_0 hcz38_1 hcz38_10 hcz38_11 hcz38_12 hcz38_13 hcz38_14 hcz38_2 hcz38_3 hcz38_4 hcz38_5 hcz38_6 hcz38_7 hcz38_8 hcz38_9); (try clear hcz44_0 hcz44_1 hcz44_10 hcz44_11 hcz44_12 hcz44_13 hcz44_14 hcz44_2 hcz44_3 hcz44_4 hcz44_5 hcz44_6 hcz44_7 hcz44_8 hcz44_9)
  (try clear hcz49_0 hcz49_1 hcz49_10 hcz49_11 hcz49_12 hcz49_13 hcz49_14 hcz49_2 hcz49_3 hcz49_4 hcz49_5 hcz49_6 hcz49_7 hcz49_8 hcz49_9); (try clear hfz38_0 hfz38_1 hfz38_10 hfz38_11 hfz38_12 hfz38_13 hfz38_14 hfz38_2 hfz38_3 hfz38_4 hfz38_5 hfz38_6 hfz38_7 hfz38_8 hfz38_9); (try clear hfz44_0 hfz44_1 hfz44_10 hfz44_11 hfz44_12 hfz44_13 hfz44_14 hfz44_2 hfz44_3 hfz44_4 hfz44_5 hfz44_6 hfz44_7 hfz44_8 hfz44_9)
  (try clear hfz49_0 hfz49_1 hfz49_10 hfz49_11 hfz49_12 hfz49_13 hfz49_14 hfz49_2 hfz49_3 hfz49_4 hfz49_5 hfz49_6 hfz49_7 hfz49_8 hfz49_9); obtain ⟨kq, x365003_8, HA, HJ8, HO_365006, HO_365007, BK353, BK354, BK364, HB⟩ := hcut
  cases kq with
  | zero => exact absurd HA.out (by simp [haberdashplay_Promo.j0])
  | succ kj8 =>
   have H := HA.out; clear HA
   simp only [haberdashplay_Promo.j0] at H
   replace H := Option.bind_eq_some_iff.mp H; obtain ⟨t371, A500, H⟩ := H
   replace H : ((haberdashplay_Mod.f t371 3).bind fun t372 => (if t372 = 1 then ((haberdashplay_Code.f (a0_4.size : Int)).bind fun t373 => (haberdashplay_Promo.j1 kj8 a0_0 a0_1 a0_2 a0_3 a0_4 a0_5 l0_6 l0_7 a0_8 a0_9 a0_10 a0_11 a0_12 l0_13 l0_14 t355 (wrap64 (1 + t356)) t357 x365003_8 t373 a0_5 t358 t361 0 0 0 0 0)) else (haberdashplay_Promo.j1 kj8 a0_0 a0_1 a0_2 a0_3 a0_4 a0_5 l0_6 l0_7 a0_8 a0_9 a0_10 a0_11 a0_12 l0_13 l0_14 t355 (wrap64 (1 + t356)) t357 x365003_8 (⟨#[]⟩ : ByteArray) a0_5 t358 t361 0 0 0 0 0))) = some (r1, r2, r3, r4, r5, r6, r7, r8, r9, r10, r11, r12, r13, r14, r15) := H
   have A50 := Aside0.mk A500; clear A500; replace H := Option.bind_eq_some_iff.mp H; obtain ⟨t372, A510, H⟩ := H
   replace H : (if t372 = 1 then ((haberdashplay_Code.f (a0_4.size : Int)).bind fun t373 => (haberdashplay_Promo.j1 kj8 a0_0 a0_1 a0_2 a0_3 a0_4 a0_5 l0_6 l0_7 a0_8 a0_9 a0_10 a0_11 a0_12 l0_13 l0_14 t355 (wrap64 (1 + t356)) t357 x365003_8 t373 a0_5 t358 t361 0 0 0 0 0)) else (haberdashplay_Promo.j1 kj8 a0_0 a0_1 a0_2 a0_3 a0_4 a0_5 l0_6 l0_7 a0_8 a0_9 a0_10 a0_11 a0_12 l0_13 l0_14 t355 (wrap64 (1 + t356)) t357 x365003_8 (⟨#[]⟩ : ByteArray) a0_5 t358 t361 0 0 0 0 0)) = some (r1, r2, r3, r4, r5, r6, r7, r8, r9, r10, r11, r12, r13, r14, r15) := H
   have A51 := Aside0.mk A510; clear A510; have HC52 := Aside0.mk H; clear H; have hnb53 := NB353_354.out; have hnc53 := NB354_353.out; have hnb54 := NB353_364.out; have hnc54 := NB364_353.out; obtain ⟨hcz55_0, hcz55_1, hcz55_2, hcz55_3, hcz55_4, hcz55_5, hcz55_6, hcz55_7, hcz55_8, hcz55_9, hcz55_10, hcz55_11, hcz55_12, hcz55_13, hcz55_14⟩ := cz15_ BK353
   obtain ⟨hfz55_0, hfz55_1, hfz55_2, hfz55_3, hfz55_4, hfz55_5, hfz55_6, hfz55_7, hfz55_8, hfz55_9, hfz55_10, hfz55_11, hfz55_12, hfz55_13, hfz55_14⟩ := fz15_ BK353
   go_upto_if 42 with (first | (refine gl_ 62 40 Try.func62 #[.string a0_4] ?_; (with_reducible refine (haberdashplay_pick.calls kj8 a0_4 t371 _ A50.out).mono ?_); rintro e w' ⟨rfl, ⟨nd, rfl⟩⟩; refine ⟨_, rfl, ?_⟩) | (refine gl_ 26 41 Try.func26 #[.int .i64 t371, .int .i64 3] ?_; (with_reducible refine (haberdashplay_Mod.calls t371 3 t372 _ A51.out).mono ?_); rintro e w' ⟨rfl, ⟨nd, rfl⟩⟩; refine ⟨_, rfl, ?_⟩))
   (try simp only [Act.put, List.setIfInBounds_toArray, List.set_cons_zero, List.set_cons_succ])
   go_cut [] (fun wc => ∃ (kq : Nat) (x365004_51 : ByteArray), Aside0 (haberdashplay_Promo.j1 kq a0_0 a0_1 a0_2 a0_3 a0_4 a0_5 l0_6 l0_7 a0_8 a0_9 a0_10 a0_11 a0_12 l0_13 l0_14 t355 (wrap64 (1 + t356)) t357 x365003_8 x365004_51 a0_5 t358 t361 0 0 0 0 0 = some (r1, r2, r3, r4, r5, r6, r7, r8, r9, r10, r11, r12, r13, r14, r15)) ∧ Aside0 (kq ≤ kj8) ∧ Aside0 (Kd.R Kd.string 9 wc w.heap.size (fun k_ => some k_ ≠ ((.slice Ao19 t361.length co19) : Value).ownBlock) (.slice Ao20 t358.length co20) t358) ∧ Aside0 (Kd.R Kd.string 9 wc w.heap.size (fun k_ => some k_ ≠ ((.slice Ao20 t358.length co20) : Value).ownBlock) (.slice Ao19 t361.length co19) t361) ∧ Aside0 (wc.heap[gb353]? = some (.cells #[.string a0_0, .int .i64 a0_1, .int .i64 a0_2, .string a0_3, .string a0_4, .bool a0_5, (.slice A0_6 l0_6.length c0_6), (.slice A0_7 l0_7.length c0_7), .int .i64 a0_8, .int .i64 a0_9, .int .i64 a0_10, .int .i64 a0_11, .int .i64 a0_12, (.slice A0_13 l0_13.length c0_13), (.slice A0_14 l0_14.length c0_14)] 60 (0, 0))) ∧ Aside0 (wc.heap[gb354]? = some (.cells #[.string (⟨#[]⟩ : ByteArray), .int .i64 0, .int .i64 0, .string (⟨#[]⟩ : ByteArray), .string (⟨#[]⟩ : ByteArray), .bool false, (.slice none 0 0), (.slice none 0 0), .int .i64 0, .int .i64 0, .int .i64 0, .int .i64 0, .int .i64 0, (.slice none 0 0), (.slice none 0 0)] 60 (0, 0))) ∧ Aside0 (wc.heap[gb364]? = some (.cells #[.string t355, .int .i64 (wrap64 (1 + t356)), .int .i64 t357, .string x365003_8, .string x365004_51, .bool a0_5, (.slice Ao20 t358.length co20), (.slice Ao19 t361.length co19), .int .i64 0, .int .i64 0, .int .i64 0, .int .i64 0, .int .i64 0, (.slice none 0 0), (.slice none 0 0)] 60 (0, 0))) ∧ Aside0 (Below w.heap.size w wc))
   case first => as_aux_lemma =>
    have H := HC52.out; clear HC52
    by_cases c56 : t372 = 1
    rotate_left
    ·
     rw [if_neg c56] at H; have c56b0 : (t372 == 1) = false := beq_eq_false_iff_ne.mpr c56; have c56b1 : (t372 != 1) = true := bne_iff_ne.mpr c56
     (first | rw [c56b0] | (simp only [i64_w, i32_w]; rw [c56b0]) | skip)
     have H' := Aside0.mk H; clear H
     go_wp2
     go_meet
     case rel => exact ⟨_, ((⟨#[]⟩ : ByteArray)), H', ⟨by have := HJ8.out; first | omega | exact Nat.le_refl _⟩, ⟨ro_ HO_365006⟩, ⟨ro_ HO_365007⟩, ⟨bk_ BK353⟩, ⟨bk_ BK354⟩, ⟨bk_ BK364⟩, ⟨hb3_ HB GE353 GE354 GE364⟩⟩
    rw [if_pos c56] at H; have c56b0 : (t372 == 1) = true := beq_iff_eq.mpr c56; have c56b1 : (t372 != 1) = false := bne_eq_false_iff_eq.mpr c56; clear c56
    (first | rw [c56b0] | (simp only [i64_w, i32_w]; rw [c56b0]) | skip)
    replace H := Option.bind_eq_some_iff.mp H; obtain ⟨t373, A570, H⟩ := H; replace H : (haberdashplay_Promo.j1 kj8 a0_0 a0_1 a0_2 a0_3 a0_4 a0_5 l0_6 l0_7 a0_8 a0_9 a0_10 a0_11 a0_12 l0_13 l0_14 t355 (wrap64 (1 + t356)) t357 x365003_8 t373 a0_5 t358 t361 0 0 0 0 0) = some (r1, r2, r3, r4, r5, r6, r7, r8, r9, r10, r11, r12, r13, r14, r15) := H
    have A57 := Aside0.mk A570; clear A570; have H' := Aside0.mk H; clear H; have hnb58 := NB353_354.out; have hnc58 := NB354_353.out; have hnb59 := NB353_364.out; have hnc59 := NB364_353.out; obtain ⟨hcz60_0, hcz60_1, hcz60_2, hcz60_3, hcz60_4, hcz60_5, hcz60_6, hcz60_7, hcz60_8, hcz60_9, hcz60_10, hcz60_11, hcz60_12, hcz60_13, hcz60_14⟩ := cz15_ BK353
    obtain ⟨hfz60_0, hfz60_1, hfz60_2, hfz60_3, hfz60_4, hfz60_5, hfz60_6, hfz60_7, hfz60_8, hfz60_9, hfz60_10, hfz60_11, hfz60_12, hfz60_13, hfz60_14⟩ := fz15_ BK353
    go_wp2_with (first | (refine gl_ 63 46 Try.func63 #[.int .i64 (a0_4.size : Int)] ?_; (with_reducible refine (haberdashplay_Code.calls (a0_4.size : Int) t373 _ A57.out).mono ?_); rintro e w61 ⟨rfl, hb⟩; refine ⟨_, rfl, ?_⟩; replace HO_365006 := Aside0.mk (Kd.R_below (ro_ HO_365006) hb); replace HO_365007 := Aside0.mk (Kd.R_below (ro_ HO_365007) hb); replace BK353 := Aside0.mk (bb_ BK353 hb); replace BK354 := Aside0.mk (bb_ BK354 hb); replace BK364 := Aside0.mk (bb_ BK364 hb); replace HB := Aside0.mk (below_step (hb3_ HB GE353 GE354 GE364) hb); (try clear hb); have hnb62 := NB364_354.out; have hnc62 := NB354_364.out; obtain ⟨hcz63_0, hcz63_1, hcz63_2, hcz63_3, hcz63_4, hcz63_5, hcz63_6, hcz63_7, hcz63_8, hcz63_9, hcz63_10, hcz63_11, hcz63_12, hcz63_13, hcz63_14⟩ := cz15_ BK364; obtain ⟨hfz63_0, hfz63_1, hfz63_2, hfz63_3, hfz63_4, hfz63_5, hfz63_6, hfz63_7, hfz63_8, hfz63_9, hfz63_10, hfz63_11, hfz63_12, hfz63_13, hfz63_14⟩ := fz15_ BK364))
    go_meet
    case rel => exact ⟨_, (t373), H', ⟨by have := HJ8.out; first | omega | exact Nat.le_refl _⟩, ⟨rf1_ HO_365006 BK364⟩, ⟨rf1_ HO_365007 BK364⟩, ⟨bf1_ BK353 NB353_364⟩, ⟨bf1_ BK354 NB354_364⟩, ⟨bq0_ BK364⟩, ⟨hb3_ HB GE353 GE354 GE364⟩⟩
   case rest => as_aux_lemma =>
    clear HC52; (try clear c2); (try clear p2); (try clear c3); (try clear c4); (try clear hcv4); (try clear c5); (try clear c6); (try clear p6); (try clear c26); (try clear c36); (try clear c37); (try clear c39); (try clear c39b0); (try clear c39b1); (try clear c41); (try clear c41b0); (try clear c41b1)
    (try clear c41b2); (try clear c42); (try clear c43); (try clear hcv47); (try clear c48); (try clear c53); (try clear c54); (try clear c56); (try clear c56b0); (try clear c56b1); (try clear c58); (try clear c59); (try clear c61); (try clear c62); (try clear c63); (try clear hcz38_0 hcz38_1 hcz38_10 hcz38_11 hcz38_12 hcz38_13 hcz38_14 hcz38_2 hcz38_3 hcz38_4 hcz38_5 hcz38_6 hcz38_7 hcz38_8 hcz38_9)
    (try clear hcz44_0 hcz44_1 hcz44_10 hcz44_11 hcz44_12 hcz44_13 hcz44_14 hcz44_2 hcz44_3 hcz44_4 hcz44_5 hcz44_6 hcz44_7 hcz44_8 hcz44_9); (try clear hcz49_0 hcz49_1 hcz49_10 hcz49_11 hcz49_12 hcz49_13 hcz49_14 hcz49_2 hcz49_3 hcz49_4 hcz49_5 hcz49_6 hcz49_7 hcz49_8 hcz49_9); (try clear hcz55_0 hcz55_1 hcz55_10 hcz55_11 hcz55_12 hcz55_13 hcz55_14 hcz55_2 hcz55_3 hcz55_4 hcz55_5 hcz55_6 hcz55_7 hcz55_8 hcz55_9)
    (try clear hcz60_0 hcz60_1 hcz60_10 hcz60_11 hcz60_12 hcz60_13 hcz60_14 hcz60_2 hcz60_3 hcz60_4 hcz60_5 hcz60_6 hcz60_7 hcz60_8 hcz60_9); (try clear hcz63_0 hcz63_1 hcz63_10 hcz63_11 hcz63_12 hcz63_13 hcz63_14 hcz63_2 hcz63_3 hcz63_4 hcz63_5 hcz63_6 hcz63_7 hcz63_8 hcz63_9); (try clear hfz38_0 hfz38_1 hfz38_10 hfz38_11 hfz38_12 hfz38_13 hfz38_14 hfz38_2 hfz38_3 hfz38_4 hfz38_5 hfz38_6 hfz38_7 hfz38_8 hfz38_9)
    (try clear hfz44_0 hfz44_1 hfz44_10 hfz44_11 hfz44_12 hfz44_13 hfz44_14 hfz44_2 hfz44_3 hfz44_4 hfz44_5 hfz44_6 hfz44_7 hfz44_8 hfz44_9); (try clear hfz49_0 hfz49_1 hfz49_10 hfz49_11 hfz49_12 hfz49_13 hfz49_14 hfz49_2 hfz49_3 hfz49_4 hfz49_5 hfz49_6 hfz49_7 hfz49_8 hfz49_9); (try clear hfz55_0 hfz55_1 hfz55_10 hfz55_11 hfz55_12 hfz55_13 hfz55_14 hfz55_2 hfz55_3 hfz55_4 hfz55_5 hfz55_6 hfz55_7 hfz55_8 hfz55_9)
    (try clear hfz60_0 hfz60_1 hfz60_10 hfz60_11 hfz60_12 hfz60_13 hfz60_14 hfz60_2 hfz60_3 hfz60_4 hfz60_5 hfz60_6 hfz60_7 hfz60_8 hfz60_9); (try clear hfz63_0 hfz63_1 hfz63_10 hfz63_11 hfz63_12 hfz63_13 hfz63_14 hfz63_2 hfz63_3 hfz63_4 hfz63_5 hfz63_6 hfz63_7 hfz63_8 hfz63_9); (try clear p2); (try clear p6)
    obtain ⟨kq, x365004_51, HA, HJ51, HO_365006, HO_365007, BK353, BK354, BK364, HB⟩ := hcut
    cases kq with
    | zero => exact absurd HA.out (by simp [haberdashplay_Promo.j1])
    | succ kj51 =>
     have H := HA.out; clear HA
     simp only [haberdashplay_Promo.j1] at H
     replace H := Option.bind_eq_some_iff.mp H; obtain ⟨t374, A640, H⟩ := H
     replace H : (if t374 = 1 then ((haberdashplay_Mod64.f a0_8 9000).bind fun t375 => (haberdashplay_Promo.j2 kj51 a0_0 a0_1 a0_2 a0_3 a0_4 a0_5 l0_6 l0_7 a0_8 a0_9 a0_10 a0_11 a0_12 l0_13 l0_14 t355 (wrap64 (1 + t356)) t357 x365003_8 x365004_51 a0_5 t358 t361 t375 0 0 0 0)) else (haberdashplay_Promo.j2 kj51 a0_0 a0_1 a0_2 a0_3 a0_4 a0_5 l0_6 l0_7 a0_8 a0_9 a0_10 a0_11 a0_12 l0_13 l0_14 t355 (wrap64 (1 + t356)) t357 x365003_8 x365004_51 a0_5 t358 t361 0 0 0 0 0)) = some (r1, r2, r3, r4, r5, r6, r7, r8, r9, r10, r11, r12, r13, r14, r15) := H
     have A64 := Aside0.mk A640; clear A640; have HC65 := Aside0.mk H; clear H; have hnb66 := NB353_354.out; have hnc66 := NB354_353.out; have hnb67 := NB353_364.out; have hnc67 := NB364_353.out; obtain ⟨hcz68_0, hcz68_1, hcz68_2, hcz68_3, hcz68_4, hcz68_5, hcz68_6, hcz68_7, hcz68_8, hcz68_9, hcz68_10, hcz68_11, hcz68_12, hcz68_13, hcz68_14⟩ := cz15_ BK353
     obtain ⟨hfz68_0, hfz68_1, hfz68_2, hfz68_3, hfz68_4, hfz68_5, hfz68_6, hfz68_7, hfz68_8, hfz68_9, hfz68_10, hfz68_11, hfz68_12, hfz68_13, hfz68_14⟩ := fz15_ BK353
     go_upto_if 51 with (first | (refine gl_ 46 50 Try.func46 #[.int .i64 a0_8, .int .i64 3] ?_; (with_reducible refine (haberdashplay_Mod64.calls a0_8 3 t374 _ A64.out).mono ?_); rintro e w' ⟨rfl, ⟨nd, rfl⟩⟩; refine ⟨_, rfl, ?_⟩))
     (try simp only [Act.put, List.setIfInBounds_toArray, List.set_cons_zero, List.set_cons_succ])
     go_cut [] (fun wc => ∃ (kq : Nat) (x365008_64 : Int), Aside0 (haberdashplay_Promo.j2 kq a0_0 a0_1 a0_2 a0_3 a0_4 a0_5 l0_6 l0_7 a0_8 a0_9 a0_10 a0_11 a0_12 l0_13 l0_14 t355 (wrap64 (1 + t356)) t357 x365003_8 x365004_51 a0_5 t358 t361 x365008_64 0 0 0 0 = some (r1, r2, r3, r4, r5, r6, r7, r8, r9, r10, r11, r12, r13, r14, r15)) ∧ Aside0 (kq ≤ kj51) ∧ Aside0 (Kd.R Kd.string 9 wc w.heap.size (fun k_ => some k_ ≠ ((.slice Ao19 t361.length co19) : Value).ownBlock) (.slice Ao20 t358.length co20) t358) ∧ Aside0 (Kd.R Kd.string 9 wc w.heap.size (fun k_ => some k_ ≠ ((.slice Ao20 t358.length co20) : Value).ownBlock) (.slice Ao19 t361.length co19) t361) ∧ Aside0 (wc.heap[gb353]? = some (.cells #[.string a0_0, .int .i64 a0_1, .int .i64 a0_2, .string a0_3, .string a0_4, .bool a0_5, (.slice A0_6 l0_6.length c0_6), (.slice A0_7 l0_7.length c0_7), .int .i64 a0_8, .int .i64 a0_9, .int .i64 a0_10, .int .i64 a0_11, .int .i64 a0_12, (.slice A0_13 l0_13.length c0_13), (.slice A0_14 l0_14.length c0_14)] 60 (0, 0))) ∧ Aside0 (wc.heap[gb354]? = some (.cells #[.string (⟨#[]⟩ : ByteArray), .int .i64 0, .int .i64 0, .string (⟨#[]⟩ : ByteArray), .string (⟨#[]⟩ : ByteArray), .bool false, (.slice none 0 0), (.slice none 0 0), .int .i64 0, .int .i64 0, .int .i64 0, .int .i64 0, .int .i64 0, (.slice none 0 0), (.slice none 0 0)] 60 (0, 0))) ∧ Aside0 (wc.heap[gb364]? = some (.cells #[.string t355, .int .i64 (wrap64 (1 + t356)), .int .i64 t357, .string x365003_8, .string x365004_51, .bool a0_5, (.slice Ao20 t358.length co20), (.slice Ao19 t361.length co19), .int .i64 x365008_64, .int .i64 0, .int .i64 0, .int .i64 0, .int .i64 0, (.slice none 0 0), (.slice none 0 0)] 60 (0, 0))) ∧ Aside0 (Below w.heap.size w wc))
     case first => as_aux_lemma =>
      have H := HC65.out; clear HC65
      by_cases c69 : t374 = 1
      rotate_left
      ·
       rw [if_neg c69] at H; have c69b0 : (t374 == 1) = false := beq_eq_false_iff_ne.mpr c69; have c69b1 : (t374 != 1) = true := bne_iff_ne.mpr c69
       (first | rw [c69b0] | (simp only [i64_w, i32_w]; rw [c69b0]) | skip)
       have H' := Aside0.mk H; clear H
       go_wp2
       go_meet
       case rel => exact ⟨_, (0), H', ⟨by have := HJ8.out; have := HJ51.out; first | omega | exact Nat.le_refl _⟩, ⟨ro_ HO_365006⟩, ⟨ro_ HO_365007⟩, ⟨bk_ BK353⟩, ⟨bk_ BK354⟩, ⟨bk_ BK364⟩, ⟨hb3_ HB GE353 GE354 GE364⟩⟩
      rw [if_pos c69] at H; have c69b0 : (t374 == 1) = true := beq_iff_eq.mpr c69; have c69b1 : (t374 != 1) = false := bne_eq_false_iff_eq.mpr c69; clear c69
      (first | rw [c69b0] | (simp only [i64_w, i32_w]; rw [c69b0]) | skip)
      replace H := Option.bind_eq_some_iff.mp H; obtain ⟨t375, A700, H⟩ := H; replace H : (haberdashplay_Promo.j2 kj51 a0_0 a0_1 a0_2 a0_3 a0_4 a0_5 l0_6 l0_7 a0_8 a0_9 a0_10 a0_11 a0_12 l0_13 l0_14 t355 (wrap64 (1 + t356)) t357 x365003_8 x365004_51 a0_5 t358 t361 t375 0 0 0 0) = some (r1, r2, r3, r4, r5, r6, r7, r8, r9, r10, r11, r12, r13, r14, r15) := H
      have A70 := Aside0.mk A700; clear A700; have H' := Aside0.mk H; clear H; have hnb71 := NB353_354.out; have hnc71 := NB354_353.out; have hnb72 := NB353_364.out; have hnc72 := NB364_353.out; obtain ⟨hcz73_0, hcz73_1, hcz73_2, hcz73_3, hcz73_4, hcz73_5, hcz73_6, hcz73_7, hcz73_8, hcz73_9, hcz73_10, hcz73_11, hcz73_12, hcz73_13, hcz73_14⟩ := cz15_ BK353
      obtain ⟨hfz73_0, hfz73_1, hfz73_2, hfz73_3, hfz73_4, hfz73_5, hfz73_6, hfz73_7, hfz73_8, hfz73_9, hfz73_10, hfz73_11, hfz73_12, hfz73_13, hfz73_14⟩ := fz15_ BK353
      go_wp2_with (first | (refine gl_ 46 54 Try.func46 #[.int .i64 a0_8, .int .i64 9000] ?_; (with_reducible refine (haberdashplay_Mod64.calls a0_8 9000 t375 _ A70.out).mono ?_); rintro e w' ⟨rfl, ⟨nd, rfl⟩⟩; refine ⟨_, rfl, ?_⟩; (try (rw [drewN_self wc]; generalize hq_ : World.drewN wc _ = wc; have n0_ : Aside0 (Kd.R Kd.string 9 wc w.heap.size (fun k_ => some k_ ≠ (.slice Ao19 t361.length co19 : Value).ownBlock) (.slice Ao20 t358.length co20) t358) := ⟨by rw [← hq_]; exact (ro_ HO_365006)⟩; have n1_ : Aside0 (Kd.R Kd.string 9 wc w.heap.size (fun k_ => some k_ ≠ (.slice Ao20 t358.length co20 : Value).ownBlock) (.slice Ao19 t361.length co19) t361) := ⟨by rw [← hq_]; exact (ro_ HO_365007)⟩; have n2_ : Aside0 (wc.heap[gb353]? = some (.cells #[.string a0_0, .int .i64 a0_1, .int .i64 a0_2, .string a0_3, .string a0_4, .bool a0_5, .slice A0_6 l0_6.length c0_6, .slice A0_7 l0_7.length c0_7, .int .i64 a0_8, .int .i64 a0_9, .int .i64 a0_10, .int .i64 a0_11, .int .i64 a0_12, .slice A0_13 l0_13.length c0_13, .slice A0_14 l0_14.length c0_14] 60 (0, 0))) := ⟨by rw [← hq_]; exact (bk_ BK353)⟩; have n3_ : Aside0 (wc.heap[gb354]? = some (.cells #[.string (⟨#[]⟩ : ByteArray), .int .i64 0, .int .i64 0, .string (⟨#[]⟩ : ByteArray), .string (⟨#[]⟩ : ByteArray), .bool false, .slice none 0 0, .slice none 0 0, .int .i64 0, .int .i64 0, .int .i64 0, .int .i64 0, .int .i64 0, .slice none 0 0, .slice none 0 0] 60 (0, 0))) := ⟨by rw [← hq_]; exact (bk_ BK354)⟩; have n4_ : Aside0 (wc.heap[gb364]? = some (.cells #[.string t355, .int .i64 (wrap64 (1 + t356)), .int .i64 t357, .string x365003_8, .string x365004_51, .bool a0_5, .slice Ao20 t358.length co20, .slice Ao19 t361.length co19, .int .i64 0, .int .i64 0, .int .i64 0, .int .i64 0, .int .i64 0, .slice none 0 0, .slice none 0 0] 60 (0, 0))) := ⟨by rw [← hq_]; exact (bk_ BK364)⟩; have n5_ : Aside0 (Below w.heap.size w wc) := ⟨by rw [← hq_]; exact (hb3_ HB GE353 GE354 GE364)⟩; clear HO_365006 HO_365007 BK353 BK354 BK364 HB hq_; have HO_365006 := n0_; have HO_365007 := n1_; have BK353 := n2_; have BK354 := n3_; have BK364 := n4_; have HB := n5_; clear n0_ n1_ n2_ n3_ n4_ n5_)); have hnb74 := NB364_354.out; have hnc74 := NB354_364.out; obtain ⟨hcz75_0, hcz75_1, hcz75_2, hcz75_3, hcz75_4, hcz75_5, hcz75_6, hcz75_7, hcz75_8, hcz75_9, hcz75_10, hcz75_11, hcz75_12, hcz75_13, hcz75_14⟩ := cz15_ BK364; obtain ⟨hfz75_0, hfz75_1, hfz75_2, hfz75_3, hfz75_4, hfz75_5, hfz75_6, hfz75_7, hfz75_8, hfz75_9, hfz75_10, hfz75_11, hfz75_12, hfz75_13, hfz75_14⟩ := fz15_ BK364))
      go_meet
      case rel => exact ⟨_, (t375), H', ⟨by have := HJ8.out; have := HJ51.out; first | omega | exact Nat.le_refl _⟩, ⟨rf1_ HO_365006 BK364⟩, ⟨rf1_ HO_365007 BK364⟩, ⟨bf1_ BK353 NB353_364⟩, ⟨bf1_ BK354 NB354_364⟩, ⟨bq0_ BK364⟩, ⟨hb3_ HB GE353 GE354 GE364⟩⟩
     case rest => as_aux_lemma =>
      clear HC65; (try clear c2); (try clear p2); (try clear c3); (try clear c4); (try clear hcv4); (try clear c5); (try clear c6); (try clear p6); (try clear c7); (try clear c26); (try clear c36); (try clear c37); (try clear c39); (try clear c39b0); (try clear c39b1); (try clear c41); (try clear c41b0)
      (try clear c41b1); (try clear c41b2); (try clear c42); (try clear c43); (try clear c46); (try clear hcv47); (try clear c48); (try clear c53); (try clear c54); (try clear c56); (try clear c56b0); (try clear c56b1); (try clear c58); (try clear c59); (try clear c61); (try clear c62); (try clear c63)
      (try clear p64); (try clear c66); (try clear c67); (try clear c69); (try clear c69b0); (try clear c69b1); (try clear c71); (try clear c72); (try clear c74); (try clear hcz38_0 hcz38_1 hcz38_10 hcz38_11 hcz38_12 hcz38_13 hcz38_14 hcz38_2 hcz38_3 hcz38_4 hcz38_5 hcz38_6 hcz38_7 hcz38_8 hcz38_9); (try clear hcz44_0 hcz44_1 hcz44_10 hcz44_11 hcz44_12 hcz44_13 hcz44_14 hcz44_2 hcz44_3 hcz44_4 hcz44_5 hcz44_6 hcz44_7 hcz44_8 hcz44_9)
      (try clear hcz49_0 hcz49_1 hcz49_10 hcz49_11 hcz49_12 hcz49_13 hcz49_14 hcz49_2 hcz49_3 hcz49_4 hcz49_5 hcz49_6 hcz49_7 hcz49_8 hcz49_9); (try clear hcz55_0 hcz55_1 hcz55_10 hcz55_11 hcz55_12 hcz55_13 hcz55_14 hcz55_2 hcz55_3 hcz55_4 hcz55_5 hcz55_6 hcz55_7 hcz55_8 hcz55_9); (try clear hcz60_0 hcz60_1 hcz60_10 hcz60_11 hcz60_12 hcz60_13 hcz60_14 hcz60_2 hcz60_3 hcz60_4 hcz60_5 hcz60_6 hcz60_7 hcz60_8 hcz60_9)
      (try clear hcz63_0 hcz63_1 hcz63_10 hcz63_11 hcz63_12 hcz63_13 hcz63_14 hcz63_2 hcz63_3 hcz63_4 hcz63_5 hcz63_6 hcz63_7 hcz63_8 hcz63_9); (try clear hcz68_0 hcz68_1 hcz68_10 hcz68_11 hcz68_12 hcz68_13 hcz68_14 hcz68_2 hcz68_3 hcz68_4 hcz68_5 hcz68_6 hcz68_7 hcz68_8 hcz68_9); (try clear hcz73_0 hcz73_1 hcz73_10 hcz73_11 hcz73_12 hcz73_13 hcz73_14 hcz73_2 hcz73_3 hcz73_4 hcz73_5 hcz73_6 hcz73_7 hcz73_8 hcz73_9)
      (try clear hcz75_0 hcz75_1 hcz75_10 hcz75_11 hcz75_12 hcz75_13 hcz75_14 hcz75_2 hcz75_3 hcz75_4 hcz75_5 hcz75_6 hcz75_7 hcz75_8 hcz75_9); (try clear hfz38_0 hfz38_1 hfz38_10 hfz38_11 hfz38_12 hfz38_13 hfz38_14 hfz38_2 hfz38_3 hfz38_4 hfz38_5 hfz38_6 hfz38_7 hfz38_8 hfz38_9); (try clear hfz44_0 hfz44_1 hfz44_10 hfz44_11 hfz44_12 hfz44_13 hfz44_14 hfz44_2 hfz44_3 hfz44_4 hfz44_5 hfz44_6 hfz44_7 hfz44_8 hfz44_9)
      (try clear hfz49_0 hfz49_1 hfz49_10 hfz49_11 hfz49_12 hfz49_13 hfz49_14 hfz49_2 hfz49_3 hfz49_4 hfz49_5 hfz49_6 hfz49_7 hfz49_8 hfz49_9); (try clear hfz55_0 hfz55_1 hfz55_10 hfz55_11 hfz55_12 hfz55_13 hfz55_14 hfz55_2 hfz55_3 hfz55_4 hfz55_5 hfz55_6 hfz55_7 hfz55_8 hfz55_9); (try clear hfz60_0 hfz60_1 hfz60_10 hfz60_11 hfz60_12 hfz60_13 hfz60_14 hfz60_2 hfz60_3 hfz60_4 hfz60_5 hfz60_6 hfz60_7 hfz60_8 hfz60_9)
      (try clear hfz63_0 hfz63_1 hfz63_10 hfz63_11 hfz63_12 hfz63_13 hfz63_14 hfz63_2 hfz63_3 hfz63_4 hfz63_5 hfz63_6 hfz63_7 hfz63_8 hfz63_9); (try clear hfz68_0 hfz68_1 hfz68_10 hfz68_11 hfz68_12 hfz68_13 hfz68_14 hfz68_2 hfz68_3 hfz68_4 hfz68_5 hfz68_6 hfz68_7 hfz68_8 hfz68_9); (try clear hfz73_0 hfz73_1 hfz73_10 hfz73_11 hfz73_12 hfz73_13 hfz73_14 hfz73_2 hfz73_3 hfz73_4 hfz73_5 hfz73_6 hfz73_7 hfz73_8 hfz73_9)
      (try clear hfz75_0 hfz75_1 hfz75_10 hfz75_11 hfz75_12 hfz75_13 hfz75_14 hfz75_2 hfz75_3 hfz75_4 hfz75_5 hfz75_6 hfz75_7 hfz75_8 hfz75_9); (try clear p2); (try clear p6); obtain ⟨kq, x365008_64, HA, HJ64, HO_365006, HO_365007, BK353, BK354, BK364, HB⟩ := hcut
      cases kq with
      | zero => exact absurd HA.out (by simp [haberdashplay_Promo.j2])
      | succ kj64 =>
       have H := HA.out; clear HA
       simp only [haberdashplay_Promo.j2] at H
       obtain ⟨K_, hK_⟩ : ∃ K_, wrap64 (1 + t356) = K_ := ⟨_, rfl⟩
       rw [hK_] at H BK364
       clear hK_
       have HJ2 := Aside0.mk H; clear H
       have hl1 := cl_ BK364 1
       go_upto_block 0 with fail
       clear hl1
       go_cut [] (fun wd => ∃ v6_ v7_ v13_ v14_ : Value, Aside0 (Kd.R Kd.string 9 wd w.heap.size (fun k_ => some k_ ≠ (v7_ : Value).ownBlock) v6_ r7) ∧ Aside0 (Kd.R Kd.string 9 wd w.heap.size (fun k_ => some k_ ≠ (v6_ : Value).ownBlock) v7_ r8) ∧ Aside0 (Kd.S k65 65 wd w.heap.size (fun k_ => some k_ ≠ (v6_ : Value).ownBlock ∧ some k_ ≠ (v7_ : Value).ownBlock) v13_ r14) ∧ Aside0 (Kd.R k67 67 wd w.heap.size (fun _ => True) v14_ r15) ∧ Aside0 (wd.heap[gb354]? = some (.cells #[.string (⟨#[]⟩ : ByteArray), .int .i64 0, .int .i64 0, .string (⟨#[]⟩ : ByteArray), .string (⟨#[]⟩ : ByteArray), .bool false, (.slice none 0 0), (.slice none 0 0), .int .i64 0, .int .i64 0, .int .i64 0, .int .i64 0, .int .i64 0, (.slice none 0 0), (.slice none 0 0)] 60 (0, 0))) ∧ Aside0 (wd.heap[gb364]? = some (.cells #[.string r1, .int .i64 r2, .int .i64 r3, .string r4, .string r5, .bool r6, v6_, v7_, .int .i64 r9, .int .i64 r10, .int .i64 r11, .int .i64 r12, .int .i64 r13, v13_, v14_] 60 (0, 0))) ∧ Aside0 (Below w.heap.size w wd))
       case first => as_aux_lemma =>
        have H := HJ2.out; clear HJ2
        by_cases c1_ : K_ = 1
        · rw [if_pos c1_] at H
          have bc1_ : (K_ == 1) = true := beq_iff_eq.mpr c1_
          clear c1_
          obtain ⟨t_, hA_, H⟩ := Option.bind_eq_some_iff.mp H
          have HA_ := Aside0.mk hA_; clear hA_
          simp only [Option.some.injEq, Prod.mk.injEq] at H
          obtain ⟨rfl, rfl, rfl, rfl, rfl, rfl, rfl, rfl, rfl, rfl, rfl, rfl, rfl, rfl, rfl⟩ := H
          have la_ := cl_ BK353 9
          go_wp2_with fail
          with_reducible refine (haberdashplay_Mod64.calls a0_9 10000 t_ _ HA_.out).mono ?_
          rintro e w2_ ⟨rfl, ⟨nd_, rfl⟩⟩
          have hb := pw_below_drewN (Below.refl wc.heap.size wc) nd_
          generalize World.drewN wc nd_ = w2_ at hb ⊢
          replace HO_365006 := Aside0.mk (Kd.R_below (ro_ HO_365006) hb); replace HO_365007 := Aside0.mk (Kd.R_below (ro_ HO_365007) hb); replace BK353 := Aside0.mk (bb_ BK353 hb); replace BK354 := Aside0.mk (bb_ BK354 hb); replace BK364 := Aside0.mk (bb_ BK364 hb); replace HB := Aside0.mk (below_step (hb3_ HB GE353 GE354 GE364) hb); clear hb
          have l9_ := cl_ BK364 9; have f9_ := blk_frozen BK364.out 9
          go_wp2_with fail
          go_meet
          case rel => exact ⟨(.slice Ao20 t358.length co20), (.slice Ao19 t361.length co19), (.slice none 0 0), (.slice none 0 0), ⟨rf1_ HO_365006 BK364⟩, ⟨rf1_ HO_365007 BK364⟩, ⟨Kd.S_nil _ _ _ _ _⟩, ⟨ni_⟩, ⟨bf1_ BK354 NB354_364⟩, ⟨bq0_ BK364⟩, ⟨hb3_ HB GE353 GE354 GE364⟩⟩
        rw [if_neg c1_] at H
        have bc1_ : (K_ == 1) = false := beq_eq_false_iff_ne.mpr c1_
        clear c1_
        by_cases c2_ : K_ = 2
        · rw [if_pos c2_] at H
          have bc2_ : (K_ == 2) = true := beq_iff_eq.mpr c2_
          clear c2_
          obtain ⟨t_, hA_, H⟩ := Option.bind_eq_some_iff.mp H
          have HA_ := Aside0.mk hA_; clear hA_
          simp only [Option.some.injEq, Prod.mk.injEq] at H
          obtain ⟨rfl, rfl, rfl, rfl, rfl, rfl, rfl, rfl, rfl, rfl, rfl, rfl, rfl, rfl, rfl⟩ := H
          have la_ := cl_ BK353 10
          go_wp2_with fail
          with_reducible refine (haberdashplay_Mod64.calls a0_10 900 t_ _ HA_.out).mono ?_
          rintro e w2_ ⟨rfl, ⟨nd_, rfl⟩⟩
          have hb := pw_below_drewN (Below.refl wc.heap.size wc) nd_
          generalize World.drewN wc nd_ = w2_ at hb ⊢
          replace HO_365006 := Aside0.mk (Kd.R_below (ro_ HO_365006) hb); replace HO_365007 := Aside0.mk (Kd.R_below (ro_ HO_365007) hb); replace BK353 := Aside0.mk (bb_ BK353 hb); replace BK354 := Aside0.mk (bb_ BK354 hb); replace BK364 := Aside0.mk (bb_ BK364 hb); replace HB := Aside0.mk (below_step (hb3_ HB GE353 GE354 GE364) hb); clear hb
          have l10_ := cl_ BK364 10; have f10_ := blk_frozen BK364.out 10
          go_wp2_with fail
          go_meet
          case rel => exact ⟨(.slice Ao20 t358.length co20), (.slice Ao19 t361.length co19), (.slice none 0 0), (.slice none 0 0), ⟨rf1_ HO_365006 BK364⟩, ⟨rf1_ HO_365007 BK364⟩, ⟨Kd.S_nil _ _ _ _ _⟩, ⟨ni_⟩, ⟨bf1_ BK354 NB354_364⟩, ⟨bq0_ BK364⟩, ⟨hb3_ HB GE353 GE354 GE364⟩⟩
        rw [if_neg c2_] at H
        have bc2_ : (K_ == 2) = false := beq_eq_false_iff_ne.mpr c2_
        clear c2_
        by_cases c3_ : K_ = 3
        · rw [if_pos c3_] at H
          have bc3_ : (K_ == 3) = true := beq_iff_eq.mpr c3_
          clear c3_
          replace H := Option.bind_eq_some_iff.mp H; obtain ⟨t378, A930, H⟩ := H
          replace H : ((haberdashplay_Mod.f a0_11 3).bind fun t379 => ((haberdashplay_Mod.f a0_12 2).bind fun t380 => (some (t355, K_, t357, x365003_8, x365004_51, a0_5, t358, t361, x365008_64, wrap64 (1 + t378), 0, wrap64 (1 + t379), wrap64 (1 + t380), ([] : List (S65)), ([] : List (S67)))))) = some (r1, r2, r3, r4, r5, r6, r7, r8, r9, r10, r11, r12, r13, r14, r15) := H
          have A93 := Aside0.mk A930; clear A930; replace H := Option.bind_eq_some_iff.mp H; obtain ⟨t379, A940, H⟩ := H
          replace H : ((haberdashplay_Mod.f a0_12 2).bind fun t380 => (some (t355, K_, t357, x365003_8, x365004_51, a0_5, t358, t361, x365008_64, wrap64 (1 + t378), 0, wrap64 (1 + t379), wrap64 (1 + t380), ([] : List (S65)), ([] : List (S67))))) = some (r1, r2, r3, r4, r5, r6, r7, r8, r9, r10, r11, r12, r13, r14, r15) := H
          have A94 := Aside0.mk A940; clear A940; replace H := Option.bind_eq_some_iff.mp H; obtain ⟨t380, A950, H⟩ := H; replace H : (some (t355, K_, t357, x365003_8, x365004_51, a0_5, t358, t361, x365008_64, wrap64 (1 + t378), 0, wrap64 (1 + t379), wrap64 (1 + t380), ([] : List (S65)), ([] : List (S67)))) = some (r1, r2, r3, r4, r5, r6, r7, r8, r9, r10, r11, r12, r13, r14, r15) := H
          have A95 := Aside0.mk A950; clear A950
          simp only [Option.some.injEq, Prod.mk.injEq] at H
          obtain ⟨rfl, rfl, rfl, rfl, rfl, rfl, rfl, rfl, rfl, rfl, rfl, rfl, rfl, rfl, rfl⟩ := H; have hnb96 := NB364_353.out; have hnc96 := NB353_364.out; have hnb97 := NB364_354.out; have hnc97 := NB354_364.out; obtain ⟨hcz98_0, hcz98_1, hcz98_2, hcz98_3, hcz98_4, hcz98_5, hcz98_6, hcz98_7, hcz98_8, hcz98_9, hcz98_10, hcz98_11, hcz98_12, hcz98_13, hcz98_14⟩ := cz15_ BK364
          obtain ⟨hfz98_0, hfz98_1, hfz98_2, hfz98_3, hfz98_4, hfz98_5, hfz98_6, hfz98_7, hfz98_8, hfz98_9, hfz98_10, hfz98_11, hfz98_12, hfz98_13, hfz98_14⟩ := fz15_ BK364
          try go_wp2
          replace HO_365006 := Aside0.mk (Kd.R_drew HO_365006.out); replace HO_365007 := Aside0.mk (Kd.R_drew HO_365007.out); replace BK353 := Aside0.mk (blk_drew BK353.out); replace BK354 := Aside0.mk (blk_drew BK354.out); replace BK364 := Aside0.mk (blk_drew BK364.out); replace HB := Aside0.mk (below_drew1 HB.out)
          refine start_ (n := 18) (S := fun w' => w'.cell? ⟨gb353, 0, none⟩ = some (.string a0_0) ∧ w'.cell? ⟨gb353, 1, none⟩ = some (.int .i64 a0_1) ∧ w'.cell? ⟨gb353, 2, none⟩ = some (.int .i64 a0_2) ∧ w'.cell? ⟨gb353, 3, none⟩ = some (.string a0_3) ∧ w'.cell? ⟨gb353, 4, none⟩ = some (.string a0_4) ∧ w'.cell? ⟨gb353, 5, none⟩ = some (.bool a0_5) ∧ w'.cell? ⟨gb353, 6, none⟩ = some (.slice A0_6 l0_6.length c0_6) ∧ w'.cell? ⟨gb353, 7, none⟩ = some (.slice A0_7 l0_7.length c0_7) ∧ w'.cell? ⟨gb353, 8, none⟩ = some (.int .i64 a0_8) ∧ w'.cell? ⟨gb353, 9, none⟩ = some (.int .i64 a0_9) ∧ w'.cell? ⟨gb353, 10, none⟩ = some (.int .i64 a0_10) ∧ w'.cell? ⟨gb353, 11, none⟩ = some (.int .i64 a0_11) ∧ w'.cell? ⟨gb353, 12, none⟩ = some (.int .i64 a0_12) ∧ w'.cell? ⟨gb353, 13, none⟩ = some (.slice A0_13 l0_13.length c0_13) ∧ w'.cell? ⟨gb353, 14, none⟩ = some (.slice A0_14 l0_14.length c0_14)) (ds := []) (mk 18 0) (by kernel_rfl) rfl rfl ⟨cl_ BK353 0, cl_ BK353 1, cl_ BK353 2, cl_ BK353 3, cl_ BK353 4, cl_ BK353 5, cl_ BK353 6, cl_ BK353 7, cl_ BK353 8, cl_ BK353 9, cl_ BK353 10, cl_ BK353 11, cl_ BK353 12, cl_ BK353 13, cl_ BK353 14⟩ (fun hHeld => ?_); refine with_tabW haberdashplay_Promo.tab15 haberdashplay_Promo.bits15 (fun HT_ HW_ => ?_)
          generalize wc.drew = w99 at HO_365006 HO_365007 BK353 BK354 BK364 HB hHeld ⊢
          refine ahead_ [(0, 82), (4, 86), (8, 90)] ?_
          iterate 3 (refine pB_ HT_ ?_)
          refine aheadE_ (mk 18 273) kr_ ?_
          refine ahead_ [(1, 83), (5, 87), (9, 91)] ?_
          iterate 3 (refine tA_ (v := ?_) (a' := ?_) rfl rfl HT_.out HW_.out (by kernel_rfl) (fun _ _ _ h => h) (Or.inl ⟨by rfl, ?_⟩) hHeld ?_ ?_; rotate_left; (rintro w' ⟨s0, s1, s2, s3, s4, s5, s6, s7, s8, s9, s10, s11, s12, s13, s14⟩; go_simp; with_reducible rfl); rotate_left; (exact pu_))
          refine aheadE_ (mk 18 819) kr_ ?_
          refine one_ (i := 2) (N := some 84) (mk 18 823) rfl rfl (on_ HT_) de_ (fun K hK => ?_)
          refine goes_ Try.func46 (by kernel_rfl) rfl #[.int .i64 a0_9, .int .i64 10000] (by rfl) rfl rfl am_ ?_
          with_reducible refine (haberdashplay_Mod64.calls a0_9 10000 t378 _ A93.out).mono ?_
          rintro e w' ⟨rfl, ⟨nd, rfl⟩⟩
          refine ⟨_, rfl, ?_⟩
          refine hK.out _ _ ⟨cl_ BK353 0, cl_ BK353 1, cl_ BK353 2, cl_ BK353 3, cl_ BK353 4, cl_ BK353 5, cl_ BK353 6, cl_ BK353 7, cl_ BK353 8, cl_ BK353 9, cl_ BK353 10, cl_ BK353 11, cl_ BK353 12, cl_ BK353 13, cl_ BK353 14⟩ (fun hHeld => ?_)
          clear hK K
          refine norm_ pv_ ?_
          refine ahead_ [(3, 85), (12, 94)] ?_
          iterate 2 (refine pB_ HT_ ?_)
          refine aheadE_ (mk 18 4927) kr_ ?_
          refine one_ (i := 6) (N := some 88) (mk 18 4991) rfl rfl (on_ HT_) de_ (fun K hK => ?_)
          refine goes_ Try.func26 (by kernel_rfl) rfl #[.int .i64 a0_11, .int .i64 3] (by rfl) rfl rfl am_ ?_
          with_reducible refine (haberdashplay_Mod.calls a0_11 3 t379 _ A94.out).mono ?_
          rintro e w' ⟨rfl, ⟨nd, rfl⟩⟩
          refine ⟨_, rfl, ?_⟩
          refine hK.out _ _ ⟨cl_ BK353 0, cl_ BK353 1, cl_ BK353 2, cl_ BK353 3, cl_ BK353 4, cl_ BK353 5, cl_ BK353 6, cl_ BK353 7, cl_ BK353 8, cl_ BK353 9, cl_ BK353 10, cl_ BK353 11, cl_ BK353 12, cl_ BK353 13, cl_ BK353 14⟩ (fun hHeld => ?_)
          clear hK K
          refine norm_ pv_ ?_
          refine pure_ (i := 7) (N := some 89) (v := ?_) (a' := ?_) (mk 18 5119) rfl rfl (an_ HT_) nh_ (Or.inl ⟨ry_, ?_⟩) ?_ ?_
          rotate_left; (intro w'; go_simp; with_reducible rfl)
          rotate_left; (exact pu_)
          refine one_ (i := 10) (N := some 92) (mk 18 6143) rfl rfl (on_ HT_) de_ (fun K hK => ?_)
          refine goes_ Try.func26 (by kernel_rfl) rfl #[.int .i64 a0_12, .int .i64 2] (by rfl) rfl rfl am_ ?_
          with_reducible refine (haberdashplay_Mod.calls a0_12 2 t380 _ A95.out).mono ?_
          rintro e w' ⟨rfl, ⟨nd, rfl⟩⟩
          refine ⟨_, rfl, ?_⟩
          refine hK.out _ _ ⟨cl_ BK353 0, cl_ BK353 1, cl_ BK353 2, cl_ BK353 3, cl_ BK353 4, cl_ BK353 5, cl_ BK353 6, cl_ BK353 7, cl_ BK353 8, cl_ BK353 9, cl_ BK353 10, cl_ BK353 11, cl_ BK353 12, cl_ BK353 13, cl_ BK353 14⟩ (fun hHeld => ?_)
          clear hK K
          refine norm_ pv_ ?_
          refine pure_ (i := 11) (N := some 93) (v := ?_) (a' := ?_) (mk 18 8191) rfl rfl (an_ HT_) nh_ (Or.inl ⟨ry_, ?_⟩) ?_ ?_
          rotate_left; (intro w'; go_simp; with_reducible rfl)
          rotate_left; (exact pu_)
          refine one_ (i := 13) (N := none) (mk 18 16383) rfl rfl (on_ HT_) de_ (fun K hK => ?_)
          have hs100 : w99.cell? ⟨gb364, 9, none⟩ = some (.int .i64 0) := (blk_cell BK364.out 9).trans rfl; have hfs100 := blk_frozen BK364.out 9; have hns100_0 := NB353_364.out; have hns100_1 := NB354_364.out; have hms100_0 := NB364_353.out; have hms100_1 := NB364_354.out
          refine skip_ (w1 := ?_) (by rfl) rfl ?_ ?_
          rotate_left
          ·
           go_simp
           rfl
          refine hK.out _ _ ⟨(cf1_ NB353_364 (hHeld.1)), (cf1_ NB353_364 (hHeld.2.1)), (cf1_ NB353_364 (hHeld.2.2.1)), (cf1_ NB353_364 (hHeld.2.2.2.1)), (cf1_ NB353_364 (hHeld.2.2.2.2.1)), (cf1_ NB353_364 (hHeld.2.2.2.2.2.1)), (cf1_ NB353_364 (hHeld.2.2.2.2.2.2.1)), (cf1_ NB353_364 (hHeld.2.2.2.2.2.2.2.1)), (cf1_ NB353_364 (hHeld.2.2.2.2.2.2.2.2.1)), (cf1_ NB353_364 (hHeld.2.2.2.2.2.2.2.2.2.1)), (cf1_ NB353_364 (hHeld.2.2.2.2.2.2.2.2.2.2.1)), (cf1_ NB353_364 (hHeld.2.2.2.2.2.2.2.2.2.2.2.1)), (cf1_ NB353_364 (hHeld.2.2.2.2.2.2.2.2.2.2.2.2.1)), (cf1_ NB353_364 (hHeld.2.2.2.2.2.2.2.2.2.2.2.2.2.1)), (cf1_ NB353_364 (hHeld.2.2.2.2.2.2.2.2.2.2.2.2.2.2))⟩ (fun hHeld => ?_)
          clear hK K
          refine pure_ (i := 14) (N := some 95) (v := ?_) (a' := ?_) (mk 18 32767) rfl rfl (an_ HT_) nh_ (Or.inl ⟨ry_, ?_⟩) ?_ ?_
          rotate_left; (intro w'; go_simp; with_reducible rfl)
          rotate_left; (exact pu_)
          refine one_ (i := 15) (N := none) (mk 18 65535) rfl rfl (on_ HT_) de_ (fun K hK => ?_)
          have hs101 : w99.cell? ⟨gb364, 11, none⟩ = some (.int .i64 0) := (blk_cell BK364.out 11).trans rfl; have hfs101 := blk_frozen BK364.out 11; have hns101_0 := NB353_364.out; have hns101_1 := NB354_364.out; have hms101_0 := NB364_353.out; have hms101_1 := NB364_354.out
          refine skip_ (w1 := ?_) (by rfl) rfl ?_ ?_
          rotate_left
          ·
           go_simp
           rfl
          refine hK.out _ _ ⟨(cf1_ NB353_364 (hHeld.1)), (cf1_ NB353_364 (hHeld.2.1)), (cf1_ NB353_364 (hHeld.2.2.1)), (cf1_ NB353_364 (hHeld.2.2.2.1)), (cf1_ NB353_364 (hHeld.2.2.2.2.1)), (cf1_ NB353_364 (hHeld.2.2.2.2.2.1)), (cf1_ NB353_364 (hHeld.2.2.2.2.2.2.1)), (cf1_ NB353_364 (hHeld.2.2.2.2.2.2.2.1)), (cf1_ NB353_364 (hHeld.2.2.2.2.2.2.2.2.1)), (cf1_ NB353_364 (hHeld.2.2.2.2.2.2.2.2.2.1)), (cf1_ NB353_364 (hHeld.2.2.2.2.2.2.2.2.2.2.1)), (cf1_ NB353_364 (hHeld.2.2.2.2.2.2.2.2.2.2.2.1)), (cf1_ NB353_364 (hHeld.2.2.2.2.2.2.2.2.2.2.2.2.1)), (cf1_ NB353_364 (hHeld.2.2.2.2.2.2.2.2.2.2.2.2.2.1)), (cf1_ NB353_364 (hHeld.2.2.2.2.2.2.2.2.2.2.2.2.2.2))⟩ (fun hHeld => ?_)
          clear hK K
          refine pure_ (i := 16) (N := some 96) (v := ?_) (a' := ?_) (mk 18 131071) rfl rfl (an_ HT_) nh_ (Or.inl ⟨ry_, ?_⟩) ?_ ?_
          rotate_left; (intro w'; go_simp; with_reducible rfl)
          rotate_left; (exact pu_)
          refine one_ (i := 17) (N := none) (mk 18 262143) rfl rfl (on_ HT_) de_ (fun K hK => ?_)
          have hs102 : w99.cell? ⟨gb364, 12, none⟩ = some (.int .i64 0) := (blk_cell BK364.out 12).trans rfl; have hfs102 := blk_frozen BK364.out 12; have hns102_0 := NB353_364.out; have hns102_1 := NB354_364.out; have hms102_0 := NB364_353.out; have hms102_1 := NB364_354.out
          refine skip_ (w1 := ?_) (by rfl) rfl ?_ ?_
          rotate_left
          ·
           go_simp
           rfl
          refine hK.out _ _ ⟨(cf1_ NB353_364 (hHeld.1)), (cf1_ NB353_364 (hHeld.2.1)), (cf1_ NB353_364 (hHeld.2.2.1)), (cf1_ NB353_364 (hHeld.2.2.2.1)), (cf1_ NB353_364 (hHeld.2.2.2.2.1)), (cf1_ NB353_364 (hHeld.2.2.2.2.2.1)), (cf1_ NB353_364 (hHeld.2.2.2.2.2.2.1)), (cf1_ NB353_364 (hHeld.2.2.2.2.2.2.2.1)), (cf1_ NB353_364 (hHeld.2.2.2.2.2.2.2.2.1)), (cf1_ NB353_364 (hHeld.2.2.2.2.2.2.2.2.2.1)), (cf1_ NB353_364 (hHeld.2.2.2.2.2.2.2.2.2.2.1)), (cf1_ NB353_364 (hHeld.2.2.2.2.2.2.2.2.2.2.2.1)), (cf1_ NB353_364 (hHeld.2.2.2.2.2.2.2.2.2.2.2.2.1)), (cf1_ NB353_364 (hHeld.2.2.2.2.2.2.2.2.2.2.2.2.2.1)), (cf1_ NB353_364 (hHeld.2.2.2.2.2.2.2.2.2.2.2.2.2.2))⟩ (fun hHeld => ?_)
          clear hK K
          refine done_ (done_of HT_.out (by kernel_rfl)) ?_
          try go_wp2
          go_meet
          case rel => exact ⟨(.slice Ao20 t358.length co20), (.slice Ao19 t361.length co19), (.slice none 0 0), (.slice none 0 0), ⟨rf1_ HO_365006 BK364⟩, ⟨rf1_ HO_365007 BK364⟩, ⟨Kd.S_nil _ _ _ _ _⟩, ⟨ni_⟩, ⟨bf3_ BK354 NB354_364 NB354_364 NB354_364⟩, ⟨bq0_ BK364⟩, ⟨hb3_ HB GE353 GE354 GE364⟩⟩
        rw [if_neg c3_] at H
        have bc3_ : (K_ == 3) = false := beq_eq_false_iff_ne.mpr c3_
        clear c3_
        by_cases c4_ : K_ = 4
        · rw [if_pos c4_] at H
          have bc4_ : (K_ == 4) = true := beq_iff_eq.mpr c4_
          clear c4_
          obtain ⟨t381, hA_, H⟩ := Option.bind_eq_some_iff.mp H
          have HA_ := Aside0.mk hA_; clear hA_
          have H' := Aside0.mk H; clear H
          have la_ := cl_ BK353 10
          go_wp2_with fail
          with_reducible refine (haberdashplay_Mod64.calls a0_10 3000 t381 _ HA_.out).mono ?_
          rintro e w2_ ⟨rfl, ⟨nd_, rfl⟩⟩
          have hb := pw_below_drewN (Below.refl wc.heap.size wc) nd_
          generalize World.drewN wc nd_ = w2_ at hb ⊢
          replace HO_365006 := Aside0.mk (Kd.R_below (ro_ HO_365006) hb); replace HO_365007 := Aside0.mk (Kd.R_below (ro_ HO_365007) hb); replace BK353 := Aside0.mk (bb_ BK353 hb); replace BK354 := Aside0.mk (bb_ BK354 hb); replace BK364 := Aside0.mk (bb_ BK364 hb); replace HB := Aside0.mk (below_step (hb3_ HB GE353 GE354 GE364) hb); clear hb
          have l6_ := cl_ BK364 6; have f6_ := blk_frozen BK364.out 6; have l7_ := cl_ BK364 7; have f7_ := blk_frozen BK364.out 7; have l10_ := cl_ BK364 10; have f10_ := blk_frozen BK364.out 10
          go_wp2_with fail
          go_loopg [6] kj64 (fun kq v6 w' => ∃ (x6_4 : Int) (x365013_4 : List (S65)) (u365013 : Value), v6 = .int .i64 x6_4 ∧ Aside0 (haberdashplay_Promo.l0 kq x6_4 a0_0 a0_1 a0_2 a0_3 a0_4 a0_5 l0_6 l0_7 a0_8 a0_9 a0_10 a0_11 a0_12 l0_13 l0_14 t355 K_ t357 x365003_8 x365004_51 a0_5 x365008_64 0 t381 0 0 x365013_4 = some (r1, r2, r3, r4, r5, r6, r7, r8, r9, r10, r11, r12, r13, r14, r15)) ∧ Aside0 (kq ≤ kj64) ∧ Aside0 (Kd.S k65 65 w' w.heap.size (fun _ => True) u365013 x365013_4) ∧ Aside0 (w'.heap[gb353]? = some (.cells #[.string a0_0, .int .i64 a0_1, .int .i64 a0_2, .string a0_3, .string a0_4, .bool a0_5, (.slice A0_6 l0_6.length c0_6), (.slice A0_7 l0_7.length c0_7), .int .i64 a0_8, .int .i64 a0_9, .int .i64 a0_10, .int .i64 a0_11, .int .i64 a0_12, (.slice A0_13 l0_13.length c0_13), (.slice A0_14 l0_14.length c0_14)] 60 (0, 0))) ∧ Aside0 (w'.heap[gb354]? = some (.cells #[.string (⟨#[]⟩ : ByteArray), .int .i64 0, .int .i64 0, .string (⟨#[]⟩ : ByteArray), .string (⟨#[]⟩ : ByteArray), .bool false, (.slice none 0 0), (.slice none 0 0), .int .i64 0, .int .i64 0, .int .i64 0, .int .i64 0, .int .i64 0, (.slice none 0 0), (.slice none 0 0)] 60 (0, 0))) ∧ Aside0 (w'.heap[gb364]? = some (.cells #[.string t355, .int .i64 K_, .int .i64 t357, .string x365003_8, .string x365004_51, .bool a0_5, (.slice none 0 0), (.slice none 0 0), .int .i64 x365008_64, .int .i64 0, .int .i64 t381, .int .i64 0, .int .i64 0, u365013, (.slice none 0 0)] 60 (0, 0))) ∧ Aside0 (Below w.heap.size w w'))
          case atStart => exact ⟨(0), (([] : List (S65))), (.slice none 0 0), rf_, H', ⟨Nat.le_refl _⟩, ⟨by first | exact Kd.S_nil _ _ _ _ _ | exact Kd.N_nil _ _ _ _ _ | exact Kd.V_nil _ _ _ _ _ | exact Kd.Q_nil _ _ _ _ _ | exact Kd.R_nil _ _ _ _ _⟩, ⟨bf3_ BK353 NB353_364 NB353_364 NB353_364⟩, ⟨bf3_ BK354 NB354_364 NB354_364 NB354_364⟩, ⟨bq0_ BK364⟩, ⟨hb3_ HB GE353 GE354 GE364⟩⟩
          case round => as_aux_lemma =>
           clear H'; (try clear c1); (try clear c2); (try clear p2); (try clear c4); (try clear p6); (try clear c7); (try clear c8); (try clear c9); (try clear c10); (try clear c11); (try clear c26); (try clear c46); (try clear p64); (try clear c76); (try clear c76b0); (try clear c76b1); (try clear c78)
           (try clear c79); (try clear c81); (try clear c84); (try clear c84b0); (try clear c84b1); (try clear c86); (try clear c87); (try clear c89); (try clear c92); (try clear c92b0); (try clear c92b1); (try clear c96); (try clear c97); (try clear c104); (try clear c106); (try clear c106b0); (try clear c106b1)
           (try clear c108); (try clear c109); (try clear c111); (try clear hcz103_0 hcz103_1 hcz103_10 hcz103_11 hcz103_12 hcz103_13 hcz103_14 hcz103_2 hcz103_3 hcz103_4 hcz103_5 hcz103_6 hcz103_7 hcz103_8 hcz103_9); (try clear hcz105_0 hcz105_1 hcz105_10 hcz105_11 hcz105_12 hcz105_13 hcz105_14 hcz105_2 hcz105_3 hcz105_4 hcz105_5 hcz105_6 hcz105_7 hcz105_8 hcz105_9)
           (try clear hcz110_0 hcz110_1 hcz110_10 hcz110_11 hcz110_12 hcz110_13 hcz110_14 hcz110_2 hcz110_3 hcz110_4 hcz110_5 hcz110_6 hcz110_7 hcz110_8 hcz110_9); (try clear hcz112_0 hcz112_1 hcz112_10 hcz112_11 hcz112_12 hcz112_13 hcz112_14 hcz112_2 hcz112_3 hcz112_4 hcz112_5 hcz112_6 hcz112_7 hcz112_8 hcz112_9)
           (try clear hcz80_0 hcz80_1 hcz80_10 hcz80_11 hcz80_12 hcz80_13 hcz80_14 hcz80_2 hcz80_3 hcz80_4 hcz80_5 hcz80_6 hcz80_7 hcz80_8 hcz80_9); (try clear hcz82_0 hcz82_1 hcz82_10 hcz82_11 hcz82_12 hcz82_13 hcz82_14 hcz82_2 hcz82_3 hcz82_4 hcz82_5 hcz82_6 hcz82_7 hcz82_8 hcz82_9); (try clear hcz83_0 hcz83_1 hcz83_10 hcz83_11 hcz83_12 hcz83_13 hcz83_14 hcz83_2 hcz83_3 hcz83_4 hcz83_5 hcz83_6 hcz83_7 hcz83_8 hcz83_9)
           (try clear hcz88_0 hcz88_1 hcz88_10 hcz88_11 hcz88_12 hcz88_13 hcz88_14 hcz88_2 hcz88_3 hcz88_4 hcz88_5 hcz88_6 hcz88_7 hcz88_8 hcz88_9); (try clear hcz90_0 hcz90_1 hcz90_10 hcz90_11 hcz90_12 hcz90_13 hcz90_14 hcz90_2 hcz90_3 hcz90_4 hcz90_5 hcz90_6 hcz90_7 hcz90_8 hcz90_9); (try clear hcz91_0 hcz91_1 hcz91_10 hcz91_11 hcz91_12 hcz91_13 hcz91_14 hcz91_2 hcz91_3 hcz91_4 hcz91_5 hcz91_6 hcz91_7 hcz91_8 hcz91_9)
           (try clear hcz98_0 hcz98_1 hcz98_10 hcz98_11 hcz98_12 hcz98_13 hcz98_14 hcz98_2 hcz98_3 hcz98_4 hcz98_5 hcz98_6 hcz98_7 hcz98_8 hcz98_9); (try clear hfz103_0 hfz103_1 hfz103_10 hfz103_11 hfz103_12 hfz103_13 hfz103_14 hfz103_2 hfz103_3 hfz103_4 hfz103_5 hfz103_6 hfz103_7 hfz103_8 hfz103_9); (try clear hfz105_0 hfz105_1 hfz105_10 hfz105_11 hfz105_12 hfz105_13 hfz105_14 hfz105_2 hfz105_3 hfz105_4 hfz105_5 hfz105_6 hfz105_7 hfz105_8 hfz105_9)
           (try clear hfz110_0 hfz110_1 hfz110_10 hfz110_11 hfz110_12 hfz110_13 hfz110_14 hfz110_2 hfz110_3 hfz110_4 hfz110_5 hfz110_6 hfz110_7 hfz110_8 hfz110_9); (try clear hfz112_0 hfz112_1 hfz112_10 hfz112_11 hfz112_12 hfz112_13 hfz112_14 hfz112_2 hfz112_3 hfz112_4 hfz112_5 hfz112_6 hfz112_7 hfz112_8 hfz112_9)
           (try clear hfz73_3 hfz73_4 hfz73_5 hfz73_6 hfz73_7 hfz73_8 hfz73_9); (try clear hfz75_0 hfz75_1 hfz75_10 hfz75_11 hfz75_12 hfz75_13 hfz75_14 hfz75_2 hfz75_3 hfz75_4 hfz75_5 hfz75_6 hfz75_7 hfz75_8 hfz75_9); (try clear hfz80_0 hfz80_1 hfz80_10 hfz80_11 hfz80_12 hfz80_13 hfz80_14 hfz80_2 hfz80_3 hfz80_4 hfz80_5 hfz80_6 hfz80_7 hfz80_8 hfz80_9)
           (try clear hfz82_0 hfz82_1 hfz82_10 hfz82_11 hfz82_12 hfz82_13 hfz82_14 hfz82_2 hfz82_3 hfz82_4 hfz82_5 hfz82_6 hfz82_7 hfz82_8 hfz82_9); (try clear hfz83_0 hfz83_1 hfz83_10 hfz83_11 hfz83_12 hfz83_13 hfz83_14 hfz83_2 hfz83_3 hfz83_4 hfz83_5 hfz83_6 hfz83_7 hfz83_8 hfz83_9); (try clear hfz88_0 hfz88_1 hfz88_10 hfz88_11 hfz88_12 hfz88_13 hfz88_14 hfz88_2 hfz88_3 hfz88_4 hfz88_5 hfz88_6 hfz88_7 hfz88_8 hfz88_9)
           (try clear hfz90_0 hfz90_1 hfz90_10 hfz90_11 hfz90_12 hfz90_13 hfz90_14 hfz90_2 hfz90_3 hfz90_4 hfz90_5 hfz90_6 hfz90_7 hfz90_8 hfz90_9); (try clear hfz91_0 hfz91_1 hfz91_10 hfz91_11 hfz91_12 hfz91_13 hfz91_14 hfz91_2 hfz91_3 hfz91_4 hfz91_5 hfz91_6 hfz91_7 hfz91_8 hfz91_9); (try clear hfz98_0 hfz98_1 hfz98_10 hfz98_11 hfz98_12 hfz98_13 hfz98_14 hfz98_2 hfz98_3 hfz98_4 hfz98_5 hfz98_6 hfz98_7 hfz98_8 hfz98_9)
           (try clear p2); (try clear p6); obtain ⟨x6_4, x365013_4, u365013, rfl, HA, HK4, HO_365013, BK353, BK354, BK364, HB⟩ := hrel
           cases gk with
           | zero => exact absurd HA.out (by simp [haberdashplay_Promo.l0])
           | succ k4 =>
            have H := HA.out; clear HA
            simp only [haberdashplay_Promo.l0] at H
            have HC113 := Aside0.mk H; clear H
            go_upto_region 19 with (fail)
            go_cut [113] (fun v113 wc => ∃ (kq : Nat) (x113_112 : Bool), v113 = .bool x113_112 ∧ Aside0 (haberdashplay_Promo.j4 kq x6_4 x113_112 a0_0 a0_1 a0_2 a0_3 a0_4 a0_5 l0_6 l0_7 a0_8 a0_9 a0_10 a0_11 a0_12 l0_13 l0_14 t355 K_ t357 x365003_8 x365004_51 a0_5 x365008_64 0 t381 0 0 x365013_4 = some (r1, r2, r3, r4, r5, r6, r7, r8, r9, r10, r11, r12, r13, r14, r15)) ∧ Aside0 (kq ≤ k4) ∧ Aside0 (Kd.S k65 65 wc w.heap.size (fun _ => True) u365013 x365013_4) ∧ Aside0 (wc.heap[gb353]? = some (.cells #[.string a0_0, .int .i64 a0_1, .int .i64 a0_2, .string a0_3, .string a0_4, .bool a0_5, (.slice A0_6 l0_6.length c0_6), (.slice A0_7 l0_7.length c0_7), .int .i64 a0_8, .int .i64 a0_9, .int .i64 a0_10, .int .i64 a0_11, .int .i64 a0_12, (.slice A0_13 l0_13.length c0_13), (.slice A0_14 l0_14.length c0_14)] 60 (0, 0))) ∧ Aside0 (wc.heap[gb354]? = some (.cells #[.string (⟨#[]⟩ : ByteArray), .int .i64 0, .int .i64 0, .string (⟨#[]⟩ : ByteArray), .string (⟨#[]⟩ : ByteArray), .bool false, (.slice none 0 0), (.slice none 0 0), .int .i64 0, .int .i64 0, .int .i64 0, .int .i64 0, .int .i64 0, (.slice none 0 0), (.slice none 0 0)] 60 (0, 0))) ∧ Aside0 (wc.heap[gb364]? = some (.cells #[.string t355, .int .i64 K_, .int .i64 t357, .string x365003_8, .string x365004_51, .bool a0_5, (.slice none 0 0), (.slice none 0 0), .int .i64 x365008_64, .int .i64 0, .int .i64 t381, .int .i64 0, .int .i64 0, u365013, (.slice none 0 0)] 60 (0, 0))) ∧ Aside0 (Below w.heap.size w wc))
            case first => as_aux_lemma =>
             have H := HC113.out; clear HC113
             by_cases c114 : x6_4 < (l0_13.length : Int)
             rotate_left
             ·
              rw [if_neg c114] at H; have c114b0 := decide_eq_false c114; clear c114
              (first | rw [c114b0] | (simp only [i64_w, i32_w]; rw [c114b0]) | skip)
              have H' := Aside0.mk H; clear H; have hnb118 := NB353_354.out; have hnc118 := NB354_353.out; have hnb119 := NB353_364.out; have hnc119 := NB364_353.out; obtain ⟨hcz120_0, hcz120_1, hcz120_2, hcz120_3, hcz120_4, hcz120_5, hcz120_6, hcz120_7, hcz120_8, hcz120_9, hcz120_10, hcz120_11, hcz120_12, hcz120_13, hcz120_14⟩ := cz15_ BK353
              obtain ⟨hfz120_0, hfz120_1, hfz120_2, hfz120_3, hfz120_4, hfz120_5, hfz120_6, hfz120_7, hfz120_8, hfz120_9, hfz120_10, hfz120_11, hfz120_12, hfz120_13, hfz120_14⟩ := fz15_ BK353
              go_wp2
              go_meet
              case rel => exact ⟨_, (false), rf_, H', ⟨by have := HJ8.out; have := HJ51.out; have := HJ64.out; have := HK4.out; first | omega | exact Nat.le_refl _⟩, ⟨so_ HO_365013⟩, ⟨bk_ BK353⟩, ⟨bk_ BK354⟩, ⟨bk_ BK364⟩, ⟨hb3_ HB GE353 GE354 GE364⟩⟩
             rw [if_pos c114] at H; have c114b0 := decide_eq_true c114; clear c114
             (first | rw [c114b0] | (simp only [i64_w, i32_w]; rw [c114b0]) | skip)
             have H' := Aside0.mk H; clear H; have hnb115 := NB353_354.out; have hnc115 := NB354_353.out; have hnb116 := NB353_364.out; have hnc116 := NB364_353.out; obtain ⟨hcz117_0, hcz117_1, hcz117_2, hcz117_3, hcz117_4, hcz117_5, hcz117_6, hcz117_7, hcz117_8, hcz117_9, hcz117_10, hcz117_11, hcz117_12, hcz117_13, hcz117_14⟩ := cz15_ BK353
             obtain ⟨hfz117_0, hfz117_1, hfz117_2, hfz117_3, hfz117_4, hfz117_5, hfz117_6, hfz117_7, hfz117_8, hfz117_9, hfz117_10, hfz117_11, hfz117_12, hfz117_13, hfz117_14⟩ := fz15_ BK353
             go_wp2
             go_meet
             case rel => exact ⟨_, (decide (x6_4 < 3)), rf_, H', ⟨by have := HJ8.out; have := HJ51.out; have := HJ64.out; have := HK4.out; first | omega | exact Nat.le_refl _⟩, ⟨so_ HO_365013⟩, ⟨bk_ BK353⟩, ⟨bk_ BK354⟩, ⟨bk_ BK364⟩, ⟨hb3_ HB GE353 GE354 GE364⟩⟩
            case rest => as_aux_lemma =>
             clear HC113; (try clear c1); (try clear c2); (try clear p2); (try clear c4); (try clear p6); (try clear c7); (try clear c8); (try clear c9); (try clear c10); (try clear c11); (try clear c26); (try clear c46); (try clear p64); (try clear c76); (try clear c76b0); (try clear c76b1); (try clear c78)
             (try clear c79); (try clear c81); (try clear c84); (try clear c84b0); (try clear c84b1); (try clear c86); (try clear c87); (try clear c89); (try clear c92); (try clear c92b0); (try clear c92b1); (try clear c96); (try clear c97); (try clear c104); (try clear c106); (try clear c106b0); (try clear c106b1)
             (try clear c108); (try clear c109); (try clear c111); (try clear c114); (try clear c114b0); (try clear c115); (try clear c116); (try clear c118); (try clear c119); (try clear hcz103_0 hcz103_1 hcz103_10 hcz103_11 hcz103_12 hcz103_13 hcz103_14 hcz103_2 hcz103_3 hcz103_4 hcz103_5 hcz103_6 hcz103_7 hcz103_8 hcz103_9)
             (try clear hcz105_0 hcz105_1 hcz105_10 hcz105_11 hcz105_12 hcz105_13 hcz105_14 hcz105_2 hcz105_3 hcz105_4 hcz105_5 hcz105_6 hcz105_7 hcz105_8 hcz105_9); (try clear hcz110_0 hcz110_1 hcz110_10 hcz110_11 hcz110_12 hcz110_13 hcz110_14 hcz110_2 hcz110_3 hcz110_4 hcz110_5 hcz110_6 hcz110_7 hcz110_8 hcz110_9)
             (try clear hcz112_0 hcz112_1 hcz112_10 hcz112_11 hcz112_12 hcz112_13 hcz112_14 hcz112_2 hcz112_3 hcz112_4 hcz112_5 hcz112_6 hcz112_7 hcz112_8 hcz112_9); (try clear hcz117_0 hcz117_1 hcz117_10 hcz117_11 hcz117_12 hcz117_13 hcz117_14 hcz117_2 hcz117_3 hcz117_4 hcz117_5 hcz117_6 hcz117_7 hcz117_8 hcz117_9)
             (try clear hcz120_0 hcz120_1 hcz120_10 hcz120_11 hcz120_12 hcz120_13 hcz120_14 hcz120_2 hcz120_3 hcz120_4 hcz120_5 hcz120_6 hcz120_7 hcz120_8 hcz120_9); (try clear hcz80_0 hcz80_1 hcz80_10 hcz80_11 hcz80_12 hcz80_13 hcz80_14 hcz80_2 hcz80_3 hcz80_4 hcz80_5 hcz80_6 hcz80_7 hcz80_8 hcz80_9); (try clear hcz82_0 hcz82_1 hcz82_10 hcz82_11 hcz82_12 hcz82_13 hcz82_14 hcz82_2 hcz82_3 hcz82_4 hcz82_5 hcz82_6 hcz82_7 hcz82_8 hcz82_9)
             (try clear hcz83_0 hcz83_1 hcz83_10 hcz83_11 hcz83_12 hcz83_13 hcz83_14 hcz83_2 hcz83_3 hcz83_4 hcz83_5 hcz83_6 hcz83_7 hcz83_8 hcz83_9); (try clear hcz88_0 hcz88_1 hcz88_10 hcz88_11 hcz88_12 hcz88_13 hcz88_14 hcz88_2 hcz88_3 hcz88_4 hcz88_5 hcz88_6 hcz88_7 hcz88_8 hcz88_9); (try clear hcz90_0 hcz90_1 hcz90_10 hcz90_11 hcz90_12 hcz90_13 hcz90_14 hcz90_2 hcz90_3 hcz90_4 hcz90_5 hcz90_6 hcz90_7 hcz90_8 hcz90_9)
             (try clear hcz91_0 hcz91_1 hcz91_10 hcz91_11 hcz91_12 hcz91_13 hcz91_14 hcz91_2 hcz91_3 hcz91_4 hcz91_5 hcz91_6 hcz91_7 hcz91_8 hcz91_9); (try clear hcz98_0 hcz98_1 hcz98_10 hcz98_11 hcz98_12 hcz98_13 hcz98_14 hcz98_2 hcz98_3 hcz98_4 hcz98_5 hcz98_6 hcz98_7 hcz98_8 hcz98_9); (try clear hfz103_0 hfz103_1 hfz103_10 hfz103_11 hfz103_12 hfz103_13 hfz103_14 hfz103_2 hfz103_3 hfz103_4 hfz103_5 hfz103_6 hfz103_7 hfz103_8 hfz103_9)
             (try clear hfz105_0 hfz105_1 hfz105_10 hfz105_11 hfz105_12 hfz105_13 hfz105_14 hfz105_2 hfz105_3 hfz105_4 hfz105_5 hfz105_6 hfz105_7 hfz105_8 hfz105_9); (try clear hfz110_0 hfz110_1 hfz110_10 hfz110_11 hfz110_12 hfz110_13 hfz110_14 hfz110_2 hfz110_3 hfz110_4 hfz110_5 hfz110_6 hfz110_7 hfz110_8 hfz110_9)
             (try clear hfz112_0 hfz112_1 hfz112_10 hfz112_11 hfz112_12 hfz112_13 hfz112_14 hfz112_2 hfz112_3 hfz112_4 hfz112_5 hfz112_6 hfz112_7 hfz112_8 hfz112_9); (try clear hfz117_0 hfz117_1 hfz117_10 hfz117_11 hfz117_12 hfz117_13 hfz117_14 hfz117_2 hfz117_3 hfz117_4 hfz117_5 hfz117_6 hfz117_7 hfz117_8 hfz117_9)
             (try clear hfz120_0 hfz120_1 hfz120_10 hfz120_11 hfz120_12 hfz120_13 hfz120_14 hfz120_2 hfz120_3 hfz120_4 hfz120_5 hfz120_6 hfz120_7 hfz120_8 hfz120_9); (try clear hfz73_3 hfz73_4 hfz73_5 hfz73_6 hfz73_7 hfz73_8 hfz73_9); (try clear hfz75_0 hfz75_1 hfz75_10 hfz75_11 hfz75_12 hfz75_13 hfz75_14 hfz75_2 hfz75_3 hfz75_4 hfz75_5 hfz75_6 hfz75_7 hfz75_8 hfz75_9)
             (try clear hfz80_0 hfz80_1 hfz80_10 hfz80_11 hfz80_12 hfz80_13 hfz80_14 hfz80_2 hfz80_3 hfz80_4 hfz80_5 hfz80_6 hfz80_7 hfz80_8 hfz80_9); (try clear hfz82_0 hfz82_1 hfz82_10 hfz82_11 hfz82_12 hfz82_13 hfz82_14 hfz82_2 hfz82_3 hfz82_4 hfz82_5 hfz82_6 hfz82_7 hfz82_8 hfz82_9); (try clear hfz83_0 hfz83_1 hfz83_10 hfz83_11 hfz83_12 hfz83_13 hfz83_14 hfz83_2 hfz83_3 hfz83_4 hfz83_5 hfz83_6 hfz83_7 hfz83_8 hfz83_9)
             (try clear hfz88_0 hfz88_1 hfz88_10 hfz88_11 hfz88_12 hfz88_13 hfz88_14 hfz88_2 hfz88_3 hfz88_4 hfz88_5 hfz88_6 hfz88_7 hfz88_8 hfz88_9); (try clear hfz90_0 hfz90_1 hfz90_10 hfz90_11 hfz90_12 hfz90_13 hfz90_14 hfz90_2 hfz90_3 hfz90_4 hfz90_5 hfz90_6 hfz90_7 hfz90_8 hfz90_9); (try clear hfz91_0 hfz91_1 hfz91_10 hfz91_11 hfz91_12 hfz91_13 hfz91_14 hfz91_2 hfz91_3 hfz91_4 hfz91_5 hfz91_6 hfz91_7 hfz91_8 hfz91_9)
             (try clear hfz98_0 hfz98_1 hfz98_10 hfz98_11 hfz98_12 hfz98_13 hfz98_14 hfz98_2 hfz98_3 hfz98_4 hfz98_5 hfz98_6 hfz98_7 hfz98_8 hfz98_9); (try clear p2); (try clear p6); (try clear p64); obtain ⟨kq, x113_112, rfl, HA, HJ112, HO_365013, BK353, BK354, BK364, HB⟩ := hcut
             cases kq with
             | zero => exact absurd HA.out (by simp [haberdashplay_Promo.j4])
             | succ kj112 =>
              have H := HA.out; clear HA
              simp only [haberdashplay_Promo.j4] at H
              by_cases c121 : x113_112 = true
              rotate_left
              ·
               replace c121 := Bool.eq_false_iff.mpr c121; subst c121; rw [if_neg nf_] at H
               by_cases c134 : (x365013_4.length : Int) = 0
               rotate_left
               ·
                rw [if_neg c134] at H; have c134b0 : ((x365013_4.length : Int) == 0) = false := beq_eq_false_iff_ne.mpr c134; have c134b1 : ((x365013_4.length : Int) != 0) = true := bne_iff_ne.mpr c134
                have c134b2 : ¬ (x365013_4 = []) := fun h_ => c134 (by rw [h_]; rfl)
                simp only [Option.some.injEq, Prod.mk.injEq] at H
                obtain ⟨rfl, rfl, rfl, rfl, rfl, rfl, rfl, rfl, rfl, rfl, rfl, rfl, rfl, rfl, rfl⟩ := H; have hnb145 := NB364_353.out; have hnc145 := NB353_364.out; have hnb146 := NB364_354.out; have hnc146 := NB354_364.out; obtain ⟨hcz147_0, hcz147_1, hcz147_2, hcz147_3, hcz147_4, hcz147_5, hcz147_6, hcz147_7, hcz147_8, hcz147_9, hcz147_10, hcz147_11, hcz147_12, hcz147_13, hcz147_14⟩ := cz15_ BK364
                obtain ⟨hfz147_0, hfz147_1, hfz147_2, hfz147_3, hfz147_4, hfz147_5, hfz147_6, hfz147_7, hfz147_8, hfz147_9, hfz147_10, hfz147_11, hfz147_12, hfz147_13, hfz147_14⟩ := fz15_ BK364; obtain ⟨Ao148, co148, eo148⟩ := Kd.S_slice HO_365013.out; subst eo148; have hnb149 := NB354_353.out; have hnc149 := NB353_354.out
                obtain ⟨hcz150_0, hcz150_1, hcz150_2, hcz150_3, hcz150_4, hcz150_5, hcz150_6, hcz150_7, hcz150_8, hcz150_9, hcz150_10, hcz150_11, hcz150_12, hcz150_13, hcz150_14⟩ := cz15_ BK354; obtain ⟨hfz150_0, hfz150_1, hfz150_2, hfz150_3, hfz150_4, hfz150_5, hfz150_6, hfz150_7, hfz150_8, hfz150_9, hfz150_10, hfz150_11, hfz150_12, hfz150_13, hfz150_14⟩ := fz15_ BK354
                go_wp2
                go_meet
                case rel => exact ⟨(.slice none 0 0), (.slice none 0 0), (.slice Ao148 x365013_4.length co148), (.slice none 0 0), ⟨ni_⟩, ⟨ni_⟩, ⟨Kd.S_mono (so_ HO_365013) (fun _ _ => ⟨(by simp [Value.ownBlock]), (by simp [Value.ownBlock])⟩)⟩, ⟨ni_⟩, ⟨bk_ BK354⟩, ⟨bk_ BK364⟩, ⟨hb3_ HB GE353 GE354 GE364⟩⟩
               rw [if_pos c134] at H; have c134b0 : ((x365013_4.length : Int) == 0) = true := beq_iff_eq.mpr c134; have c134b1 : ((x365013_4.length : Int) != 0) = false := bne_eq_false_iff_eq.mpr c134; clear c134; obtain ⟨y394, hy394⟩ : ∃ y_ : List (S65), y_ = (([(⟨(⟨([] : List ByteArray), ([] : List ByteArray)⟩ : S56), 2⟩ : S65)] : List (S65))) := ⟨_, rfl⟩
               replace H : (some (t355, K_, t357, x365003_8, x365004_51, a0_5, ([] : List ByteArray), ([] : List ByteArray), x365008_64, 0, t381, 0, 0, y394, ([] : List (S67)))) = some (r1, r2, r3, r4, r5, r6, r7, r8, r9, r10, r11, r12, r13, r14, r15) := hy_ hy394 H; have Ny394 := Aside0.mk hy394
               clear hy394
               simp only [Option.some.injEq, Prod.mk.injEq] at H
               obtain ⟨rfl, rfl, rfl, rfl, rfl, rfl, rfl, rfl, rfl, rfl, rfl, rfl, rfl, rfl, rfl⟩ := H; have hnb135 := NB364_353.out; have hnc135 := NB353_364.out; have hnb136 := NB364_354.out; have hnc136 := NB354_364.out; obtain ⟨hcz137_0, hcz137_1, hcz137_2, hcz137_3, hcz137_4, hcz137_5, hcz137_6, hcz137_7, hcz137_8, hcz137_9, hcz137_10, hcz137_11, hcz137_12, hcz137_13, hcz137_14⟩ := cz15_ BK364
               obtain ⟨hfz137_0, hfz137_1, hfz137_2, hfz137_3, hfz137_4, hfz137_5, hfz137_6, hfz137_7, hfz137_8, hfz137_9, hfz137_10, hfz137_11, hfz137_12, hfz137_13, hfz137_14⟩ := fz15_ BK364; obtain ⟨Ao138, co138, eo138⟩ := Kd.S_slice HO_365013.out; subst eo138
               go_wp2_with (first | ((with_reducible refine gate_dst (N := 142) rfl ?_); refine Kd.S_lit k65 _ 65 rf_ (N := 142) rf_ (xs := ([(⟨(⟨([] : List ByteArray), ([] : List ByteArray)⟩ : S56), 2⟩ : S65)] : List (S65))) (inner := [.slice none 0 0, .slice none 0 0, .int .i64 2]) (ok := fun _ => True) (okp := fun _ => True) lr_ ?hp (fun _ hk => hk) trivial (Below.refl _ _) (Nat.le_refl _) (by simp) ?_; (case hp => exact (Reps.c3 (show Kd.M k65 _ _ _ (⟨(⟨([] : List ByteArray), ([] : List ByteArray)⟩ : S56), 2⟩ : S65) [.slice none 0 0, .slice none 0 0, .int .i64 2] from (k65_mkM _ _ _ (⟨(⟨([] : List ByteArray), ([] : List ByteArray)⟩ : S56), 2⟩ : S65) (Kd.R_nil _ _ _ _ _) (Kd.R_nil _ _ _ _ _))) (Reps.none _ _))); intro v395 w139 ho140 hb hg_ hnew_; clear hg_ hnew_; (first | rw [← Ny394.out] at ho140 | (simp only [Int.reduceToNat] at ho140; rw [← Ny394.out] at ho140)); have HO396 := Aside0.mk (Kd.S_lower (Kd.S_new' ho140 (Kd.S_lt (so_ HO_365013))) (below_size (hb3_ HB GE353 GE354 GE364))); replace HO_365013 := Aside0.mk (Kd.S_elder' (so_ HO_365013) (Kd.S_base ho140) hb); replace BK353 := Aside0.mk (bb_ BK353 hb); replace BK354 := Aside0.mk (bb_ BK354 hb); replace BK364 := Aside0.mk (bb_ BK364 hb); replace HB := Aside0.mk (below_step (hb3_ HB GE353 GE354 GE364) hb); clear hb ho140; obtain ⟨Ao141, co141, eo141⟩ := Kd.S_slice HO396.out; subst eo141; obtain ⟨hcz142_0, hcz142_1, hcz142_2, hcz142_3, hcz142_4, hcz142_5, hcz142_6, hcz142_7, hcz142_8, hcz142_9, hcz142_10, hcz142_11, hcz142_12, hcz142_13, hcz142_14⟩ := cz15_ BK364; obtain ⟨hfz142_0, hfz142_1, hfz142_2, hfz142_3, hfz142_4, hfz142_5, hfz142_6, hfz142_7, hfz142_8, hfz142_9, hfz142_10, hfz142_11, hfz142_12, hfz142_13, hfz142_14⟩ := fz15_ BK364; have hnb143 := NB354_353.out; have hnc143 := NB353_354.out; obtain ⟨hcz144_0, hcz144_1, hcz144_2, hcz144_3, hcz144_4, hcz144_5, hcz144_6, hcz144_7, hcz144_8, hcz144_9, hcz144_10, hcz144_11, hcz144_12, hcz144_13, hcz144_14⟩ := cz15_ BK354; obtain ⟨hfz144_0, hfz144_1, hfz144_2, hfz144_3, hfz144_4, hfz144_5, hfz144_6, hfz144_7, hfz144_8, hfz144_9, hfz144_10, hfz144_11, hfz144_12, hfz144_13, hfz144_14⟩ := fz15_ BK354))
               go_meet
               case rel => exact ⟨(.slice none 0 0), (.slice none 0 0), (.slice Ao141 y394.length co141), (.slice none 0 0), ⟨ni_⟩, ⟨ni_⟩, ⟨Kd.S_mono (Kd.S_far (p := ⟨gb364, 13, none⟩) (Kd.S_types HO396.out BK364.out (by decide)) (fun _ hk => hk.2) (.slice Ao141 y394.length co141)) (fun _ _ => ⟨(by simp [Value.ownBlock]), (by simp [Value.ownBlock])⟩)⟩, ⟨ni_⟩, ⟨bf1_ BK354 NB354_364⟩, ⟨bq0_ BK364⟩, ⟨hb3_ HB GE353 GE354 GE364⟩⟩
              subst c121; rw [if_pos rfl] at H; replace H := ip_ H; obtain ⟨c122, H⟩ := H; have c122b0 := decide_eq_true c122; clear c122; replace H := ip_ H; obtain ⟨c123, H⟩ := H; have c123b0 := decide_eq_true c123; clear c123; replace H := Option.bind_eq_some_iff.mp H; obtain ⟨⟨t383, t386⟩, A1240, H⟩ := H
              replace H : ((haberdashplay_Mod.f ((rd_T65 l0_13 x6_4).f1) 2).bind fun t390 => (if x365013_4.length < 2513169434916 then (haberdashplay_Promo.l0 kj112 (wrap64 (x6_4 + 1)) a0_0 a0_1 a0_2 a0_3 a0_4 a0_5 l0_6 l0_7 a0_8 a0_9 a0_10 a0_11 a0_12 l0_13 l0_14 t355 K_ t357 x365003_8 x365004_51 a0_5 x365008_64 0 t381 0 0 (x365013_4 ++ [(⟨(⟨t383, t386⟩ : S56), wrap64 (1 + t390)⟩ : S65)])) else (none))) = some (r1, r2, r3, r4, r5, r6, r7, r8, r9, r10, r11, r12, r13, r14, r15) := H
              have A124 := Aside0.mk A1240; clear A1240; replace H := Option.bind_eq_some_iff.mp H; obtain ⟨t390, A1250, H⟩ := H; replace H : (if x365013_4.length < 2513169434916 then (haberdashplay_Promo.l0 kj112 (wrap64 (x6_4 + 1)) a0_0 a0_1 a0_2 a0_3 a0_4 a0_5 l0_6 l0_7 a0_8 a0_9 a0_10 a0_11 a0_12 l0_13 l0_14 t355 K_ t357 x365003_8 x365004_51 a0_5 x365008_64 0 t381 0 0 (x365013_4 ++ [(⟨(⟨t383, t386⟩ : S56), wrap64 (1 + t390)⟩ : S65)])) else (none)) = some (r1, r2, r3, r4, r5, r6, r7, r8, r9, r10, r11, r12, r13, r14, r15) := H
              have A125 := Aside0.mk A1250; clear A1250; replace H := ip_ H; obtain ⟨c126, H⟩ := H; have LMc126 := Aside0.mk c126; clear c126; obtain ⟨y391, hy391⟩ : ∃ y_ : List (S65), y_ = (x365013_4 ++ [(⟨(⟨t383, t386⟩ : S56), wrap64 (1 + t390)⟩ : S65)]) := ⟨_, rfl⟩; replace H : (haberdashplay_Promo.l0 kj112 (wrap64 (x6_4 + 1)) a0_0 a0_1 a0_2 a0_3 a0_4 a0_5 l0_6 l0_7 a0_8 a0_9 a0_10 a0_11 a0_12 l0_13 l0_14 t355 K_ t357 x365003_8 x365004_51 a0_5 x365008_64 0 t381 0 0 y391) = some (r1, r2, r3, r4, r5, r6, r7, r8, r9, r10, r11, r12, r13, r14, r15) := hy_ hy391 H
              have Ny391 := Aside0.mk hy391; clear hy391; have H' := Aside0.mk H; clear H
              try go_wp2
              replace HO_365013 := Aside0.mk (Kd.S_drew HO_365013.out); replace BK353 := Aside0.mk (blk_drew BK353.out); replace BK354 := Aside0.mk (blk_drew BK354.out); replace BK364 := Aside0.mk (blk_drew BK364.out); replace HB := Aside0.mk (below_drew1 HB.out); have p382 : 0 ≤ (x6_4 : Int) := of_decide_eq_true as_
              have q382 : x6_4 < (l0_13.length : Int) := of_decide_eq_true as_; obtain ⟨ad382, A382_0, c382_0, A382_1, c382_1, e382, hx382_0, hx382_1, hx382_2, hl382_0, hi382_0, hl382_1, hi382_1⟩ := at_T65 HR0_13.out x6_4 p382 q382; have hw382_2 := hx382_2; have hw382_1 := hx382_1; have hw382_0 := hx382_0
              cases e382; replace hx382_0 := hd_ HB hx382_0; replace hx382_1 := hd_ HB hx382_1; replace hx382_2 := hd_ HB hx382_2; have HR382_0 := Aside0.mk hi382_0; have HC382_0 := Aside0.mk hl382_0; clear hi382_0 hl382_0; have HR382_1 := Aside0.mk hi382_1; have HC382_1 := Aside0.mk hl382_1; clear hi382_1 hl382_1
              replace p382 := eq_true p382; replace q382 := eq_true q382; have p389 : 0 ≤ (x6_4 : Int) := of_decide_eq_true as_; have q389 : x6_4 < (l0_13.length : Int) := of_decide_eq_true as_; obtain ⟨ad389, A389_0, c389_0, A389_1, c389_1, e389, hx389_0, hx389_1, hx389_2, hl389_0, hi389_0, hl389_1, hi389_1⟩ := at_T65 HR0_13.out x6_4 p389 q389
              have hw389_2 := hx389_2; have hw389_1 := hx389_1; have hw389_0 := hx389_0
              obtain rfl : ad382 = ad389 := (by injection e389)
              replace hx389_0 := hd_ HB hx389_0; replace hx389_1 := hd_ HB hx389_1; replace hx389_2 := hd_ HB hx389_2; have HR389_0 := Aside0.mk hi389_0; have HC389_0 := Aside0.mk hl389_0; clear hi389_0 hl389_0; have HR389_1 := Aside0.mk hi389_1; have HC389_1 := Aside0.mk hl389_1; clear hi389_1 hl389_1
              replace p389 := eq_true p389; replace q389 := eq_true q389; have ea_ := Option.some.inj (hx382_0.symm.trans hx389_0)
              injection ea_ with ea_ en_ ec_
              subst ea_; subst ec_; clear en_; have ea_ := Option.some.inj (hx382_1.symm.trans hx389_1)
              injection ea_ with ea_ en_ ec_
              subst ea_; subst ec_; clear en_
              refine start_ (n := 22) (S := fun w' => w'.cell? ⟨gb364, 0, none⟩ = some (.string t355) ∧ w'.cell? ⟨gb364, 1, none⟩ = some (.int .i64 K_) ∧ w'.cell? ⟨gb364, 2, none⟩ = some (.int .i64 t357) ∧ w'.cell? ⟨gb364, 3, none⟩ = some (.string x365003_8) ∧ w'.cell? ⟨gb364, 4, none⟩ = some (.string x365004_51) ∧ w'.cell? ⟨gb364, 5, none⟩ = some (.bool a0_5) ∧ w'.cell? ⟨gb364, 6, none⟩ = some (.slice none 0 0) ∧ w'.cell? ⟨gb364, 7, none⟩ = some (.slice none 0 0) ∧ w'.cell? ⟨gb364, 8, none⟩ = some (.int .i64 x365008_64) ∧ w'.cell? ⟨gb364, 9, none⟩ = some (.int .i64 0) ∧ w'.cell? ⟨gb364, 10, none⟩ = some (.int .i64 t381) ∧ w'.cell? ⟨gb364, 11, none⟩ = some (.int .i64 0) ∧ w'.cell? ⟨gb364, 12, none⟩ = some (.int .i64 0) ∧ w'.cell? ⟨gb364, 13, none⟩ = some (u365013) ∧ w'.cell? ⟨gb364, 14, none⟩ = some (.slice none 0 0) ∧ w'.cell? ⟨gb353, 0, none⟩ = some (.string a0_0) ∧ w'.cell? ⟨gb353, 1, none⟩ = some (.int .i64 a0_1) ∧ w'.cell? ⟨gb353, 2, none⟩ = some (.int .i64 a0_2) ∧ w'.cell? ⟨gb353, 3, none⟩ = some (.string a0_3) ∧ w'.cell? ⟨gb353, 4, none⟩ = some (.string a0_4) ∧ w'.cell? ⟨gb353, 5, none⟩ = some (.bool a0_5) ∧ w'.cell? ⟨gb353, 6, none⟩ = some (.slice A0_6 l0_6.length c0_6) ∧ w'.cell? ⟨gb353, 7, none⟩ = some (.slice A0_7 l0_7.length c0_7) ∧ w'.cell? ⟨gb353, 8, none⟩ = some (.int .i64 a0_8) ∧ w'.cell? ⟨gb353, 9, none⟩ = some (.int .i64 a0_9) ∧ w'.cell? ⟨gb353, 10, none⟩ = some (.int .i64 a0_10) ∧ w'.cell? ⟨gb353, 11, none⟩ = some (.int .i64 a0_11) ∧ w'.cell? ⟨gb353, 12, none⟩ = some (.int .i64 a0_12) ∧ w'.cell? ⟨gb353, 13, none⟩ = some (.slice (some ad382) l0_13.length c0_13) ∧ w'.cell? ⟨gb353, 14, none⟩ = some (.slice A0_14 l0_14.length c0_14) ∧ w'.cell? (ad382.add ((x6_4).toNat * 3)) = some (.slice A382_0 ((rd_T65 l0_13 x6_4).f0.f0).length c382_0) ∧ w'.cell? ⟨(ad382.add ((x6_4).toNat * 3)).block, (ad382.add ((x6_4).toNat * 3)).off + 1, none⟩ = some (.slice A382_1 ((rd_T65 l0_13 x6_4).f0.f1).length c382_1) ∧ w'.cell? ⟨(ad382.add ((x6_4).toNat * 3)).block, (ad382.add ((x6_4).toNat * 3)).off + 2, none⟩ = some (.int .i64 ((rd_T65 l0_13 x6_4).f1)) ∧ w'.cell? (ad382.add ((x6_4).toNat * 3)) = some (.slice A382_0 ((rd_T65 l0_13 x6_4).f0.f0).length c382_0) ∧ w'.cell? ⟨(ad382.add ((x6_4).toNat * 3)).block, (ad382.add ((x6_4).toNat * 3)).off + 1, none⟩ = some (.slice A382_1 ((rd_T65 l0_13 x6_4).f0.f1).length c382_1) ∧ w'.cell? ⟨(ad382.add ((x6_4).toNat * 3)).block, (ad382.add ((x6_4).toNat * 3)).off + 2, none⟩ = some (.int .i64 ((rd_T65 l0_13 x6_4).f1))) (ds := [21]) (mk 22 0) (by kernel_rfl) rfl rfl ⟨cl_ BK364 0, cl_ BK364 1, cl_ BK364 2, cl_ BK364 3, cl_ BK364 4, cl_ BK364 5, cl_ BK364 6, cl_ BK364 7, cl_ BK364 8, cl_ BK364 9, cl_ BK364 10, cl_ BK364 11, cl_ BK364 12, cl_ BK364 13, cl_ BK364 14, cl_ BK353 0, cl_ BK353 1, cl_ BK353 2, cl_ BK353 3, cl_ BK353 4, cl_ BK353 5, cl_ BK353 6, cl_ BK353 7, cl_ BK353 8, cl_ BK353 9, cl_ BK353 10, cl_ BK353 11, cl_ BK353 12, cl_ BK353 13, cl_ BK353 14, (hc_ HB hw382_0), (hc_ HB hw382_1), (hc_ HB hw382_2), (hc_ HB hw389_0), (hc_ HB hw389_1), (hc_ HB hw389_2)⟩ (fun hHeld => ?_); refine with_tabW haberdashplay_Promo.tab21 haberdashplay_Promo.bits21 (fun HT_ HW_ => ?_)
              generalize wc.drew = w127 at HO_365013 BK353 BK354 BK364 HB HR382_0 HR382_1 HR389_0 HR389_1 hx382_0 hx382_1 hx382_2 hx389_0 hx389_1 hx389_2 hHeld ⊢
              refine ahead_ [(0, 116), (2, 118), (4, 120), (9, 125), (11, 127)] ?_
              iterate 5 (refine pB_ HT_ ?_)
              refine aheadE_ (mk 22 2581) kr_ ?_
              refine ahead_ [(1, 117), (3, 119)] ?_
              iterate 2 (refine tA_ (v := ?_) (a' := ?_) rfl rfl HT_.out HW_.out (by kernel_rfl) (fun _ _ _ h => h) (Or.inl ⟨by rfl, ?_⟩) hHeld ?_ ?_; rotate_left; (rintro w' ⟨s0, s1, s2, s3, s4, s5, s6, s7, s8, s9, s10, s11, s12, s13, s14, s15, s16, s17, s18, s19, s20, s21, s22, s23, s24, s25, s26, s27, s28, s29, s30, s31, s32, s33, s34, s35⟩; go_simp; with_reducible rfl); rotate_left; (exact pu_))
              refine aheadE_ (mk 22 2591) kr_ ?_
              refine ahead_ [(5, 121), (6, 122)] ?_
              iterate 2 (refine pB_ HT_ ?_)
              refine aheadE_ (mk 22 2687) kr_ ?_
              refine ahead_ [(7, 123), (10, 126)] ?_
              iterate 2 (refine tA_ (v := ?_) (a' := ?_) rfl rfl HT_.out HW_.out (by kernel_rfl) (fun _ _ _ h => h) (Or.inl ⟨by rfl, ?_⟩) hHeld ?_ ?_; rotate_left; (rintro w' ⟨s0, s1, s2, s3, s4, s5, s6, s7, s8, s9, s10, s11, s12, s13, s14, s15, s16, s17, s18, s19, s20, s21, s22, s23, s24, s25, s26, s27, s28, s29, s30, s31, s32, s33, s34, s35⟩; go_simp; with_reducible rfl); rotate_left; (exact pu_))
              refine aheadE_ (mk 22 3839) kr_ ?_
              refine ahead_ [(12, 128), (13, 129)] ?_
              iterate 2 (refine pB_ HT_ ?_)
              refine aheadE_ (mk 22 16127) kr_ ?_
              refine take_ (i := 14) (N := some 130) (v := ?_) (a' := ?_) (mk 22 32511) rfl rfl (tw_ HT_ HW_) nh_ (Or.inl ⟨by rfl, ?_⟩) hHeld ?_ ?_
              rotate_left
              ·
               rintro w' ⟨s0, s1, s2, s3, s4, s5, s6, s7, s8, s9, s10, s11, s12, s13, s14, s15, s16, s17, s18, s19, s20, s21, s22, s23, s24, s25, s26, s27, s28, s29, s30, s31, s32, s33, s34, s35⟩
               go_simp
               with_reducible rfl
              rotate_left; (exact pu_)
              refine one_ (i := 8) (N := some 124) (mk 22 32767) rfl rfl (on_ HT_) de_ (fun K hK => ?_)
              refine goes_ Try.func61 (by kernel_rfl) rfl #[.agg #[.slice A382_0 ((rd_T65 l0_13 x6_4).f0.f0).length c382_0, .slice A382_1 ((rd_T65 l0_13 x6_4).f0.f1).length c382_1]] (by rfl) rfl rfl am_ ?_
              with_reducible refine (haberdashplay_Scope.calls kj112 _ _ ((rd_T65 l0_13 x6_4).f0.f0) _ _ ((rd_T65 l0_13 x6_4).f0.f1) t383 t386 _ ?side1 ?side2 ?side3 ?side4 A124.out).mono ?_
              (case side1 => exact sc_ (Kd.C_below HR382_0.out HB.out))
              (case side2 => exact HC382_0.out)
              (case side3 => exact sc_ (Kd.C_below HR382_1.out HB.out))
              (case side4 => exact HC382_1.out)
              rintro e w128 ⟨v384, v387, rfl, ho0, ho1, hb⟩
              refine ⟨_, rfl, ?_⟩
              replace HO_365013 := Aside0.mk (Kd.S_mono (Kd.S_told (Kd.S_told (Kd.S_old (so_ HO_365013) hb) (Kd.R_base ho0)) (Kd.R_base ho1)) (fun _ h_ => h_.1))
              have HO385 := Aside0.mk (Kd.R_lower ho0 (below_size (hb3_ HB GE353 GE354 GE364))); have HO388 := Aside0.mk (Kd.R_lower ho1 (below_size (hb3_ HB GE353 GE354 GE364))); replace BK353 := Aside0.mk (bb_ BK353 hb); replace BK354 := Aside0.mk (bb_ BK354 hb); replace BK364 := Aside0.mk (bb_ BK364 hb)
              replace HB := Aside0.mk (below_step (hb3_ HB GE353 GE354 GE364) hb); (try clear hb); (try clear hb2); (try clear hk); (try clear hi); (try clear ho0); (try clear ho1)
              refine hK.out _ _ ⟨cl_ BK364 0, cl_ BK364 1, cl_ BK364 2, cl_ BK364 3, cl_ BK364 4, cl_ BK364 5, cl_ BK364 6, cl_ BK364 7, cl_ BK364 8, cl_ BK364 9, cl_ BK364 10, cl_ BK364 11, cl_ BK364 12, cl_ BK364 13, cl_ BK364 14, cl_ BK353 0, cl_ BK353 1, cl_ BK353 2, cl_ BK353 3, cl_ BK353 4, cl_ BK353 5, cl_ BK353 6, cl_ BK353 7, cl_ BK353 8, cl_ BK353 9, cl_ BK353 10, cl_ BK353 11, cl_ BK353 12, cl_ BK353 13, cl_ BK353 14, (hc_ HB hw382_0), (hc_ HB hw382_1), (hc_ HB hw382_2), (hc_ HB hw389_0), (hc_ HB hw389_1), (hc_ HB hw389_2)⟩ (fun hHeld => ?_)
              clear hK K
              refine norm_ pv_ ?_
              refine one_ (i := 15) (N := some 131) (mk 22 65535) rfl rfl (on_ HT_) de_ (fun K hK => ?_)
              refine goes_ Try.func26 (by kernel_rfl) rfl #[.int .i64 ((rd_T65 l0_13 x6_4).f1), .int .i64 2] (by rfl) rfl rfl am_ ?_
              with_reducible refine (haberdashplay_Mod.calls ((rd_T65 l0_13 x6_4).f1) 2 t390 _ A125.out).mono ?_
              rintro e w' ⟨rfl, ⟨nd, rfl⟩⟩
              refine ⟨_, rfl, ?_⟩
              obtain ⟨Ao129, co129, eo129⟩ := Kd.R_slice HO388.out
              (first | subst eo129 | (injection eo129 with f1_ f2_ f3_; have f4_ := f1_.symm; have f5_ := f3_.symm; clear f1_ f2_ f3_; subst f4_; subst f5_))
              obtain ⟨Ao130, co130, eo130⟩ := Kd.R_slice HO385.out
              (first | subst eo130 | (injection eo130 with f1_ f2_ f3_; have f4_ := f1_.symm; have f5_ := f3_.symm; clear f1_ f2_ f3_; subst f4_; subst f5_))
              refine hK.out _ _ ⟨cl_ BK364 0, cl_ BK364 1, cl_ BK364 2, cl_ BK364 3, cl_ BK364 4, cl_ BK364 5, cl_ BK364 6, cl_ BK364 7, cl_ BK364 8, cl_ BK364 9, cl_ BK364 10, cl_ BK364 11, cl_ BK364 12, cl_ BK364 13, cl_ BK364 14, cl_ BK353 0, cl_ BK353 1, cl_ BK353 2, cl_ BK353 3, cl_ BK353 4, cl_ BK353 5, cl_ BK353 6, cl_ BK353 7, cl_ BK353 8, cl_ BK353 9, cl_ BK353 10, cl_ BK353 11, cl_ BK353 12, cl_ BK353 13, cl_ BK353 14, (hc_ HB hw382_0), (hc_ HB hw382_1), (hc_ HB hw382_2), (hc_ HB hw389_0), (hc_ HB hw389_1), (hc_ HB hw389_2)⟩ (fun hHeld => ?_)
              clear hK K
              refine norm_ pv_ ?_
              refine ahead_ [(16, 132), (17, 133)] ?_
              iterate 2 (refine pB_ HT_ ?_)
              refine aheadE_ (mk 22 262143) kr_ ?_
              refine one_ (i := 18) (N := some 134) (mk 22 524287) rfl rfl (on_ HT_) de_ (fun K hK => ?_)
              refine value_ (w1 := ?_) (v := ?_) (by rfl) rfl ?_ ?_
              rotate_left 2
              ·
               go_simp
               constructor
               ·
                rfl
               ·
                rfl
              refine hK.out _ _ ⟨(blk_cell (blk_alloc BK364.out _) 0).trans rfl, (blk_cell (blk_alloc BK364.out _) 1).trans rfl, (blk_cell (blk_alloc BK364.out _) 2).trans rfl, (blk_cell (blk_alloc BK364.out _) 3).trans rfl, (blk_cell (blk_alloc BK364.out _) 4).trans rfl, (blk_cell (blk_alloc BK364.out _) 5).trans rfl, (blk_cell (blk_alloc BK364.out _) 6).trans rfl, (blk_cell (blk_alloc BK364.out _) 7).trans rfl, (blk_cell (blk_alloc BK364.out _) 8).trans rfl, (blk_cell (blk_alloc BK364.out _) 9).trans rfl, (blk_cell (blk_alloc BK364.out _) 10).trans rfl, (blk_cell (blk_alloc BK364.out _) 11).trans rfl, (blk_cell (blk_alloc BK364.out _) 12).trans rfl, (blk_cell (blk_alloc BK364.out _) 13).trans rfl, (blk_cell (blk_alloc BK364.out _) 14).trans rfl, (blk_cell (blk_alloc BK353.out _) 0).trans rfl, (blk_cell (blk_alloc BK353.out _) 1).trans rfl, (blk_cell (blk_alloc BK353.out _) 2).trans rfl, (blk_cell (blk_alloc BK353.out _) 3).trans rfl, (blk_cell (blk_alloc BK353.out _) 4).trans rfl, (blk_cell (blk_alloc BK353.out _) 5).trans rfl, (blk_cell (blk_alloc BK353.out _) 6).trans rfl, (blk_cell (blk_alloc BK353.out _) 7).trans rfl, (blk_cell (blk_alloc BK353.out _) 8).trans rfl, (blk_cell (blk_alloc BK353.out _) 9).trans rfl, (blk_cell (blk_alloc BK353.out _) 10).trans rfl, (blk_cell (blk_alloc BK353.out _) 11).trans rfl, (blk_cell (blk_alloc BK353.out _) 12).trans rfl, (blk_cell (blk_alloc BK353.out _) 13).trans rfl, (blk_cell (blk_alloc BK353.out _) 14).trans rfl, (World.cell?_alloc_lt _ _ _ (World.block_lt_of_cell? _ _ ((hc_ HB hw382_0)))).trans ((hc_ HB hw382_0)), (World.cell?_alloc_lt _ _ _ (World.block_lt_of_cell? _ _ ((hc_ HB hw382_1)))).trans ((hc_ HB hw382_1)), (World.cell?_alloc_lt _ _ _ (World.block_lt_of_cell? _ _ ((hc_ HB hw382_2)))).trans ((hc_ HB hw382_2)), (World.cell?_alloc_lt _ _ _ (World.block_lt_of_cell? _ _ ((hc_ HB hw389_0)))).trans ((hc_ HB hw389_0)), (World.cell?_alloc_lt _ _ _ (World.block_lt_of_cell? _ _ ((hc_ HB hw389_1)))).trans ((hc_ HB hw389_1)), (World.cell?_alloc_lt _ _ _ (World.block_lt_of_cell? _ _ ((hc_ HB hw389_2)))).trans ((hc_ HB hw389_2))⟩ (fun hHeld => ?_)
              clear hK K
              refine norm_ pv_ ?_
              refine one_ (i := 19) (N := some 135) (mk 22 1048575) rfl rfl (on_ HT_) de_ (fun K hK => ?_)
              refine Kd.S_append_step k65 (w0 := w) w.heap.size (by rfl) (.tmp 117) (.tmp 134) 57 65 (.agg #[(.slice none 0 0), (.slice none 0 0), (.int .i64 0)]) 56 rfl Try.underlying57 info65 rfl (by decide) (by omega) u365013 x365013_4 (⟨(⟨t383, t386⟩ : S56), wrap64 (1 + t390)⟩ : S65) [.slice Ao130 t383.length co130, .slice Ao129 t386.length co129, .int .i64 (wrap64 (1 + t390))] (fun _ => True) (fun k_ => some k_ = (.slice Ao130 t383.length co130 : Value).ownBlock ∨ some k_ = (.slice Ao129 t386.length co129 : Value).ownBlock) rfl rfl ?aP (fun k_ hk_ => hk_.elim (fun h_ => ((Kd.R_mono (ok' := fun k_ => ((fun _ => True)) k_ ∧ some k_ ≠ (u365013 : Value).ownBlock) (Kd.R_apart' (HO385.out) (Kd.S_typed HO_365013.out) (by decide)) (fun k_ hk => ⟨trivial, hk.2⟩))).1 k_ h_.symm) (fun h_ => ((Kd.R_mono (ok' := fun k_ => ((fun _ => True)) k_ ∧ some k_ ≠ (u365013 : Value).ownBlock) (Kd.R_apart' (HO388.out) (Kd.S_typed HO_365013.out) (by decide)) (fun k_ hk => ⟨trivial, hk.2⟩))).1 k_ h_.symm)) ?aF ?aO ?aB ?aS ?aL ?_
              (case aP => exact k65_mkM _ _ _ (⟨(⟨t383, t386⟩ : S56), wrap64 (1 + t390)⟩ : S65) (Kd.R_mono (Kd.R_tight rfl (Kd.R_mono (ok' := fun k_ => ((fun _ => True)) k_ ∧ some k_ ≠ (u365013 : Value).ownBlock) (Kd.R_apart' (HO385.out) (Kd.S_typed HO_365013.out) (by decide)) (fun k_ hk => ⟨trivial, hk.2⟩))) (fun _ h_ => Or.inl h_)) (Kd.R_mono (Kd.R_tight rfl (Kd.R_mono (ok' := fun k_ => ((fun _ => True)) k_ ∧ some k_ ≠ (u365013 : Value).ownBlock) (Kd.R_apart' (HO388.out) (Kd.S_typed HO_365013.out) (by decide)) (fun k_ hk => ⟨trivial, hk.2⟩))) (fun _ h_ => Or.inr (h_))))
              (case aB => exact (hb3_ HB GE353 GE354 GE364))
              (case aF => exact (fun _ _ => trivial))
              (case aO => exact (by (with_reducible repeat (first | apply Kd.S_alloc | apply Kd.S_drewN | apply Kd.S_drew)); exact Kd.S_mono HO_365013.out (fun k_ hk => ⟨trivial, fun e_ => e_.elim (fun h_ => hk.1.2 h_) (fun h_ => hk.2 h_)⟩)))
              (case aS => exact (below_size (hb3_ HB GE353 GE354 GE364)))
              (case aL => have := LMc126.out; omega)
              intro v392 w131 ho hb hg hat
              rw [← Ny391.out] at ho
              have n0_ := Aside0.mk (blk_grown (g := gb353) (o := .cells #[.string a0_0, .int .i64 a0_1, .int .i64 a0_2, .string a0_3, .string a0_4, .bool a0_5, .slice A0_6 l0_6.length c0_6, .slice A0_7 l0_7.length c0_7, .int .i64 a0_8, .int .i64 a0_9, .int .i64 a0_10, .int .i64 a0_11, .int .i64 a0_12, .slice (some ad382) l0_13.length c0_13, .slice A0_14 l0_14.length c0_14] 60 (0, 0)) (bk_ BK353) hg (Kd.S_ne HO_365013.out BK353.out (by decide)))
              have n1_ := Aside0.mk (blk_grown (g := gb354) (o := .cells #[.string (⟨#[]⟩ : ByteArray), .int .i64 0, .int .i64 0, .string (⟨#[]⟩ : ByteArray), .string (⟨#[]⟩ : ByteArray), .bool false, .slice none 0 0, .slice none 0 0, .int .i64 0, .int .i64 0, .int .i64 0, .int .i64 0, .int .i64 0, .slice none 0 0, .slice none 0 0] 60 (0, 0)) (bk_ BK354) hg (Kd.S_ne HO_365013.out BK354.out (by decide)))
              have n2_ := Aside0.mk (blk_grown (g := gb364) (o := .cells #[.string t355, .int .i64 K_, .int .i64 t357, .string x365003_8, .string x365004_51, .bool a0_5, .slice none 0 0, .slice none 0 0, .int .i64 x365008_64, .int .i64 0, .int .i64 t381, .int .i64 0, .int .i64 0, u365013, .slice none 0 0] 60 (0, 0)) (bk_ BK364) hg (Kd.S_ne HO_365013.out BK364.out (by decide)))
              have n3_ := Aside0.mk hb; have n4_ := Aside0.mk ho; clear BK353; clear BK354; clear BK364; clear HB; clear HO_365013; clear HO385; clear HO388; have BK353 := n0_; have BK354 := n1_; have BK364 := n2_; have HB := n3_; have HO393 := n4_; clear n0_ n1_ n2_ n3_ n4_; clear ho hb hg hat; obtain ⟨Ao132, co132, eo132⟩ := Kd.S_slice HO393.out
              (first | subst eo132 | (injection eo132 with f1_ f2_ f3_; have f4_ := f1_.symm; have f5_ := f3_.symm; clear f1_ f2_ f3_; subst f4_; subst f5_))
              refine hK.out _ _ ⟨cl_ BK364 0, cl_ BK364 1, cl_ BK364 2, cl_ BK364 3, cl_ BK364 4, cl_ BK364 5, cl_ BK364 6, cl_ BK364 7, cl_ BK364 8, cl_ BK364 9, cl_ BK364 10, cl_ BK364 11, cl_ BK364 12, cl_ BK364 13, cl_ BK364 14, cl_ BK353 0, cl_ BK353 1, cl_ BK353 2, cl_ BK353 3, cl_ BK353 4, cl_ BK353 5, cl_ BK353 6, cl_ BK353 7, cl_ BK353 8, cl_ BK353 9, cl_ BK353 10, cl_ BK353 11, cl_ BK353 12, cl_ BK353 13, cl_ BK353 14, (hc_ HB hw382_0), (hc_ HB hw382_1), (hc_ HB hw382_2), (hc_ HB hw389_0), (hc_ HB hw389_1), (hc_ HB hw389_2)⟩ (fun hHeld => ?_)
              clear hK K
              refine norm_ pv_ ?_
              refine pure_ (i := 20) (N := some 136) (v := ?_) (a' := ?_) (mk 22 2097151) rfl rfl (an_ HT_) nh_ (Or.inl ⟨ry_, ?_⟩) ?_ ?_
              rotate_left; (intro w'; go_simp; with_reducible rfl)
              rotate_left; (exact pu_)
              refine last_ (i := 21) (N := none) (mk 22 4194303) rfl rfl (on_ HT_) de_ (fun K hK => ?_)
              have hs133 : w131.cell? ⟨gb364, 13, none⟩ = some (u365013) := (blk_cell BK364.out 13).trans rfl; have hfs133 := blk_frozen BK364.out 13; have hns133_0 := NB353_364.out; have hns133_1 := NB354_364.out; have hms133_0 := NB364_353.out; have hms133_1 := NB364_354.out
              refine skip_ (w1 := ?_) (by rfl) rfl ?_ ?_
              rotate_left
              ·
               go_simp
               rfl
              refine hK.out _ _ ?_
              clear hK K
              refine done_ (done_of HT_.out (by kernel_rfl)) ?_
              try go_wp2
              go_roundg kj112
              case measure => have := HJ8.out; have := HJ51.out; have := HJ64.out; have := HK4.out; have := HJ112.out; omega
              case rel => exact ⟨(wrap64 (x6_4 + 1)), (y391), (.slice Ao132 y391.length co132), rf_, H', ⟨by have := HJ8.out; have := HJ51.out; have := HJ64.out; have := HK4.out; have := HJ112.out; omega⟩, ⟨by (with_reducible repeat (first | apply Kd.S_alloc | apply Kd.S_drewN | apply Kd.S_drew)); exact Kd.S_mono (Kd.S_far (p := ⟨gb364, 13, none⟩) (Kd.S_types HO393.out BK364.out (by decide)) (fun _ hk => hk.2) (.slice Ao132 y391.length co132)) (fun _ hk => trivial)⟩, ⟨bf1_ BK353 NB353_364⟩, ⟨bf1_ BK354 NB354_364⟩, ⟨bq0_ BK364⟩, ⟨hb3_ HB GE353 GE354 GE364⟩⟩
        rw [if_neg c4_] at H
        have bc4_ : (K_ == 4) = false := beq_eq_false_iff_ne.mpr c4_
        clear c4_
        by_cases c5_ : K_ = 5
        · rw [if_pos c5_] at H
          have bc5_ : (K_ == 5) = true := beq_iff_eq.mpr c5_
          clear c5_
          obtain ⟨t_, hA_, H⟩ := Option.bind_eq_some_iff.mp H
          have HA_ := Aside0.mk hA_; clear hA_
          simp only [Option.some.injEq, Prod.mk.injEq] at H
          obtain ⟨rfl, rfl, rfl, rfl, rfl, rfl, rfl, rfl, rfl, rfl, rfl, rfl, rfl, rfl, rfl⟩ := H
          have la_ := cl_ BK353 14
          go_wp2_with fail
          refine (haberdashplay_tiers.calls _ _ _ l0_14 5000 t_ _ (sc_ (Kd.C_below HR0_14.out HB.out)) HC0_14.out HA_.out).mono ?_
          rintro e w2_ ⟨v_, rfl, ho0, hb⟩
          have HO_t := Aside0.mk (Kd.R_lower ho0 (below_size (hb3_ HB GE353 GE354 GE364))); clear ho0
          replace HO_365006 := Aside0.mk (Kd.R_below (ro_ HO_365006) hb); replace HO_365007 := Aside0.mk (Kd.R_below (ro_ HO_365007) hb); replace BK353 := Aside0.mk (bb_ BK353 hb); replace BK354 := Aside0.mk (bb_ BK354 hb); replace BK364 := Aside0.mk (bb_ BK364 hb); replace HB := Aside0.mk (below_step (hb3_ HB GE353 GE354 GE364) hb); clear hb
          obtain ⟨At_, ct_, et_⟩ := Kd.R_slice HO_t.out; subst et_
          have l14_ := cl_ BK364 14; have f14_ := blk_frozen BK364.out 14
          go_wp2_with fail
          go_meet
          case rel => exact ⟨(.slice Ao20 t358.length co20), (.slice Ao19 t361.length co19), (.slice none 0 0), (.slice At_ t_.length ct_), ⟨rf1_ HO_365006 BK364⟩, ⟨rf1_ HO_365007 BK364⟩, ⟨Kd.S_nil _ _ _ _ _⟩, ⟨rf1_ HO_t BK364⟩, ⟨bf1_ BK354 NB354_364⟩, ⟨bq0_ BK364⟩, ⟨hb3_ HB GE353 GE354 GE364⟩⟩
        rw [if_neg c5_] at H
        have bc5_ : (K_ == 5) = false := beq_eq_false_iff_ne.mpr c5_
        clear c5_
        by_cases c6_ : K_ = 6
        · rw [if_pos c6_] at H
          have bc6_ : (K_ == 6) = true := beq_iff_eq.mpr c6_
          clear c6_
          obtain ⟨t_, hA_, H⟩ := Option.bind_eq_some_iff.mp H
          have HA_ := Aside0.mk hA_; clear hA_
          simp only [Option.some.injEq, Prod.mk.injEq] at H
          obtain ⟨rfl, rfl, rfl, rfl, rfl, rfl, rfl, rfl, rfl, rfl, rfl, rfl, rfl, rfl, rfl⟩ := H
          have la_ := cl_ BK353 14
          go_wp2_with fail
          refine (haberdashplay_tiers.calls _ _ _ l0_14 5 t_ _ (sc_ (Kd.C_below HR0_14.out HB.out)) HC0_14.out HA_.out).mono ?_
          rintro e w2_ ⟨v_, rfl, ho0, hb⟩
          have HO_t := Aside0.mk (Kd.R_lower ho0 (below_size (hb3_ HB GE353 GE354 GE364))); clear ho0
          replace HO_365006 := Aside0.mk (Kd.R_below (ro_ HO_365006) hb); replace HO_365007 := Aside0.mk (Kd.R_below (ro_ HO_365007) hb); replace BK353 := Aside0.mk (bb_ BK353 hb); replace BK354 := Aside0.mk (bb_ BK354 hb); replace BK364 := Aside0.mk (bb_ BK364 hb); replace HB := Aside0.mk (below_step (hb3_ HB GE353 GE354 GE364) hb); clear hb
          obtain ⟨At_, ct_, et_⟩ := Kd.R_slice HO_t.out; subst et_
          have l14_ := cl_ BK364 14; have f14_ := blk_frozen BK364.out 14
          go_wp2_with fail
          go_meet
          case rel => exact ⟨(.slice Ao20 t358.length co20), (.slice Ao19 t361.length co19), (.slice none 0 0), (.slice At_ t_.length ct_), ⟨rf1_ HO_365006 BK364⟩, ⟨rf1_ HO_365007 BK364⟩, ⟨Kd.S_nil _ _ _ _ _⟩, ⟨rf1_ HO_t BK364⟩, ⟨bf1_ BK354 NB354_364⟩, ⟨bq0_ BK364⟩, ⟨hb3_ HB GE353 GE354 GE364⟩⟩
        rw [if_neg c6_] at H
        have bc6_ : (K_ == 6) = false := beq_eq_false_iff_ne.mpr c6_
        clear c6_
        obtain ⟨t_, hA_, H⟩ := Option.bind_eq_some_iff.mp H
        have HA_ := Aside0.mk hA_; clear hA_
        simp only [Option.some.injEq, Prod.mk.injEq] at H
        obtain ⟨rfl, rfl, rfl, rfl, rfl, rfl, rfl, rfl, rfl, rfl, rfl, rfl, rfl, rfl, rfl⟩ := H
        have la_ := cl_ BK353 9
        go_wp2_with fail
        with_reducible refine (haberdashplay_Mod64.calls a0_9 10000 t_ _ HA_.out).mono ?_
        rintro e w2_ ⟨rfl, ⟨nd_, rfl⟩⟩
        have hb := pw_below_drewN (Below.refl wc.heap.size wc) nd_
        generalize World.drewN wc nd_ = w2_ at hb ⊢
        replace HO_365006 := Aside0.mk (Kd.R_below (ro_ HO_365006) hb); replace HO_365007 := Aside0.mk (Kd.R_below (ro_ HO_365007) hb); replace BK353 := Aside0.mk (bb_ BK353 hb); replace BK354 := Aside0.mk (bb_ BK354 hb); replace BK364 := Aside0.mk (bb_ BK364 hb); replace HB := Aside0.mk (below_step (hb3_ HB GE353 GE354 GE364) hb); clear hb
        have l6_ := cl_ BK364 6; have f6_ := blk_frozen BK364.out 6; have l7_ := cl_ BK364 7; have f7_ := blk_frozen BK364.out 7; have l5_ := cl_ BK364 5; have f5_ := blk_frozen BK364.out 5; have l9_ := cl_ BK364 9; have f9_ := blk_frozen BK364.out 9
        go_wp2_with fail
        go_meet
        case rel => exact ⟨(.slice none 0 0), (.slice none 0 0), (.slice none 0 0), (.slice none 0 0), ⟨ni_⟩, ⟨ni_⟩, ⟨Kd.S_nil _ _ _ _ _⟩, ⟨ni_⟩, ⟨bf4_ BK354 NB354_364 NB354_364 NB354_364 NB354_364⟩, ⟨bq0_ BK364⟩, ⟨hb3_ HB GE353 GE354 GE364⟩⟩
       case rest => as_aux_lemma =>
        clear HJ2 HO_365006 HO_365007 BK353 BK354 BK364 HB
        obtain ⟨v6_, v7_, v13_, v14_, HO6_, HO7_, HO13_, HO14_, BK354, BK364, HB⟩ := hcut
        obtain ⟨A6_, q6_, rfl⟩ := Kd.R_slice HO6_.out
        obtain ⟨A7_, q7_, rfl⟩ := Kd.R_slice HO7_.out
        obtain ⟨A13_, q13_, rfl⟩ := Kd.S_slice HO13_.out
        obtain ⟨A14_, q14_, rfl⟩ := Kd.R_slice HO14_.out
        go_upto_region 28 with fail
        go_wp2_with (first | (refine Go.wpList_store_row rfl 60 _ _ rfl gb354 #[.string r1, .int .i64 r2, .int .i64 r3, .string r4, .string r5, .bool r6, .slice A6_ r7.length q6_, .slice A7_ r8.length q7_, .int .i64 r9, .int .i64 r10, .int .i64 r11, .int .i64 r12, .int .i64 r13, .slice A13_ r14.length q13_, .slice A14_ r15.length q14_] rfl rfl 60 #[.string (⟨#[]⟩ : ByteArray), .int .i64 0, .int .i64 0, .string (⟨#[]⟩ : ByteArray), .string (⟨#[]⟩ : ByteArray), .bool false, (.slice none 0 0), (.slice none 0 0), .int .i64 0, .int .i64 0, .int .i64 0, .int .i64 0, .int .i64 0, (.slice none 0 0), (.slice none 0 0)] BK354.out rfl rfl (by simp [Go.Value.oneCell']) ?_; refine nameL_ (fun wA hwA => ?_); have n6_ : Aside0 (Kd.R Kd.string 9 wA w.heap.size (fun k_ => some k_ ≠ ((.slice A7_ r8.length q7_) : Value).ownBlock) (.slice A6_ r7.length q6_) r7) := ⟨by rw [hwA]; exact Kd.R_mono (Kd.R_kept (Kd.R_types HO6_.out BK354.out (by decide)) (krow_ _ _ _) (fun _ h_ => h_.2)) (fun _ h_ => h_.1)⟩; have n7_ : Aside0 (Kd.R Kd.string 9 wA w.heap.size (fun k_ => some k_ ≠ ((.slice A6_ r7.length q6_) : Value).ownBlock) (.slice A7_ r8.length q7_) r8) := ⟨by rw [hwA]; exact Kd.R_mono (Kd.R_kept (Kd.R_types HO7_.out BK354.out (by decide)) (krow_ _ _ _) (fun _ h_ => h_.2)) (fun _ h_ => h_.1)⟩; have n13_ : Aside0 (Kd.S k65 65 wA w.heap.size (fun k_ => some k_ ≠ ((.slice A6_ r7.length q6_) : Value).ownBlock ∧ some k_ ≠ ((.slice A7_ r8.length q7_) : Value).ownBlock) (.slice A13_ r14.length q13_) r14) := ⟨by rw [hwA]; exact Kd.S_mono (Kd.S_kept (Kd.S_types HO13_.out BK354.out (by decide)) (krow_ _ _ _) (fun _ h_ => h_.2)) (fun _ h_ => h_.1)⟩; have n14_ : Aside0 (Kd.R k67 67 wA w.heap.size (fun _ => True) (.slice A14_ r15.length q14_) r15) := ⟨by rw [hwA]; exact Kd.R_mono (Kd.R_kept (Kd.R_types HO14_.out BK354.out (by decide)) (krow_ _ _ _) (fun _ h_ => h_.2)) (fun _ h_ => h_.1)⟩; have nb_ : Aside0 (wA.heap[gb354]? = some (.cells #[.string r1, .int .i64 r2, .int .i64 r3, .string r4, .string r5, .bool r6, .slice A6_ r7.length q6_, .slice A7_ r8.length q7_, .int .i64 r9, .int .i64 r10, .int .i64 r11, .int .i64 r12, .int .i64 r13, .slice A13_ r14.length q13_, .slice A14_ r15.length q14_] 60 (0, 0))) := ⟨by rw [hwA]; exact Go.setRow_heap _ _ _ _ _ _ BK354.out⟩; have nB_ : Aside0 (Below w.heap.size w wA) := ⟨by rw [hwA]; exact brow_ HB.out GE354.out⟩; clear hwA HO6_ HO7_ HO13_ HO14_ HB) | (refine Go.wpList_load_row rfl 60 _ rfl gb364 rfl 60 #[.string r1, .int .i64 r2, .int .i64 r3, .string r4, .string r5, .bool r6, .slice A6_ r7.length q6_, .slice A7_ r8.length q7_, .int .i64 r9, .int .i64 r10, .int .i64 r11, .int .i64 r12, .int .i64 r13, .slice A13_ r14.length q13_, .slice A14_ r15.length q14_] (0, 0) _ BK364.out Try.underlying60 rfl (by kernel_rfl) ?_))
        refine bodyPost_ret (results_cell_row rfl _ _ gb354 60 #[.string r1, .int .i64 r2, .int .i64 r3, .string r4, .string r5, .bool r6, .slice A6_ r7.length q6_, .slice A7_ r8.length q7_, .int .i64 r9, .int .i64 r10, .int .i64 r11, .int .i64 r12, .int .i64 r13, .slice A13_ r14.length q13_, .slice A14_ r15.length q14_] (0, 0) _ rfl nb_.out Try.underlying60 rfl (by kernel_rfl)) rfl ?_
        exact ⟨_, _, _, _, er_, n6_.out, n7_.out, n13_.out, n14_.out, nB_.out⟩

end Go.Proofs.Ytdmeepjefccpgaa.Rw
