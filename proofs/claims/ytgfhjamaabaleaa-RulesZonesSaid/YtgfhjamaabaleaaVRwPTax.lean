/- Functions of the program as Lean functions, each with its contract: out of what the kit's printer wrote for this seat. -/
import Derived.Test.YtgfhjamaabaleaaVRwA
import Derived.Test.YtgfhjamaabaleaaVRwAb
import Derived.Test.YtgfhjamaabaleaaVRwMon
namespace Go.Proofs.Ytgfhjamaabaleaa.Rw
open Go.RowKit Go.Proofs.YtgfhjamaabaleaaW.PrintWords Go.Proofs.YtgfhjamaabaleaaW.PrintLast Go.Proofs.YtgfhjamaabaleaaW.PrintMore
attribute [local go_sem] max2_int min2_int max_two min_two max_three min_three max_four min_four   -- for this text's walks alone
set_option linter.unusedVariables false
set_option linter.unusedSimpArgs false
attribute [local go_sem high] leqS gtrS

/-! ### haberdashplay_Tax: function 6 -/
mutual
def haberdashplay_Tax.l0 : Nat → Int → Bool → Bool → Int → List (S28) → Bool → Bool → Int → List (S28) → Option (Bool × Bool × Int × (List (S28)))
 | 0, _, _, _, _, _, _, _, _, _ => none
 | k + 1, x4, x202000, x202001, x202002, x202003, x205000, x205001, x205002, x205003 => if x4 < 3 then ((some (([(48 + ((x4) % 256)) % 256] : List Int) : List Int)).bind fun y205 => (if 1 + (strOfNums y205).size ≤ 9223372036854775807 then (if x4 < (x202003.length : Int) then (if 0 ≤ x4 then ((haberdashplay_Mod64.f ((rd_T28 x202003 x4).f2) 3000).bind fun t210 => ((haberdashplay_Mod64.f ((rd_T28 x202003 x4).f3) 3000).bind fun t212 => (haberdashplay_Tax.l1 k x4 0 x202000 x202001 x202002 x202003 x205000 x205001 x205002 x205003 ((⟨#[122]⟩ : ByteArray) ++ (strOfNums y205)) ([] : List (S39)) t210 t212))) else (none)) else (if x205003.length < 2513169434916 then (haberdashplay_Tax.l0 k (wrap64 (x4 + 1)) x202000 x202001 x202002 x202003 x205000 x205001 x205002 (x205003 ++ [(⟨(⟨#[122]⟩ : ByteArray) ++ (strOfNums y205), ([] : List (S39)), wrap64 (1000 * x4), wrap64 (500 * x4)⟩ : S28)])) else (none))) else (none))) else (some (x205000, x205001, x205002, x205003))
def haberdashplay_Tax.l1 : Nat → Int → Int → Bool → Bool → Int → List (S28) → Bool → Bool → Int → List (S28) → ByteArray → List (S39) → Int → Int → Option (Bool × Bool × Int × (List (S28)))
 | 0, _, _, _, _, _, _, _, _, _, _, _, _, _, _ => none
 | k + 1, x4, x6, x202000, x202001, x202002, x202003, x205000, x205001, x205002, x205003, x209000, x209001, x209002, x209003 => if x6 < 3 then (if 0 ≤ x4 then (if x4 < (x202003.length : Int) then (haberdashplay_Tax.j2 k x4 x6 (decide (x6 < (((rd_T28 x202003 x4).f1).length : Int))) x202000 x202001 x202002 x202003 x205000 x205001 x205002 x205003 x209000 x209001 x209002 x209003) else (none)) else (none)) else (haberdashplay_Tax.j2 k x4 x6 false x202000 x202001 x202002 x202003 x205000 x205001 x205002 x205003 x209000 x209001 x209002 x209003)
def haberdashplay_Tax.j2 : Nat → Int → Int → Bool → Bool → Bool → Int → List (S28) → Bool → Bool → Int → List (S28) → ByteArray → List (S39) → Int → Int → Option (Bool × Bool × Int × (List (S28)))
 | 0, _, _, _, _, _, _, _, _, _, _, _, _, _, _, _ => none
 | k + 1, x4, x6, x63, x202000, x202001, x202002, x202003, x205000, x205001, x205002, x205003, x209000, x209001, x209002, x209003 => if x63 = true then ((haberdashplay_Category.f x6).bind fun t214 => (if 0 ≤ x4 then (if x4 < (x202003.length : Int) then (if 0 ≤ x6 then (if x6 < (((rd_T28 x202003 x4).f1).length : Int) then ((haberdashplay_Mod64.f ((rd_T39 ((rd_T28 x202003 x4).f1) x6).f1) 3000).bind fun t217 => (if x209001.length < 5864062014805 then (haberdashplay_Tax.l1 k x4 (wrap64 (x6 + 1)) x202000 x202001 x202002 x202003 x205000 x205001 x205002 x205003 x209000 (x209001 ++ [(⟨t214, t217⟩ : S39)]) x209002 x209003) else (none))) else (none)) else (none)) else (none)) else (none))) else (if x205003.length < 2513169434916 then (haberdashplay_Tax.l0 k (wrap64 (x4 + 1)) x202000 x202001 x202002 x202003 x205000 x205001 x205002 (x205003 ++ [(⟨x209000, x209001, x209002, x209003⟩ : S28)])) else (none))
end
def haberdashplay_Tax.f (k : Nat) (a0_0 : Bool) (a0_1 : Bool) (a0_2 : Int) (l0_3 : List (S28)) : Option (Bool × Bool × Int × (List (S28))) := (haberdashplay_Mod.f a0_2 3).bind fun t203 => (haberdashplay_Tax.l0 k 0 a0_0 a0_1 a0_2 l0_3 a0_0 a0_1 t203 ([] : List (S28)))
def haberdashplay_Tax.T1 : Bool × List (List Nat × List Nat) := (true, [([], []), ([0], [0]), ([], []), ([2], [2]), ([], []), ([4], [4]), ([5], [5]), ([1, 3, 6], [1, 3, 6]), ([], []), ([8, 7, 6, 0, 1, 2, 3, 4, 5, 6, 7, 8], [7, 8])])
def haberdashplay_Tax.B1 : List Nat := [0, 1, 0, 4, 0, 16, 48, 127, 0, 511]
theorem haberdashplay_Tax.tab1 : rtab .any (opsOf Try.f6 1) = haberdashplay_Tax.T1 := by kernel_rfl
theorem haberdashplay_Tax.bits1 : waitsOk haberdashplay_Tax.T1.2 haberdashplay_Tax.B1 = true := by kernel_rfl
def haberdashplay_Tax.T7 : Bool × List (List Nat × List Nat) := (true, [([], []), ([0], [0]), ([], []), ([1, 2], [1, 2]), ([3], [3]), ([4], [4]), ([5], [5]), ([], []), ([7], [7]), ([], []), ([8, 9], [8, 9]), ([10], [10]), ([11], [11]), ([12, 6], [12]), ([0, 1, 2, 3, 4, 5, 6], []), ([14, 6, 13, 0, 1, 2, 3, 4, 5, 6], [6, 14]), ([0, 1, 2, 3, 4, 5, 6, 7, 8, 9, 10, 11, 12, 13, 14, 15], []), ([16, 13, 15, 0, 1, 2, 3, 4, 5, 6, 7, 8, 9, 10, 11, 12, 13, 14, 15], [13, 16])])
def haberdashplay_Tax.B7 : List Nat := [0, 1, 0, 7, 15, 31, 63, 0, 128, 0, 896, 1920, 3968, 8191, 127, 32767, 65535, 131071]
theorem haberdashplay_Tax.tab7 : rtab .any (opsOf Try.f6 7) = haberdashplay_Tax.T7 := by kernel_rfl
theorem haberdashplay_Tax.bits7 : waitsOk haberdashplay_Tax.T7.2 haberdashplay_Tax.B7 = true := by kernel_rfl
def haberdashplay_Tax.T11 : Bool × List (List Nat × List Nat) := (true, [([], []), ([0], [0]), ([], []), ([2], [2]), ([], []), ([4], [4]), ([], []), ([5, 6], [5, 6]), ([7], [7]), ([8], [8]), ([], []), ([9, 10], [9, 10]), ([11], [11]), ([12], [12]), ([13, 3], [13]), ([3, 14], [3, 14]), ([15], [15]), ([1, 16, 14], [1, 16]), ([0, 1, 2, 3, 4, 5, 6, 7, 8, 9, 10, 11, 12, 13, 14, 15, 16, 17], []), ([18, 17, 17, 0, 1, 2, 3, 4, 5, 6, 7, 8, 9, 10, 11, 12, 13, 14, 15, 16, 17], [17, 18])])
def haberdashplay_Tax.B11 : List Nat := [0, 1, 0, 4, 0, 16, 0, 112, 240, 496, 0, 2032, 4080, 8176, 16380, 32764, 65532, 131071, 262143, 524287]
theorem haberdashplay_Tax.tab11 : rtab .any (opsOf Try.f6 11) = haberdashplay_Tax.T11 := by kernel_rfl
theorem haberdashplay_Tax.bits11 : waitsOk haberdashplay_Tax.T11.2 haberdashplay_Tax.B11 = true := by kernel_rfl
set_option maxHeartbeats 8000000 in
set_option maxRecDepth 100000 in
theorem haberdashplay_Tax.calls (k : Nat) (a0_0 : Bool) (a0_1 : Bool) (a0_2 : Int) (A0_3 : Option Addr) (c0_3 : Nat) (l0_3 : List (S28)) (r1 : Bool) (r2 : Bool) (r3 : Int) (r4 : List (S28)) (w : World) (hr0_3 : Kd.C k28 w A0_3 l0_3.length l0_3) (hc0_3 : l0_3.length ≤ c0_3) (h : haberdashplay_Tax.f k a0_0 a0_1 a0_2 l0_3 = some (r1, r2, r3, r4)) :
 Calls Try.prog 6 #[.agg #[.bool a0_0, .bool a0_1, .int .i64 a0_2, .slice A0_3 l0_3.length c0_3]] w fun e w' => ∃ v3_ : Value, e = .returned (.agg #[.bool r1, .bool r2, .int .i64 r3, v3_]) ∧ Kd.S k28 28 w' w.heap.size (fun _ => True) v3_ r4 ∧ Below w.heap.size w w' := by
 have hu24 := Try.underlying24
 have hu28 := Try.underlying28
 have hu39 := Try.underlying39
 have HR0_3 := Aside0.mk hr0_3
 have HC0_3 := Aside0.mk hc0_3
 clear hr0_3 hc0_3
 have HB := Aside0.mk (Below.refl w.heap.size w)
 have H : ((haberdashplay_Mod.f a0_2 3).bind fun t203 => (haberdashplay_Tax.l0 k 0 a0_0 a0_1 a0_2 l0_3 a0_0 a0_1 t203 ([] : List (S28)))) = some (r1, r2, r3, r4) := h
 clear h
 replace H := Option.bind_eq_some_iff.mp H
 obtain ⟨t203, A20, H⟩ := H
 replace H : (haberdashplay_Tax.l0 k 0 a0_0 a0_1 a0_2 l0_3 a0_0 a0_1 t203 ([] : List (S28))) = some (r1, r2, r3, r4) := H
 have A2 := Aside0.mk A20
 clear A20
 have H' := Aside0.mk H
 clear H
 go_enter Try.func6, Try.ntmps6
 try go_wp2_with (first | ((with_reducible refine gate_dst (N := 1) rfl ?_); (try (refine gate_guard (by rfl) ?_; dsimp only)); refine box_event rf_ (N := 1) rf_ (cs := #[.bool a0_0, .bool a0_1, .int .i64 a0_2, .slice A0_3 l0_3.length c0_3]) (t := 24) lr_ ?_; intro gb201 hg w3 hbox hb; have BK201 := Aside0.mk hbox; have GE201 := Aside0.mk (ge_ HB hg (hb0_ HB)); replace HB := Aside0.mk (below_step (hb0_ HB) hb); clear hb hbox hg) | ((with_reducible refine gate_dst (N := 2) rfl ?_); (try (refine gate_guard (by rfl) ?_; dsimp only)); refine box_event rf_ (N := 2) rf_ (cs := #[.bool false, .bool false, .int .i64 0, .slice none 0 0]) (t := 24) lr_ ?_; intro gb202 hg w4 hbox hb; have BK202 := Aside0.mk hbox; have GE202 := Aside0.mk (ge_ HB hg (hb1_ HB GE201)); replace HB := Aside0.mk (below_step (hb1_ HB GE201) hb); have NB201_202 := Aside0.mk (nl_ BK201 hg); have NB202_201 := Aside0.mk (ng_ BK201 hg); replace BK201 := Aside0.mk (bb_ BK201 hb); clear hb hbox hg))
 replace BK201 := Aside0.mk (blk_drew BK201.out)
 replace BK202 := Aside0.mk (blk_drew BK202.out)
 replace HB := Aside0.mk (below_drew1 HB.out)
 refine start_ (n := 10) (S := fun w' => w'.cell? ⟨gb201, 0, none⟩ = some (.bool a0_0) ∧ w'.cell? ⟨gb201, 1, none⟩ = some (.bool a0_1) ∧ w'.cell? ⟨gb201, 2, none⟩ = some (.int .i64 a0_2) ∧ w'.cell? ⟨gb201, 3, none⟩ = some (.slice A0_3 l0_3.length c0_3)) (ds := []) (mk 10 0) (by kernel_rfl) rfl rfl ⟨cl_ BK201 0, cl_ BK201 1, cl_ BK201 2, cl_ BK201 3⟩ (fun hHeld => ?_); refine with_tabW haberdashplay_Tax.tab1 haberdashplay_Tax.bits1 (fun HT_ HW_ => ?_)
 generalize w4.drew = w5 at BK201 BK202 HB hHeld ⊢
 refine ahead_ [(0, 7), (2, 9), (4, 11)] ?_
 iterate 3 (refine pB_ HT_ ?_)
 refine aheadE_ (mk 10 21) kr_ ?_
 refine ahead_ [(1, 8), (3, 10), (5, 12)] ?_
 iterate 3 (refine tA_ (v := ?_) (a' := ?_) rfl rfl HT_.out HW_.out (by kernel_rfl) (fun _ _ _ h => h) (Or.inl ⟨by rfl, ?_⟩) hHeld ?_ ?_; rotate_left; (rintro w' ⟨s0, s1, s2, s3⟩; go_simp; with_reducible rfl); rotate_left; (exact pu_))
 refine aheadE_ (mk 10 63) kr_ ?_
 refine join_ (σ := Nat) 1 (mk 10 511) (fun s_ => [(13, .int .i64 t203), (3, .pointer (some ⟨s_, 0, none⟩)), (14, .agg #[.bool a0_0, .bool a0_1, .int .i64 t203, .slice none 0 0])]) (fun s_ w' => (w'.cell? ⟨gb201, 0, none⟩ = some (.bool a0_0) ∧ w'.cell? ⟨gb201, 1, none⟩ = some (.bool a0_1) ∧ w'.cell? ⟨gb201, 2, none⟩ = some (.int .i64 a0_2) ∧ w'.cell? ⟨gb201, 3, none⟩ = some (.slice A0_3 l0_3.length c0_3)) ∧ (w'.heap[gb201]? = some (.cells #[.bool a0_0, .bool a0_1, .int .i64 a0_2, .slice A0_3 l0_3.length c0_3] 24 (0, 0))) ∧ (w'.heap[gb202]? = some (.cells #[.bool false, .bool false, .int .i64 0, .slice none 0 0] 24 (0, 0))) ∧ (w'.heap[s_]? = some (.cells #[.bool false, .bool false, .int .i64 0, .slice none 0 0] 24 (0, 0))) ∧ (w.heap.size ≤ s_) ∧ (w.heap.size ≤ s_) ∧ (gb201 ≠ s_) ∧ (s_ ≠ gb201) ∧ (gb202 ≠ s_) ∧ (s_ ≠ gb202) ∧ (Below w.heap.size w w')) ?_ ?_
 rotate_left
 ·
  intro hCont
  refine two_ (i := 6) (j := 8) (Ni := some 13) (Nj := some 3) (mk 10 127) (mk 10 319) rfl rfl rfl rfl (two_of HT_.out (by kernel_rfl)) (by decide) (by decide) (fun K hK => ?_) (fun K hK => ?_)
  ·
   skip
   refine goes_ Try.func14 (by kernel_rfl) rfl #[.int .i64 a0_2, .int .i64 3] (by rfl) rfl rfl am_ ?_
   with_reducible refine (haberdashplay_Mod.calls a0_2 3 t203 _ A2.out).mono ?_
   rintro e w' ⟨rfl, ⟨nd, rfl⟩⟩
   refine ⟨_, rfl, ?_⟩
   refine hK.out _ _ ⟨cl_ BK201 0, cl_ BK201 1, cl_ BK201 2, cl_ BK201 3⟩ (fun hHeld => ?_)
   clear hK K
   refine norm_ pv_ ?_
   refine pure_ (i := 7) (N := some 14) (v := ?_) (a' := ?_) (mk 10 255) rfl rfl (an_ HT_) nh_ (Or.inl ⟨ry_, ?_⟩) ?_ ?_
   rotate_left; (intro w'; go_simp; with_reducible rfl)
   rotate_left; (exact pu_)
   refine one_ (i := 8) (N := some 3) (mk 10 511) rfl rfl (on_ HT_) de_ (fun K hK => ?_)
   refine box_step ?hg (N := 3) ?hd (cs := #[.bool false, .bool false, .int .i64 0, .slice none 0 0]) (t := 24) ?hr ?_; (case hd => rfl); (case hg => rfl); (case hr => first | (go_simp; done) | (go_simp; rfl))
   intro gb204 hg w6 hbox hb
   have BK204 := Aside0.mk hbox; have GW204 := Aside0.mk (ge_ HB hg (hb2_ HB GE201 GE202)); have GE204 := Aside0.mk (ge_ HB hg (hb2_ HB GE201 GE202)); replace HB := Aside0.mk (below_step (hb2_ HB GE201 GE202) hb); have NB201_204 := Aside0.mk (nl_ BK201 hg); have NB204_201 := Aside0.mk (ng_ BK201 hg)
   replace BK201 := Aside0.mk (bb_ BK201 hb); have NB202_204 := Aside0.mk (nl_ BK202 hg); have NB204_202 := Aside0.mk (ng_ BK202 hg); replace BK202 := Aside0.mk (bb_ BK202 hb); clear hb hbox hg
   refine hK.out _ _ ⟨cl_ BK201 0, cl_ BK201 1, cl_ BK201 2, cl_ BK201 3⟩ (fun hHeld => ?_)
   clear hK K
   refine norm_ pv_ ?_
   exact norm_ (by simp only [putAll, Act.put, List.setIfInBounds_toArray, List.set_cons_zero, List.set_cons_succ]) (hCont (gb204) _ ⟨hHeld, (bk_ BK201), (bk_ BK202), (bk_ BK204), GW204.out, GE204.out, NB201_204.out, NB204_201.out, NB202_204.out, NB204_202.out, (hb3_ HB GE201 GE202 GE204)⟩)
  ·
   skip
   refine box_step ?hg (N := 3) ?hd (cs := #[.bool false, .bool false, .int .i64 0, .slice none 0 0]) (t := 24) ?hr ?_; (case hd => rfl); (case hg => rfl); (case hr => first | (go_simp; done) | (go_simp; rfl))
   intro gb204 hg w6 hbox hb
   have BK204 := Aside0.mk hbox; have GW204 := Aside0.mk (ge_ HB hg (hb2_ HB GE201 GE202)); have GE204 := Aside0.mk (ge_ HB hg (hb2_ HB GE201 GE202)); replace HB := Aside0.mk (below_step (hb2_ HB GE201 GE202) hb); have NB201_204 := Aside0.mk (nl_ BK201 hg); have NB204_201 := Aside0.mk (ng_ BK201 hg)
   replace BK201 := Aside0.mk (bb_ BK201 hb); have NB202_204 := Aside0.mk (nl_ BK202 hg); have NB204_202 := Aside0.mk (ng_ BK202 hg); replace BK202 := Aside0.mk (bb_ BK202 hb); clear hb hbox hg
   refine hK.out _ _ ⟨cl_ BK201 0, cl_ BK201 1, cl_ BK201 2, cl_ BK201 3⟩ (fun hHeld => ?_)
   clear hK K
   refine norm_ pv_ ?_
   refine one_ (i := 6) (N := some 13) (mk 10 383) rfl rfl (on_ HT_) de_ (fun K hK => ?_)
   refine goes_ Try.func14 (by kernel_rfl) rfl #[.int .i64 a0_2, .int .i64 3] (by rfl) rfl rfl am_ ?_
   with_reducible refine (haberdashplay_Mod.calls a0_2 3 t203 _ A2.out).mono ?_
   rintro e w' ⟨rfl, ⟨nd, rfl⟩⟩
   refine ⟨_, rfl, ?_⟩
   refine hK.out _ _ ⟨cl_ BK201 0, cl_ BK201 1, cl_ BK201 2, cl_ BK201 3⟩ (fun hHeld => ?_)
   clear hK K
   refine norm_ pv_ ?_
   refine pure_ (i := 7) (N := some 14) (v := ?_) (a' := ?_) (mk 10 511) rfl rfl (an_ HT_) nh_ (Or.inl ⟨ry_, ?_⟩) ?_ ?_
   rotate_left; (intro w'; go_simp; with_reducible rfl)
   rotate_left; (exact pu_)
   exact norm_ (by simp only [putAll, Act.put, List.setIfInBounds_toArray, List.set_cons_zero, List.set_cons_succ]) (hCont (gb204) _ ⟨hHeld, (bk_ BK201), (bk_ BK202), (bk_ BK204), GW204.out, GE204.out, NB201_204.out, NB204_201.out, NB202_204.out, NB204_202.out, (hb3_ HB GE201 GE202 GE204)⟩)
 rintro gb204 w7 ⟨hS_, h0_, h1_, h2_, h3_, h4_, h5_, h6_, h7_, h8_, h9_⟩
 have n0_ : Aside0 (w7.heap[gb201]? = some (.cells #[.bool a0_0, .bool a0_1, .int .i64 a0_2, .slice A0_3 l0_3.length c0_3] 24 (0, 0))) := ⟨h0_⟩
 have n1_ : Aside0 (w7.heap[gb202]? = some (.cells #[.bool false, .bool false, .int .i64 0, .slice none 0 0] 24 (0, 0))) := ⟨h1_⟩
 have n2_ : Aside0 (w7.heap[gb204]? = some (.cells #[.bool false, .bool false, .int .i64 0, .slice none 0 0] 24 (0, 0))) := ⟨h2_⟩
 have n3_ : Aside0 (w.heap.size ≤ gb204) := ⟨h3_⟩
 have n4_ : Aside0 (w.heap.size ≤ gb204) := ⟨h4_⟩
 have n5_ : Aside0 (gb201 ≠ gb204) := ⟨h5_⟩
 have n6_ : Aside0 (gb204 ≠ gb201) := ⟨h6_⟩
 have n7_ : Aside0 (gb202 ≠ gb204) := ⟨h7_⟩
 have n8_ : Aside0 (gb204 ≠ gb202) := ⟨h8_⟩
 have n9_ : Aside0 (Below w.heap.size w w7) := ⟨h9_⟩
 clear BK201
 clear BK202
 clear HB
 clear h0_ h1_ h2_ h3_ h4_ h5_ h6_ h7_ h8_ h9_
 have BK201 := n0_
 have BK202 := n1_
 have BK204 := n2_
 have GW204 := n3_
 have GE204 := n4_
 have NB201_204 := n5_
 have NB204_201 := n6_
 have NB202_204 := n7_
 have NB204_202 := n8_
 have HB := n9_
 clear n0_ n1_ n2_ n3_ n4_ n5_ n6_ n7_ n8_ n9_
 have hHeld : w7.cell? ⟨gb201, 0, none⟩ = some (.bool a0_0) ∧ w7.cell? ⟨gb201, 1, none⟩ = some (.bool a0_1) ∧ w7.cell? ⟨gb201, 2, none⟩ = some (.int .i64 a0_2) ∧ w7.cell? ⟨gb201, 3, none⟩ = some (.slice A0_3 l0_3.length c0_3) := hS_
 refine norm_ (a' := ?_) ?_ ?_
 rotate_left
 ·
  simp only [putAll, Act.put, List.setIfInBounds_toArray, List.set_cons_zero, List.set_cons_succ]
  rfl
 refine one_ (i := 9) (N := none) (mk 10 1023) rfl rfl (on_ HT_) de_ (fun K hK => ?_)
 have hs8 : w7.cell? ⟨gb204, 0, none⟩ = some (.bool false) := (blk_cell BK204.out 0).trans rfl
 have hfs8 := blk_frozen BK204.out 0
 have hns8_0 := NB201_204.out
 have hns8_1 := NB202_204.out
 have hms8_0 := NB204_201.out
 have hms8_1 := NB204_202.out
 have hs9 : w7.cell? ⟨gb204, 1, none⟩ = some (.bool false) := (blk_cell BK204.out 1).trans rfl
 have hfs9 := blk_frozen BK204.out 1
 have hns9_0 := NB201_204.out
 have hns9_1 := NB202_204.out
 have hms9_0 := NB204_201.out
 have hms9_1 := NB204_202.out
 have hs10 : w7.cell? ⟨gb204, 2, none⟩ = some (.int .i64 0) := (blk_cell BK204.out 2).trans rfl
 have hfs10 := blk_frozen BK204.out 2
 have hns10_0 := NB201_204.out
 have hns10_1 := NB202_204.out
 have hms10_0 := NB204_201.out
 have hms10_1 := NB204_202.out
 have hs11 : w7.cell? ⟨gb204, 3, none⟩ = some (.slice none 0 0) := (blk_cell BK204.out 3).trans rfl
 have hfs11 := blk_frozen BK204.out 3
 have hns11_0 := NB201_204.out
 have hns11_1 := NB202_204.out
 have hms11_0 := NB204_201.out
 have hms11_1 := NB204_202.out
 refine skip_ (w1 := ?_) (by rfl) rfl ?_ ?_
 rotate_left
 ·
  go_simp
  rfl
 refine hK.out _ _ ⟨(cf1_ NB201_204 (cf1_ NB201_204 (cf1_ NB201_204 (cf1_ NB201_204 (hHeld.1))))), (cf1_ NB201_204 (cf1_ NB201_204 (cf1_ NB201_204 (cf1_ NB201_204 (hHeld.2.1))))), (cf1_ NB201_204 (cf1_ NB201_204 (cf1_ NB201_204 (cf1_ NB201_204 (hHeld.2.2.1))))), (cf1_ NB201_204 (cf1_ NB201_204 (cf1_ NB201_204 (cf1_ NB201_204 (hHeld.2.2.2)))))⟩ (fun hHeld => ?_)
 clear hK K
 refine done_ (done_of HT_.out (by kernel_rfl)) ?_
 try go_wp2
 go_loopg [4] k (fun kq v4 w' => ∃ (x4_1 : Int) (x205003_1 : List (S28)) (u205003 : Value), v4 = .int .i64 x4_1 ∧ Aside0 (haberdashplay_Tax.l0 kq x4_1 a0_0 a0_1 a0_2 l0_3 a0_0 a0_1 t203 x205003_1 = some (r1, r2, r3, r4)) ∧ Aside0 (kq ≤ k) ∧ Aside0 (Kd.S k28 28 w' w.heap.size (fun _ => True) u205003 x205003_1) ∧ Aside0 (w'.heap[gb201]? = some (.cells #[.bool a0_0, .bool a0_1, .int .i64 a0_2, (.slice A0_3 l0_3.length c0_3)] 24 (0, 0))) ∧ Aside0 (w'.heap[gb202]? = some (.cells #[.bool false, .bool false, .int .i64 0, (.slice none 0 0)] 24 (0, 0))) ∧ Aside0 (w'.heap[gb204]? = some (.cells #[.bool a0_0, .bool a0_1, .int .i64 t203, u205003] 24 (0, 0))) ∧ Aside0 (Below w.heap.size w w'))
 case atStart => exact ⟨(0), (([] : List (S28))), (.slice none 0 0), rf_, H', ⟨Nat.le_refl _⟩, ⟨by first | exact Kd.S_nil _ _ _ _ _ | exact Kd.N_nil _ _ _ _ _ | exact Kd.V_nil _ _ _ _ _ | exact Kd.Q_nil _ _ _ _ _ | exact Kd.R_nil _ _ _ _ _⟩, ⟨bf4_ BK201 NB201_204 NB201_204 NB201_204 NB201_204⟩, ⟨bf4_ BK202 NB202_204 NB202_204 NB202_204 NB202_204⟩, ⟨bq0_ BK204⟩, ⟨hb3_ HB GE201 GE202 GE204⟩⟩
 case round =>
  clear H'; (try clear c1); (try clear p2); (try clear c6); obtain ⟨x4_1, x205003_1, u205003, rfl, HA, HK1, HO_205003, BK201, BK202, BK204, HB⟩ := hrel
  cases gk with
  | zero => exact absurd HA.out (by simp [haberdashplay_Tax.l0])
  | succ k1 =>
   have H := HA.out; clear HA
   simp only [haberdashplay_Tax.l0] at H
   by_cases c12 : x4_1 < 3
   rotate_left
   ·
    rw [if_neg c12] at H; have c12b0 := decide_eq_false c12; clear c12
    simp only [Option.some.injEq, Prod.mk.injEq] at H
    obtain ⟨rfl, rfl, rfl, rfl⟩ := H; have hnb83 := NB204_201.out; have hnc83 := NB201_204.out; have hnb84 := NB204_202.out; have hnc84 := NB202_204.out; obtain ⟨hcz85_0, hcz85_1, hcz85_2, hcz85_3⟩ := cz4_ BK204; obtain ⟨hfz85_0, hfz85_1, hfz85_2, hfz85_3⟩ := fz4_ BK204; have hnb86 := NB202_201.out; have hnc86 := NB201_202.out
    obtain ⟨hcz87_0, hcz87_1, hcz87_2, hcz87_3⟩ := cz4_ BK202; obtain ⟨hfz87_0, hfz87_1, hfz87_2, hfz87_3⟩ := fz4_ BK202; obtain ⟨Ao88, co88, eo88⟩ := Kd.S_slice HO_205003.out; subst eo88
    go_wp2
    refine bodyPost_ret (results_cell_row rfl _ _ gb202 24 #[.bool a0_0, .bool a0_1, .int .i64 t203, .slice Ao88 x205003_1.length co88] (0, 0) _ rfl (bq0_ BK202) Try.underlying24 rfl (by kernel_rfl)) rfl ?_
    exact ⟨_, er_, by (with_reducible repeat (first | apply Kd.S_alloc | apply Kd.S_drewN | apply Kd.S_drew)); exact Kd.S_mono (Kd.S_far (p := ⟨gb202, 3, none⟩) (Kd.S_far (p := ⟨gb202, 2, none⟩) (Kd.S_far (p := ⟨gb202, 1, none⟩) (Kd.S_far (p := ⟨gb202, 0, none⟩) (Kd.S_types HO_205003.out BK202.out (by decide)) (fun _ hk => hk.2) (.bool a0_0)) (fun _ hk => hk.2) (.bool a0_1)) (fun _ hk => hk.2) (.int .i64 t203)) (fun _ hk => hk.2) (.slice Ao88 x205003_1.length co88)) (fun _ hk => trivial), hb3_ HB GE201 GE202 GE204⟩
   rw [if_pos c12] at H; have c12b0 := decide_eq_true c12; clear c12; obtain ⟨y205, hy205⟩ : ∃ y_ : List Int, y_ = (([(48 + ((x4_1) % 256)) % 256] : List Int)) := ⟨_, rfl⟩
   replace H : (if 1 + (strOfNums y205).size ≤ 9223372036854775807 then (if x4_1 < (l0_3.length : Int) then (if 0 ≤ x4_1 then ((haberdashplay_Mod64.f ((rd_T28 l0_3 x4_1).f2) 3000).bind fun t210 => ((haberdashplay_Mod64.f ((rd_T28 l0_3 x4_1).f3) 3000).bind fun t212 => (haberdashplay_Tax.l1 k1 x4_1 0 a0_0 a0_1 a0_2 l0_3 a0_0 a0_1 t203 x205003_1 ((⟨#[122]⟩ : ByteArray) ++ (strOfNums y205)) ([] : List (S39)) t210 t212))) else (none)) else (if x205003_1.length < 2513169434916 then (haberdashplay_Tax.l0 k1 (wrap64 (x4_1 + 1)) a0_0 a0_1 a0_2 l0_3 a0_0 a0_1 t203 (x205003_1 ++ [(⟨(⟨#[122]⟩ : ByteArray) ++ (strOfNums y205), ([] : List (S39)), wrap64 (1000 * x4_1), wrap64 (500 * x4_1)⟩ : S28)])) else (none))) else (none)) = some (r1, r2, r3, r4) := hy_ hy205 H
   have Ny205 := Aside0.mk hy205; clear hy205; replace H := ip_ H; obtain ⟨c13, H⟩ := H; have c13b0 := eq_true c13; have c13b1 := decide_eq_true c13
   try have c13b2 : (9223372036854775807 < 1 + (strOfNums y205).size) = False := eq_false (Nat.not_lt.2 c13)
   by_cases c14 : x4_1 < (l0_3.length : Int)
   rotate_left
   ·
    rw [if_neg c14] at H; have c14b0 := decide_eq_false c14; clear c14; replace H := ip_ H; obtain ⟨c66, H⟩ := H; have LMc66 := Aside0.mk c66; clear c66; obtain ⟨y224, hy224⟩ : ∃ y_ : List (S28), y_ = (x205003_1 ++ [(⟨(⟨#[122]⟩ : ByteArray) ++ (strOfNums y205), ([] : List (S39)), wrap64 (1000 * x4_1), wrap64 (500 * x4_1)⟩ : S28)]) := ⟨_, rfl⟩
    replace H : (haberdashplay_Tax.l0 k1 (wrap64 (x4_1 + 1)) a0_0 a0_1 a0_2 l0_3 a0_0 a0_1 t203 y224) = some (r1, r2, r3, r4) := hy_ hy224 H; have Ny224 := Aside0.mk hy224; clear hy224; have H' := Aside0.mk H; clear H
    go_wp2_with (first | ((with_reducible refine gate_dst (N := 22) rfl ?_); (try (refine gate_guard (by rfl) ?_; dsimp only)); refine Kd.R_lit (Kd.int .u8) _ 5 rf_ (N := 22) rf_ (xs := ([(48 + ((x4_1) % 256)) % 256] : List Int)) (inner := [.int .u8 ((48 + ((x4_1) % 256)) % 256)]) (ok := fun _ => True) (okp := fun _ => True) lr_ ?hp (fun _ hk => hk) trivial (Below.refl _ _) (Nat.le_refl _) (by simp) ?_; (case hp => exact (Reps.one (show Kd.M (Kd.int .u8) _ _ _ ((48 + ((x4_1) % 256)) % 256) [.int .u8 ((48 + ((x4_1) % 256)) % 256)] from rfl) (Reps.none _ _))); intro v206 w67 ho68 hb hg_ hnew_; clear hg_ hnew_; (first | rw [← Ny205.out] at ho68 | (simp only [Int.reduceToNat] at ho68; rw [← Ny205.out] at ho68)); replace HO_205003 := Aside0.mk (Kd.S_below (so_ HO_205003) hb); have HO207 := Aside0.mk (Kd.R_lower ho68 (below_size (hb3_ HB GE201 GE202 GE204))); replace BK201 := Aside0.mk (bb_ BK201 hb); replace BK202 := Aside0.mk (bb_ BK202 hb); replace BK204 := Aside0.mk (bb_ BK204 hb); replace HB := Aside0.mk (below_step (hb3_ HB GE201 GE202 GE204) hb); clear hb ho68; have hcv69 := own_string (P := Try.prog) Try.underlying37 Try.underlying5 Try.underlying9 (Kd.own_of_R HO207.out)) | ((with_reducible refine gate_dst (N := 5) rfl ?_); (try (refine gate_guard (by rfl) ?_; dsimp only)); refine box_event rf_ (N := 5) rf_ (cs := #[.string (⟨#[]⟩ : ByteArray), .slice none 0 0, .int .i64 0, .int .i64 0]) (t := 28) lr_ ?_; intro gb208 hg w70 hbox hb; replace HO_205003 := Aside0.mk (Kd.S_below (Kd.S_elderB (so_ HO_205003) gb208 (Nat.le_of_eq hg.symm)) hb); replace HO207 := Aside0.mk (Kd.R_below (ro_ HO207) hb); have BK208 := Aside0.mk hbox; have GW208 := Aside0.mk (ge_ HB hg (hb3_ HB GE201 GE202 GE204)); have GE208 := Aside0.mk (ge_ HB hg (hb3_ HB GE201 GE202 GE204)); replace HB := Aside0.mk (below_step (hb3_ HB GE201 GE202 GE204) hb); have NB201_208 := Aside0.mk (nl_ BK201 hg); have NB208_201 := Aside0.mk (ng_ BK201 hg); replace BK201 := Aside0.mk (bb_ BK201 hb); have NB202_208 := Aside0.mk (nl_ BK202 hg); have NB208_202 := Aside0.mk (ng_ BK202 hg); replace BK202 := Aside0.mk (bb_ BK202 hb); have NB204_208 := Aside0.mk (nl_ BK204 hg); have NB208_204 := Aside0.mk (ng_ BK204 hg); replace BK204 := Aside0.mk (bb_ BK204 hb); clear hb hbox hg; have hnb71 := NB208_201.out; have hnc71 := NB201_208.out; have hnb72 := NB208_202.out; have hnc72 := NB202_208.out; have hnb73 := NB208_204.out; have hnc73 := NB204_208.out; obtain ⟨hcz74_0, hcz74_1, hcz74_2, hcz74_3⟩ := cz4_ BK208; obtain ⟨hfz74_0, hfz74_1, hfz74_2, hfz74_3⟩ := fz4_ BK208; have hnb75 := NB201_202.out; have hnc75 := NB202_201.out; have hnb76 := NB201_204.out; have hnc76 := NB204_201.out; obtain ⟨hcz77_0, hcz77_1, hcz77_2, hcz77_3⟩ := cz4_ BK201; obtain ⟨hfz77_0, hfz77_1, hfz77_2, hfz77_3⟩ := fz4_ BK201; have hnb78 := NB204_202.out; have hnc78 := NB202_204.out; obtain ⟨hcz79_0, hcz79_1, hcz79_2, hcz79_3⟩ := cz4_ BK204; obtain ⟨hfz79_0, hfz79_1, hfz79_2, hfz79_3⟩ := fz4_ BK204) | ((with_reducible refine gate_builtin (b := .append) (xs := #[.tmp 86, .tmp 88]) rfl ?_); (try (refine gate_guard (by rfl) ?_; dsimp only)); at_builtin; refine Kd.S_append k28 (w0 := w) w.heap.size rfl (.tmp 86) (.tmp 88) 22 28 (.agg #[(.string ⟨#[]⟩), (.slice none 0 0), (.int .i64 0), (.int .i64 0)]) 56 rfl Try.underlying22 info28 rfl (by decide) (by omega) u205003 x205003_1 (⟨(⟨#[122]⟩ : ByteArray) ++ (strOfNums y205), ([] : List (S39)), wrap64 (1000 * x4_1), wrap64 (500 * x4_1)⟩ : S28) [.string ((⟨#[122]⟩ : ByteArray) ++ (strOfNums y205)), .slice none 0 0, .int .i64 (wrap64 (1000 * x4_1)), .int .i64 (wrap64 (500 * x4_1))] (fun k_ => k_ ≠ gb208) (fun _ => False) rfl (by first | (go_simp; done) | (go_simp; rfl)) ?aP (fun k_ hk_ => hk_.elim) ?aF ?aO ?aB ?aS ?aL ?_; (case aP => exact k28_mkM _ _ _ (⟨(⟨#[122]⟩ : ByteArray) ++ (strOfNums y205), ([] : List (S39)), wrap64 (1000 * x4_1), wrap64 (500 * x4_1)⟩ : S28) (Kd.R_nil _ _ _ _ _)); (case aB => exact (hb4_ HB GE201 GE202 GE204 GE208)); (case aF => exact (fun k_ hk => Kd.freshB (g := gb208) (o := .cells #[.string ((⟨#[122]⟩ : ByteArray) ++ (strOfNums y205)), .slice none 0 0, .int .i64 (wrap64 (1000 * x4_1)), .int .i64 (wrap64 (500 * x4_1))] 28 (0, 0)) (bq0_ BK208) k_ hk)); (case aO => exact (by (with_reducible repeat (first | apply Kd.S_alloc | apply Kd.S_drewN | apply Kd.S_drew)); exact Kd.S_mono (Kd.S_far (p := ⟨gb208, 3, none⟩) (Kd.S_far (p := ⟨gb208, 2, none⟩) (Kd.S_far (p := ⟨gb208, 1, none⟩) (Kd.S_far (p := ⟨gb208, 0, none⟩) (Kd.S_mono HO_205003.out (fun k_ hk => (⟨hk, hk.2⟩ : _ ∧ k_ ≠ gb208))) (fun _ hk => hk.2) (.string ((⟨#[122]⟩ : ByteArray) ++ (strOfNums y205)))) (fun _ hk => hk.2) (.slice none 0 0)) (fun _ hk => hk.2) (.int .i64 (wrap64 (1000 * x4_1)))) (fun _ hk => hk.2) (.int .i64 (wrap64 (500 * x4_1)))) (fun k_ hk => ⟨hk.1.2, fun e_ => e_⟩))); (case aS => exact (below_size (hb4_ HB GE201 GE202 GE204 GE208))); (case aL => have := LMc66.out; omega); intro v225 w80 ho hb hg hat; rw [← Ny224.out] at ho; have n0_ := Aside0.mk (blk_grown (g := gb201) (o := .cells #[.bool a0_0, .bool a0_1, .int .i64 a0_2, .slice A0_3 l0_3.length c0_3] 24 (0, 0)) (bf4_ BK201 NB201_208 NB201_208 NB201_208 NB201_208) hg (Kd.S_ne HO_205003.out BK201.out (by decide))); have n1_ := Aside0.mk (blk_grown (g := gb202) (o := .cells #[.bool false, .bool false, .int .i64 0, .slice none 0 0] 24 (0, 0)) (bf4_ BK202 NB202_208 NB202_208 NB202_208 NB202_208) hg (Kd.S_ne HO_205003.out BK202.out (by decide))); have n2_ := Aside0.mk (blk_grown (g := gb204) (o := .cells #[.bool a0_0, .bool a0_1, .int .i64 t203, u205003] 24 (0, 0)) (bf4_ BK204 NB204_208 NB204_208 NB204_208 NB204_208) hg (Kd.S_ne HO_205003.out BK204.out (by decide))); have n3_ := Aside0.mk (Kd.R_over' (by (with_reducible repeat (first | apply Kd.R_alloc | apply Kd.R_drewN | apply Kd.R_drew)); exact (rf1_ HO207 BK208)) (Kd.S_typed (by (with_reducible repeat (first | apply Kd.S_alloc | apply Kd.S_drewN | apply Kd.S_drew)); exact (Kd.S_mono (Kd.S_far (p := ⟨gb208, 3, none⟩) (Kd.S_far (p := ⟨gb208, 2, none⟩) (Kd.S_far (p := ⟨gb208, 1, none⟩) (Kd.S_far (p := ⟨gb208, 0, none⟩) (Kd.S_mono HO_205003.out (fun k_ hk => (⟨hk, hk.2⟩ : _ ∧ k_ ≠ gb208))) (fun _ hk => hk.2) (.string ((⟨#[122]⟩ : ByteArray) ++ (strOfNums y205)))) (fun _ hk => hk.2) (.slice none 0 0)) (fun _ hk => hk.2) (.int .i64 (wrap64 (1000 * x4_1)))) (fun _ hk => hk.2) (.int .i64 (wrap64 (500 * x4_1)))) (fun _ h_ => h_.1)))) (by decide) hg); have n4_ := Aside0.mk (blk_grown (g := gb208) (o := .cells #[.string ((⟨#[122]⟩ : ByteArray) ++ (strOfNums y205)), .slice none 0 0, .int .i64 (wrap64 (1000 * x4_1)), .int .i64 (wrap64 (500 * x4_1))] 28 (0, 0)) (bq0_ BK208) hg (Kd.S_away HO_205003.out (fun _ hk => hk.2))); have n5_ := Aside0.mk hb; have n6_ := Aside0.mk ho; clear BK201; clear BK202; clear BK204; clear HO207; clear BK208; clear HB; clear HO_205003; have BK201 := n0_; have BK202 := n1_; have BK204 := n2_; have HO207 := n3_; have BK208 := n4_; have HB := n5_; have HO226 := n6_; clear n0_ n1_ n2_ n3_ n4_ n5_ n6_; clear ho hb hg hat; obtain ⟨Ao81, co81, eo81⟩ := Kd.S_slice HO226.out; subst eo81; obtain ⟨hcz82_0, hcz82_1, hcz82_2, hcz82_3⟩ := cz4_ BK204; obtain ⟨hfz82_0, hfz82_1, hfz82_2, hfz82_3⟩ := fz4_ BK204))
    go_roundg k1
    case measure => have := HK1.out; omega
    case rel => exact ⟨(wrap64 (x4_1 + 1)), (y224), (.slice Ao81 y224.length co81), rf_, H', ⟨ho_ HK1⟩, ⟨by (with_reducible repeat (first | apply Kd.S_alloc | apply Kd.S_drewN | apply Kd.S_drew)); exact Kd.S_mono (Kd.S_far (p := ⟨gb204, 3, none⟩) (Kd.S_types HO226.out BK204.out (by decide)) (fun _ hk => hk.2) (.slice Ao81 y224.length co81)) (fun _ hk => trivial)⟩, ⟨bf1_ BK201 NB201_204⟩, ⟨bf1_ BK202 NB202_204⟩, ⟨bq0_ BK204⟩, ⟨hb4_ HB GE201 GE202 GE204 GE208⟩⟩
   rw [if_pos c14] at H; have c14b0 := decide_eq_true c14; clear c14; replace H := ip_ H; obtain ⟨c15, H⟩ := H; have c15b0 := decide_eq_true c15; clear c15; replace H := Option.bind_eq_some_iff.mp H; obtain ⟨t210, A160, H⟩ := H
   replace H : ((haberdashplay_Mod64.f ((rd_T28 l0_3 x4_1).f3) 3000).bind fun t212 => (haberdashplay_Tax.l1 k1 x4_1 0 a0_0 a0_1 a0_2 l0_3 a0_0 a0_1 t203 x205003_1 ((⟨#[122]⟩ : ByteArray) ++ (strOfNums y205)) ([] : List (S39)) t210 t212)) = some (r1, r2, r3, r4) := H
   have A16 := Aside0.mk A160; clear A160; replace H := Option.bind_eq_some_iff.mp H; obtain ⟨t212, A170, H⟩ := H; replace H : (haberdashplay_Tax.l1 k1 x4_1 0 a0_0 a0_1 a0_2 l0_3 a0_0 a0_1 t203 x205003_1 ((⟨#[122]⟩ : ByteArray) ++ (strOfNums y205)) ([] : List (S39)) t210 t212) = some (r1, r2, r3, r4) := H
   have A17 := Aside0.mk A170; clear A170; have H' := Aside0.mk H; clear H
   try go_wp2_with (first | ((with_reducible refine gate_dst (N := 22) rfl ?_); (try (refine gate_guard (by rfl) ?_; dsimp only)); refine Kd.R_lit (Kd.int .u8) _ 5 rf_ (N := 22) rf_ (xs := ([(48 + ((x4_1) % 256)) % 256] : List Int)) (inner := [.int .u8 ((48 + ((x4_1) % 256)) % 256)]) (ok := fun _ => True) (okp := fun _ => True) lr_ ?hp (fun _ hk => hk) trivial (Below.refl _ _) (Nat.le_refl _) (by simp) ?_; (case hp => exact (Reps.one (show Kd.M (Kd.int .u8) _ _ _ ((48 + ((x4_1) % 256)) % 256) [.int .u8 ((48 + ((x4_1) % 256)) % 256)] from rfl) (Reps.none _ _))); intro v206 w18 ho19 hb hg_ hnew_; clear hg_ hnew_; (first | rw [← Ny205.out] at ho19 | (simp only [Int.reduceToNat] at ho19; rw [← Ny205.out] at ho19)); replace HO_205003 := Aside0.mk (Kd.S_below (so_ HO_205003) hb); have HO207 := Aside0.mk (Kd.R_lower ho19 (below_size (hb3_ HB GE201 GE202 GE204))); replace BK201 := Aside0.mk (bb_ BK201 hb); replace BK202 := Aside0.mk (bb_ BK202 hb); replace BK204 := Aside0.mk (bb_ BK204 hb); replace HB := Aside0.mk (below_step (hb3_ HB GE201 GE202 GE204) hb); clear hb ho19; have hcv20 := own_string (P := Try.prog) Try.underlying37 Try.underlying5 Try.underlying9 (Kd.own_of_R HO207.out)) | ((with_reducible refine gate_dst (N := 5) rfl ?_); (try (refine gate_guard (by rfl) ?_; dsimp only)); refine box_event rf_ (N := 5) rf_ (cs := #[.string (⟨#[]⟩ : ByteArray), .slice none 0 0, .int .i64 0, .int .i64 0]) (t := 28) lr_ ?_; intro gb208 hg w21 hbox hb; replace HO_205003 := Aside0.mk (Kd.S_below (Kd.S_elderB (so_ HO_205003) gb208 (Nat.le_of_eq hg.symm)) hb); replace HO207 := Aside0.mk (Kd.R_below (ro_ HO207) hb); have BK208 := Aside0.mk hbox; have GW208 := Aside0.mk (ge_ HB hg (hb3_ HB GE201 GE202 GE204)); have GE208 := Aside0.mk (ge_ HB hg (hb3_ HB GE201 GE202 GE204)); replace HB := Aside0.mk (below_step (hb3_ HB GE201 GE202 GE204) hb); have NB201_208 := Aside0.mk (nl_ BK201 hg); have NB208_201 := Aside0.mk (ng_ BK201 hg); replace BK201 := Aside0.mk (bb_ BK201 hb); have NB202_208 := Aside0.mk (nl_ BK202 hg); have NB208_202 := Aside0.mk (ng_ BK202 hg); replace BK202 := Aside0.mk (bb_ BK202 hb); have NB204_208 := Aside0.mk (nl_ BK204 hg); have NB208_204 := Aside0.mk (ng_ BK204 hg); replace BK204 := Aside0.mk (bb_ BK204 hb); clear hb hbox hg; have hnb22 := NB208_201.out; have hnc22 := NB201_208.out; have hnb23 := NB208_202.out; have hnc23 := NB202_208.out; have hnb24 := NB208_204.out; have hnc24 := NB204_208.out; obtain ⟨hcz25_0, hcz25_1, hcz25_2, hcz25_3⟩ := cz4_ BK208; obtain ⟨hfz25_0, hfz25_1, hfz25_2, hfz25_3⟩ := fz4_ BK208; have hnb26 := NB201_202.out; have hnc26 := NB202_201.out; have hnb27 := NB201_204.out; have hnc27 := NB204_201.out; obtain ⟨hcz28_0, hcz28_1, hcz28_2, hcz28_3⟩ := cz4_ BK201; obtain ⟨hfz28_0, hfz28_1, hfz28_2, hfz28_3⟩ := fz4_ BK201))
   have n0_ : Aside0 (Kd.S k28 28 ((((w21.setCell ⟨gb208, 0, none⟩ (.string ((⟨#[122]⟩ : ByteArray) ++ (strOfNums y205)))).setCell ⟨gb208, 1, none⟩ (.slice none 0 0)).setCell ⟨gb208, 2, none⟩ (.int .i64 (wrap64 (1000 * x4_1)))).setCell ⟨gb208, 3, none⟩ (.int .i64 (wrap64 (500 * x4_1)))) w.heap.size (fun k_ => k_ ≠ gb208) u205003 x205003_1) := ⟨by (with_reducible repeat (first | apply Kd.S_alloc | apply Kd.S_drewN | apply Kd.S_drew)); exact Kd.S_mono (Kd.S_far (p := ⟨gb208, 3, none⟩) (Kd.S_far (p := ⟨gb208, 2, none⟩) (Kd.S_far (p := ⟨gb208, 1, none⟩) (Kd.S_far (p := ⟨gb208, 0, none⟩) (Kd.S_mono HO_205003.out (fun k_ hk => (⟨hk, hk.2⟩ : _ ∧ k_ ≠ gb208))) (fun _ hk => hk.2) (.string ((⟨#[122]⟩ : ByteArray) ++ (strOfNums y205)))) (fun _ hk => hk.2) (.slice none 0 0)) (fun _ hk => hk.2) (.int .i64 (wrap64 (1000 * x4_1)))) (fun _ hk => hk.2) (.int .i64 (wrap64 (500 * x4_1)))) (fun _ hk => hk.1.2)⟩
   have n1_ : Aside0 (Kd.R (Kd.int .u8) 5 ((((w21.setCell ⟨gb208, 0, none⟩ (.string ((⟨#[122]⟩ : ByteArray) ++ (strOfNums y205)))).setCell ⟨gb208, 1, none⟩ (.slice none 0 0)).setCell ⟨gb208, 2, none⟩ (.int .i64 (wrap64 (1000 * x4_1)))).setCell ⟨gb208, 3, none⟩ (.int .i64 (wrap64 (500 * x4_1)))) w.heap.size (fun _ => True) v206 y205) := ⟨rf1_ HO207 BK208⟩
   have n2_ : Aside0 (((((w21.setCell ⟨gb208, 0, none⟩ (.string ((⟨#[122]⟩ : ByteArray) ++ (strOfNums y205)))).setCell ⟨gb208, 1, none⟩ (.slice none 0 0)).setCell ⟨gb208, 2, none⟩ (.int .i64 (wrap64 (1000 * x4_1)))).setCell ⟨gb208, 3, none⟩ (.int .i64 (wrap64 (500 * x4_1)))).heap[gb201]? = some (.cells #[.bool a0_0, .bool a0_1, .int .i64 a0_2, .slice A0_3 l0_3.length c0_3] 24 (0, 0))) := ⟨bf4_ BK201 NB201_208 NB201_208 NB201_208 NB201_208⟩
   have n3_ : Aside0 (((((w21.setCell ⟨gb208, 0, none⟩ (.string ((⟨#[122]⟩ : ByteArray) ++ (strOfNums y205)))).setCell ⟨gb208, 1, none⟩ (.slice none 0 0)).setCell ⟨gb208, 2, none⟩ (.int .i64 (wrap64 (1000 * x4_1)))).setCell ⟨gb208, 3, none⟩ (.int .i64 (wrap64 (500 * x4_1)))).heap[gb202]? = some (.cells #[.bool false, .bool false, .int .i64 0, .slice none 0 0] 24 (0, 0))) := ⟨bf4_ BK202 NB202_208 NB202_208 NB202_208 NB202_208⟩
   have n4_ : Aside0 (((((w21.setCell ⟨gb208, 0, none⟩ (.string ((⟨#[122]⟩ : ByteArray) ++ (strOfNums y205)))).setCell ⟨gb208, 1, none⟩ (.slice none 0 0)).setCell ⟨gb208, 2, none⟩ (.int .i64 (wrap64 (1000 * x4_1)))).setCell ⟨gb208, 3, none⟩ (.int .i64 (wrap64 (500 * x4_1)))).heap[gb204]? = some (.cells #[.bool a0_0, .bool a0_1, .int .i64 t203, u205003] 24 (0, 0))) := ⟨bf4_ BK204 NB204_208 NB204_208 NB204_208 NB204_208⟩
   have n5_ : Aside0 (((((w21.setCell ⟨gb208, 0, none⟩ (.string ((⟨#[122]⟩ : ByteArray) ++ (strOfNums y205)))).setCell ⟨gb208, 1, none⟩ (.slice none 0 0)).setCell ⟨gb208, 2, none⟩ (.int .i64 (wrap64 (1000 * x4_1)))).setCell ⟨gb208, 3, none⟩ (.int .i64 (wrap64 (500 * x4_1)))).heap[gb208]? = some (.cells #[.string ((⟨#[122]⟩ : ByteArray) ++ (strOfNums y205)), .slice none 0 0, .int .i64 (wrap64 (1000 * x4_1)), .int .i64 (wrap64 (500 * x4_1))] 28 (0, 0))) := ⟨bq0_ BK208⟩
   have n6_ : Aside0 (Below w.heap.size w ((((w21.setCell ⟨gb208, 0, none⟩ (.string ((⟨#[122]⟩ : ByteArray) ++ (strOfNums y205)))).setCell ⟨gb208, 1, none⟩ (.slice none 0 0)).setCell ⟨gb208, 2, none⟩ (.int .i64 (wrap64 (1000 * x4_1)))).setCell ⟨gb208, 3, none⟩ (.int .i64 (wrap64 (500 * x4_1))))) := ⟨hb4_ HB GE201 GE202 GE204 GE208⟩
   (try clear HO_205003); (try clear HO207); (try clear BK201); (try clear BK202); (try clear BK204); (try clear BK208); (try clear HB)
   generalize ((((w21.setCell ⟨gb208, 0, none⟩ (.string ((⟨#[122]⟩ : ByteArray) ++ (strOfNums y205)))).setCell ⟨gb208, 1, none⟩ (.slice none 0 0)).setCell ⟨gb208, 2, none⟩ (.int .i64 (wrap64 (1000 * x4_1)))).setCell ⟨gb208, 3, none⟩ (.int .i64 (wrap64 (500 * x4_1)))) = w29 at n0_ n1_ n2_ n3_ n4_ n5_ n6_ ⊢
   have HO_205003 := n0_; have HO207 := n1_; have BK201 := n2_; have BK202 := n3_; have BK204 := n4_; have BK208 := n5_; have HB := n6_; clear n0_ n1_ n2_ n3_ n4_ n5_ n6_; replace HO_205003 := Aside0.mk (Kd.S_drew HO_205003.out); replace HO207 := Aside0.mk (Kd.R_drew HO207.out); replace BK201 := Aside0.mk (blk_drew BK201.out)
   replace BK202 := Aside0.mk (blk_drew BK202.out); replace BK204 := Aside0.mk (blk_drew BK204.out); replace BK208 := Aside0.mk (blk_drew BK208.out); replace HB := Aside0.mk (below_drew1 HB.out); have p209 : 0 ≤ (x4_1 : Int) := of_decide_eq_true as_; have q209 : x4_1 < (l0_3.length : Int) := of_decide_eq_true as_
   obtain ⟨ad209, A209_1, c209_1, e209, hx209_0, hx209_1, hx209_2, hx209_3, hl209_1, hi209_1⟩ := at_T28 HR0_3.out x4_1 p209 q209; have hw209_3 := hx209_3; have hw209_2 := hx209_2; have hw209_1 := hx209_1; have hw209_0 := hx209_0; cases e209; replace hx209_0 := hd_ HB hx209_0; replace hx209_1 := hd_ HB hx209_1
   replace hx209_2 := hd_ HB hx209_2; replace hx209_3 := hd_ HB hx209_3; have HR209_1 := Aside0.mk hi209_1; have HC209_1 := Aside0.mk hl209_1; clear hi209_1 hl209_1; replace p209 := eq_true p209; replace q209 := eq_true q209; have p211 : 0 ≤ (x4_1 : Int) := of_decide_eq_true as_; have q211 : x4_1 < (l0_3.length : Int) := of_decide_eq_true as_
   obtain ⟨ad211, A211_1, c211_1, e211, hx211_0, hx211_1, hx211_2, hx211_3, hl211_1, hi211_1⟩ := at_T28 HR0_3.out x4_1 p211 q211; have hw211_3 := hx211_3; have hw211_2 := hx211_2; have hw211_1 := hx211_1; have hw211_0 := hx211_0
   obtain rfl : ad209 = ad211 := (by injection e211)
   replace hx211_0 := hd_ HB hx211_0; replace hx211_1 := hd_ HB hx211_1; replace hx211_2 := hd_ HB hx211_2; replace hx211_3 := hd_ HB hx211_3; have HR211_1 := Aside0.mk hi211_1; have HC211_1 := Aside0.mk hl211_1; clear hi211_1 hl211_1; replace p211 := eq_true p211; replace q211 := eq_true q211; have ea_ := Option.some.inj (hx209_1.symm.trans hx211_1)
   injection ea_ with ea_ en_ ec_
   subst ea_; subst ec_; clear en_
   refine start_ (n := 18) (S := fun w' => w'.cell? ⟨gb201, 0, none⟩ = some (.bool a0_0) ∧ w'.cell? ⟨gb201, 1, none⟩ = some (.bool a0_1) ∧ w'.cell? ⟨gb201, 2, none⟩ = some (.int .i64 a0_2) ∧ w'.cell? ⟨gb201, 3, none⟩ = some (.slice (some ad209) l0_3.length c0_3) ∧ w'.cell? (ad209.add ((x4_1).toNat * 4)) = some (.string ((rd_T28 l0_3 x4_1).f0)) ∧ w'.cell? ⟨(ad209.add ((x4_1).toNat * 4)).block, (ad209.add ((x4_1).toNat * 4)).off + 1, none⟩ = some (.slice A209_1 ((rd_T28 l0_3 x4_1).f1).length c209_1) ∧ w'.cell? ⟨(ad209.add ((x4_1).toNat * 4)).block, (ad209.add ((x4_1).toNat * 4)).off + 2, none⟩ = some (.int .i64 ((rd_T28 l0_3 x4_1).f2)) ∧ w'.cell? ⟨(ad209.add ((x4_1).toNat * 4)).block, (ad209.add ((x4_1).toNat * 4)).off + 3, none⟩ = some (.int .i64 ((rd_T28 l0_3 x4_1).f3)) ∧ w'.cell? (ad209.add ((x4_1).toNat * 4)) = some (.string ((rd_T28 l0_3 x4_1).f0)) ∧ w'.cell? ⟨(ad209.add ((x4_1).toNat * 4)).block, (ad209.add ((x4_1).toNat * 4)).off + 1, none⟩ = some (.slice A209_1 ((rd_T28 l0_3 x4_1).f1).length c209_1) ∧ w'.cell? ⟨(ad209.add ((x4_1).toNat * 4)).block, (ad209.add ((x4_1).toNat * 4)).off + 2, none⟩ = some (.int .i64 ((rd_T28 l0_3 x4_1).f2)) ∧ w'.cell? ⟨(ad209.add ((x4_1).toNat * 4)).block, (ad209.add ((x4_1).toNat * 4)).off + 3, none⟩ = some (.int .i64 ((rd_T28 l0_3 x4_1).f3))) (ds := []) (mk 18 0) (by kernel_rfl) rfl rfl ⟨cl_ BK201 0, cl_ BK201 1, cl_ BK201 2, cl_ BK201 3, (hc_ HB hw209_0), (hc_ HB hw209_1), (hc_ HB hw209_2), (hc_ HB hw209_3), (hc_ HB hw211_0), (hc_ HB hw211_1), (hc_ HB hw211_2), (hc_ HB hw211_3)⟩ (fun hHeld => ?_); refine with_tabW haberdashplay_Tax.tab7 haberdashplay_Tax.bits7 (fun HT_ HW_ => ?_)
   generalize w29.drew = w30 at HO_205003 HO207 BK201 BK202 BK204 BK208 HB HR209_1 HR211_1 hx209_0 hx209_1 hx209_2 hx209_3 hx211_0 hx211_1 hx211_2 hx211_3 hHeld ⊢
   refine ahead_ [(0, 35), (2, 37), (7, 42), (9, 44)] ?_
   iterate 4 (refine pB_ HT_ ?_)
   refine aheadE_ (mk 18 645) kr_ ?_
   refine take_ (i := 1) (N := some 36) (v := ?_) (a' := ?_) (mk 18 647) rfl rfl (tw_ HT_ HW_) nh_ (Or.inl ⟨by rfl, ?_⟩) hHeld ?_ ?_
   rotate_left
   ·
    rintro w' ⟨s0, s1, s2, s3, s4, s5, s6, s7, s8, s9, s10, s11⟩
    go_simp
    with_reducible rfl
   rotate_left; (exact pu_)
   refine ahead_ [(3, 38), (4, 39)] ?_
   iterate 2 (refine pB_ HT_ ?_)
   refine aheadE_ (mk 18 671) kr_ ?_
   refine ahead_ [(5, 40), (8, 43)] ?_
   iterate 2 (refine tA_ (v := ?_) (a' := ?_) rfl rfl HT_.out HW_.out (by kernel_rfl) (fun _ _ _ h => h) (Or.inl ⟨by rfl, ?_⟩) hHeld ?_ ?_; rotate_left; (rintro w' ⟨s0, s1, s2, s3, s4, s5, s6, s7, s8, s9, s10, s11⟩; go_simp; with_reducible rfl); rotate_left; (exact pu_))
   refine aheadE_ (mk 18 959) kr_ ?_
   refine ahead_ [(10, 45), (11, 46)] ?_
   iterate 2 (refine pB_ HT_ ?_)
   refine aheadE_ (mk 18 4031) kr_ ?_
   refine take_ (i := 12) (N := some 47) (v := ?_) (a' := ?_) (mk 18 8127) rfl rfl (tw_ HT_ HW_) nh_ (Or.inl ⟨by rfl, ?_⟩) hHeld ?_ ?_
   rotate_left
   ·
    rintro w' ⟨s0, s1, s2, s3, s4, s5, s6, s7, s8, s9, s10, s11⟩
    go_simp
    with_reducible rfl
   rotate_left; (exact pu_)
   refine one_ (i := 6) (N := some 41) (mk 18 8191) rfl rfl (on_ HT_) de_ (fun K hK => ?_)
   refine goes_ Try.func18 (by kernel_rfl) rfl #[.int .i64 ((rd_T28 l0_3 x4_1).f2), .int .i64 3000] (by rfl) rfl rfl am_ ?_
   with_reducible refine (haberdashplay_Mod64.calls ((rd_T28 l0_3 x4_1).f2) 3000 t210 _ A16.out).mono ?_
   rintro e w' ⟨rfl, ⟨nd, rfl⟩⟩
   refine ⟨_, rfl, ?_⟩
   refine hK.out _ _ ⟨cl_ BK201 0, cl_ BK201 1, cl_ BK201 2, cl_ BK201 3, (hc_ HB hw209_0), (hc_ HB hw209_1), (hc_ HB hw209_2), (hc_ HB hw209_3), (hc_ HB hw211_0), (hc_ HB hw211_1), (hc_ HB hw211_2), (hc_ HB hw211_3)⟩ (fun hHeld => ?_)
   clear hK K
   refine norm_ pv_ ?_
   refine pure_ (i := 14) (N := some 49) (v := ?_) (a' := ?_) (mk 18 24575) rfl rfl (an_ HT_) nh_ (Or.inl ⟨ry_, ?_⟩) ?_ ?_
   rotate_left; (intro w'; go_simp; with_reducible rfl)
   rotate_left; (exact pu_)
   refine one_ (i := 13) (N := some 48) (mk 18 32767) rfl rfl (on_ HT_) de_ (fun K hK => ?_)
   refine goes_ Try.func18 (by kernel_rfl) rfl #[.int .i64 ((rd_T28 l0_3 x4_1).f3), .int .i64 3000] (by rfl) rfl rfl am_ ?_
   with_reducible refine (haberdashplay_Mod64.calls ((rd_T28 l0_3 x4_1).f3) 3000 t212 _ A17.out).mono ?_
   rintro e w' ⟨rfl, ⟨nd, rfl⟩⟩
   refine ⟨_, rfl, ?_⟩
   refine hK.out _ _ ⟨cl_ BK201 0, cl_ BK201 1, cl_ BK201 2, cl_ BK201 3, (hc_ HB hw209_0), (hc_ HB hw209_1), (hc_ HB hw209_2), (hc_ HB hw209_3), (hc_ HB hw211_0), (hc_ HB hw211_1), (hc_ HB hw211_2), (hc_ HB hw211_3)⟩ (fun hHeld => ?_)
   clear hK K
   refine norm_ pv_ ?_
   refine one_ (i := 15) (N := none) (mk 18 65535) rfl rfl (on_ HT_) de_ (fun K hK => ?_)
   have hs31 : w30.cell? ⟨gb208, 2, none⟩ = some (.int .i64 (wrap64 (1000 * x4_1))) := (blk_cell BK208.out 2).trans rfl; have hfs31 := blk_frozen BK208.out 2; have hns31_0 := NB201_208.out; have hns31_1 := NB202_208.out; have hns31_2 := NB204_208.out; have hms31_0 := NB208_201.out; have hms31_1 := NB208_202.out
   have hms31_2 := NB208_204.out
   refine skip_ (w1 := ?_) (by rfl) rfl ?_ ?_
   rotate_left
   ·
    go_simp
    rfl
   refine hK.out _ _ ⟨(cf1_ NB201_208 (hHeld.1)), (cf1_ NB201_208 (hHeld.2.1)), (cf1_ NB201_208 (hHeld.2.2.1)), (cf1_ NB201_208 (hHeld.2.2.2.1)), ((cell_far (p := ⟨gb208, _, none⟩) (by first | exact Nat.ne_of_lt (Nat.lt_of_lt_of_le (by have := World.block_lt_of_cell? _ _ hw209_0; first | rwa [add_block] at this | exact this) GW208.out) | (rw [add_block]; exact Nat.ne_of_lt (Nat.lt_of_lt_of_le (by have := World.block_lt_of_cell? _ _ hw209_0; first | rwa [add_block] at this | exact this) GW208.out)) | (show (Addr.add _ _).block ≠ _; rw [add_block]; exact Nat.ne_of_lt (Nat.lt_of_lt_of_le (by have := World.block_lt_of_cell? _ _ hw209_0; first | rwa [add_block] at this | exact this) GW208.out)) | (dsimp only; exact Nat.ne_of_lt (Nat.lt_of_lt_of_le (by have := World.block_lt_of_cell? _ _ hw209_0; first | rwa [add_block] at this | exact this) GW208.out))) _).trans (hHeld.2.2.2.2.1)), ((cell_far (p := ⟨gb208, _, none⟩) (by first | exact Nat.ne_of_lt (Nat.lt_of_lt_of_le (by have := World.block_lt_of_cell? _ _ hw209_1; first | rwa [add_block] at this | exact this) GW208.out) | (rw [add_block]; exact Nat.ne_of_lt (Nat.lt_of_lt_of_le (by have := World.block_lt_of_cell? _ _ hw209_1; first | rwa [add_block] at this | exact this) GW208.out)) | (show (Addr.add _ _).block ≠ _; rw [add_block]; exact Nat.ne_of_lt (Nat.lt_of_lt_of_le (by have := World.block_lt_of_cell? _ _ hw209_1; first | rwa [add_block] at this | exact this) GW208.out)) | (dsimp only; exact Nat.ne_of_lt (Nat.lt_of_lt_of_le (by have := World.block_lt_of_cell? _ _ hw209_1; first | rwa [add_block] at this | exact this) GW208.out))) _).trans (hHeld.2.2.2.2.2.1)), ((cell_far (p := ⟨gb208, _, none⟩) (by first | exact Nat.ne_of_lt (Nat.lt_of_lt_of_le (by have := World.block_lt_of_cell? _ _ hw209_2; first | rwa [add_block] at this | exact this) GW208.out) | (rw [add_block]; exact Nat.ne_of_lt (Nat.lt_of_lt_of_le (by have := World.block_lt_of_cell? _ _ hw209_2; first | rwa [add_block] at this | exact this) GW208.out)) | (show (Addr.add _ _).block ≠ _; rw [add_block]; exact Nat.ne_of_lt (Nat.lt_of_lt_of_le (by have := World.block_lt_of_cell? _ _ hw209_2; first | rwa [add_block] at this | exact this) GW208.out)) | (dsimp only; exact Nat.ne_of_lt (Nat.lt_of_lt_of_le (by have := World.block_lt_of_cell? _ _ hw209_2; first | rwa [add_block] at this | exact this) GW208.out))) _).trans (hHeld.2.2.2.2.2.2.1)), ((cell_far (p := ⟨gb208, _, none⟩) (by first | exact Nat.ne_of_lt (Nat.lt_of_lt_of_le (by have := World.block_lt_of_cell? _ _ hw209_3; first | rwa [add_block] at this | exact this) GW208.out) | (rw [add_block]; exact Nat.ne_of_lt (Nat.lt_of_lt_of_le (by have := World.block_lt_of_cell? _ _ hw209_3; first | rwa [add_block] at this | exact this) GW208.out)) | (show (Addr.add _ _).block ≠ _; rw [add_block]; exact Nat.ne_of_lt (Nat.lt_of_lt_of_le (by have := World.block_lt_of_cell? _ _ hw209_3; first | rwa [add_block] at this | exact this) GW208.out)) | (dsimp only; exact Nat.ne_of_lt (Nat.lt_of_lt_of_le (by have := World.block_lt_of_cell? _ _ hw209_3; first | rwa [add_block] at this | exact this) GW208.out))) _).trans (hHeld.2.2.2.2.2.2.2.1)), ((cell_far (p := ⟨gb208, _, none⟩) (by first | exact Nat.ne_of_lt (Nat.lt_of_lt_of_le (by have := World.block_lt_of_cell? _ _ hw211_0; first | rwa [add_block] at this | exact this) GW208.out) | (rw [add_block]; exact Nat.ne_of_lt (Nat.lt_of_lt_of_le (by have := World.block_lt_of_cell? _ _ hw211_0; first | rwa [add_block] at this | exact this) GW208.out)) | (show (Addr.add _ _).block ≠ _; rw [add_block]; exact Nat.ne_of_lt (Nat.lt_of_lt_of_le (by have := World.block_lt_of_cell? _ _ hw211_0; first | rwa [add_block] at this | exact this) GW208.out)) | (dsimp only; exact Nat.ne_of_lt (Nat.lt_of_lt_of_le (by have := World.block_lt_of_cell? _ _ hw211_0; first | rwa [add_block] at this | exact this) GW208.out))) _).trans (hHeld.2.2.2.2.2.2.2.2.1)), ((cell_far (p := ⟨gb208, _, none⟩) (by first | exact Nat.ne_of_lt (Nat.lt_of_lt_of_le (by have := World.block_lt_of_cell? _ _ hw211_1; first | rwa [add_block] at this | exact this) GW208.out) | (rw [add_block]; exact Nat.ne_of_lt (Nat.lt_of_lt_of_le (by have := World.block_lt_of_cell? _ _ hw211_1; first | rwa [add_block] at this | exact this) GW208.out)) | (show (Addr.add _ _).block ≠ _; rw [add_block]; exact Nat.ne_of_lt (Nat.lt_of_lt_of_le (by have := World.block_lt_of_cell? _ _ hw211_1; first | rwa [add_block] at this | exact this) GW208.out)) | (dsimp only; exact Nat.ne_of_lt (Nat.lt_of_lt_of_le (by have := World.block_lt_of_cell? _ _ hw211_1; first | rwa [add_block] at this | exact this) GW208.out))) _).trans (hHeld.2.2.2.2.2.2.2.2.2.1)), ((cell_far (p := ⟨gb208, _, none⟩) (by first | exact Nat.ne_of_lt (Nat.lt_of_lt_of_le (by have := World.block_lt_of_cell? _ _ hw211_2; first | rwa [add_block] at this | exact this) GW208.out) | (rw [add_block]; exact Nat.ne_of_lt (Nat.lt_of_lt_of_le (by have := World.block_lt_of_cell? _ _ hw211_2; first | rwa [add_block] at this | exact this) GW208.out)) | (show (Addr.add _ _).block ≠ _; rw [add_block]; exact Nat.ne_of_lt (Nat.lt_of_lt_of_le (by have := World.block_lt_of_cell? _ _ hw211_2; first | rwa [add_block] at this | exact this) GW208.out)) | (dsimp only; exact Nat.ne_of_lt (Nat.lt_of_lt_of_le (by have := World.block_lt_of_cell? _ _ hw211_2; first | rwa [add_block] at this | exact this) GW208.out))) _).trans (hHeld.2.2.2.2.2.2.2.2.2.2.1)), ((cell_far (p := ⟨gb208, _, none⟩) (by first | exact Nat.ne_of_lt (Nat.lt_of_lt_of_le (by have := World.block_lt_of_cell? _ _ hw211_3; first | rwa [add_block] at this | exact this) GW208.out) | (rw [add_block]; exact Nat.ne_of_lt (Nat.lt_of_lt_of_le (by have := World.block_lt_of_cell? _ _ hw211_3; first | rwa [add_block] at this | exact this) GW208.out)) | (show (Addr.add _ _).block ≠ _; rw [add_block]; exact Nat.ne_of_lt (Nat.lt_of_lt_of_le (by have := World.block_lt_of_cell? _ _ hw211_3; first | rwa [add_block] at this | exact this) GW208.out)) | (dsimp only; exact Nat.ne_of_lt (Nat.lt_of_lt_of_le (by have := World.block_lt_of_cell? _ _ hw211_3; first | rwa [add_block] at this | exact this) GW208.out))) _).trans (hHeld.2.2.2.2.2.2.2.2.2.2.2))⟩ (fun hHeld => ?_)
   clear hK K
   refine pure_ (i := 16) (N := some 50) (v := ?_) (a' := ?_) (mk 18 131071) rfl rfl (an_ HT_) nh_ (Or.inl ⟨ry_, ?_⟩) ?_ ?_
   rotate_left; (intro w'; go_simp; with_reducible rfl)
   rotate_left; (exact pu_)
   refine one_ (i := 17) (N := none) (mk 18 262143) rfl rfl (on_ HT_) de_ (fun K hK => ?_)
   have hs32 : w30.cell? ⟨gb208, 3, none⟩ = some (.int .i64 (wrap64 (500 * x4_1))) := (blk_cell BK208.out 3).trans rfl; have hfs32 := blk_frozen BK208.out 3; have hns32_0 := NB201_208.out; have hns32_1 := NB202_208.out; have hns32_2 := NB204_208.out; have hms32_0 := NB208_201.out; have hms32_1 := NB208_202.out
   have hms32_2 := NB208_204.out
   refine skip_ (w1 := ?_) (by rfl) rfl ?_ ?_
   rotate_left
   ·
    go_simp
    rfl
   refine hK.out _ _ ⟨(cf1_ NB201_208 (hHeld.1)), (cf1_ NB201_208 (hHeld.2.1)), (cf1_ NB201_208 (hHeld.2.2.1)), (cf1_ NB201_208 (hHeld.2.2.2.1)), ((cell_far (p := ⟨gb208, _, none⟩) (by first | exact Nat.ne_of_lt (Nat.lt_of_lt_of_le (by have := World.block_lt_of_cell? _ _ hw209_0; first | rwa [add_block] at this | exact this) GW208.out) | (rw [add_block]; exact Nat.ne_of_lt (Nat.lt_of_lt_of_le (by have := World.block_lt_of_cell? _ _ hw209_0; first | rwa [add_block] at this | exact this) GW208.out)) | (show (Addr.add _ _).block ≠ _; rw [add_block]; exact Nat.ne_of_lt (Nat.lt_of_lt_of_le (by have := World.block_lt_of_cell? _ _ hw209_0; first | rwa [add_block] at this | exact this) GW208.out)) | (dsimp only; exact Nat.ne_of_lt (Nat.lt_of_lt_of_le (by have := World.block_lt_of_cell? _ _ hw209_0; first | rwa [add_block] at this | exact this) GW208.out))) _).trans (hHeld.2.2.2.2.1)), ((cell_far (p := ⟨gb208, _, none⟩) (by first | exact Nat.ne_of_lt (Nat.lt_of_lt_of_le (by have := World.block_lt_of_cell? _ _ hw209_1; first | rwa [add_block] at this | exact this) GW208.out) | (rw [add_block]; exact Nat.ne_of_lt (Nat.lt_of_lt_of_le (by have := World.block_lt_of_cell? _ _ hw209_1; first | rwa [add_block] at this | exact this) GW208.out)) | (show (Addr.add _ _).block ≠ _; rw [add_block]; exact Nat.ne_of_lt (Nat.lt_of_lt_of_le (by have := World.block_lt_of_cell? _ _ hw209_1; first | rwa [add_block] at this | exact this) GW208.out)) | (dsimp only; exact Nat.ne_of_lt (Nat.lt_of_lt_of_le (by have := World.block_lt_of_cell? _ _ hw209_1; first | rwa [add_block] at this | exact this) GW208.out))) _).trans (hHeld.2.2.2.2.2.1)), ((cell_far (p := ⟨gb208, _, none⟩) (by first | exact Nat.ne_of_lt (Nat.lt_of_lt_of_le (by have := World.block_lt_of_cell? _ _ hw209_2; first | rwa [add_block] at this | exact this) GW208.out) | (rw [add_block]; exact Nat.ne_of_lt (Nat.lt_of_lt_of_le (by have := World.block_lt_of_cell? _ _ hw209_2; first | rwa [add_block] at this | exact this) GW208.out)) | (show (Addr.add _ _).block ≠ _; rw [add_block]; exact Nat.ne_of_lt (Nat.lt_of_lt_of_le (by have := World.block_lt_of_cell? _ _ hw209_2; first | rwa [add_block] at this | exact this) GW208.out)) | (dsimp only; exact Nat.ne_of_lt (Nat.lt_of_lt_of_le (by have := World.block_lt_of_cell? _ _ hw209_2; first | rwa [add_block] at this | exact this) GW208.out))) _).trans (hHeld.2.2.2.2.2.2.1)), ((cell_far (p := ⟨gb208, _, none⟩) (by first | exact Nat.ne_of_lt (Nat.lt_of_lt_of_le (by have := World.block_lt_of_cell? _ _ hw209_3; first | rwa [add_block] at this | exact this) GW208.out) | (rw [add_block]; exact Nat.ne_of_lt (Nat.lt_of_lt_of_le (by have := World.block_lt_of_cell? _ _ hw209_3; first | rwa [add_block] at this | exact this) GW208.out)) | (show (Addr.add _ _).block ≠ _; rw [add_block]; exact Nat.ne_of_lt (Nat.lt_of_lt_of_le (by have := World.block_lt_of_cell? _ _ hw209_3; first | rwa [add_block] at this | exact this) GW208.out)) | (dsimp only; exact Nat.ne_of_lt (Nat.lt_of_lt_of_le (by have := World.block_lt_of_cell? _ _ hw209_3; first | rwa [add_block] at this | exact this) GW208.out))) _).trans (hHeld.2.2.2.2.2.2.2.1)), ((cell_far (p := ⟨gb208, _, none⟩) (by first | exact Nat.ne_of_lt (Nat.lt_of_lt_of_le (by have := World.block_lt_of_cell? _ _ hw211_0; first | rwa [add_block] at this | exact this) GW208.out) | (rw [add_block]; exact Nat.ne_of_lt (Nat.lt_of_lt_of_le (by have := World.block_lt_of_cell? _ _ hw211_0; first | rwa [add_block] at this | exact this) GW208.out)) | (show (Addr.add _ _).block ≠ _; rw [add_block]; exact Nat.ne_of_lt (Nat.lt_of_lt_of_le (by have := World.block_lt_of_cell? _ _ hw211_0; first | rwa [add_block] at this | exact this) GW208.out)) | (dsimp only; exact Nat.ne_of_lt (Nat.lt_of_lt_of_le (by have := World.block_lt_of_cell? _ _ hw211_0; first | rwa [add_block] at this | exact this) GW208.out))) _).trans (hHeld.2.2.2.2.2.2.2.2.1)), ((cell_far (p := ⟨gb208, _, none⟩) (by first | exact Nat.ne_of_lt (Nat.lt_of_lt_of_le (by have := World.block_lt_of_cell? _ _ hw211_1; first | rwa [add_block] at this | exact this) GW208.out) | (rw [add_block]; exact Nat.ne_of_lt (Nat.lt_of_lt_of_le (by have := World.block_lt_of_cell? _ _ hw211_1; first | rwa [add_block] at this | exact this) GW208.out)) | (show (Addr.add _ _).block ≠ _; rw [add_block]; exact Nat.ne_of_lt (Nat.lt_of_lt_of_le (by have := World.block_lt_of_cell? _ _ hw211_1; first | rwa [add_block] at this | exact this) GW208.out)) | (dsimp only; exact Nat.ne_of_lt (Nat.lt_of_lt_of_le (by have := World.block_lt_of_cell? _ _ hw211_1; first | rwa [add_block] at this | exact this) GW208.out))) _).trans (hHeld.2.2.2.2.2.2.2.2.2.1)), ((cell_far (p := ⟨gb208, _, none⟩) (by first | exact Nat.ne_of_lt (Nat.lt_of_lt_of_le (by have := World.block_lt_of_cell? _ _ hw211_2; first | rwa [add_block] at this | exact this) GW208.out) | (rw [add_block]; exact Nat.ne_of_lt (Nat.lt_of_lt_of_le (by have := World.block_lt_of_cell? _ _ hw211_2; first | rwa [add_block] at this | exact this) GW208.out)) | (show (Addr.add _ _).block ≠ _; rw [add_block]; exact Nat.ne_of_lt (Nat.lt_of_lt_of_le (by have := World.block_lt_of_cell? _ _ hw211_2; first | rwa [add_block] at this | exact this) GW208.out)) | (dsimp only; exact Nat.ne_of_lt (Nat.lt_of_lt_of_le (by have := World.block_lt_of_cell? _ _ hw211_2; first | rwa [add_block] at this | exact this) GW208.out))) _).trans (hHeld.2.2.2.2.2.2.2.2.2.2.1)), ((cell_far (p := ⟨gb208, _, none⟩) (by first | exact Nat.ne_of_lt (Nat.lt_of_lt_of_le (by have := World.block_lt_of_cell? _ _ hw211_3; first | rwa [add_block] at this | exact this) GW208.out) | (rw [add_block]; exact Nat.ne_of_lt (Nat.lt_of_lt_of_le (by have := World.block_lt_of_cell? _ _ hw211_3; first | rwa [add_block] at this | exact this) GW208.out)) | (show (Addr.add _ _).block ≠ _; rw [add_block]; exact Nat.ne_of_lt (Nat.lt_of_lt_of_le (by have := World.block_lt_of_cell? _ _ hw211_3; first | rwa [add_block] at this | exact this) GW208.out)) | (dsimp only; exact Nat.ne_of_lt (Nat.lt_of_lt_of_le (by have := World.block_lt_of_cell? _ _ hw211_3; first | rwa [add_block] at this | exact this) GW208.out))) _).trans (hHeld.2.2.2.2.2.2.2.2.2.2.2))⟩ (fun hHeld => ?_)
   clear hK K
   refine done_ (done_of HT_.out (by kernel_rfl)) ?_
   try go_wp2
   go_loopg [6] k1 (fun kq v6 w' => ∃ (x6_2 : Int) (x209001_2 : List (S39)) (u209001 : Value), v6 = .int .i64 x6_2 ∧ Aside0 (haberdashplay_Tax.l1 kq x4_1 x6_2 a0_0 a0_1 a0_2 l0_3 a0_0 a0_1 t203 x205003_1 ((⟨#[122]⟩ : ByteArray) ++ (strOfNums y205)) x209001_2 t210 t212 = some (r1, r2, r3, r4)) ∧ Aside0 (kq ≤ k1) ∧ Aside0 (Kd.S k28 28 w' w.heap.size (fun k_ => some k_ ≠ (u209001 : Value).ownBlock ∧ k_ ≠ gb208) u205003 x205003_1) ∧ Aside0 (Kd.R k39 39 w' w.heap.size (fun _ => True) u209001 x209001_2) ∧ Aside0 (w'.heap[gb201]? = some (.cells #[.bool a0_0, .bool a0_1, .int .i64 a0_2, (.slice (some ad209) l0_3.length c0_3)] 24 (0, 0))) ∧ Aside0 (w'.heap[gb202]? = some (.cells #[.bool false, .bool false, .int .i64 0, (.slice none 0 0)] 24 (0, 0))) ∧ Aside0 (w'.heap[gb204]? = some (.cells #[.bool a0_0, .bool a0_1, .int .i64 t203, u205003] 24 (0, 0))) ∧ Aside0 (w'.heap[gb208]? = some (.cells #[.string ((⟨#[122]⟩ : ByteArray) ++ (strOfNums y205)), u209001, .int .i64 t210, .int .i64 t212] 28 (0, 0))) ∧ Aside0 (Below w.heap.size w w'))
   case atStart => exact ⟨(0), (([] : List (S39))), (.slice none 0 0), rf_, H', ⟨Nat.le_refl _⟩, ⟨by (with_reducible repeat (first | apply Kd.S_alloc | apply Kd.S_drewN | apply Kd.S_drew)); exact Kd.S_mono (Kd.S_far (p := ⟨gb208, 3, none⟩) (Kd.S_far (p := ⟨gb208, 2, none⟩) (Kd.S_mono HO_205003.out (fun k_ hk => (⟨hk, hk⟩ : _ ∧ k_ ≠ gb208))) (fun _ hk => hk.2) (.int .i64 t210)) (fun _ hk => hk.2) (.int .i64 t212)) (fun _ hk => ⟨(by simp [Value.ownBlock]), hk.1⟩)⟩, ⟨ni_⟩, ⟨bf2_ BK201 NB201_208 NB201_208⟩, ⟨bf2_ BK202 NB202_208 NB202_208⟩, ⟨bf2_ BK204 NB204_208 NB204_208⟩, ⟨bq0_ BK208⟩, ⟨hb4_ HB GE201 GE202 GE204 GE208⟩⟩
   case round =>
    clear H'; (try clear c1); (try clear c2); (try clear p2); (try clear q2); (try clear hx2); (try clear hcv2); (try clear c6); (try clear p6); (try clear c12); (try clear c12b0); (try clear c13); (try clear c13b0); (try clear c13b1); (try clear c13b2); (try clear c14); (try clear c14b0); (try clear c15)
    (try clear c15b0); (try clear c18); (try clear c20); (try clear p20); (try clear q20); (try clear hx20); (try clear hcv20); (try clear c21); (try clear p21); (try clear q21); (try clear hx21); (try clear c22); (try clear c23); (try clear c24); (try clear c26); (try clear c27); (try clear hcz25_0 hcz25_1 hcz25_2 hcz25_3)
    (try clear hcz28_0 hcz28_1 hcz28_2 hcz28_3); (try clear hfz25_0 hfz25_1 hfz25_2 hfz25_3); (try clear hfz28_0 hfz28_1 hfz28_2 hfz28_3); (try clear hx209_0); (try clear hx209_1); (try clear hx209_2); (try clear hx209_3); (try clear hx211_0); (try clear hx211_1); (try clear hx211_2); (try clear hx211_3)
    (try clear p2); (try clear p209); (try clear p211); (try clear q209); (try clear q211); obtain ⟨x6_2, x209001_2, u209001, rfl, HA, HK2, HO_205003, HO_209001, BK201, BK202, BK204, BK208, HB⟩ := hrel
    cases gk with
    | zero => exact absurd HA.out (by simp [haberdashplay_Tax.l1])
    | succ k2 =>
     have H := HA.out; clear HA
     simp only [haberdashplay_Tax.l1] at H
     have HC33 := Aside0.mk H; clear H
     go_upto_region 9 with (fail)
     go_cut [63] (fun v63 wc => ∃ (kq : Nat) (x63_32 : Bool), v63 = .bool x63_32 ∧ Aside0 (haberdashplay_Tax.j2 kq x4_1 x6_2 x63_32 a0_0 a0_1 a0_2 l0_3 a0_0 a0_1 t203 x205003_1 ((⟨#[122]⟩ : ByteArray) ++ (strOfNums y205)) x209001_2 t210 t212 = some (r1, r2, r3, r4)) ∧ Aside0 (kq ≤ k2) ∧ Aside0 (Kd.S k28 28 wc w.heap.size (fun k_ => some k_ ≠ (u209001 : Value).ownBlock ∧ k_ ≠ gb208) u205003 x205003_1) ∧ Aside0 (Kd.R k39 39 wc w.heap.size (fun _ => True) u209001 x209001_2) ∧ Aside0 (wc.heap[gb201]? = some (.cells #[.bool a0_0, .bool a0_1, .int .i64 a0_2, (.slice (some ad209) l0_3.length c0_3)] 24 (0, 0))) ∧ Aside0 (wc.heap[gb202]? = some (.cells #[.bool false, .bool false, .int .i64 0, (.slice none 0 0)] 24 (0, 0))) ∧ Aside0 (wc.heap[gb204]? = some (.cells #[.bool a0_0, .bool a0_1, .int .i64 t203, u205003] 24 (0, 0))) ∧ Aside0 (wc.heap[gb208]? = some (.cells #[.string ((⟨#[122]⟩ : ByteArray) ++ (strOfNums y205)), u209001, .int .i64 t210, .int .i64 t212] 28 (0, 0))) ∧ Aside0 (Below w.heap.size w wc))
     case first =>
      have H := HC33.out; clear HC33
      by_cases c34 : x6_2 < 3
      rotate_left
      ·
       rw [if_neg c34] at H; have c34b0 := decide_eq_false c34; clear c34
       (first | rw [c34b0] | (simp only [i64_w, i32_w]; rw [c34b0]) | skip)
       have H' := Aside0.mk H; clear H
       go_wp2
       go_meet
       case rel => exact ⟨_, (false), rf_, H', ⟨by have := HK1.out; have := HK2.out; first | omega | exact Nat.le_refl _⟩, ⟨so_ HO_205003⟩, ⟨ro_ HO_209001⟩, ⟨bk_ BK201⟩, ⟨bk_ BK202⟩, ⟨bk_ BK204⟩, ⟨bk_ BK208⟩, ⟨hb4_ HB GE201 GE202 GE204 GE208⟩⟩
      rw [if_pos c34] at H; have c34b0 := decide_eq_true c34; clear c34
      (first | rw [c34b0] | (simp only [i64_w, i32_w]; rw [c34b0]) | skip)
      replace H := ip_ H; obtain ⟨c35, H⟩ := H; have c35b0 := decide_eq_true c35; clear c35; replace H := ip_ H; obtain ⟨c36, H⟩ := H; have c36b0 := decide_eq_true c36; clear c36; have H' := Aside0.mk H; clear H; have hnb37 := NB201_202.out; have hnc37 := NB202_201.out; have hnb38 := NB201_204.out; have hnc38 := NB204_201.out
      have hnb39 := NB201_208.out; have hnc39 := NB208_201.out; obtain ⟨hcz40_0, hcz40_1, hcz40_2, hcz40_3⟩ := cz4_ BK201; obtain ⟨hfz40_0, hfz40_1, hfz40_2, hfz40_3⟩ := fz4_ BK201; have p213 : 0 ≤ (x4_1 : Int) := of_decide_eq_true as_; have q213 : x4_1 < (l0_3.length : Int) := of_decide_eq_true as_
      obtain ⟨ad213, A213_1, c213_1, e213, hx213_0, hx213_1, hx213_2, hx213_3, hl213_1, hi213_1⟩ := at_T28 HR0_3.out x4_1 p213 q213
      obtain rfl : ad209 = ad213 := (by injection e213)
      replace hx213_0 := hd_ HB hx213_0; replace hx213_1 := hd_ HB hx213_1; replace hx213_2 := hd_ HB hx213_2; replace hx213_3 := hd_ HB hx213_3; have HR213_1 := Aside0.mk hi213_1; have HC213_1 := Aside0.mk hl213_1; clear hi213_1 hl213_1; replace p213 := eq_true p213; replace q213 := eq_true q213
      go_wp2
      go_meet
      case rel => exact ⟨_, (decide (x6_2 < (((rd_T28 l0_3 x4_1).f1).length : Int))), rf_, H', ⟨by have := HK1.out; have := HK2.out; first | omega | exact Nat.le_refl _⟩, ⟨so_ HO_205003⟩, ⟨ro_ HO_209001⟩, ⟨bk_ BK201⟩, ⟨bk_ BK202⟩, ⟨bk_ BK204⟩, ⟨bk_ BK208⟩, ⟨hb4_ HB GE201 GE202 GE204 GE208⟩⟩
     case rest =>
      clear HC33; (try clear c1); (try clear c2); (try clear p2); (try clear q2); (try clear hx2); (try clear hcv2); (try clear c3); (try clear c6); (try clear p6); (try clear c12); (try clear c12b0); (try clear c13); (try clear c13b0); (try clear c13b1); (try clear c13b2); (try clear c14); (try clear c14b0)
      (try clear c15); (try clear c15b0); (try clear c18); (try clear c20); (try clear p20); (try clear q20); (try clear hx20); (try clear hcv20); (try clear c21); (try clear p21); (try clear q21); (try clear hx21); (try clear c22); (try clear c23); (try clear c24); (try clear c26); (try clear c27); (try clear c34)
      (try clear c34b0); (try clear c35); (try clear c35b0); (try clear c36); (try clear c36b0); (try clear c37); (try clear c38); (try clear c39); (try clear hcz25_0 hcz25_1 hcz25_2 hcz25_3); (try clear hcz28_0 hcz28_1 hcz28_2 hcz28_3); (try clear hcz40_0 hcz40_1 hcz40_2 hcz40_3); (try clear hfz25_0 hfz25_1 hfz25_2 hfz25_3)
      (try clear hfz28_0 hfz28_1 hfz28_2 hfz28_3); (try clear hfz40_0 hfz40_1 hfz40_2 hfz40_3); (try clear hx209_0); (try clear hx209_1); (try clear hx209_2); (try clear hx209_3); (try clear hx211_0); (try clear hx211_1); (try clear hx211_2); (try clear hx211_3); (try clear hx213_0); (try clear hx213_1)
      (try clear hx213_2); (try clear hx213_3); (try clear p2); (try clear p20); (try clear p209); (try clear p21); (try clear p211); (try clear p213); (try clear p6); (try clear q2); (try clear q20); (try clear q209); (try clear q21); (try clear q211); (try clear q213); obtain ⟨kq, x63_32, rfl, HA, HJ32, HO_205003, HO_209001, BK201, BK202, BK204, BK208, HB⟩ := hcut
      cases kq with
      | zero => exact absurd HA.out (by simp [haberdashplay_Tax.j2])
      | succ kj32 =>
       have H := HA.out; clear HA
       simp only [haberdashplay_Tax.j2] at H
       by_cases c41 : x63_32 = true
       rotate_left
       ·
        replace c41 := Bool.eq_false_iff.mpr c41; subst c41; rw [if_neg nf_] at H; replace H := ip_ H; obtain ⟨c54, H⟩ := H; have LMc54 := Aside0.mk c54; clear c54; obtain ⟨y221, hy221⟩ : ∃ y_ : List (S28), y_ = (x205003_1 ++ [(⟨((⟨#[122]⟩ : ByteArray) ++ (strOfNums y205)), x209001_2, t210, t212⟩ : S28)]) := ⟨_, rfl⟩
        replace H : (haberdashplay_Tax.l0 kj32 (wrap64 (x4_1 + 1)) a0_0 a0_1 a0_2 l0_3 a0_0 a0_1 t203 y221) = some (r1, r2, r3, r4) := hy_ hy221 H; have Ny221 := Aside0.mk hy221; clear hy221; have H' := Aside0.mk H; clear H; have hnb55 := NB204_201.out; have hnc55 := NB201_204.out; have hnb56 := NB204_202.out
        have hnc56 := NB202_204.out; have hnb57 := NB204_208.out; have hnc57 := NB208_204.out; obtain ⟨hcz58_0, hcz58_1, hcz58_2, hcz58_3⟩ := cz4_ BK204; obtain ⟨hfz58_0, hfz58_1, hfz58_2, hfz58_3⟩ := fz4_ BK204; have hnb59 := NB208_201.out; have hnc59 := NB201_208.out; have hnb60 := NB208_202.out; have hnc60 := NB202_208.out
        obtain ⟨hcz61_0, hcz61_1, hcz61_2, hcz61_3⟩ := cz4_ BK208; obtain ⟨hfz61_0, hfz61_1, hfz61_2, hfz61_3⟩ := fz4_ BK208; obtain ⟨Ao63, co63, eo63⟩ := Kd.R_slice HO_209001.out; subst eo63
        go_wp2_with (first | ((with_reducible refine gate_builtin (b := .append) (xs := #[.tmp 86, .tmp 88]) rfl ?_); (try (refine gate_guard (by rfl) ?_; dsimp only)); at_builtin; refine Kd.S_append k28 (w0 := w) w.heap.size rfl (.tmp 86) (.tmp 88) 22 28 (.agg #[(.string ⟨#[]⟩), (.slice none 0 0), (.int .i64 0), (.int .i64 0)]) 56 rfl Try.underlying22 info28 rfl (by decide) (by omega) u205003 x205003_1 (⟨((⟨#[122]⟩ : ByteArray) ++ (strOfNums y205)), x209001_2, t210, t212⟩ : S28) [.string ((⟨#[122]⟩ : ByteArray) ++ (strOfNums y205)), .slice Ao63 x209001_2.length co63, .int .i64 t210, .int .i64 t212] (fun k_ => k_ ≠ gb208) (fun k_ => some k_ = (.slice Ao63 x209001_2.length co63 : Value).ownBlock) rfl rfl ?aP (fun k_ hk_ => ((Kd.R_mono (ok' := fun k_ => ((fun k_ => k_ ≠ gb208)) k_ ∧ some k_ ≠ (u205003 : Value).ownBlock) (Kd.R_types (Kd.R_apart' (HO_209001.out) (Kd.S_typed HO_205003.out) (by decide)) BK208.out (by decide)) (fun k_ hk => ⟨hk.2, hk.1.2⟩))).1 k_ hk_.symm) ?aF ?aO ?aB ?aS ?aL ?_; (case aP => exact k28_mkM _ _ _ (⟨((⟨#[122]⟩ : ByteArray) ++ (strOfNums y205)), x209001_2, t210, t212⟩ : S28) (Kd.R_mono (Kd.R_tight rfl (Kd.R_mono (ok' := fun k_ => ((fun k_ => k_ ≠ gb208)) k_ ∧ some k_ ≠ (u205003 : Value).ownBlock) (Kd.R_types (Kd.R_apart' (HO_209001.out) (Kd.S_typed HO_205003.out) (by decide)) BK208.out (by decide)) (fun k_ hk => ⟨hk.2, hk.1.2⟩))) (fun _ h_ => h_))); (case aB => exact (hb4_ HB GE201 GE202 GE204 GE208)); (case aF => exact (fun k_ hk => Kd.freshB (g := gb208) (o := .cells #[.string ((⟨#[122]⟩ : ByteArray) ++ (strOfNums y205)), .slice Ao63 x209001_2.length co63, .int .i64 t210, .int .i64 t212] 28 (0, 0)) (bk_ BK208) k_ hk)); (case aO => exact (by (with_reducible repeat (first | apply Kd.S_alloc | apply Kd.S_drewN | apply Kd.S_drew)); exact Kd.S_mono HO_205003.out (fun k_ hk => ⟨hk.2, fun e_ => hk.1 e_⟩))); (case aS => exact (below_size (hb4_ HB GE201 GE202 GE204 GE208))); (case aL => have := LMc54.out; omega); intro v222 w62 ho hb hg hat; rw [← Ny221.out] at ho; have n0_ := Aside0.mk (blk_grown (g := gb201) (o := .cells #[.bool a0_0, .bool a0_1, .int .i64 a0_2, .slice (some ad209) l0_3.length c0_3] 24 (0, 0)) (bk_ BK201) hg (Kd.S_ne HO_205003.out BK201.out (by decide))); have n1_ := Aside0.mk (blk_grown (g := gb202) (o := .cells #[.bool false, .bool false, .int .i64 0, .slice none 0 0] 24 (0, 0)) (bk_ BK202) hg (Kd.S_ne HO_205003.out BK202.out (by decide))); have n2_ := Aside0.mk (blk_grown (g := gb204) (o := .cells #[.bool a0_0, .bool a0_1, .int .i64 t203, u205003] 24 (0, 0)) (bk_ BK204) hg (Kd.S_ne HO_205003.out BK204.out (by decide))); have n3_ := Aside0.mk (blk_grown (g := gb208) (o := .cells #[.string ((⟨#[122]⟩ : ByteArray) ++ (strOfNums y205)), .slice Ao63 x209001_2.length co63, .int .i64 t210, .int .i64 t212] 28 (0, 0)) (bk_ BK208) hg (Kd.S_away HO_205003.out (fun _ hk => hk.2))); have n4_ := Aside0.mk hb; have n5_ := Aside0.mk ho; clear BK201; clear BK202; clear BK204; clear BK208; clear HB; clear HO_205003; clear HO_209001; have BK201 := n0_; have BK202 := n1_; have BK204 := n2_; have BK208 := n3_; have HB := n4_; have HO223 := n5_; clear n0_ n1_ n2_ n3_ n4_ n5_; clear ho hb hg hat; obtain ⟨Ao64, co64, eo64⟩ := Kd.S_slice HO223.out; subst eo64; obtain ⟨hcz65_0, hcz65_1, hcz65_2, hcz65_3⟩ := cz4_ BK204; obtain ⟨hfz65_0, hfz65_1, hfz65_2, hfz65_3⟩ := fz4_ BK204))
        go_roundg kj32
        case measure => have := HK1.out; have := HK2.out; have := HJ32.out; omega
        case rel => exact ⟨(wrap64 (x4_1 + 1)), (y221), (.slice Ao64 y221.length co64), rf_, H', ⟨ho3_ HK1 HK2 HJ32⟩, ⟨by (with_reducible repeat (first | apply Kd.S_alloc | apply Kd.S_drewN | apply Kd.S_drew)); exact Kd.S_mono (Kd.S_far (p := ⟨gb204, 3, none⟩) (Kd.S_types HO223.out BK204.out (by decide)) (fun _ hk => hk.2) (.slice Ao64 y221.length co64)) (fun _ hk => trivial)⟩, ⟨bf1_ BK201 NB201_204⟩, ⟨bf1_ BK202 NB202_204⟩, ⟨bq0_ BK204⟩, ⟨hb4_ HB GE201 GE202 GE204 GE208⟩⟩
       subst c41; rw [if_pos rfl] at H; replace H := Option.bind_eq_some_iff.mp H; obtain ⟨t214, A420, H⟩ := H
       replace H : (if 0 ≤ x4_1 then (if x4_1 < (l0_3.length : Int) then (if 0 ≤ x6_2 then (if x6_2 < (((rd_T28 l0_3 x4_1).f1).length : Int) then ((haberdashplay_Mod64.f ((rd_T39 ((rd_T28 l0_3 x4_1).f1) x6_2).f1) 3000).bind fun t217 => (if x209001_2.length < 5864062014805 then (haberdashplay_Tax.l1 kj32 x4_1 (wrap64 (x6_2 + 1)) a0_0 a0_1 a0_2 l0_3 a0_0 a0_1 t203 x205003_1 ((⟨#[122]⟩ : ByteArray) ++ (strOfNums y205)) (x209001_2 ++ [(⟨t214, t217⟩ : S39)]) t210 t212) else (none))) else (none)) else (none)) else (none)) else (none)) = some (r1, r2, r3, r4) := H
       have A42 := Aside0.mk A420; clear A420; replace H := ip_ H; obtain ⟨c43, H⟩ := H; have c43b0 := decide_eq_true c43; clear c43; replace H := ip_ H; obtain ⟨c44, H⟩ := H; have c44b0 := decide_eq_true c44; clear c44; replace H := ip_ H; obtain ⟨c45, H⟩ := H; have c45b0 := decide_eq_true c45; clear c45
       replace H := ip_ H; obtain ⟨c46, H⟩ := H; have c46b0 := decide_eq_true c46; clear c46; replace H := Option.bind_eq_some_iff.mp H; obtain ⟨t217, A470, H⟩ := H; replace H : (if x209001_2.length < 5864062014805 then (haberdashplay_Tax.l1 kj32 x4_1 (wrap64 (x6_2 + 1)) a0_0 a0_1 a0_2 l0_3 a0_0 a0_1 t203 x205003_1 ((⟨#[122]⟩ : ByteArray) ++ (strOfNums y205)) (x209001_2 ++ [(⟨t214, t217⟩ : S39)]) t210 t212) else (none)) = some (r1, r2, r3, r4) := H
       have A47 := Aside0.mk A470; clear A470; replace H := ip_ H; obtain ⟨c48, H⟩ := H; have LMc48 := Aside0.mk c48; clear c48; obtain ⟨y218, hy218⟩ : ∃ y_ : List (S39), y_ = (x209001_2 ++ [(⟨t214, t217⟩ : S39)]) := ⟨_, rfl⟩; replace H : (haberdashplay_Tax.l1 kj32 x4_1 (wrap64 (x6_2 + 1)) a0_0 a0_1 a0_2 l0_3 a0_0 a0_1 t203 x205003_1 ((⟨#[122]⟩ : ByteArray) ++ (strOfNums y205)) y218 t210 t212) = some (r1, r2, r3, r4) := hy_ hy218 H
       have Ny218 := Aside0.mk hy218; clear hy218; have H' := Aside0.mk H; clear H
       try go_wp2
       replace HO_205003 := Aside0.mk (Kd.S_drew HO_205003.out); replace HO_209001 := Aside0.mk (Kd.R_drew HO_209001.out); replace BK201 := Aside0.mk (blk_drew BK201.out); replace BK202 := Aside0.mk (blk_drew BK202.out); replace BK204 := Aside0.mk (blk_drew BK204.out); replace BK208 := Aside0.mk (blk_drew BK208.out)
       replace HB := Aside0.mk (below_drew1 HB.out); have p215 : 0 ≤ (x4_1 : Int) := of_decide_eq_true as_; have q215 : x4_1 < (l0_3.length : Int) := of_decide_eq_true as_; obtain ⟨ad215, A215_1, c215_1, e215, hx215_0, hx215_1, hx215_2, hx215_3, hl215_1, hi215_1⟩ := at_T28 HR0_3.out x4_1 p215 q215; have hw215_3 := hx215_3
       have hw215_2 := hx215_2; have hw215_1 := hx215_1; have hw215_0 := hx215_0
       obtain rfl : ad209 = ad215 := (by injection e215)
       replace hx215_0 := hd_ HB hx215_0; replace hx215_1 := hd_ HB hx215_1; replace hx215_2 := hd_ HB hx215_2; replace hx215_3 := hd_ HB hx215_3; have HR215_1 := Aside0.mk hi215_1; have HC215_1 := Aside0.mk hl215_1; clear hi215_1 hl215_1; replace p215 := eq_true p215; replace q215 := eq_true q215; have p216 : 0 ≤ (x6_2 : Int) := of_decide_eq_true as_
       have q216 : x6_2 < (((rd_T28 l0_3 x4_1).f1).length : Int) := of_decide_eq_true as_; obtain ⟨ad216, e216, hx216_0, hx216_1⟩ := at_T39 HR215_1.out x6_2 p216 q216; have hw216_1 := hx216_1; have hw216_0 := hx216_0; cases e216; replace hx216_0 := hd_ HB hx216_0; replace hx216_1 := hd_ HB hx216_1; replace p216 := eq_true p216
       replace q216 := eq_true q216
       refine start_ (n := 20) (S := fun w' => w'.cell? ⟨gb208, 0, none⟩ = some (.string ((⟨#[122]⟩ : ByteArray) ++ (strOfNums y205))) ∧ w'.cell? ⟨gb208, 1, none⟩ = some (u209001) ∧ w'.cell? ⟨gb208, 2, none⟩ = some (.int .i64 t210) ∧ w'.cell? ⟨gb208, 3, none⟩ = some (.int .i64 t212) ∧ w'.cell? ⟨gb201, 0, none⟩ = some (.bool a0_0) ∧ w'.cell? ⟨gb201, 1, none⟩ = some (.bool a0_1) ∧ w'.cell? ⟨gb201, 2, none⟩ = some (.int .i64 a0_2) ∧ w'.cell? ⟨gb201, 3, none⟩ = some (.slice (some ad209) l0_3.length c0_3) ∧ w'.cell? (ad209.add ((x4_1).toNat * 4)) = some (.string ((rd_T28 l0_3 x4_1).f0)) ∧ w'.cell? ⟨(ad209.add ((x4_1).toNat * 4)).block, (ad209.add ((x4_1).toNat * 4)).off + 1, none⟩ = some (.slice (some ad216) ((rd_T28 l0_3 x4_1).f1).length c215_1) ∧ w'.cell? ⟨(ad209.add ((x4_1).toNat * 4)).block, (ad209.add ((x4_1).toNat * 4)).off + 2, none⟩ = some (.int .i64 ((rd_T28 l0_3 x4_1).f2)) ∧ w'.cell? ⟨(ad209.add ((x4_1).toNat * 4)).block, (ad209.add ((x4_1).toNat * 4)).off + 3, none⟩ = some (.int .i64 ((rd_T28 l0_3 x4_1).f3)) ∧ w'.cell? (ad216.add ((x6_2).toNat * 2)) = some (.string ((rd_T39 ((rd_T28 l0_3 x4_1).f1) x6_2).f0)) ∧ w'.cell? ⟨(ad216.add ((x6_2).toNat * 2)).block, (ad216.add ((x6_2).toNat * 2)).off + 1, none⟩ = some (.int .i64 ((rd_T39 ((rd_T28 l0_3 x4_1).f1) x6_2).f1))) (ds := [19]) (mk 20 0) (by kernel_rfl) rfl rfl ⟨cl_ BK208 0, cl_ BK208 1, cl_ BK208 2, cl_ BK208 3, cl_ BK201 0, cl_ BK201 1, cl_ BK201 2, cl_ BK201 3, (hc_ HB hw215_0), (hc_ HB hw215_1), (hc_ HB hw215_2), (hc_ HB hw215_3), (hc_ HB hw216_0), (hc_ HB hw216_1)⟩ (fun hHeld => ?_); refine with_tabW haberdashplay_Tax.tab11 haberdashplay_Tax.bits11 (fun HT_ HW_ => ?_)
       generalize wc.drew = w49 at HO_205003 HO_209001 BK201 BK202 BK204 BK208 HB HR215_1 hx215_0 hx215_1 hx215_2 hx215_3 hx216_0 hx216_1 hHeld ⊢
       refine ahead_ [(0, 66), (2, 68), (4, 70), (6, 72), (10, 76)] ?_
       iterate 5 (refine pB_ HT_ ?_)
       refine aheadE_ (mk 20 1109) kr_ ?_
       refine ahead_ [(1, 67), (5, 71)] ?_
       iterate 2 (refine tA_ (v := ?_) (a' := ?_) rfl rfl HT_.out HW_.out (by kernel_rfl) (fun _ _ _ h => h) (Or.inl ⟨by rfl, ?_⟩) hHeld ?_ ?_; rotate_left; (rintro w' ⟨s0, s1, s2, s3, s4, s5, s6, s7, s8, s9, s10, s11, s12, s13⟩; go_simp; with_reducible rfl); rotate_left; (exact pu_))
       refine aheadE_ (mk 20 1143) kr_ ?_
       refine ahead_ [(7, 73), (8, 74)] ?_
       iterate 2 (refine pB_ HT_ ?_)
       refine aheadE_ (mk 20 1527) kr_ ?_
       refine take_ (i := 9) (N := some 75) (v := ?_) (a' := ?_) (mk 20 2039) rfl rfl (tw_ HT_ HW_) nh_ (Or.inl ⟨by rfl, ?_⟩) hHeld ?_ ?_
       rotate_left
       ·
        rintro w' ⟨s0, s1, s2, s3, s4, s5, s6, s7, s8, s9, s10, s11, s12, s13⟩
        go_simp
        with_reducible rfl
       rotate_left; (exact pu_)
       refine ahead_ [(11, 77), (12, 78)] ?_
       iterate 2 (refine pB_ HT_ ?_)
       refine aheadE_ (mk 20 8183) kr_ ?_
       refine take_ (i := 13) (N := some 79) (v := ?_) (a' := ?_) (mk 20 16375) rfl rfl (tw_ HT_ HW_) nh_ (Or.inl ⟨by rfl, ?_⟩) hHeld ?_ ?_
       rotate_left
       ·
        rintro w' ⟨s0, s1, s2, s3, s4, s5, s6, s7, s8, s9, s10, s11, s12, s13⟩
        go_simp
        with_reducible rfl
       rotate_left; (exact pu_)
       refine one_ (i := 3) (N := some 69) (mk 20 16383) rfl rfl (on_ HT_) de_ (fun K hK => ?_)
       refine goes_ Try.func8 (by kernel_rfl) rfl #[.int .i64 x6_2] (by rfl) rfl rfl am_ ?_
       with_reducible refine (haberdashplay_Category.calls x6_2 t214 _ A42.out).mono ?_
       rintro e w50 ⟨rfl, hb⟩
       refine ⟨_, rfl, ?_⟩
       replace HO_205003 := Aside0.mk (Kd.S_below (so_ HO_205003) hb); replace HO_209001 := Aside0.mk (Kd.R_below (ro_ HO_209001) hb); replace BK201 := Aside0.mk (bb_ BK201 hb); replace BK202 := Aside0.mk (bb_ BK202 hb); replace BK204 := Aside0.mk (bb_ BK204 hb); replace BK208 := Aside0.mk (bb_ BK208 hb)
       replace HB := Aside0.mk (below_step (hb4_ HB GE201 GE202 GE204 GE208) hb); (try clear hb); (try clear hb2); (try clear hk); (try clear hi)
       refine hK.out _ _ ⟨cl_ BK208 0, cl_ BK208 1, cl_ BK208 2, cl_ BK208 3, cl_ BK201 0, cl_ BK201 1, cl_ BK201 2, cl_ BK201 3, (hc_ HB hw215_0), (hc_ HB hw215_1), (hc_ HB hw215_2), (hc_ HB hw215_3), (hc_ HB hw216_0), (hc_ HB hw216_1)⟩ (fun hHeld => ?_)
       clear hK K
       refine norm_ pv_ ?_
       refine one_ (i := 14) (N := some 80) (mk 20 32767) rfl rfl (on_ HT_) de_ (fun K hK => ?_)
       refine goes_ Try.func18 (by kernel_rfl) rfl #[.int .i64 ((rd_T39 ((rd_T28 l0_3 x4_1).f1) x6_2).f1), .int .i64 3000] (by rfl) rfl rfl am_ ?_
       with_reducible refine (haberdashplay_Mod64.calls ((rd_T39 ((rd_T28 l0_3 x4_1).f1) x6_2).f1) 3000 t217 _ A47.out).mono ?_
       rintro e w' ⟨rfl, ⟨nd, rfl⟩⟩
       refine ⟨_, rfl, ?_⟩
       refine hK.out _ _ ⟨cl_ BK208 0, cl_ BK208 1, cl_ BK208 2, cl_ BK208 3, cl_ BK201 0, cl_ BK201 1, cl_ BK201 2, cl_ BK201 3, (hc_ HB hw215_0), (hc_ HB hw215_1), (hc_ HB hw215_2), (hc_ HB hw215_3), (hc_ HB hw216_0), (hc_ HB hw216_1)⟩ (fun hHeld => ?_)
       clear hK K
       refine norm_ pv_ ?_
       refine pure_ (i := 15) (N := some 81) (v := ?_) (a' := ?_) (mk 20 65535) rfl rfl (an_ HT_) nh_ (Or.inl ⟨ry_, ?_⟩) ?_ ?_
       rotate_left; (intro w'; go_simp; with_reducible rfl)
       rotate_left; (exact pu_)
       refine one_ (i := 16) (N := some 82) (mk 20 131071) rfl rfl (on_ HT_) de_ (fun K hK => ?_)
       refine value_ (w1 := ?_) (v := ?_) (by rfl) rfl ?_ ?_
       rotate_left 2
       ·
        go_simp
        constructor
        ·
         rfl
        ·
         rfl
       refine hK.out _ _ ⟨(blk_cell (blk_alloc BK208.out _) 0).trans rfl, (blk_cell (blk_alloc BK208.out _) 1).trans rfl, (blk_cell (blk_alloc BK208.out _) 2).trans rfl, (blk_cell (blk_alloc BK208.out _) 3).trans rfl, (blk_cell (blk_alloc BK201.out _) 0).trans rfl, (blk_cell (blk_alloc BK201.out _) 1).trans rfl, (blk_cell (blk_alloc BK201.out _) 2).trans rfl, (blk_cell (blk_alloc BK201.out _) 3).trans rfl, (World.cell?_alloc_lt _ _ _ (World.block_lt_of_cell? _ _ ((hc_ HB hw215_0)))).trans ((hc_ HB hw215_0)), (World.cell?_alloc_lt _ _ _ (World.block_lt_of_cell? _ _ ((hc_ HB hw215_1)))).trans ((hc_ HB hw215_1)), (World.cell?_alloc_lt _ _ _ (World.block_lt_of_cell? _ _ ((hc_ HB hw215_2)))).trans ((hc_ HB hw215_2)), (World.cell?_alloc_lt _ _ _ (World.block_lt_of_cell? _ _ ((hc_ HB hw215_3)))).trans ((hc_ HB hw215_3)), (World.cell?_alloc_lt _ _ _ (World.block_lt_of_cell? _ _ ((hc_ HB hw216_0)))).trans ((hc_ HB hw216_0)), (World.cell?_alloc_lt _ _ _ (World.block_lt_of_cell? _ _ ((hc_ HB hw216_1)))).trans ((hc_ HB hw216_1))⟩ (fun hHeld => ?_)
       clear hK K
       refine norm_ pv_ ?_
       refine one_ (i := 17) (N := some 83) (mk 20 262143) rfl rfl (on_ HT_) de_ (fun K hK => ?_)
       refine Kd.R_append_step k39 (w0 := w) w.heap.size (by rfl) (.tmp 67) (.tmp 82) 26 39 (.agg #[(.string ⟨#[]⟩), (.int .i64 0)]) 24 rfl Try.underlying26 info39 rfl (by decide) (by omega) u209001 x209001_2 (⟨t214, t217⟩ : S39) [.string t214, .int .i64 t217] (fun _ => True) (fun _ => False) rfl rfl ?aP (fun _ hk => hk.elim) ?aF ?aO ?aB ?aS ?aL ?_
       (case aP => exact k39_mkM _ _ _ (⟨t214, t217⟩ : S39))
       (case aB => exact (hb4_ HB GE201 GE202 GE204 GE208))
       (case aF => exact (fun _ _ => trivial))
       (case aO => exact (ro_ HO_209001))
       (case aS => exact (below_size (hb4_ HB GE201 GE202 GE204 GE208)))
       (case aL => have := LMc48.out; omega)
       intro v219 w51 ho hb hg hat
       rw [← Ny218.out] at ho
       have n0_ := Aside0.mk (Kd.S_after (ok := (fun k_ => k_ ≠ gb208)) (by (with_reducible repeat (first | apply Kd.S_alloc | apply Kd.S_drewN | apply Kd.S_drew)); exact Kd.S_mono HO_205003.out (fun _ hk => ⟨hk.2, hk.1⟩)) hg hat)
       have n1_ := Aside0.mk (blk_grown (g := gb201) (o := .cells #[.bool a0_0, .bool a0_1, .int .i64 a0_2, .slice (some ad209) l0_3.length c0_3] 24 (0, 0)) (bk_ BK201) hg (Kd.R_ne HO_209001.out BK201.out (by decide)))
       have n2_ := Aside0.mk (blk_grown (g := gb202) (o := .cells #[.bool false, .bool false, .int .i64 0, .slice none 0 0] 24 (0, 0)) (bk_ BK202) hg (Kd.R_ne HO_209001.out BK202.out (by decide)))
       have n3_ := Aside0.mk (blk_grown (g := gb204) (o := .cells #[.bool a0_0, .bool a0_1, .int .i64 t203, u205003] 24 (0, 0)) (bk_ BK204) hg (Kd.R_ne HO_209001.out BK204.out (by decide)))
       have n4_ := Aside0.mk (blk_grown (g := gb208) (o := .cells #[.string ((⟨#[122]⟩ : ByteArray) ++ (strOfNums y205)), u209001, .int .i64 t210, .int .i64 t212] 28 (0, 0)) (bk_ BK208) hg (Kd.R_ne HO_209001.out BK208.out (by decide)))
       have n5_ := Aside0.mk hb; have n6_ := Aside0.mk ho; clear HO_205003; clear BK201; clear BK202; clear BK204; clear BK208; clear HB; clear HO_209001; have HO_205003 := n0_; have BK201 := n1_; have BK202 := n2_; have BK204 := n3_; have BK208 := n4_; have HB := n5_; have HO220 := n6_; clear n0_ n1_ n2_ n3_ n4_ n5_ n6_
       clear ho hb hg hat; obtain ⟨Ao52, co52, eo52⟩ := Kd.R_slice HO220.out
       (first | subst eo52 | (injection eo52 with f1_ f2_ f3_; have f4_ := f1_.symm; have f5_ := f3_.symm; clear f1_ f2_ f3_; subst f4_; subst f5_))
       refine hK.out _ _ ⟨cl_ BK208 0, cl_ BK208 1, cl_ BK208 2, cl_ BK208 3, cl_ BK201 0, cl_ BK201 1, cl_ BK201 2, cl_ BK201 3, (hc_ HB hw215_0), (hc_ HB hw215_1), (hc_ HB hw215_2), (hc_ HB hw215_3), (hc_ HB hw216_0), (hc_ HB hw216_1)⟩ (fun hHeld => ?_)
       clear hK K
       refine norm_ pv_ ?_
       refine pure_ (i := 18) (N := some 84) (v := ?_) (a' := ?_) (mk 20 524287) rfl rfl (an_ HT_) nh_ (Or.inl ⟨ry_, ?_⟩) ?_ ?_
       rotate_left; (intro w'; go_simp; with_reducible rfl)
       rotate_left; (exact pu_)
       refine last_ (i := 19) (N := none) (mk 20 1048575) rfl rfl (on_ HT_) de_ (fun K hK => ?_)
       have hs53 : w51.cell? ⟨gb208, 1, none⟩ = some (u209001) := (blk_cell BK208.out 1).trans rfl; have hfs53 := blk_frozen BK208.out 1; have hns53_0 := NB201_208.out; have hns53_1 := NB202_208.out; have hns53_2 := NB204_208.out; have hms53_0 := NB208_201.out; have hms53_1 := NB208_202.out; have hms53_2 := NB208_204.out
       refine skip_ (w1 := ?_) (by rfl) rfl ?_ ?_
       rotate_left
       ·
        go_simp
        rfl
       refine hK.out _ _ ?_
       clear hK K
       refine done_ (done_of HT_.out (by kernel_rfl)) ?_
       try go_wp2
       go_roundg kj32
       case measure => have := HK1.out; have := HK2.out; have := HJ32.out; omega
       case rel => exact ⟨(wrap64 (x6_2 + 1)), (y218), (.slice Ao52 y218.length co52), rf_, H', ⟨ho3_ HK1 HK2 HJ32⟩, ⟨by (with_reducible repeat (first | apply Kd.S_alloc | apply Kd.S_drewN | apply Kd.S_drew)); exact Kd.S_mono (Kd.S_far (p := ⟨gb208, 1, none⟩) (Kd.S_mono HO_205003.out (fun k_ hk => (⟨hk, hk.1⟩ : _ ∧ k_ ≠ gb208))) (fun _ hk => hk.2) (.slice Ao52 y218.length co52)) (fun _ hk => ⟨hk.1.2, hk.1.1⟩)⟩, ⟨rf1_ HO220 BK208⟩, ⟨bf1_ BK201 NB201_208⟩, ⟨bf1_ BK202 NB202_208⟩, ⟨bf1_ BK204 NB204_208⟩, ⟨bq0_ BK208⟩, ⟨hb4_ HB GE201 GE202 GE204 GE208⟩⟩

end Go.Proofs.Ytgfhjamaabaleaa.Rw
