/- RwPTax. -/
import Derived.Test.YtmiamdnhofjifaaVRwA
section
/- Functions of the program as Lean functions, each with its contract: out of what the kit's printer wrote for this seat. -/
namespace Go.Proofs.Ytmiamdnhofjifaa.Rw
open Go.RowKit Go.Proofs.YtmiamdnhofjifaaW.PrintWords Go.Proofs.YtmiamdnhofjifaaW.PrintLast Go.Proofs.YtmiamdnhofjifaaW.PrintMore
attribute [local go_sem] max2_int min2_int max_two min_two max_three min_three max_four min_four   -- for this text's walks alone
set_option linter.unusedVariables false
set_option linter.unusedSimpArgs false
attribute [local go_sem high] leqS gtrS

/-! ### haberdashplay_Tax: function 7 -/
mutual
def haberdashplay_Tax.l0 : Nat → Int → Bool → Bool → Int → List (S51) → Bool → Bool → Int → List (S51) → Option (Bool × Bool × Int × (List (S51)))
 | 0, _, _, _, _, _, _, _, _, _ => none
 | k + 1, x4, x257000, x257001, x257002, x257003, x260000, x260001, x260002, x260003 => if x4 < 3 then ((some (([(48 + ((x4) % 256)) % 256] : List Int) : List Int)).bind fun y260 => (if 1 + (strOfNums y260).size ≤ 9223372036854775807 then (if x4 < (x257003.length : Int) then (if 0 ≤ x4 then ((haberdashplay_Mod64.f ((rd_T51 x257003 x4).f2) 3000).bind fun t265 => ((haberdashplay_Mod64.f ((rd_T51 x257003 x4).f3) 3000).bind fun t267 => (haberdashplay_Tax.l1 k x4 0 x257000 x257001 x257002 x257003 x260000 x260001 x260002 x260003 ((⟨#[122]⟩ : ByteArray) ++ (strOfNums y260)) ([] : List (S56)) t265 t267))) else (none)) else (if x260003.length < 2513169434916 then (haberdashplay_Tax.l0 k (wrap64 (x4 + 1)) x257000 x257001 x257002 x257003 x260000 x260001 x260002 (x260003 ++ [(⟨(⟨#[122]⟩ : ByteArray) ++ (strOfNums y260), ([] : List (S56)), wrap64 (1000 * x4), wrap64 (500 * x4)⟩ : S51)])) else (none))) else (none))) else (some (x260000, x260001, x260002, x260003))
def haberdashplay_Tax.l1 : Nat → Int → Int → Bool → Bool → Int → List (S51) → Bool → Bool → Int → List (S51) → ByteArray → List (S56) → Int → Int → Option (Bool × Bool × Int × (List (S51)))
 | 0, _, _, _, _, _, _, _, _, _, _, _, _, _, _ => none
 | k + 1, x4, x6, x257000, x257001, x257002, x257003, x260000, x260001, x260002, x260003, x264000, x264001, x264002, x264003 => if x6 < 3 then (if 0 ≤ x4 then (if x4 < (x257003.length : Int) then (haberdashplay_Tax.j2 k x4 x6 (decide (x6 < (((rd_T51 x257003 x4).f1).length : Int))) x257000 x257001 x257002 x257003 x260000 x260001 x260002 x260003 x264000 x264001 x264002 x264003) else (none)) else (none)) else (haberdashplay_Tax.j2 k x4 x6 false x257000 x257001 x257002 x257003 x260000 x260001 x260002 x260003 x264000 x264001 x264002 x264003)
def haberdashplay_Tax.j2 : Nat → Int → Int → Bool → Bool → Bool → Int → List (S51) → Bool → Bool → Int → List (S51) → ByteArray → List (S56) → Int → Int → Option (Bool × Bool × Int × (List (S51)))
 | 0, _, _, _, _, _, _, _, _, _, _, _, _, _, _, _ => none
 | k + 1, x4, x6, x63, x257000, x257001, x257002, x257003, x260000, x260001, x260002, x260003, x264000, x264001, x264002, x264003 => if x63 = true then ((haberdashplay_Category.f x6).bind fun t269 => (if 0 ≤ x4 then (if x4 < (x257003.length : Int) then (if 0 ≤ x6 then (if x6 < (((rd_T51 x257003 x4).f1).length : Int) then ((haberdashplay_Mod64.f ((rd_T56 ((rd_T51 x257003 x4).f1) x6).f1) 3000).bind fun t272 => (if x264001.length < 5864062014805 then (haberdashplay_Tax.l1 k x4 (wrap64 (x6 + 1)) x257000 x257001 x257002 x257003 x260000 x260001 x260002 x260003 x264000 (x264001 ++ [(⟨t269, t272⟩ : S56)]) x264002 x264003) else (none))) else (none)) else (none)) else (none)) else (none))) else (if x260003.length < 2513169434916 then (haberdashplay_Tax.l0 k (wrap64 (x4 + 1)) x257000 x257001 x257002 x257003 x260000 x260001 x260002 (x260003 ++ [(⟨x264000, x264001, x264002, x264003⟩ : S51)])) else (none))
end
def haberdashplay_Tax.f (k : Nat) (a0_0 : Bool) (a0_1 : Bool) (a0_2 : Int) (l0_3 : List (S51)) : Option (Bool × Bool × Int × (List (S51))) := (haberdashplay_Mod.f a0_2 3).bind fun t258 => (haberdashplay_Tax.l0 k 0 a0_0 a0_1 a0_2 l0_3 a0_0 a0_1 t258 ([] : List (S51)))
def haberdashplay_Tax.T1 : Bool × List (List Nat × List Nat) := (true, [([], []), ([0], [0]), ([], []), ([2], [2]), ([], []), ([4], [4]), ([5], [5]), ([1, 3, 6], [1, 3, 6]), ([], []), ([8, 7, 6, 0, 1, 2, 3, 4, 5, 6, 7, 8], [7, 8])])
def haberdashplay_Tax.B1 : List Nat := [0, 1, 0, 4, 0, 16, 48, 127, 0, 511]
theorem haberdashplay_Tax.tab1 : rtab .any (opsOf Try.f7 1) = haberdashplay_Tax.T1 := by kernel_rfl
theorem haberdashplay_Tax.bits1 : waitsOk haberdashplay_Tax.T1.2 haberdashplay_Tax.B1 = true := by kernel_rfl
def haberdashplay_Tax.T7 : Bool × List (List Nat × List Nat) := (true, [([], []), ([0], [0]), ([], []), ([1, 2], [1, 2]), ([3], [3]), ([4], [4]), ([5], [5]), ([], []), ([7], [7]), ([], []), ([8, 9], [8, 9]), ([10], [10]), ([11], [11]), ([12, 6], [12]), ([0, 1, 2, 3, 4, 5, 6], []), ([14, 6, 13, 0, 1, 2, 3, 4, 5, 6], [6, 14]), ([0, 1, 2, 3, 4, 5, 6, 7, 8, 9, 10, 11, 12, 13, 14, 15], []), ([16, 13, 15, 0, 1, 2, 3, 4, 5, 6, 7, 8, 9, 10, 11, 12, 13, 14, 15], [13, 16])])
def haberdashplay_Tax.B7 : List Nat := [0, 1, 0, 7, 15, 31, 63, 0, 128, 0, 896, 1920, 3968, 8191, 127, 32767, 65535, 131071]
theorem haberdashplay_Tax.tab7 : rtab .any (opsOf Try.f7 7) = haberdashplay_Tax.T7 := by kernel_rfl
theorem haberdashplay_Tax.bits7 : waitsOk haberdashplay_Tax.T7.2 haberdashplay_Tax.B7 = true := by kernel_rfl
def haberdashplay_Tax.T11 : Bool × List (List Nat × List Nat) := (true, [([], []), ([0], [0]), ([], []), ([2], [2]), ([], []), ([4], [4]), ([], []), ([5, 6], [5, 6]), ([7], [7]), ([8], [8]), ([], []), ([9, 10], [9, 10]), ([11], [11]), ([12], [12]), ([13, 3], [13]), ([3, 14], [3, 14]), ([15], [15]), ([1, 16, 14], [1, 16]), ([0, 1, 2, 3, 4, 5, 6, 7, 8, 9, 10, 11, 12, 13, 14, 15, 16, 17], []), ([18, 17, 17, 0, 1, 2, 3, 4, 5, 6, 7, 8, 9, 10, 11, 12, 13, 14, 15, 16, 17], [17, 18])])
def haberdashplay_Tax.B11 : List Nat := [0, 1, 0, 4, 0, 16, 0, 112, 240, 496, 0, 2032, 4080, 8176, 16380, 32764, 65532, 131071, 262143, 524287]
theorem haberdashplay_Tax.tab11 : rtab .any (opsOf Try.f7 11) = haberdashplay_Tax.T11 := by kernel_rfl
theorem haberdashplay_Tax.bits11 : waitsOk haberdashplay_Tax.T11.2 haberdashplay_Tax.B11 = true := by kernel_rfl
set_option maxHeartbeats 8000000 in
set_option maxRecDepth 100000 in
theorem haberdashplay_Tax.calls (k : Nat) (a0_0 : Bool) (a0_1 : Bool) (a0_2 : Int) (A0_3 : Option Addr) (c0_3 : Nat) (l0_3 : List (S51)) (r1 : Bool) (r2 : Bool) (r3 : Int) (r4 : List (S51)) (w : World) (hr0_3 : Kd.C k51 w A0_3 l0_3.length l0_3) (hc0_3 : l0_3.length ≤ c0_3) (h : haberdashplay_Tax.f k a0_0 a0_1 a0_2 l0_3 = some (r1, r2, r3, r4)) :
 Calls Try.prog 7 #[.agg #[.bool a0_0, .bool a0_1, .int .i64 a0_2, .slice A0_3 l0_3.length c0_3]] w fun e w' => ∃ v3_ : Value, e = .returned (.agg #[.bool r1, .bool r2, .int .i64 r3, v3_]) ∧ Kd.S k51 51 w' w.heap.size (fun _ => True) v3_ r4 ∧ Below w.heap.size w w' := by
 have hu24 := Try.underlying24
 have hu51 := Try.underlying51
 have hu56 := Try.underlying56
 have HR0_3 := Aside0.mk hr0_3
 have HC0_3 := Aside0.mk hc0_3
 clear hr0_3 hc0_3
 have HB := Aside0.mk (Below.refl w.heap.size w)
 have H : ((haberdashplay_Mod.f a0_2 3).bind fun t258 => (haberdashplay_Tax.l0 k 0 a0_0 a0_1 a0_2 l0_3 a0_0 a0_1 t258 ([] : List (S51)))) = some (r1, r2, r3, r4) := h
 clear h
 replace H := Option.bind_eq_some_iff.mp H
 obtain ⟨t258, A20, H⟩ := H
 replace H : (haberdashplay_Tax.l0 k 0 a0_0 a0_1 a0_2 l0_3 a0_0 a0_1 t258 ([] : List (S51))) = some (r1, r2, r3, r4) := H
 have A2 := Aside0.mk A20
 clear A20
 have H' := Aside0.mk H
 clear H
 go_enter Try.func7, Try.ntmps7
 try go_wp2_with (first | ((with_reducible refine gate_dst (N := 1) rfl ?_); (try (refine gate_guard (by rfl) ?_; dsimp only)); refine box_event rf_ (N := 1) rf_ (cs := #[.bool a0_0, .bool a0_1, .int .i64 a0_2, .slice A0_3 l0_3.length c0_3]) (t := 24) lr_ ?_; intro gb256 hg w3 hbox hb; have BK256 := Aside0.mk hbox; have GE256 := Aside0.mk (ge_ HB hg (hb0_ HB)); replace HB := Aside0.mk (below_step (hb0_ HB) hb); clear hb hbox hg) | ((with_reducible refine gate_dst (N := 2) rfl ?_); (try (refine gate_guard (by rfl) ?_; dsimp only)); refine box_event rf_ (N := 2) rf_ (cs := #[.bool false, .bool false, .int .i64 0, .slice none 0 0]) (t := 24) lr_ ?_; intro gb257 hg w4 hbox hb; have BK257 := Aside0.mk hbox; have GE257 := Aside0.mk (ge_ HB hg (hb1_ HB GE256)); replace HB := Aside0.mk (below_step (hb1_ HB GE256) hb); have NB256_257 := Aside0.mk (nl_ BK256 hg); have NB257_256 := Aside0.mk (ng_ BK256 hg); replace BK256 := Aside0.mk (bb_ BK256 hb); clear hb hbox hg))
 replace BK256 := Aside0.mk (blk_drew BK256.out)
 replace BK257 := Aside0.mk (blk_drew BK257.out)
 replace HB := Aside0.mk (below_drew1 HB.out)
 refine start_ (n := 10) (S := fun w' => w'.cell? ⟨gb256, 0, none⟩ = some (.bool a0_0) ∧ w'.cell? ⟨gb256, 1, none⟩ = some (.bool a0_1) ∧ w'.cell? ⟨gb256, 2, none⟩ = some (.int .i64 a0_2) ∧ w'.cell? ⟨gb256, 3, none⟩ = some (.slice A0_3 l0_3.length c0_3)) (ds := []) (mk 10 0) (by kernel_rfl) rfl rfl ⟨cl_ BK256 0, cl_ BK256 1, cl_ BK256 2, cl_ BK256 3⟩ (fun hHeld => ?_); refine with_tabW haberdashplay_Tax.tab1 haberdashplay_Tax.bits1 (fun HT_ HW_ => ?_)
 generalize w4.drew = w5 at BK256 BK257 HB hHeld ⊢
 refine ahead_ [(0, 7), (2, 9), (4, 11)] ?_
 iterate 3 (refine pB_ HT_ ?_)
 refine aheadE_ (mk 10 21) kr_ ?_
 refine ahead_ [(1, 8), (3, 10), (5, 12)] ?_
 iterate 3 (refine tA_ (v := ?_) (a' := ?_) rfl rfl HT_.out HW_.out (by kernel_rfl) (fun _ _ _ h => h) (Or.inl ⟨by rfl, ?_⟩) hHeld ?_ ?_; rotate_left; (rintro w' ⟨s0, s1, s2, s3⟩; go_simp; with_reducible rfl); rotate_left; (exact pu_))
 refine aheadE_ (mk 10 63) kr_ ?_
 refine join_ (σ := Nat) 1 (mk 10 511) (fun s_ => [(13, .int .i64 t258), (3, .pointer (some ⟨s_, 0, none⟩)), (14, .agg #[.bool a0_0, .bool a0_1, .int .i64 t258, .slice none 0 0])]) (fun s_ w' => (w'.cell? ⟨gb256, 0, none⟩ = some (.bool a0_0) ∧ w'.cell? ⟨gb256, 1, none⟩ = some (.bool a0_1) ∧ w'.cell? ⟨gb256, 2, none⟩ = some (.int .i64 a0_2) ∧ w'.cell? ⟨gb256, 3, none⟩ = some (.slice A0_3 l0_3.length c0_3)) ∧ (w'.heap[gb256]? = some (.cells #[.bool a0_0, .bool a0_1, .int .i64 a0_2, .slice A0_3 l0_3.length c0_3] 24 (0, 0))) ∧ (w'.heap[gb257]? = some (.cells #[.bool false, .bool false, .int .i64 0, .slice none 0 0] 24 (0, 0))) ∧ (w'.heap[s_]? = some (.cells #[.bool false, .bool false, .int .i64 0, .slice none 0 0] 24 (0, 0))) ∧ (w.heap.size ≤ s_) ∧ (w.heap.size ≤ s_) ∧ (gb256 ≠ s_) ∧ (s_ ≠ gb256) ∧ (gb257 ≠ s_) ∧ (s_ ≠ gb257) ∧ (Below w.heap.size w w')) ?_ ?_
 rotate_left
 ·
  intro hCont
  refine two_ (i := 6) (j := 8) (Ni := some 13) (Nj := some 3) (mk 10 127) (mk 10 319) rfl rfl rfl rfl (two_of HT_.out (by kernel_rfl)) (by decide) (by decide) (fun K hK => ?_) (fun K hK => ?_)
  ·
   skip
   refine goes_ Try.func19 (by kernel_rfl) rfl #[.int .i64 a0_2, .int .i64 3] (by rfl) rfl rfl am_ ?_
   with_reducible refine (haberdashplay_Mod.calls a0_2 3 t258 _ A2.out).mono ?_
   rintro e w' ⟨rfl, ⟨nd, rfl⟩⟩
   refine ⟨_, rfl, ?_⟩
   refine hK.out _ _ ⟨cl_ BK256 0, cl_ BK256 1, cl_ BK256 2, cl_ BK256 3⟩ (fun hHeld => ?_)
   clear hK K
   refine norm_ pv_ ?_
   refine pure_ (i := 7) (N := some 14) (v := ?_) (a' := ?_) (mk 10 255) rfl rfl (an_ HT_) nh_ (Or.inl ⟨ry_, ?_⟩) ?_ ?_
   rotate_left; (intro w'; go_simp; with_reducible rfl)
   rotate_left; (exact pu_)
   refine one_ (i := 8) (N := some 3) (mk 10 511) rfl rfl (on_ HT_) de_ (fun K hK => ?_)
   refine box_step ?hg (N := 3) ?hd (cs := #[.bool false, .bool false, .int .i64 0, .slice none 0 0]) (t := 24) ?hr ?_; (case hd => rfl); (case hg => rfl); (case hr => first | (go_simp; done) | (go_simp; rfl))
   intro gb259 hg w6 hbox hb
   have BK259 := Aside0.mk hbox; have GW259 := Aside0.mk (ge_ HB hg (hb2_ HB GE256 GE257)); have GE259 := Aside0.mk (ge_ HB hg (hb2_ HB GE256 GE257)); replace HB := Aside0.mk (below_step (hb2_ HB GE256 GE257) hb); have NB256_259 := Aside0.mk (nl_ BK256 hg); have NB259_256 := Aside0.mk (ng_ BK256 hg)
   replace BK256 := Aside0.mk (bb_ BK256 hb); have NB257_259 := Aside0.mk (nl_ BK257 hg); have NB259_257 := Aside0.mk (ng_ BK257 hg); replace BK257 := Aside0.mk (bb_ BK257 hb); clear hb hbox hg
   refine hK.out _ _ ⟨cl_ BK256 0, cl_ BK256 1, cl_ BK256 2, cl_ BK256 3⟩ (fun hHeld => ?_)
   clear hK K
   refine norm_ pv_ ?_
   exact norm_ (by simp only [putAll, Act.put, List.setIfInBounds_toArray, List.set_cons_zero, List.set_cons_succ]) (hCont (gb259) _ ⟨hHeld, (bk_ BK256), (bk_ BK257), (bk_ BK259), GW259.out, GE259.out, NB256_259.out, NB259_256.out, NB257_259.out, NB259_257.out, (hb3_ HB GE256 GE257 GE259)⟩)
  ·
   skip
   refine box_step ?hg (N := 3) ?hd (cs := #[.bool false, .bool false, .int .i64 0, .slice none 0 0]) (t := 24) ?hr ?_; (case hd => rfl); (case hg => rfl); (case hr => first | (go_simp; done) | (go_simp; rfl))
   intro gb259 hg w6 hbox hb
   have BK259 := Aside0.mk hbox; have GW259 := Aside0.mk (ge_ HB hg (hb2_ HB GE256 GE257)); have GE259 := Aside0.mk (ge_ HB hg (hb2_ HB GE256 GE257)); replace HB := Aside0.mk (below_step (hb2_ HB GE256 GE257) hb); have NB256_259 := Aside0.mk (nl_ BK256 hg); have NB259_256 := Aside0.mk (ng_ BK256 hg)
   replace BK256 := Aside0.mk (bb_ BK256 hb); have NB257_259 := Aside0.mk (nl_ BK257 hg); have NB259_257 := Aside0.mk (ng_ BK257 hg); replace BK257 := Aside0.mk (bb_ BK257 hb); clear hb hbox hg
   refine hK.out _ _ ⟨cl_ BK256 0, cl_ BK256 1, cl_ BK256 2, cl_ BK256 3⟩ (fun hHeld => ?_)
   clear hK K
   refine norm_ pv_ ?_
   refine one_ (i := 6) (N := some 13) (mk 10 383) rfl rfl (on_ HT_) de_ (fun K hK => ?_)
   refine goes_ Try.func19 (by kernel_rfl) rfl #[.int .i64 a0_2, .int .i64 3] (by rfl) rfl rfl am_ ?_
   with_reducible refine (haberdashplay_Mod.calls a0_2 3 t258 _ A2.out).mono ?_
   rintro e w' ⟨rfl, ⟨nd, rfl⟩⟩
   refine ⟨_, rfl, ?_⟩
   refine hK.out _ _ ⟨cl_ BK256 0, cl_ BK256 1, cl_ BK256 2, cl_ BK256 3⟩ (fun hHeld => ?_)
   clear hK K
   refine norm_ pv_ ?_
   refine pure_ (i := 7) (N := some 14) (v := ?_) (a' := ?_) (mk 10 511) rfl rfl (an_ HT_) nh_ (Or.inl ⟨ry_, ?_⟩) ?_ ?_
   rotate_left; (intro w'; go_simp; with_reducible rfl)
   rotate_left; (exact pu_)
   exact norm_ (by simp only [putAll, Act.put, List.setIfInBounds_toArray, List.set_cons_zero, List.set_cons_succ]) (hCont (gb259) _ ⟨hHeld, (bk_ BK256), (bk_ BK257), (bk_ BK259), GW259.out, GE259.out, NB256_259.out, NB259_256.out, NB257_259.out, NB259_257.out, (hb3_ HB GE256 GE257 GE259)⟩)
 rintro gb259 w7 ⟨hS_, h0_, h1_, h2_, h3_, h4_, h5_, h6_, h7_, h8_, h9_⟩
 have n0_ : Aside0 (w7.heap[gb256]? = some (.cells #[.bool a0_0, .bool a0_1, .int .i64 a0_2, .slice A0_3 l0_3.length c0_3] 24 (0, 0))) := ⟨h0_⟩
 have n1_ : Aside0 (w7.heap[gb257]? = some (.cells #[.bool false, .bool false, .int .i64 0, .slice none 0 0] 24 (0, 0))) := ⟨h1_⟩
 have n2_ : Aside0 (w7.heap[gb259]? = some (.cells #[.bool false, .bool false, .int .i64 0, .slice none 0 0] 24 (0, 0))) := ⟨h2_⟩
 have n3_ : Aside0 (w.heap.size ≤ gb259) := ⟨h3_⟩
 have n4_ : Aside0 (w.heap.size ≤ gb259) := ⟨h4_⟩
 have n5_ : Aside0 (gb256 ≠ gb259) := ⟨h5_⟩
 have n6_ : Aside0 (gb259 ≠ gb256) := ⟨h6_⟩
 have n7_ : Aside0 (gb257 ≠ gb259) := ⟨h7_⟩
 have n8_ : Aside0 (gb259 ≠ gb257) := ⟨h8_⟩
 have n9_ : Aside0 (Below w.heap.size w w7) := ⟨h9_⟩
 clear BK256
 clear BK257
 clear HB
 clear h0_ h1_ h2_ h3_ h4_ h5_ h6_ h7_ h8_ h9_
 have BK256 := n0_
 have BK257 := n1_
 have BK259 := n2_
 have GW259 := n3_
 have GE259 := n4_
 have NB256_259 := n5_
 have NB259_256 := n6_
 have NB257_259 := n7_
 have NB259_257 := n8_
 have HB := n9_
 clear n0_ n1_ n2_ n3_ n4_ n5_ n6_ n7_ n8_ n9_
 have hHeld : w7.cell? ⟨gb256, 0, none⟩ = some (.bool a0_0) ∧ w7.cell? ⟨gb256, 1, none⟩ = some (.bool a0_1) ∧ w7.cell? ⟨gb256, 2, none⟩ = some (.int .i64 a0_2) ∧ w7.cell? ⟨gb256, 3, none⟩ = some (.slice A0_3 l0_3.length c0_3) := hS_
 refine norm_ (a' := ?_) ?_ ?_
 rotate_left
 ·
  simp only [putAll, Act.put, List.setIfInBounds_toArray, List.set_cons_zero, List.set_cons_succ]
  rfl
 refine one_ (i := 9) (N := none) (mk 10 1023) rfl rfl (on_ HT_) de_ (fun K hK => ?_)
 have hs8 : w7.cell? ⟨gb259, 0, none⟩ = some (.bool false) := (blk_cell BK259.out 0).trans rfl
 have hfs8 := blk_frozen BK259.out 0
 have hns8_0 := NB256_259.out
 have hns8_1 := NB257_259.out
 have hms8_0 := NB259_256.out
 have hms8_1 := NB259_257.out
 have hs9 : w7.cell? ⟨gb259, 1, none⟩ = some (.bool false) := (blk_cell BK259.out 1).trans rfl
 have hfs9 := blk_frozen BK259.out 1
 have hns9_0 := NB256_259.out
 have hns9_1 := NB257_259.out
 have hms9_0 := NB259_256.out
 have hms9_1 := NB259_257.out
 have hs10 : w7.cell? ⟨gb259, 2, none⟩ = some (.int .i64 0) := (blk_cell BK259.out 2).trans rfl
 have hfs10 := blk_frozen BK259.out 2
 have hns10_0 := NB256_259.out
 have hns10_1 := NB257_259.out
 have hms10_0 := NB259_256.out
 have hms10_1 := NB259_257.out
 have hs11 : w7.cell? ⟨gb259, 3, none⟩ = some (.slice none 0 0) := (blk_cell BK259.out 3).trans rfl
 have hfs11 := blk_frozen BK259.out 3
 have hns11_0 := NB256_259.out
 have hns11_1 := NB257_259.out
 have hms11_0 := NB259_256.out
 have hms11_1 := NB259_257.out
 refine skip_ (w1 := ?_) (by rfl) rfl ?_ ?_
 rotate_left
 ·
  go_simp
  rfl
 refine hK.out _ _ ⟨(cf1_ NB256_259 (cf1_ NB256_259 (cf1_ NB256_259 (cf1_ NB256_259 (hHeld.1))))), (cf1_ NB256_259 (cf1_ NB256_259 (cf1_ NB256_259 (cf1_ NB256_259 (hHeld.2.1))))), (cf1_ NB256_259 (cf1_ NB256_259 (cf1_ NB256_259 (cf1_ NB256_259 (hHeld.2.2.1))))), (cf1_ NB256_259 (cf1_ NB256_259 (cf1_ NB256_259 (cf1_ NB256_259 (hHeld.2.2.2)))))⟩ (fun hHeld => ?_)
 clear hK K
 refine done_ (done_of HT_.out (by kernel_rfl)) ?_
 try go_wp2
 go_loopg [4] k (fun kq v4 w' => ∃ (x4_1 : Int) (x260003_1 : List (S51)) (u260003 : Value), v4 = .int .i64 x4_1 ∧ Aside0 (haberdashplay_Tax.l0 kq x4_1 a0_0 a0_1 a0_2 l0_3 a0_0 a0_1 t258 x260003_1 = some (r1, r2, r3, r4)) ∧ Aside0 (kq ≤ k) ∧ Aside0 (Kd.S k51 51 w' w.heap.size (fun _ => True) u260003 x260003_1) ∧ Aside0 (w'.heap[gb256]? = some (.cells #[.bool a0_0, .bool a0_1, .int .i64 a0_2, (.slice A0_3 l0_3.length c0_3)] 24 (0, 0))) ∧ Aside0 (w'.heap[gb257]? = some (.cells #[.bool false, .bool false, .int .i64 0, (.slice none 0 0)] 24 (0, 0))) ∧ Aside0 (w'.heap[gb259]? = some (.cells #[.bool a0_0, .bool a0_1, .int .i64 t258, u260003] 24 (0, 0))) ∧ Aside0 (Below w.heap.size w w'))
 case atStart => exact ⟨(0), (([] : List (S51))), (.slice none 0 0), rf_, H', ⟨Nat.le_refl _⟩, ⟨by first | exact Kd.S_nil _ _ _ _ _ | exact Kd.N_nil _ _ _ _ _ | exact Kd.V_nil _ _ _ _ _ | exact Kd.Q_nil _ _ _ _ _ | exact Kd.R_nil _ _ _ _ _⟩, ⟨bf4_ BK256 NB256_259 NB256_259 NB256_259 NB256_259⟩, ⟨bf4_ BK257 NB257_259 NB257_259 NB257_259 NB257_259⟩, ⟨bq0_ BK259⟩, ⟨hb3_ HB GE256 GE257 GE259⟩⟩
 case round =>
  clear H'; (try clear c1); (try clear p2); (try clear c7); obtain ⟨x4_1, x260003_1, u260003, rfl, HA, HK1, HO_260003, BK256, BK257, BK259, HB⟩ := hrel
  cases gk with
  | zero => exact absurd HA.out (by simp [haberdashplay_Tax.l0])
  | succ k1 =>
   have H := HA.out; clear HA
   simp only [haberdashplay_Tax.l0] at H
   by_cases c12 : x4_1 < 3
   rotate_left
   ·
    rw [if_neg c12] at H; have c12b0 := decide_eq_false c12; clear c12
    simp only [Option.some.injEq, Prod.mk.injEq] at H
    obtain ⟨rfl, rfl, rfl, rfl⟩ := H; have hnb83 := NB259_256.out; have hnc83 := NB256_259.out; have hnb84 := NB259_257.out; have hnc84 := NB257_259.out; obtain ⟨hcz85_0, hcz85_1, hcz85_2, hcz85_3⟩ := cz4_ BK259; obtain ⟨hfz85_0, hfz85_1, hfz85_2, hfz85_3⟩ := fz4_ BK259; have hnb86 := NB257_256.out; have hnc86 := NB256_257.out
    obtain ⟨hcz87_0, hcz87_1, hcz87_2, hcz87_3⟩ := cz4_ BK257; obtain ⟨hfz87_0, hfz87_1, hfz87_2, hfz87_3⟩ := fz4_ BK257; obtain ⟨Ao88, co88, eo88⟩ := Kd.S_slice HO_260003.out; subst eo88
    go_wp2
    refine bodyPost_ret (results_cell_row rfl _ _ gb257 24 #[.bool a0_0, .bool a0_1, .int .i64 t258, .slice Ao88 x260003_1.length co88] (0, 0) _ rfl (bq0_ BK257) Try.underlying24 rfl (by kernel_rfl)) rfl ?_
    exact ⟨_, er_, by (with_reducible repeat (first | apply Kd.S_alloc | apply Kd.S_drewN | apply Kd.S_drew)); exact Kd.S_mono (Kd.S_far (p := ⟨gb257, 3, none⟩) (Kd.S_far (p := ⟨gb257, 2, none⟩) (Kd.S_far (p := ⟨gb257, 1, none⟩) (Kd.S_far (p := ⟨gb257, 0, none⟩) (Kd.S_types HO_260003.out BK257.out (by decide)) (fun _ hk => hk.2) (.bool a0_0)) (fun _ hk => hk.2) (.bool a0_1)) (fun _ hk => hk.2) (.int .i64 t258)) (fun _ hk => hk.2) (.slice Ao88 x260003_1.length co88)) (fun _ hk => trivial), hb3_ HB GE256 GE257 GE259⟩
   rw [if_pos c12] at H; have c12b0 := decide_eq_true c12; clear c12; obtain ⟨y260, hy260⟩ : ∃ y_ : List Int, y_ = (([(48 + ((x4_1) % 256)) % 256] : List Int)) := ⟨_, rfl⟩
   replace H : (if 1 + (strOfNums y260).size ≤ 9223372036854775807 then (if x4_1 < (l0_3.length : Int) then (if 0 ≤ x4_1 then ((haberdashplay_Mod64.f ((rd_T51 l0_3 x4_1).f2) 3000).bind fun t265 => ((haberdashplay_Mod64.f ((rd_T51 l0_3 x4_1).f3) 3000).bind fun t267 => (haberdashplay_Tax.l1 k1 x4_1 0 a0_0 a0_1 a0_2 l0_3 a0_0 a0_1 t258 x260003_1 ((⟨#[122]⟩ : ByteArray) ++ (strOfNums y260)) ([] : List (S56)) t265 t267))) else (none)) else (if x260003_1.length < 2513169434916 then (haberdashplay_Tax.l0 k1 (wrap64 (x4_1 + 1)) a0_0 a0_1 a0_2 l0_3 a0_0 a0_1 t258 (x260003_1 ++ [(⟨(⟨#[122]⟩ : ByteArray) ++ (strOfNums y260), ([] : List (S56)), wrap64 (1000 * x4_1), wrap64 (500 * x4_1)⟩ : S51)])) else (none))) else (none)) = some (r1, r2, r3, r4) := hy_ hy260 H
   have Ny260 := Aside0.mk hy260; clear hy260; replace H := ip_ H; obtain ⟨c13, H⟩ := H; have c13b0 := eq_true c13; have c13b1 := decide_eq_true c13
   try have c13b2 : (9223372036854775807 < 1 + (strOfNums y260).size) = False := eq_false (Nat.not_lt.2 c13)
   by_cases c14 : x4_1 < (l0_3.length : Int)
   rotate_left
   ·
    rw [if_neg c14] at H; have c14b0 := decide_eq_false c14; clear c14; replace H := ip_ H; obtain ⟨c66, H⟩ := H; have LMc66 := Aside0.mk c66; clear c66; obtain ⟨y279, hy279⟩ : ∃ y_ : List (S51), y_ = (x260003_1 ++ [(⟨(⟨#[122]⟩ : ByteArray) ++ (strOfNums y260), ([] : List (S56)), wrap64 (1000 * x4_1), wrap64 (500 * x4_1)⟩ : S51)]) := ⟨_, rfl⟩
    replace H : (haberdashplay_Tax.l0 k1 (wrap64 (x4_1 + 1)) a0_0 a0_1 a0_2 l0_3 a0_0 a0_1 t258 y279) = some (r1, r2, r3, r4) := hy_ hy279 H; have Ny279 := Aside0.mk hy279; clear hy279; have H' := Aside0.mk H; clear H
    go_wp2_with (first | ((with_reducible refine gate_dst (N := 22) rfl ?_); (try (refine gate_guard (by rfl) ?_; dsimp only)); refine Kd.R_lit (Kd.int .u8) _ 5 rf_ (N := 22) rf_ (xs := ([(48 + ((x4_1) % 256)) % 256] : List Int)) (inner := [.int .u8 ((48 + ((x4_1) % 256)) % 256)]) (ok := fun _ => True) (okp := fun _ => True) lr_ ?hp (fun _ hk => hk) trivial (Below.refl _ _) (Nat.le_refl _) (by simp) ?_; (case hp => exact (Reps.one (show Kd.M (Kd.int .u8) _ _ _ ((48 + ((x4_1) % 256)) % 256) [.int .u8 ((48 + ((x4_1) % 256)) % 256)] from rfl) (Reps.none _ _))); intro v261 w67 ho68 hb hg_ hnew_; clear hg_ hnew_; (first | rw [← Ny260.out] at ho68 | (simp only [Int.reduceToNat] at ho68; rw [← Ny260.out] at ho68)); replace HO_260003 := Aside0.mk (Kd.S_below (so_ HO_260003) hb); have HO262 := Aside0.mk (Kd.R_lower ho68 (below_size (hb3_ HB GE256 GE257 GE259))); replace BK256 := Aside0.mk (bb_ BK256 hb); replace BK257 := Aside0.mk (bb_ BK257 hb); replace BK259 := Aside0.mk (bb_ BK259 hb); replace HB := Aside0.mk (below_step (hb3_ HB GE256 GE257 GE259) hb); clear hb ho68; have hcv69 := own_string (P := Try.prog) Try.underlying54 Try.underlying5 Try.underlying9 (Kd.own_of_R HO262.out)) | ((with_reducible refine gate_dst (N := 5) rfl ?_); (try (refine gate_guard (by rfl) ?_; dsimp only)); refine box_event rf_ (N := 5) rf_ (cs := #[.string (⟨#[]⟩ : ByteArray), .slice none 0 0, .int .i64 0, .int .i64 0]) (t := 51) lr_ ?_; intro gb263 hg w70 hbox hb; replace HO_260003 := Aside0.mk (Kd.S_below (Kd.S_elderB (so_ HO_260003) gb263 (Nat.le_of_eq hg.symm)) hb); replace HO262 := Aside0.mk (Kd.R_below (ro_ HO262) hb); have BK263 := Aside0.mk hbox; have GW263 := Aside0.mk (ge_ HB hg (hb3_ HB GE256 GE257 GE259)); have GE263 := Aside0.mk (ge_ HB hg (hb3_ HB GE256 GE257 GE259)); replace HB := Aside0.mk (below_step (hb3_ HB GE256 GE257 GE259) hb); have NB256_263 := Aside0.mk (nl_ BK256 hg); have NB263_256 := Aside0.mk (ng_ BK256 hg); replace BK256 := Aside0.mk (bb_ BK256 hb); have NB257_263 := Aside0.mk (nl_ BK257 hg); have NB263_257 := Aside0.mk (ng_ BK257 hg); replace BK257 := Aside0.mk (bb_ BK257 hb); have NB259_263 := Aside0.mk (nl_ BK259 hg); have NB263_259 := Aside0.mk (ng_ BK259 hg); replace BK259 := Aside0.mk (bb_ BK259 hb); clear hb hbox hg; have hnb71 := NB263_256.out; have hnc71 := NB256_263.out; have hnb72 := NB263_257.out; have hnc72 := NB257_263.out; have hnb73 := NB263_259.out; have hnc73 := NB259_263.out; obtain ⟨hcz74_0, hcz74_1, hcz74_2, hcz74_3⟩ := cz4_ BK263; obtain ⟨hfz74_0, hfz74_1, hfz74_2, hfz74_3⟩ := fz4_ BK263; have hnb75 := NB256_257.out; have hnc75 := NB257_256.out; have hnb76 := NB256_259.out; have hnc76 := NB259_256.out; obtain ⟨hcz77_0, hcz77_1, hcz77_2, hcz77_3⟩ := cz4_ BK256; obtain ⟨hfz77_0, hfz77_1, hfz77_2, hfz77_3⟩ := fz4_ BK256; have hnb78 := NB259_257.out; have hnc78 := NB257_259.out; obtain ⟨hcz79_0, hcz79_1, hcz79_2, hcz79_3⟩ := cz4_ BK259; obtain ⟨hfz79_0, hfz79_1, hfz79_2, hfz79_3⟩ := fz4_ BK259) | ((with_reducible refine gate_builtin (b := .append) (xs := #[.tmp 86, .tmp 88]) rfl ?_); (try (refine gate_guard (by rfl) ?_; dsimp only)); at_builtin; refine Kd.S_append k51 (w0 := w) w.heap.size rfl (.tmp 86) (.tmp 88) 22 51 (.agg #[(.string ⟨#[]⟩), (.slice none 0 0), (.int .i64 0), (.int .i64 0)]) 56 rfl Try.underlying22 info51 rfl (by decide) (by omega) u260003 x260003_1 (⟨(⟨#[122]⟩ : ByteArray) ++ (strOfNums y260), ([] : List (S56)), wrap64 (1000 * x4_1), wrap64 (500 * x4_1)⟩ : S51) [.string ((⟨#[122]⟩ : ByteArray) ++ (strOfNums y260)), .slice none 0 0, .int .i64 (wrap64 (1000 * x4_1)), .int .i64 (wrap64 (500 * x4_1))] (fun k_ => k_ ≠ gb263) (fun _ => False) rfl (by first | (go_simp; done) | (go_simp; rfl)) ?aP (fun k_ hk_ => hk_.elim) ?aF ?aO ?aB ?aS ?aL ?_; (case aP => exact k51_mkM _ _ _ (⟨(⟨#[122]⟩ : ByteArray) ++ (strOfNums y260), ([] : List (S56)), wrap64 (1000 * x4_1), wrap64 (500 * x4_1)⟩ : S51) (Kd.R_nil _ _ _ _ _)); (case aB => exact (hb4_ HB GE256 GE257 GE259 GE263)); (case aF => exact (fun k_ hk => Kd.freshB (g := gb263) (o := .cells #[.string ((⟨#[122]⟩ : ByteArray) ++ (strOfNums y260)), .slice none 0 0, .int .i64 (wrap64 (1000 * x4_1)), .int .i64 (wrap64 (500 * x4_1))] 51 (0, 0)) (bq0_ BK263) k_ hk)); (case aO => exact (by (with_reducible repeat (first | apply Kd.S_alloc | apply Kd.S_drewN | apply Kd.S_drew)); exact Kd.S_mono (Kd.S_far (p := ⟨gb263, 3, none⟩) (Kd.S_far (p := ⟨gb263, 2, none⟩) (Kd.S_far (p := ⟨gb263, 1, none⟩) (Kd.S_far (p := ⟨gb263, 0, none⟩) (Kd.S_mono HO_260003.out (fun k_ hk => (⟨hk, hk.2⟩ : _ ∧ k_ ≠ gb263))) (fun _ hk => hk.2) (.string ((⟨#[122]⟩ : ByteArray) ++ (strOfNums y260)))) (fun _ hk => hk.2) (.slice none 0 0)) (fun _ hk => hk.2) (.int .i64 (wrap64 (1000 * x4_1)))) (fun _ hk => hk.2) (.int .i64 (wrap64 (500 * x4_1)))) (fun k_ hk => ⟨hk.1.2, fun e_ => e_⟩))); (case aS => exact (below_size (hb4_ HB GE256 GE257 GE259 GE263))); (case aL => have := LMc66.out; omega); intro v280 w80 ho hb hg hat; rw [← Ny279.out] at ho; have n0_ := Aside0.mk (blk_grown (g := gb256) (o := .cells #[.bool a0_0, .bool a0_1, .int .i64 a0_2, .slice A0_3 l0_3.length c0_3] 24 (0, 0)) (bf4_ BK256 NB256_263 NB256_263 NB256_263 NB256_263) hg (Kd.S_ne HO_260003.out BK256.out (by decide))); have n1_ := Aside0.mk (blk_grown (g := gb257) (o := .cells #[.bool false, .bool false, .int .i64 0, .slice none 0 0] 24 (0, 0)) (bf4_ BK257 NB257_263 NB257_263 NB257_263 NB257_263) hg (Kd.S_ne HO_260003.out BK257.out (by decide))); have n2_ := Aside0.mk (blk_grown (g := gb259) (o := .cells #[.bool a0_0, .bool a0_1, .int .i64 t258, u260003] 24 (0, 0)) (bf4_ BK259 NB259_263 NB259_263 NB259_263 NB259_263) hg (Kd.S_ne HO_260003.out BK259.out (by decide))); have n3_ := Aside0.mk (Kd.R_over' (by (with_reducible repeat (first | apply Kd.R_alloc | apply Kd.R_drewN | apply Kd.R_drew)); exact (rf1_ HO262 BK263)) (Kd.S_typed (by (with_reducible repeat (first | apply Kd.S_alloc | apply Kd.S_drewN | apply Kd.S_drew)); exact (Kd.S_mono (Kd.S_far (p := ⟨gb263, 3, none⟩) (Kd.S_far (p := ⟨gb263, 2, none⟩) (Kd.S_far (p := ⟨gb263, 1, none⟩) (Kd.S_far (p := ⟨gb263, 0, none⟩) (Kd.S_mono HO_260003.out (fun k_ hk => (⟨hk, hk.2⟩ : _ ∧ k_ ≠ gb263))) (fun _ hk => hk.2) (.string ((⟨#[122]⟩ : ByteArray) ++ (strOfNums y260)))) (fun _ hk => hk.2) (.slice none 0 0)) (fun _ hk => hk.2) (.int .i64 (wrap64 (1000 * x4_1)))) (fun _ hk => hk.2) (.int .i64 (wrap64 (500 * x4_1)))) (fun _ h_ => h_.1)))) (by decide) hg); have n4_ := Aside0.mk (blk_grown (g := gb263) (o := .cells #[.string ((⟨#[122]⟩ : ByteArray) ++ (strOfNums y260)), .slice none 0 0, .int .i64 (wrap64 (1000 * x4_1)), .int .i64 (wrap64 (500 * x4_1))] 51 (0, 0)) (bq0_ BK263) hg (Kd.S_away HO_260003.out (fun _ hk => hk.2))); have n5_ := Aside0.mk hb; have n6_ := Aside0.mk ho; clear BK256; clear BK257; clear BK259; clear HO262; clear BK263; clear HB; clear HO_260003; have BK256 := n0_; have BK257 := n1_; have BK259 := n2_; have HO262 := n3_; have BK263 := n4_; have HB := n5_; have HO281 := n6_; clear n0_ n1_ n2_ n3_ n4_ n5_ n6_; clear ho hb hg hat; obtain ⟨Ao81, co81, eo81⟩ := Kd.S_slice HO281.out; subst eo81; obtain ⟨hcz82_0, hcz82_1, hcz82_2, hcz82_3⟩ := cz4_ BK259; obtain ⟨hfz82_0, hfz82_1, hfz82_2, hfz82_3⟩ := fz4_ BK259))
    go_roundg k1
    case measure => have := HK1.out; omega
    case rel => exact ⟨(wrap64 (x4_1 + 1)), (y279), (.slice Ao81 y279.length co81), rf_, H', ⟨ho_ HK1⟩, ⟨by (with_reducible repeat (first | apply Kd.S_alloc | apply Kd.S_drewN | apply Kd.S_drew)); exact Kd.S_mono (Kd.S_far (p := ⟨gb259, 3, none⟩) (Kd.S_types HO281.out BK259.out (by decide)) (fun _ hk => hk.2) (.slice Ao81 y279.length co81)) (fun _ hk => trivial)⟩, ⟨bf1_ BK256 NB256_259⟩, ⟨bf1_ BK257 NB257_259⟩, ⟨bq0_ BK259⟩, ⟨hb4_ HB GE256 GE257 GE259 GE263⟩⟩
   rw [if_pos c14] at H; have c14b0 := decide_eq_true c14; clear c14; replace H := ip_ H; obtain ⟨c15, H⟩ := H; have c15b0 := decide_eq_true c15; clear c15; replace H := Option.bind_eq_some_iff.mp H; obtain ⟨t265, A160, H⟩ := H
   replace H : ((haberdashplay_Mod64.f ((rd_T51 l0_3 x4_1).f3) 3000).bind fun t267 => (haberdashplay_Tax.l1 k1 x4_1 0 a0_0 a0_1 a0_2 l0_3 a0_0 a0_1 t258 x260003_1 ((⟨#[122]⟩ : ByteArray) ++ (strOfNums y260)) ([] : List (S56)) t265 t267)) = some (r1, r2, r3, r4) := H
   have A16 := Aside0.mk A160; clear A160; replace H := Option.bind_eq_some_iff.mp H; obtain ⟨t267, A170, H⟩ := H; replace H : (haberdashplay_Tax.l1 k1 x4_1 0 a0_0 a0_1 a0_2 l0_3 a0_0 a0_1 t258 x260003_1 ((⟨#[122]⟩ : ByteArray) ++ (strOfNums y260)) ([] : List (S56)) t265 t267) = some (r1, r2, r3, r4) := H
   have A17 := Aside0.mk A170; clear A170; have H' := Aside0.mk H; clear H
   try go_wp2_with (first | ((with_reducible refine gate_dst (N := 22) rfl ?_); (try (refine gate_guard (by rfl) ?_; dsimp only)); refine Kd.R_lit (Kd.int .u8) _ 5 rf_ (N := 22) rf_ (xs := ([(48 + ((x4_1) % 256)) % 256] : List Int)) (inner := [.int .u8 ((48 + ((x4_1) % 256)) % 256)]) (ok := fun _ => True) (okp := fun _ => True) lr_ ?hp (fun _ hk => hk) trivial (Below.refl _ _) (Nat.le_refl _) (by simp) ?_; (case hp => exact (Reps.one (show Kd.M (Kd.int .u8) _ _ _ ((48 + ((x4_1) % 256)) % 256) [.int .u8 ((48 + ((x4_1) % 256)) % 256)] from rfl) (Reps.none _ _))); intro v261 w18 ho19 hb hg_ hnew_; clear hg_ hnew_; (first | rw [← Ny260.out] at ho19 | (simp only [Int.reduceToNat] at ho19; rw [← Ny260.out] at ho19)); replace HO_260003 := Aside0.mk (Kd.S_below (so_ HO_260003) hb); have HO262 := Aside0.mk (Kd.R_lower ho19 (below_size (hb3_ HB GE256 GE257 GE259))); replace BK256 := Aside0.mk (bb_ BK256 hb); replace BK257 := Aside0.mk (bb_ BK257 hb); replace BK259 := Aside0.mk (bb_ BK259 hb); replace HB := Aside0.mk (below_step (hb3_ HB GE256 GE257 GE259) hb); clear hb ho19; have hcv20 := own_string (P := Try.prog) Try.underlying54 Try.underlying5 Try.underlying9 (Kd.own_of_R HO262.out)) | ((with_reducible refine gate_dst (N := 5) rfl ?_); (try (refine gate_guard (by rfl) ?_; dsimp only)); refine box_event rf_ (N := 5) rf_ (cs := #[.string (⟨#[]⟩ : ByteArray), .slice none 0 0, .int .i64 0, .int .i64 0]) (t := 51) lr_ ?_; intro gb263 hg w21 hbox hb; replace HO_260003 := Aside0.mk (Kd.S_below (Kd.S_elderB (so_ HO_260003) gb263 (Nat.le_of_eq hg.symm)) hb); replace HO262 := Aside0.mk (Kd.R_below (ro_ HO262) hb); have BK263 := Aside0.mk hbox; have GW263 := Aside0.mk (ge_ HB hg (hb3_ HB GE256 GE257 GE259)); have GE263 := Aside0.mk (ge_ HB hg (hb3_ HB GE256 GE257 GE259)); replace HB := Aside0.mk (below_step (hb3_ HB GE256 GE257 GE259) hb); have NB256_263 := Aside0.mk (nl_ BK256 hg); have NB263_256 := Aside0.mk (ng_ BK256 hg); replace BK256 := Aside0.mk (bb_ BK256 hb); have NB257_263 := Aside0.mk (nl_ BK257 hg); have NB263_257 := Aside0.mk (ng_ BK257 hg); replace BK257 := Aside0.mk (bb_ BK257 hb); have NB259_263 := Aside0.mk (nl_ BK259 hg); have NB263_259 := Aside0.mk (ng_ BK259 hg); replace BK259 := Aside0.mk (bb_ BK259 hb); clear hb hbox hg; have hnb22 := NB263_256.out; have hnc22 := NB256_263.out; have hnb23 := NB263_257.out; have hnc23 := NB257_263.out; have hnb24 := NB263_259.out; have hnc24 := NB259_263.out; obtain ⟨hcz25_0, hcz25_1, hcz25_2, hcz25_3⟩ := cz4_ BK263; obtain ⟨hfz25_0, hfz25_1, hfz25_2, hfz25_3⟩ := fz4_ BK263; have hnb26 := NB256_257.out; have hnc26 := NB257_256.out; have hnb27 := NB256_259.out; have hnc27 := NB259_256.out; obtain ⟨hcz28_0, hcz28_1, hcz28_2, hcz28_3⟩ := cz4_ BK256; obtain ⟨hfz28_0, hfz28_1, hfz28_2, hfz28_3⟩ := fz4_ BK256))
   have n0_ : Aside0 (Kd.S k51 51 ((((w21.setCell ⟨gb263, 0, none⟩ (.string ((⟨#[122]⟩ : ByteArray) ++ (strOfNums y260)))).setCell ⟨gb263, 1, none⟩ (.slice none 0 0)).setCell ⟨gb263, 2, none⟩ (.int .i64 (wrap64 (1000 * x4_1)))).setCell ⟨gb263, 3, none⟩ (.int .i64 (wrap64 (500 * x4_1)))) w.heap.size (fun k_ => k_ ≠ gb263) u260003 x260003_1) := ⟨by (with_reducible repeat (first | apply Kd.S_alloc | apply Kd.S_drewN | apply Kd.S_drew)); exact Kd.S_mono (Kd.S_far (p := ⟨gb263, 3, none⟩) (Kd.S_far (p := ⟨gb263, 2, none⟩) (Kd.S_far (p := ⟨gb263, 1, none⟩) (Kd.S_far (p := ⟨gb263, 0, none⟩) (Kd.S_mono HO_260003.out (fun k_ hk => (⟨hk, hk.2⟩ : _ ∧ k_ ≠ gb263))) (fun _ hk => hk.2) (.string ((⟨#[122]⟩ : ByteArray) ++ (strOfNums y260)))) (fun _ hk => hk.2) (.slice none 0 0)) (fun _ hk => hk.2) (.int .i64 (wrap64 (1000 * x4_1)))) (fun _ hk => hk.2) (.int .i64 (wrap64 (500 * x4_1)))) (fun _ hk => hk.1.2)⟩
   have n1_ : Aside0 (Kd.R (Kd.int .u8) 5 ((((w21.setCell ⟨gb263, 0, none⟩ (.string ((⟨#[122]⟩ : ByteArray) ++ (strOfNums y260)))).setCell ⟨gb263, 1, none⟩ (.slice none 0 0)).setCell ⟨gb263, 2, none⟩ (.int .i64 (wrap64 (1000 * x4_1)))).setCell ⟨gb263, 3, none⟩ (.int .i64 (wrap64 (500 * x4_1)))) w.heap.size (fun _ => True) v261 y260) := ⟨rf1_ HO262 BK263⟩
   have n2_ : Aside0 (((((w21.setCell ⟨gb263, 0, none⟩ (.string ((⟨#[122]⟩ : ByteArray) ++ (strOfNums y260)))).setCell ⟨gb263, 1, none⟩ (.slice none 0 0)).setCell ⟨gb263, 2, none⟩ (.int .i64 (wrap64 (1000 * x4_1)))).setCell ⟨gb263, 3, none⟩ (.int .i64 (wrap64 (500 * x4_1)))).heap[gb256]? = some (.cells #[.bool a0_0, .bool a0_1, .int .i64 a0_2, .slice A0_3 l0_3.length c0_3] 24 (0, 0))) := ⟨bf4_ BK256 NB256_263 NB256_263 NB256_263 NB256_263⟩
   have n3_ : Aside0 (((((w21.setCell ⟨gb263, 0, none⟩ (.string ((⟨#[122]⟩ : ByteArray) ++ (strOfNums y260)))).setCell ⟨gb263, 1, none⟩ (.slice none 0 0)).setCell ⟨gb263, 2, none⟩ (.int .i64 (wrap64 (1000 * x4_1)))).setCell ⟨gb263, 3, none⟩ (.int .i64 (wrap64 (500 * x4_1)))).heap[gb257]? = some (.cells #[.bool false, .bool false, .int .i64 0, .slice none 0 0] 24 (0, 0))) := ⟨bf4_ BK257 NB257_263 NB257_263 NB257_263 NB257_263⟩
   have n4_ : Aside0 (((((w21.setCell ⟨gb263, 0, none⟩ (.string ((⟨#[122]⟩ : ByteArray) ++ (strOfNums y260)))).setCell ⟨gb263, 1, none⟩ (.slice none 0 0)).setCell ⟨gb263, 2, none⟩ (.int .i64 (wrap64 (1000 * x4_1)))).setCell ⟨gb263, 3, none⟩ (.int .i64 (wrap64 (500 * x4_1)))).heap[gb259]? = some (.cells #[.bool a0_0, .bool a0_1, .int .i64 t258, u260003] 24 (0, 0))) := ⟨bf4_ BK259 NB259_263 NB259_263 NB259_263 NB259_263⟩
   have n5_ : Aside0 (((((w21.setCell ⟨gb263, 0, none⟩ (.string ((⟨#[122]⟩ : ByteArray) ++ (strOfNums y260)))).setCell ⟨gb263, 1, none⟩ (.slice none 0 0)).setCell ⟨gb263, 2, none⟩ (.int .i64 (wrap64 (1000 * x4_1)))).setCell ⟨gb263, 3, none⟩ (.int .i64 (wrap64 (500 * x4_1)))).heap[gb263]? = some (.cells #[.string ((⟨#[122]⟩ : ByteArray) ++ (strOfNums y260)), .slice none 0 0, .int .i64 (wrap64 (1000 * x4_1)), .int .i64 (wrap64 (500 * x4_1))] 51 (0, 0))) := ⟨bq0_ BK263⟩
   have n6_ : Aside0 (Below w.heap.size w ((((w21.setCell ⟨gb263, 0, none⟩ (.string ((⟨#[122]⟩ : ByteArray) ++ (strOfNums y260)))).setCell ⟨gb263, 1, none⟩ (.slice none 0 0)).setCell ⟨gb263, 2, none⟩ (.int .i64 (wrap64 (1000 * x4_1)))).setCell ⟨gb263, 3, none⟩ (.int .i64 (wrap64 (500 * x4_1))))) := ⟨hb4_ HB GE256 GE257 GE259 GE263⟩
   (try clear HO_260003); (try clear HO262); (try clear BK256); (try clear BK257); (try clear BK259); (try clear BK263); (try clear HB)
   generalize ((((w21.setCell ⟨gb263, 0, none⟩ (.string ((⟨#[122]⟩ : ByteArray) ++ (strOfNums y260)))).setCell ⟨gb263, 1, none⟩ (.slice none 0 0)).setCell ⟨gb263, 2, none⟩ (.int .i64 (wrap64 (1000 * x4_1)))).setCell ⟨gb263, 3, none⟩ (.int .i64 (wrap64 (500 * x4_1)))) = w29 at n0_ n1_ n2_ n3_ n4_ n5_ n6_ ⊢
   have HO_260003 := n0_; have HO262 := n1_; have BK256 := n2_; have BK257 := n3_; have BK259 := n4_; have BK263 := n5_; have HB := n6_; clear n0_ n1_ n2_ n3_ n4_ n5_ n6_; replace HO_260003 := Aside0.mk (Kd.S_drew HO_260003.out); replace HO262 := Aside0.mk (Kd.R_drew HO262.out); replace BK256 := Aside0.mk (blk_drew BK256.out)
   replace BK257 := Aside0.mk (blk_drew BK257.out); replace BK259 := Aside0.mk (blk_drew BK259.out); replace BK263 := Aside0.mk (blk_drew BK263.out); replace HB := Aside0.mk (below_drew1 HB.out); have p264 : 0 ≤ (x4_1 : Int) := of_decide_eq_true as_; have q264 : x4_1 < (l0_3.length : Int) := of_decide_eq_true as_
   obtain ⟨ad264, A264_1, c264_1, e264, hx264_0, hx264_1, hx264_2, hx264_3, hl264_1, hi264_1⟩ := at_T51 HR0_3.out x4_1 p264 q264; have hw264_3 := hx264_3; have hw264_2 := hx264_2; have hw264_1 := hx264_1; have hw264_0 := hx264_0; cases e264; replace hx264_0 := hd_ HB hx264_0; replace hx264_1 := hd_ HB hx264_1
   replace hx264_2 := hd_ HB hx264_2; replace hx264_3 := hd_ HB hx264_3; have HR264_1 := Aside0.mk hi264_1; have HC264_1 := Aside0.mk hl264_1; clear hi264_1 hl264_1; replace p264 := eq_true p264; replace q264 := eq_true q264; have p266 : 0 ≤ (x4_1 : Int) := of_decide_eq_true as_; have q266 : x4_1 < (l0_3.length : Int) := of_decide_eq_true as_
   obtain ⟨ad266, A266_1, c266_1, e266, hx266_0, hx266_1, hx266_2, hx266_3, hl266_1, hi266_1⟩ := at_T51 HR0_3.out x4_1 p266 q266; have hw266_3 := hx266_3; have hw266_2 := hx266_2; have hw266_1 := hx266_1; have hw266_0 := hx266_0
   obtain rfl : ad264 = ad266 := (by injection e266)
   replace hx266_0 := hd_ HB hx266_0; replace hx266_1 := hd_ HB hx266_1; replace hx266_2 := hd_ HB hx266_2; replace hx266_3 := hd_ HB hx266_3; have HR266_1 := Aside0.mk hi266_1; have HC266_1 := Aside0.mk hl266_1; clear hi266_1 hl266_1; replace p266 := eq_true p266; replace q266 := eq_true q266; have ea_ := Option.some.inj (hx264_1.symm.trans hx266_1)
   injection ea_ with ea_ en_ ec_
   subst ea_; subst ec_; clear en_
   refine start_ (n := 18) (S := fun w' => w'.cell? ⟨gb256, 0, none⟩ = some (.bool a0_0) ∧ w'.cell? ⟨gb256, 1, none⟩ = some (.bool a0_1) ∧ w'.cell? ⟨gb256, 2, none⟩ = some (.int .i64 a0_2) ∧ w'.cell? ⟨gb256, 3, none⟩ = some (.slice (some ad264) l0_3.length c0_3) ∧ w'.cell? (ad264.add ((x4_1).toNat * 4)) = some (.string ((rd_T51 l0_3 x4_1).f0)) ∧ w'.cell? ⟨(ad264.add ((x4_1).toNat * 4)).block, (ad264.add ((x4_1).toNat * 4)).off + 1, none⟩ = some (.slice A264_1 ((rd_T51 l0_3 x4_1).f1).length c264_1) ∧ w'.cell? ⟨(ad264.add ((x4_1).toNat * 4)).block, (ad264.add ((x4_1).toNat * 4)).off + 2, none⟩ = some (.int .i64 ((rd_T51 l0_3 x4_1).f2)) ∧ w'.cell? ⟨(ad264.add ((x4_1).toNat * 4)).block, (ad264.add ((x4_1).toNat * 4)).off + 3, none⟩ = some (.int .i64 ((rd_T51 l0_3 x4_1).f3)) ∧ w'.cell? (ad264.add ((x4_1).toNat * 4)) = some (.string ((rd_T51 l0_3 x4_1).f0)) ∧ w'.cell? ⟨(ad264.add ((x4_1).toNat * 4)).block, (ad264.add ((x4_1).toNat * 4)).off + 1, none⟩ = some (.slice A264_1 ((rd_T51 l0_3 x4_1).f1).length c264_1) ∧ w'.cell? ⟨(ad264.add ((x4_1).toNat * 4)).block, (ad264.add ((x4_1).toNat * 4)).off + 2, none⟩ = some (.int .i64 ((rd_T51 l0_3 x4_1).f2)) ∧ w'.cell? ⟨(ad264.add ((x4_1).toNat * 4)).block, (ad264.add ((x4_1).toNat * 4)).off + 3, none⟩ = some (.int .i64 ((rd_T51 l0_3 x4_1).f3))) (ds := []) (mk 18 0) (by kernel_rfl) rfl rfl ⟨cl_ BK256 0, cl_ BK256 1, cl_ BK256 2, cl_ BK256 3, (hc_ HB hw264_0), (hc_ HB hw264_1), (hc_ HB hw264_2), (hc_ HB hw264_3), (hc_ HB hw266_0), (hc_ HB hw266_1), (hc_ HB hw266_2), (hc_ HB hw266_3)⟩ (fun hHeld => ?_); refine with_tabW haberdashplay_Tax.tab7 haberdashplay_Tax.bits7 (fun HT_ HW_ => ?_)
   generalize w29.drew = w30 at HO_260003 HO262 BK256 BK257 BK259 BK263 HB HR264_1 HR266_1 hx264_0 hx264_1 hx264_2 hx264_3 hx266_0 hx266_1 hx266_2 hx266_3 hHeld ⊢
   refine ahead_ [(0, 35), (2, 37), (7, 42), (9, 44)] ?_
   iterate 4 (refine pB_ HT_ ?_)
   refine aheadE_ (mk 18 645) kr_ ?_
   refine take_ (i := 1) (N := some 36) (v := ?_) (a' := ?_) (mk 18 647) rfl rfl (tw_ HT_ HW_) nh_ (Or.inl ⟨by rfl, ?_⟩) hHeld ?_ ?_
   rotate_left
   ·
    rintro w' ⟨s0, s1, s2, s3, s4, s5, s6, s7, s8, s9, s10, s11⟩
    go_simp
    with_reducible rfl
   rotate_left; (exact pu_)
   refine ahead_ [(3, 38), (4, 39)] ?_
   iterate 2 (refine pB_ HT_ ?_)
   refine aheadE_ (mk 18 671) kr_ ?_
   refine ahead_ [(5, 40), (8, 43)] ?_
   iterate 2 (refine tA_ (v := ?_) (a' := ?_) rfl rfl HT_.out HW_.out (by kernel_rfl) (fun _ _ _ h => h) (Or.inl ⟨by rfl, ?_⟩) hHeld ?_ ?_; rotate_left; (rintro w' ⟨s0, s1, s2, s3, s4, s5, s6, s7, s8, s9, s10, s11⟩; go_simp; with_reducible rfl); rotate_left; (exact pu_))
   refine aheadE_ (mk 18 959) kr_ ?_
   refine ahead_ [(10, 45), (11, 46)] ?_
   iterate 2 (refine pB_ HT_ ?_)
   refine aheadE_ (mk 18 4031) kr_ ?_
   refine take_ (i := 12) (N := some 47) (v := ?_) (a' := ?_) (mk 18 8127) rfl rfl (tw_ HT_ HW_) nh_ (Or.inl ⟨by rfl, ?_⟩) hHeld ?_ ?_
   rotate_left
   ·
    rintro w' ⟨s0, s1, s2, s3, s4, s5, s6, s7, s8, s9, s10, s11⟩
    go_simp
    with_reducible rfl
   rotate_left; (exact pu_)
   refine one_ (i := 6) (N := some 41) (mk 18 8191) rfl rfl (on_ HT_) de_ (fun K hK => ?_)
   refine goes_ Try.func16 (by kernel_rfl) rfl #[.int .i64 ((rd_T51 l0_3 x4_1).f2), .int .i64 3000] (by rfl) rfl rfl am_ ?_
   with_reducible refine (haberdashplay_Mod64.calls ((rd_T51 l0_3 x4_1).f2) 3000 t265 _ A16.out).mono ?_
   rintro e w' ⟨rfl, ⟨nd, rfl⟩⟩
   refine ⟨_, rfl, ?_⟩
   refine hK.out _ _ ⟨cl_ BK256 0, cl_ BK256 1, cl_ BK256 2, cl_ BK256 3, (hc_ HB hw264_0), (hc_ HB hw264_1), (hc_ HB hw264_2), (hc_ HB hw264_3), (hc_ HB hw266_0), (hc_ HB hw266_1), (hc_ HB hw266_2), (hc_ HB hw266_3)⟩ (fun hHeld => ?_)
   clear hK K
   refine norm_ pv_ ?_
   refine pure_ (i := 14) (N := some 49) (v := ?_) (a' := ?_) (mk 18 24575) rfl rfl (an_ HT_) nh_ (Or.inl ⟨ry_, ?_⟩) ?_ ?_
   rotate_left; (intro w'; go_simp; with_reducible rfl)
   rotate_left; (exact pu_)
   refine one_ (i := 13) (N := some 48) (mk 18 32767) rfl rfl (on_ HT_) de_ (fun K hK => ?_)
   refine goes_ Try.func16 (by kernel_rfl) rfl #[.int .i64 ((rd_T51 l0_3 x4_1).f3), .int .i64 3000] (by rfl) rfl rfl am_ ?_
   with_reducible refine (haberdashplay_Mod64.calls ((rd_T51 l0_3 x4_1).f3) 3000 t267 _ A17.out).mono ?_
   rintro e w' ⟨rfl, ⟨nd, rfl⟩⟩
   refine ⟨_, rfl, ?_⟩
   refine hK.out _ _ ⟨cl_ BK256 0, cl_ BK256 1, cl_ BK256 2, cl_ BK256 3, (hc_ HB hw264_0), (hc_ HB hw264_1), (hc_ HB hw264_2), (hc_ HB hw264_3), (hc_ HB hw266_0), (hc_ HB hw266_1), (hc_ HB hw266_2), (hc_ HB hw266_3)⟩ (fun hHeld => ?_)
   clear hK K
   refine norm_ pv_ ?_
   refine one_ (i := 15) (N := none) (mk 18 65535) rfl rfl (on_ HT_) de_ (fun K hK => ?_)
   have hs31 : w30.cell? ⟨gb263, 2, none⟩ = some (.int .i64 (wrap64 (1000 * x4_1))) := (blk_cell BK263.out 2).trans rfl; have hfs31 := blk_frozen BK263.out 2; have hns31_0 := NB256_263.out; have hns31_1 := NB257_263.out; have hns31_2 := NB259_263.out; have hms31_0 := NB263_256.out; have hms31_1 := NB263_257.out
   have hms31_2 := NB263_259.out
   refine skip_ (w1 := ?_) (by rfl) rfl ?_ ?_
   rotate_left
   ·
    go_simp
    rfl
   refine hK.out _ _ ⟨(cf1_ NB256_263 (hHeld.1)), (cf1_ NB256_263 (hHeld.2.1)), (cf1_ NB256_263 (hHeld.2.2.1)), (cf1_ NB256_263 (hHeld.2.2.2.1)), ((cell_far (p := ⟨gb263, _, none⟩) (by first | exact Nat.ne_of_lt (Nat.lt_of_lt_of_le (by have := World.block_lt_of_cell? _ _ hw264_0; first | rwa [add_block] at this | exact this) GW263.out) | (rw [add_block]; exact Nat.ne_of_lt (Nat.lt_of_lt_of_le (by have := World.block_lt_of_cell? _ _ hw264_0; first | rwa [add_block] at this | exact this) GW263.out)) | (show (Addr.add _ _).block ≠ _; rw [add_block]; exact Nat.ne_of_lt (Nat.lt_of_lt_of_le (by have := World.block_lt_of_cell? _ _ hw264_0; first | rwa [add_block] at this | exact this) GW263.out)) | (dsimp only; exact Nat.ne_of_lt (Nat.lt_of_lt_of_le (by have := World.block_lt_of_cell? _ _ hw264_0; first | rwa [add_block] at this | exact this) GW263.out))) _).trans (hHeld.2.2.2.2.1)), ((cell_far (p := ⟨gb263, _, none⟩) (by first | exact Nat.ne_of_lt (Nat.lt_of_lt_of_le (by have := World.block_lt_of_cell? _ _ hw264_1; first | rwa [add_block] at this | exact this) GW263.out) | (rw [add_block]; exact Nat.ne_of_lt (Nat.lt_of_lt_of_le (by have := World.block_lt_of_cell? _ _ hw264_1; first | rwa [add_block] at this | exact this) GW263.out)) | (show (Addr.add _ _).block ≠ _; rw [add_block]; exact Nat.ne_of_lt (Nat.lt_of_lt_of_le (by have := World.block_lt_of_cell? _ _ hw264_1; first | rwa [add_block] at this | exact this) GW263.out)) | (dsimp only; exact Nat.ne_of_lt (Nat.lt_of_lt_of_le (by have := World.block_lt_of_cell? _ _ hw264_1; first | rwa [add_block] at this | exact this) GW263.out))) _).trans (hHeld.2.2.2.2.2.1)), ((cell_far (p := ⟨gb263, _, none⟩) (by first | exact Nat.ne_of_lt (Nat.lt_of_lt_of_le (by have := World.block_lt_of_cell? _ _ hw264_2; first | rwa [add_block] at this | exact this) GW263.out) | (rw [add_block]; exact Nat.ne_of_lt (Nat.lt_of_lt_of_le (by have := World.block_lt_of_cell? _ _ hw264_2; first | rwa [add_block] at this | exact this) GW263.out)) | (show (Addr.add _ _).block ≠ _; rw [add_block]; exact Nat.ne_of_lt (Nat.lt_of_lt_of_le (by have := World.block_lt_of_cell? _ _ hw264_2; first | rwa [add_block] at this | exact this) GW263.out)) | (dsimp only; exact Nat.ne_of_lt (Nat.lt_of_lt_of_le (by have := World.block_lt_of_cell? _ _ hw264_2; first | rwa [add_block] at this | exact this) GW263.out))) _).trans (hHeld.2.2.2.2.2.2.1)), ((cell_far (p := ⟨gb263, _, none⟩) (by first | exact Nat.ne_of_lt (Nat.lt_of_lt_of_le (by have := World.block_lt_of_cell? _ _ hw264_3; first | rwa [add_block] at this | exact this) GW263.out) | (rw [add_block]; exact Nat.ne_of_lt (Nat.lt_of_lt_of_le (by have := World.block_lt_of_cell? _ _ hw264_3; first | rwa [add_block] at this | exact this) GW263.out)) | (show (Addr.add _ _).block ≠ _; rw [add_block]; exact Nat.ne_of_lt (Nat.lt_of_lt_of_le (by have := World.block_lt_of_cell? _ _ hw264_3; first | rwa [add_block] at this | exact this) GW263.out)) | (dsimp only; exact Nat.ne_of_lt (Nat.lt_of_lt_of_le (by have := World.block_lt_of_cell? _ _ hw264_3; first | rwa [add_block] at this | exact this) GW263.out))) _).trans (hHeld.2.2.2.2.2.2.2.1)), ((cell_far (p := ⟨gb263, _, none⟩) (by first | exact Nat.ne_of_lt (Nat.lt_of_lt_of_le (by have := World.block_lt_of_cell? _ _ hw266_0; first | rwa [add_block] at this | exact this) GW263.out) | (rw [add_block]; exact Nat.ne_of_lt (Nat.lt_of_lt_of_le (by have := World.block_lt_of_cell? _ _ hw266_0; first | rwa [add_block] at this | exact this) GW263.out)) | (show (Addr.add _ _).block ≠ _; rw [add_block]; exact Nat.ne_of_lt (Nat.lt_of_lt_of_le (by have := World.block_lt_of_cell? _ _ hw266_0; first | rwa [add_block] at this | exact this) GW263.out)) | (dsimp only; exact Nat.ne_of_lt (Nat.lt_of_lt_of_le (by have := World.block_lt_of_cell? _ _ hw266_0; first | rwa [add_block] at this | exact this) GW263.out))) _).trans (hHeld.2.2.2.2.2.2.2.2.1)), ((cell_far (p := ⟨gb263, _, none⟩) (by first | exact Nat.ne_of_lt (Nat.lt_of_lt_of_le (by have := World.block_lt_of_cell? _ _ hw266_1; first | rwa [add_block] at this | exact this) GW263.out) | (rw [add_block]; exact Nat.ne_of_lt (Nat.lt_of_lt_of_le (by have := World.block_lt_of_cell? _ _ hw266_1; first | rwa [add_block] at this | exact this) GW263.out)) | (show (Addr.add _ _).block ≠ _; rw [add_block]; exact Nat.ne_of_lt (Nat.lt_of_lt_of_le (by have := World.block_lt_of_cell? _ _ hw266_1; first | rwa [add_block] at this | exact this) GW263.out)) | (dsimp only; exact Nat.ne_of_lt (Nat.lt_of_lt_of_le (by have := World.block_lt_of_cell? _ _ hw266_1; first | rwa [add_block] at this | exact this) GW263.out))) _).trans (hHeld.2.2.2.2.2.2.2.2.2.1)), ((cell_far (p := ⟨gb263, _, none⟩) (by first | exact Nat.ne_of_lt (Nat.lt_of_lt_of_le (by have := World.block_lt_of_cell? _ _ hw266_2; first | rwa [add_block] at this | exact this) GW263.out) | (rw [add_block]; exact Nat.ne_of_lt (Nat.lt_of_lt_of_le (by have := World.block_lt_of_cell? _ _ hw266_2; first | rwa [add_block] at this | exact this) GW263.out)) | (show (Addr.add _ _).block ≠ _; rw [add_block]; exact Nat.ne_of_lt (Nat.lt_of_lt_of_le (by have := World.block_lt_of_cell? _ _ hw266_2; first | rwa [add_block] at this | exact this) GW263.out)) | (dsimp only; exact Nat.ne_of_lt (Nat.lt_of_lt_of_le (by have := World.block_lt_of_cell? _ _ hw266_2; first | rwa [add_block] at this | exact this) GW263.out))) _).trans (hHeld.2.2.2.2.2.2.2.2.2.2.1)), ((cell_far (p := ⟨gb263, _, none⟩) (by first | exact Nat.ne_of_lt (Nat.lt_of_lt_of_le (by have := World.block_lt_of_cell? _ _ hw266_3; first | rwa [add_block] at this | exact this) GW263.out) | (rw [add_block]; exact Nat.ne_of_lt (Nat.lt_of_lt_of_le (by have := World.block_lt_of_cell? _ _ hw266_3; first | rwa [add_block] at this | exact this) GW263.out)) | (show (Addr.add _ _).block ≠ _; rw [add_block]; exact Nat.ne_of_lt (Nat.lt_of_lt_of_le (by have := World.block_lt_of_cell? _ _ hw266_3; first | rwa [add_block] at this | exact this) GW263.out)) | (dsimp only; exact Nat.ne_of_lt (Nat.lt_of_lt_of_le (by have := World.block_lt_of_cell? _ _ hw266_3; first | rwa [add_block] at this | exact this) GW263.out))) _).trans (hHeld.2.2.2.2.2.2.2.2.2.2.2))⟩ (fun hHeld => ?_)
   clear hK K
   refine pure_ (i := 16) (N := some 50) (v := ?_) (a' := ?_) (mk 18 131071) rfl rfl (an_ HT_) nh_ (Or.inl ⟨ry_, ?_⟩) ?_ ?_
   rotate_left; (intro w'; go_simp; with_reducible rfl)
   rotate_left; (exact pu_)
   refine one_ (i := 17) (N := none) (mk 18 262143) rfl rfl (on_ HT_) de_ (fun K hK => ?_)
   have hs32 : w30.cell? ⟨gb263, 3, none⟩ = some (.int .i64 (wrap64 (500 * x4_1))) := (blk_cell BK263.out 3).trans rfl; have hfs32 := blk_frozen BK263.out 3; have hns32_0 := NB256_263.out; have hns32_1 := NB257_263.out; have hns32_2 := NB259_263.out; have hms32_0 := NB263_256.out; have hms32_1 := NB263_257.out
   have hms32_2 := NB263_259.out
   refine skip_ (w1 := ?_) (by rfl) rfl ?_ ?_
   rotate_left
   ·
    go_simp
    rfl
   refine hK.out _ _ ⟨(cf1_ NB256_263 (hHeld.1)), (cf1_ NB256_263 (hHeld.2.1)), (cf1_ NB256_263 (hHeld.2.2.1)), (cf1_ NB256_263 (hHeld.2.2.2.1)), ((cell_far (p := ⟨gb263, _, none⟩) (by first | exact Nat.ne_of_lt (Nat.lt_of_lt_of_le (by have := World.block_lt_of_cell? _ _ hw264_0; first | rwa [add_block] at this | exact this) GW263.out) | (rw [add_block]; exact Nat.ne_of_lt (Nat.lt_of_lt_of_le (by have := World.block_lt_of_cell? _ _ hw264_0; first | rwa [add_block] at this | exact this) GW263.out)) | (show (Addr.add _ _).block ≠ _; rw [add_block]; exact Nat.ne_of_lt (Nat.lt_of_lt_of_le (by have := World.block_lt_of_cell? _ _ hw264_0; first | rwa [add_block] at this | exact this) GW263.out)) | (dsimp only; exact Nat.ne_of_lt (Nat.lt_of_lt_of_le (by have := World.block_lt_of_cell? _ _ hw264_0; first | rwa [add_block] at this | exact this) GW263.out))) _).trans (hHeld.2.2.2.2.1)), ((cell_far (p := ⟨gb263, _, none⟩) (by first | exact Nat.ne_of_lt (Nat.lt_of_lt_of_le (by have := World.block_lt_of_cell? _ _ hw264_1; first | rwa [add_block] at this | exact this) GW263.out) | (rw [add_block]; exact Nat.ne_of_lt (Nat.lt_of_lt_of_le (by have := World.block_lt_of_cell? _ _ hw264_1; first | rwa [add_block] at this | exact this) GW263.out)) | (show (Addr.add _ _).block ≠ _; rw [add_block]; exact Nat.ne_of_lt (Nat.lt_of_lt_of_le (by have := World.block_lt_of_cell? _ _ hw264_1; first | rwa [add_block] at this | exact this) GW263.out)) | (dsimp only; exact Nat.ne_of_lt (Nat.lt_of_lt_of_le (by have := World.block_lt_of_cell? _ _ hw264_1; first | rwa [add_block] at this | exact this) GW263.out))) _).trans (hHeld.2.2.2.2.2.1)), ((cell_far (p := ⟨gb263, _, none⟩) (by first | exact Nat.ne_of_lt (Nat.lt_of_lt_of_le (by have := World.block_lt_of_cell? _ _ hw264_2; first | rwa [add_block] at this | exact this) GW263.out) | (rw [add_block]; exact Nat.ne_of_lt (Nat.lt_of_lt_of_le (by have := World.block_lt_of_cell? _ _ hw264_2; first | rwa [add_block] at this | exact this) GW263.out)) | (show (Addr.add _ _).block ≠ _; rw [add_block]; exact Nat.ne_of_lt (Nat.lt_of_lt_of_le (by have := World.block_lt_of_cell? _ _ hw264_2; first | rwa [add_block] at this | exact this) GW263.out)) | (dsimp only; exact Nat.ne_of_lt (Nat.lt_of_lt_of_le (by have := World.block_lt_of_cell? _ _ hw264_2; first | rwa [add_block] at this | exact this) GW263.out))) _).trans (hHeld.2.2.2.2.2.2.1)), ((cell_far (p := ⟨gb263, _, none⟩) (by first | exact Nat.ne_of_lt (Nat.lt_of_lt_of_le (by have := World.block_lt_of_cell? _ _ hw264_3; first | rwa [add_block] at this | exact this) GW263.out) | (rw [add_block]; exact Nat.ne_of_lt (Nat.lt_of_lt_of_le (by have := World.block_lt_of_cell? _ _ hw264_3; first | rwa [add_block] at this | exact this) GW263.out)) | (show (Addr.add _ _).block ≠ _; rw [add_block]; exact Nat.ne_of_lt (Nat.lt_of_lt_of_le (by have := World.block_lt_of_cell? _ _ hw264_3; first | rwa [add_block] at this | exact this) GW263.out)) | (dsimp only; exact Nat.ne_of_lt (Nat.lt_of_lt_of_le (by have := World.block_lt_of_cell? _ _ hw264_3; first | rwa [add_block] at this | exact this) GW263.out))) _).trans (hHeld.2.2.2.2.2.2.2.1)), ((cell_far (p := ⟨gb263, _, none⟩) (by first | exact Nat.ne_of_lt (Nat.lt_of_lt_of_le (by have := World.block_lt_of_cell? _ _ hw266_0; first | rwa [add_block] at this | exact this) GW263.out) | (rw [add_block]; exact Nat.ne_of_lt (Nat.lt_of_lt_of_le (by have := World.block_lt_of_cell? _ _ hw266_0; first | rwa [add_block] at this | exact this) GW263.out)) | (show (Addr.add _ _).block ≠ _; rw [add_block]; exact Nat.ne_of_lt (Nat.lt_of_lt_of_le (by have := World.block_lt_of_cell? _ _ hw266_0; first | rwa [add_block] at this | exact this) GW263.out)) | (dsimp only; exact Nat.ne_of_lt (Nat.lt_of_lt_of_le (by have := World.block_lt_of_cell? _ _ hw266_0; first | rwa [add_block] at this | exact this) GW263.out))) _).trans (hHeld.2.2.2.2.2.2.2.2.1)), ((cell_far (p := ⟨gb263, _, none⟩) (by first | exact Nat.ne_of_lt (Nat.lt_of_lt_of_le (by have := World.block_lt_of_cell? _ _ hw266_1; first | rwa [add_block] at this | exact this) GW263.out) | (rw [add_block]; exact Nat.ne_of_lt (Nat.lt_of_lt_of_le (by have := World.block_lt_of_cell? _ _ hw266_1; first | rwa [add_block] at this | exact this) GW263.out)) | (show (Addr.add _ _).block ≠ _; rw [add_block]; exact Nat.ne_of_lt (Nat.lt_of_lt_of_le (by have := World.block_lt_of_cell? _ _ hw266_1; first | rwa [add_block] at this | exact this) GW263.out)) | (dsimp only; exact Nat.ne_of_lt (Nat.lt_of_lt_of_le (by have := World.block_lt_of_cell? _ _ hw266_1; first | rwa [add_block] at this | exact this) GW263.out))) _).trans (hHeld.2.2.2.2.2.2.2.2.2.1)), ((cell_far (p := ⟨gb263, _, none⟩) (by first | exact Nat.ne_of_lt (Nat.lt_of_lt_of_le (by have := World.block_lt_of_cell? _ _ hw266_2; first | rwa [add_block] at this | exact this) GW263.out) | (rw [add_block]; exact Nat.ne_of_lt (Nat.lt_of_lt_of_le (by have := World.block_lt_of_cell? _ _ hw266_2; first | rwa [add_block] at this | exact this) GW263.out)) | (show (Addr.add _ _).block ≠ _; rw [add_block]; exact Nat.ne_of_lt (Nat.lt_of_lt_of_le (by have := World.block_lt_of_cell? _ _ hw266_2; first | rwa [add_block] at this | exact this) GW263.out)) | (dsimp only; exact Nat.ne_of_lt (Nat.lt_of_lt_of_le (by have := World.block_lt_of_cell? _ _ hw266_2; first | rwa [add_block] at this | exact this) GW263.out))) _).trans (hHeld.2.2.2.2.2.2.2.2.2.2.1)), ((cell_far (p := ⟨gb263, _, none⟩) (by first | exact Nat.ne_of_lt (Nat.lt_of_lt_of_le (by have := World.block_lt_of_cell? _ _ hw266_3; first | rwa [add_block] at this | exact this) GW263.out) | (rw [add_block]; exact Nat.ne_of_lt (Nat.lt_of_lt_of_le (by have := World.block_lt_of_cell? _ _ hw266_3; first | rwa [add_block] at this | exact this) GW263.out)) | (show (Addr.add _ _).block ≠ _; rw [add_block]; exact Nat.ne_of_lt (Nat.lt_of_lt_of_le (by have := World.block_lt_of_cell? _ _ hw266_3; first | rwa [add_block] at this | exact this) GW263.out)) | (dsimp only; exact Nat.ne_of_lt (Nat.lt_of_lt_of_le (by have := World.block_lt_of_cell? _ _ hw266_3; first | rwa [add_block] at this | exact this) GW263.out))) _).trans (hHeld.2.2.2.2.2.2.2.2.2.2.2))⟩ (fun hHeld => ?_)
   clear hK K
   refine done_ (done_of HT_.out (by kernel_rfl)) ?_
   try go_wp2
   go_loopg [6] k1 (fun kq v6 w' => ∃ (x6_2 : Int) (x264001_2 : List (S56)) (u264001 : Value), v6 = .int .i64 x6_2 ∧ Aside0 (haberdashplay_Tax.l1 kq x4_1 x6_2 a0_0 a0_1 a0_2 l0_3 a0_0 a0_1 t258 x260003_1 ((⟨#[122]⟩ : ByteArray) ++ (strOfNums y260)) x264001_2 t265 t267 = some (r1, r2, r3, r4)) ∧ Aside0 (kq ≤ k1) ∧ Aside0 (Kd.S k51 51 w' w.heap.size (fun k_ => some k_ ≠ (u264001 : Value).ownBlock ∧ k_ ≠ gb263) u260003 x260003_1) ∧ Aside0 (Kd.R k56 56 w' w.heap.size (fun _ => True) u264001 x264001_2) ∧ Aside0 (w'.heap[gb256]? = some (.cells #[.bool a0_0, .bool a0_1, .int .i64 a0_2, (.slice (some ad264) l0_3.length c0_3)] 24 (0, 0))) ∧ Aside0 (w'.heap[gb257]? = some (.cells #[.bool false, .bool false, .int .i64 0, (.slice none 0 0)] 24 (0, 0))) ∧ Aside0 (w'.heap[gb259]? = some (.cells #[.bool a0_0, .bool a0_1, .int .i64 t258, u260003] 24 (0, 0))) ∧ Aside0 (w'.heap[gb263]? = some (.cells #[.string ((⟨#[122]⟩ : ByteArray) ++ (strOfNums y260)), u264001, .int .i64 t265, .int .i64 t267] 51 (0, 0))) ∧ Aside0 (Below w.heap.size w w'))
   case atStart => exact ⟨(0), (([] : List (S56))), (.slice none 0 0), rf_, H', ⟨Nat.le_refl _⟩, ⟨by (with_reducible repeat (first | apply Kd.S_alloc | apply Kd.S_drewN | apply Kd.S_drew)); exact Kd.S_mono (Kd.S_far (p := ⟨gb263, 3, none⟩) (Kd.S_far (p := ⟨gb263, 2, none⟩) (Kd.S_mono HO_260003.out (fun k_ hk => (⟨hk, hk⟩ : _ ∧ k_ ≠ gb263))) (fun _ hk => hk.2) (.int .i64 t265)) (fun _ hk => hk.2) (.int .i64 t267)) (fun _ hk => ⟨(by simp [Value.ownBlock]), hk.1⟩)⟩, ⟨ni_⟩, ⟨bf2_ BK256 NB256_263 NB256_263⟩, ⟨bf2_ BK257 NB257_263 NB257_263⟩, ⟨bf2_ BK259 NB259_263 NB259_263⟩, ⟨bq0_ BK263⟩, ⟨hb4_ HB GE256 GE257 GE259 GE263⟩⟩
   case round =>
    clear H'; (try clear c1); (try clear c2); (try clear p2); (try clear q2); (try clear hx2); (try clear hcv2); (try clear p6); (try clear c7); (try clear c12); (try clear c12b0); (try clear c13); (try clear c13b0); (try clear c13b1); (try clear c13b2); (try clear c14); (try clear c14b0); (try clear c15)
    (try clear c15b0); (try clear c16); (try clear c19); (try clear hcv20); (try clear c22); (try clear c23); (try clear c24); (try clear c26); (try clear p26); (try clear q26); (try clear hx26); (try clear c27); (try clear hcz25_0 hcz25_1 hcz25_2 hcz25_3); (try clear hcz28_0 hcz28_1 hcz28_2 hcz28_3)
    (try clear hfz25_0 hfz25_1 hfz25_2 hfz25_3); (try clear hfz28_0 hfz28_1 hfz28_2 hfz28_3); (try clear hx264_0); (try clear hx264_1); (try clear hx264_2); (try clear hx264_3); (try clear hx266_0); (try clear hx266_1); (try clear hx266_2); (try clear hx266_3); (try clear p2); (try clear p264); (try clear p266)
    (try clear q264); (try clear q266); obtain ⟨x6_2, x264001_2, u264001, rfl, HA, HK2, HO_260003, HO_264001, BK256, BK257, BK259, BK263, HB⟩ := hrel
    cases gk with
    | zero => exact absurd HA.out (by simp [haberdashplay_Tax.l1])
    | succ k2 =>
     have H := HA.out; clear HA
     simp only [haberdashplay_Tax.l1] at H
     have HC33 := Aside0.mk H; clear H
     go_upto_region 9 with (fail)
     go_cut [63] (fun v63 wc => ∃ (kq : Nat) (x63_32 : Bool), v63 = .bool x63_32 ∧ Aside0 (haberdashplay_Tax.j2 kq x4_1 x6_2 x63_32 a0_0 a0_1 a0_2 l0_3 a0_0 a0_1 t258 x260003_1 ((⟨#[122]⟩ : ByteArray) ++ (strOfNums y260)) x264001_2 t265 t267 = some (r1, r2, r3, r4)) ∧ Aside0 (kq ≤ k2) ∧ Aside0 (Kd.S k51 51 wc w.heap.size (fun k_ => some k_ ≠ (u264001 : Value).ownBlock ∧ k_ ≠ gb263) u260003 x260003_1) ∧ Aside0 (Kd.R k56 56 wc w.heap.size (fun _ => True) u264001 x264001_2) ∧ Aside0 (wc.heap[gb256]? = some (.cells #[.bool a0_0, .bool a0_1, .int .i64 a0_2, (.slice (some ad264) l0_3.length c0_3)] 24 (0, 0))) ∧ Aside0 (wc.heap[gb257]? = some (.cells #[.bool false, .bool false, .int .i64 0, (.slice none 0 0)] 24 (0, 0))) ∧ Aside0 (wc.heap[gb259]? = some (.cells #[.bool a0_0, .bool a0_1, .int .i64 t258, u260003] 24 (0, 0))) ∧ Aside0 (wc.heap[gb263]? = some (.cells #[.string ((⟨#[122]⟩ : ByteArray) ++ (strOfNums y260)), u264001, .int .i64 t265, .int .i64 t267] 51 (0, 0))) ∧ Aside0 (Below w.heap.size w wc))
     case first =>
      have H := HC33.out; clear HC33
      by_cases c34 : x6_2 < 3
      rotate_left
      ·
       rw [if_neg c34] at H; have c34b0 := decide_eq_false c34; clear c34
       (first | rw [c34b0] | (simp only [i64_w, i32_w]; rw [c34b0]) | skip)
       have H' := Aside0.mk H; clear H
       go_wp2
       go_meet
       case rel => exact ⟨_, (false), rf_, H', ⟨by have := HK1.out; have := HK2.out; first | omega | exact Nat.le_refl _⟩, ⟨so_ HO_260003⟩, ⟨ro_ HO_264001⟩, ⟨bk_ BK256⟩, ⟨bk_ BK257⟩, ⟨bk_ BK259⟩, ⟨bk_ BK263⟩, ⟨hb4_ HB GE256 GE257 GE259 GE263⟩⟩
      rw [if_pos c34] at H; have c34b0 := decide_eq_true c34; clear c34
      (first | rw [c34b0] | (simp only [i64_w, i32_w]; rw [c34b0]) | skip)
      replace H := ip_ H; obtain ⟨c35, H⟩ := H; have c35b0 := decide_eq_true c35; clear c35; replace H := ip_ H; obtain ⟨c36, H⟩ := H; have c36b0 := decide_eq_true c36; clear c36; have H' := Aside0.mk H; clear H; have hnb37 := NB256_257.out; have hnc37 := NB257_256.out; have hnb38 := NB256_259.out; have hnc38 := NB259_256.out
      have hnb39 := NB256_263.out; have hnc39 := NB263_256.out; obtain ⟨hcz40_0, hcz40_1, hcz40_2, hcz40_3⟩ := cz4_ BK256; obtain ⟨hfz40_0, hfz40_1, hfz40_2, hfz40_3⟩ := fz4_ BK256; have p268 : 0 ≤ (x4_1 : Int) := of_decide_eq_true as_; have q268 : x4_1 < (l0_3.length : Int) := of_decide_eq_true as_
      obtain ⟨ad268, A268_1, c268_1, e268, hx268_0, hx268_1, hx268_2, hx268_3, hl268_1, hi268_1⟩ := at_T51 HR0_3.out x4_1 p268 q268
      obtain rfl : ad264 = ad268 := (by injection e268)
      replace hx268_0 := hd_ HB hx268_0; replace hx268_1 := hd_ HB hx268_1; replace hx268_2 := hd_ HB hx268_2; replace hx268_3 := hd_ HB hx268_3; have HR268_1 := Aside0.mk hi268_1; have HC268_1 := Aside0.mk hl268_1; clear hi268_1 hl268_1; replace p268 := eq_true p268; replace q268 := eq_true q268
      go_wp2
      go_meet
      case rel => exact ⟨_, (decide (x6_2 < (((rd_T51 l0_3 x4_1).f1).length : Int))), rf_, H', ⟨by have := HK1.out; have := HK2.out; first | omega | exact Nat.le_refl _⟩, ⟨so_ HO_260003⟩, ⟨ro_ HO_264001⟩, ⟨bk_ BK256⟩, ⟨bk_ BK257⟩, ⟨bk_ BK259⟩, ⟨bk_ BK263⟩, ⟨hb4_ HB GE256 GE257 GE259 GE263⟩⟩
     case rest =>
      clear HC33; (try clear c1); (try clear c2); (try clear p2); (try clear q2); (try clear hx2); (try clear hcv2); (try clear c3); (try clear p6); (try clear c7); (try clear c12); (try clear c12b0); (try clear c13); (try clear c13b0); (try clear c13b1); (try clear c13b2); (try clear c14); (try clear c14b0)
      (try clear c15); (try clear c15b0); (try clear c16); (try clear c19); (try clear hcv20); (try clear c22); (try clear c23); (try clear c24); (try clear c26); (try clear p26); (try clear q26); (try clear hx26); (try clear c27); (try clear c34); (try clear c34b0); (try clear c35); (try clear c35b0)
      (try clear c36); (try clear c36b0); (try clear c37); (try clear c38); (try clear c39); (try clear hcz25_0 hcz25_1 hcz25_2 hcz25_3); (try clear hcz28_0 hcz28_1 hcz28_2 hcz28_3); (try clear hcz40_0 hcz40_1 hcz40_2 hcz40_3); (try clear hfz25_0 hfz25_1 hfz25_2 hfz25_3); (try clear hfz28_0 hfz28_1 hfz28_2 hfz28_3)
      (try clear hfz40_0 hfz40_1 hfz40_2 hfz40_3); (try clear hx264_0); (try clear hx264_1); (try clear hx264_2); (try clear hx264_3); (try clear hx266_0); (try clear hx266_1); (try clear hx266_2); (try clear hx266_3); (try clear hx268_0); (try clear hx268_1); (try clear hx268_2); (try clear hx268_3)
      (try clear p2); (try clear p26); (try clear p264); (try clear p266); (try clear p268); (try clear p6); (try clear q2); (try clear q26); (try clear q264); (try clear q266); (try clear q268); obtain ⟨kq, x63_32, rfl, HA, HJ32, HO_260003, HO_264001, BK256, BK257, BK259, BK263, HB⟩ := hcut
      cases kq with
      | zero => exact absurd HA.out (by simp [haberdashplay_Tax.j2])
      | succ kj32 =>
       have H := HA.out; clear HA
       simp only [haberdashplay_Tax.j2] at H
       by_cases c41 : x63_32 = true
       rotate_left
       ·
        replace c41 := Bool.eq_false_iff.mpr c41; subst c41; rw [if_neg nf_] at H; replace H := ip_ H; obtain ⟨c54, H⟩ := H; have LMc54 := Aside0.mk c54; clear c54; obtain ⟨y276, hy276⟩ : ∃ y_ : List (S51), y_ = (x260003_1 ++ [(⟨((⟨#[122]⟩ : ByteArray) ++ (strOfNums y260)), x264001_2, t265, t267⟩ : S51)]) := ⟨_, rfl⟩
        replace H : (haberdashplay_Tax.l0 kj32 (wrap64 (x4_1 + 1)) a0_0 a0_1 a0_2 l0_3 a0_0 a0_1 t258 y276) = some (r1, r2, r3, r4) := hy_ hy276 H; have Ny276 := Aside0.mk hy276; clear hy276; have H' := Aside0.mk H; clear H; have hnb55 := NB259_256.out; have hnc55 := NB256_259.out; have hnb56 := NB259_257.out
        have hnc56 := NB257_259.out; have hnb57 := NB259_263.out; have hnc57 := NB263_259.out; obtain ⟨hcz58_0, hcz58_1, hcz58_2, hcz58_3⟩ := cz4_ BK259; obtain ⟨hfz58_0, hfz58_1, hfz58_2, hfz58_3⟩ := fz4_ BK259; have hnb59 := NB263_256.out; have hnc59 := NB256_263.out; have hnb60 := NB263_257.out; have hnc60 := NB257_263.out
        obtain ⟨hcz61_0, hcz61_1, hcz61_2, hcz61_3⟩ := cz4_ BK263; obtain ⟨hfz61_0, hfz61_1, hfz61_2, hfz61_3⟩ := fz4_ BK263; obtain ⟨Ao63, co63, eo63⟩ := Kd.R_slice HO_264001.out; subst eo63
        go_wp2_with (first | ((with_reducible refine gate_builtin (b := .append) (xs := #[.tmp 86, .tmp 88]) rfl ?_); (try (refine gate_guard (by rfl) ?_; dsimp only)); at_builtin; refine Kd.S_append k51 (w0 := w) w.heap.size rfl (.tmp 86) (.tmp 88) 22 51 (.agg #[(.string ⟨#[]⟩), (.slice none 0 0), (.int .i64 0), (.int .i64 0)]) 56 rfl Try.underlying22 info51 rfl (by decide) (by omega) u260003 x260003_1 (⟨((⟨#[122]⟩ : ByteArray) ++ (strOfNums y260)), x264001_2, t265, t267⟩ : S51) [.string ((⟨#[122]⟩ : ByteArray) ++ (strOfNums y260)), .slice Ao63 x264001_2.length co63, .int .i64 t265, .int .i64 t267] (fun k_ => k_ ≠ gb263) (fun k_ => some k_ = (.slice Ao63 x264001_2.length co63 : Value).ownBlock) rfl rfl ?aP (fun k_ hk_ => ((Kd.R_mono (ok' := fun k_ => ((fun k_ => k_ ≠ gb263)) k_ ∧ some k_ ≠ (u260003 : Value).ownBlock) (Kd.R_types (Kd.R_apart' (HO_264001.out) (Kd.S_typed HO_260003.out) (by decide)) BK263.out (by decide)) (fun k_ hk => ⟨hk.2, hk.1.2⟩))).1 k_ hk_.symm) ?aF ?aO ?aB ?aS ?aL ?_; (case aP => exact k51_mkM _ _ _ (⟨((⟨#[122]⟩ : ByteArray) ++ (strOfNums y260)), x264001_2, t265, t267⟩ : S51) (Kd.R_mono (Kd.R_tight rfl (Kd.R_mono (ok' := fun k_ => ((fun k_ => k_ ≠ gb263)) k_ ∧ some k_ ≠ (u260003 : Value).ownBlock) (Kd.R_types (Kd.R_apart' (HO_264001.out) (Kd.S_typed HO_260003.out) (by decide)) BK263.out (by decide)) (fun k_ hk => ⟨hk.2, hk.1.2⟩))) (fun _ h_ => h_))); (case aB => exact (hb4_ HB GE256 GE257 GE259 GE263)); (case aF => exact (fun k_ hk => Kd.freshB (g := gb263) (o := .cells #[.string ((⟨#[122]⟩ : ByteArray) ++ (strOfNums y260)), .slice Ao63 x264001_2.length co63, .int .i64 t265, .int .i64 t267] 51 (0, 0)) (bk_ BK263) k_ hk)); (case aO => exact (by (with_reducible repeat (first | apply Kd.S_alloc | apply Kd.S_drewN | apply Kd.S_drew)); exact Kd.S_mono HO_260003.out (fun k_ hk => ⟨hk.2, fun e_ => hk.1 e_⟩))); (case aS => exact (below_size (hb4_ HB GE256 GE257 GE259 GE263))); (case aL => have := LMc54.out; omega); intro v277 w62 ho hb hg hat; rw [← Ny276.out] at ho; have n0_ := Aside0.mk (blk_grown (g := gb256) (o := .cells #[.bool a0_0, .bool a0_1, .int .i64 a0_2, .slice (some ad264) l0_3.length c0_3] 24 (0, 0)) (bk_ BK256) hg (Kd.S_ne HO_260003.out BK256.out (by decide))); have n1_ := Aside0.mk (blk_grown (g := gb257) (o := .cells #[.bool false, .bool false, .int .i64 0, .slice none 0 0] 24 (0, 0)) (bk_ BK257) hg (Kd.S_ne HO_260003.out BK257.out (by decide))); have n2_ := Aside0.mk (blk_grown (g := gb259) (o := .cells #[.bool a0_0, .bool a0_1, .int .i64 t258, u260003] 24 (0, 0)) (bk_ BK259) hg (Kd.S_ne HO_260003.out BK259.out (by decide))); have n3_ := Aside0.mk (blk_grown (g := gb263) (o := .cells #[.string ((⟨#[122]⟩ : ByteArray) ++ (strOfNums y260)), .slice Ao63 x264001_2.length co63, .int .i64 t265, .int .i64 t267] 51 (0, 0)) (bk_ BK263) hg (Kd.S_away HO_260003.out (fun _ hk => hk.2))); have n4_ := Aside0.mk hb; have n5_ := Aside0.mk ho; clear BK256; clear BK257; clear BK259; clear BK263; clear HB; clear HO_260003; clear HO_264001; have BK256 := n0_; have BK257 := n1_; have BK259 := n2_; have BK263 := n3_; have HB := n4_; have HO278 := n5_; clear n0_ n1_ n2_ n3_ n4_ n5_; clear ho hb hg hat; obtain ⟨Ao64, co64, eo64⟩ := Kd.S_slice HO278.out; subst eo64; obtain ⟨hcz65_0, hcz65_1, hcz65_2, hcz65_3⟩ := cz4_ BK259; obtain ⟨hfz65_0, hfz65_1, hfz65_2, hfz65_3⟩ := fz4_ BK259))
        go_roundg kj32
        case measure => have := HK1.out; have := HK2.out; have := HJ32.out; omega
        case rel => exact ⟨(wrap64 (x4_1 + 1)), (y276), (.slice Ao64 y276.length co64), rf_, H', ⟨ho3_ HK1 HK2 HJ32⟩, ⟨by (with_reducible repeat (first | apply Kd.S_alloc | apply Kd.S_drewN | apply Kd.S_drew)); exact Kd.S_mono (Kd.S_far (p := ⟨gb259, 3, none⟩) (Kd.S_types HO278.out BK259.out (by decide)) (fun _ hk => hk.2) (.slice Ao64 y276.length co64)) (fun _ hk => trivial)⟩, ⟨bf1_ BK256 NB256_259⟩, ⟨bf1_ BK257 NB257_259⟩, ⟨bq0_ BK259⟩, ⟨hb4_ HB GE256 GE257 GE259 GE263⟩⟩
       subst c41; rw [if_pos rfl] at H; replace H := Option.bind_eq_some_iff.mp H; obtain ⟨t269, A420, H⟩ := H
       replace H : (if 0 ≤ x4_1 then (if x4_1 < (l0_3.length : Int) then (if 0 ≤ x6_2 then (if x6_2 < (((rd_T51 l0_3 x4_1).f1).length : Int) then ((haberdashplay_Mod64.f ((rd_T56 ((rd_T51 l0_3 x4_1).f1) x6_2).f1) 3000).bind fun t272 => (if x264001_2.length < 5864062014805 then (haberdashplay_Tax.l1 kj32 x4_1 (wrap64 (x6_2 + 1)) a0_0 a0_1 a0_2 l0_3 a0_0 a0_1 t258 x260003_1 ((⟨#[122]⟩ : ByteArray) ++ (strOfNums y260)) (x264001_2 ++ [(⟨t269, t272⟩ : S56)]) t265 t267) else (none))) else (none)) else (none)) else (none)) else (none)) = some (r1, r2, r3, r4) := H
       have A42 := Aside0.mk A420; clear A420; replace H := ip_ H; obtain ⟨c43, H⟩ := H; have c43b0 := decide_eq_true c43; clear c43; replace H := ip_ H; obtain ⟨c44, H⟩ := H; have c44b0 := decide_eq_true c44; clear c44; replace H := ip_ H; obtain ⟨c45, H⟩ := H; have c45b0 := decide_eq_true c45; clear c45
       replace H := ip_ H; obtain ⟨c46, H⟩ := H; have c46b0 := decide_eq_true c46; clear c46; replace H := Option.bind_eq_some_iff.mp H; obtain ⟨t272, A470, H⟩ := H; replace H : (if x264001_2.length < 5864062014805 then (haberdashplay_Tax.l1 kj32 x4_1 (wrap64 (x6_2 + 1)) a0_0 a0_1 a0_2 l0_3 a0_0 a0_1 t258 x260003_1 ((⟨#[122]⟩ : ByteArray) ++ (strOfNums y260)) (x264001_2 ++ [(⟨t269, t272⟩ : S56)]) t265 t267) else (none)) = some (r1, r2, r3, r4) := H
       have A47 := Aside0.mk A470; clear A470; replace H := ip_ H; obtain ⟨c48, H⟩ := H; have LMc48 := Aside0.mk c48; clear c48; obtain ⟨y273, hy273⟩ : ∃ y_ : List (S56), y_ = (x264001_2 ++ [(⟨t269, t272⟩ : S56)]) := ⟨_, rfl⟩; replace H : (haberdashplay_Tax.l1 kj32 x4_1 (wrap64 (x6_2 + 1)) a0_0 a0_1 a0_2 l0_3 a0_0 a0_1 t258 x260003_1 ((⟨#[122]⟩ : ByteArray) ++ (strOfNums y260)) y273 t265 t267) = some (r1, r2, r3, r4) := hy_ hy273 H
       have Ny273 := Aside0.mk hy273; clear hy273; have H' := Aside0.mk H; clear H
       try go_wp2
       replace HO_260003 := Aside0.mk (Kd.S_drew HO_260003.out); replace HO_264001 := Aside0.mk (Kd.R_drew HO_264001.out); replace BK256 := Aside0.mk (blk_drew BK256.out); replace BK257 := Aside0.mk (blk_drew BK257.out); replace BK259 := Aside0.mk (blk_drew BK259.out); replace BK263 := Aside0.mk (blk_drew BK263.out)
       replace HB := Aside0.mk (below_drew1 HB.out); have p270 : 0 ≤ (x4_1 : Int) := of_decide_eq_true as_; have q270 : x4_1 < (l0_3.length : Int) := of_decide_eq_true as_; obtain ⟨ad270, A270_1, c270_1, e270, hx270_0, hx270_1, hx270_2, hx270_3, hl270_1, hi270_1⟩ := at_T51 HR0_3.out x4_1 p270 q270; have hw270_3 := hx270_3
       have hw270_2 := hx270_2; have hw270_1 := hx270_1; have hw270_0 := hx270_0
       obtain rfl : ad264 = ad270 := (by injection e270)
       replace hx270_0 := hd_ HB hx270_0; replace hx270_1 := hd_ HB hx270_1; replace hx270_2 := hd_ HB hx270_2; replace hx270_3 := hd_ HB hx270_3; have HR270_1 := Aside0.mk hi270_1; have HC270_1 := Aside0.mk hl270_1; clear hi270_1 hl270_1; replace p270 := eq_true p270; replace q270 := eq_true q270; have p271 : 0 ≤ (x6_2 : Int) := of_decide_eq_true as_
       have q271 : x6_2 < (((rd_T51 l0_3 x4_1).f1).length : Int) := of_decide_eq_true as_; obtain ⟨ad271, e271, hx271_0, hx271_1⟩ := at_T56 HR270_1.out x6_2 p271 q271; have hw271_1 := hx271_1; have hw271_0 := hx271_0; cases e271; replace hx271_0 := hd_ HB hx271_0; replace hx271_1 := hd_ HB hx271_1; replace p271 := eq_true p271
       replace q271 := eq_true q271
       refine start_ (n := 20) (S := fun w' => w'.cell? ⟨gb263, 0, none⟩ = some (.string ((⟨#[122]⟩ : ByteArray) ++ (strOfNums y260))) ∧ w'.cell? ⟨gb263, 1, none⟩ = some (u264001) ∧ w'.cell? ⟨gb263, 2, none⟩ = some (.int .i64 t265) ∧ w'.cell? ⟨gb263, 3, none⟩ = some (.int .i64 t267) ∧ w'.cell? ⟨gb256, 0, none⟩ = some (.bool a0_0) ∧ w'.cell? ⟨gb256, 1, none⟩ = some (.bool a0_1) ∧ w'.cell? ⟨gb256, 2, none⟩ = some (.int .i64 a0_2) ∧ w'.cell? ⟨gb256, 3, none⟩ = some (.slice (some ad264) l0_3.length c0_3) ∧ w'.cell? (ad264.add ((x4_1).toNat * 4)) = some (.string ((rd_T51 l0_3 x4_1).f0)) ∧ w'.cell? ⟨(ad264.add ((x4_1).toNat * 4)).block, (ad264.add ((x4_1).toNat * 4)).off + 1, none⟩ = some (.slice (some ad271) ((rd_T51 l0_3 x4_1).f1).length c270_1) ∧ w'.cell? ⟨(ad264.add ((x4_1).toNat * 4)).block, (ad264.add ((x4_1).toNat * 4)).off + 2, none⟩ = some (.int .i64 ((rd_T51 l0_3 x4_1).f2)) ∧ w'.cell? ⟨(ad264.add ((x4_1).toNat * 4)).block, (ad264.add ((x4_1).toNat * 4)).off + 3, none⟩ = some (.int .i64 ((rd_T51 l0_3 x4_1).f3)) ∧ w'.cell? (ad271.add ((x6_2).toNat * 2)) = some (.string ((rd_T56 ((rd_T51 l0_3 x4_1).f1) x6_2).f0)) ∧ w'.cell? ⟨(ad271.add ((x6_2).toNat * 2)).block, (ad271.add ((x6_2).toNat * 2)).off + 1, none⟩ = some (.int .i64 ((rd_T56 ((rd_T51 l0_3 x4_1).f1) x6_2).f1))) (ds := [19]) (mk 20 0) (by kernel_rfl) rfl rfl ⟨cl_ BK263 0, cl_ BK263 1, cl_ BK263 2, cl_ BK263 3, cl_ BK256 0, cl_ BK256 1, cl_ BK256 2, cl_ BK256 3, (hc_ HB hw270_0), (hc_ HB hw270_1), (hc_ HB hw270_2), (hc_ HB hw270_3), (hc_ HB hw271_0), (hc_ HB hw271_1)⟩ (fun hHeld => ?_); refine with_tabW haberdashplay_Tax.tab11 haberdashplay_Tax.bits11 (fun HT_ HW_ => ?_)
       generalize wc.drew = w49 at HO_260003 HO_264001 BK256 BK257 BK259 BK263 HB HR270_1 hx270_0 hx270_1 hx270_2 hx270_3 hx271_0 hx271_1 hHeld ⊢
       refine ahead_ [(0, 66), (2, 68), (4, 70), (6, 72), (10, 76)] ?_
       iterate 5 (refine pB_ HT_ ?_)
       refine aheadE_ (mk 20 1109) kr_ ?_
       refine ahead_ [(1, 67), (5, 71)] ?_
       iterate 2 (refine tA_ (v := ?_) (a' := ?_) rfl rfl HT_.out HW_.out (by kernel_rfl) (fun _ _ _ h => h) (Or.inl ⟨by rfl, ?_⟩) hHeld ?_ ?_; rotate_left; (rintro w' ⟨s0, s1, s2, s3, s4, s5, s6, s7, s8, s9, s10, s11, s12, s13⟩; go_simp; with_reducible rfl); rotate_left; (exact pu_))
       refine aheadE_ (mk 20 1143) kr_ ?_
       refine ahead_ [(7, 73), (8, 74)] ?_
       iterate 2 (refine pB_ HT_ ?_)
       refine aheadE_ (mk 20 1527) kr_ ?_
       refine take_ (i := 9) (N := some 75) (v := ?_) (a' := ?_) (mk 20 2039) rfl rfl (tw_ HT_ HW_) nh_ (Or.inl ⟨by rfl, ?_⟩) hHeld ?_ ?_
       rotate_left
       ·
        rintro w' ⟨s0, s1, s2, s3, s4, s5, s6, s7, s8, s9, s10, s11, s12, s13⟩
        go_simp
        with_reducible rfl
       rotate_left; (exact pu_)
       refine ahead_ [(11, 77), (12, 78)] ?_
       iterate 2 (refine pB_ HT_ ?_)
       refine aheadE_ (mk 20 8183) kr_ ?_
       refine take_ (i := 13) (N := some 79) (v := ?_) (a' := ?_) (mk 20 16375) rfl rfl (tw_ HT_ HW_) nh_ (Or.inl ⟨by rfl, ?_⟩) hHeld ?_ ?_
       rotate_left
       ·
        rintro w' ⟨s0, s1, s2, s3, s4, s5, s6, s7, s8, s9, s10, s11, s12, s13⟩
        go_simp
        with_reducible rfl
       rotate_left; (exact pu_)
       refine one_ (i := 3) (N := some 69) (mk 20 16383) rfl rfl (on_ HT_) de_ (fun K hK => ?_)
       refine goes_ Try.func20 (by kernel_rfl) rfl #[.int .i64 x6_2] (by rfl) rfl rfl am_ ?_
       with_reducible refine (haberdashplay_Category.calls x6_2 t269 _ A42.out).mono ?_
       rintro e w50 ⟨rfl, hb⟩
       refine ⟨_, rfl, ?_⟩
       replace HO_260003 := Aside0.mk (Kd.S_below (so_ HO_260003) hb); replace HO_264001 := Aside0.mk (Kd.R_below (ro_ HO_264001) hb); replace BK256 := Aside0.mk (bb_ BK256 hb); replace BK257 := Aside0.mk (bb_ BK257 hb); replace BK259 := Aside0.mk (bb_ BK259 hb); replace BK263 := Aside0.mk (bb_ BK263 hb)
       replace HB := Aside0.mk (below_step (hb4_ HB GE256 GE257 GE259 GE263) hb); (try clear hb); (try clear hb2); (try clear hk); (try clear hi)
       refine hK.out _ _ ⟨cl_ BK263 0, cl_ BK263 1, cl_ BK263 2, cl_ BK263 3, cl_ BK256 0, cl_ BK256 1, cl_ BK256 2, cl_ BK256 3, (hc_ HB hw270_0), (hc_ HB hw270_1), (hc_ HB hw270_2), (hc_ HB hw270_3), (hc_ HB hw271_0), (hc_ HB hw271_1)⟩ (fun hHeld => ?_)
       clear hK K
       refine norm_ pv_ ?_
       refine one_ (i := 14) (N := some 80) (mk 20 32767) rfl rfl (on_ HT_) de_ (fun K hK => ?_)
       refine goes_ Try.func16 (by kernel_rfl) rfl #[.int .i64 ((rd_T56 ((rd_T51 l0_3 x4_1).f1) x6_2).f1), .int .i64 3000] (by rfl) rfl rfl am_ ?_
       with_reducible refine (haberdashplay_Mod64.calls ((rd_T56 ((rd_T51 l0_3 x4_1).f1) x6_2).f1) 3000 t272 _ A47.out).mono ?_
       rintro e w' ⟨rfl, ⟨nd, rfl⟩⟩
       refine ⟨_, rfl, ?_⟩
       refine hK.out _ _ ⟨cl_ BK263 0, cl_ BK263 1, cl_ BK263 2, cl_ BK263 3, cl_ BK256 0, cl_ BK256 1, cl_ BK256 2, cl_ BK256 3, (hc_ HB hw270_0), (hc_ HB hw270_1), (hc_ HB hw270_2), (hc_ HB hw270_3), (hc_ HB hw271_0), (hc_ HB hw271_1)⟩ (fun hHeld => ?_)
       clear hK K
       refine norm_ pv_ ?_
       refine pure_ (i := 15) (N := some 81) (v := ?_) (a' := ?_) (mk 20 65535) rfl rfl (an_ HT_) nh_ (Or.inl ⟨ry_, ?_⟩) ?_ ?_
       rotate_left; (intro w'; go_simp; with_reducible rfl)
       rotate_left; (exact pu_)
       refine one_ (i := 16) (N := some 82) (mk 20 131071) rfl rfl (on_ HT_) de_ (fun K hK => ?_)
       refine value_ (w1 := ?_) (v := ?_) (by rfl) rfl ?_ ?_
       rotate_left 2
       ·
        go_simp
        constructor
        ·
         rfl
        ·
         rfl
       refine hK.out _ _ ⟨(blk_cell (blk_alloc BK263.out _) 0).trans rfl, (blk_cell (blk_alloc BK263.out _) 1).trans rfl, (blk_cell (blk_alloc BK263.out _) 2).trans rfl, (blk_cell (blk_alloc BK263.out _) 3).trans rfl, (blk_cell (blk_alloc BK256.out _) 0).trans rfl, (blk_cell (blk_alloc BK256.out _) 1).trans rfl, (blk_cell (blk_alloc BK256.out _) 2).trans rfl, (blk_cell (blk_alloc BK256.out _) 3).trans rfl, (World.cell?_alloc_lt _ _ _ (World.block_lt_of_cell? _ _ ((hc_ HB hw270_0)))).trans ((hc_ HB hw270_0)), (World.cell?_alloc_lt _ _ _ (World.block_lt_of_cell? _ _ ((hc_ HB hw270_1)))).trans ((hc_ HB hw270_1)), (World.cell?_alloc_lt _ _ _ (World.block_lt_of_cell? _ _ ((hc_ HB hw270_2)))).trans ((hc_ HB hw270_2)), (World.cell?_alloc_lt _ _ _ (World.block_lt_of_cell? _ _ ((hc_ HB hw270_3)))).trans ((hc_ HB hw270_3)), (World.cell?_alloc_lt _ _ _ (World.block_lt_of_cell? _ _ ((hc_ HB hw271_0)))).trans ((hc_ HB hw271_0)), (World.cell?_alloc_lt _ _ _ (World.block_lt_of_cell? _ _ ((hc_ HB hw271_1)))).trans ((hc_ HB hw271_1))⟩ (fun hHeld => ?_)
       clear hK K
       refine norm_ pv_ ?_
       refine one_ (i := 17) (N := some 83) (mk 20 262143) rfl rfl (on_ HT_) de_ (fun K hK => ?_)
       refine Kd.R_append_step k56 (w0 := w) w.heap.size (by rfl) (.tmp 67) (.tmp 82) 49 56 (.agg #[(.string ⟨#[]⟩), (.int .i64 0)]) 24 rfl Try.underlying49 info56 rfl (by decide) (by omega) u264001 x264001_2 (⟨t269, t272⟩ : S56) [.string t269, .int .i64 t272] (fun _ => True) (fun _ => False) rfl rfl ?aP (fun _ hk => hk.elim) ?aF ?aO ?aB ?aS ?aL ?_
       (case aP => exact k56_mkM _ _ _ (⟨t269, t272⟩ : S56))
       (case aB => exact (hb4_ HB GE256 GE257 GE259 GE263))
       (case aF => exact (fun _ _ => trivial))
       (case aO => exact (ro_ HO_264001))
       (case aS => exact (below_size (hb4_ HB GE256 GE257 GE259 GE263)))
       (case aL => have := LMc48.out; omega)
       intro v274 w51 ho hb hg hat
       rw [← Ny273.out] at ho
       have n0_ := Aside0.mk (Kd.S_after (ok := (fun k_ => k_ ≠ gb263)) (by (with_reducible repeat (first | apply Kd.S_alloc | apply Kd.S_drewN | apply Kd.S_drew)); exact Kd.S_mono HO_260003.out (fun _ hk => ⟨hk.2, hk.1⟩)) hg hat)
       have n1_ := Aside0.mk (blk_grown (g := gb256) (o := .cells #[.bool a0_0, .bool a0_1, .int .i64 a0_2, .slice (some ad264) l0_3.length c0_3] 24 (0, 0)) (bk_ BK256) hg (Kd.R_ne HO_264001.out BK256.out (by decide)))
       have n2_ := Aside0.mk (blk_grown (g := gb257) (o := .cells #[.bool false, .bool false, .int .i64 0, .slice none 0 0] 24 (0, 0)) (bk_ BK257) hg (Kd.R_ne HO_264001.out BK257.out (by decide)))
       have n3_ := Aside0.mk (blk_grown (g := gb259) (o := .cells #[.bool a0_0, .bool a0_1, .int .i64 t258, u260003] 24 (0, 0)) (bk_ BK259) hg (Kd.R_ne HO_264001.out BK259.out (by decide)))
       have n4_ := Aside0.mk (blk_grown (g := gb263) (o := .cells #[.string ((⟨#[122]⟩ : ByteArray) ++ (strOfNums y260)), u264001, .int .i64 t265, .int .i64 t267] 51 (0, 0)) (bk_ BK263) hg (Kd.R_ne HO_264001.out BK263.out (by decide)))
       have n5_ := Aside0.mk hb; have n6_ := Aside0.mk ho; clear HO_260003; clear BK256; clear BK257; clear BK259; clear BK263; clear HB; clear HO_264001; have HO_260003 := n0_; have BK256 := n1_; have BK257 := n2_; have BK259 := n3_; have BK263 := n4_; have HB := n5_; have HO275 := n6_; clear n0_ n1_ n2_ n3_ n4_ n5_ n6_
       clear ho hb hg hat; obtain ⟨Ao52, co52, eo52⟩ := Kd.R_slice HO275.out
       (first | subst eo52 | (injection eo52 with f1_ f2_ f3_; have f4_ := f1_.symm; have f5_ := f3_.symm; clear f1_ f2_ f3_; subst f4_; subst f5_))
       refine hK.out _ _ ⟨cl_ BK263 0, cl_ BK263 1, cl_ BK263 2, cl_ BK263 3, cl_ BK256 0, cl_ BK256 1, cl_ BK256 2, cl_ BK256 3, (hc_ HB hw270_0), (hc_ HB hw270_1), (hc_ HB hw270_2), (hc_ HB hw270_3), (hc_ HB hw271_0), (hc_ HB hw271_1)⟩ (fun hHeld => ?_)
       clear hK K
       refine norm_ pv_ ?_
       refine pure_ (i := 18) (N := some 84) (v := ?_) (a' := ?_) (mk 20 524287) rfl rfl (an_ HT_) nh_ (Or.inl ⟨ry_, ?_⟩) ?_ ?_
       rotate_left; (intro w'; go_simp; with_reducible rfl)
       rotate_left; (exact pu_)
       refine last_ (i := 19) (N := none) (mk 20 1048575) rfl rfl (on_ HT_) de_ (fun K hK => ?_)
       have hs53 : w51.cell? ⟨gb263, 1, none⟩ = some (u264001) := (blk_cell BK263.out 1).trans rfl; have hfs53 := blk_frozen BK263.out 1; have hns53_0 := NB256_263.out; have hns53_1 := NB257_263.out; have hns53_2 := NB259_263.out; have hms53_0 := NB263_256.out; have hms53_1 := NB263_257.out; have hms53_2 := NB263_259.out
       refine skip_ (w1 := ?_) (by rfl) rfl ?_ ?_
       rotate_left
       ·
        go_simp
        rfl
       refine hK.out _ _ ?_
       clear hK K
       refine done_ (done_of HT_.out (by kernel_rfl)) ?_
       try go_wp2
       go_roundg kj32
       case measure => have := HK1.out; have := HK2.out; have := HJ32.out; omega
       case rel => exact ⟨(wrap64 (x6_2 + 1)), (y273), (.slice Ao52 y273.length co52), rf_, H', ⟨ho3_ HK1 HK2 HJ32⟩, ⟨by (with_reducible repeat (first | apply Kd.S_alloc | apply Kd.S_drewN | apply Kd.S_drew)); exact Kd.S_mono (Kd.S_far (p := ⟨gb263, 1, none⟩) (Kd.S_mono HO_260003.out (fun k_ hk => (⟨hk, hk.1⟩ : _ ∧ k_ ≠ gb263))) (fun _ hk => hk.2) (.slice Ao52 y273.length co52)) (fun _ hk => ⟨hk.1.2, hk.1.1⟩)⟩, ⟨rf1_ HO275 BK263⟩, ⟨bf1_ BK256 NB256_263⟩, ⟨bf1_ BK257 NB257_263⟩, ⟨bf1_ BK259 NB259_263⟩, ⟨bq0_ BK263⟩, ⟨hb4_ HB GE256 GE257 GE259 GE263⟩⟩

end Go.Proofs.Ytmiamdnhofjifaa.Rw
end
section
/- Functions of the program as Lean functions, each with its contract: out of what the kit's printer wrote for this seat. -/
namespace Go.Proofs.Ytmiamdnhofjifaa.Rw
open Go.RowKit Go.Proofs.YtmiamdnhofjifaaW.PrintWords Go.Proofs.YtmiamdnhofjifaaW.PrintLast Go.Proofs.YtmiamdnhofjifaaW.PrintMore
attribute [local go_sem] max2_int min2_int max_two min_two max_three min_three max_four min_four   -- for this text's walks alone
set_option linter.unusedVariables false
set_option linter.unusedSimpArgs false
attribute [local go_sem high] leqS gtrS

/-! ### haberdashref10_Name: function 45 -/
def haberdashref10_Name.l0 : Nat → ByteArray → Int → Option (Bool)
 | 0, _, _ => none
 | k + 1, x0, x3 => if x3 < (x0.size : Int) then (if 0 ≤ x3 then (if (bt x0 x3) ≥ 97 then (if (bt x0 x3) ≤ 122 then (haberdashref10_Name.l0 k x0 (wrap64 (x3 + 1))) else (if (bt x0 x3) ≥ 48 then (if (bt x0 x3) ≤ 57 then (haberdashref10_Name.l0 k x0 (wrap64 (x3 + 1))) else (if ((bt x0 x3) = 45) then (haberdashref10_Name.l0 k x0 (wrap64 (x3 + 1))) else (some false))) else (if ((bt x0 x3) = 45) then (haberdashref10_Name.l0 k x0 (wrap64 (x3 + 1))) else (some false)))) else (if (bt x0 x3) ≥ 48 then (if (bt x0 x3) ≤ 57 then (haberdashref10_Name.l0 k x0 (wrap64 (x3 + 1))) else (if ((bt x0 x3) = 45) then (haberdashref10_Name.l0 k x0 (wrap64 (x3 + 1))) else (some false))) else (if ((bt x0 x3) = 45) then (haberdashref10_Name.l0 k x0 (wrap64 (x3 + 1))) else (some false)))) else (none)) else (if (x0.size : Int) ≥ 1 then (some (decide ((x0.size : Int) ≤ 12))) else (some false))
def haberdashref10_Name.f (k : Nat) (a0 : ByteArray) : Option (Bool) := haberdashref10_Name.l0 k a0 0
set_option maxHeartbeats 8000000 in
set_option maxRecDepth 100000 in
theorem haberdashref10_Name.calls (k : Nat) (a0 : ByteArray) (r : Bool) (w : World) (h : haberdashref10_Name.f k a0 = some r) :
 Calls Try.prog 45 #[.string a0] w fun e w' => e = .returned (.bool r) ∧ Drawn0 w w' := by
 have H : (haberdashref10_Name.l0 k a0 0) = some r := h
 clear h
 have H' := Aside0.mk H
 clear H
 go_enter Try.func45, Try.ntmps45
 go_wp2
 go_loopg [3] k (fun kq v3 w' => ∃ (x3_1 : Int), v3 = .int .i64 x3_1 ∧ Aside0 (haberdashref10_Name.l0 kq a0 x3_1 = some r) ∧ Aside0 (kq ≤ k) ∧ Drawn0 w w')
 case atStart => exact ⟨(0), rf_, H', ⟨Nat.le_refl _⟩, dr_⟩
 case round =>
  clear H'; obtain ⟨x3_1, rfl, HA, HK1, ⟨m1, rfl⟩⟩ := hrel
  cases gk with
  | zero => exact absurd HA.out (by simp [haberdashref10_Name.l0])
  | succ k1 =>
   have H := HA.out; clear HA
   simp only [haberdashref10_Name.l0] at H
   by_cases c2 : x3_1 < (a0.size : Int)
   rotate_left
   ·
    rw [if_neg c2] at H; have c2b0 := decide_eq_false c2; clear c2
    by_cases c15 : (a0.size : Int) ≥ 1
    rotate_left
    ·
     rw [if_neg c15] at H; have c15b0 := decide_eq_false c15
     have c15b1 : decide (1 ≤ a0.size) = false := decide_eq_false (by omega)
     clear c15; obtain rfl := Option.some.inj H
     go_wp2
     go_ret
     exact ⟨rf_, dr_⟩
    rw [if_pos c15] at H; have c15b0 := decide_eq_true c15
    have c15b1 : decide (1 ≤ a0.size) = true := decide_eq_true (by omega)
    clear c15; obtain rfl := Option.some.inj H
    go_wp2
    go_ret
    exact ⟨rf_, dr_⟩
   rw [if_pos c2] at H; have c2b0 := decide_eq_true c2; clear c2; replace H := ip_ H; obtain ⟨c3, H⟩ := H; have c3b0 := decide_eq_true c3; clear c3
   by_cases c5 : (bt a0 x3_1) ≥ 97
   rotate_left
   ·
    rw [if_neg c5] at H; have c5b0 := decide_eq_false c5; clear c5
    by_cases c11 : (bt a0 x3_1) ≥ 48
    rotate_left
    ·
     rw [if_neg c11] at H; have c11b0 := decide_eq_false c11; clear c11
     by_cases c14 : ((bt a0 x3_1) = 45)
     rotate_left
     ·
      rw [if_neg c14] at H; have c14b0 : ((bt a0 x3_1) == 45) = false := beq_eq_false_iff_ne.mpr c14; have c14b1 : ((bt a0 x3_1) != 45) = true := bne_iff_ne.mpr c14; obtain rfl := Option.some.inj H; have p4 : 0 ≤ (x3_1 : Int) := of_decide_eq_true as_; have q4 : x3_1 < (a0.size : Int) := of_decide_eq_true as_
      have hx4 := bt_at a0 x3_1; replace p4 := eq_true p4; replace q4 := eq_true q4
      go_wp2
      go_ret
      exact ⟨rf_, dr_⟩
     rw [if_pos c14] at H; have c14b0 : ((bt a0 x3_1) == 45) = true := beq_iff_eq.mpr c14; have c14b1 : ((bt a0 x3_1) != 45) = false := bne_eq_false_iff_eq.mpr c14; clear c14; have H' := Aside0.mk H; clear H; have p4 : 0 ≤ (x3_1 : Int) := of_decide_eq_true as_; have q4 : x3_1 < (a0.size : Int) := of_decide_eq_true as_
     have hx4 := bt_at a0 x3_1; replace p4 := eq_true p4; replace q4 := eq_true q4
     go_wp2
     go_roundg k1
     case measure => have := HK1.out; omega
     case rel => exact ⟨(wrap64 (x3_1 + 1)), rf_, H', ⟨ho_ HK1⟩, dr_⟩
    rw [if_pos c11] at H; have c11b0 := decide_eq_true c11; clear c11
    by_cases c12 : (bt a0 x3_1) ≤ 57
    ·
     rw [if_pos c12] at H; have c12b0 := decide_eq_true c12; clear c12; have H' := Aside0.mk H; clear H; have p4 : 0 ≤ (x3_1 : Int) := of_decide_eq_true as_; have q4 : x3_1 < (a0.size : Int) := of_decide_eq_true as_; have hx4 := bt_at a0 x3_1; replace p4 := eq_true p4; replace q4 := eq_true q4
     go_wp2
     go_roundg k1
     case measure => have := HK1.out; omega
     case rel => exact ⟨(wrap64 (x3_1 + 1)), rf_, H', ⟨ho_ HK1⟩, dr_⟩
    rw [if_neg c12] at H; have c12b0 := decide_eq_false c12; clear c12
    by_cases c13 : ((bt a0 x3_1) = 45)
    rotate_left
    ·
     rw [if_neg c13] at H; have c13b0 : ((bt a0 x3_1) == 45) = false := beq_eq_false_iff_ne.mpr c13; have c13b1 : ((bt a0 x3_1) != 45) = true := bne_iff_ne.mpr c13; obtain rfl := Option.some.inj H; have p4 : 0 ≤ (x3_1 : Int) := of_decide_eq_true as_; have q4 : x3_1 < (a0.size : Int) := of_decide_eq_true as_
     have hx4 := bt_at a0 x3_1; replace p4 := eq_true p4; replace q4 := eq_true q4
     go_wp2
     go_ret
     exact ⟨rf_, dr_⟩
    rw [if_pos c13] at H; have c13b0 : ((bt a0 x3_1) == 45) = true := beq_iff_eq.mpr c13; have c13b1 : ((bt a0 x3_1) != 45) = false := bne_eq_false_iff_eq.mpr c13; clear c13; have H' := Aside0.mk H; clear H; have p4 : 0 ≤ (x3_1 : Int) := of_decide_eq_true as_; have q4 : x3_1 < (a0.size : Int) := of_decide_eq_true as_
    have hx4 := bt_at a0 x3_1; replace p4 := eq_true p4; replace q4 := eq_true q4
    go_wp2
    go_roundg k1
    case measure => have := HK1.out; omega
    case rel => exact ⟨(wrap64 (x3_1 + 1)), rf_, H', ⟨ho_ HK1⟩, dr_⟩
   rw [if_pos c5] at H; have c5b0 := decide_eq_true c5; clear c5
   by_cases c6 : (bt a0 x3_1) ≤ 122
   ·
    rw [if_pos c6] at H; have c6b0 := decide_eq_true c6; clear c6; have H' := Aside0.mk H; clear H; have p4 : 0 ≤ (x3_1 : Int) := of_decide_eq_true as_; have q4 : x3_1 < (a0.size : Int) := of_decide_eq_true as_; have hx4 := bt_at a0 x3_1; replace p4 := eq_true p4; replace q4 := eq_true q4
    go_wp2
    go_roundg k1
    case measure => have := HK1.out; omega
    case rel => exact ⟨(wrap64 (x3_1 + 1)), rf_, H', ⟨ho_ HK1⟩, dr_⟩
   rw [if_neg c6] at H; have c6b0 := decide_eq_false c6; clear c6
   by_cases c7 : (bt a0 x3_1) ≥ 48
   rotate_left
   ·
    rw [if_neg c7] at H; have c7b0 := decide_eq_false c7; clear c7
    by_cases c10 : ((bt a0 x3_1) = 45)
    rotate_left
    ·
     rw [if_neg c10] at H; have c10b0 : ((bt a0 x3_1) == 45) = false := beq_eq_false_iff_ne.mpr c10; have c10b1 : ((bt a0 x3_1) != 45) = true := bne_iff_ne.mpr c10; obtain rfl := Option.some.inj H; have p4 : 0 ≤ (x3_1 : Int) := of_decide_eq_true as_; have q4 : x3_1 < (a0.size : Int) := of_decide_eq_true as_
     have hx4 := bt_at a0 x3_1; replace p4 := eq_true p4; replace q4 := eq_true q4
     go_wp2
     go_ret
     exact ⟨rf_, dr_⟩
    rw [if_pos c10] at H; have c10b0 : ((bt a0 x3_1) == 45) = true := beq_iff_eq.mpr c10; have c10b1 : ((bt a0 x3_1) != 45) = false := bne_eq_false_iff_eq.mpr c10; clear c10; have H' := Aside0.mk H; clear H; have p4 : 0 ≤ (x3_1 : Int) := of_decide_eq_true as_; have q4 : x3_1 < (a0.size : Int) := of_decide_eq_true as_
    have hx4 := bt_at a0 x3_1; replace p4 := eq_true p4; replace q4 := eq_true q4
    go_wp2
    go_roundg k1
    case measure => have := HK1.out; omega
    case rel => exact ⟨(wrap64 (x3_1 + 1)), rf_, H', ⟨ho_ HK1⟩, dr_⟩
   rw [if_pos c7] at H; have c7b0 := decide_eq_true c7; clear c7
   by_cases c8 : (bt a0 x3_1) ≤ 57
   ·
    rw [if_pos c8] at H; have c8b0 := decide_eq_true c8; clear c8; have H' := Aside0.mk H; clear H; have p4 : 0 ≤ (x3_1 : Int) := of_decide_eq_true as_; have q4 : x3_1 < (a0.size : Int) := of_decide_eq_true as_; have hx4 := bt_at a0 x3_1; replace p4 := eq_true p4; replace q4 := eq_true q4
    go_wp2
    go_roundg k1
    case measure => have := HK1.out; omega
    case rel => exact ⟨(wrap64 (x3_1 + 1)), rf_, H', ⟨ho_ HK1⟩, dr_⟩
   rw [if_neg c8] at H; have c8b0 := decide_eq_false c8; clear c8
   by_cases c9 : ((bt a0 x3_1) = 45)
   rotate_left
   ·
    rw [if_neg c9] at H; have c9b0 : ((bt a0 x3_1) == 45) = false := beq_eq_false_iff_ne.mpr c9; have c9b1 : ((bt a0 x3_1) != 45) = true := bne_iff_ne.mpr c9; obtain rfl := Option.some.inj H; have p4 : 0 ≤ (x3_1 : Int) := of_decide_eq_true as_; have q4 : x3_1 < (a0.size : Int) := of_decide_eq_true as_
    have hx4 := bt_at a0 x3_1; replace p4 := eq_true p4; replace q4 := eq_true q4
    go_wp2
    go_ret
    exact ⟨rf_, dr_⟩
   rw [if_pos c9] at H; have c9b0 : ((bt a0 x3_1) == 45) = true := beq_iff_eq.mpr c9; have c9b1 : ((bt a0 x3_1) != 45) = false := bne_eq_false_iff_eq.mpr c9; clear c9; have H' := Aside0.mk H; clear H; have p4 : 0 ≤ (x3_1 : Int) := of_decide_eq_true as_; have q4 : x3_1 < (a0.size : Int) := of_decide_eq_true as_
   have hx4 := bt_at a0 x3_1; replace p4 := eq_true p4; replace q4 := eq_true q4
   go_wp2
   go_roundg k1
   case measure => have := HK1.out; omega
   case rel => exact ⟨(wrap64 (x3_1 + 1)), rf_, H', ⟨ho_ HK1⟩, dr_⟩

/-! ### haberdashref10_in: function 65 -/
def haberdashref10_in.f (a0 : Int) (a1 : Int) : Option (Bool) := if a0 ≥ 0 then (some (decide (a0 ≤ a1))) else (some false)
set_option maxHeartbeats 8000000 in
set_option maxRecDepth 100000 in
theorem haberdashref10_in.calls (a0 : Int) (a1 : Int) (r : Bool) (w : World) (h : haberdashref10_in.f a0 a1 = some r) :
 Calls Try.prog 65 #[.int .i64 a0, .int .i64 a1] w fun e w' => e = .returned (.bool r) ∧ Drawn0 w w' := by
 have H : (if a0 ≥ 0 then (some (decide (a0 ≤ a1))) else (some false)) = some r := h
 clear h
 by_cases c3 : a0 ≥ 0
 rotate_left
 ·
  rw [if_neg c3] at H; have c3b0 := decide_eq_false c3; clear c3; obtain rfl := Option.some.inj H
  go_enter Try.func65, Try.ntmps65
  go_wp2
  go_ret
  exact ⟨rf_, dr_⟩
 rw [if_pos c3] at H
 have c3b0 := decide_eq_true c3
 clear c3
 obtain rfl := Option.some.inj H
 go_enter Try.func65, Try.ntmps65
 go_wp2
 go_ret
 exact ⟨rf_, dr_⟩

end Go.Proofs.Ytmiamdnhofjifaa.Rw
end
