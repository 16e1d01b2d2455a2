/- The statement PromoMany: so many promos, codes, parts and tiers, and no more. -/
import Derived.Test.YtdmeepjefccpgaaProg
import Derived.Below
import Derived.Deep.Draws
import Derived.Deep.AppendLies
import Derived.Maps.AppendAt
import Derived.OwnWalk
import Derived.Laws.BytesArg
import Derived.Laws.MakeOwn
import Derived.Laws.OwnMore
import Derived.Deep.OwnRows
import Derived.Tactics
import Derived.Lib.ConvBytes
import Derived.Laws.Slices
import Derived.WalkKit
import Derived.KernelRfl
import Derived.RowKit3
import Derived.Deep.LoopGhost
import Derived.Deep.QuietTactic
import Derived.BigQuiet
import Derived.WideLaws
import Derived.Deep.DeepCutAuto
import Derived.Deep.CutBlock
import Derived.Deep.RegionHeld3
import Derived.Laws.Rows
import Derived.Lib.AppendStr
import Derived.ArgAppend
import Derived.Laws.IdiomCopy
import Derived.OrdersHeld
import Derived.Laws.BitsLemmas
import Derived.RowKit
import Derived.BigRegion
import Derived.Outline
import Derived.RegionTactic
import Derived.StillTailTactics
import Derived.Deep.RegionLaw
import Derived.Test.YtdmeepjefccpgaaVPMany
import Derived.Test.YtdmeepjefccpgaaVModP
set_option linter.unusedVariables false
set_option linter.unusedSimpArgs false
namespace Go.Proofs.Ytdmeepjefccpgaa.LPN
open Go Go.RowKit Go.Proofs.YtdmeepjefccpgaaW.PrintWords Go.Proofs.YtdmeepjefccpgaaW.PrintLast Go.Proofs.YtdmeepjefccpgaaW.PrintMore Go.Proofs.Ytdmeepjefccpgaa.Rw Go.Proofs.Ytdmeepjefccpgaa.EP Go.Proofs.Ytdmeepjefccpgaa.PP Go.Proofs.Ytdmeepjefccpgaa.HO Go.Proofs.Ytdmeepjefccpgaa.PMn
open Go.Proofs.Ytdmeepjefccpgaa.HA12 (awake_calls)
open Go.Proofs.Ytdmeepjefccpgaa.MP (md md_range mod_f)
theorem u8_ok {x : Int} (h0 : 0 ≤ x) (h1 : x < 256) : IntKind.u8.wrap x = x := by
  rw [IntKind.wrap_u8]
  exact Int.emod_eq_of_lt h0 h1
theorem add0 (g n : Nat) : (⟨g, 0, none⟩ : Addr).add n = ⟨g, n, none⟩ := by
  unfold Addr.add
  split <;> simp_all
theorem krow' (w : World) (g : Nat) (cs : Array Value) : Kept w (w.setRow g cs) (fun k => k = g) := ⟨by rw [Go.size_setRow]; exact Nat.le_refl _, fun i _ h => Go.setRow_other w g i cs h⟩
theorem brow' {w W : World} {g : Nat} {cs : Array Value} (h : Below w.heap.size w W) (hg : w.heap.size ≤ g) : Below w.heap.size w (W.setRow g cs) := ⟨h.os, h.tape, h.output, by rw [Go.size_setRow]; exact h.size, fun i hi => (Go.setRow_other _ _ _ _ (by omega)).trans (h.block i hi)⟩
def T22 : Bool × List (List Nat × List Nat) := (true, [([], []), ([0, 0], [0]), ([1], [1]), ([1], [1]), ([3, 1], [1, 3]), ([2, 4, 1], [1, 2, 4]), ([1, 5], [1, 5]), ([6, 1], [6]), ([7], [7]), ([8, 7, 7], [7, 8]), ([9, 7], [7, 9]), ([7, 10], [7, 10]), ([11, 9], [11]), ([12], [12]), ([13, 12, 12], [12, 13]), ([12], [12]), ([15, 12], [12, 15]), ([16, 12], [12, 16]), ([14, 17, 12], [12, 14, 17]), ([12, 18], [12, 18]), ([19, 14], [19]), ([20], [20]), ([21, 20, 20], [20, 21]), ([20], [20]), ([23, 20], [20, 23]), ([24, 20], [20, 24]), ([25, 20], [20, 25]), ([22, 26, 20], [20, 22, 26]), ([20, 27], [20, 27]), ([28, 22], [28]), ([29], [29]), ([30, 29, 29], [29, 30]), ([29], [29]), ([32, 29], [29, 32]), ([33, 29], [29, 33]), ([34, 29], [29, 34]), ([31, 35, 29], [29, 31, 35]), ([29, 36], [29, 36]), ([37, 31, 0, 1, 2, 3, 4, 5, 6, 7, 8, 9, 10, 11, 12, 13, 14, 15, 16, 17, 18, 19, 20, 21, 22, 23, 24, 25, 26, 27, 28, 29, 30, 31, 32, 33, 34, 35, 36, 37], [37])])
def B22 : List Nat := [0, 1, 3, 3, 11, 31, 63, 127, 255, 511, 1023, 2047, 4095, 8191, 16383, 8191, 40959, 106495, 262143, 524287, 1048575, 2097151, 4194303, 2097151, 10485759, 27262975, 60817407, 134217727, 268435455, 536870911, 1073741823, 2147483647, 1073741823, 5368709119, 13958643711, 31138512895, 68719476735, 137438953471, 274877906943]
theorem tab22 : rtab .any (opsOf Try.f10 22) = T22 := by kernel_rfl
theorem bits22 : waitsOk T22.2 B22 = true := by kernel_rfl
set_option maxRecDepth 100000 in
set_option maxHeartbeats 16000000 in
theorem many' (n tw : Int) (w : World) : Calls Try.prog 10 #[.int .i64 n, .int .i64 tw] w fun e w' => e = .returned (.bool true) ∧ Below w.heap.size w w' := by
  have hu60 := Try.underlying60
  have HB := Aside0.mk (Below.refl w.heap.size w)
  obtain ⟨q, hq, hq3⟩ : ∃ q : Nat, md n 3 = (q : Int) ∧ q < 3 := ⟨(md n 3).toNat, by have := md_range n 3 (by omega); omega, by have := md_range n 3 (by omega); omega⟩
  have hM := mod_f n 3 (by omega) (by omega)
  rw [hq] at hM
  have HM := Aside0.mk hM
  have HQ := Aside0.mk hq3
  obtain ⟨m, hm⟩ : ∃ m : Nat, m = 59 + q := ⟨_, rfl⟩
  have hwm : 59 + (q : Int) = (m : Int) := by omega
  have HMQ := Aside0.mk hm
  have HWM := Aside0.mk hwm
  clear hq hM hm hwm
  go_enter Try.func10, Try.ntmps10
  go_wp2_with fail
  refine (haberdashplay_Mod.calls n 3 q _ HM.out).mono ?_
  rintro e w1 ⟨rfl, nd, rfl⟩
  replace HB := Aside0.mk (pw_below_drewN HB.out nd)
  generalize w.drewN nd = w1 at HB ⊢
  go_wp2_with fail
  rw [HWM.out]
  go_loopw [6, 7] (fun v x wr => ∃ j : Nat, x = .int .i64 j ∧ Aside0 (j ≤ m) ∧ Aside0 (Kd.R k60 60 wr w.heap.size (fun _ => True) v (ps j)) ∧ Aside0 (Below w.heap.size w wr)) (fun _ x _ => m - (intOf x).toNat)
  case atStart => exact ⟨0, rfl, ⟨Nat.zero_le _⟩, ⟨Kd.R_nil _ _ _ _ _⟩, HB⟩
  case round =>
  clear HB
  obtain ⟨j, rfl, HJ, HO, HB⟩ := hrel
  have hm61 : m ≤ 61 := by have h1 := HMQ.out; have h2 := HQ.out; omega
  by_cases hlt : j < m
  · have hd : decide ((j : Int) < (m : Int)) = true := decide_eq_true (by omega)
    have hdn : decide (j < m) = true := decide_eq_true hlt
    have HLT := Aside0.mk hlt
    have hj61 : j ≤ 61 := by omega
    have NL : Aside0 ((ps j).length = j) := ⟨ps_len j⟩
    obtain ⟨Y, hY⟩ : ∃ y : List Int, y = [97 + (j : Int) / 10, 48 + (j : Int) % 10] := ⟨_, rfl⟩
    have NY := Aside0.mk hY
    obtain ⟨r1, hr1⟩ : ∃ y, y = ps (j + 1) := ⟨_, rfl⟩
    obtain ⟨r0, hr0⟩ : ∃ y, y = ps j := ⟨_, rfl⟩
    rw [← hr0] at HO NL
    have NR1 : Aside0 (r1 = r0 ++ [(⟨strOfNums Y, 1, 0, ⟨#[]⟩, ⟨#[]⟩, false, ⟨[], []⟩, 0, 1, 0, 0, 0, [], []⟩ : S60)]) := ⟨by rw [hr1, hr0, ps_succ, hY]; rfl⟩
    have NR2 := Aside0.mk hr1
    clear hY hr1 hr0
    have h1 : wrap64 ((j : Int) / 10) = (j : Int) / 10 := MP.wrap_ok (by omega) (by omega)
    have h2 : IntKind.u8.wrap ((j : Int) / 10) = (j : Int) / 10 := u8_ok (by omega) (by omega)
    have h3 : IntKind.u8.wrap (97 + (j : Int) / 10) = 97 + (j : Int) / 10 := u8_ok (by omega) (by omega)
    have h4 : (j : Int).tmod 10 = (j : Int) % 10 := Int.tmod_eq_emod_of_nonneg (by omega)
    have h5 : IntKind.u8.wrap ((j : Int) % 10) = (j : Int) % 10 := u8_ok (by omega) (by omega)
    have h6 : IntKind.u8.wrap (48 + (j : Int) % 10) = 48 + (j : Int) % 10 := u8_ok (by omega) (by omega)
    have hjl : j < 9223372036854775807 := by omega
    clear hlt HJ
    go_wp2_with (first | ((with_reducible refine gate_dst (N := 32) rfl ?_); refine Kd.R_lit (Kd.int .u8) _ 5 rf_ (N := 32) rf_ (xs := ([97 + (j : Int) / 10, 48 + (j : Int) % 10] : List Int)) (inner := [.int .u8 (97 + (j : Int) / 10), .int .u8 (48 + (j : Int) % 10)]) (ok := fun _ => True) (okp := fun _ => True) lr_ ?hp (fun _ hk => hk) trivial (Below.refl _ _) (Nat.le_refl _) (by simp) ?_; (case hp => exact (Reps.one (show Kd.M (Kd.int .u8) _ _ _ (97 + (j : Int) / 10) [.int .u8 (97 + (j : Int) / 10)] from rfl) (Reps.one (show Kd.M (Kd.int .u8) _ _ _ (48 + (j : Int) % 10) [.int .u8 (48 + (j : Int) % 10)] from rfl) (Reps.none _ _)))); intro vb wb ho hb hg_ hnew_; clear hg_ hnew_; rw [← NY.out] at ho; replace HO := Aside0.mk (Kd.R_below (ro_ HO) hb); have HY := Aside0.mk (Kd.R_lower ho (below_size (hb0_ HB))); replace HB := Aside0.mk (below_step (hb0_ HB) hb); clear hb ho; have hcv := own_string (P := Try.prog) Try.underlying50 Try.underlying5 Try.underlying9 (Kd.own_of_R HY.out)) | ((with_reducible refine gate_builtin (b := .append) (xs := #[.tmp 23, .tmp 35]) rfl ?_); at_builtin; refine Kd.R_append k60 (w0 := w) w.heap.size rfl (.tmp 23) (.tmp 35) 23 60 (.agg #[(.string ⟨#[]⟩), (.int .i64 0), (.int .i64 0), (.string ⟨#[]⟩), (.string ⟨#[]⟩), (.bool false), (.slice none 0 0), (.slice none 0 0), (.int .i64 0), (.int .i64 0), (.int .i64 0), (.int .i64 0), (.int .i64 0), (.slice none 0 0), (.slice none 0 0)]) 208 rfl Try.underlying23 info60 rfl (by decide) (by omega) u6 r0 (⟨strOfNums Y, 1, 0, ⟨#[]⟩, ⟨#[]⟩, false, ⟨[], []⟩, 0, 1, 0, 0, 0, [], []⟩ : S60) [.string (strOfNums Y), .int .i64 1, .int .i64 0, .string ⟨#[]⟩, .string ⟨#[]⟩, .bool false, .slice none 0 0, .slice none 0 0, .int .i64 0, .int .i64 1, .int .i64 0, .int .i64 0, .int .i64 0, .slice none 0 0, .slice none 0 0] (fun _ => True) (fun _ => False) rfl (by first | (go_simp; done) | (go_simp; rfl)) ?aP (fun _ hk => hk.elim) ?aF ?aO ?aB ?aS ?aL ?_; (case aP => exact k60_mkM _ _ _ (⟨strOfNums Y, 1, 0, ⟨#[]⟩, ⟨#[]⟩, false, ⟨[], []⟩, 0, 1, 0, 0, 0, [], []⟩ : S60) (Kd.R_nil _ _ _ _ _) (Kd.R_nil _ _ _ _ _) (Kd.R_nil _ _ _ _ _) (Kd.R_nil _ _ _ _ _)); (case aB => exact HB.out); (case aF => exact (fun _ _ => trivial)); (case aO => exact HO.out); (case aS => exact (below_size HB.out)); (case aL => have := NL.out; omega); intro v2 wc ho hb hg hat; rw [← NR1.out] at ho; clear HB HO; have HB := Aside0.mk hb; have HO := Aside0.mk ho; clear ho hb hg hat; obtain ⟨A2, q2, e2⟩ := Kd.R_slice HO.out; subst e2))
    go_roundw
    case rel => exact ⟨j + 1, rfl, HLT, ⟨by rw [← NR2.out]; exact HO.out⟩, HB⟩
    case measure => have := HLT.out; simp [intOf]; omega
  · have hd : decide ((j : Int) < (m : Int)) = false := decide_eq_false (by omega)
    have hdn : decide (j < m) = false := decide_eq_false hlt
    obtain rfl : j = m := by have := HJ.out; omega
    clear hlt HJ
    obtain ⟨l, hl⟩ : ∃ l, l = ps j := ⟨_, rfl⟩
    rw [← hl] at HO
    have HLL : Aside0 (l.length = j) := ⟨by rw [hl]; exact ps_len j⟩
    have HPS := Aside0.mk hl
    clear hl
    obtain ⟨g, c6, rfl, hg6, hg7, _⟩ := Kd.R_form HO.out (by rw [HLL.out]; have := HMQ.out; omega)
    obtain ⟨b1, hb1⟩ : ∃ b, promosOk l = b := ⟨_, rfl⟩
    have HB1 := Aside0.mk hb1
    clear hb1
    go_wp2_with fail
    refine (all_walk (Kd.R_reads' HO.out).2.2 (Kd.R_reads' HO.out).2.1).mono ?_
    rintro e w2 ⟨rfl, hb⟩
    rw [HB1.out]
    replace HO := Aside0.mk (Kd.R_below HO.out hb)
    replace HB := Aside0.mk (below_step HB.out hb)
    clear hb hd hdn
    have hj1 := mod_f tw ((j : Int) - 1) (by have := HMQ.out; omega) (by omega)
    obtain ⟨kk, hkk, hkj⟩ : ∃ kk : Nat, md tw ((j : Int) - 1) = (kk : Int) ∧ kk + 1 < j := ⟨(md tw ((j : Int) - 1)).toNat, by have h := md_range tw ((j : Int) - 1) (by have := HMQ.out; omega); omega, by have h := md_range tw ((j : Int) - 1) (by have := HMQ.out; omega); have := HMQ.out; omega⟩
    rw [hkk] at hj1
    have HJ1 := Aside0.mk hj1; have HKJ := Aside0.mk hkj
    clear hkk hj1
    go_wp2_with fail
    refine (haberdashplay_Mod.calls tw ((j : Int) - 1) kk _ HJ1.out).mono ?_
    rintro e w3 ⟨rfl, nd, rfl⟩
    replace HB := Aside0.mk (pw_below_drewN HB.out nd)
    replace HO := Aside0.mk (Kd.R_drewN HO.out nd)
    generalize w2.drewN nd = w3 at HB HO ⊢
    obtain ⟨k, hk⟩ : ∃ k, k = kk + 1 := ⟨_, rfl⟩
    have hwk : 1 + (kk : Int) = (k : Int) := by omega
    have HWK := Aside0.mk hwk
    clear hwk
    go_upto_region 9 with fail
    rw [HWK.out]
    have hk1 : wrap64 ((k : Int) - 1) = (kk : Int) := by rw [MP.wrap_ok (by omega) (by omega)]; omega
    obtain ⟨ad, _, _, _, _, _, _, _, _, ead, x0, _⟩ := at_T60 (Kd.R_reads' HO.out).2.2 (kk : Int) (by omega) (by have := HLL.out; omega)
    obtain rfl : (⟨g, 0, none⟩ : Addr) = ad := by injection ead
    rw [Int.toNat_natCast] at x0
    obtain ⟨s, hs⟩ : ∃ s, (rd_T60 l (kk : Int)).f0 = s := ⟨_, rfl⟩
    rw [hs] at x0
    replace x0 : w3.cell? ⟨g, kk * 15, none⟩ = some (.string s) := by rw [add0] at x0; exact x0
    have HSS := Aside0.mk hs
    clear hs ead
    have p_ : (0 ≤ (kk : Int)) = True := eq_true (by omega)
    have q_ : ((kk : Int) < (l.length : Int)) = True := eq_true (by have := HLL.out; omega)
    have p2_ : (0 ≤ (k : Int)) = True := eq_true (by omega)
    have q2_ : ((k : Int) < (l.length : Int)) = True := eq_true (by have := HLL.out; omega)
    have HKK := Aside0.mk hk
    clear hk hkj
    obtain ⟨c, hcl, hcM, hcc⟩ := Kd.R_getA HO.out z60 (k : Int) (by omega) (by have h1 := HLL.out; have h2 := HKK.out; have h3 := HKJ.out; omega)
    obtain ⟨v6, v7, v13, v14, hce, e6, e7, e13, e14⟩ := k60_openM hcM
    have HCL := Aside0.mk hcl; have HCC := Aside0.mk hcc; have E6 := Aside0.mk e6; have E7 := Aside0.mk e7; have E13 := Aside0.mk e13; have E14 := Aside0.mk e14; have HCE := Aside0.mk hce
    clear hcl hcM hcc hce e6 e7 e13 e14
    obtain ⟨x', hx'⟩ : ∃ x' : S60, x' = { l.getD (k : Int).toNat z60 with f0 := s } := ⟨_, rfl⟩
    have HX' := Aside0.mk hx'
    clear hx'
    go_wp2_with (first | (refine Kd.R_store k60 (w0 := w) w.heap.size rfl rfl 9 (.tmp 53) (.tmp 51) rfl 60 (g := g) (n := l.length) (cap := c6) (o' := k * 15) (k : Int) 0 l x' (.string s) [.string s] c (fun _ => True) (fun k_ => True ∧ some k_ ≠ (Value.slice (some ⟨g, 0, none⟩) l.length c6).ownBlock) rfl ?hoff rfl rfl (by kernel_rfl) ?h1 HO.out ?h0 ?hi HCL.out ?hcc ?hj ?hM ?hokp HB.out ?_; (case hoff => first | (show k * 15 = k * 15 + 0; omega) | (show 0 + k * 15 = k * 15 + 0; omega)); (case h1 => simp [Value.oneCell']); (case h0 => omega); (case hi => have := of_eq_true q2_; exact this); (case hcc => exact fun j_ u_ h_ => by have h2_ := HCC.out j_ u_ h_; rw [add0] at h2_; exact h2_); (case hj => exact (show 1 ≤ 15 by decide)); (case hM => rw [HCE.out, HX'.out]; exact k60_mkM _ _ _ ({ l.getD (k : Int).toNat z60 with f0 := s } : S60) E6.out E7.out E13.out E14.out); (case hokp => exact fun k_ hk => ⟨trivial, fun e_ => hk.2 (by rw [e_]; rfl)⟩); intro w4 ho hb hg; clear HO HB HCL HCC E6 E7 E13 E14 HCE; have HO := Aside0.mk ho; have HB := Aside0.mk hb; clear ho hb hg x0 p_ q_ p2_ q2_ hk1) | ((with_reducible refine gate_dst (N := 54) rfl ?_); refine Kd.R_lit Kd.string (w0 := w) w.heap.size 9 rf_ (N := 54) rf_ (xs := ([⟨#[97]⟩, ⟨#[98]⟩, ⟨#[99]⟩, ⟨#[100]⟩, ⟨#[101]⟩] : List ByteArray)) (inner := [.string ⟨#[97]⟩, .string ⟨#[98]⟩, .string ⟨#[99]⟩, .string ⟨#[100]⟩, .string ⟨#[101]⟩]) (ok := fun _ => True) (okp := fun _ => True) lr_ ?hp (fun _ hk => hk) trivial HB.out (below_size HB.out) (by simp) ?_; (case hp => exact (Reps.one (show Kd.M Kd.string _ _ _ ⟨#[97]⟩ [.string ⟨#[97]⟩] from rfl) (Reps.one (show Kd.M Kd.string _ _ _ ⟨#[98]⟩ [.string ⟨#[98]⟩] from rfl) (Reps.one (show Kd.M Kd.string _ _ _ ⟨#[99]⟩ [.string ⟨#[99]⟩] from rfl) (Reps.one (show Kd.M Kd.string _ _ _ ⟨#[100]⟩ [.string ⟨#[100]⟩] from rfl) (Reps.one (show Kd.M Kd.string _ _ _ ⟨#[101]⟩ [.string ⟨#[101]⟩] from rfl) (Reps.none _ _))))))); intro vc wc ho hb hg_ hnew_; have HCS := Aside0.mk ho; replace HO := Aside0.mk (Kd.R_grown (row := none) HO.out hg_ (fun _ _ => by simp)); replace HB := Aside0.mk hb; clear hb ho hg_ hnew_; obtain ⟨g10, c10, e10, _⟩ := Kd.R_form HCS.out (by simp); subst e10))
    refine (haberdashplay_Mod.calls n 3 q _ HM.out).mono ?_
    rintro e w5 ⟨rfl, nd, rfl⟩
    replace HB := Aside0.mk (pw_below_drewN HB.out nd)
    replace HO := Aside0.mk (Kd.R_drewN HO.out nd)
    replace HCS := Aside0.mk (Kd.R_drewN HCS.out nd)
    generalize World.drewN _ nd = w5 at HB HO HCS ⊢
    obtain ⟨i9, hi9, _⟩ := Option.map_eq_some_iff.1 info9
    obtain ⟨cl, hcl⟩ : ∃ cl, cl = csS.take (3 + q) := ⟨_, rfl⟩
    have HCL : Aside0 (cl = csS.take (3 + q)) := ⟨hcl⟩
    have hll : cl.length = 3 + q := by rw [hcl, List.length_take]; have := HQ.out; show min (3 + q) 5 = _; omega
    have HLC := Aside0.mk hll
    have hcut := cut_to (P := Try.prog) 54 9 .i64 Try.underlying54 hi9 (some (⟨g10, 0, none⟩ : Addr)) 5 c10 (3 + (q : Int)) (by omega) (by have := HQ.out; omega) (Kd.R_reads' HCS.out).2.1
    rw [show (3 + (q : Int)).toNat = cl.length by rw [hll]; omega] at hcut
    have CC := Aside0.mk (Kd.C_take (m := 3 + q) (Kd.R_reads' HCS.out).2.2 (by have := HQ.out; show 3 + q ≤ 5; omega))
    have CCC : Aside0 (cl.length ≤ c10) := ⟨by rw [hll]; have h1 := (Kd.R_reads' HCS.out).2.1; have h2 := HQ.out; exact Nat.le_trans (show 3 + q ≤ 5 by omega) h1⟩
    rw [show List.take (3 + q) ([⟨#[97]⟩, ⟨#[98]⟩, ⟨#[99]⟩, ⟨#[100]⟩, ⟨#[101]⟩] : List ByteArray) = cl from hcl.symm] at CC
    clear hcl hll hi9 HCS
    obtain ⟨L2, hL2⟩ : ∃ y, y = l.set (k : Int).toNat x' := ⟨_, rfl⟩
    rw [← hL2] at HO
    have hlen : l.length = L2.length := by rw [hL2, List.length_set]
    rw [hlen] at HO ⊢
    have HL2 : Aside0 (L2 = twice l k) := ⟨by rw [hL2, HX'.out, ← HSS.out]; unfold twice; rw [show kk = k - 1 by have := HKK.out; omega]; rfl⟩
    have HALL : Aside0 (promosOk L2 = false) := ⟨by rw [HL2.out]; exact twice_bad l k (by have := HKK.out; omega) (by have h1 := HLL.out; have h2 := HKK.out; have h3 := HKJ.out; omega)⟩
    have CL := Aside0.mk (Kd.R_reads' HO.out).2.2; have CLC := Aside0.mk (Kd.R_reads' HO.out).2.1
    clear hL2 hlen HO
    have HL := Aside0.mk (Below.refl w5.heap.size w5)
    obtain ⟨NP, hNP⟩ : ∃ y : Nat, y = 2 + q := ⟨_, rfl⟩
    have HNP := Aside0.mk hNP
    clear hNP
    have hwn : 2 + (q : Int) = (NP : Int) := by have := HNP.out; omega
    have HWN := Aside0.mk hwn
    clear hwn
    go_wp2_with fail
    clear hcut
    refine (haberdashplay_Mod.calls n 3 q _ HM.out).mono ?_
    rintro e w6 ⟨rfl, nd, rfl⟩
    replace HL := Aside0.mk (pw_below_drewN HL.out nd)
    generalize World.drewN _ nd = w6 at HL ⊢
    have hwn := HWN.out
    go_wp2_with (first | ((with_reducible refine gate_dst (N := 62) rfl ?_); refine Kd.R_make k65 (w0 := w5) w5.heap.size 65 rfl (N := 62) rfl 57 _ _ rfl (NP : Int) rfl rfl Try.underlying57 (.agg #[(.slice none 0 0), (.slice none 0 0), (.int .i64 0)]) 56 info65 rfl (by decide) (by omega) pt0 (ok := fun _ => True) (okp := fun _ => False) ?hz (fun _ hk => hk.elim) trivial (by omega) (by have h1_ := HNP.out; have h2_ := HQ.out; omega) HL.out (below_size HL.out) ?_; (case hz => exact k65_mkM _ _ _ pt0 (Kd.R_nil _ _ _ _ _) (Kd.R_nil _ _ _ _ _)); intro vp w7 ho hb hg_ hnew_; have HP := Aside0.mk (show Kd.R k65 65 w7 w5.heap.size (fun _ => True) vp (pts NP 0) from ho); replace HL := Aside0.mk hb; clear ho hb hg_ hnew_; obtain ⟨gp, cp, ep, _⟩ := Kd.R_form HP.out (by rw [pts_len]; have := HNP.out; omega); rw [pts_len] at ep; subst ep) | ((with_reducible refine gate_dst (N := 11) rfl ?_); refine box_event rf_ (N := 11) rf_ (cs := #[.string (⟨#[]⟩ : ByteArray), .int .i64 0, .int .i64 0, .string (⟨#[]⟩ : ByteArray), .string (⟨#[]⟩ : ByteArray), .bool false, .slice none 0 0, .slice none 0 0, .int .i64 0, .int .i64 0, .int .i64 0, .int .i64 0, .int .i64 0, .slice none 0 0, .slice none 0 0]) (t := 60) lr_ ?_; intro g11 hg wz hbox hb; have B_g11 := Aside0.mk hbox; have G_g11 := Aside0.mk (ge_ HL hg (hb0_ HL)); have N11 := Aside0.mk (Kd.R_lt HP.out); replace HP := Aside0.mk (Kd.R_below (ro_ HP) hb); replace HL := Aside0.mk (below_step (hb0_ HL) hb); clear hb hbox hg) | (refine wpList_store_row rfl 60 _ _ rfl g11 #[.string ⟨#[97]⟩, .int .i64 4, .int .i64 0, .string ⟨#[]⟩, .string ⟨#[]⟩, .bool false, .slice none 0 0, .slice none 0 0, .int .i64 0, .int .i64 0, .int .i64 0, .int .i64 0, .int .i64 0, .slice (some ⟨gp, 0, none⟩) NP cp, .slice none 0 0] rfl rfl 60 #[.string (⟨#[]⟩ : ByteArray), .int .i64 0, .int .i64 0, .string (⟨#[]⟩ : ByteArray), .string (⟨#[]⟩ : ByteArray), .bool false, .slice none 0 0, .slice none 0 0, .int .i64 0, .int .i64 0, .int .i64 0, .int .i64 0, .int .i64 0, .slice none 0 0, .slice none 0 0] B_g11.out rfl rfl (by simp [Value.oneCell']) ?_; have nB : Aside0 ((World.setRow wz g11 #[.string ⟨#[97]⟩, .int .i64 4, .int .i64 0, .string ⟨#[]⟩, .string ⟨#[]⟩, .bool false, .slice none 0 0, .slice none 0 0, .int .i64 0, .int .i64 0, .int .i64 0, .int .i64 0, .int .i64 0, .slice (some ⟨gp, 0, none⟩) NP cp, .slice none 0 0]).heap[g11]? = some (.cells #[.string ⟨#[97]⟩, .int .i64 4, .int .i64 0, .string ⟨#[]⟩, .string ⟨#[]⟩, .bool false, .slice none 0 0, .slice none 0 0, .int .i64 0, .int .i64 0, .int .i64 0, .int .i64 0, .int .i64 0, .slice (some ⟨gp, 0, none⟩) NP cp, .slice none 0 0] 60 (0, 0))) := ⟨Go.setRow_heap _ _ _ _ _ _ B_g11.out⟩; have nL : Aside0 (Below w5.heap.size w5 (World.setRow wz g11 #[.string ⟨#[97]⟩, .int .i64 4, .int .i64 0, .string ⟨#[]⟩, .string ⟨#[]⟩, .bool false, .slice none 0 0, .slice none 0 0, .int .i64 0, .int .i64 0, .int .i64 0, .int .i64 0, .int .i64 0, .slice (some ⟨gp, 0, none⟩) NP cp, .slice none 0 0])) := ⟨brow' HL.out G_g11.out⟩; have nP := Aside0.mk (Kd.R_mono (ok' := fun _ => True) (Kd.R_kept (Kd.R_types HP.out B_g11.out (by decide)) (krow' wz g11 #[.string ⟨#[97]⟩, .int .i64 4, .int .i64 0, .string ⟨#[]⟩, .string ⟨#[]⟩, .bool false, .slice none 0 0, .slice none 0 0, .int .i64 0, .int .i64 0, .int .i64 0, .int .i64 0, .int .i64 0, .slice (some ⟨gp, 0, none⟩) NP cp, .slice none 0 0]) (fun _ h_ => h_.2)) (fun _ _ => trivial)); clear HL HP B_g11; generalize World.setRow wz g11 #[.string ⟨#[97]⟩, .int .i64 4, .int .i64 0, .string ⟨#[]⟩, .string ⟨#[]⟩, .bool false, .slice none 0 0, .slice none 0 0, .int .i64 0, .int .i64 0, .int .i64 0, .int .i64 0, .int .i64 0, .slice (some ⟨gp, 0, none⟩) NP cp, .slice none 0 0] = w8 at nB nL nP ⊢; have B11 := nB; have HL := nL; have HP := nP; clear nB nL nP; have c13_ := cl_ B11 13))
    clear c13_ hwn
    go_loopw [67] (fun x wr => ∃ i : Nat, x = .int .i64 i ∧ Aside0 (i ≤ NP) ∧ Aside0 (Kd.R k65 65 wr w5.heap.size (fun _ => True) (.slice (some ⟨gp, 0, none⟩) NP cp) (pts NP i)) ∧ Aside0 (wr.heap[g11]? = some (.cells #[.string ⟨#[97]⟩, .int .i64 4, .int .i64 0, .string ⟨#[]⟩, .string ⟨#[]⟩, .bool false, .slice none 0 0, .slice none 0 0, .int .i64 0, .int .i64 0, .int .i64 0, .int .i64 0, .int .i64 0, .slice (some ⟨gp, 0, none⟩) NP cp, .slice none 0 0] 60 (0, 0))) ∧ Aside0 (Below w5.heap.size w5 wr)) (fun x _ => NP - (intOf x).toNat)
    case atStart => exact ⟨0, rfl, ⟨Nat.zero_le _⟩, HP, B11, HL⟩
    case round =>
    clear HP B11 HL
    obtain ⟨i, rfl, HI, HP, B11, HL⟩ := hrel
    by_cases hlt : i < NP
    · have hd : decide ((i : Int) < (NP : Int)) = true := decide_eq_true (by omega)
      have hdn : decide (i < NP) = true := decide_eq_true hlt
      have HLT := Aside0.mk hlt
      have hil : i < 9223372036854775807 := by have h1 := HNP.out; have h2 := HQ.out; omega
      obtain ⟨c, hcl, hcM, hcc⟩ := Kd.R_getA HP.out z65 (i : Int) (by omega) (by omega)
      obtain ⟨v0, v1, hce, e0, e1⟩ := k65_openM hcM
      have HCC1 := Aside0.mk hcl; have HCC2 := Aside0.mk hcc; have E0 := Aside0.mk e0; have E1 := Aside0.mk e1; have HCE := Aside0.mk hce
      clear hcl hcM hcc hce e0 e1
      obtain ⟨x1, hx1⟩ : ∃ x1 : S65, x1 = { (pts NP i).getD (i : Int).toNat z65 with f1 := 1 } := ⟨_, rfl⟩
      have HX1 := Aside0.mk hx1
      clear hx1 hlt HI
      have p_ : (0 ≤ (i : Int)) = True := eq_true (by omega)
      have q_ : ((i : Int) < (NP : Int)) = True := eq_true (by have := HLT.out; omega)
      have c_ := cl_ B11 13
      go_wp2_with (first | (refine Kd.R_store k65 (w0 := w5) w5.heap.size rfl rfl 3 (.tmp 74) _ rfl 65 (g := gp) (n := NP) (cap := cp) (o' := i * 3 + 2) (i : Int) 2 (pts NP i) x1 (.int .i64 1) [.int .i64 1] c (fun _ => True) (fun k_ => True ∧ some k_ ≠ (Value.slice (some ⟨gp, 0, none⟩) NP cp).ownBlock) rfl ?hoff rfl rfl (by kernel_rfl) ?h1 HP.out ?h0 ?hi HCC1.out ?hcc ?hj ?hM ?hokp HL.out ?_; (case hoff => show i * 3 + 2 = i * 3 + 2; rfl); (case h1 => simp [Value.oneCell']); (case h0 => omega); (case hi => exact of_eq_true q_); (case hcc => exact fun j_ u_ h_ => by have h2_ := HCC2.out j_ u_ h_; rw [add0] at h2_; exact h2_); (case hj => exact (show 3 ≤ 3 by decide)); (case hM => rw [HCE.out, HX1.out]; exact k65_mkM _ _ _ ({ (pts NP i).getD (i : Int).toNat z65 with f1 := 1 } : S65) E0.out E1.out); (case hokp => exact fun k_ hk => ⟨trivial, fun e_ => hk.2 (by rw [e_]; rfl)⟩); intro w9 ho hb hg; have nB := Aside0.mk (blk_grown (bk_ B11) hg (Kd.R_ne HP.out B11.out (by decide))); clear HP HL HCC1 HCC2 E0 E1 HCE B11; have HP := Aside0.mk ho; have HL := Aside0.mk hb; have B11 := nB; clear nB ho hb hg p_ q_ c_))
      go_roundw
      case rel => exact ⟨i + 1, rfl, HLT, ⟨by rw [pts]; have h1_ := HP.out; rw [HX1.out] at h1_; exact h1_⟩, B11, HL⟩
      case measure => have := HLT.out; simp [intOf]; omega
    · have hd : decide ((i : Int) < (NP : Int)) = false := decide_eq_false (by omega)
      have hdn : decide (i < NP) = false := decide_eq_false hlt
      obtain rfl : i = NP := by have := HI.out; omega
      clear hlt HI
      obtain ⟨PL, hPL⟩ : ∃ PL, PL = pts i i := ⟨_, rfl⟩
      rw [← hPL] at HP
      have hN : i = PL.length := by rw [hPL, pts_len]
      have HPL := Aside0.mk hPL
      clear hPL
      subst hN
      have CP := Aside0.mk (Kd.R_reads' HP.out).2.2; have CPC := Aside0.mk (Kd.R_reads' HP.out).2.1
      clear HP
      obtain ⟨w9, hw9⟩ : ∃ W, W = wr := ⟨_, rfl⟩
      subst hw9
      have HK := Aside0.mk (Below.refl w9.heap.size w9)
      go_wp2_with (first | ((with_reducible refine gate_dst (N := 13) rfl ?_); refine box_event rf_ (N := 13) rf_ (cs := #[.string (⟨#[]⟩ : ByteArray), .int .i64 0, .int .i64 0, .string (⟨#[]⟩ : ByteArray), .string (⟨#[]⟩ : ByteArray), .bool false, .slice none 0 0, .slice none 0 0, .int .i64 0, .int .i64 0, .int .i64 0, .int .i64 0, .int .i64 0, .slice none 0 0, .slice none 0 0]) (t := 60) lr_ ?_; intro g13 hg wz hbox hb; have B_g13 := Aside0.mk hbox; have G_g13 := Aside0.mk (ge_ HK hg (hb0_ HK)); replace HK := Aside0.mk (below_step (hb0_ HK) hb); clear hb hbox hg) | (refine wpList_store_row rfl 60 _ _ rfl g13 #[.string ⟨#[97]⟩, .int .i64 6, .int .i64 0, .string ⟨#[]⟩, .string ⟨#[]⟩, .bool false, .slice none 0 0, .slice none 0 0, .int .i64 0, .int .i64 0, .int .i64 0, .int .i64 0, .int .i64 0, .slice none 0 0, .slice none 0 0] rfl rfl 60 #[.string (⟨#[]⟩ : ByteArray), .int .i64 0, .int .i64 0, .string (⟨#[]⟩ : ByteArray), .string (⟨#[]⟩ : ByteArray), .bool false, .slice none 0 0, .slice none 0 0, .int .i64 0, .int .i64 0, .int .i64 0, .int .i64 0, .int .i64 0, .slice none 0 0, .slice none 0 0] B_g13.out rfl rfl (by simp [Value.oneCell']) ?_; have nB : Aside0 ((World.setRow wz g13 #[.string ⟨#[97]⟩, .int .i64 6, .int .i64 0, .string ⟨#[]⟩, .string ⟨#[]⟩, .bool false, .slice none 0 0, .slice none 0 0, .int .i64 0, .int .i64 0, .int .i64 0, .int .i64 0, .int .i64 0, .slice none 0 0, .slice none 0 0]).heap[g13]? = some (.cells #[.string ⟨#[97]⟩, .int .i64 6, .int .i64 0, .string ⟨#[]⟩, .string ⟨#[]⟩, .bool false, .slice none 0 0, .slice none 0 0, .int .i64 0, .int .i64 0, .int .i64 0, .int .i64 0, .int .i64 0, .slice none 0 0, .slice none 0 0] 60 (0, 0))) := ⟨Go.setRow_heap _ _ _ _ _ _ B_g13.out⟩; have nL : Aside0 (Below w9.heap.size w9 (World.setRow wz g13 #[.string ⟨#[97]⟩, .int .i64 6, .int .i64 0, .string ⟨#[]⟩, .string ⟨#[]⟩, .bool false, .slice none 0 0, .slice none 0 0, .int .i64 0, .int .i64 0, .int .i64 0, .int .i64 0, .int .i64 0, .slice none 0 0, .slice none 0 0])) := ⟨brow' HK.out G_g13.out⟩; clear HK B_g13; generalize World.setRow wz g13 #[.string ⟨#[97]⟩, .int .i64 6, .int .i64 0, .string ⟨#[]⟩, .string ⟨#[]⟩, .bool false, .slice none 0 0, .slice none 0 0, .int .i64 0, .int .i64 0, .int .i64 0, .int .i64 0, .int .i64 0, .slice none 0 0, .slice none 0 0] = w10 at nB nL ⊢; have B13 := nB; have HK := nL; have G13 := G_g13; clear nB nL))
      go_loopw [14] (fun x wr => ∃ (i : Nat) (v : Value), x = .int .i64 i ∧ Aside0 (i ≤ 5 + q) ∧ Aside0 (Kd.R k67 67 wr w9.heap.size (fun _ => True) v (tis i)) ∧ Aside0 (wr.heap[g13]? = some (.cells #[.string ⟨#[97]⟩, .int .i64 6, .int .i64 0, .string ⟨#[]⟩, .string ⟨#[]⟩, .bool false, .slice none 0 0, .slice none 0 0, .int .i64 0, .int .i64 0, .int .i64 0, .int .i64 0, .int .i64 0, .slice none 0 0, v] 60 (0, 0))) ∧ Aside0 (Below w9.heap.size w9 wr)) (fun x _ => 5 + q - (intOf x).toNat)
      case atStart => exact ⟨0, _, rfl, ⟨Nat.zero_le _⟩, ⟨Kd.R_nil _ _ _ _ _⟩, B13, HK⟩
      case round =>
      clear B13 HK
      obtain ⟨i, v, rfl, HI, HT, B13, HK⟩ := hrel
      obtain ⟨NT, hNT⟩ : ∃ y : Nat, y = 5 + q := ⟨_, rfl⟩
      have hwt : 5 + (q : Int) = (NT : Int) := by omega
      have HNT := Aside0.mk hNT
      rw [← hNT] at HI
      clear hNT
      go_wp2_with fail
      refine (haberdashplay_Mod.calls n 3 q _ HM.out).mono ?_
      rintro e w11 ⟨rfl, nd, rfl⟩
      replace B13 := Aside0.mk (blk_drewN B13.out nd)
      replace HT := Aside0.mk (Kd.R_drewN HT.out nd)
      replace HK := Aside0.mk (pw_below_drewN HK.out nd)
      generalize World.drewN _ nd = w11 at B13 HT HK ⊢
      obtain ⟨TA, tc, rfl⟩ := Kd.R_slice HT.out
      have NL : Aside0 ((tis i).length = i) := ⟨tis_len i⟩
      by_cases hlt : i < NT
      · have hd : decide ((i : Int) < (NT : Int)) = true := decide_eq_true (by omega)
        have hdn : decide (i < NT) = true := decide_eq_true hlt
        have HLT := Aside0.mk hlt
        have hil : i < 9223372036854775807 := by have h1 := HNT.out; have h2 := HQ.out; omega
        obtain ⟨r1, hr1⟩ : ∃ y, y = tis (i + 1) := ⟨_, rfl⟩
        obtain ⟨r0, hr0⟩ : ∃ y, y = tis i := ⟨_, rfl⟩
        rw [← hr0] at HT NL B13
        have NR1 : Aside0 (r1 = r0 ++ [(⟨(i : Int), 0, 1⟩ : S67)]) := ⟨by rw [hr1, hr0]; rfl⟩
        have NR2 := Aside0.mk hr1
        clear hr0 hr1 hlt HI
        have c_ := cl_ B13 14; have f_ := blk_frozen B13.out 14
        go_wp2_with (first | ((with_reducible refine gate_builtin (b := .append) (xs := #[.tmp 85, .tmp 88]) rfl ?_); at_builtin; refine Kd.R_append k67 (w0 := w9) w9.heap.size rfl (.tmp 85) (.tmp 88) 58 67 (.agg #[(.int .i64 0), (.int .i64 0), (.int .i64 0)]) 24 rfl Try.underlying58 info67 rfl (by decide) (by omega) (.slice TA r0.length tc) r0 (⟨(i : Int), 0, 1⟩ : S67) [.int .i64 (i : Int), .int .i64 0, .int .i64 1] (fun _ => True) (fun _ => False) rfl (by first | (go_simp; done) | (go_simp; rfl)) ?aP (fun _ hk => hk.elim) ?aF ?aO ?aB ?aS ?aL ?_; (case aP => exact k67_mkM _ _ _ (⟨(i : Int), 0, 1⟩ : S67)); (case aB => exact HK.out); (case aF => exact (fun _ _ => trivial)); (case aO => exact HT.out); (case aS => exact (below_size HK.out)); (case aL => have := NL.out; have := HLT.out; have := HNT.out; have := HQ.out; omega); intro v2 w12 ho hb hg hat; rw [← NR1.out] at ho; have nB := Aside0.mk (blk_grown (bk_ B13) hg (Kd.R_ne HT.out B13.out (by decide))); clear HK HT B13; have B13 := nB; have HK := Aside0.mk hb; have HT := Aside0.mk ho; clear nB ho hb hg hat; obtain ⟨T2, tc2, e2⟩ := Kd.R_slice HT.out; subst e2; clear c_ f_; have c_ := cl_ B13 14; have f_ := blk_frozen B13.out 14))
        go_roundw
        case rel => exact ⟨i + 1, .slice T2 r1.length tc2, rfl, ⟨by have h1_ := HLT.out; have h2_ := HNT.out; omega⟩, ⟨by rw [← NR2.out]; exact Kd.R_mono (Kd.R_far (p := ⟨g13, 14, none⟩) (Kd.R_types HT.out B13.out (by decide)) (fun _ hk => hk.2) _) (fun _ _ => trivial)⟩, ⟨blk_put B13.out 14 _ rfl⟩, ⟨below_set HK.out (by have := G13.out; exact this)⟩⟩
        case measure => have h1 := HLT.out; have h2 := HNT.out; simp [intOf]; omega
      · have hd : decide ((i : Int) < (NT : Int)) = false := decide_eq_false (by omega)
        have hdn : decide (i < NT) = false := decide_eq_false hlt
        obtain rfl : i = NT := by have := HI.out; omega
        clear hlt HI
        obtain ⟨TL, hTL⟩ : ∃ TL, TL = tis i := ⟨_, rfl⟩
        rw [← hTL] at HT B13
        have HTL := Aside0.mk hTL
        have HTN : Aside0 (TL.length = i) := ⟨by rw [hTL]; exact tis_len i⟩
        clear hTL
        have CT := Aside0.mk (Kd.R_reads' HT.out).2.2; have CTC := Aside0.mk (Kd.R_reads' HT.out).2.1
        clear HT
        go_upto_region 22 with fail
        have B11' := Aside0.mk (blk_below B11.out HK.out)
        replace CL := Aside0.mk (Kd.C_below (Kd.C_below CL.out HL.out) HK.out)
        replace CC := Aside0.mk (Kd.C_below (Kd.C_below CC.out HL.out) HK.out)
        replace CP := Aside0.mk (Kd.C_below CP.out HK.out)
        replace HB := Aside0.mk (below_step (below_step HB.out HL.out) HK.out)
        obtain ⟨b2, hb2⟩ : ∃ b, decide ((j : Int) ≤ 60) = b := ⟨_, rfl⟩
        have hb2' : decide (j ≤ 60) = b2 := by rw [← hb2]; exact decide_eq_decide.2 (by omega)
        obtain rfl : b1 = b2 := by rw [← HB1.out, ← hb2, HPS.out, HMQ.out]; exact ps_ok q HQ.out
        obtain ⟨b3, hb3⟩ : ∃ b, decide ((cl.length : Int) ≤ 4) = b := ⟨_, rfl⟩
        have hb3' : decide (cl.length ≤ 4) = b3 := by rw [← hb3]; exact decide_eq_decide.2 (by omega)
        have F3 : Aside0 (promo_Codes.f 40 cl = some b3) := ⟨by rw [← hb3, HLC.out, HCL.out]; exact cs_ok q HQ.out⟩
        obtain ⟨b4, hb4⟩ : ∃ b, decide ((PL.length : Int) ≤ 3) = b := ⟨_, rfl⟩
        have hb4' : decide (PL.length ≤ 3) = b4 := by rw [← hb4]; exact decide_eq_decide.2 (by omega)
        have F4 : Aside0 (promoOk (⟨⟨#[97]⟩, 4, 0, ⟨#[]⟩, ⟨#[]⟩, false, ⟨[], []⟩, 0, 0, 0, 0, 0, PL, []⟩ : S60) = b4) := ⟨by
          have h1 := bun_ok q HQ.out
          unfold bunS at h1
          have h2 := HNP.out
          have h3 : PL = pts (2 + q) (2 + q) := by rw [← h2]; exact HPL.out
          rw [← hb4, h2, ← h1, h3]⟩
        obtain ⟨b5, hb5⟩ : ∃ b, decide ((TL.length : Int) ≤ 6) = b := ⟨_, rfl⟩
        have hb5' : decide (TL.length ≤ 6) = b5 := by rw [← hb5]; exact decide_eq_decide.2 (by omega)
        have F5 : Aside0 (promoOk (⟨⟨#[97]⟩, 6, 0, ⟨#[]⟩, ⟨#[]⟩, false, ⟨[], []⟩, 0, 0, 0, 0, 0, [], TL⟩ : S60) = b5) := ⟨by
          have h1 := cnt_ok q HQ.out
          unfold cntS at h1
          rw [← hb5, HTN.out, HNT.out, ← h1, HTL.out, HNT.out]⟩
        have HS : Aside0 (Below w11.heap.size w11 w11) := ⟨Below.refl _ _⟩
        clear B11 HK HL
        refine start_ (n := 39) (S := fun w' => Aside0 (Below w11.heap.size w11 w')) (ds := []) (mk 39 0) (by kernel_rfl) rfl rfl ⟨below_drew1 HS.out⟩ (fun hHeld => ?_); refine with_tabW tab22 bits22 (fun HT_ HW_ => ?_)
        replace HS := Aside0.mk (below_drew1 HS.out)
        generalize w11.drew = w12 at HS hHeld ⊢
        refine one_ (i := 0) (N := some 91) (mk 39 1) rfl rfl (on_ HT_) de_ (fun K hK => ?_)
        refine goes_ Try.func28 (by kernel_rfl) rfl #[] (by rfl) rfl rfl am_ ?_
        refine (awake_calls _).mono ?_
        rintro e w7 ⟨rfl, hb⟩
        refine ⟨_, rfl, ?_⟩
        replace HS := Aside0.mk (below_step HS.out hb); clear hb hHeld
        refine hK.out _ _ HS (fun hHeld => ?_)
        clear hK K
        refine norm_ pv_ ?_
        refine ahead_ [(1, 92), (2, 93), (3, 94), (4, 95), (5, 96), (6, 97), (7, 98), (8, 99)] ?_
        iterate 8 (refine pB_ HT_ ?_)
        refine aheadE_ (mk 39 511) kr_ ?_
        refine one_ (i := 9) (N := some 100) (mk 39 1023) rfl rfl (on_ HT_) de_ (fun K hK => ?_)
        refine goes_ Try.func37 (by kernel_rfl) rfl #[.slice (some ⟨g, 0, none⟩) L2.length c6] (by rfl) rfl rfl am_ ?_
        refine (all_walk (Kd.C_below CL.out HS.out) CLC.out).mono ?_
        rintro e w7 ⟨rfl, hb⟩
        rw [HALL.out]
        refine ⟨_, rfl, ?_⟩
        replace HS := Aside0.mk (below_step HS.out hb); clear hb hHeld
        refine hK.out _ _ HS (fun hHeld => ?_)
        clear hK K
        refine norm_ pv_ ?_
        refine ahead_ [(10, 101), (11, 102), (12, 103), (13, 104), (15, 106), (16, 107), (17, 108)] ?_
        iterate 7 (refine pB_ HT_ ?_)
        refine aheadE_ (mk 39 245759) kr_ ?_
        refine one_ (i := 14) (N := some 105) (mk 39 262143) rfl rfl (on_ HT_) de_ (fun K hK => ?_)
        refine goes_ Try.func39 (by kernel_rfl) rfl #[.slice (some ⟨g10, 0, none⟩) cl.length c10] (by rfl) rfl rfl am_ ?_
        refine (promo_Codes.calls 40 (some ⟨g10, 0, none⟩) c10 cl b3 _ (Kd.C_below CC.out HS.out) CCC.out F3.out).mono ?_
        rintro e w7 ⟨rfl, hb⟩
        refine ⟨_, rfl, ?_⟩
        replace hb := hb.below
        replace HS := Aside0.mk (below_step HS.out hb); clear hb hHeld
        refine hK.out _ _ HS (fun hHeld => ?_)
        clear hK K
        refine norm_ pv_ ?_
        refine ahead_ [(18, 109), (19, 110), (20, 111), (23, 114)] ?_
        iterate 4 (refine pB_ HT_ ?_)
        refine aheadE_ (mk 39 10485759) kr_ ?_
        refine take_ (i := 21) (N := some 112) (v := ?_) (a' := ?_) (mk 39 12582911) rfl rfl (tw_ HT_ HW_) nh_ (Or.inl ⟨by rfl, ?_⟩) hHeld ?_ ?_
        rotate_left; (intro w' hs_; have b_ := Aside0.mk (blk_below B11'.out hs_.out); have d0_ := cl_ b_ 0; have d1_ := cl_ b_ 1; have d2_ := cl_ b_ 2; have d3_ := cl_ b_ 3; have d4_ := cl_ b_ 4; have d5_ := cl_ b_ 5; have d6_ := cl_ b_ 6; have d7_ := cl_ b_ 7; have d8_ := cl_ b_ 8; have d9_ := cl_ b_ 9; have d10_ := cl_ b_ 10; have d11_ := cl_ b_ 11; have d12_ := cl_ b_ 12; have d13_ := cl_ b_ 13; have d14_ := cl_ b_ 14; clear hs_; go_simp; with_reducible rfl); rotate_left; (exact pu_)
        refine take_ (i := 24) (N := some 115) (v := ?_) (a' := ?_) (mk 39 29360127) rfl rfl (tw_ HT_ HW_) nh_ (Or.inl ⟨by rfl, ?_⟩) hHeld ?_ ?_
        rotate_left; (intro w' hs_; have b_ := Aside0.mk (blk_below B11'.out hs_.out); have d13_ := cl_ b_ 13; clear hs_; go_simp; with_reducible rfl); rotate_left; (exact pu_)
        refine ahead_ [(25, 116), (26, 117)] ?_
        iterate 2 (refine pB_ HT_ ?_)
        refine aheadE_ (mk 39 130023423) kr_ ?_
        refine one_ (i := 22) (N := some 113) (mk 39 134217727) rfl rfl (on_ HT_) de_ (fun K hK => ?_)
        refine goes_ Try.func30 (by kernel_rfl) rfl #[.agg #[.string ⟨#[97]⟩, .int .i64 4, .int .i64 0, .string ⟨#[]⟩, .string ⟨#[]⟩, .bool false, .slice none 0 0, .slice none 0 0, .int .i64 0, .int .i64 0, .int .i64 0, .int .i64 0, .int .i64 0, .slice (some ⟨gp, 0, none⟩) PL.length cp, .slice none 0 0]] (by rfl) rfl rfl am_ ?_
        refine (right_of (⟨⟨#[97]⟩, 4, 0, ⟨#[]⟩, ⟨#[]⟩, false, ⟨[], []⟩, 0, 0, 0, 0, 0, PL, []⟩ : S60) _ (Nat.le_refl 0) (Kd.C_nil _ _) (Nat.le_refl 0) (Kd.C_nil _ _) CPC.out (Kd.C_below CP.out HS.out) (Nat.le_refl 0) (Kd.C_nil _ _)).mono ?_
        rintro e w7 ⟨rfl, hb⟩
        rw [F4.out]
        refine ⟨_, rfl, ?_⟩
        replace HS := Aside0.mk (below_step HS.out hb); clear hb hHeld
        refine hK.out _ _ HS (fun hHeld => ?_)
        clear hK K
        refine norm_ pv_ ?_
        refine ahead_ [(27, 118), (28, 119), (29, 120), (32, 123)] ?_
        iterate 4 (refine pB_ HT_ ?_)
        refine aheadE_ (mk 39 5368709119) kr_ ?_
        refine take_ (i := 30) (N := some 121) (v := ?_) (a' := ?_) (mk 39 6442450943) rfl rfl (tw_ HT_ HW_) nh_ (Or.inl ⟨by rfl, ?_⟩) hHeld ?_ ?_
        rotate_left; (intro w' hs_; have b_ := Aside0.mk (blk_below B13.out hs_.out); have d0_ := cl_ b_ 0; have d1_ := cl_ b_ 1; have d2_ := cl_ b_ 2; have d3_ := cl_ b_ 3; have d4_ := cl_ b_ 4; have d5_ := cl_ b_ 5; have d6_ := cl_ b_ 6; have d7_ := cl_ b_ 7; have d8_ := cl_ b_ 8; have d9_ := cl_ b_ 9; have d10_ := cl_ b_ 10; have d11_ := cl_ b_ 11; have d12_ := cl_ b_ 12; have d13_ := cl_ b_ 13; have d14_ := cl_ b_ 14; clear hs_; go_simp; with_reducible rfl); rotate_left; (exact pu_)
        refine take_ (i := 33) (N := some 124) (v := ?_) (a' := ?_) (mk 39 15032385535) rfl rfl (tw_ HT_ HW_) nh_ (Or.inl ⟨by rfl, ?_⟩) hHeld ?_ ?_
        rotate_left; (intro w' hs_; have b_ := Aside0.mk (blk_below B13.out hs_.out); have d14_ := cl_ b_ 14; clear hs_; go_simp; with_reducible rfl); rotate_left; (exact pu_)
        refine ahead_ [(34, 125), (35, 126)] ?_
        iterate 2 (refine pB_ HT_ ?_)
        refine aheadE_ (mk 39 66571993087) kr_ ?_
        refine one_ (i := 31) (N := some 122) (mk 39 68719476735) rfl rfl (on_ HT_) de_ (fun K hK => ?_)
        refine goes_ Try.func30 (by kernel_rfl) rfl #[.agg #[.string ⟨#[97]⟩, .int .i64 6, .int .i64 0, .string ⟨#[]⟩, .string ⟨#[]⟩, .bool false, .slice none 0 0, .slice none 0 0, .int .i64 0, .int .i64 0, .int .i64 0, .int .i64 0, .int .i64 0, .slice none 0 0, .slice TA TL.length tc]] (by rfl) rfl rfl am_ ?_
        refine (right_of (⟨⟨#[97]⟩, 6, 0, ⟨#[]⟩, ⟨#[]⟩, false, ⟨[], []⟩, 0, 0, 0, 0, 0, [], TL⟩ : S60) _ (Nat.le_refl 0) (Kd.C_nil _ _) (Nat.le_refl 0) (Kd.C_nil _ _) (Nat.le_refl 0) (Kd.C_nil _ _) CTC.out (Kd.C_below CT.out HS.out)).mono ?_
        rintro e w7 ⟨rfl, hb⟩
        rw [F5.out]
        refine ⟨_, rfl, ?_⟩
        replace HS := Aside0.mk (below_step HS.out hb); clear hb hHeld
        refine hK.out _ _ HS (fun hHeld => ?_)
        clear hK K
        refine norm_ pv_ ?_
        refine ahead_ [(36, 127), (37, 128), (38, 4)] ?_
        iterate 3 (refine pB_ HT_ ?_)
        refine aheadE_ (mk 39 549755813887) kr_ ?_
        refine done_ (done_of HT_.out (by kernel_rfl)) ?_
        try go_wp2
        go_ret
        exact ⟨rfl, below_step HB.out HS.out⟩
def f (n : Nat) (x0 x1 : Int) : Option Bool := some true
theorem calls (n : Nat) (x0 x1 : Int) (y : Bool) (w : World) (h : f n x0 x1 = some y) : Calls Try.prog 10 #[.int .i64 x0, .int .i64 x1] w fun e w' => e = .returned (.bool y) ∧ Below w.heap.size w w' := by
  obtain rfl : true = y := Option.some.inj h
  exact many' x0 x1 w
theorem Pure (x0 x1 : Int) : ∃ k, f k x0 x1 = some true := ⟨0, rfl⟩
end Go.Proofs.Ytdmeepjefccpgaa.LPN
