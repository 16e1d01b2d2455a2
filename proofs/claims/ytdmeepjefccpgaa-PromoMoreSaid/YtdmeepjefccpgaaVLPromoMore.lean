/- The statement PromoMore: more codes bring more promos, in the same order. -/
import Derived.Test.YtdmeepjefccpgaaProg
import Derived.Below
import Derived.Deep.Draws
import Derived.Deep.AppendLies
import Derived.Maps.AppendAt
import Derived.OwnWalk
import Derived.Laws.BytesArg
import Derived.Laws.MakeOwn
import Derived.Laws.OwnMore
import Derived.Deep.OwnRows
import Derived.Tactics
import Derived.Lib.ConvBytes
import Derived.Laws.Slices
import Derived.WalkKit
import Derived.KernelRfl
import Derived.RowKit3
import Derived.Deep.LoopGhost
import Derived.Deep.QuietTactic
import Derived.BigQuiet
import Derived.WideLaws
import Derived.Deep.DeepCutAuto
import Derived.Deep.CutBlock
import Derived.Deep.RegionHeld3
import Derived.Laws.Rows
import Derived.Lib.AppendStr
import Derived.ArgAppend
import Derived.Laws.IdiomCopy
import Derived.OrdersHeld
import Derived.Laws.BitsLemmas
import Derived.RowKit
import Derived.BigRegion
import Derived.Outline
import Derived.RegionTactic
import Derived.StillTailTactics
import Derived.Deep.RegionLaw
import Derived.Test.YtdmeepjefccpgaaVHAwake12
import Derived.Test.YtdmeepjefccpgaaVPMore2
import Derived.Test.YtdmeepjefccpgaaVRwPlQ
set_option linter.unusedVariables false
set_option linter.unusedSimpArgs false
namespace Go.Proofs.Ytdmeepjefccpgaa.LPM
open Go Go.RowKit Go.Proofs.YtdmeepjefccpgaaW.PrintWords Go.Proofs.YtdmeepjefccpgaaW.PrintLast Go.Proofs.YtdmeepjefccpgaaW.PrintMore Go.Proofs.Ytdmeepjefccpgaa.Rw Go.Proofs.Ytdmeepjefccpgaa.EP Go.Proofs.Ytdmeepjefccpgaa.RU Go.Proofs.Ytdmeepjefccpgaa.PP Go.Proofs.Ytdmeepjefccpgaa.HO Go.Proofs.Ytdmeepjefccpgaa.PMo
open Go.Proofs.Ytdmeepjefccpgaa.HA12 (awake_calls)
open Go.Proofs.Ytdmeepjefccpgaa.HSo (idAt)
theorem nameW_ {P : Program} {ops : Array Oper} {rest : List Oper} {a : Act} {Q : Exit → Act → World → Prop} {w : World} (h : ∀ wA, wA = w → wpList P ops Q rest a wA) : wpList P ops Q rest a w := h w rfl
theorem brow' {w W : World} {g : Nat} {cs : Array Value} (h : Below w.heap.size w W) (hg : w.heap.size ≤ g) : Below w.heap.size w (W.setRow g cs) := ⟨h.os, h.tape, h.output, by rw [Go.size_setRow]; exact h.size, fun i hi => (Go.setRow_other _ _ _ _ (by omega)).trans (h.block i hi)⟩
theorem srun' {P : Program} {o : Oper} {a : Act} {w : World} (ty : TypeId) (x y : Operand) (ho : o.op = .store ty x y) (g : Nat) (cells : Array Value) (hx : a.eval x = .pointer (some ⟨g, 0, none⟩)) (hy : a.eval y = .agg cells) (t : TypeId) (old : Array Value) (hg : w.heap[g]? = some (.cells old t (0, 0))) (hi : (P.info? ty).map (·.size) = some cells.size) (hold : old.size = cells.size) (h1 : cells.all (·.oneCell') = true) : (execOp a.eval o).run P w = .ok .skip (w.setRow g cells) := by
  unfold execOp
  simp only [ho, hx, hy, Go.Instr.storeAt, Go.Instr.sureAddr, Go.Sem.run_bind, Go.Sem.run_pure, Go.Result.andThen_ok, Go.run_storeVar_row w g t ty old cells hg hi hold h1]
def T16 : Bool × List (List Nat × List Nat) := (true, [([], []), ([], []), ([1], [1]), ([0, 2], [0, 2]), ([3], [3]), ([4], [4]), ([4], [4]), ([5, 6, 4], [4, 5, 6]), ([7, 4], [4, 7]), ([4], [4]), ([4], [4]), ([9, 10, 4], [4, 9, 10]), ([11, 4], [4, 11]), ([8, 12, 4], [4, 8, 12]), ([4, 13], [4, 13])])
def B16 : List Nat := [0, 0, 2, 7, 15, 31, 31, 127, 255, 31, 31, 1567, 3615, 8191, 16383]
theorem tab16 : rtab .any (opsOf Try.f9 16) = T16 := by kernel_rfl
theorem bits16 : waitsOk T16.2 B16 = true := by kernel_rfl
def T19 : Bool × List (List Nat × List Nat) := (true, [([], []), ([], []), ([], []), ([2], [2]), ([1, 3], [1, 3]), ([4], [4]), ([0, 5], [0, 5]), ([6], [6]), ([], []), ([], []), ([], []), ([9, 10], [9, 10]), ([11], [11]), ([8, 12], [8, 12]), ([13], [13]), ([], []), ([], []), ([15, 7, 0, 1, 2, 3, 4, 5, 6, 7, 15, 16], [7, 15]), ([16, 14, 17, 0, 1, 2, 3, 4, 5, 6, 7, 8, 9, 10, 11, 12, 13, 14, 15, 16, 17], [14, 16])])
def B19 : List Nat := [0, 0, 0, 4, 14, 30, 63, 127, 0, 0, 0, 1536, 3584, 7936, 16128, 0, 0, 98559, 262143]
theorem tab19 : rtab .any (opsOf Try.f9 19) = T19 := by kernel_rfl
theorem bits19 : waitsOk T19.2 B19 = true := by kernel_rfl
set_option maxRecDepth 100000 in
set_option maxHeartbeats 16000000 in
theorem more' {A0 A1 : Option Addr} {c0 c1 : Nat} {l : PL} {codes : List ByteArray} {w : World} (hl : l.length ≤ 9223372036854775807) (hf : ∀ i, i < l.length → fitPm (rd_T60 l (i : Int))) (hcl : fitL codes) (h0 : Kd.C k60 w A0 l.length l) (hc0 : l.length ≤ c0) (h1 : Kd.C Kd.string w A1 codes.length codes) (hc1 : codes.length ≤ c1) :
    Calls Try.prog 9 #[.slice A0 l.length c0, .slice A1 codes.length c1] w fun e w' => e = .returned (.bool true) ∧ Below w.heap.size w w' := by
  have hu60 := Try.underlying60
  obtain ⟨r, hpr, hinv, h6⟩ := promos_x l hl hf
  obtain ⟨kr, hkr⟩ := hpr.rounds
  obtain ⟨cs, hcs, _⟩ := codes_x codes hcl
  obtain ⟨kc, hkc⟩ := hcs.rounds
  have HKR := Aside0.mk hkr; have HKC := Aside0.mk hkc; have HINV := Aside0.mk hinv; have H6 := Aside0.mk h6; have HF := Aside0.mk hf; have HL := Aside0.mk hl
  clear hpr hkr hcs hkc hinv h6 hf hcl hl
  have HR0 := Aside0.mk h0; have HC0 := Aside0.mk hc0; have HR1 := Aside0.mk h1; have HC1 := Aside0.mk hc1
  clear h0 hc0 h1 hc1
  have HB := Aside0.mk (Below.refl w.heap.size w)
  go_enter Try.func9, Try.ntmps9
  obtain ⟨e1, he1⟩ : ∃ b, decide ((l.length : Int) > 30) = b := ⟨_, rfl⟩
  have ke1 : decide (30 < l.length) = e1 := by rw [← he1]; exact decide_eq_decide.2 (by omega)
  obtain ⟨e2, he2⟩ : ∃ b, decide ((codes.length : Int) > 30) = b := ⟨_, rfl⟩
  have ke2 : decide (30 < codes.length) = e2 := by rw [← he2]; exact decide_eq_decide.2 (by omega)
  cases e1 with
  | true =>
    go_wp2_with fail
    refine (awake_calls _).mono ?_
    rintro e wa ⟨rfl, hb⟩
    go_wp2
    go_ret
    exact ⟨rfl, hb⟩
  | false =>
  cases e2 with
  | true =>
    go_wp2_with fail
    refine (awake_calls _).mono ?_
    rintro e wa ⟨rfl, hb⟩
    go_wp2
    go_ret
    exact ⟨rfl, hb⟩
  | false =>
  have HL30 : Aside0 (l.length ≤ 30) := ⟨by have := of_decide_eq_false ke1; omega⟩
  go_wp2_with fail
  clear he1 ke1 he2 ke2
  go_loopw [5] (fun x wr => ∃ j : Nat, x = .int .i64 j ∧ Aside0 (j ≤ l.length) ∧ Aside0 (Below w.heap.size w wr)) (fun x _ => l.length - (intOf x).toNat)
  case atStart => exact ⟨0, rfl, ⟨Nat.zero_le _⟩, HB⟩
  case round =>
  clear HB
  obtain ⟨j, rfl, HJ, HB⟩ := hrel
  by_cases hlt : j < l.length
  · have hd : decide ((j : Int) < (l.length : Int)) = true := decide_eq_true (by omega)
    have hdn : decide (j < l.length) = true := decide_eq_true hlt
    go_upto_region 6 with fail
    obtain ⟨ad, E6, d6, E7, d7, E13, d13, E14, d14, ead, x0, x1, x2, x3, x4, x5, x6, x7, x8, x9, x10, x11, x12, x13, x14, l6, g6, l7, g7, l13, g13, l14, g14⟩ := at_T60 (Kd.C_below HR0.out HB.out) (j : Int) (by omega) (by omega)
    rw [Int.toNat_natCast] at x0 x1 x2 x3 x4 x5 x6 x7 x8 x9 x10 x11 x12 x13 x14
    subst ead
    have HFJ := Aside0.mk (HF.out j hlt)
    obtain ⟨y, hy⟩ : ∃ y, rd_T60 l (j : Int) = y := ⟨_, rfl⟩
    rw [hy] at x0 x1 x2 x3 x4 x5 x6 x7 x8 x9 x10 x11 x12 x13 x14 l6 g6 l7 g7 l13 g13 l14 g14 HFJ
    clear hy
    obtain ⟨fb, hfb, _⟩ := few_x y HFJ.out.2.2.2.2.2.1
    obtain ⟨kf, hkf⟩ := hfb.rounds
    have HKF := Aside0.mk hkf
    clear hfb hkf HFJ
    obtain ⟨f0, f1, f2, f3, f4, f5, ⟨f60, f61⟩, f7, f8, f9, f10, f11, f12, f13⟩ := y
    simp only at x0 x1 x2 x3 x4 x5 x6 x7 x8 x9 x10 x11 x12 x13 x14 l6 g6 l7 g7 l13 g13 l14 g14
    have L6 := Aside0.mk l6; have G6 := Aside0.mk g6; have L7 := Aside0.mk l7; have G7 := Aside0.mk g7
    have L13 := Aside0.mk l13; have G13 := Aside0.mk g13; have L14 := Aside0.mk l14; have G14 := Aside0.mk g14
    clear l6 g6 l7 g7 l13 g13 l14 g14
    have HLT := Aside0.mk hlt
    have p_ : (0 ≤ (j : Int)) = True := eq_true (by omega)
    have q_ : ((j : Int) < (l.length : Int)) = True := eq_true (by omega)
    go_wp2_with fail
    refine (haberdashlaw12_few.calls kf f0 f1 f2 f3 f4 f5 _ _ f60 _ _ f61 f7 f8 f9 f10 f11 _ _ f12 _ _ f13 fb _ G6.out L6.out G7.out L7.out G13.out L13.out G14.out L14.out HKF.out).mono ?_
    rintro e wa ⟨rfl, hb⟩
    replace HB := Aside0.mk (below_step HB.out hb)
    clear hb hd hdn p_ q_ x0 x1 x2 x3 x4 x5 x6 x7 x8 x9 x10 x11 x12 x13 x14 L6 G6 L7 G7 L13 G13 L14 G14 HKF
    cases fb with
    | false =>
      go_wp2_with fail
      refine (awake_calls _).mono ?_
      rintro e wb ⟨rfl, hb⟩
      replace HB := Aside0.mk (below_step HB.out hb)
      go_wp2
      go_ret
      exact ⟨rfl, HB.out⟩
    | true =>
    have hkl : j < 9223372036854775807 := by have h1 := HLT.out; have h2 := HL.out; omega
    clear hlt
    go_wp2_with fail
    refine ⟨⟨j + 1, rfl, HLT, HB⟩, ?_⟩
    have h1 := HLT.out
    show l.length - (j + 1) < l.length - j
    omega
  · have hd : decide ((j : Int) < (l.length : Int)) = false := decide_eq_false (by omega)
    have hdn : decide (j < l.length) = false := decide_eq_false hlt
    go_wp2_with fail
    clear hd hdn hlt HJ
    refine (haberdashplay_Promos.calls kr A0 c0 l r _ (Kd.C_below HR0.out HB.out) HC0.out HKR.out).mono ?_
    rintro e w2 ⟨v0, rfl, o0, hb⟩
    replace HB := Aside0.mk (below_step HB.out hb)
    clear hb HKR
    obtain ⟨D0, d0, rfl⟩ := Kd.R_slice o0
    have HR2 := Aside0.mk ((Kd.R_reads' o0).2.2); have HC2 := Aside0.mk ((Kd.R_reads' o0).2.1)
    clear o0
    have H20 : Aside0 (r.length < 20) := ⟨by have := H6.out; omega⟩
    go_wp2_with fail
    refine (order_calls (codes := []) HR2.out HC2.out (Kd.C_nil _ _) (Nat.le_refl _) H20.out).mono ?_
    rintro e w3 ⟨va, a, rfl, pa, sa, oa, hb⟩
    obtain ⟨PA, qa, ea⟩ := Kd.R_slice oa
    rw [List.length_map] at ea
    subst ea
    replace HR2 := Aside0.mk (Kd.C_below HR2.out hb)
    have HBW : Aside0 (Below w3.heap.size w3 w3) := ⟨Below.refl _ _⟩
    have CA := Aside0.mk ((Kd.R_reads' oa).2.2)
    replace HB := Aside0.mk (below_step HB.out hb)
    clear oa hb
    go_wp2_with fail
    refine (haberdashplay_Codes.calls kc A1 c1 codes cs _ (Kd.C_below HR1.out HB.out) HC1.out HKC.out).mono ?_
    rintro e w4 ⟨v1, rfl, o1, hb⟩
    obtain ⟨D1, d1, rfl⟩ := Kd.R_slice o1
    replace HR2 := Aside0.mk (Kd.C_below HR2.out hb)
    replace CA := Aside0.mk (Kd.C_below CA.out hb)
    replace HB := Aside0.mk (below_step HB.out hb)
    have HR3 := Aside0.mk ((Kd.R_reads' o1).2.2); have HC3 := Aside0.mk ((Kd.R_reads' o1).2.1)
    clear o1 hb HKC
    go_wp2_with fail
    refine (order_calls HR2.out HC2.out HR3.out HC3.out H20.out).mono ?_
    rintro e w5 ⟨vb, b, rfl, pb, sb, ob, hb⟩
    obtain ⟨PB, qb, eb⟩ := Kd.R_slice ob
    rw [List.length_map] at eb
    subst eb
    replace HR2 := Aside0.mk (Kd.C_below HR2.out hb)
    replace CA := Aside0.mk (Kd.C_below CA.out hb)
    have CB := Aside0.mk ((Kd.R_reads' ob).2.2)
    have HB5 : Aside0 (Below w5.heap.size w5 w5) := ⟨Below.refl _ _⟩
    replace HB := Aside0.mk (below_step HB.out hb)
    have HAP := Aside0.mk (apart_of HINV.out H6.out)
    have hab := order_filter HAP.out pa sa pb sb
    subst hab
    have HPB := Aside0.mk pb; have HSB := Aside0.mk sb
    clear ob hb HR3 HC3 pa sa pb sb
    obtain ⟨p, hp⟩ : ∃ p, asked r [] = p := ⟨_, rfl⟩
    rw [hp] at CA ⊢
    have HP := Aside0.mk hp
    clear hp
    obtain ⟨n, hn⟩ : ∃ n, (b.filter p).length = n := ⟨_, rfl⟩
    rw [hn]
    have HN' := Aside0.mk hn
    clear hn
    go_wp2_with fail
    go_loopw [8, 9] (fun x y wr => ∃ i : Nat, y = .int .i64 i ∧ x = .int .i64 ((cnt p b i : Nat) : Int) ∧ Aside0 (i ≤ b.length) ∧ Aside0 (Below w5.heap.size w5 wr)) (fun _ y _ => b.length - (intOf y).toNat)
    case atStart => exact ⟨0, rfl, by rw [cnt_zero]; rfl, ⟨Nat.zero_le _⟩, ⟨Below.refl _ _⟩⟩
    case round =>
    obtain ⟨i, rfl, rfl, HI, HX⟩ := hrel
    by_cases hlt : i < b.length
    · have hd : decide ((i : Int) < (b.length : Int)) = true := decide_eq_true (by omega)
      have hdn : decide (i < b.length) = true := decide_eq_true hlt
      go_upto_region 14 with fail
      have HLT := Aside0.mk hlt
      obtain ⟨m, hm⟩ : ∃ m, b.getD i 0 = m := ⟨_, rfl⟩
      have HM := Aside0.mk hm
      have hml : m < r.length := by rw [← hm]; exact places_lt r cs _ _ (HPB.out.mem_iff.1 (get_mem b i hlt))
      have HML := Aside0.mk hml
      obtain ⟨ab, eab, y0⟩ := Kd.at_int (Kd.C_below CB.out HX.out) (i : Int) (by omega) (by rw [List.length_map]; omega)
      rw [Int.toNat_natCast, rd_map b i, hm] at y0
      subst eab
      clear hm
      have p_ : (0 ≤ (i : Int)) = True := eq_true (by omega)
      have q_ : ((i : Int) < (b.length : Int)) = True := eq_true (by omega)
      have k1 : decide ((m : Int) < 0) = false := decide_eq_false (by omega)
      have k2 : decide ((m : Int) ≥ (r.length : Int)) = false := decide_eq_false (by omega)
      have k3 : decide (r.length ≤ m) = false := decide_eq_false (by omega)

      obtain ⟨k, hk'⟩ : ∃ k, cnt p b i = k := ⟨_, rfl⟩
      have hkn : k ≤ n := by rw [← hk', ← HN'.out]; exact cnt_le p b i
      have HCS : Aside0 (cnt p b (i + 1) = k + (if p m = true then 1 else 0)) := ⟨by rw [← hk', ← HM.out]; exact cnt_succ p b i hlt⟩
      have HKN := Aside0.mk hkn
      have HNB : Aside0 (n ≤ b.length) := ⟨by rw [← HN'.out]; exact List.length_filter_le _ _⟩
      have HBL : Aside0 (b.length < 20) := ⟨by have h1 := HPB.out.length_eq; have h2 := places_len r cs r.length; have h3 := H20.out; omega⟩
      have HK' := Aside0.mk hk'
      rw [hk']
      clear hk' hkn
      go_upto_region 16 with fail
      go_cut [76] (fun v wc => v = .bool (p m) ∧ Aside0 (Below w5.heap.size w5 wc))
      case first =>
        have HX0 : Aside0 (Below wr.heap.size wr wr.drew) := ⟨below_drew1 (Below.refl _ _)⟩
        replace HX := Aside0.mk (below_drew1 HX.out)
        replace y0 := hd_ HX0 y0
        rcases Nat.lt_or_ge k n with hk | hk
        · have hd2 : decide ((k : Int) < (n : Int)) = true := decide_eq_true (by omega)
          have hdn2 : decide (k < n) = true := decide_eq_true hk
          have p2_ : (0 ≤ (k : Int)) = True := eq_true (by omega)
          have q2_ : ((k : Int) < (n : Int)) = True := eq_true (by omega)
          obtain ⟨aa, eaa, z0⟩ := Kd.at_int (Kd.C_below CA.out HX.out) ((k : Nat) : Int) (by omega) (by rw [List.length_map, HN'.out]; omega)
          obtain ⟨q, hq⟩ : ∃ q, (b.filter p).getD k 0 = q := ⟨_, rfl⟩
          rw [Int.toNat_natCast, rd_map _ k, hq] at z0
          subst eaa
          cases hpm : p m with
          | true =>
            have ek := (step_yes (p := p) (b := b) (i := i) hlt (by rw [HM.out]; exact hpm)).2
            rw [HK'.out, HM.out, hq] at ek
            have ek2 := ek.symm; clear ek; subst ek2
            refine start_ (n := 15) (S := fun w' => w'.cell? (aa.add k) = some (.int .i64 (m : Int)) ∧ w'.cell? (ab.add i) = some (.int .i64 (m : Int))) (ds := []) (mk 15 0) (by kernel_rfl) rfl rfl ⟨z0, y0⟩ (fun hHeld => ?_); refine with_tabW tab16 bits16 (fun HT_ HW_ => ?_)
            generalize wr.drew = w6 at HX y0 z0 hHeld ⊢
            refine ahead_ [(0, 62), (1, 63), (2, 64), (3, 65), (4, 66), (5, 67), (6, 68), (7, 69)] ?_
            iterate 8 (refine pA_ (v := ?_) (a' := ?_) rfl rfl HT_.out kr_ nh_ (Or.inl ⟨ry_, ?_⟩) ?_ ?_; rotate_left; (intro w'; go_simp; with_reducible rfl); rotate_left; (exact pu_))
            refine aheadE_ (mk 15 255) kr_ ?_
            refine ahead_ [(9, 71), (10, 72), (11, 73)] ?_
            iterate 3 (refine pA_ (v := ?_) (a' := ?_) rfl rfl HT_.out kr_ nh_ (Or.inl ⟨ry_, ?_⟩) ?_ ?_; rotate_left; (intro w'; go_simp; with_reducible rfl); rotate_left; (exact pu_))
            refine aheadE_ (mk 15 3839) kr_ ?_
            refine ahead_ [(8, 70), (12, 74)] ?_
            iterate 2 (refine tA_ (v := ?_) (a' := ?_) rfl rfl HT_.out HW_.out (by kernel_rfl) (fun _ _ _ h => h) (Or.inl ⟨by rfl, ?_⟩) hHeld ?_ ?_; rotate_left; (rintro w' ⟨s0, s1⟩; go_simp; with_reducible rfl); rotate_left; (exact pu_))
            refine aheadE_ (mk 15 8191) kr_ ?_
            refine ahead_ [(13, 75)] ?_
            iterate 1 (refine pA_ (v := ?_) (a' := ?_) rfl rfl HT_.out kr_ nh_ (Or.inl ⟨ry_, ?_⟩) ?_ ?_; rotate_left; (intro w'; go_simp; with_reducible rfl); rotate_left; (exact pu_))
            refine aheadE_ (mk 15 16383) kr_ ?_
            refine pure_ (i := 14) (N := some 76) (v := ?_) (a' := ?_) (mk 15 32767) rfl rfl (an_ HT_) nh_ (Or.inl ⟨ry_, ?_⟩) ?_ ?_
            rotate_left; (intro w'; go_simp; with_reducible rfl)
            rotate_left; (exact pu_)
            refine done_ (done_of HT_.out (by kernel_rfl)) ?_
            try go_wp2
            go_meet
            case rel => exact ⟨by first | (simp [hpm]; done) | (simp [hpm]; omega), HX⟩
          | false =>
            have nk : q ≠ m := by
              rw [← hq, ← HM.out]
              exact step_no (p := p) (by rw [HM.out]; exact hpm) (by rw [HN'.out]; exact hk)
            have eqf : decide ((q : Int) = (m : Int)) = false := decide_eq_false (by omega)
            refine start_ (n := 15) (S := fun w' => w'.cell? (aa.add k) = some (.int .i64 (q : Int)) ∧ w'.cell? (ab.add i) = some (.int .i64 (m : Int))) (ds := []) (mk 15 0) (by kernel_rfl) rfl rfl ⟨z0, y0⟩ (fun hHeld => ?_); refine with_tabW tab16 bits16 (fun HT_ HW_ => ?_)
            generalize wr.drew = w6 at HX y0 z0 hHeld ⊢
            refine ahead_ [(0, 62), (1, 63), (2, 64), (3, 65), (4, 66), (5, 67), (6, 68), (7, 69)] ?_
            iterate 8 (refine pA_ (v := ?_) (a' := ?_) rfl rfl HT_.out kr_ nh_ (Or.inl ⟨ry_, ?_⟩) ?_ ?_; rotate_left; (intro w'; go_simp; with_reducible rfl); rotate_left; (exact pu_))
            refine aheadE_ (mk 15 255) kr_ ?_
            refine ahead_ [(9, 71), (10, 72), (11, 73)] ?_
            iterate 3 (refine pA_ (v := ?_) (a' := ?_) rfl rfl HT_.out kr_ nh_ (Or.inl ⟨ry_, ?_⟩) ?_ ?_; rotate_left; (intro w'; go_simp; with_reducible rfl); rotate_left; (exact pu_))
            refine aheadE_ (mk 15 3839) kr_ ?_
            refine ahead_ [(8, 70), (12, 74)] ?_
            iterate 2 (refine tA_ (v := ?_) (a' := ?_) rfl rfl HT_.out HW_.out (by kernel_rfl) (fun _ _ _ h => h) (Or.inl ⟨by rfl, ?_⟩) hHeld ?_ ?_; rotate_left; (rintro w' ⟨s0, s1⟩; go_simp; with_reducible rfl); rotate_left; (exact pu_))
            refine aheadE_ (mk 15 8191) kr_ ?_
            refine ahead_ [(13, 75)] ?_
            iterate 1 (refine pA_ (v := ?_) (a' := ?_) rfl rfl HT_.out kr_ nh_ (Or.inl ⟨ry_, ?_⟩) ?_ ?_; rotate_left; (intro w'; go_simp; with_reducible rfl); rotate_left; (exact pu_))
            refine aheadE_ (mk 15 16383) kr_ ?_
            refine pure_ (i := 14) (N := some 76) (v := ?_) (a' := ?_) (mk 15 32767) rfl rfl (an_ HT_) nh_ (Or.inl ⟨ry_, ?_⟩) ?_ ?_
            rotate_left; (intro w'; go_simp; with_reducible rfl)
            rotate_left; (exact pu_)
            refine done_ (done_of HT_.out (by kernel_rfl)) ?_
            try go_wp2
            go_meet
            case rel => exact ⟨by first | (simp [hpm]; done) | (simp [hpm]; omega), HX⟩
        · obtain rfl : k = n := by have := HKN.out; omega
          have hd2 : decide ((k : Int) < (k : Int)) = false := decide_eq_false (by omega)
          have hdn2 : decide (k < k) = false := decide_eq_false (by omega)
          have hpm : p m = false := by
            cases h : p m with
            | false => rfl
            | true =>
              have h1 := (step_yes (p := p) (b := b) (i := i) hlt (by rw [HM.out]; exact h)).1
              have h2 := HK'.out; have h3 := HN'.out
              omega
          refine start_ (n := 15) (S := fun w' => True) (ds := []) (mk 15 0) (by kernel_rfl) rfl rfl trivial (fun hHeld => ?_); refine with_tabW tab16 bits16 (fun HT_ HW_ => ?_)
          generalize wr.drew = w6 at HX y0 hHeld ⊢
          refine ahead_ [(0, 62), (1, 63), (2, 64), (3, 65), (4, 66)] ?_
          iterate 5 (refine pA_ (v := ?_) (a' := ?_) rfl rfl HT_.out kr_ nh_ (Or.inl ⟨ry_, ?_⟩) ?_ ?_; rotate_left; (intro w'; go_simp; with_reducible rfl); rotate_left; (exact pu_))
          refine aheadE_ (mk 15 31) kr_ ?_
          refine ahead_ [(5, 67), (6, 68), (7, 69), (8, 70), (9, 71), (10, 72), (11, 73), (12, 74), (13, 75)] ?_
          iterate 9 (refine pA_ (v := undef) (a' := ?_) rfl rfl HT_.out kr_ nh_ ru_ ?_ ?_; rotate_left; (exact pu_))
          refine aheadE_ (mk 15 16383) kr_ ?_
          refine pure_ (i := 14) (N := some 76) (v := ?_) (a' := ?_) (mk 15 32767) rfl rfl (an_ HT_) nh_ (Or.inl ⟨ry_, ?_⟩) ?_ ?_
          rotate_left; (intro w'; go_simp; with_reducible rfl)
          rotate_left; (exact pu_)
          refine done_ (done_of HT_.out (by kernel_rfl)) ?_
          try go_wp2
          go_meet
          case rel => exact ⟨by rw [hpm], HX⟩
      case rest =>
      obtain ⟨rfl, HX2⟩ := hcut
      clear y0 HX
      go_upto_if 76 with fail
      go_cut [8] (fun v wd => v = .int .i64 ((cnt p b (i + 1) : Nat) : Int) ∧ Aside0 (Below w5.heap.size w5 wd))
      case first =>
        have hkw : k < 9223372036854775807 := by have h1 := HKN.out; have h2 := HNB.out; have h3 := HBL.out; omega
        cases hpm : p m with
        | true =>
          rw [hpm] at HCS
          go_wp2_with fail
          go_meet
          case rel => exact ⟨by rw [HCS.out]; rfl, HX2⟩
        | false =>
          rw [hpm] at HCS
          go_wp2_with fail
          go_meet
          case rel => exact ⟨by rw [HCS.out]; rfl, HX2⟩
      case rest =>
      obtain ⟨rfl, HX⟩ := hcut
      clear HX2
      have hiw : i < 9223372036854775807 := by have h1 := HLT.out; have h3 := HBL.out; omega
      rcases Nat.eq_zero_or_pos i with h0 | h0
      · have hd3 : decide ((i : Int) > 0) = false := decide_eq_false (by omega)
        have hdn3 : decide (0 < i) = false := decide_eq_false (by omega)
        clear h0
        go_wp2_with fail
        go_roundw
        case rel => exact ⟨i + 1, rfl, rfl, HLT, HX⟩
        case measure => have := HLT.out; simp [intOf]; omega
      · have hd3 : decide ((i : Int) > 0) = true := decide_eq_true (by omega)
        have hdn3 : decide (0 < i) = true := decide_eq_true (by omega)
        go_upto_region 19 with fail
        obtain ⟨j, hj⟩ : ∃ j, i = j + 1 := ⟨i - 1, by omega⟩
        have HNX : Aside0 (prioAt r (b.getD (j + 1) 0) < prioAt r (b.getD j 0) ∨ (prioAt r (b.getD j 0) = prioAt r (b.getD (j + 1) 0) ∧ (idAt r (b.getD j 0)).toList < (idAt r (b.getD (j + 1) 0)).toList)) := ⟨next_ahead HAP.out HPB.out HSB.out (by rw [← hj]; exact hlt)⟩
        rw [← hj, HM.out] at HNX
        have hjj : wrap64 ((i : Int) - 1) = (j : Int) := by rw [MP.wrap_ok (by omega) (by omega)]; omega
        have hjl : j < b.length := by omega
        clear hj h0
        obtain ⟨m', hm'⟩ : ∃ m', b.getD j 0 = m' := ⟨_, rfl⟩
        rw [hm'] at HNX
        have hml' : m' < r.length := by rw [← hm']; exact places_lt r cs _ _ (HPB.out.mem_iff.1 (get_mem b j hjl))
        have hml := HML.out
        obtain ⟨ab2, eab2, y1⟩ := Kd.at_int (Kd.C_below CB.out HX.out) (j : Int) (by omega) (by rw [List.length_map]; omega)
        obtain ⟨ab3, eab3, y0⟩ := Kd.at_int (Kd.C_below CB.out HX.out) (i : Int) (by omega) (by rw [List.length_map]; omega)
        rw [Int.toNat_natCast, rd_map b j, hm'] at y1
        rw [Int.toNat_natCast, rd_map b i, HM.out] at y0
        obtain rfl : ab = ab2 := by injection eab2
        obtain rfl : ab = ab3 := by injection eab3
        clear eab2 eab3 hm'
        obtain ⟨ad, fE6, fd6, fE7, fd7, fE13, fd13, fE14, fd14, ead, x0, x1, x2, x3, x4, x5, x6, x7, x8, x9, x10, x11, x12, x13, x14, _⟩ := at_T60 (Kd.C_below (Kd.C_below HR2.out HB5.out) HX.out) (m' : Int) (by omega) (by omega)
        obtain ⟨ad2, eE6, ed6, eE7, ed7, eE13, ed13, eE14, ed14, ead2, z0, z1, z2, z3, z4, z5, z6, z7, z8, z9, z10, z11, z12, z13, z14, _⟩ := at_T60 (Kd.C_below (Kd.C_below HR2.out HB5.out) HX.out) (m : Int) (by omega) (by omega)
        rw [Int.toNat_natCast] at x0 x1 x2 x3 x4 x5 x6 x7 x8 x9 x10 x11 x12 x13 x14 z0 z1 z2 z3 z4 z5 z6 z7 z8 z9 z10 z11 z12 z13 z14
        subst ead
        obtain rfl : ad = ad2 := by injection ead2
        clear ead2
        unfold prioAt idAt at HNX
        obtain ⟨x, hx⟩ : ∃ x, rd_T60 r (m' : Int) = x := ⟨_, rfl⟩
        rw [hx] at x0 x1 x2 x3 x4 x5 x6 x7 x8 x9 x10 x11 x12 x13 x14 HNX
        obtain ⟨y, hy⟩ : ∃ y, rd_T60 r (m : Int) = y := ⟨_, rfl⟩
        rw [hy] at z0 z1 z2 z3 z4 z5 z6 z7 z8 z9 z10 z11 z12 z13 z14 HNX
        clear hx hy
        obtain ⟨f0, f1, f2, f3, f4, f5, ⟨f60, f61⟩, f7, f8, f9, f10, f11, f12, f13⟩ := x
        obtain ⟨e0, e1, e2, e3, e4, e5, ⟨e60, e61⟩, e7, e8, e9, e10, e11, e12, e13⟩ := y
        simp only at x0 x1 x2 x3 x4 x5 x6 x7 x8 x9 x10 x11 x12 x13 x14 z0 z1 z2 z3 z4 z5 z6 z7 z8 z9 z10 z11 z12 z13 z14 HNX
        have p_ : (0 ≤ (i : Int)) = True := eq_true (by omega)
        have q_ : ((i : Int) < (b.length : Int)) = True := eq_true (by omega)
        have p2_ : (0 ≤ (j : Int)) = True := eq_true (by omega)
        have q2_ : ((j : Int) < (b.length : Int)) = True := eq_true (by omega)
        have p3_ : (0 ≤ (m : Int)) = True := eq_true (by omega)
        have q3_ : ((m : Int) < (r.length : Int)) = True := eq_true (by omega)
        have p4_ : (0 ≤ (m' : Int)) = True := eq_true (by omega)
        have q4_ : ((m' : Int) < (r.length : Int)) = True := eq_true (by omega)
        have HS : Aside0 (Below wc.heap.size wc wc.drew) := ⟨below_drew1 (Below.refl _ _)⟩
        refine start_ (n := 19) (S := fun w' => Below wc.heap.size wc w') (ds := []) (mk 19 0) (by kernel_rfl) rfl rfl HS.out (fun hHeld => ?_); refine with_tabW tab19 bits19 (fun HT_ HW_ => ?_)
        generalize wc.drew = w6 at HS hHeld ⊢
        refine ahead_ [(0, 81), (1, 82), (2, 83), (3, 84), (4, 85)] ?_
        iterate 5 (refine pA_ (v := ?_) (a' := ?_) rfl rfl HT_.out kr_ nh_ (Or.inl ⟨ry_, ?_⟩) ?_ ?_; rotate_left; (intro w'; go_simp; with_reducible rfl); rotate_left; (exact pu_))
        refine aheadE_ (mk 19 31) kr_ ?_
        refine ahead_ [(8, 89), (9, 90), (10, 91), (11, 92)] ?_
        iterate 4 (refine pA_ (v := ?_) (a' := ?_) rfl rfl HT_.out kr_ nh_ (Or.inl ⟨ry_, ?_⟩) ?_ ?_; rotate_left; (intro w'; go_simp; with_reducible rfl); rotate_left; (exact pu_))
        refine aheadE_ (mk 19 3871) kr_ ?_
        refine ahead_ [(5, 86)] ?_
        refine tA_ (v := ?_) (a' := ?_) rfl rfl HT_.out HW_.out (by kernel_rfl) (fun _ _ _ h => h) (Or.inl ⟨by rfl, ?_⟩) hHeld ?_ ?_; rotate_left; (intro w' hs_; have cy1 := hd_ ⟨hs_⟩ y1; clear hs_; go_simp; with_reducible rfl); rotate_left; (exact pu_)
        refine aheadE_ (mk 19 3903) kr_ ?_
        refine ahead_ [(6, 87)] ?_
        iterate 1 (refine pA_ (v := ?_) (a' := ?_) rfl rfl HT_.out kr_ nh_ (Or.inl ⟨ry_, ?_⟩) ?_ ?_; rotate_left; (intro w'; go_simp; with_reducible rfl); rotate_left; (exact pu_))
        refine aheadE_ (mk 19 3967) kr_ ?_
        refine ahead_ [(7, 88)] ?_
        refine tA_ (v := ?_) (a' := ?_) rfl rfl HT_.out HW_.out (by kernel_rfl) (fun _ _ _ h => h) (Or.inl ⟨by rfl, ?_⟩) hHeld ?_ ?_; rotate_left; (intro w' hs_; have cx0 := hd_ ⟨hs_⟩ x0; have cx1 := hd_ ⟨hs_⟩ x1; have cx2 := hd_ ⟨hs_⟩ x2; have cx3 := hd_ ⟨hs_⟩ x3; have cx4 := hd_ ⟨hs_⟩ x4; have cx5 := hd_ ⟨hs_⟩ x5; have cx6 := hd_ ⟨hs_⟩ x6; have cx7 := hd_ ⟨hs_⟩ x7; have cx8 := hd_ ⟨hs_⟩ x8; have cx9 := hd_ ⟨hs_⟩ x9; have cx10 := hd_ ⟨hs_⟩ x10; have cx11 := hd_ ⟨hs_⟩ x11; have cx12 := hd_ ⟨hs_⟩ x12; have cx13 := hd_ ⟨hs_⟩ x13; have cx14 := hd_ ⟨hs_⟩ x14; clear hs_; go_simp; with_reducible rfl); rotate_left; (exact pu_)
        refine aheadE_ (mk 19 4095) kr_ ?_
        refine ahead_ [(12, 93)] ?_
        refine tA_ (v := ?_) (a' := ?_) rfl rfl HT_.out HW_.out (by kernel_rfl) (fun _ _ _ h => h) (Or.inl ⟨by rfl, ?_⟩) hHeld ?_ ?_; rotate_left; (intro w' hs_; have cy0 := hd_ ⟨hs_⟩ y0; clear hs_; go_simp; with_reducible rfl); rotate_left; (exact pu_)
        refine aheadE_ (mk 19 8191) kr_ ?_
        refine ahead_ [(13, 94)] ?_
        iterate 1 (refine pA_ (v := ?_) (a' := ?_) rfl rfl HT_.out kr_ nh_ (Or.inl ⟨ry_, ?_⟩) ?_ ?_; rotate_left; (intro w'; go_simp; with_reducible rfl); rotate_left; (exact pu_))
        refine aheadE_ (mk 19 16383) kr_ ?_
        refine ahead_ [(14, 95)] ?_
        refine tA_ (v := ?_) (a' := ?_) rfl rfl HT_.out HW_.out (by kernel_rfl) (fun _ _ _ h => h) (Or.inl ⟨by rfl, ?_⟩) hHeld ?_ ?_; rotate_left; (intro w' hs_; have cz0 := hd_ ⟨hs_⟩ z0; have cz1 := hd_ ⟨hs_⟩ z1; have cz2 := hd_ ⟨hs_⟩ z2; have cz3 := hd_ ⟨hs_⟩ z3; have cz4 := hd_ ⟨hs_⟩ z4; have cz5 := hd_ ⟨hs_⟩ z5; have cz6 := hd_ ⟨hs_⟩ z6; have cz7 := hd_ ⟨hs_⟩ z7; have cz8 := hd_ ⟨hs_⟩ z8; have cz9 := hd_ ⟨hs_⟩ z9; have cz10 := hd_ ⟨hs_⟩ z10; have cz11 := hd_ ⟨hs_⟩ z11; have cz12 := hd_ ⟨hs_⟩ z12; have cz13 := hd_ ⟨hs_⟩ z13; have cz14 := hd_ ⟨hs_⟩ z14; clear hs_; go_simp; with_reducible rfl); rotate_left; (exact pu_)
        refine aheadE_ (mk 19 32767) kr_ ?_
        clear x0 x1 x2 x3 x4 x5 x6 x7 x8 x9 x10 x11 x12 x13 x14 z0 z1 z2 z3 z4 z5 z6 z7 z8 z9 z10 z11 z12 z13 z14 y0 y1
        refine join_ (σ := Nat × Nat) 2 (mk 19 131071) (fun s_ => [(10, .pointer (some ⟨s_.1, 0, none⟩)), (11, .pointer (some ⟨s_.2, 0, none⟩))]) (fun s_ w' => Below wc.heap.size wc w' ∧ w'.heap[s_.1]? = some (.cells #[.string (⟨#[]⟩ : ByteArray), .int .i64 0, .int .i64 0, .string (⟨#[]⟩ : ByteArray), .string (⟨#[]⟩ : ByteArray), .bool false, .slice none 0 0, .slice none 0 0, .int .i64 0, .int .i64 0, .int .i64 0, .int .i64 0, .int .i64 0, .slice none 0 0, .slice none 0 0] 60 (0, 0)) ∧ w'.heap[s_.2]? = some (.cells #[.string (⟨#[]⟩ : ByteArray), .int .i64 0, .int .i64 0, .string (⟨#[]⟩ : ByteArray), .string (⟨#[]⟩ : ByteArray), .bool false, .slice none 0 0, .slice none 0 0, .int .i64 0, .int .i64 0, .int .i64 0, .int .i64 0, .int .i64 0, .slice none 0 0, .slice none 0 0] 60 (0, 0)) ∧ wc.heap.size ≤ s_.1 ∧ wc.heap.size ≤ s_.2 ∧ s_.1 ≠ s_.2) ?_ ?_
        rotate_left
        · intro hCont
          refine two_ (i := 15) (j := 16) (Ni := some 10) (Nj := some 11) (mk 19 65535) (mk 19 98303) rfl rfl rfl rfl (two_of HT_.out (by kernel_rfl)) (by decide) (by decide) (fun K hK => ?_) (fun K hK => ?_)
          · skip
            refine box_step ?hg (N := 10) ?hd (cs := #[.string (⟨#[]⟩ : ByteArray), .int .i64 0, .int .i64 0, .string (⟨#[]⟩ : ByteArray), .string (⟨#[]⟩ : ByteArray), .bool false, .slice none 0 0, .slice none 0 0, .int .i64 0, .int .i64 0, .int .i64 0, .int .i64 0, .int .i64 0, .slice none 0 0, .slice none 0 0]) (t := 60) ?hr ?_; (case hd => rfl); (case hg => rfl); (case hr => first | (go_simp; done) | (go_simp; rfl))
            intro g10 hg wz hbox hb
            have B_g10 := Aside0.mk hbox; have G_g10 := Aside0.mk (ge_ HS hg HS.out)
            replace HS := Aside0.mk (below_step HS.out hb); clear hb hbox hg hHeld
            refine hK.out _ _ HS.out (fun hHeld => ?_)
            clear hK K
            refine norm_ pv_ ?_
            refine one_ (i := 16) (N := some 11) (mk 19 131071) rfl rfl (on_ HT_) de_ (fun K hK => ?_)
            refine box_step ?hg (N := 11) ?hd (cs := #[.string (⟨#[]⟩ : ByteArray), .int .i64 0, .int .i64 0, .string (⟨#[]⟩ : ByteArray), .string (⟨#[]⟩ : ByteArray), .bool false, .slice none 0 0, .slice none 0 0, .int .i64 0, .int .i64 0, .int .i64 0, .int .i64 0, .int .i64 0, .slice none 0 0, .slice none 0 0]) (t := 60) ?hr ?_; (case hd => rfl); (case hg => rfl); (case hr => first | (go_simp; done) | (go_simp; rfl))
            intro g11 hg wy hbox hb
            have N_ := Aside0.mk (nl_ B_g10 hg)
            have B_g11 := Aside0.mk hbox; have G_g11 := Aside0.mk (ge_ HS hg HS.out)
            replace B_g10 := Aside0.mk (bb_ B_g10 hb)
            replace HS := Aside0.mk (below_step HS.out hb); clear hb hbox hg hHeld
            refine hK.out _ _ HS.out (fun hHeld => ?_)
            clear hK K
            refine norm_ pv_ ?_
            exact norm_ (by simp only [putAll, Act.put, List.setIfInBounds_toArray, List.set_cons_zero, List.set_cons_succ]) (hCont (g10, g11) _ ⟨HS.out, B_g10.out, B_g11.out, G_g10.out, G_g11.out, N_.out⟩)
          · skip
            refine box_step ?hg (N := 11) ?hd (cs := #[.string (⟨#[]⟩ : ByteArray), .int .i64 0, .int .i64 0, .string (⟨#[]⟩ : ByteArray), .string (⟨#[]⟩ : ByteArray), .bool false, .slice none 0 0, .slice none 0 0, .int .i64 0, .int .i64 0, .int .i64 0, .int .i64 0, .int .i64 0, .slice none 0 0, .slice none 0 0]) (t := 60) ?hr ?_; (case hd => rfl); (case hg => rfl); (case hr => first | (go_simp; done) | (go_simp; rfl))
            intro g11 hg wz hbox hb
            have B_g11 := Aside0.mk hbox; have G_g11 := Aside0.mk (ge_ HS hg HS.out)
            replace HS := Aside0.mk (below_step HS.out hb); clear hb hbox hg hHeld
            refine hK.out _ _ HS.out (fun hHeld => ?_)
            clear hK K
            refine norm_ pv_ ?_
            refine one_ (i := 15) (N := some 10) (mk 19 131071) rfl rfl (on_ HT_) de_ (fun K hK => ?_)
            refine box_step ?hg (N := 10) ?hd (cs := #[.string (⟨#[]⟩ : ByteArray), .int .i64 0, .int .i64 0, .string (⟨#[]⟩ : ByteArray), .string (⟨#[]⟩ : ByteArray), .bool false, .slice none 0 0, .slice none 0 0, .int .i64 0, .int .i64 0, .int .i64 0, .int .i64 0, .int .i64 0, .slice none 0 0, .slice none 0 0]) (t := 60) ?hr ?_; (case hd => rfl); (case hg => rfl); (case hr => first | (go_simp; done) | (go_simp; rfl))
            intro g10 hg wy hbox hb
            have N_ := Aside0.mk (nl_ B_g11 hg)
            have B_g10 := Aside0.mk hbox; have G_g10 := Aside0.mk (ge_ HS hg HS.out)
            replace B_g11 := Aside0.mk (bb_ B_g11 hb)
            replace HS := Aside0.mk (below_step HS.out hb); clear hb hbox hg hHeld
            refine hK.out _ _ HS.out (fun hHeld => ?_)
            clear hK K
            refine norm_ pv_ ?_
            exact norm_ (by simp only [putAll, Act.put, List.setIfInBounds_toArray, List.set_cons_zero, List.set_cons_succ]) (hCont (g10, g11) _ ⟨HS.out, B_g10.out, B_g11.out, G_g10.out, G_g11.out, N_.out.symm⟩)
        rintro ⟨g10, g11⟩ wy ⟨hS_, h0_, h1_, h2_, h3_, h4_⟩
        clear hHeld HS
        have hHeld := hS_; have B10 := Aside0.mk h0_; have B11 := Aside0.mk h1_; have G10 : Aside0 (wc.heap.size ≤ g10) := ⟨h2_⟩; have G11 : Aside0 (wc.heap.size ≤ g11) := ⟨h3_⟩; have NG : Aside0 (g10 ≠ g11) := ⟨h4_⟩; have HS := Aside0.mk hS_
        clear hS_ h0_ h1_ h2_ h3_ h4_
        refine norm_ (a' := ?_) ?_ ?_
        rotate_left
        · simp only [putAll, Act.put, List.setIfInBounds_toArray, List.set_cons_zero, List.set_cons_succ]
          rfl
        refine one_ (i := 17) (N := none) (mk 19 262143) rfl rfl (on_ HT_) de_ (fun K hK => ?_)
        refine skip_ (w1 := World.setRow wy g10 #[.string f0, .int .i64 f1, .int .i64 f2, .string f3, .string f4, .bool f5, .slice fE6 f60.length fd6, .slice fE7 f61.length fd7, .int .i64 f7, .int .i64 f8, .int .i64 f9, .int .i64 f10, .int .i64 f11, .slice fE13 f12.length fd13, .slice fE14 f13.length fd14]) (by rfl) rfl (srun' 60 _ _ rfl g10 _ rfl rfl 60 #[.string (⟨#[]⟩ : ByteArray), .int .i64 0, .int .i64 0, .string (⟨#[]⟩ : ByteArray), .string (⟨#[]⟩ : ByteArray), .bool false, .slice none 0 0, .slice none 0 0, .int .i64 0, .int .i64 0, .int .i64 0, .int .i64 0, .int .i64 0, .slice none 0 0, .slice none 0 0] B10.out rfl rfl (by simp [Value.oneCell'])) ?_
        have n11 : Aside0 ((World.setRow wy g10 #[.string f0, .int .i64 f1, .int .i64 f2, .string f3, .string f4, .bool f5, .slice fE6 f60.length fd6, .slice fE7 f61.length fd7, .int .i64 f7, .int .i64 f8, .int .i64 f9, .int .i64 f10, .int .i64 f11, .slice fE13 f12.length fd13, .slice fE14 f13.length fd14]).heap[g11]? = _) := ⟨(Go.setRow_other _ _ _ _ NG.out.symm).trans B11.out⟩
        have n10 : Aside0 ((World.setRow wy g10 #[.string f0, .int .i64 f1, .int .i64 f2, .string f3, .string f4, .bool f5, .slice fE6 f60.length fd6, .slice fE7 f61.length fd7, .int .i64 f7, .int .i64 f8, .int .i64 f9, .int .i64 f10, .int .i64 f11, .slice fE13 f12.length fd13, .slice fE14 f13.length fd14]).heap[g10]? = _) := ⟨Go.setRow_heap _ _ _ _ _ _ B10.out⟩
        have nS : Aside0 (Below wc.heap.size wc (World.setRow wy g10 #[.string f0, .int .i64 f1, .int .i64 f2, .string f3, .string f4, .bool f5, .slice fE6 f60.length fd6, .slice fE7 f61.length fd7, .int .i64 f7, .int .i64 f8, .int .i64 f9, .int .i64 f10, .int .i64 f11, .slice fE13 f12.length fd13, .slice fE14 f13.length fd14])) := ⟨brow' HS.out G10.out⟩
        clear HS B10 B11 hHeld
        generalize World.setRow wy g10 #[.string f0, .int .i64 f1, .int .i64 f2, .string f3, .string f4, .bool f5, .slice fE6 f60.length fd6, .slice fE7 f61.length fd7, .int .i64 f7, .int .i64 f8, .int .i64 f9, .int .i64 f10, .int .i64 f11, .slice fE13 f12.length fd13, .slice fE14 f13.length fd14] = wx at n11 n10 nS ⊢
        refine hK.out _ _ nS.out (fun hHeld => ?_)
        clear hK K
        refine one_ (i := 18) (N := none) (mk 19 524287) rfl rfl (on_ HT_) de_ (fun K hK => ?_)
        refine skip_ (w1 := World.setRow wx g11 #[.string e0, .int .i64 e1, .int .i64 e2, .string e3, .string e4, .bool e5, .slice eE6 e60.length ed6, .slice eE7 e61.length ed7, .int .i64 e7, .int .i64 e8, .int .i64 e9, .int .i64 e10, .int .i64 e11, .slice eE13 e12.length ed13, .slice eE14 e13.length ed14]) (by rfl) rfl (srun' 60 _ _ rfl g11 _ rfl rfl 60 #[.string (⟨#[]⟩ : ByteArray), .int .i64 0, .int .i64 0, .string (⟨#[]⟩ : ByteArray), .string (⟨#[]⟩ : ByteArray), .bool false, .slice none 0 0, .slice none 0 0, .int .i64 0, .int .i64 0, .int .i64 0, .int .i64 0, .int .i64 0, .slice none 0 0, .slice none 0 0] n11.out rfl rfl (by simp [Value.oneCell'])) ?_
        have B10 : Aside0 ((World.setRow wx g11 #[.string e0, .int .i64 e1, .int .i64 e2, .string e3, .string e4, .bool e5, .slice eE6 e60.length ed6, .slice eE7 e61.length ed7, .int .i64 e7, .int .i64 e8, .int .i64 e9, .int .i64 e10, .int .i64 e11, .slice eE13 e12.length ed13, .slice eE14 e13.length ed14]).heap[g10]? = _) := ⟨(Go.setRow_other _ _ _ _ NG.out).trans n10.out⟩
        have B11 : Aside0 ((World.setRow wx g11 #[.string e0, .int .i64 e1, .int .i64 e2, .string e3, .string e4, .bool e5, .slice eE6 e60.length ed6, .slice eE7 e61.length ed7, .int .i64 e7, .int .i64 e8, .int .i64 e9, .int .i64 e10, .int .i64 e11, .slice eE13 e12.length ed13, .slice eE14 e13.length ed14]).heap[g11]? = _) := ⟨Go.setRow_heap _ _ _ _ _ _ n11.out⟩
        have HS : Aside0 (Below wc.heap.size wc (World.setRow wx g11 #[.string e0, .int .i64 e1, .int .i64 e2, .string e3, .string e4, .bool e5, .slice eE6 e60.length ed6, .slice eE7 e61.length ed7, .int .i64 e7, .int .i64 e8, .int .i64 e9, .int .i64 e10, .int .i64 e11, .slice eE13 e12.length ed13, .slice eE14 e13.length ed14])) := ⟨brow' nS.out G11.out⟩
        clear nS n10 n11 hHeld
        generalize World.setRow wx g11 #[.string e0, .int .i64 e1, .int .i64 e2, .string e3, .string e4, .bool e5, .slice eE6 e60.length ed6, .slice eE7 e61.length ed7, .int .i64 e7, .int .i64 e8, .int .i64 e9, .int .i64 e10, .int .i64 e11, .slice eE13 e12.length ed13, .slice eE14 e13.length ed14] = wv at B10 B11 HS ⊢
        refine hK.out _ _ HS.out (fun hHeld => ?_)
        clear hK K hHeld
        refine done_ (done_of HT_.out (by kernel_rfl)) ?_
        clear HT_ HW_
        clear hjj p_ q_ p2_ q2_ p3_ q3_ p4_ q4_ hd hdn hd3 hdn3 k1 k2 k3 hjl hml' hml hlt
        have hc0 := cl_ B10 0; have hc2 := cl_ B10 2; have he0 := cl_ B11 0; have he2 := cl_ B11 2
        have HXE : Aside0 (Below w5.heap.size w5 wv) := ⟨HX.out.trans (HS.out.mono HX.out.size)⟩
        rcases HNX.out with hA | ⟨hA, hB⟩
        · have u1 : decide (f2 < e2) = false := decide_eq_false (by omega)
          have u2 : (f2 == e2) = false := beq_eq_false_iff_ne.2 (by omega)
          have u3 : decide (f2 = e2) = false := decide_eq_false (by omega)
          clear hA
          go_wp2_with fail
          go_roundw
          case rel => exact ⟨i + 1, rfl, rfl, HLT, HXE⟩
          case measure => have := HLT.out; simp [intOf]; omega
        · subst hA
          have u4 : Op.bytesLess f0.toList e0.toList = true := by rw [bytesLess_eq]; exact decide_eq_true hB
          have u1 : decide (f2 < f2) = false := decide_eq_false (by omega)
          have u2 : (f2 == f2) = true := beq_self_eq_true _
          clear hB
          go_wp2_with fail
          go_roundw
          case rel => exact ⟨i + 1, rfl, rfl, HLT, HXE⟩
          case measure => have := HLT.out; simp [intOf]; omega
    · have hd : decide ((i : Int) < (b.length : Int)) = false := decide_eq_false (by omega)
      have hdn : decide (i < b.length) = false := decide_eq_false hlt
      obtain rfl : i = b.length := by have := HI.out; omega
      rw [cnt_end, HN'.out]
      go_wp2_with fail
      refine (awake_calls _).mono ?_
      rintro e w6 ⟨rfl, hb⟩
      replace HX := Aside0.mk (below_step HX.out hb)
      clear hb hd hdn hlt
      have hnn : ((n : Int) == (n : Int)) = true := beq_self_eq_true _
      have HALL : Aside0 (promosOk r = true) := ⟨by rw [all_eq]; exact HINV.out.ok H6.out⟩
      go_wp2_with fail
      refine (all_walk (Kd.C_below HR2.out (HB5.out.trans (HX.out.mono (Nat.le_refl _)))) HC2.out).mono ?_
      rintro e w7 ⟨rfl, hb⟩
      rw [HALL.out]
      replace HX := Aside0.mk (below_step HX.out hb)
      go_wp2
      go_ret
      exact ⟨rfl, below_step HB.out HX.out⟩
theorem good_fit (x0 : Rw.S60) (g0 : (x0.f0.size ≤ 9223372036854775807 ∧ ((Lit.int .i64 x0.f1).wf = true ∧ ((Lit.int .i64 x0.f2).wf = true ∧ (x0.f3.size ≤ 9223372036854775807 ∧ (x0.f4.size ≤ 9223372036854775807 ∧ (True ∧ (((x0.f6.f0.length ≤ 9223372036854775807 ∧ ∀ y0 ∈ x0.f6.f0, y0.size ≤ 9223372036854775807) ∧ ((x0.f6.f1.length ≤ 9223372036854775807 ∧ ∀ y0 ∈ x0.f6.f1, y0.size ≤ 9223372036854775807))) ∧ ((Lit.int .i64 x0.f7).wf = true ∧ ((Lit.int .i64 x0.f8).wf = true ∧ ((Lit.int .i64 x0.f9).wf = true ∧ ((Lit.int .i64 x0.f10).wf = true ∧ ((Lit.int .i64 x0.f11).wf = true ∧ ((x0.f12.length ≤ 9223372036854775807 ∧ ∀ y0 ∈ x0.f12, (((y0.f0.f0.length ≤ 9223372036854775807 ∧ ∀ y1 ∈ y0.f0.f0, y1.size ≤ 9223372036854775807) ∧ ((y0.f0.f1.length ≤ 9223372036854775807 ∧ ∀ y1 ∈ y0.f0.f1, y1.size ≤ 9223372036854775807))) ∧ ((Lit.int .i64 y0.f1).wf = true))) ∧ ((x0.f13.length ≤ 9223372036854775807 ∧ ∀ y0 ∈ x0.f13, ((Lit.int .i64 y0.f0).wf = true ∧ ((Lit.int .i64 y0.f1).wf = true ∧ ((Lit.int .i64 y0.f2).wf = true))))))))))))))))))) : fitPm x0 := by
  obtain ⟨h0, _, _, h3, h4, _, h6, _, _, _, _, _, h12, h13⟩ := g0
  refine ⟨h0, h3, h4, h6.1, h6.2, h12.1, h13.1, fun j hj => ?_⟩
  have hm2 : rd_T65 x0.f12 (j : Int) ∈ x0.f12 := by
    unfold rd_T65
    rw [Int.toNat_natCast, List.getD_eq_getElem?_getD, List.getElem?_eq_getElem hj]
    exact List.getElem_mem hj
  exact (h12.2 _ hm2).1

def fitML (l : PL) (cs : List ByteArray) : Prop := l.length ≤ 9223372036854775807 ∧ (∀ i, i < l.length → fitPm (rd_T60 l (i : Int))) ∧ fitL cs
noncomputable def fitB (l : PL) (cs : List ByteArray) : Bool := @decide (fitML l cs) (Classical.propDecidable _)
noncomputable def f (n : Nat) (l0 : List (S60)) (l1 : List ByteArray) : Option Bool := if fitB l0 l1 = true then some true else none
theorem calls (n : Nat) (A0 : Option Addr) (c0 : Nat) (l0 : List (S60)) (A1 : Option Addr) (c1 : Nat) (l1 : List ByteArray) (y : Bool) (w : World) (h0 : Kd.C k60 w A0 l0.length l0) (hc0 : l0.length ≤ c0) (h1 : Kd.C Kd.string w A1 l1.length l1) (hc1 : l1.length ≤ c1) (h : f n l0 l1 = some y) :
    Calls Try.prog 9 #[.slice A0 l0.length c0, .slice A1 l1.length c1] w fun e w' => e = .returned (.bool y) ∧ Below w.heap.size w w' := by
  unfold f at h
  by_cases hf : fitB l0 l1 = true
  · rw [if_pos hf] at h
    obtain rfl : y = true := by injection h with h; exact h.symm
    have hF := @of_decide_eq_true _ (Classical.propDecidable _) hf
    exact more' hF.1 hF.2.1 hF.2.2 h0 hc0 h1 hc1
  · rw [if_neg hf] at h
    exact absurd h (by simp)
theorem Pure (x0 : List Rw.S60) (x1 : List ByteArray) (g0 : (x0.length ≤ 9223372036854775807 ∧ ∀ y0 ∈ x0, (y0.f0.size ≤ 9223372036854775807 ∧ ((Lit.int .i64 y0.f1).wf = true ∧ ((Lit.int .i64 y0.f2).wf = true ∧ (y0.f3.size ≤ 9223372036854775807 ∧ (y0.f4.size ≤ 9223372036854775807 ∧ (True ∧ (((y0.f6.f0.length ≤ 9223372036854775807 ∧ ∀ y1 ∈ y0.f6.f0, y1.size ≤ 9223372036854775807) ∧ ((y0.f6.f1.length ≤ 9223372036854775807 ∧ ∀ y1 ∈ y0.f6.f1, y1.size ≤ 9223372036854775807))) ∧ ((Lit.int .i64 y0.f7).wf = true ∧ ((Lit.int .i64 y0.f8).wf = true ∧ ((Lit.int .i64 y0.f9).wf = true ∧ ((Lit.int .i64 y0.f10).wf = true ∧ ((Lit.int .i64 y0.f11).wf = true ∧ ((y0.f12.length ≤ 9223372036854775807 ∧ ∀ y1 ∈ y0.f12, (((y1.f0.f0.length ≤ 9223372036854775807 ∧ ∀ y2 ∈ y1.f0.f0, y2.size ≤ 9223372036854775807) ∧ ((y1.f0.f1.length ≤ 9223372036854775807 ∧ ∀ y2 ∈ y1.f0.f1, y2.size ≤ 9223372036854775807))) ∧ ((Lit.int .i64 y1.f1).wf = true))) ∧ ((y0.f13.length ≤ 9223372036854775807 ∧ ∀ y1 ∈ y0.f13, ((Lit.int .i64 y1.f0).wf = true ∧ ((Lit.int .i64 y1.f1).wf = true ∧ ((Lit.int .i64 y1.f2).wf = true)))))))))))))))))))) (g1 : (x1.length ≤ 9223372036854775807 ∧ ∀ y0 ∈ x1, y0.size ≤ 9223372036854775807)) : ∃ k, f k x0 x1 = some true :=
  ⟨0, by
    unfold f
    rw [if_pos]
    refine @decide_eq_true _ (Classical.propDecidable _) ⟨g0.1, fun i hi => ?_, g1⟩
    have hm2 : rd_T60 x0 (i : Int) ∈ x0 := by
      unfold rd_T60
      rw [Int.toNat_natCast, List.getD_eq_getElem?_getD, List.getElem?_eq_getElem hi]
      exact List.getElem_mem hi
    exact good_fit _ (g0.2 _ hm2)⟩
end Go.Proofs.Ytdmeepjefccpgaa.LPM
