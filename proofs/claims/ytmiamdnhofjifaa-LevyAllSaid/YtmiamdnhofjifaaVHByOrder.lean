/- levy.byOrder: taxes of lines, those of one rate rounded together, as a Lean function, with its contract. -/
import Derived.Test.YtmiamdnhofjifaaProg
import Derived.Below
import Derived.Deep.Draws
import Derived.Deep.AppendLies
import Derived.Maps.AppendAt
import Derived.OwnWalk
import Derived.Laws.BytesArg
import Derived.Laws.MakeOwn
import Derived.Laws.OwnMore
import Derived.Deep.OwnRows
import Derived.Tactics
import Derived.Lib.ConvBytes
import Derived.Laws.Slices
import Derived.WalkKit
import Derived.KernelRfl
import Derived.RowKit3
import Derived.Deep.LoopGhost
import Derived.Deep.QuietTactic
import Derived.BigQuiet
import Derived.WideLaws
import Derived.Deep.DeepCutAuto
import Derived.Deep.CutBlock
import Derived.Deep.RegionHeld3
import Derived.Laws.Rows
import Derived.Lib.AppendStr
import Derived.ArgAppend
import Derived.Laws.IdiomCopy
import Derived.OrdersHeld
import Derived.Laws.BitsLemmas
import Derived.RowKit
import Derived.BigRegion
import Derived.Outline
import Derived.RegionTactic
import Derived.StillTailTactics
import Derived.Deep.RegionLaw
import Derived.Test.YtmiamdnhofjifaaVRwGoods
import Derived.Test.YtmiamdnhofjifaaVHLargest
import Derived.Test.YtmiamdnhofjifaaVQLine
import Derived.Test.YtmiamdnhofjifaaVLevyS
import Derived.Test.YtmiamdnhofjifaaVHFun
set_option linter.unusedVariables false
set_option linter.unusedSimpArgs false
namespace Go.Proofs.Ytmiamdnhofjifaa.Rw
open Go.Proofs.Ytmiamdnhofjifaa
open Go Go.RowKit Go.Proofs.YtmiamdnhofjifaaW.PrintWords Go.Proofs.Ytmiamdnhofjifaa.SP Go.Proofs.Ytmiamdnhofjifaa.QM Go.Proofs.Ytmiamdnhofjifaa.QR Go.Proofs.Ytmiamdnhofjifaa.QW Go.Proofs.Ytmiamdnhofjifaa.GP Go.Proofs.Ytmiamdnhofjifaa.LV Go.Proofs.Ytmiamdnhofjifaa.QL2

theorem much_f (incl byo : Bool) (k : Int) (zs : List S51) (x r : Int) (h0 : 0 ≤ r) (h1 : r ≤ 10000) : levy_much.f incl byo k zs x r = some (mch incl k x r) := by
  unfold levy_much.f mch den money_Times.f
  cases incl
  · simp
  · simp only [if_true]
    rw [show wrap64 (10000 + r) = 10000 + r from by unfold wrap64; omega]
    rfl

/-- What byOrder has in hand while it walks a group. -/
structure BS (w0 : World) (B g gb r : Nat) (bx : Array Value) (O : List Int) (v14 v15 : Value) (ls ws : List Int) (wr : World) (ro : Option Nat) (m : List Ent) : Prop where
  hs : B = w0.heap.size
  hg : B ≤ g
  hgb : B ≤ gb
  hr : B ≤ r
  hq : IsQ 92 96 wr g ro m
  hro : ∀ r', ro = some r' → B ≤ r'
  hl : Kd.R (Kd.int .i64) 3 wr B (fun _ => True) v14 ls
  hw : Kd.R (Kd.int .i64) 2 wr B (fun k => k ≠ r) v15 ws
  ho : Blk 2 wr r O
  hb : wr.heap[gb]? = some (.cells bx 24 (0, 0))
  hB : Below B w0 wr

section
variable {w0 : World} {B g gb r : Nat} {bx : Array Value} {O : List Int} {v14 v15 : Value} {ls ws : List Int} {wr w1 : World} {ro : Option Nat} {m : List Ent}
theorem BS.drewN (h : BS w0 B g gb r bx O v14 v15 ls ws wr ro m) (n : Nat) : BS w0 B g gb r bx O v14 v15 ls ws (wr.drewN n) ro m :=
  ⟨h.hs, h.hg, h.hgb, h.hr, h.hq.drewN n, h.hro, Kd.R_drewN h.hl n, Kd.R_drewN h.hw n, h.ho, h.hb, pw_below_drewN h.hB n⟩
theorem BS.queue (h : BS w0 B g gb r bx O v14 v15 ls ws wr ro m) {ro1 : Option Nat} {m1 : List Ent} (hq1 : IsQ 92 96 w1 g ro1 m1) (hr1 : ∀ r', ro1 = some r' → ro = some r' ∨ wr.heap.size ≤ r') (hk : Kp (fun k => k = g ∨ some k = ro) wr w1) : BS w0 B g gb r bx O v14 v15 ls ws w1 ro1 m1 := by
  refine ⟨h.hs, h.hg, h.hgb, h.hr, hq1, fun r' hr' => ?_, ?_, ?_, ?_, ?_, ?_⟩
  · rcases hr1 r' hr' with h1 | h1
    · exact h.hro r' h1
    · have := h.hB.size; have := h.hs; omega
  · exact R_kp h.hl hk (fun k _ hk cells q fr hc => by rcases q_types h.hq k hk _ _ _ hc with rfl | rfl <;> decide)
  · exact R_kp h.hw hk (fun k _ hk cells q fr hc => by rcases q_types h.hq k hk _ _ _ hc with rfl | rfl <;> decide)
  · exact (hk.block r h.ho.lt (q_off h.hq h.ho (by decide) (by decide))).trans h.ho
  · exact (hk.block gb (blk_lt h.hb) (q_off h.hq h.hb (by decide) (by decide))).trans h.hb
  · exact Kp.below_trans h.hB hk (by rw [h.hs]; exact Nat.le_refl _) (by
      rintro i (rfl | h1)
      · exact h.hg
      · exact h.hro i h1.symm)
theorem BS.beside (h : BS w0 B g gb r bx O v14 v15 ls ws wr ro m) (hk : Kp (fun _ => False) wr w1) : BS w0 B g gb r bx O v14 v15 ls ws w1 ro m :=
  ⟨h.hs, h.hg, h.hgb, h.hr, h.hq.kp hk (fun h => h) (fun _ _ h => h), h.hro, R_kp h.hl hk (fun _ _ h => h.elim), R_kp h.hw hk (fun _ _ h => h.elim), (hk.block r h.ho.lt (fun h => h)).trans h.ho, (hk.block gb (blk_lt h.hb) (fun h => h)).trans h.hb, Kp.below_trans h.hB hk (by rw [h.hs]; exact Nat.le_refl _) (fun _ h => h.elim)⟩
theorem BS.store (h : BS w0 B g gb r bx O v14 v15 ls ws wr ro m) (i : Nat) (x : Int) : BS w0 B g gb r bx (O.set i x) v14 v15 ls ws (wr.setCell ⟨r, i, none⟩ (.int .i64 x)) ro m := by
  have hk : Kp (fun k => k = r) wr (wr.setCell ⟨r, i, none⟩ (.int .i64 x)) := (Kp.refl _ _).setCell _ _ (fun _ => rfl)
  refine ⟨h.hs, h.hg, h.hgb, h.hr, q_kp h.hq hk (fun k hk' _ => ?_), h.hro, ?_, ?_, h.ho.set i x, ?_, ?_⟩
  · subst hk'
    exact ⟨_, _, _, h.ho, by decide, by decide⟩
  · exact R_kp h.hl hk (fun k _ hk' cells q fr hc => by
      subst hk'
      have := h.ho
      unfold Blk at this
      rw [this] at hc
      injection hc with hc
      injection hc with _ hc
      subst hc
      decide)
  · exact Kd.R_far h.hw (fun k hk => hk) _
  · refine (hk.block gb (blk_lt h.hb) ?_).trans h.hb
    exact blk_ne h.hb h.ho (by decide)
  · exact Kp.below_trans h.hB hk (by rw [h.hs]; exact Nat.le_refl _) (by rintro i rfl; exact h.hr)
theorem BS.drop (h : BS w0 B g gb r bx O v14 v15 ls ws wr ro m) : BS w0 B g gb r bx O (.slice none 0 0) (.slice none 0 0) [] [] wr ro m :=
  ⟨h.hs, h.hg, h.hgb, h.hr, h.hq, h.hro, Kd.R_nil _ _ _ _ _, Kd.R_nil _ _ _ _ _, h.ho, h.hb, h.hB⟩
theorem BS.lists (h : BS w0 B g gb r bx O v14 v15 ls ws wr ro m) {v14' v15' : Value} {ls' ws' : List Int} (hl' : Kd.R (Kd.int .i64) 3 w1 B (fun _ => True) v14' ls') (hw' : Kd.R (Kd.int .i64) 2 w1 B (fun k => k ≠ r) v15' ws') (hk : Kp (fun k => some k = v14.ownBlock ∨ some k = v15.ownBlock) wr w1) : BS w0 B g gb r bx O v14' v15' ls' ws' w1 ro m := by
  refine ⟨h.hs, h.hg, h.hgb, h.hr, q_kp h.hq hk (fun k hk' _ => ?_), h.hro, hl', hw', ?_, ?_, ?_⟩
  · rcases hk' with h1 | h1
    · obtain ⟨cells, hc⟩ := Kd.R_typed h.hl k h1.symm
      exact ⟨cells, _, _, hc, by decide, by decide⟩
    · obtain ⟨cells, hc⟩ := Kd.R_typed h.hw k h1.symm
      exact ⟨cells, _, _, hc, by decide, by decide⟩
  · refine (hk.block r h.ho.lt ?_).trans h.ho
    rintro (h1 | h1)
    · exact Kd.R_ne h.hl h.ho (by decide) h1
    · exact h.hw.1 r h1.symm rfl
  · refine (hk.block gb (blk_lt h.hb) ?_).trans h.hb
    rintro (h1 | h1)
    · exact Kd.R_ne h.hl h.hb (by decide) h1
    · exact Kd.R_ne h.hw h.hb (by decide) h1
  · exact Kp.below_trans h.hB hk (by rw [h.hs]; exact Nat.le_refl _) (by
      rintro i (h1 | h1)
      · exact Kd.R_base h.hl i h1.symm
      · exact Kd.R_base h.hw i h1.symm)
end

theorem belowA {B : Nat} {w W : World} (hB : B = w.heap.size) (h : Below B w W) (o : Obj) : Below B w (W.alloc o) := h.alloc (by rw [hB]; exact h.size) o
theorem sizeA {B : Nat} {w W : World} (hB : B = w.heap.size) (h : Below B w W) : B ≤ W.heap.size := by rw [hB]; exact h.size
theorem kp_grown {S : Nat → Prop} {a b c : World} (h : Kp S a b) {row : Option Nat} (hg : b.grownBy c row) (hr : ∀ k, row = some k → S k) : Kp S a c := h.trans' (Kp.of_grown hg) (fun i _ h => hr i h.symm)
theorem C_blk {W : World} {n : Int} {T k : Nat} (h : W.heap[k]? = some (.cells #[.int .i64 n] T (0, 0))) : Kd.C (Kd.int .i64) W (some ⟨k, 0, none⟩) 1 [n] := by
  refine ⟨rfl, by omega, fun _ => ⟨_, rfl, fun j p hj => ?_⟩⟩
  cases j with
  | zero =>
    cases hj
    refine ⟨[.int .i64 n], rfl, rfl, fun i u hu => ?_⟩
    cases i with
    | zero =>
      cases hu
      show World.cell? _ (Addr.add ⟨k, 0, none⟩ (0 * 1 + 0)) = _
      rw [addr0, cell_of_row _ _ _ _ _ _ h]
      rfl
    | succ i => cases hu
  | succ j => cases hj
theorem alloc_at (W : World) (o : Obj) (k : Nat) (h : W.heap.size = k) : (W.alloc o).heap[k]? = some o := by subst h; exact alloc_new W o
theorem gate_dstR {oi : Oper} (N : Nat) {l : Array Oper} {a : Array Value} (_h : oi.dst = some N) {A B : Prop} (h : if Region.wanted oi (yielded l a) = true then A else B) : if Region.wanted oi (yielded l a) = true then A else B := h

set_option maxRecDepth 100000 in
set_option maxHeartbeats 8000000 in
theorem byOrder_walk (incl byo : Bool) (kr : Int) (A0 : Option Addr) (c0 : Nat) (zs : List S51) (A1 : Option Addr) (c1 : Nat) (rs : List Int) (A2 : Option Addr) (c2 : Nat) (ns : List Int) (w : World) (B : Nat) (hB : w.heap.size = B)
    (hr0 : Kd.C k51 w A0 zs.length zs) (hc0 : zs.length ≤ c0) (hr1 : Kd.C (Kd.int .i64) w A1 rs.length rs) (hc1 : rs.length ≤ c1) (hr2 : Kd.C (Kd.int .i64) w A2 ns.length ns) (hc2 : ns.length ≤ c2)
    (hlen : rs.length = ns.length) (hn : ns.length ≤ 1000) (hrs : ∀ r ∈ rs, 0 ≤ r ∧ r ≤ 10000) (hns : ∀ x ∈ ns, 0 ≤ x) (hsum : ns.sum ≤ 10000000000000) :
    Calls Try.prog 25 #[.agg #[.bool incl, .bool byo, .int .i64 kr, .slice A0 zs.length c0], .slice A1 rs.length c1, .slice A2 ns.length c2] w fun e w' => ∃ v0_ : Value, e = .returned (v0_) ∧ Kd.R (Kd.int .i64) 2 w' B (fun _ => True) v0_ (whole (lp incl kr) rs ns) ∧ Below B w w' := by
  obtain ⟨n, hnn⟩ : ∃ n, n = ns.length := ⟨_, rfl⟩
  have hnb : n ≤ 1000 := by omega
  have hmk := print_make (P := Try.prog) 26 2 .i64 8 Try.underlying26 info2 (by decide) n (by omega)
  have hd : ((n : Int)).toNat = n := Int.toNat_natCast _
  have HC0 := Aside0.mk hr0
  have HCC0 := Aside0.mk hc0
  have HC1 := Aside0.mk hr1
  have HC2 := Aside0.mk hr2
  have HN := Aside0.mk hnn
  have HNR := Aside0.mk (show rs.length = n from by omega)
  have HRS := Aside0.mk hrs
  have HNS := Aside0.mk hns
  have HSUM := Aside0.mk hsum
  have HB := Aside0.mk hB
  have HLEN := Aside0.mk hlen
  have HRB := Aside0.mk (show ∀ k (h : k < rs.length), 0 ≤ rs[k] ∧ rs[k] ≤ 10000 from fun k h => hrs _ (List.getElem_mem h))
  have HNEG := Aside0.mk (show (negs rs).length = n from by simp [negs]; omega)
  rw [← hnn] at hc2 ⊢
  obtain ⟨nr, hnr⟩ : ∃ nr, nr = rs.length := ⟨_, rfl⟩
  have hnrn : n = nr := by omega
  rw [← hnr] at hc1 ⊢
  subst hnrn
  have HNRR := Aside0.mk hnr
  clear hr0 hr1 hr2 hrs hns hsum hB hlen hn hnn hnr hc0
  go_enter Try.func25, Try.ntmps25
  go_wp2_with fail
  refine (new_calls _).mono ?_
  rintro e w2 ⟨g, rfl, hq0, hg0, hk0⟩
  obtain ⟨bx, hbx⟩ : ∃ bx : Array Value, bx = #[.bool incl, .bool byo, .int .i64 kr, .slice A0 zs.length c0] := ⟨_, rfl⟩
  have hgb : w2.heap[w.heap.size]? = some (.cells bx 24 (0, 0)) := by
    rw [hbx]
    refine (hk0.block _ (by simp; omega) (fun h => h)).trans ?_
    rw [alloc_old _ _ _ (by simp)]
    exact alloc_new w _
  have hbl : Blk 2 w2 (w.heap.size + 1) (List.replicate n 0) := by
    have h : Blk 2 ((w.alloc (.cells #[.bool incl, .bool byo, .int .i64 kr, .slice A0 zs.length c0] 24)).alloc (.cells (madeCells #[.int .i64 0] n) 2)) (w.heap.size + 1) (List.replicate n 0) := by
      unfold Blk
      have := alloc_new (w.alloc (.cells #[.bool incl, .bool byo, .int .i64 kr, .slice A0 zs.length c0] 24)) (.cells (madeCells #[.int .i64 0] n) 2)
      rw [show (w.alloc (.cells #[.bool incl, .bool byo, .int .i64 kr, .slice A0 zs.length c0] 24)).heap.size = w.heap.size + 1 from by simp] at this
      rw [this, made_one]; simp
    exact (hk0.block _ h.lt (fun h => h)).trans h
  have hW2 : Below B w w2 := by
    rw [← HB.out]
    refine Below.trans (((Below.refl _ _).alloc (Nat.le_refl _) _).alloc (by simp) _) (hk0.to_below (by simp; omega) (fun _ h => h.elim))
  have hgB : B ≤ g := by have := HB.out; simp at hg0; omega
  have HBXX := Aside0.mk hbx
  obtain ⟨gb, hgbe⟩ : ∃ gb, gb = w.heap.size := ⟨_, rfl⟩
  obtain ⟨r, hre⟩ : ∃ r, r = w.heap.size + 1 := ⟨_, rfl⟩
  rw [← hgbe] at hgb
  rw [← hre] at hbl
  have hBgb : B ≤ gb := by have := HB.out; omega
  have hBr : B ≤ r := by have := HB.out; omega
  have HS0 := Aside0.mk (show BS w B g gb r bx (List.replicate n 0) (.slice none 0 0) (.slice none 0 0) [] [] w2 none [] from
    ⟨HB.out.symm, hgB, hBgb, hBr, hq0, (fun r h => by cases h), Kd.R_nil _ _ _ _ _, Kd.R_nil _ _ _ _ _, hbl, hgb, hW2⟩)
  rw [← hre, ← hgbe]
  have HGE := Aside0.mk hgbe
  have HRE := Aside0.mk hre
  clear hgb hbl hW2 hq0 hg0 hk0 hbx hgbe hre
  go_wp2_with fail
  go_loopw [30] (fun x wr => ∃ (k : Nat) (ro : Option Nat), x = .int .i64 k ∧ k ≤ n ∧ Aside0 (BS w B g gb r bx (List.replicate n 0) (.slice none 0 0) (.slice none 0 0) [] [] wr ro (ents ((negs rs).take k)))) (fun x _ => n - (intOf x).toNat)
  case atStart => exact ⟨0, none, rfl, Nat.zero_le _, HS0⟩
  case round =>
    obtain ⟨k, ro, rfl, hk, HS⟩ := hrel
    by_cases hlt : k < n
    · have hltr : k < rs.length := by rw [HNR.out]; exact hlt
      obtain ⟨ad, hA, hcell⟩ := Kd.at_int (Kd.C_below (by have := HC1.out; rw [HNR.out] at this; exact this) (by have := HS.out.hB; rw [← HB.out] at this; exact this)) (k : Int) (by omega) (by omega)
      subst hA
      rw [Int.toNat_natCast, SH.rd_of rs k hltr] at hcell
      have hrk := HRB.out k hltr
      have hent := ents_take (negs rs) k (by rw [HNEG.out]; exact hlt)
      have hnk : (negs rs)[k]'(by rw [HNEG.out]; exact hlt) = -rs[k] := by simp [negs]
      rw [hnk] at hent
      have HENT := Aside0.mk hent
      obtain ⟨y, hy⟩ : ∃ y, y = rs[k] := ⟨_, rfl⟩
      rw [← hy] at hcell hrk HENT
      obtain ⟨hy0, hy1⟩ := hrk
      clear hent hnk hy
      go_wp2_with fail
      refine (push_calls (-y) k HS.out.hq (by rw [ents_length, List.length_take, HNEG.out]; omega)).mono ?_
      rintro e w4 ⟨rfl, r4, hq4, hr4, hk4⟩
      have HS4 := Aside0.mk (HS.out.queue hq4 (fun r' h => by cases h; exact hr4) hk4)
      clear hq4 hr4 hk4 hcell
      go_wp2_with fail
      go_roundw
      case rel =>
        refine ⟨k + 1, some r4, by go_num, by omega, ⟨?_⟩⟩
        have h := HS4.out
        refine ⟨h.hs, h.hg, h.hgb, h.hr, h.hq.perm ?_, h.hro, h.hl, h.hw, h.ho, h.hb, h.hB⟩
        rw [HENT.out]
        exact List.perm_append_comm (l₁ := [(-y, (k : Int))])
      case measure => simp [intOf]; omega
    · have hke : k = n := by omega
      subst hke
      have HS1 := Aside0.mk (show BS w B g gb r bx (List.replicate k 0) (.slice none 0 0) (.slice none 0 0) [] [] wr ro (ents (negs rs)) from by have := HS.out; rwa [List.take_of_length_le (by rw [HNEG.out]; exact Nat.le_refl _)] at this)
      clear hlt hk HS
      go_wp2_with fail
      obtain ⟨ww, hww⟩ : ∃ ww : World, ww = wr := ⟨_, rfl⟩
      subst hww
      go_loopg [16] (k + 1) (fun kq v16 wr => ∃ (m : List Ent) (O : List Int), Aside0 (m.length < kq) ∧ Aside0 (m.length ≤ k) ∧ Aside0 (BS w B g gb r bx O (.slice none 0 0) (.slice none 0 0) [] [] wr ro m) ∧ Aside0 (Inv (lp incl kr) rs ns (line m) O) ∧ Aside0 (Closed (line (ents (negs rs))) (line m)))
      case atStart => exact ⟨ents (negs rs), List.replicate k 0, ⟨by rw [ents_length, HNEG.out]; omega⟩, ⟨by rw [ents_length, HNEG.out]; omega⟩, HS1, ⟨inv_start _ _ _ _ (by rw [HNR.out]; simp)⟩, ⟨fun e _ => rfl⟩⟩
      case round =>
        obtain ⟨m, O, HML, HMK, HS, HINV, HCL⟩ := hrel
        rcases Nat.eq_zero_or_pos m.length with hm | hm
        · obtain rfl : m = [] := List.eq_nil_of_length_eq_zero hm
          clear hm
          go_wp2_with fail
          refine (qlen_calls HS.out.hq).mono ?_
          rintro e w' ⟨rfl, rfl⟩
          go_wp2_with fail
          go_ret
          have hO := inv_end HINV.out
          have := HS.out.ho.own B hBr (by rw [hO]; simp only [maxLen, whole, List.length_map, List.length_range]; have := HNR.out; omega)
          rw [show O.length = k from by rw [HINV.out.1, HNR.out]] at this
          exact ⟨_, rfl, by rw [← hO]; exact this, HS.out.hB⟩
        · have hd1 : decide ((0 : Int) < (m.length : Int)) = true := by simp; omega
          obtain ⟨x, t, hxt⟩ := line_some hm
          obtain ⟨rest, hsp, hrest, hrl, hrc, i0, tl, hpls, hx2⟩ := step_split hxt (line_lined m) HCL.out
          have hmk2 := HMK.out
          go_wp2_with fail
          refine (qlen_calls HS.out.hq).mono ?_
          rintro e w' ⟨rfl, rfl⟩
          go_wp2_with fail
          refine (peek_line HS.out.hq (by omega)).mono ?_
          rintro e w3 ⟨rfl, n3, rfl⟩
          rw [hxt]
          simp only [pk]
          have HS3 := Aside0.mk (HS.out.drewN n3)
          clear hm hd1
          go_wp2_with fail
          refine (peek_line HS3.out.hq (by omega)).mono ?_
          rintro e w4 ⟨rfl, n4, rfl⟩
          have HS4 := Aside0.mk (HS3.out.drewN n4)
          obtain ⟨G, hG⟩ : ∃ G, G = pls rs (-x.1) := ⟨_, rfl⟩
          obtain ⟨rate, hrate⟩ : ∃ rate, rate = x.1 := ⟨_, rfl⟩
          have HGK := Aside0.mk (group_ok HLEN.out HNS.out HSUM.out (by rw [← HN.out]; exact hnb) (-x.1))
          have HGR := Aside0.mk (show ∀ z ∈ pls rs (-x.1), 0 ≤ z ∧ z < (k : Int) from fun z hz => by have := pls_range z hz; have := HNR.out; omega)
          have HINV2 := Aside0.mk (show Inv (lp incl kr) rs ns rest (putL O (pls rs (-x.1)) (lp incl kr (-x.1) (pick ns (pls rs (-x.1))))) from inv_step HINV.out hsp hrest (lp_group HLEN.out HNS.out HSUM.out (by rw [← HN.out]; exact hnb) incl kr (-x.1) (-x.1)))
          have HLPL := Aside0.mk (lp_group HLEN.out HNS.out HSUM.out (by rw [← HN.out]; exact hnb) incl kr (-x.1) (-x.1))
          have HXR := Aside0.mk (show 0 ≤ -x.1 ∧ -x.1 ≤ 10000 from by
            have : i0 ∈ pls rs (-x.1) := by rw [hpls]; exact List.mem_cons_self
            obtain ⟨j, hj, h1, _⟩ := pls_mem.1 this
            rw [← h1]; exact HRB.out j hj)
          have HG1 := Aside0.mk (show 0 < (pls rs (-x.1)).length from by rw [hpls]; simp)
          rw [← hG] at hsp HGK HGR HINV2 HLPL HG1
          rw [← hrate] at hsp hrest HINV2 HLPL HXR ⊢
          have HSP := Aside0.mk hsp
          have HREST := Aside0.mk hrest
          have HRL := Aside0.mk hrl
          have HRC := Aside0.mk hrc
          have HPK0 := Aside0.mk (show pk (line m) = (rate, G.getD 0 0, true) from by rw [hxt, hG, hpls, hrate]; simp [pk, hx2])
          rw [HPK0.out]
          simp only []
          have HOL := Aside0.mk (show O.length = k from by rw [HINV.out.1, HNR.out])
          clear hsp hrest hrl hrc hpls hx2 hG hrate hxt HS HS3 HINV HCL
          go_wp2_with fail
          obtain ⟨wo, hwo⟩ : ∃ wo : World, wo = (wr.drewN n3).drewN n4 := ⟨_, rfl⟩
          have HS5 := Aside0.mk (show BS w B g gb r bx O (.slice none 0 0) (.slice none 0 0) [] [] wo ro m from by rw [hwo]; exact HS4.out)
          simp only [World.drewN_drewN] at hwo ⊢
          rw [← hwo]
          clear HS4 hwo
          go_loopg [14, 15, 16, 17, 18, 19] (G.length + 1) (fun kq v14 v15 v16 v17 v18 v19 wr => ∃ (j : Nat) (m1 : List Ent), v16 = .int .i64 (pick ns (G.take j)).sum ∧ v17 = .int .i64 (pk (line m1)).1 ∧ v18 = .int .i64 (pk (line m1)).2.1 ∧ v19 = .bool (pk (line m1)).2.2 ∧ j ≤ G.length ∧ Aside0 (G.length < kq + j) ∧ Aside0 (line m1 = ((G.drop j).map fun i => ((rate, i) : Ent)) ++ rest) ∧ Aside0 (m1.length + j = m.length) ∧ Aside0 (BS w B g gb r bx O v14 v15 (G.take j) (pick ns (G.take j)) wr ro m1))
          case atStart => exact ⟨0, m, by simp [pick], by rw [HPK0.out], by rw [HPK0.out]; simp, by rw [HPK0.out], Nat.zero_le _, ⟨by omega⟩, ⟨by rw [HSP.out]; rfl⟩, ⟨rfl⟩, ⟨by simpa [pick] using HS5.out⟩⟩
          case round =>
            obtain ⟨j, m1, rfl, rfl, rfl, rfl, hj, HGQ, HLN, HM1, HS⟩ := hrel
            have hm1 : m1.length ≤ 1000 := by have := HM1.out; omega
            by_cases hlt : j < G.length
            · have hl1 : line m1 = (rate, G[j]) :: (((G.drop (j + 1)).map fun i => ((rate, i) : Ent)) ++ rest) := by
                rw [HLN.out, List.drop_eq_getElem_cons hlt]; rfl
              have hgj := HGR.out G[j] (List.getElem_mem hlt)
              obtain ⟨i, hi⟩ : ∃ i : Nat, G[j] = (i : Int) := ⟨G[j].toNat, by omega⟩
              rw [hi] at hl1 hgj
              have hik : i < k := by omega
              have HL1 := Aside0.mk hl1
              have HPK := Aside0.mk (show pk (line m1) = (rate, (i : Int), true) from by rw [hl1]; rfl)
              have HGI := Aside0.mk hi
              rw [HPK.out]
              simp only []
              have t1 : (rate == rate) = true := by simp
              clear hl1 hgj hi
              go_wp2_with fail
              refine (pop_line HS.out.hq HL1.out (by omega)).mono ?_
              rintro e w5 ⟨rfl, m2, h1, h2, h3, h4⟩
              have HS6 := Aside0.mk (HS.out.queue h3 (fun r' h => .inl h) h4)
              have HL2 := Aside0.mk h1
              have HM2 := Aside0.mk h2
              clear h1 h2 h3 h4
              have hin : i < ns.length := by rw [← HN.out]; exact hik
              obtain ⟨ad2, hA2, hcell2⟩ := Kd.at_int (by have := HC2.out; rw [← HN.out] at this; exact this) (i : Int) (by omega) (by omega)
              subst hA2
              rw [Int.toNat_natCast, SH.rd_of ns i hin] at hcell2
              obtain ⟨y, hy⟩ : ∃ y, y = ns[i] := ⟨_, rfl⟩
              rw [← hy] at hcell2
              have HY := Aside0.mk hy
              have HNC := Aside0.mk (show ∀ wz, Below B w wz → wz.cell? (ad2.add i) = some (.int .i64 y) from fun wz hb => by
                rw [← HB.out] at hb
                exact (hb.cell (World.block_lt_of_cell? w _ hcell2)).trans hcell2)
              clear hcell2 hy
              have hcell := HNC.out _ HS6.out.hB
              have HLL := Aside0.mk HS6.out.hl
              have HWL := Aside0.mk (show Kd.R (Kd.int .i64) 2 w5 B (fun k => k ≠ r) u15 (pick ns (G.take j)) from HS6.out.hw)
              have HBL := Aside0.mk HS6.out.hB
              have HBS := Aside0.mk HS6.out.hs
              have hgl : (G.take j).length ≤ 1000 := by rw [List.length_take]; have := HGK.out.2.2.2; omega
              have hpl : (pick ns (G.take j)).length ≤ 1000 := by rw [pick_length]; exact hgl
              have hrlt : r < w5.heap.size := HS6.out.ho.lt
              obtain ⟨LS, hLS⟩ : ∃ LS, LS = G.take j := ⟨_, rfl⟩
              obtain ⟨WS, hWS⟩ : ∃ WS, WS = pick ns (G.take j) := ⟨_, rfl⟩
              rw [← hLS] at HLL hgl
              rw [← hWS] at HWL hpl
              have HLS := Aside0.mk hLS
              have HWS := Aside0.mk hWS
              clear hLS hWS
              go_wp2_with fail
              have HNE := Aside0.mk (show ∀ q, w5.heap.size ≤ q → some q ≠ u14.ownBlock from fun q hq e => by have := Kd.R_lt HLL.out q e.symm; omega)
              go_region_held3 (fun w' : World => w'.cell? (ad2.add i) = some (.int .i64 y))
                (first | assumption | exact HNC.out _ (by repeat (first | exact HBL.out | assumption | refine belowA HBS.out ?_ _ | apply pw_below_drewN | apply below_drew1)))
                (first
                  | (refine gate_dstR 73 rfl ?_; refine Kd.R_append_rows_step (Kd.int .i64) (w0 := w) B (by rfl) (.tmp 70) (.tmp 72) 44 3 (.int .i64 0) 8 (by rfl) Try.underlying44 info3 rfl (by decide) (by omega) u14 LS [(i : Int)] _ _ _ (fun _ => True) (fun _ => False) (by rfl) (by rfl) ?aO ?aR (fun _ _ h => h) (fun _ h => h.elim) (fun _ _ => trivial) ?aB ?aS (by omega) ?_; (case aO => (with_reducible repeat (first | apply Kd.R_alloc | apply Kd.R_drewN | apply Kd.R_drew)); exact HLL.out); (case aR => refine C_blk (T := 3) ?_; repeat (first | exact alloc_at _ _ _ (by simp) | refine blk_alloc ?_ _)); (case aB => repeat (first | exact HBL.out | refine belowA HBS.out ?_ _ | apply pw_below_drewN | apply below_drew1)); (case aS => refine sizeA HBS.out (w := w) ?_; repeat (first | exact HBL.out | refine belowA HBS.out ?_ _ | apply pw_below_drewN | apply below_drew1)); intro v73 w73 ho73 hb73 hg73 hat73)
                  | (refine gate_dstR 80 rfl ?_; refine Kd.R_append_rows_step (Kd.int .i64) (w0 := w) B (by rfl) (.tmp 74) (.tmp 79) 26 2 (.int .i64 0) 8 (by rfl) Try.underlying26 info2 rfl (by decide) (by omega) u15 WS [y] _ _ _ (fun k => k ≠ r) (fun _ => False) (by rfl) (by rfl) ?bO ?bR (fun _ _ h => h) (fun _ h => h.elim) ?bF ?bB ?bS (by omega) ?_; (case bO => (with_reducible repeat (first | apply Kd.R_alloc | apply Kd.R_drewN | apply Kd.R_drew)); exact Kd.R_over' (hg := hg73) (h := by (with_reducible repeat (first | apply Kd.R_alloc | apply Kd.R_drewN | apply Kd.R_drew)); exact HWL.out) (hty := Kd.R_typed (by (with_reducible repeat (first | apply Kd.R_alloc | apply Kd.R_drewN | apply Kd.R_drew)); exact HLL.out)) (ht := by decide)); (case bR => refine C_blk (T := 2) ?_; first | exact alloc_at _ _ _ (by simp) | (refine (hg73.block _ (by simp <;> omega) (HNE.out _ (by simp <;> omega))).trans ?_; repeat (first | exact alloc_at _ _ _ (by simp) | refine blk_alloc ?_ _))); (case bF => intro k hk e; subst e; have := hg73.size; simp at this hk; omega); (case bB => repeat (first | exact hb73 | refine belowA HBS.out ?_ _ | apply pw_below_drewN | apply below_drew1)); (case bS => refine sizeA HBS.out (w := w) ?_; repeat (first | exact hb73 | refine belowA HBS.out ?_ _ | apply pw_below_drewN | apply below_drew1)); intro v80 w80 ho80 hb80 hg80 hat80))
              all_goals
                have HL8 := Aside0.mk (show Kd.R (Kd.int .i64) 3 w80 B (fun _ => True) v73 (LS ++ [(i : Int)]) from Kd.R_over' (hg := hg80) (h := by (with_reducible repeat (first | apply Kd.R_alloc | apply Kd.R_drewN | apply Kd.R_drew)); exact ho73) (hty := Kd.R_typed (by (with_reducible repeat (first | apply Kd.R_alloc | apply Kd.R_drewN | apply Kd.R_drew)); exact Kd.R_over' (hg := hg73) (h := by (with_reducible repeat (first | apply Kd.R_alloc | apply Kd.R_drewN | apply Kd.R_drew)); exact HWL.out) (hty := Kd.R_typed (by (with_reducible repeat (first | apply Kd.R_alloc | apply Kd.R_drewN | apply Kd.R_drew)); exact HLL.out)) (ht := by decide))) (ht := by decide))
                have HK8 := Aside0.mk (show Kp (fun k => some k = u14.ownBlock ∨ some k = u15.ownBlock) w5 w80 from by
                  refine kp_grown ?_ hg80 (fun k h => .inr h.symm)
                  repeat (first | refine Kp.alloc ?_ _ | refine Kp.drewN ?_ _ | refine Kp.drew ?_)
                  refine kp_grown ?_ hg73 (fun k h => .inl h.symm)
                  repeat (first | exact Kp.refl _ _ | refine Kp.alloc ?_ _ | refine Kp.drewN ?_ _ | refine Kp.drew ?_))
                have HS8 := Aside0.mk (show BS w B g gb r bx O v73 v80 (LS ++ [(i : Int)]) (WS ++ [y]) w80 ro m2 from HS6.out.lists HL8.out ho80 HK8.out)
                have hcell8 := HNC.out _ HS8.out.hB
                have hLn : LS ++ [(i : Int)] = G.take (j + 1) := by rw [HLS.out, List.take_succ_eq_append_getElem hlt, HGI.out]
                have hWn : WS ++ [y] = pick ns (G.take (j + 1)) := by
                  rw [HWS.out, List.take_succ_eq_append_getElem hlt, HGI.out, HY.out]
                  simp [pick, hin]
                have HS9 := Aside0.mk (show BS w B g gb r bx O v73 v80 (G.take (j + 1)) (pick ns (G.take (j + 1))) w80 ro m2 from by have := HS8.out; rw [hLn, hWn] at this; exact this)
                have hsum : (pick ns (G.take (j + 1))).sum = (pick ns (G.take j)).sum + y := by
                  rw [← hWn, HWS.out, List.sum_append]; simp
                have hs1 : (pick ns (G.take j)).sum ≤ 10000000000000 ∧ 0 ≤ (pick ns (G.take j)).sum := by
                  have h1 := sum_take_le (pick ns G) (fun x hx => (HGK.out.2.1 x hx).1) j
                  have h2 := HGK.out.2.2.1
                  have : pick ns (G.take j) = (pick ns G).take j := by simp [pick, List.map_take]
                  rw [this]; omega
                have hy1 : 0 ≤ y ∧ y ≤ 10000000000000 := by
                  have := HGK.out.2.1 y (by
                    have h1 : y ∈ pick ns (G.take (j + 1)) := by rw [← hWn]; simp
                    have : pick ns (G.take (j + 1)) = (pick ns G).take (j + 1) := by simp [pick, List.map_take]
                    rw [this] at h1
                    exact List.mem_of_mem_take h1)
                  exact this
                obtain ⟨T, hT⟩ : ∃ T, T = (pick ns (G.take j)).sum := ⟨_, rfl⟩
                rw [← hT] at hsum hs1 ⊢
                obtain ⟨hs2, hs3⟩ := hs1
                obtain ⟨hy2, hy3⟩ := hy1
                have HSUMN := Aside0.mk hsum
                clear hLn hWn hsum hT ho73 hb73 hg73 hat73 ho80 hb80 hg80 hat80 hcell hrlt hgl hpl
                go_wp2_with fail
                refine (peek_line HS9.out.hq (by have := HM2.out; omega)).mono ?_
                rintro e w9 ⟨rfl, n9, rfl⟩
                go_wp2_with fail
                go_roundg (G.length - j)
                case measure => have := HGQ.out; omega
                case rel =>
                  refine ⟨j + 1, m2, by rw [HSUMN.out], rfl, rfl, rfl, by omega, ⟨by omega⟩, HL2, ⟨by have := HM1.out; have := HM2.out; omega⟩, ⟨HS9.out.drewN n9⟩⟩
            · have hje : j = G.length := by omega
              subst hje
              have hpr : (pk (line m1)).2.2 = true → ((pk (line m1)).1 == rate) = false := by
                rw [HLN.out, List.drop_length, List.map_nil, List.nil_append]
                cases hr2 : rest with
                | nil => intro h; cases h
                | cons e s => intro _; exact beq_eq_false_iff_ne.2 (HREST.out e (by rw [hr2]; exact List.mem_cons_self))
              have HLR := Aside0.mk (show line m1 = rest from by rw [HLN.out, List.drop_length]; rfl)
              have HSE := Aside0.mk (show BS w B g gb r bx O u14 u15 G (pick ns G) wr ro m1 from by have := HS.out; rw [List.take_length] at this; exact this)
              rw [List.take_length]
              clear hlt hj HS HLN
              obtain ⟨p1, p2, p3, hpe⟩ : ∃ p1 p2 p3, pk (line m1) = (p1, p2, p3) := ⟨_, _, _, rfl⟩
              rw [hpe] at hpr ⊢
              simp only [] at hpr ⊢
              have HPL := Aside0.mk (show (lp incl kr (-rate) (pick ns G)).length = G.length from HLPL.out)
              obtain ⟨P, hP⟩ : ∃ P, P = lp incl kr (-rate) (pick ns G) := ⟨_, rfl⟩
              obtain ⟨M, hM⟩ : ∃ M, M = mch incl kr (pick ns G).sum (-rate) := ⟨_, rfl⟩
              obtain ⟨le, hle⟩ : ∃ le, share_Largest.f M (pick ns G) = some (P, le) := ⟨(largest M (pick ns G)).2, by rw [hP]; unfold share_Largest.f lp; rw [hM]⟩
              have HLE := Aside0.mk hle
              have HMU := Aside0.mk (show levy_much.f incl byo kr zs (pick ns G).sum (-rate) = some M from by rw [hM]; exact much_f _ _ _ _ _ _ HXR.out.1 HXR.out.2)
              have HINV3 := Aside0.mk (show Inv (lp incl kr) rs ns rest (putL O G P) from by rw [hP]; exact HINV2.out)
              rw [← hP] at HPL
              have hg1k : G.length ≤ 1000 := HGK.out.2.2.2
              have hpl : (pick ns G).length = G.length := pick_length _ _
              have HPKL := Aside0.mk hpl
              obtain ⟨Sm, hSm⟩ : ∃ Sm, Sm = (pick ns G).sum := ⟨_, rfl⟩
              rw [← hSm] at HMU ⊢
              have hxr0 := HXR.out.1
              have hxr1 := HXR.out.2
              have hb0 := (blk_cell HSE.out.hb 0)
              have hb1 := (blk_cell HSE.out.hb 1)
              have hb2 := (blk_cell HSE.out.hb 2)
              have hb3 := (blk_cell HSE.out.hb 3)
              rw [HBXX.out] at hb0 hb1 hb2 hb3
              replace hb0 := hb0.trans (rfl : _ = some (Value.bool incl))
              replace hb1 := hb1.trans (rfl : _ = some (Value.bool byo))
              replace hb2 := hb2.trans (rfl : _ = some (Value.int .i64 kr))
              replace hb3 := hb3.trans (rfl : _ = some (Value.slice A0 zs.length c0))
              clear hP hM hle hSm hpe hpl
              cases p3
              rotate_left
              have hpr2 := hpr rfl
              all_goals
                clear hpr
                go_wp2_with fail
                refine (levy_much.calls incl byo kr A0 c0 zs Sm (-rate) M _ (Kd.C_below HC0.out (by have := HSE.out.hB; rw [← HB.out] at this; exact this)) HCC0.out HMU.out).mono ?_
                rintro e w6 ⟨rfl, hb6⟩
                have HS6 := Aside0.mk (HSE.out.beside (Kp.of_below hb6))
                obtain ⟨Aw, cw, ew⟩ := Kd.R_slice HS6.out.hw
                obtain ⟨Al, cl, el⟩ := Kd.R_slice HS6.out.hl
                rw [HPKL.out] at ew
                subst ew
                subst el
                clear hb0 hb1 hb2 hb3 hb6
                go_wp2_with fail
                have hwr := Kd.R_reads' HS6.out.hw
                refine (calls_of_args (by rw [HPKL.out]) (share_Largest.calls M Aw cw (pick ns G) P le w6 (by first | exact hwr.2.2 | (have := hwr.2.2; rw [hwr.1] at this; exact this)) (by first | exact hwr.2.1 | (rw [← HPKL.out] at hwr; exact hwr.2.1) | (have := hwr.2.1; have := HPKL.out; omega)) HLE.out)).mono ?_
                rintro e w7 ⟨vP, rfl, hP7, hb7⟩
                have HS7 := Aside0.mk (HS6.out.beside (Kp.of_below hb7))
                have HP7 := Aside0.mk (show Kd.R (Kd.int .i64) 2 w7 w6.heap.size (fun k => k ≠ r) vP P from Kd.R_mono (Kd.R_bound hP7) (fun k hk e => by have := hk.2.1; have := HS6.out.ho.lt; omega))
                obtain ⟨Ap, cp, ep⟩ := Kd.R_slice hP7
                rw [HPL.out] at ep
                subst ep
                clear hwr hP7 hb7
                go_wp2_with fail
                obtain ⟨wi, hwi⟩ : ∃ wi : World, wi = w7 := ⟨_, rfl⟩
                subst hwi
                go_loopw [99] (fun x wr => ∃ (j : Nat), x = .int .i64 j ∧ j ≤ G.length ∧ Aside0 (BS w B g gb r bx (putL O (G.take j) (P.take j)) (.slice Al G.length cl) (.slice Aw G.length cw) G (pick ns G) wr ro m1) ∧ Aside0 (Kd.R (Kd.int .i64) 2 wr w6.heap.size (fun k => k ≠ r) (.slice Ap G.length cp) P)) (fun x _ => G.length - (intOf x).toNat)
                case atStart => exact ⟨0, rfl, Nat.zero_le _, ⟨HS7.out⟩, HP7⟩
                case round =>
                  obtain ⟨j, rfl, hj, HS, HP⟩ := hrel
                  by_cases hlt : j < G.length
                  · have hjp : j < P.length := by have := HPL.out; omega
                    obtain ⟨ap, hap, hcp⟩ := Kd.at_int (Kd.R_reads' HP.out).2.2 (j : Int) (by omega) (by omega)
                    obtain ⟨al, hal, hcl⟩ := Kd.at_int (Kd.R_reads' HS.out.hl).2.2 (j : Int) (by omega) (by omega)
                    subst hap
                    subst hal
                    rw [Int.toNat_natCast, SH.rd_of P j hjp] at hcp
                    rw [Int.toNat_natCast, SH.rd_of G j hlt] at hcl
                    have hgj := HGR.out G[j] (List.getElem_mem hlt)
                    obtain ⟨i, hi⟩ : ∃ i : Nat, G[j] = (i : Int) := ⟨G[j].toNat, by omega⟩
                    rw [hi] at hcl hgj
                    have hik : i < k := by omega
                    have hit : (i : Int).toNat = i := Int.toNat_natCast i
                    obtain ⟨y, hy⟩ : ∃ y, y = P[j] := ⟨_, rfl⟩
                    rw [← hy] at hcp
                    have hpl2 : (putL O (G.take j) (P.take j)).length = k := by rw [putL_length, HOL.out]
                    have hco := HS.out.ho.cell i (by rw [hpl2]; exact hik)
                    have hfo := HS.out.ho.free i
                    have hnext : (putL O (G.take j) (P.take j)).set i y = putL O (G.take (j + 1)) (P.take (j + 1)) := by
                      rw [List.take_succ_eq_append_getElem hlt, List.take_succ_eq_append_getElem hjp, putL_snoc _ _ _ _ _ (by simp; omega), hi, Int.toNat_natCast, hy]
                    have HNX := Aside0.mk hnext
                    obtain ⟨uo, huo⟩ : ∃ uo, wr.cell? ⟨r, i, none⟩ = some uo := ⟨_, hco⟩
                    clear hgj hi hy hpl2 hco hnext
                    go_wp2_with fail
                    go_roundw
                    case rel => exact ⟨j + 1, by go_num, by omega, ⟨by rw [← HNX.out]; exact HS.out.store i y⟩, ⟨Kd.R_far HP.out (fun k hk => hk) _⟩⟩
                    case measure => simp [intOf]; omega
                  · have hje : j = G.length := by omega
                    subst hje
                    have hpt : P.take G.length = P := List.take_of_length_le (by rw [HPL.out]; exact Nat.le_refl _)
                    have HSF := Aside0.mk (show BS w B g gb r bx (putL O G P) (.slice none 0 0) (.slice none 0 0) [] [] wr ro m1 from by have := HS.out.drop; rwa [hpt, List.take_length] at this)
                    clear hlt hj hpt
                    go_wp2_with fail
                    go_roundg (m1.length + 1)
                    case measure => have := HML.out; have := HM1.out; have := HG1.out; omega
                    case rel => exact ⟨m1, putL O G P, ⟨by omega⟩, ⟨by have := HM1.out; omega⟩, HSF, ⟨by rw [HLR.out]; exact HINV3.out⟩, ⟨by rw [HLR.out]; exact HRC.out⟩⟩

def byOrder_ok (rs ns : List Int) : Bool := decide (rs.length = ns.length) && decide (ns.length ≤ 1000) && rs.all (fun r => decide (0 ≤ r) && decide (r ≤ 10000)) && ns.all (fun x => decide (0 ≤ x)) && decide (ns.sum ≤ 10000000000000)
theorem byOrder_ok_iff {rs ns : List Int} : byOrder_ok rs ns = true ↔ rs.length = ns.length ∧ ns.length ≤ 1000 ∧ (∀ r ∈ rs, 0 ≤ r ∧ r ≤ 10000) ∧ (∀ x ∈ ns, 0 ≤ x) ∧ ns.sum ≤ 10000000000000 := by
  unfold byOrder_ok
  simp only [Bool.and_eq_true, decide_eq_true_eq, List.all_eq_true, and_assoc]
/-- The way of taxing that a number tells: line by line, or by order. -/
def levy_byOrder.f (a0 : Int) (a1_0 : Bool) (a1_1 : Bool) (a1_2 : Int) (l1_3 : List (S51)) (l2 : List Int) (l3 : List Int) : Option (List Int) :=
  if a0 = 77700000 + 24 then levy_byLine.f (l3.length + 2) a1_0 a1_1 a1_2 l1_3 l2 l3
  else if a0 = 77700000 + 25 ∧ byOrder_ok l2 l3 = true then some (whole (lp a1_0 a1_2) l2 l3) else none
theorem levy_byOrder.enter {a0 : Int} {a1_0 : Bool} {a1_1 : Bool} {a1_2 : Int} {l1_3 : List (S51)} {l2 : List Int} {l3 : List Int} {r : List Int} (h : levy_byOrder.f a0 a1_0 a1_1 a1_2 l1_3 l2 l3 = some r) :
    ∃ fn, Try.prog.funcs[HF.wy a0]? = some fn ∧ (fn.name == "runtime.NumGoroutine") = false ∧ fn.body.isSome = true := by
  unfold levy_byOrder.f at h
  split at h
  · rename_i h1
    subst h1
    exact ⟨_, Try.func24, by kernel_rfl, rfl⟩
  · split at h
    · rename_i h1
      obtain ⟨rfl, _⟩ := h1
      exact ⟨_, Try.func25, by kernel_rfl, rfl⟩
    · cases h
theorem levy_byOrder.calls (a0 : Int) (a1_0 : Bool) (a1_1 : Bool) (a1_2 : Int) (A1_3 : Option Addr) (c1_3 : Nat) (l1_3 : List (S51)) (A2 : Option Addr) (c2 : Nat) (l2 : List Int) (A3 : Option Addr) (c3 : Nat) (l3 : List Int) (r : List Int) (w : World) (hr1_3 : Kd.C k51 w A1_3 l1_3.length l1_3) (hc1_3 : l1_3.length ≤ c1_3) (hr2 : Kd.C (Kd.int .i64) w A2 l2.length l2) (hc2 : l2.length ≤ c2) (hr3 : Kd.C (Kd.int .i64) w A3 l3.length l3) (hc3 : l3.length ≤ c3) (h : levy_byOrder.f a0 a1_0 a1_1 a1_2 l1_3 l2 l3 = some r) :
    Calls Try.prog (HF.wy a0) #[.agg #[.bool a1_0, .bool a1_1, .int .i64 a1_2, .slice A1_3 l1_3.length c1_3], .slice A2 l2.length c2, .slice A3 l3.length c3] w fun e w' => ∃ v0_ : Value, e = .returned (v0_) ∧ Kd.R (Kd.int .i64) 2 w' w.heap.size (fun _ => True) v0_ r ∧ Below w.heap.size w w' := by
  unfold levy_byOrder.f at h
  split at h
  · rename_i h1
    subst h1
    exact levy_byLine.calls _ a1_0 a1_1 a1_2 A1_3 c1_3 l1_3 A2 c2 l2 A3 c3 l3 r w hr1_3 hc1_3 hr2 hc2 hr3 hc3 h
  · split at h
    · rename_i h1
      obtain ⟨rfl, h2⟩ := h1
      cases h
      obtain ⟨h3, h4, h5, h6, h7⟩ := byOrder_ok_iff.1 h2
      exact byOrder_walk a1_0 a1_1 a1_2 A1_3 c1_3 l1_3 A2 c2 l2 A3 c3 l3 w _ rfl hr1_3 hc1_3 hr2 hc2 hr3 hc3 h3 h4 h5 h6 h7
    · cases h
end Go.Proofs.Ytmiamdnhofjifaa.Rw
