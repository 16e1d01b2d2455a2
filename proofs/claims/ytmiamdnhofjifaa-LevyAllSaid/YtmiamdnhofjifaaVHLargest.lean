/- share.Largest: an amount in parts by weights, as a Lean function, with its contract. -/
import Derived.Test.YtmiamdnhofjifaaProg
import Derived.Below
import Derived.Deep.Draws
import Derived.Deep.AppendLies
import Derived.Maps.AppendAt
import Derived.OwnWalk
import Derived.Laws.BytesArg
import Derived.Laws.MakeOwn
import Derived.Laws.OwnMore
import Derived.Deep.OwnRows
import Derived.Tactics
import Derived.Lib.ConvBytes
import Derived.Laws.Slices
import Derived.WalkKit
import Derived.KernelRfl
import Derived.RowKit3
import Derived.Deep.LoopGhost
import Derived.Deep.QuietTactic
import Derived.BigQuiet
import Derived.WideLaws
import Derived.Deep.DeepCutAuto
import Derived.Deep.CutBlock
import Derived.Deep.RegionHeld3
import Derived.Laws.Rows
import Derived.Lib.AppendStr
import Derived.ArgAppend
import Derived.Laws.IdiomCopy
import Derived.OrdersHeld
import Derived.Laws.BitsLemmas
import Derived.RowKit
import Derived.BigRegion
import Derived.Outline
import Derived.RegionTactic
import Derived.StillTailTactics
import Derived.Deep.RegionLaw
import Derived.Test.YtmiamdnhofjifaaVShareP
import Derived.Test.YtmiamdnhofjifaaVQTop2
set_option linter.unusedVariables false
set_option linter.unusedSimpArgs false
namespace Go.Proofs.Ytmiamdnhofjifaa.Rw
open Go Go.RowKit Go.Proofs.YtmiamdnhofjifaaW.PrintWords Go.Proofs.Ytmiamdnhofjifaa.SP Go.Proofs.Ytmiamdnhofjifaa.SH Go.Proofs.Ytmiamdnhofjifaa.QM Go.Proofs.Ytmiamdnhofjifaa.QR Go.Proofs.Ytmiamdnhofjifaa.QW

theorem made_one (x : Value) (n : Nat) : madeCells #[x] n = (List.replicate n x).toArray := by
  apply Array.ext
  · simp [madeCells]
  · intro i h1 h2
    simp [madeCells, Nat.mod_one]

/-- A queue's blocks are none of a block of another type. -/
theorem q_apart {TQ TE : Nat} {w : World} {g : Nat} {ro : Option Nat} {m : List Ent} (h : IsQ TQ TE w g ro m) {r : Nat} {cur : Array Value} {e : Nat} {fr : Nat × Nat} (hc : w.heap[r]? = some (.cells cur e fr)) (h1 : e ≠ TQ) (h2 : e ≠ TE) : r ≠ g ∧ ro ≠ some r := by
  obtain ⟨v', l, hq, _, _, h4⟩ := h.ex
  refine ⟨?_, ?_⟩
  · rintro rfl
    rw [hq] at hc
    injection hc with hc
    injection hc with _ hc
    exact h1 hc.symm
  · intro e3
    rcases h4 with ⟨e4, _⟩ | ⟨r', cap', e4, _, h5, _⟩
    · rw [e4] at e3; cases e3
    · rw [e4] at e3
      cases e3
      obtain ⟨cur', hc', _⟩ := h5.ex
      rw [hc'] at hc
      injection hc with hc
      injection hc with _ hc
      exact h2 hc.symm

/-- A block of whole numbers. -/
def Blk (T : Nat) (w : World) (r : Nat) (l : List Int) : Prop := w.heap[r]? = some (.cells (l.map (Value.int .i64)).toArray T (0, 0))
theorem Blk.cell {T : Nat} {w : World} {r : Nat} {l : List Int} (h : Blk T w r l) (i : Nat) (hi : i < l.length) : w.cell? ⟨r, i, none⟩ = some (.int .i64 l[i]) := by
  rw [cell_of_row w r i _ T (0, 0) h]; simp [hi]
theorem Blk.free {T : Nat} {w : World} {r : Nat} {l : List Int} (h : Blk T w r l) (k : Nat) : w.frozen? ⟨r, k, none⟩ = false := by
  simp [World.frozen?, (show w.heap[r]? = _ from h)]
theorem Blk.set {T : Nat} {w : World} {r : Nat} {l : List Int} (h : Blk T w r l) (i : Nat) (x : Int) : Blk T (w.setCell ⟨r, i, none⟩ (.int .i64 x)) r (l.set i x) := by
  unfold Blk
  rw [setCell_at h]
  simp [List.map_set]
theorem Blk.lt {T : Nat} {w : World} {r : Nat} {l : List Int} (h : Blk T w r l) : r < w.heap.size := (Array.getElem?_eq_some_iff.1 h).1
theorem Blk.own {T : Nat} {w : World} {r : Nat} {l : List Int} (h : Blk T w r l) (B : Nat) (hB : B ≤ r) (hl : l.length ≤ maxLen) : Kd.R (Kd.int .i64) T w B (fun _ => True) (.slice (some ⟨r, 0, none⟩) l.length l.length) l :=
  Kd.R_of_own (h1 := fun _ => rfl) ⟨by simp [encs], .inr ⟨r, l.length, _, rfl, hB, h, Nat.le_refl _, hl, by simp [Kd.int, Kd.scalar], by simp [encs, Kd.int, Kd.scalar, List.take_of_length_le]⟩⟩ (fun _ _ => trivial)

def share_Largest.f (a0 : Int) (l1 : List Int) : Option (List Int × Int) := some (largest a0 l1)

theorem largest_take (qs : List Int) (k n : Nat) (h : k < qs.length) (hn : n = qs.length) :
    (qs.take k ++ List.replicate (n - k) 0).set k qs[k] = qs.take (k + 1) ++ List.replicate (n - (k + 1)) 0 := by
  subst hn
  obtain ⟨m, hm⟩ : ∃ m, qs.length - k = m + 1 := ⟨qs.length - k - 1, by omega⟩
  have h2 : qs.length - (k + 1) = m := by omega
  have hk : (qs.take k).length = k := by rw [List.length_take]; omega
  rw [hm, h2, List.replicate_succ, List.take_succ_eq_append_getElem h, List.set_append, if_neg (by omega), hk, Nat.sub_self, List.set_cons_zero, List.append_assoc]
  rfl

set_option maxRecDepth 100000 in
set_option maxHeartbeats 8000000 in
theorem largest_bad (a0 : Int) (A1 : Option Addr) (c1 : Nat) (l1 : List Int) (w : World) (hr1 : Kd.C (Kd.int .i64) w A1 l1.length l1) (hc1 : l1.length ≤ c1) (hE : (sumE a0 l1).2 ≠ 0) :
    Calls Try.prog 43 #[.int .i64 a0, .slice A1 l1.length c1] w fun e w' => e = .returned (.tuple #[.slice none 0 0, .int .i64 (sumE a0 l1).2]) ∧ Below w.heap.size w w' := by
  obtain ⟨⟨S, E⟩, hSE⟩ : ∃ p, sumE a0 l1 = p := ⟨_, rfl⟩
  have hs := sum_f a0 l1 300011 (by omega)
  rw [hSE] at hs hE ⊢
  have HS := Aside0.mk hs
  have HC := Aside0.mk hr1
  have t1 : (E != 0) = true := by simpa using hE
  clear hs hSE hr1 hE
  go_enter Try.func43, Try.ntmps43
  go_wp2_with fail
  refine (share_sum.calls 300011 a0 A1 c1 l1 S E _ HC.out hc1 HS.out).mono ?_
  rintro e w1 ⟨rfl, hb⟩
  have HB := Aside0.mk hb.below
  clear hb
  go_wp2
  go_ret2
  exact ⟨rfl, HB.out⟩

set_option maxRecDepth 100000 in
set_option maxHeartbeats 8000000 in
theorem largest_zero (a0 : Int) (A1 : Option Addr) (c1 : Nat) (l1 : List Int) (w : World) (hr1 : Kd.C (Kd.int .i64) w A1 l1.length l1) (hc1 : l1.length ≤ c1) (hE : (sumE a0 l1).2 = 0) (h0 : l1.sum = 0) :
    Calls Try.prog 43 #[.int .i64 a0, .slice A1 l1.length c1] w fun e w' => ∃ v0_ : Value, e = .returned (.tuple #[v0_, .int .i64 0]) ∧ Kd.R (Kd.int .i64) 2 w' w.heap.size (fun _ => True) v0_ (List.replicate l1.length 0) ∧ Below w.heap.size w w' := by
  obtain ⟨h1, h2, h3, h4, h5, h6⟩ := sumE_ok hE
  have hs := sum_f a0 l1 300011 (by omega)
  rw [h6, h0] at hs
  have HS := Aside0.mk hs
  have HC := Aside0.mk hr1
  have hmk := print_make (P := Try.prog) 26 2 .i64 8 Try.underlying26 info2 (by decide) l1.length (by omega)
  obtain ⟨n, hn⟩ : ∃ n, n = l1.length := ⟨_, rfl⟩
  have HN := Aside0.mk hn
  have HLN := Aside0.mk (show n ≤ 100000 by omega)
  rw [← hn] at hmk
  have hd : ((n : Int)).toNat = n := Int.toNat_natCast _
  clear hs h1 h3 h4 h5 h6 hr1 hE h0 h2
  go_enter Try.func43, Try.ntmps43
  go_wp2_with fail
  refine (share_sum.calls 300011 a0 A1 c1 l1 0 0 _ HC.out hc1 HS.out).mono ?_
  rintro e w1 ⟨rfl, hb⟩
  have HB := Aside0.mk hb.below
  rw [← hn]
  clear hb hn
  go_wp2
  go_ret2
  have hbl : Blk 2 (w1.alloc (.cells (madeCells #[.int .i64 0] n) 2)) w1.heap.size (List.replicate n 0) := by
    unfold Blk
    rw [alloc_new, made_one]; simp
  refine ⟨_, rfl, ?_, HB.out.alloc (below_size HB.out) _⟩
  rw [← HN.out]
  have := hbl.own w.heap.size (below_size HB.out) (by simp only [List.length_replicate, maxLen]; have := HLN.out; omega)
  simpa using this

set_option maxRecDepth 100000 in
set_option maxHeartbeats 8000000 in
theorem largest_good (a0 : Int) (A1 : Option Addr) (c1 : Nat) (l1 : List Int) (w : World) (B : Nat) (hB : w.heap.size = B) (hr1 : Kd.C (Kd.int .i64) w A1 l1.length l1) (hc1 : l1.length ≤ c1) (hE : (sumE a0 l1).2 = 0) (h0 : l1.sum ≠ 0) :
    Calls Try.prog 43 #[.int .i64 a0, .slice A1 l1.length c1] w fun e w' => ∃ v0_ : Value, e = .returned (.tuple #[v0_, .int .i64 0]) ∧ Kd.R (Kd.int .i64) 2 w' B (fun _ => True) v0_ (parts a0 l1) ∧ Below B w w' := by
  obtain ⟨h1, h2, h3, h4, h5, h6⟩ := sumE_ok hE
  have hs := sum_f a0 l1 300011 (by omega)
  rw [h6] at hs
  have hnn : ∀ x ∈ l1, 0 ≤ x := fun x hx => (rt_iff.1 (h3 x hx)).1
  have hSp : 0 < l1.sum := by have := sum_nonneg l1 hnn; omega
  obtain ⟨hx0, hx1⟩ := rt_iff.1 h1
  obtain ⟨hL0, hL1⟩ := left_bound a0 l1 hSp
  have hle := le_sum l1 hnn
  have hpart : ∀ k (h : k < l1.length), share_part.f a0 l1[k] l1.sum = some ((qsOf a0 l1.sum l1).getD k 0, (rsOf a0 l1.sum l1).getD k 0) := by
    intro k h
    rw [part_f a0 l1[k] l1.sum ⟨hx0, hx1⟩ ⟨hnn _ (List.getElem_mem h), hle _ (List.getElem_mem h)⟩ ⟨hSp, h4⟩]
    simp [qsOf, rsOf, List.getD_eq_getElem?_getD, h]
  have hqn := qs_nonneg a0 l1.sum l1 hx0 hSp hnn
  have hql := qs_length a0 l1.sum l1
  have hrl := rs_length a0 l1.sum l1
  have hqt := sum_take_le (qsOf a0 l1.sum l1) hqn
  have hpd : parts a0 l1 = bump (qsOf a0 l1.sum l1) ((ord (rsOf a0 l1.sum l1)).take (a0 - (qsOf a0 l1.sum l1).sum).toNat) := rfl
  obtain ⟨qs, hqs⟩ : ∃ qs, qs = qsOf a0 l1.sum l1 := ⟨_, rfl⟩
  obtain ⟨rs, hrs⟩ : ∃ rs, rs = rsOf a0 l1.sum l1 := ⟨_, rfl⟩
  obtain ⟨S, hS⟩ : ∃ S, S = l1.sum := ⟨_, rfl⟩
  rw [← hS] at hs hqs hrs hpart hqn hql hrl hqt hL0 hL1 hpd hSp h4
  rw [← hqs] at hpart hqn hql hqt hL0 hL1 hpd
  rw [← hrs] at hpart hrl hpd
  obtain ⟨n, hn⟩ : ∃ n, n = l1.length := ⟨_, rfl⟩
  have HS := Aside0.mk hs
  have HC := Aside0.mk hr1
  have HN := Aside0.mk hn
  have HP := Aside0.mk hpart
  have HQN := Aside0.mk hqn
  have HQL := Aside0.mk (show qs.length = n by rw [hql, hn])
  have HRL := Aside0.mk (show rs.length = n by rw [hrl, hn])
  have HQT := Aside0.mk hqt
  have HPD := Aside0.mk hpd
  have HB := Aside0.mk hB
  have HLB := Aside0.mk (show 0 ≤ a0 - qs.sum ∧ a0 - qs.sum ≤ n ∧ qs.sum ≤ 100000000000000 ∧ n ≤ 100000 from ⟨hL0, by rw [hn]; exact hL1, by omega, by omega⟩)
  have hnb : n ≤ 100000 := by omega
  have hmk := print_make (P := Try.prog) 26 2 .i64 8 Try.underlying26 info2 (by decide) n (by omega)
  have hd : ((n : Int)).toNat = n := Int.toNat_natCast _
  have hS0 : (S == 0) = false := beq_eq_false_iff_ne.2 (by omega)
  rw [← hn] at hc1 ⊢
  clear hs h1 h3 h5 h6 hr1 hE h0 h2 hpart hqn hql hrl hqt hpd hqs hrs hS hL0 hL1 hnn hle hB hn
  go_enter Try.func43, Try.ntmps43
  go_wp2_with fail
  refine (calls_of_args (by rw [HN.out]) (share_sum.calls 300011 a0 A1 c1 l1 S 0 _ HC.out (by rw [← HN.out]; exact hc1) HS.out)).mono ?_
  rintro e w1 ⟨rfl, hb⟩
  have HW1 := Aside0.mk (show Below B w w1 from by have := hb.below; rw [HB.out] at this; exact this)
  clear hb
  go_wp2_with fail
  refine (new_calls _).mono ?_
  rintro e w2 ⟨g, rfl, hq0, hg0, hk0⟩
  obtain ⟨r, hr⟩ : ∃ r, r = w1.heap.size := ⟨_, rfl⟩
  have hBr : B ≤ r := by have := HW1.out.size; have := HB.out; omega
  have hbl : Blk 2 w2 r (List.replicate n 0) := by
    have h : Blk 2 (w1.alloc (.cells (madeCells #[.int .i64 0] n) 2)) r (List.replicate n 0) := by
      unfold Blk
      rw [hr, alloc_new, made_one]; simp
    exact (hk0.block r h.lt (fun h => h)).trans h
  have HQ0 := Aside0.mk hq0
  have HBL0 := Aside0.mk hbl
  have hW2 : Below B w w2 := (HW1.out.alloc (by omega) _).trans (hk0.to_below (by simp; omega) (fun _ h => h.elim))
  have HW2 := Aside0.mk hW2
  have hgB : B ≤ g := by simp at hg0; omega
  rw [← hr]
  clear hq0 hbl hW2 hk0 hg0
  have HR := Aside0.mk hr
  clear hr
  go_wp2_with fail
  go_loopw [9, 37] (fun x9 x wr => ∃ (k : Nat) (ro : Option Nat), x = .int .i64 k ∧ k ≤ n ∧ x9 = .int .i64 (a0 - (qs.take k).sum) ∧ Aside0 (IsQ 92 96 wr g ro (ents (rs.take k))) ∧ Aside0 (∀ r, ro = some r → B ≤ r) ∧ Aside0 (Blk 2 wr r (qs.take k ++ List.replicate (n - k) 0)) ∧ Aside0 (Below B w wr)) (fun _ x _ => n - (intOf x).toNat)
  case atStart => exact ⟨0, none, rfl, Nat.zero_le _, by simp, HQ0, ⟨fun r h => by simp at h⟩, ⟨by simpa using HBL0.out⟩, HW2⟩
  case round =>
    obtain ⟨k, ro, rfl, hk, rfl, HQ, HO, HBL, HW⟩ := hrel
    by_cases hlt : k < n
    · have hlt1 : k < l1.length := by have := HN.out; omega
      have hltq : k < qs.length := by have := HQL.out; omega
      have hltr : k < rs.length := by have := HRL.out; omega
      obtain ⟨ad, hA, hcell⟩ := Kd.at_int (Kd.C_below HC.out (by have := HW.out; rw [← HB.out] at this; exact this)) (k : Int) (by omega) (by omega)
      subst hA
      rw [Int.toNat_natCast, rd_of l1 k hlt1] at hcell
      have hp := HP.out k hlt1
      have hb1 := HQT.out k
      have hb2 := HQT.out (k + 1)
      have hsn : (qs.take (k + 1)).sum = (qs.take k).sum + qs[k] := by rw [List.take_succ_eq_append_getElem hltq, List.sum_append]; simp
      have hq0 := HQN.out qs[k] (List.getElem_mem hltq)
      have hlb := HLB.out
      have hrow := largest_take qs k n hltq HQL.out.symm
      have hent := ents_take rs k hltr
      obtain ⟨q, hq⟩ : ∃ q, q = qs[k] := ⟨_, rfl⟩
      obtain ⟨z, hz⟩ : ∃ z, z = rs[k] := ⟨_, rfl⟩
      obtain ⟨L, hL⟩ : ∃ L, L = a0 - (qs.take k).sum := ⟨_, rfl⟩
      rw [List.getD_eq_getElem?_getD, List.getD_eq_getElem?_getD, List.getElem?_eq_getElem hltq, List.getElem?_eq_getElem hltr, Option.getD_some, Option.getD_some, ← hq, ← hz] at hp
      rw [← hq] at hsn hq0 hrow
      rw [← hz] at hent
      have hLs : a0 - (qs.take (k + 1)).sum = L - q := by rw [hsn, hL]; omega
      have hL0 : 0 ≤ L := by rw [hL]; omega
      have hL1 : L ≤ 100000000000000 := by rw [hL]; omega
      have hLq : 0 ≤ L - q := by rw [← hLs]; omega
      have HP1 := Aside0.mk hp
      have HROW := Aside0.mk hrow
      have HENT := Aside0.mk hent
      have HLS := Aside0.mk hLs
      obtain ⟨y, hy⟩ : ∃ y, y = l1[k] := ⟨_, rfl⟩
      rw [← hy] at hcell
      have HY := Aside0.mk hy
      have hwk : (k : Int).toNat = k := Int.toNat_natCast k
      rw [← hL]
      have HL := Aside0.mk hL
      clear hp hb1 hb2 hsn hlb hrow hent hq hz hL hLs hy
      have hcB : ∃ u, wr.cell? ⟨r, k, none⟩ = some u := ⟨_, HBL.out.cell k (by simp; have := HQL.out; omega)⟩
      obtain ⟨u, hu⟩ := hcB
      have hfz := HBL.out.free k
      go_wp2_with fail
      refine (share_part.calls a0 y S q z _ (by rw [HY.out]; exact HP1.out)).mono ?_
      rintro e w3 ⟨rfl, ⟨nd, rfl⟩⟩
      have hap := q_apart HQ.out HBL.out (by decide) (by decide)
      obtain ⟨W, hW⟩ : ∃ W, W = (wr.drewN nd).setCell ⟨r, k, none⟩ (.int .i64 q) := ⟨_, rfl⟩
      have hKW : Kp (fun i => i = r) wr W := by rw [hW]; exact ((Kp.refl _ _).drewN nd).setCell _ _ (fun _ => rfl)
      have HQW := Aside0.mk (HQ.out.kp hKW (fun h => hap.1 h.symm) (fun r' h h' => hap.2 (by rw [h, h'])))
      have HBW := Aside0.mk (show Blk 2 W r (qs.take (k + 1) ++ List.replicate (n - (k + 1)) 0) from by rw [hW, ← HROW.out]; exact Blk.set (w := wr.drewN nd) HBL.out k q)
      have HWW := Aside0.mk (show Below B w W from Kp.below_trans HW.out hKW (by have := HB.out; omega) (by rintro i rfl; exact hBr))
      have HWe := Aside0.mk hW
      clear hap hKW hW
      go_wp2_with fail
      rw [← HWe.out]
      clear HWe hu hfz hcell
      refine (push_calls z k HQW.out (by rw [ents_length]; simp; omega)).mono ?_
      rintro e w4 ⟨rfl, r4, hq4, hr4, hk4⟩
      have hap := q_apart HQW.out HBW.out (by decide) (by decide)
      have HQ4 := Aside0.mk hq4
      have HB4 := Aside0.mk (show Blk 2 w4 r (qs.take (k + 1) ++ List.replicate (n - (k + 1)) 0) from (hk4.block r HBW.out.lt (by rintro (h | h); exact hap.1 h; exact hap.2 h.symm)).trans HBW.out)
      have HO4 := Aside0.mk (show ∀ r', some r4 = some r' → B ≤ r' from by
        rintro r' h
        cases h
        rcases hr4 with h | h
        · exact HO.out r4 h
        · have := HWW.out.size; have := HB.out; omega)
      have HW4 := Aside0.mk (show Below B w w4 from Kp.below_trans HWW.out hk4 (by have := HB.out; omega) (by
        rintro i (rfl | h)
        · exact hgB
        · exact HO.out i h.symm))
      clear hap hq4 hr4 hk4
      go_wp2_with fail
      go_roundw
      case rel =>
        refine ⟨k + 1, some r4, by go_num, by omega, by rw [HLS.out], ⟨?_⟩, HO4, HB4, HW4⟩
        refine HQ4.out.perm ?_
        rw [HENT.out]
        exact List.perm_append_comm (l₁ := [(z, (k : Int))])
      case measure => simp [intOf]; omega
    · have hke : k = n := by omega
      subst hke
      have hqt : qs.take k = qs := List.take_of_length_le (by rw [HQL.out]; exact Nat.le_refl _)
      have hrt : rs.take k = rs := List.take_of_length_le (by rw [HRL.out]; exact Nat.le_refl _)
      rw [hqt]
      have HQ1 := Aside0.mk (show IsQ 92 96 wr g ro (ents rs) from by have := HQ.out; rwa [hrt] at this)
      have HBL1 := Aside0.mk (show Blk 2 wr r qs from by have := HBL.out; rw [hqt] at this; simpa using this)
      obtain ⟨L, hL⟩ : ∃ L, a0 - qs.sum = ((L : Nat) : Int) := ⟨(a0 - qs.sum).toNat, by have := HLB.out; omega⟩
      have hLn : L ≤ k := by have := HLB.out; omega
      rw [hL]
      have HL := Aside0.mk hL
      clear hqt hrt hL HQ HBL hlt hk
      go_wp2_with fail
      obtain ⟨ww, hww⟩ : ∃ ww : World, ww = wr := ⟨_, rfl⟩
      subst hww
      go_loopw [62] (fun x wr => ∃ (j : Nat) (done m : List Ent), x = .int .i64 j ∧ j ≤ L ∧ Aside0 (done.length = j) ∧ Aside0 (IsQ 92 96 wr g ro m) ∧ Aside0 (line (ents rs) = done ++ line m) ∧ Aside0 (Blk 2 wr r (bump qs (done.map (·.2)))) ∧ Aside0 (Below B w wr)) (fun x _ => L - (intOf x).toNat)
      case atStart => exact ⟨0, [], ents rs, rfl, Nat.zero_le _, ⟨rfl⟩, HQ1, ⟨rfl⟩, HBL1, HW⟩
      case round =>
        obtain ⟨j, done, m, rfl, hj, HD, HQ, HLN, HBL, HW⟩ := hrel
        by_cases hlt : j < L
        · have hlen : done.length + m.length = k := by
            have := congrArg List.length HLN.out
            rw [line_length, ents_length, List.length_append, line_length, HRL.out] at this
            omega
          have hpos : 0 < m.length := by have := HD.out; omega
          have hml : m.length ≤ 2000000000 := by omega
          clear hlen
          go_wp2_with fail
          refine (pop_calls HQ.out hpos hml).mono ?_
          rintro e w2 ⟨y, m', rfl, h1, h2, h3, h4⟩
          have hln := line_first h1 h2
          have hmem : y ∈ ents rs := by
            have : y ∈ line (ents rs) := by rw [HLN.out, hln]; simp
            exact (line_perm _).mem_iff.1 this
          obtain ⟨i, hi, hyi⟩ := mem_ents hmem
          have hap := q_apart HQ.out HBL.out (by decide) (by decide)
          have HB2 := Aside0.mk (show Blk 2 w2 r (bump qs (done.map (·.2))) from (h4.block r HBL.out.lt (by rintro (h | h); exact hap.1 h; exact hap.2 h.symm)).trans HBL.out)
          have HQ2 := Aside0.mk h3
          have HW2 := Aside0.mk (show Below B w w2 from Kp.below_trans HW.out h4 (by have := HB.out; omega) (by
            rintro i (rfl | h)
            · exact hgB
            · exact HO.out i h.symm))
          have HLN2 := Aside0.mk (show line (ents rs) = (done ++ [y]) ++ line m' from by rw [HLN.out, hln]; simp)
          have HY := Aside0.mk (show y.2 = (i : Int) from by rw [hyi])
          have hiq : i < (bump qs (done.map (·.2))).length := by rw [bump_length, HQL.out, ← HRL.out]; exact hi
          have hvb := bump_bound 100000000000000 qs (done.map (·.2)) (fun x hx => ⟨HQN.out x hx, by have := le_sum qs HQN.out x hx; have := HLB.out; omega⟩) _ (List.getElem_mem hiq)
          have hc := HB2.out.cell i hiq
          have hfz := HB2.out.free i
          obtain ⟨v, hv⟩ : ∃ v, v = (bump qs (done.map (·.2)))[i] := ⟨_, rfl⟩
          rw [← hv] at hvb hc
          have hv0 : 0 ≤ v := hvb.1
          have hv1 : v ≤ 100000000200000 := by have := hvb.2; simp at this; have := HD.out; omega
          have hset : bump1 (bump qs (done.map (·.2))) y.2 = (bump qs (done.map (·.2))).set i (v + 1) := by
            unfold bump1
            rw [HY.out, Int.toNat_natCast, hv]
            simp [List.getD_eq_getElem?_getD, List.getElem?_eq_getElem hiq]
          have HSET := Aside0.mk hset
          have hik : i < k := by rw [← HRL.out]; exact hi
          have hin : (i : Int).toNat = i := Int.toNat_natCast i
          rw [HY.out]
          clear h1 h2 h3 h4 hln hmem hyi hap hiq hvb hv hset hi
          have hq1 : (i : Int) < (k : Int) := by omega
          have hq2 : (0 : Int) ≤ (i : Int) := by omega
          go_wp2_with fail
          go_roundw
          case rel =>
            refine ⟨j + 1, done ++ [y], m', by go_num, by omega, ⟨by simp; exact HD.out⟩, ⟨?_⟩, HLN2, ⟨?_⟩, ⟨?_⟩⟩
            · have hap := q_apart HQ2.out HB2.out (by decide) (by decide)
              exact HQ2.out.kp (S := fun i => i = r) ((Kp.refl _ _).setCell _ _ (fun _ => rfl)) (fun h => hap.1 h.symm) (fun r' h h' => hap.2 (by rw [h, h']))
            · rw [List.map_append, List.map_singleton, bump_snoc, HSET.out]
              exact HB2.out.set i (v + 1)
            · exact Kp.below_trans (S := fun i => i = r) HW2.out ((Kp.refl _ _).setCell _ _ (fun _ => rfl)) (by have := HB.out; omega) (by rintro i rfl; exact hBr)
          case measure => simp [intOf]; omega
        · have hje : j = L := by omega
          subst hje
          clear hlt hj
          go_wp2_with fail
          go_ret2
          have hdone : done.map (·.2) = (ord rs).take j := by
            have h1 := HLN.out
            have h2 := HD.out
            unfold ord
            rw [h1, List.map_append, List.take_append_of_le_length (by simp; omega), List.take_of_length_le (by simp; omega)]
          have hfin : bump qs (done.map (·.2)) = parts a0 l1 := by
            rw [HPD.out, hdone, HL.out, Int.toNat_natCast]
          have hlen : (parts a0 l1).length = k := by rw [← hfin, bump_length, HQL.out]
          have := HBL.out.own B hBr (by rw [hfin, hlen]; simp only [maxLen]; omega)
          rw [hfin, hlen] at this
          exact ⟨_, rfl, this, HW.out⟩

theorem share_Largest.calls (a0 : Int) (A1 : Option Addr) (c1 : Nat) (l1 : List Int) (r1 : List Int) (r2 : Int) (w : World) (hr1 : Kd.C (Kd.int .i64) w A1 l1.length l1) (hc1 : l1.length ≤ c1) (h : share_Largest.f a0 l1 = some (r1, r2)) :
    Calls Try.prog 43 #[.int .i64 a0, .slice A1 l1.length c1] w fun e w' => ∃ v0_ : Value, e = .returned (.tuple #[v0_, .int .i64 r2]) ∧ Kd.R (Kd.int .i64) 2 w' w.heap.size (fun _ => True) v0_ r1 ∧ Below w.heap.size w w' := by
  unfold share_Largest.f largest at h
  by_cases hE : (sumE a0 l1).2 = 0
  · rw [if_neg (by simp [hE])] at h
    by_cases h0 : l1.sum = 0
    · rw [if_pos h0] at h
      cases h
      exact largest_zero a0 A1 c1 l1 w hr1 hc1 hE h0
    · rw [if_neg h0] at h
      cases h
      exact largest_good a0 A1 c1 l1 w _ rfl hr1 hc1 hE h0
  · rw [if_pos hE] at h
    cases h
    exact (largest_bad a0 A1 c1 l1 w hr1 hc1 hE).mono fun e w' ⟨he, hb⟩ => ⟨_, he, Kd.R_nil _ _ _ _ _, hb⟩
end Go.Proofs.Ytmiamdnhofjifaa.Rw
