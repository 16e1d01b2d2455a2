/- slices.SortStableFunc of fewer than twenty places of promos, by their names. -/
import Derived.Test.YtdmeepjefccpgaaProg
import Derived.Below
import Derived.Deep.Draws
import Derived.Deep.AppendLies
import Derived.Maps.AppendAt
import Derived.OwnWalk
import Derived.Laws.BytesArg
import Derived.Laws.MakeOwn
import Derived.Laws.OwnMore
import Derived.Deep.OwnRows
import Derived.Tactics
import Derived.Lib.ConvBytes
import Derived.Laws.Slices
import Derived.WalkKit
import Derived.KernelRfl
import Derived.RowKit3
import Derived.Deep.LoopGhost
import Derived.Deep.QuietTactic
import Derived.BigQuiet
import Derived.WideLaws
import Derived.Deep.DeepCutAuto
import Derived.Deep.CutBlock
import Derived.Deep.RegionHeld3
import Derived.Laws.Rows
import Derived.Lib.AppendStr
import Derived.ArgAppend
import Derived.Laws.IdiomCopy
import Derived.OrdersHeld
import Derived.Laws.BitsLemmas
import Derived.RowKit
import Derived.BigRegion
import Derived.Outline
import Derived.RegionTactic
import Derived.StillTailTactics
import Derived.Deep.RegionLaw
import Derived.Sort.OwnSortedInts
import Derived.Sort.Walk0
import Derived.Test.YtdmeepjefccpgaaVHSort
set_option linter.unusedVariables false
set_option linter.unusedSimpArgs false
namespace Go.Proofs.Ytdmeepjefccpgaa.HSo
open Go Go.RowKit Go.Shelf Go.Sort Go.Lib Go.Proofs.YtdmeepjefccpgaaW.PrintWords Go.Proofs.YtdmeepjefccpgaaW.PrintLast Go.Proofs.YtdmeepjefccpgaaW.PrintMore Go.Proofs.Ytdmeepjefccpgaa.Rw
def encF (m : Nat) (i : Fin (m + 1)) : Value := .int .i64 (i.val : Int)
def cfF (l : List (S60)) (m : Nat) (i j : Fin (m + 1)) : Int := cmpS (idAt l i.val) (idAt l j.val)
theorem one_encF (m : Nat) : OneCell (encF m) := fun _ => rfl
theorem grown_sortW {α : Type} [Inhabited α] (enc : α → Value) {w : World} {g n : Nat} {os : Array Obj} (d : Array α) : w.grownBy (sortWorld enc w g 0 n d os) (some g) := by
  unfold sortWorld
  refine ⟨rfl, rfl, rfl, by simp, fun k hk hne => ?_⟩
  rw [heap_grow_old _ _ (by simpa using hk)]
  have : g ≠ k := fun e => hne (by rw [e])
  simp [putRow, mapBlock, Sort.ahead, Array.getElem?_modify, this]
theorem grown_below {B : Nat} {w w' : World} {g : Nat} (h : w.grownBy w' (some g)) (hB : B ≤ w.heap.size) (hg : B ≤ g) : Below B w w' :=
  ⟨h.os, h.tape, h.output, h.size, fun k hk => h.block k (Nat.lt_of_lt_of_le hk hB) (fun e => by injection e with e; omega)⟩
theorem putRow_map {m : Nat} (w : World) (g : Nat) (d : Array (Fin (m + 1))) : putRow (encF m) w g 0 d = putRow (Value.int .i64) w g 0 (d.map (fun i => (i.val : Int))) := by
  unfold putRow
  congr 1
  funext c
  unfold putCells
  congr 1
  funext k x
  rw [Array.size_map]
  by_cases h : 0 ≤ k ∧ k < 0 + d.size
  · rw [if_pos h, if_pos h]
    have hk : k - 0 < d.size := by omega
    rw [getElem!_pos d (k - 0) hk, getElem!_pos (d.map _) (k - 0) (by simpa using hk)]
    simp [encF]
  · rw [if_neg h, if_neg h]
theorem cmp_reads {A0 : Option Addr} {c0 g m : Nat} {l : List (S60)} (hm : l.length = m + 1) {w0 w : World} (hr : Kd.C k60 w0 A0 l.length l) (HB : Below w0.heap.size w0 w) (hbx : w.heap[g]? = some (.cells #[.slice A0 l.length c0] 23 (0, 0))) {blk : Nat} (hne : g ≠ blk) (hge : w0.heap.size ≤ blk) (size : Nat) :
    Go.Proofs.CmpReads Try.prog 78 #[.pointer (some ⟨g, 0, none⟩)] (encF m) (cfF l m) blk 0 size w := by
  intro q os dk hs x y
  have hgr := grown_sortW (encF m) (w := w) (g := blk) (n := q) (os := os) dk
  have hlt : g < w.heap.size := (Array.getElem?_eq_some_iff.1 hbx).1
  have hb2 : (sortWorld (encF m) w blk 0 q dk os).heap[g]? = some (.cells #[.slice A0 l.length c0] 23 (0, 0)) := (hgr.block g hlt (fun e => by injection e with e; exact hne e)).trans hbx
  have hr2 := Kd.C_below hr (HB.trans (grown_below hgr HB.size hge))
  exact cmp_calls hb2 hr2 x.val y.val (by have := x.isLt; omega) (by have := y.isLt; omega)
theorem eg78 : ∀ args w, (callFunc 78 args).run Try.prog w = .ok (.enter 78 args) w := Go.Proofs.enters_of Try.func78 (by kernel_rfl) rfl
theorem ins_calls {A0 : Option Addr} {c0 g m : Nat} {l : List (S60)} (hm : l.length = m + 1) {w0 w : World} (hr : Kd.C k60 w0 A0 l.length l) (HB : Below w0.heap.size w0 w) (hbx : w.heap[g]? = some (.cells #[.slice A0 l.length c0] 23 (0, 0))) {blk cap : Nat} (hne : g ≠ blk) (hge : w0.heap.size ≤ blk) (d : Array (Fin (m + 1))) (hH : Holds (encF m) w blk 0 d) (hlt : blk < w.heap.size) (hsz : d.size < 4611686018427387904) :
    Calls Try.prog 138 #[.slice (some ⟨blk, 0, none⟩) d.size cap, .int .i64 (0 : Nat), .int .i64 d.size, .func (.func 78) #[] #[.pointer (some ⟨g, 0, none⟩)]] w fun e w' => e = .returned (.tuple #[]) ∧ Go.Proofs.SW (encF m) w blk 0 (Sort.insertionSort (ltOf (cfF l m)) d 0 d.size) w' :=
  Go.Proofs.Any.insertionSortCmpFunc_s lay20 (encF m) (cfF l m) 78 #[.pointer (some ⟨g, 0, none⟩)] blk 0 cap 0 d.size d d w w eg78 (Go.Proofs.CmpReads.lays (cmp_reads hm hr HB hbx hne hge d.size)) ⟨one_encF m, hH, hlt⟩ rfl (Go.Proofs.SW.start hH) (Nat.zero_le _) (Nat.le_refl _) hsz
set_option maxRecDepth 100000 in
set_option maxHeartbeats 4000000 in
/-- Fewer than twenty: one insertion sort. -/
theorem stable_walk {v f : Value} {n : Nat} {w : World} {R : World → Prop} (h20 : n < 20) (h : Calls Try.prog 138 #[v, .int .i64 (0 : Nat), .int .i64 n, f] w fun e w' => e = .returned (.tuple #[]) ∧ R w') :
    Calls Try.prog 121 #[v, .int .i64 n, f] w fun e w' => e = .returned (.tuple #[]) ∧ R w' := by
  have HI := Aside0.mk h
  clear h
  have d1 : decide ((20 : Int) ≤ (n : Int)) = false := decide_eq_false (by omega)
  have d2 : decide (20 ≤ n) = false := decide_eq_false (by omega)
  have d3 : decide ((20 : Int) < (n : Int)) = false := decide_eq_false (by omega)
  have d4 : decide (20 < n) = false := decide_eq_false (by omega)
  have H20 := Aside0.mk h20
  clear h20
  go_enter Try.func121, Try.ntmps121
  go_wp2_with fail
  go_loopw [7, 8] (fun x y wr => x = .int .i64 (0 : Nat) ∧ y = .int .i64 20 ∧ wr = w) (fun _ _ _ => 0)
  case atStart => exact ⟨rfl, rfl, rfl⟩
  case round =>
  obtain ⟨rfl, rfl, rfl⟩ := hrel
  go_wp2_with fail
  refine HI.out.mono ?_
  rintro e w2 ⟨rfl, hR⟩
  have HR := Aside0.mk hR
  clear hR HI
  go_wp2_with fail
  go_loopw [6] (fun x wr => x = .int .i64 20 ∧ wr = w2) (fun _ _ => 0)
  case atStart => exact ⟨rfl, rfl⟩
  case round =>
  obtain ⟨rfl, rfl⟩ := hrel
  go_wp2
  go_end0
  exact ⟨rfl, HR.out⟩
set_option maxRecDepth 100000 in
theorem sort_walk {A : Option Addr} {n c : Nat} {f : Value} {w : World} {R : World → Prop} (h : Calls Try.prog 121 #[.slice A n c, .int .i64 n, f] w fun e w' => e = .returned (.tuple #[]) ∧ R w') :
    Calls Try.prog 77 #[.slice A n c, f] w fun e w' => e = .returned (.tuple #[]) ∧ R w' := by
  have HI := Aside0.mk h
  clear h
  go_enter Try.func77, Try.ntmps77
  go_wp2_with fail
  refine HI.out.mono ?_
  rintro e w2 ⟨rfl, hR⟩
  go_wp2
  go_end0
  exact ⟨rfl, hR⟩
set_option maxRecDepth 100000 in
theorem ins_none {A : Option Addr} {c : Nat} {f : Value} (w : World) : Calls Try.prog 138 #[.slice A 0 c, .int .i64 (0 : Nat), .int .i64 (0 : Nat), f] w fun e w' => e = .returned (.tuple #[]) ∧ w' = w := by
  go_enter Try.func138, Try.ntmps138
  go_wp2_with fail
  go_loopw [8] (fun x wr => x = .int .i64 1 ∧ wr = w) (fun _ _ => 0)
  case atStart => exact ⟨rfl, rfl⟩
  case round =>
  obtain ⟨rfl, rfl⟩ := hrel
  go_wp2
  go_end0
  exact ⟨rfl, rfl⟩
theorem cmpS_lt (a b : ByteArray) : decide (cmpS a b < 0) = decide (a.toList < b.toList) := by
  unfold cmpS
  rw [Go.Proofs.bytesLess_eq, Go.Proofs.bytesLess_eq]
  by_cases h : a.toList < b.toList
  · simp [h]
  · by_cases h2 : b.toList < a.toList <;> simp [h, h2]
theorem ltOf_eq (l : List (S60)) (m : Nat) (x y : Fin (m + 1)) : Go.Proofs.ltOf (cfF l m) x y = decide ((idAt l x.val).toList < (idAt l y.val).toList) := cmpS_lt _ _
theorem swo_cf (l : List (S60)) (m : Nat) : SWO (Go.Proofs.ltOf (cfF l m)) := by
  refine ⟨fun x => ?_, fun x y z h1 h2 => ?_, fun x y z h1 h2 => ?_⟩
  all_goals simp only [ltOf_eq] at *
  · exact decide_eq_false (List.lt_irrefl _)
  · exact decide_eq_true (List.lt_trans (of_decide_eq_true h1) (of_decide_eq_true h2))
  · have a1 := of_decide_eq_false h1
    have a2 := of_decide_eq_false h2
    exact decide_eq_false (fun h => by
      have b1 := List.not_lt.1 a1
      have b2 := List.not_lt.1 a2
      exact absurd h (List.not_lt.2 (List.le_trans b2 b1)))
/-- The names rise (or stay) along places. -/
def Rises (l : List (S60)) (ks : List Nat) : Prop := ∀ i j, i < j → j < ks.length → ¬ (idAt l (ks.getD j 0)).toList < (idAt l (ks.getD i 0)).toList
theorem sort_calls {A0 : Option Addr} {c0 g : Nat} {l : List (S60)} {w0 w : World} (hr : Kd.C k60 w0 A0 l.length l) (HB : Below w0.heap.size w0 w) (hbx : w.heap[g]? = some (.cells #[.slice A0 l.length c0] 23 (0, 0))) {A : Option Addr} {c : Nat} {ok : Nat → Prop} {ks : List Nat}
    (hR : Kd.R (Kd.int .i64) 3 w w0.heap.size ok (.slice A ks.length c) (ks.map fun k : Nat => (k : Int))) (hlt : ∀ k ∈ ks, k < l.length) (h20 : ks.length < 20) (hne : some g ≠ (Value.slice A ks.length c).ownBlock) :
    Calls Try.prog 77 #[.slice A ks.length c, .func (.func 78) #[] #[.pointer (some ⟨g, 0, none⟩)]] w fun e w' => e = .returned (.tuple #[]) ∧
      (∃ ks' : List Nat, ks'.Perm ks ∧ Rises l ks' ∧ Kd.R (Kd.int .i64) 3 w' w0.heap.size ok (.slice A ks.length c) (ks'.map fun k : Nat => (k : Int)) ∧ w.grownBy w' (Value.slice A ks.length c).ownBlock) := by
  have own := Kd.own_of_R hR
  rw [List.length_map] at own
  obtain ⟨hl, h2⟩ := own
  rcases h2 with ⟨hv, hn⟩ | ⟨blk, cap, cur, hv, hbase, hb, h1, h2, h3, h4⟩
  · obtain rfl : ks = [] := List.eq_nil_of_length_eq_zero hn
    refine (sort_walk (stable_walk (by decide) (ins_none w))).mono ?_
    rintro e w' ⟨rfl, rfl⟩
    exact ⟨rfl, [], List.Perm.refl _, fun i j _ hj => absurd hj (Nat.not_lt_zero _), hR, ⟨rfl, rfl, rfl, Nat.le_refl _, fun _ _ _ => rfl⟩⟩
  · obtain ⟨rfl, rfl⟩ : A = some ⟨blk, 0, none⟩ ∧ c = cap := by injection hv with e1 e2 e3; exact ⟨e1, e3⟩
    by_cases hks : ks = []
    · subst hks
      refine (sort_walk (stable_walk (by decide) (ins_none w))).mono ?_
      rintro e w' ⟨rfl, rfl⟩
      exact ⟨rfl, [], List.Perm.refl _, fun i j _ hj => absurd hj (Nat.not_lt_zero _), hR, ⟨rfl, rfl, rfl, Nat.le_refl _, fun _ _ _ => rfl⟩⟩
    obtain ⟨m, hm⟩ : ∃ m, l.length = m + 1 := by
      cases ks with
      | nil => exact absurd rfl hks
      | cons k _ => exact ⟨l.length - 1, by have := hlt k (List.mem_cons_self ..); omega⟩
    obtain ⟨d, hd⟩ : ∃ d : Array (Fin (m + 1)), d = (ks.map (Fin.ofNat (m + 1))).toArray := ⟨_, rfl⟩
    have hds : d.size = ks.length := by rw [hd]; simp
    have hval : d.toList.map (fun i => i.val) = ks := by
      rw [hd]
      simp only [List.map_map]
      refine (List.map_congr_left (fun k hk => ?_)).trans (List.map_id _)
      have := hlt k hk
      show (Fin.ofNat (m + 1) k).val = id k
      simp only [Fin.ofNat, id]
      exact Nat.mod_eq_of_lt (by omega)
    have hH : Holds (encF m) w blk 0 d := by
      have hI := holds_of_blockI (ss := ks.map fun k : Nat => (k : Int)) hb (by rw [List.length_map, ← Nat.mul_one ks.length]; exact h4)
      intro j hj
      have hj2 : j < ((ks.map fun k : Nat => (k : Int)).toArray).size := by simp; omega
      have h5 := hI j hj2
      refine ⟨h5.1.trans ?_, h5.2⟩
      congr 1
      rw [getElem!_pos _ j hj2, getElem!_pos d j hj]
      have h6 : (d.toList.map (fun i => i.val))[j]? = ks[j]? := by rw [hval]
      have hjk : j < ks.length := by omega
      rw [List.getElem?_map, List.getElem?_eq_getElem (by simpa using hj), List.getElem?_eq_getElem hjk] at h6
      simp only [Option.map_some, Option.some.injEq, Array.getElem_toList] at h6
      simp [encF, h6]
    have hblk : blk < w.heap.size := (Array.getElem?_eq_some_iff.1 hb).1
    have HI := ins_calls (c0 := c0) (cap := c) hm hr HB hbx (fun e => hne (by rw [e]; rfl)) hbase d hH hblk (by omega)
    rw [hds] at HI
    refine (sort_walk (stable_walk h20 HI)).mono ?_
    rintro e w' ⟨rfl, q, os, rfl⟩
    have hst := Go.Sort.insertionSort_holds (lt := Go.Proofs.ltOf (cfF l m)) (swo_cf l m) d 0 ks.length (Nat.zero_le _) (by omega)
    generalize Sort.insertionSort (Go.Proofs.ltOf (cfF l m)) d 0 ks.length = D at hst
    obtain ⟨⟨hsz, _, hperm⟩, hsorted⟩ := hst
    have hDl : D.toList.length = ks.length := by simp [hsz, hds]
    have hp2 : D.toList.Perm d.toList := by
      have e1 : D.extract 0 ks.length = D := by rw [← hds, ← hsz]; simp
      have e2 : d.extract 0 ks.length = d := by rw [← hds]; simp
      rw [e1, e2] at hperm
      exact hperm
    refine ⟨rfl, D.toList.map (fun i => i.val), ?_, ?_, ?_, grown_sortW _ _⟩
    · rw [← hval]; exact hp2.map _
    · intro i j hij hj
      rw [List.length_map, hDl] at hj
      have h7 := hsorted i j (Nat.zero_le _) hij hj
      rw [ltOf_eq] at h7
      have hi : i < D.size := by omega
      have hj2 : j < D.size := by omega
      rw [getElem!_pos D i hi, getElem!_pos D j hj2] at h7
      have ei : (D.toList.map (fun i => i.val)).getD i 0 = D[i].val := by simp [List.getD_eq_getElem?_getD, hi]
      have ej : (D.toList.map (fun i => i.val)).getD j 0 = D[j].val := by simp [List.getD_eq_getElem?_getD, hj2]
      rw [ei, ej]
      exact of_decide_eq_false h7
    · have e3 : sortWorld (encF m) w blk 0 q D os = grow (putRow (Value.int .i64) (Sort.ahead w q) blk 0 ((D.toList.map (fun i => i.val)).map fun k : Nat => (k : Int)).toArray) os := by
        unfold sortWorld
        rw [putRow_map]
        congr 2
        apply Array.ext'
        simp
      rw [e3]
      refine Kd.R_of_own (v := .slice (some ⟨blk, 0, none⟩) ks.length c) ?_ hR.1
      have := ownsRow_sortedI (n := q) (os := os) (ss := ks.map fun k : Nat => (k : Int)) (ts := (D.toList.map (fun i => i.val)).map fun k : Nat => (k : Int)) (by simp [hsz, hds]) hbase hb (by simpa using h1) h2 h3
      rw [List.length_map] at this
      have e4 : ((D.toList.map (fun i => i.val)).map fun k : Nat => (k : Int)).length = ks.length := by simp [hsz, hds]
      rw [e4]
      exact this
end Go.Proofs.Ytdmeepjefccpgaa.HSo
