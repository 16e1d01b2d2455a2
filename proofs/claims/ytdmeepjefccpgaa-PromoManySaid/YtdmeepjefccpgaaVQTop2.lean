/- heap.Push, heap.Pop and the queue's methods, over what a queue holds. -/
import Derived.Test.YtdmeepjefccpgaaProg
import Derived.Below
import Derived.Deep.Draws
import Derived.Deep.AppendLies
import Derived.Maps.AppendAt
import Derived.OwnWalk
import Derived.Laws.BytesArg
import Derived.Laws.MakeOwn
import Derived.Laws.OwnMore
import Derived.Deep.OwnRows
import Derived.Tactics
import Derived.Lib.ConvBytes
import Derived.Laws.Slices
import Derived.WalkKit
import Derived.KernelRfl
import Derived.RowKit3
import Derived.Deep.LoopGhost
import Derived.Deep.QuietTactic
import Derived.BigQuiet
import Derived.WideLaws
import Derived.Deep.DeepCutAuto
import Derived.Deep.CutBlock
import Derived.Deep.RegionHeld3
import Derived.Laws.Rows
import Derived.Lib.AppendStr
import Derived.ArgAppend
import Derived.Laws.IdiomCopy
import Derived.OrdersHeld
import Derived.Laws.BitsLemmas
import Derived.RowKit
import Derived.BigRegion
import Derived.Outline
import Derived.RegionTactic
import Derived.StillTailTactics
import Derived.Deep.RegionLaw
import Derived.Test.YtdmeepjefccpgaaVQTop
set_option linter.unusedVariables false
set_option linter.unusedSimpArgs false
namespace Go.Proofs.Ytdmeepjefccpgaa.QW
open Go Go.RowKit Go.Proofs.Ytdmeepjefccpgaa.QM Go.Proofs.Ytdmeepjefccpgaa.QR

/-- What a queue's slice owns. -/
theorem q_owns {w : World} {g : Nat} {ro : Option Nat} {v : Value} {l : List Ent}
    (h : (ro = none ∧ v = .slice none 0 0 ∧ l = []) ∨ ∃ r cap, ro = some r ∧ v = .slice (some ⟨r, 0, none⟩) l.length cap ∧ QRow 142 w r cap l ∧ r ≠ g) :
    w.ownsRow 0 142 2 v l.length (flat l) ∧ v.ownBlock = ro ∧ v.ownBlock ≠ some g := by
  rcases h with ⟨rfl, rfl, rfl⟩ | ⟨r, cap, rfl, rfl, h, hg⟩
  · exact ⟨⟨rfl, .inl ⟨rfl, rfl⟩⟩, rfl, by simp [Value.ownBlock]⟩
  · exact ⟨h.owns, rfl, by simp [Value.ownBlock]; exact hg⟩

set_option maxRecDepth 100000 in
set_option maxHeartbeats 2000000 in
theorem hpush_calls {g : Nat} {ro : Option Nat} {m : List Ent} {w : World} (x : Ent) (h : IsQ 138 142 w g ro m) (hb : m.length ≤ 2000000000) :
    Calls Try.prog 123 #[.iface 140 (.pointer (some ⟨g, 0, none⟩)), .iface 142 (.agg #[.int .i64 x.1, .int .i64 x.2])] w fun e w' => e = .returned (.tuple #[]) ∧
      ∃ r, IsQ 138 142 w' g (some r) (x :: m) ∧ (ro = some r ∨ w.heap.size ≤ r) ∧ Kp (fun k => k = g ∨ some k = ro) w w' := by
  have hgl := h.lt
  obtain ⟨v, l, hc, hp, hh, hv⟩ := h.ex
  have hlm : l.length = m.length := hp.length_eq
  obtain ⟨ho, hob, hne⟩ := q_owns hv
  obtain ⟨n, hn⟩ : ∃ n, n = l.length := ⟨_, rfl⟩
  rw [← hn] at ho
  have hnb : n ≤ 2000000000 := by omega
  have Hn : Hid (n = l.length) := hn
  clear hn hlm hb hv
  have hmp := meth_push ⟨g, 0, none⟩
  go_enter Try.func123, Try.ntmps123
  go_wp2_with fail
  refine (epush_calls x ho hne hc (by omega)).mono ?_
  rintro e w1 ⟨rfl, r, cap, hc1, ho1, hr1, hk1⟩
  have hcell := blk_cell0 hc1
  have hml := meth_len hcell
  have hq1 : QRow 142 w1 r cap (l ++ [x]) := QRow.of_owns (n := n + 1) (by rw [flat_append]; exact ho1) (by simp; rw [Hn.out])
  have hl1 : (l ++ [x]).length = n + 1 := by simp; rw [Hn.out]
  have hrg : r ≠ g := by
    rcases hr1 with e | e
    · rintro rfl; exact hne e
    · omega
  have hg1 : g < w1.heap.size := (Array.getElem?_eq_some_iff.1 hc1).1
  have Hl1 : Hid ((l ++ [x]).length = n + 1) := hl1
  clear hl1
  go_wp2_with fail
  refine (len_calls _ _ _ _).mono ?_
  rintro e w' ⟨rfl, rfl⟩
  go_wp2_with fail
  refine (up_calls (n := n + 1) hq1 Hl1.out hrg hcell hg1 n (by omega) (by omega)).mono ?_
  rintro e w2 ⟨rfl, hq2, hk2⟩
  go_wp2
  go_end0
  have hup : up (n + 1) (l ++ [x]) n = push l x := by unfold push; rw [← Hn.out]
  rw [hup] at hq2
  refine ⟨rfl, r, ⟨⟨.slice (some ⟨r, 0, none⟩) (push l x).length cap, push l x, ?_, ?_, push_heap l x hh, .inr ⟨r, cap, rfl, rfl, hq2, hrg⟩⟩⟩, ?_, ?_⟩
  · rw [push_length, ← Hn.out]; exact (hk2.block g hg1 (fun e => hrg e.symm)).trans hc1
  · exact (push_perm l x).trans (hp.cons x)
  · rw [← hob]; exact hr1
  · rw [hob] at hk1
    refine hk1.trans' hk2 ?_
    rintro i hi rfl
    rcases hr1 with e | e
    · exact .inr (by rw [← hob, e])
    · omega

set_option maxRecDepth 100000 in
set_option maxHeartbeats 2000000 in
/-- What a pop tells: the first, and what is left. -/
theorem hpop_calls {g : Nat} {ro : Option Nat} {m : List Ent} {w : World} (h : IsQ 138 142 w g ro m) (hm : 0 < m.length) (hb : m.length ≤ 2000000000) :
    Calls Try.prog 124 #[.iface 140 (.pointer (some ⟨g, 0, none⟩))] w fun e w' => ∃ (x : Ent) (m' : List Ent), e = .returned (.iface 142 (.agg #[.int .i64 x.1, .int .i64 x.2])) ∧
      m.Perm (x :: m') ∧ (∀ y, y ∈ m → lt y x = false) ∧ IsQ 138 142 w' g ro m' ∧ Kp (fun k => k = g ∨ some k = ro) w w' := by
  have hgl := h.lt
  obtain ⟨v, l, hc, hp, hh, hv⟩ := h.ex
  have hlm : l.length = m.length := hp.length_eq
  rcases hv with ⟨_, _, rfl⟩ | ⟨r, cap, rfl, rfl, hq, hrg⟩
  · simp at hlm; omega
  obtain ⟨n, hn⟩ : ∃ n, l.length = n + 1 := ⟨l.length - 1, by omega⟩
  rw [hn] at hc
  have hnb : n ≤ 2000000000 := by omega
  have Hn : Hid (l.length = n + 1) := hn
  clear hn hlm hb hm h
  have hcell := blk_cell0 hc
  have hml := meth_len hcell
  have hms := meth_swap hcell
  go_enter Try.func124, Try.ntmps124
  go_wp2_with fail
  refine (len_calls _ _ _ _).mono ?_
  rintro e w' ⟨rfl, rfl⟩
  go_wp2_with fail
  refine (swap_any hq (n + 1) 0 n _ _ rfl (by omega) Hn.out (by omega) (by omega)).mono ?_
  rintro e w1 ⟨rfl, hq1, hk1⟩
  have hc1 : w1.heap[g]? = some (.cells #[.slice (some ⟨r, 0, none⟩) (n + 1) cap] 138 (0, 0)) := (hk1.block g hgl (fun e => hrg e.symm)).trans hc
  have hg1 : g < w1.heap.size := (Array.getElem?_eq_some_iff.1 hc1).1
  have hcell1 := blk_cell0 hc1
  have hl1 : Hid ((swp l 0 n).length = n + 1) := by show _ = _; rw [swp_length]; exact Hn.out
  go_wp2_with fail
  refine (down_calls hq1 hl1.out hrg hcell1 hg1 n (by omega) (by omega)).mono ?_
  rintro e w2 ⟨⟨b, rfl⟩, hq2, hk2⟩
  have hc2 : w2.heap[g]? = some (.cells #[.slice (some ⟨r, 0, none⟩) (n + 1) cap] 138 (0, 0)) := (hk2.block g hg1 (fun e => hrg e.symm)).trans hc1
  have hl2 : Hid ((down (n + 1 + 1) (swp l 0 n) 0 n).length = n + 1) := by show _ = _; rw [down_length]; exact hl1.out
  have hmp := meth_pop ⟨g, 0, none⟩
  go_wp2_with fail
  refine (epop_calls hq2 hl2.out hrg hc2 (by omega)).mono ?_
  rintro e w3 ⟨rfl, hc3, hk3⟩
  go_wp2
  go_ret
  have hl : l.length - 1 = n := by rw [Hn.out]; rfl
  have hl' : l.length + 1 = n + 1 + 1 := by rw [Hn.out]
  have hpl : (pop l).length = n := by rw [pop_length, hl]
  have hpos : 0 < l.length := by rw [Hn.out]; omega
  have hlast := pop_last l hpos
  rw [hl, hl'] at hlast
  have hpop : (down (n + 1 + 1) (swp l 0 n) 0 n).take n = pop l := by unfold pop; rw [hl, hl']
  refine ⟨at_ l 0, pop l, by rw [hlast]; rfl, hp.symm.trans (pop_perm l hpos).symm, ?_, ⟨⟨.slice (some ⟨r, 0, none⟩) (pop l).length cap, pop l, ?_, List.Perm.refl _, pop_heap l hh, .inr ⟨r, cap, rfl, rfl, ?_, hrg⟩⟩⟩, ?_⟩
  · intro y hy
    have hy' := hp.symm.mem_iff.1 hy
    obtain ⟨i, hi, rfl⟩ := List.getElem_of_mem hy'
    rw [← at_eq l i hi]
    exact hh.top i hi
  · rw [hpl]; exact hc3
  · rw [← hpop]
    exact (hq2.kp hk3 hrg).take n
  · refine (((hk1.mono ?_).trans' hk2 ?_).trans' hk3 ?_)
    · rintro i _ rfl; exact .inr rfl
    · rintro i _ rfl; exact .inr rfl
    · rintro i _ rfl; exact .inl rfl

/-! ### The queue's methods -/
set_option maxHeartbeats 1000000 in
theorem new_calls (w : World) : Calls Try.prog 80 #[] w fun e w' => ∃ g, e = .returned (.pointer (some ⟨g, 0, none⟩)) ∧ IsQ 138 142 w' g none [] ∧ w.heap.size ≤ g ∧ Kp (fun _ => False) w w' := by
  go_enter Try.func80, Try.ntmps80
  go_wp2
  go_ret
  exact ⟨w.heap.size, rfl, ⟨⟨_, [], alloc_new w _, List.Perm.refl _, fun k hk hkn => absurd hkn (by simp), .inl ⟨rfl, rfl, rfl⟩⟩⟩, Nat.le_refl _, (Kp.refl _ w).alloc _⟩

set_option maxRecDepth 100000 in
set_option maxHeartbeats 1000000 in
theorem push_calls {g : Nat} {ro : Option Nat} {m : List Ent} {w : World} (a b : Int) (h : IsQ 138 142 w g ro m) (hb : m.length ≤ 2000000000) :
    Calls Try.prog 81 #[.pointer (some ⟨g, 0, none⟩), .int .i64 a, .int .i64 b] w fun e w' => e = .returned (.tuple #[]) ∧
      ∃ r, IsQ 138 142 w' g (some r) ((a, b) :: m) ∧ (ro = some r ∨ w.heap.size ≤ r) ∧ Kp (fun k => k = g ∨ some k = ro) w w' := by
  go_enter Try.func81, Try.ntmps81
  go_wp2_with fail
  refine (hpush_calls (a, b) h hb).mono ?_
  rintro e w1 ⟨rfl, hr⟩
  go_wp2
  go_end0
  exact ⟨rfl, hr⟩

set_option maxHeartbeats 1000000 in
theorem qlen_calls {g : Nat} {ro : Option Nat} {m : List Ent} {w : World} (h : IsQ 138 142 w g ro m) :
    Calls Try.prog 82 #[.pointer (some ⟨g, 0, none⟩)] w fun e w' => e = .returned (.int .i64 m.length) ∧ w = w' := by
  obtain ⟨v, l, hc, hp, hh, hv⟩ := h.ex
  have hlm : m.length = l.length := hp.symm.length_eq
  rw [hlm]
  clear hlm
  rcases hv with ⟨_, rfl, rfl⟩ | ⟨r, cap, rfl, rfl, hq, hrg⟩
  · have hcell := blk_cell0 hc
    go_enter Try.func82, Try.ntmps82
    go_wp2
    go_ret
    exact ⟨rfl, rfl⟩
  · have hcell := blk_cell0 hc
    go_enter Try.func82, Try.ntmps82
    go_wp2
    go_ret
    exact ⟨rfl, rfl⟩

set_option maxRecDepth 100000 in
set_option maxHeartbeats 1000000 in
theorem pop_calls {g : Nat} {ro : Option Nat} {m : List Ent} {w : World} (h : IsQ 138 142 w g ro m) (hm : 0 < m.length) (hb : m.length ≤ 2000000000) :
    Calls Try.prog 83 #[.pointer (some ⟨g, 0, none⟩)] w fun e w' => ∃ (x : Ent) (m' : List Ent), e = .returned (.tuple #[.int .i64 x.1, .int .i64 x.2, .bool true]) ∧
      m.Perm (x :: m') ∧ (∀ y, y ∈ m → lt y x = false) ∧ IsQ 138 142 w' g ro m' ∧ Kp (fun k => k = g ∨ some k = ro) w w' := by
  have HQ : Hid (IsQ 138 142 w g ro m) := h
  obtain ⟨v, l, hc, hp, hh, hv⟩ := h.ex
  have hlm : l.length = m.length := hp.length_eq
  rcases hv with ⟨_, _, rfl⟩ | ⟨r, cap, hro, rfl, hq, hrg⟩
  · simp at hlm; omega
  have hcell := blk_cell0 hc
  obtain ⟨n, hn⟩ : ∃ n, l.length = n + 1 := ⟨l.length - 1, by omega⟩
  rw [hn] at hcell
  have hd : (((n + 1 : Nat) : Int) == 0) = false := by simp; omega
  have hd2 : ((n : Int) + 1 == 0) = false := by simp; omega
  have Hb : Hid (m.length ≤ 2000000000 ∧ 0 < m.length) := ⟨hb, hm⟩
  clear hn hlm hb hm hc hp hh hq h hro
  go_enter Try.func83, Try.ntmps83
  go_wp2_with fail
  refine (hpop_calls HQ.out Hb.out.2 Hb.out.1).mono ?_
  rintro e w1 ⟨x, m', rfl, h1, h2, h3, h4⟩
  have hta := assert_entry (.int .i64 x.1) (.int .i64 x.2)
  have H1 : Hid (m.Perm (x :: m')) := h1
  have H2 : Hid (∀ y, y ∈ m → lt y x = false) := h2
  have H3 : Hid (IsQ 138 142 w1 g ro m') := h3
  have H4 : Hid (Kp (fun k => k = g ∨ some k = ro) w w1) := h4
  clear h1 h2 h3 h4
  go_wp2
  go_region
  all_goals
    go_wp2
    go_ret3
    exact ⟨x, m', rfl, H1.out, H2.out, H3.out.kp ((Kp.refl (fun _ => False) w1).alloc _).drew (fun h => h) (fun _ _ h => h), (H4.out.alloc _).drew⟩

end Go.Proofs.Ytdmeepjefccpgaa.QW
