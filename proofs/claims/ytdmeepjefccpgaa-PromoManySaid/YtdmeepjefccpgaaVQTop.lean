/- The queue's own functions: Push, Pop, Peek, Len, New, as contracts over what a queue holds. -/
import Derived.Test.YtdmeepjefccpgaaProg
import Derived.Below
import Derived.Deep.Draws
import Derived.Deep.AppendLies
import Derived.Maps.AppendAt
import Derived.OwnWalk
import Derived.Laws.BytesArg
import Derived.Laws.MakeOwn
import Derived.Laws.OwnMore
import Derived.Deep.OwnRows
import Derived.Tactics
import Derived.Lib.ConvBytes
import Derived.Laws.Slices
import Derived.WalkKit
import Derived.KernelRfl
import Derived.RowKit3
import Derived.Deep.LoopGhost
import Derived.Deep.QuietTactic
import Derived.BigQuiet
import Derived.WideLaws
import Derived.Deep.DeepCutAuto
import Derived.Deep.CutBlock
import Derived.Deep.RegionHeld3
import Derived.Laws.Rows
import Derived.Lib.AppendStr
import Derived.ArgAppend
import Derived.Laws.IdiomCopy
import Derived.OrdersHeld
import Derived.Laws.BitsLemmas
import Derived.RowKit
import Derived.BigRegion
import Derived.Outline
import Derived.RegionTactic
import Derived.StillTailTactics
import Derived.Deep.RegionLaw
import Derived.Test.YtdmeepjefccpgaaVQHeap
set_option linter.unusedVariables false
set_option linter.unusedSimpArgs false
namespace Go.Proofs.Ytdmeepjefccpgaa.QW
open Go Go.RowKit Go.Proofs.Ytdmeepjefccpgaa.QM Go.Proofs.Ytdmeepjefccpgaa.QR

theorem blk_cell0 {w : World} {g : Nat} {v : Value} {T : TypeId} (h : w.heap[g]? = some (.cells #[v] T (0, 0))) : w.cell? ⟨g, 0, none⟩ = some v := by
  rw [cell_of_row w g 0 _ T (0, 0) h]; rfl
theorem blk_free {w : World} {g : Nat} {c : Array Value} {T : TypeId} (h : w.heap[g]? = some (.cells c T (0, 0))) (k : Nat) : w.frozen? ⟨g, k, none⟩ = false := by
  simp [World.frozen?, h]

set_option maxRecDepth 100000 in
set_option maxHeartbeats 2000000 in
theorem epop_calls {g r cap n : Nat} {l : List Ent} {w : World} (h : QRow 142 w r cap l) (hn : l.length = n + 1) (hg : r ≠ g)
    (hc : w.heap[g]? = some (.cells #[.slice (some ⟨r, 0, none⟩) (n + 1) cap] 138 (0, 0))) (hb : n ≤ 2147483648) :
    Calls Try.prog 168 #[.pointer (some ⟨g, 0, none⟩)] w fun e w' => e = .returned (.iface 142 (.agg #[.int .i64 (at_ l n).1, .int .i64 (at_ l n).2])) ∧
      w'.heap[g]? = some (.cells #[.slice (some ⟨r, 0, none⟩) n cap] 138 (0, 0)) ∧ Kp (fun k => k = g) w w' := by
  have h0 := blk_cell0 hc
  have hf := blk_free hc 0
  have ha := h.cell0 n (by omega)
  have hb2 := h.cell1 n (by omega)
  have hgl : g < w.heap.size := (Array.getElem?_eq_some_iff.1 hc).1
  have hle := h.le
  generalize at_ l n = x at *
  clear h
  go_enter Try.func168, Try.ntmps168
  go_wp2
  go_ret
  refine ⟨rfl, ?_, ((Kp.refl (fun k => k = g) w).setCell ⟨g, 0, none⟩ _ (fun _ => rfl)).alloc _⟩
  rw [alloc_old _ _ _ (by simp [World.setCell]; exact hgl)]
  exact (setCell_at hc 0 _).trans rfl

theorem grown_setCell (w : World) (p : Addr) (u : Value) : w.grownBy (w.setCell p u) (some p.block) :=
  ⟨rfl, rfl, rfl, by simp [World.setCell], fun k _ hk => Below.heap_setCell w p u k (fun e => hk (by rw [e]))⟩
theorem assert_entry (a b : Value) (w : World) : Sem.run Try.prog (Instr.typeAssert (.iface 142 (.agg #[a, b])) 20 142 true) w = .ok (.tuple #[.agg #[a, b], .bool true]) w := by kernel_rfl
theorem info_entry : (Try.prog.info? 142).map (fun i => (i.zero, i.size, i.bytes)) = some (some (.agg #[.int .i64 0, .int .i64 0]), 2, 16) := by kernel_rfl

set_option maxRecDepth 100000 in
set_option maxHeartbeats 2000000 in
theorem epush_calls {g : Nat} {v : Value} {n : Nat} {xs : List Value} {w : World} (x : Ent) (ho : w.ownsRow 0 142 2 v n xs)
    (hne : v.ownBlock ≠ some g)
    (hc : w.heap[g]? = some (.cells #[v] 138 (0, 0))) (hb : n ≤ 2147483648) :
    Calls Try.prog 169 #[.pointer (some ⟨g, 0, none⟩), .iface 142 (.agg #[.int .i64 x.1, .int .i64 x.2])] w fun e w' => e = .returned (.tuple #[]) ∧
      ∃ r cap, w'.heap[g]? = some (.cells #[.slice (some ⟨r, 0, none⟩) (n + 1) cap] 138 (0, 0)) ∧ w'.ownsRow 0 142 2 (.slice (some ⟨r, 0, none⟩) (n + 1) cap) (n + 1) (xs ++ [.int .i64 x.1, .int .i64 x.2]) ∧
        (v.ownBlock = some r ∨ w.heap.size ≤ r) ∧ Kp (fun k => k = g ∨ some k = v.ownBlock) w w' := by
  have h0 := blk_cell0 hc
  have hf := blk_free hc 0
  have hgl : g < w.heap.size := (Array.getElem?_eq_some_iff.1 hc).1
  have hta := assert_entry (.int .i64 x.1) (.int .i64 x.2)
  go_enter Try.func169, Try.ntmps169
  go_wp2
  obtain ⟨W, hW⟩ : ∃ W, W = w.alloc (.cells #[.int .i64 x.1, .int .i64 x.2] 142) := ⟨_, rfl⟩
  rw [← hW]
  have hs : W.heap.size = w.heap.size + 1 := by rw [hW]; simp
  have g0 : W.cell? ⟨g, 0, none⟩ = some v := by
    rw [hW, World.cell?_of_block (w := w) (alloc_old w _ g hgl)]; exact h0
  have gf : W.frozen? ⟨g, 0, none⟩ = false := by
    rw [hW, World.frozen?_of_block (w := w) (alloc_old w _ g hgl)]; exact hf
  have x0 : W.cell? ⟨w.heap.size, 0, none⟩ = some (.int .i64 x.1) := by rw [hW, cell_of_row _ _ _ _ _ _ (alloc_new w _)]; rfl
  have x1 : W.cell? ⟨w.heap.size, 1, none⟩ = some (.int .i64 x.2) := by rw [hW, cell_of_row _ _ _ _ _ _ (alloc_new w _)]; rfl
  have hoW : W.ownsRow 0 142 2 v n xs := by rw [hW]; exact ho.alloc _
  have hKW : Kp (fun k => k = g ∨ some k = v.ownBlock) w W := by rw [hW]; exact (Kp.refl _ w).alloc _
  have hcW : W.heap[g]? = some (.cells #[v] 138 (0, 0)) := by rw [hW, alloc_old w _ g hgl]; exact hc
  have HW : Hid (W = w.alloc (.cells #[.int .i64 x.1, .int .i64 x.2] 142)) := hW
  have Hs : Hid (W.heap.size = w.heap.size + 1) := hs
  clear hW hs h0 hf hc
  obtain ⟨i0, hi, hz0, hz1, hz2⟩ := info_parts info_entry
  have A0 : ∀ o, (W.alloc o).cell? ⟨g, 0, none⟩ = some v := fun o => by rw [World.cell?_of_block (w := W) (alloc_old W o g (by have := Hs.out; omega))]; exact g0
  have A1 : ∀ o, (W.alloc o).cell? ⟨w.heap.size, 0, none⟩ = some (.int .i64 x.1) := fun o => by rw [World.cell?_of_block (w := W) (alloc_old W o w.heap.size (by have := Hs.out; omega))]; exact x0
  have A2 : ∀ o, (W.alloc o).cell? ⟨w.heap.size, 1, none⟩ = some (.int .i64 x.2) := fun o => by rw [World.cell?_of_block (w := W) (alloc_old W o w.heap.size (by have := Hs.out; omega))]; exact x1
  have A3 : ∀ o, (W.alloc o).frozen? ⟨g, 0, none⟩ = false := fun o => by rw [World.frozen?_of_block (w := W) (alloc_old W o g (by have := Hs.out; omega))]; exact gf
  have N0 : some g ≠ v.ownBlock := fun e => hne e.symm
  have N1 : some w.heap.size ≠ v.ownBlock := fun e => by have := (ho.lt _ e.symm).2; omega
  have gW : g < W.heap.size := by have := Hs.out; omega
  have sW : w.heap.size < W.heap.size := by have := Hs.out; omega
  go_region_law ((refine step_append_lies _ (by rfl) _ _ _ (by rfl) 0 142 i0 (.agg #[.int .i64 0, .int .i64 0]) 2 16 Try.underlying136 hi hz0 hz1 hz2 rfl (by decide) v n xs (by rfl) (hoW.alloc _) ⟨W.heap.size, 0, none⟩ 1 1 [.int .i64 x.1, .int .i64 x.2] (by rfl) rfl (World.news_of_block (cs := #[.int .i64 x.1, .int .i64 x.2]) (t := 142) (fr := (0, 0)) (alloc_new W _)) (by intro u hu; simp at hu; rcases hu with rfl | rfl <;> rfl) (by decide) (by unfold maxLen; omega) (by omega) (by omega) (W.heap.size + 1) (by simp) ?_; intro r cap w1 hown1 hgrow hat hlt; have c1 : w1.cell? ⟨g, 0, none⟩ = some v := (hgrow.cell_far _ (by simp; omega) N0).trans (A0 _); have c2 : w1.frozen? ⟨g, 0, none⟩ = false := (hgrow.frozen_far _ (by simp; omega) N0).trans (A3 _)))
  all_goals
    go_end0
    have hrg : r ≠ g := by
      rcases hat with hat | hat
      · rintro rfl; exact hne hat
      · omega
    have hcw1 : w1.heap[g]? = some (.cells #[v] 138 (0, 0)) := (hgrow.block g (by simp; omega) N0).trans ((alloc_old W _ g gW).trans hcW)
    refine ⟨rfl, r, cap, (setCell_at hcw1 0 _).trans rfl, hown1.kept (grown_setCell w1 ⟨g, 0, none⟩ _) (.inr (by simp [Value.ownBlock]; exact hrg)), ?_, ?_⟩
    · rcases hat with hat | hat
      · exact .inl hat
      · exact .inr (by omega)
    · exact ((hKW.alloc _).drew.trans' (Kp.of_grown hgrow) (fun i _ h => .inr h)).setCell ⟨g, 0, none⟩ _ (fun _ => .inl rfl)
end Go.Proofs.Ytdmeepjefccpgaa.QW
