/- A copy of tenders with spare room behind it (haberdashhelp.Own), and whether it is as it was (Kept). -/
import Derived.Test.YtegjbbblpnenfaaProg
import Derived.Below
import Derived.Deep.Draws
import Derived.Deep.AppendLies
import Derived.Maps.AppendAt
import Derived.OwnWalk
import Derived.Laws.BytesArg
import Derived.Laws.MakeOwn
import Derived.Laws.OwnMore
import Derived.Deep.OwnRows
import Derived.Tactics
import Derived.Lib.ConvBytes
import Derived.Laws.Slices
import Derived.WalkKit
import Derived.KernelRfl
import Derived.RowKit3
import Derived.Deep.LoopGhost
import Derived.Deep.QuietTactic
import Derived.BigQuiet
import Derived.WideLaws
import Derived.Deep.DeepCutAuto
import Derived.Deep.CutBlock
import Derived.Deep.RegionHeld3
import Derived.Laws.Rows
import Derived.Lib.AppendStr
import Derived.ArgAppend
import Derived.Laws.IdiomCopy
import Derived.OrdersHeld
import Derived.Laws.BitsLemmas
import Derived.RowKit
import Derived.BigRegion
import Derived.Outline
import Derived.RegionTactic
import Derived.StillTailTactics
import Derived.Deep.RegionLaw
import Derived.Test.YtegjbbblpnenfaaVOwnInt
import Derived.Test.YtegjbbblpnenfaaVRwPlain
set_option linter.unusedVariables false
set_option linter.unusedSimpArgs false
namespace Go.Proofs.Ytegjbbblpnenfaa.HP
open Go Go.RowKit Go.Proofs.YtegjbbblpnenfaaW.PrintWords Go.Proofs.Ytegjbbblpnenfaa.QR
attribute [local go_sem high] Rw.eqA39
abbrev TenH := Rw.S39
def encT (x : TenH) : List Value := [.int .i64 x.f0, .int .i64 x.f1, .int .i64 x.f2]

section
variable {α : Type} (d : Kd α) (enc : α → List Value) (hen : ∀ w x c, d.K w x c → c = enc x) (hmk : ∀ w x, d.K w x (enc x)) (hsz : ∀ x, (enc x).length = d.sz)
include hen in
theorem reps_flat {w : World} {l : List α} {cs : List Value} (h : Reps (d.K w) d.sz l cs) : cs = l.flatMap enc := by
  induction l generalizing cs with
  | nil =>
    have h1 := h.1
    simp at h1
    simp [h1]
  | cons x l ih =>
    have h1 := h.1
    have h0 := hen _ _ _ (h.2 0 x rfl)
    rw [Nat.zero_mul, List.drop_zero] at h0
    have h2 : Reps (d.K w) d.sz l (cs.drop d.sz) := by
      refine ⟨?_, fun j p hj => ?_⟩
      · rw [List.length_drop, h1, List.length_cons, Nat.add_mul, Nat.one_mul]; omega
      · have := h.2 (j + 1) p (by simpa using hj)
        rw [List.drop_drop]
        rw [Nat.add_mul, Nat.one_mul, Nat.add_comm] at this
        exact this
    rw [List.flatMap_cons, ← ih h2, ← h0, List.take_append_drop]
include hsz in
theorem flat_length (l : List α) : (l.flatMap enc).length = l.length * d.sz := by
  induction l with
  | nil => simp
  | cons x l ih => rw [List.flatMap_cons, List.length_append, hsz, ih, List.length_cons, Nat.add_mul, Nat.one_mul]; omega
include hsz in
theorem flat_get (l : List α) (j : Nat) (x : α) (h : l[j]? = some x) (i : Nat) (hi : i < d.sz) : (l.flatMap enc)[j * d.sz + i]? = (enc x)[i]? := by
  induction l generalizing j with
  | nil => simp at h
  | cons y l ih =>
    rw [List.flatMap_cons]
    cases j with
    | zero =>
      obtain rfl : y = x := by simpa using h
      rw [Nat.zero_mul, Nat.zero_add, List.getElem?_append_left (by rw [hsz]; exact hi)]
    | succ j =>
      rw [List.getElem?_append_right (by rw [hsz, Nat.add_mul, Nat.one_mul]; omega), hsz]
      have e : (j + 1) * d.sz + i - d.sz = j * d.sz + i := by rw [Nat.add_mul, Nat.one_mul]; omega
      rw [e]
      exact ih j (by simpa using h)
include hmk hsz in
theorem reads_flat {w : World} {r : Nat} {l : List α} {rest : List Value} {T : TypeId} (h : w.heap[r]? = some (.cells (l.flatMap enc ++ rest).toArray T (0, 0))) (hb : l.length ≤ 1000000000) : d.C w (some ⟨r, 0, none⟩) l.length l := by
  refine ⟨rfl, by omega, fun _ => ⟨_, rfl, fun j p hj => ⟨enc p, hsz p, hmk w p, fun i u hu => ?_⟩⟩⟩
  have hil : i < d.sz := by rw [← hsz p]; exact (List.getElem?_eq_some_iff.1 hu).1
  have e : (⟨r, 0, none⟩ : Addr).add (j * d.sz + i) = ⟨r, j * d.sz + i, none⟩ := by
    unfold Addr.add; split <;> simp_all
  rw [e, cell_of_row w r _ _ _ _ h, List.getElem?_toArray]
  have hjl : j < l.length := (List.getElem?_eq_some_iff.1 hj).1
  have hlen : j * d.sz + i < (l.flatMap enc).length := by
    rw [flat_length d enc hsz]
    have : (j + 1) * d.sz ≤ l.length * d.sz := Nat.mul_le_mul_right _ hjl
    rw [Nat.add_mul, Nat.one_mul] at this
    omega
  rw [List.getElem?_append_left hlen, flat_get d enc hsz l j p hj i hil]
  exact hu
end

/-- One more of the three is written. -/
theorem step_row3 (cs tail : List Value) (n k : Nat) (f0 f1 f2 : Value) (hcs : cs.length = n * 3) (ht : tail.length = (3 - k) * 3) (hk : k < 3) :
    ∃ tail', tail'.length = (3 - (k + 1)) * 3 ∧ (((((cs ++ (List.replicate k [f0, f1, f2]).flatten ++ tail).toArray.setIfInBounds ((n + k) * 3) f0).setIfInBounds ((n + k) * 3 + 1) f1).setIfInBounds ((n + k) * 3 + 2) f2) = (cs ++ (List.replicate (k + 1) [f0, f1, f2]).flatten ++ tail').toArray) := by
  obtain ⟨a, b, c, t, rfl⟩ : ∃ a b c t, tail = a :: b :: c :: t := by
    match tail, ht with
    | a :: b :: c :: t, _ => exact ⟨a, b, c, t, rfl⟩
    | [], h => simp at h; omega
    | [a], h => simp at h; omega
    | [a, b], h => simp at h; omega
  have hl : (cs ++ (List.replicate k [f0, f1, f2]).flatten).length = (n + k) * 3 := by
    rw [List.length_append, hcs]; simp; omega
  refine ⟨t, by simp at ht; omega, ?_⟩
  generalize hX : cs ++ (List.replicate k [f0, f1, f2]).flatten = X at hl
  have e : cs ++ (List.replicate (k + 1) [f0, f1, f2]).flatten ++ t = X ++ (f0 :: f1 :: f2 :: t) := by
    rw [← hX]
    simp [List.replicate_succ']
  rw [e]
  rw [← hl]
  simp [List.set_append]

def OwnRowT (w : World) (r : Nat) (l : List TenH) (f : TenH) : Prop := w.heap[r]? = some (.cells (l.flatMap encT ++ (List.replicate 3 (encT f)).flatten).toArray 39 (0, 0))

set_option maxRecDepth 100000 in
set_option maxHeartbeats 4000000 in
theorem own_ten {a : Option Addr} {c : Nat} {l : List TenH} {w : World} (f0 f1 f2 : Int) (hl : Kd.C Rw.k39 w a l.length l) (h1 : l.length ≤ 1000000000) :
    Calls Try.prog 27 #[.slice a l.length c, .agg #[.int .i64 f0, .int .i64 f1, .int .i64 f2]] w fun e w' => ∃ r, e = .returned (.slice (some ⟨r, 0, none⟩) l.length (l.length + 3)) ∧ w.heap.size ≤ r ∧ OwnRowT w' r l ⟨f0, f1, f2⟩ ∧ Below w.heap.size w w' := by
  have hinfo : (Try.prog.info? 39).map (fun i => (i.zero, i.size, i.bytes)) = some (some (.agg #[.int .i64 0, .int .i64 0, .int .i64 0]), 3, 24) := by kernel_rfl
  obtain ⟨i0, hi, hz0, hz1, hz2⟩ := info_parts hinfo
  obtain ⟨n, hn⟩ : ∃ n, n = l.length := ⟨_, rfl⟩
  have hnb : n ≤ 1000000000 := by omega
  have HN : Hid (n = l.length) := hn
  rw [← hn] at hl
  rw [← hn]
  obtain ⟨w0, hw0⟩ : ∃ w0, w0 = w.alloc (.cells #[.int .i64 f0, .int .i64 f1, .int .i64 f2] 39) := ⟨_, rfl⟩
  have hs0 : w0.heap.size = w.heap.size + 1 := by rw [hw0]; simp
  have hmk := run_make (P := Try.prog) w0 22 39 i0 (.agg #[.int .i64 0, .int .i64 0, .int .i64 0]) Try.underlying22 hi hz0 .i64 .i64 0 ((n : Int) + 3) (by omega) (by omega) (by rw [hz2]; omega) (by omega)
  obtain ⟨W, hW⟩ : ∃ W, W = w0.alloc (.cells (madeCells (Value.agg #[.int .i64 0, .int .i64 0, .int .i64 0]).cells (((n : Int) + 3).toNat * i0.size)) 39) := ⟨_, rfl⟩
  rw [← hW] at hmk
  have hnt : ((n : Int) + 3).toNat = n + 3 := by omega
  rw [hnt, Int.toNat_zero] at hmk
  have hWr : ∃ cur, W.heap[w0.heap.size]? = some (.cells cur 39 (0, 0)) ∧ cur.size = (n + 3) * 3 := ⟨_, by rw [hW]; exact alloc_new w0 _, by rw [hnt, hz1]; simp [madeCells]⟩
  obtain ⟨cur, hcur, hcs⟩ := hWr
  have b0 : Below w.heap.size w W := by rw [hW, hw0]; exact ((Below.refl _ w).alloc (Nat.le_refl _) _).alloc (by simp) _
  have hbox : W.heap[w.heap.size]? = some (.cells #[.int .i64 f0, .int .i64 f1, .int .i64 f2] 39 (0, 0)) := by
    rw [hW, alloc_old _ _ _ (by omega), hw0]; exact alloc_new w _
  have hlW : Kd.C Rw.k39 W a n l := Kd.C_below hl b0
  obtain ⟨news, W1, hnl, hrp, hrun, hW1, hk1⟩ := run_append_into (P := Try.prog) (w := W) Rw.k39 22 22 39 i0 Try.underlying22 hi hz1 (by decide) w0.heap.size (n + 3) _ hcur (by rw [hcs]; rfl) a n c l hlW (by omega)
  have hnews : news = l.flatMap encT := reps_flat Rw.k39 encT (fun w x c h => Rw.k39_open h) hrp
  have hlen : (l.flatMap encT).length = n * 3 := by rw [flat_length Rw.k39 encT (fun _ => rfl), hn]; rfl
  have hfirst : ∃ tail, tail.length = (3 - 0) * 3 ∧ W1.heap[w0.heap.size]? = some (.cells (l.flatMap encT ++ (List.replicate 0 (encT ⟨f0, f1, f2⟩)).flatten ++ tail).toArray 39 (0, 0)) := by
    refine ⟨cur.toList.drop (n * 3), by simp [hcs]; omega, ?_⟩
    rw [hW1, hnews]
    simp
    rfl
  have hbox1 : W1.heap[w.heap.size]? = some (.cells #[.int .i64 f0, .int .i64 f1, .int .i64 f2] 39 (0, 0)) := by
    rw [hk1.block w.heap.size (by rw [hW]; simp; omega) (by omega)]; exact hbox
  obtain ⟨B, hB⟩ : ∃ B, B = w.heap.size := ⟨_, rfl⟩
  obtain ⟨g, hg⟩ : ∃ g, g = w0.heap.size := ⟨_, rfl⟩
  have HF : Hid (∃ tail, tail.length = (3 - 0) * 3 ∧ W1.heap[g]? = some (.cells (l.flatMap encT ++ (List.replicate 0 (encT ⟨f0, f1, f2⟩)).flatten ++ tail).toArray 39 (0, 0))) := by rw [hg]; exact hfirst
  have HX : Hid (W1.heap[B]? = some (.cells #[.int .i64 f0, .int .i64 f1, .int .i64 f2] 39 (0, 0))) := by rw [hB]; exact hbox1
  have HK1 : Hid (Below B w W1) := by rw [hB]; exact Kp.below_trans b0 hk1 (Nat.le_refl _) (by rintro k rfl; omega)
  have HGB : Hid (g = B + 1) := by show _ = _; omega
  rw [← hg] at hrun hmk
  rw [hw0] at hmk
  have HBB : Hid (B = w.heap.size) := hB
  have HL : Hid ((l.flatMap encT).length = n * 3) := hlen
  clear hinfo hi hz0 hz1 hz2 hn hl h1 hW hnt hcur hcs hlW hnl hrp hW1 hk1 hnews hfirst hB hbox hbox1 hlen hs0 hg hw0 b0
  go_enter Try.func27, Try.ntmps27
  have HRUN := Aside0.mk hrun
  clear hrun
  go_wp2_with (at_builtin; refine wpList_append_run rfl _ _ _ rfl _ _ _ W1 rfl rfl HRUN.out ?_)
  go_loopw [7] (fun x wr => ∃ k : Nat, k ≤ 3 ∧ x = .int .i64 ((n + k : Nat) : Int) ∧ Hid (∃ tail, tail.length = (3 - k) * 3 ∧ wr.heap[g]? = some (.cells (l.flatMap encT ++ (List.replicate k (encT ⟨f0, f1, f2⟩)).flatten ++ tail).toArray 39 (0, 0))) ∧ Hid (wr.heap[B]? = some (.cells #[.int .i64 f0, .int .i64 f1, .int .i64 f2] 39 (0, 0))) ∧ Hid (Below B w wr)) (fun x _ => (n + 3) - (intOf x).toNat)
  case atStart => exact ⟨0, by omega, rfl, HF, HX, HK1⟩
  case round =>
    obtain ⟨k, hk, rfl, HC, HX, HW⟩ := hrel
    by_cases hlt : k < 3
    · obtain ⟨tail, htl, hcs⟩ := HC.out
      have hbx := HX.out
      have e0 : wr.cell? ⟨w.heap.size, 0, none⟩ = some (.int .i64 f0) := by rw [← HBB.out, cell_of_row wr B _ _ _ _ hbx]; rfl
      have e1 : wr.cell? ⟨w.heap.size, 1, none⟩ = some (.int .i64 f1) := by rw [← HBB.out, cell_of_row wr B _ _ _ _ hbx]; rfl
      have e2 : wr.cell? ⟨w.heap.size, 2, none⟩ = some (.int .i64 f2) := by rw [← HBB.out, cell_of_row wr B _ _ _ _ hbx]; rfl
      obtain ⟨tail', htl', hstep⟩ := step_row3 (l.flatMap encT) tail n k (.int .i64 f0) (.int .i64 f1) (.int .i64 f2) HL.out htl hlt
      have hsz : ((l.flatMap encT ++ (List.replicate k (encT ⟨f0, f1, f2⟩)).flatten ++ tail).toArray).size = (n + 3) * 3 := by
        simp [HL.out, htl, encT]; omega
      have hcell : ∀ j, j < 3 → ∃ u, wr.cell? ⟨g, (n + k) * 3 + j, none⟩ = some u := by
        intro j hj
        rw [cell_of_row wr g _ _ _ _ hcs]
        exact ⟨_, Array.getElem?_eq_getElem (by rw [hsz]; omega)⟩
      obtain ⟨u0, hu0⟩ := hcell 0 (by omega)
      obtain ⟨u1, hu1⟩ := hcell 1 (by omega)
      obtain ⟨u2, hu2⟩ := hcell 2 (by omega)
      rw [Nat.add_zero] at hu0
      have hfz : ∀ j, wr.frozen? ⟨g, j, none⟩ = false := by intro j; simp [World.frozen?, hcs]
      have hd : decide (((n + k : Nat) : Int) < (n : Int) + 3) = true := by simp; omega
      have HC2 : Hid (∃ tail, tail.length = (3 - (k + 1)) * 3 ∧ (((wr.setCell ⟨g, (n + k) * 3, none⟩ (.int .i64 f0)).setCell ⟨g, (n + k) * 3 + 1, none⟩ (.int .i64 f1)).setCell ⟨g, (n + k) * 3 + 2, none⟩ (.int .i64 f2)).heap[g]? = some (.cells (l.flatMap encT ++ (List.replicate (k + 1) (encT ⟨f0, f1, f2⟩)).flatten ++ tail).toArray 39 (0, 0))) := by
        refine ⟨tail', htl', ?_⟩
        rw [setCell_at (setCell_at (setCell_at hcs _ _) _ _) _ _]
        exact congrArg some (congrArg (fun c => Obj.cells c _ _) hstep)
      have hBg : B ≤ g := by have := HGB.out; omega
      have HX2 : Hid ((((wr.setCell ⟨g, (n + k) * 3, none⟩ (.int .i64 f0)).setCell ⟨g, (n + k) * 3 + 1, none⟩ (.int .i64 f1)).setCell ⟨g, (n + k) * 3 + 2, none⟩ (.int .i64 f2)).heap[B]? = some (.cells #[.int .i64 f0, .int .i64 f1, .int .i64 f2] 39 (0, 0))) := by
        have hne : B ≠ g := by have := HGB.out; omega
        show _ = _
        rw [Below.heap_setCell _ _ _ _ hne, Below.heap_setCell _ _ _ _ hne, Below.heap_setCell _ _ _ _ hne]
        exact hbx
      have HW2 : Hid (Below B w (((wr.setCell ⟨g, (n + k) * 3, none⟩ (.int .i64 f0)).setCell ⟨g, (n + k) * 3 + 1, none⟩ (.int .i64 f1)).setCell ⟨g, (n + k) * 3 + 2, none⟩ (.int .i64 f2))) := ((HW.out.setCell hBg _).setCell hBg _).setCell hBg _
      clear hcs hsz hbx hcell hstep htl htl' HC HX HW hBg
      obtain ⟨q, hq⟩ : ∃ q, n + k = q := ⟨_, rfl⟩
      have HQ : Hid (n + k = q) := hq
      have hi1 : (0 : Int) ≤ ((n + k : Nat) : Int) := by omega
      have hi2 : ((n + k : Nat) : Int) < (n : Int) + 3 := by omega
      rw [hq] at hu0 hu1 hu2 hd HC2 HX2 HW2 hi1 hi2 ⊢
      have hq1 : q ≤ n + 3 := by omega
      have hq2 : q < n + 3 := by omega
      clear hq
      go_wp2
      go_roundw
      case rel => exact ⟨k + 1, by omega, by have := HQ.out; first | rfl | (congr 1; omega), HC2, HX2, HW2⟩
      case measure => simp [intOf]; omega
    · have hk3 : k = 3 := by omega
      subst hk3
      have hd : decide (((n + 3 : Nat) : Int) < (n : Int) + 3) = false := by simp
      clear hlt hk
      go_wp2
      go_ret
      refine ⟨g, rfl, by rw [← HBB.out]; have := HGB.out; omega, ?_, by rw [← HBB.out]; exact HW.out⟩
      obtain ⟨tail, ht, hcs⟩ := HC.out
      obtain rfl : tail = [] := List.eq_nil_of_length_eq_zero (by simpa using ht)
      rw [List.append_nil] at hcs
      exact hcs
end Go.Proofs.Ytegjbbblpnenfaa.HP
