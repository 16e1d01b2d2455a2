/- A copy with spare room behind it (haberdashhelp.Own), and whether it is as it was (Kept). -/
import Derived.Test.YtegjbbblpnenfaaProg
import Derived.Below
import Derived.Deep.Draws
import Derived.Deep.AppendLies
import Derived.Maps.AppendAt
import Derived.OwnWalk
import Derived.Laws.BytesArg
import Derived.Laws.MakeOwn
import Derived.Laws.OwnMore
import Derived.Deep.OwnRows
import Derived.Tactics
import Derived.Lib.ConvBytes
import Derived.Laws.Slices
import Derived.WalkKit
import Derived.KernelRfl
import Derived.RowKit3
import Derived.Deep.LoopGhost
import Derived.Deep.QuietTactic
import Derived.BigQuiet
import Derived.WideLaws
import Derived.Deep.DeepCutAuto
import Derived.Deep.CutBlock
import Derived.Deep.RegionHeld3
import Derived.Laws.Rows
import Derived.Lib.AppendStr
import Derived.ArgAppend
import Derived.Laws.IdiomCopy
import Derived.OrdersHeld
import Derived.Laws.BitsLemmas
import Derived.RowKit
import Derived.BigRegion
import Derived.Outline
import Derived.RegionTactic
import Derived.StillTailTactics
import Derived.Deep.RegionLaw
import Derived.Test.YtegjbbblpnenfaaVSameInt
set_option linter.unusedVariables false
set_option linter.unusedSimpArgs false
namespace Go.Proofs.Ytegjbbblpnenfaa.HP
open Go Go.RowKit Go.Proofs.YtegjbbblpnenfaaW.PrintWords Go.Proofs.Ytegjbbblpnenfaa.QR

theorem made_one (x : Value) (n : Nat) : madeCells #[x] n = (List.replicate n x).toArray := by
  apply Array.ext
  · simp [madeCells]
  · intro i h1 h2
    simp [madeCells, Nat.mod_one]

/-- What is appended to an empty row with room enough stands in that row. -/
theorem run_append_into {α : Type} {P : Program} {w : World} (d : Kd α) (t ty e : TypeId) (i : TypeInfo) (ht : P.underlying t = some (.slice e)) (hi : P.info? e = some i) (hsz : i.size = d.sz) (hs0 : 0 < d.sz)
    (g cap : Nat) (cur : Array Value) (hg : w.heap[g]? = some (.cells cur e (0, 0))) (hcur : cur.size = cap * d.sz) (A : Option Addr) (m c : Nat) (xs : List α) (HR : d.C w A m xs) (hm : m ≤ cap) :
    ∃ news w', news.length = m * d.sz ∧ Reps (d.K w) d.sz xs news ∧ (Builtin.append_ #[t, t] ty #[.slice (some ⟨g, 0, none⟩) 0 cap, .slice A m c]).run P w = .ok (.slice (some ⟨g, 0, none⟩) m cap) w' ∧
      w'.heap[g]? = some (.cells (news ++ cur.toList.drop (m * d.sz)).toArray e (0, 0)) ∧ Kp (fun k => k = g) w w' := by
  have hml : xs.length = m := HR.1
  rcases A with _ | ad
  · have h0 : m = 0 := by
      rcases Nat.eq_zero_or_pos m with h0 | h0
      · exact h0
      · obtain ⟨ad, h, _⟩ := HR.2.2 h0
        cases h
    subst h0
    obtain rfl : xs = [] := List.eq_nil_of_length_eq_zero hml
    refine ⟨[], w, by simp, Reps.none _ _, ?_, by simpa using hg, Kp.refl _ w⟩
    simp [Builtin.append_, run_underlying ht, sizeOf, typeInfo, hi, Builtin.lenOf, Builtin.firstCells, storeCells]
  · obtain ⟨news, hnr, hnc⟩ := ReadsRow.inner_ HR
    have hlen : news.length = m * d.sz := by rw [hnr.1, hml]
    have hone : ∀ u ∈ news, u.oneCell' = true := by
      intro u hu
      obtain ⟨q, hq, rfl⟩ := List.mem_iff_getElem.1 hu
      have hql : q / d.sz < xs.length := by
        rw [Nat.div_lt_iff_lt_mul hs0]
        rw [← hnr.1]
        exact hq
      have hc := hnr.2 (q / d.sz) _ (List.getElem?_eq_getElem hql)
      refine d.K_one hc _ ?_
      rw [List.mem_iff_getElem?]
      refine ⟨q % d.sz, ?_⟩
      rw [List.getElem?_take, if_pos (Nat.mod_lt _ hs0), List.getElem?_drop, Nat.mul_comm, Nat.div_add_mod, List.getElem?_eq_getElem hq]
    have hfit : 0 * i.size + news.length ≤ cur.size := by rw [hlen, hcur, Nat.zero_mul, Nat.zero_add]; exact Nat.mul_le_mul_right _ hm
    have hr := run_append_room (P := P) w t ty e i ht hi g 0 cap cur hg ad m c news (by rw [hlen, hsz]) hnc hone (by omega) hfit
    refine ⟨news, _, hlen, hnr, by rw [Nat.zero_add] at hr; exact hr, ?_, ?_⟩
    · rw [setRow_heap w g cur _ e (0, 0) hg]
      simp [hlen]
    · exact ⟨rfl, rfl, rfl, by simp, fun k hk hn => setRow_other w g k _ hn⟩

/-- An append whose run is known. -/
theorem wpList_append_run {P : Program} {ops : Array Oper} {rest : List Oper} {o : Oper} {a : Act} {Q : Exit → Act → World → Prop} {w : World} (hgd : o.guard = none) (s x : Operand) (t : TypeId)
    (ho : o.op = .call { callee := .builtin .append, args := #[s, x], argTypes := #[t, t] }) (v u y : Value) (w' : World) (hs : a.eval s = u) (hx : a.eval x = y)
    (hrun : (Builtin.append_ #[t, t] o.type #[u, y]).run P w = .ok v w') (h : wpList P ops Q rest (a.put o.dst v) w') : wpList P ops Q (o :: rest) a w := by
  refine wpList_plain hgd fun K hK => ?_
  unfold Oper.wp execOp
  simp only [ho, resolve, invoke, builtin, Sem.run_bind, Sem.run_pure, Result.andThen_ok, List.map_toArray, List.map_cons, List.map_nil, hs, hx, hrun]
  exact hK _ _ h

/-- The copy's row: the elements, and three more. -/
def OwnRowI (T : Nat) (w : World) (r : Nat) (l : List Int) (f : Int) : Prop := w.heap[r]? = some (.cells ((l ++ [f, f, f]).map (Value.int .i64)).toArray T (0, 0))

theorem reps_ints {w : World} {l : List Int} {cs : List Value} (h : Reps ((Kd.int .i64).K w) 1 l cs) : cs = l.map (Value.int .i64) := by
  apply List.ext_getElem?
  intro j
  have h1 := h.1
  rcases Nat.lt_or_ge j l.length with hj | hj
  · have h2 := h.2 j _ (List.getElem?_eq_getElem hj)
    have h3 : (cs.drop (j * 1)).take 1 = [Value.int .i64 l[j]] := h2
    rw [Nat.mul_one, List.drop_eq_getElem_cons (by omega)] at h3
    have h5 := congrArg List.head? h3
    rw [List.take_succ_cons] at h5
    rw [List.getElem?_eq_getElem (by omega), Option.some.inj h5]
    simp [hj]
  · rw [List.getElem?_eq_none (by omega), List.getElem?_eq_none (by simpa using hj)]

theorem step_row (l : List Int) (f : Int) (k : Nat) (h : k < 3) :
    ((l ++ List.replicate k f ++ List.replicate (3 - k) 0).map (Value.int .i64)).toArray.setIfInBounds (l.length + k) (.int .i64 f) = ((l ++ List.replicate (k + 1) f ++ List.replicate (3 - (k + 1)) 0).map (Value.int .i64)).toArray := by
  obtain ⟨q, hq⟩ : ∃ q, 3 - k = q + 1 := ⟨3 - k - 1, by omega⟩
  have hq2 : 3 - (k + 1) = q := by omega
  rw [hq, hq2, List.replicate_succ]
  simp [List.set_append, List.replicate_succ']

set_option maxRecDepth 100000 in
set_option maxHeartbeats 2000000 in
theorem own_int {a : Option Addr} {c : Nat} {l : List Int} {w : World} (f : Int) (hl : Kd.C (Kd.int .i64) w a l.length l) (h1 : l.length ≤ 1000000000) :
    Calls Try.prog 28 #[.slice a l.length c, .int .i64 f] w fun e w' => ∃ r, e = .returned (.slice (some ⟨r, 0, none⟩) l.length (l.length + 3)) ∧ w.heap.size ≤ r ∧ OwnRowI 3 w' r l f ∧ Below w.heap.size w w' := by
  have hinfo : (Try.prog.info? 3).map (fun i => (i.zero, i.size, i.bytes)) = some (some (.int .i64 0), 1, 8) := by kernel_rfl
  obtain ⟨i0, hi, hz0, hz1, hz2⟩ := info_parts hinfo
  obtain ⟨n, hn⟩ : ∃ n, n = l.length := ⟨_, rfl⟩
  have hnb : n ≤ 1000000000 := by omega
  have HN : Hid (n = l.length) := hn
  rw [← hn] at hl
  rw [← hn]
  have hmk := run_make (P := Try.prog) w 23 3 i0 (.int .i64 0) Try.underlying23 hi hz0 .i64 .i64 0 ((n : Int) + 3) (by omega) (by omega) (by rw [hz2]; omega) (by omega)
  obtain ⟨W, hW⟩ : ∃ W, W = w.alloc (.cells (madeCells (Value.int .i64 0).cells (((n : Int) + 3).toNat * i0.size)) 3) := ⟨_, rfl⟩
  rw [← hW] at hmk
  have hnt : ((n : Int) + 3).toNat = n + 3 := by omega
  rw [hnt, Int.toNat_zero] at hmk
  have hWr : W.heap[w.heap.size]? = some (.cells (List.replicate (n + 3) (Value.int .i64 0)).toArray 3 (0, 0)) := by
    rw [hW, alloc_new, hz1, hnt, Nat.mul_one]
    show some (Obj.cells (madeCells #[Value.int .i64 0] (n + 3)) _ _) = _
    rw [made_one]
  have hlW : Kd.C (Kd.int .i64) W a n l := Kd.C_below hl (by rw [hW]; exact (Below.refl _ w).alloc (Nat.le_refl _) _)
  obtain ⟨news, W1, hnl, hrp, hrun, hW1, hk1⟩ := run_append_into (P := Try.prog) (w := W) (Kd.int .i64) 23 23 3 i0 Try.underlying23 hi hz1 (by decide) w.heap.size (n + 3) _ hWr (by simp [Kd.int, Kd.scalar]) a n c l hlW (by omega)
  have hnews : news = l.map (Value.int .i64) := reps_ints hrp
  have hfirst : W1.heap[w.heap.size]? = some (.cells ((l ++ List.replicate 0 f ++ List.replicate (3 - 0) 0).map (Value.int .i64)).toArray 3 (0, 0)) := by
    rw [hW1, hnews]
    congr 2
    simp [Kd.int, Kd.scalar]
  have HF : Hid (W1.heap[w.heap.size]? = some (.cells ((l ++ List.replicate 0 f ++ List.replicate (3 - 0) 0).map (Value.int .i64)).toArray 3 (0, 0))) := hfirst
  have HK1 : Hid (Below w.heap.size w W1) := by
    have h0 : Below w.heap.size w W := by rw [hW]; exact (Below.refl _ w).alloc (Nat.le_refl _) _
    exact Kp.below_trans h0 hk1 (Nat.le_refl _) (by rintro k rfl; exact Nat.le_refl _)
  obtain ⟨B, hB⟩ : ∃ B, B = w.heap.size := ⟨_, rfl⟩
  rw [← hB] at hrun HF HK1 hmk
  have HBB : Hid (B = w.heap.size) := hB
  clear hinfo hi hz0 hz1 hz2 hn hl h1 hW hnt hWr hlW hnl hrp hW1 hk1 hnews hfirst hB
  go_enter Try.func28, Try.ntmps28
  have HRUN := Aside0.mk hrun
  clear hrun
  go_wp2_with (at_builtin; refine wpList_append_run rfl _ _ _ rfl _ _ _ W1 rfl rfl HRUN.out ?_)
  go_loopw [7] (fun x wr => ∃ k : Nat, k ≤ 3 ∧ x = .int .i64 ((n + k : Nat) : Int) ∧ Hid (wr.heap[B]? = some (.cells ((l ++ List.replicate k f ++ List.replicate (3 - k) 0).map (Value.int .i64)).toArray 3 (0, 0))) ∧ Hid (Below B w wr)) (fun x _ => (n + 3) - (intOf x).toNat)
  case atStart => exact ⟨0, by omega, rfl, HF, HK1⟩
  case round =>
    obtain ⟨k, hk, rfl, HC, HW⟩ := hrel
    by_cases hlt : k < 3
    · have hcs := HC.out
      have hsz : (((l ++ List.replicate k f ++ List.replicate (3 - k) 0).map (Value.int .i64)).toArray).size = n + 3 := by simp; have := HN.out; omega
      have hcell : ∃ u, wr.cell? ⟨B, n + k, none⟩ = some u := by
        rw [cell_of_row wr B _ _ _ _ hcs]
        exact ⟨_, Array.getElem?_eq_getElem (by rw [hsz]; omega)⟩
      obtain ⟨u, hu⟩ := hcell
      have hfz : wr.frozen? ⟨B, n + k, none⟩ = false := by simp [World.frozen?, hcs]
      have hd : decide (((n + k : Nat) : Int) < (n : Int) + 3) = true := by simp; omega
      have HC2 : Hid ((wr.setCell ⟨B, n + k, none⟩ (.int .i64 f)).heap[B]? = some (.cells ((l ++ List.replicate (k + 1) f ++ List.replicate (3 - (k + 1)) 0).map (Value.int .i64)).toArray 3 (0, 0))) := by
        show _ = _
        rw [setCell_at hcs, HN.out, step_row l f k hlt]
      have HW2 : Hid (Below B w (wr.setCell ⟨B, n + k, none⟩ (.int .i64 f))) := HW.out.setCell (Nat.le_refl _) _
      have hi1 : (0 : Int) ≤ ((n + k : Nat) : Int) := by omega
      have hi2 : ((n + k : Nat) : Int) < (n : Int) + 3 := by omega
      clear hcs hsz
      obtain ⟨q, hq⟩ : ∃ q, n + k = q := ⟨_, rfl⟩
      have HQ : Hid (n + k = q) := hq
      rw [hq] at hu hfz hd hi1 hi2 HC2 HW2 ⊢
      have hq1 : q ≤ n + 3 := by omega
      have hq2 : q < n + 3 := by omega
      clear hq
      go_wp2
      go_roundw
      case rel => exact ⟨k + 1, by omega, by have := HQ.out; first | rfl | (congr 1; omega), HC2, HW2⟩
      case measure => simp [intOf]; omega
    · have hk3 : k = 3 := by omega
      subst hk3
      have hd : decide (((n + 3 : Nat) : Int) < (n : Int) + 3) = false := by simp
      clear hlt hk
      go_wp2
      go_ret
      exact ⟨B, rfl, by rw [← HBB.out]; exact Nat.le_refl _, (by have h := HC.out; simp only [Nat.sub_self, List.replicate_zero, List.append_nil] at h; exact h), by rw [← HBB.out]; exact HW.out⟩

/-- What a copy's row reads as. -/
theorem reads_int {w : World} {r : Nat} {l : List Int} {f : Int} (h : OwnRowI 3 w r l f) (hb : l.length ≤ 1000000000) : Kd.C (Kd.int .i64) w (some ⟨r, 0, none⟩) l.length l := by
  refine ⟨rfl, by omega, fun _ => ⟨_, rfl, fun j p hj => ⟨[.int .i64 p], rfl, rfl, fun i u hu => ?_⟩⟩⟩
  have hjl : j < l.length := (List.getElem?_eq_some_iff.1 hj).1
  cases i with
  | zero =>
    obtain rfl : Value.int .i64 p = u := by simpa using hu
    have e : (⟨r, 0, none⟩ : Addr).add (j * (Kd.int .i64).sz + 0) = ⟨r, j, none⟩ := by
      show (⟨r, 0, none⟩ : Addr).add (j * 1 + 0) = _
      rw [Nat.mul_one, Nat.add_zero]
      unfold Addr.add; split <;> simp_all
    rw [e, cell_of_row w r _ _ _ _ h]
    rw [List.getElem?_toArray, List.map_append, List.getElem?_append_left (by simpa using hjl), List.getElem?_map, hj]
    rfl
  | succ i => simp at hu

set_option maxRecDepth 100000 in
set_option maxHeartbeats 2000000 in
theorem kept_int {a : Option Addr} {c r : Nat} {l : List Int} {f : Int} {w : World} (hl : Kd.C (Kd.int .i64) w a l.length l) (h1 : l.length ≤ 1000000000) (ho : OwnRowI 3 w r l f) :
    Calls Try.prog 34 #[.slice (some ⟨r, 0, none⟩) l.length (l.length + 3), .slice a l.length c, .int .i64 f] w fun e w' => e = .returned (.bool true) ∧ ∃ k, w' = w.drewN k := by
  have hd1 : decide ((l.length : Int) + 3 < (l.length : Int) + 3) = false := by simp
  go_enter Try.func34, Try.ntmps34
  go_wp2_with fail
  refine (plain_int (reads_int ho h1) hl h1 h1).mono ?_
  rintro e w' ⟨rfl, m, rfl⟩
  rw [decide_eq_true (rfl : l = l)]
  obtain ⟨n, hn⟩ : ∃ n, n = l.length := ⟨_, rfl⟩
  have HN : Hid (n = l.length) := hn
  rw [← hn] at h1 hd1 ⊢
  have HO : Hid (OwnRowI 3 w r l f) := ho
  clear hn hl ho
  go_wp2
  go_loopw [8] (fun x wr => ∃ k : Nat, k ≤ 3 ∧ x = .int .i64 ((n + k : Nat) : Int) ∧ Hid (∃ m, wr = w.drewN m)) (fun x _ => (n + 3) - (intOf x).toNat)
  case atStart => exact ⟨0, by omega, rfl, ⟨m, rfl⟩⟩
  case round =>
    obtain ⟨k, hk, rfl, HW⟩ := hrel
    by_cases hlt : k < 3
    · have hcell : wr.cell? ⟨r, n + k, none⟩ = some (.int .i64 f) := by
        obtain ⟨m, rfl⟩ := HW.out
        show w.cell? _ = _
        rw [cell_of_row w r _ _ _ _ HO.out, HN.out]
        have : k = 0 ∨ k = 1 ∨ k = 2 := by omega
        rcases this with rfl | rfl | rfl <;> simp
      have hd : decide (((n + k : Nat) : Int) < (n : Int) + 3) = true := by simp; omega
      obtain ⟨q, hq⟩ : ∃ q, n + k = q := ⟨_, rfl⟩
      have HQ : Hid (n + k = q) := hq
      rw [hq] at hcell hd ⊢
      have hi1 : (0 : Int) ≤ (q : Int) := by omega
      have hi2 : (q : Int) < (n : Int) + 3 := by omega
      have hq1 : q < n + 3 := by omega
      have hne : (f != f) = false := by simp
      clear hq
      go_wp2
      go_roundw
      case rel => exact ⟨k + 1, by omega, by have := HQ.out; first | rfl | (congr 1; omega), HW⟩
      case measure => simp [intOf]; omega
    · have hk3 : k = 3 := by omega
      subst hk3
      have hd : decide (((n + 3 : Nat) : Int) < (n : Int) + 3) = false := by simp
      clear hlt hk
      go_wp2
      go_ret
      exact ⟨rfl, HW.out⟩
end Go.Proofs.Ytegjbbblpnenfaa.HP
