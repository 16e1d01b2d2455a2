/- SameInt. -/
import Derived.Test.YtmiamdnhofjifaaProg
import Derived.Below
import Derived.Deep.Draws
import Derived.Deep.AppendLies
import Derived.Maps.AppendAt
import Derived.OwnWalk
import Derived.Laws.BytesArg
import Derived.Laws.MakeOwn
import Derived.Laws.OwnMore
import Derived.Deep.OwnRows
import Derived.Tactics
import Derived.Lib.ConvBytes
import Derived.Laws.Slices
import Derived.WalkKit
import Derived.KernelRfl
import Derived.RowKit3
import Derived.Deep.LoopGhost
import Derived.Deep.QuietTactic
import Derived.BigQuiet
import Derived.WideLaws
import Derived.Deep.DeepCutAuto
import Derived.Deep.CutBlock
import Derived.Deep.RegionHeld3
import Derived.Laws.Rows
import Derived.Lib.AppendStr
import Derived.ArgAppend
import Derived.Laws.IdiomCopy
import Derived.OrdersHeld
import Derived.Laws.BitsLemmas
import Derived.RowKit
import Derived.BigRegion
import Derived.Outline
import Derived.RegionTactic
import Derived.StillTailTactics
import Derived.Deep.RegionLaw
import Derived.Test.YtmiamdnhofjifaaVWWords
import Derived.Test.YtmiamdnhofjifaaVQRow
section
/- Two lists of whole numbers held against each other, as haberdashhelp does it. -/
set_option linter.unusedVariables false
set_option linter.unusedSimpArgs false
namespace Go.Proofs.Ytmiamdnhofjifaa.HP
open Go Go.RowKit Go.Proofs.YtmiamdnhofjifaaW.PrintWords

theorem rd_nat (l : List Int) (k : Nat) (h : k < l.length) : rd l (k : Int) = l[k] := by simp [rd, h]

set_option maxHeartbeats 1000000 in
theorem one_int64 (x y : Int) (w : World) : Calls Try.prog 34 #[.int .i64 x, .int .i64 y] w fun e w' => e = .returned (.bool (x == y)) ∧ w' = w := by
  go_enter Try.func34, Try.ntmps34
  go_wp2
  go_ret
  exact ⟨rfl, rfl⟩

set_option maxRecDepth 100000 in
set_option maxHeartbeats 2000000 in
theorem same_int64 {a b : Option Addr} {c d : Nat} {xs ys : List Int} {w : World} (hx : Kd.C (Kd.int .i64) w a xs.length xs) (hy : Kd.C (Kd.int .i64) w b ys.length ys) (h1 : xs.length ≤ 1000000000) (h2 : ys.length ≤ 1000000000) :
    Calls Try.prog 33 #[.slice a xs.length c, .slice b ys.length d, .func (.func 34) #[] #[]] w fun e w' => e = .returned (.bool (decide (xs = ys))) ∧ ∃ k, w' = w.drewN k := by
  by_cases hl : xs.length = ys.length
  · have hlb : ((xs.length : Int) == (ys.length : Int)) = true := beq_iff_eq.2 (by omega)
    have hlb2 : ((xs.length : Int) != (ys.length : Int)) = false := bne_eq_false_iff_eq.2 (by omega)
    have HL : Hid (xs.length = ys.length) := hl
    have HX : Hid (Kd.C (Kd.int .i64) w a xs.length xs) := hx
    have HY : Hid (Kd.C (Kd.int .i64) w b ys.length ys) := hy
    obtain ⟨n, hn⟩ : ∃ n, n = xs.length := ⟨_, rfl⟩
    clear hx hy hl
    go_enter Try.func33, Try.ntmps33
    go_wp2
    go_loopw [7] (fun x wr => ∃ k : Nat, x = .int .i64 k ∧ k ≤ xs.length ∧ Hid (∃ m, wr = w.drewN m) ∧ Hid (xs.take k = ys.take k)) (fun x _ => xs.length - (intOf x).toNat)
    case atStart => exact ⟨0, rfl, Nat.zero_le _, ⟨0, rfl⟩, rfl⟩
    case round =>
      obtain ⟨k, rfl, hk, HW, HT⟩ := hrel
      by_cases hlt : k < xs.length
      · have hlt2 : k < ys.length := by have := HL.out; omega
        have hcx0 : ∃ ax, a = some ax ∧ wr.cell? (ax.add (k : Int).toNat) = some (.int .i64 (rd xs k)) := by
          obtain ⟨m, rfl⟩ := HW.out
          exact Kd.at_int HX.out (k : Int) (by omega) (by omega)
        have hcy0 : ∃ ay, b = some ay ∧ wr.cell? (ay.add (k : Int).toNat) = some (.int .i64 (rd ys k)) := by
          obtain ⟨m, rfl⟩ := HW.out
          exact Kd.at_int HY.out (k : Int) (by omega) (by omega)
        obtain ⟨ax, ha, hcx⟩ := hcx0
        obtain ⟨ay, hb, hcy⟩ := hcy0
        subst ha
        subst hb
        rw [Int.toNat_natCast, rd_nat _ _ hlt] at hcx
        rw [Int.toNat_natCast, rd_nat _ _ hlt2] at hcy
        have hi2 : (k : Int) < (ys.length : Int) := by omega
        by_cases he : xs[k] = ys[k]
        · have heb : (xs[k] == ys[k]) = true := by simpa using he
          have HT2 : Hid (xs.take (k + 1) = ys.take (k + 1)) := by
            show _ = _
            rw [List.take_succ_eq_append_getElem hlt, List.take_succ_eq_append_getElem hlt2, HT.out, he]
          generalize xs[k] = p at *
          generalize ys[k] = q at *
          clear he
          go_wp2_with fail
          go_quiet ((go_at_call 34; exact Calls.quiet_of_same (one_int64 _ _ _)))
          go_wp2
          go_roundw
          case rel => exact ⟨k + 1, by go_num, by omega, by obtain ⟨m, hm⟩ := HW.out; exact ⟨m + _, by rw [hm]; exact World.drewN_drewN ..⟩, HT2⟩
          case measure => simp [intOf]; omega
        · have heb : (xs[k] == ys[k]) = false := by simpa using he
          have hne : xs ≠ ys := by rintro rfl; exact he rfl
          have HN : Hid (decide (xs = ys) = false) := decide_eq_false hne
          generalize xs[k] = p at *
          generalize ys[k] = q at *
          clear he hne
          go_wp2_with fail
          go_quiet ((go_at_call 34; exact Calls.quiet_of_same (one_int64 _ _ _)))
          go_wp2
          go_ret
          exact ⟨by rw [HN.out]; rfl, by obtain ⟨m, hm⟩ := HW.out; exact ⟨m + _, by rw [hm]; exact World.drewN_drewN ..⟩⟩
      · have hfin : decide (xs = ys) = true := by
          have h3 := HT.out
          have h4 := HL.out
          rw [List.take_of_length_le (by omega), List.take_of_length_le (by omega)] at h3
          exact decide_eq_true h3
        have HN : Hid (decide (xs = ys) = true) := hfin
        clear hfin
        go_wp2
        go_ret
        exact ⟨by rw [HN.out]; rfl, HW.out⟩
  · have hlb : ((xs.length : Int) == (ys.length : Int)) = false := by simp; omega
    have hlb2 : ((xs.length : Int) != (ys.length : Int)) = true := by simp; omega
    have hne : decide (xs = ys) = false := decide_eq_false (fun h => hl (by rw [h]))
    have HN : Hid (decide (xs = ys) = false) := hne
    clear hne hl
    go_enter Try.func33, Try.ntmps33
    go_wp2
    go_ret
    exact ⟨by rw [HN.out]; rfl, 0, rfl⟩

set_option maxHeartbeats 1000000 in
theorem plain_int64 {a b : Option Addr} {c d : Nat} {xs ys : List Int} {w : World} (hx : Kd.C (Kd.int .i64) w a xs.length xs) (hy : Kd.C (Kd.int .i64) w b ys.length ys) (h1 : xs.length ≤ 1000000000) (h2 : ys.length ≤ 1000000000) :
    Calls Try.prog 18 #[.slice a xs.length c, .slice b ys.length d] w fun e w' => e = .returned (.bool (decide (xs = ys))) ∧ ∃ k, w' = w.drewN k := by
  go_enter Try.func18, Try.ntmps18
  go_wp2_with fail
  refine (same_int64 hx hy h1 h2).mono ?_
  rintro e w' ⟨rfl, k, rfl⟩
  go_wp2
  go_ret
  exact ⟨rfl, k, rfl⟩
end Go.Proofs.Ytmiamdnhofjifaa.HP
end
section
/- A copy with spare room behind it (haberdashhelp.Own), and whether it is as it was (Kept). -/
set_option linter.unusedVariables false
set_option linter.unusedSimpArgs false
namespace Go.Proofs.Ytmiamdnhofjifaa.HP
open Go Go.RowKit Go.Proofs.YtmiamdnhofjifaaW.PrintWords Go.Proofs.Ytmiamdnhofjifaa.QR

theorem made_one (x : Value) (n : Nat) : madeCells #[x] n = (List.replicate n x).toArray := by
  apply Array.ext
  · simp [madeCells]
  · intro i h1 h2
    simp [madeCells, Nat.mod_one]

/-- What is appended to an empty row with room enough stands in that row. -/
theorem run_append_into {α : Type} {P : Program} {w : World} (d : Kd α) (t ty e : TypeId) (i : TypeInfo) (ht : P.underlying t = some (.slice e)) (hi : P.info? e = some i) (hsz : i.size = d.sz) (hs0 : 0 < d.sz)
    (g cap : Nat) (cur : Array Value) (hg : w.heap[g]? = some (.cells cur e (0, 0))) (hcur : cur.size = cap * d.sz) (A : Option Addr) (m c : Nat) (xs : List α) (HR : d.C w A m xs) (hm : m ≤ cap) :
    ∃ news w', news.length = m * d.sz ∧ Reps (d.K w) d.sz xs news ∧ (Builtin.append_ #[t, t] ty #[.slice (some ⟨g, 0, none⟩) 0 cap, .slice A m c]).run P w = .ok (.slice (some ⟨g, 0, none⟩) m cap) w' ∧
      w'.heap[g]? = some (.cells (news ++ cur.toList.drop (m * d.sz)).toArray e (0, 0)) ∧ Kp (fun k => k = g) w w' := by
  have hml : xs.length = m := HR.1
  rcases A with _ | ad
  · have h0 : m = 0 := by
      rcases Nat.eq_zero_or_pos m with h0 | h0
      · exact h0
      · obtain ⟨ad, h, _⟩ := HR.2.2 h0
        cases h
    subst h0
    obtain rfl : xs = [] := List.eq_nil_of_length_eq_zero hml
    refine ⟨[], w, by simp, Reps.none _ _, ?_, by simpa using hg, Kp.refl _ w⟩
    simp [Builtin.append_, run_underlying ht, sizeOf, typeInfo, hi, Builtin.lenOf, Builtin.firstCells, storeCells]
  · obtain ⟨news, hnr, hnc⟩ := ReadsRow.inner_ HR
    have hlen : news.length = m * d.sz := by rw [hnr.1, hml]
    have hone : ∀ u ∈ news, u.oneCell' = true := by
      intro u hu
      obtain ⟨q, hq, rfl⟩ := List.mem_iff_getElem.1 hu
      have hql : q / d.sz < xs.length := by
        rw [Nat.div_lt_iff_lt_mul hs0]
        rw [← hnr.1]
        exact hq
      have hc := hnr.2 (q / d.sz) _ (List.getElem?_eq_getElem hql)
      refine d.K_one hc _ ?_
      rw [List.mem_iff_getElem?]
      refine ⟨q % d.sz, ?_⟩
      rw [List.getElem?_take, if_pos (Nat.mod_lt _ hs0), List.getElem?_drop, Nat.mul_comm, Nat.div_add_mod, List.getElem?_eq_getElem hq]
    have hfit : 0 * i.size + news.length ≤ cur.size := by rw [hlen, hcur, Nat.zero_mul, Nat.zero_add]; exact Nat.mul_le_mul_right _ hm
    have hr := run_append_room (P := P) w t ty e i ht hi g 0 cap cur hg ad m c news (by rw [hlen, hsz]) hnc hone (by omega) hfit
    refine ⟨news, _, hlen, hnr, by rw [Nat.zero_add] at hr; exact hr, ?_, ?_⟩
    · rw [setRow_heap w g cur _ e (0, 0) hg]
      simp [hlen]
    · exact ⟨rfl, rfl, rfl, by simp, fun k hk hn => setRow_other w g k _ hn⟩

/-- An append whose run is known. -/
theorem wpList_append_run {P : Program} {ops : Array Oper} {rest : List Oper} {o : Oper} {a : Act} {Q : Exit → Act → World → Prop} {w : World} (hgd : o.guard = none) (s x : Operand) (t : TypeId)
    (ho : o.op = .call { callee := .builtin .append, args := #[s, x], argTypes := #[t, t] }) (v u y : Value) (w' : World) (hs : a.eval s = u) (hx : a.eval x = y)
    (hrun : (Builtin.append_ #[t, t] o.type #[u, y]).run P w = .ok v w') (h : wpList P ops Q rest (a.put o.dst v) w') : wpList P ops Q (o :: rest) a w := by
  refine wpList_plain hgd fun K hK => ?_
  unfold Oper.wp execOp
  simp only [ho, resolve, invoke, builtin, Sem.run_bind, Sem.run_pure, Result.andThen_ok, List.map_toArray, List.map_cons, List.map_nil, hs, hx, hrun]
  exact hK _ _ h

/-- The copy's row: the elements, and three more. -/
def OwnRowI (T : Nat) (w : World) (r : Nat) (l : List Int) (f : Int) : Prop := w.heap[r]? = some (.cells ((l ++ [f, f, f]).map (Value.int .i64)).toArray T (0, 0))

theorem reps_ints {w : World} {l : List Int} {cs : List Value} (h : Reps ((Kd.int .i64).K w) 1 l cs) : cs = l.map (Value.int .i64) := by
  apply List.ext_getElem?
  intro j
  have h1 := h.1
  rcases Nat.lt_or_ge j l.length with hj | hj
  · have h2 := h.2 j _ (List.getElem?_eq_getElem hj)
    have h3 : (cs.drop (j * 1)).take 1 = [Value.int .i64 l[j]] := h2
    rw [Nat.mul_one, List.drop_eq_getElem_cons (by omega)] at h3
    have h5 := congrArg List.head? h3
    rw [List.take_succ_cons] at h5
    rw [List.getElem?_eq_getElem (by omega), Option.some.inj h5]
    simp [hj]
  · rw [List.getElem?_eq_none (by omega), List.getElem?_eq_none (by simpa using hj)]

theorem step_row (l : List Int) (f : Int) (k : Nat) (h : k < 3) :
    ((l ++ List.replicate k f ++ List.replicate (3 - k) 0).map (Value.int .i64)).toArray.setIfInBounds (l.length + k) (.int .i64 f) = ((l ++ List.replicate (k + 1) f ++ List.replicate (3 - (k + 1)) 0).map (Value.int .i64)).toArray := by
  obtain ⟨q, hq⟩ : ∃ q, 3 - k = q + 1 := ⟨3 - k - 1, by omega⟩
  have hq2 : 3 - (k + 1) = q := by omega
  rw [hq, hq2, List.replicate_succ]
  simp [List.set_append, List.replicate_succ']

set_option maxRecDepth 100000 in
set_option maxHeartbeats 2000000 in
theorem own_int64 {a : Option Addr} {c : Nat} {l : List Int} {w : World} (f : Int) (hl : Kd.C (Kd.int .i64) w a l.length l) (h1 : l.length ≤ 1000000000) :
    Calls Try.prog 10 #[.slice a l.length c, .int .i64 f] w fun e w' => ∃ r, e = .returned (.slice (some ⟨r, 0, none⟩) l.length (l.length + 3)) ∧ w.heap.size ≤ r ∧ OwnRowI 2 w' r l f ∧ Below w.heap.size w w' := by
  have hinfo : (Try.prog.info? 2).map (fun i => (i.zero, i.size, i.bytes)) = some (some (.int .i64 0), 1, 8) := by kernel_rfl
  obtain ⟨i0, hi, hz0, hz1, hz2⟩ := info_parts hinfo
  obtain ⟨n, hn⟩ : ∃ n, n = l.length := ⟨_, rfl⟩
  have hnb : n ≤ 1000000000 := by omega
  have HN : Hid (n = l.length) := hn
  rw [← hn] at hl
  rw [← hn]
  have hmk := run_make (P := Try.prog) w 26 2 i0 (.int .i64 0) Try.underlying26 hi hz0 .i64 .i64 0 ((n : Int) + 3) (by omega) (by omega) (by rw [hz2]; omega) (by omega)
  obtain ⟨W, hW⟩ : ∃ W, W = w.alloc (.cells (madeCells (Value.int .i64 0).cells (((n : Int) + 3).toNat * i0.size)) 2) := ⟨_, rfl⟩
  rw [← hW] at hmk
  have hnt : ((n : Int) + 3).toNat = n + 3 := by omega
  rw [hnt, Int.toNat_zero] at hmk
  have hWr : W.heap[w.heap.size]? = some (.cells (List.replicate (n + 3) (Value.int .i64 0)).toArray 2 (0, 0)) := by
    rw [hW, alloc_new, hz1, hnt, Nat.mul_one]
    show some (Obj.cells (madeCells #[Value.int .i64 0] (n + 3)) _ _) = _
    rw [made_one]
  have hlW : Kd.C (Kd.int .i64) W a n l := Kd.C_below hl (by rw [hW]; exact (Below.refl _ w).alloc (Nat.le_refl _) _)
  obtain ⟨news, W1, hnl, hrp, hrun, hW1, hk1⟩ := run_append_into (P := Try.prog) (w := W) (Kd.int .i64) 26 26 2 i0 Try.underlying26 hi hz1 (by decide) w.heap.size (n + 3) _ hWr (by simp [Kd.int, Kd.scalar]) a n c l hlW (by omega)
  have hnews : news = l.map (Value.int .i64) := reps_ints hrp
  have hfirst : W1.heap[w.heap.size]? = some (.cells ((l ++ List.replicate 0 f ++ List.replicate (3 - 0) 0).map (Value.int .i64)).toArray 2 (0, 0)) := by
    rw [hW1, hnews]
    congr 2
    simp [Kd.int, Kd.scalar]
  have HF : Hid (W1.heap[w.heap.size]? = some (.cells ((l ++ List.replicate 0 f ++ List.replicate (3 - 0) 0).map (Value.int .i64)).toArray 2 (0, 0))) := hfirst
  have HK1 : Hid (Below w.heap.size w W1) := by
    have h0 : Below w.heap.size w W := by rw [hW]; exact (Below.refl _ w).alloc (Nat.le_refl _) _
    exact Kp.below_trans h0 hk1 (Nat.le_refl _) (by rintro k rfl; exact Nat.le_refl _)
  obtain ⟨B, hB⟩ : ∃ B, B = w.heap.size := ⟨_, rfl⟩
  rw [← hB] at hrun HF HK1 hmk
  have HBB : Hid (B = w.heap.size) := hB
  clear hinfo hi hz0 hz1 hz2 hn hl h1 hW hnt hWr hlW hnl hrp hW1 hk1 hnews hfirst hB
  go_enter Try.func10, Try.ntmps10
  have HRUN := Aside0.mk hrun
  clear hrun
  go_wp2_with (at_builtin; refine wpList_append_run rfl _ _ _ rfl _ _ _ W1 rfl rfl HRUN.out ?_)
  go_loopw [7] (fun x wr => ∃ k : Nat, k ≤ 3 ∧ x = .int .i64 ((n + k : Nat) : Int) ∧ Hid (wr.heap[B]? = some (.cells ((l ++ List.replicate k f ++ List.replicate (3 - k) 0).map (Value.int .i64)).toArray 2 (0, 0))) ∧ Hid (Below B w wr)) (fun x _ => (n + 3) - (intOf x).toNat)
  case atStart => exact ⟨0, by omega, rfl, HF, HK1⟩
  case round =>
    obtain ⟨k, hk, rfl, HC, HW⟩ := hrel
    by_cases hlt : k < 3
    · have hcs := HC.out
      have hsz : (((l ++ List.replicate k f ++ List.replicate (3 - k) 0).map (Value.int .i64)).toArray).size = n + 3 := by simp; have := HN.out; omega
      have hcell : ∃ u, wr.cell? ⟨B, n + k, none⟩ = some u := by
        rw [cell_of_row wr B _ _ _ _ hcs]
        exact ⟨_, Array.getElem?_eq_getElem (by rw [hsz]; omega)⟩
      obtain ⟨u, hu⟩ := hcell
      have hfz : wr.frozen? ⟨B, n + k, none⟩ = false := by simp [World.frozen?, hcs]
      have hd : decide (((n + k : Nat) : Int) < (n : Int) + 3) = true := by simp; omega
      have HC2 : Hid ((wr.setCell ⟨B, n + k, none⟩ (.int .i64 f)).heap[B]? = some (.cells ((l ++ List.replicate (k + 1) f ++ List.replicate (3 - (k + 1)) 0).map (Value.int .i64)).toArray 2 (0, 0))) := by
        show _ = _
        rw [setCell_at hcs, HN.out, step_row l f k hlt]
      have HW2 : Hid (Below B w (wr.setCell ⟨B, n + k, none⟩ (.int .i64 f))) := HW.out.setCell (Nat.le_refl _) _
      have hi1 : (0 : Int) ≤ ((n + k : Nat) : Int) := by omega
      have hi2 : ((n + k : Nat) : Int) < (n : Int) + 3 := by omega
      clear hcs hsz
      obtain ⟨q, hq⟩ : ∃ q, n + k = q := ⟨_, rfl⟩
      have HQ : Hid (n + k = q) := hq
      rw [hq] at hu hfz hd hi1 hi2 HC2 HW2 ⊢
      have hq1 : q ≤ n + 3 := by omega
      have hq2 : q < n + 3 := by omega
      clear hq
      go_wp2
      go_roundw
      case rel => exact ⟨k + 1, by omega, by have := HQ.out; first | rfl | (congr 1; omega), HC2, HW2⟩
      case measure => simp [intOf]; omega
    · have hk3 : k = 3 := by omega
      subst hk3
      have hd : decide (((n + 3 : Nat) : Int) < (n : Int) + 3) = false := by simp
      clear hlt hk
      go_wp2
      go_ret
      exact ⟨B, rfl, by rw [← HBB.out]; exact Nat.le_refl _, (by have h := HC.out; simp only [Nat.sub_self, List.replicate_zero, List.append_nil] at h; exact h), by rw [← HBB.out]; exact HW.out⟩

/-- What a copy's row reads as. -/
theorem reads_int64 {w : World} {r : Nat} {l : List Int} {f : Int} (h : OwnRowI 2 w r l f) (hb : l.length ≤ 1000000000) : Kd.C (Kd.int .i64) w (some ⟨r, 0, none⟩) l.length l := by
  refine ⟨rfl, by omega, fun _ => ⟨_, rfl, fun j p hj => ⟨[.int .i64 p], rfl, rfl, fun i u hu => ?_⟩⟩⟩
  have hjl : j < l.length := (List.getElem?_eq_some_iff.1 hj).1
  cases i with
  | zero =>
    obtain rfl : Value.int .i64 p = u := by simpa using hu
    have e : (⟨r, 0, none⟩ : Addr).add (j * (Kd.int .i64).sz + 0) = ⟨r, j, none⟩ := by
      show (⟨r, 0, none⟩ : Addr).add (j * 1 + 0) = _
      rw [Nat.mul_one, Nat.add_zero]
      unfold Addr.add; split <;> simp_all
    rw [e, cell_of_row w r _ _ _ _ h]
    rw [List.getElem?_toArray, List.map_append, List.getElem?_append_left (by simpa using hjl), List.getElem?_map, hj]
    rfl
  | succ i => simp at hu

set_option maxRecDepth 100000 in
set_option maxHeartbeats 2000000 in
theorem kept_int64 {a : Option Addr} {c r : Nat} {l : List Int} {f : Int} {w : World} (hl : Kd.C (Kd.int .i64) w a l.length l) (h1 : l.length ≤ 1000000000) (ho : OwnRowI 2 w r l f) :
    Calls Try.prog 15 #[.slice (some ⟨r, 0, none⟩) l.length (l.length + 3), .slice a l.length c, .int .i64 f] w fun e w' => e = .returned (.bool true) ∧ ∃ k, w' = w.drewN k := by
  have hd1 : decide ((l.length : Int) + 3 < (l.length : Int) + 3) = false := by simp
  go_enter Try.func15, Try.ntmps15
  go_wp2_with fail
  refine (plain_int64 (reads_int64 ho h1) hl h1 h1).mono ?_
  rintro e w' ⟨rfl, m, rfl⟩
  rw [decide_eq_true (rfl : l = l)]
  obtain ⟨n, hn⟩ : ∃ n, n = l.length := ⟨_, rfl⟩
  have HN : Hid (n = l.length) := hn
  rw [← hn] at h1 hd1 ⊢
  have HO : Hid (OwnRowI 2 w r l f) := ho
  clear hn hl ho
  go_wp2
  go_loopw [8] (fun x wr => ∃ k : Nat, k ≤ 3 ∧ x = .int .i64 ((n + k : Nat) : Int) ∧ Hid (∃ m, wr = w.drewN m)) (fun x _ => (n + 3) - (intOf x).toNat)
  case atStart => exact ⟨0, by omega, rfl, ⟨m, rfl⟩⟩
  case round =>
    obtain ⟨k, hk, rfl, HW⟩ := hrel
    by_cases hlt : k < 3
    · have hcell : wr.cell? ⟨r, n + k, none⟩ = some (.int .i64 f) := by
        obtain ⟨m, rfl⟩ := HW.out
        show w.cell? _ = _
        rw [cell_of_row w r _ _ _ _ HO.out, HN.out]
        have : k = 0 ∨ k = 1 ∨ k = 2 := by omega
        rcases this with rfl | rfl | rfl <;> simp
      have hd : decide (((n + k : Nat) : Int) < (n : Int) + 3) = true := by simp; omega
      obtain ⟨q, hq⟩ : ∃ q, n + k = q := ⟨_, rfl⟩
      have HQ : Hid (n + k = q) := hq
      rw [hq] at hcell hd ⊢
      have hi1 : (0 : Int) ≤ (q : Int) := by omega
      have hi2 : (q : Int) < (n : Int) + 3 := by omega
      have hq1 : q < n + 3 := by omega
      have hne : (f != f) = false := by simp
      clear hq
      go_wp2
      go_roundw
      case rel => exact ⟨k + 1, by omega, by have := HQ.out; first | rfl | (congr 1; omega), HW⟩
      case measure => simp [intOf]; omega
    · have hk3 : k = 3 := by omega
      subst hk3
      have hd : decide (((n + 3 : Nat) : Int) < (n : Int) + 3) = false := by simp
      clear hlt hk
      go_wp2
      go_ret
      exact ⟨rfl, HW.out⟩
end Go.Proofs.Ytmiamdnhofjifaa.HP
end
section
/- A copy of strings with spare room behind it (haberdashhelp.Own), and whether it is as it was (Kept). -/
set_option linter.unusedVariables false
set_option linter.unusedSimpArgs false
namespace Go.Proofs.Ytmiamdnhofjifaa.HP
open Go Go.RowKit Go.Proofs.YtmiamdnhofjifaaW.PrintWords Go.Proofs.Ytmiamdnhofjifaa.QR

def zS : ByteArray := ⟨#[]⟩
/-- The copy's row: the elements, and three more. -/
def OwnRowS (T : Nat) (w : World) (r : Nat) (l : List ByteArray) (f : ByteArray) : Prop := w.heap[r]? = some (.cells ((l ++ [f, f, f]).map Value.string).toArray T (0, 0))
theorem reps_strs {w : World} {l : List ByteArray} {cs : List Value} (h : Reps (Kd.string.K w) 1 l cs) : cs = l.map (Value.string) := by
  apply List.ext_getElem?
  intro j
  have h1 := h.1
  rcases Nat.lt_or_ge j l.length with hj | hj
  · have h2 := h.2 j _ (List.getElem?_eq_getElem hj)
    have h3 : (cs.drop (j * 1)).take 1 = [Value.string l[j]] := h2
    rw [Nat.mul_one, List.drop_eq_getElem_cons (by omega)] at h3
    have h5 := congrArg List.head? h3
    rw [List.take_succ_cons] at h5
    rw [List.getElem?_eq_getElem (by omega), Option.some.inj h5]
    simp [hj]
  · rw [List.getElem?_eq_none (by omega), List.getElem?_eq_none (by simpa using hj)]

theorem step_rowS (l : List ByteArray) (f : ByteArray) (k : Nat) (h : k < 3) :
    ((l ++ List.replicate k f ++ List.replicate (3 - k) zS).map (Value.string)).toArray.setIfInBounds (l.length + k) (.string f) = ((l ++ List.replicate (k + 1) f ++ List.replicate (3 - (k + 1)) zS).map (Value.string)).toArray := by
  obtain ⟨q, hq⟩ : ∃ q, 3 - k = q + 1 := ⟨3 - k - 1, by omega⟩
  have hq2 : 3 - (k + 1) = q := by omega
  rw [hq, hq2, List.replicate_succ]
  simp [List.set_append, List.replicate_succ']

set_option maxHeartbeats 1000000 in
theorem one_string (x y : ByteArray) (w : World) : Calls Try.prog 51 #[.string x, .string y] w fun e w' => e = .returned (.bool (x.toList == y.toList)) ∧ w' = w := by
  go_enter Try.func51, Try.ntmps51
  go_wp2
  go_ret
  exact ⟨rfl, rfl⟩

set_option maxRecDepth 100000 in
set_option maxHeartbeats 2000000 in
theorem same_string {a b : Option Addr} {c d : Nat} {xs : List ByteArray} {w : World} (hx : Kd.C Kd.string w a xs.length xs) (hy : Kd.C Kd.string w b xs.length xs) (h1 : xs.length ≤ 1000000000) :
    Calls Try.prog 50 #[.slice a xs.length c, .slice b xs.length d, .func (.func 51) #[] #[]] w fun e w' => e = .returned (.bool true) ∧ ∃ k, w' = w.drewN k := by
  have hlb : ((xs.length : Int) == (xs.length : Int)) = true := beq_iff_eq.2 rfl
  have hlb2 : ((xs.length : Int) != (xs.length : Int)) = false := bne_eq_false_iff_eq.2 rfl
  have HX : Hid (Kd.C Kd.string w a xs.length xs) := hx
  have HY : Hid (Kd.C Kd.string w b xs.length xs) := hy
  clear hx hy
  go_enter Try.func50, Try.ntmps50
  go_wp2
  go_loopw [7] (fun x wr => ∃ k : Nat, x = .int .i64 k ∧ k ≤ xs.length ∧ Hid (∃ m, wr = w.drewN m)) (fun x _ => xs.length - (intOf x).toNat)
  case atStart => exact ⟨0, rfl, Nat.zero_le _, ⟨0, rfl⟩⟩
  case round =>
    obtain ⟨k, rfl, hk, HW⟩ := hrel
    by_cases hlt : k < xs.length
    · have hcx0 : ∃ ax, a = some ax ∧ wr.cell? (ax.add (k : Int).toNat) = some (.string (rdOf ByteArray.empty xs k)) := by
        obtain ⟨m, rfl⟩ := HW.out
        exact Kd.at_string HX.out (k : Int) (by omega) (by omega)
      have hcy0 : ∃ ay, b = some ay ∧ wr.cell? (ay.add (k : Int).toNat) = some (.string (rdOf ByteArray.empty xs k)) := by
        obtain ⟨m, rfl⟩ := HW.out
        exact Kd.at_string HY.out (k : Int) (by omega) (by omega)
      obtain ⟨ax, ha, hcx⟩ := hcx0
      obtain ⟨ay, hb, hcy⟩ := hcy0
      subst ha
      subst hb
      rw [Int.toNat_natCast] at hcx hcy
      have hi2 : (k : Int) < (xs.length : Int) := by omega
      generalize rdOf ByteArray.empty xs (k : Int) = p at *
      have heb : (p.toList == p.toList) = true := by simp
      go_wp2_with fail
      go_quiet ((go_at_call 51; exact Calls.quiet_of_same (one_string _ _ _)))
      go_wp2
      go_roundw
      case rel => exact ⟨k + 1, by go_num, by omega, by obtain ⟨m, hm⟩ := HW.out; exact ⟨m + _, by rw [hm]; exact World.drewN_drewN ..⟩⟩
      case measure => simp [intOf]; omega
    · go_wp2
      go_ret
      exact ⟨rfl, HW.out⟩

set_option maxHeartbeats 1000000 in
theorem plain_string {a b : Option Addr} {c d : Nat} {xs : List ByteArray} {w : World} (hx : Kd.C Kd.string w a xs.length xs) (hy : Kd.C Kd.string w b xs.length xs) (h1 : xs.length ≤ 1000000000) :
    Calls Try.prog 32 #[.slice a xs.length c, .slice b xs.length d] w fun e w' => e = .returned (.bool true) ∧ ∃ k, w' = w.drewN k := by
  go_enter Try.func32, Try.ntmps32
  go_wp2_with fail
  refine (same_string hx hy h1).mono ?_
  rintro e w' ⟨rfl, k, rfl⟩
  go_wp2
  go_ret
  exact ⟨rfl, k, rfl⟩

set_option maxRecDepth 100000 in
set_option maxHeartbeats 2000000 in
theorem own_string {a : Option Addr} {c : Nat} {l : List ByteArray} {w : World} (f : ByteArray) (hl : Kd.C Kd.string w a l.length l) (h1 : l.length ≤ 1000000000) :
    Calls Try.prog 9 #[.slice a l.length c, .string f] w fun e w' => ∃ r, e = .returned (.slice (some ⟨r, 0, none⟩) l.length (l.length + 3)) ∧ w.heap.size ≤ r ∧ OwnRowS 9 w' r l f ∧ Below w.heap.size w w' := by
  have hinfo : (Try.prog.info? 9).map (fun i => (i.zero, i.size, i.bytes)) = some (some (.string ⟨#[]⟩), 1, 16) := by kernel_rfl
  obtain ⟨i0, hi, hz0, hz1, hz2⟩ := info_parts hinfo
  obtain ⟨n, hn⟩ : ∃ n, n = l.length := ⟨_, rfl⟩
  have hnb : n ≤ 1000000000 := by omega
  have HN : Hid (n = l.length) := hn
  rw [← hn] at hl
  rw [← hn]
  have hmk := run_make (P := Try.prog) w 25 9 i0 (.string ⟨#[]⟩) Try.underlying25 hi hz0 .i64 .i64 0 ((n : Int) + 3) (by omega) (by omega) (by rw [hz2]; omega) (by omega)
  obtain ⟨W, hW⟩ : ∃ W, W = w.alloc (.cells (madeCells (Value.string ⟨#[]⟩).cells (((n : Int) + 3).toNat * i0.size)) 9) := ⟨_, rfl⟩
  rw [← hW] at hmk
  have hnt : ((n : Int) + 3).toNat = n + 3 := by omega
  rw [hnt, Int.toNat_zero] at hmk
  have hWr : W.heap[w.heap.size]? = some (.cells (List.replicate (n + 3) (Value.string ⟨#[]⟩)).toArray 9 (0, 0)) := by
    rw [hW, alloc_new, hz1, hnt, Nat.mul_one]
    show some (Obj.cells (madeCells #[Value.string ⟨#[]⟩] (n + 3)) _ _) = _
    rw [made_one]
  have hlW : Kd.C Kd.string W a n l := Kd.C_below hl (by rw [hW]; exact (Below.refl _ w).alloc (Nat.le_refl _) _)
  obtain ⟨news, W1, hnl, hrp, hrun, hW1, hk1⟩ := run_append_into (P := Try.prog) (w := W) Kd.string 25 25 9 i0 Try.underlying25 hi hz1 (by decide) w.heap.size (n + 3) _ hWr (by simp [Kd.string, Kd.scalar, zS]) a n c l hlW (by omega)
  have hnews : news = l.map (Value.string) := reps_strs hrp
  have hfirst : W1.heap[w.heap.size]? = some (.cells ((l ++ List.replicate 0 f ++ List.replicate (3 - 0) zS).map (Value.string)).toArray 9 (0, 0)) := by
    rw [hW1, hnews]
    congr 2
    simp [Kd.string, Kd.scalar, zS]
  have HF : Hid (W1.heap[w.heap.size]? = some (.cells ((l ++ List.replicate 0 f ++ List.replicate (3 - 0) zS).map (Value.string)).toArray 9 (0, 0))) := hfirst
  have HK1 : Hid (Below w.heap.size w W1) := by
    have h0 : Below w.heap.size w W := by rw [hW]; exact (Below.refl _ w).alloc (Nat.le_refl _) _
    exact Kp.below_trans h0 hk1 (Nat.le_refl _) (by rintro k rfl; exact Nat.le_refl _)
  obtain ⟨B, hB⟩ : ∃ B, B = w.heap.size := ⟨_, rfl⟩
  rw [← hB] at hrun HF HK1 hmk
  have HBB : Hid (B = w.heap.size) := hB
  clear hinfo hi hz0 hz1 hz2 hn hl h1 hW hnt hWr hlW hnl hrp hW1 hk1 hnews hfirst hB
  go_enter Try.func9, Try.ntmps9
  have HRUN := Aside0.mk hrun
  clear hrun
  go_wp2_with (at_builtin; refine wpList_append_run rfl _ _ _ rfl _ _ _ W1 rfl rfl HRUN.out ?_)
  go_loopw [7] (fun x wr => ∃ k : Nat, k ≤ 3 ∧ x = .int .i64 ((n + k : Nat) : Int) ∧ Hid (wr.heap[B]? = some (.cells ((l ++ List.replicate k f ++ List.replicate (3 - k) zS).map (Value.string)).toArray 9 (0, 0))) ∧ Hid (Below B w wr)) (fun x _ => (n + 3) - (intOf x).toNat)
  case atStart => exact ⟨0, by omega, rfl, HF, HK1⟩
  case round =>
    obtain ⟨k, hk, rfl, HC, HW⟩ := hrel
    by_cases hlt : k < 3
    · have hcs := HC.out
      have hsz : (((l ++ List.replicate k f ++ List.replicate (3 - k) zS).map (Value.string)).toArray).size = n + 3 := by simp; have := HN.out; omega
      have hcell : ∃ u, wr.cell? ⟨B, n + k, none⟩ = some u := by
        rw [cell_of_row wr B _ _ _ _ hcs]
        exact ⟨_, Array.getElem?_eq_getElem (by rw [hsz]; omega)⟩
      obtain ⟨u, hu⟩ := hcell
      have hfz : wr.frozen? ⟨B, n + k, none⟩ = false := by simp [World.frozen?, hcs]
      have hd : decide (((n + k : Nat) : Int) < (n : Int) + 3) = true := by simp; omega
      have HC2 : Hid ((wr.setCell ⟨B, n + k, none⟩ (.string f)).heap[B]? = some (.cells ((l ++ List.replicate (k + 1) f ++ List.replicate (3 - (k + 1)) zS).map (Value.string)).toArray 9 (0, 0))) := by
        show _ = _
        rw [setCell_at hcs, HN.out, step_rowS l f k hlt]
      have HW2 : Hid (Below B w (wr.setCell ⟨B, n + k, none⟩ (.string f))) := HW.out.setCell (Nat.le_refl _) _
      have hi1 : (0 : Int) ≤ ((n + k : Nat) : Int) := by omega
      have hi2 : ((n + k : Nat) : Int) < (n : Int) + 3 := by omega
      clear hcs hsz
      obtain ⟨q, hq⟩ : ∃ q, n + k = q := ⟨_, rfl⟩
      have HQ : Hid (n + k = q) := hq
      rw [hq] at hu hfz hd hi1 hi2 HC2 HW2 ⊢
      have hq1 : q ≤ n + 3 := by omega
      have hq2 : q < n + 3 := by omega
      clear hq
      go_wp2
      go_roundw
      case rel => exact ⟨k + 1, by omega, by have := HQ.out; first | rfl | (congr 1; omega), HC2, HW2⟩
      case measure => simp [intOf]; omega
    · have hk3 : k = 3 := by omega
      subst hk3
      have hd : decide (((n + 3 : Nat) : Int) < (n : Int) + 3) = false := by simp
      clear hlt hk
      go_wp2
      go_ret
      exact ⟨B, rfl, by rw [← HBB.out]; exact Nat.le_refl _, (by have h := HC.out; simp only [Nat.sub_self, List.replicate_zero, List.append_nil] at h; exact h), by rw [← HBB.out]; exact HW.out⟩

/-- What a copy's row reads as. -/
theorem reads_string {w : World} {r : Nat} {l : List ByteArray} {f : ByteArray} (h : OwnRowS 9 w r l f) (hb : l.length ≤ 1000000000) : Kd.C Kd.string w (some ⟨r, 0, none⟩) l.length l := by
  refine ⟨rfl, by omega, fun _ => ⟨_, rfl, fun j p hj => ⟨[.string p], rfl, rfl, fun i u hu => ?_⟩⟩⟩
  have hjl : j < l.length := (List.getElem?_eq_some_iff.1 hj).1
  cases i with
  | zero =>
    obtain rfl : Value.string p = u := by simpa using hu
    have e : (⟨r, 0, none⟩ : Addr).add (j * Kd.string.sz + 0) = ⟨r, j, none⟩ := by
      show (⟨r, 0, none⟩ : Addr).add (j * 1 + 0) = _
      rw [Nat.mul_one, Nat.add_zero]
      unfold Addr.add; split <;> simp_all
    rw [e, cell_of_row w r _ _ _ _ h]
    rw [List.getElem?_toArray, List.map_append, List.getElem?_append_left (by simpa using hjl), List.getElem?_map, hj]
    rfl
  | succ i => simp at hu

set_option maxRecDepth 100000 in
set_option maxHeartbeats 2000000 in
theorem kept_string {a : Option Addr} {c r : Nat} {l : List ByteArray} {f : ByteArray} {w : World} (hl : Kd.C Kd.string w a l.length l) (h1 : l.length ≤ 1000000000) (ho : OwnRowS 9 w r l f) :
    Calls Try.prog 14 #[.slice (some ⟨r, 0, none⟩) l.length (l.length + 3), .slice a l.length c, .string f] w fun e w' => e = .returned (.bool true) ∧ ∃ k, w' = w.drewN k := by
  have hd1 : decide ((l.length : Int) + 3 < (l.length : Int) + 3) = false := by simp
  go_enter Try.func14, Try.ntmps14
  go_wp2_with fail
  refine (plain_string (reads_string ho h1) hl h1).mono ?_
  rintro e w' ⟨rfl, m, rfl⟩
  obtain ⟨n, hn⟩ : ∃ n, n = l.length := ⟨_, rfl⟩
  have HN : Hid (n = l.length) := hn
  rw [← hn] at h1 hd1 ⊢
  have HO : Hid (OwnRowS 9 w r l f) := ho
  clear hn hl ho
  go_wp2
  go_loopw [8] (fun x wr => ∃ k : Nat, k ≤ 3 ∧ x = .int .i64 ((n + k : Nat) : Int) ∧ Hid (∃ m, wr = w.drewN m)) (fun x _ => (n + 3) - (intOf x).toNat)
  case atStart => exact ⟨0, by omega, rfl, ⟨m, rfl⟩⟩
  case round =>
    obtain ⟨k, hk, rfl, HW⟩ := hrel
    by_cases hlt : k < 3
    · have hcell : wr.cell? ⟨r, n + k, none⟩ = some (.string f) := by
        obtain ⟨m, rfl⟩ := HW.out
        show w.cell? _ = _
        rw [cell_of_row w r _ _ _ _ HO.out, HN.out]
        have : k = 0 ∨ k = 1 ∨ k = 2 := by omega
        rcases this with rfl | rfl | rfl <;> simp
      have hd : decide (((n + k : Nat) : Int) < (n : Int) + 3) = true := by simp; omega
      obtain ⟨q, hq⟩ : ∃ q, n + k = q := ⟨_, rfl⟩
      have HQ : Hid (n + k = q) := hq
      rw [hq] at hcell hd ⊢
      have hi1 : (0 : Int) ≤ (q : Int) := by omega
      have hi2 : (q : Int) < (n : Int) + 3 := by omega
      have hq1 : q < n + 3 := by omega
      have hne : (f.toList != f.toList) = false := by simp
      clear hq
      go_wp2
      go_roundw
      case rel => exact ⟨k + 1, by omega, by have := HQ.out; first | rfl | (congr 1; omega), HW⟩
      case measure => simp [intOf]; omega
    · have hk3 : k = 3 := by omega
      subst hk3
      have hd : decide (((n + 3 : Nat) : Int) < (n : Int) + 3) = false := by simp
      clear hlt hk
      go_wp2
      go_ret
      exact ⟨rfl, HW.out⟩
end Go.Proofs.Ytmiamdnhofjifaa.HP
end
