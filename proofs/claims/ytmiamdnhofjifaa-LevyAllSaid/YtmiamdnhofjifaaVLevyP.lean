/- levy.Levy: what the printed function comes to. Plain Lean. -/
import Derived.Test.YtmiamdnhofjifaaVTaxP
import Derived.Test.YtmiamdnhofjifaaVRwRulesZ
import Derived.Test.YtmiamdnhofjifaaVLevyS
set_option linter.unusedVariables false
set_option linter.unusedSimpArgs false
namespace Go.Proofs.Ytmiamdnhofjifaa.YP
open Go Go.RowKit Go.Proofs.YtmiamdnhofjifaaW.PrintWords Go.Proofs.YtmiamdnhofjifaaW.PrintMore Go.Proofs.Ytmiamdnhofjifaa.Rw Go.Proofs.Ytmiamdnhofjifaa.EP Go.Proofs.Ytmiamdnhofjifaa.NP Go.Proofs.Ytmiamdnhofjifaa.XP Go.Proofs.Ytmiamdnhofjifaa.LV Go.Proofs.Ytmiamdnhofjifaa.GP Go.Proofs.Ytmiamdnhofjifaa.SP

/-- Nets that may be: none below 0, and not too much in all. -/
def netsOk (ns : List Int) : Bool := allTo (fun j => decide (0 ≤ ns.getD j 0) && decide (ns.getD j 0 ≤ 10000000000000)) ns.length && decide (ns.sum ≤ 10000000000000)
def mayOk (k : Int) (l : List Zn) (cats : List ByteArray) (ns : List Int) (ship : Int) : Bool :=
  taxOk k l && (decide (cats.length = ns.length) && (decide (ns.length ≤ 1000) && ((decide (0 ≤ ship) && decide (ship ≤ 10000000000000)) && netsOk ns)))
def ratesOf (z : Zn) (cats : List ByteArray) : List Int := cats.map (rateAt z.f1 z.f2)
def taxesOf (incl byo : Bool) (k : Int) (rs ns : List Int) : List Int := if byo = true then whole (lp incl k) rs ns else List.zipWith (fun x r => mch incl k x r) ns rs
def goodsOf (incl : Bool) (ns ts : List Int) : List Int := if incl = true then List.zipWith (fun x t => x - t) ns ts else ns
abbrev Out := List Int × List Int × Int × Int × Int
def outOf (incl ex : Bool) (ns ts : List Int) (ship st : Int) : Out := (goodsOf incl ns ts, if ex = true then List.replicate ns.length 0 else ts, if incl = true then ship - st else ship, if ex = true then 0 else st, 0)
/-- Tax on what lines cost, or why not. -/
def levyS (incl byo : Bool) (k : Int) (l : List Zn) (zone : ByteArray) (ex : Bool) (cats : List ByteArray) (ns : List Int) (ship : Int) : Out :=
  if mayOk k l cats ns ship = false then ([], [], 0, 0, 2)
  else match zoneAt l zone with
    | none => ([], [], 0, 0, 7)
    | some z => outOf incl ex ns (taxesOf incl byo k (ratesOf z cats) ns) ship (mch incl k ship z.f3)

theorem sum_take_succ (ns : List Int) (i : Nat) (h : i < ns.length) : (ns.take (i + 1)).sum = (ns.take i).sum + ns[i] := by
  rw [List.take_succ_eq_append_getElem h, List.sum_append]; simp
theorem netsOk_iff {ns : List Int} : netsOk ns = true ↔ (∀ x ∈ ns, 0 ≤ x ∧ x ≤ 10000000000000) ∧ ns.sum ≤ 10000000000000 := by
  unfold netsOk
  rw [Bool.and_eq_true, allTo_iff, decide_eq_true_eq]
  refine and_congr_left fun _ => ?_
  constructor
  · intro h x hx
    obtain ⟨i, hi, rfl⟩ := List.getElem_of_mem hx
    have := h i hi
    simp [hi] at this
    exact this
  · intro h i hi
    have := h _ (List.getElem_mem hi)
    simp [hi]
    exact this
theorem amount_f (x : Int) : levy_amount.f x = some (decide (0 ≤ x) && decide (x ≤ 10000000000000)) := by
  unfold levy_amount.f
  by_cases h : x ≥ 0
  · rw [if_pos h, show decide (0 ≤ x) = true from decide_eq_true h, Bool.true_and]
  · rw [if_neg h, show decide (0 ≤ x) = false from decide_eq_false h, Bool.false_and]
theorem sum_small (ns : List Int) (c : Int) : ∀ (n : Nat), n ≤ ns.length → (∀ i, i < n → 0 ≤ ns.getD i 0 ∧ ns.getD i 0 ≤ c) → 0 ≤ (ns.take n).sum ∧ (ns.take n).sum ≤ n * c := by
  intro n
  induction n with
  | zero => intro _ _; simp
  | succ n ih =>
    intro hn h
    have h1 := ih (by omega) (fun i hi => h i (by omega))
    have h2 := h n (by omega)
    have h3 : ns.getD n 0 = ns[n] := by simp [show n < ns.length by omega]
    rw [sum_take_succ ns n (by omega)]
    rw [h3] at h2
    have e : (((n + 1 : Nat) : Int)) * c = n * c + c := by rw [Int.natCast_add, Int.add_mul]; simp
    omega
theorem may_f (i o : Bool) (k : Int) (l : List Zn) (cats : List ByteArray) (ns : List Int) (ship : Int) : Ev (fun n => levy_may.f n i o k l cats ns ship) (mayOk k l cats ns ship) := by
  unfold levy_may.f mayOk
  have bad : ∀ (a : List Int), Ev (fun n => levy_may.j0 n a true) false := fun a => Ev.step (fun n => by rw [levy_may.j0, if_pos rfl]) (Ev.now _)
  refine Ev.bind (tax_f i o k l) ?_
  cases taxOk k l with
  | false => exact bad _
  | true =>
    simp only [if_true, Bool.true_and]
    by_cases h1 : (cats.length : Int) = (ns.length : Int)
    · simp only [if_pos h1]
      rw [show decide (cats.length = ns.length) = true from decide_eq_true (by omega), Bool.true_and]
      by_cases h2 : (ns.length : Int) > 1000
      · simp only [if_pos h2]
        rw [show decide (ns.length ≤ 1000) = false from decide_eq_false (by omega), Bool.false_and]
        exact bad _
      · simp only [if_neg h2]
        rw [show decide (ns.length ≤ 1000) = true from decide_eq_true (by omega), Bool.true_and, amount_f]
        simp only [Option.bind_some]
        cases decide (0 ≤ ship) && decide (ship ≤ 10000000000000) with
        | false => exact bad _
        | true =>
          rw [Bool.true_and]
          refine Ev.step (fun n => by rw [levy_may.j0, if_neg (by simp)]) ?_
          have hn : ns.length ≤ 1000 := by omega
          have key : ∀ d i, i + d = ns.length → allTo (fun j => decide (0 ≤ ns.getD j 0) && decide (ns.getD j 0 ≤ 10000000000000)) i = true → Ev (fun n => levy_may.l0 n (ns.take i).sum ns ns.length (i : Int)) (netsOk ns) := by
            intro d
            induction d with
            | zero =>
              intro i hi ha
              obtain rfl : i = ns.length := by omega
              refine Ev.step (f := fun _ => some (netsOk ns)) (fun n => ?_) (Ev.now _)
              rw [levy_may.l0, if_neg (by omega), List.take_length, amount_f]
              simp only [Option.bind_some]
              unfold netsOk
              have := sum_small ns 10000000000000 ns.length (Nat.le_refl _) (fun j hj => by have := allTo_iff.1 ha j hj; simpa using this)
              rw [List.take_length] at this
              rw [ha, decide_eq_true this.1]
            | succ d ih =>
              intro i hi ha
              have hlt : i < ns.length := by omega
              have hg : ns.getD i 0 = ns[i] := by simp [hlt]
              have hb := sum_small ns 10000000000000 i (by omega) (fun j hj => by have := allTo_iff.1 ha j hj; simpa using this)
              refine Ev.step (fun n => by rw [levy_may.l0, if_pos (by omega), if_pos (by omega), if_pos (by omega), rd_of ns i hlt, amount_f]) ?_
              simp only [Option.bind_some]
              cases h3 : decide (0 ≤ ns[i]) && decide (ns[i] ≤ 10000000000000) with
              | false =>
                have : netsOk ns = false := by
                  unfold netsOk
                  rw [allTo_no hlt (by rw [hg]; exact h3), Bool.false_and]
                rw [this]
                exact Ev.now _
              | true =>
                simp only [if_true, next i (by omega)]
                have h4 := Bool.and_eq_true_iff.1 h3
                have h5 := of_decide_eq_true h4.1
                have h6 := of_decide_eq_true h4.2
                rw [wrap_ok (by omega) (by omega), ← sum_take_succ ns i hlt]
                refine ih (i + 1) (by omega) (allTo_iff.2 fun j hj => ?_)
                rcases Nat.lt_or_ge j i with hji | hji
                · exact allTo_iff.1 ha j hji
                · obtain rfl : j = i := by omega
                  rw [hg]; exact h3
          have := key ns.length 0 (by omega) (allTo_iff.2 fun j hj => by omega)
          simpa using this
    · simp only [if_neg h1]
      rw [show decide (cats.length = ns.length) = false from decide_eq_false (by omega), Bool.false_and]
      exact bad _
theorem mayOk_iff {k : Int} {l : List Zn} {cats : List ByteArray} {ns : List Int} {ship : Int} : mayOk k l cats ns ship = true ↔ taxOk k l = true ∧ cats.length = ns.length ∧ ns.length ≤ 1000 ∧ (0 ≤ ship ∧ ship ≤ 10000000000000) ∧ (∀ x ∈ ns, 0 ≤ x ∧ x ≤ 10000000000000) ∧ ns.sum ≤ 10000000000000 := by
  unfold mayOk
  simp only [Bool.and_eq_true, decide_eq_true_eq, netsOk_iff]
/-- The rates of a zone that may be are rates. -/
theorem ratesOk_mem {l : List CR} (h : ratesOk l = true) : ∀ c ∈ l, nameOk c.f0 = true ∧ rateOk c.f1 = true := by
  intro c hc
  obtain ⟨i, hi, rfl⟩ := List.getElem_of_mem hc
  have h1 := allTo_iff.1 (Bool.and_eq_true_iff.1 h).1 i hi
  simp [hi] at h1
  exact h1
theorem rateAt_ok {z : Zn} (h : zoneOk z = true) (s : ByteArray) : 0 ≤ rateAt z.f1 z.f2 s ∧ rateAt z.f1 z.f2 s ≤ 10000 := by
  unfold zoneOk at h
  simp only [Bool.and_eq_true] at h
  rw [← rateOk_iff]
  unfold rateAt
  split
  · rename_i j hj
    have hm := List.mem_of_find?_eq_some hj
    exact (ratesOk_mem h.2.2.2.2 _ (getD_mem (List.mem_range.1 hm))).2
  · exact h.2.1
theorem zoneAt_mem {l : List Zn} {s : ByteArray} {z : Zn} (h : zoneAt l s = some z) : z ∈ l := by
  unfold zoneAt at h
  rw [Option.map_eq_some_iff] at h
  obtain ⟨j, hj, rfl⟩ := h
  exact getD_mem (List.mem_range.1 (List.mem_of_find?_eq_some hj))
theorem taxOk_zone {k : Int} {l : List Zn} (h : taxOk k l = true) : l.length ≤ 20 ∧ (0 ≤ k ∧ k ≤ 2) ∧ ∀ z ∈ l, zoneOk z = true := by
  unfold taxOk at h
  simp only [Bool.and_eq_true, decide_eq_true_eq] at h
  refine ⟨h.2.1, h.1, fun z hz => ?_⟩
  obtain ⟨i, hi, rfl⟩ := List.getElem_of_mem hz
  have := allTo_iff.1 h.2.2.1 i hi
  simpa [hi] using this
theorem zoneOk_len {z : Zn} (h : zoneOk z = true) : z.f1.length ≤ 40 ∧ (0 ≤ z.f3 ∧ z.f3 ≤ 10000) := by
  unfold zoneOk at h
  simp only [Bool.and_eq_true, decide_eq_true_eq] at h
  exact ⟨h.2.2.2.1, rateOk_iff.1 h.2.2.1⟩
theorem byLine_f (incl byo : Bool) (k : Int) (l : List Zn) (rs ns : List Int) (hl : rs.length = ns.length) (hn : ns.length ≤ 1000) (hr : ∀ r ∈ rs, 0 ≤ r ∧ r ≤ 10000) (n : Nat) (hk : ns.length < n) : levy_byLine.f n incl byo k l rs ns = some (List.zipWith (fun x r => mch incl k x r) ns rs) := by
  unfold levy_byLine.f
  have hzl : (List.zipWith (fun x r => mch incl k x r) ns rs).length = ns.length := by rw [List.length_zipWith]; omega
  have key : ∀ d i n, i + d = ns.length → d < n → levy_byLine.l0 n rs ((List.zipWith (fun x r => mch incl k x r) ns rs).take i) ns ns.length (i : Int) incl byo k l = some (List.zipWith (fun x r => mch incl k x r) ns rs) := by
    intro d
    induction d with
    | zero =>
      intro i n hi hn2
      obtain ⟨n, rfl⟩ : ∃ m, n = m + 1 := ⟨n - 1, by omega⟩
      rw [levy_byLine.l0, if_neg (by omega), List.take_of_length_le (by omega)]
    | succ d ih =>
      intro i n hi hn2
      obtain ⟨n, rfl⟩ : ∃ m, n = m + 1 := ⟨n - 1, by omega⟩
      have hlt : i < ns.length := by omega
      have hlr : i < rs.length := by omega
      have hri := hr _ (List.getElem_mem hlr)
      rw [levy_byLine.l0, if_pos (by omega), if_pos (by omega), if_pos (by omega), if_pos (by omega), rd_of ns i hlt, rd_of rs i hlr, much_f _ _ _ _ _ _ hri.1 hri.2]
      simp only [Option.bind_some]
      rw [if_pos (by rw [List.length_take]; omega), next i (by omega)]
      have e : (List.zipWith (fun x r => mch incl k x r) ns rs).take i ++ [mch incl k ns[i] rs[i]] = (List.zipWith (fun x r => mch incl k x r) ns rs).take (i + 1) := by
        rw [List.take_succ_eq_append_getElem (by omega), List.getElem_zipWith]
      rw [e]
      exact ih (i + 1) n (by omega) (by omega)
  have := key ns.length 0 n (by omega) hk
  simpa using this
theorem way_f (incl byo : Bool) (k : Int) (l : List Zn) (rs ns : List Int) (hl : rs.length = ns.length) (hn : ns.length ≤ 1000) (hr : ∀ r ∈ rs, 0 ≤ r ∧ r ≤ 10000) (h0 : ∀ x ∈ ns, 0 ≤ x) (hs : ns.sum ≤ 10000000000000) :
    levy_byOrder.f (if byo = true then 77700025 else 77700024) incl byo k l rs ns = some (taxesOf incl byo k rs ns) := by
  unfold levy_byOrder.f taxesOf
  cases byo with
  | false =>
    simp only [Bool.false_eq_true, if_false]
    rw [if_pos (by decide)]
    exact byLine_f incl false k l rs ns hl hn hr _ (by omega)
  | true =>
    simp only [if_true]
    rw [if_neg (by decide), if_pos ⟨by decide, byOrder_ok_iff.2 ⟨hl, hn, hr, h0, hs⟩⟩]
theorem taxesOf_length (incl byo : Bool) (k : Int) (rs ns : List Int) (hl : rs.length = ns.length) : (taxesOf incl byo k rs ns).length = ns.length := by
  unfold taxesOf
  split
  · simp [whole, hl]
  · rw [List.length_zipWith]; omega
theorem taxesOf_range (incl byo : Bool) (k : Int) (rs ns : List Int) (hl : rs.length = ns.length) (hn : ns.length ≤ 1000) (h0 : ∀ x ∈ ns, 0 ≤ x) (hs : ns.sum ≤ 10000000000000) : ∀ t ∈ taxesOf incl byo k rs ns, 0 ≤ t ∧ t ≤ 100000000100000 := by
  intro t ht
  unfold taxesOf at ht
  split at ht
  · obtain ⟨i, hi, rfl⟩ := List.mem_map.1 ht
    have hg := group_ok hl h0 hs hn (rs.getD i 0)
    unfold val
    rw [List.getD_eq_getElem?_getD]
    by_cases hx : (pls rs (rs.getD i 0)).idxOf (i : Int) < (lp incl k (rs.getD i 0) (pick ns (pls rs (rs.getD i 0)))).length
    · rw [List.getElem?_eq_getElem hx]
      have hm := List.getElem_mem hx
      simp only [Option.getD_some]
      revert hm
      generalize (lp incl k (rs.getD i 0) (pick ns (pls rs (rs.getD i 0))))[(pls rs (rs.getD i 0)).idxOf (i : Int)] = y
      intro hm
      unfold lp largest at hm
      have hmr := mch_range incl k (pick ns (pls rs (rs.getD i 0))).sum (rs.getD i 0)
      split at hm
      · simp at hm
      · split at hm
        · obtain ⟨_, rfl⟩ := List.mem_replicate.1 hm; omega
        · rename_i h1 h2
          have h3 := sum_nonneg _ (fun x hx => (hg.2.1 x hx).1)
          have h4 : 0 < (pick ns (pls rs (rs.getD i 0))).sum := by omega
          have h5 := bump_bound (mch incl k (pick ns (pls rs (rs.getD i 0))).sum (rs.getD i 0)) (qsOf (mch incl k (pick ns (pls rs (rs.getD i 0))).sum (rs.getD i 0)) (pick ns (pls rs (rs.getD i 0))).sum (pick ns (pls rs (rs.getD i 0)))) ((QM.ord (rsOf (mch incl k (pick ns (pls rs (rs.getD i 0))).sum (rs.getD i 0)) (pick ns (pls rs (rs.getD i 0))).sum (pick ns (pls rs (rs.getD i 0))))).take ((mch incl k (pick ns (pls rs (rs.getD i 0))).sum (rs.getD i 0)) - (qsOf (mch incl k (pick ns (pls rs (rs.getD i 0))).sum (rs.getD i 0)) (pick ns (pls rs (rs.getD i 0))).sum (pick ns (pls rs (rs.getD i 0)))).sum).toNat) (by
            intro x hx
            obtain ⟨w, hw, rfl⟩ := List.mem_map.1 hx
            have hw2 := hg.2.1 w hw
            have hw3 := le_sum _ (fun x hx => (hg.2.1 x hx).1) w hw
            refine ⟨Int.ediv_nonneg (Int.mul_nonneg hmr.1 hw2.1) (by omega), ?_⟩
            rw [Int.ediv_le_iff_le_mul h4]
            have := Int.mul_le_mul_of_nonneg_left hw3 hmr.1
            omega) y hm
          rw [List.length_take, QM.ord_length, rs_length] at h5
          omega
    · rw [List.getElem?_eq_none (by omega)]
      simp
  · obtain ⟨i, hi, rfl⟩ := List.getElem_of_mem ht
    rw [List.getElem_zipWith]
    have := mch_range incl k (ns[i]'(by rw [List.length_zipWith] at hi; omega)) (rs[i]'(by rw [List.length_zipWith] at hi; omega))
    omega
theorem goods_f (incl byo ex : Bool) (k : Int) (l : List Zn) (ns ts : List Int) (ship st : Int) (hl : ts.length = ns.length) (hn : ns.length ≤ 1000) (h0 : ∀ x ∈ ns, 0 ≤ x ∧ x ≤ 10000000000000) (ht : ∀ x ∈ ts, 0 ≤ x ∧ x ≤ 100000000100000) (hsh : 0 ≤ ship ∧ ship ≤ 10000000000000) (hst : 0 ≤ st ∧ st ≤ 100000000000000) :
    Ev (fun n => levy_Levy.l1 n ex ns [] ts ship st ns ns.length 0 incl byo k l) (outOf incl ex ns ts ship st) := by
  have hgl : (goodsOf incl ns ts).length = ns.length := by
    unfold goodsOf
    split
    · rw [List.length_zipWith]; omega
    · rfl
  have := walk_ev (F := fun n i => levy_Levy.l1 n ex ns ((goodsOf incl ns ts).take i) ts ship st ns ns.length (i : Int) incl byo k l) (n := ns.length) (r := outOf incl ex ns ts ship st)
    (Ev.step (f := fun _ => some (outOf incl ex ns ts ship st)) (fun n => by
      rw [levy_Levy.l1, if_neg (by omega), List.take_of_length_le (by omega), wrap_ok (by omega) (by omega), Int.toNat_natCast]
      unfold outOf
      cases incl <;> cases ex <;> simp only [Bool.false_eq_true, if_false, if_true] <;> first | rfl | rw [if_pos (by omega), if_pos (by omega)]) (Ev.now _))
    (fun i hi r hr => by
      have hit : i < ts.length := by omega
      have h1 := h0 _ (List.getElem_mem hi)
      have h2 := ht _ (List.getElem_mem hit)
      refine Ev.step (fun n => by
        rw [levy_Levy.l1, if_pos (by omega), if_pos (by omega), if_pos (by omega), rd_of ns i hi, rd_of ts i hit, wrap_ok (x := ns[i] - ts[i]) (by omega) (by omega), if_pos (show (i : Int) < (ts.length : Int) by omega), if_pos (show ((goodsOf incl ns ts).take i).length < 17592186044416 by rw [List.length_take]; omega), next i (by omega)]) ?_
      cases incl with
      | true =>
        simp only [if_true]
        have e : (goodsOf true ns ts).take i ++ [ns[i] - ts[i]] = (goodsOf true ns ts).take (i + 1) := by
          rw [List.take_succ_eq_append_getElem (by omega)]
          simp [goodsOf]
        rw [e]
        exact hr
      | false =>
        have hc : ((goodsOf false ns ts).take i).length < 17592186044416 := by rw [List.length_take]; omega
        simp only [Bool.false_eq_true, if_false, if_pos hc]
        have e : (goodsOf false ns ts).take i ++ [ns[i]] = (goodsOf false ns ts).take (i + 1) := by
          rw [List.take_succ_eq_append_getElem (by omega)]
          simp [goodsOf]
        rw [e]
        exact hr)
  simpa using this
theorem levy_f (incl byo : Bool) (k : Int) (l : List Zn) (zone : ByteArray) (ex : Bool) (cats : List ByteArray) (ns : List Int) (ship : Int) : Ev (fun n => levy_Levy.f n incl byo k l zone ex cats ns ship) (levyS incl byo k l zone ex cats ns ship) := by
  unfold levy_Levy.f levyS
  refine Ev.bind (may_f incl byo k l cats ns ship) ?_
  cases hm : mayOk k l cats ns ship with
  | false => exact Ev.now _
  | true =>
    obtain ⟨h1, h2, h3, h4, h5, h6⟩ := mayOk_iff.1 hm
    have ht := taxOk_zone h1
    simp only [if_true, Bool.true_eq_false, if_false]
    refine Ev.bind (zoneAt_f incl byo k l zone (by omega) (fun z hz => by have := zoneOk_len (ht.2.2 z hz); omega)) ?_
    cases hz : zoneAt l zone with
    | none => exact Ev.now _
    | some z =>
      have hzo := ht.2.2 z (zoneAt_mem hz)
      have hzl := zoneOk_len hzo
      simp only [zoneT, if_true]
      have hrl : (ratesOf z cats).length = cats.length := by simp [ratesOf]
      have hrr : ∀ r ∈ ratesOf z cats, 0 ≤ r ∧ r ≤ 10000 := by
        intro r hr
        obtain ⟨s, _, rfl⟩ := List.mem_map.1 hr
        exact rateAt_ok hzo s
      have := walk_ev (F := fun n i => levy_Levy.l0 n ex ns ship ((ratesOf z cats).take i) cats cats.length (i : Int) incl byo k l z.f0 z.f1 z.f2 z.f3) (n := cats.length) (r := outOf incl ex ns (taxesOf incl byo k (ratesOf z cats) ns) ship (mch incl k ship z.f3))
        (by
          have hj : Ev (fun n => levy_Levy.j1 n ex ns ship ([] : List Int) (ratesOf z cats) (if byo = true then 77700025 else 77700024) incl byo k l z.f0 z.f1 z.f2 z.f3) (outOf incl ex ns (taxesOf incl byo k (ratesOf z cats) ns) ship (mch incl k ship z.f3)) := by
            refine Ev.step (fun n => by rw [levy_Levy.j1, way_f incl byo k l _ ns (by omega) h3 hrr (fun x hx => (h5 x hx).1) h6, much_f _ _ _ _ _ _ hzl.2.1 hzl.2.2]) ?_
            simp only [Option.bind_some]
            exact goods_f incl byo ex k l ns _ ship _ (taxesOf_length _ _ _ _ _ (by omega)) h3 h5 (taxesOf_range _ _ _ _ _ (by omega) h3 (fun x hx => (h5 x hx).1) h6) h4 (mch_range _ _ _ _)
          refine Ev.step (fun n => by rw [levy_Levy.l0, if_neg (by omega), List.take_of_length_le (by omega)]) ?_
          cases byo with
          | true => exact hj
          | false => exact hj)
        (fun i hi r hr => by
          refine Ev.step (fun n => by rw [levy_Levy.l0, if_pos (by omega), if_pos (by omega), if_pos (by omega), rdOf_of _ cats i hi]) ?_
          refine Ev.bind (rateAt_f _ _ _ _ _ (by omega)) ?_
          have hc : ((ratesOf z cats).take i).length < 17592186044416 := by rw [List.length_take]; omega
          have e : (ratesOf z cats).take i ++ [rateAt z.f1 z.f2 cats[i]] = (ratesOf z cats).take (i + 1) := by
            rw [List.take_succ_eq_append_getElem (by omega)]
            simp [ratesOf]
          simp only [if_pos hc, next i (by omega), e]
          exact hr)
      simpa using this
end Go.Proofs.Ytmiamdnhofjifaa.YP
