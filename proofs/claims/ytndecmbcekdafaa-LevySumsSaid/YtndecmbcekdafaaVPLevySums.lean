/- The statement LevySums over lists and numbers: goods and tax make the nets, where prices have tax in them; else goods are the nets. -/
import Derived.Test.YtndecmbcekdafaaVRwLSums
import Derived.Test.YtndecmbcekdafaaVL19P
import Derived.Test.YtndecmbcekdafaaVLevyB
import Derived.Test.YtndecmbcekdafaaVKx
set_option linter.unusedVariables false
set_option linter.unusedSimpArgs false
namespace Go.Proofs.Ytndecmbcekdafaa.Pure
open Go Go.RowKit Go.Proofs.YtndecmbcekdafaaW.PrintWords Go.Proofs.YtndecmbcekdafaaW.PrintMore Go.Proofs.Ytndecmbcekdafaa.Rw Go.Proofs.Ytndecmbcekdafaa.EP Go.Proofs.Ytndecmbcekdafaa.XP Go.Proofs.Ytndecmbcekdafaa.YP Go.Proofs.Ytndecmbcekdafaa.PX Go.Proofs.Ytndecmbcekdafaa.L19 Go.Proofs.Ytndecmbcekdafaa.LV
open Go.Proofs.Ytndecmbcekdafaa.MP (md md_range mod_f mod64_f)
theorem sums_awake (x1 : Int) (x3 x4 : List Int) (x5 : Int) (i o : Bool) (k : Int) (l : List Zn) : Ev (fun n => haberdashlaw19_LevySums.j0 n x1 x3 x4 x5 true i o k l) true :=
  Ev.step (fun n => by rw [haberdashlaw19_LevySums.j0, if_pos rfl]) (Ev.bind awake_ev (Ev.now _))
theorem sums_loop (incl o : Bool) (k : Int) (l : List Zn) (ns ts : List Int) (ship st : Int) (hl : ts.length = ns.length) (hn : ns.length ≤ 1000) (h0 : ∀ x ∈ ns, 0 ≤ x ∧ x ≤ 10000000000000) (ht : ∀ x ∈ ts, 0 ≤ x ∧ x ≤ 100000000100000) (hle : incl = true → ∀ i, i < ns.length → ts.getD i 0 ≤ ns.getD i 0) (hsh : 0 ≤ ship ∧ ship ≤ 10000000000000) (hst : 0 ≤ st ∧ st ≤ 100000000000000) :
    Ev (fun n => haberdashlaw19_LevySums.l0 n ship ns (goodsOf incl ns ts) ts (if incl = true then ship - st else ship) st (List.replicate ns.length 0) 0 incl o k l) true := by
  have hgl : (goodsOf incl ns ts).length = ns.length := by
    unfold goodsOf
    split
    · rw [List.length_zipWith]; omega
    · rfl
  have := walk_ev (F := fun n i => haberdashlaw19_LevySums.l0 n ship ns (goodsOf incl ns ts) ts (if incl = true then ship - st else ship) st (List.replicate ns.length 0) (i : Int) incl o k l) (n := ns.length) (r := true)
    (by
      refine Ev.step (f := fun _ => some true) (fun n => ?_) (Ev.now _)
      rw [haberdashlaw19_LevySums.l0, if_neg (by omega)]
      cases incl with
      | true => simp only [if_true]; rw [wrap_ok (by omega) (by omega), if_pos (by omega)]
      | false => simp)
    (fun i hi r hr => by
      have hit : i < ts.length := by omega
      have h1 := h0 _ (List.getElem_mem hi)
      have h2 := ht _ (List.getElem_mem hit)
      have hr0 : rd (List.replicate ns.length 0) (i : Int) = 0 := by rw [rd_of _ i (by simpa using hi)]; simp
      have hrl : (i : Int) < ((List.replicate ns.length (0 : Int)).length : Int) := by simp; omega
      have hg : ∀ (h : i < (goodsOf incl ns ts).length), (goodsOf incl ns ts)[i] = if incl = true then ns[i] - ts[i] else ns[i] := by
        intro h
        cases incl <;> simp [goodsOf]
      refine Ev.step (fun n => by rw [haberdashlaw19_LevySums.l0, if_pos (by omega), if_pos (by omega), if_pos (show (i : Int) < (ts.length : Int) by omega), if_pos (show (i : Int) < ((goodsOf incl ns ts).length : Int) by omega), rd_of _ i (by omega), rd_of ns i hi, rd_of ts i hit, hg, if_pos hrl, hr0, wrap_ok (x := ns[i] - ts[i]) (by omega) (by omega), next i (by omega)]) ?_
      cases incl with
      | true =>
        have h3 := hle rfl i hi
        simp [hi, hit] at h3
        simp only [if_true, if_neg (show ¬ (ns[i] - ts[i] < 0) by omega), if_neg (show ¬ (ts[i] < 0) by omega)]
        exact hr
      | false =>
        simp only [Bool.false_eq_true, if_false, if_true, if_neg (show ¬ (ns[i] < 0) by omega), if_neg (show ¬ (ts[i] < 0) by omega), if_pos (show (i : Int) < ((goodsOf false ns ts).length : Int) by omega), if_pos (show (i : Int) < (ts.length : Int) by omega)]
        exact hr)
  exact this
theorem LevySums (x0 : S24) (x1 : Int) (x2 x3 : List Int) (x4 : Int) (g0 : True ∧ (True ∧ ((Lit.int .i64 x0.f2).wf = true ∧ (x0.f3.length ≤ 9223372036854775807 ∧ ∀ y0 ∈ x0.f3, (y0.f0.size ≤ 9223372036854775807 ∧ ((y0.f1.length ≤ 9223372036854775807 ∧ ∀ y1 ∈ y0.f1, (y1.f0.size ≤ 9223372036854775807 ∧ ((Lit.int .i64 y1.f1).wf = true))) ∧ ((Lit.int .i64 y0.f2).wf = true ∧ ((Lit.int .i64 y0.f3).wf = true)))))))) : ∃ k, haberdashlaw19_LevySums.f k x0.f0 x0.f1 x0.f2 x0.f3 x1 x2 x3 x4 = some true := by
  obtain ⟨i, o, k, l⟩ := x0
  have hl : l.length ≤ 9223372036854775807 := g0.2.2.2.1
  refine Ev.rounds ?_
  show Ev (fun n => haberdashlaw19_LevySums.f n i o k l x1 x2 x3 x4) true
  unfold haberdashlaw19_LevySums.f
  refine Ev.bind (few_f i o k l [] x3 hl) ?_
  cases hf : fewOk l [] x3 with
  | false => exact sums_awake _ _ _ _ _ _ _ _
  | true =>
    have h := fewOk_iff hf
    simp only [if_true]
    by_cases h3 : (x2.length : Int) > 60
    · rw [decide_eq_true h3]; exact sums_awake _ _ _ _ _ _ _ _
    rw [decide_eq_false h3]
    refine Ev.step (fun n => by rw [haberdashlaw19_LevySums.j0, if_neg (by simp)]) ?_
    refine Ev.bind (ptax_f i o k l (by omega) (fun z hz => by have := h.2.1 z hz; omega)) ?_
    rw [mod64_f _ _ (by omega) (by omega)]
    have hs := md_range x4 5000 (by omega)
    simp only [Option.bind_some]
    refine Ev.bind (near_f x2 x3 (by omega)) ?_
    rw [PX.zone_f]
    simp only [Option.bind_some]
    refine Ev.bind (levy_f i o (md k 3) (zns l) (zonN (zid x1)) false (nearC x2 x3) (nearN x3) (md x4 5000)) ?_
    refine Ev.bind (levy_f i o (md k 3) (zns l) (zonN (zid x1)) true (nearC x2 x3) (nearN x3) (md x4 5000)) ?_
    refine Ev.bind awake_ev ?_
    have hlen := levyS_len i o (md k 3) (zns l) (zonN (zid x1)) false (nearC x2 x3) (nearN x3) (md x4 5000)
    have hnl := near_len x2 x3
    have hno := netsOk_iff.1 (near_sum x3)
    have hzo := (taxOk_zone (zns_ok k l)).2.2 _ (zoneAt_mem (zone_there l _ (zid_lt x1)))
    rw [near_levy i o false k l x1 x2 x3 (md x4 5000) ⟨hs.1, by omega⟩] at hlen ⊢
    rw [near_levy i o true k l x1 x2 x3 (md x4 5000) ⟨hs.1, by omega⟩]
    have hrl : (ratesOf (znOf l (zid x1)) (nearC x2 x3)).length = (nearN x3).length := by simp [ratesOf]; omega
    have hrr : ∀ r ∈ ratesOf (znOf l (zid x1)) (nearC x2 x3), 0 ≤ r ∧ r ≤ 10000 := by
      intro r hr
      obtain ⟨s, _, rfl⟩ := List.mem_map.1 hr
      exact rateAt_ok hzo s
    have htl := taxesOf_length i o (md k 3) (ratesOf (znOf l (zid x1)) (nearC x2 x3)) (nearN x3) hrl
    have htr := taxesOf_range i o (md k 3) (ratesOf (znOf l (zid x1)) (nearC x2 x3)) (nearN x3) hrl (by omega) (fun x hx => (hno.1 x hx).1) hno.2
    have hle : i = true → ∀ j, j < (nearN x3).length → (taxesOf i o (md k 3) (ratesOf (znOf l (zid x1)) (nearC x2 x3)) (nearN x3)).getD j 0 ≤ (nearN x3).getD j 0 := by
      rintro rfl j hj
      exact LB.tax_le o _ _ _ hrl (by omega) (fun x hx => (hno.1 x hx).1) hno.2 hrr j hj
    have hms := mch_range i (md k 3) (md x4 5000) (znOf l (zid x1)).f3
    generalize taxesOf i o (md k 3) (ratesOf (znOf l (zid x1)) (nearC x2 x3)) (nearN x3) = ts at *
    generalize mch i (md k 3) (md x4 5000) (znOf l (zid x1)).f3 = st at *
    have hgl : (goodsOf i (nearN x3) ts).length = (nearN x3).length := by
      unfold goodsOf
      split
      · rw [List.length_zipWith]; omega
      · rfl
    simp only [outOf, if_true, Bool.false_eq_true, if_false]
    simp only [if_pos (show ((goodsOf i (nearN x3) ts).length : Int) = ((nearN x3).length : Int) by omega), if_pos (show (ts.length : Int) = ((nearN x3).length : Int) by omega)]
    refine Ev.bind (PL.int64_f _ _ (by omega)) ?_
    simp only [decide_true, if_true, List.length_replicate]
    rw [show ((0 : Int) != 0) = false from rfl]
    refine Ev.step (fun n => by rw [haberdashlaw19_LevySums.j1, if_neg (by simp)]) ?_
    exact sums_loop i o (md k 3) (zns l) (nearN x3) ts (md x4 5000) st htl (by omega) hno.1 htr hle ⟨hs.1, by omega⟩ hms
end Go.Proofs.Ytndecmbcekdafaa.Pure
