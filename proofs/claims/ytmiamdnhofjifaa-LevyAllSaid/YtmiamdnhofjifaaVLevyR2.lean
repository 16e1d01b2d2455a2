/- The reference's Levy, whole. Plain Lean. -/
import Derived.Test.YtmiamdnhofjifaaVLevyR
set_option linter.unusedVariables false
set_option linter.unusedSimpArgs false
namespace Go.Proofs.Ytmiamdnhofjifaa.YR
open Go Go.RowKit Go.Proofs.YtmiamdnhofjifaaW.PrintWords Go.Proofs.YtmiamdnhofjifaaW.PrintMore Go.Proofs.Ytmiamdnhofjifaa.Rw Go.Proofs.Ytmiamdnhofjifaa.EP Go.Proofs.Ytmiamdnhofjifaa.NP Go.Proofs.Ytmiamdnhofjifaa.XP Go.Proofs.Ytmiamdnhofjifaa.LV Go.Proofs.Ytmiamdnhofjifaa.GP Go.Proofs.Ytmiamdnhofjifaa.SP Go.Proofs.Ytmiamdnhofjifaa.YP

theorem netsOk_prefix {ns : List Int} (h : netsOk ns = true) (i : Nat) (hi : i < ns.length) : 0 ≤ ns[i] ∧ ns[i] ≤ 10000000000000 - (ns.take i).sum := by
  have h2 := netsOk_iff.1 h
  have h3 := sum_take_le ns (fun x hx => (h2.1 x hx).1) (i + 1)
  rw [sum_take_succ ns i hi] at h3
  exact ⟨(h2.1 _ (List.getElem_mem hi)).1, by omega⟩
theorem end_f (incl byo ex : Bool) (k : Int) (l : List Zn) (ns ts : List Int) (ship st : Int) (hl : ts.length = ns.length) (hn : ns.length ≤ 1000) (h0 : ∀ x ∈ ns, 0 ≤ x ∧ x ≤ 10000000000000) (ht : ∀ x ∈ ts, 0 ≤ x ∧ x ≤ 100000000100000) (hsh : 0 ≤ ship ∧ ship ≤ 10000000000000) (hst : 0 ≤ st ∧ st ≤ 100000000000000) :
    Ev (fun n => haberdashref15_Levy.j3 n ex ns ship incl byo k l ns ts ship st) (outOf incl ex ns ts ship st) := by
  refine Ev.step (fun n => by rw [haberdashref15_Levy.j3]) ?_
  have hj : ∀ g, g = goodsOf incl ns ts → Ev (fun n => haberdashref15_Levy.j5 n ex ns ship incl byo k l g ts ship st) (outOf incl ex ns ts ship st) := by
    rintro g rfl
    refine Ev.step (f := fun _ => some (outOf incl ex ns ts ship st)) (fun n => ?_) (Ev.now _)
    rw [haberdashref15_Levy.j5, wrap_ok (by omega) (by omega), Int.toNat_natCast]
    unfold outOf
    cases incl <;> cases ex <;> simp only [Bool.false_eq_true, if_false, if_true] <;> first | rfl | rw [if_pos (by omega), if_pos (by omega)]
  cases incl with
  | false =>
    by_cases hz : (0 : Int) < (ns.length : Int)
    · exact Ev.step (fun n => by rw [haberdashref15_Levy.l2, if_pos hz, if_neg (by simp)]) (hj ns (by simp [goodsOf]))
    · exact Ev.step (fun n => by rw [haberdashref15_Levy.l2, if_neg hz]) (hj ns (by simp [goodsOf]))
  | true =>
    have hgl : (goodsOf true ns ts).length = ns.length := by simp [goodsOf]; omega
    have := walk_ev (F := fun n i => haberdashref15_Levy.l2 n ex ns ship (i : Int) true byo k l ((goodsOf true ns ts).take i ++ ns.drop i) ts ship st) (n := ns.length) (r := outOf true ex ns ts ship st)
      (Ev.step (fun n => by rw [haberdashref15_Levy.l2, if_neg (by omega), List.drop_length, List.append_nil, List.take_of_length_le (by omega)]) (hj _ rfl))
      (fun i hi r hr => by
        have hit : i < ts.length := by omega
        have h1 := h0 _ (List.getElem_mem hi)
        have h2 := ht _ (List.getElem_mem hit)
        refine Ev.step (fun n => by rw [haberdashref15_Levy.l2, if_pos (by omega), if_pos rfl, if_pos (by omega), if_pos (by omega), if_pos (by simp; omega), rd_of ns i hi, rd_of ts i hit, wrap_ok (x := ns[i] - ts[i]) (by omega) (by omega), next i (by omega), Int.toNat_natCast]) ?_
        have hk : ((goodsOf true ns ts).take i).length = i := by rw [List.length_take]; omega
        have e : ((goodsOf true ns ts).take i ++ ns.drop i).set i (ns[i] - ts[i]) = (goodsOf true ns ts).take (i + 1) ++ ns.drop (i + 1) := by
          rw [List.set_append, if_neg (by omega), hk, Nat.sub_self, List.drop_eq_getElem_cons hi, List.set_cons_zero, List.take_succ_eq_append_getElem (by omega), List.append_assoc]
          simp [goodsOf]
        rw [e]
        exact hr)
    simpa using this
theorem rlevy_f (incl byo : Bool) (k : Int) (l : List Zn) (zone : ByteArray) (ex : Bool) (cats : List ByteArray) (ns : List Int) (ship : Int) (hf : few l) : Ev (fun n => haberdashref15_Levy.f n incl byo k l zone ex cats ns ship) (levyS incl byo k l zone ex cats ns ship) := by
  unfold haberdashref15_Levy.f levyS
  have bad : Ev (fun n => haberdashref15_Levy.j0 n zone ex cats ns ship true incl byo k l) (([], [], 0, 0, 2) : Out) := Ev.step (fun n => by rw [haberdashref15_Levy.j0, if_pos rfl]) (Ev.now _)
  refine Ev.bind (rtax_f incl byo k l hf) ?_
  unfold mayOk
  cases ht : taxOk k l with
  | false => exact bad
  | true =>
    have ht2 := taxOk_zone ht
    simp only [if_true, Bool.true_and]
    by_cases h1 : (cats.length : Int) = (ns.length : Int)
    · simp only [if_pos h1]
      rw [show decide (cats.length = ns.length) = true from decide_eq_true (by omega), Bool.true_and]
      by_cases h2 : (ns.length : Int) > 1000
      · simp only [if_pos h2]
        rw [show decide (ns.length ≤ 1000) = false from decide_eq_false (by omega), Bool.false_and, if_pos rfl]
        exact bad
      · simp only [if_neg h2]
        rw [show decide (ns.length ≤ 1000) = true from decide_eq_true (by omega), Bool.true_and]
        by_cases h3 : ship < 0
        · simp only [if_pos h3]
          rw [show decide (0 ≤ ship) = false from decide_eq_false (by omega), Bool.false_and, Bool.false_and, if_pos rfl]
          exact bad
        · simp only [if_neg h3]
          rw [show decide (0 ≤ ship) = true from decide_eq_true (by omega), Bool.true_and]
          by_cases h4 : ship > 10000000000000
          · rw [decide_eq_true h4, show decide (ship ≤ 10000000000000) = false from decide_eq_false (by omega), Bool.false_and, if_pos rfl]
            exact bad
          · rw [decide_eq_false h4, show decide (ship ≤ 10000000000000) = true from decide_eq_true (by omega), Bool.true_and]
            refine Ev.step (fun n => by rw [haberdashref15_Levy.j0, if_neg (by simp)]) ?_
            have hn : ns.length ≤ 1000 := by omega
            cases hno : netsOk ns with
            | false =>
              rw [if_pos rfl]
              have key : ∀ d i, i + d = ns.length → (∀ j (h : j < ns.length), j < i → 0 ≤ ns[j] ∧ ns[j] ≤ 10000000000000 - (ns.take j).sum) → 0 ≤ (ns.take i).sum → (ns.take i).sum ≤ 10000000000000 → Ev (fun n => haberdashref15_Levy.l0 n zone ex cats ns ship (ns.take i).sum (i : Int) incl byo k l) (([], [], 0, 0, 2) : Out) := by
                intro d
                induction d with
                | zero =>
                  intro i hi ha hb0 hb
                  exfalso
                  obtain rfl : i = ns.length := by omega
                  rw [List.take_length] at hb hb0
                  have hnn : ∀ x ∈ ns, 0 ≤ x := by
                    intro x hx
                    obtain ⟨j, hj, rfl⟩ := List.getElem_of_mem hx
                    exact (ha j hj hj).1
                  have : netsOk ns = true := netsOk_iff.2 ⟨fun x hx => ⟨hnn x hx, by have := le_sum ns hnn x hx; omega⟩, hb⟩
                  rw [this] at hno
                  cases hno
                | succ d ih =>
                  intro i hi ha hb0 hb
                  have hlt : i < ns.length := by omega
                  refine Ev.step (fun n => by rw [haberdashref15_Levy.l0, if_pos (by omega), if_pos (by omega), rd_of ns i hlt, wrap_ok (x := 10000000000000 - (ns.take i).sum) (by omega) (by omega), next i (by omega)]) ?_
                  by_cases h5 : ns[i] < 0
                  · simp only [if_pos h5]
                    exact Ev.now _
                  · simp only [if_neg h5]
                    by_cases h6 : ns[i] > 10000000000000 - (ns.take i).sum
                    · simp only [if_pos h6]
                      exact Ev.now _
                    · simp only [if_neg h6]
                      rw [wrap_ok (by omega) (by omega), ← sum_take_succ ns i hlt]
                      have hs := sum_take_succ ns i hlt
                      refine ih (i + 1) (by omega) (fun j hj hji => ?_) (by omega) (by omega)
                      rcases Nat.lt_or_ge j i with h7 | h7
                      · exact ha j hj h7
                      · obtain rfl : j = i := by omega
                        omega
              have := key ns.length 0 (by omega) (fun j _ h => by omega) (by simp) (by simp)
              simpa using this
            | true =>
              rw [if_neg (by simp)]
              have hnk := netsOk_iff.1 hno
              have hcont : Ev (fun n => haberdashref15_Levy.l0 n zone ex cats ns ship ns.sum (ns.length : Int) incl byo k l) (match zoneAt l zone with
                  | none => (([], [], 0, 0, 7) : Out)
                  | some z => outOf incl ex ns (taxesOf incl byo k (ratesOf z cats) ns) ship (mch incl k ship z.f3)) := by
                refine Ev.step (fun n => by rw [haberdashref15_Levy.l0, if_neg (by omega)]) ?_
                refine Ev.bind (rzoneAt_f incl byo k l zone (by omega)) ?_
                cases hz : zoneAt l zone with
                | none => exact Ev.now _
                | some z =>
                  have hzo := ht2.2.2 z (zoneAt_mem hz)
                  have hzl := zoneOk_len hzo
                  simp only [zoneT, if_true, Option.bind_some, List.length_nil, Nat.zero_add, List.nil_append, if_pos (show ns.length < 17592186044416 by omega)]
                  refine Ev.bind (part_f incl byo k l _ _ hzl.2.1 hzl.2.2) ?_
                  have hrl : (ratesOf z cats).length = ns.length := by simp [ratesOf]; omega
                  have hrr : ∀ r ∈ ratesOf z cats, 0 ≤ r ∧ r ≤ 10000 := by
                    intro r hr
                    obtain ⟨s, _, rfl⟩ := List.mem_map.1 hr
                    exact rateAt_ok hzo s
                  have hzl2 : (List.zipWith (fun x r => mch incl k x r) ns (ratesOf z cats)).length = ns.length := by rw [List.length_zipWith]; omega
                  have hmr := mch_range incl k ship z.f3
                  have hend := end_f incl byo ex k l ns (taxesOf incl byo k (ratesOf z cats) ns) ship (mch incl k ship z.f3) (taxesOf_length _ _ _ _ _ hrl) hn hnk.1 (taxesOf_range _ _ _ _ _ hrl hn (fun x hx => (hnk.1 x hx).1) hnk.2) ⟨by omega, by omega⟩ hmr
                  generalize mch incl k ship z.f3 = st at hmr hend ⊢
                  have := walk_ev (F := fun n i => haberdashref15_Levy.l1 n ex cats ns ship ((ratesOf z cats).take i) (i : Int) incl byo k l z.f0 z.f1 z.f2 z.f3 ns ((List.zipWith (fun x r => mch incl k x r) ns (ratesOf z cats)).take i) ship st) (n := ns.length) (r := outOf incl ex ns (taxesOf incl byo k (ratesOf z cats) ns) ship st)
                    (by
                      refine Ev.step (fun n => by rw [haberdashref15_Levy.l1, if_neg (by omega), List.take_of_length_le (by omega), List.take_of_length_le (by omega)]) ?_
                      unfold taxesOf at hend ⊢
                      cases byo with
                      | true =>
                        simp only [if_true] at hend ⊢
                        refine Ev.bind (byOrder_f incl true k l _ ns hrl hn hrr (fun x hx => (hnk.1 x hx).1) hnk.2) ?_
                        exact hend
                      | false =>
                        simp only [Bool.false_eq_true, if_false] at hend ⊢
                        exact hend)
                    (fun i hi r hr => by
                      have hic : i < cats.length := by omega
                      have hir : i < (ratesOf z cats).length := by omega
                      refine Ev.step (fun n => by rw [haberdashref15_Levy.l1, if_pos (by omega), if_pos (by omega), if_pos (by omega), rdOf_of _ cats i hic]) ?_
                      refine Ev.bind (rrateAt_f _ _ _ _ _ (by omega)) ?_
                      have hc : ((ratesOf z cats).take i).length < 17592186044416 := by rw [List.length_take]; omega
                      have hri : (ratesOf z cats)[i] = rateAt z.f1 z.f2 cats[i] := by simp [ratesOf]
                      have e : (ratesOf z cats).take i ++ [rateAt z.f1 z.f2 cats[i]] = (ratesOf z cats).take (i + 1) := by
                        rw [List.take_succ_eq_append_getElem hir, hri]
                      have hl2 : (i : Int) < (((ratesOf z cats).take (i + 1)).length : Int) := by rw [List.length_take]; omega
                      have hrd : rd ((ratesOf z cats).take (i + 1)) (i : Int) = (ratesOf z cats)[i] := by
                        rw [rd_of _ i (by rw [List.length_take]; omega), List.getElem_take]
                      have hrb := hrr _ (List.getElem_mem hir)
                      simp only [if_pos hc, next i (by omega), e, Option.bind_some, if_pos hl2, rd_of ns i hi, hrd]
                      refine Ev.bind (part_f incl byo k l _ _ hrb.1 hrb.2) ?_
                      have hc2 : ((List.zipWith (fun x r => mch incl k x r) ns (ratesOf z cats)).take i).length < 17592186044416 := by rw [List.length_take]; omega
                      have e2 : (List.zipWith (fun x r => mch incl k x r) ns (ratesOf z cats)).take i ++ [mch incl k ns[i] (ratesOf z cats)[i]] = (List.zipWith (fun x r => mch incl k x r) ns (ratesOf z cats)).take (i + 1) := by
                        rw [List.take_succ_eq_append_getElem (by omega), List.getElem_zipWith]
                      simp only [if_pos hc2, e2]
                      exact hr)
                  simpa using this
              have := walk_ev (F := fun n i => haberdashref15_Levy.l0 n zone ex cats ns ship (ns.take i).sum (i : Int) incl byo k l) (n := ns.length) (by rw [List.take_length]; exact hcont)
                (fun i hi r hr => by
                  have hp := netsOk_prefix hno i hi
                  have hs0 := sum_take_le ns (fun x hx => (hnk.1 x hx).1) i
                  refine Ev.step (fun n => by rw [haberdashref15_Levy.l0, if_pos (by omega), if_pos (by omega), rd_of ns i hi, wrap_ok (x := 10000000000000 - (ns.take i).sum) (by omega) (by omega), next i (by omega), if_neg (by omega), if_neg (by omega), wrap_ok (by omega) (by omega), ← sum_take_succ ns i hi]) hr)
              exact this
    · simp only [if_neg h1]
      rw [show decide (cats.length = ns.length) = false from decide_eq_false (by omega), Bool.false_and, if_pos rfl]
      exact bad
end Go.Proofs.Ytmiamdnhofjifaa.YR
