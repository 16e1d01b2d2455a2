/- The statement TenderGreatest over lists and numbers: what a split tells, and who gives. -/
import Derived.Test.YtebochcdbknodaaVRwGreat
import Derived.Test.YtebochcdbknodaaVL22P
set_option linter.unusedVariables false
set_option linter.unusedSimpArgs false
namespace Go.Proofs.Ytebochcdbknodaa.Pure
open Go Go.RowKit Go.Proofs.YtebochcdbknodaaW.PrintWords Go.Proofs.Ytebochcdbknodaa.Rw Go.Proofs.Ytebochcdbknodaa.SP Go.Proofs.Ytebochcdbknodaa.ST Go.Proofs.Ytebochcdbknodaa.QM Go.Proofs.Ytebochcdbknodaa.LT Go.Proofs.Ytebochcdbknodaa.MP
open Go.Proofs.Ytebochcdbknodaa.TP (nxt rdT_of rdB_of)

abbrev tn (l : List Ten) (i : Nat) : Ten := l.getD i zT
theorem tn_tok {l : List Ten} (h : ∀ x ∈ l, tok x = true) {i : Nat} (hi : i < l.length) : tok (tn l i) = true := by
  unfold tn; rw [getD_of hi]; exact h _ (List.getElem_mem hi)
theorem mn_zero {d : Int} (h : 0 ≤ d) : mn d 0 = 0 := by have := mn_le d 0; have := mn_nonneg h (Int.le_refl 0); omega
theorem app_zero (is : List Int) : ∀ (l : List Ten), (∀ x ∈ l, tok x = true) → (∀ z ∈ is, 0 ≤ z ∧ z < (l.length : Int)) → app l is 0 = l := by
  induction is with
  | nil => intro l _ _; rfl
  | cons i is ih =>
    intro l h hr
    have hi := hr i List.mem_cons_self
    have hil : i.toNat < l.length := by omega
    have hm : mn (dif (l.getD i.toNat zT)) 0 = 0 := mn_zero (tok_dif (tn_tok h hil))
    show app (setG l i.toNat (mn (dif (l.getD i.toNat zT)) 0)) is (0 - mn (dif (l.getD i.toNat zT)) 0) = l
    rw [hm, setG_zero l _ hil, Int.sub_zero]
    exact ih l h (fun z hz => hr z (List.mem_cons_of_mem _ hz))
/-- Who is asked later gives nothing while who is asked earlier has something left. -/
theorem app_later (is : List Int) : ∀ (l : List Ten) (a : Int), 0 ≤ a → (∀ x ∈ l, tok x = true) → is.Nodup → (∀ z ∈ is, 0 ≤ z ∧ z < (l.length : Int)) → ∀ (p : List Int) (z1 : Int) (q : List Int) (z2 : Int), is = p ++ z1 :: q → z2 ∈ q →
    (tn (app l is a) z1.toNat).f2 < (tn (app l is a) z1.toNat).f1 → (tn (app l is a) z2.toNat).f2 = (tn l z2.toNat).f2 := by
  induction is with
  | nil => intro l a _ _ _ _ p z1 q z2 h; cases p <;> cases h
  | cons i is ih =>
    intro l a ha h hn hr p z1 q z2 he hq
    have hi := hr i List.mem_cons_self
    have hil : i.toNat < l.length := by omega
    have hn' := List.nodup_cons.1 hn
    have hd0 := tok_dif (tn_tok h hil)
    have hm := mn_le (dif (l.getD i.toNat zT)) a
    have hm0 := mn_nonneg hd0 ha
    have hm1 : mn (dif (l.getD i.toNat zT)) a = a ∨ mn (dif (l.getD i.toNat zT)) a = dif (l.getD i.toNat zT) := by unfold mn; split <;> simp
    have hall : ∀ x ∈ setG l i.toNat (mn (dif (l.getD i.toNat zT)) a), tok x = true := all_setG h _ hil _ hm0 (by rw [← getD_of hil]; exact hm.1)
    have hrr : ∀ z ∈ is, 0 ≤ z ∧ z < ((setG l i.toNat (mn (dif (l.getD i.toNat zT)) a)).length : Int) := fun z hz => by rw [setG_length]; exact hr z (List.mem_cons_of_mem _ hz)
    have hfar : ∀ z ∈ is, z.toNat ≠ i.toNat := fun z hz e => by
      have := hr z (List.mem_cons_of_mem _ hz)
      have : z = i := by omega
      rw [this] at hz
      exact hn'.1 hz
    show (tn (app (setG l i.toNat (mn (dif (l.getD i.toNat zT)) a)) is (a - mn (dif (l.getD i.toNat zT)) a)) z1.toNat).f2 < (tn (app (setG l i.toNat (mn (dif (l.getD i.toNat zT)) a)) is (a - mn (dif (l.getD i.toNat zT)) a)) z1.toNat).f1 → (tn (app (setG l i.toNat (mn (dif (l.getD i.toNat zT)) a)) is (a - mn (dif (l.getD i.toNat zT)) a)) z2.toNat).f2 = _
    cases p with
    | nil =>
      obtain ⟨rfl, rfl⟩ : i = z1 ∧ is = q := by injection he with h1 h2; exact ⟨h1, h2⟩
      intro hlt
      have e1 : tn (app (setG l i.toNat (mn (dif (l.getD i.toNat zT)) a)) is (a - mn (dif (l.getD i.toNat zT)) a)) i.toNat = addG (tn l i.toNat) (mn (dif (l.getD i.toNat zT)) a) := by
        unfold tn
        rw [app_get_far is _ _ _ hfar]
        unfold setG
        simp [hil]
      rw [e1] at hlt
      have hlt2 : (tn l i.toNat).f2 + mn (dif (l.getD i.toNat zT)) a < (tn l i.toNat).f1 := hlt
      have ha0 : a - mn (dif (l.getD i.toNat zT)) a = 0 := by
        rcases hm1 with h1 | h1
        · omega
        · have : dif (l.getD i.toNat zT) = (tn l i.toNat).f1 - (tn l i.toNat).f2 := rfl
          omega
      rw [ha0, app_zero is _ hall hrr]
      unfold tn
      rw [setG_get _ _ _ _ (fun e => hfar z2 hq e.symm)]
    | cons j p =>
      obtain ⟨rfl, he2⟩ : i = j ∧ is = p ++ z1 :: q := by injection he with h1 h2; exact ⟨h1, h2⟩
      intro hlt
      have hz2 : z2 ∈ is := by rw [he2]; exact List.mem_append_right _ (List.mem_cons_of_mem _ hq)
      have := ih _ (a - mn (dif (l.getD i.toNat zT)) a) (by omega) hall hn'.2 hrr p z1 q z2 he2 hq hlt
      rw [this]
      unfold tn
      rw [setG_get _ _ _ _ (fun e => hfar z2 hz2 e.symm)]
def sumB (bs : List Bak) : Int := (bs.map (·.f1)).sum
theorem gives_zero (l : List Ten) (cr : List Int) (h : ∀ x ∈ l, tok x = true) (is : List Int) : (∀ z ∈ is, 0 ≤ z ∧ z < (l.length : Int)) → gives l cr is 0 = [] := by
  induction is with
  | nil => intro _; rfl
  | cons i is ih =>
    intro hr
    have hi := hr i List.mem_cons_self
    have hil : i.toNat < l.length := by omega
    have hm : gives.mn (dif (l.getD i.toNat zT)) 0 = 0 := mn_zero (tok_dif (tn_tok h hil))
    show (if 0 < gives.mn (dif (l.getD i.toNat zT)) 0 then _ else gives l cr is 0) = []
    rw [hm, if_neg (by omega)]
    exact ih (fun z hz => hr z (List.mem_cons_of_mem _ hz))
/-- What a split tells, one by one. -/
theorem gives_props (l : List Ten) (cr : List Int) (h : ∀ x ∈ l, tok x = true) (is : List Int) : ∀ (a : Int), 0 ≤ a → (∀ z ∈ is, 0 ≤ z ∧ z < (l.length : Int)) →
    (sumB (gives l cr is a) = mn a (haveL l is) ∧ 0 ≤ haveL l is) ∧ (∀ b ∈ gives l cr is a, 0 ≤ b.f0 ∧ b.f0 < (l.length : Int) ∧ 1 ≤ b.f1 ∧ b.f1 ≤ dif (tn l b.f0.toNat)) ∧ (∀ p b q, gives l cr is a = p ++ b :: q → q ≠ [] → b.f1 = dif (tn l b.f0.toNat)) := by
  induction is with
  | nil =>
    intro a ha _
    refine ⟨⟨?_, Int.le_refl 0⟩, fun b hb => (by cases hb), fun p b q he => (by cases p <;> cases he)⟩
    show (0 : Int) = mn a 0
    unfold mn; split <;> omega
  | cons i is ih =>
    intro a ha hr
    have hi := hr i List.mem_cons_self
    have hil : i.toNat < l.length := by omega
    have hd0 := tok_dif (tn_tok h hil)
    have hrr : ∀ z ∈ is, 0 ≤ z ∧ z < (l.length : Int) := fun z hz => hr z (List.mem_cons_of_mem _ hz)
    obtain ⟨n, hn⟩ : ∃ n, mn (dif (l.getD i.toNat zT)) a = n := ⟨_, rfl⟩
    have hm := mn_le (dif (l.getD i.toNat zT)) a
    have hm0 := mn_nonneg hd0 ha
    have hm1 : n = a ∨ n = dif (l.getD i.toNat zT) := by rw [← hn]; unfold mn; split <;> simp
    rw [hn] at hm hm0
    have hh : haveL l (i :: is) = dif (l.getD i.toNat zT) + haveL l is := by simp [haveL]
    have e : gives l cr (i :: is) a = if 0 < n then (⟨i, n, decide (plc cr (l.getD i.toNat zT).f0 < cr.length)⟩ : Bak) :: gives l cr is (a - n) else gives l cr is a := by
      show (if 0 < gives.mn (dif (l.getD i.toNat zT)) a then _ else _) = _
      rw [show gives.mn (dif (l.getD i.toNat zT)) a = n from hn]
    rw [e, hh]
    have ihn := ih (a - n) (by omega) hrr
    by_cases hp : 0 < n
    · rw [if_pos hp]
      refine ⟨⟨?_, by have := ihn.1.2; have : 0 ≤ dif (l.getD i.toNat zT) := hd0; omega⟩, ?_, ?_⟩
      · have h1 := ihn.1.1
        have h2 := ihn.1.2
        have : sumB ((⟨i, n, decide (plc cr (l.getD i.toNat zT).f0 < cr.length)⟩ : Bak) :: gives l cr is (a - n)) = n + sumB (gives l cr is (a - n)) := by simp [sumB]
        rw [this, h1]
        have hd1 : 0 ≤ dif (l.getD i.toNat zT) := hd0
        generalize dif (l.getD i.toNat zT) = D at *
        generalize haveL l is = E at *
        unfold mn at hn ⊢
        split at hn <;> split <;> split <;> omega
      · intro b hb
        rcases List.mem_cons.1 hb with rfl | hb
        · exact ⟨hi.1, hi.2, by show 1 ≤ n; omega, hm.1⟩
        · exact ihn.2.1 b hb
      · intro p b q he hq
        cases p with
        | nil =>
          obtain ⟨rfl, rfl⟩ : _ = b ∧ _ = q := by injection he with h1 h2; exact ⟨h1, h2⟩
          rcases hm1 with h1 | h1
          · exact absurd (by rw [h1, Int.sub_self]; exact gives_zero l cr h is hrr) hq
          · exact h1
        | cons j p =>
          injection he with h1 h2
          exact ihn.2.2 p b q h2 hq
    · rw [if_neg hp]
      have ih0 := ih a ha hrr
      refine ⟨⟨?_, by have := ih0.1.2; have : 0 ≤ dif (l.getD i.toNat zT) := hd0; omega⟩, ih0.2.1, ih0.2.2⟩
      rw [ih0.1.1]
      have h2 := ih0.1.2
      have hd1 : 0 ≤ dif (l.getD i.toNat zT) := hd0
      generalize dif (l.getD i.toNat zT) = D at *
      generalize haveL l is = E at *
      unfold mn at hn ⊢
      split at hn <;> split <;> split <;> omega
/-- The first place of a number from place n on; how many there are, if there is none. -/
def pf (o : List Int) (x : Int) (n : Nat) : Nat := n + (o.drop n).findIdx (fun y => x == y)
theorem pf_zero (o : List Int) (x : Int) : pf o x 0 = plc o x := by simp [pf, plc]
theorem pf_end (o : List Int) (x : Int) : pf o x o.length = o.length := by simp [pf]
theorem pf_step (o : List Int) (x : Int) (n : Nat) (h : n < o.length) : pf o x n = if o[n] = x then n else pf o x (n + 1) := by
  unfold pf
  rw [List.drop_eq_getElem_cons h, List.findIdx_cons]
  by_cases e : o[n] = x
  · simp [e]
  · have : (x == o[n]) = false := by simpa using fun e2 => e e2.symm
    simp [this, e]; omega
def earl (l : List Ten) (o : List Int) (i j : Nat) : Bool :=
  if plc o (tn l i).f0 = plc o (tn l j).f0 then (if (tn l i).f0 = (tn l j).f0 then decide ((i : Int) < (j : Int)) else decide ((tn l i).f0 < (tn l j).f0)) else decide ((plc o (tn l i).f0 : Int) < (plc o (tn l j).f0 : Int))
theorem earl_ev (l : List Ten) (o : List Int) (i j : Nat) (hi : i < l.length) (hj : j < l.length) (ho : o.length ≤ 1000000) : Ev (fun k => haberdashlaw22_earlier.f k l o i j) (earl l o i j) := by
  have key : ∀ n, n ≤ o.length → Ev (fun k => haberdashlaw22_earlier.l0 k l o i j (pf o (tn l i).f0 n : Nat) (pf o (tn l j).f0 n : Nat) ((n : Int) - 1)) (earl l o i j) := by
    intro n
    induction n with
    | zero =>
      intro _
      refine Ev.step (f := fun _ => some (earl l o i j)) (fun k => ?_) (Ev.now _)
      rw [haberdashlaw22_earlier.l0, if_neg (by omega), pf_zero, pf_zero]
      unfold earl
      show (if (plc o (tn l i).f0 : Int) = (plc o (tn l j).f0 : Int) then (if 0 ≤ (i : Int) then (if (i : Int) < (l.length : Int) then (if 0 ≤ (j : Int) then (if (j : Int) < (l.length : Int) then (if (tn l i).f0 = (tn l j).f0 then some (decide ((i : Int) < (j : Int))) else some (decide ((tn l i).f0 < (tn l j).f0))) else none) else none) else none) else none) else some (decide ((plc o (tn l i).f0 : Int) < (plc o (tn l j).f0 : Int)))) = _
      rw [if_pos (by omega : 0 ≤ (i : Int)), if_pos (by omega : (i : Int) < (l.length : Int)), if_pos (by omega : 0 ≤ (j : Int)), if_pos (by omega : (j : Int) < (l.length : Int))]
      by_cases h : plc o (tn l i).f0 = plc o (tn l j).f0
      · rw [if_pos (by omega), if_pos h]
        split <;> rfl
      · rw [if_neg (by omega), if_neg h]
    | succ n ih =>
      intro hn
      have hno : n < o.length := by omega
      have hw : wrap64 (((n + 1 : Nat) : Int) - 1 - 1) = (n : Int) - 1 := by rw [wrap_ok (by omega) (by omega)]; omega
      refine Ev.step (fun k => ?_) (ih (by omega))
      rw [haberdashlaw22_earlier.l0, if_pos (by omega), if_pos (by omega), if_pos (by omega), if_pos (by omega), if_pos (by omega), hw]
      have hr : rd o (((n + 1 : Nat) : Int) - 1) = o[n] := by
        rw [show (((n + 1 : Nat) : Int) - 1) = (n : Int) by omega]
        simp [rd, hno]
      have he : ((n + 1 : Nat) : Int) - 1 = (n : Int) := by omega
      rw [hr, he, pf_step o (tn l i).f0 n hno, pf_step o (tn l j).f0 n hno]
      by_cases h1 : o[n] = (tn l i).f0
      · rw [if_pos (show o[n] = (rd_T39 l (i : Int)).f0 from h1), if_pos h1, if_pos (by omega), if_pos (by omega)]
        by_cases h2 : o[n] = (tn l j).f0
        · rw [if_pos (show o[n] = (rd_T39 l (j : Int)).f0 from h2), if_pos h2]
        · rw [if_neg (show ¬ o[n] = (rd_T39 l (j : Int)).f0 from h2), if_neg h2]
      · rw [if_neg (show ¬ o[n] = (rd_T39 l (i : Int)).f0 from h1), if_neg h1, if_pos (by omega), if_pos (by omega)]
        by_cases h2 : o[n] = (tn l j).f0
        · rw [if_pos (show o[n] = (rd_T39 l (j : Int)).f0 from h2), if_pos h2]
        · rw [if_neg (show ¬ o[n] = (rd_T39 l (j : Int)).f0 from h2), if_neg h2]
  have := key o.length (Nat.le_refl _)
  rw [pf_end, pf_end] at this
  refine Ev.congr (fun k => ?_) this
  unfold haberdashlaw22_earlier.f
  rw [wrap_ok (by omega) (by omega)]
/-- Who is asked earlier stands ahead. -/
theorem earl_pos (l : List Ten) (o : List Int) (h : ∀ x ∈ l, tok x = true) (i j : Nat) (hi : i < l.length) (hj : j < l.length) (he : earl l o i j = true) : ∃ p q, ord (ranks o l) = p ++ (i : Int) :: q ∧ (j : Int) ∈ q := by
  have hrl := ranks_length o l
  have hti : (ranks o l)[i]'(by omega) = -(tat o (tn l i)) := by unfold tn; rw [getD_of hi]; simp [ranks]
  have htj : (ranks o l)[j]'(by omega) = -(tat o (tn l j)) := by unfold tn; rw [getD_of hj]; simp [ranks]
  have hki := tok_iff.1 (tn_tok h hi)
  have hkj := tok_iff.1 (tn_tok h hj)
  have hle1 := plc_le o (tn l i).f0
  have hle2 := plc_le o (tn l j).f0
  have hlt : tat o (tn l i) < tat o (tn l j) ∨ (tat o (tn l i) = tat o (tn l j) ∧ i < j) := by
    unfold earl at he
    unfold tat
    by_cases h1 : plc o (tn l i).f0 = plc o (tn l j).f0
    · rw [if_pos h1] at he
      by_cases h2 : (tn l i).f0 = (tn l j).f0
      · rw [if_pos h2] at he
        have := of_decide_eq_true he
        rw [h1, h2]
        exact .inr ⟨rfl, by omega⟩
      · rw [if_neg h2] at he
        have := of_decide_eq_true he
        have hn : ¬ plc o (tn l i).f0 < o.length := by
          intro h3
          have e1 := plc_get h3
          have h4 : plc o (tn l j).f0 < o.length := by omega
          have e2 := plc_get h4
          apply h2
          rw [← e1, ← e2]
          congr 1
        rw [if_neg hn, if_neg (by omega)]
        exact .inl (by omega)
    · rw [if_neg h1] at he
      have := of_decide_eq_true he
      rw [if_pos (by omega)]
      split
      · exact .inl (by omega)
      · exact .inl (by omega)
  have hij : i ≠ j := by rintro rfl; omega
  have him : (i : Int) ∈ ord (ranks o l) := (ord_mem _ _).2 ⟨by omega, by omega⟩
  have hjm : (j : Int) ∈ ord (ranks o l) := (ord_mem _ _).2 ⟨by omega, by omega⟩
  obtain ⟨p, q, hpq⟩ := List.append_of_mem him
  refine ⟨p, q, hpq, ?_⟩
  rw [hpq] at hjm
  rcases List.mem_append.1 hjm with hjp | hjp
  · exfalso
    have hnd := ord_nodup (ranks o l)
    have hnp : (i : Int) ∉ p := by
      intro hip
      rw [hpq] at hnd
      exact (List.nodup_append.1 hnd).2.2 _ hip _ List.mem_cons_self rfl
    have := ord_ahead (ranks o l) p.length j i (by omega) (by omega) (by rw [hpq, List.take_left']; exact hjp; rfl) (by rw [hpq, List.take_left']; exact hnp; rfl)
    rw [hti, htj] at this
    omega
  · rcases List.mem_cons.1 hjp with h1 | h1
    · exact absurd (by omega) hij
    · exact h1
theorem great_awake (x0 : List Ten) (x1 : List Int) (x2 : Int) : Ev (fun k => haberdashlaw22_TenderGreatest.j0 k x0 x1 x2 true) true :=
  Ev.step (fun k => by rw [haberdashlaw22_TenderGreatest.j0, if_pos rfl]) (Ev.bind awake_ev (Ev.now _))
theorem sumB_append (a b : List Bak) : sumB (a ++ b) = sumB a + sumB b := by simp [sumB]
theorem sumB_cut (bs : List Bak) (i : Nat) (h : ∀ b ∈ bs, 1 ≤ b.f1) : sumB bs = sumB (bs.take i) + sumB (bs.drop i) ∧ 0 ≤ sumB (bs.take i) ∧ 0 ≤ sumB (bs.drop i) := by
  have hz : ∀ l : List Bak, (∀ b ∈ l, 1 ≤ b.f1) → 0 ≤ sumB l := by
    intro l
    induction l with
    | nil => intro _; exact Int.le_refl 0
    | cons b l ih =>
      intro h
      have h1 := h b List.mem_cons_self
      have h2 := ih (fun x hx => h x (List.mem_cons_of_mem _ hx))
      have : sumB (b :: l) = b.f1 + sumB l := by simp [sumB]
      omega
  refine ⟨?_, hz _ (fun b hb => h b (List.mem_of_mem_take hb)), hz _ (fun b hb => h b (List.mem_of_mem_drop hb))⟩
  have := sumB_append (bs.take i) (bs.drop i)
  rw [List.take_append_drop] at this
  exact this
theorem l0_ev (l : List Ten) (o : List Int) (a left : Int) (bs : List Bak) (m : List Ten) (r : Bool) (hl : ∀ x ∈ l, tok x = true) (hbl : bs.length ≤ 6) (hsum : sumB bs ≤ 1000000000000000)
    (hb : ∀ b ∈ bs, 0 ≤ b.f0 ∧ b.f0 < (l.length : Int) ∧ 1 ≤ b.f1 ∧ b.f1 ≤ dif (tn l b.f0.toNat)) (hq : ∀ p b q, bs = p ++ b :: q → q ≠ [] → b.f1 = dif (tn l b.f0.toNat))
    (hend : Ev (fun k => haberdashlaw22_TenderGreatest.l1 k l o a left m (sumB bs) 0) r) : Ev (fun k => haberdashlaw22_TenderGreatest.l0 k l o a left bs m 0 0) r := by
  have key : ∀ d i, i + d = bs.length → Ev (fun k => haberdashlaw22_TenderGreatest.l0 k l o a left bs m (sumB (bs.take i)) i) r := by
    intro d
    induction d with
    | zero =>
      intro i hi
      refine Ev.step (fun k => ?_) hend
      rw [haberdashlaw22_TenderGreatest.l0, if_neg (by omega), List.take_of_length_le (by omega)]
    | succ d ih =>
      intro i hi
      have hlt : i < bs.length := by omega
      have hbi := hb _ (List.getElem_mem hlt)
      have hil : (bs[i]).f0.toNat < l.length := by omega
      have ht := tok_iff.1 (tn_tok hl hil)
      have hd0 : dif (tn l (bs[i]).f0.toNat) = (tn l (bs[i]).f0.toNat).f1 - (tn l (bs[i]).f0.toNat).f2 := rfl
      have hs : sumB (bs.take (i + 1)) = sumB (bs.take i) + (bs[i]).f1 := by
        rw [List.take_succ_eq_append_getElem hlt, sumB_append]
        congr 1
        simp [sumB]
      have hc1 := sumB_cut bs i (fun b h => (hb b h).2.2.1)
      have hc2 := sumB_cut bs (i + 1) (fun b h => (hb b h).2.2.1)
      have hw : wrap64 ((tn l (bs[i]).f0.toNat).f1 - (tn l (bs[i]).f0.toNat).f2) = dif (tn l (bs[i]).f0.toNat) := by rw [hd0]; exact wrap_ok (by omega) (by omega)
      refine Ev.step (fun k => ?_) (ih (i + 1) (by omega))
      rw [haberdashlaw22_TenderGreatest.l0, if_pos (by omega), if_pos (by omega), rdB_of bs i hlt, if_neg (by omega), if_neg (by omega), if_neg (by omega), if_pos (by omega), if_pos (by omega)]
      show (if (bs[i]).f1 > wrap64 ((tn l (bs[i]).f0.toNat).f1 - (tn l (bs[i]).f0.toNat).f2) then _ else _) = _
      rw [hw, if_neg (by omega), nxt i (by omega), wrap_ok (x := sumB (bs.take i) + (bs[i]).f1) (by omega) (by omega), ← hs, wrap_ok (x := (bs.length : Int) - 1) (by omega) (by omega)]
      by_cases hlast : (i : Int) < (bs.length : Int) - 1
      · rw [if_pos hlast, if_pos]
        show (bs[i]).f1 = wrap64 ((tn l (bs[i]).f0.toNat).f1 - (tn l (bs[i]).f0.toNat).f2)
        rw [hw]
        refine hq (bs.take i) _ (bs.drop (i + 1)) ?_ ?_
        · rw [List.getElem_cons_drop, List.take_append_drop]
        · intro e
          have := congrArg List.length e
          rw [List.length_drop] at this
          simp at this
          omega
      · rw [if_neg hlast]
  have := key bs.length 0 (by omega)
  simpa [sumB] using this
theorem l2_ev (l : List Ten) (o : List Int) (a left : Int) (m : List Ten) (s : Int) (r : Bool) (i : Nat) (hi : i < l.length) (hll : l.length ≤ 6) (ho : o.length ≤ 1000000) (hm : m.length = l.length)
    (hc : ∀ j, j < l.length → earl l o i j = true → (tn m i).f2 < (tn m i).f1 → (tn m j).f2 = (tn l j).f2)
    (hend : Ev (fun k => haberdashlaw22_TenderGreatest.l1 k l o a left m s ((i + 1 : Nat) : Int)) r) : Ev (fun k => haberdashlaw22_TenderGreatest.l2 k l o a left m s i 0) r := by
  have key : ∀ d j, j + d = l.length → Ev (fun k => haberdashlaw22_TenderGreatest.l2 k l o a left m s i (j : Int)) r := by
    intro d
    induction d with
    | zero =>
      intro j hj
      exact Ev.step (fun k => by rw [haberdashlaw22_TenderGreatest.l2, if_neg (by omega), nxt i (by omega)]) hend
    | succ d ih =>
      intro j hj
      have hjl : j < l.length := by omega
      have ihj := ih (j + 1) (by omega)
      refine Ev.step (f := fun k => (haberdashlaw22_earlier.f k l o i j).bind fun t => if t = true then (if (tn m i).f2 < (tn m i).f1 then (if (tn m j).f2 = (tn l j).f2 then haberdashlaw22_TenderGreatest.l2 k l o a left m s i ((j + 1 : Nat) : Int) else some false) else haberdashlaw22_TenderGreatest.l2 k l o a left m s i ((j + 1 : Nat) : Int)) else haberdashlaw22_TenderGreatest.l2 k l o a left m s i ((j + 1 : Nat) : Int)) (fun k => ?_) ?_
      · rw [haberdashlaw22_TenderGreatest.l2, if_pos (by omega), nxt j (by omega)]
        congr 1
        funext t
        rw [if_pos (by omega : 0 ≤ (i : Int)), if_pos (by omega : (i : Int) < (m.length : Int)), if_pos (by omega : 0 ≤ (j : Int)), if_pos (by omega : (j : Int) < (m.length : Int))]
        rfl
      · refine Ev.bind (earl_ev l o i j hi hjl ho) ?_
        cases he : earl l o i j with
        | false => exact Ev.congr (fun k => if_neg (by simp)) ihj
        | true =>
          simp only [if_true]
          by_cases h1 : (tn m i).f2 < (tn m i).f1
          · simp only [if_pos h1, if_pos (hc j hjl he h1)]
            exact ihj
          · simp only [if_neg h1]
            exact ihj
  have := key l.length 0 (by omega)
  simpa using this
theorem l1_ev (l : List Ten) (o : List Int) (a left : Int) (m : List Ten) (hll : l.length ≤ 6) (ho : o.length ≤ 1000000) (hm : m.length = l.length)
    (hc : ∀ i j, i < l.length → j < l.length → earl l o i j = true → (tn m i).f2 < (tn m i).f1 → (tn m j).f2 = (tn l j).f2) (hw : tleft m = wrap64 (left - a)) (ht : tall m = true) : Ev (fun k => haberdashlaw22_TenderGreatest.l1 k l o a left m a 0) true := by
  have key : ∀ d i, i + d = l.length → Ev (fun k => haberdashlaw22_TenderGreatest.l1 k l o a left m a (i : Int)) true := by
    intro d
    induction d with
    | zero =>
      intro i hi
      refine Ev.step (f := fun k => (tender_Left.f k m).bind fun t => if t = wrap64 (left - a) then (tender_Right.f k m).bind fun t => some t else some false) (fun k => by rw [haberdashlaw22_TenderGreatest.l1, if_neg (by omega), if_pos rfl]) ?_
      have h1 : Ev (fun k => tender_Left.f k m) (tleft m) := ⟨11, fun k hk => TP.left_t m k (by omega)⟩
      have h2 : Ev (fun k => tender_Right.f k m) true := ⟨11, fun k hk => by show tender_Right.f k m = _; rw [TP.right_t m k (by omega), ht]⟩
      refine Ev.bind h1 ?_
      simp only [if_pos hw]
      exact Ev.bind (f := fun _ t => some t) h2 (Ev.now _)
    | succ d ih =>
      intro i hi
      refine Ev.step (fun k => by rw [haberdashlaw22_TenderGreatest.l1, if_pos (by omega)]) ?_
      exact l2_ev l o a left m a true i (by omega) hll ho hm (fun j hj => hc i j (by omega) hj) (ih (i + 1) (by omega))
  have := key l.length 0 (by omega)
  simpa using this
theorem TenderGreatest (x0 : List Ten) (x1 : List Int) (x2 : Int) : ∃ k, haberdashlaw22_TenderGreatest.f k x0 x1 x2 = some true := by
  refine Ev.rounds ?_
  unfold haberdashlaw22_TenderGreatest.f
  by_cases h0 : (x0.length : Int) > 40
  · simp only [h0, if_true]; exact great_awake _ _ _
  simp only [h0, if_false]
  by_cases h1 : (x1.length : Int) > 40
  · simp only [h1, decide_true]; exact great_awake _ _ _
  simp only [h1, decide_false]
  have hn := nr_left x0
  have h6 := nr_length x0
  have ht := nr_tall x0
  have hra := md_range x2 (tsum (nr x0) + 1) (by omega)
  refine Ev.step (fun k => by rw [haberdashlaw22_TenderGreatest.j0, if_neg (by simp)]) ?_
  refine Ev.bind (near_f x0 (by omega)) ?_
  refine Ev.bind (RT.left_f (nr x0) (by omega)) ?_
  rw [hn.1, wrap_ok (by omega) (by omega), mod64_f _ _ (by omega) (by omega)]
  simp only [Option.bind_some]
  generalize md x2 (tsum (nr x0) + 1) = a at *
  generalize nr x0 = l at *
  have hall := (tall_iff.1 ht).2
  have g1 := gave l x1 [] a ht hra.1
  have hm : mn a (tsum l) = a := by unfold mn; split <;> omega
  rw [hm] at g1
  have hoo := ord_ok l x1
  have hp := gives_props l [] hall (ord (ranks x1 l)) a hra.1 hoo.2.1
  rw [hoo.2.2, hm] at hp
  have L1 := gives_len l x1 [] a ht
  rw [split_t _ _ _ _ (by omega) (by simp), split_ok l x1 [] a ht (by omega) (by omega)]
  simp only [Option.bind_some]
  refine Ev.bind (GT.give_t l _ (by omega)) ?_
  rw [g1.1]
  refine Ev.bind awake_ev ?_
  have hml : (((app l (ord (ranks x1 l)) a).length : Int) != (l.length : Int)) = false := by rw [app_length]; simp
  simp only [if_true, hml]
  refine Ev.step (fun k => by rw [haberdashlaw22_TenderGreatest.j1, if_neg (by simp)]) ?_
  refine l0_ev l x1 a (tsum l) _ _ true hall L1 (by rw [hp.1.1]; omega) hp.2.1 hp.2.2 ?_
  rw [hp.1.1]
  refine l1_ev l x1 a (tsum l) _ (by omega) (by omega) (app_length _ _ _) ?_ ?_ g1.2.1
  · intro i j hi hj he hlt
    obtain ⟨p, q, hpq, hjq⟩ := earl_pos l x1 hall i j hi hj he
    have := app_later (ord (ranks x1 l)) l a hra.1 hall hoo.1 hoo.2.1 p (i : Int) q (j : Int) hpq hjq (by rw [Int.toNat_natCast]; exact hlt)
    rw [Int.toNat_natCast] at this
    exact this
  · unfold tleft
    rw [if_pos g1.2.1, g1.2.2, wrap_ok (by omega) (by omega)]
end Go.Proofs.Ytebochcdbknodaa.Pure
