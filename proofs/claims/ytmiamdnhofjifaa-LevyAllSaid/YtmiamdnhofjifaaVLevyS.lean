/- What levy tells, in plain Lean: so much tax of an amount; the parts of a group. -/
import Derived.Test.YtmiamdnhofjifaaVMoney
import Derived.Test.YtmiamdnhofjifaaVQSpec
import Derived.Test.YtmiamdnhofjifaaVGrpQ
set_option linter.unusedVariables false
namespace Go.Proofs.Ytmiamdnhofjifaa.LV
open Go.Proofs.Ytmiamdnhofjifaa.QM Go.Proofs.Ytmiamdnhofjifaa.SP Go.Proofs.Ytmiamdnhofjifaa.GP Go.Proofs.Ytmiamdnhofjifaa.MN

theorem right_rt (n : Int) : right n = rt n := by unfold right rt; rfl
def den (incl : Bool) (r : Int) : Int := if incl = true then 10000 + r else 10000
/-- So much of an amount at a rate. -/
def mch (incl : Bool) (k x r : Int) : Int := (times x r (den incl r) k).1
/-- The parts of a group. -/
def lp (incl : Bool) (k r : Int) (ws : List Int) : List Int := (largest (mch incl k ws.sum r) ws).1
theorem asked_iff {x n d k : Int} : asked x n d k = true ↔ (0 ≤ x ∧ x ≤ 100000000000000) ∧ (0 ≤ n ∧ n ≤ 100000000000000) ∧ (1 ≤ d ∧ d ≤ 100000000000000) ∧ 0 ≤ k ∧ k < 3 := by
  unfold asked
  rw [right_rt, right_rt, right_rt]
  simp only [Bool.and_eq_true, decide_eq_true_eq, rt_iff]
  omega
theorem rnd_ge (k q r d : Int) : q ≤ rnd k q r d := by
  unfold rnd
  repeat' split
  all_goals omega
theorem times_range (x n d k : Int) : 0 ≤ (times x n d k).1 ∧ (times x n d k).1 ≤ 100000000000000 := by
  unfold times
  split
  · simp
  · rename_i h
    have h2 := asked_iff.1 (by simpa using h)
    split
    · simp
    · split
      · simp
      · have h3 := rnd_ge k (x * n / d) (x * n % d) d
        have h4 : 0 ≤ x * n / d := Int.ediv_nonneg (Int.mul_nonneg h2.1.1 h2.2.1.1) (by omega)
        exact ⟨by show 0 ≤ rnd k (x * n / d) (x * n % d) d; omega, by show rnd k (x * n / d) (x * n % d) d ≤ _; omega⟩
theorem times_zero (n d k : Int) : (times 0 n d k).1 = 0 := by
  unfold times
  split
  · rfl
  · rename_i h
    have h2 := asked_iff.1 (by simpa using h)
    rw [Int.zero_mul, Int.zero_ediv, Int.zero_emod]
    have h3 : rnd k 0 0 d = 0 := by
      unfold rnd
      repeat' split
      all_goals omega
    rw [h3]
    simp
theorem mch_range (incl : Bool) (k x r : Int) : 0 ≤ mch incl k x r ∧ mch incl k x r ≤ 100000000000000 := times_range _ _ _ _
theorem lp_length (incl : Bool) (k r : Int) (ws : List Int) (h1 : ws.length ≤ 100000) (h2 : ∀ x ∈ ws, rt x = true) (h3 : ws.sum ≤ 100000000000000) : (lp incl k r ws).length = ws.length := by
  have hm := mch_range incl k ws.sum r
  have hE : (sumE (mch incl k ws.sum r) ws).2 = 0 := by
    unfold sumE
    rw [if_neg, if_neg (by omega), if_neg]
    · rintro ⟨h4, h5⟩
      rw [h4] at h5
      exact h5 (times_zero _ _ _)
    · rw [rt_iff.2 hm, List.all_eq_true.2 h2]
      simp
      exact h1
  unfold lp largest
  rw [if_neg (by rw [hE]; simp)]
  split
  · simp
  · simp [parts, bump_length, qs_length]
/-- What is picked is some of what there is. -/
theorem pick_mem (ns is : List Int) (h : ∀ z ∈ is, 0 ≤ z ∧ z < (ns.length : Int)) : ∀ x ∈ pick ns is, x ∈ ns := by
  intro x hx
  obtain ⟨z, hz, rfl⟩ := List.mem_map.1 hx
  have := h z hz
  rw [List.getD_eq_getElem?_getD, List.getElem?_eq_getElem (by omega)]
  exact List.getElem_mem _
theorem pick_sum (ns : List Int) (h0 : ∀ x ∈ ns, 0 ≤ x) (r : Int) : ∀ (l : List Int) (b : Nat), b + l.length ≤ ns.length → (pick ns (plsF r b l)).sum ≤ (ns.drop b).sum := by
  intro l
  induction l with
  | nil =>
    intro b hb
    show (0 : Int) ≤ _
    exact sum_nonneg _ (fun x hx => h0 x (List.mem_of_mem_drop hx))
  | cons y l ih =>
    intro b hb
    have hlt : b < ns.length := by simp at hb; omega
    have h1 := ih (b + 1) (by simp at hb; omega)
    have h2 := h0 ns[b] (List.getElem_mem hlt)
    rw [List.drop_eq_getElem_cons hlt, List.sum_cons]
    unfold plsF
    split
    · show (ns.getD ((b : Int)).toNat 0 :: pick ns (plsF r (b + 1) l)).sum ≤ _
      rw [List.sum_cons, Int.toNat_natCast, List.getD_eq_getElem?_getD, List.getElem?_eq_getElem hlt]
      simp only [Option.getD_some]
      omega
    · omega
/-- The places of a rate, and what stands there. -/
theorem group_ok {rs ns : List Int} (hl : rs.length = ns.length) (h0 : ∀ x ∈ ns, 0 ≤ x) (hs : ns.sum ≤ 10000000000000) (hn : ns.length ≤ 1000) (r : Int) :
    (pick ns (pls rs r)).length ≤ 1000 ∧ (∀ x ∈ pick ns (pls rs r), 0 ≤ x ∧ x ≤ 10000000000000) ∧ (pick ns (pls rs r)).sum ≤ 10000000000000 ∧ (pls rs r).length ≤ 1000 := by
  have h1 : ∀ x ∈ pick ns (pls rs r), x ∈ ns := pick_mem ns _ (fun z hz => by have := pls_range z hz; omega)
  have h2 := pick_sum ns h0 r rs 0 (by omega)
  have h3 : (pls rs r).length ≤ rs.length := by
    have : ∀ (l : List Int) (b : Nat), (plsF r b l).length ≤ l.length := by
      intro l
      induction l with
      | nil => intro b; simp [plsF]
      | cons x l ih =>
        intro b
        unfold plsF
        have := ih (b + 1)
        split <;> simp <;> omega
    exact this rs 0
  refine ⟨by rw [pick_length]; omega, fun x hx => ⟨h0 x (h1 x hx), ?_⟩, by simpa [pls] using Int.le_trans h2 (by simpa using hs), by omega⟩
  have := le_sum ns h0 x (h1 x hx)
  omega
theorem lp_group {rs ns : List Int} (hl : rs.length = ns.length) (h0 : ∀ x ∈ ns, 0 ≤ x) (hs : ns.sum ≤ 10000000000000) (hn : ns.length ≤ 1000) (incl : Bool) (k r q : Int) : (lp incl k q (pick ns (pls rs r))).length = (pls rs r).length := by
  have h := group_ok hl h0 hs hn r
  rw [lp_length incl k q _ (by omega) (fun x hx => by have := h.2.1 x hx; rw [rt_iff]; omega) (by omega), pick_length]

/-- A line's first group, and the rest. -/
theorem step_split {rs : List Int} {s t : List Ent} {x : Ent} (hs : s = x :: t) (hl : Lined s) (hc : Closed (line (ents (negs rs))) s) :
    ∃ rest, s = ((pls rs (-x.1)).map fun i => ((x.1, i) : Ent)) ++ rest ∧ (∀ e ∈ rest, e.1 ≠ x.1) ∧ Lined rest ∧ Closed (line (ents (negs rs))) rest ∧ ∃ i, ∃ tl, pls rs (-x.1) = i :: tl ∧ x.2 = i := by
  subst hs
  have hl2 := List.pairwise_cons.1 hl
  have hmax : ∀ e ∈ x :: t, e.1 ≤ x.1 := by
    intro e he
    rcases List.mem_cons.1 he with rfl | he
    · exact Int.le_refl _
    · have := (lt_false_iff _ _).1 (hl2.1 e he); omega
  have hw := while_filter x.1 (x :: t) hl hmax
  have hg : (x :: t).takeWhile (fun e => e.1 == x.1) = (pls rs (-x.1)).map fun i => ((x.1, i) : Ent) := by
    have h1 := line_group rs (-x.1)
    rw [Int.neg_neg] at h1
    rw [hw.1, hc x List.mem_cons_self, h1]
  refine ⟨(x :: t).dropWhile fun e => e.1 == x.1, by rw [← hg, List.takeWhile_append_dropWhile], fun e he => ?_, hl.sublist (List.dropWhile_sublist _), fun e he => ?_, ?_⟩
  · rw [hw.2] at he
    simpa using (List.mem_filter.1 he).2
  · rw [hw.2] at he ⊢
    obtain ⟨he1, he2⟩ := List.mem_filter.1 he
    rw [← hc e he1, List.filter_filter]
    congr 1
    funext y
    by_cases hy : y.1 = e.1
    · have : (y.1 != x.1) = true := by rw [hy]; exact he2
      simp [this]
    · simp [hy]
  · rw [List.takeWhile_cons] at hg
    simp only [beq_self_eq_true, if_true] at hg
    cases h3 : pls rs (-x.1) with
    | nil => rw [h3] at hg; cases hg
    | cons i tl =>
      rw [h3, List.map_cons] at hg
      exact ⟨i, tl, rfl, by rw [(List.cons.inj hg).1]⟩
/-- What is in place, when what a line tells is still to come. -/
def Inv (L : Int → List Int → List Int) (rs ns : List Int) (s : List Ent) (O : List Int) : Prop :=
  O.length = rs.length ∧ ∀ i, i < rs.length → (∀ e ∈ s, e.1 ≠ -(rs.getD i 0)) → O[i]? = some (val L rs ns i)
theorem inv_start (L : Int → List Int → List Int) (rs ns O : List Int) (hO : O.length = rs.length) : Inv L rs ns (line (ents (negs rs))) O := by
  refine ⟨hO, fun i hi h => ?_⟩
  have hg := ents_get (negs rs) i (by simpa [negs] using hi)
  refine absurd ?_ (h _ ((line_perm _).mem_iff.2 (List.mem_of_getElem? hg)))
  simp [negs, hi]
theorem inv_step {L : Int → List Int → List Int} {rs ns O : List Int} {s rest : List Ent} {x : Ent} (h : Inv L rs ns s O) (hs : s = ((pls rs (-x.1)).map fun i => ((x.1, i) : Ent)) ++ rest) (hr : ∀ e ∈ rest, e.1 ≠ x.1) (hL : (L (-x.1) (pick ns (pls rs (-x.1)))).length = (pls rs (-x.1)).length) :
    Inv L rs ns rest (grp L rs ns O (-x.1)) := by
  refine ⟨by rw [grp_length]; exact h.1, fun i hi h2 => ?_⟩
  rw [grp_at L rs ns O (-x.1) h.1 hL i hi]
  by_cases h3 : rs.getD i 0 = -x.1
  · rw [if_pos h3]
  · rw [if_neg h3]
    refine h.2 i hi (fun e he => ?_)
    rw [hs] at he
    rcases List.mem_append.1 he with he | he
    · obtain ⟨z, _, rfl⟩ := List.mem_map.1 he
      show x.1 ≠ _
      omega
    · exact h2 e he
theorem inv_end {L : Int → List Int → List Int} {rs ns O : List Int} (h : Inv L rs ns [] O) : O = whole L rs ns := by
  apply List.ext_getElem?
  intro i
  by_cases hi : i < rs.length
  · rw [h.2 i hi (fun e he => by simp at he)]
    simp [whole, hi]
  · rw [List.getElem?_eq_none (by rw [h.1]; omega), List.getElem?_eq_none (by simp [whole]; omega)]
theorem putL_snoc : ∀ (is xs o : List Int) (i x : Int), is.length = xs.length → putL o (is ++ [i]) (xs ++ [x]) = (putL o is xs).set i.toNat x := by
  intro is
  induction is with
  | nil =>
    intro xs o i x h
    obtain rfl : xs = [] := List.eq_nil_of_length_eq_zero (by simpa using h.symm)
    rfl
  | cons z is ih =>
    intro xs o i x h
    cases xs with
    | nil => simp at h
    | cons y xs =>
      show putL (o.set z.toNat y) (is ++ [i]) (xs ++ [x]) = _
      rw [ih xs _ i x (by simpa using h)]
      rfl
end Go.Proofs.Ytmiamdnhofjifaa.LV
