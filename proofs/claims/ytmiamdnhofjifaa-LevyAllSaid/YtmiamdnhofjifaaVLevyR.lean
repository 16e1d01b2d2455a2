/- The reference's Levy: what the printed function comes to: as the program's. Plain Lean. -/
import Derived.Test.YtmiamdnhofjifaaVLevyP
import Derived.Test.YtmiamdnhofjifaaVRef01T
import Derived.Test.YtmiamdnhofjifaaVRwRef15l
set_option linter.unusedVariables false
set_option linter.unusedSimpArgs false
namespace Go.Proofs.Ytmiamdnhofjifaa.YR
open Go Go.RowKit Go.Proofs.YtmiamdnhofjifaaW.PrintWords Go.Proofs.YtmiamdnhofjifaaW.PrintMore Go.Proofs.Ytmiamdnhofjifaa.Rw Go.Proofs.Ytmiamdnhofjifaa.EP Go.Proofs.Ytmiamdnhofjifaa.NP Go.Proofs.Ytmiamdnhofjifaa.XP Go.Proofs.Ytmiamdnhofjifaa.LV Go.Proofs.Ytmiamdnhofjifaa.GP Go.Proofs.Ytmiamdnhofjifaa.SP Go.Proofs.Ytmiamdnhofjifaa.YP

theorem tms_times (x n d k : Int) : RTM.tms x n d k = MN.times x n d k := by
  unfold RTM.tms MN.times
  by_cases h : MN.asked x n d k = true
  · have h2 := asked_iff.1 h
    rw [if_neg (by
      rintro (h3 | h3 | h3 | h3 | h3 | h3)
      · rw [rt_iff.2 h2.1] at h3; cases h3
      · rw [rt_iff.2 h2.2.1] at h3; cases h3
      · omega
      · omega
      · omega
      · omega), if_neg (show ¬ MN.asked x n d k = false by rw [h]; simp)]
    by_cases h3 : 100000000000000 < x * n / d
    · rw [if_pos h3, if_pos h3]
    · rw [if_neg h3, if_neg h3]
      have hk : k = 0 ∨ k = 1 ∨ k = 2 := by omega
      have e : MN.rnd k (x * n / d) (x * n % d) d = if RTM.upR (x * n / d) (x * n % d) d k = true then x * n / d + 1 else x * n / d := by
        unfold MN.rnd RTM.upR
        rcases hk with rfl | rfl | rfl <;> simp
      rw [e]
      by_cases h4 : RTM.upR (x * n / d) (x * n % d) d k = true
      · simp only [h4, if_true]
      · simp only [h4, if_false, Bool.false_eq_true]
        rw [if_neg h3]
  · have h1 : MN.asked x n d k = false := by simpa using h
    rw [if_pos, if_pos h1]
    rcases Classical.em (rt x = false ∨ rt n = false ∨ d < 1 ∨ 100000000000000 < d ∨ k < 0 ∨ 2 < k) with h3 | h3
    · exact h3
    · simp only [not_or, Bool.not_eq_false] at h3
      exact absurd (asked_iff.2 ⟨rt_iff.1 h3.1, rt_iff.1 h3.2.1, by omega, by omega⟩) h
theorem part_f (i o : Bool) (k : Int) (l : List Zn) (x r : Int) (h0 : 0 ≤ r) (h1 : r ≤ 10000) : Ev (fun n => haberdashref15_part.f n i o k l x r) (mch i k x r) := by
  unfold haberdashref15_part.f mch den
  cases i with
  | false =>
    simp only [Bool.false_eq_true, if_false]
    refine Ev.bind (RTM.times_f _ _ _ _) ?_
    rw [tms_times]
    exact Ev.now _
  | true =>
    simp only [if_true]
    rw [wrap_ok (by omega) (by omega)]
    refine Ev.bind (RTM.times_f _ _ _ _) ?_
    rw [tms_times]
    exact Ev.now _
theorem sum_f (ns : List Int) (h0 : ∀ x ∈ ns, 0 ≤ x) (hs : ns.sum ≤ 9223372036854775807) (hl : ns.length ≤ 9223372036854775807) : Ev (fun n => haberdashref15_sum.f n ns) ns.sum := by
  have := walk_ev (F := fun n i => haberdashref15_sum.l0 n ns (ns.take i).sum (i : Int)) (n := ns.length) (r := ns.sum)
    (Ev.step (fun n => by rw [haberdashref15_sum.l0, if_neg (by omega), List.take_length]) (Ev.now _))
    (fun i hi r hr => by
      have h4 := sum_take_le ns h0 (i + 1)
      have e := sum_take_succ ns i hi
      refine Ev.step (fun n => by rw [haberdashref15_sum.l0, if_pos (by omega), if_pos (by omega), rd_of ns i hi, next i (by omega), wrap_ok (by omega) (by omega), ← e]) hr)
  simpa [haberdashref15_sum.f] using this

section
variable {rs ns : List Int} {incl : Bool} {kr : Int}
/-- Which lines are done, when a group is done up to a place. -/
def flags (rs : List Int) (i c : Nat) (r : Int) : List Bool := (List.range rs.length).map fun j => decide (rs.getD j 0 ∈ rs.take i) || (decide (j < c) && decide (rs.getD j 0 = r))
theorem flags_length (rs : List Int) (i c : Nat) (r : Int) : (flags rs i c r).length = rs.length := by simp [flags]
theorem flags_get (rs : List Int) (i c : Nat) (r : Int) (j : Nat) (hj : j < rs.length) : (flags rs i c r)[j]? = some (decide (rs.getD j 0 ∈ rs.take i) || (decide (j < c) && decide (rs.getD j 0 = r))) := by simp [flags, hj]
theorem flags_yes (rs : List Int) (i c : Nat) (r : Int) (hc : c < rs.length) (h : rs.getD c 0 = r) : (flags rs i c r).set c true = flags rs i (c + 1) r := by
  apply List.ext_getElem?
  intro j
  by_cases hj : j < rs.length
  · rw [List.getElem?_set, flags_get rs i (c + 1) r j hj]
    by_cases hcj : c = j
    · subst hcj
      rw [if_pos rfl, if_pos (by rw [flags_length]; exact hc)]
      have : decide (c < c + 1) = true := decide_eq_true (by omega)
      rw [this, h]
      simp
    · rw [if_neg hcj, flags_get rs i c r j hj]
      have : decide (j < c + 1) = decide (j < c) := by rw [Bool.eq_iff_iff, decide_eq_true_eq, decide_eq_true_eq]; omega
      rw [this]
  · rw [List.getElem?_eq_none (by rw [List.length_set, flags_length]; omega), List.getElem?_eq_none (by rw [flags_length]; omega)]
theorem flags_no (rs : List Int) (i c : Nat) (r : Int) (hc : c < rs.length) (h : rs.getD c 0 ≠ r) : flags rs i c r = flags rs i (c + 1) r := by
  apply List.ext_getElem?
  intro j
  by_cases hj : j < rs.length
  · rw [flags_get rs i c r j hj, flags_get rs i (c + 1) r j hj]
    by_cases hcj : j = c
    · subst hcj
      rw [decide_eq_false h]
      simp
    · have : decide (j < c + 1) = decide (j < c) := by rw [Bool.eq_iff_iff, decide_eq_true_eq, decide_eq_true_eq]; omega
      rw [this]
  · rw [List.getElem?_eq_none (by rw [flags_length]; omega), List.getElem?_eq_none (by rw [flags_length]; omega)]
theorem plsF_append (r : Int) : ∀ (a b : List Int) (n : Nat), plsF r n (a ++ b) = plsF r n a ++ plsF r (n + a.length) b := by
  intro a
  induction a with
  | nil => intro b n; simp [plsF]
  | cons x a ih =>
    intro b n
    simp only [List.cons_append, plsF, List.length_cons]
    rw [ih, show n + 1 + a.length = n + (a.length + 1) by omega]
    split <;> rfl
theorem pls_take (rs : List Int) (r : Int) (c : Nat) (hc : c < rs.length) : pls (rs.take (c + 1)) r = pls (rs.take c) r ++ if rs[c] = r then [(c : Int)] else [] := by
  unfold pls
  rw [List.take_succ_eq_append_getElem hc, plsF_append, List.length_take, Nat.min_eq_left (by omega), Nat.zero_add]
  simp only [plsF]
/-- What is in place, when the first lines are done. -/
def Done (L : Int → List Int → List Int) (rs ns : List Int) (i : Nat) (O : List Int) : Prop := O.length = rs.length ∧ ∀ j, j < rs.length → rs.getD j 0 ∈ rs.take i → O[j]? = some (val L rs ns j)

theorem byOrder_f (incl byo : Bool) (k : Int) (l : List Zn) (rs ns : List Int) (hl : rs.length = ns.length) (hn : ns.length ≤ 1000) (hr : ∀ r ∈ rs, 0 ≤ r ∧ r ≤ 10000) (h0 : ∀ x ∈ ns, 0 ≤ x) (hs : ns.sum ≤ 10000000000000) :
    Ev (fun n => haberdashref15_byOrder.f n incl byo k l rs ns) (whole (lp incl k) rs ns) := by
  have hlp := fun r => lp_group hl h0 hs hn incl k r r
  have key : ∀ d i O, i + d = ns.length → Done (lp incl k) rs ns i O → Ev (fun n => haberdashref15_byOrder.l0 n rs ns O (flags rs i 0 0) (i : Int) incl byo k l) (whole (lp incl k) rs ns) := by
    intro d
    induction d with
    | zero =>
      intro i O hi hO
      refine Ev.step (f := fun _ => some O) (fun n => by rw [haberdashref15_byOrder.l0, if_neg (by omega)]) ?_
      have : O = whole (lp incl k) rs ns := by
        apply List.ext_getElem?
        intro j
        by_cases hj : j < rs.length
        · rw [hO.2 j hj (by rw [List.take_of_length_le (by omega)]; simp [hj])]
          simp [whole, hj]
        · rw [List.getElem?_eq_none (by rw [hO.1]; omega), List.getElem?_eq_none (by simp [whole]; omega)]
      rw [this]
      exact Ev.now _
    | succ d ih =>
      intro i O hi hO
      have hir : i < rs.length := by omega
      have hgi : rs.getD i 0 = rs[i] := by simp [hir]
      have hfl : rdOf false (flags rs i 0 0) (i : Int) = decide (rs[i] ∈ rs.take i) := by
        rw [rdOf_d, List.getD_eq_getElem?_getD, flags_get rs i 0 0 i hir, hgi]
        simp
      refine Ev.step (fun n => by rw [haberdashref15_byOrder.l0, if_pos (by omega), if_pos (by omega), if_pos (by rw [flags_length]; omega), hfl]) ?_
      by_cases hm : rs[i] ∈ rs.take i
      · simp only [decide_eq_true hm, if_true, next i (by omega)]
        have hmem : ∀ x, x ∈ rs.take (i + 1) ↔ x ∈ rs.take i := by
          intro x
          rw [List.take_succ_eq_append_getElem hir, List.mem_append, List.mem_singleton]
          constructor
          · rintro (h | rfl)
            · exact h
            · exact hm
          · exact .inl
        have hfe : flags rs i 0 0 = flags rs (i + 1) 0 0 := by
          unfold flags
          apply List.map_congr_left
          intro j _
          congr 1
          rw [Bool.eq_iff_iff, decide_eq_true_eq, decide_eq_true_eq, hmem]
        rw [hfe]
        exact ih (i + 1) O (by omega) ⟨hO.1, fun j hj h => hO.2 j hj ((hmem _).1 h)⟩
      · simp only [decide_eq_false hm, Bool.false_eq_true, if_false]
        have hrr := hr _ (List.getElem_mem hir)
        have hgo := group_ok hl h0 hs hn rs[i]
        have hempty : pls (rs.take i) rs[i] = [] := by
          cases h : pls (rs.take i) rs[i] with
          | nil => rfl
          | cons z t =>
            have hz : z ∈ pls (rs.take i) rs[i] := by rw [h]; exact List.mem_cons_self
            obtain ⟨j, hj, h1, _⟩ := pls_mem.1 hz
            exact absurd (by rw [← h1]; exact List.getElem_mem hj) hm
        have hf0 : flags rs i 0 0 = flags rs i i rs[i] := by
          unfold flags
          apply List.map_congr_left
          intro j hj
          have hjr := List.mem_range.1 hj
          by_cases h1 : j < i
          · have : rs.getD j 0 ∈ rs.take i := by
              rw [List.mem_take_iff_getElem]
              exact ⟨j, by omega, by simp [hjr]⟩
            rw [decide_eq_true this]; simp
          · rw [decide_eq_false h1]; simp
        have hlast : ∀ (O : List Int), O.length = rs.length → Done (lp incl k) rs ns i O → Ev (fun n => haberdashref15_byOrder.l2 n rs ns O (flags rs i ns.length rs[i]) (i : Int) (pls rs rs[i]) (lp incl k rs[i] (pick ns (pls rs rs[i]))) ((0 : Nat) : Int) incl byo k l) (whole (lp incl k) rs ns) := by
          intro O hOl hOd
          have hG := hlp rs[i]
          have hpr : ∀ z ∈ pls rs rs[i], 0 ≤ z ∧ z < (rs.length : Int) := fun z hz => pls_range z hz
          have hgl := hgo.2.2.2
          have hnext : Ev (fun n => haberdashref15_byOrder.l0 n rs ns (putL O (pls rs rs[i]) (lp incl k rs[i] (pick ns (pls rs rs[i])))) (flags rs i ns.length rs[i]) ((i + 1 : Nat) : Int) incl byo k l) (whole (lp incl k) rs ns) := by
            show Ev (fun n => haberdashref15_byOrder.l0 n rs ns (grp (lp incl k) rs ns O rs[i]) (flags rs i ns.length rs[i]) ((i + 1 : Nat) : Int) incl byo k l) (whole (lp incl k) rs ns)
            have hmem : ∀ x, x ∈ rs.take (i + 1) ↔ x ∈ rs.take i ∨ x = rs[i] := by
              intro x
              rw [List.take_succ_eq_append_getElem hir, List.mem_append, List.mem_singleton]
            have hfe : flags rs i ns.length rs[i] = flags rs (i + 1) 0 0 := by
              unfold flags
              apply List.map_congr_left
              intro j hj
              have hjr := List.mem_range.1 hj
              rw [Bool.eq_iff_iff]
              simp only [Bool.or_eq_true, Bool.and_eq_true, decide_eq_true_eq, hmem]
              constructor
              · rintro (h | ⟨_, h⟩)
                · exact .inl (.inl h)
                · exact .inl (.inr h)
              · rintro ((h | h) | ⟨h, _⟩)
                · exact .inl h
                · exact .inr ⟨by omega, h⟩
                · omega
            rw [hfe]
            refine ih (i + 1) _ (by omega) ⟨by rw [grp_length]; exact hOl, fun j hj h => ?_⟩
            rw [grp_at (lp incl k) rs ns O rs[i] hOl hG j hj]
            by_cases h1 : rs.getD j 0 = rs[i]
            · rw [if_pos h1]
            · rw [if_neg h1]
              rcases (hmem _).1 h with h2 | h2
              · exact hOd.2 j hj h2
              · exact absurd h2 h1
          generalize hPe : lp incl k rs[i] (pick ns (pls rs rs[i])) = P at hG hnext ⊢
          have hrun := walk_ev (F := fun n j => haberdashref15_byOrder.l2 n rs ns (putL O ((pls rs rs[i]).take j) (P.take j)) (flags rs i ns.length rs[i]) (i : Int) (pls rs rs[i]) P (j : Int) incl byo k l) (n := (pls rs rs[i]).length) (r := whole (lp incl k) rs ns)
            (by
              refine Ev.step (fun n => by rw [haberdashref15_byOrder.l2, if_neg (by omega), next i (by omega), List.take_length, List.take_of_length_le (by rw [hG]; exact Nat.le_refl _)]) ?_
              exact hnext)
            (fun j hj r hr2 => by
              have hz := hpr _ (List.getElem_mem hj)
              have hjp : j < P.length := by omega
              refine Ev.step (fun n => by rw [haberdashref15_byOrder.l2, if_pos (by omega), if_pos (by omega), if_pos (by omega), rd_of _ j hj, if_pos hz.1, if_pos (by rw [putL_length]; omega), rd_of P j hjp, next j (by omega)]) ?_
              have e : (putL O ((pls rs rs[i]).take j) (P.take j)).set ((pls rs rs[i])[j]).toNat P[j] = putL O ((pls rs rs[i]).take (j + 1)) (P.take (j + 1)) := by
                rw [List.take_succ_eq_append_getElem hj, List.take_succ_eq_append_getElem hjp, putL_snoc _ _ _ _ _ (by simp; omega)]
              rw [e]
              exact hr2)
          simpa [putL] using hrun
        have hgl2 := hgo.2.2.2
        have hloop : ∀ d2 c, c + d2 = ns.length → i ≤ c → Ev (fun n => haberdashref15_byOrder.l1 n rs ns O (flags rs i c rs[i]) (i : Int) (pls (rs.take c) rs[i]) (pick ns (pls (rs.take c) rs[i])) (c : Int) incl byo k l) (whole (lp incl k) rs ns) := by
          intro d2
          induction d2 with
          | zero =>
            intro c hc hic
            obtain rfl : c = ns.length := by omega
            refine Ev.step (fun n => by rw [haberdashref15_byOrder.l1, if_neg (by omega), List.take_of_length_le (by omega)]) ?_
            refine Ev.bind (sum_f _ (fun x hx => (hgo.2.1 x hx).1) (by omega) (by omega)) ?_
            simp only [if_pos (show 0 ≤ (i : Int) by omega), if_pos (show (i : Int) < (rs.length : Int) by omega), rd_of rs i hir]
            refine Ev.bind (part_f incl byo k l _ _ hrr.1 hrr.2) ?_
            refine Ev.bind (RP.largest_f _ _) ?_
            exact hlast O hO.1 hO
          | succ d2 ih2 =>
            intro c hc hic
            have hcr : c < rs.length := by omega
            have hcn : c < ns.length := by omega
            have hgc : rs.getD c 0 = rs[c] := by simp [hcr]
            have hpl : (pls (rs.take c) rs[i]).length ≤ rs.length := by
              have : ∀ (l : List Int) (b : Nat), (plsF rs[i] b l).length ≤ l.length := by
                intro l
                induction l with
                | nil => intro b; simp [plsF]
                | cons x l ih =>
                  intro b
                  unfold plsF
                  have := ih (b + 1)
                  split <;> simp <;> omega
              have h := this (rs.take c) 0
              rw [List.length_take] at h
              unfold pls
              omega
            refine Ev.step (fun n => by rw [haberdashref15_byOrder.l1, if_pos (by omega), if_pos (by omega), if_pos (by omega), if_pos (by omega), if_pos (by omega), rd_of rs c hcr, rd_of rs i hir, next c (by omega), rd_of ns c hcn, if_pos (show (c : Int) < ((flags rs i c rs[i]).length : Int) by rw [flags_length]; omega)]) ?_
            have hpt := pls_take rs rs[i] c hcr
            by_cases he : rs[c] = rs[i]
            · rw [if_pos he] at hpt
              simp only [if_pos he, Option.bind_some]
              simp only [if_pos (show (pls (rs.take c) rs[i]).length + [(c : Int)].length < 17592186044416 by simp; omega), if_pos (show (pick ns (pls (rs.take c) rs[i])).length + [ns[c]].length < 17592186044416 by rw [pick_length]; simp; omega), Int.toNat_natCast]
              rw [flags_yes rs i c rs[i] hcr (by rw [hgc]; exact he)]
              have hpk : pick ns (pls (rs.take c) rs[i]) ++ [ns[c]] = pick ns (pls (rs.take (c + 1)) rs[i]) := by
                rw [hpt]
                simp [pick, hcn]
              rw [hpk, ← hpt]
              exact ih2 (c + 1) (by omega) (by omega)
            · rw [if_neg he, List.append_nil] at hpt
              simp only [if_neg he]
              rw [flags_no rs i c rs[i] hcr (by rw [hgc]; exact he), ← hpt]
              exact ih2 (c + 1) (by omega) (by omega)
        have := hloop (d + 1) i (by omega) (Nat.le_refl _)
        rw [hempty, ← hf0] at this
        exact this
  unfold haberdashref15_byOrder.f
  simp only [Int.toNat_natCast, if_pos (show 0 ≤ (ns.length : Int) by omega), if_pos (show ns.length ≤ 35184372088832 by omega), if_pos (show ns.length ≤ 281474976710656 by omega)]
  have := key ns.length 0 (List.replicate ns.length 0) (by omega) ⟨by simp [hl], fun j hj h => by simp at h⟩
  have hf : flags rs 0 0 0 = List.replicate ns.length false := by
    unfold flags
    apply List.ext_getElem?
    intro j
    by_cases hj : j < rs.length
    · simp [hj, show j < ns.length by omega]
    · rw [List.getElem?_eq_none (by simp; omega), List.getElem?_eq_none (by simp; omega)]
  rw [hf] at this
  exact this
end
end Go.Proofs.Ytmiamdnhofjifaa.YR
