/- Whether a promo may be: what the printed functions of scope and promo come to. Plain Lean. -/
import Derived.Test.YtdmeepjefccpgaaVNameP
import Derived.Test.YtdmeepjefccpgaaVRwPrB
import Derived.Test.YtdmeepjefccpgaaVRwPrC
set_option linter.unusedVariables false
namespace Go.Proofs.Ytdmeepjefccpgaa.PP
open Go Go.RowKit Go.Proofs.YtdmeepjefccpgaaW.PrintWords Go.Proofs.YtdmeepjefccpgaaW.PrintMore Go.Proofs.Ytdmeepjefccpgaa.Rw Go.Proofs.Ytdmeepjefccpgaa.EP Go.Proofs.Ytdmeepjefccpgaa.NP

abbrev nm (l : List ByteArray) (i : Nat) : ByteArray := l.getD i ByteArray.empty
def namesOk (m : Nat) (l : List ByteArray) : Bool := decide (l.length ≤ m) && rise l && allTo (fun i => nameOk (nm l i)) l.length
def scopeOk (a b : List ByteArray) : Bool := namesOk 20 a && namesOk 20 b
def partOk (x : S65) : Bool := scopeOk x.f0.f0 x.f0.f1 && decide (1 ≤ x.f1) && decide (x.f1 ≤ 100)
def partsOk (l : List (S65)) : Bool := decide (1 ≤ l.length) && decide (l.length ≤ 3) && allTo (fun i => partOk (rd_T65 l i)) l.length
def tierAt (l : List (S67)) (i : Nat) : Bool :=
  decide ((if i = 0 then -1 else (rd_T67 l ((i - 1 : Nat) : Int)).f0) < (rd_T67 l i).f0) && decide ((rd_T67 l i).f0 ≤ 10000000000000) && decide (0 ≤ (rd_T67 l i).f1) && decide ((rd_T67 l i).f1 ≤ 10000) && decide (0 ≤ (rd_T67 l i).f2) && decide ((rd_T67 l i).f2 ≤ 10000000000000) && !(decide ((rd_T67 l i).f1 = 0) && decide ((rd_T67 l i).f2 = 0))
def tiersOk (l : List (S67)) : Bool := decide (1 ≤ l.length) && decide (l.length ≤ 6) && allTo (tierAt l) l.length
def namedOk (s : ByteArray) : Bool := decide (s.toList = []) || nameOk s
def rateOk (r : Int) : Bool := decide (1 ≤ r) && decide (r ≤ 10000)
def amountOk (a : Int) : Bool := decide (1 ≤ a) && decide (a ≤ 1000000000)
def buyGetOk (r b g : Int) : Bool := rateOk r && decide (1 ≤ b) && decide (b ≤ 100) && decide (1 ≤ g) && decide (g ≤ 100)
def bundleOk (a : Int) (l : List (S65)) : Bool := decide (0 ≤ a) && decide (a ≤ 10000000000000) && partsOk l
def headOk (id : ByteArray) (prio : Int) (group code : ByteArray) (sk ca : List ByteArray) (least : Int) : Bool :=
  nameOk id && decide (0 ≤ prio) && decide (prio ≤ 1000) && namedOk group && namedOk code && scopeOk sk ca && decide (0 ≤ least) && decide (least ≤ 10000000000000)

/-- A place, or -1: is there one? -/
theorem found_ge {n : Nat} {p : Nat → Bool} (x : Int) (hs : ∀ i, (List.range n).find? p = some i → x = (i : Int)) (hn : (List.range n).find? p = none → x = -1) : decide (x ≥ 0) = !allTo (fun i => !p i) n := by
  cases h : (List.range n).find? p with
  | some i =>
    have hi := List.find?_some h
    have hm := List.mem_of_find?_eq_some h
    have : allTo (fun i => !p i) n = false := allTo_no (List.mem_range.1 hm) (by simp [hi])
    rw [this, hs i h]
    exact decide_eq_true (by omega)
  | none =>
    have hn2 := List.find?_eq_none.1 h
    have : allTo (fun i => !p i) n = true := allTo_iff.2 fun i hi => by
      have := hn2 i (List.mem_range.2 hi)
      simpa using this
    rw [this, hn h]
    rfl

theorem notName_f (s : ByteArray) : Ev (fun k => scope_names_right_1.f k s) (!nameOk s) := Ev.bind (f := fun _ b => some (!b)) (name_f s) (Ev.now _)
theorem bad_f (l : List ByteArray) (a : Int) (hl : l.length ≤ 9223372036854775807) : Ev (fun k => scope_names_string_144.f k l a) (!allTo (fun i => nameOk (nm l i)) l.length) := by
  have h1 := first_ev (F := fun k i => scope_names_string_147.l0 k l l.length (i : Int)) (n := l.length) (p := fun i => !nameOk (nm l i)) (v := fun i => (i : Int)) (e := -1)
    (Ev.step (fun k => by rw [scope_names_string_147.l0, if_neg (by omega)]) (Ev.now _))
    (fun i hi hp => Ev.step (f := fun k => (scope_names_right_1.f k (nm l i)).bind fun t => if t = true then some (i : Int) else scope_names_string_147.l0 k l l.length (wrap64 (i + 1))) (fun k => by rw [scope_names_string_147.l0, if_pos (by omega), if_pos (by omega), if_pos (by omega), rdOf_d])
      (Ev.bind (notName_f _) (Ev.congr (fun k => if_pos hp) (Ev.now _))))
    (fun i hi hp r hr => Ev.step (f := fun k => (scope_names_right_1.f k (nm l i)).bind fun t => if t = true then some (i : Int) else scope_names_string_147.l0 k l l.length (wrap64 (i + 1))) (fun k => by rw [scope_names_string_147.l0, if_pos (by omega), if_pos (by omega), if_pos (by omega), rdOf_d])
      (Ev.bind (notName_f _) (Ev.congr (fun k => by rw [if_neg (by rw [hp]; simp), next i (by omega)]) hr)))
  have h2 : Ev (fun k => scope_names_string_144.f k l a) _ := Ev.bind (f := fun _ t => some (decide (t ≥ 0))) h1 (Ev.now _)
  refine ev_eq h2 ((found_ge (n := l.length) (p := fun i => !nameOk (nm l i)) _ (fun i h => by rw [h]) (fun h => by rw [h])).trans ?_)
  simp only [Bool.not_not]
theorem names_f (l : List ByteArray) (hl : l.length ≤ 9223372036854775807) : Ev (fun k => scope_names_right.f k l) (namesOk 20 l) := by
  unfold scope_names_right.f namesOk
  by_cases h : (l.length : Int) ≤ 20
  · simp only [if_pos h]
    rw [show decide (l.length ≤ 20) = true from decide_eq_true (by omega), Bool.true_and]
    refine Ev.bind (rise_f l hl) ?_
    cases hr : rise l with
    | true =>
      simp only [if_true, Bool.true_and]
      exact ev_eq (Ev.bind (f := fun _ t => some (!t)) (bad_f l _ hl) (Ev.now _)) (Bool.not_not _)
    | false =>
      simp only [Bool.false_and]
      exact Ev.congr (fun k => if_neg (by simp)) (Ev.now _)
  · simp only [if_neg h]
    rw [show decide (l.length ≤ 20) = false from decide_eq_false (by omega), Bool.false_and, Bool.false_and]
    exact Ev.now _
theorem scope_f (a b : List ByteArray) (ha : a.length ≤ 9223372036854775807) (hb : b.length ≤ 9223372036854775807) : Ev (fun k => scope_Right.f k a b) (scopeOk a b) := by
  unfold scope_Right.f scopeOk
  refine Ev.bind (names_f a ha) ?_
  cases namesOk 20 a with
  | true =>
    simp only [if_true, Bool.true_and]
    exact Ev.bind (f := fun _ t => some t) (names_f b hb) (Ev.now _)
  | false =>
    simp only [Bool.false_and]
    exact Ev.congr (fun k => if_neg (by simp)) (Ev.now _)
/-- Lists that are as long as a list may be. -/
def fitPart (x : S65) : Prop := x.f0.f0.length ≤ 9223372036854775807 ∧ x.f0.f1.length ≤ 9223372036854775807
theorem notPart_f (x : S65) (h : fitPart x) : Ev (fun k => promo_one_bundle_1.f k x.f0.f0 x.f0.f1 x.f1) (!partOk x) := by
  unfold promo_one_bundle_1.f partOk
  refine Ev.bind (scope_f _ _ h.1 h.2) ?_
  cases scopeOk x.f0.f0 x.f0.f1 with
  | true =>
    simp only [if_true, Bool.true_and]
    by_cases h1 : x.f1 < 1
    · simp only [if_pos h1]
      rw [show decide (1 ≤ x.f1) = false from decide_eq_false (by omega), Bool.false_and]
      exact Ev.now _
    · simp only [if_neg h1]
      rw [show decide (1 ≤ x.f1) = true from decide_eq_true (by omega), Bool.true_and]
      refine ev_eq (Ev.now _) ?_
      by_cases h2 : x.f1 > 100
      · rw [decide_eq_true h2, decide_eq_false (by omega)]; rfl
      · rw [decide_eq_false h2, decide_eq_true (by omega)]; rfl
  | false =>
    simp only [Bool.false_and]
    exact Ev.congr (fun k => if_neg (by simp)) (Ev.now _)
theorem badPart_f (l : List (S65)) (a : Int) (hl : l.length ≤ 9223372036854775807) (hp : ∀ i, i < l.length → fitPart (rd_T65 l (i : Int))) : Ev (fun k => api_Part_116.f k l a) (!allTo (fun i => partOk (rd_T65 l i)) l.length) := by
  have h1 := first_ev (F := fun k i => api_Part_136.l0 k l l.length (i : Int)) (n := l.length) (p := fun i => !partOk (rd_T65 l (i : Int))) (v := fun i => (i : Int)) (e := -1)
    (Ev.step (fun k => by rw [api_Part_136.l0, if_neg (by omega)]) (Ev.now _))
    (fun i hi hq => Ev.step (f := fun k => (promo_one_bundle_1.f k (rd_T65 l (i : Int)).f0.f0 (rd_T65 l (i : Int)).f0.f1 (rd_T65 l (i : Int)).f1).bind fun t => if t = true then some (i : Int) else api_Part_136.l0 k l l.length (wrap64 (i + 1))) (fun k => by rw [api_Part_136.l0, if_pos (by omega), if_pos (by omega), if_pos (by omega)])
      (Ev.bind (notPart_f _ (hp i hi)) (Ev.congr (fun k => if_pos hq) (Ev.now _))))
    (fun i hi hq r hr => Ev.step (f := fun k => (promo_one_bundle_1.f k (rd_T65 l (i : Int)).f0.f0 (rd_T65 l (i : Int)).f0.f1 (rd_T65 l (i : Int)).f1).bind fun t => if t = true then some (i : Int) else api_Part_136.l0 k l l.length (wrap64 (i + 1))) (fun k => by rw [api_Part_136.l0, if_pos (by omega), if_pos (by omega), if_pos (by omega)])
      (Ev.bind (notPart_f _ (hp i hi)) (Ev.congr (fun k => by rw [if_neg (by rw [hq]; simp), next i (by omega)]) hr)))
  have h2 : Ev (fun k => api_Part_116.f k l a) _ := Ev.bind (f := fun _ t => some (decide (t ≥ 0))) h1 (Ev.now _)
  refine ev_eq h2 ((found_ge (n := l.length) (p := fun i => !partOk (rd_T65 l (i : Int))) _ (fun i h => by rw [h]) (fun h => by rw [h])).trans ?_)
  simp only [Bool.not_not]
theorem bundle_f (a0_0 : ByteArray) (a0_1 : Int) (a0_2 : Int) (a0_3 : ByteArray) (a0_4 : ByteArray) (a0_5 : Bool) (l0_6 : List ByteArray) (l0_7 : List ByteArray) (a0_8 : Int) (a0_9 : Int) (a0_10 : Int) (a0_11 : Int) (a0_12 : Int) (l0_13 : List (S65)) (l0_14 : List (S67)) (hp : ∀ i, i < l0_13.length → fitPart (rd_T65 l0_13 (i : Int))) :
    Ev (fun k => promo_one_bundle.f k a0_0 a0_1 a0_2 a0_3 a0_4 a0_5 l0_6 l0_7 a0_8 a0_9 a0_10 a0_11 a0_12 l0_13 l0_14) (bundleOk a0_10 l0_13) := by
  unfold promo_one_bundle.f bundleOk partsOk
  by_cases h1 : (l0_13.length : Int) < 1
  · simp only [if_pos h1]
    rw [show decide (1 ≤ l0_13.length) = false from decide_eq_false (by omega), Bool.false_and, Bool.false_and, Bool.and_false]
    exact Ev.now _
  by_cases h2 : (l0_13.length : Int) > 3
  · simp only [if_neg h1, if_pos h2]
    rw [show decide (l0_13.length ≤ 3) = false from decide_eq_false (by omega), Bool.and_false, Bool.false_and, Bool.and_false]
    exact Ev.now _
  by_cases h3 : a0_10 < 0
  · simp only [if_neg h1, if_neg h2, if_pos h3]
    rw [show decide (0 ≤ a0_10) = false from decide_eq_false (by omega), Bool.false_and, Bool.false_and]
    exact Ev.now _
  by_cases h4 : a0_10 > 10000000000000
  · simp only [if_neg h1, if_neg h2, if_neg h3, if_pos h4]
    rw [show decide (a0_10 ≤ 10000000000000) = false from decide_eq_false (by omega), Bool.and_false, Bool.false_and]
    exact Ev.now _
  simp only [if_neg h1, if_neg h2, if_neg h3, if_neg h4]
  rw [show decide (0 ≤ a0_10) = true from decide_eq_true (by omega), show decide (a0_10 ≤ 10000000000000) = true from decide_eq_true (by omega), show decide (1 ≤ l0_13.length) = true from decide_eq_true (by omega), show decide (l0_13.length ≤ 3) = true from decide_eq_true (by omega)]
  exact ev_eq (Ev.bind (f := fun _ t => some (!t)) (badPart_f l0_13 _ (by omega) hp) (Ev.now _)) (by simp)
theorem tier_if (l : List (S67)) (i : Nat) (x : Int) (A : Option Bool) (hx : x = if i = 0 then -1 else (rd_T67 l ((i - 1 : Nat) : Int)).f0) : (if ((rd_T67 l i).f0) ≤ x then (some false) else (if ((rd_T67 l i).f0) > 10000000000000 then (some false) else (if ((rd_T67 l i).f1) < 0 then (some false) else (if ((rd_T67 l i).f1) > 10000 then (some false) else (if ((rd_T67 l i).f2) < 0 then (some false) else (if ((rd_T67 l i).f2) > 10000000000000 then (some false) else (if ((rd_T67 l i).f1) = 0 then (if ((rd_T67 l i).f2) = 0 then (some false) else A) else A))))))) = if tierAt l i = true then A else some false := by
  unfold tierAt
  rw [← hx]
  generalize rd_T67 l i = y
  obtain ⟨a, b, c⟩ := y
  simp only [Bool.and_eq_true, decide_eq_true_eq, Bool.not_eq_true', Bool.and_eq_false_iff, decide_eq_false_iff_not]
  repeat' split
  all_goals first | rfl | (exfalso; omega)
theorem tiers_f (a0_0 : ByteArray) (a0_1 : Int) (a0_2 : Int) (a0_3 : ByteArray) (a0_4 : ByteArray) (a0_5 : Bool) (l0_6 : List ByteArray) (l0_7 : List ByteArray) (a0_8 : Int) (a0_9 : Int) (a0_10 : Int) (a0_11 : Int) (a0_12 : Int) (l0_13 : List (S65)) (l : List (S67)) :
    Ev (fun k => promo_one_tiers.f k a0_0 a0_1 a0_2 a0_3 a0_4 a0_5 l0_6 l0_7 a0_8 a0_9 a0_10 a0_11 a0_12 l0_13 l) (tiersOk l) := by
  unfold promo_one_tiers.f tiersOk
  by_cases h1 : (l.length : Int) < 1
  · simp only [if_pos h1]
    rw [show decide (1 ≤ l.length) = false from decide_eq_false (by omega), Bool.false_and, Bool.false_and]
    exact Ev.step (fun k => by rw [promo_one_tiers.j0, if_pos rfl]) (Ev.now _)
  simp only [if_neg h1]
  by_cases h2 : (l.length : Int) > 6
  · rw [decide_eq_true h2, show decide (l.length ≤ 6) = false from decide_eq_false (by omega), Bool.and_false, Bool.false_and]
    exact Ev.step (fun k => by rw [promo_one_tiers.j0, if_pos rfl]) (Ev.now _)
  rw [decide_eq_false h2, show decide (1 ≤ l.length) = true from decide_eq_true (by omega), show decide (l.length ≤ 6) = true from decide_eq_true (by omega)]
  refine Ev.step (fun k => by rw [promo_one_tiers.j0, if_neg (by simp)]) ?_
  have := scan_ev (F := fun k i => promo_one_tiers.l0 k (if i = 0 then -1 else (rd_T67 l ((i - 1 : Nat) : Int)).f0) l l.length (i : Int)) (n := l.length) (p := tierAt l) (e := true)
    (Ev.step (fun k => by rw [promo_one_tiers.l0, if_neg (by omega)]) (Ev.now _))
    (fun i hi hp r hr => Ev.step (fun k => by rw [promo_one_tiers.l0, if_pos (by omega), if_pos (by omega), if_pos (by omega), tier_if l i _ _ rfl, if_pos hp, next i (by omega)]; simp only [Nat.succ_ne_zero, if_false, Nat.add_sub_cancel]) hr)
    (fun i hi hp => Ev.step (fun k => by rw [promo_one_tiers.l0, if_pos (by omega), if_pos (by omega), if_pos (by omega), tier_if l i _ _ rfl, if_neg (by rw [hp]; simp)]) (Ev.now _))
  rw [Bool.and_true] at this
  exact this
theorem named_f (s : ByteArray) : Ev (fun k => promo_named.f k s) (namedOk s) := by
  unfold promo_named.f namedOk
  by_cases h : s.toList = ([] : List UInt8)
  · simp only [if_pos h]
    rw [decide_eq_true h, Bool.true_or]
    exact Ev.now _
  · simp only [if_neg h]
    rw [decide_eq_false h, Bool.false_or]
    exact Ev.bind (f := fun _ t => some t) (name_f s) (Ev.now _)
/-- One test ahead of others. -/
theorem test_ev {b : Bool} {g : Nat → Option Bool} {r : Bool} (h : b = true → Ev g r) : Ev (fun k => if b = true then g k else some false) (b && r) := by
  cases b with
  | true => simp only [if_true, Bool.true_and]; exact h rfl
  | false => simp only [Bool.false_and]; exact Ev.congr (fun k => if_neg (by simp)) (Ev.now _)
theorem testP_ev {c : Prop} [Decidable c] {g : Nat → Option Bool} {r : Bool} (h : c → Ev g r) : Ev (fun k => if c then g k else some false) (decide c && r) := by
  by_cases hc : c
  · simp only [if_pos hc, decide_eq_true hc, Bool.true_and]; exact h hc
  · simp only [if_neg hc, decide_eq_false hc, Bool.false_and]; exact Ev.now _
theorem head_f (a0_0 : ByteArray) (a0_1 : Int) (a0_2 : Int) (a0_3 : ByteArray) (a0_4 : ByteArray) (a0_5 : Bool) (l0_6 : List ByteArray) (l0_7 : List ByteArray) (a0_8 : Int) (a0_9 : Int) (a0_10 : Int) (a0_11 : Int) (a0_12 : Int) (l0_13 : List (S65)) (l0_14 : List (S67)) (h6 : l0_6.length ≤ 9223372036854775807) (h7 : l0_7.length ≤ 9223372036854775807) :
    Ev (fun k => promo_one_head.f k a0_0 a0_1 a0_2 a0_3 a0_4 a0_5 l0_6 l0_7 a0_8 a0_9 a0_10 a0_11 a0_12 l0_13 l0_14) (headOk a0_0 a0_2 a0_3 a0_4 l0_6 l0_7 a0_8) := by
  unfold promo_one_head.f headOk
  simp only [Bool.and_assoc]
  refine Ev.bind (name_f a0_0) (test_ev fun _ => ?_)
  refine testP_ev (c := a0_2 ≥ 0) fun _ => testP_ev (c := a0_2 ≤ 1000) fun _ => ?_
  refine Ev.bind (named_f a0_3) (test_ev fun _ => ?_)
  refine Ev.bind (named_f a0_4) (test_ev fun _ => ?_)
  refine Ev.bind (scope_f l0_6 l0_7 h6 h7) (test_ev fun _ => ?_)
  exact testP_ev (c := a0_8 ≥ 0) fun _ => Ev.now _
theorem buyGet_f (a0_0 : ByteArray) (a0_1 : Int) (a0_2 : Int) (a0_3 : ByteArray) (a0_4 : ByteArray) (a0_5 : Bool) (l0_6 : List ByteArray) (l0_7 : List ByteArray) (a0_8 : Int) (a0_9 : Int) (a0_10 : Int) (a0_11 : Int) (a0_12 : Int) (l0_13 : List (S65)) (l0_14 : List (S67)) :
    promo_one_rate.f a0_0 a0_1 a0_2 a0_3 a0_4 a0_5 l0_6 l0_7 a0_8 a0_9 a0_10 a0_11 a0_12 l0_13 l0_14 = some (rateOk a0_9) ∧ promo_one_amount.f a0_0 a0_1 a0_2 a0_3 a0_4 a0_5 l0_6 l0_7 a0_8 a0_9 a0_10 a0_11 a0_12 l0_13 l0_14 = some (amountOk a0_10) ∧
    promo_one_buyGet.f a0_0 a0_1 a0_2 a0_3 a0_4 a0_5 l0_6 l0_7 a0_8 a0_9 a0_10 a0_11 a0_12 l0_13 l0_14 = some (buyGetOk a0_9 a0_11 a0_12) := by
  have h1 : promo_one_rate.f a0_0 a0_1 a0_2 a0_3 a0_4 a0_5 l0_6 l0_7 a0_8 a0_9 a0_10 a0_11 a0_12 l0_13 l0_14 = some (rateOk a0_9) := by
    unfold promo_one_rate.f rateOk
    by_cases h : a0_9 ≥ 1
    · rw [if_pos h, decide_eq_true (p := 1 ≤ a0_9) h, Bool.true_and]
    · rw [if_neg h, decide_eq_false (p := 1 ≤ a0_9) h, Bool.false_and]
  refine ⟨h1, ?_, ?_⟩
  · unfold promo_one_amount.f amountOk
    by_cases h : a0_10 ≥ 1
    · rw [if_pos h, decide_eq_true (p := 1 ≤ a0_10) h, Bool.true_and]
    · rw [if_neg h, decide_eq_false (p := 1 ≤ a0_10) h, Bool.false_and]
  · unfold promo_one_buyGet.f buyGetOk
    rw [h1, Option.bind_some]
    cases rateOk a0_9 with
    | false => simp
    | true =>
      rw [if_pos rfl, Bool.true_and]
      by_cases h2 : a0_11 ≥ 1
      · rw [if_pos h2, decide_eq_true (p := 1 ≤ a0_11) h2, Bool.true_and]
        by_cases h3 : a0_11 ≤ 100
        · rw [if_pos h3, decide_eq_true h3, Bool.true_and]
          by_cases h4 : a0_12 ≥ 1
          · rw [if_pos h4, decide_eq_true (p := 1 ≤ a0_12) h4, Bool.true_and]
          · rw [if_neg h4, decide_eq_false (p := 1 ≤ a0_12) h4, Bool.false_and]
        · rw [if_neg h3, decide_eq_false h3, Bool.false_and, Bool.false_and]
      · rw [if_neg h2, decide_eq_false (p := 1 ≤ a0_11) h2, Bool.false_and, Bool.false_and, Bool.false_and]
end Go.Proofs.Ytdmeepjefccpgaa.PP
