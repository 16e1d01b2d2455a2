/- Tenders that gave something back. Plain Lean. -/
import Derived.Test.YtebochcdbknodaaVSpecT
import Derived.Test.YtebochcdbknodaaVSpecS2
set_option linter.unusedVariables false
set_option linter.unusedSimpArgs false
namespace Go.Proofs.Ytebochcdbknodaa.ST
open Go Go.RowKit Go.Proofs.YtebochcdbknodaaW.PrintWords Go.Proofs.YtebochcdbknodaaW.PrintMore Go.Proofs.Ytebochcdbknodaa.Rw Go.Proofs.Ytebochcdbknodaa.SP Go.Proofs.Ytebochcdbknodaa.QM

abbrev zT : Ten := z39
def addG (x : Ten) (n : Int) : Ten := ⟨x.f0, x.f1, x.f2 + n⟩
/-- Tenders that gave something back. -/
def giveL (out : List Ten) : List Bak → List Ten × Int
  | [] => (out, 0)
  | b :: bs => if b.f0 < 0 ∨ (out.length : Int) ≤ b.f0 then ([], 7) else if b.f1 < 1 then ([], 2) else if dif (out.getD b.f0.toNat zT) < b.f1 then ([], 12) else giveL (out.set b.f0.toNat (addG (out.getD b.f0.toNat zT) b.f1)) bs
def give (l : List Ten) (bs : List Bak) : List Ten × Int := if tall l = true then giveL l bs else ([], 2)
def take (l : List Ten) (k a : Int) : List Ten × Int := if tall l = false ∨ k < 1 ∨ 9 < k ∨ a < 1 ∨ 100000000000000 < a then ([], 2) else if 6 ≤ l.length then ([], 6) else (l ++ [⟨k, a, 0⟩], 0)

theorem getD_of {l : List Ten} {i : Nat} (h : i < l.length) : l.getD i zT = l[i] := by simp [h]
def setG (l : List Ten) (i : Nat) (n : Int) : List Ten := l.set i (addG (l.getD i zT) n)
theorem setG_length (l : List Ten) (i : Nat) (n : Int) : (setG l i n).length = l.length := by simp [setG]
theorem setG_get (l : List Ten) (i : Nat) (n : Int) (j : Nat) (h : i ≠ j) : (setG l i n).getD j zT = l.getD j zT := by
  simp [setG, List.getD_eq_getElem?_getD, List.getElem?_set, h]
theorem setG_zero (l : List Ten) (i : Nat) (h : i < l.length) : setG l i 0 = l := by
  unfold setG
  rw [getD_of h]
  have : addG l[i] 0 = l[i] := by cases l[i]; simp [addG]
  rw [this]
  exact List.set_getElem_self h
/-- The rows asked one by one give what they have, up to the amount. -/
def app (l : List Ten) : List Int → Int → List Ten
  | [], _ => l
  | i :: is, a => app (setG l i.toNat (mn (dif (l.getD i.toNat zT)) a)) is (a - mn (dif (l.getD i.toNat zT)) a)
theorem app_length (is : List Int) : ∀ (l : List Ten) (a : Int), (app l is a).length = l.length := by
  induction is with
  | nil => intro l a; rfl
  | cons i is ih => intro l a; show (app _ is _).length = _; rw [ih, setG_length]

theorem tok_add {x : Ten} {n : Int} (h : tok x = true) (h0 : 0 ≤ n) (h1 : n ≤ dif x) : tok (addG x n) = true := by
  have := tok_iff.1 h
  unfold dif at h1
  refine tok_iff.2 ?_
  show 1 ≤ x.f0 ∧ x.f0 ≤ 9 ∧ 0 ≤ x.f1 ∧ x.f1 ≤ 100000000000000 ∧ 0 ≤ x.f2 + n ∧ x.f2 + n ≤ x.f1
  omega
theorem mn_le (a b : Int) : mn a b ≤ a ∧ mn a b ≤ b := by unfold mn; split <;> omega
theorem mn_nonneg {a b : Int} (h : 0 ≤ a) (k : 0 ≤ b) : 0 ≤ mn a b := by unfold mn; split <;> omega
theorem tok_dif {x : Ten} (h : tok x = true) : 0 ≤ dif x := by have := tok_iff.1 h; unfold dif; omega
theorem all_setG {l : List Ten} (h : ∀ x ∈ l, tok x = true) (i : Nat) (hi : i < l.length) (n : Int) (h0 : 0 ≤ n) (h1 : n ≤ dif l[i]) : ∀ x ∈ setG l i n, tok x = true := by
  intro x hx
  unfold setG at hx
  rw [getD_of hi] at hx
  rcases List.mem_or_eq_of_mem_set hx with hx | rfl
  · exact h x hx
  · exact tok_add (h _ (List.getElem_mem hi)) h0 h1
theorem app_all (is : List Int) : ∀ (l : List Ten) (a : Int), (∀ x ∈ l, tok x = true) → (∀ z ∈ is, 0 ≤ z ∧ z < (l.length : Int)) → 0 ≤ a → ∀ x ∈ app l is a, tok x = true := by
  induction is with
  | nil => intro l a h _ _; exact h
  | cons i is ih =>
    intro l a h hr ha
    have hi := hr i List.mem_cons_self
    have hil : i.toNat < l.length := by omega
    have hd := tok_dif (h _ (List.getElem_mem hil))
    show ∀ x ∈ app (setG l i.toNat (mn (dif (l.getD i.toNat zT)) a)) is (a - mn (dif (l.getD i.toNat zT)) a), tok x = true
    rw [getD_of hil]
    have hm := mn_le (dif l[i.toNat]) a
    exact ih _ _ (all_setG h _ hil _ (mn_nonneg hd ha) hm.1) (fun z hz => by rw [setG_length]; exact hr z (List.mem_cons_of_mem _ hz)) (by omega)

theorem tsum_setG (l : List Ten) (i : Nat) (h : i < l.length) (n : Int) : tsum (setG l i n) = tsum l - n := by
  unfold tsum setG
  rw [getD_of h, List.map_set, sum_set _ _ (by simpa using h)]
  simp only [List.getElem_map]
  show _ - dif l[i] + (l[i].f1 - (l[i].f2 + n)) = _
  unfold dif
  omega
/-- What the rows of some places have. -/
def haveL (l : List Ten) (is : List Int) : Int := (is.map fun i => dif (l.getD i.toNat zT)).sum

section
variable (is : List Int)
/-- What a split tells may be given. -/
theorem give_gives (l0 : List Ten) (cr : List Int) : ∀ (l : List Ten) (a : Int), 0 ≤ a → (∀ x ∈ l, tok x = true) → l.length = l0.length → is.Nodup → (∀ z ∈ is, 0 ≤ z ∧ z < (l.length : Int)) → (∀ z ∈ is, l.getD z.toNat zT = l0.getD z.toNat zT) →
    giveL l (gives l0 cr is a) = (app l is a, 0) := by
  induction is with
  | nil => intro l a _ _ _ _ _ _; rfl
  | cons i is ih =>
    intro l a ha hall hl hn hr hd
    have hi := hr i List.mem_cons_self
    have hn' := List.nodup_cons.1 hn
    have hil : i.toNat < l.length := by omega
    have hdi := hd i List.mem_cons_self
    have hd0 := tok_dif (hall _ (List.getElem_mem hil))
    rw [getD_of hil] at hdi
    have hrest : ∀ n, ∀ z ∈ is, (setG l i.toNat n).getD z.toNat zT = l0.getD z.toNat zT := fun n z hz => by
      rw [setG_get _ _ _ _ (fun e => by
        have hz2 := hr z (List.mem_cons_of_mem _ hz)
        have : i = z := by omega
        rw [this] at hn'
        exact hn'.1 hz)]
      exact hd z (List.mem_cons_of_mem _ hz)
    have hrr : ∀ n, ∀ z ∈ is, 0 ≤ z ∧ z < ((setG l i.toNat n).length : Int) := fun n z hz => by rw [setG_length]; exact hr z (List.mem_cons_of_mem _ hz)
    have e2 : ∀ x y : Int, gives.mn x y = mn x y := fun _ _ => rfl
    simp only [gives, e2, app]
    rw [getD_of hil, ← hdi]
    have hm := mn_le (dif l[i.toNat]) a
    have hm0 := mn_nonneg hd0 ha
    by_cases hp : 0 < mn (dif l[i.toNat]) a
    · rw [if_pos hp]
      simp only [giveL]
      rw [if_neg (by omega), if_neg (by omega), if_neg (by rw [getD_of hil]; omega)]
      exact ih _ _ (by omega) (all_setG hall _ hil _ hm0 hm.1) (by rw [List.length_set]; exact hl) hn'.2 (hrr _) (hrest _)
    · rw [if_neg hp]
      have hz : mn (dif l[i.toNat]) a = 0 := by omega
      rw [hz, setG_zero l _ hil, Int.sub_zero]
      exact ih l a ha hall hl hn'.2 (fun z hz => hr z (List.mem_cons_of_mem _ hz)) (fun z hz => hd z (List.mem_cons_of_mem _ hz))

theorem app_get_far : ∀ (l : List Ten) (a : Int) (j : Nat), (∀ z ∈ is, z.toNat ≠ j) → (app l is a).getD j zT = l.getD j zT := by
  induction is with
  | nil => intro l a j _; rfl
  | cons i is ih =>
    intro l a j h
    show (app _ is _).getD j zT = _
    rw [ih _ _ j (fun z hz => h z (List.mem_cons_of_mem _ hz)), setG_get _ _ _ _ (h i List.mem_cons_self)]

theorem have_setG (l : List Ten) (i : Nat) (n : Int) (h : ∀ z ∈ is, z.toNat ≠ i) : haveL (setG l i n) is = haveL l is := by
  unfold haveL
  congr 1
  apply List.map_congr_left
  intro z hz
  rw [setG_get _ _ _ _ (Ne.symm (h z hz))]
theorem app_tsum : ∀ (l : List Ten) (a : Int), 0 ≤ a → (∀ x ∈ l, tok x = true) → is.Nodup → (∀ z ∈ is, 0 ≤ z ∧ z < (l.length : Int)) → tsum (app l is a) = tsum l - mn a (haveL l is) ∧ 0 ≤ haveL l is := by
  induction is with
  | nil => intro l a ha _ _ _; simp [app, haveL, mn]; omega
  | cons i is ih =>
    intro l a ha hall hn hr
    have hi := hr i List.mem_cons_self
    have hn' := List.nodup_cons.1 hn
    have hil : i.toNat < l.length := by omega
    have hd0 := tok_dif (hall _ (List.getElem_mem hil))
    have hfar : ∀ z ∈ is, z.toNat ≠ i.toNat := fun z hz e => by
      have hz2 := hr z (List.mem_cons_of_mem _ hz)
      have : i = z := by omega
      rw [this] at hn'
      exact hn'.1 hz
    obtain ⟨d, hd⟩ : ∃ d, d = dif l[i.toNat] := ⟨_, rfl⟩
    have hm := mn_le d a
    have hd1 : 0 ≤ d := hd ▸ hd0
    have hm0 := mn_nonneg hd1 ha
    show tsum (app (setG l i.toNat (mn (dif (l.getD i.toNat zT)) a)) is (a - mn (dif (l.getD i.toNat zT)) a)) = _ ∧ _
    have hh : haveL l (i :: is) = d + haveL l is := by simp [haveL, hil, hd]
    rw [getD_of hil, ← hd, hh]
    have h := ih (setG l i.toNat (mn d a)) (a - mn d a) (by omega) (all_setG hall _ hil _ hm0 (by rw [← hd]; exact hm.1)) hn'.2 (fun z hz => by rw [setG_length]; exact hr z (List.mem_cons_of_mem _ hz))
    rw [have_setG is l _ _ hfar, tsum_setG l _ hil] at h
    refine ⟨?_, by omega⟩
    rw [h.1]
    have := h.2
    unfold mn
    repeat' split <;> omega
end

theorem have_all (l : List Ten) (is : List Int) (h : is.Perm ((List.range l.length).map fun i : Nat => (i : Int))) : haveL l is = tsum l := by
  unfold haveL tsum
  rw [perm_sum (h.map _), List.map_map]
  congr 1
  apply List.ext_getElem
  · simp
  · intro i h1 h2
    have : i < l.length := by simpa using h2
    simp [this]
end Go.Proofs.Ytebochcdbknodaa.ST
