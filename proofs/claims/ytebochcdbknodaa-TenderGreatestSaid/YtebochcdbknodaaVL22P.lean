/- What the statements on tenders have in common: rows brought into range, plain likeness, the awake trial. -/
import Derived.Test.YtebochcdbknodaaVRwL22
import Derived.Test.YtebochcdbknodaaVRwL22b
import Derived.Test.YtebochcdbknodaaVGiveP
import Derived.Test.YtebochcdbknodaaVModP
set_option linter.unusedVariables false
set_option linter.unusedSimpArgs false
namespace Go.Proofs.Ytebochcdbknodaa.LT
open Go Go.RowKit Go.Proofs.YtebochcdbknodaaW.PrintWords Go.Proofs.YtebochcdbknodaaW.PrintMore Go.Proofs.Ytebochcdbknodaa.Rw Go.Proofs.Ytebochcdbknodaa.SP Go.Proofs.Ytebochcdbknodaa.ST Go.Proofs.Ytebochcdbknodaa.QM Go.Proofs.Ytebochcdbknodaa.MP
open Go.Proofs.Ytebochcdbknodaa.TP (nxt rdT_of rdB_of)

theorem backs_runs (a : List Bak) (hm : a.length ≤ 9223372036854775807) : ∀ (d i k : Nat), i + d = a.length → d < k →
    api_Back_35.l0 k a a i = some true := by
  intro d
  induction d with
  | zero =>
    intro i k hi hk
    obtain ⟨k, rfl⟩ : ∃ m, k = m + 1 := ⟨k - 1, by omega⟩
    rw [api_Back_35.l0, if_neg (by omega)]
  | succ d ih =>
    intro i k hi hk
    obtain ⟨k, rfl⟩ : ∃ m, k = m + 1 := ⟨k - 1, by omega⟩
    have hlt : i < a.length := by omega
    rw [api_Back_35.l0, if_pos (by omega), if_pos (by omega), if_pos (by omega), rdB_of a i hlt]
    unfold api_Back_1.f
    simp only [Option.bind_some]
    rw [if_pos (by simp), nxt i (by omega)]
    exact ih (i + 1) k (by omega) (by omega)
theorem backs_ev (a : List Bak) (hm : a.length ≤ 9223372036854775807) : Ev (fun k => api_Back_14.f k a a) true := by
  refine ⟨a.length + 1, fun k hk => ?_⟩
  show api_Back_14.f k a a = _
  unfold api_Back_14.f api_Back_35.f
  rw [if_pos rfl]
  have h := backs_runs a hm a.length 0 k (by omega) (by omega)
  rw [show (((0 : Nat) : Int)) = 0 from rfl] at h
  rw [h]; rfl
theorem tens_runs (a : List Ten) (hm : a.length ≤ 9223372036854775807) : ∀ (d i k : Nat), i + d = a.length → d < k →
    api_Tender_41.l0 k a a i = some true := by
  intro d
  induction d with
  | zero =>
    intro i k hi hk
    obtain ⟨k, rfl⟩ : ∃ m, k = m + 1 := ⟨k - 1, by omega⟩
    rw [api_Tender_41.l0, if_neg (by omega)]
  | succ d ih =>
    intro i k hi hk
    obtain ⟨k, rfl⟩ : ∃ m, k = m + 1 := ⟨k - 1, by omega⟩
    have hlt : i < a.length := by omega
    rw [api_Tender_41.l0, if_pos (by omega), if_pos (by omega), if_pos (by omega), rdT_of a i hlt]
    unfold api_Tender_1.f
    simp only [Option.bind_some]
    rw [if_pos (by simp), nxt i (by omega)]
    exact ih (i + 1) k (by omega) (by omega)
def nr1 (x : Ten) : Ten := ⟨1 + md x.f0 4, md x.f1 5000, md x.f2 (md x.f1 5000 + 1)⟩
def nr (l : List Ten) : List Ten := (l.take 6).map nr1
theorem nr_length (l : List Ten) : (nr l).length ≤ 6 := by simp [nr]; omega
theorem nr1_tok (x : Ten) : tok (nr1 x) = true ∧ (nr1 x).f1 < 5000 := by
  have h0 := md_range x.f0 4 (by omega)
  have h1 := md_range x.f1 5000 (by omega)
  have h2 := md_range x.f2 (md x.f1 5000 + 1) (by omega)
  refine ⟨tok_iff.2 ?_, h1.2⟩
  show 1 ≤ 1 + md x.f0 4 ∧ 1 + md x.f0 4 ≤ 9 ∧ 0 ≤ md x.f1 5000 ∧ md x.f1 5000 ≤ 100000000000000 ∧ 0 ≤ md x.f2 (md x.f1 5000 + 1) ∧ md x.f2 (md x.f1 5000 + 1) ≤ md x.f1 5000
  omega
theorem nr_all (l : List Ten) : ∀ x ∈ nr l, tok x = true ∧ x.f1 < 5000 := by
  intro x hx
  obtain ⟨y, _, rfl⟩ := List.mem_map.1 hx
  exact nr1_tok y
theorem nr_tall (l : List Ten) : tall (nr l) = true := tall_iff.2 ⟨nr_length l, fun x hx => (nr_all l x hx).1⟩
theorem tsum_le (c : Int) (l : List Ten) (h : ∀ x ∈ l, tok x = true ∧ x.f1 ≤ c) : 0 ≤ tsum l ∧ tsum l ≤ l.length * c := by
  unfold tsum
  induction l with
  | nil => simp
  | cons x l ih =>
    have h1 := h x List.mem_cons_self
    have h2 := tok_iff.1 h1.1
    have h3 := ih (fun y hy => h y (List.mem_cons_of_mem _ hy))
    simp only [List.map_cons, List.sum_cons, List.length_cons]
    have hd : dif x = x.f1 - x.f2 := rfl
    have e : (((l.length + 1 : Nat) : Int)) * c = l.length * c + c := by rw [Int.natCast_add, Int.add_mul]; simp
    omega
theorem nr_left (l : List Ten) : tleft (nr l) = tsum (nr l) ∧ 0 ≤ tsum (nr l) ∧ tsum (nr l) ≤ 30000 := by
  have h := tsum_le 5000 (nr l) (fun x hx => ⟨(nr_all l x hx).1, by have := (nr_all l x hx).2; omega⟩)
  have := nr_length l
  refine ⟨by unfold tleft; rw [if_pos (nr_tall l)], h.1, ?_⟩
  have h6 : ((nr l).length : Int) * 5000 ≤ 6 * 5000 := Int.mul_le_mul_of_nonneg_right (by omega) (by omega)
  omega
theorem near_runs (l : List Ten) (hl : l.length ≤ 9223372036854775807) : ∀ (d i k : Nat), i + d = (l.take 6).length → 2 * d + 1 < k →
    haberdashlaw22_near.l0 k l (((l.take 6).take i).map nr1) i = some (nr l) := by
  intro d
  induction d with
  | zero =>
    intro i k hi hk
    obtain ⟨k, rfl⟩ : ∃ m, k = m + 1 + 1 := ⟨k - 2, by omega⟩
    rw [haberdashlaw22_near.l0]
    have e : ((l.take 6).take i).map nr1 = nr l := by rw [List.take_of_length_le (by omega)]; rfl
    by_cases h1 : (i : Int) < (l.length : Int)
    · rw [if_pos h1, haberdashlaw22_near.j1, if_neg (by simp at hi ⊢; omega), e]
    · rw [if_neg h1, haberdashlaw22_near.j1, if_neg (by simp), e]
  | succ d ih =>
    intro i k hi hk
    obtain ⟨k, rfl⟩ : ∃ m, k = m + 1 + 1 := ⟨k - 2, by omega⟩
    have hlt : i < (l.take 6).length := by omega
    have h60 : i < 6 ∧ i < l.length := by simp at hlt; omega
    have h1 := md_range l[i].f1 5000 (by omega)
    have h0 := md_range l[i].f0 4 (by omega)
    rw [haberdashlaw22_near.l0, if_pos (by omega), haberdashlaw22_near.j1, if_pos (by simp; omega), if_pos (by omega), if_pos (by omega), rdT_of l i h60.2, mod64_f _ 5000 (by omega) (by omega)]
    simp only [Option.bind_some]
    rw [mod_f _ 4 (by omega) (by omega)]
    simp only [Option.bind_some]
    rw [wrap_ok (x := md l[i].f1 5000 + 1) (by omega) (by omega), mod64_f _ _ (by omega) (by omega)]
    simp only [Option.bind_some]
    rw [if_pos (by simp; omega), next i (by omega), wrap_ok (by omega) (by omega)]
    have e : (((l.take 6).take i).map nr1) ++ [nr1 l[i]] = ((l.take 6).take (i + 1)).map nr1 := by
      rw [List.take_succ_eq_append_getElem hlt, List.map_append]
      simp
    have e2 : ([⟨1 + md l[i].f0 4, md l[i].f1 5000, md l[i].f2 (md l[i].f1 5000 + 1)⟩] : List Ten) = [nr1 l[i]] := rfl
    rw [e2, e]
    exact ih (i + 1) k (by omega) (by omega)
theorem near_f (l : List Ten) (hl : l.length ≤ 9223372036854775807) : Ev (fun k => haberdashlaw22_near.f k l) (nr l) := by
  refine ⟨14, fun k hk => ?_⟩
  have h := near_runs l hl (l.take 6).length 0 k (by omega) (by simp; omega)
  simpa [haberdashlaw22_near.f] using h
theorem awake_val : split [⟨1, 5, 0⟩, ⟨2, 5, 0⟩] [2] [1] 7 = ([⟨1, 5, false⟩, ⟨0, 2, true⟩], 0) := by kernel_rfl
theorem split_t (l : List Ten) (o cr : List Int) (a : Int) (ho : o.length ≤ 1000000000) (hc : cr.length ≤ 1000000000) : tender_Split.f l o cr a = some (split l o cr a) := by
  unfold tender_Split.f
  rw [if_pos ⟨ho, hc⟩]
theorem awake_ev : Ev (fun k => haberdashlaw22_awake.f k) true := by
  unfold haberdashlaw22_awake.f
  simp only [split_t _ _ _ _ (show ([2] : List Int).length ≤ 1000000000 by decide) (show ([1] : List Int).length ≤ 1000000000 by decide), Option.bind_some, awake_val, if_true]
  refine Ev.bind (backs_ev _ (by decide)) ?_
  simp only [if_true]
  refine Ev.bind ⟨11, fun k hk => TP.left_t _ k (by omega)⟩ ?_
  rw [show tleft [⟨1, 5, 0⟩, ⟨2, 5, 0⟩] = 10 from by decide +kernel]
  simp only [if_true]
  refine Ev.bind ⟨11, fun k hk => TP.right_t _ k (by omega)⟩ ?_
  rw [show tall [⟨1, 5, 0⟩, ⟨2, 5, 0⟩] = true from by decide +kernel]
  exact Ev.now _

/-- A split that may be: what it gives back, and that it may be given. -/
theorem split_ok (l : List Ten) (o cr : List Int) (a : Int) (h : tall l = true) (ha : 0 ≤ a ∧ a ≤ 100000000000000) (h2 : a ≤ tsum l) : split l o cr a = (gives l cr (ord (ranks o l)) a, 0) := by
  unfold split tleft
  rw [if_neg (by rw [h, rt_iff.2 ha]; simp), if_pos h, if_neg (by omega)]
theorem ord_ok (l : List Ten) (o : List Int) : (ord (ranks o l)).Nodup ∧ (∀ z ∈ ord (ranks o l), 0 ≤ z ∧ z < (l.length : Int)) ∧ haveL l (ord (ranks o l)) = tsum l := by
  have h := ord_perm (ranks o l)
  rw [ranks_length] at h
  refine ⟨?_, ?_, have_all l _ h⟩
  · refine h.nodup_iff.2 ?_
    rw [List.nodup_iff_pairwise_ne]
    refine List.Pairwise.map _ ?_ (List.nodup_iff_pairwise_ne.1 List.nodup_range)
    intro a b hab e
    exact hab (by omega)
  · intro z hz
    obtain ⟨i, hi, rfl⟩ := List.mem_map.1 (h.mem_iff.1 hz)
    have := List.mem_range.1 hi
    omega
theorem gave (l : List Ten) (o cr : List Int) (a : Int) (h : tall l = true) (ha : 0 ≤ a) : give l (gives l cr (ord (ranks o l)) a) = (app l (ord (ranks o l)) a, 0) ∧ tall (app l (ord (ranks o l)) a) = true ∧ tsum (app l (ord (ranks o l)) a) = tsum l - mn a (tsum l) := by
  have h2 := tall_iff.1 h
  have hk := ord_ok l o
  refine ⟨?_, ?_, ?_⟩
  · unfold give
    rw [if_pos h, give_gives _ l cr l a ha h2.2 rfl hk.1 hk.2.1 (fun _ _ => rfl)]
  · exact tall_iff.2 ⟨by rw [app_length]; exact h2.1, app_all _ l a h2.2 hk.2.1 ha⟩
  · have := (app_tsum _ l a ha h2.2 hk.1 hk.2.1).1
    rw [hk.2.2] at this
    exact this
theorem gives_length (l : List Ten) (cr : List Int) : ∀ (is : List Int) (a : Int), (gives l cr is a).length ≤ is.length := by
  intro is
  induction is with
  | nil => intro a; simp [gives]
  | cons i is ih =>
    intro a
    show (if 0 < gives.mn (dif (l.getD i.toNat zT)) a then (⟨i, gives.mn (dif (l.getD i.toNat zT)) a, decide (plc cr (l.getD i.toNat zT).f0 < cr.length)⟩ : Bak) :: gives l cr is (a - gives.mn (dif (l.getD i.toNat zT)) a) else gives l cr is a).length ≤ _
    have h1 := ih (a - gives.mn (dif (l.getD i.toNat zT)) a)
    have h2 := ih a
    split
    · simp only [List.length_cons]; omega
    · simp only [List.length_cons]; omega
theorem gives_len (l : List Ten) (o cr : List Int) (a : Int) (h : tall l = true) : (gives l cr (ord (ranks o l)) a).length ≤ 6 := by
  have h1 := gives_length l cr (ord (ranks o l)) a
  have h2 := (tall_iff.1 h).1
  have h3 : (ord (ranks o l)).length = l.length := by rw [ord_length, ranks_length]
  omega
end Go.Proofs.Ytebochcdbknodaa.LT
