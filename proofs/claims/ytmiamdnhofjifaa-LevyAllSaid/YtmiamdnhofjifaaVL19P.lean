/- The statements on levy: what their helpers come to. Plain Lean. -/
import Derived.Test.YtmiamdnhofjifaaVPTaxP
import Derived.Test.YtmiamdnhofjifaaVLevyP
import Derived.Test.YtmiamdnhofjifaaVPlainP
import Derived.Test.YtmiamdnhofjifaaVRwPlain
import Derived.Test.YtmiamdnhofjifaaVAwL19
set_option linter.unusedVariables false
set_option linter.unusedSimpArgs false
namespace Go.Proofs.Ytmiamdnhofjifaa.L19
open Go Go.RowKit Go.Proofs.YtmiamdnhofjifaaW.PrintWords Go.Proofs.YtmiamdnhofjifaaW.PrintMore Go.Proofs.Ytmiamdnhofjifaa.Rw Go.Proofs.Ytmiamdnhofjifaa.EP Go.Proofs.Ytmiamdnhofjifaa.NP Go.Proofs.Ytmiamdnhofjifaa.XP Go.Proofs.Ytmiamdnhofjifaa.YP Go.Proofs.Ytmiamdnhofjifaa.PX
open Go.Proofs.Ytmiamdnhofjifaa.MP (md md_range mod_f mod64_f)

def fewOk (l : List Zn) (c : List ByteArray) (n : List Int) : Bool := allTo (fun j => decide ((l.getD j zZ).f1.length ≤ 60)) l.length && (decide (l.length ≤ 30) && (decide (c.length ≤ 60) && decide (n.length ≤ 60)))
theorem few_f (i o : Bool) (k : Int) (l : List Zn) (c : List ByteArray) (n : List Int) (hl : l.length ≤ 9223372036854775807) : Ev (fun m => haberdashlaw19_few.f m i o k l c n) (fewOk l c n) :=
  scan_ev (F := fun m j => haberdashlaw19_few.l0 m c n (j : Int) i o k l) (n := l.length) (p := fun j => decide ((l.getD j zZ).f1.length ≤ 60)) (e := decide (l.length ≤ 30) && (decide (c.length ≤ 60) && decide (n.length ≤ 60)))
    (Ev.step (f := fun _ => some (decide (l.length ≤ 30) && (decide (c.length ≤ 60) && decide (n.length ≤ 60)))) (fun m => by
      rw [haberdashlaw19_few.l0, if_neg (by omega)]
      by_cases h1 : (l.length : Int) ≤ 30
      · rw [if_pos h1, show decide (l.length ≤ 30) = true from decide_eq_true (by omega), Bool.true_and]
        by_cases h2 : (c.length : Int) ≤ 60
        · rw [if_pos h2, show decide (c.length ≤ 60) = true from decide_eq_true (by omega), Bool.true_and]
          congr 1
          rw [Bool.eq_iff_iff, decide_eq_true_eq, decide_eq_true_eq]; omega
        · rw [if_neg h2, show decide (c.length ≤ 60) = false from decide_eq_false (by omega), Bool.false_and]
      · rw [if_neg h1, show decide (l.length ≤ 30) = false from decide_eq_false (by omega), Bool.false_and]) (Ev.now _))
    (fun j hj hp r hr => by
      have := of_decide_eq_true hp
      exact Ev.step (fun m => by rw [haberdashlaw19_few.l0, if_pos (by omega), if_pos (by omega), rdZ_d, if_neg (by omega), next j (by omega)]) hr)
    (fun j hj hp => by
      have := of_decide_eq_false hp
      exact Ev.step (fun m => by rw [haberdashlaw19_few.l0, if_pos (by omega), if_pos (by omega), rdZ_d, if_pos (by omega)]) (Ev.now _))
theorem fewOk_iff {l : List Zn} {c : List ByteArray} {n : List Int} (h : fewOk l c n = true) : l.length ≤ 30 ∧ (∀ z ∈ l, z.f1.length ≤ 60) ∧ n.length ≤ 60 ∧ c.length ≤ 60 := by
  unfold fewOk at h
  simp only [Bool.and_eq_true, decide_eq_true_eq] at h
  refine ⟨h.2.1, fun z hz => ?_, h.2.2.2, h.2.2.1⟩
  obtain ⟨i, hi, rfl⟩ := List.getElem_of_mem hz
  have := allTo_iff.1 h.1 i hi
  simpa [hi] using this
/-- Categories and nets, brought near. -/
def nearC (c n : List Int) : List ByteArray := (List.range (min 30 n.length)).map fun i => catN (md (if i < c.length then c.getD i 0 else (i : Int)) 3).toNat
def nearN (n : List Int) : List Int := (n.take 30).map fun x => md x 20000
theorem near_f (c n : List Int) (hn : n.length ≤ 9223372036854775807) : Ev (fun m => haberdashlaw19_near.f m c n) (nearC c n, nearN n) := by
  have hcl : (nearC c n).length = min 30 n.length := by simp [nearC]
  have hnl : (nearN n).length = min 30 n.length := by simp [nearN]
  have := walk_ev (F := fun m i => haberdashlaw19_near.l0 m c n ((nearC c n).take i) ((nearN n).take i) (i : Int)) (n := min 30 n.length) (r := (nearC c n, nearN n))
    (by
      have hfin : Ev (fun m => haberdashlaw19_near.j1 m c n ((nearC c n).take (min 30 n.length)) ((nearN n).take (min 30 n.length)) ((min 30 n.length : Nat) : Int) false) (nearC c n, nearN n) :=
        Ev.step (fun m => by rw [haberdashlaw19_near.j1, if_neg (by simp), List.take_of_length_le (by omega), List.take_of_length_le (by omega)]) (Ev.now _)
      by_cases h : n.length ≤ 30
      · refine Ev.step (fun m => by rw [haberdashlaw19_near.l0, if_neg (by omega)]) hfin
      · refine Ev.step (fun m => by rw [haberdashlaw19_near.l0, if_pos (by omega), decide_eq_false (show ¬ (((min 30 n.length : Nat) : Int) < 30) by omega)]) hfin)
    (fun i hi r hr => by
      have hin : i < n.length := by omega
      have h1 : ((nearC c n).take i).length < 8796093022208 := by rw [List.length_take]; omega
      have h2 : ((nearN n).take i).length < 17592186044416 := by rw [List.length_take]; omega
      have e2 : (nearN n).take i ++ [md n[i] 20000] = (nearN n).take (i + 1) := by
        rw [List.take_succ_eq_append_getElem (by omega)]
        simp [nearN]
      have e1 : ∀ q, q = (if i < c.length then c.getD i 0 else (i : Int)) → (nearC c n).take i ++ [catN (md q 3).toNat] = (nearC c n).take (i + 1) := by
        rintro q rfl
        rw [List.take_succ_eq_append_getElem (by omega)]
        simp [nearC]
      refine Ev.step (fun m => by rw [haberdashlaw19_near.l0, if_pos (by omega), decide_eq_true (show (i : Int) < 30 by omega)]) ?_
      by_cases hc : i < c.length
      · refine Ev.step (fun m => by rw [haberdashlaw19_near.j1, if_pos rfl, if_pos (by omega), if_pos (by omega), rd_of c i hc, cat_f, Option.bind_some, if_pos h1, if_pos (by omega), rd_of n i hin, mod64_f _ _ (by omega) (by omega), Option.bind_some, if_pos h2, next i (by omega), e2, e1 _ (by rw [if_pos hc]; simp [hc])]) hr
      · refine Ev.step (fun m => by rw [haberdashlaw19_near.j1, if_pos rfl, if_neg (by omega), cat_f, Option.bind_some, if_pos h1, if_pos (by omega), if_pos (by omega), rd_of n i hin, mod64_f _ _ (by omega) (by omega), Option.bind_some, if_pos h2, next i (by omega), e2, e1 _ (by rw [if_neg hc])]) hr)
  unfold haberdashlaw19_near.f
  exact this
theorem near_len (c n : List Int) : (nearC c n).length = (nearN n).length ∧ (nearN n).length ≤ 30 := by simp [nearC, nearN]; omega
theorem near_sum (n : List Int) : netsOk (nearN n) = true := by
  have h : ∀ x ∈ nearN n, 0 ≤ x ∧ x < 20000 := by
    intro x hx
    obtain ⟨y, _, rfl⟩ := List.mem_map.1 hx
    exact md_range y 20000 (by omega)
  refine netsOk_iff.2 ⟨fun x hx => by have := h x hx; omega, ?_⟩
  have := sum_small (nearN n) 20000 (nearN n).length (Nat.le_refl _) (fun i hi => by
    have := h _ (List.getElem_mem hi)
    simp [hi]
    omega)
  rw [List.take_length] at this
  have h30 := (near_len [] n).2
  omega
theorem near_may (k : Int) (l : List Zn) (c n : List Int) (s : Int) (hs : 0 ≤ s ∧ s ≤ 10000000000000) : mayOk (md k 3) (zns l) (nearC c n) (nearN n) s = true := by
  have h1 := near_len c n
  have h2 := netsOk_iff.1 (near_sum n)
  exact mayOk_iff.2 ⟨zns_ok k l, h1.1, by omega, hs, h2⟩
def zid (a : Int) : Nat := (md a 3).toNat
theorem zid_lt (a : Int) : zid a < 3 := by unfold zid; have := md_range a 3 (by omega); omega
/-- Tax on near lines: never refused. -/
theorem near_levy (i o e : Bool) (k : Int) (l : List Zn) (a : Int) (c n : List Int) (s : Int) (hs : 0 ≤ s ∧ s ≤ 10000000000000) :
    levyS i o (md k 3) (zns l) (zonN (zid a)) e (nearC c n) (nearN n) s = outOf i e (nearN n) (taxesOf i o (md k 3) (ratesOf (znOf l (zid a)) (nearC c n)) (nearN n)) s (LV.mch i (md k 3) s (znOf l (zid a)).f3) := by
  unfold levyS
  rw [near_may k l c n s hs, zone_there l _ (zid_lt a)]
  rfl
theorem same5_f (v : Out) (h1 : v.1.length ≤ 9223372036854775807) (h2 : v.2.1.length ≤ 9223372036854775807) : Ev (fun k => haberdashlaw19_same5.f k v.1 v.2.1 v.2.2.1 v.2.2.2.1 v.2.2.2.2 v.1 v.2.1 v.2.2.1 v.2.2.2.1 v.2.2.2.2) true := by
  unfold haberdashlaw19_same5.f
  simp only [if_true]
  refine Ev.bind (PL.int64_f _ _ h1) ?_
  simp only [decide_true, if_true]
  refine Ev.bind (PL.int64_f _ _ h2) ?_
  simp only [decide_true, if_true, beq_self_eq_true]
  exact Ev.now _
theorem levyS_len (incl byo : Bool) (k : Int) (l : List Zn) (zone : ByteArray) (ex : Bool) (cats : List ByteArray) (ns : List Int) (ship : Int) : (levyS incl byo k l zone ex cats ns ship).1.length ≤ 1000 ∧ (levyS incl byo k l zone ex cats ns ship).2.1.length ≤ 1000 := by
  unfold levyS
  split
  · simp
  · rename_i h
    have h2 := mayOk_iff.1 (by simpa using h)
    split
    · simp
    · rename_i z _
      have hl : (taxesOf incl byo k (ratesOf z cats) ns).length = ns.length := taxesOf_length _ _ _ _ _ (by simp [ratesOf]; omega)
      unfold outOf goodsOf
      constructor
      · show (if incl = true then List.zipWith (fun x t => x - t) ns (taxesOf incl byo k (ratesOf z cats) ns) else ns).length ≤ 1000
        split
        · rw [List.length_zipWith]; omega
        · omega
      · show (if ex = true then List.replicate ns.length 0 else taxesOf incl byo k (ratesOf z cats) ns).length ≤ 1000
        split
        · simp; omega
        · omega
end Go.Proofs.Ytmiamdnhofjifaa.L19
