/- What the statements on tenders have in common: rows brought into range, plain likeness, the awake trial. -/
import Derived.Test.YtegjbbblpnenfaaVRwA
import Derived.Test.YtegjbbblpnenfaaVRwMon
import Derived.Test.YtegjbbblpnenfaaVRwL22b
import Derived.Test.YtegjbbblpnenfaaVGiveP
import Derived.Test.YtegjbbblpnenfaaVModP
set_option linter.unusedVariables false
set_option linter.unusedSimpArgs false
namespace Go.Proofs.Ytegjbbblpnenfaa.LT
open Go Go.RowKit Go.Proofs.YtegjbbblpnenfaaW.PrintWords Go.Proofs.YtegjbbblpnenfaaW.PrintMore Go.Proofs.Ytegjbbblpnenfaa.Rw Go.Proofs.Ytegjbbblpnenfaa.SP Go.Proofs.Ytegjbbblpnenfaa.ST Go.Proofs.Ytegjbbblpnenfaa.QM Go.Proofs.Ytegjbbblpnenfaa.MP
open Go.Proofs.Ytegjbbblpnenfaa.TP (nxt rdT_of rdB_of)

theorem backs_runs (a : List Bak) (hm : a.length ≤ 9223372036854775807) : ∀ (d i k : Nat), i + d = a.length → d < k →
    api_Back_56.l0 k a a i = some true := by
  intro d
  induction d with
  | zero =>
    intro i k hi hk
    obtain ⟨k, rfl⟩ : ∃ m, k = m + 1 := ⟨k - 1, by omega⟩
    rw [api_Back_56.l0, if_neg (by omega)]
  | succ d ih =>
    intro i k hi hk
    obtain ⟨k, rfl⟩ : ∃ m, k = m + 1 := ⟨k - 1, by omega⟩
    have hlt : i < a.length := by omega
    rw [api_Back_56.l0, if_pos (by omega), if_pos (by omega), if_pos (by omega), rdB_of a i hlt]
    unfold api_Back_1.f
    simp only [Option.bind_some]
    rw [if_pos (by simp), nxt i (by omega)]
    exact ih (i + 1) k (by omega) (by omega)
theorem backs_ev (a : List Bak) (hm : a.length ≤ 9223372036854775807) : Ev (fun k => api_Back_21.f k a a) true := by
  refine ⟨a.length + 1, fun k hk => ?_⟩
  show api_Back_21.f k a a = _
  unfold api_Back_21.f api_Back_56.f
  rw [if_pos rfl]
  have h := backs_runs a hm a.length 0 k (by omega) (by omega)
  rw [show (((0 : Nat) : Int)) = 0 from rfl] at h
  rw [h]; rfl
theorem tens_runs (a : List Ten) (hm : a.length ≤ 9223372036854775807) : ∀ (d i k : Nat), i + d = a.length → d < k →
    api_Tender_62.l0 k a a i = some true := by
  intro d
  induction d with
  | zero =>
    intro i k hi hk
    obtain ⟨k, rfl⟩ : ∃ m, k = m + 1 := ⟨k - 1, by omega⟩
    rw [api_Tender_62.l0, if_neg (by omega)]
  | succ d ih =>
    intro i k hi hk
    obtain ⟨k, rfl⟩ : ∃ m, k = m + 1 := ⟨k - 1, by omega⟩
    have hlt : i < a.length := by omega
    rw [api_Tender_62.l0, if_pos (by omega), if_pos (by omega), if_pos (by omega), rdT_of a i hlt]
    unfold api_Tender_1.f
    simp only [Option.bind_some]
    rw [if_pos (by simp), nxt i (by omega)]
    exact ih (i + 1) k (by omega) (by omega)
theorem tens_ev (a : List Ten) (hm : a.length ≤ 9223372036854775807) : Ev (fun k => api_Tender_26.f k a a) true := by
  refine ⟨a.length + 1, fun k hk => ?_⟩
  show api_Tender_26.f k a a = _
  unfold api_Tender_26.f api_Tender_62.f
  rw [if_pos rfl]
  have h := tens_runs a hm a.length 0 k (by omega) (by omega)
  rw [show (((0 : Nat) : Int)) = 0 from rfl] at h
  rw [h]; rfl

theorem awake_val : split [⟨1, 5, 0⟩, ⟨2, 5, 0⟩] [2] [1] 7 = ([⟨1, 5, false⟩, ⟨0, 2, true⟩], 0) := by kernel_rfl
theorem split_t (l : List Ten) (o cr : List Int) (a : Int) (ho : o.length ≤ 1000000000) (hc : cr.length ≤ 1000000000) : tender_Split.f l o cr a = some (split l o cr a) := by
  unfold tender_Split.f
  rw [if_pos ⟨ho, hc⟩]
theorem awake_ev : Ev (fun k => haberdashlaw22_awake.f k) true := by
  unfold haberdashlaw22_awake.f
  simp only [split_t _ _ _ _ (show ([2] : List Int).length ≤ 1000000000 by decide) (show ([1] : List Int).length ≤ 1000000000 by decide), Option.bind_some, awake_val, if_true]
  refine Ev.bind (backs_ev _ (by decide)) ?_
  simp only [if_true]
  refine Ev.bind ⟨11, fun k hk => TP.left_t _ k (by omega)⟩ ?_
  rw [show tleft [⟨1, 5, 0⟩, ⟨2, 5, 0⟩] = 10 from by decide +kernel]
  simp only [if_true]
  refine Ev.bind ⟨11, fun k hk => TP.right_t _ k (by omega)⟩ ?_
  rw [show tall [⟨1, 5, 0⟩, ⟨2, 5, 0⟩] = true from by decide +kernel]
  exact Ev.now _

theorem gives_length (l : List Ten) (cr : List Int) : ∀ (is : List Int) (a : Int), (gives l cr is a).length ≤ is.length := by
  intro is
  induction is with
  | nil => intro a; simp [gives]
  | cons i is ih =>
    intro a
    show (if 0 < gives.mn (dif (l.getD i.toNat zT)) a then (⟨i, gives.mn (dif (l.getD i.toNat zT)) a, decide (plc cr (l.getD i.toNat zT).f0 < cr.length)⟩ : Bak) :: gives l cr is (a - gives.mn (dif (l.getD i.toNat zT)) a) else gives l cr is a).length ≤ _
    have h1 := ih (a - gives.mn (dif (l.getD i.toNat zT)) a)
    have h2 := ih a
    split
    · simp only [List.length_cons]; omega
    · simp only [List.length_cons]; omega
theorem gives_len (l : List Ten) (o cr : List Int) (a : Int) (h : tall l = true) : (gives l cr (ord (ranks o l)) a).length ≤ 6 := by
  have h1 := gives_length l cr (ord (ranks o l)) a
  have h2 := (tall_iff.1 h).1
  have h3 : (ord (ranks o l)).length = l.length := by rw [ord_length, ranks_length]
  omega
end Go.Proofs.Ytegjbbblpnenfaa.LT
