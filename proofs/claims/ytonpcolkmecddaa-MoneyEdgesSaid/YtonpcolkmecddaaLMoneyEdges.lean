/- The statement MoneyEdges. -/
import Derived.Test.YtonpcolkmecddaaProg
import Derived.Below
import Derived.Deep.Draws
import Derived.Deep.AppendLies
import Derived.Maps.AppendAt
import Derived.OwnWalk
import Derived.Laws.BytesArg
import Derived.Laws.MakeOwn
import Derived.Laws.OwnMore
import Derived.Deep.OwnRows
import Derived.Tactics
import Derived.Lib.ConvBytes
import Derived.Laws.Slices
import Derived.WalkKit
import Derived.KernelRfl
import Derived.RowKit3
import Derived.Deep.LoopGhost
import Derived.Deep.QuietTactic
import Derived.BigQuiet
import Derived.WideLaws
import Derived.Deep.DeepCutAuto
import Derived.Deep.CutBlock
import Derived.Deep.RegionHeld3
import Derived.Laws.Rows
import Derived.Lib.AppendStr
import Derived.ArgAppend
import Derived.Laws.IdiomCopy
import Derived.OrdersHeld
import Derived.Laws.BitsLemmas
import Derived.RowKit
import Derived.BigRegion
import Derived.Outline
import Derived.RegionTactic
import Derived.StillTailTactics
import Derived.Deep.RegionLaw
import Derived.Test.YtonpcolkmecddaaLMoney
set_option linter.unusedVariables false
set_option linter.unusedSimpArgs false
namespace Go.Proofs.Ytonpcolkmecddaa.ML
open Go Go.RowKit Go.Proofs.Ytonpcolkmecddaa.QR Go.Proofs.Ytonpcolkmecddaa.DV Go.Proofs.Ytonpcolkmecddaa.MN

set_option maxRecDepth 100000 in
set_option maxHeartbeats 8000000 in
theorem moneyEdges_calls (a b : Int) (w : World) :
    Calls Try.prog 14 #[.int .i64 a, .int .i64 b] w fun e w' => e = .returned (.bool true) ∧ Kp (fun _ => False) w w' := by
  go_enter Try.func14, Try.ntmps14
  go_wp2_with fail
  refine (mod64_calls _ _ _ (by decide) (by decide)).mono ?_; rintro _ _ ⟨x, rfl, hx0, hx1, rfl⟩
  go_wp2_with fail
  refine (mod64_calls _ _ _ (by decide) (by decide)).mono ?_; rintro _ w ⟨y, rfl, hy0, hy1, rfl⟩
  obtain ⟨n, hn⟩ : ∃ n, n = 1 + y := ⟨_, rfl⟩
  obtain ⟨Q, hQ⟩ : ∃ Q, 100000000000000 / n = Q := ⟨_, rfl⟩
  have hq := Int.ediv_nonneg (show (0 : Int) ≤ 100000000000000 by decide) (show 0 ≤ n by omega)
  have hq2 : 100000000000000 / n ≤ 100000000000000 := Int.ediv_le_self _ (by decide)
  have m1 := mul_edge n (by omega) (by omega)
  have m2 := mul_over n (by omega) (by omega)
  have hd := Int.mul_ediv_add_emod 100000000000000 n
  have hmm := Int.emod_nonneg 100000000000000 (show n ≠ 0 by omega)
  rw [hQ] at hq hq2 m1 m2 hd
  have hqn : Q * n = n * Q := Int.mul_comm _ _
  have hqn0 : 0 ≤ Q * n := Int.mul_nonneg hq (by omega)
  have g1 : IntKind.i64.wrap (1 + y) = n := by rw [hn]; exact wrap_in64 _ (by omega) (by omega)
  have g2 : IntKind.i64.wrap (100000000000000 - x) = 100000000000000 - x := wrap_in64 _ (by omega) (by omega)
  have g3 : IntKind.i64.wrap (100000000000000 - x + 1) = 100000000000000 - x + 1 := wrap_in64 _ (by omega) (by omega)
  have g4 : IntKind.i64.wrap ((100000000000000 : Int).tdiv n) = Q := by rw [Int.tdiv_eq_ediv_of_nonneg (by decide), hQ]; exact wrap_in64 _ (by omega) (by omega)
  have g5 : IntKind.i64.wrap (Q + 1) = Q + 1 := wrap_in64 _ (by omega) (by omega)
  have g6 : IntKind.i64.wrap (Q * n) = Q * n := wrap_in64 _ (by omega) (by omega)
  have g7 : IntKind.i64.wrap (x + 1) = x + 1 := wrap_in64 _ (by omega) (by omega)
  have nz : ¬ (n = 0) := by omega
  obtain ⟨ov, hov⟩ : ∃ v : Int, (if x = 0 then 2 else 5) = v := ⟨_, rfl⟩
  obtain ⟨la, hla⟩ : ∃ v : Int, (if x = 100000000000000 then 2 else 5) = v := ⟨_, rfl⟩
  obtain ⟨tp, htp⟩ : ∃ v : Int, (if n = 1 then 2 else 5) = v := ⟨_, rfl⟩
  have A2 := add_over x (by omega) (by omega)
  have S2 := sub_less x (by omega) (by omega)
  rw [hov] at A2
  rw [hla] at S2
  rw [htp] at m2
  have a1 := Hid.mk' (add_edge x (by omega) (by omega))
  have a2 := Hid.mk' A2
  have s1 := Hid.mk' (sub_same x (by omega) (by omega))
  have s2 := Hid.mk' S2
  have M1 := Hid.mk' m1
  have M2 := Hid.mk' m2
  have hX : Hid (0 ≤ x ∧ x ≤ 100000000000000) := ⟨by omega, by omega⟩
  have HO : Hid ((if x = 0 then 2 else 5) = ov ∧ (if x = 100000000000000 then 2 else 5) = la ∧ (if n = 1 then 2 else 5) = tp) := ⟨hov, hla, htp⟩
  clear hov hla htp A2 S2 m1 m2 hd hmm hqn hqn0 hq hq2 hQ hn hy0 hy1 hx0 hx1
  go_wp2_with fail
  refine (calls_Add _ _ _ _ _ a1.out).mono ?_; rintro _ _ ⟨rfl, _, rfl⟩
  go_wp2_with fail
  refine (calls_Add _ _ _ _ _ a2.out).mono ?_; rintro _ _ ⟨rfl, _, rfl⟩
  go_wp2_with fail
  refine (calls_Mul _ _ _ _ _ M1.out).mono ?_; rintro _ _ ⟨rfl, _, rfl⟩
  go_wp2_with fail
  refine (calls_Mul _ _ _ _ _ M2.out).mono ?_; rintro _ _ ⟨rfl, _, rfl⟩
  go_wp2_with fail
  refine (calls_Sub _ _ _ _ _ s1.out).mono ?_; rintro _ _ ⟨rfl, _, rfl⟩
  go_wp2_with fail
  refine (calls_Sub _ _ _ _ _ s2.out).mono ?_; rintro _ _ ⟨rfl, _, rfl⟩
  rcases Classical.em (x = 0) with h0 | h0
  · have h1 : ¬ (x = 100000000000000) := by omega
    rcases Classical.em (n = 1) with h2 | h2
    · have q0 : (x == 0) = true := beq_iff_eq.2 h0
      have q1 : (x == 100000000000000) = false := beq_eq_false_iff_ne.2 h1
      have q2 : (n == 1) = true := beq_iff_eq.2 h2
      obtain ⟨e1, e2, e3⟩ := HO.out
      rw [if_pos h0] at e1
      rw [if_neg h1] at e2
      rw [if_pos h2] at e3
      have rov : (ov == 2) = true := beq_iff_eq.2 e1.symm
      have rla : (la == 5) = true := beq_iff_eq.2 e2.symm
      have rtp : (tp == 2) = true := beq_iff_eq.2 e3.symm
      clear HO h0 h1 h2 e1 e2 e3
      go_wp2_with fail
      refine (awake_calls _).mono ?_; rintro _ w2 ⟨rfl, hk⟩
      go_wp2
      go_ret
      exact ⟨rfl, ((Kp.refl _ _).drewN _).trans hk⟩
    · have q0 : (x == 0) = true := beq_iff_eq.2 h0
      have q1 : (x == 100000000000000) = false := beq_eq_false_iff_ne.2 h1
      have q2 : (n == 1) = false := beq_eq_false_iff_ne.2 h2
      obtain ⟨e1, e2, e3⟩ := HO.out
      rw [if_pos h0] at e1
      rw [if_neg h1] at e2
      rw [if_neg h2] at e3
      have rov : (ov == 2) = true := beq_iff_eq.2 e1.symm
      have rla : (la == 5) = true := beq_iff_eq.2 e2.symm
      have rtp : (tp == 5) = true := beq_iff_eq.2 e3.symm
      clear HO h0 h1 h2 e1 e2 e3
      go_wp2_with fail
      refine (awake_calls _).mono ?_; rintro _ w2 ⟨rfl, hk⟩
      go_wp2
      go_ret
      exact ⟨rfl, ((Kp.refl _ _).drewN _).trans hk⟩
  · rcases Classical.em (x = 100000000000000) with h1 | h1
    · rcases Classical.em (n = 1) with h2 | h2
      · have q0 : (x == 0) = false := beq_eq_false_iff_ne.2 h0
        have q1 : (x == 100000000000000) = true := beq_iff_eq.2 h1
        have q2 : (n == 1) = true := beq_iff_eq.2 h2
        obtain ⟨e1, e2, e3⟩ := HO.out
        rw [if_neg h0] at e1
        rw [if_pos h1] at e2
        rw [if_pos h2] at e3
        have rov : (ov == 5) = true := beq_iff_eq.2 e1.symm
        have rla : (la == 2) = true := beq_iff_eq.2 e2.symm
        have rtp : (tp == 2) = true := beq_iff_eq.2 e3.symm
        clear HO h0 h1 h2 e1 e2 e3
        go_wp2_with fail
        refine (awake_calls _).mono ?_; rintro _ w2 ⟨rfl, hk⟩
        go_wp2
        go_ret
        exact ⟨rfl, ((Kp.refl _ _).drewN _).trans hk⟩
      · have q0 : (x == 0) = false := beq_eq_false_iff_ne.2 h0
        have q1 : (x == 100000000000000) = true := beq_iff_eq.2 h1
        have q2 : (n == 1) = false := beq_eq_false_iff_ne.2 h2
        obtain ⟨e1, e2, e3⟩ := HO.out
        rw [if_neg h0] at e1
        rw [if_pos h1] at e2
        rw [if_neg h2] at e3
        have rov : (ov == 5) = true := beq_iff_eq.2 e1.symm
        have rla : (la == 2) = true := beq_iff_eq.2 e2.symm
        have rtp : (tp == 5) = true := beq_iff_eq.2 e3.symm
        clear HO h0 h1 h2 e1 e2 e3
        go_wp2_with fail
        refine (awake_calls _).mono ?_; rintro _ w2 ⟨rfl, hk⟩
        go_wp2
        go_ret
        exact ⟨rfl, ((Kp.refl _ _).drewN _).trans hk⟩
    · rcases Classical.em (n = 1) with h2 | h2
      · have q0 : (x == 0) = false := beq_eq_false_iff_ne.2 h0
        have q1 : (x == 100000000000000) = false := beq_eq_false_iff_ne.2 h1
        have q2 : (n == 1) = true := beq_iff_eq.2 h2
        obtain ⟨e1, e2, e3⟩ := HO.out
        rw [if_neg h0] at e1
        rw [if_neg h1] at e2
        rw [if_pos h2] at e3
        have rov : (ov == 5) = true := beq_iff_eq.2 e1.symm
        have rla : (la == 5) = true := beq_iff_eq.2 e2.symm
        have rtp : (tp == 2) = true := beq_iff_eq.2 e3.symm
        clear HO h0 h1 h2 e1 e2 e3
        go_wp2_with fail
        refine (awake_calls _).mono ?_; rintro _ w2 ⟨rfl, hk⟩
        go_wp2
        go_ret
        exact ⟨rfl, ((Kp.refl _ _).drewN _).trans hk⟩
      · have q0 : (x == 0) = false := beq_eq_false_iff_ne.2 h0
        have q1 : (x == 100000000000000) = false := beq_eq_false_iff_ne.2 h1
        have q2 : (n == 1) = false := beq_eq_false_iff_ne.2 h2
        obtain ⟨e1, e2, e3⟩ := HO.out
        rw [if_neg h0] at e1
        rw [if_neg h1] at e2
        rw [if_neg h2] at e3
        have rov : (ov == 5) = true := beq_iff_eq.2 e1.symm
        have rla : (la == 5) = true := beq_iff_eq.2 e2.symm
        have rtp : (tp == 5) = true := beq_iff_eq.2 e3.symm
        clear HO h0 h1 h2 e1 e2 e3
        go_wp2_with fail
        refine (awake_calls _).mono ?_; rintro _ w2 ⟨rfl, hk⟩
        go_wp2
        go_ret
        exact ⟨rfl, ((Kp.refl _ _).drewN _).trans hk⟩

theorem moneyEdges_law (a b : Int) (w : World) (_ : (Lit.int .i64 a).wf = true) (_ : (Lit.int .i64 b).wf = true) :
    Calls Try.prog 14 #[.int .i64 a, .int .i64 b] w fun e w' => e = .returned (.bool true) ∧ Below w.heap.size w w' :=
  (moneyEdges_calls a b w).mono fun _ _ h => ⟨h.1, h.2.to_below (Nat.le_refl _) (fun _ h => h.elim)⟩

end Go.Proofs.Ytonpcolkmecddaa.ML
