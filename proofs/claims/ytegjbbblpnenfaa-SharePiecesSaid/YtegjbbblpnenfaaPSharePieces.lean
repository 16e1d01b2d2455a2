/- The statement SharePieces over lists and numbers: pieces, one behind the other, come to the total; each is off by less than one. -/
import Derived.Test.YtegjbbblpnenfaaRwLPieces
import Derived.Test.YtegjbbblpnenfaaL03P
import Derived.Test.YtegjbbblpnenfaaSharePP
import Derived.Test.YtegjbbblpnenfaaParts
set_option linter.unusedVariables false
set_option linter.unusedSimpArgs false
namespace Go.Proofs.Ytegjbbblpnenfaa.Pure
open Go Go.RowKit Go.Proofs.YtegjbbblpnenfaaW.PrintWords Go.Proofs.Ytegjbbblpnenfaa.Rw Go.Proofs.Ytegjbbblpnenfaa.SP Go.Proofs.Ytegjbbblpnenfaa.SH Go.Proofs.Ytegjbbblpnenfaa.L3

theorem floor_two (x n a b : Int) (hn : 0 < n) : x * (b - a) / n ≤ x * b / n - x * a / n ∧ x * b / n - x * a / n ≤ x * (b - a) / n + 1 := by
  have h := (PT.plus (x * a) (x * (b - a)) n hn).1
  have e : x * a + x * (b - a) = x * b := by rw [← Int.mul_add]; congr 1; omega
  rw [e] at h
  split at h <;> omega

theorem piece_ok (x n a b : Int) (hx : rt x = true) (hn : 1 ≤ n ∧ n ≤ 100000) (ha : 0 ≤ a) (hb : a ≤ b) (hbn : b ≤ n) : piece x n a b = (x * b / n - x * a / n, 0) := by
  unfold piece; rw [if_neg (by rw [hx]; simp; omega)]

theorem pieces_end (x n : Int) (cuts : List Int) (a i : Int) (hx : 0 ≤ x ∧ x < 1099511627776) (hn : 1 ≤ n ∧ n ≤ 1000) (ha : 0 ≤ a ∧ a ≤ n) :
    Ev (fun k => haberdashlaw03_SharePieces.j1 k x n cuts a (x * a / n) i false) true := by
  have hrx : rt x = true := rt_iff.2 (by omega)
  have hr := upto_range x n a hrx ⟨by omega, by omega⟩ ha
  refine Ev.step (fun k => by rw [haberdashlaw03_SharePieces.j1, if_neg (by simp)]) ?_
  simp only [piece_f, Option.bind_some, piece_ok x n a n hrx ⟨by omega, by omega⟩ ha.1 ha.2 (Int.le_refl _)]
  refine Ev.bind awake_ev ⟨0, fun k _ => ?_⟩
  simp only [if_true]
  rw [Int.mul_ediv_cancel _ (by omega), wrap_ok (by omega) (by omega)]
  simp; omega

theorem pieces_runs (x n : Int) (cuts : List Int) (hx : 0 ≤ x ∧ x < 1099511627776) (hn : 1 ≤ n ∧ n ≤ 1000) (hl : cuts.length ≤ 9223372036854775807) : ∀ (d i : Nat) (a : Int), i + d = cuts.length → 0 ≤ a ∧ a ≤ n →
    Ev (fun k => haberdashlaw03_SharePieces.l0 k x n cuts a (x * a / n) i) true := by
  have hrx : rt x = true := rt_iff.2 (by omega)
  intro d
  induction d with
  | zero =>
    intro i a hi ha
    exact Ev.step (fun k => by rw [haberdashlaw03_SharePieces.l0, if_neg (by omega)]) (pieces_end x n cuts a i hx hn ha)
  | succ d ih =>
    intro i a hi ha
    have hlt : i < cuts.length := by omega
    refine Ev.step (fun k => by rw [haberdashlaw03_SharePieces.l0, if_pos (by omega)]) ?_
    by_cases h40 : (i : Int) < 40
    · simp only [h40, decide_true]
      have hm := md_range cuts[i] (n - a + 1) (by omega)
      obtain ⟨b, hb⟩ : ∃ b, b = a + md cuts[i] (n - a + 1) := ⟨_, rfl⟩
      have hr := upto_range x n a hrx ⟨by omega, by omega⟩ ha
      have hrb := upto_range x n b hrx ⟨by omega, by omega⟩ ⟨by omega, by omega⟩
      have hf := floor_two x n a b (by omega)
      have hm0 : 0 ≤ x * (b - a) := Int.mul_nonneg hx.1 (by omega)
      have hm1 : x * (b - a) ≤ 1099511627776 * 1000 := Int.mul_le_mul (by omega) (by omega) (by omega) (by omega)
      have hq0 := Int.ediv_nonneg hm0 (show 0 ≤ n by omega)
      have hq1 : x * (b - a) / n ≤ x * (b - a) := Int.ediv_le_self _ hm0
      refine Ev.step (f := fun k => haberdashlaw03_SharePieces.j2 k x n cuts (x * a / n) i b (x * b / n - x * a / n) false) (fun k => ?_) ?_
      · rw [haberdashlaw03_SharePieces.j1, if_pos rfl, if_pos (by omega), if_pos (by omega), rd_of cuts i hlt, show wrap64 (n - a) = n - a from wrap_ok (by omega) (by omega), show wrap64 (n - a + 1) = n - a + 1 from wrap_ok (by omega) (by omega),
          mod_f _ _ (by omega) (by omega)]
        simp only [Option.bind_some]
        rw [show wrap64 (a + md cuts[i] (n - a + 1)) = b from by rw [← hb]; exact wrap_ok (by omega) (by omega), piece_f, piece_ok x n a b hrx ⟨by omega, by omega⟩ ha.1 (by omega) (by omega)]
        simp only [Option.bind_some]
        rw [if_pos True.intro, if_neg (by omega), show wrap64 (b - a) = b - a from wrap_ok (by omega) (by omega), show wrap64 (x * (b - a)) = x * (b - a) from wrap_ok (by omega) (by omega), Int.tdiv_eq_ediv_of_nonneg hm0, show wrap64 (x * (b - a) / n) = x * (b - a) / n from wrap_ok (by omega) (by omega),
          show wrap64 (x * (b - a) / n + 1) = x * (b - a) / n + 1 from wrap_ok (by omega) (by omega), if_neg (by omega)]
        congr 1
        simp; omega
      · refine Ev.step (f := fun k => haberdashlaw03_SharePieces.l0 k x n cuts b (x * b / n) ((i + 1 : Nat) : Int)) (fun k => ?_) (ih (i + 1) b (by omega) ⟨by omega, by omega⟩)
        rw [haberdashlaw03_SharePieces.j2, if_neg (by simp), upto_f, upto_ok x n b hrx ⟨by omega, by omega⟩ ⟨by omega, by omega⟩]
        simp only [Option.bind_some]
        rw [if_pos True.intro, show wrap64 (x * a / n + (x * b / n - x * a / n)) = x * b / n from by rw [wrap_ok (by omega) (by omega)]; omega, if_pos rfl, next i (by omega)]
    · simp only [h40, decide_false]
      exact pieces_end x n cuts a i hx hn ha

theorem SharePieces : haberdashlaw03_SharePieces.Pure := by
  intro a0 a1 l2 _ _ hl _ _
  have hl' : l2.length ≤ 9223372036854775807 := hl
  refine Ev.rounds ?_
  unfold haberdashlaw03_SharePieces.f
  simp only [mod64_f a0 1099511627776 (by omega) (by omega), mod_f a1 1000 (by omega) (by omega), Option.bind_some]
  have hx := md_range a0 1099511627776 (by omega)
  have hn := md_range a1 1000 (by omega)
  rw [show wrap64 (1 + md a1 1000) = 1 + md a1 1000 from wrap_ok (by omega) (by omega)]
  have h := pieces_runs (md a0 1099511627776) (1 + md a1 1000) l2 hx ⟨by omega, by omega⟩ hl' l2.length 0 0 (by omega) ⟨by omega, by omega⟩
  simpa using h
end Go.Proofs.Ytegjbbblpnenfaa.Pure
