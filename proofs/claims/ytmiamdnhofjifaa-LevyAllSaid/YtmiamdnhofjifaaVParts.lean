/- Parts. -/
import Derived.Test.YtmiamdnhofjifaaProg
import Derived.Below
import Derived.Deep.Draws
import Derived.Deep.AppendLies
import Derived.Maps.AppendAt
import Derived.OwnWalk
import Derived.Laws.BytesArg
import Derived.Laws.MakeOwn
import Derived.Laws.OwnMore
import Derived.Deep.OwnRows
import Derived.Tactics
import Derived.Lib.ConvBytes
import Derived.Laws.Slices
import Derived.WalkKit
import Derived.KernelRfl
import Derived.RowKit3
import Derived.Deep.LoopGhost
import Derived.Deep.QuietTactic
import Derived.BigQuiet
import Derived.WideLaws
import Derived.Deep.DeepCutAuto
import Derived.Deep.CutBlock
import Derived.Deep.RegionHeld3
import Derived.Laws.Rows
import Derived.Lib.AppendStr
import Derived.ArgAppend
import Derived.Laws.IdiomCopy
import Derived.OrdersHeld
import Derived.Laws.BitsLemmas
import Derived.RowKit
import Derived.BigRegion
import Derived.Outline
import Derived.RegionTactic
import Derived.StillTailTactics
import Derived.Deep.RegionLaw
import Derived.Test.YtmiamdnhofjifaaVDivBits
import Derived.Test.YtmiamdnhofjifaaVQRow
section
/- The reference's parts: so much of an amount, bit by bit. -/
set_option linter.unusedVariables false
set_option linter.unusedSimpArgs false
namespace Go.Proofs.Ytmiamdnhofjifaa.PT
open Go Go.RowKit Go.Proofs.Ytmiamdnhofjifaa.QR

theorem and_one (a : Nat) (ha : a < 9223372036854775808) : bits .and .i64 (a : Int) 1 = ((a % 2 : Nat) : Int) := by
  have h1 : (BitVec.ofInt 64 (a : Int)).toNat = a := by
    rw [BitVec.ofInt_natCast, BitVec.toNat_ofNat]; exact Nat.mod_eq_of_lt (by omega)
  have h2 : (BitVec.ofInt 64 ((1 : Nat) : Int)).toNat = 1 := by
    rw [BitVec.ofInt_natCast, BitVec.toNat_ofNat]
  show IntKind.i64.wrap ((BitVec.ofInt 64 (a : Int) &&& BitVec.ofInt 64 ((1 : Nat) : Int)).toNat : Int) = _
  rw [BitVec.toNat_and, h1, h2, Nat.and_one_is_mod, IntKind.wrap_i64]
  omega

/-- One bit more: the quotient and the rest of twice as much and of so much more. -/
theorem dbl (u d : Int) (hd : 0 < d) : (2 * u) / d = (if d ≤ 2 * (u % d) then 2 * (u / d) + 1 else 2 * (u / d)) ∧ (2 * u) % d = (if d ≤ 2 * (u % d) then 2 * (u % d) - d else 2 * (u % d)) := by
  have h0 := Int.emod_nonneg u (show d ≠ 0 by omega)
  have h1 := Int.emod_lt_of_pos u hd
  have h2 := Int.mul_ediv_add_emod u d
  have e : d * (2 * (u / d)) = 2 * (d * (u / d)) := by rw [← Int.mul_assoc, Int.mul_comm d 2, Int.mul_assoc]
  split
  · have hq : (2 * u) = (2 * (u % d) - d) + d * (2 * (u / d) + 1) := by rw [Int.mul_add, Int.mul_one]; omega
    rw [hq, Int.add_mul_ediv_left _ _ (show d ≠ 0 by omega), Int.add_mul_emod_self_left, Int.ediv_eq_zero_of_lt (by omega) (by omega), Int.emod_eq_of_lt (by omega) (by omega)]
    exact ⟨by omega, rfl⟩
  · have hq : (2 * u) = 2 * (u % d) + d * (2 * (u / d)) := by omega
    rw [hq, Int.add_mul_ediv_left _ _ (show d ≠ 0 by omega), Int.add_mul_emod_self_left, Int.ediv_eq_zero_of_lt (by omega) (by omega), Int.emod_eq_of_lt (by omega) (by omega)]
    exact ⟨by omega, rfl⟩

theorem plus (u x d : Int) (hd : 0 < d) : (u + x) / d = (if d ≤ u % d + x % d then u / d + x / d + 1 else u / d + x / d) ∧ (u + x) % d = (if d ≤ u % d + x % d then u % d + x % d - d else u % d + x % d) := by
  have h0 := Int.emod_nonneg u (show d ≠ 0 by omega)
  have h1 := Int.emod_lt_of_pos u hd
  have h2 := Int.mul_ediv_add_emod u d
  have g0 := Int.emod_nonneg x (show d ≠ 0 by omega)
  have g1 := Int.emod_lt_of_pos x hd
  have g2 := Int.mul_ediv_add_emod x d
  have e : d * (u / d + x / d) = d * (u / d) + d * (x / d) := Int.mul_add ..
  split
  · have hq : (u + x) = (u % d + x % d - d) + d * (u / d + x / d + 1) := by rw [Int.mul_add, Int.mul_one]; omega
    rw [hq, Int.add_mul_ediv_left _ _ (show d ≠ 0 by omega), Int.add_mul_emod_self_left, Int.ediv_eq_zero_of_lt (by omega) (by omega), Int.emod_eq_of_lt (by omega) (by omega)]
    exact ⟨by omega, rfl⟩
  · have hq : (u + x) = (u % d + x % d) + d * (u / d + x / d) := by omega
    rw [hq, Int.add_mul_ediv_left _ _ (show d ≠ 0 by omega), Int.add_mul_emod_self_left, Int.ediv_eq_zero_of_lt (by omega) (by omega), Int.emod_eq_of_lt (by omega) (by omega)]
    exact ⟨by omega, rfl⟩

/-- The upper bits of n, but k. -/
def up (n k : Nat) : Nat := n / 2 ^ k
theorem up_step (n k : Nat) : up n k = 2 * up n (k + 1) + up n k % 2 := by
  unfold up
  rw [Nat.pow_succ, ← Nat.div_div_eq_div_mul]
  omega
theorem up_zero (n : Nat) : up n 0 = n := by unfold up; simp
theorem up_all (n : Nat) (h : n < 9223372036854775808) : up n 63 = 0 := by unfold up; exact Nat.div_eq_of_lt (by omega)
theorem up_le (n k : Nat) : up n k ≤ n := Nat.div_le_self _ _

/-- A part at the k lower bits. -/
def Part (x : Int) (n : Nat) (d : Int) (k : Nat) (q r : Int) : Prop := q = x * (up n k : Int) / d ∧ r = x * (up n k : Int) % d

/-- Half a step: what is twice as much. -/
def Half (x : Int) (n : Nat) (d : Int) (k : Nat) (q r : Int) : Prop := q = 2 * (x * (up n (k + 1) : Int)) / d ∧ r = 2 * (x * (up n (k + 1) : Int)) % d
theorem half_step {x : Int} {n : Nat} {d : Int} {k : Nat} {q r : Int} (hd : 0 < d) (h : Part x n d (k + 1) q r) :
    (d ≤ 2 * r → Half x n d k (2 * q + 1) (2 * r - d)) ∧ (¬ d ≤ 2 * r → Half x n d k (2 * q) (2 * r)) := by
  obtain ⟨rfl, rfl⟩ := h
  have hh := dbl (x * (up n (k + 1) : Int)) d hd
  unfold Half
  rw [hh.1, hh.2]
  exact ⟨fun h => by rw [if_pos h, if_pos h]; exact ⟨rfl, rfl⟩, fun h => by rw [if_neg h, if_neg h]; exact ⟨rfl, rfl⟩⟩
theorem half_zero {x : Int} {n : Nat} {d : Int} {k : Nat} {q r : Int} (h : Half x n d k q r) (hb : up n k % 2 = 0) : Part x n d k q r := by
  have hs := up_step n k
  unfold Part
  rw [show ((up n k : Nat) : Int) = 2 * ((up n (k + 1) : Nat) : Int) by omega, ← Int.mul_assoc, Int.mul_comm x 2, Int.mul_assoc]
  exact h
theorem half_one {x : Int} {n : Nat} {d : Int} {k : Nat} {q r : Int} (hd : 0 < d) (h : Half x n d k q r) (hb : up n k % 2 = 1) :
    (d ≤ r + x % d → Part x n d k (q + x / d + 1) (r + x % d - d)) ∧ (¬ d ≤ r + x % d → Part x n d k (q + x / d) (r + x % d)) := by
  obtain ⟨rfl, rfl⟩ := h
  have hs := up_step n k
  have e : x * (up n k : Int) = 2 * (x * (up n (k + 1) : Int)) + x := by
    rw [show ((up n k : Nat) : Int) = 2 * ((up n (k + 1) : Nat) : Int) + 1 by omega, Int.mul_add, Int.mul_one, ← Int.mul_assoc, Int.mul_comm x 2, Int.mul_assoc]
  have hh := plus (2 * (x * (up n (k + 1) : Int))) x d hd
  unfold Part
  rw [e, hh.1, hh.2]
  exact ⟨fun h => by rw [if_pos h, if_pos h]; exact ⟨rfl, rfl⟩, fun h => by rw [if_neg h, if_neg h]; exact ⟨rfl, rfl⟩⟩

end Go.Proofs.Ytmiamdnhofjifaa.PT
end
section
/- The reference's parts: the walk. -/
set_option linter.unusedVariables false
set_option linter.unusedSimpArgs false
namespace Go.Proofs.Ytmiamdnhofjifaa.PT
open Go Go.RowKit Go.Proofs.Ytmiamdnhofjifaa.QR

def parts (x : Int) (n : Nat) (d : Int) : Int × Int × Bool := if 100000000000000 < x * (n : Int) / d then (0, 0, false) else (x * (n : Int) / d, x * (n : Int) % d, true)

theorem high {x : Int} {n : Nat} {d : Int} {k : Nat} {q r : Int} {o1 o2 : Int} {o3 : Bool} (hD : Hid (1 ≤ d ∧ d ≤ 2305843009213693952)) (hX : Hid (0 ≤ x ∧ x ≤ 100000000000000)) (h : Hid (Part x n d k q r)) (hM : 100000000000000 < q) (ho : Hid (parts x n d = (o1, o2, o3))) :
    Hid (o1 = 0 ∧ o2 = 0 ∧ o3 = false) := by
  have h1 := h.out.1
  have hle : x * (up n k : Int) ≤ x * (n : Int) := Int.mul_le_mul_of_nonneg_left (by have := up_le n k; omega) hX.out.1
  have h2 : q ≤ x * (n : Int) / d := by rw [h1]; exact Int.ediv_le_ediv (by have := hD.out; omega) hle
  have h3 := ho.out
  unfold parts at h3
  rw [if_pos (by omega)] at h3
  injection h3 with h3 h4
  injection h4 with h4 h5
  exact ⟨h3.symm, h4.symm, h5.symm⟩
end Go.Proofs.Ytmiamdnhofjifaa.PT
end
