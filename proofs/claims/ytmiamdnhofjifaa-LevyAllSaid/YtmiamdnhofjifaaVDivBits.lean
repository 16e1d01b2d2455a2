/- Words and their bits, as a long division uses them: shifts, masks, and the two halves put together. -/
import Derived.Lib.BitFns
import Derived.Laws.Bits64b
import Derived.Laws.Wrap64
import Derived.Test.YtmiamdnhofjifaaVDiv
namespace Go.Proofs.Ytmiamdnhofjifaa.DV
open Go Go.Lib

theorem bitLen_pos (x : Nat) (h0 : x ≠ 0) (h : x < 2 ^ 64) : 1 ≤ bitLen x := by rw [bitLen_half x h0 h]; omega

/-- A word is below the power of its length, and no less than the power below. -/
theorem bitLen_bounds (x : Nat) (h0 : x ≠ 0) (h : x < 2 ^ 64) : x < 2 ^ bitLen x ∧ 2 ^ (bitLen x - 1) ≤ x ∧ bitLen x ≤ 64 := by
  have hp := bitLen_pos x h0 h
  have hle := bitLen_le x 64 (Nat.le_refl _) h
  refine ⟨?_, ?_, hle⟩
  · rcases Nat.lt_or_ge x (2 ^ bitLen x) with h1 | h1
    · exact h1
    · exfalso
      have h2 := bitLen_shift (bitLen x) x h1 h
      have h3 : 1 ≤ bitLen (x / 2 ^ bitLen x) := by
        refine bitLen_pos _ ?_ (Nat.lt_of_le_of_lt (Nat.div_le_self _ _) h)
        have := Nat.div_pos h1 (Nat.two_pow_pos (bitLen x))
        omega
      omega
  · rcases Nat.lt_or_ge x (2 ^ (bitLen x - 1)) with h1 | h1
    · have := bitLen_le x (bitLen x - 1) (by omega) h1
      omega
    · exact h1

/-- Shifted up to its full length. -/
theorem norm (y : Int) (h0 : 0 < y) (h1 : y < 18446744073709551616) : ∃ s : Nat, s ≤ 63 ∧ IntKind.u64.wrap (64 - (bitLen y.toNat : Int)) = (s : Int) ∧ 9223372036854775808 ≤ y * 2 ^ s ∧ y * 2 ^ s < 18446744073709551616 := by
  have hb := bitLen_bounds y.toNat (by omega) (by omega)
  have hp := bitLen_pos y.toNat (by omega) (by omega)
  refine ⟨64 - bitLen y.toNat, by omega, ?_, ?_, ?_⟩
  · rw [IntKind.wrap_u64]; omega
  · obtain ⟨n, hn⟩ : ∃ n : Nat, y = (n : Int) := ⟨y.toNat, by omega⟩
    subst hn
    simp only [Int.toNat_natCast] at *
    have e : 2 ^ (bitLen n - 1) * 2 ^ (64 - bitLen n) = 2 ^ 63 := by rw [← Nat.pow_add]; congr 1; omega
    have h2 : 2 ^ 63 ≤ n * 2 ^ (64 - bitLen n) := by rw [← e]; exact Nat.mul_le_mul_right _ hb.2.1
    have h3 : ((n * 2 ^ (64 - bitLen n) : Nat) : Int) = (n : Int) * 2 ^ (64 - bitLen n) := by rw [Int.natCast_mul, Int.natCast_pow]; rfl
    rw [← h3]
    omega
  · obtain ⟨n, hn⟩ : ∃ n : Nat, y = (n : Int) := ⟨y.toNat, by omega⟩
    subst hn
    simp only [Int.toNat_natCast] at *
    have e : 2 ^ bitLen n * 2 ^ (64 - bitLen n) = 2 ^ 64 := by rw [← Nat.pow_add]; congr 1; omega
    have h2 : n * 2 ^ (64 - bitLen n) < 2 ^ 64 := by rw [← e]; exact Nat.mul_lt_mul_of_pos_right hb.1 (Nat.two_pow_pos _)
    have h3 : ((n * 2 ^ (64 - bitLen n) : Nat) : Int) = (n : Int) * 2 ^ (64 - bitLen n) := by rw [Int.natCast_mul, Int.natCast_pow]; rfl
    rw [← h3]
    omega

theorem mask (Y : Int) (h0 : 0 ≤ Y) (h1 : Y < 18446744073709551616) : bits .and .u64 Y 4294967295 = Y % 4294967296 := by
  obtain ⟨n, rfl⟩ : ∃ n : Nat, Y = (n : Int) := ⟨Y.toNat, by omega⟩
  have h := bits_and_u64_nat n 4294967295 (by omega) (by omega)
  have e : n &&& 4294967295 = n % 4294967296 := Nat.and_two_pow_sub_one_eq_mod n 32
  rw [e] at h
  have e2 : ((n % 4294967296 : Nat) : Int) = (n : Int) % 4294967296 := by omega
  rw [← e2, ← h]
  rfl

/-- Both words' bits, shifted: the upper word of what is shifted, and the lower one. -/
theorem shift_two (hi lo y : Int) (s : Nat) (hs : s ≤ 63) (h0 : 0 ≤ lo) (h1 : lo < 18446744073709551616) (hh : 0 ≤ hi) (hy : hi < y) (hY : y * 2 ^ s < 18446744073709551616) :
    IntKind.u64.wrap (hi * 2 ^ s) = hi * 2 ^ s ∧
    ∃ A L : Int, bits .or .u64 (hi * 2 ^ s) (lo / 2 ^ (64 - s)) = A ∧ IntKind.u64.wrap (lo * 2 ^ s) = L ∧ (hi * 18446744073709551616 + lo) * 2 ^ s = A * 18446744073709551616 + L ∧ 0 ≤ L ∧ L < 18446744073709551616 ∧ 0 ≤ A ∧ A < y * 2 ^ s := by
  obtain ⟨a, rfl⟩ : ∃ n : Nat, hi = (n : Int) := ⟨hi.toNat, by omega⟩
  obtain ⟨b, rfl⟩ : ∃ n : Nat, lo = (n : Int) := ⟨lo.toNat, by omega⟩
  obtain ⟨c, rfl⟩ : ∃ n : Nat, y = (n : Int) := ⟨y.toNat, by omega⟩
  have p : ∀ k : Nat, ((2 ^ k : Nat) : Int) = 2 ^ k := fun k => by rw [Int.natCast_pow]; rfl
  rw [← p s, ← p (64 - s)] at *
  have hac : a < c := by omega
  have hpos := Nat.two_pow_pos s
  have e64 : 2 ^ s * 2 ^ (64 - s) = 18446744073709551616 := by rw [← Nat.pow_add, show s + (64 - s) = 64 by omega]
  have hbd : b / 2 ^ (64 - s) < 2 ^ s := by
    rw [Nat.div_lt_iff_lt_mul (Nat.two_pow_pos _), e64]; omega
  have hY' : c * 2 ^ s < 18446744073709551616 := by
    have : ((c * 2 ^ s : Nat) : Int) < 18446744073709551616 := by rw [Int.natCast_mul]; exact hY
    omega
  have hle : (a + 1) * 2 ^ s ≤ c * 2 ^ s := Nat.mul_le_mul_right _ hac
  have hle' : a * 2 ^ s + 2 ^ s ≤ c * 2 ^ s := by rw [Nat.add_mul, Nat.one_mul] at hle; exact hle
  have ha64 : a * 2 ^ s < 18446744073709551616 := by omega
  refine ⟨?_, ((a * 2 ^ s + b / 2 ^ (64 - s) : Nat) : Int), ((b * 2 ^ s % 18446744073709551616 : Nat) : Int), ?_, ?_, ?_, Int.natCast_nonneg _, ?_, Int.natCast_nonneg _, ?_⟩
  · rw [← Int.natCast_mul, IntKind.wrap_u64]; omega
  · rw [← Int.natCast_mul, ← Int.natCast_ediv, bits_or_u64_nat _ _ ha64 (by omega)]
    rw [Nat.mul_comm a (2 ^ s), ← Nat.two_pow_add_eq_or_of_lt hbd]
  · rw [← Int.natCast_mul, IntKind.wrap_u64]; omega
  · have e1 : (a * 18446744073709551616 + b) * 2 ^ s = (a * 2 ^ s + b / 2 ^ (64 - s)) * 18446744073709551616 + b * 2 ^ s % 18446744073709551616 := by
      have e2 : b * 2 ^ s / 18446744073709551616 = b / 2 ^ (64 - s) := by
        rw [← e64, Nat.mul_comm b, Nat.mul_div_mul_left _ _ hpos]
      have e3 := Nat.div_add_mod (b * 2 ^ s) 18446744073709551616
      rw [e2] at e3
      rw [Nat.add_mul, Nat.add_mul]
      have e4 : a * 18446744073709551616 * 2 ^ s = a * 2 ^ s * 18446744073709551616 := by rw [Nat.mul_assoc, Nat.mul_comm 18446744073709551616, ← Nat.mul_assoc]
      omega
    have h := congrArg (fun n : Nat => (n : Int)) e1
    simp only [Int.natCast_mul, Int.natCast_add] at h ⊢
    exact h
  · have := Nat.mod_lt (b * 2 ^ s) (show 0 < 18446744073709551616 by decide)
    omega
  · rw [← Int.natCast_mul]
    omega

theorem wrap_in (x : Int) (h0 : 0 ≤ x) (h1 : x < 18446744073709551616) : IntKind.u64.wrap x = x := by rw [IntKind.wrap_u64]; omega

/-- A difference of sums that has gone round is what it is. -/
theorem wrap_step (a b p : Int) (h0 : 0 ≤ a * 4294967296 + b - p) (h1 : a * 4294967296 + b - p < 18446744073709551616) :
    IntKind.u64.wrap (IntKind.u64.wrap (IntKind.u64.wrap (a * 4294967296) + b) - IntKind.u64.wrap p) = a * 4294967296 + b - p := by
  simp only [IntKind.wrap_u64]
  omega

end Go.Proofs.Ytmiamdnhofjifaa.DV
