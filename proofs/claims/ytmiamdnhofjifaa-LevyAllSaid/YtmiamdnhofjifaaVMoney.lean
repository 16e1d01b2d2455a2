/- Money. -/
import Derived.Test.YtmiamdnhofjifaaProg
import Derived.Below
import Derived.Deep.Draws
import Derived.Deep.AppendLies
import Derived.Maps.AppendAt
import Derived.OwnWalk
import Derived.Laws.BytesArg
import Derived.Laws.MakeOwn
import Derived.Laws.OwnMore
import Derived.Deep.OwnRows
import Derived.Tactics
import Derived.Lib.ConvBytes
import Derived.Laws.Slices
import Derived.WalkKit
import Derived.KernelRfl
import Derived.RowKit3
import Derived.Deep.LoopGhost
import Derived.Deep.QuietTactic
import Derived.BigQuiet
import Derived.WideLaws
import Derived.Deep.DeepCutAuto
import Derived.Deep.CutBlock
import Derived.Deep.RegionHeld3
import Derived.Laws.Rows
import Derived.Lib.AppendStr
import Derived.ArgAppend
import Derived.Laws.IdiomCopy
import Derived.OrdersHeld
import Derived.Laws.BitsLemmas
import Derived.RowKit
import Derived.BigRegion
import Derived.Outline
import Derived.RegionTactic
import Derived.StillTailTactics
import Derived.Deep.RegionLaw
import Derived.Test.YtmiamdnhofjifaaVDivWalk
import Derived.Test.YtmiamdnhofjifaaVQRow
import Derived.Laws.EntriesVeiled
section
/- money: what is right, and the parts of an amount. -/
set_option linter.unusedVariables false
set_option linter.unusedSimpArgs false
namespace Go.Proofs.Ytmiamdnhofjifaa.MN
open Go Go.RowKit Go.Proofs.Ytmiamdnhofjifaa.QR Go.Proofs.Ytmiamdnhofjifaa.DV

theorem div64_calls (hi lo y : Int) (w : World) (h0 : 0 ≤ lo) (h1 : lo < 18446744073709551616) (hh : 0 ≤ hi) (hy : hi < y) (hy' : y < 18446744073709551616) :
    Calls Try.prog 64 #[.int .u64 hi, .int .u64 lo, .int .u64 y] w fun e w' => e = .returned (.tuple #[.int .u64 ((hi * 18446744073709551616 + lo) / y), .int .u64 ((hi * 18446744073709551616 + lo) % y)]) ∧ ∃ k, w' = w.drewN k := by
  rcases Int.lt_or_le 0 hi with h | h
  · exact div64_great hi lo y w h0 h1 h hy hy'
  · obtain rfl : hi = 0 := by omega
    refine (div64_small lo y w h0 h1 (by omega) hy').mono ?_
    rintro e w' ⟨rfl, k, rfl⟩
    exact ⟨by rw [Int.zero_mul, Int.zero_add], k, rfl⟩

/-- An amount that is right. -/
def right (n : Int) : Bool := decide (0 ≤ n) && decide (n ≤ 100000000000000)

theorem right_calls (n : Int) (w : World) : Calls Try.prog 62 #[.int .i64 n] w fun e w' => e = .returned (.bool (right n)) ∧ ∃ k, w' = w.drewN k := by
  by_cases h : 0 ≤ n
  · have e1 : decide (0 ≤ n) = true := decide_eq_true h
    have e2 : right n = decide (n ≤ 100000000000000) := by unfold right; rw [e1, Bool.true_and]
    go_enter Try.func62, Try.ntmps62
    go_wp2
    go_ret
    exact ⟨by first | rfl | (rw [e2]; rfl), 0, rfl⟩
  · have e1 : decide (0 ≤ n) = false := decide_eq_false h
    have e2 : right n = false := by unfold right; rw [e1, Bool.false_and]
    go_enter Try.func62, Try.ntmps62
    go_wp2
    go_ret
    exact ⟨by first | rfl | (rw [e2]; rfl), 0, rfl⟩

theorem down_calls (a b c : Int) (w : World) : Calls Try.prog 59 #[.agg #[.int .u64 a, .int .u64 b, .int .u64 c]] w fun e w' => e = .returned (.int .u64 a) ∧ Kp (fun _ => False) w w' := by
  go_enter Try.func59, Try.ntmps59
  go_wp2
  go_ret
  exact ⟨rfl, (Kp.refl _ _).alloc _⟩

/-- To the nearest; of two as near, the greater. -/
theorem up_calls (a b c : Int) (w : World) (h0 : 0 ≤ b) (h1 : b < c) (hc : c < 18446744073709551616) (ha : 0 ≤ a) (ha' : a < 18446744073709551615) :
    Calls Try.prog 60 #[.agg #[.int .u64 a, .int .u64 b, .int .u64 c]] w fun e w' => e = .returned (.int .u64 (if c ≤ 2 * b then a + 1 else a)) ∧ Kp (fun _ => False) w w' := by
  have e1 : IntKind.u64.wrap (c - b) = c - b := wrap_in _ (by omega) (by omega)
  have e2 : IntKind.u64.wrap (a + 1) = a + 1 := wrap_in _ (by omega) (by omega)
  by_cases h : c ≤ 2 * b
  · have e3 : decide (c - b ≤ b) = true := decide_eq_true (by omega)
    rw [if_pos h]
    go_enter Try.func60, Try.ntmps60
    go_wp2
    go_ret
    exact ⟨rfl, (Kp.refl _ _).alloc _⟩
  · have e3 : decide (c - b ≤ b) = false := decide_eq_false (by omega)
    rw [if_neg h]
    go_enter Try.func60, Try.ntmps60
    go_wp2
    go_ret
    exact ⟨rfl, (Kp.refl _ _).alloc _⟩

set_option maxRecDepth 100000 in
theorem even_calls (a b c : Int) (w : World) (h0 : 0 ≤ b) (h1 : b < c) (hc : c < 18446744073709551616) (ha : 0 ≤ a) (ha' : a < 18446744073709551615) :
    Calls Try.prog 61 #[.agg #[.int .u64 a, .int .u64 b, .int .u64 c]] w fun e w' => e = .returned (.int .u64 (if c < 2 * b ∨ (2 * b = c ∧ a % 2 = 1) then a + 1 else a)) ∧ Kp (fun _ => False) w w' := by
  have e1 : IntKind.u64.wrap (c - b) = c - b := wrap_in _ (by omega) (by omega)
  have e2 : IntKind.u64.wrap (a + 1) = a + 1 := wrap_in _ (by omega) (by omega)
  by_cases h : c < 2 * b
  · have e3 : decide (c - b < b) = true := decide_eq_true (by omega)
    rw [if_pos (Or.inl h)]
    go_enter Try.func61, Try.ntmps61
    go_wp2
    go_ret
    exact ⟨rfl, (Kp.refl _ _).alloc _⟩
  · have e3 : decide (c - b < b) = false := decide_eq_false (by omega)
    by_cases h2 : 2 * b = c
    · have e4 : (b == c - b) = true := by rw [beq_iff_eq]; omega
      by_cases h3 : a % 2 = 1
      · rw [if_pos (Or.inr ⟨h2, h3⟩)]
        go_enter Try.func61, Try.ntmps61
        go_wp2
        go_ret
        exact ⟨rfl, (Kp.refl _ _).alloc _⟩
      · rw [if_neg (by omega)]
        go_enter Try.func61, Try.ntmps61
        go_wp2
        go_ret
        exact ⟨rfl, (Kp.refl _ _).alloc _⟩
    · have e4 : (b == c - b) = false := beq_eq_false_iff_ne.2 (by omega)
      rw [if_neg (by omega)]
      go_enter Try.func61, Try.ntmps61
      go_wp2
      go_ret
      exact ⟨rfl, (Kp.refl _ _).alloc _⟩

/-- Rounded: down, to the nearest (of two as near the greater), or to the even one of two as near. -/
def rnd (k q r d : Int) : Int := if k = 0 then q else if k = 1 then (if d ≤ 2 * r then q + 1 else q) else if d < 2 * r ∨ (2 * r = d ∧ q % 2 = 1) then q + 1 else q

/-- What may be asked. -/
def asked (x n d k : Int) : Bool := right x && right n && right d && decide (d ≠ 0) && decide (0 ≤ k) && decide (k < 3)

def times (x n d k : Int) : Int × Int :=
  if asked x n d k = false then (0, 2) else if 100000000000000 < x * n / d then (0, 5) else if 100000000000000 < rnd k (x * n / d) (x * n % d) d then (0, 5) else (rnd k (x * n / d) (x * n % d) d, 0)

theorem wrap_i64 (V : Int) (h0 : 0 ≤ V) (h1 : ¬ 100000000000000 < V) : IntKind.i64.wrap V = V := by rw [IntKind.wrap_i64]; omega

theorem way_down (Q R d V : Int) (w : World) (hV : Hid (rnd 0 Q R d = V)) (h1 : Hid (0 ≤ R ∧ R < d ∧ 0 ≤ Q)) (h2 : Hid (0 < d ∧ d ≤ 100000000000000)) (h3 : Hid (Q ≤ 100000000000000)) :
    Calls Try.prog 59 #[.agg #[.int .u64 Q, .int .u64 R, .int .u64 d]] w fun e w' => e = .returned (.int .u64 V) ∧ Kp (fun _ => False) w w' := by
  rw [← hV.out]
  replace h1 := h1.out
  replace h2 := h2.out
  replace h3 := h3.out
  exact down_calls Q R d w

theorem way_up (Q R d V : Int) (w : World) (hV : Hid (rnd 1 Q R d = V)) (h1 : Hid (0 ≤ R ∧ R < d ∧ 0 ≤ Q)) (h2 : Hid (0 < d ∧ d ≤ 100000000000000)) (h3 : Hid (Q ≤ 100000000000000)) :
    Calls Try.prog 60 #[.agg #[.int .u64 Q, .int .u64 R, .int .u64 d]] w fun e w' => e = .returned (.int .u64 V) ∧ Kp (fun _ => False) w w' := by
  rw [← hV.out]
  replace h1 := h1.out
  replace h2 := h2.out
  replace h3 := h3.out
  exact up_calls Q R d w h1.1 h1.2.1 (by omega) h1.2.2 (by omega)

theorem way_even (Q R d V : Int) (w : World) (hV : Hid (rnd 2 Q R d = V)) (h1 : Hid (0 ≤ R ∧ R < d ∧ 0 ≤ Q)) (h2 : Hid (0 < d ∧ d ≤ 100000000000000)) (h3 : Hid (Q ≤ 100000000000000)) :
    Calls Try.prog 61 #[.agg #[.int .u64 Q, .int .u64 R, .int .u64 d]] w fun e w' => e = .returned (.int .u64 V) ∧ Kp (fun _ => False) w w' := by
  rw [← hV.out]
  replace h1 := h1.out
  replace h2 := h2.out
  replace h3 := h3.out
  exact even_calls Q R d w h1.1 h1.2.1 (by omega) h1.2.2 (by omega)

theorem mul64_is (x y H L : Int) (w : World) (hx : 0 ≤ x ∧ x < 18446744073709551616) (hy : 0 ≤ y ∧ y < 18446744073709551616) (hH : x * y / 18446744073709551616 = H) (hL : x * y % 18446744073709551616 = L) :
    Calls Try.prog 63 #[.int .u64 x, .int .u64 y] w fun e w' => e = .returned (.tuple #[.int .u64 H, .int .u64 L]) ∧ w' = w := by
  obtain ⟨a, rfl⟩ : ∃ n : Nat, x = (n : Int) := ⟨x.toNat, by omega⟩
  obtain ⟨b, rfl⟩ : ∃ n : Nat, y = (n : Int) := ⟨y.toNat, by omega⟩
  subst hH; subst hL
  refine (Sh.Try.bits_Mul64 a b (by omega) (by omega) w).mono ?_
  rintro e w' ⟨rfl, rfl⟩
  exact ⟨by rw [← Int.natCast_mul]; rfl, rfl⟩

theorem div64_is (hi lo y Q R : Int) (w : World) (h : Hid (0 ≤ lo ∧ lo < 18446744073709551616 ∧ 0 ≤ hi ∧ hi < y ∧ y < 18446744073709551616 ∧ (hi * 18446744073709551616 + lo) / y = Q ∧ (hi * 18446744073709551616 + lo) % y = R)) :
    Calls Try.prog 64 #[.int .u64 hi, .int .u64 lo, .int .u64 y] w fun e w' => e = .returned (.tuple #[.int .u64 Q, .int .u64 R]) ∧ ∃ k, w' = w.drewN k := by
  obtain ⟨h0, h1, h2, h3, h4, h5, h6⟩ := h.out
  subst h5; subst h6
  exact div64_calls hi lo y w h0 h1 h2 h3 h4

theorem right_is (n : Int) (w : World) (h : right n = true) : Calls Try.prog 62 #[.int .i64 n] w fun e w' => e = .returned (.bool true) ∧ ∃ k, w' = w.drewN k := by
  rw [← h]; exact right_calls n w

set_option maxRecDepth 100000 in
set_option maxHeartbeats 4000000 in
theorem times_good (x n d k : Int) (w : World) (B : Nat) (hB : w.heap.size = B) (hx : 0 ≤ x ∧ x ≤ 100000000000000) (hn : 0 ≤ n ∧ n ≤ 100000000000000) (hd : 1 ≤ d ∧ d ≤ 100000000000000) (hk : 0 ≤ k ∧ k < 3) :
    Calls Try.prog 44 #[.int .i64 x, .int .i64 n, .int .i64 d, .int .i64 k] w fun e w' => e = .returned (.tuple #[.int .i64 (times x n d k).1, .int .i64 (times x n d k).2]) ∧ Kp (fun _ => False) w w' := by
  have HB : Hid (w.heap.size = B) := hB
  have r1 : right x = true := by unfold right; simp; omega
  have r2 : right n = true := by unfold right; simp; omega
  have r3 : right d = true := by unfold right; simp; omega
  have hask : asked x n d k = true := by unfold asked; rw [r1, r2, r3]; simp; omega
  have e1 : (d == 0) = false := beq_eq_false_iff_ne.2 (by omega)
  have e2 : decide (k < 0) = false := decide_eq_false (by omega)
  have e3 : decide (3 ≤ k) = false := decide_eq_false (by omega)
  have c1 : IntKind.u64.wrap x = x := wrap_in _ (by omega) (by omega)
  have c2 : IntKind.u64.wrap n = n := wrap_in _ (by omega) (by omega)
  have c3 : IntKind.u64.wrap d = d := wrap_in _ (by omega) (by omega)
  obtain ⟨Q, hQ⟩ : ∃ Q, x * n / d = Q := ⟨_, rfl⟩
  obtain ⟨R, hR⟩ : ∃ R, x * n % d = R := ⟨_, rfl⟩
  obtain ⟨H, hH⟩ : ∃ Q, x * n / 18446744073709551616 = Q := ⟨_, rfl⟩
  obtain ⟨L, hL⟩ : ∃ R, x * n % 18446744073709551616 = R := ⟨_, rfl⟩
  have hxn0 : 0 ≤ x * n := Int.mul_nonneg hx.1 hn.1
  have hR0 : 0 ≤ R ∧ R < d := by rw [← hR]; exact ⟨Int.emod_nonneg _ (by omega), Int.emod_lt_of_pos _ (by omega)⟩
  have hQ0 : 0 ≤ Q := by rw [← hQ]; exact Int.ediv_nonneg hxn0 (by omega)
  have et : times x n d k = if 100000000000000 < Q then (0, 5) else if 100000000000000 < rnd k Q R d then (0, 5) else (rnd k Q R d, 0) := by
    unfold times; rw [if_neg (by rw [hask]; decide), hQ, hR]
  rw [et]
  obtain ⟨o, ho⟩ : ∃ o : Int × Int, (if 100000000000000 < Q then (0, 5) else if 100000000000000 < rnd k Q R d then (0, 5) else (rnd k Q R d, 0)) = o := ⟨_, rfl⟩
  rw [ho]
  have HM : Hid ((0 ≤ x ∧ x < 18446744073709551616) ∧ (0 ≤ n ∧ n < 18446744073709551616) ∧ x * n / 18446744073709551616 = H ∧ x * n % 18446744073709551616 = L) := ⟨by omega, by omega, hH, hL⟩
  have R1 : Hid (right x = true) := r1
  have R2 : Hid (right n = true) := r2
  have R3 : Hid (right d = true) := r3
  have HD : Hid (0 < d ∧ d ≤ 100000000000000) := by exact ⟨by omega, hd.2⟩
  have HRQ : Hid (0 ≤ R ∧ R < d ∧ 0 ≤ Q) := ⟨hR0.1, hR0.2, hQ0⟩
  have hsplit : x * n = H * 18446744073709551616 + L := by omega
  have hL0 : 0 ≤ L ∧ L < 18446744073709551616 := by omega
  have hH0 : 0 ≤ H := by omega
  have hhi : H < d ∨ 100000000000000 < Q := by
    rcases Int.lt_or_le H d with h | h
    · exact Or.inl h
    · right
      have h2 : d * 18446744073709551616 ≤ H * 18446744073709551616 := Int.mul_le_mul_of_nonneg_right h (by decide)
      have h3 : 18446744073709551616 ≤ x * n / d := (Int.le_ediv_iff_mul_le (by omega)).2 (by rw [Int.mul_comm]; omega)
      omega
  have HDV' : Hid (H < d → Hid (0 ≤ L ∧ L < 18446744073709551616 ∧ 0 ≤ H ∧ H < d ∧ d < 18446744073709551616 ∧ (H * 18446744073709551616 + L) / d = Q ∧ (H * 18446744073709551616 + L) % d = R)) := fun h => ⟨hL0.1, hL0.2, hH0, h, by omega, by rw [← hsplit]; exact hQ, by rw [← hsplit]; exact hR⟩
  have Hhi : Hid (H < d ∨ 100000000000000 < Q) := hhi
  clear hhi hsplit hL0 hH0 et hQ0 hR0 hxn0 hL hH hR hQ hask r1 r2 r3 hx hn hd
  go_enter Try.func44, Try.ntmps44
  go_upto_region 1 with (fail)
  go_cut [10] (fun v wc => v = .pointer (some ⟨B, 0, none⟩) ∧ Kp (fun _ => False) w wc ∧ wc.heap[B]? = some (.cells #[.func (.func 59) #[] #[], .func (.func 60) #[] #[], .func (.func 61) #[] #[]] 106 (0, 0)))
  case first =>
    go_wp2
    go_meet
    case rel => exact ⟨rfl, (Kp.refl _ _).alloc _, by rw [← HB.out]; exact alloc_new _ _⟩
  case rest =>
  obtain ⟨rfl, hkp, hcell⟩ := hcut
  have hc0 : wc.cell? ⟨B, 0, none⟩ = some (.func (.func 59) #[] #[]) := by rw [cell_of_row wc B 0 _ _ (0, 0) hcell]; rfl
  have hc1 : wc.cell? ⟨B, 1, none⟩ = some (.func (.func 60) #[] #[]) := by rw [cell_of_row wc B 1 _ _ (0, 0) hcell]; rfl
  have hc2 : wc.cell? ⟨B, 2, none⟩ = some (.func (.func 61) #[] #[]) := by rw [cell_of_row wc B 2 _ _ (0, 0) hcell]; rfl
  clear hcell
  go_wp2_with fail
  refine (right_is x _ R1.out).mono ?_; rintro _ _ ⟨rfl, _, rfl⟩
  go_wp2_with fail
  refine (right_is n _ R2.out).mono ?_; rintro _ _ ⟨rfl, _, rfl⟩
  go_wp2_with fail
  refine (right_is d _ R3.out).mono ?_; rintro _ _ ⟨rfl, _, rfl⟩
  go_wp2_with fail
  refine (mul64_is x n H L _ HM.out.1 HM.out.2.1 HM.out.2.2.1 HM.out.2.2.2).mono ?_; rintro _ _ ⟨rfl, rfl⟩
  by_cases hdh : d ≤ H
  · have t1 : decide (d ≤ H) = true := decide_eq_true hdh
    have HO : Hid (o = (0, 5)) := by show _ = _; rw [← ho, if_pos (by rcases Hhi.out with h | h; omega; exact h)]
    clear hdh ho
    go_wp2
    go_ret2
    exact ⟨by rw [HO.out]; rfl, hkp.drewN _⟩
  have t1 : decide (d ≤ H) = false := decide_eq_false hdh
  have HV := HDV'.out (by omega)
  clear hdh
  go_wp2_with fail
  refine (div64_is H L d Q R _ HV).mono ?_; rintro _ _ ⟨rfl, _, rfl⟩
  by_cases hq : 100000000000000 < Q
  · have t2 : decide (100000000000000 < Q) = true := decide_eq_true hq
    have HO : Hid (o = (0, 5)) := by show _ = _; rw [← ho, if_pos hq]
    clear hq ho
    go_wp2
    go_ret2
    exact ⟨by rw [HO.out]; rfl, hkp.drewN _⟩
  have t2 : decide (100000000000000 < Q) = false := decide_eq_false hq
  rw [if_neg hq] at ho
  have HQ2 : Hid (Q ≤ 100000000000000) := by show _ ≤ _; omega
  clear hq
  obtain ⟨V, hV⟩ : ∃ V, rnd k Q R d = V := ⟨_, rfl⟩
  rw [hV] at ho
  have HVb : Hid (0 ≤ V ∧ V < 18446744073709551616) := by
    have := HRQ.out; have := HQ2.out
    rw [← hV]; unfold rnd; constructor <;> (repeat' split) <;> omega
  have Ho : Hid ((if 100000000000000 < V then ((0, 5) : Int × Int) else (V, 0)) = o) := ho
  have HVe : Hid (rnd k Q R d = V) := hV
  clear ho hV
  obtain ⟨hk1, hk2⟩ := hk
  rcases (show k = 0 ∨ k = 1 ∨ k = 2 by omega) with rfl | rfl | rfl
  · have hw := way_down Q R d V
    clear hk1 hk2
    go_wp2_with fail
    refine (hw _ HVe HRQ HD HQ2).mono ?_; rintro _ w2 ⟨rfl, hk2⟩
    have hk3 : Kp (fun _ => False) w w2 := (hkp.drewN _).trans hk2
    clear hk2 hkp hc0 hc1 hc2
    by_cases hv : 100000000000000 < V
    · have t3 : decide (100000000000000 < V) = true := decide_eq_true hv
      have HO : Hid (o = (0, 5)) := by show _ = _; rw [← Ho.out, if_pos hv]
      clear hv
      go_wp2
      go_ret2
      exact ⟨by rw [HO.out]; rfl, hk3⟩
    · have t3 : decide (100000000000000 < V) = false := decide_eq_false hv
      have HO : Hid (o = (V, 0)) := by show _ = _; rw [← Ho.out, if_neg hv]
      have t4 : IntKind.i64.wrap V = V := wrap_i64 V HVb.out.1 (by omega)
      clear hv
      go_wp2
      go_ret2
      exact ⟨by rw [HO.out]; rfl, hk3⟩
  · have hw := way_up Q R d V
    clear hk1 hk2
    go_wp2_with fail
    refine (hw _ HVe HRQ HD HQ2).mono ?_; rintro _ w2 ⟨rfl, hk2⟩
    have hk3 : Kp (fun _ => False) w w2 := (hkp.drewN _).trans hk2
    clear hk2 hkp hc0 hc1 hc2
    by_cases hv : 100000000000000 < V
    · have t3 : decide (100000000000000 < V) = true := decide_eq_true hv
      have HO : Hid (o = (0, 5)) := by show _ = _; rw [← Ho.out, if_pos hv]
      clear hv
      go_wp2
      go_ret2
      exact ⟨by rw [HO.out]; rfl, hk3⟩
    · have t3 : decide (100000000000000 < V) = false := decide_eq_false hv
      have HO : Hid (o = (V, 0)) := by show _ = _; rw [← Ho.out, if_neg hv]
      have t4 : IntKind.i64.wrap V = V := wrap_i64 V HVb.out.1 (by omega)
      clear hv
      go_wp2
      go_ret2
      exact ⟨by rw [HO.out]; rfl, hk3⟩
  · have hw := way_even Q R d V
    clear hk1 hk2
    go_wp2_with fail
    refine (hw _ HVe HRQ HD HQ2).mono ?_; rintro _ w2 ⟨rfl, hk2⟩
    have hk3 : Kp (fun _ => False) w w2 := (hkp.drewN _).trans hk2
    clear hk2 hkp hc0 hc1 hc2
    by_cases hv : 100000000000000 < V
    · have t3 : decide (100000000000000 < V) = true := decide_eq_true hv
      have HO : Hid (o = (0, 5)) := by show _ = _; rw [← Ho.out, if_pos hv]
      clear hv
      go_wp2
      go_ret2
      exact ⟨by rw [HO.out]; rfl, hk3⟩
    · have t3 : decide (100000000000000 < V) = false := decide_eq_false hv
      have HO : Hid (o = (V, 0)) := by show _ = _; rw [← Ho.out, if_neg hv]
      have t4 : IntKind.i64.wrap V = V := wrap_i64 V HVb.out.1 (by omega)
      clear hv
      go_wp2
      go_ret2
      exact ⟨by rw [HO.out]; rfl, hk3⟩

end Go.Proofs.Ytmiamdnhofjifaa.MN
end
section
/- money: sums, differences, products, rates. -/
set_option linter.unusedVariables false
set_option linter.unusedSimpArgs false
namespace Go.Proofs.Ytmiamdnhofjifaa.MN
open Go Go.RowKit Go.Proofs.Ytmiamdnhofjifaa.QR Go.Proofs.Ytmiamdnhofjifaa.DV

theorem right_iff {n : Int} : right n = true ↔ 0 ≤ n ∧ n ≤ 100000000000000 := by unfold right; simp
theorem right_isnt (n : Int) (w : World) (h : right n = false) : Calls Try.prog 62 #[.int .i64 n] w fun e w' => e = .returned (.bool false) ∧ ∃ k, w' = w.drewN k := by
  rw [← h]; exact right_calls n w

def add (a b : Int) : Int × Int := if right a = false ∨ right b = false then (0, 2) else if 100000000000000 < a + b then (0, 5) else (a + b, 0)
end Go.Proofs.Ytmiamdnhofjifaa.MN
end
