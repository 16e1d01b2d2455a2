/- The reference's parts: the walk. -/
import Derived.Test.YtonpcolkmecddaaProg
import Derived.Below
import Derived.Deep.Draws
import Derived.Deep.AppendLies
import Derived.Maps.AppendAt
import Derived.OwnWalk
import Derived.Laws.BytesArg
import Derived.Laws.MakeOwn
import Derived.Laws.OwnMore
import Derived.Deep.OwnRows
import Derived.Tactics
import Derived.Lib.ConvBytes
import Derived.Laws.Slices
import Derived.WalkKit
import Derived.KernelRfl
import Derived.RowKit3
import Derived.Deep.LoopGhost
import Derived.Deep.QuietTactic
import Derived.BigQuiet
import Derived.WideLaws
import Derived.Deep.DeepCutAuto
import Derived.Deep.CutBlock
import Derived.Deep.RegionHeld3
import Derived.Laws.Rows
import Derived.Lib.AppendStr
import Derived.ArgAppend
import Derived.Laws.IdiomCopy
import Derived.OrdersHeld
import Derived.Laws.BitsLemmas
import Derived.RowKit
import Derived.BigRegion
import Derived.Outline
import Derived.RegionTactic
import Derived.StillTailTactics
import Derived.Deep.RegionLaw
import Derived.Test.YtonpcolkmecddaaVParts
set_option linter.unusedVariables false
set_option linter.unusedSimpArgs false
namespace Go.Proofs.Ytonpcolkmecddaa.PT
open Go Go.RowKit Go.Proofs.Ytonpcolkmecddaa.QR

def parts (x : Int) (n : Nat) (d : Int) : Int × Int × Bool := if 100000000000000 < x * (n : Int) / d then (0, 0, false) else (x * (n : Int) / d, x * (n : Int) % d, true)

theorem high {x : Int} {n : Nat} {d : Int} {k : Nat} {q r : Int} {o1 o2 : Int} {o3 : Bool} (hD : Hid (1 ≤ d ∧ d ≤ 2305843009213693952)) (hX : Hid (0 ≤ x ∧ x ≤ 100000000000000)) (h : Hid (Part x n d k q r)) (hM : 100000000000000 < q) (ho : Hid (parts x n d = (o1, o2, o3))) :
    Hid (o1 = 0 ∧ o2 = 0 ∧ o3 = false) := by
  have h1 := h.out.1
  have hle : x * (up n k : Int) ≤ x * (n : Int) := Int.mul_le_mul_of_nonneg_left (by have := up_le n k; omega) hX.out.1
  have h2 : q ≤ x * (n : Int) / d := by rw [h1]; exact Int.ediv_le_ediv (by have := hD.out; omega) hle
  have h3 := ho.out
  unfold parts at h3
  rw [if_pos (by omega)] at h3
  injection h3 with h3 h4
  injection h4 with h4 h5
  exact ⟨h3.symm, h4.symm, h5.symm⟩
theorem xdiv {x d : Int} (hX : 0 ≤ x ∧ x ≤ 100000000000000) (hD : 1 ≤ d ∧ d ≤ 2305843009213693952) : 0 ≤ x / d ∧ x / d ≤ 100000000000000 ∧ 0 ≤ x % d ∧ x % d < d := by
  have h1 := Int.ediv_nonneg hX.1 (show 0 ≤ d by omega)
  have h2 : x / d ≤ x := Int.ediv_le_self _ hX.1
  exact ⟨h1, by omega, Int.emod_nonneg _ (by omega), Int.emod_lt_of_pos _ (by omega)⟩
theorem up_lt (n k : Nat) (h : n < 9223372036854775808) : up n k < 9223372036854775808 := Nat.lt_of_le_of_lt (up_le n k) h
theorem up_cast (n k : Nat) : ((n : Int) / 2 ^ k) = ((up n k : Nat) : Int) := by
  unfold up
  rw [Int.natCast_ediv, Int.natCast_pow]
  rfl

set_option maxRecDepth 100000 in
set_option maxHeartbeats 16000000 in
theorem parts_calls' (x : Int) (n : Nat) (d : Int) (o1 o2 : Int) (o3 : Bool) (w : World) (hx : 0 ≤ x ∧ x ≤ 100000000000000) (hn : n < 9223372036854775808) (hd : 1 ≤ d ∧ d ≤ 2305843009213693952) (ho : Hid (parts x n d = (o1, o2, o3))) :
    Calls Try.prog 53 #[.int .i64 x, .int .i64 n, .int .i64 d] w fun e w' => e = .returned (.tuple #[.int .i64 o1, .int .i64 o2, .bool o3]) ∧ ∃ k, w' = w.drewN k := by
  have hD : Hid (1 ≤ d ∧ d ≤ 2305843009213693952) := hd
  have hX : Hid (0 ≤ x ∧ x ≤ 100000000000000) := hx
  have hN : Hid (n < 9223372036854775808) := hn
  clear hd hx hn
  go_enter Try.func53, Try.ntmps53
  go_wp2
  go_loopw [9, 10, 11] (fun a b c wr => ∃ (k : Nat) (q r z : Int), a = .int .i64 q ∧ b = .int .i64 r ∧ c = .int .i64 z ∧ Hid (z = (k : Int) - 1) ∧ Hid (Part x n d k q r) ∧ Hid (0 ≤ q ∧ q ≤ 100000000000000) ∧ Hid (0 ≤ r ∧ r < d) ∧ Hid (k ≤ 63) ∧ Hid (∃ m, wr = w.drewN m)) (fun _ _ c _ => (intOf c + 1).toNat)
  case atStart => exact ⟨63, 0, 0, 62, rfl, rfl, rfl, rfl, ⟨by rw [up_all n hN.out]; simp, by rw [up_all n hN.out]; simp⟩, ⟨by decide, by decide⟩, ⟨by decide, by have := hD.out; omega⟩, Nat.le_refl _, 0, rfl⟩
  case round =>
    obtain ⟨k, q, r, z, rfl, rfl, rfl, hz, HP, hq, hr, hk, HW⟩ := hrel
    cases k with
    | zero =>
      have hz2 : decide (0 ≤ z) = false := decide_eq_false (by have := hz.out; omega)
      have HO : Hid (o1 = q ∧ o2 = r ∧ o3 = true) := by
        have hp := HP.out
        unfold Part at hp
        rw [up_zero] at hp
        have h2 := ho.out
        unfold parts at h2
        rw [← hp.1, ← hp.2, if_neg (by have := hq.out; omega)] at h2
        injection h2 with h3 h4
        injection h4 with h4 h5
        exact ⟨h3.symm, h4.symm, h5.symm⟩
      go_wp2
      go_ret3
      exact ⟨by obtain ⟨h1, h2, h3⟩ := HO.out; rw [h1, h2, h3]; rfl, HW.out⟩
    | succ k =>
      obtain rfl : z = (k : Int) := by have := hz.out; omega
      have hz2 : decide (0 ≤ (k : Int)) = true := decide_eq_true (by omega)
      have g1 : IntKind.i64.wrap (2 * q) = 2 * q := w64 _ (by have := hq.out; omega) (by have := hq.out; omega)
      have g2 : IntKind.i64.wrap (2 * r) = 2 * r := w64 _ (by have := hr.out; have := hD.out; omega) (by have := hr.out; have := hD.out; omega)
      have HH0 := half_step (by have := hD.out; omega) HP.out
      have bq := hq.out
      have br := hr.out
      have bd := hD.out
      by_cases hc1 : d ≤ 2 * r
      · have f1 : decide (d ≤ 2 * r) = true := decide_eq_true hc1
        obtain ⟨q1, e1⟩ : ∃ v, v = 2 * q + 1 := ⟨_, rfl⟩
        obtain ⟨r1, e1r⟩ : ∃ v, v = 2 * r - d := ⟨_, rfl⟩
        have HH : Hid (Half x n d k q1 r1) := by rw [e1, e1r]; exact HH0.1 hc1
        have h1 : IntKind.i64.wrap (2 * q + 1) = q1 := by rw [e1]; exact w64 _ (by omega) (by omega)
        have h2 : IntKind.i64.wrap (2 * r - d) = r1 := by rw [e1r]; exact w64 _ (by omega) (by omega)
        have hq1 : Hid (0 ≤ q1 ∧ q1 ≤ 200000000000001) := ⟨by omega, by omega⟩
        have hr1 : Hid (0 ≤ r1 ∧ r1 < d) := ⟨by omega, by omega⟩
        clear HH0 hc1 bq br bd e1 e1r
        have hup := up_lt n k hN.out
        have g3 : ((n : Int) / 2 ^ k) = ((up n k : Nat) : Int) := up_cast n k
        have g4 : min ((k : Int)).toNat 64 = k := by rw [Int.toNat_natCast]; have := hk.out; omega
        have g4b : min k 64 = k := by have := hk.out; omega
        have g4c : IntKind.u64.wrap (k : Int) = (k : Int) := by rw [IntKind.wrap_u64]; have := hk.out; omega
        by_cases hb : up n k % 2 = 0
        · have HP2 : Hid (Part x n d k q1 r1) := half_zero HH.out hb
          have f3 : (bits .and .i64 ((up n k : Nat) : Int) 1 == 1) = false := by rw [and_one _ hup]; exact beq_eq_false_iff_ne.2 (by omega)
          obtain ⟨q2, e2⟩ : ∃ v, v = q1 := ⟨_, rfl⟩
          obtain ⟨r2, e3⟩ : ∃ v, v = r1 := ⟨_, rfl⟩
          subst e2; subst e3
          have hq2 : Hid (0 ≤ q2 ∧ q2 ≤ 400000000000000) := ⟨by have := hq1.out; omega, by have := hq1.out; omega⟩
          have hr2 := hr1
          clear hb hup
          by_cases hM : 100000000000000 < q2
          · have f9 : decide (100000000000000 < q2) = true := decide_eq_true hM
            have HO : Hid (o1 = 0 ∧ o2 = 0 ∧ o3 = false) := high hD hX HP2 hM ho
            clear hM
            go_wp2
            go_ret3
            exact ⟨by obtain ⟨h1, h2, h3⟩ := HO.out; rw [h1, h2, h3]; try rfl, by obtain ⟨m, hm⟩ := HW.out; exact ⟨_, by first | exact hm | (rw [hm]; exact World.drewN_drewN ..)⟩⟩
          · have f9 : decide (100000000000000 < q2) = false := decide_eq_false hM
            have HB : Hid (0 ≤ q2 ∧ q2 ≤ 100000000000000) := ⟨by have := hq2.out; omega, by omega⟩
            clear hM
            go_wp2
            go_roundw
            case rel => exact ⟨k, q2, r2, (k : Int) - 1, rfl, rfl, by go_num, rfl, HP2, HB, hr2, by have := hk.out; show k ≤ 63; omega, by obtain ⟨m, hm⟩ := HW.out; exact ⟨_, by first | exact hm | (rw [hm]; exact World.drewN_drewN ..)⟩⟩
            case measure => simp [intOf] <;> omega
        · have f3 : (bits .and .i64 ((up n k : Nat) : Int) 1 == 1) = true := by rw [and_one _ hup]; exact beq_iff_eq.2 (by omega)
          have h1 := half_one (by have := hD.out; omega) HH.out (show up n k % 2 = 1 by omega)
          have hxd := xdiv hX.out hD.out
          obtain ⟨X1, hX1⟩ : ∃ v, v = x / d := ⟨_, rfl⟩
          obtain ⟨X2, hX2⟩ : ∃ v, v = x % d := ⟨_, rfl⟩
          rw [← hX1, ← hX2] at h1 hxd
          have g5 : IntKind.i64.wrap (x.tdiv d) = X1 := by rw [Int.tdiv_eq_ediv_of_nonneg hX.out.1, ← hX1]; exact w64 _ (by omega) (by omega)
          have g6 : x.tmod d = X2 := by rw [hX2]; exact Int.tmod_eq_emod_of_nonneg hX.out.1
          have nz : ¬ (d = 0) := by have := hD.out; omega
          have nz2 : (d == 0) = false := beq_eq_false_iff_ne.2 nz
          have bq := hq1.out
          have br := hr1.out
          have bd := hD.out
          obtain ⟨Q, hQ⟩ : ∃ v, v = q1 + X1 := ⟨_, rfl⟩
          obtain ⟨R, hR⟩ : ∃ v, v = r1 + X2 := ⟨_, rfl⟩
          rw [← hQ, ← hR] at h1
          have g7 : IntKind.i64.wrap (q1 + X1) = Q := by rw [hQ]; exact w64 _ (by omega) (by omega)
          have g8 : IntKind.i64.wrap (r1 + X2) = R := by rw [hR]; exact w64 _ (by omega) (by omega)
          by_cases hc2 : d ≤ R
          · have f4 : decide (d ≤ R) = true := decide_eq_true hc2
            obtain ⟨q2, e2⟩ : ∃ v, v = Q + 1 := ⟨_, rfl⟩
            obtain ⟨r2, e3⟩ : ∃ v, v = R - d := ⟨_, rfl⟩
            have HP2 : Hid (Part x n d k q2 r2) := by rw [e2, e3]; exact h1.1 hc2
            have g9 : IntKind.i64.wrap (Q + 1) = q2 := by rw [e2]; exact w64 _ (by omega) (by omega)
            have g10 : IntKind.i64.wrap (R - d) = r2 := by rw [e3]; exact w64 _ (by omega) (by omega)
            have hq2 : Hid (0 ≤ q2 ∧ q2 ≤ 400000000000000) := ⟨by omega, by omega⟩
            have hr2 : Hid (0 ≤ r2 ∧ r2 < d) := ⟨by omega, by omega⟩
            clear hb hup h1 hxd hX1 hX2 bq br bd hQ hR hc2 e2 e3
            by_cases hM : 100000000000000 < q2
            · have f9 : decide (100000000000000 < q2) = true := decide_eq_true hM
              have HO : Hid (o1 = 0 ∧ o2 = 0 ∧ o3 = false) := high hD hX HP2 hM ho
              clear hM
              go_upto_region 9 with (fail)
              go_quiet (fail)
              go_wp2
              go_ret3
              exact ⟨by obtain ⟨h1, h2, h3⟩ := HO.out; rw [h1, h2, h3]; try rfl, by obtain ⟨m, hm⟩ := HW.out; exact ⟨_, by first | exact hm | (rw [hm]; exact World.drewN_drewN ..)⟩⟩
            · have f9 : decide (100000000000000 < q2) = false := decide_eq_false hM
              have HB : Hid (0 ≤ q2 ∧ q2 ≤ 100000000000000) := ⟨by have := hq2.out; omega, by omega⟩
              clear hM
              go_upto_region 9 with (fail)
              go_quiet (fail)
              go_wp2
              go_roundw
              case rel => exact ⟨k, q2, r2, (k : Int) - 1, rfl, rfl, by go_num, rfl, HP2, HB, hr2, by have := hk.out; show k ≤ 63; omega, by obtain ⟨m, hm⟩ := HW.out; exact ⟨_, by first | exact hm | (rw [hm]; exact World.drewN_drewN ..)⟩⟩
              case measure => simp [intOf] <;> omega
          · have f4 : decide (d ≤ R) = false := decide_eq_false hc2
            have HP2 : Hid (Part x n d k Q R) := h1.2 hc2
            obtain ⟨q2, e2⟩ : ∃ v, v = Q := ⟨_, rfl⟩
            obtain ⟨r2, e3⟩ : ∃ v, v = R := ⟨_, rfl⟩
            have hq2 : Hid (0 ≤ q2 ∧ q2 ≤ 400000000000000) := ⟨by omega, by omega⟩
            have hr2 : Hid (0 ≤ r2 ∧ r2 < d) := ⟨by omega, by omega⟩
            clear hb hup h1 hxd hX1 hX2 bq br bd hQ hR hc2
            subst e2; subst e3
            by_cases hM : 100000000000000 < q2
            · have f9 : decide (100000000000000 < q2) = true := decide_eq_true hM
              have HO : Hid (o1 = 0 ∧ o2 = 0 ∧ o3 = false) := high hD hX HP2 hM ho
              clear hM
              go_upto_region 9 with (fail)
              go_quiet (fail)
              go_wp2
              go_ret3
              exact ⟨by obtain ⟨h1, h2, h3⟩ := HO.out; rw [h1, h2, h3]; try rfl, by obtain ⟨m, hm⟩ := HW.out; exact ⟨_, by first | exact hm | (rw [hm]; exact World.drewN_drewN ..)⟩⟩
            · have f9 : decide (100000000000000 < q2) = false := decide_eq_false hM
              have HB : Hid (0 ≤ q2 ∧ q2 ≤ 100000000000000) := ⟨by have := hq2.out; omega, by omega⟩
              clear hM
              go_upto_region 9 with (fail)
              go_quiet (fail)
              go_wp2
              go_roundw
              case rel => exact ⟨k, q2, r2, (k : Int) - 1, rfl, rfl, by go_num, rfl, HP2, HB, hr2, by have := hk.out; show k ≤ 63; omega, by obtain ⟨m, hm⟩ := HW.out; exact ⟨_, by first | exact hm | (rw [hm]; exact World.drewN_drewN ..)⟩⟩
              case measure => simp [intOf] <;> omega
      · have f1 : decide (d ≤ 2 * r) = false := decide_eq_false hc1
        obtain ⟨q1, e1⟩ : ∃ v, v = 2 * q := ⟨_, rfl⟩
        obtain ⟨r1, e1r⟩ : ∃ v, v = 2 * r := ⟨_, rfl⟩
        have HH : Hid (Half x n d k q1 r1) := by rw [e1, e1r]; exact HH0.2 hc1
        have hq1 : Hid (0 ≤ q1 ∧ q1 ≤ 200000000000001) := ⟨by omega, by omega⟩
        have hr1 : Hid (0 ≤ r1 ∧ r1 < d) := ⟨by omega, by omega⟩
        clear HH0 hc1 bq br bd
        rw [← e1] at g1
        rw [← e1r] at g2 f1
        have g1' : IntKind.i64.wrap (2 * q) = q1 := by rw [← e1]; exact g1
        have g2' : IntKind.i64.wrap (2 * r) = r1 := by rw [← e1r]; exact g2
        clear g1 g2 e1 e1r
        have hup := up_lt n k hN.out
        have g3 : ((n : Int) / 2 ^ k) = ((up n k : Nat) : Int) := up_cast n k
        have g4 : min ((k : Int)).toNat 64 = k := by rw [Int.toNat_natCast]; have := hk.out; omega
        have g4b : min k 64 = k := by have := hk.out; omega
        have g4c : IntKind.u64.wrap (k : Int) = (k : Int) := by rw [IntKind.wrap_u64]; have := hk.out; omega
        by_cases hb : up n k % 2 = 0
        · have HP2 : Hid (Part x n d k q1 r1) := half_zero HH.out hb
          have f3 : (bits .and .i64 ((up n k : Nat) : Int) 1 == 1) = false := by rw [and_one _ hup]; exact beq_eq_false_iff_ne.2 (by omega)
          obtain ⟨q2, e2⟩ : ∃ v, v = q1 := ⟨_, rfl⟩
          obtain ⟨r2, e3⟩ : ∃ v, v = r1 := ⟨_, rfl⟩
          subst e2; subst e3
          have hq2 : Hid (0 ≤ q2 ∧ q2 ≤ 400000000000000) := ⟨by have := hq1.out; omega, by have := hq1.out; omega⟩
          have hr2 := hr1
          clear hb hup
          by_cases hM : 100000000000000 < q2
          · have f9 : decide (100000000000000 < q2) = true := decide_eq_true hM
            have HO : Hid (o1 = 0 ∧ o2 = 0 ∧ o3 = false) := high hD hX HP2 hM ho
            clear hM
            go_wp2
            go_ret3
            exact ⟨by obtain ⟨h1, h2, h3⟩ := HO.out; rw [h1, h2, h3]; try rfl, by obtain ⟨m, hm⟩ := HW.out; exact ⟨_, by first | exact hm | (rw [hm]; exact World.drewN_drewN ..)⟩⟩
          · have f9 : decide (100000000000000 < q2) = false := decide_eq_false hM
            have HB : Hid (0 ≤ q2 ∧ q2 ≤ 100000000000000) := ⟨by have := hq2.out; omega, by omega⟩
            clear hM
            go_wp2
            go_roundw
            case rel => exact ⟨k, q2, r2, (k : Int) - 1, rfl, rfl, by go_num, rfl, HP2, HB, hr2, by have := hk.out; show k ≤ 63; omega, by obtain ⟨m, hm⟩ := HW.out; exact ⟨_, by first | exact hm | (rw [hm]; exact World.drewN_drewN ..)⟩⟩
            case measure => simp [intOf] <;> omega
        · have f3 : (bits .and .i64 ((up n k : Nat) : Int) 1 == 1) = true := by rw [and_one _ hup]; exact beq_iff_eq.2 (by omega)
          have h1 := half_one (by have := hD.out; omega) HH.out (show up n k % 2 = 1 by omega)
          have hxd := xdiv hX.out hD.out
          obtain ⟨X1, hX1⟩ : ∃ v, v = x / d := ⟨_, rfl⟩
          obtain ⟨X2, hX2⟩ : ∃ v, v = x % d := ⟨_, rfl⟩
          rw [← hX1, ← hX2] at h1 hxd
          have g5 : IntKind.i64.wrap (x.tdiv d) = X1 := by rw [Int.tdiv_eq_ediv_of_nonneg hX.out.1, ← hX1]; exact w64 _ (by omega) (by omega)
          have g6 : x.tmod d = X2 := by rw [hX2]; exact Int.tmod_eq_emod_of_nonneg hX.out.1
          have nz : ¬ (d = 0) := by have := hD.out; omega
          have nz2 : (d == 0) = false := beq_eq_false_iff_ne.2 nz
          have bq := hq1.out
          have br := hr1.out
          have bd := hD.out
          obtain ⟨Q, hQ⟩ : ∃ v, v = q1 + X1 := ⟨_, rfl⟩
          obtain ⟨R, hR⟩ : ∃ v, v = r1 + X2 := ⟨_, rfl⟩
          rw [← hQ, ← hR] at h1
          have g7 : IntKind.i64.wrap (q1 + X1) = Q := by rw [hQ]; exact w64 _ (by omega) (by omega)
          have g8 : IntKind.i64.wrap (r1 + X2) = R := by rw [hR]; exact w64 _ (by omega) (by omega)
          by_cases hc2 : d ≤ R
          · have f4 : decide (d ≤ R) = true := decide_eq_true hc2
            obtain ⟨q2, e2⟩ : ∃ v, v = Q + 1 := ⟨_, rfl⟩
            obtain ⟨r2, e3⟩ : ∃ v, v = R - d := ⟨_, rfl⟩
            have HP2 : Hid (Part x n d k q2 r2) := by rw [e2, e3]; exact h1.1 hc2
            have g9 : IntKind.i64.wrap (Q + 1) = q2 := by rw [e2]; exact w64 _ (by omega) (by omega)
            have g10 : IntKind.i64.wrap (R - d) = r2 := by rw [e3]; exact w64 _ (by omega) (by omega)
            have hq2 : Hid (0 ≤ q2 ∧ q2 ≤ 400000000000000) := ⟨by omega, by omega⟩
            have hr2 : Hid (0 ≤ r2 ∧ r2 < d) := ⟨by omega, by omega⟩
            clear hb hup h1 hxd hX1 hX2 bq br bd hQ hR hc2 e2 e3
            by_cases hM : 100000000000000 < q2
            · have f9 : decide (100000000000000 < q2) = true := decide_eq_true hM
              have HO : Hid (o1 = 0 ∧ o2 = 0 ∧ o3 = false) := high hD hX HP2 hM ho
              clear hM
              go_upto_region 9 with (fail)
              go_quiet (fail)
              go_wp2
              go_ret3
              exact ⟨by obtain ⟨h1, h2, h3⟩ := HO.out; rw [h1, h2, h3]; try rfl, by obtain ⟨m, hm⟩ := HW.out; exact ⟨_, by first | exact hm | (rw [hm]; exact World.drewN_drewN ..)⟩⟩
            · have f9 : decide (100000000000000 < q2) = false := decide_eq_false hM
              have HB : Hid (0 ≤ q2 ∧ q2 ≤ 100000000000000) := ⟨by have := hq2.out; omega, by omega⟩
              clear hM
              go_upto_region 9 with (fail)
              go_quiet (fail)
              go_wp2
              go_roundw
              case rel => exact ⟨k, q2, r2, (k : Int) - 1, rfl, rfl, by go_num, rfl, HP2, HB, hr2, by have := hk.out; show k ≤ 63; omega, by obtain ⟨m, hm⟩ := HW.out; exact ⟨_, by first | exact hm | (rw [hm]; exact World.drewN_drewN ..)⟩⟩
              case measure => simp [intOf] <;> omega
          · have f4 : decide (d ≤ R) = false := decide_eq_false hc2
            have HP2 : Hid (Part x n d k Q R) := h1.2 hc2
            obtain ⟨q2, e2⟩ : ∃ v, v = Q := ⟨_, rfl⟩
            obtain ⟨r2, e3⟩ : ∃ v, v = R := ⟨_, rfl⟩
            have hq2 : Hid (0 ≤ q2 ∧ q2 ≤ 400000000000000) := ⟨by omega, by omega⟩
            have hr2 : Hid (0 ≤ r2 ∧ r2 < d) := ⟨by omega, by omega⟩
            clear hb hup h1 hxd hX1 hX2 bq br bd hQ hR hc2
            subst e2; subst e3
            by_cases hM : 100000000000000 < q2
            · have f9 : decide (100000000000000 < q2) = true := decide_eq_true hM
              have HO : Hid (o1 = 0 ∧ o2 = 0 ∧ o3 = false) := high hD hX HP2 hM ho
              clear hM
              go_upto_region 9 with (fail)
              go_quiet (fail)
              go_wp2
              go_ret3
              exact ⟨by obtain ⟨h1, h2, h3⟩ := HO.out; rw [h1, h2, h3]; try rfl, by obtain ⟨m, hm⟩ := HW.out; exact ⟨_, by first | exact hm | (rw [hm]; exact World.drewN_drewN ..)⟩⟩
            · have f9 : decide (100000000000000 < q2) = false := decide_eq_false hM
              have HB : Hid (0 ≤ q2 ∧ q2 ≤ 100000000000000) := ⟨by have := hq2.out; omega, by omega⟩
              clear hM
              go_upto_region 9 with (fail)
              go_quiet (fail)
              go_wp2
              go_roundw
              case rel => exact ⟨k, q2, r2, (k : Int) - 1, rfl, rfl, by go_num, rfl, HP2, HB, hr2, by have := hk.out; show k ≤ 63; omega, by obtain ⟨m, hm⟩ := HW.out; exact ⟨_, by first | exact hm | (rw [hm]; exact World.drewN_drewN ..)⟩⟩
              case measure => simp [intOf] <;> omega

end Go.Proofs.Ytonpcolkmecddaa.PT
