/- The reference's sums, products, parts and rates. -/
import Derived.Test.YtonpcolkmecddaaProg
import Derived.Below
import Derived.Deep.Draws
import Derived.Deep.AppendLies
import Derived.Maps.AppendAt
import Derived.OwnWalk
import Derived.Laws.BytesArg
import Derived.Laws.MakeOwn
import Derived.Laws.OwnMore
import Derived.Deep.OwnRows
import Derived.Tactics
import Derived.Lib.ConvBytes
import Derived.Laws.Slices
import Derived.WalkKit
import Derived.KernelRfl
import Derived.RowKit3
import Derived.Deep.LoopGhost
import Derived.Deep.QuietTactic
import Derived.BigQuiet
import Derived.WideLaws
import Derived.Deep.DeepCutAuto
import Derived.Deep.CutBlock
import Derived.Deep.RegionHeld3
import Derived.Laws.Rows
import Derived.Lib.AppendStr
import Derived.ArgAppend
import Derived.Laws.IdiomCopy
import Derived.OrdersHeld
import Derived.Laws.BitsLemmas
import Derived.RowKit
import Derived.BigRegion
import Derived.Outline
import Derived.RegionTactic
import Derived.StillTailTactics
import Derived.Deep.RegionLaw
import Derived.Test.YtonpcolkmecddaaVMoneyBad
set_option linter.unusedVariables false
set_option linter.unusedSimpArgs false
namespace Go.Proofs.Ytonpcolkmecddaa.MN
open Go Go.RowKit Go.Proofs.Ytonpcolkmecddaa.QR Go.Proofs.Ytonpcolkmecddaa.DV Go.Proofs.Ytonpcolkmecddaa.PT

set_option maxRecDepth 100000 in
set_option maxHeartbeats 4000000 in
theorem rbad_Add (a b : Int) (w : World) (h : right a = false ∨ right b = false) :
    Calls Try.prog 36 #[.int .i64 a, .int .i64 b] w fun e w' => e = .returned (.tuple #[.int .i64 0, .int .i64 2]) ∧ ∃ k, w' = w.drewN k := by
  by_cases ha : right a = false
  · clear h
    go_enter Try.func36, Try.ntmps36
    go_wp2_with fail
    refine (rright_isnt a _ ha).mono ?_; rintro _ _ ⟨rfl, _, rfl⟩
    go_wp2
    go_ret2
    exact ⟨rfl, _, rfl⟩
  · have hb : right b = false := by rcases h with h | h; exact absurd h ha; exact h
    replace ha : right a = true := rt ha
    clear h
    go_enter Try.func36, Try.ntmps36
    go_wp2_with fail
    refine (rright_is a _ ha).mono ?_; rintro _ _ ⟨rfl, _, rfl⟩
    go_wp2_with fail
    refine (rright_isnt b _ hb).mono ?_; rintro _ _ ⟨rfl, _, rfl⟩
    go_wp2
    go_ret2
    exact ⟨rfl, _, rfl⟩

set_option maxRecDepth 100000 in
set_option maxHeartbeats 4000000 in
theorem rbad_Sub (a b : Int) (w : World) (h : right a = false ∨ right b = false) :
    Calls Try.prog 37 #[.int .i64 a, .int .i64 b] w fun e w' => e = .returned (.tuple #[.int .i64 0, .int .i64 2]) ∧ ∃ k, w' = w.drewN k := by
  by_cases ha : right a = false
  · clear h
    go_enter Try.func37, Try.ntmps37
    go_wp2_with fail
    refine (rright_isnt a _ ha).mono ?_; rintro _ _ ⟨rfl, _, rfl⟩
    go_wp2
    go_ret2
    exact ⟨rfl, _, rfl⟩
  · have hb : right b = false := by rcases h with h | h; exact absurd h ha; exact h
    replace ha : right a = true := rt ha
    clear h
    go_enter Try.func37, Try.ntmps37
    go_wp2_with fail
    refine (rright_is a _ ha).mono ?_; rintro _ _ ⟨rfl, _, rfl⟩
    go_wp2_with fail
    refine (rright_isnt b _ hb).mono ?_; rintro _ _ ⟨rfl, _, rfl⟩
    go_wp2
    go_ret2
    exact ⟨rfl, _, rfl⟩

set_option maxRecDepth 100000 in
set_option maxHeartbeats 4000000 in
theorem rbad_Mul (a b : Int) (w : World) (h : right a = false ∨ right b = false) :
    Calls Try.prog 38 #[.int .i64 a, .int .i64 b] w fun e w' => e = .returned (.tuple #[.int .i64 0, .int .i64 2]) ∧ ∃ k, w' = w.drewN k := by
  by_cases ha : right a = false
  · clear h
    go_enter Try.func38, Try.ntmps38
    go_wp2_with fail
    refine (rright_isnt a _ ha).mono ?_; rintro _ _ ⟨rfl, _, rfl⟩
    go_wp2
    go_ret2
    exact ⟨rfl, _, rfl⟩
  · have hb : right b = false := by rcases h with h | h; exact absurd h ha; exact h
    replace ha : right a = true := rt ha
    clear h
    go_enter Try.func38, Try.ntmps38
    go_wp2_with fail
    refine (rright_is a _ ha).mono ?_; rintro _ _ ⟨rfl, _, rfl⟩
    go_wp2_with fail
    refine (rright_isnt b _ hb).mono ?_; rintro _ _ ⟨rfl, _, rfl⟩
    go_wp2
    go_ret2
    exact ⟨rfl, _, rfl⟩

set_option maxRecDepth 100000 in
set_option maxHeartbeats 4000000 in
theorem rgood_Add (a b : Int) (w : World) (ha : right a = true) (hb : right b = true) :
    Calls Try.prog 36 #[.int .i64 a, .int .i64 b] w fun e w' => e = .returned (.tuple #[.int .i64 (add a b).1, .int .i64 (add a b).2]) ∧ ∃ k, w' = w.drewN k := by
  obtain ⟨ha0, ha1⟩ := right_iff.1 ha
  obtain ⟨hb0, hb1⟩ := right_iff.1 hb
  have c2 : IntKind.i64.wrap (a + b) = a + b := wrap_in64 _ (by omega) (by omega)
  unfold add
  rw [if_neg (by rw [ha, hb]; simp)]
  by_cases h : 100000000000000 < a + b
  · have hs : right (a + b) = false := by
      cases e : right (a + b) with
      | false => rfl
      | true => have := right_iff.1 e; omega
    rw [if_pos h]
    clear h ha0 ha1 hb0 hb1
    go_enter Try.func36, Try.ntmps36
    go_wp2_with fail
    refine (rright_is a _ ha).mono ?_; rintro _ _ ⟨rfl, _, rfl⟩
    go_wp2_with fail
    refine (rright_is b _ hb).mono ?_; rintro _ _ ⟨rfl, _, rfl⟩
    go_wp2_with fail
    refine (rright_isnt _ _ hs).mono ?_; rintro _ _ ⟨rfl, _, rfl⟩
    go_wp2
    go_ret2
    exact ⟨rfl, _, rfl⟩
  · have hs : right (a + b) = true := right_of (by omega) (by omega)
    rw [if_neg h]
    clear h ha0 ha1 hb0 hb1
    go_enter Try.func36, Try.ntmps36
    go_wp2_with fail
    refine (rright_is a _ ha).mono ?_; rintro _ _ ⟨rfl, _, rfl⟩
    go_wp2_with fail
    refine (rright_is b _ hb).mono ?_; rintro _ _ ⟨rfl, _, rfl⟩
    go_wp2_with fail
    refine (rright_is _ _ hs).mono ?_; rintro _ _ ⟨rfl, _, rfl⟩
    go_wp2
    go_ret2
    exact ⟨rfl, _, rfl⟩

set_option maxRecDepth 100000 in
set_option maxHeartbeats 4000000 in
theorem rgood_Sub (a b : Int) (w : World) (ha : right a = true) (hb : right b = true) :
    Calls Try.prog 37 #[.int .i64 a, .int .i64 b] w fun e w' => e = .returned (.tuple #[.int .i64 (sub a b).1, .int .i64 (sub a b).2]) ∧ ∃ k, w' = w.drewN k := by
  obtain ⟨ha0, ha1⟩ := right_iff.1 ha
  obtain ⟨hb0, hb1⟩ := right_iff.1 hb
  have c2 : IntKind.i64.wrap (a - b) = a - b := wrap_in64 _ (by omega) (by omega)
  unfold sub
  rw [if_neg (by rw [ha, hb]; simp)]
  by_cases h : a < b
  · have t : decide (a < b) = true := decide_eq_true (by omega)
    rw [if_pos h]
    clear h ha0 ha1 hb0 hb1
    go_enter Try.func37, Try.ntmps37
    go_wp2_with fail
    refine (rright_is a _ ha).mono ?_; rintro _ _ ⟨rfl, _, rfl⟩
    go_wp2_with fail
    refine (rright_is b _ hb).mono ?_; rintro _ _ ⟨rfl, _, rfl⟩
    go_wp2
    go_ret2
    exact ⟨rfl, _, rfl⟩
  · have t : decide (a < b) = false := decide_eq_false (by omega)
    rw [if_neg h]
    clear h ha0 ha1 hb0 hb1
    go_enter Try.func37, Try.ntmps37
    go_wp2_with fail
    refine (rright_is a _ ha).mono ?_; rintro _ _ ⟨rfl, _, rfl⟩
    go_wp2_with fail
    refine (rright_is b _ hb).mono ?_; rintro _ _ ⟨rfl, _, rfl⟩
    go_wp2
    go_ret2
    exact ⟨rfl, _, rfl⟩

theorem parts_is (x n d o1 o2 : Int) (o3 : Bool) (w : World) (hx : right x = true) (hn : right n = true) (hd : 1 ≤ d ∧ d ≤ 2305843009213693952) (ho : (if 100000000000000 < x * n / d then ((0, 0, false) : Int × Int × Bool) else (x * n / d, x * n % d, true)) = (o1, o2, o3)) :
    Calls Try.prog 53 #[.int .i64 x, .int .i64 n, .int .i64 d] w fun e w' => e = .returned (.tuple #[.int .i64 o1, .int .i64 o2, .bool o3]) ∧ ∃ k, w' = w.drewN k := by
  have h1 := right_iff.1 hn
  obtain ⟨m, rfl⟩ : ∃ m : Nat, n = (m : Int) := ⟨n.toNat, by omega⟩
  exact parts_calls' x m d o1 o2 o3 w (right_iff.1 hx) (by omega) hd ho

set_option maxRecDepth 100000 in
set_option maxHeartbeats 4000000 in
theorem rgood_Mul (a b : Int) (w : World) (ha : right a = true) (hb : right b = true) :
    Calls Try.prog 38 #[.int .i64 a, .int .i64 b] w fun e w' => e = .returned (.tuple #[.int .i64 (mul a b).1, .int .i64 (mul a b).2]) ∧ ∃ k, w' = w.drewN k := by
  unfold mul
  rw [if_neg (by rw [ha, hb]; simp)]
  by_cases h : 100000000000000 < a * b
  · have hp := fun W => parts_is a b 1 0 0 false W ha hb (by decide) (by rw [Int.ediv_one, if_pos h])
    rw [if_pos h]
    clear h
    go_enter Try.func38, Try.ntmps38
    go_wp2_with fail
    refine (rright_is a _ ha).mono ?_; rintro _ _ ⟨rfl, _, rfl⟩
    go_wp2_with fail
    refine (rright_is b _ hb).mono ?_; rintro _ _ ⟨rfl, _, rfl⟩
    go_wp2_with fail
    refine (hp _).mono ?_; rintro _ _ ⟨rfl, _, rfl⟩
    go_wp2
    go_ret2
    exact ⟨rfl, _, rfl⟩
  · have hp := fun W => parts_is a b 1 (a * b) (a * b % 1) true W ha hb (by decide) (by rw [Int.ediv_one, if_neg h])
    rw [if_neg h]
    obtain ⟨V, hV⟩ : ∃ V, a * b = V := ⟨_, rfl⟩
    obtain ⟨V2, hV2⟩ : ∃ V2, a * b % 1 = V2 := ⟨_, rfl⟩
    rw [hV2] at hp
    rw [hV] at hp ⊢
    clear h hV hV2
    go_enter Try.func38, Try.ntmps38
    go_wp2_with fail
    refine (rright_is a _ ha).mono ?_; rintro _ _ ⟨rfl, _, rfl⟩
    go_wp2_with fail
    refine (rright_is b _ hb).mono ?_; rintro _ _ ⟨rfl, _, rfl⟩
    go_wp2_with fail
    refine (hp _).mono ?_; rintro _ _ ⟨rfl, _, rfl⟩
    go_wp2
    go_ret2
    exact ⟨rfl, _, rfl⟩

theorem rcalls_Add (a b u v : Int) (w : World) (h : add a b = (u, v)) :
    Calls Try.prog 36 #[.int .i64 a, .int .i64 b] w fun e w' => e = .returned (.tuple #[.int .i64 u, .int .i64 v]) ∧ ∃ k, w' = w.drewN k := by
  by_cases hr : right a = false ∨ right b = false
  · have h2 := h
    unfold add at h2
    rw [if_pos hr] at h2
    cases h2
    exact rbad_Add a b w hr
  · have h3 := rgood_Add a b w (rt fun h => hr (Or.inl h)) (rt fun h => hr (Or.inr h))
    rw [h] at h3
    exact h3

theorem rcalls_Sub (a b u v : Int) (w : World) (h : sub a b = (u, v)) :
    Calls Try.prog 37 #[.int .i64 a, .int .i64 b] w fun e w' => e = .returned (.tuple #[.int .i64 u, .int .i64 v]) ∧ ∃ k, w' = w.drewN k := by
  by_cases hr : right a = false ∨ right b = false
  · have h2 := h
    unfold sub at h2
    rw [if_pos hr] at h2
    cases h2
    exact rbad_Sub a b w hr
  · have h3 := rgood_Sub a b w (rt fun h => hr (Or.inl h)) (rt fun h => hr (Or.inr h))
    rw [h] at h3
    exact h3

theorem rcalls_Mul (a b u v : Int) (w : World) (h : mul a b = (u, v)) :
    Calls Try.prog 38 #[.int .i64 a, .int .i64 b] w fun e w' => e = .returned (.tuple #[.int .i64 u, .int .i64 v]) ∧ ∃ k, w' = w.drewN k := by
  by_cases hr : right a = false ∨ right b = false
  · have h2 := h
    unfold mul at h2
    rw [if_pos hr] at h2
    cases h2
    exact rbad_Mul a b w hr
  · have h3 := rgood_Mul a b w (rt fun h => hr (Or.inl h)) (rt fun h => hr (Or.inr h))
    rw [h] at h3
    exact h3

end Go.Proofs.Ytonpcolkmecddaa.MN
