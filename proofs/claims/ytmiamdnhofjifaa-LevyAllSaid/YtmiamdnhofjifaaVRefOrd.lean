/-
  The reference's order of ranks is the order of ranks: it puts each place in behind all whose ranks are as great. Plain: over the printed function of the reference.
-/
import Derived.Test.YtmiamdnhofjifaaVRwRef01
import Derived.Test.YtmiamdnhofjifaaVRwA
import Derived.Test.YtmiamdnhofjifaaVQSpec
-- 68
set_option linter.unusedVariables false
set_option linter.unusedSimpArgs false
namespace Go.Proofs.Ytmiamdnhofjifaa.RO
open Go Go.RowKit Go.Proofs.YtmiamdnhofjifaaW.PrintWords Go.Proofs.Ytmiamdnhofjifaa.QM Go.Proofs.Ytmiamdnhofjifaa.Rw

theorem wrap_ok {x : Int} (h0 : -9223372036854775808 ≤ x) (h1 : x ≤ 9223372036854775807) : wrap64 x = x := by
  unfold wrap64; omega

/-- One is put in at a place. -/
def putAt (l : List Int) (a : Nat) (x : Int) : List Int := l.take a ++ x :: l.drop a

theorem rd_of (l : List Int) (i : Nat) (h : i < l.length) : rd l (i : Int) = l[i] := by simp [rd, h]

theorem shift_step (l : List Int) (x : Int) (a p : Nat) (ha : a < p) (hp : p < l.length) (h : ∀ j (hj : j < l.length), p < j → True) :
    ((l.set p (l[p - 1]'(by omega))).take a ++ x :: ((l.set p (l[p - 1]'(by omega))).drop a).take (p - 1 - a) ++ (l.set p (l[p - 1]'(by omega))).drop p)
      = l.take a ++ x :: (l.drop a).take (p - a) ++ l.drop (p + 1) := by
  have e1 : (l.set p (l[p - 1]'(by omega))).take a = l.take a := by
    rw [List.take_set]; exact List.set_eq_of_length_le (by simp; omega)
  have e2 : ((l.set p (l[p - 1]'(by omega))).drop a).take (p - 1 - a) = (l.drop a).take (p - 1 - a) := by
    rw [List.drop_set, if_neg (by omega), List.take_set]; exact List.set_eq_of_length_le (by simp; omega)
  have e3 : (l.set p (l[p - 1]'(by omega))).drop p = l[p - 1]'(by omega) :: l.drop (p + 1) := by
    rw [List.drop_eq_getElem_cons (by simp; exact hp)]
    simp only [List.getElem_set_self]
    rw [List.drop_set, if_pos (by omega)]
  have e4 : (l.drop a).take (p - a) = (l.drop a).take (p - 1 - a) ++ [l[p - 1]'(by omega)] := by
    have hh : p - a = (p - 1 - a) + 1 := by omega
    rw [hh, List.take_succ_eq_append_getElem (by simp; omega)]
    congr 1
    simp only [List.getElem_drop]
    congr 2
    omega
  rw [e1, e2, e3, e4]
  simp

-- 68
theorem l2_runs (l0 : List Int) (i : Int) (a : Nat) : ∀ (d k : Nat) (l : List Int) (p : Nat), p = a + d → p < l.length → l.length ≤ 1000000000 →
    haberdashref01_Order.l2 (k + d + 1) l0 l i (a : Int) (p : Int) = haberdashref01_Order.l0 k l0 (l.take a ++ i :: (l.drop a).take (p - a) ++ l.drop (p + 1)) (wrap64 (i + 1)) := by
  intro d
  induction d with
  | zero =>
    intro k l p hp hl hb
    obtain rfl : p = a := by omega
    rw [haberdashref01_Order.l2]
    rw [if_neg (by omega), if_pos (by omega), if_pos (by omega)]
    congr 1
    rw [Int.toNat_natCast, Nat.sub_self, List.take_zero, List.set_eq_take_append_cons_drop, if_pos hl]
    simp
  | succ d ih =>
    intro k l p hp hl hb
    rw [haberdashref01_Order.l2]
    have hw : wrap64 ((p : Int) - 1) = ((p - 1 : Nat) : Int) := by rw [wrap_ok (by omega) (by omega)]; omega
    rw [if_pos (by omega), hw, if_pos (by omega), if_pos (by omega), if_pos (by omega), if_pos (by omega), Int.toNat_natCast, rd_of l (p - 1) (by omega)]
    have h := ih k (l.set p (l[p - 1]'(by omega))) (p - 1) (by omega) (by simp; omega) (by simpa using hb)
    have e : k + (d + 1) = k + d + 1 := by omega
    rw [e, h]
    congr 1
    have hs := shift_step l i a p (by omega) hl (fun _ _ _ => trivial)
    have e5 : p - 1 + 1 = p := by omega
    rw [e5]
    exact hs

theorem j2_runs (l0 : List Int) (i : Int) (l : List Int) (a : Nat) (ha : a ≤ l.length) (hb : l.length ≤ 900000000) (k : Nat) :
    haberdashref01_Order.j2 (k + (l.length - a) + 2) l0 l i (a : Int) = haberdashref01_Order.l0 k l0 (putAt l a i) (wrap64 (i + 1)) := by
  rw [haberdashref01_Order.j2, if_pos (by omega)]
  simp only [Option.bind_some]
  have hw : wrap64 (((l ++ [0] : List Int).length : Int) - 1) = (l.length : Int) := by
    rw [wrap_ok (by simp) (by simp; omega)]; simp
  rw [hw]
  have h := l2_runs l0 i a (l.length - a) k (l ++ [0]) l.length (by omega) (by simp) (by simp; omega)
  rw [h]
  congr 1
  unfold putAt
  have e1 : (l ++ [0]).take a = l.take a := by rw [List.take_append_of_le_length ha]
  have e2 : ((l ++ [0]).drop a).take (l.length - a) = l.drop a := by
    rw [List.drop_append_of_le_length ha, List.take_append_of_le_length (by simp)]
    exact List.take_of_length_le (by simp)
  have e3 : (l ++ [0]).drop (l.length + 1) = [] := by simp
  rw [e1, e2, e3]
  simp
/-- Where a pair whose number is above all others' belongs: behind all whose ranks are as great. -/
theorem ins_at : ∀ (L : List Ent) (x : Ent), (∀ y ∈ L, y.2 < x.2) → Lined L →
    ∃ a, a ≤ L.length ∧ ins x L = L.take a ++ x :: L.drop a ∧ (∀ j (h : j < L.length), j < a → x.1 ≤ (L[j]).1) ∧ (∀ (h : a < L.length), (L[a]).1 < x.1) := by
  intro L
  induction L with
  | nil => intro x _ _; exact ⟨0, Nat.le_refl _, rfl, fun j h => by simp at h, fun h => by simp at h⟩
  | cons y L ih =>
    intro x hx hl
    have hy := hx y List.mem_cons_self
    unfold ins
    split
    · rename_i hlt
      obtain ⟨a, ha, h1, h2, h3⟩ := ih x (fun z hz => hx z (List.mem_cons_of_mem _ hz)) (List.pairwise_cons.1 hl).2
      refine ⟨a + 1, by simpa using ha, by rw [h1]; rfl, fun j h hj => ?_, fun h => ?_⟩
      · cases j with
        | zero =>
          rw [lt_iff] at hlt
          show x.1 ≤ y.1
          omega
        | succ j => exact h2 j (by simpa using h) (by omega)
      · exact h3 (by simpa using h)
    · rename_i hlt
      refine ⟨0, Nat.zero_le _, rfl, fun j h hj => by omega, fun h => ?_⟩
      have hlt' : lt y x = false := Bool.eq_false_iff.mpr hlt
      rw [lt_false_iff] at hlt'
      show y.1 < x.1
      omega

-- 68
theorem l1_runs (l0 : List Int) (i : Nat) (hi : i < l0.length) (L : List Ent) (a : Nat) (ha : a ≤ L.length) (hb : l0.length ≤ 900000000)
    (hL : ∀ y ∈ L, ∃ j, ∃ h : j < l0.length, y = (l0[j], (j : Int))) (h1 : ∀ j (h : j < L.length), j < a → l0[i] ≤ (L[j]).1) (h2 : ∀ (h : a < L.length), (L[a]).1 < l0[i]) (hLb : L.length ≤ 900000000) :
    ∀ (d k q : Nat), q + d = a → haberdashref01_Order.l1 (k + d + 1) l0 (L.map (·.2)) (i : Int) (q : Int) = haberdashref01_Order.j2 k l0 (L.map (·.2)) (i : Int) (a : Int) := by
  have hget : ∀ j (h : j < L.length), 0 ≤ rd (L.map (·.2)) (j : Int) ∧ rd (L.map (·.2)) (j : Int) < (l0.length : Int) ∧ rd l0 (rd (L.map (·.2)) (j : Int)) = (L[j]).1 := by
    intro j h
    obtain ⟨m, hm, he⟩ := hL L[j] (List.getElem_mem h)
    rw [rd_of _ _ (by simpa using h)]
    have e : (L.map (·.2))[j]'(by simpa using h) = (m : Int) := by simp [he]
    rw [e]
    refine ⟨by omega, by omega, ?_⟩
    rw [rd_of _ _ hm, he]
  intro d
  induction d with
  | zero =>
    intro k q hq
    obtain rfl : q = a := by omega
    rw [haberdashref01_Order.l1]
    by_cases hlt : q < L.length
    · have hg := hget q hlt
      rw [if_pos (by simp; omega), if_pos (by omega), if_pos hg.1, if_pos hg.2.1, if_pos (by omega), if_pos (by omega), rd_of l0 i hi, hg.2.2, if_neg (by have := h2 hlt; omega)]
    · rw [if_neg (by simp; omega)]
  | succ d ih =>
    intro k q hq
    have hlt : q < L.length := by omega
    have hg := hget q hlt
    have hw : wrap64 ((q : Int) + 1) = ((q + 1 : Nat) : Int) := by
      rw [wrap_ok (by omega) ?_]; omega
      omega
    rw [haberdashref01_Order.l1]
    rw [if_pos (by simp; omega), if_pos (by omega), if_pos hg.1, if_pos hg.2.1, if_pos (by omega), if_pos (by omega), rd_of l0 i hi, hg.2.2, if_pos (by have := h1 q hlt (by omega); omega), hw]
    exact ih k (q + 1) (by omega)

theorem l0_runs (l0 : List Int) (hb : l0.length ≤ 800000000) : ∀ (d i : Nat), i + d = l0.length → ∃ K, ∀ k, K ≤ k → haberdashref01_Order.l0 k l0 ((line (ents (l0.take i))).map (·.2)) (i : Int) = some (ord l0) := by
  intro d
  induction d with
  | zero =>
    intro i hi
    obtain rfl : i = l0.length := by omega
    refine ⟨1, fun k hk => ?_⟩
    obtain ⟨k, rfl⟩ : ∃ m, k = m + 1 := ⟨k - 1, by omega⟩
    rw [haberdashref01_Order.l0, if_neg (by omega), List.take_length]
    rfl
  | succ d ih =>
    intro i hi
    have hlt : i < l0.length := by omega
    obtain ⟨K, hK⟩ := ih (i + 1) (by omega)
    have hlen : (line (ents (l0.take i))).length = i := by rw [line_length, ents_length]; simp; omega
    have hmem : ∀ y ∈ line (ents (l0.take i)), ∃ j, ∃ h : j < i, y = (l0[j]'(by omega), (j : Int)) := by
      intro y hy
      obtain ⟨j, hj, rfl⟩ := mem_ents ((line_perm _).mem_iff.1 hy)
      have hj' : j < i := by simp at hj; omega
      exact ⟨j, hj', by simp⟩
    obtain ⟨a, ha, h1, h2, h3⟩ := ins_at (line (ents (l0.take i))) (l0[i], (i : Int)) (fun y hy => by
      obtain ⟨j, hj, rfl⟩ := hmem y hy
      show (j : Int) < (i : Int)
      omega) (line_lined _)
    have hL : ∀ y ∈ line (ents (l0.take i)), ∃ j, ∃ h : j < l0.length, y = (l0[j], (j : Int)) := by
      intro y hy
      obtain ⟨j, hj, rfl⟩ := hmem y hy
      exact ⟨j, by omega, rfl⟩
    have hnext : line (ents (l0.take (i + 1))) = ins (l0[i], (i : Int)) (line (ents (l0.take i))) := by
      rw [ents_take l0 i hlt, line_of_perm (List.perm_append_comm (l₁ := ents (l0.take i)) (l₂ := [(l0[i], (i : Int))]))]
      rfl
    refine ⟨K + (i - a) + 2 + a + 1 + 1, fun k hk => ?_⟩
    obtain ⟨m, rfl⟩ : ∃ m, k = (m + (i - a) + 2) + a + 1 + 1 := ⟨k - (i - a) - 2 - a - 1 - 1, by omega⟩
    rw [haberdashref01_Order.l0, if_pos (by omega)]
    have hr1 := l1_runs l0 i hlt (line (ents (l0.take i))) a ha (by omega) hL h2 h3 (by omega) a (m + (i - a) + 2) 0 (by omega)
    rw [show ((0 : Nat) : Int) = 0 from rfl] at hr1
    rw [hr1]
    have hr2 := j2_runs l0 (i : Int) ((line (ents (l0.take i))).map (·.2)) a (by simpa using ha) (by simp; omega) m
    rw [List.length_map, hlen] at hr2
    rw [hr2]
    have hw : wrap64 ((i : Int) + 1) = ((i + 1 : Nat) : Int) := by
      rw [wrap_ok (by omega) (by omega)]; omega
    rw [hw]
    have hput : putAt ((line (ents (l0.take i))).map (·.2)) a (i : Int) = (line (ents (l0.take (i + 1)))).map (·.2) := by
      rw [hnext, h1]
      unfold putAt
      simp
    rw [hput]
    exact hK m (by omega)

end Go.Proofs.Ytmiamdnhofjifaa.RO
