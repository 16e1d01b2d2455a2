/- The reference's tenders: what the printed functions come to. Plain Lean. -/
import Derived.Test.YtegjbbblpnenfaaVRwRef21b
import Derived.Test.YtegjbbblpnenfaaVRefOrd
import Derived.Test.YtegjbbblpnenfaaVSpecT
set_option linter.unusedVariables false
set_option linter.unusedSimpArgs false
namespace Go.Proofs.Ytegjbbblpnenfaa.RT
open Go Go.RowKit Go.Proofs.YtegjbbblpnenfaaW.PrintWords Go.Proofs.YtegjbbblpnenfaaW.PrintMore Go.Proofs.Ytegjbbblpnenfaa.Rw Go.Proofs.Ytegjbbblpnenfaa.SP Go.Proofs.Ytegjbbblpnenfaa.ST Go.Proofs.Ytegjbbblpnenfaa.QM Go.Proofs.Ytegjbbblpnenfaa.RO

theorem nxt (i : Nat) (h : i < 9223372036854775807) : wrap64 ((i : Int) + 1) = ((i + 1 : Nat) : Int) := by rw [wrap_ok (by omega) (by omega)]; omega
theorem rdT_of (l : List Ten) (i : Nat) (h : i < l.length) : rd_T39 l (i : Int) = l[i] := by simp [rd_T39, h]
theorem rdB_of (l : List Bak) (i : Nat) (h : i < l.length) : rd_T34 l (i : Int) = l[i] := by simp [rd_T34, h]
theorem in_f (a b : Int) : haberdashref21_in.f a b = some (decide (0 ≤ a ∧ a ≤ b)) := by
  unfold haberdashref21_in.f
  by_cases h : a ≥ 0
  · rw [if_pos h]; congr 1; rw [Bool.eq_iff_iff, decide_eq_true_iff, decide_eq_true_iff]; omega
  · rw [if_neg h]; congr 1; symm; rw [decide_eq_false_iff_not]; omega
theorem tens_runs (l : List Ten) (hl : l.length ≤ 9223372036854775807) : ∀ (d i k : Nat), i + d = l.length → d < k → (∀ y ∈ l.take i, tok y = true) → haberdashref21_Tenders.l0 k l i = some (tall l) := by
  intro d
  induction d with
  | zero =>
    intro i k hi hk hn
    obtain ⟨k, rfl⟩ : ∃ m, k = m + 1 := ⟨k - 1, by omega⟩
    rw [haberdashref21_Tenders.l0, if_neg (by omega)]
    rw [List.take_of_length_le (by omega)] at hn
    unfold tall
    rw [List.all_eq_true.2 hn, Bool.and_true]
    congr 1
    rw [Bool.eq_iff_iff, decide_eq_true_iff, decide_eq_true_iff]; omega
  | succ d ih =>
    intro i k hi hk hn
    obtain ⟨k, rfl⟩ : ∃ m, k = m + 1 := ⟨k - 1, by omega⟩
    have hlt : i < l.length := by omega
    rw [haberdashref21_Tenders.l0, if_pos (by omega), if_pos (by omega), rdT_of l i hlt]
    by_cases he : tok l[i] = true
    · have ht := tok_iff.1 he
      rw [if_neg (by omega), if_neg (by omega), in_f]
      simp only [Option.bind_some]
      rw [if_pos (by rw [decide_eq_true_iff]; omega), in_f]
      simp only [Option.bind_some]
      rw [if_pos (by rw [decide_eq_true_iff]; omega), nxt i (by omega)]
      refine ih (i + 1) k (by omega) (by omega) ?_
      rw [List.take_succ_eq_append_getElem hlt]
      intro y hy
      rcases List.mem_append.1 hy with hy | hy
      · exact hn y hy
      · rw [List.mem_singleton.1 hy]; exact he
    · have hf : tall l = false := by
        unfold tall
        rw [show l.all tok = false from by rw [List.all_eq_false]; exact ⟨l[i], List.getElem_mem hlt, he⟩, Bool.and_false]
      have hne : ¬ (1 ≤ l[i].f0 ∧ l[i].f0 ≤ 9 ∧ 0 ≤ l[i].f1 ∧ l[i].f1 ≤ 100000000000000 ∧ 0 ≤ l[i].f2 ∧ l[i].f2 ≤ l[i].f1) := fun h => he (tok_iff.2 h)
      rw [hf]
      by_cases h1 : l[i].f0 < 1
      · rw [if_pos h1]
      · by_cases h2 : l[i].f0 > 9
        · rw [if_neg h1, if_pos h2]
        · rw [if_neg h1, if_neg h2, in_f]
          simp only [Option.bind_some]
          by_cases h3 : 0 ≤ l[i].f1 ∧ l[i].f1 ≤ 100000000000000
          · rw [if_pos (by rw [decide_eq_true_iff]; exact h3), in_f]
            simp only [Option.bind_some]
            rw [if_neg (by rw [decide_eq_true_iff]; omega)]
          · rw [if_neg (by rw [decide_eq_true_iff]; exact h3)]
theorem tens_f (l : List Ten) (hl : l.length ≤ 9223372036854775807) : Ev (fun k => haberdashref21_Tenders.f k l) (tall l) := ⟨l.length + 1, fun k hk => tens_runs l hl l.length 0 k (by omega) (by omega) (by simp)⟩
theorem left_runs (l : List Ten) (h : ∀ x ∈ l, tok x = true) (hl : l.length ≤ 6) : ∀ (d i k : Nat), i + d = l.length → d < k → haberdashref21_Left.l0 k l (tsum (l.take i)) i = some (tsum l) := by
  intro d
  induction d with
  | zero =>
    intro i k hi hk
    obtain ⟨k, rfl⟩ : ∃ m, k = m + 1 := ⟨k - 1, by omega⟩
    rw [haberdashref21_Left.l0, if_neg (by omega), List.take_of_length_le (by omega)]
  | succ d ih =>
    intro i k hi hk
    obtain ⟨k, rfl⟩ : ∃ m, k = m + 1 := ⟨k - 1, by omega⟩
    have hlt : i < l.length := by omega
    have hx := tok_iff.1 (h l[i] (List.getElem_mem hlt))
    have hs := tsum_bound (l.take i) (fun x hx => h x (List.mem_of_mem_take hx))
    have hn : tsum (l.take (i + 1)) = tsum (l.take i) + dif l[i] := by
      unfold tsum
      rw [List.take_succ_eq_append_getElem hlt, List.map_append, List.sum_append]; simp
    have hd : dif l[i] = l[i].f1 - l[i].f2 := rfl
    have hll : ((l.take i).length : Int) * 100000000000000 ≤ 6 * 100000000000000 := Int.mul_le_mul_of_nonneg_right (by rw [List.length_take]; omega) (by omega)
    rw [haberdashref21_Left.l0, if_pos (by omega), if_pos (by omega), rdT_of l i hlt, nxt i (by omega), show wrap64 (tsum (l.take i) + l[i].f1) = tsum (l.take i) + l[i].f1 from wrap_ok (by omega) (by omega), wrap_ok (by omega) (by omega)]
    have e : tsum (l.take i) + l[i].f1 - l[i].f2 = tsum (l.take (i + 1)) := by rw [hn, hd]; omega
    rw [e]
    exact ih (i + 1) k (by omega) (by omega)
theorem left_f (l : List Ten) (hl : l.length ≤ 9223372036854775807) : Ev (fun k => haberdashref21_Left.f k l) (tleft l) := by
  unfold haberdashref21_Left.f
  refine Ev.bind (tens_f l hl) ?_
  by_cases h : tall l = true
  · have h2 := tall_iff.1 h
    simp only [h, if_true]
    refine ⟨l.length + 1, fun k hk => ?_⟩
    have := left_runs l h2.2 h2.1 l.length 0 k (by omega) (by omega)
    unfold tleft
    rw [if_pos h]
    simpa [tsum] using this
  · unfold tleft
    simp only [h, if_false]
    exact Ev.now _
theorem plc_step (o : List Int) (x : Int) (i : Nat) (h : i < o.length) (hn : ∀ y ∈ o.take i, ¬ x = y) (he : x = o[i]) : plc o x = i := by
  have e : o = o.take i ++ o[i] :: o.drop (i + 1) := by simp
  unfold plc
  rw [e, List.findIdx_append]
  have h1 : List.findIdx (fun y => x == y) (o.take i) = (o.take i).length := by
    rw [List.findIdx_eq_length]
    intro y hy
    simpa using hn y hy
  rw [h1, if_neg (by omega), List.findIdx_cons]
  simp [he]; omega
theorem place_runs (o : List Int) (x : Int) (hl : o.length ≤ 9223372036854775807) : ∀ (d i k : Nat), i + d = o.length → d < k → (∀ y ∈ o.take i, ¬ x = y) → haberdashref21_place.l0 k o x i = some (plc o x : Int) := by
  intro d
  induction d with
  | zero =>
    intro i k hi hk hn
    obtain ⟨k, rfl⟩ : ∃ m, k = m + 1 := ⟨k - 1, by omega⟩
    rw [haberdashref21_place.l0, if_neg (by omega)]
    have : ¬ plc o x < o.length := by
      rw [plc_mem]
      intro h
      rw [List.take_of_length_le (by omega)] at hn
      exact hn x h rfl
    have := plc_le o x
    congr 1; omega
  | succ d ih =>
    intro i k hi hk hn
    obtain ⟨k, rfl⟩ : ∃ m, k = m + 1 := ⟨k - 1, by omega⟩
    have hlt : i < o.length := by omega
    rw [haberdashref21_place.l0, if_pos (by omega), if_pos (by omega), rd_of o i hlt]
    by_cases he : x = o[i]
    · rw [if_pos he.symm, plc_step o x i hlt hn he]
    · rw [if_neg (fun h => he h.symm), nxt i (by omega)]
      refine ih (i + 1) k (by omega) (by omega) ?_
      rw [List.take_succ_eq_append_getElem hlt]
      intro y hy
      rcases List.mem_append.1 hy with hy | hy
      · exact hn y hy
      · rw [List.mem_singleton.1 hy]; exact he
theorem place_f (o : List Int) (x : Int) (hl : o.length ≤ 9223372036854775807) (k : Nat) (hk : o.length < k) : haberdashref21_place.f k o x = some (plc o x : Int) := place_runs o x hl o.length 0 k (by omega) (by omega) (by simp)
theorem ahead_f (l : List Ten) (o : List Int) (a b : Nat) (ha : a < l.length) (hb : b < l.length) (hl : l.length ≤ 9223372036854775807) (ho : o.length ≤ 9223372036854775807) (h1 : 1 ≤ l[a].f0) (h2 : 1 ≤ l[b].f0) (k : Nat) (hk : o.length < k) :
    haberdashref21_ahead.f k l o a b = some (decide (tat o l[a] ≤ tat o l[b])) := by
  unfold haberdashref21_ahead.f
  rw [if_pos (by omega), if_pos (by omega), rdT_of l a ha, rdT_of l b hb, place_f o _ ho k hk, place_f o _ ho k hk]
  simp only [Option.bind_some]
  rw [if_pos (by omega), if_pos (by omega)]
  have p1 := plc_le o l[a].f0
  have p2 := plc_le o l[b].f0
  unfold tat
  by_cases q1 : plc o l[a].f0 < o.length
  · by_cases q2 : plc o l[b].f0 < o.length
    · rw [if_pos q1, if_pos q2]
      by_cases e : (plc o l[a].f0 : Int) = (plc o l[b].f0 : Int)
      · have e' : plc o l[a].f0 = plc o l[b].f0 := by omega
        have g1 := plc_get q1
        have g2 := plc_get q2
        have : l[a].f0 = l[b].f0 := by rw [← g1, ← g2]; congr 1
        rw [if_pos e, this]; simp
      · rw [if_neg e]; congr 1; rw [Bool.eq_iff_iff, decide_eq_true_iff, decide_eq_true_iff]; omega
    · rw [if_pos q1, if_neg q2, if_neg (by omega)]; congr 1; rw [Bool.eq_iff_iff, decide_eq_true_iff, decide_eq_true_iff]; omega
  · by_cases q2 : plc o l[b].f0 < o.length
    · rw [if_neg q1, if_pos q2, if_neg (by omega)]; congr 1; rw [Bool.eq_iff_iff, decide_eq_true_iff, decide_eq_true_iff]; omega
    · rw [if_neg q1, if_neg q2, if_pos (by omega)]; congr 1; rw [Bool.eq_iff_iff, decide_eq_true_iff, decide_eq_true_iff]; omega

section
variable (x0 : List Ten) (x1 x2 : List Int) (x3 : Int)
theorem s2_runs (i : Int) (a : Nat) : ∀ (d k : Nat) (l : List Int) (p : Nat), p = a + d → p < l.length → l.length ≤ 1000000000 →
    haberdashref21_Split.l2 (k + d + 1) x0 x1 x2 x3 l i (a : Int) (p : Int) = haberdashref21_Split.l0 k x0 x1 x2 x3 (l.take a ++ i :: (l.drop a).take (p - a) ++ l.drop (p + 1)) (wrap64 (i + 1)) := by
  intro d
  induction d with
  | zero =>
    intro k l p hp hl hb
    obtain rfl : p = a := by omega
    rw [haberdashref21_Split.l2]
    rw [if_neg (by omega), if_pos (by omega), if_pos (by omega)]
    congr 1
    rw [Int.toNat_natCast, Nat.sub_self, List.take_zero, List.set_eq_take_append_cons_drop, if_pos hl]
    simp
  | succ d ih =>
    intro k l p hp hl hb
    rw [haberdashref21_Split.l2]
    have hw : wrap64 ((p : Int) - 1) = ((p - 1 : Nat) : Int) := by rw [wrap_ok (by omega) (by omega)]; omega
    rw [if_pos (by omega), hw, if_pos (by omega), if_pos (by omega), if_pos (by omega), if_pos (by omega), Int.toNat_natCast, rd_of l (p - 1) (by omega)]
    have h := ih k (l.set p (l[p - 1]'(by omega))) (p - 1) (by omega) (by simp; omega) (by simpa using hb)
    have e : k + (d + 1) = k + d + 1 := by omega
    rw [e, h]
    congr 1
    have hs := shift_step l i a p (by omega) hl (fun _ _ _ => trivial)
    have e5 : p - 1 + 1 = p := by omega
    rw [e5]
    exact hs
theorem s3_runs (i : Int) (l : List Int) (a : Nat) (ha : a ≤ l.length) (hb : l.length ≤ 900000000) (k : Nat) :
    haberdashref21_Split.j3 (k + (l.length - a) + 2) x0 x1 x2 x3 l i (a : Int) = haberdashref21_Split.l0 k x0 x1 x2 x3 (putAt l a i) (wrap64 (i + 1)) := by
  rw [haberdashref21_Split.j3, if_pos (by omega)]
  simp only [Option.bind_some]
  have hw : wrap64 (((l ++ [0] : List Int).length : Int) - 1) = (l.length : Int) := by
    rw [wrap_ok (by simp) (by simp; omega)]; simp
  rw [hw]
  have h := s2_runs x0 x1 x2 x3 i a (l.length - a) k (l ++ [0]) l.length (by omega) (by simp) (by simp; omega)
  rw [h]
  congr 1
  unfold putAt
  have e1 : (l ++ [0]).take a = l.take a := by rw [List.take_append_of_le_length ha]
  have e2 : ((l ++ [0]).drop a).take (l.length - a) = l.drop a := by
    rw [List.drop_append_of_le_length ha, List.take_append_of_le_length (by simp)]
    exact List.take_of_length_le (by simp)
  have e3 : (l ++ [0]).drop (l.length + 1) = [] := by simp
  rw [e1, e2, e3]
  simp
end

theorem lined_le {L : List Ent} (h : Lined L) : ∀ i j (hi : i < L.length) (hj : j < L.length), i ≤ j → (L[j]).1 ≤ (L[i]).1 := by
  intro i j hi hj hij
  rcases Nat.lt_or_ge i j with hlt | hge
  · have := (List.pairwise_iff_getElem.1 h) i j hi hj hlt
    rw [lt_false_iff] at this
    omega
  · have : i = j := by omega
    subst this
    exact Int.le_refl _

section
variable (l : List Ten) (o cr : List Int) (A : Int) (hl : l.length ≤ 6) (hk : ∀ x ∈ l, 1 ≤ x.f0) (ho : o.length ≤ 1000000000)
include hl hk ho
theorem s1_runs (i : Nat) (hi : i < l.length) (L : List Ent) (a : Nat) (ha : a ≤ L.length) (hLl : L.length ≤ 6)
    (hL : ∀ y ∈ L, ∃ j, ∃ h : j < l.length, y = (-(tat o l[j]), (j : Int))) (h1 : ∀ j (h : j < L.length), j < a → -(tat o l[i]) ≤ (L[j]).1) (h2 : ∀ j (h : j < L.length), a ≤ j → (L[j]).1 < -(tat o l[i])) :
    ∀ (d k q : Nat), q = a + d → q ≤ L.length → o.length < k → haberdashref21_Split.l1 (k + d + 1) l o cr A (L.map (·.2)) (i : Int) (q : Int) = haberdashref21_Split.j3 k l o cr A (L.map (·.2)) (i : Int) (a : Int) := by
  have hget : ∀ j (h : j < L.length), ∃ m, ∃ hm : m < l.length, rd (L.map (·.2)) (j : Int) = (m : Int) ∧ (L[j]).1 = -(tat o l[m]) := by
    intro j h
    obtain ⟨m, hm, he⟩ := hL L[j] (List.getElem_mem h)
    refine ⟨m, hm, ?_, by rw [he]⟩
    rw [rd_of _ _ (by simpa using h)]
    simp [he]
  intro d
  induction d with
  | zero =>
    intro k q hq hql hkk
    obtain rfl : q = a := by omega
    rw [haberdashref21_Split.l1]
    by_cases hq0 : q = 0
    · subst hq0; rw [if_neg (by simp)]
    · obtain ⟨m, hm, e1, e2⟩ := hget (q - 1) (by omega)
      have hw : wrap64 ((q : Int) - 1) = ((q - 1 : Nat) : Int) := by rw [wrap_ok (by omega) (by omega)]; omega
      have hh := h1 (q - 1) (by omega) (by omega)
      rw [if_pos (by omega), hw, if_pos (by omega), if_pos (by simp; omega), e1, ahead_f l o m i hm hi (by omega) (by omega) (hk _ (List.getElem_mem hm)) (hk _ (List.getElem_mem hi)) _ (by omega)]
      simp only [Option.bind_some]
      rw [if_pos (by rw [decide_eq_true_iff]; omega)]
  | succ d ih =>
    intro k q hq hql hkk
    obtain ⟨m, hm, e1, e2⟩ := hget (q - 1) (by omega)
    have hw : wrap64 ((q : Int) - 1) = ((q - 1 : Nat) : Int) := by rw [wrap_ok (by omega) (by omega)]; omega
    have hh := h2 (q - 1) (by omega) (by omega)
    rw [haberdashref21_Split.l1, if_pos (by omega), hw, if_pos (by omega), if_pos (by simp; omega), e1, ahead_f l o m i hm hi (by omega) (by omega) (hk _ (List.getElem_mem hm)) (hk _ (List.getElem_mem hi)) _ (by omega)]
    simp only [Option.bind_some]
    rw [if_neg (by rw [decide_eq_true_iff]; omega)]
    exact ih k (q - 1) (by omega) (by omega) hkk

theorem s0_runs : ∀ (d i : Nat), i + d = l.length → ∀ r, Ev (fun k => haberdashref21_Split.l3 k l cr A (ord (ranks o l)) [] 0) r →
    Ev (fun k => haberdashref21_Split.l0 k l o cr A ((line (ents ((ranks o l).take i))).map (·.2)) (i : Int)) r := by
  have hrl := ranks_length o l
  have hrk : ∀ j (h : j < l.length), (ranks o l)[j]'(by omega) = -(tat o l[j]) := fun j h => by simp [ranks]
  intro d
  induction d with
  | zero =>
    intro i hi r hr
    refine Ev.step (fun k => ?_) hr
    rw [haberdashref21_Split.l0, if_neg (by omega), List.take_of_length_le (by omega)]
    rfl
  | succ d ih =>
    intro i hi r hr
    have hlt : i < l.length := by omega
    obtain ⟨K, hK⟩ := ih (i + 1) (by omega) r hr
    have hlen : (line (ents ((ranks o l).take i))).length = i := by rw [line_length, ents_length, List.length_take]; omega
    have hmem : ∀ y ∈ line (ents ((ranks o l).take i)), ∃ j, ∃ h : j < i, y = (-(tat o (l[j]'(by omega))), (j : Int)) := by
      intro y hy
      obtain ⟨j, hj, rfl⟩ := mem_ents ((line_perm _).mem_iff.1 hy)
      have hj' : j < i := by rw [List.length_take] at hj; omega
      refine ⟨j, hj', ?_⟩
      rw [← hrk j (by omega)]
      simp
    obtain ⟨a, ha, h1, h2, h3⟩ := ins_at (line (ents ((ranks o l).take i))) (-(tat o l[i]), (i : Int)) (fun y hy => by
      obtain ⟨j, hj, rfl⟩ := hmem y hy
      show (j : Int) < (i : Int)
      omega) (line_lined _)
    have hnext : line (ents ((ranks o l).take (i + 1))) = ins (-(tat o l[i]), (i : Int)) (line (ents ((ranks o l).take i))) := by
      rw [ents_take (ranks o l) i (by omega), hrk i hlt, line_of_perm (List.perm_append_comm (l₁ := ents ((ranks o l).take i)) (l₂ := [(-(tat o l[i]), (i : Int))]))]
      rfl
    refine ⟨K + o.length + (i - a) + 2 + (i - a) + 1 + 1 + 1, fun k hkk => ?_⟩
    obtain ⟨m, rfl⟩ : ∃ m, k = (m + o.length + (i - a) + 2) + (i - a) + 1 + 1 := ⟨k - o.length - (i - a) - 2 - (i - a) - 1 - 1, by omega⟩
    show haberdashref21_Split.l0 _ l o cr A _ _ = _
    rw [haberdashref21_Split.l0, if_pos (by omega)]
    have hr1 := s1_runs l o cr A hl hk ho i hlt (line (ents ((ranks o l).take i))) a ha (by omega) (fun y hy => by
      obtain ⟨j, hj, he⟩ := hmem y hy
      exact ⟨j, by omega, he⟩) h2 (fun j h hj => by
        have hal : a < (line (ents ((ranks o l).take i))).length := by omega
        have := lined_le (line_lined _) a j hal h hj
        have := h3 hal
        have e : ((-(tat o l[i]), (i : Int)) : Ent).1 = -(tat o l[i]) := rfl
        omega) (i - a) (m + o.length + (i - a) + 2) i (by omega) (by omega) (by omega)
    have e0 : (((line (ents ((ranks o l).take i))).map (·.2)).length : Int) = (i : Int) := by rw [List.length_map, hlen]
    rw [e0, hr1]
    have hr2 := s3_runs l o cr A (i : Int) ((line (ents ((ranks o l).take i))).map (·.2)) a (by simpa using ha) (by simp; omega) (m + o.length)
    rw [List.length_map, hlen] at hr2
    rw [hr2, nxt i (by omega)]
    have hput : putAt ((line (ents ((ranks o l).take i))).map (·.2)) a (i : Int) = (line (ents ((ranks o l).take (i + 1)))).map (·.2) := by
      rw [hnext, h1]
      unfold putAt
      simp
    rw [hput]
    exact hK (m + o.length) (by omega)
end

theorem mn_comm (a b : Int) : mn a b = mn b a := by unfold mn; split <;> split <;> omega
theorem gives_at (l : List Ten) (cr : List Int) (i : Nat) (h : i < l.length) (is : List Int) (a : Int) :
    gives l cr ((i : Int) :: is) a = if 0 < mn (dif l[i]) a then ⟨i, mn (dif l[i]) a, decide (plc cr l[i].f0 < cr.length)⟩ :: gives l cr is (a - mn (dif l[i]) a) else gives l cr is a := by
  have e : l.getD (i : Int).toNat z39 = l[i] := by simp [h]
  have e2 : ∀ x y : Int, gives.mn x y = mn x y := fun _ _ => rfl
  simp only [gives, e, e2]
theorem s4_runs (l : List Ten) (cr : List Int) (hl : l.length ≤ 6) (hk : ∀ x ∈ l, tok x = true) (hc : cr.length ≤ 1000000000) (rows : List Int) (hr : ∀ z ∈ rows, 0 ≤ z ∧ z < (l.length : Int)) (hrl : rows.length ≤ 6) :
    ∀ (d i k : Nat) (A : Int) (out : List Bak), i + d = rows.length → cr.length + d < k → out.length ≤ i → 0 ≤ A → A ≤ 100000000000000 →
    haberdashref21_Split.l3 k l cr A rows out i = some (out ++ gives l cr (rows.drop i) A, 0) := by
  intro d
  induction d with
  | zero =>
    intro i k A out hi hkk hol hA hA2
    obtain ⟨k, rfl⟩ : ∃ m, k = m + 1 := ⟨k - 1, by omega⟩
    rw [haberdashref21_Split.l3, if_neg (by omega), List.drop_of_length_le (by omega)]
    simp [gives]
  | succ d ih =>
    intro i k A out hi hkk hol hA hA2
    obtain ⟨k, rfl⟩ : ∃ m, k = m + 1 := ⟨k - 1, by omega⟩
    have hlt : i < rows.length := by omega
    have hz := hr rows[i] (List.getElem_mem hlt)
    obtain ⟨j, hj⟩ : ∃ j : Nat, rows[i] = (j : Int) := ⟨rows[i].toNat, by omega⟩
    have hjl : j < l.length := by omega
    have hx := tok_iff.1 (hk l[j] (List.getElem_mem hjl))
    have hd : dif l[j] = l[j].f1 - l[j].f2 := rfl
    rw [haberdashref21_Split.l3, if_pos (by omega), if_pos (by omega), rd_of rows i hlt, hj, if_pos (by omega), if_pos (by omega), rdT_of l j hjl, show wrap64 (l[j].f1 - l[j].f2) = dif l[j] from by rw [wrap_ok (by omega) (by omega)]; rfl, mn_comm A,
      List.drop_eq_getElem_cons hlt, hj, gives_at l cr j hjl]
    have hm : 0 ≤ mn (dif l[j]) A ∧ mn (dif l[j]) A ≤ A := by unfold mn; split <;> omega
    by_cases hp : 0 < mn (dif l[j]) A
    · rw [if_pos hp, if_pos hp, place_f cr _ (by omega) k (by omega)]
      simp only [Option.bind_some]
      rw [if_pos (by omega), nxt i (by omega), wrap_ok (by omega) (by omega), ih (i + 1) k _ _ (by omega) (by omega) (by simp; omega) (by omega) (by omega)]
      congr 2
      rw [List.append_assoc]
      have e : decide ((plc cr l[j].f0 : Int) < (cr.length : Int)) = decide (plc cr l[j].f0 < cr.length) := by rw [Bool.eq_iff_iff, decide_eq_true_iff, decide_eq_true_iff]; omega
      rw [e]
      rfl
    · rw [if_neg hp, if_neg hp, nxt i (by omega)]
      exact ih (i + 1) k _ _ (by omega) (by omega) (by omega) hA hA2

theorem ord_range (l : List Int) : ∀ z ∈ ord l, 0 ≤ z ∧ z < (l.length : Int) := by
  intro z hz
  unfold ord at hz
  obtain ⟨y, hy, rfl⟩ := List.mem_map.1 hz
  obtain ⟨i, hi, rfl⟩ := mem_ents ((line_perm _).mem_iff.1 hy)
  exact ⟨by show (0 : Int) ≤ (i : Int); omega, by show (i : Int) < _; omega⟩

theorem split_f (l : List Ten) (o cr : List Int) (A : Int) (hl : l.length ≤ 9223372036854775807) (ho : o.length ≤ 1000000000) (hc : cr.length ≤ 1000000000) : Ev (fun k => haberdashref21_Split.f k l o cr A) (split l o cr A) := by
  unfold haberdashref21_Split.f
  refine Ev.bind (tens_f l hl) ?_
  simp only [in_f, Option.bind_some]
  unfold split
  by_cases ht : tall l = true
  · simp only [ht, if_true]
    by_cases hA : rt A = true
    · have hA' := rt_iff.1 hA
      rw [show decide (0 ≤ A ∧ A ≤ 100000000000000) = true from decide_eq_true hA', Bool.not_true]
      refine Ev.step (fun k => by rw [haberdashref21_Split.j0, if_neg (by simp)]) ?_
      refine Ev.bind (left_f l hl) ?_
      by_cases hov : tleft l < A
      · simp only [show A > tleft l from hov, if_true, hA]
        simp only [hov, if_true, Bool.true_eq_false, false_or, if_false]
        exact Ev.now _
      · simp only [show ¬ A > tleft l from hov, if_false, hA]
        simp only [hov, Bool.true_eq_false, false_or, if_false]
        have h2 := tall_iff.1 ht
        have h := s0_runs l o cr A h2.1 (fun x hx => (tok_iff.1 (h2.2 x hx)).1) ho l.length 0 (by omega) (gives l cr (ord (ranks o l)) A, 0) ⟨cr.length + 7, fun k hk => by
          have := s4_runs l cr h2.1 h2.2 hc (ord (ranks o l)) (by have := ord_range (ranks o l); rw [ranks_length] at this; exact this) (by rw [ord_length, ranks_length]; exact h2.1) (ord (ranks o l)).length 0 k A [] (by omega) (by rw [ord_length, ranks_length]; omega) (by simp) hA'.1 hA'.2
          simpa using this⟩
        simpa [line, ents] using h
    · have hA' : ¬ (0 ≤ A ∧ A ≤ 100000000000000) := fun h => hA (rt_iff.2 h)
      have hAf : rt A = false := by simpa using hA
      rw [show decide (0 ≤ A ∧ A ≤ 100000000000000) = false from decide_eq_false hA', Bool.not_false]
      refine Ev.step (f := fun _ => some ([], 2)) (fun k => by rw [haberdashref21_Split.j0, if_pos rfl]) ?_
      rw [if_pos (.inr hAf)]
      exact Ev.now _
  · have ht' : tall l = false := by simpa using ht
    simp only [ht', if_false, Bool.false_eq_true]
    refine Ev.step (f := fun _ => some ([], 2)) (fun k => by rw [haberdashref21_Split.j0, if_pos rfl]) ?_
    simp only [true_or, if_true]
    exact Ev.now _
end Go.Proofs.Ytegjbbblpnenfaa.RT
