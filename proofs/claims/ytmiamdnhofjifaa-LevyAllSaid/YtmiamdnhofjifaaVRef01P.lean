/- The reference's layers 1 to 3: what the printed functions come to. Plain Lean. -/
import Derived.Test.YtmiamdnhofjifaaVRefOrd
import Derived.Test.YtmiamdnhofjifaaVQSpec
import Derived.Test.YtmiamdnhofjifaaVParts
set_option linter.unusedVariables false
set_option linter.unusedSimpArgs false
namespace Go.Proofs.Ytmiamdnhofjifaa.RP
open Go Go.RowKit Go.Proofs.YtmiamdnhofjifaaW.PrintWords Go.Proofs.YtmiamdnhofjifaaW.PrintMore Go.Proofs.Ytmiamdnhofjifaa.Rw Go.Proofs.Ytmiamdnhofjifaa.SP Go.Proofs.Ytmiamdnhofjifaa.QM Go.Proofs.Ytmiamdnhofjifaa.PT Go.Proofs.Ytmiamdnhofjifaa.RO

theorem right_f (n : Int) : haberdashref01_Right.f n = some (rt n) := by
  unfold haberdashref01_Right.f rt
  by_cases h : n ≥ 0
  · rw [if_pos h]; simp; omega
  · rw [if_neg h]; simp; omega
def partsOf (x : Int) (n : Nat) (d : Int) : Int × Int × Bool := if 100000000000000 < x * (n : Int) / d then (0, 0, false) else (x * (n : Int) / d, x * (n : Int) % d, true)

theorem part_high {x : Int} {n : Nat} {d : Int} {k : Nat} {q r : Int} (hD : 1 ≤ d) (hX : 0 ≤ x) (h : Part x n d k q r) (hM : 100000000000000 < q) : partsOf x n d = (0, 0, false) := by
  have hle : x * (PT.up n k : Int) ≤ x * (n : Int) := Int.mul_le_mul_of_nonneg_left (by have := up_le n k; omega) hX
  have h2 : q ≤ x * (n : Int) / d := by rw [h.1]; exact Int.ediv_le_ediv (by omega) hle
  unfold partsOf
  rw [if_pos (by omega)]
theorem up_div (n k : Nat) (hk : k ≤ 62) : shr .i64 (n : Int) (k : Int) = ((PT.up n k : Nat) : Int) := by
  unfold shr PT.up
  have : min (k : Int).toNat IntKind.i64.bits = k := by rw [Int.toNat_natCast]; show min k 64 = k; omega
  rw [this, Int.natCast_ediv, Int.natCast_pow]
  rfl

theorem parts_runs (x : Int) (n : Nat) (d : Int) (hx : 0 ≤ x ∧ x ≤ 100000000000000) (hn : n < 9223372036854775808) (hd : 1 ≤ d ∧ d ≤ 2305843009213693952) : ∀ (k fuel : Nat) (q r : Int), k ≤ 63 → 2 * k + 1 < fuel →
    Part x n d k q r → 0 ≤ q → q ≤ 100000000000000 → 0 ≤ r → r < d → haberdashref01_parts.l0 fuel x n d q r ((k : Int) - 1) = some (partsOf x n d) := by
  have hxd : 0 ≤ x / d ∧ x / d ≤ 100000000000000 ∧ 0 ≤ x % d ∧ x % d < d := by
    have h1 := Int.ediv_nonneg hx.1 (show 0 ≤ d by omega)
    have h2 : x / d ≤ x := Int.ediv_le_self _ hx.1
    exact ⟨h1, by omega, Int.emod_nonneg _ (by omega), Int.emod_lt_of_pos _ (by omega)⟩
  have e1 : Int.tdiv x d = x / d := Int.tdiv_eq_ediv_of_nonneg hx.1
  have e2 : Int.tmod x d = x % d := Int.tmod_eq_emod_of_nonneg hx.1
  intro k
  induction k with
  | zero =>
    intro fuel q r hk hf hP h1 h2 h3 h4
    obtain ⟨fuel, rfl⟩ : ∃ m, fuel = m + 1 := ⟨fuel - 1, by omega⟩
    rw [haberdashref01_parts.l0, if_neg (by omega)]
    unfold Part at hP
    rw [up_zero] at hP
    unfold partsOf
    rw [← hP.1, ← hP.2, if_neg (by omega)]
  | succ k ih =>
    intro fuel q r hk hf hP h1 h2 h3 h4
    obtain ⟨fuel, rfl⟩ : ∃ m, fuel = m + 2 := ⟨fuel - 2, by omega⟩
    have hkk : (((k + 1 : Nat) : Int) - 1) = (k : Int) := by omega
    rw [hkk, haberdashref01_parts.l0, if_pos (by omega), show wrap64 (2 * r) = 2 * r from wrap_ok (by omega) (by omega), show wrap64 (2 * q) = 2 * q from wrap_ok (by omega) (by omega),
      show wrap64 (2 * q + 1) = 2 * q + 1 from wrap_ok (by omega) (by omega), show wrap64 (2 * r - d) = 2 * r - d from wrap_ok (by omega) (by omega)]
    have hh := half_step (by omega) hP
    have key : ∀ q' r', Half x n d k q' r' → 0 ≤ q' → q' ≤ 200000000000001 → 0 ≤ r' → r' < d → haberdashref01_parts.j1 (fuel + 1) x n d q' r' (k : Int) = some (partsOf x n d) := by
      intro q' r' hH g1 g2 g3 g4
      have hu : IntKind.u64.wrap (k : Int) = (k : Int) := by rw [IntKind.wrap_u64]; omega
      rw [haberdashref01_parts.j1, hu, if_pos (by omega), up_div n k (by omega), and_one (PT.up n k) (Nat.lt_of_le_of_lt (up_le n k) hn)]
      have hw1 : wrap64 ((k : Int) - 1) = (k : Int) - 1 := wrap_ok (by omega) (by omega)
      by_cases hb : PT.up n k % 2 = 1
      · have ho := half_one (by omega) hH hb
        rw [if_pos (by omega), if_neg (by omega), e1, e2, show wrap64 (r' + x % d) = r' + x % d from wrap_ok (by omega) (by omega), show wrap64 (x / d) = x / d from wrap_ok (by omega) (by omega),
          show wrap64 (q' + x / d) = q' + x / d from wrap_ok (by omega) (by omega), show wrap64 (q' + x / d + 1) = q' + x / d + 1 from wrap_ok (by omega) (by omega), show wrap64 (r' + x % d - d) = r' + x % d - d from wrap_ok (by omega) (by omega), hw1]
        by_cases hc : r' + x % d ≥ d
        · rw [if_pos hc]
          have hp := ho.1 (by omega)
          by_cases hM : q' + x / d + 1 > 100000000000000
          · rw [if_pos hM, part_high hd.1 hx.1 hp (by omega)]
          · rw [if_neg hM]
            exact ih fuel _ _ (by omega) (by omega) hp (by omega) (by omega) (by omega) (by omega)
        · rw [if_neg hc]
          have hp := ho.2 (by omega)
          by_cases hM : q' + x / d > 100000000000000
          · rw [if_pos hM, part_high hd.1 hx.1 hp (by omega)]
          · rw [if_neg hM]
            exact ih fuel _ _ (by omega) (by omega) hp (by omega) (by omega) (by omega) (by omega)
      · have hp := half_zero hH (by omega)
        rw [if_neg (by omega), hw1]
        by_cases hM : q' > 100000000000000
        · rw [if_pos hM, part_high hd.1 hx.1 hp (by omega)]
        · rw [if_neg hM]
          exact ih fuel _ _ (by omega) (by omega) hp (by omega) (by omega) (by omega) (by omega)
    by_cases hc : 2 * r ≥ d
    · rw [if_pos hc]
      exact key _ _ (hh.1 (by omega)) (by omega) (by omega) (by omega) (by omega)
    · rw [if_neg hc]
      exact key _ _ (hh.2 (by omega)) (by omega) (by omega) (by omega) (by omega)

theorem parts_f (x n d : Int) (hx : 0 ≤ x ∧ x ≤ 100000000000000) (hn : 0 ≤ n ∧ n < 9223372036854775808) (hd : 1 ≤ d ∧ d ≤ 2305843009213693952) (k : Nat) (hk : 128 < k) :
    haberdashref01_parts.f k x n d = some (if 100000000000000 < x * n / d then (0, 0, false) else (x * n / d, x * n % d, true)) := by
  obtain ⟨m, rfl⟩ : ∃ m : Nat, n = (m : Int) := ⟨n.toNat, by omega⟩
  have h := parts_runs x m d hx (by omega) hd 63 k 0 0 (by omega) (by omega) ⟨by rw [up_all m (by omega)]; simp, by rw [up_all m (by omega)]; simp⟩ (by omega) (by omega) (by omega) (by omega)
  exact h

theorem order_f (l : List Int) (hb : l.length ≤ 800000000) : Ev (fun k => haberdashref01_Order.f k l) (ord l) := l0_runs l hb l.length 0 (by omega)

theorem l3_runs (L : Int) (o : List Int) (n : Nat) (ho : ∀ z ∈ o, 0 ≤ z ∧ z < (n : Int)) (hl : o.length ≤ 1000000) : ∀ (d i k : Nat) (xs : List Int), (i : Int) + d = L → i + d ≤ o.length → d < k → xs.length = n → (∀ x ∈ xs, 0 ≤ x ∧ x ≤ 100000000000000 + i) →
    haberdashref01_Largest.l3 k xs L o i = some (bump xs ((o.drop i).take d), 0) := by
  intro d
  induction d with
  | zero =>
    intro i k xs hi hle hk hn hx
    obtain ⟨k, rfl⟩ : ∃ m, k = m + 1 := ⟨k - 1, by omega⟩
    rw [haberdashref01_Largest.l3, if_neg (by omega)]
    rfl
  | succ d ih =>
    intro i k xs hi hle hk hn hx
    obtain ⟨k, rfl⟩ : ∃ m, k = m + 1 := ⟨k - 1, by omega⟩
    have hlt : i < o.length := by omega
    have hz := ho o[i] (List.getElem_mem hlt)
    obtain ⟨z, hzz⟩ : ∃ z : Nat, o[i] = (z : Int) := ⟨o[i].toNat, by omega⟩
    have hzn : z < xs.length := by omega
    have hv := hx xs[z] (List.getElem_mem hzn)
    rw [haberdashref01_Largest.l3, if_pos (by omega), if_pos (by omega), if_pos (by omega), rd_of o i hlt, hzz, if_pos (by omega), if_pos (by omega), rd_of xs z hzn, Int.toNat_natCast,
      show wrap64 (xs[z] + 1) = xs[z] + 1 from wrap_ok (by omega) (by omega), show wrap64 ((i : Int) + 1) = ((i + 1 : Nat) : Int) from by rw [wrap_ok (by omega) (by omega)]; omega]
    have hb : bump1 xs o[i] = xs.set z (xs[z] + 1) := by
      unfold bump1
      rw [hzz, Int.toNat_natCast]
      simp [List.getD_eq_getElem?_getD, List.getElem?_eq_getElem hzn]
    rw [ih (i + 1) k _ (by omega) (by omega) (by omega) (by simpa using hn) ?_]
    · congr 2
      rw [List.drop_eq_getElem_cons hlt, List.take_succ_cons]
      show _ = bump (bump1 xs o[i]) _
      rw [hb]
    · intro x hxx
      rcases List.mem_or_eq_of_mem_set hxx with hxx | rfl
      · have := hx x hxx; omega
      · omega

theorem ord_range (l : List Int) : ∀ z ∈ ord l, 0 ≤ z ∧ z < (l.length : Int) := by
  intro z hz
  unfold ord at hz
  obtain ⟨y, hy, rfl⟩ := List.mem_map.1 hz
  obtain ⟨i, hi, rfl⟩ := mem_ents ((line_perm _).mem_iff.1 hy)
  exact ⟨by show (0 : Int) ≤ (i : Int); omega, by show (i : Int) < _; omega⟩

theorem j5_runs (xs rs : List Int) (L : Int) (hL : 0 ≤ L ∧ L ≤ rs.length) (hr : rs.length ≤ 100000) (hx : xs.length = rs.length) (hb : ∀ x ∈ xs, 0 ≤ x ∧ x ≤ 100000000000000) :
    Ev (fun k => haberdashref01_Largest.j5 k xs rs L) (bump xs ((ord rs).take L.toNat), 0) := by
  refine Ev.step (f := fun k => (haberdashref01_Order.f k rs).bind fun t413 => (haberdashref01_Largest.l3 k xs L t413 0)) (fun k => by rw [haberdashref01_Largest.j5]) ?_
  refine Ev.bind (f := fun k t => haberdashref01_Largest.l3 k xs L t 0) (order_f rs (by omega)) ⟨L.toNat + 1, fun k hk => ?_⟩
  have h := l3_runs L (ord rs) rs.length (ord_range rs) (by rw [ord_length]; omega) L.toNat 0 k xs (by omega) (by rw [ord_length]; omega) (by omega) hx (by simpa using hb)
  simpa using h

theorem snoc_rep (qs : List Int) (i n : Nat) (h : i < qs.length) (hn : n = qs.length) :
    (qs.take i ++ List.replicate (n - i) 0).set i qs[i] = qs.take (i + 1) ++ List.replicate (n - (i + 1)) 0 := by
  subst hn
  obtain ⟨m, hm⟩ : ∃ m, qs.length - i = m + 1 := ⟨qs.length - i - 1, by omega⟩
  have h2 : qs.length - (i + 1) = m := by omega
  have hk : (qs.take i).length = i := by rw [List.length_take]; omega
  rw [hm, h2, List.replicate_succ, List.take_succ_eq_append_getElem h, List.set_append, if_neg (by omega), hk, Nat.sub_self, List.set_cons_zero, List.append_assoc]
  rfl

theorem l2_runs (x : Int) (ws : List Int) (S : Int) (hS : S = ws.sum) (hx : 0 ≤ x ∧ x ≤ 100000000000000) (hn : ∀ y ∈ ws, 0 ≤ y) (hS1 : 0 < S ∧ S ≤ 100000000000000) (hl : ws.length ≤ 100000) :
    ∀ (d i : Nat), i + d = ws.length → Ev (fun k => haberdashref01_Largest.l2 k x ws S ((qsOf x S ws).take i ++ List.replicate (ws.length - i) 0) ((rsOf x S ws).take i ++ List.replicate (ws.length - i) 0) (x - ((qsOf x S ws).take i).sum) i) (parts x ws, 0) := by
  have hql := qs_length x S ws
  have hrl := rs_length x S ws
  have hqn := qs_nonneg x S ws hx.1 hS1.1 hn
  have hlb := left_bound x ws (by omega)
  rw [← hS] at hlb
  have hle := le_sum ws hn
  intro d
  induction d with
  | zero =>
    intro i hi
    obtain rfl : i = ws.length := by omega
    refine Ev.step (f := fun k => haberdashref01_Largest.j5 k (qsOf x S ws) (rsOf x S ws) (x - (qsOf x S ws).sum)) (fun k => ?_) ?_
    · rw [haberdashref01_Largest.l2, if_neg (by omega), List.take_of_length_le (by omega), List.take_of_length_le (by omega)]
      simp
    · have h := j5_runs (qsOf x S ws) (rsOf x S ws) (x - (qsOf x S ws).sum) (by rw [hrl]; exact hlb) (by omega) (by omega) (fun y hy => ⟨hqn y hy, by have := le_sum _ hqn y hy; omega⟩)
      unfold SP.parts
      rw [← hS]
      exact h
  | succ d ih =>
    intro i hi
    have hlt : i < ws.length := by omega
    have hltq : i < (qsOf x S ws).length := by omega
    have hltr : i < (rsOf x S ws).length := by omega
    have hw0 := hn ws[i] (List.getElem_mem hlt)
    have hw1 := hle ws[i] (List.getElem_mem hlt)
    have hqi : (qsOf x S ws)[i] = x * ws[i] / S := by simp [qsOf]
    have hri : (rsOf x S ws)[i] = x * ws[i] % S := by simp [rsOf]
    have h1 : x * ws[i] ≤ 100000000000000 * S := Int.mul_le_mul hx.2 (by omega) hw0 (by omega)
    have h3 : x * ws[i] / S ≤ 100000000000000 := by
      have := Int.ediv_le_ediv hS1.1 h1
      rw [Int.mul_ediv_cancel _ (by omega)] at this
      exact this
    have hsum : ((qsOf x S ws).take (i + 1)).sum = ((qsOf x S ws).take i).sum + (qsOf x S ws)[i] := by rw [List.take_succ_eq_append_getElem hltq, List.sum_append]; simp
    have hb1 := sum_take_le _ hqn i
    have hb2 := sum_take_le _ hqn (i + 1)
    refine Ev.step (f := fun k => (haberdashref01_parts.f k x ws[i] S).bind fun bt407 => (if (i : Int) < (((qsOf x S ws).take i ++ List.replicate (ws.length - i) 0).length : Int) then ((some ((((qsOf x S ws).take i ++ List.replicate (ws.length - i) 0)).set i bt407.1 : List Int)).bind fun y410 => (if (i : Int) < (((rsOf x S ws).take i ++ List.replicate (ws.length - i) 0).length : Int) then (haberdashref01_Largest.l2 k x ws S y410 (((rsOf x S ws).take i ++ List.replicate (ws.length - i) 0).set i bt407.2.1) (wrap64 ((x - ((qsOf x S ws).take i).sum) - (rd y410 i))) (wrap64 ((i : Int) + 1))) else (none))) else (none))) (fun k => ?_) ?_
    · rw [haberdashref01_Largest.l2, if_pos (by omega), if_pos (by omega), if_pos (by omega), rd_of ws i hlt, Int.toNat_natCast]
    · refine Ev.bind (f := fun k (bt407 : Int × Int × Bool) => (if (i : Int) < (((qsOf x S ws).take i ++ List.replicate (ws.length - i) 0).length : Int) then ((some ((((qsOf x S ws).take i ++ List.replicate (ws.length - i) 0)).set i bt407.1 : List Int)).bind fun y410 => (if (i : Int) < (((rsOf x S ws).take i ++ List.replicate (ws.length - i) 0).length : Int) then (haberdashref01_Largest.l2 k x ws S y410 (((rsOf x S ws).take i ++ List.replicate (ws.length - i) 0).set i bt407.2.1) (wrap64 ((x - ((qsOf x S ws).take i).sum) - (rd y410 i))) (wrap64 ((i : Int) + 1))) else (none))) else (none))) ⟨129, fun k hk => parts_f x ws[i] S hx ⟨hw0, by omega⟩ ⟨by omega, by omega⟩ k (by omega)⟩ ?_
      rw [if_neg (by omega)]
      have hlen1 : ((qsOf x S ws).take i ++ List.replicate (ws.length - i) 0).length = ws.length := by simp [hql]; omega
      have hlen2 : ((rsOf x S ws).take i ++ List.replicate (ws.length - i) 0).length = ws.length := by simp [hrl]; omega
      refine (ih (i + 1) (by omega)).congr (fun k => ?_) |> fun h => h
      show _ = haberdashref01_Largest.l2 k x ws S _ _ _ _
      simp only [hlen1, hlen2]
      rw [if_pos (by omega)]
      simp only [Option.bind_some]
      rw [if_pos (by omega), ← hqi, ← hri, snoc_rep _ _ _ hltq hql.symm, snoc_rep _ _ _ hltr hrl.symm]
      congr 1
      · rw [rd_of _ i (by simp [hql]; omega)]
        have e : ((qsOf x S ws).take (i + 1) ++ List.replicate (ws.length - (i + 1)) 0)[i]'(by simp [hql]; omega) = (qsOf x S ws)[i] := by
          rw [List.getElem_append_left (by simp; omega)]; simp
        rw [e, wrap_ok (by omega) (by omega)]
        omega
      · rw [wrap_ok (by omega) (by omega)]; omega

theorem j3_runs (x : Int) (ws : List Int) (hx : 0 ≤ x ∧ x ≤ 100000000000000) (hn : ∀ y ∈ ws, 0 ≤ y) (hS1 : ws.sum ≤ 100000000000000) (hl : ws.length ≤ 100000) (h0 : ws.sum = 0 → x = 0) :
    Ev (fun k => haberdashref01_Largest.j3 k x ws ws.sum false) (if ws.sum = 0 then (List.replicate ws.length 0, 0) else (parts x ws, 0)) := by
  have hnn := sum_nonneg ws hn
  refine Ev.step (f := fun k => haberdashref01_Largest.l2 k x ws ws.sum (List.replicate ws.length 0) (List.replicate ws.length 0) x 0) (fun k => ?_) ?_
  · rw [haberdashref01_Largest.j3, if_neg (by simp), if_pos (by omega), Int.toNat_natCast, if_pos (by omega)]
  · by_cases hS : ws.sum = 0
    · rw [if_pos hS, hS, h0 hS]
      refine Ev.step (f := fun k => haberdashref01_Largest.j5 k (List.replicate ws.length 0) (List.replicate ws.length 0) 0) (fun k => ?_) ?_
      · rw [haberdashref01_Largest.l2]
        by_cases hlt : (0 : Int) < (ws.length : Int)
        · rw [if_pos hlt, if_neg (by omega)]
        · rw [if_neg hlt]
      · have h := j5_runs (List.replicate ws.length 0) (List.replicate ws.length 0) 0 (by simp) (by simpa using hl) rfl (fun y hy => by rw [List.eq_of_mem_replicate hy]; omega)
        simpa [bump] using h
    · rw [if_neg hS]
      have h := l2_runs x ws ws.sum rfl hx hn ⟨by omega, hS1⟩ hl ws.length 0 (by omega)
      simpa using h

theorem l1_runs (x : Int) (ws : List Int) (hx : 0 ≤ x ∧ x ≤ 100000000000000) (hn : ∀ y ∈ ws, rt y = true) (hl : ws.length ≤ 100000) : ∀ (d i : Nat), i + d = ws.length → (ws.take i).sum ≤ 100000000000000 →
    Ev (fun k => haberdashref01_Largest.l1 k x ws (ws.take i).sum i) (if 100000000000000 < ws.sum then ([], 5) else if ws.sum = 0 ∧ x ≠ 0 then ([], 7) else if ws.sum = 0 then (List.replicate ws.length 0, 0) else (parts x ws, 0)) := by
  have hnn : ∀ y ∈ ws, 0 ≤ y := fun y hy => (rt_iff.1 (hn y hy)).1
  intro d
  induction d with
  | zero =>
    intro i hi hs
    obtain rfl : i = ws.length := by omega
    rw [List.take_length] at hs ⊢
    rw [if_neg (show ¬ 100000000000000 < ws.sum by omega)]
    by_cases h0 : ws.sum = 0
    · by_cases hx0 : x = 0
      · rw [if_neg (by simp [hx0])]
        refine Ev.step (f := fun k => haberdashref01_Largest.j3 k x ws ws.sum false) (fun k => ?_) (j3_runs x ws hx hnn hs hl (fun _ => hx0))
        rw [haberdashref01_Largest.l1, if_neg (by omega), if_pos h0, hx0]
        rfl
      · rw [if_pos ⟨h0, hx0⟩]
        refine Ev.step (f := fun k => haberdashref01_Largest.j3 k x ws ws.sum true) (fun k => ?_) (Ev.step (f := fun _ => some ([], 7)) (fun k => ?_) (Ev.now _))
        · rw [haberdashref01_Largest.l1, if_neg (by omega), if_pos h0]
          congr 1
          simpa using hx0
        · rw [haberdashref01_Largest.j3, if_pos rfl]
    · rw [if_neg (by simp [h0])]
      refine Ev.step (f := fun k => haberdashref01_Largest.j3 k x ws ws.sum false) (fun k => ?_) (j3_runs x ws hx hnn hs hl (fun h => absurd h h0))
      rw [haberdashref01_Largest.l1, if_neg (by omega), if_neg h0]
  | succ d ih =>
    intro i hi hs
    have hlt : i < ws.length := by omega
    have h0 := (sum_take_le ws hnn i).1
    have h2 := rt_iff.1 (hn ws[i] (List.getElem_mem hlt))
    have h3 : (ws.take (i + 1)).sum = (ws.take i).sum + ws[i] := by rw [List.take_succ_eq_append_getElem hlt, List.sum_append]; simp
    by_cases h : 100000000000000 < (ws.take i).sum + ws[i]
    · rw [if_pos (by have := (sum_take_le ws hnn (i + 1)).2; omega)]
      refine Ev.step (f := fun _ => some ([], 5)) (fun k => ?_) (Ev.now _)
      rw [haberdashref01_Largest.l1, if_pos (by omega), if_pos (by omega), rd_of ws i hlt, wrap_ok (by omega) (by omega), if_pos (by omega)]
    · refine Ev.step (f := fun k => haberdashref01_Largest.l1 k x ws (ws.take (i + 1)).sum ((i + 1 : Nat) : Int)) (fun k => ?_) (ih (i + 1) (by omega) (by omega))
      rw [haberdashref01_Largest.l1, if_pos (by omega), if_pos (by omega), rd_of ws i hlt, show wrap64 ((ws.take i).sum + ws[i]) = (ws.take i).sum + ws[i] from wrap_ok (by omega) (by omega), if_neg (by omega), h3,
        show wrap64 ((i : Int) + 1) = ((i + 1 : Nat) : Int) from by rw [wrap_ok (by omega) (by omega)]; omega]

theorem l0_runs' (x : Int) (ws : List Int) (hx : 0 ≤ x ∧ x ≤ 100000000000000) (hl : ws.length ≤ 100000) : ∀ (d i : Nat), i + d = ws.length → (∀ y ∈ ws.take i, rt y = true) →
    Ev (fun k => haberdashref01_Largest.l0 k x ws i) (if ws.all rt = false then ([], 2) else if 100000000000000 < ws.sum then ([], 5) else if ws.sum = 0 ∧ x ≠ 0 then ([], 7) else if ws.sum = 0 then (List.replicate ws.length 0, 0) else (parts x ws, 0)) := by
  intro d
  induction d with
  | zero =>
    intro i hi hs
    obtain rfl : i = ws.length := by omega
    rw [List.take_length] at hs
    rw [if_neg (by simp; exact hs)]
    refine Ev.step (f := fun k => haberdashref01_Largest.l1 k x ws 0 0) (fun k => ?_) ?_
    · rw [haberdashref01_Largest.l0, if_neg (by omega)]
    · have := l1_runs x ws hx hs hl ws.length 0 (by omega) (by simp)
      simpa using this
  | succ d ih =>
    intro i hi hs
    have hlt : i < ws.length := by omega
    by_cases h : rt ws[i] = true
    · refine Ev.step (f := fun k => haberdashref01_Largest.l0 k x ws ((i + 1 : Nat) : Int)) (fun k => ?_) (ih (i + 1) (by omega) ?_)
      · rw [haberdashref01_Largest.l0, if_pos (by omega), if_pos (by omega), rd_of ws i hlt, right_f]
        simp only [Option.bind_some]
        rw [if_pos h, show wrap64 ((i : Int) + 1) = ((i + 1 : Nat) : Int) from by rw [wrap_ok (by omega) (by omega)]; omega]
      · rw [List.take_succ_eq_append_getElem hlt]
        intro y hy
        rcases List.mem_append.1 hy with hy | hy
        · exact hs y hy
        · rw [List.mem_singleton.1 hy]; exact h
    · rw [if_pos (by rw [List.all_eq_false]; exact ⟨ws[i], List.getElem_mem hlt, h⟩)]
      refine Ev.step (f := fun _ => some ([], 2)) (fun k => ?_) (Ev.now _)
      rw [haberdashref01_Largest.l0, if_pos (by omega), if_pos (by omega), rd_of ws i hlt, right_f]
      simp only [Option.bind_some]
      rw [if_neg h]

theorem largest_f (x : Int) (ws : List Int) : Ev (fun k => haberdashref01_Largest.f k x ws) (largest x ws) := by
  unfold haberdashref01_Largest.f
  simp only [right_f, Option.bind_some]
  by_cases hx : rt x = true
  · simp only [hx, if_true]
    by_cases hl : (ws.length : Int) > 100000
    · have e : largest x ws = ([], 2) := by unfold largest sumE; rw [if_pos (show rt x = false ∨ 100000 < ws.length ∨ ws.all rt = false from .inr (.inl (by omega)))]; rfl
      rw [e]
      refine Ev.step (f := fun _ => some ([], 2)) (fun k => ?_) (Ev.now _)
      rw [haberdashref01_Largest.j0, if_pos (by simpa using hl)]
    · refine Ev.step (f := fun k => haberdashref01_Largest.l0 k x ws 0) (fun k => ?_) ?_
      · rw [haberdashref01_Largest.j0, if_neg (by simpa using hl)]
      · have h := l0_runs' x ws (rt_iff.1 hx) (by omega) ws.length 0 (by omega) (by simp)
        have e : largest x ws = (if ws.all rt = false then ([], 2) else if 100000000000000 < ws.sum then ([], 5) else if ws.sum = 0 ∧ x ≠ 0 then ([], 7) else if ws.sum = 0 then (List.replicate ws.length 0, 0) else (parts x ws, 0)) := by
          unfold largest sumE
          have hl2 : ¬ 100000 < ws.length := by omega
          by_cases ha : ws.all rt = false
          · simp [ha]
          · by_cases hs : 100000000000000 < ws.sum
            · simp [hx, hl2, ha, hs]
            · by_cases hz : ws.sum = 0 ∧ x ≠ 0
              · simp [hx, hl2, ha, hs, hz]
              · simp [hx, hl2, ha, hs, hz]
        rw [e]
        exact h
  · have hx' : rt x = false := by simpa using hx
    have e : largest x ws = ([], 2) := by unfold largest sumE; rw [if_pos (Or.inl hx')]; rfl
    rw [e]
    simp only [hx', if_false, Bool.false_eq_true]
    refine Ev.step (f := fun _ => some ([], 2)) (fun k => ?_) (Ev.now _)
    rw [haberdashref01_Largest.j0, if_pos rfl]
end Go.Proofs.Ytmiamdnhofjifaa.RP
