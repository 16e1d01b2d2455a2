/- PromoMore: what its plays answer, and its loop's step. Plain Lean. -/
import Derived.Test.YtdmeepjefccpgaaVPMore
import Derived.Test.YtdmeepjefccpgaaVPlayQ
import Derived.Test.YtdmeepjefccpgaaVRightQ
import Derived.Test.YtdmeepjefccpgaaVHAll2
import Derived.Test.YtdmeepjefccpgaaVRwL12f
import Derived.Test.YtdmeepjefccpgaaVRwPlS
set_option linter.unusedVariables false
set_option linter.unusedSimpArgs false
namespace Go.Proofs.Ytdmeepjefccpgaa.PMo
open Go Go.RowKit Go.Proofs.YtdmeepjefccpgaaW.PrintWords Go.Proofs.YtdmeepjefccpgaaW.PrintMore Go.Proofs.Ytdmeepjefccpgaa.Rw Go.Proofs.Ytdmeepjefccpgaa.HO Go.Proofs.Ytdmeepjefccpgaa.EP Go.Proofs.Ytdmeepjefccpgaa.NP Go.Proofs.Ytdmeepjefccpgaa.PP Go.Proofs.Ytdmeepjefccpgaa.RU
open Go.Proofs.Ytdmeepjefccpgaa.HSo (idAt)
theorem few_x (x : Pm) (hl : x.f12.length ≤ 9223372036854775807) : Ex (fun k => haberdashlaw12_few.f k x.f0 x.f1 x.f2 x.f3 x.f4 x.f5 x.f6.f0 x.f6.f1 x.f7 x.f8 x.f9 x.f10 x.f11 x.f12 x.f13) (fun _ => True) := by
  unfold haberdashlaw12_few.f
  have key : ∀ (d i : Nat), i + d = x.f12.length → Ex (fun k => haberdashlaw12_few.l0 k (i : Int) x.f0 x.f1 x.f2 x.f3 x.f4 x.f5 x.f6.f0 x.f6.f1 x.f7 x.f8 x.f9 x.f10 x.f11 x.f12 x.f13) (fun _ => True) := by
    intro d
    induction d with
    | zero =>
      intro i hi
      have hF : ∃ b, (if (x.f12.length : Int) ≤ 20 then (if (x.f13.length : Int) ≤ 20 then (if (x.f6.f0.length : Int) ≤ 40 then (some (decide ((x.f6.f1.length : Int) ≤ 40))) else (some false)) else (some false)) else (some false)) = some b := by
        repeat' split
        all_goals exact ⟨_, rfl⟩
      obtain ⟨b, hb⟩ := hF
      exact Ex.step (fun k => by rw [haberdashlaw12_few.l0, if_neg (by omega), hb]) (Ex.now trivial)
    | succ d ih =>
      intro i hi
      by_cases h : ((rd_T65 x.f12 (i : Int)).f0.f0.length : Int) > 40
      · exact Ex.step (fun k => by rw [haberdashlaw12_few.l0, if_pos (by omega), if_pos (by omega), if_pos h]) (Ex.now trivial)
      by_cases h2 : ((rd_T65 x.f12 (i : Int)).f0.f1.length : Int) > 40
      · exact Ex.step (fun k => by rw [haberdashlaw12_few.l0, if_pos (by omega), if_pos (by omega), if_neg h, if_pos h2]) (Ex.now trivial)
      · exact Ex.step (fun k => by rw [haberdashlaw12_few.l0, if_pos (by omega), if_pos (by omega), if_neg h, if_neg h2, next i (by omega)]) (ih (i + 1) (by omega))
  exact key x.f12.length 0 (by omega)
theorem all_eq (l : List Pm) : promosOk l = pmsOk l := by
  unfold promosOk pmsOk
  congr 1
  refine allTo_congr (fun i hi => ?_)
  unfold pmAt
  have e1 : promoOk (rd_T60 l (i : Int)) = pmOk (rd_T60 l (i : Int)) := right_eq ..
  rw [e1]
  congr 1
  unfold anyId
  rw [Bool.not_not]
  refine allTo_congr (fun j hj => ?_)
  unfold sameId
  congr 1
  rw [Bool.eq_iff_iff]
  simp
theorem apart_of {x : PL} (h : PInv x) (h6 : x.length ≤ 6) : Apart x := by
  intro i j hi hj e
  unfold idAt at e
  rw [(h i hi).2, (h j hj).2] at e
  rcases Nat.lt_trichotomy i j with hij | hij | hij
  · exact absurd e (idN_ne j (by omega) i hij)
  · exact hij
  · exact absurd e.symm (idN_ne i (by omega) j hij)
theorem codes_x (l : List ByteArray) (hl : fitL l) : Ex (fun k => haberdashplay_Codes.f k l) (fun _ => True) := by
  unfold haberdashplay_Codes.f
  have hN : ∀ a : Nat, a < 3 → haberdashplay_Zone.f (77700000 + 63) (a : Int) = some ((haberdashplay_Code.f (a : Int)).getD ByteArray.empty) := ?_
  · have := some_x l 3 (77700000 + 63) 3 (fun a => (haberdashplay_Code.f (a : Int)).getD ByteArray.empty) (by omega) hl hN
    exact Ex.bind (Q := fun _ => True) this (fun x _ => Ex.now trivial)
  intro a ha
  obtain ⟨s, hs, _⟩ := code_f (a : Int)
  unfold haberdashplay_Zone.f
  rw [if_neg (by decide), if_neg (by decide), if_pos rfl, hs]
  rfl
/-- How many of the first i of b are asked. -/
def cnt (p : Nat → Bool) (b : List Nat) (i : Nat) : Nat := ((b.take i).filter p).length
theorem cnt_zero (p : Nat → Bool) (b : List Nat) : cnt p b 0 = 0 := by simp [cnt]
theorem take_one (b : List Nat) (i : Nat) (h : i < b.length) : b.take (i + 1) = b.take i ++ [b.getD i 0] := by
  rw [List.take_add_one, List.getD_eq_getElem?_getD, List.getElem?_eq_getElem h]
  rfl
theorem cnt_succ (p : Nat → Bool) (b : List Nat) (i : Nat) (h : i < b.length) : cnt p b (i + 1) = cnt p b i + (if p (b.getD i 0) = true then 1 else 0) := by
  unfold cnt
  rw [take_one b i h, List.filter_append, List.length_append]
  by_cases hp : p (b.getD i 0) = true
  · rw [if_pos hp, List.filter_cons_of_pos hp]; rfl
  · rw [if_neg hp, List.filter_cons_of_neg hp]; rfl
theorem cnt_end (p : Nat → Bool) (b : List Nat) : cnt p b b.length = (b.filter p).length := by rw [cnt, List.take_length]
theorem cnt_le (p : Nat → Bool) (b : List Nat) (i : Nat) : cnt p b i ≤ (b.filter p).length := by
  conv => rhs; rw [← List.take_append_drop i b, List.filter_append, List.length_append]
  exact Nat.le_add_right _ _
theorem split_at (b : List Nat) (i : Nat) (h : i < b.length) : b = b.take i ++ (b.getD i 0 :: b.drop (i + 1)) := by
  conv => lhs; rw [← List.take_append_drop (i + 1) b, take_one b i h, List.append_assoc]
  rfl
theorem step_yes {p : Nat → Bool} {b : List Nat} {i : Nat} (h : i < b.length) (hp : p (b.getD i 0) = true) : cnt p b i < (b.filter p).length ∧ (b.filter p).getD (cnt p b i) 0 = b.getD i 0 := by
  have e : b.filter p = (b.take i).filter p ++ (b.getD i 0 :: (b.drop (i + 1)).filter p) := by
    conv => lhs; rw [split_at b i h, List.filter_append, List.filter_cons_of_pos hp]
  refine ⟨?_, ?_⟩
  · rw [e, List.length_append, List.length_cons]; unfold cnt; omega
  · rw [e]
    unfold cnt
    rw [List.getD_eq_getElem?_getD, List.getElem?_append_right (Nat.le_refl _), Nat.sub_self]
    rfl
theorem step_no {p : Nat → Bool} {b : List Nat} {i k : Nat} (hp : p (b.getD i 0) = false) (hk : k < (b.filter p).length) : (b.filter p).getD k 0 ≠ b.getD i 0 := by
  intro e
  have hm : (b.filter p).getD k 0 ∈ b.filter p := by
    rw [List.getD_eq_getElem?_getD, List.getElem?_eq_getElem hk]
    exact List.getElem_mem hk
  rw [e] at hm
  rw [(List.mem_filter.1 hm).2] at hp
  cases hp
theorem get_mem (b : List Nat) (i : Nat) (h : i < b.length) : b.getD i 0 ∈ b := by
  rw [List.getD_eq_getElem?_getD, List.getElem?_eq_getElem h]
  exact List.getElem_mem h
/-- Who is told stands ahead of the next one, by the law's words. -/
theorem next_ahead {l : PL} (ha : Apart l) {cs : List ByteArray} {b : List Nat} (pb : b.Perm (places l cs l.length)) (sb : b.Pairwise (Ahead l)) {i : Nat} (h : i + 1 < b.length) : prioAt l (b.getD (i + 1) 0) < prioAt l (b.getD i 0) ∨ (prioAt l (b.getD i 0) = prioAt l (b.getD (i + 1) 0) ∧ (idAt l (b.getD i 0)).toList < (idAt l (b.getD (i + 1) 0)).toList) := by
  have hnd : b.Nodup := pb.nodup_iff.2 (List.Pairwise.filter _ List.nodup_range)
  have h1 : b.getD i 0 = b[i] := by rw [List.getD_eq_getElem?_getD, List.getElem?_eq_getElem (by omega)]; rfl
  have h2 : b.getD (i + 1) 0 = b[i + 1] := by rw [List.getD_eq_getElem?_getD, List.getElem?_eq_getElem h]; rfl
  have hA := List.pairwise_iff_getElem.1 sb i (i + 1) (by omega) h (by omega)
  have hN := List.pairwise_iff_getElem.1 hnd i (i + 1) (by omega) h (by omega)
  rw [h1, h2]
  have l1 : b[i] < l.length := places_lt l cs _ _ (pb.mem_iff.1 (List.getElem_mem _))
  have l2 : b[i + 1] < l.length := places_lt l cs _ _ (pb.mem_iff.1 (List.getElem_mem _))
  rcases hA with hA | ⟨hA, hB⟩
  · exact .inl hA
  · refine .inr ⟨hA, ?_⟩
    rcases Classical.em ((idAt l b[i]).toList < (idAt l b[i + 1]).toList) with hc | hc
    · exact hc
    · exact absurd (ha _ _ l1 l2 (List.le_antisymm (List.not_lt.1 hB) (List.not_lt.1 hc))) hN
end Go.Proofs.Ytdmeepjefccpgaa.PMo
