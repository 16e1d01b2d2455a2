/- Names, and texts that rise: what the printed functions of goods and of the reference come to. Plain Lean. -/
import Derived.Test.YtdmeepjefccpgaaVEvP
import Derived.Test.YtdmeepjefccpgaaVRwGoods
import Derived.Test.YtdmeepjefccpgaaVRwRef10a
-- 56
set_option linter.unusedVariables false
namespace Go.Proofs.Ytdmeepjefccpgaa.NP
open Go Go.RowKit Go.Proofs.YtdmeepjefccpgaaW.PrintWords Go.Proofs.YtdmeepjefccpgaaW.PrintMore Go.Proofs.Ytdmeepjefccpgaa.Rw Go.Proofs.Ytdmeepjefccpgaa.EP

theorem ifs (c : Int) (A : Option Bool) : (if c = 45 then A else (if c < 48 then (if c < 97 then (some false) else (if c > 122 then (some false) else A)) else (if c > 57 then (if c < 97 then (some false) else (if c > 122 then (some false) else A)) else A))) = if chOk c = true then A else some false := by
  by_cases h : chOk c = true
  · rw [if_pos h]
    rw [chOk_iff] at h
    repeat' split
    all_goals first | rfl | (exfalso; omega)
  · rw [if_neg h]
    rw [chOk_iff] at h
    repeat' split
    all_goals first | rfl | (exfalso; omega)
theorem name_f (s : ByteArray) : Ev (fun k => goods_Name.f k s) (nameOk s) := by
  unfold goods_Name.f nameOk
  by_cases h1 : (s.size : Int) < 1
  · simp only [if_pos h1]
    rw [show decide (1 ≤ s.size) = false from decide_eq_false (by omega), Bool.false_and, Bool.false_and]
    exact Ev.step (fun k => by rw [goods_Name.j0, if_pos rfl]) (Ev.now _)
  simp only [if_neg h1]
  by_cases h2 : (s.size : Int) > 12
  · rw [decide_eq_true h2, show decide (s.size ≤ 12) = false from decide_eq_false (by omega), Bool.and_false, Bool.false_and]
    exact Ev.step (fun k => by rw [goods_Name.j0, if_pos rfl]) (Ev.now _)
  rw [decide_eq_false h2, show decide (1 ≤ s.size) = true from decide_eq_true (by omega), show decide (s.size ≤ 12) = true from decide_eq_true (by omega)]
  refine Ev.step (fun k => by rw [goods_Name.j0, if_neg (by simp)]) ?_
  have := scan_ev (F := fun k i => goods_Name.l0 k s s.size (i : Int)) (n := s.size) (p := fun i => chOk (bt s i)) (e := true)
    (Ev.step (fun k => by rw [goods_Name.l0, if_neg (by omega)]) (Ev.now _))
    (fun i hi hp r hr => Ev.step (fun k => by rw [goods_Name.l0, if_pos (by omega), if_pos (by omega), if_pos (by omega), ifs, if_pos hp, next i (by omega)]) hr)
    (fun i hi hp => Ev.step (fun k => by rw [goods_Name.l0, if_pos (by omega), if_pos (by omega), if_pos (by omega), ifs, if_neg (by rw [hp]; simp)]) (Ev.now _))
  rw [Bool.and_true] at this
  exact this
-- 56
theorem ifs2 (c : Int) (A : Option Bool) : (if c ≥ 97 then (if c ≤ 122 then A else (if c ≥ 48 then (if c ≤ 57 then A else (if (c = 45) then A else (some false))) else (if (c = 45) then A else (some false)))) else (if c ≥ 48 then (if c ≤ 57 then A else (if (c = 45) then A else (some false))) else (if (c = 45) then A else (some false)))) = if chOk c = true then A else some false := by
  by_cases h : chOk c = true
  · rw [if_pos h]
    rw [chOk_iff] at h
    repeat' split
    all_goals first | rfl | (exfalso; omega)
  · rw [if_neg h]
    rw [chOk_iff] at h
    repeat' split
    all_goals first | rfl | (exfalso; omega)
theorem rname_f (s : ByteArray) (hs : s.size ≤ 9223372036854775807) : Ev (fun k => haberdashref10_Name.f k s) (nameOk s) := by
  have := scan_ev (F := fun k i => haberdashref10_Name.l0 k s (i : Int)) (n := s.size) (p := fun i => chOk (bt s i)) (e := decide (1 ≤ s.size) && decide (s.size ≤ 12))
    (Ev.step (f := fun _ => some (decide (1 ≤ s.size) && decide (s.size ≤ 12))) (fun k => by
      rw [haberdashref10_Name.l0, if_neg (by omega)]
      by_cases h : (s.size : Int) ≥ 1
      · rw [if_pos h, show decide (1 ≤ s.size) = true from decide_eq_true (by omega), Bool.true_and]
        congr 1
        rw [Bool.eq_iff_iff, decide_eq_true_eq, decide_eq_true_eq]
        omega
      · rw [if_neg h, show decide (1 ≤ s.size) = false from decide_eq_false (by omega), Bool.false_and]) (Ev.now _))
    (fun i hi hp r hr => Ev.step (fun k => by rw [haberdashref10_Name.l0, if_pos (by omega), if_pos (by omega), ifs2, if_pos hp, next i (by omega)]) hr)
    (fun i hi hp => Ev.step (fun k => by rw [haberdashref10_Name.l0, if_pos (by omega), if_pos (by omega), ifs2, if_neg (by rw [hp]; simp)]) (Ev.now _))
  unfold nameOk
  rw [Bool.and_comm] at this
  exact this
theorem in_f (a b : Int) : haberdashref10_in.f a b = some (decide (0 ≤ a) && decide (a ≤ b)) := by
  unfold haberdashref10_in.f
  by_cases h : a ≥ 0
  · rw [if_pos h, show decide (0 ≤ a) = true from decide_eq_true h, Bool.true_and]
  · rw [if_neg h, show decide (0 ≤ a) = false from decide_eq_false h, Bool.false_and]
theorem up_if (l : List ByteArray) (i : Nat) (A : Option Bool) (hi : i < l.length) (hl : l.length ≤ 9223372036854775807) : (if (i : Int) > 0 then (if 0 ≤ (wrap64 ((i : Int) - 1)) then (if (wrap64 ((i : Int) - 1)) < (l.length : Int) then (if 0 ≤ (i : Int) then (if (i : Int) < (l.length : Int) then (if ((Op.bytesLess ((rdOf ByteArray.empty l (wrap64 ((i : Int) - 1))).toList) ((rdOf ByteArray.empty l (i : Int)).toList)) = true) then A else (some false)) else (none)) else (none)) else (none)) else (none)) else A) = if upAt l i = true then A else some false := by
  rcases Nat.eq_zero_or_pos i with rfl | h
  · rw [if_neg (by omega), if_pos (by simp [upAt])]
  · have hw : wrap64 ((i : Int) - 1) = ((i - 1 : Nat) : Int) := by rw [wrap_ok (by omega) (by omega)]; omega
    rw [if_pos (by omega), hw, if_pos (by omega), if_pos (by omega), if_pos (by omega), if_pos (by omega), rdOf_d, rdOf_d]
    have : upAt l i = Op.bytesLess (l.getD (i - 1) ByteArray.empty).toList (l.getD i ByteArray.empty).toList := by
      unfold upAt
      rw [decide_eq_false (by omega), Bool.false_or]
    rw [this]
theorem rise_f (l : List ByteArray) (hl : l.length ≤ 9223372036854775807) : Ev (fun k => goods_Rise.f k l) (rise l) := by
  have := scan_ev (F := fun k i => goods_Rise.l0 k l l.length (i : Int)) (n := l.length) (p := upAt l) (e := true)
    (Ev.step (fun k => by rw [goods_Rise.l0, if_neg (by omega)]) (Ev.now _))
    (fun i hi hp r hr => Ev.step (fun k => by rw [goods_Rise.l0, if_pos (by omega), next i (by omega), up_if l i _ hi hl, if_pos hp]) hr)
    (fun i hi hp => Ev.step (fun k => by rw [goods_Rise.l0, if_pos (by omega), up_if l i _ hi hl, if_neg (by rw [hp]; simp)]) (Ev.now _))
  rw [Bool.and_true] at this
  exact this
end Go.Proofs.Ytdmeepjefccpgaa.NP
