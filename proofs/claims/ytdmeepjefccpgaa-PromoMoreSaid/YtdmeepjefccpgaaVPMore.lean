/- More codes bring more promos, in the same order. Plain Lean. -/
import Derived.Test.YtdmeepjefccpgaaVHOrder
set_option linter.unusedVariables false
set_option linter.unusedSimpArgs false
namespace Go.Proofs.Ytdmeepjefccpgaa.PMo
open Go Go.RowKit Go.Proofs.YtdmeepjefccpgaaW.PrintWords Go.Proofs.YtdmeepjefccpgaaW.PrintMore Go.Proofs.Ytdmeepjefccpgaa.Rw Go.Proofs.Ytdmeepjefccpgaa.HO
open Go.Proofs.Ytdmeepjefccpgaa.HSo (idAt)
/-- A sorted permutation is one only. -/
theorem sorted_one {α : Type} {r : α → α → Prop} : ∀ {l1 l2 : List α}, (∀ a ∈ l1, ∀ b ∈ l1, r a b → r b a → a = b) → l1.Perm l2 → l1.Pairwise r → l2.Pairwise r → l1 = l2
  | [], l2, _, hp, _, _ => (List.Perm.nil_eq hp)
  | a :: t, [], _, hp, _, _ => absurd hp.length_eq (by simp)
  | a :: t, b :: s, h, hp, h1, h2 => by
    rw [List.pairwise_cons] at h1 h2
    have hb : b ∈ a :: t := hp.mem_iff.2 (List.mem_cons_self ..)
    have ha : a ∈ b :: s := hp.mem_iff.1 (List.mem_cons_self ..)
    have e : a = b := by
      rcases List.mem_cons.1 hb with e | hb'
      · exact e.symm
      · rcases List.mem_cons.1 ha with e | ha'
        · exact e
        · exact h a (List.mem_cons_self ..) b hb (h1.1 b hb') (h2.1 a ha')
    subst e
    rw [sorted_one (fun x hx y hy => h x (List.mem_cons_of_mem _ hx) y (List.mem_cons_of_mem _ hy)) ((List.perm_cons a).1 hp) h1.2 h2.2]
/-- The promos' names are apart. -/
def Apart (l : PL) : Prop := ∀ i j, i < l.length → j < l.length → (idAt l i).toList = (idAt l j).toList → i = j
theorem ahead_asymm {l : PL} (ha : Apart l) {a b : Nat} (h1 : a < l.length) (h2 : b < l.length) (x : Ahead l a b) (y : Ahead l b a) : a = b := by
  rcases x with x | ⟨x, x2⟩ <;> rcases y with y | ⟨y, y2⟩
  · omega
  · omega
  · omega
  · exact ha a b h1 h2 (List.le_antisymm (List.not_lt.1 x2) (List.not_lt.1 y2))
theorem has_nil (s : ByteArray) : hasS [] s = false := rfl
theorem asked_more {l : PL} {cs : List ByteArray} {j : Nat} (h : asked l [] j = true) : asked l cs j = true := by
  unfold asked at *
  rw [has_nil, Bool.or_false] at h
  rw [h]
  rfl
/-- Who is asked without codes, out of who is asked with some, is told in the same order. -/
theorem order_filter {l : PL} (ha : Apart l) {cs : List ByteArray} {a b : List Nat} (pa : a.Perm (places l [] l.length)) (sa : a.Pairwise (Ahead l)) (pb : b.Perm (places l cs l.length)) (sb : b.Pairwise (Ahead l)) : a = b.filter (asked l []) := by
  refine sorted_one (fun x hx y hy h1 h2 => ahead_asymm ha (places_lt l [] _ x (pa.mem_iff.1 hx)) (places_lt l [] _ y (pa.mem_iff.1 hy)) h1 h2) ?_ sa (sb.filter _)
  refine pa.trans ?_
  have e : places l [] l.length = (places l cs l.length).filter (asked l []) := by
    unfold places
    rw [List.filter_filter]
    refine List.filter_congr (fun j _ => ?_)
    cases h : asked l [] j with
    | true => rw [asked_more h]; rfl
    | false => rfl
  rw [e]
  exact (pb.filter _).symm
end Go.Proofs.Ytdmeepjefccpgaa.PMo
