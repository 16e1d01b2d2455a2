/- PromoMany: the promos, codes, parts and tiers that it makes, and what may be of them. Plain Lean. -/
import Derived.Test.YtdmeepjefccpgaaVHAwake12
set_option linter.unusedVariables false
set_option linter.unusedSimpArgs false
namespace Go.Proofs.Ytdmeepjefccpgaa.PMn
open Go Go.RowKit Go.Proofs.YtdmeepjefccpgaaW.PrintWords Go.Proofs.YtdmeepjefccpgaaW.PrintMore Go.Proofs.Ytdmeepjefccpgaa.Rw Go.Proofs.Ytdmeepjefccpgaa.EP Go.Proofs.Ytdmeepjefccpgaa.PP Go.Proofs.Ytdmeepjefccpgaa.HO
def nmS (j : Nat) : ByteArray := strOfNums [97 + (j : Int) / 10, 48 + (j : Int) % 10]
def pmS (s : ByteArray) : S60 := ⟨s, 1, 0, ⟨#[]⟩, ⟨#[]⟩, false, ⟨[], []⟩, 0, 1, 0, 0, 0, [], []⟩
def ps : Nat → List (S60)
  | 0 => []
  | j + 1 => ps j ++ [pmS (nmS j)]
theorem ps_succ (j : Nat) : ps (j + 1) = ps j ++ [pmS (nmS j)] := rfl
theorem ps_len : ∀ j, (ps j).length = j
  | 0 => rfl
  | j + 1 => by rw [ps_succ, List.length_append, ps_len j]; rfl
theorem ps_ok : ∀ q, q < 3 → promosOk (ps (59 + q)) = decide (((59 + q : Nat) : Int) ≤ 60)
  | 0, _ => by decide +kernel
  | 1, _ => by decide +kernel
  | 2, _ => by decide +kernel
def twice (l : List (S60)) (k : Nat) : List (S60) := l.set k { rd_T60 l (k : Int) with f0 := (rd_T60 l ((k - 1 : Nat) : Int)).f0 }
theorem twice_len (l : List (S60)) (k : Nat) : (twice l k).length = l.length := by unfold twice; rw [List.length_set]
theorem rdP_set_eq (l : List (S60)) (k : Nat) (x : S60) (h : k < l.length) : rd_T60 (l.set k x) (k : Int) = x := by
  unfold rd_T60
  rw [Int.toNat_natCast, List.getD_eq_getElem?_getD, List.getElem?_set_self h]
  rfl
theorem rdP_set_ne (l : List (S60)) (k j : Nat) (x : S60) (h : k ≠ j) : rd_T60 (l.set k x) (j : Int) = rd_T60 l (j : Int) := by
  unfold rd_T60
  rw [Int.toNat_natCast, List.getD_eq_getElem?_getD, List.getD_eq_getElem?_getD, List.getElem?_set_ne h]
theorem twice_bad (l : List (S60)) (k : Nat) (h1 : 1 ≤ k) (h : k < l.length) : promosOk (twice l k) = false := by
  cases hb : promosOk (twice l k) with
  | false => rfl
  | true =>
    exfalso
    unfold promosOk at hb
    simp only [Bool.and_eq_true] at hb
    have h2 := allTo_iff.1 hb.2 k (by rw [twice_len]; exact h)
    simp only [Bool.and_eq_true] at h2
    have h3 := h2.2
    have e1 : rd_T60 (twice l k) (k : Int) = { rd_T60 l (k : Int) with f0 := (rd_T60 l ((k - 1 : Nat) : Int)).f0 } := by unfold twice; exact rdP_set_eq l k _ h
    have e2 : rd_T60 (twice l k) ((k - 1 : Nat) : Int) = rd_T60 l ((k - 1 : Nat) : Int) := by unfold twice; exact rdP_set_ne l k (k - 1) _ (by omega)
    unfold anyId at h3
    rw [Bool.not_not] at h3
    have h4 := allTo_iff.1 h3 (k - 1) (by omega)
    unfold sameId at h4
    rw [e1, e2] at h4
    simp at h4
def csS : List ByteArray := [⟨#[97]⟩, ⟨#[98]⟩, ⟨#[99]⟩, ⟨#[100]⟩, ⟨#[101]⟩]
theorem cs_ok : ∀ q, q < 3 → promo_Codes.f 40 (csS.take (3 + q)) = some (decide (((3 + q : Nat) : Int) ≤ 4))
  | 0, _ => by decide +kernel
  | 1, _ => by decide +kernel
  | 2, _ => by decide +kernel
def pt0 : S65 := ⟨⟨[], []⟩, 0⟩
def pts (n : Nat) : Nat → List (S65)
  | 0 => List.replicate n pt0
  | i + 1 => (pts n i).set i { (pts n i).getD i z65 with f1 := 1 }
theorem pts_len (n : Nat) : ∀ i, (pts n i).length = n
  | 0 => by simp [pts]
  | i + 1 => by rw [pts, List.length_set, pts_len n i]
def bunS (q : Nat) : S60 := ⟨⟨#[97]⟩, 4, 0, ⟨#[]⟩, ⟨#[]⟩, false, ⟨[], []⟩, 0, 0, 0, 0, 0, pts (2 + q) (2 + q), []⟩
theorem bun_ok : ∀ q, q < 3 → promoOk (bunS q) = decide (((2 + q : Nat) : Int) ≤ 3)
  | 0, _ => by decide +kernel
  | 1, _ => by decide +kernel
  | 2, _ => by decide +kernel
def tis : Nat → List (S67)
  | 0 => []
  | j + 1 => tis j ++ [⟨(j : Int), 0, 1⟩]
theorem tis_len : ∀ j, (tis j).length = j
  | 0 => rfl
  | j + 1 => by rw [tis, List.length_append, tis_len j]; rfl
def cntS (q : Nat) : S60 := ⟨⟨#[97]⟩, 6, 0, ⟨#[]⟩, ⟨#[]⟩, false, ⟨[], []⟩, 0, 0, 0, 0, 0, [], tis (5 + q)⟩
theorem cnt_ok : ∀ q, q < 3 → promoOk (cntS q) = decide (((5 + q : Nat) : Int) ≤ 6)
  | 0, _ => by decide +kernel
  | 1, _ => by decide +kernel
  | 2, _ => by decide +kernel
end Go.Proofs.Ytdmeepjefccpgaa.PMn
