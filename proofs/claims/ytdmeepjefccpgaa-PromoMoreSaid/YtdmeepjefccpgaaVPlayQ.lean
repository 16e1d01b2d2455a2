/- play.Promos: promos near to raw ones may be together. Plain Lean. -/
import Derived.Test.YtdmeepjefccpgaaVPlayP2
import Derived.Test.YtdmeepjefccpgaaVRulesP
import Derived.Test.YtdmeepjefccpgaaVRwPlQ
set_option linter.unusedVariables false
set_option linter.unusedSimpArgs false
namespace Go.Proofs.Ytdmeepjefccpgaa.RU
open Go Go.RowKit Go.Proofs.YtdmeepjefccpgaaW.PrintWords Go.Proofs.YtdmeepjefccpgaaW.PrintMore Go.Proofs.Ytdmeepjefccpgaa.Rw Go.Proofs.Ytdmeepjefccpgaa.EP Go.Proofs.Ytdmeepjefccpgaa.NP
open Go.Proofs.Ytdmeepjefccpgaa.PP (Ex pick_x skuN catN sku_ok cat_ok fitL okR okI promo_x dig dig_ok md_small)
open Go.Proofs.Ytdmeepjefccpgaa.MP (md md_range mod_f mod64_f)
def idN (j : Nat) : ByteArray := (⟨#[112]⟩ : ByteArray) ++ dig ((j * 7 + 3) % 10)
theorem idN_f (i : Nat) (h : i < 6) : haberdashplay_Id.f (Int.tmod (wrap64 ((wrap64 ((i : Int) * 7)) + 3)) 10) = some (idN i) ∧ nameOk (idN i) = true := by
  have e : Int.tmod (wrap64 ((wrap64 ((i : Int) * 7)) + 3)) 10 = (((i * 7 + 3) % 10 : Nat) : Int) := by
    rw [MP.wrap_ok (x := (i : Int) * 7) (by omega) (by omega), MP.wrap_ok (by omega) (by omega), Int.tmod_eq_emod_of_nonneg (by omega)]
    omega
  have hd := dig_ok 112 (by simp) ((i * 7 + 3) % 10) (by omega)
  refine ⟨?_, hd.1⟩
  rw [e]
  unfold haberdashplay_Id.f
  rw [mod_f _ _ (by omega) (by omega), show md (((i * 7 + 3) % 10 : Nat) : Int) 10 = (((i * 7 + 3) % 10 : Nat) : Int) from md_small (m := 10) (by omega) (by omega)]
  have h2 := hd.2
  unfold dig at h2
  simp only [Option.bind_some]
  rw [if_pos h2]
  rfl
theorem idN_ne : ∀ a, a < 6 → ∀ b, b < a → ¬ (idN b).toList = (idN a).toList := by decide +kernel
theorem rdM_left (l : List Pm) (t : Pm) (j : Nat) (h : j < l.length) : rd_T60 (l ++ [t]) (j : Int) = rd_T60 l (j : Int) := by
  unfold rd_T60
  rw [Int.toNat_natCast, List.getD_eq_getElem?_getD, List.getD_eq_getElem?_getD, List.getElem?_append_left h]
theorem rdM_last (l : List Pm) (t : Pm) : rd_T60 (l ++ [t]) (l.length : Int) = t := by simp [rd_T60]
def PInv (x : List Pm) : Prop := ∀ j, j < x.length → pmOk (rd_T60 x (j : Int)) = true ∧ (rd_T60 x (j : Int)).f0 = idN j
theorem PInv.snoc {x : List Pm} (h : PInv x) (t : Pm) (h1 : pmOk t = true) (h2 : t.f0 = idN x.length) : PInv (x ++ [t]) := by
  intro j hj
  rw [List.length_append, List.length_singleton] at hj
  rcases Nat.lt_or_ge j x.length with hlt | hge
  · rw [rdM_left x t j hlt]; exact h j hlt
  · obtain rfl : j = x.length := by omega
    rw [rdM_last]; exact ⟨h1, h2⟩
theorem PInv.ok {x : List Pm} (h : PInv x) (h6 : x.length ≤ 6) : pmsOk x = true := by
  unfold pmsOk
  rw [decide_eq_true (show x.length ≤ 60 by omega), Bool.true_and, allTo_iff]
  intro i hi
  unfold pmAt
  rw [(h i hi).1, Bool.true_and, allTo_iff]
  intro j hj
  rw [(h i hi).2, (h j (by omega)).2, decide_eq_false (idN_ne i (by omega) j hj)]
  rfl
theorem promos_x (l : List Pm) (hl : l.length ≤ 9223372036854775807) (hf : ∀ i, i < l.length → fitPm (rd_T60 l (i : Int))) : Ex (fun k => haberdashplay_Promos.f k l) (fun r => PInv r ∧ r.length ≤ 6) := by
  unfold haberdashplay_Promos.f
  have key : ∀ (d i : Nat) (x : List Pm), i + d = 6 → i ≤ l.length → x.length = i → PInv x → Ex (fun k => haberdashplay_Promos.l0 k l x (i : Int)) (fun r => PInv r ∧ r.length ≤ 6) := by
    intro d
    induction d with
    | zero =>
      intro i x hi hil hx hP
      by_cases hlt : (i : Int) < (l.length : Int)
      · exact Ex.step (fun k => by rw [haberdashplay_Promos.l0, if_pos hlt, if_neg (by omega)]) (Ex.now ⟨hP, by omega⟩)
      · exact Ex.step (fun k => by rw [haberdashplay_Promos.l0, if_neg hlt]) (Ex.now ⟨hP, by omega⟩)
    | succ d ih =>
      intro i x hi hil hx hP
      by_cases hlt : (i : Int) < (l.length : Int)
      rotate_left
      · exact Ex.step (fun k => by rw [haberdashplay_Promos.l0, if_neg hlt]) (Ex.now ⟨hP, by omega⟩)
      refine Ex.step (fun k => by rw [haberdashplay_Promos.l0, if_pos hlt, if_pos (by omega), if_pos (by omega), next i (by omega)]) ?_
      have h := hf i (by omega)
      have hid := idN_f i (by omega)
      refine Ex.bind (promo_x (rd_T60 l (i : Int)).f0 (rd_T60 l (i : Int)).f1 (rd_T60 l (i : Int)).f2 (rd_T60 l (i : Int)).f3 (rd_T60 l (i : Int)).f4 (rd_T60 l (i : Int)).f5 (rd_T60 l (i : Int)).f6.f0 (rd_T60 l (i : Int)).f6.f1 (rd_T60 l (i : Int)).f7 (rd_T60 l (i : Int)).f8 (rd_T60 l (i : Int)).f9 (rd_T60 l (i : Int)).f10 (rd_T60 l (i : Int)).f11 (rd_T60 l (i : Int)).f12 (rd_T60 l (i : Int)).f13 _ (idN i) hid.1 hid.2 h.2.1 h.2.2.1 h.2.2.2.1 h.2.2.2.2.1 h.2.2.2.2.2.1 h.2.2.2.2.2.2.1 h.2.2.2.2.2.2.2) (fun r hr => ?_)
      simp only [if_pos (show x.length < 676622540169 by omega)]
      exact ih (i + 1) _ (by omega) (by omega) (by rw [List.length_append, List.length_singleton, hx]) (hP.snoc _ hr.1 (by rw [hx]; exact hr.2))
  exact key 6 0 [] rfl (Nat.zero_le _) rfl (fun j hj => absurd hj (Nat.not_lt_zero _))
end Go.Proofs.Ytdmeepjefccpgaa.RU
