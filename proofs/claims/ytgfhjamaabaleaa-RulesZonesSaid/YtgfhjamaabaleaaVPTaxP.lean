/- A tax near to a raw one, and the names of zones and categories: what the printed functions of play come to; it may be. Plain Lean. -/
import Derived.Test.YtgfhjamaabaleaaVTaxP
import Derived.Test.YtgfhjamaabaleaaVModP
import Derived.Test.YtgfhjamaabaleaaVRwPTax
set_option linter.unusedVariables false
namespace Go.Proofs.Ytgfhjamaabaleaa.PX
open Go Go.RowKit Go.Proofs.YtgfhjamaabaleaaW.PrintWords Go.Proofs.YtgfhjamaabaleaaW.PrintMore Go.Proofs.Ytgfhjamaabaleaa.Rw Go.Proofs.Ytgfhjamaabaleaa.EP Go.Proofs.Ytgfhjamaabaleaa.NP Go.Proofs.Ytgfhjamaabaleaa.XP
open Go.Proofs.Ytgfhjamaabaleaa.MP (md md_range mod_f mod64_f)

def catN (n : Nat) : ByteArray := strOfNums [(120 + ((n : Int) % 256)) % 256]
def zonN (n : Nat) : ByteArray := (⟨#[122]⟩ : ByteArray) ++ strOfNums [(48 + ((n : Int) % 256)) % 256]
theorem cat_f (a : Int) : haberdashplay_Category.f a = some (catN (md a 3).toNat) := by
  unfold haberdashplay_Category.f catN
  rw [mod_f _ _ (by omega) (by omega)]
  have := md_range a 3 (by omega)
  rw [Option.bind_some, Int.toNat_of_nonneg this.1]
theorem zone_size (n : Nat) (h : n < 3) : (zonN n).size = 2 ∧ 1 + (strOfNums [(48 + ((n : Int) % 256)) % 256]).size ≤ 9223372036854775807 := by
  have : n = 0 ∨ n = 1 ∨ n = 2 := by omega
  rcases this with rfl | rfl | rfl <;> decide +kernel
theorem zone_f (a : Int) : haberdashplay_Zone.f a = some (zonN (md a 3).toNat) := by
  unfold haberdashplay_Zone.f zonN
  rw [mod_f _ _ (by omega) (by omega)]
  have := md_range a 3 (by omega)
  have hs := (zone_size (md a 3).toNat (by omega)).2
  rw [Int.toNat_of_nonneg this.1] at hs ⊢
  simp only [Option.bind_some]
  rw [if_pos hs]
/-- The c-th rate of a zone that comes in, brought near. -/
def crOf (l : List CR) (c : Nat) : CR := ⟨catN c, md (l.getD c zC).f1 3000⟩
def crsOf (l : List CR) : List CR := (List.range (min 3 l.length)).map (crOf l)
def znOf (l : List Zn) (j : Nat) : Zn := if j < l.length then ⟨zonN j, crsOf (l.getD j zZ).f1, md (l.getD j zZ).f2 3000, md (l.getD j zZ).f3 3000⟩ else ⟨zonN j, [], 1000 * j, 500 * j⟩
def zns (l : List Zn) : List Zn := (List.range 3).map (znOf l)
theorem md_small (c : Nat) (h : c < 3) : (md (c : Int) 3).toNat = c := by
  unfold md
  rw [MP.u64_ok (by omega) (by omega), Int.emod_eq_of_lt (by omega) (by omega)]
  omega
theorem ptax_f (i o : Bool) (k : Int) (l : List Zn) (hl : l.length ≤ 9223372036854775807) (hr : ∀ z ∈ l, z.f1.length ≤ 9223372036854775807) : Ev (fun n => haberdashplay_Tax.f n i o k l) (i, o, md k 3, zns l) := by
  unfold haberdashplay_Tax.f
  rw [mod_f _ _ (by omega) (by omega)]
  simp only [Option.bind_some]
  have hzl : (zns l).length = 3 := by simp [zns]
  have := walk_ev (F := fun n j => haberdashplay_Tax.l0 n (j : Int) i o k l i o (md k 3) ((zns l).take j)) (n := 3) (r := (i, o, md k 3, zns l))
    (Ev.step (fun n => by rw [haberdashplay_Tax.l0, if_neg (by omega), List.take_of_length_le (by omega)]) (Ev.now _))
    (fun j hj r hr2 => by
      have hs := (zone_size j hj).2
      have hz0 : ((⟨#[122]⟩ : ByteArray) ++ strOfNums [(48 + ((j : Int) % 256)) % 256]) = zonN j := rfl
      have hc : ((zns l).take j).length < 2513169434916 := by rw [List.length_take]; omega
      refine Ev.step (fun n => by rw [haberdashplay_Tax.l0, if_pos (by omega)]) ?_
      simp only [Option.bind_some, if_pos hs, hz0, next j (by omega)]
      have hnx : ∀ z, z = znOf l j → (zns l).take j ++ [z] = (zns l).take (j + 1) := by
        rintro z rfl
        rw [List.take_succ_eq_append_getElem (by omega)]
        simp [zns]
      by_cases hjl : j < l.length
      · simp only [if_pos (show (j : Int) < (l.length : Int) by omega), if_pos (show (0 : Int) ≤ (j : Int) by omega), rdZ_d, mod64_f _ _ (show (0 : Int) < 3000 by omega) (by omega), Option.bind_some]
        have hz : l.getD j zZ ∈ l := getD_mem hjl
        have hrl := hr _ hz
        generalize hq : l.getD j zZ = q at hrl ⊢
        have hcl : (crsOf q.f1).length = min 3 q.f1.length := by simp [crsOf]
        have hloop := walk_ev (F := fun n c => haberdashplay_Tax.l1 n (j : Int) (c : Int) i o k l i o (md k 3) ((zns l).take j) (zonN j) ((crsOf q.f1).take c) (md q.f2 3000) (md q.f3 3000)) (n := min 3 q.f1.length) (r := r)
          (by
            have hfin : Ev (fun n => haberdashplay_Tax.j2 n (j : Int) ((min 3 q.f1.length : Nat) : Int) false i o k l i o (md k 3) ((zns l).take j) (zonN j) ((crsOf q.f1).take (min 3 q.f1.length)) (md q.f2 3000) (md q.f3 3000)) r := by
              refine Ev.step (fun n => by rw [haberdashplay_Tax.j2, if_neg (by simp), if_pos hc, next j (by omega), List.take_of_length_le (l := crsOf q.f1) (by omega)]) ?_
              rw [hnx ⟨zonN j, crsOf q.f1, md q.f2 3000, md q.f3 3000⟩ (by unfold znOf; rw [if_pos hjl, hq])]
              exact hr2
            by_cases h3 : q.f1.length < 3
            · have e : min 3 q.f1.length = q.f1.length := by omega
              rw [e] at hfin ⊢
              refine Ev.step (fun n => by rw [haberdashplay_Tax.l1, if_pos (by omega), if_pos (by omega), if_pos (by omega), rdZ_d, hq, decide_eq_false (by omega)]) hfin
            · have e : min 3 q.f1.length = 3 := by omega
              rw [e] at hfin ⊢
              refine Ev.step (fun n => by rw [haberdashplay_Tax.l1, if_neg (by omega)]) hfin)
          (fun c hc2 r2 hr3 => by
            have hcq : c < q.f1.length := by omega
            refine Ev.step (fun n => by rw [haberdashplay_Tax.l1, if_pos (by omega), if_pos (by omega), if_pos (by omega), rdZ_d, hq, decide_eq_true (show (c : Int) < (q.f1.length : Int) by omega)]) ?_
            have hca : ((crsOf q.f1).take c).length < 5864062014805 := by rw [List.length_take]; omega
            refine Ev.step (fun n => by rw [haberdashplay_Tax.j2, if_pos rfl, cat_f, md_small c (by omega), Option.bind_some, if_pos (by omega), if_pos (by omega), if_pos (by omega), rdZ_d, hq, if_pos (by omega), rdC_d, mod64_f _ _ (by omega) (by omega), Option.bind_some, if_pos hca, next c (by omega)]) ?_
            have e : (crsOf q.f1).take c ++ [(⟨catN c, md (q.f1.getD c zC).f1 3000⟩ : CR)] = (crsOf q.f1).take (c + 1) := by
              rw [List.take_succ_eq_append_getElem (by omega)]
              simp [crsOf, crOf]
            rw [e]
            exact hr3)
        simpa using hloop
      · simp only [if_neg (show ¬ (j : Int) < (l.length : Int) by omega), if_pos hc]
        rw [wrap_ok (by omega) (by omega), wrap_ok (by omega) (by omega), hnx _ (by unfold znOf; rw [if_neg hjl])]
        exact hr2)
  simpa using this

theorem names_ok (n : Nat) (h : n < 3) : nameOk (catN n) = true ∧ nameOk (zonN n) = true := by
  have : n = 0 ∨ n = 1 ∨ n = 2 := by omega
  rcases this with rfl | rfl | rfl <;> decide +kernel
theorem cats_up (n : Nat) (h : n < 3) : upAt [catN 0, catN 1, catN 2] n = true ∧ upAt [zonN 0, zonN 1, zonN 2] n = true := by
  have : n = 0 ∨ n = 1 ∨ n = 2 := by omega
  rcases this with rfl | rfl | rfl <;> decide +kernel
theorem zon_ne (a b : Nat) (ha : a < 3) (hb : b < 3) : (zonN a).toList = (zonN b).toList ↔ a = b := by
  have h1 : a = 0 ∨ a = 1 ∨ a = 2 := by omega
  have h2 : b = 0 ∨ b = 1 ∨ b = 2 := by omega
  rcases h1 with rfl | rfl | rfl <;> rcases h2 with rfl | rfl | rfl <;> decide +kernel
theorem rise_take (l m : List ByteArray) (h : rise m = true) (hl : ∃ k, l = m.take k) : rise l = true := by
  obtain ⟨k, rfl⟩ := hl
  unfold rise at h ⊢
  rw [allTo_iff] at h ⊢
  intro i hi
  rw [List.length_take] at hi
  have := h i (by omega)
  unfold upAt at this ⊢
  rcases Nat.eq_zero_or_pos i with h0 | h0
  · simp [h0]
  · rw [decide_eq_false (by omega), Bool.false_or] at this ⊢
    simp only [List.getD_eq_getElem?_getD, List.getElem?_take] at this ⊢
    rw [if_pos (by omega), if_pos (by omega)]
    exact this
theorem crs_ok (l : List CR) : ratesOk (crsOf l) = true ∧ (crsOf l).length ≤ 3 := by
  have hlen : (crsOf l).length = min 3 l.length := by simp [crsOf]
  refine ⟨?_, by omega⟩
  unfold ratesOk
  rw [Bool.and_eq_true]
  refine ⟨allTo_iff.2 fun j hj => ?_, rise_take _ [catN 0, catN 1, catN 2] (by unfold rise; exact allTo_iff.2 fun j hj => (cats_up j (by simpa using hj)).1) ⟨min 3 l.length, ?_⟩⟩
  · have hg : (crsOf l).getD j zC = crOf l j := by simp [crsOf, show j < min 3 l.length by omega]
    rw [hg, Bool.and_eq_true]
    have := md_range (l.getD j zC).f1 3000 (by omega)
    exact ⟨(names_ok j (by omega)).1, rateOk_iff.2 ⟨this.1, by show md _ 3000 ≤ _; omega⟩⟩
  · unfold crsOf
    rw [List.map_map]
    have h3 : l.length = 0 ∨ l.length = 1 ∨ l.length = 2 ∨ 3 ≤ l.length := by omega
    rcases h3 with h | h | h | h
    · rw [h]; rfl
    · rw [h]; rfl
    · rw [h]; rfl
    · rw [Nat.min_eq_left h]; rfl
theorem zns_ok (k : Int) (l : List Zn) : taxOk (md k 3) (zns l) = true := by
  unfold taxOk
  have hk := md_range k 3 (by omega)
  have hzl : (zns l).length = 3 := by simp [zns]
  rw [decide_eq_true hk.1, decide_eq_true (show md k 3 ≤ 2 by omega), hzl]
  simp only [Bool.true_and]
  rw [Bool.and_eq_true, Bool.and_eq_true]
  refine ⟨by decide, allTo_iff.2 fun j hj => ?_, ?_⟩
  · have hg : (zns l).getD j zZ = znOf l j := by simp [zns, hj]
    rw [hg]
    unfold znOf zoneOk
    have hn := (names_ok j hj).2
    split
    · have h1 := md_range (l.getD j zZ).f2 3000 (by omega)
      have h2 := md_range (l.getD j zZ).f3 3000 (by omega)
      have h3 := crs_ok (l.getD j zZ).f1
      show (nameOk (zonN j) && (rateOk (md (l.getD j zZ).f2 3000) && (rateOk (md (l.getD j zZ).f3 3000) && (decide ((crsOf (l.getD j zZ).f1).length ≤ 40) && ratesOk (crsOf (l.getD j zZ).f1))))) = true
      rw [hn, rateOk_iff.2 ⟨h1.1, by omega⟩, rateOk_iff.2 ⟨h2.1, by omega⟩, decide_eq_true (show _ ≤ 40 by omega), h3.1]
      rfl
    · show (nameOk (zonN j) && (rateOk (1000 * (j : Int)) && (rateOk (500 * (j : Int)) && (decide (([] : List CR).length ≤ 40) && ratesOk [])))) = true
      rw [hn, rateOk_iff.2 ⟨by omega, by omega⟩, rateOk_iff.2 ⟨by omega, by omega⟩]
      rfl
  · unfold rise
    rw [show (zns l).map (·.f0) = [zonN 0, zonN 1, zonN 2] from by
      unfold zns
      rw [List.map_map]
      have : ∀ j, (znOf l j).f0 = zonN j := fun j => by unfold znOf; split <;> rfl
      show [(znOf l 0).f0, (znOf l 1).f0, (znOf l 2).f0] = _
      rw [this, this, this]]
    exact allTo_iff.2 fun j hj => (cats_up j (by simpa using hj)).2
theorem zone_there (l : List Zn) (m : Nat) (hm : m < 3) : zoneAt (zns l) (zonN m) = some (znOf l m) := by
  have hf : ∀ j, (znOf l j).f0 = zonN j := fun j => by unfold znOf; split <;> rfl
  have hg : ∀ j, j < 3 → (zns l).getD j zZ = znOf l j := fun j hj => by simp [zns, hj]
  unfold zoneAt
  have hzl : (zns l).length = 3 := by simp [zns]
  rw [hzl]
  have h1 : m = 0 ∨ m = 1 ∨ m = 2 := by omega
  have e : (List.range 3).find? (fun j => decide (((zns l).getD j zZ).f0.toList = (zonN m).toList)) = some m := by
    have d0 : decide (((zns l).getD 0 zZ).f0.toList = (zonN m).toList) = decide (0 = m) := by rw [hg 0 (by omega), hf, Bool.eq_iff_iff, decide_eq_true_eq, decide_eq_true_eq, zon_ne 0 m (by omega) hm]
    have d1 : decide (((zns l).getD 1 zZ).f0.toList = (zonN m).toList) = decide (1 = m) := by rw [hg 1 (by omega), hf, Bool.eq_iff_iff, decide_eq_true_eq, decide_eq_true_eq, zon_ne 1 m (by omega) hm]
    have d2 : decide (((zns l).getD 2 zZ).f0.toList = (zonN m).toList) = decide (2 = m) := by rw [hg 2 (by omega), hf, Bool.eq_iff_iff, decide_eq_true_eq, decide_eq_true_eq, zon_ne 2 m (by omega) hm]
    show [0, 1, 2].find? _ = _
    simp only [List.find?_cons, d0, d1, d2]
    rcases h1 with rfl | rfl | rfl <;> rfl
  rw [e]
  simp only [Option.map_some]
  rw [hg m hm]
end Go.Proofs.Ytgfhjamaabaleaa.PX
