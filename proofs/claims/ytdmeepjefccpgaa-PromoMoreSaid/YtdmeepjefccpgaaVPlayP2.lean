/- play.Promo: a promo near to a raw one may be (as the reference says). Plain Lean. -/
import Derived.Test.YtdmeepjefccpgaaVPlayP
set_option linter.unusedVariables false
set_option linter.unusedSimpArgs false
namespace Go.Proofs.Ytdmeepjefccpgaa.PP
open Go Go.RowKit Go.Proofs.YtdmeepjefccpgaaW.PrintWords Go.Proofs.YtdmeepjefccpgaaW.PrintMore Go.Proofs.Ytdmeepjefccpgaa.Rw Go.Proofs.Ytdmeepjefccpgaa.EP Go.Proofs.Ytdmeepjefccpgaa.NP
open Go.Proofs.Ytdmeepjefccpgaa.MP (md md_range mod_f mod64_f)
abbrev Pt := S65
abbrev PR := ByteArray × Int × Int × ByteArray × ByteArray × Bool × List ByteArray × List ByteArray × Int × Int × Int × Int × Int × (List Pt) × (List Tr)
def okR (r : PR) : Prop := refOk r.1 r.2.1 r.2.2.1 r.2.2.2.1 r.2.2.2.2.1 r.2.2.2.2.2.1 r.2.2.2.2.2.2.1 r.2.2.2.2.2.2.2.1 r.2.2.2.2.2.2.2.2.1 r.2.2.2.2.2.2.2.2.2.1 r.2.2.2.2.2.2.2.2.2.2.1 r.2.2.2.2.2.2.2.2.2.2.2.1 r.2.2.2.2.2.2.2.2.2.2.2.2.1 r.2.2.2.2.2.2.2.2.2.2.2.2.2.1 r.2.2.2.2.2.2.2.2.2.2.2.2.2.2 = true
def okI (id : ByteArray) (r : PR) : Prop := okR r ∧ r.1 = id
theorem rdP_left (l : List Pt) (t : Pt) (j : Nat) (h : j < l.length) : rd_T65 (l ++ [t]) (j : Int) = rd_T65 l (j : Int) := by
  unfold rd_T65
  rw [Int.toNat_natCast, List.getD_eq_getElem?_getD, List.getD_eq_getElem?_getD, List.getElem?_append_left h]
theorem rdP_last (l : List Pt) (t : Pt) : rd_T65 (l ++ [t]) (l.length : Int) = t := by simp [rd_T65]
theorem parts_snoc (l : List Pt) (t : Pt) (hl : allTo (fun i => partOk (rd_T65 l (i : Int))) l.length = true) (ht : partOk t = true) : allTo (fun i => partOk (rd_T65 (l ++ [t]) (i : Int))) (l ++ [t]).length = true := by
  rw [allTo_iff] at hl ⊢
  intro i hi
  rw [List.length_append, List.length_singleton] at hi
  rcases Nat.lt_or_ge i l.length with h | h
  · rw [rdP_left l t i h]; exact hl i h
  · obtain rfl : i = l.length := by omega
    rw [rdP_last]; exact ht
/-- The head may be. -/
def HD (id : ByteArray) (pr : Int) (g c : ByteArray) (s6 s7 : List ByteArray) (le : Int) : Prop := nameOk id = true ∧ (0 ≤ pr ∧ pr ≤ 1000) ∧ namedOk g = true ∧ namedOk c = true ∧ scopeOk s6 s7 = true ∧ (0 ≤ le ∧ le ≤ 10000000000000)
theorem scope_nil : scopeOk [] [] = true := by decide +kernel
theorem HD.bare {id : ByteArray} {pr : Int} {g c : ByteArray} {s6 s7 : List ByteArray} {le : Int} (h : HD id pr g c s6 s7 le) : HD id pr g c [] [] le := ⟨h.1, h.2.1, h.2.2.1, h.2.2.2.1, scope_nil, h.2.2.2.2.2⟩
theorem okR_of {id : ByteArray} {k pr : Int} {g c : ByteArray} {cl : Bool} {s6 s7 : List ByteArray} {le a9 a10 a11 a12 : Int} {l13 : List Pt} {l14 : List Tr} (h : HD id pr g c s6 s7 le) (hk : 1 ≤ k ∧ k ≤ 7) (hr : kindR k cl s6.length s7.length a9 a10 a11 a12 l13 l14 = true)  : okI id (id, k, pr, g, c, cl, s6, s7, le, a9, a10, a11, a12, l13, l14) := by
  refine ⟨?_, rfl⟩
  show refOk id k pr g c cl s6 s7 le a9 a10 a11 a12 l13 l14 = true
  unfold refOk
  rw [h.1, h.2.2.1, h.2.2.2.1, h.2.2.2.2.1, hr, decide_eq_true hk.1, decide_eq_true hk.2, decide_eq_true h.2.1.1, decide_eq_true h.2.1.2, decide_eq_true h.2.2.2.2.2.1, decide_eq_true h.2.2.2.2.2.2]
  rfl
theorem rate_ok {a : Int} (h : 0 ≤ a ∧ a < 10000) : rateOk (1 + a) = true := by unfold rateOk; rw [decide_eq_true (by omega), decide_eq_true (by omega)]; rfl
theorem w1 {a m : Int} (h : 0 ≤ a ∧ a < m) (hm : m ≤ 10000) : wrap64 (1 + a) = 1 + a := MP.wrap_ok (by omega) (by omega)
theorem l0_x (o0 : ByteArray) (o1 : Int) (o2 : Int) (o3 : ByteArray) (o4 : ByteArray) (o5 : Bool) (o6 : List ByteArray) (o7 : List ByteArray) (o8 : Int) (o9 : Int) (o10 : Int) (o11 : Int) (o12 : Int) (o13 : List (S65)) (o14 : List (S67)) (hl : o13.length ≤ 9223372036854775807) (hp : ∀ i, i < o13.length → fitP (rd_T65 o13 (i : Int))) (id : ByteArray) (pr : Int) (g c : ByteArray) (cl : Bool) (s6 s7 : List ByteArray) (least am : Int) (h : HD id pr g c s6 s7 least) (ham : 0 ≤ am ∧ am < 3000) :
    Ex (fun n => haberdashplay_Promo.l0 n 0 o0 o1 o2 o3 o4 o5 o6 o7 o8 o9 o10 o11 o12 o13 o14 id 4 pr g c cl least 0 am 0 0 ([] : List Pt)) (okI id) := by
  have fin : ∀ (i : Nat) (ps : List Pt), ps.length ≤ 3 → allTo (fun i => partOk (rd_T65 ps (i : Int))) ps.length = true → Ex (fun n => haberdashplay_Promo.j4 n (i : Int) false o0 o1 o2 o3 o4 o5 o6 o7 o8 o9 o10 o11 o12 o13 o14 id 4 pr g c cl least 0 am 0 0 ps) (okI id) := by
    intro i ps h3 hall
    refine Ex.step (fun n => by rw [haberdashplay_Promo.j4, if_neg (by simp)]) ?_
    by_cases hz : (ps.length : Int) = 0
    · simp only [if_pos hz]
      refine Ex.now (okR_of h.bare (by omega) ?_)
      unfold kindR
      simp only [show ¬ (4 : Int) = 1 by omega, show ¬ (4 : Int) = 2 by omega, show ¬ (4 : Int) = 3 by omega, if_true, if_false]
      rw [decide_eq_true ham.1, decide_eq_true (show am ≤ 10000000000000 by omega)]
      decide +kernel
    · simp only [if_neg hz]
      refine Ex.now (okR_of h.bare (by omega) ?_)
      unfold kindR partsOk
      simp only [show ¬ (4 : Int) = 1 by omega, show ¬ (4 : Int) = 2 by omega, show ¬ (4 : Int) = 3 by omega, if_true, if_false]
      rw [hall, decide_eq_true ham.1, decide_eq_true (show am ≤ 10000000000000 by omega), decide_eq_true (show 1 ≤ ps.length by omega), decide_eq_true h3]
      rfl
  have key : ∀ (d i : Nat) (ps : List Pt), i + d = 3 → i ≤ o13.length → ps.length = i → allTo (fun i => partOk (rd_T65 ps (i : Int))) ps.length = true → Ex (fun n => haberdashplay_Promo.l0 n (i : Int) o0 o1 o2 o3 o4 o5 o6 o7 o8 o9 o10 o11 o12 o13 o14 id 4 pr g c cl least 0 am 0 0 ps) (okI id) := by
    intro d
    induction d with
    | zero =>
      intro i ps hi hil hps hall
      by_cases hlt : (i : Int) < (o13.length : Int)
      · exact Ex.step (fun n => by rw [haberdashplay_Promo.l0, if_pos hlt, decide_eq_false (by omega)]) (fin i ps (by omega) hall)
      · exact Ex.step (fun n => by rw [haberdashplay_Promo.l0, if_neg hlt]) (fin i ps (by omega) hall)
    | succ d ih =>
      intro i ps hi hil hps hall
      by_cases hlt : (i : Int) < (o13.length : Int)
      · refine Ex.step (fun n => by rw [haberdashplay_Promo.l0, if_pos hlt, decide_eq_true (by omega)]) ?_
        refine Ex.step (fun n => by rw [haberdashplay_Promo.j4, if_pos rfl, if_pos (by omega), if_pos (by omega)]) ?_
        have hf := hp i (by omega)
        refine Ex.bind (scope_x _ _ hf.1 hf.2) (fun r hr => ?_)
        rw [mod_f _ _ (by omega) (by omega)]
        have m1 := md_range (rd_T65 o13 (i : Int)).f1 2 (by omega)
        simp only [Option.bind_some, if_pos (show ps.length < 2513169434916 by omega)]
        generalize md (rd_T65 o13 (i : Int)).f1 2 = q at m1
        rw [w1 m1 (by omega), next i (by omega)]
        refine ih (i + 1) _ (by omega) (by omega) (by rw [List.length_append, List.length_singleton, hps]) (parts_snoc ps _ hall ?_)
        unfold partOk
        rw [hr, decide_eq_true (show 1 ≤ 1 + q by omega), decide_eq_true (show 1 + q ≤ 100 by omega)]
        rfl
      · exact Ex.step (fun n => by rw [haberdashplay_Promo.l0, if_neg hlt]) (fin i ps (by omega) hall)
  exact key 3 0 [] rfl (Nat.zero_le _) rfl rfl
theorem j2_x (o0 : ByteArray) (o1 : Int) (o2 : Int) (o3 : ByteArray) (o4 : ByteArray) (o5 : Bool) (o6 : List ByteArray) (o7 : List ByteArray) (o8 : Int) (o9 : Int) (o10 : Int) (o11 : Int) (o12 : Int) (o13 : List (S65)) (o14 : List (S67)) (hl : o13.length ≤ 9223372036854775807) (hl14 : o14.length ≤ 9223372036854775807) (hp : ∀ i, i < o13.length → fitP (rd_T65 o13 (i : Int))) (id : ByteArray) (K pr : Int) (g c : ByteArray) (cl : Bool) (s6 s7 : List ByteArray) (least : Int) (h : HD id pr g c s6 s7 least) (hK : 1 ≤ K ∧ K ≤ 7) :
    Ex (fun n => haberdashplay_Promo.j2 n o0 o1 o2 o3 o4 o5 o6 o7 o8 o9 o10 o11 o12 o13 o14 id K pr g c cl s6 s7 least 0 0 0 0) (okI id) := by
  refine Ex.step (fun n => by rw [haberdashplay_Promo.j2]) ?_
  by_cases h1 : K = 1
  · subst h1
    simp only [if_true]
    rw [mod64_f _ _ (by omega) (by omega)]
    have m := md_range o9 10000 (by omega)
    simp only [Option.bind_some]
    rw [w1 m (by omega)]
    refine Ex.now (okR_of h (by omega) ?_)
    unfold kindR
    rw [if_pos rfl, rate_ok m]
    rfl
  simp only [if_neg h1]
  by_cases h2 : K = 2
  · subst h2
    simp only [if_true]
    rw [mod64_f _ _ (by omega) (by omega)]
    have m := md_range o10 900 (by omega)
    simp only [Option.bind_some]
    rw [w1 m (by omega)]
    refine Ex.now (okR_of h (by omega) ?_)
    unfold kindR amountOk
    rw [if_neg (by omega), if_pos rfl, decide_eq_true (show 1 ≤ 1 + md o10 900 by omega), decide_eq_true (show 1 + md o10 900 ≤ 1000000000 by omega)]
    rfl
  simp only [if_neg h2]
  by_cases h3 : K = 3
  · subst h3
    simp only [if_true]
    rw [mod64_f _ _ (by omega) (by omega), mod_f _ _ (by omega) (by omega), mod_f _ _ (by omega) (by omega)]
    have m := md_range o9 10000 (by omega)
    have m2 := md_range o11 3 (by omega)
    have m3 := md_range o12 2 (by omega)
    simp only [Option.bind_some]
    rw [w1 m (by omega), w1 m2 (by omega), w1 m3 (by omega)]
    refine Ex.now (okR_of h (by omega) ?_)
    unfold kindR
    rw [if_neg (by omega), if_neg (by omega), if_pos rfl, rate_ok m, decide_eq_true (show 1 ≤ 1 + md o11 3 by omega), decide_eq_true (show 1 + md o11 3 ≤ 100 by omega), decide_eq_true (show 1 ≤ 1 + md o12 2 by omega), decide_eq_true (show 1 + md o12 2 ≤ 100 by omega)]
    rfl
  simp only [if_neg h3]
  by_cases h4 : K = 4
  · subst h4
    simp only [if_true]
    rw [mod64_f _ _ (by omega) (by omega)]
    simp only [Option.bind_some]
    exact l0_x o0 o1 o2 o3 o4 o5 o6 o7 o8 o9 o10 o11 o12 o13 o14 hl hp id pr g c cl s6 s7 least _ h (md_range o10 3000 (by omega))
  simp only [if_neg h4]
  by_cases h5 : K = 5
  · subst h5
    simp only [if_true]
    refine Ex.bind (tiers_x o14 5000 (by omega) hl14) (fun r hr => Ex.now (okR_of h (by omega) ?_))
    unfold kindR
    rw [if_neg (by omega), if_neg (by omega), if_neg (by omega), if_neg (by omega), if_neg (by omega), hr]
    rfl
  simp only [if_neg h5]
  by_cases h6 : K = 6
  · subst h6
    simp only [if_true]
    refine Ex.bind (tiers_x o14 5 (by omega) hl14) (fun r hr => Ex.now (okR_of h (by omega) ?_))
    unfold kindR
    rw [if_neg (by omega), if_neg (by omega), if_neg (by omega), if_neg (by omega), if_neg (by omega), hr]
    rfl
  simp only [if_neg h6]
  obtain rfl : K = 7 := by omega
  rw [mod64_f _ _ (by omega) (by omega)]
  have m := md_range o9 10000 (by omega)
  simp only [Option.bind_some]
  rw [w1 m (by omega)]
  refine Ex.now (okR_of h.bare (by omega) ?_)
  unfold kindR
  rw [if_neg (by omega), if_neg (by omega), if_neg (by omega), if_neg (by omega), if_pos rfl, rate_ok m]
  rfl
theorem j1_x (o0 : ByteArray) (o1 : Int) (o2 : Int) (o3 : ByteArray) (o4 : ByteArray) (o5 : Bool) (o6 : List ByteArray) (o7 : List ByteArray) (o8 : Int) (o9 : Int) (o10 : Int) (o11 : Int) (o12 : Int) (o13 : List (S65)) (o14 : List (S67)) (hl : o13.length ≤ 9223372036854775807) (hl14 : o14.length ≤ 9223372036854775807) (hp : ∀ i, i < o13.length → fitP (rd_T65 o13 (i : Int))) (id : ByteArray) (K pr : Int) (g c : ByteArray) (cl : Bool) (s6 s7 : List ByteArray) (h : HD id pr g c s6 s7 0) (hK : 1 ≤ K ∧ K ≤ 7) :
    Ex (fun n => haberdashplay_Promo.j1 n o0 o1 o2 o3 o4 o5 o6 o7 o8 o9 o10 o11 o12 o13 o14 id K pr g c cl s6 s7 0 0 0 0 0) (okI id) := by
  refine Ex.step (fun n => by rw [haberdashplay_Promo.j1]) ?_
  rw [mod64_f _ _ (by omega) (by omega)]
  simp only [Option.bind_some]
  by_cases h1 : md o8 3 = 1
  · simp only [if_pos h1]
    rw [mod64_f _ _ (by omega) (by omega)]
    have m := md_range o8 9000 (by omega)
    simp only [Option.bind_some]
    exact j2_x o0 o1 o2 o3 o4 o5 o6 o7 o8 o9 o10 o11 o12 o13 o14 hl hl14 hp id K pr g c cl s6 s7 _ ⟨h.1, h.2.1, h.2.2.1, h.2.2.2.1, h.2.2.2.2.1, by omega⟩ hK
  · simp only [if_neg h1]
    exact j2_x o0 o1 o2 o3 o4 o5 o6 o7 o8 o9 o10 o11 o12 o13 o14 hl hl14 hp id K pr g c cl s6 s7 _ h hK
def dig (n : Nat) : ByteArray := strOfNums [(48 + ((n : Int) % 256)) % 256]
theorem dig_ok (b : UInt8) (hb : b = 99 ∨ b = 103 ∨ b = 112) : ∀ n, n < 10 → nameOk ((⟨#[b]⟩ : ByteArray) ++ dig n) = true ∧ 1 + (dig n).size ≤ 9223372036854775807 := by
  rcases hb with rfl | rfl | rfl <;> decide +kernel
theorem named_of {s : ByteArray} (h : nameOk s = true) : namedOk s = true := by unfold namedOk; rw [h, Bool.or_true]
theorem named_nil : namedOk (⟨#[]⟩ : ByteArray) = true := by decide +kernel
theorem code_f (a : Int) : ∃ s, haberdashplay_Code.f a = some s ∧ nameOk s = true := by
  have m := md_range a 3 (by omega)
  have h := dig_ok 99 (by simp) (md a 3).toNat (by omega)
  unfold dig at h
  rw [Int.toNat_of_nonneg m.1] at h
  refine ⟨_, ?_, h.1⟩
  unfold haberdashplay_Code.f
  rw [mod_f _ _ (by omega) (by omega)]
  simp only [Option.bind_some]
  rw [if_pos h.2]
theorem j0_x (o0 : ByteArray) (o1 : Int) (o2 : Int) (o3 : ByteArray) (o4 : ByteArray) (o5 : Bool) (o6 : List ByteArray) (o7 : List ByteArray) (o8 : Int) (o9 : Int) (o10 : Int) (o11 : Int) (o12 : Int) (o13 : List (S65)) (o14 : List (S67)) (h4 : o4.size ≤ 9223372036854775807) (hl : o13.length ≤ 9223372036854775807) (hl14 : o14.length ≤ 9223372036854775807) (hp : ∀ i, i < o13.length → fitP (rd_T65 o13 (i : Int))) (id : ByteArray) (K pr : Int) (g : ByteArray) (cl : Bool) (s6 s7 : List ByteArray) (h : HD id pr g (⟨#[]⟩ : ByteArray) s6 s7 0) (hK : 1 ≤ K ∧ K ≤ 7) :
    Ex (fun n => haberdashplay_Promo.j0 n o0 o1 o2 o3 o4 o5 o6 o7 o8 o9 o10 o11 o12 o13 o14 id K pr g (⟨#[]⟩ : ByteArray) cl s6 s7 0 0 0 0 0) (okI id) := by
  refine Ex.step (fun n => by rw [haberdashplay_Promo.j0]) ?_
  refine Ex.bind (pick_x o4 h4) (fun q _ => ?_)
  rw [mod_f _ _ (by omega) (by omega)]
  simp only [Option.bind_some]
  by_cases h1 : md q 3 = 1
  · simp only [if_pos h1]
    obtain ⟨s, hs, hn⟩ := code_f (o4.size : Int)
    rw [hs]
    simp only [Option.bind_some]
    exact j1_x o0 o1 o2 o3 o4 o5 o6 o7 o8 o9 o10 o11 o12 o13 o14 hl hl14 hp id K pr g s cl s6 s7 ⟨h.1, h.2.1, h.2.2.1, named_of hn, h.2.2.2.2⟩ hK
  · simp only [if_neg h1]
    exact j1_x o0 o1 o2 o3 o4 o5 o6 o7 o8 o9 o10 o11 o12 o13 o14 hl hl14 hp id K pr g _ cl s6 s7 h hK
theorem promo_x (o0 : ByteArray) (o1 : Int) (o2 : Int) (o3 : ByteArray) (o4 : ByteArray) (o5 : Bool) (o6 : List ByteArray) (o7 : List ByteArray) (o8 : Int) (o9 : Int) (o10 : Int) (o11 : Int) (o12 : Int) (o13 : List (S65)) (o14 : List (S67)) (a1 : Int) (id : ByteArray) (hid : haberdashplay_Id.f a1 = some id) (hidn : nameOk id = true) (h3 : o3.size ≤ 9223372036854775807) (h4 : o4.size ≤ 9223372036854775807) (h6 : fitL o6) (h7 : fitL o7) (hl : o13.length ≤ 9223372036854775807) (hl14 : o14.length ≤ 9223372036854775807) (hp : ∀ i, i < o13.length → fitP (rd_T65 o13 (i : Int))) :
    Ex (fun n => haberdashplay_Promo.f n o0 o1 o2 o3 o4 o5 o6 o7 o8 o9 o10 o11 o12 o13 o14 a1) (okI id) := by
  unfold haberdashplay_Promo.f
  rw [hid, mod_f _ _ (by omega) (by omega), mod_f _ _ (by omega) (by omega)]
  simp only [Option.bind_some]
  have mk := md_range (wrap64 (o1 - 1)) 7 (by omega)
  have mp := md_range o2 5 (by omega)
  rw [w1 mk (by omega)]
  refine Ex.bind (scope_x o6 o7 h6 h7) (fun r hr => ?_)
  refine Ex.bind (pick_x o3 h3) (fun q _ => ?_)
  rw [mod_f _ _ (by omega) (by omega)]
  simp only [Option.bind_some]
  by_cases h1 : md q 3 = 1
  · simp only [if_pos h1]
    rw [mod_f _ _ (by omega) (by omega)]
    simp only [Option.bind_some]
    have m := md_range (o3.size : Int) 2 (by omega)
    have hd := dig_ok 103 (by simp) (md (o3.size : Int) 2).toNat (by omega)
    unfold dig at hd
    rw [Int.toNat_of_nonneg m.1] at hd
    simp only [if_pos hd.2]
    exact j0_x o0 o1 o2 o3 o4 o5 o6 o7 o8 o9 o10 o11 o12 o13 o14 h4 hl hl14 hp id _ _ _ _ _ _ ⟨hidn, by omega, named_of hd.1, named_nil, hr, by omega⟩ (by omega)
  · simp only [if_neg h1]
    exact j0_x o0 o1 o2 o3 o4 o5 o6 o7 o8 o9 o10 o11 o12 o13 o14 h4 hl hl14 hp id _ _ _ _ _ _ ⟨hidn, by omega, named_nil, named_nil, hr, by omega⟩ (by omega)
end Go.Proofs.Ytdmeepjefccpgaa.PP
