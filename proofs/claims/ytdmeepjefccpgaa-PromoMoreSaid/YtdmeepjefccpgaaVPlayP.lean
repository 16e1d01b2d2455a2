/- play.Promo: a promo near to a raw one may be. What the printed functions of play come to. Plain Lean. -/
import Derived.Test.YtdmeepjefccpgaaVRPromoP
import Derived.Test.YtdmeepjefccpgaaVModP
import Derived.Test.YtdmeepjefccpgaaVHName
import Derived.Test.YtdmeepjefccpgaaVRwPlS
set_option linter.unusedVariables false
set_option linter.unusedSimpArgs false
namespace Go.Proofs.Ytdmeepjefccpgaa.PP
open Go Go.RowKit Go.Proofs.YtdmeepjefccpgaaW.PrintWords Go.Proofs.YtdmeepjefccpgaaW.PrintMore Go.Proofs.Ytdmeepjefccpgaa.Rw Go.Proofs.Ytdmeepjefccpgaa.EP Go.Proofs.Ytdmeepjefccpgaa.NP
open Go.Proofs.Ytdmeepjefccpgaa.MP (md md_range mod_f mod64_f)

/-- There is an answer, and it has the property. -/
def Ex {α : Type} (g : Nat → Option α) (Q : α → Prop) : Prop := ∃ r, Ev g r ∧ Q r
theorem Ex.now {α : Type} {Q : α → Prop} {a : α} (h : Q a) : Ex (fun _ => some a) Q := ⟨a, Ev.now _, h⟩
theorem Ex.bind {α β : Type} {f : Nat → Option α} {g : Nat → α → Option β} {P : α → Prop} {Q : β → Prop} (h : Ex f P) (k : ∀ a, P a → Ex (fun n => g n a) Q) : Ex (fun n => (f n).bind (g n)) Q := by
  obtain ⟨a, h1, h2⟩ := h
  obtain ⟨b, h3, h4⟩ := k a h2
  exact ⟨b, Ev.bind h1 h3, h4⟩
theorem Ex.step {α : Type} {f g : Nat → Option α} {Q : α → Prop} (e : ∀ k, g (k + 1) = f k) (h : Ex f Q) : Ex g Q := by
  obtain ⟨a, h1, h2⟩ := h
  exact ⟨a, Ev.step e h1, h2⟩
theorem Ex.mono {α : Type} {g : Nat → Option α} {P Q : α → Prop} (h : Ex g P) (k : ∀ a, P a → Q a) : Ex g Q := by
  obtain ⟨a, h1, h2⟩ := h
  exact ⟨a, h1, k a h2⟩
theorem pick_x (s : ByteArray) (hs : s.size ≤ 9223372036854775807) : Ex (fun k => haberdashplay_pick.f k s) (fun _ => True) := by
  unfold haberdashplay_pick.f
  have key : ∀ (d i : Nat) (x : Int), i + d = s.size → Ex (fun k => haberdashplay_pick.l0 k s x (i : Int)) (fun _ => True) := by
    intro d
    induction d with
    | zero =>
      intro i x hi
      exact Ex.step (fun k => by rw [haberdashplay_pick.l0, if_neg (by omega)]) (Ex.now trivial)
    | succ d ih =>
      intro i x hi
      by_cases h8 : (i : Int) < 8
      · exact Ex.step (fun k => by rw [haberdashplay_pick.l0, if_pos (by omega), if_pos h8, if_pos (by omega), next i (by omega)]) (ih (i + 1) _ (by omega))
      · exact Ex.step (fun k => by rw [haberdashplay_pick.l0, if_pos (by omega), if_neg h8]) (Ex.now trivial)
  exact key s.size 0 _ (by omega)
/-- Names of places that rise. -/
def Names (Nm : Nat → ByteArray) (j : Nat) (x : List ByteArray) : Prop := ∃ ks : List Nat, x = ks.map Nm ∧ ks.Pairwise (· < ·) ∧ ∀ q ∈ ks, q < j
theorem Names.len {Nm : Nat → ByteArray} {j : Nat} {x : List ByteArray} (h : Names Nm j x) : x.length ≤ j := by
  obtain ⟨ks, rfl, hp, hq⟩ := h
  rw [List.length_map]
  have key : ∀ (ks : List Nat) (a : Nat), ks.Pairwise (· < ·) → (∀ q ∈ ks, a ≤ q ∧ q < j) → ks.length + a ≤ j ∨ ks = [] := by
    intro ks
    induction ks with
    | nil => intro a _ _; exact .inr rfl
    | cons b ks ih =>
      intro a hp hq
      rw [List.pairwise_cons] at hp
      have hb := hq b (by simp)
      rcases ih (b + 1) hp.2 (fun q hq2 => ⟨hp.1 q hq2, (hq q (by simp [hq2])).2⟩) with h | h
      · left; rw [List.length_cons]; omega
      · subst h; left; simp; omega
  rcases key ks 0 hp (fun q hq2 => ⟨Nat.zero_le _, hq q hq2⟩) with h | h
  · omega
  · subst h; simp
theorem Names.mono {Nm : Nat → ByteArray} {i j : Nat} {x : List ByteArray} (h : Names Nm i x) (hij : i ≤ j) : Names Nm j x := by
  obtain ⟨ks, e, hp, hq⟩ := h
  exact ⟨ks, e, hp, fun q hq2 => Nat.lt_of_lt_of_le (hq q hq2) hij⟩
theorem Names.snoc {Nm : Nat → ByteArray} {i : Nat} {x : List ByteArray} (h : Names Nm i x) : Names Nm (i + 1) (x ++ [Nm i]) := by
  obtain ⟨ks, rfl, hp, hq⟩ := h
  refine ⟨ks ++ [i], by rw [List.map_append]; rfl, ?_, ?_⟩
  · rw [List.pairwise_append]
    exact ⟨hp, List.pairwise_singleton _ _, fun a ha b hb => by rw [List.mem_singleton.1 hb]; exact hq a ha⟩
  · intro q hq2
    rw [List.mem_append, List.mem_singleton] at hq2
    rcases hq2 with h | rfl
    · have := hq q h; omega
    · omega
theorem Names.ok {Nm : Nat → ByteArray} {n : Nat} {x : List ByteArray} (h : Names Nm n x) (hn : n ≤ 20) (hok : ∀ a, a < n → nameOk (Nm a) = true) (hup : ∀ a b, a < b → b < n → Op.bytesLess (Nm a).toList (Nm b).toList = true) : namesOk 20 x = true := by
  have hl := h.len
  obtain ⟨ks, rfl, hp, hq⟩ := h
  unfold namesOk
  rw [decide_eq_true (by omega), Bool.true_and]
  have hget : ∀ (i : Nat) (hi : i < ks.length), (ks.map Nm).getD i ByteArray.empty = Nm ks[i] := by
    intro i hi
    rw [List.getD_eq_getElem?_getD, List.getElem?_map, List.getElem?_eq_getElem hi]
    rfl
  rw [Bool.and_eq_true_iff]
  constructor
  · unfold rise
    rw [allTo_iff]
    intro i hi
    rw [List.length_map] at hi
    unfold upAt
    rcases Nat.eq_zero_or_pos i with rfl | h0
    · simp
    · rw [hget i hi, hget (i - 1) (by omega)]
      rw [Bool.or_eq_true_iff]
      right
      exact hup _ _ (List.pairwise_iff_getElem.1 hp (i - 1) i (by omega) hi (by omega)) (hq _ (List.getElem_mem hi))
  · rw [allTo_iff]
    intro i hi
    rw [List.length_map] at hi
    show nameOk ((ks.map Nm).getD i ByteArray.empty) = true
    rw [hget i hi]
    exact hok _ (hq _ (List.getElem_mem hi))
theorem some_x (l : List ByteArray) (most gate : Int) (kinds : Nat) (Nm : Nat → ByteArray) (hk : 0 < kinds ∧ kinds ≤ 20) (hl : fitL l) (hN : ∀ a, a < kinds → haberdashplay_Zone.f gate (a : Int) = some (Nm a)) :
    Ex (fun k => haberdashplay_some.f k l most (kinds : Int) gate) (Names Nm kinds) := by
  unfold haberdashplay_some.f
  have key : ∀ (d j : Nat) (x : List ByteArray), j + d = kinds → Names Nm j x → Ex (fun k => haberdashplay_some.l0 k l most (kinds : Int) gate x (j : Int)) (Names Nm kinds) := by
    intro d
    induction d with
    | zero =>
      intro j x hj hx
      exact Ex.step (fun k => by rw [haberdashplay_some.l0, if_neg (by omega)]) (Ex.now (hx.mono (by omega)))
    | succ d ih =>
      intro j x hj hx
      refine Ex.step (fun k => by rw [haberdashplay_some.l0, if_pos (by omega)]) ?_
      have inner : ∀ (e i : Nat), i + e = l.length → Ex (fun k => haberdashplay_some.l1 k l most (kinds : Int) gate x (j : Int) (i : Int)) (Names Nm kinds) := by
        intro e
        induction e with
        | zero =>
          intro i hi
          refine Ex.step (fun k => by rw [haberdashplay_some.l1, if_neg (by omega)]) ?_
          exact Ex.step (fun k => by rw [haberdashplay_some.j2, if_neg (by simp), next j (by omega)]) (ih (j + 1) x (by omega) (hx.mono (by omega)))
        | succ e ihe =>
          intro i hi
          have hlen := hl.1
          have both : ∀ b : Bool, Ex (fun k => haberdashplay_some.j2 k l most (kinds : Int) gate x (j : Int) (i : Int) b) (Names Nm kinds) := by
            intro b
            cases b with
            | false => exact Ex.step (fun k => by rw [haberdashplay_some.j2, if_neg (by simp), next j (by omega)]) (ih (j + 1) x (by omega) (hx.mono (by omega)))
            | true =>
              refine Ex.step (fun k => by rw [haberdashplay_some.j2, if_pos rfl, if_pos (by omega), if_pos (by omega), rdOf_d]) ?_
              refine Ex.bind (pick_x _ (fitL_nm hl (by omega))) (fun p _ => ?_)
              rw [mod_f _ _ (by omega) (by omega)]
              simp only [Option.bind_some]
              by_cases hp : md p (kinds : Int) = (j : Int)
              · simp only [if_pos hp]
                rw [hN j (by omega)]
                simp only [Option.bind_some]
                have := hx.len
                simp only [if_pos (show x.length < 8796093022208 by omega)]
                rw [next j (by omega)]
                exact ih (j + 1) _ (by omega) hx.snoc
              · simp only [if_neg hp]
                rw [next i (by omega)]
                exact ihe (i + 1) (by omega)
          by_cases h4 : (i : Int) < 4
          · exact Ex.step (fun k => by rw [haberdashplay_some.l1, if_pos (by omega), if_pos h4]) (both _)
          · exact Ex.step (fun k => by rw [haberdashplay_some.l1, if_pos (by omega), if_neg h4]) (both _)
      exact inner l.length 0 (by omega)
  exact key kinds 0 [] (by omega) ⟨[], rfl, List.Pairwise.nil, fun q hq => by simp at hq⟩
def skuN (n : Nat) : ByteArray := strOfNums [(97 + ((n : Int) % 256)) % 256]
def catN (n : Nat) : ByteArray := strOfNums [(120 + ((n : Int) % 256)) % 256]
theorem md_small {c m : Nat} (h : c < m) (hm : m < 1000) : md (c : Int) (m : Int) = (c : Int) := by
  unfold md
  rw [MP.u64_ok (by omega) (by omega)]
  exact Int.emod_eq_of_lt (by omega) (by omega)
theorem sku_n (a : Nat) (h : a < 8) : haberdashplay_Zone.f (77700000 + 109) (a : Int) = some (skuN a) := by
  unfold haberdashplay_Zone.f
  rw [if_pos rfl]
  unfold haberdashplay_Sku.f skuN
  rw [mod_f _ _ (by omega) (by omega), show md (a : Int) 8 = (a : Int) from md_small (m := 8) h (by omega)]
  rfl
theorem cat_n (a : Nat) (h : a < 3) : haberdashplay_Zone.f (77700000 + 20) (a : Int) = some (catN a) := by
  unfold haberdashplay_Zone.f
  rw [if_neg (by decide), if_pos rfl]
  unfold haberdashplay_Category.f catN
  rw [mod_f _ _ (by omega) (by omega), show md (a : Int) 3 = (a : Int) from md_small (m := 3) h (by omega)]
  rfl
theorem sku_ok : (∀ a, a < 8 → nameOk (skuN a) = true) ∧ ∀ a b, a < b → b < 8 → Op.bytesLess (skuN a).toList (skuN b).toList = true := by
  refine ⟨?_, ?_⟩
  · decide +kernel
  · have h : ∀ b, b < 8 → ∀ a, a < b → Op.bytesLess (skuN a).toList (skuN b).toList = true := by decide +kernel
    exact fun a b hab hb => h b hb a hab
theorem cat_ok : (∀ a, a < 3 → nameOk (catN a) = true) ∧ ∀ a b, a < b → b < 3 → Op.bytesLess (catN a).toList (catN b).toList = true := by
  refine ⟨?_, ?_⟩
  · decide +kernel
  · have h : ∀ b, b < 3 → ∀ a, a < b → Op.bytesLess (catN a).toList (catN b).toList = true := by decide +kernel
    exact fun a b hab hb => h b hb a hab
theorem scope_x (a b : List ByteArray) (ha : fitL a) (hb : fitL b) : Ex (fun k => haberdashplay_Scope.f k a b) (fun r => scopeOk r.1 r.2 = true) := by
  unfold haberdashplay_Scope.f
  refine Ex.bind (some_x a 3 (77700000 + 109) 8 skuN (by omega) ha sku_n) (fun x hx => ?_)
  refine Ex.bind (some_x b 2 (77700000 + 20) 3 catN (by omega) hb cat_n) (fun y hy => ?_)
  refine Ex.now ?_
  unfold scopeOk
  rw [hx.ok (by omega) sku_ok.1 sku_ok.2, hy.ok (by omega) cat_ok.1 cat_ok.2]
  rfl
abbrev Tr := S67
theorem rdT_left (l : List Tr) (t : Tr) (j : Nat) (h : j < l.length) : rd_T67 (l ++ [t]) (j : Int) = rd_T67 l (j : Int) := by
  unfold rd_T67
  rw [Int.toNat_natCast, List.getD_eq_getElem?_getD, List.getD_eq_getElem?_getD, List.getElem?_append_left h]
theorem rdT_last (l : List Tr) (t : Tr) : rd_T67 (l ++ [t]) (l.length : Int) = t := by simp [rd_T67]
theorem tierAt_left (l : List Tr) (t : Tr) (j : Nat) (h : j < l.length) : tierAt (l ++ [t]) j = tierAt l j := by
  unfold tierAt
  rw [rdT_left l t j h]
  rcases Nat.eq_zero_or_pos j with rfl | h0
  · rfl
  · rw [rdT_left l t (j - 1) (by omega)]
theorem tierAt_last (l : List Tr) (t : Tr) (h0 : 0 ≤ t.f0 ∧ t.f0 ≤ 10000000000000) (hp : l.length = 0 ∨ (rd_T67 l ((l.length - 1 : Nat) : Int)).f0 < t.f0) (h1 : 0 ≤ t.f1 ∧ t.f1 ≤ 10000) (h2 : 0 ≤ t.f2 ∧ t.f2 ≤ 10000000000000) (h3 : ¬ (t.f1 = 0 ∧ t.f2 = 0)) : tierAt (l ++ [t]) l.length = true := by
  have e1 : tierAt (l ++ [t]) l.length = (decide ((if l.length = 0 then -1 else (rd_T67 l ((l.length - 1 : Nat) : Int)).f0) < t.f0) && decide (t.f0 ≤ 10000000000000) && decide (0 ≤ t.f1) && decide (t.f1 ≤ 10000) && decide (0 ≤ t.f2) && decide (t.f2 ≤ 10000000000000) && !(decide (t.f1 = 0) && decide (t.f2 = 0))) := by
    unfold tierAt
    rw [rdT_last]
    by_cases hz : l.length = 0
    · rw [if_pos hz, if_pos hz]
    · rw [if_neg hz, if_neg hz, rdT_left l t (l.length - 1) (by omega)]
  rw [e1]
  have hprev : (if l.length = 0 then -1 else (rd_T67 l ((l.length - 1 : Nat) : Int)).f0) < t.f0 := by
    by_cases hz : l.length = 0
    · rw [if_pos hz]; omega
    · rw [if_neg hz]
      rcases hp with h | h
      · exact absurd h hz
      · exact h
  rw [decide_eq_true hprev, decide_eq_true h0.2, decide_eq_true h1.1, decide_eq_true h1.2, decide_eq_true h2.1, decide_eq_true h2.2]
  by_cases hb : t.f1 = 0
  · rw [decide_eq_true hb, decide_eq_false (fun hh => h3 ⟨hb, hh⟩)]; rfl
  · rw [decide_eq_false hb]; rfl
theorem tiers_snoc (l : List Tr) (t : Tr) (hl : allTo (tierAt l) l.length = true) (ht : tierAt (l ++ [t]) l.length = true) : allTo (tierAt (l ++ [t])) (l ++ [t]).length = true := by
  rw [allTo_iff] at hl ⊢
  intro i hi
  rw [List.length_append, List.length_singleton] at hi
  rcases Nat.lt_or_ge i l.length with h | h
  · rw [tierAt_left l t i h]; exact hl i h
  · obtain rfl : i = l.length := by omega
    exact ht
theorem tiers_x (l : List Tr) (step : Int) (hs : 1 ≤ step ∧ step ≤ 5000) (hl : l.length ≤ 9223372036854775807) : Ex (fun k => haberdashplay_tiers.f k l step) (fun r => tiersOk r = true) := by
  unfold haberdashplay_tiers.f
  have fin : ∀ (out : List Tr) (least : Int) (i : Nat), out.length ≤ 3 → allTo (tierAt out) out.length = true → Ex (fun k => haberdashplay_tiers.j1 k l step out least (i : Int) false) (fun r => tiersOk r = true) := by
    intro out least i h3 ho
    refine Ex.step (fun k => by rw [haberdashplay_tiers.j1, if_neg (by simp)]) ?_
    by_cases hz : (out.length : Int) = 0
    · simp only [if_pos hz, if_pos (show out.length < 5864062014805 by omega)]
      refine Ex.now ?_
      have hd : wrap64 (Int.tdiv step 2) = step / 2 := by
        rw [Int.tdiv_eq_ediv_of_nonneg (by omega)]
        exact MP.wrap_ok (by omega) (by omega)
      rw [hd]
      have h1 := tierAt_last out (⟨step / 2, 1000, 0⟩ : Tr) (by constructor <;> simp only <;> omega) (.inl (by omega)) (by constructor <;> simp only <;> omega) (by constructor <;> simp only <;> omega) (by simp)
      unfold tiersOk
      rw [tiers_snoc out _ ho h1, List.length_append, List.length_singleton, decide_eq_true (by omega), decide_eq_true (by omega)]
      rfl
    · simp only [if_neg hz]
      refine Ex.now ?_
      unfold tiersOk
      rw [ho, decide_eq_true (by omega), decide_eq_true (by omega)]
      rfl
  have key : ∀ (d i : Nat) (out : List Tr) (least : Int), i + d = 3 → i ≤ l.length → out.length = i → 0 ≤ least ∧ least ≤ 5001 * i → allTo (tierAt out) out.length = true → (out.length = 0 ∨ (rd_T67 out ((out.length - 1 : Nat) : Int)).f0 < least) → Ex (fun k => haberdashplay_tiers.l0 k l step out least (i : Int)) (fun r => tiersOk r = true) := by
    intro d
    induction d with
    | zero =>
      intro i out least hi hil ho hle hall hlast
      by_cases hlt : (i : Int) < (l.length : Int)
      · exact Ex.step (fun k => by rw [haberdashplay_tiers.l0, if_pos hlt, decide_eq_false (by omega)]) (fin out least i (by omega) hall)
      · exact Ex.step (fun k => by rw [haberdashplay_tiers.l0, if_neg hlt]) (fin out least i (by omega) hall)
    | succ d ih =>
      intro i out least hi hil ho hle hall hlast
      by_cases hlt : (i : Int) < (l.length : Int)
      · refine Ex.step (fun k => by rw [haberdashplay_tiers.l0, if_pos hlt, decide_eq_true (by omega)]) ?_
        refine Ex.step (fun k => by rw [haberdashplay_tiers.j1, if_pos rfl, if_pos (by omega), if_pos (by omega)]) ?_
        rw [mod64_f _ _ (by omega) (by omega), mod64_f _ _ (by omega) (by omega), mod64_f _ _ (by omega) (by omega)]
        simp only [Option.bind_some, if_pos (show out.length < 5864062014805 by omega)]
        have m1 := md_range (rd_T67 l (i : Int)).f0 step (by omega)
        have m2 := md_range (rd_T67 l (i : Int)).f1 4000 (by omega)
        have m3 := md_range (rd_T67 l (i : Int)).f2 300 (by omega)
        generalize md (rd_T67 l (i : Int)).f0 step = a at m1
        generalize md (rd_T67 l (i : Int)).f1 4000 = b at m2
        generalize md (rd_T67 l (i : Int)).f2 300 = c at m3
        rw [show wrap64 (least + a) = least + a from MP.wrap_ok (by omega) (by omega), show wrap64 (1 + c) = 1 + c from MP.wrap_ok (by omega) (by omega), show wrap64 (least + a + 1) = least + a + 1 from MP.wrap_ok (by omega) (by omega), next i (by omega)]
        have h1 := tierAt_last out (⟨least + a, b, 1 + c⟩ : Tr) (by constructor <;> simp only <;> omega) (by rcases hlast with h | h; exact .inl h; exact .inr (by simp only; omega)) (by constructor <;> simp only <;> omega) (by constructor <;> simp only <;> omega) (by simp only; omega)
        refine ih (i + 1) _ _ (by omega) (by omega) (by rw [List.length_append, List.length_singleton, ho]) (by omega) (tiers_snoc out _ hall h1) (.inr ?_)
        rw [List.length_append, List.length_singleton, Nat.add_sub_cancel, rdT_last]
        show least + a < least + a + 1
        omega
      · exact Ex.step (fun k => by rw [haberdashplay_tiers.l0, if_neg hlt]) (fin out least i (by omega) hall)
  exact key 3 0 [] 0 rfl (Nat.zero_le _) rfl ⟨Int.le_refl _, by omega⟩ rfl (.inl rfl)
end Go.Proofs.Ytdmeepjefccpgaa.PP
