/- The statement LevyOnce over lists and numbers: by order, the tax of lines of one rate is that of one line of all of them; by line it is that of each alone. -/
import Derived.Test.YtndecmbcekdafaaVRwLOnce
import Derived.Test.YtndecmbcekdafaaVL19P
import Derived.Test.YtndecmbcekdafaaVLevyW
import Derived.Test.YtndecmbcekdafaaVKx
set_option linter.unusedVariables false
set_option linter.unusedSimpArgs false
namespace Go.Proofs.Ytndecmbcekdafaa.Pure
open Go Go.RowKit Go.Proofs.YtndecmbcekdafaaW.PrintWords Go.Proofs.YtndecmbcekdafaaW.PrintMore Go.Proofs.Ytndecmbcekdafaa.Rw Go.Proofs.Ytndecmbcekdafaa.EP Go.Proofs.Ytndecmbcekdafaa.XP Go.Proofs.Ytndecmbcekdafaa.YP Go.Proofs.Ytndecmbcekdafaa.PX Go.Proofs.Ytndecmbcekdafaa.L19 Go.Proofs.Ytndecmbcekdafaa.LV Go.Proofs.Ytndecmbcekdafaa.GP Go.Proofs.Ytndecmbcekdafaa.SP
open Go.Proofs.Ytndecmbcekdafaa.MP (md md_range mod_f mod64_f)
abbrev onceX : ByteArray := ⟨#[120]⟩
theorem once_levy (i o : Bool) (k : Int) (l : List Zn) (a : Int) (m : Nat) (ns : List Int) (hm : m = ns.length) (h0 : ∀ x ∈ ns, 0 ≤ x) (hl : ns.length ≤ 1000) (hs : ns.sum ≤ 10000000000000) :
    levyS i o (md k 3) (zns l) (zonN (zid a)) false (List.replicate m onceX) ns 0 = outOf i false ns (taxesOf i o (md k 3) (List.replicate m (rateAt (znOf l (zid a)).f1 (znOf l (zid a)).f2 onceX)) ns) 0 (mch i (md k 3) 0 (znOf l (zid a)).f3) := by
  unfold levyS
  rw [mayOk_iff.2 ⟨zns_ok k l, by simp [hm], hl, by omega, fun x hx => ⟨h0 x hx, by have := le_sum ns h0 x hx; omega⟩, hs⟩, zone_there l _ (zid_lt a)]
  simp [ratesOf]
theorem once_taxes (i o : Bool) (k r : Int) (m : Nat) (ns : List Int) (hm : m = ns.length) (h0 : ∀ x ∈ ns, 0 ≤ x) (hl : ns.length ≤ 1000) (hs : ns.sum ≤ 10000000000000) :
    taxesOf i o k (List.replicate m r) ns = if o = true then lp i k r ns else ns.map fun x => mch i k x r := by
  unfold taxesOf
  cases o with
  | true =>
    simp only [if_true]
    exact LB.whole_const (lp i k) _ ns r (by simp [hm]) (fun x hx => (List.mem_replicate.1 hx).2) (LB.lp_facts i k r ns (by omega) h0 (by omega)).1
  | false =>
    simp only [Bool.false_eq_true, if_false]
    apply List.ext_getElem (by rw [List.length_zipWith]; simp [hm])
    intro j h1 h2
    rw [List.getElem_zipWith]
    simp
theorem once_one (i o : Bool) (k r x : Int) (hx : 0 ≤ x ∧ x ≤ 10000000000000) : taxesOf i o k [r] [x] = [mch i k x r] := by
  have h := once_taxes i o k r 1 [x] rfl (by simp; exact hx.1) (by simp) (by simp; exact hx.2)
  rw [show List.replicate 1 r = [r] from rfl] at h
  rw [h, LB.lp_one i k r x ⟨hx.1, by omega⟩]
  cases o <;> rfl
theorem once_cut {α : Type} (l : List α) (j : Nat) (h : j < l.length) : (l.take (j + 1)).drop j = [l[j]] := by
  rw [List.take_succ_eq_append_getElem h, List.drop_append]
  simp [List.length_take, Nat.min_eq_left (Nat.le_of_lt h)]
theorem once_loop (i o : Bool) (k : Int) (l : List Zn) (a : Int) (ns : List Int) (r : Int) (hr : r = rateAt (znOf l (zid a)).f1 (znOf l (zid a)).f2 onceX) (hl : ns.length ≤ 30) (h0 : ∀ x ∈ ns, 0 ≤ x) (hs : ns.sum ≤ 10000000000000) (ts ys : List Int) (htl : ts.length = ns.length)
    (ht : ts = taxesOf i o (md k 3) (List.replicate ns.length r) ns) (hy : ys = [mch i (md k 3) ns.sum r]) :
    Ev (fun n => haberdashlaw19_LevyOnce.l1 n a o ns (List.replicate ns.length onceX) ts ys 0 0 i o (md k 3) (zns l)) true := by
  have htr := taxesOf_range i o (md k 3) (List.replicate ns.length r) ns (by simp) (by omega) h0 hs
  rw [← ht] at htr
  have hev := once_taxes i o (md k 3) r ns.length ns rfl h0 (by omega) hs
  rw [← ht] at hev
  have hsm := sum_small ts 100000000100000
  have hT : ∀ j, j ≤ ts.length → 0 ≤ (ts.take j).sum ∧ (ts.take j).sum ≤ j * 100000000100000 := fun j hj => hsm j hj (fun q hq => by
    have := htr _ (List.getElem_mem (show q < ts.length by omega))
    simp [show q < ts.length by omega]
    exact this)
  have := walk_ev (F := fun n j => haberdashlaw19_LevyOnce.l1 n a o ns (List.replicate ns.length onceX) ts ys (ts.take j).sum (j : Int) i o (md k 3) (zns l)) (n := ns.length) (r := true)
    (by
      refine Ev.step (f := fun _ => some true) (fun n => ?_) (Ev.now _)
      rw [haberdashlaw19_LevyOnce.l1, if_neg (by omega)]
      cases o with
      | true =>
        rw [if_pos rfl, hy]
        rw [if_pos (by simp), ← htl, List.take_length]
        have e : ts.sum = mch i (md k 3) ns.sum r := by rw [hev]; simp only [if_true]; exact (LB.lp_facts i (md k 3) r ns (by omega) h0 (by omega)).2
        rw [e]
        simp [rd]
      | false => rw [if_neg (by simp)])
    (fun j hj q hq => by
      have hjt : j < ts.length := by omega
      have hx := h0 _ (List.getElem_mem hj)
      have hx2 := le_sum ns h0 _ (List.getElem_mem hj)
      have hb := hT j (by omega)
      have ht1 := htr _ (List.getElem_mem hjt)
      have hc1 : (List.replicate ns.length onceX).length = ns.length := by simp
      have hc2 : ((List.replicate ns.length onceX).take (j + 1)).drop j = [onceX] := by rw [once_cut _ j (by omega)]; simp
      refine Ev.step (fun n => by rw [haberdashlaw19_LevyOnce.l1, if_pos (by omega), PX.zone_f, Option.bind_some, if_pos (by omega), next j (by omega), if_pos (by omega), if_pos (by omega), if_pos (by omega), Int.toNat_natCast, Int.toNat_natCast, hc2, once_cut ns j hj]) ?_
      refine Ev.bind (levy_f i o (md k 3) (zns l) (zonN (zid a)) false [onceX] [ns[j]] 0) ?_
      have hlv := once_levy i o k l a 1 [ns[j]] rfl (by simp; exact hx) (by simp) (by simp; omega)
      rw [show List.replicate 1 onceX = [onceX] from rfl, ← hr, show List.replicate 1 r = [r] from rfl, once_one i o (md k 3) r ns[j] ⟨hx, by omega⟩] at hlv
      rw [hlv]
      simp only [outOf, Bool.false_eq_true, if_false, if_true, List.length_singleton]
      simp only [if_pos (show ((1 : Nat) : Int) = 1 from rfl)]
      have hsum : wrap64 ((ts.take j).sum + rd ts (j : Int)) = (ts.take (j + 1)).sum := by
        have : (j : Int) ≤ 30 := by omega
        have h3 : (j : Int) * 100000000100000 ≤ 30 * 100000000100000 := Int.mul_le_mul_of_nonneg_right this (by omega)
        rw [rd_of ts j hjt, sum_take_succ ts j hjt, wrap_ok (by omega) (by omega)]
      simp only [hsum]
      cases o with
      | true =>
        simp only [if_true, if_pos (show (j : Int) < (ts.length : Int) by omega)]
        exact hq
      | false =>
        simp only [Bool.false_eq_true, if_false]
        have e : rd [mch i (md k 3) ns[j] r] 0 = rd ts (j : Int) := by
          rw [rd_of ts j hjt]
          have : ts[j] = mch i (md k 3) ns[j] r := by
            have h4 : ts[j]? = some (mch i (md k 3) ns[j] r) := by rw [hev]; simp [hj]
            rw [List.getElem?_eq_getElem hjt] at h4
            exact Option.some.inj h4
          rw [this]; simp [rd]
        simp only [if_pos (show (0 : Int) < ((1 : Nat) : Int) from by decide), if_pos (show (j : Int) < (ts.length : Int) by omega), if_pos e]
        exact hq)
  exact this
theorem LevyOnce (x0 : S24) (x1 : Int) (x2 : List Int) (x3 : Bool) (g0 : True ∧ (True ∧ ((Lit.int .i64 x0.f2).wf = true ∧ (x0.f3.length ≤ 9223372036854775807 ∧ ∀ y0 ∈ x0.f3, (y0.f0.size ≤ 9223372036854775807 ∧ ((y0.f1.length ≤ 9223372036854775807 ∧ ∀ y1 ∈ y0.f1, (y1.f0.size ≤ 9223372036854775807 ∧ ((Lit.int .i64 y1.f1).wf = true))) ∧ ((Lit.int .i64 y0.f2).wf = true ∧ ((Lit.int .i64 y0.f3).wf = true)))))))) : ∃ k, haberdashlaw19_LevyOnce.f k x0.f0 x0.f1 x0.f2 x0.f3 x1 x2 x3 = some true := by
  obtain ⟨i, o, k, l⟩ := x0
  have hl : l.length ≤ 9223372036854775807 := g0.2.2.2.1
  refine Ev.rounds ?_
  show Ev (fun n => haberdashlaw19_LevyOnce.f n i o k l x1 x2 x3) true
  unfold haberdashlaw19_LevyOnce.f
  refine Ev.bind (few_f i o k l [] x2 hl) ?_
  cases hf : fewOk l [] x2 with
  | false =>
    simp only [Bool.false_eq_true, if_false]
    exact Ev.bind awake_ev (Ev.now _)
  | true =>
    have h := fewOk_iff hf
    simp only [if_true]
    refine Ev.bind (ptax_f i o k l (by omega) (fun z hz => by have := h.2.1 z hz; omega)) ?_
    refine Ev.bind (near_f [] x2 (by omega)) ?_
    have hnl := (near_len [] x2).2
    have hno := netsOk_iff.1 (near_sum x2)
    generalize nearN x2 = ns at *
    have h0 : ∀ x ∈ ns, 0 ≤ x := fun x hx => (hno.1 x hx).1
    simp only [if_pos (show 0 ≤ (ns.length : Int) by omega), if_pos (show ((ns.length : Int)).toNat ≤ 17592186044416 by omega)]
    have hS := sum_small ns 10000000000000
    have := walk_ev (F := fun n j => haberdashlaw19_LevyOnce.l0 n x1 x3 ns (List.replicate j onceX ++ List.replicate (ns.length - j) (⟨#[]⟩ : ByteArray)) (ns.take j).sum (j : Int) i x3 (md k 3) (zns l)) (n := ns.length) (r := true)
      (by
        refine Ev.step (fun n => by rw [haberdashlaw19_LevyOnce.l0, if_neg (by omega), PX.zone_f, Option.bind_some, Nat.sub_self, List.replicate_zero, List.append_nil, List.take_length]) ?_
        simp only [Option.bind_some]
        refine Ev.bind (levy_f i x3 (md k 3) (zns l) (zonN (zid x1)) false (List.replicate ns.length onceX) ns 0) ?_
        refine Ev.bind (levy_f i x3 (md k 3) (zns l) (zonN (zid x1)) false [onceX] [ns.sum] 0) ?_
        refine Ev.bind awake_ev ?_
        have hs0 := sum_nonneg ns h0
        have h2 := once_levy i x3 k l x1 1 [ns.sum] rfl (by simp; exact hs0) (by simp) (by simp; exact hno.2)
        obtain ⟨r, hr⟩ : ∃ r, r = rateAt (znOf l (zid x1)).f1 (znOf l (zid x1)).f2 onceX := ⟨_, rfl⟩
        rw [show List.replicate 1 onceX = [onceX] from rfl, ← hr, show List.replicate 1 r = [r] from rfl, once_one i x3 (md k 3) r ns.sum ⟨hs0, hno.2⟩] at h2
        have h1 := once_levy i x3 k l x1 ns.length ns rfl h0 (by omega) hno.2
        rw [← hr] at h1
        rw [h1, h2]
        have htl := taxesOf_length i x3 (md k 3) (List.replicate ns.length r) ns (by simp)
        simp only [outOf, Bool.false_eq_true, if_false, if_true, List.length_singleton]
        simp only [if_pos (show ((taxesOf i x3 (md k 3) (List.replicate ns.length r) ns).length : Int) = (ns.length : Int) by omega), show (((1 : Nat) : Int) != 1) = false from rfl]
        refine Ev.step (fun n => by rw [haberdashlaw19_LevyOnce.j1, if_neg (by simp)]) ?_
        exact once_loop i x3 k l x1 ns r hr hnl h0 hno.2 _ _ htl rfl rfl)
      (fun j hj r hr => by
        have h1 := h0 _ (List.getElem_mem hj)
        have h2 := hno.1 _ (List.getElem_mem hj)
        have h3 := hS j (by omega) (fun q hq => by
          have := hno.1 _ (List.getElem_mem (show q < ns.length by omega))
          simp [show q < ns.length by omega]
          exact this)
        have h4 : (j : Int) * 10000000000000 ≤ 30 * 10000000000000 := Int.mul_le_mul_of_nonneg_right (by omega) (by omega)
        have hset : (List.replicate j onceX ++ List.replicate (ns.length - j) (⟨#[]⟩ : ByteArray)).set j onceX = List.replicate (j + 1) onceX ++ List.replicate (ns.length - (j + 1)) (⟨#[]⟩ : ByteArray) := by
          obtain ⟨d, hd⟩ : ∃ d, ns.length - j = d + 1 := ⟨ns.length - j - 1, by omega⟩
          rw [hd, show ns.length - (j + 1) = d by omega, List.set_append_right _ _ (by simp), List.length_replicate, Nat.sub_self, List.replicate_succ (n := d), List.set_cons_zero, List.replicate_succ' (n := j), List.append_assoc]
          rfl
        refine Ev.step (fun n => by rw [haberdashlaw19_LevyOnce.l0, if_pos (by omega), if_pos (by omega), if_pos (by simp; omega), rd_of ns j hj, Int.toNat_natCast, hset, next j (by omega), wrap_ok (by omega) (by omega), ← sum_take_succ ns j hj]) hr)
    simpa using this
end Go.Proofs.Ytndecmbcekdafaa.Pure
