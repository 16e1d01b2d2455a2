/- promo.Order of fewer than twenty promos: the places asked, who is ahead first. -/
import Derived.Test.YtdmeepjefccpgaaProg
import Derived.Below
import Derived.Deep.Draws
import Derived.Deep.AppendLies
import Derived.Maps.AppendAt
import Derived.OwnWalk
import Derived.Laws.BytesArg
import Derived.Laws.MakeOwn
import Derived.Laws.OwnMore
import Derived.Deep.OwnRows
import Derived.Tactics
import Derived.Lib.ConvBytes
import Derived.Laws.Slices
import Derived.WalkKit
import Derived.KernelRfl
import Derived.RowKit3
import Derived.Deep.LoopGhost
import Derived.Deep.QuietTactic
import Derived.BigQuiet
import Derived.WideLaws
import Derived.Deep.DeepCutAuto
import Derived.Deep.CutBlock
import Derived.Deep.RegionHeld3
import Derived.Laws.Rows
import Derived.Lib.AppendStr
import Derived.ArgAppend
import Derived.Laws.IdiomCopy
import Derived.OrdersHeld
import Derived.Laws.BitsLemmas
import Derived.RowKit
import Derived.BigRegion
import Derived.Outline
import Derived.RegionTactic
import Derived.StillTailTactics
import Derived.Deep.RegionLaw
import Derived.Test.YtdmeepjefccpgaaVHSort2
import Derived.Test.YtdmeepjefccpgaaVRwPlP
import Derived.Test.YtdmeepjefccpgaaVTaxP
import Derived.Test.YtdmeepjefccpgaaVRPromoP
import Derived.Test.YtdmeepjefccpgaaVRwA
import Derived.Test.YtdmeepjefccpgaaVRwAb
import Derived.Test.YtdmeepjefccpgaaVRwGoods
import Derived.Test.YtdmeepjefccpgaaVRwRef10a
import Derived.Test.YtdmeepjefccpgaaVRwRef10PD
import Derived.Test.YtdmeepjefccpgaaVQTop2
set_option linter.unusedVariables false
set_option linter.unusedSimpArgs false
namespace Go.Proofs.Ytdmeepjefccpgaa.HO
open Go Go.RowKit Go.Proofs.YtdmeepjefccpgaaW.PrintWords Go.Proofs.YtdmeepjefccpgaaW.PrintLast Go.Proofs.YtdmeepjefccpgaaW.PrintMore Go.Proofs.Ytdmeepjefccpgaa.Rw Go.Proofs.Ytdmeepjefccpgaa.EP Go.Proofs.Ytdmeepjefccpgaa.NP Go.Proofs.Ytdmeepjefccpgaa.PP
open Go.Proofs.Ytdmeepjefccpgaa.HSo (idAt Rises sort_calls)
open Go.Proofs.Ytdmeepjefccpgaa.QR (IsQ Kp)
open Go.Proofs.Ytdmeepjefccpgaa.QM (Ent lt)
abbrev PL := List (S60)
def hasS (l : List ByteArray) (a : ByteArray) : Bool := !allTo (fun j => !decide (a.toList = (rdOf ByteArray.empty l (j : Int)).toList)) l.length
theorem contS_f (l : List ByteArray) (a : ByteArray) (hl : l.length ≤ 9223372036854775807) : Ev (fun k => slices_Contains_string_string.f k l a) (hasS l a) := by
  have := first_ev (F := fun k j => slices_Index_string_string.l0 k l a l.length (j : Int)) (n := l.length) (p := fun j => decide (a.toList = (rdOf ByteArray.empty l (j : Int)).toList)) (v := fun j => (j : Int)) (e := -1)
    (Ev.step (fun k => by rw [slices_Index_string_string.l0, if_neg (by omega)]) (Ev.now _))
    (fun j hj hp => Ev.step (fun k => by rw [slices_Index_string_string.l0, if_pos (by omega), if_pos (by omega), if_pos (by omega), if_pos (of_decide_eq_true hp)]) (Ev.now _))
    (fun j hj hp r hr => Ev.step (fun k => by rw [slices_Index_string_string.l0, if_pos (by omega), if_pos (by omega), if_pos (by omega), if_neg (of_decide_eq_false hp), next j (by omega)]) hr)
  unfold slices_Contains_string_string.f
  refine Ev.bind this ?_
  refine Ev.congr (fun k => rfl) (ev_eq (Ev.now _) ?_)
  refine found_ge _ ?_ ?_
  · intro i hi
    rw [hi]
  · intro hn
    rw [hn]
def codeAt (l : PL) (j : Nat) : ByteArray := (rd_T60 l (j : Int)).f4
def prioAt (l : PL) (j : Nat) : Int := (rd_T60 l (j : Int)).f2
/-- Is a promo asked? -/
def asked (l : PL) (codes : List ByteArray) (j : Nat) : Bool := (codeAt l j).toList == [] || hasS codes (codeAt l j)
def places (l : PL) (codes : List ByteArray) (n : Nat) : List Nat := (List.range n).filter (asked l codes)
/-- What the queue is given of the first k places: the priority, the place's number. -/
def ents (l : PL) (ks : List Nat) : Nat → List Ent
  | 0 => []
  | k + 1 => (prioAt l (ks.getD k 0), (k : Int)) :: ents l ks k
theorem ents_len (l : PL) (ks : List Nat) : ∀ k, (ents l ks k).length = k
  | 0 => rfl
  | k + 1 => by show (ents l ks k).length + 1 = k + 1; rw [ents_len l ks k]
theorem places_succ (l : PL) (codes : List ByteArray) (n : Nat) : places l codes (n + 1) = places l codes n ++ (if asked l codes n = true then [n] else []) := by
  unfold places
  rw [List.range_succ, List.filter_append]
  by_cases h : asked l codes n = true
  · rw [if_pos h]; simp [h]
  · rw [if_neg h]; simp [h]
theorem places_lt (l : PL) (codes : List ByteArray) (n : Nat) : ∀ k ∈ places l codes n, k < n := fun k hk => by
  unfold places at hk
  exact List.mem_range.1 (List.mem_filter.1 hk).1
theorem places_len (l : PL) (codes : List ByteArray) (n : Nat) : (places l codes n).length ≤ n := by
  unfold places
  exact Nat.le_trans (List.length_filter_le _ _) (by simp)
theorem rd_map (ks : List Nat) (k : Nat) : rd (ks.map fun k : Nat => (k : Int)) (k : Int) = ((ks.getD k 0 : Nat) : Int) := by
  unfold rd
  rw [Int.toNat_natCast, List.getD_eq_getElem?_getD, List.getD_eq_getElem?_getD, List.getElem?_map]
  cases ks[k]? <;> rfl
def outOf (ks : List Nat) (es : List Ent) : List Nat := es.map fun e => ks.getD e.2.toNat 0
/-- What the queue told so far, es, and what it still holds, m. -/
structure Popped (l : PL) (ks : List Nat) (es m : List Ent) : Prop where
  perm : (es ++ m).Perm (ents l ks ks.length)
  sorted : es.Pairwise (fun a b => lt b a = false)
  ahead : ∀ a ∈ es, ∀ b ∈ m, lt b a = false
theorem Popped.start (l : PL) (ks : List Nat) : Popped l ks [] (ents l ks ks.length) := ⟨List.Perm.refl _, List.Pairwise.nil, fun _ h => absurd h (by simp)⟩
theorem Popped.step {l : PL} {ks : List Nat} {es m m' : List Ent} {x : Ent} (h : Popped l ks es m) (hp : m.Perm (x :: m')) (hmin : ∀ y, y ∈ m → lt y x = false) : Popped l ks (es ++ [x]) m' := by
  have hx : x ∈ m := hp.mem_iff.2 (List.mem_cons_self ..)
  have hs : ∀ b ∈ m', b ∈ m := fun b hb => hp.mem_iff.2 (List.mem_cons_of_mem _ hb)
  refine ⟨?_, ?_, fun a ha b hb => ?_⟩
  · rw [List.append_assoc]
    exact (List.Perm.append_left es hp.symm).trans h.perm
  · rw [List.pairwise_append]
    exact ⟨h.sorted, by simp, fun a ha b hb => by rw [List.mem_singleton] at hb; subst hb; exact h.ahead a ha b hx⟩
  · rcases List.mem_append.1 ha with ha | ha
    · exact h.ahead a ha b (hs b hb)
    · rw [List.mem_singleton] at ha; subst ha; exact hmin b (hs b hb)
theorem out_snoc (ks : List Nat) (es : List Ent) (p : Int) (k : Nat) : outOf ks (es ++ [(p, (k : Int))]) = outOf ks es ++ [ks.getD k 0] := by
  unfold outOf
  rw [List.map_append]
  simp
theorem ents_out (l : PL) (ks : List Nat) : ∀ n, n ≤ ks.length → (outOf ks (ents l ks n)).Perm (ks.take n)
  | 0, _ => by simp [outOf, ents]
  | n + 1, h => by
    have ih := ents_out l ks n (by omega)
    have e : ks.take (n + 1) = ks.take n ++ [ks.getD n 0] := by
      rw [List.take_add_one, List.getD_eq_getElem?_getD, List.getElem?_eq_getElem (by omega)]
      rfl
    rw [e]
    show (ks.getD ((n : Int).toNat) 0 :: outOf ks (ents l ks n)).Perm _
    rw [Int.toNat_natCast]
    exact (List.Perm.cons _ ih).trans (List.perm_append_singleton _ _).symm
theorem ents_mem (l : PL) (ks : List Nat) : ∀ n x, x ∈ ents l ks n → ∃ k, k < n ∧ x = (prioAt l (ks.getD k 0), (k : Int))
  | 0, x, h => by simp [ents] at h
  | n + 1, x, h => by
    rcases List.mem_cons.1 h with h | h
    · exact ⟨n, Nat.lt_succ_self n, h⟩
    · obtain ⟨k, hk, e⟩ := ents_mem l ks n x h
      exact ⟨k, Nat.lt_succ_of_lt hk, e⟩
theorem ents_nodup (l : PL) (ks : List Nat) : ∀ n, (ents l ks n).Nodup
  | 0 => List.nodup_nil
  | n + 1 => by
    refine List.nodup_cons.2 ⟨fun h => ?_, ents_nodup l ks n⟩
    obtain ⟨k, hk, e⟩ := ents_mem l ks n _ h
    injection e with _ e
    omega
/-- One place ahead of another: the greater priority; of equal ones a name that isn't greater. -/
def Ahead (l : PL) (a b : Nat) : Prop := prioAt l b < prioAt l a ∨ (prioAt l a = prioAt l b ∧ ¬ (idAt l b).toList < (idAt l a).toList)
theorem popped_ahead {l : PL} {ks : List Nat} {es : List Ent} (h : Popped l ks es []) (hs : Rises l ks) : (outOf ks es).Perm ks ∧ (outOf ks es).Pairwise (Ahead l) := by
  have hp := h.perm
  rw [List.append_nil] at hp
  refine ⟨(hp.map _).trans (by have := ents_out l ks ks.length (Nat.le_refl _); rw [List.take_length] at this; exact this), ?_⟩
  unfold outOf
  rw [List.pairwise_map]
  have hnd : es.Nodup := hp.nodup_iff.2 (ents_nodup l ks _)
  refine (List.Pairwise.and h.sorted hnd).imp_of_mem (fun {a b} ha hb hab => ?_)
  obtain ⟨i, hi, rfl⟩ := ents_mem l ks _ a (hp.mem_iff.1 ha)
  obtain ⟨j, hj, rfl⟩ := ents_mem l ks _ b (hp.mem_iff.1 hb)
  obtain ⟨h1, h2⟩ := hab
  rw [QM.lt_false_iff] at h1
  simp only [Int.toNat_natCast] at h1 ⊢
  rcases h1 with h1 | ⟨h1, h3⟩
  · exact .inl h1
  · refine .inr ⟨h1.symm, ?_⟩
    have hij : i ≠ j := fun e => h2 (by rw [e])
    exact hs i j (by omega) hj
abbrev IR (w : World) (base : Nat) (v : Value) (ks : List Nat) : Prop := Kd.R (Kd.int .i64) 3 w base (fun _ => True) v (ks.map fun k : Nat => (k : Int))
theorem below_grown_ {w0 w w' : World} {v : Value} (HB : Below w0.heap.size w0 w) (hg : w.grownBy w' v.ownBlock) (hb : ∀ k, v.ownBlock = some k → w0.heap.size ≤ k) : Below w0.heap.size w0 w' :=
  HB.trans ⟨hg.os, hg.tape, hg.output, hg.size, fun k hk => hg.block k (Nat.lt_of_lt_of_le hk HB.size) (fun e => by have := hb k e.symm; omega)⟩
theorem out_kept {w w' : World} {g base : Nat} {ro : Option Nat} {m : List Ent} {v : Value} {os : List Nat} (HQ : IsQ 138 142 w g ro m) (h : IR w base v os) (hkp : Kp (fun q => q = g ∨ some q = ro) w w') : IR w' base v os := by
  obtain ⟨v', l', hg, _, _, h4⟩ := HQ.ex
  have h1 := Kd.R_types h hg (by decide)
  rcases h4 with ⟨rfl, _⟩ | ⟨r, cap, rfl, _, hrow, _⟩
  · exact Kd.R_mono (Kd.R_kept h1 (show Kept w w' _ from ⟨hkp.size, hkp.block⟩) (fun k hk h_ => h_.elim hk.2 (fun e => by cases e))) (fun _ _ => trivial)
  · obtain ⟨cur, hc, _⟩ := hrow.ex
    have h2 := Kd.R_types h1 hc (by decide)
    exact Kd.R_mono (Kd.R_kept h2 (show Kept w w' _ from ⟨hkp.size, hkp.block⟩) (fun k hk h_ => h_.elim hk.1.2 (fun e => hk.2 (by injection e)))) (fun _ _ => trivial)
theorem iq_grown {w w' : World} {g base : Nat} {ro : Option Nat} {m : List Ent} {v : Value} {os : List Nat} (HQ : IsQ 138 142 w g ro m) (h : IR w base v os) (hg : w.grownBy w' v.ownBlock) : IsQ 138 142 w' g ro m := by
  obtain ⟨v', l', hq, _, _, h4⟩ := HQ.ex
  have hn := Kd.R_ne h hq (by decide)
  refine HQ.kp (S := fun k => some k = v.ownBlock) ⟨hg.os, hg.tape, hg.output, hg.size, fun k hk hne => hg.block k hk hne⟩ hn (fun r hr => ?_)
  rcases h4 with ⟨e, _⟩ | ⟨r', cap, e, _, hrow, _⟩
  · rw [e] at hr; cases hr
  · rw [e] at hr
    injection hr with hr
    subst hr
    obtain ⟨cur, hc, _⟩ := hrow.ex
    exact Kd.R_ne h hc (by decide)
theorem ir_app {w : World} {base : Nat} {v : Value} {ks : List Nat} {j : Nat} (h : Kd.R (Kd.int .i64) 3 w base (fun _ => True) v ((ks.map fun k : Nat => (k : Int)) ++ [(j : Int)])) : IR w base v (ks ++ [j]) := by
  show Kd.R _ _ _ _ _ _ _
  rw [List.map_append]
  exact h
set_option maxRecDepth 100000 in
set_option maxHeartbeats 16000000 in
theorem order_calls {A0 : Option Addr} {c0 : Nat} {l : PL} {A1 : Option Addr} {c1 : Nat} {codes : List ByteArray} {w : World} (h0 : Kd.C k60 w A0 l.length l) (hc0 : l.length ≤ c0) (h1 : Kd.C Kd.string w A1 codes.length codes) (hc1 : codes.length ≤ c1) (h20 : l.length < 20) :
    Calls Try.prog 35 #[.slice A0 l.length c0, .slice A1 codes.length c1] w fun e w' => ∃ (v : Value) (os : List Nat), e = .returned v ∧ os.Perm (places l codes l.length) ∧ os.Pairwise (Ahead l) ∧ IR w' w.heap.size v os ∧ Below w.heap.size w w' := by
  have hu60 := Try.underlying60
  have hu23 := Try.underlying23
  have hmf : ∀ (fn : Fn) (first cap : Array Value) (w : World), (Instr.makeFunc fn first cap).run Try.prog w = .ok (.func fn first cap) w := fun _ _ _ _ => rfl
  have HR0 := Aside0.mk h0; have HC0 := Aside0.mk hc0; have HR1 := Aside0.mk h1; have HC1 := Aside0.mk hc1; have H20 := Aside0.mk h20
  clear h0 hc0 h1 hc1 h20
  have HB := Aside0.mk (Below.refl w.heap.size w)
  go_enter Try.func35, Try.ntmps35
  go_wp2_with (first | ((with_reducible refine gate_dst (N := 2) rfl ?_); refine box_event rf_ (N := 2) rf_ (cs := #[.slice A0 l.length c0]) (t := 23) lr_ ?_; intro g2 hg w1 hbox hb; have B2 := Aside0.mk hbox; have G2 := Aside0.mk (ge_ HB hg (hb0_ HB)); replace HB := Aside0.mk (below_step (hb0_ HB) hb); clear hb hbox hg; have b2_ := cl_ B2 0))
  go_loopw [17, 5] (fun x y wr => ∃ (j : Nat) (v : Value), x = .int .i64 j ∧ y = v ∧ Aside0 (j ≤ l.length) ∧ Aside0 (IR wr w.heap.size v (places l codes j)) ∧ Aside0 (wr.heap[g2]? = some (.cells #[.slice A0 l.length c0] 23 (0, 0))) ∧ Aside0 (Below w.heap.size w wr)) (fun x _ _ => l.length - (intOf x).toNat)
  case atStart => exact ⟨0, _, rfl, rfl, ⟨Nat.zero_le _⟩, ⟨Kd.R_nil _ _ _ _ _⟩, B2, HB⟩
  case round =>
  clear B2 HB b2_
  obtain ⟨j, v5, rfl, hv5, HJ, HO, B2, HB⟩ := hrel
  have hv6 := hv5.symm
  clear hv5
  subst hv6
  by_cases hlt : j < l.length
  · have hd : decide ((j : Int) < (l.length : Int)) = true := decide_eq_true (by omega)
    have hdn : decide (j < l.length) = true := decide_eq_true hlt
    go_upto_region 4 with fail
    obtain ⟨ad, E6, d6, E7, d7, E13, d13, E14, d14, ead, x0, x1, x2, x3, x4, x5, x6, x7, x8, x9, x10, x11, x12, x13, x14, l6, g6, l7, g7, l13, g13, l14, g14⟩ := at_T60 (Kd.C_below HR0.out HB.out) (j : Int) (by omega) (by omega)
    rw [Int.toNat_natCast] at x0 x1 x2 x3 x4 x5 x6 x7 x8 x9 x10 x11 x12 x13 x14
    clear l6 g6 l7 g7 l13 g13 l14 g14
    subst ead
    have HY : Aside0 (codeAt l j = (rd_T60 l (j : Int)).f4) := ⟨rfl⟩
    obtain ⟨y, hy⟩ : ∃ y, rd_T60 l (j : Int) = y := ⟨_, rfl⟩
    rw [hy] at x0 x1 x2 x3 x4 x5 x6 x7 x8 x9 x10 x11 x12 x13 x14 HY
    clear hy
    obtain ⟨f0, f1, f2, f3, f4, f5, ⟨f60, f61⟩, f7, f8, f9, f10, f11, f12, f13⟩ := y
    simp only at x0 x1 x2 x3 x4 x5 x6 x7 x8 x9 x10 x11 x12 x13 x14
    have HLT := Aside0.mk hlt
    have p_ : (0 ≤ (j : Int)) = True := eq_true (by omega)
    have q_ : ((j : Int) < (l.length : Int)) = True := eq_true (by omega)
    have HX := Aside0.mk (Below.refl wr.heap.size wr)
    go_upto_region 5 with (first | ((with_reducible refine gate_dst (N := 7) rfl ?_); refine box_event rf_ (N := 7) rf_ (cs := #[.string ⟨#[]⟩, .int .i64 0, .int .i64 0, .string ⟨#[]⟩, .string ⟨#[]⟩, .bool false, .slice none 0 0, .slice none 0 0, .int .i64 0, .int .i64 0, .int .i64 0, .int .i64 0, .int .i64 0, .slice none 0 0, .slice none 0 0]) (t := 60) lr_ ?_; intro g7 hg w7 hbox hb; have B7 := Aside0.mk hbox; have G7 := Aside0.mk (ge_ HX hg (hb0_ HX)); replace HX := Aside0.mk (below_step (hb0_ HX) hb); replace x0 := hd_ HX x0; replace x1 := hd_ HX x1; replace x2 := hd_ HX x2; replace x3 := hd_ HX x3; replace x4 := hd_ HX x4; replace x5 := hd_ HX x5; replace x6 := hd_ HX x6; replace x7 := hd_ HX x7; replace x8 := hd_ HX x8; replace x9 := hd_ HX x9; replace x10 := hd_ HX x10; replace x11 := hd_ HX x11; replace x12 := hd_ HX x12; replace x13 := hd_ HX x13; replace x14 := hd_ HX x14; clear hb hbox hg) | (refine wpList_store_row rfl 60 _ _ rfl g7 #[.string f0, .int .i64 f1, .int .i64 f2, .string f3, .string f4, .bool f5, .slice E6 f60.length d6, .slice E7 f61.length d7, .int .i64 f7, .int .i64 f8, .int .i64 f9, .int .i64 f10, .int .i64 f11, .slice E13 f12.length d13, .slice E14 f13.length d14] rfl rfl 60 #[.string ⟨#[]⟩, .int .i64 0, .int .i64 0, .string ⟨#[]⟩, .string ⟨#[]⟩, .bool false, .slice none 0 0, .slice none 0 0, .int .i64 0, .int .i64 0, .int .i64 0, .int .i64 0, .int .i64 0, .slice none 0 0, .slice none 0 0] B7.out rfl rfl (by simp [Value.oneCell']) ?_; refine nameL_ (fun wA hwA => ?_); have NX : Aside0 (Below wr.heap.size wr wA) := ⟨by rw [hwA]; exact brow_ HX.out G7.out⟩; have N7 : Aside0 (wA.heap[g7]? = some (.cells #[.string f0, .int .i64 f1, .int .i64 f2, .string f3, .string f4, .bool f5, .slice E6 f60.length d6, .slice E7 f61.length d7, .int .i64 f7, .int .i64 f8, .int .i64 f9, .int .i64 f10, .int .i64 f11, .slice E13 f12.length d13, .slice E14 f13.length d14] 60 (0, 0))) := ⟨by rw [hwA]; exact setRow_heap _ _ _ _ _ _ B7.out⟩; clear hwA HX B7 x0 x1 x2 x3 x4 x5 x6 x7 x8 x9 x10 x11 x12 x13 x14))
    clear p_ q_ G7 hd hdn hlt
    replace B2 := Aside0.mk (blk_below B2.out NX.out)
    replace HO : Aside0 (IR wA w.heap.size v5 (places l codes j)) := ⟨Kd.R_below HO.out NX.out⟩
    replace HB := Aside0.mk (below_step HB.out NX.out)
    clear NX
    have b7_ := cl_ N7 4
    obtain ⟨e1, he1⟩ : ∃ b, (f4.toList == []) = b := ⟨_, rfl⟩
    have ke1 : decide (f4.toList = []) = e1 := by rw [← he1]; by_cases h : f4.toList = [] <;> simp [h]
    have hkl : j < 9223372036854775807 := by have h1 := HLT.out; have h2 := H20.out; omega
    have HA : Aside0 (asked l codes j = (e1 || hasS codes f4)) := ⟨by unfold asked; rw [HY.out, he1]⟩
    clear HY
    cases e1 with
    | true =>
      replace HA : Aside0 (asked l codes j = true) := ⟨by rw [HA.out]; rfl⟩
      go_wp2_with (first | ((with_reducible refine gate_builtin (b := .append) (xs := #[.tmp 31, .tmp 33]) rfl ?_); at_builtin; refine Kd.R_append (Kd.int .i64) (w0 := w) w.heap.size rfl (.tmp 31) (.tmp 33) 29 3 (.int .i64 0) 8 rfl Try.underlying29 info3 rfl (by decide) (by omega) v5 ((places l codes j).map fun k : Nat => (k : Int)) (j : Int) [.int .i64 (j : Int)] (fun _ => True) (fun _ => False) rfl rfl ?aP (fun _ hk => hk.elim) ?aF ?aO ?aB ?aS ?aL ?_; (case aP => exact rfl); (case aB => exact (hb0_ HB)); (case aF => exact (fun _ _ => trivial)); (case aO => exact (ro_ HO)); (case aS => exact (below_size (hb0_ HB))); (case aL => have h1 := places_len l codes j; have h2 := HLT.out; have h3 := H20.out; rw [List.length_map]; omega); intro v9 w19 ho hb hg hat; have n0_ := Aside0.mk hb; have n1_ := Aside0.mk ho; have n2_ := Aside0.mk (blk_grown (g := g2) (o := .cells #[.slice (some ad) l.length c0] 23 (0, 0)) (bk_ B2) hg (Kd.R_ne HO.out B2.out (by decide))); clear HB HO B2; have HB := n0_; have HO := n1_; have B2 := n2_; clear n0_ n1_ n2_; clear ho hb hg hat))
      refine ⟨⟨j + 1, _, rfl, rfl, HLT, ⟨by rw [places_succ, if_pos HA.out]; exact ir_app HO.out⟩, B2, HB⟩, ?_⟩
      have h1 := HLT.out
      show l.length - (j + 1) < l.length - j
      omega
    | false =>
      replace HA : Aside0 (asked l codes j = hasS codes f4) := ⟨by rw [HA.out]; rfl⟩
      obtain ⟨kc, hkc⟩ := (contS_f codes f4 HR1.out.2.1).rounds
      obtain ⟨r, hr⟩ : ∃ r, hasS codes f4 = r := ⟨_, rfl⟩
      rw [hr] at hkc HA
      clear hr
      go_wp2_with fail
      refine (slices_Contains_string_string.calls kc _ _ codes f4 r _ (Kd.C_below HR1.out HB.out) HC1.out hkc).mono ?_
      rintro e w8 ⟨rfl, ⟨nd, rfl⟩⟩
      replace B2 := Aside0.mk (blk_drewN B2.out nd)
      replace HO := Aside0.mk (Kd.R_drewN HO.out nd)
      replace HB := Aside0.mk (pw_below_drewN HB.out nd)
      clear hkc
      generalize wA.drewN nd = w8 at B2 HO HB ⊢
      cases r with
      | true =>
        go_wp2_with (first | ((with_reducible refine gate_builtin (b := .append) (xs := #[.tmp 31, .tmp 33]) rfl ?_); at_builtin; refine Kd.R_append (Kd.int .i64) (w0 := w) w.heap.size rfl (.tmp 31) (.tmp 33) 29 3 (.int .i64 0) 8 rfl Try.underlying29 info3 rfl (by decide) (by omega) v5 ((places l codes j).map fun k : Nat => (k : Int)) (j : Int) [.int .i64 (j : Int)] (fun _ => True) (fun _ => False) rfl rfl ?aP (fun _ hk => hk.elim) ?aF ?aO ?aB ?aS ?aL ?_; (case aP => exact rfl); (case aB => exact (hb0_ HB)); (case aF => exact (fun _ _ => trivial)); (case aO => exact (ro_ HO)); (case aS => exact (below_size (hb0_ HB))); (case aL => have h1 := places_len l codes j; have h2 := HLT.out; have h3 := H20.out; rw [List.length_map]; omega); intro v9 w19 ho hb hg hat; have n0_ := Aside0.mk hb; have n1_ := Aside0.mk ho; have n2_ := Aside0.mk (blk_grown (g := g2) (o := .cells #[.slice (some ad) l.length c0] 23 (0, 0)) (bk_ B2) hg (Kd.R_ne HO.out B2.out (by decide))); clear HB HO B2; have HB := n0_; have HO := n1_; have B2 := n2_; clear n0_ n1_ n2_; clear ho hb hg hat))
        refine ⟨⟨j + 1, _, rfl, rfl, HLT, ⟨by rw [places_succ, if_pos HA.out]; exact ir_app HO.out⟩, B2, HB⟩, ?_⟩
        have h1 := HLT.out
        show l.length - (j + 1) < l.length - j
        omega
      | false =>
        go_wp2_with fail
        refine ⟨⟨j + 1, _, rfl, rfl, HLT, ⟨by rw [places_succ, if_neg (by rw [HA.out]; decide), List.append_nil]; exact HO.out⟩, B2, HB⟩, ?_⟩
        have h1 := HLT.out
        show l.length - (j + 1) < l.length - j
        omega
  · have hd : decide ((j : Int) < (l.length : Int)) = false := decide_eq_false (by omega)
    have hdn : decide (j < l.length) = false := decide_eq_false hlt
    obtain rfl : j = l.length := by have := HJ.out; omega
    clear hlt HJ
    go_wp2_with fail
    obtain ⟨P5, q5, e5⟩ := Kd.R_slice HO.out
    rw [List.length_map] at e5
    subst e5
    have hpl : (places l codes l.length).length < 20 := by have h1 := places_len l codes l.length; have h2 := H20.out; omega
    refine (sort_calls (w0 := w) HR0.out HB.out B2.out HO.out (places_lt l codes l.length) hpl (Kd.R_ne HO.out B2.out (by decide))).mono ?_
    rintro e w10 ⟨rfl, ks, hperm, hrise, hR, hg⟩
    have HP := Aside0.mk hperm; have HS := Aside0.mk hrise
    have elen := hperm.length_eq
    rw [← elen] at hR hpl ⊢
    have HL : Aside0 (ks.length < 20) := ⟨hpl⟩
    have HKL : Aside0 (∀ k ∈ ks, k < l.length) := ⟨fun k hk => places_lt l codes l.length k (hperm.mem_iff.1 hk)⟩
    have G2b : Aside0 (g2 < w10.heap.size) := ⟨by have h1 := (Array.getElem?_eq_some_iff.1 B2.out).1; have h2 := hg.size; omega⟩
    have n2_ := Aside0.mk (blk_grown (g := g2) (o := .cells #[.slice A0 l.length c0] 23 (0, 0)) B2.out hg (Kd.R_ne HO.out B2.out (by decide)))
    have n1_ := Aside0.mk (below_grown_ HB.out hg (Kd.R_base HO.out))
    clear B2 HB HO
    have B2 := n2_; have HB := n1_; clear n2_ n1_
    have HO := Aside0.mk (Kd.R_bound hR)
    clear hperm hrise elen hpl hR hg hd hdn
    go_wp2_with fail
    refine (QW.new_calls _).mono ?_
    rintro e w11 ⟨g, rfl, hq, hge, hkp⟩
    have hb : Below w10.heap.size w10 w11 := hkp.to_below (Nat.le_refl _) (fun _ h => h.elim)
    replace B2 := Aside0.mk (blk_below B2.out hb)
    replace HO : Aside0 (Kd.R (Kd.int .i64) 3 w11 w.heap.size (fun k => k < w10.heap.size) (.slice P5 ks.length q5) (ks.map fun k : Nat => (k : Int))) := ⟨Kd.R_mono (Kd.R_below HO.out hb) (fun _ h_ => h_.2.2.1)⟩
    have LN : Aside0 (w.heap.size ≤ w10.heap.size) := ⟨HB.out.size⟩
    have HBW := HB
    clear HB
    have HB := Aside0.mk hb
    have HQ := Aside0.mk hq; have GQ := Aside0.mk hge
    clear hq hge hkp hb
    go_wp2_with fail
    go_loopw [42] (fun x wr => ∃ (k : Nat) (ro : Option Nat), x = .int .i64 k ∧ Aside0 (k ≤ ks.length) ∧ Aside0 (IsQ 138 142 wr g ro (ents l ks k)) ∧ Aside0 (∀ r, ro = some r → w10.heap.size ≤ r) ∧ Aside0 (wr.heap[g2]? = some (.cells #[.slice A0 l.length c0] 23 (0, 0))) ∧ Aside0 (Kd.R (Kd.int .i64) 3 wr w.heap.size (fun k => k < w10.heap.size) (.slice P5 ks.length q5) (ks.map fun k : Nat => (k : Int))) ∧ Aside0 (Below w10.heap.size w10 wr) ∧ Aside0 (w10.heap.size ≤ wr.heap.size)) (fun x _ => ks.length - (intOf x).toNat)
    case atStart => exact ⟨0, none, rfl, ⟨Nat.zero_le _⟩, HQ, ⟨fun r h => by cases h⟩, B2, HO, HB, ⟨by have := HQ.out.lt; have := GQ.out; omega⟩⟩
    case round =>
    clear HQ B2 HO HB
    obtain ⟨k, ro, rfl, HK, HQ, HRO, B2, HO, HB, HN⟩ := hrel
    by_cases hlt : k < ks.length
    · have hd : decide ((k : Int) < (ks.length : Int)) = true := decide_eq_true (by omega)
      have hdn : decide (k < ks.length) = true := decide_eq_true hlt
      obtain ⟨K, hK⟩ : ∃ K, ks.getD k 0 = K := ⟨_, rfl⟩
      have hKl : K < l.length := HKL.out K (by rw [← hK, List.getD_eq_getElem?_getD, List.getElem?_eq_getElem hlt]; exact List.getElem_mem hlt)
      have hC := (Kd.R_reads' HO.out).2.2
      obtain ⟨a5, ea5, y0⟩ := Kd.at_int hC (k : Int) (by omega) (by first | omega | (rw [List.length_map]; omega))
      rw [Int.toNat_natCast, rd_map ks k, hK] at y0
      obtain ⟨ad, E6, d6, E7, d7, E13, d13, E14, d14, ead, x0, x1, x2, _⟩ := at_T60 (Kd.C_below HR0.out (below_step HBW.out HB.out)) (K : Int) (by omega) (by omega)
      rw [Int.toNat_natCast] at x0 x1 x2
      subst ead
      subst ea5
      clear hC x0 x1
      have HE : Aside0 (ents l ks (k + 1) = ((rd_T60 l (K : Int)).f2, (k : Int)) :: ents l ks k) := ⟨by show (prioAt l (ks.getD k 0), (k : Int)) :: ents l ks k = _; rw [hK]; rfl⟩
      obtain ⟨pr, hpr⟩ : ∃ y, (rd_T60 l (K : Int)).f2 = y := ⟨_, rfl⟩
      rw [hpr] at x2 HE
      clear hpr hK
      have p_ : (0 ≤ (k : Int)) = True := eq_true (by omega)
      have q_ : ((k : Int) < (ks.length : Int)) = True := eq_true (by omega)
      have p2_ : (0 ≤ (K : Int)) = True := eq_true (by omega)
      have q2_ : ((K : Int) < (l.length : Int)) = True := eq_true (by omega)
      have b2_ := cl_ B2 0
      have HLT := Aside0.mk hlt
      go_wp2_with fail
      clear p_ q_ p2_ q2_ b2_ y0 x2 hd hdn hlt
      refine (QW.push_calls pr (k : Int) HQ.out (by rw [ents_len]; have h1 := HLT.out; have h2 := HL.out; omega)).mono ?_
      rintro e w12 ⟨rfl, r, hq, hr, hkp⟩
      have hkept : Kept wr w12 (fun q => q = g ∨ some q = ro) := ⟨hkp.size, hkp.block⟩
      have hoff : ∀ q, q < w10.heap.size → ¬ (q = g ∨ some q = ro) := fun q hq_ h_ => h_.elim (fun h_ => by have := GQ.out; omega) (fun h_ => by have := HRO.out q h_.symm; omega)
      have nB2 := Aside0.mk ((hkp.block g2 (by have := G2b.out; have := HN.out; omega) (hoff g2 G2b.out)).trans B2.out)
      have nHO := Aside0.mk (Kd.R_kept HO.out hkept hoff)
      have nHB := Aside0.mk (QR.Kp.below_trans HB.out hkp (Nat.le_refl _) (fun q h_ => Nat.not_lt.1 (fun hq_ => hoff q hq_ h_)))
      have nHN : Aside0 (w10.heap.size ≤ w12.heap.size) := ⟨Nat.le_trans HN.out hkp.size⟩
      have nHRO : Aside0 (∀ r', some r = some r' → w10.heap.size ≤ r') := ⟨fun r' h_ => by
        injection h_ with h_
        subst h_
        rcases hr with h_ | h_
        · exact HRO.out r h_
        · exact Nat.le_trans HN.out h_⟩
      have nHQ := Aside0.mk hq
      rw [← HE.out] at nHQ
      have hkl : k < 9223372036854775807 := by have h1 := HLT.out; have h2 := HL.out; omega
      clear hkept hoff hq hr hkp HE B2 HO HB HN HRO HQ hKl
      go_wp2_with fail
      refine ⟨⟨k + 1, some r, rfl, HLT, nHQ, nHRO, nB2, nHO, nHB, nHN⟩, ?_⟩
      have h1 := HLT.out
      show ks.length - (k + 1) < ks.length - k
      omega
    · have hd : decide ((k : Int) < (ks.length : Int)) = false := decide_eq_false (by omega)
      have hdn : decide (k < ks.length) = false := decide_eq_false hlt
      obtain rfl : k = ks.length := by have := HK.out; omega
      clear hlt HK
      go_wp2_with fail
      clear hd hdn
      go_loopg [11] ks.length (fun gk y wr => ∃ (es m : List Ent) (ro : Option Nat) (v : Value), y = v ∧ Aside0 (m.length = gk) ∧ Aside0 (IsQ 138 142 wr g ro m) ∧ Aside0 (Popped l ks es m) ∧ Aside0 (∀ r, ro = some r → w10.heap.size ≤ r) ∧ Aside0 (Kd.R (Kd.int .i64) 3 wr w.heap.size (fun k => k < w10.heap.size) (.slice P5 ks.length q5) (ks.map fun k : Nat => (k : Int))) ∧ Aside0 (IR wr w10.heap.size v (outOf ks es)) ∧ Aside0 (Below w10.heap.size w10 wr) ∧ Aside0 (w10.heap.size ≤ wr.heap.size))
      case atStart => exact ⟨[], ents l ks ks.length, ro, _, rfl, ⟨ents_len l ks _⟩, HQ, ⟨Popped.start l ks⟩, HRO, HO, ⟨Kd.R_nil _ _ _ _ _⟩, HB, HN⟩
      case round =>
      clear HQ HRO HO HB HN B2
      obtain ⟨es, m, ro, v11, hv, HM, HQ, HPO, HRO, HO, OUT, HB, HN⟩ := hrel
      have hv6 := hv.symm
      clear hv
      subst hv6
      by_cases hm : 0 < m.length
      · have hd : decide ((m.length : Int) > 0) = true := decide_eq_true (by omega)
        have hdn : decide (0 < m.length) = true := decide_eq_true hm
        have HML := Aside0.mk hm
        have hml : m.length ≤ ks.length := by have h_ := HPO.out.perm.length_eq; rw [List.length_append, ents_len] at h_; omega
        have HMK := Aside0.mk hml
        clear hm hml
        go_wp2_with fail
        refine (QW.qlen_calls HQ.out).mono ?_
        rintro e w' ⟨rfl, rfl⟩
        go_wp2_with fail
        clear hd hdn
        refine (QW.pop_calls HQ.out HML.out (by have h1 := HMK.out; have h2 := HL.out; omega)).mono ?_
        rintro e w13 ⟨x, m', rfl, hpm, hmin, hq, hkp⟩
        obtain ⟨k, hk, rfl⟩ := ents_mem l ks ks.length x (HPO.out.perm.mem_iff.1 (List.mem_append.2 (.inr (hpm.mem_iff.2 (List.mem_cons_self ..)))))
        have HPO2 := Aside0.mk (HPO.out.step hpm hmin)
        have HM2 : Aside0 (m'.length < gk) := ⟨by have h1 := hpm.length_eq; have h2 := HM.out; rw [List.length_cons] at h1; omega⟩
        have hkept : Kept wr w13 (fun q => q = g ∨ some q = ro) := ⟨hkp.size, hkp.block⟩
        have hoff : ∀ q, q < w10.heap.size → ¬ (q = g ∨ some q = ro) := fun q hq_ h_ => h_.elim (fun h_ => by have := GQ.out; omega) (fun h_ => by have := HRO.out q h_.symm; omega)
        have nHO := Aside0.mk (Kd.R_kept HO.out hkept hoff)
        have nOUT := Aside0.mk (out_kept HQ.out OUT.out hkp)
        have nHB := Aside0.mk (QR.Kp.below_trans HB.out hkp (Nat.le_refl _) (fun q h_ => Nat.not_lt.1 (fun hq_ => hoff q hq_ h_)))
        have nHN : Aside0 (w10.heap.size ≤ w13.heap.size) := ⟨Nat.le_trans HN.out hkp.size⟩
        have nHQ := Aside0.mk hq
        have HK := Aside0.mk hk
        clear hkept hoff hpm hmin hq hkp HO HB HN HQ HPO OUT HM
        have HO := nHO; have OUT := nOUT; have HB := nHB; have HN := nHN; have HQ := nHQ
        clear nHO nOUT nHB nHN nHQ
        obtain ⟨K, hK⟩ : ∃ K, ks.getD k 0 = K := ⟨_, rfl⟩
        have hC := (Kd.R_reads' HO.out).2.2
        obtain ⟨a5, ea5, y0⟩ := Kd.at_int hC (k : Int) (by omega) (by first | omega | (rw [List.length_map]; omega))
        rw [Int.toNat_natCast, rd_map ks k, hK] at y0
        subst ea5
        have HKK := Aside0.mk hK
        clear hC hK
        have p_ : (0 ≤ (k : Int)) = True := eq_true (by omega)
        have q_ : ((k : Int) < (ks.length : Int)) = True := eq_true (by omega)
        clear hk
        have hol : ((outOf ks es).map fun k : Nat => (k : Int)).length < 1000000 := by
          have h1 := HPO2.out.perm.length_eq
          have h2 := HL.out
          rw [List.length_append, List.length_append, ents_len] at h1
          rw [List.length_map]
          show (es.map _).length < _
          rw [List.length_map]
          omega
        have HOL := Aside0.mk hol
        clear hol
        go_wp2_with (first | ((with_reducible refine gate_builtin (b := .append) (xs := #[.tmp 65, .tmp 70]) rfl ?_); at_builtin; refine Kd.R_append (Kd.int .i64) (w0 := w10) w10.heap.size rfl (.tmp 65) (.tmp 70) 29 3 (.int .i64 0) 8 rfl Try.underlying29 info3 rfl (by decide) (by omega) v11 ((outOf ks es).map fun k : Nat => (k : Int)) (K : Int) [.int .i64 (K : Int)] (fun _ => True) (fun _ => False) rfl rfl ?aP (fun _ hk => hk.elim) ?aF ?aO ?aB ?aS ?aL ?_; (case aP => exact rfl); (case aB => exact (hb0_ HB)); (case aF => exact (fun _ _ => trivial)); (case aO => exact (ro_ OUT)); (case aS => exact (below_size (hb0_ HB))); (case aL => have h1 := HOL.out; omega); intro v9 w19 ho hb hg hat; have n0_ := Aside0.mk hb; have n1_ := Aside0.mk ho; have n3_ : Aside0 (Kd.R (Kd.int .i64) 3 w19 w.heap.size (fun k => k < w10.heap.size) (.slice (some a5) ks.length q5) (ks.map fun k : Nat => (k : Int))) := ⟨by refine Kd.R_step ?h_ (fun k hk hlt => hg.block k hlt (fun e => by have := Kd.R_base OUT.out k e.symm; omega)); exact ro_ HO⟩; have n4_ := Aside0.mk (iq_grown HQ.out OUT.out hg); clear HB OUT HO HQ; have HB := n0_; have OUT := n1_; have HO := n3_; have HQ := n4_; clear n0_ n1_ n3_ n4_; clear ho hb hg hat))
        go_roundg m'.length
        case measure => exact HM2.out
        case rel => exact ⟨es ++ [(prioAt l (ks.getD k 0), (k : Int))], m', ro, v9, rfl, ⟨rfl⟩, HQ, HPO2, HRO, HO, ⟨by rw [out_snoc ks es (prioAt l (ks.getD k 0)) k, HKK.out]; exact ir_app OUT.out⟩, HB, ⟨HB.out.size⟩⟩
      · have hd : decide ((m.length : Int) > 0) = false := decide_eq_false (by omega)
        have hdn : decide (0 < m.length) = false := decide_eq_false hm
        obtain rfl : m = [] := List.eq_nil_of_length_eq_zero (by omega)
        clear hm
        go_wp2_with fail
        refine (QW.qlen_calls HQ.out).mono ?_
        rintro e w' ⟨rfl, rfl⟩
        go_wp2
        go_ret
        exact ⟨v11, outOf ks es, rfl, (popped_ahead HPO.out HS.out).1.trans HP.out, (popped_ahead HPO.out HS.out).2, Kd.R_lower OUT.out LN.out, below_step HBW.out HB.out⟩
end Go.Proofs.Ytdmeepjefccpgaa.HO
