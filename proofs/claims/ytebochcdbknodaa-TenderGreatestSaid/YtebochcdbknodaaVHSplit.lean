/- tender.asked and tender.Split: who gives back how much, as a Lean function, with its contract. -/
import Derived.Test.YtebochcdbknodaaProg
import Derived.Below
import Derived.Deep.Draws
import Derived.Deep.AppendLies
import Derived.Maps.AppendAt
import Derived.OwnWalk
import Derived.Laws.BytesArg
import Derived.Laws.MakeOwn
import Derived.Laws.OwnMore
import Derived.Deep.OwnRows
import Derived.Tactics
import Derived.Lib.ConvBytes
import Derived.Laws.Slices
import Derived.WalkKit
import Derived.KernelRfl
import Derived.RowKit3
import Derived.Deep.LoopGhost
import Derived.Deep.QuietTactic
import Derived.BigQuiet
import Derived.WideLaws
import Derived.Deep.DeepCutAuto
import Derived.Deep.CutBlock
import Derived.Deep.RegionHeld3
import Derived.Laws.Rows
import Derived.Lib.AppendStr
import Derived.ArgAppend
import Derived.Laws.IdiomCopy
import Derived.OrdersHeld
import Derived.Laws.BitsLemmas
import Derived.RowKit
import Derived.BigRegion
import Derived.Outline
import Derived.RegionTactic
import Derived.StillTailTactics
import Derived.Deep.RegionLaw
import Derived.Test.YtebochcdbknodaaVTenP
import Derived.Test.YtebochcdbknodaaVHLargest
set_option linter.unusedVariables false
set_option linter.unusedSimpArgs false
namespace Go.Proofs.Ytebochcdbknodaa.Rw
open Go Go.RowKit Go.Proofs.YtebochcdbknodaaW.PrintWords Go.Proofs.YtebochcdbknodaaW.PrintMore Go.Proofs.Ytebochcdbknodaa.SP Go.Proofs.Ytebochcdbknodaa.ST Go.Proofs.Ytebochcdbknodaa.SH Go.Proofs.Ytebochcdbknodaa.TP Go.Proofs.Ytebochcdbknodaa.QM Go.Proofs.Ytebochcdbknodaa.QR Go.Proofs.Ytebochcdbknodaa.QW

theorem q_types {TQ TE : Nat} {w : World} {g : Nat} {ro : Option Nat} {m : List Ent} (h : IsQ TQ TE w g ro m) : ∀ k, (k = g ∨ some k = ro) → ∀ cells q fr, w.heap[k]? = some (.cells cells q fr) → q = TQ ∨ q = TE := by
  obtain ⟨v', l, hq, _, _, h4⟩ := h.ex
  rintro k (rfl | hk) cells q fr hc
  · rw [hq] at hc
    injection hc with hc
    injection hc with _ hc
    exact .inl hc.symm
  · rcases h4 with ⟨e4, _⟩ | ⟨r', cap', e4, _, h5, _⟩
    · rw [e4] at hk; cases hk
    · rw [e4] at hk
      cases hk
      obtain ⟨cur', hc', _⟩ := h5.ex
      rw [hc'] at hc
      injection hc with hc
      injection hc with _ hc
      exact .inr hc.symm
/-- A row of one's own beside what a queue turns. -/
theorem R_kp {α : Type} {d : Kd α} {e : Nat} {w w1 : World} {base : Nat} {ok : Nat → Prop} {v : Value} {xs : List α} {S : Nat → Prop} (h : d.R e w base ok v xs) (hk : Kp S w w1) (hS : ∀ k, S k → ∀ cells q fr, w.heap[k]? = some (.cells cells q fr) → q ∉ e :: d.E) : d.R e w1 base ok v xs :=
  Kd.R_mono (Kd.R_move (Kd.R_bound h) (fun k hk' => hk.block k hk'.2.2.1 (fun hs => by
    obtain ⟨_, _, _, q, hq, cells, hc⟩ := hk'
    exact hS k hs _ _ _ hc hq))) (fun _ h => h.1)

set_option maxRecDepth 100000 in
set_option maxHeartbeats 8000000 in
theorem asked_calls (A0 : Option Addr) (c0 : Nat) (l : List Ten) (A1 : Option Addr) (c1 : Nat) (o : List Int) (w : World) (B : Nat) (hB : B ≤ w.heap.size) (hr0 : Kd.C k39 w A0 l.length l) (hr1 : Kd.C (Kd.int .i64) w A1 o.length o) (hc1 : o.length ≤ c1) (hl : l.length ≤ 6) (ho : o.length ≤ 1000000000) (hok : ∀ x ∈ l, tok x = true) :
    Calls Try.prog 28 #[.slice A0 l.length c0, .slice A1 o.length c1] w fun e w' => ∃ g ro, e = .returned (.pointer (some ⟨g, 0, none⟩)) ∧ IsQ 81 83 w' g ro (ents (ranks o l)) ∧ w.heap.size ≤ g ∧ (∀ r, ro = some r → w.heap.size ≤ r) ∧ Below w.heap.size w w' := by
  obtain ⟨B0, hB0⟩ : ∃ B0, B0 = w.heap.size := ⟨_, rfl⟩
  have HR0 := Aside0.mk hr0
  have HR1 := Aside0.mk hr1
  have HOK := Aside0.mk hok
  have HC1 := Aside0.mk hc1
  have HBB := Aside0.mk hB0
  rw [← hB0]
  clear hr0 hr1 hok hc1 hB hB0
  go_enter Try.func28, Try.ntmps28
  go_wp2_with fail
  refine (new_calls _).mono ?_
  rintro e w1 ⟨g, rfl, hq0, hg0, hk0⟩
  rw [← HBB.out] at hg0
  have HQ0 := Aside0.mk hq0
  have HW0 := Aside0.mk (show Below B0 w w1 from by rw [HBB.out]; exact hk0.to_below (Nat.le_refl _) (fun _ h => h.elim))
  clear hq0 hk0
  go_wp2_with fail
  go_loopw [12] (fun x wr => ∃ (k : Nat) (ro : Option Nat), x = .int .i64 k ∧ k ≤ l.length ∧ Aside0 (IsQ 81 83 wr g ro (ents ((ranks o l).take k))) ∧ Aside0 (∀ r, ro = some r → B0 ≤ r) ∧ Aside0 (Below B0 w wr)) (fun x _ => l.length - (intOf x).toNat)
  case atStart => exact ⟨0, none, rfl, Nat.zero_le _, HQ0, ⟨fun r h => by simp at h⟩, HW0⟩
  case round =>
    obtain ⟨k, ro, rfl, hk, HQ, HO, HW⟩ := hrel
    by_cases hlt : k < l.length
    · have hbel : Below w.heap.size w wr := by rw [← HBB.out]; exact HW.out
      obtain ⟨ad, hA, hx0, hx1, hx2⟩ := at_T39 (Kd.C_below HR0.out hbel) (k : Int) (by omega) (by omega)
      subst hA
      rw [Int.toNat_natCast, rdT_of l k hlt] at hx0 hx1 hx2
      have hxk := tok_iff.1 (HOK.out l[k] (List.getElem_mem hlt))
      have hrk : (ranks o l).length = l.length := ranks_length o l
      have hent := ents_take (ranks o l) k (by omega)
      have hrv : (ranks o l)[k]'(by omega) = -(tat o l[k]) := by simp [ranks]
      rw [hrv] at hent
      have HENT := Aside0.mk hent
      obtain ⟨X, hX⟩ : ∃ X, X = l[k] := ⟨_, rfl⟩
      rw [← hX] at hx0 hx1 hx2 hxk HENT
      obtain ⟨f0, f1, f2⟩ := X
      have hf0 : 1 ≤ f0 ∧ f0 ≤ 9 := ⟨hxk.1, hxk.2.1⟩
      obtain ⟨hf1, hf2⟩ := hf0
      have hkt : (k : Int).toNat = k := Int.toNat_natCast k
      have hsz : B0 ≤ wr.heap.size := by have := HW.out.size; have := HBB.out; omega
      have HSZ := Aside0.mk hsz
      have hpl := plc_le o f0
      clear hxk hrk hent hrv hX hbel hsz
      have hidx := index_f o f0 (by omega)
      have HIDX := Aside0.mk hidx
      clear hidx
      have hiw : ∀ wz, Below w.heap.size w wz → Kd.C (Kd.int .i64) wz A1 o.length o := fun wz h => Kd.C_below HR1.out h
      have HIW := Aside0.mk hiw
      clear hiw
      have HBW := Aside0.mk (show Below w.heap.size w wr from by rw [← HBB.out]; exact HW.out)
      have HRL := Aside0.mk (show (ranks o l).length = l.length from ranks_length o l)
      go_wp2_with fail
      by_cases hfd : plc o f0 < o.length
      · have HIDX2 := Aside0.mk (show slices_Index_int_int.f (o.length + 1) o f0 = some ((plc o f0 : Nat) : Int) from by rw [HIDX.out, if_pos hfd])
        have hat : tat o ⟨f0, f1, f2⟩ = ((plc o f0 : Nat) : Int) := by unfold tat; rw [if_pos hfd]
        rw [hat] at HENT
        obtain ⟨p, hp⟩ : ∃ p, p = plc o f0 := ⟨_, rfl⟩
        rw [← hp] at HIDX2 HENT hpl
        have hd1 : decide ((p : Int) < 0) = false := by simp
        have hpb : p ≤ 1000000000 := by omega
        clear hat hfd hp HIDX
        refine (slices_Index_int_int.calls (o.length + 1) A1 c1 o f0 (p : Int) _ (HIW.out _ (by first | exact (HBW.out.alloc (below_size HBW.out) _) | exact pw_below_drewN (HBW.out.alloc (below_size HBW.out) _) _)) HC1.out HIDX2.out).mono ?_
        rintro e w2 ⟨rfl, ⟨nd, rfl⟩⟩
        obtain ⟨W, hW⟩ : ∃ W, W = (wr.alloc (.cells #[.int .i64 f0, .int .i64 f1, .int .i64 f2] 39)).drewN nd := ⟨_, rfl⟩
        have HQW := Aside0.mk (show IsQ 81 83 W g ro (ents ((ranks o l).take k)) from by rw [hW]; exact HQ.out.kp (S := fun _ => False) (((Kp.refl _ _).alloc _).drewN _) (fun h => h) (fun _ _ h => h))
        have HWW := Aside0.mk (show Below B0 w W from by rw [hW]; exact pw_below_drewN (HW.out.alloc HSZ.out _) _)
        have HWe := Aside0.mk hW
        clear hW
        go_wp2_with fail
        rw [← HWe.out]
        refine (push_calls (-(p : Int)) k HQW.out (by rw [ents_length, List.length_take]; omega)).mono ?_
        rintro e w4 ⟨rfl, r4, hq4, hr4, hk4⟩
        have HQ4 := Aside0.mk hq4
        have HO4 := Aside0.mk (show ∀ r', some r4 = some r' → B0 ≤ r' from by
          rintro r' h
          cases h
          rcases hr4 with h | h
          · exact HO.out r4 h
          · have := HWW.out.size; have := HBB.out; omega)
        have HW4 := Aside0.mk (show Below B0 w w4 from Kp.below_trans HWW.out hk4 (by rw [HBB.out]; exact Nat.le_refl _) (by
          rintro i (rfl | h)
          · exact hg0
          · exact HO.out i h.symm))
        clear hq4 hr4 hk4 HWe
        go_wp2_with fail
        go_roundw
        case rel =>
          refine ⟨k + 1, some r4, by go_num, by omega, ⟨?_⟩, HO4, HW4⟩
          refine HQ4.out.perm ?_
          rw [HENT.out]
          exact List.perm_append_comm (l₁ := [(-(p : Int), (k : Int))])
        case measure => simp [intOf]; omega
      · have HIDX2 := Aside0.mk (show slices_Index_int_int.f (o.length + 1) o f0 = some (-1) from by rw [HIDX.out, if_neg hfd])
        have hat : tat o ⟨f0, f1, f2⟩ = (o.length : Int) + f0 := by unfold tat; rw [if_neg hfd]
        rw [hat] at HENT
        clear hat hfd HIDX hpl
        refine (slices_Index_int_int.calls (o.length + 1) A1 c1 o f0 (-1) _ (HIW.out _ (by first | exact (HBW.out.alloc (below_size HBW.out) _) | exact pw_below_drewN (HBW.out.alloc (below_size HBW.out) _) _)) HC1.out HIDX2.out).mono ?_
        rintro e w2 ⟨rfl, ⟨nd, rfl⟩⟩
        obtain ⟨W, hW⟩ : ∃ W, W = (wr.alloc (.cells #[.int .i64 f0, .int .i64 f1, .int .i64 f2] 39)).drewN nd := ⟨_, rfl⟩
        have HQW := Aside0.mk (show IsQ 81 83 W g ro (ents ((ranks o l).take k)) from by rw [hW]; exact HQ.out.kp (S := fun _ => False) (((Kp.refl _ _).alloc _).drewN _) (fun h => h) (fun _ _ h => h))
        have HWW := Aside0.mk (show Below B0 w W from by rw [hW]; exact pw_below_drewN (HW.out.alloc HSZ.out _) _)
        have HWe := Aside0.mk hW
        clear hW
        go_wp2_with fail
        rw [← HWe.out]
        refine (push_calls (-((o.length : Int) + f0)) k HQW.out (by rw [ents_length, List.length_take]; omega)).mono ?_
        rintro e w4 ⟨rfl, r4, hq4, hr4, hk4⟩
        have HQ4 := Aside0.mk hq4
        have HO4 := Aside0.mk (show ∀ r', some r4 = some r' → B0 ≤ r' from by
          rintro r' h
          cases h
          rcases hr4 with h | h
          · exact HO.out r4 h
          · have := HWW.out.size; have := HBB.out; omega)
        have HW4 := Aside0.mk (show Below B0 w w4 from Kp.below_trans HWW.out hk4 (by rw [HBB.out]; exact Nat.le_refl _) (by
          rintro i (rfl | h)
          · exact hg0
          · exact HO.out i h.symm))
        clear hq4 hr4 hk4 HWe
        go_wp2_with fail
        go_roundw
        case rel =>
          refine ⟨k + 1, some r4, by go_num, by omega, ⟨?_⟩, HO4, HW4⟩
          refine HQ4.out.perm ?_
          rw [HENT.out]
          exact List.perm_append_comm (l₁ := [(-((o.length : Int) + f0), (k : Int))])
        case measure => simp [intOf]; omega
    · have hke : k = l.length := by omega
      subst hke
      have HQ2 := Aside0.mk (show IsQ 81 83 wr g ro (ents (ranks o l)) from by have := HQ.out; rwa [List.take_of_length_le (by rw [ranks_length]; exact Nat.le_refl _)] at this)
      clear hlt hk HQ
      go_wp2_with fail
      go_ret
      exact ⟨g, ro, rfl, HQ2.out, hg0, HO.out, HW.out⟩

def tender_Split.f (l0 : List Ten) (l1 : List Int) (l2 : List Int) (a3 : Int) : Option ((List Bak) × Int) :=
  if l1.length ≤ 1000000000 ∧ l2.length ≤ 1000000000 then some (split l0 l1 l2 a3) else none

set_option maxRecDepth 100000 in
set_option maxHeartbeats 8000000 in
theorem split_bad1 (A0 : Option Addr) (c0 : Nat) (l0 : List Ten) (A1 : Option Addr) (c1 : Nat) (l1 : List Int) (A2 : Option Addr) (c2 : Nat) (l2 : List Int) (a3 : Int) (w : World) (hr0 : Kd.C k39 w A0 l0.length l0) (hc0 : l0.length ≤ c0) (ht : tall l0 = false) :
    Calls Try.prog 12 #[.slice A0 l0.length c0, .slice A1 l1.length c1, .slice A2 l2.length c2, .int .i64 a3] w fun e w' => e = .returned (.tuple #[.slice none 0 0, .int .i64 2]) ∧ Below w.heap.size w w' := by
  have h := right_t l0 11 (by omega)
  rw [ht] at h
  have HT := Aside0.mk h
  have HR0 := Aside0.mk hr0
  clear h hr0 ht
  go_enter Try.func12, Try.ntmps12
  go_wp2_with fail
  refine (tender_Right.calls 11 A0 c0 l0 false _ HR0.out hc0 HT.out).mono ?_
  rintro e w1 ⟨rfl, hb⟩
  have HB := Aside0.mk hb
  clear hb
  go_wp2
  go_ret2
  exact ⟨rfl, HB.out⟩

set_option maxRecDepth 100000 in
set_option maxHeartbeats 8000000 in
theorem split_bad2 (A0 : Option Addr) (c0 : Nat) (l0 : List Ten) (A1 : Option Addr) (c1 : Nat) (l1 : List Int) (A2 : Option Addr) (c2 : Nat) (l2 : List Int) (a3 : Int) (w : World) (hr0 : Kd.C k39 w A0 l0.length l0) (hc0 : l0.length ≤ c0) (ht : tall l0 = true) (ha : rt a3 = false) :
    Calls Try.prog 12 #[.slice A0 l0.length c0, .slice A1 l1.length c1, .slice A2 l2.length c2, .int .i64 a3] w fun e w' => e = .returned (.tuple #[.slice none 0 0, .int .i64 2]) ∧ Below w.heap.size w w' := by
  have h := right_t l0 11 (by omega)
  rw [ht] at h
  have HT := Aside0.mk h
  have h2 := right_f a3
  rw [ha] at h2
  have HM := Aside0.mk h2
  have HR0 := Aside0.mk hr0
  clear h hr0 ht h2 ha
  go_enter Try.func12, Try.ntmps12
  go_wp2_with fail
  refine (tender_Right.calls 11 A0 c0 l0 true _ HR0.out hc0 HT.out).mono ?_
  rintro e w1 ⟨rfl, hb⟩
  have HB := Aside0.mk hb
  clear hb
  go_wp2_with fail
  refine (money_Right.calls a3 false _ HM.out).mono ?_
  rintro e w2 ⟨rfl, ⟨nd, rfl⟩⟩
  go_wp2
  go_ret2
  exact ⟨rfl, pw_below_drewN HB.out _⟩

set_option maxRecDepth 100000 in
set_option maxHeartbeats 8000000 in
theorem split_over (A0 : Option Addr) (c0 : Nat) (l0 : List Ten) (A1 : Option Addr) (c1 : Nat) (l1 : List Int) (A2 : Option Addr) (c2 : Nat) (l2 : List Int) (a3 : Int) (w : World) (hr0 : Kd.C k39 w A0 l0.length l0) (hc0 : l0.length ≤ c0) (ht : tall l0 = true) (ha : rt a3 = true) (hov : tleft l0 < a3) :
    Calls Try.prog 12 #[.slice A0 l0.length c0, .slice A1 l1.length c1, .slice A2 l2.length c2, .int .i64 a3] w fun e w' => e = .returned (.tuple #[.slice none 0 0, .int .i64 12]) ∧ Below w.heap.size w w' := by
  have h := right_t l0 11 (by omega)
  rw [ht] at h
  have HT := Aside0.mk h
  have h2 := right_f a3
  rw [ha] at h2
  have HM := Aside0.mk h2
  have HLF := Aside0.mk (left_t l0 11 (by omega))
  have HR0 := Aside0.mk hr0
  have t1 : decide (tleft l0 < a3) = true := decide_eq_true hov
  clear h hr0 ht h2 ha hov
  go_enter Try.func12, Try.ntmps12
  go_wp2_with fail
  refine (tender_Right.calls 11 A0 c0 l0 true _ HR0.out hc0 HT.out).mono ?_
  rintro e w1 ⟨rfl, hb⟩
  have HB := Aside0.mk hb
  clear hb
  go_wp2_with fail
  refine (money_Right.calls a3 true _ HM.out).mono ?_
  rintro e w2 ⟨rfl, ⟨nd, rfl⟩⟩
  have HB2 := Aside0.mk (pw_below_drewN HB.out nd)
  clear HB
  go_wp2_with fail
  refine (tender_Left.calls 11 A0 c0 l0 (tleft l0) _ (Kd.C_below HR0.out HB2.out) hc0 HLF.out).mono ?_
  rintro e w3 ⟨rfl, hb⟩
  have HB3 := Aside0.mk (below_then HB2.out HB2.out.size hb)
  clear hb
  go_wp2
  go_ret2
  exact ⟨rfl, HB3.out⟩

theorem gives_cons (l : List Ten) (cr : List Int) (i : Nat) (h : i < l.length) (is : List Int) (a : Int) (n : Int) (hn : n = mn (dif l[i]) a) :
    gives l cr ((i : Int) :: is) a = if 0 < n then ⟨i, n, decide (plc cr l[i].f0 < cr.length)⟩ :: gives l cr is (a - n) else gives l cr is a := by
  subst hn
  have e : l.getD (i : Int).toNat z39 = l[i] := by simp [h]
  have e2 : ∀ x y : Int, gives.mn x y = mn x y := fun _ _ => rfl
  simp only [gives, e, e2]

set_option maxRecDepth 100000 in
set_option maxHeartbeats 16000000 in
theorem split_good (A0 : Option Addr) (c0 : Nat) (l0 : List Ten) (A1 : Option Addr) (c1 : Nat) (l1 : List Int) (A2 : Option Addr) (c2 : Nat) (l2 : List Int) (a3 : Int) (w : World) (B : Nat) (hB : w.heap.size = B) (hr0 : Kd.C k39 w A0 l0.length l0) (hc0 : l0.length ≤ c0) (hr1 : Kd.C (Kd.int .i64) w A1 l1.length l1) (hc1 : l1.length ≤ c1) (hr2 : Kd.C (Kd.int .i64) w A2 l2.length l2) (hc2 : l2.length ≤ c2)
    (hl1 : l1.length ≤ 1000000000) (hl2 : l2.length ≤ 1000000000) (ht : tall l0 = true) (ha : rt a3 = true) (hov : ¬ tleft l0 < a3) :
    Calls Try.prog 12 #[.slice A0 l0.length c0, .slice A1 l1.length c1, .slice A2 l2.length c2, .int .i64 a3] w fun e w' => ∃ v0_ : Value, e = .returned (.tuple #[v0_, .int .i64 0]) ∧ Kd.R k34 34 w' B (fun _ => True) v0_ (gives l0 l2 (ord (ranks l1 l0)) a3) ∧ Below B w w' := by
  have h := right_t l0 11 (by omega)
  rw [ht] at h
  have HT := Aside0.mk h
  have h2 := right_f a3
  rw [ha] at h2
  have HM := Aside0.mk h2
  have HLF := Aside0.mk (left_t l0 11 (by omega))
  have HR0 := Aside0.mk hr0
  have HR1 := Aside0.mk hr1
  have HR2 := Aside0.mk hr2
  have HTA := Aside0.mk (tall_iff.1 ht)
  have HRT := Aside0.mk (rt_iff.1 ha)
  have t1 : decide (tleft l0 < a3) = false := decide_eq_false hov
  have HB0 := Aside0.mk hB
  have hl6 : l0.length ≤ 6 := (tall_iff.1 ht).1
  have HCON := Aside0.mk (fun x => contains_f l2 x (by omega))
  clear h hr0 hr1 hr2 ht h2 ha hov hB
  obtain ⟨rk, hrk⟩ : ∃ rk, rk = ranks l1 l0 := ⟨_, rfl⟩
  have HRK := Aside0.mk (show rk.length = l0.length from by rw [hrk]; exact ranks_length _ _)
  rw [← hrk]
  have HRE := Aside0.mk hrk
  clear hrk
  have HG0 := Aside0.mk (show gives l0 l2 (ord rk) a3 = [] ++ gives l0 l2 ((line (ents rk)).map (·.2)) a3 from rfl)
  obtain ⟨GV, hGV⟩ : ∃ GV, GV = gives l0 l2 (ord rk) a3 := ⟨_, rfl⟩
  rw [← hGV] at HG0 ⊢
  clear hGV
  go_enter Try.func12, Try.ntmps12
  go_wp2_with fail
  refine (tender_Right.calls 11 A0 c0 l0 true _ HR0.out hc0 HT.out).mono ?_
  rintro e w1 ⟨rfl, hb⟩
  have HB := Aside0.mk hb
  clear hb
  go_wp2_with fail
  refine (money_Right.calls a3 true _ HM.out).mono ?_
  rintro e w2 ⟨rfl, ⟨nd, rfl⟩⟩
  have HB2 := Aside0.mk (pw_below_drewN HB.out nd)
  clear HB
  go_wp2_with fail
  refine (tender_Left.calls 11 A0 c0 l0 (tleft l0) _ (Kd.C_below HR0.out HB2.out) hc0 HLF.out).mono ?_
  rintro e w3 ⟨rfl, hb⟩
  have HB3 := Aside0.mk (below_then HB2.out HB2.out.size hb)
  clear hb HB2
  go_wp2_with fail
  refine (asked_calls A0 c0 l0 A1 c1 l1 w3 0 (by omega) (Kd.C_below HR0.out HB3.out) (Kd.C_below HR1.out HB3.out) hc1 hl6 hl1 HTA.out.2).mono ?_
  rintro e w4 ⟨g, ro, rfl, hq, hg, hro, hb⟩
  have hs3 : B ≤ w3.heap.size := by have := HB3.out.size; have := HB0.out; omega
  have hgB : B ≤ g := by omega
  have HRO := Aside0.mk (show ∀ r, ro = some r → B ≤ r from fun r h => Nat.le_trans hs3 (hro r h))
  have HQ := Aside0.mk hq
  have HB4 := Aside0.mk (show Below B w w4 from by have := below_then HB3.out HB3.out.size hb; rw [HB0.out] at this; exact this)
  clear hq hb hro hs3 HB3 hg
  rw [← HRE.out] at HQ
  go_wp2_with fail
  go_loopg [3, 10] (l0.length + 1) (fun kq v3 v10 wr => ∃ (a : Int) (m : List Ent) (out : List Bak), v3 = .int .i64 a ∧ Aside0 (0 ≤ a ∧ a ≤ 100000000000000) ∧ Aside0 (m.length < kq) ∧ Aside0 (out.length + m.length ≤ 6) ∧ Aside0 (IsQ 81 83 wr g ro m) ∧ Aside0 (∀ y ∈ m, y ∈ ents rk) ∧ Aside0 (GV = out ++ gives l0 l2 ((line m).map (·.2)) a) ∧ Aside0 (Kd.R k34 34 wr B (fun _ => True) v10 out) ∧ Aside0 (Below B w wr))
  case atStart => exact ⟨a3, ents rk, [], rfl, HRT, ⟨by rw [ents_length, HRK.out]; omega⟩, ⟨by rw [ents_length, HRK.out]; simpa using hl6⟩, HQ, ⟨fun _ h => h⟩, HG0, ⟨Kd.R_nil _ _ _ _ _⟩, HB4⟩
  case round =>
    obtain ⟨a, m, out, rfl, HA, HML, HOL, HQ, HME, HGV, HOUT, HW⟩ := hrel
    have hm6 : m.length ≤ 6 := by have := HOL.out; omega
    by_cases hm : m.length = 0
    · have hm0 : m = [] := List.eq_nil_of_length_eq_zero hm
      subst hm0
      clear hm hm6
      go_wp2_with fail
      refine (qlen_calls HQ.out).mono ?_
      rintro e w' ⟨rfl, rfl⟩
      go_wp2_with fail
      go_ret2
      have hf : GV = out := by rw [HGV.out]; simp [line, gives]
      exact ⟨_, rfl, by rw [hf]; exact HOUT.out, HW.out⟩
    · have hpos : 0 < m.length := by omega
      have hd : decide ((0 : Int) < (m.length : Int)) = true := by simp; omega
      clear hm
      go_wp2_with fail
      refine (qlen_calls HQ.out).mono ?_
      rintro e w' ⟨rfl, rfl⟩
      go_wp2_with fail
      refine (pop_calls HQ.out hpos (by omega)).mono ?_
      rintro e w2 ⟨y, m', rfl, h1, h2, h3, h4⟩
      have hln := line_first h1 h2
      have hym : y ∈ m := h1.mem_iff.2 List.mem_cons_self
      obtain ⟨i, hi, hyi⟩ := mem_ents (HME.out y hym)
      have hil : i < l0.length := by have := HRK.out; omega
      have hy2 : y.2 = (i : Int) := by rw [hyi]
      have HM2 := Aside0.mk (show m.length = m'.length + 1 from by have := h1.length_eq; simpa using this)
      have HME2 := Aside0.mk (show ∀ z ∈ m', z ∈ ents rk from fun z hz => HME.out z (h1.mem_iff.2 (List.mem_cons_of_mem _ hz)))
      have HG1 := Aside0.mk (show GV = out ++ gives l0 l2 ((i : Int) :: (line m').map (·.2)) a from by rw [HGV.out, hln, List.map_cons, hy2])
      have HQ2 := Aside0.mk h3
      have HO2 := Aside0.mk (R_kp HOUT.out h4 (fun k hk cells q fr hc => by rcases q_types HQ.out k hk cells q fr hc with rfl | rfl <;> decide))
      have HW2 := Aside0.mk (show Below B w w2 from Kp.below_trans HW.out h4 (by rw [HB0.out]; exact Nat.le_refl _) (by
        rintro i (rfl | h)
        · exact hgB
        · exact HRO.out i h.symm))
      rw [hy2]
      clear h1 h2 h3 h4 hln hym hyi hy2 hi HQ HOUT HW HGV HME
      obtain ⟨ad, hA, hx0, hx1, hx2⟩ := at_T39 (Kd.C_below HR0.out (by rw [HB0.out]; exact HW2.out)) (i : Int) (by omega) (by omega)
      subst hA
      rw [Int.toNat_natCast, rdT_of l0 i hil] at hx0 hx1 hx2
      have hxk := tok_iff.1 (HTA.out.2 l0[i] (List.getElem_mem hil))
      have hgc := gives_cons l0 l2 i hil ((line m').map (·.2)) a _ rfl
      obtain ⟨X, hX⟩ : ∃ X, X = l0[i] := ⟨_, rfl⟩
      rw [← hX] at hx0 hx1 hx2 hxk hgc
      obtain ⟨f0, f1, f2⟩ := X
      obtain ⟨q1, q2, q3, q4, q5, q6⟩ := hxk
      have q1 : 1 ≤ f0 := q1
      have q3 : 0 ≤ f1 := q3
      have q4 : f1 ≤ 100000000000000 := q4
      have q5 : 0 ≤ f2 := q5
      have q6 : f2 ≤ f1 := q6
      have hdf : dif ⟨f0, f1, f2⟩ = f1 - f2 := rfl
      rw [hdf] at hgc
      obtain ⟨n, hn⟩ : ∃ n, n = mn (f1 - f2) a := ⟨_, rfl⟩
      have hnb : 0 ≤ n ∧ n ≤ a := by have := HA.out; rw [hn]; unfold mn; split <;> omega
      rw [← hn] at hgc
      have HN := Aside0.mk hn
      have ha0 : 0 ≤ a := HA.out.1
      have ha1 : a ≤ 100000000000000 := HA.out.2
      obtain ⟨hn0, hn1⟩ := hnb
      have hit : (i : Int).toNat = i := Int.toNat_natCast i
      have hi6 : (i : Int) < (l0.length : Int) := by omega
      have HBL := Aside0.mk (show B ≤ w2.heap.size from by have := HW2.out.size; have := HB0.out; omega)
      clear hX hn hdf q2
      by_cases hp : 0 < n
      · rw [if_pos hp] at hgc
        have HG2 := Aside0.mk (show GV = (out ++ [⟨i, n, decide (plc l2 f0 < l2.length)⟩]) ++ gives l0 l2 ((line m').map (·.2)) (a - n) from by rw [HG1.out, hgc]; simp)
        have t2 : decide (0 < n) = true := decide_eq_true hp
        have han : 0 ≤ a - n := by omega
        have hnm : min (f1 - f2) a = n := by rw [HN.out]; unfold mn; omega
        obtain ⟨b, hb⟩ : ∃ b, b = decide (plc l2 f0 < l2.length) := ⟨_, rfl⟩
        have HCN := Aside0.mk (show slices_Contains_int_int.f (l2.length + 1) l2 f0 = some b from by rw [HCON.out f0, hb])
        rw [← hb] at HG2
        clear hgc HG1 hb
        go_wp2_with fail
        refine (slices_Contains_int_int.calls (l2.length + 1) A2 c2 l2 f0 b _ (Kd.C_below HR2.out (by first | exact (by rw [HB0.out]; exact HW2.out.alloc HBL.out _) | exact pw_below_drewN (by rw [HB0.out]; exact HW2.out.alloc HBL.out _) _)) hc2 HCN.out).mono ?_
        rintro e w5 ⟨rfl, ⟨nd5, rfl⟩⟩
        obtain ⟨W, hW⟩ : ∃ W, W = (w2.alloc (.cells #[.int .i64 f0, .int .i64 f1, .int .i64 f2] 39)).drewN nd5 := ⟨_, rfl⟩
        have hKW : Kp (fun _ => False) w2 W := by rw [hW]; exact ((Kp.refl _ _).alloc _).drewN _
        have HQW := Aside0.mk (HQ2.out.kp hKW (fun h => h) (fun _ _ h => h))
        have HOW := Aside0.mk (R_kp HO2.out hKW (fun _ h => h.elim))
        have HWW := Aside0.mk (show Below B w W from Kp.below_trans HW2.out hKW (by rw [HB0.out]; exact Nat.le_refl _) (fun _ h => h.elim))
        have HBW := Aside0.mk (show B ≤ W.heap.size from by have := HWW.out.size; have := HB0.out; omega)
        have HWe := Aside0.mk hW
        have hol : out.length ≤ 6 := by have := HOL.out; omega
        clear hW hKW
        first | rw [← HWe.out] | skip
        go_wp2_with (first
          | (at_builtin; refine Kd.R_append k34 (w0 := w) (W := W) B (by rfl) _ _ _ 34 (.agg #[(.int .i64 0), (.int .i64 0), (.bool false)]) 24 (by rfl) Try.underlying28 info34 rfl (by decide) (by omega) u10 out (⟨i, n, b⟩ : Bak) [.int .i64 i, .int .i64 n, .bool b] (fun _ => True) (fun _ => False) (by rfl) (by rfl) (k34_mkM _ _ _ _) (fun _ hk => hk.elim) (fun _ _ => trivial) HOW.out HWW.out HBW.out (by omega) ?_; intro v1 w6 ho6 hb6 hg6 hat6))
        have HO6 := Aside0.mk ho6
        have HW6 := Aside0.mk hb6
        have HQ6 := Aside0.mk (show IsQ 81 83 w6 g ro m' from by
          obtain ⟨inner, hown⟩ := Kd.R_own HOW.out
          have hap := HQW.out.apart hown (by decide) (by decide)
          exact HQW.out.kp (Kp.of_grown hg6) (fun h => (hap g h.symm).1 rfl) (fun r hr h => (hap r h.symm).2 hr))
        clear ho6 hb6 hg6 hat6
        go_wp2_with fail
        go_roundg (m'.length + 1)
        case measure => have := HML.out; have := HM2.out; omega
        case rel => exact ⟨a - n, m', out ++ [⟨i, n, b⟩], rfl, ⟨⟨by omega, by omega⟩⟩, ⟨by omega⟩, ⟨by rw [List.length_append]; simp; have := HOL.out; have := HM2.out; omega⟩, HQ6, HME2, HG2, HO6, HW6⟩
      · rw [if_neg hp] at hgc
        have HG2 := Aside0.mk (show GV = out ++ gives l0 l2 ((line m').map (·.2)) a from by rw [HG1.out, hgc])
        have t2 : decide (0 < n) = false := decide_eq_false hp
        have hnm : min (f1 - f2) a = n := by rw [HN.out]; unfold mn; omega
        clear hgc HG1
        go_wp2_with fail
        go_roundg (m'.length + 1)
        case measure => have := HML.out; have := HM2.out; omega
        case rel =>
          have hKW : Kp (fun _ => False) w2 (w2.alloc (.cells #[.int .i64 f0, .int .i64 f1, .int .i64 f2] 39)) := (Kp.refl _ _).alloc _
          exact ⟨a, m', out, rfl, HA, ⟨by omega⟩, ⟨by have := HOL.out; have := HM2.out; omega⟩, ⟨HQ2.out.kp hKW (fun h => h) (fun _ _ h => h)⟩, HME2, HG2, ⟨R_kp HO2.out hKW (fun _ h => h.elim)⟩, ⟨HW2.out.alloc HBL.out _⟩⟩

theorem tender_Split.calls (A0 : Option Addr) (c0 : Nat) (l0 : List Ten) (A1 : Option Addr) (c1 : Nat) (l1 : List Int) (A2 : Option Addr) (c2 : Nat) (l2 : List Int) (a3 : Int) (r1 : List Bak) (r2 : Int) (w : World) (hr0 : Kd.C k39 w A0 l0.length l0) (hc0 : l0.length ≤ c0) (hr1 : Kd.C (Kd.int .i64) w A1 l1.length l1) (hc1 : l1.length ≤ c1) (hr2 : Kd.C (Kd.int .i64) w A2 l2.length l2) (hc2 : l2.length ≤ c2) (h : tender_Split.f l0 l1 l2 a3 = some (r1, r2)) :
    Calls Try.prog 12 #[.slice A0 l0.length c0, .slice A1 l1.length c1, .slice A2 l2.length c2, .int .i64 a3] w fun e w' => ∃ v0_ : Value, e = .returned (.tuple #[v0_, .int .i64 r2]) ∧ Kd.R k34 34 w' w.heap.size (fun _ => True) v0_ r1 ∧ Below w.heap.size w w' := by
  unfold tender_Split.f at h
  by_cases hl : l1.length ≤ 1000000000 ∧ l2.length ≤ 1000000000
  · rw [if_pos hl] at h
    unfold split at h
    cases ht : tall l0 with
    | false =>
      rw [if_pos (.inl ht)] at h
      cases h
      exact (split_bad1 A0 c0 l0 A1 c1 l1 A2 c2 l2 a3 w hr0 hc0 ht).mono fun e w' ⟨he, hb⟩ => ⟨_, he, Kd.R_nil _ _ _ _ _, hb⟩
    | true =>
      cases ha : rt a3 with
      | false =>
        rw [if_pos (.inr ha)] at h
        cases h
        exact (split_bad2 A0 c0 l0 A1 c1 l1 A2 c2 l2 a3 w hr0 hc0 ht ha).mono fun e w' ⟨he, hb⟩ => ⟨_, he, Kd.R_nil _ _ _ _ _, hb⟩
      | true =>
        rw [if_neg (by rw [ht, ha]; simp)] at h
        by_cases hov : tleft l0 < a3
        · rw [if_pos hov] at h
          cases h
          exact (split_over A0 c0 l0 A1 c1 l1 A2 c2 l2 a3 w hr0 hc0 ht ha hov).mono fun e w' ⟨he, hb⟩ => ⟨_, he, Kd.R_nil _ _ _ _ _, hb⟩
        · rw [if_neg hov] at h
          cases h
          exact split_good A0 c0 l0 A1 c1 l1 A2 c2 l2 a3 w _ rfl hr0 hc0 hr1 hc1 hr2 hc2 hl.1 hl.2 ht ha hov
  · rw [if_neg hl] at h
    cases h
end Go.Proofs.Ytebochcdbknodaa.Rw
