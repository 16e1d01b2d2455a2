/- The statement QueueSorts: whatever is pushed, by turns in two orders, comes out in one: ranks fall, of equal ones numbers rise. -/
import Derived.Test.YtonpcolkmecddaaProg
import Derived.Below
import Derived.Deep.Draws
import Derived.Deep.AppendLies
import Derived.Maps.AppendAt
import Derived.OwnWalk
import Derived.Laws.BytesArg
import Derived.Laws.MakeOwn
import Derived.Laws.OwnMore
import Derived.Deep.OwnRows
import Derived.Tactics
import Derived.Lib.ConvBytes
import Derived.Laws.Slices
import Derived.WalkKit
import Derived.KernelRfl
import Derived.RowKit3
import Derived.Deep.LoopGhost
import Derived.Deep.QuietTactic
import Derived.BigQuiet
import Derived.WideLaws
import Derived.Deep.DeepCutAuto
import Derived.Deep.CutBlock
import Derived.Deep.RegionHeld3
import Derived.Laws.Rows
import Derived.Lib.AppendStr
import Derived.ArgAppend
import Derived.Laws.IdiomCopy
import Derived.OrdersHeld
import Derived.Laws.BitsLemmas
import Derived.RowKit
import Derived.BigRegion
import Derived.Outline
import Derived.RegionTactic
import Derived.StillTailTactics
import Derived.Deep.RegionLaw
import Derived.Test.YtonpcolkmecddaaLQueueStays
set_option linter.unusedVariables false
set_option linter.unusedSimpArgs false
namespace Go.Proofs.Ytonpcolkmecddaa.QL
open Go Go.RowKit Go.Proofs.YtonpcolkmecddaaW.PrintWords Go.Proofs.Ytonpcolkmecddaa.QM Go.Proofs.Ytonpcolkmecddaa.QR Go.Proofs.Ytonpcolkmecddaa.QW Go.Proofs.Ytonpcolkmecddaa.HP

theorem ents_nodup (l : List Int) : (ents l).Nodup := by
  unfold ents
  rw [List.nodup_iff_pairwise_ne, List.pairwise_map]
  have h : ∀ (l : List Int) (k : Nat), (l.zipIdx k).Pairwise (fun a b => a.2 < b.2) := by
    intro l
    induction l with
    | nil => intro k; exact List.Pairwise.nil
    | cons x l ih =>
      intro k
      rw [List.zipIdx_cons]
      refine List.pairwise_cons.2 ⟨fun b hb => ?_, ih _⟩
      have := List.le_snd_of_mem_zipIdx hb
      show k < b.2
      omega
  refine (h l 0).imp ?_
  rintro ⟨a, i⟩ ⟨b, j⟩ hij e
  injection e with _ e2
  have : i < j := hij
  omega

theorem lt_of_ne {x y : Ent} (h : lt y x = false) (hne : y ≠ x) : lt x y = true := by
  cases e : lt x y with
  | true => rfl
  | false => exact absurd (eq_of_nlt h e) hne

/-- The first k places from t on, round and round. -/
def rot (l : List Int) (t k : Nat) : List Ent := (List.range k).map fun i => (rd l (((i + t) % l.length : Nat) : Int), (((i + t) % l.length : Nat) : Int))

theorem rot_succ (l : List Int) (t k : Nat) : rot l t (k + 1) = rot l t k ++ [(rd l (((k + t) % l.length : Nat) : Int), (((k + t) % l.length : Nat) : Int))] := by
  simp [rot, List.range_succ]

theorem rot_eq (l : List Int) (t : Nat) (ht : t < l.length) : rot l t l.length = (ents l).drop t ++ (ents l).take t := by
  apply List.ext_getElem?
  intro i
  have hlen : (ents l).length = l.length := ents_length l
  by_cases hi : i < l.length
  · have h1 : (rot l t l.length)[i]? = some (rd l (((i + t) % l.length : Nat) : Int), (((i + t) % l.length : Nat) : Int)) := by
      simp [rot, hi]
    have h2 : ∀ j, j < l.length → (ents l)[j]? = some (rd l (j : Int), (j : Int)) := by
      intro j hj
      rw [ents_get l j hj]
      simp [rd, hj]
    rw [h1]
    by_cases h : i + t < l.length
    · rw [List.getElem?_append_left (by simp; omega), List.getElem?_drop, Nat.mod_eq_of_lt h, h2 _ (by omega), Nat.add_comm t i]
    · have hm : (i + t) % l.length = i + t - l.length := by
        rw [Nat.mod_eq_sub_mod (by omega), Nat.mod_eq_of_lt (by omega)]
      rw [List.getElem?_append_right (by simp; omega), List.length_drop, hlen, List.getElem?_take, if_pos (by omega), hm, h2 _ (by omega)]
      have e : i + t - l.length = i - (l.length - t) := by omega
      rw [e]
  · rw [List.getElem?_eq_none (by simp [rot]; omega), List.getElem?_eq_none (by simp; omega)]

theorem rot_perm (l : List Int) (t : Nat) (ht : t < l.length) : (rot l t l.length).Perm (ents l) := by
  rw [rot_eq l t ht]
  have := List.perm_append_comm (l₁ := (ents l).drop t) (l₂ := (ents l).take t)
  rwa [List.take_append_drop] at this

theorem turn_nat (n : Int) (m : Nat) (h0 : 0 < m) (h1 : m ≤ 200) : ∃ t : Nat, t < m ∧ wrap64 ((IntKind.u64.wrap n).tmod (m : Int)) = (t : Int) := by
  have hu : 0 ≤ IntKind.u64.wrap n := by rw [IntKind.wrap_u64]; omega
  rw [Int.tmod_eq_emod_of_nonneg hu]
  have h2 := Int.emod_nonneg (IntKind.u64.wrap n) (show (m : Int) ≠ 0 by omega)
  have h3 := Int.emod_lt_of_pos (IntKind.u64.wrap n) (show (0 : Int) < m by omega)
  refine ⟨((IntKind.u64.wrap n) % (m : Int)).toNat, by omega, ?_⟩
  unfold wrap64
  omega

/-- Two queues: the row of one is not the head of the other. -/
theorem q_cross {TQ TE : Nat} (hT : TQ ≠ TE) {w : World} {g g' : Nat} {ro ro' : Option Nat} {m m' : List Ent} (h : IsQ TQ TE w g ro m) (h' : IsQ TQ TE w g' ro' m') : ∀ r, ro = some r → r ≠ g' := by
  rintro r hr rfl
  obtain ⟨v, l, hc, _, _, h4⟩ := h.ex
  obtain ⟨v', l', hc', _⟩ := h'.ex
  rcases h4 with ⟨e, _⟩ | ⟨r', cap, e, _, h5, _⟩
  · rw [e] at hr; cases hr
  · rw [e] at hr; cases hr
    obtain ⟨cur, hc2, _⟩ := h5.ex
    rw [hc'] at hc2
    injection hc2 with hc2
    injection hc2 with _ hc2
    exact hT hc2

/-- A queue stands while another one is turned. -/
theorem q_other {TQ TE : Nat} (hT : TQ ≠ TE) {w w' : World} {g g' : Nat} {ro ro' : Option Nat} {m m' : List Ent} (h : IsQ TQ TE w g ro m) (h' : IsQ TQ TE w g' ro' m') (hk : Kp (fun k => k = g' ∨ some k = ro') w w') (hg : g ≠ g') (hr : ∀ r, ro = some r → ro' ≠ some r) : IsQ TQ TE w' g ro m :=
  h.kp hk (by
    rintro (e | e)
    · exact hg e
    · exact q_cross hT h' h g e.symm rfl) (by
    rintro r e (e2 | e2)
    · exact q_cross hT h h' r e e2
    · exact hr r e e2.symm)

set_option maxRecDepth 100000 in
set_option maxHeartbeats 8000000 in
theorem queueSorts' {a : Option Addr} {c : Nat} {l : List Int} {w : World} (n : Int) (B : Nat) (hB : w.heap.size = B) (hl : Kd.C (Kd.int .i64) w a l.length l) (hc : l.length ≤ c) :
    Calls Try.prog 4 #[.slice a l.length c, .int .i64 n] w fun e w' => e = .returned (.bool true) ∧ Below B w w' := by
  have HB : Hid (w.heap.size = B) := hB
  by_cases hbig : 200 < l.length
  · have hd : decide ((200 : Int) < (l.length : Int)) = true := by simp; omega
    clear hB
    go_enter Try.func4, Try.ntmps4
    go_wp2_with fail
    refine (awake_calls' B HB.out).mono ?_
    rintro e w' ⟨rfl, hk⟩
    go_wp2
    go_ret
    exact ⟨rfl, hk⟩
  · have hb : l.length ≤ 200 := by omega
    have hd : decide ((200 : Int) < (l.length : Int)) = false := by simp; omega
    have HL : Hid (Kd.C (Kd.int .i64) w a l.length l) := hl
    clear hbig hB hl
    go_enter Try.func4, Try.ntmps4
    go_wp2_with fail
    refine (new_calls w).mono ?_
    rintro e w0 ⟨g, rfl, hq, hg, hk⟩
    rw [HB.out] at hg
    have H0 : Hid (Below B w w0) := by show Below _ _ _; rw [← HB.out]; exact hk.to_below (Nat.le_refl _) (fun _ h => h.elim)
    have HQ0 : Hid (IsQ 65 69 w0 g none []) := hq
    have hgl := hq.lt
    clear hk hq
    go_wp2_with fail
    refine (new_calls w0).mono ?_
    rintro e w1 ⟨g', rfl, hq, hg2, hk⟩
    have hgg : g ≠ g' := by omega
    have H1 : Hid (Below B w w1) := Kp.below_trans H0.out hk (by have := HB.out; omega) (fun _ h => h.elim)
    have HQ1 : Hid (IsQ 65 69 w1 g none []) := HQ0.out.kp hk (fun h => h) (fun _ _ h => h)
    have HP1 : Hid (IsQ 65 69 w1 g' none []) := hq
    have hgB : B ≤ g' := by have := H0.out.size; have := HB.out; omega
    have hgl1 := hq.lt
    clear hk hq
    go_wp2_with fail
    refine (awake_calls w1).mono ?_
    rintro e w2 ⟨rfl, hk⟩
    have HQ2 : Hid (IsQ 65 69 w2 g none []) := HQ1.out.kp (Kp.of_below (S := fun _ => False) hk) (fun h => h) (fun _ _ h => h)
    have HP2 : Hid (IsQ 65 69 w2 g' none []) := HP1.out.kp (Kp.of_below (S := fun _ => False) hk) (fun h => h) (fun _ _ h => h)
    have H2 : Hid (Below B w w2) := H1.out.trans (hk.mono (by have := H1.out.size; have := HB.out; omega))
    clear hk
    go_wp2_with fail
    go_loopw [8] (fun x wr => ∃ (k : Nat) (ro ro' : Option Nat) (mb : List Ent), x = .int .i64 k ∧ k ≤ l.length ∧ Hid (IsQ 65 69 wr g ro (ents (l.take k))) ∧ Hid (IsQ 65 69 wr g' ro' mb) ∧ Hid ((k = 0 → mb = []) ∧ ∀ t, wrap64 ((IntKind.u64.wrap n).tmod (l.length : Int)) = ((t : Nat) : Int) → mb.Perm (rot l t k)) ∧ Hid (∀ r, ro = some r → B ≤ r) ∧ Hid (∀ r, ro' = some r → B ≤ r) ∧ Hid (∀ r, ro = some r → ro' ≠ some r) ∧ Hid (Below B w wr)) (fun x _ => l.length - (intOf x).toNat)
    case atStart => exact ⟨0, none, none, [], rfl, Nat.zero_le _, HQ2, HP2, ⟨fun _ => rfl, fun t _ => List.Perm.refl _⟩, fun r h => by simp at h, fun r h => by simp at h, fun r h => by simp at h, H2⟩
    case round =>
      obtain ⟨k, ro, ro', mb, rfl, hk, HQ, HP, HM, HO, HO', HD, HW⟩ := hrel
      by_cases hlt : k < l.length
      · obtain ⟨ad, rfl, hcell⟩ := Kd.at_int (Kd.C_below HL.out (by have := HW.out; rw [← HB.out] at this; exact this)) (k : Int) (by omega) (by omega)
        rw [Int.toNat_natCast] at hcell
        obtain ⟨t, ht, hT⟩ := turn_nat n l.length (by omega) hb
        have HT := Aside0.mk hT
        have hmb : mb.length = k := by rw [(HM.out.2 t hT).length_eq]; simp [rot]
        obtain ⟨q, hq⟩ : ∃ q, q = (k + t) % l.length := ⟨_, rfl⟩
        have hql : q < l.length := by rw [hq]; exact Nat.mod_lt _ (by omega)
        have hK : ((k : Int) + (t : Int)).tmod (l.length : Int) = (q : Int) := by
          rw [Int.tmod_eq_emod_of_nonneg (by omega), hq, Int.natCast_emod, Int.natCast_add]
        have hK2 : ((k : Int) + (t : Int)) % (l.length : Int) = (q : Int) := by rw [hq, Int.natCast_emod, Int.natCast_add]
        have HQE := Aside0.mk hq
        have hne : ((l.length : Int) == 0) = false := beq_eq_false_iff_ne.2 (by omega)
        clear hq
        go_wp2_with fail
        refine (push_calls _ _ HQ.out (by rw [ents_length]; simp; omega)).mono ?_
        rintro e w3 ⟨rfl, r, hq2, hr2, hk2⟩
        have HQ3 : Hid (IsQ 65 69 w3 g (some r) ((rd l k, (k : Int)) :: ents (l.take k))) := hq2
        have hrB : B ≤ r := by
          rcases hr2 with h | h
          · exact HO.out r h
          · have := HW.out.size; have := HB.out; omega
        have hrd : ro' ≠ some r := by
          rcases hr2 with h | h
          · exact HD.out r h
          · intro e; have := HP.out.row_lt e; omega
        have HP3 : Hid (IsQ 65 69 w3 g' ro' mb) := q_other (by decide) HP.out HQ.out hk2 (fun e => hgg e.symm) (fun r e e2 => HD.out r e2 e)
        have H3 : Hid (Below B w w3) := Kp.below_trans HW.out hk2 (by have := HB.out; omega) (by
          rintro i (rfl | h)
          · exact hg
          · exact HO.out i h.symm)
        have HRD := Aside0.mk hrd
        clear hq2 hr2 hk2 hrd
        obtain ⟨ad2, had2, hcell2⟩ := Kd.at_int (Kd.C_below HL.out (by have := H3.out; rw [← HB.out] at this; exact this)) (q : Int) (by omega) (by omega)
        cases had2
        rw [Int.toNat_natCast] at hcell2
        go_wp2_with fail
        refine (push_calls _ _ HP3.out (by omega)).mono ?_
        rintro e w4 ⟨rfl, r2, hq2, hr2, hk2⟩
        have HP4 : Hid (IsQ 65 69 w4 g' (some r2) ((rd l q, (q : Int)) :: mb)) := hq2
        have hrB2 : B ≤ r2 := by
          rcases hr2 with h | h
          · exact HO'.out r2 h
          · have := H3.out.size; have := HB.out; omega
        have hrd2 : r ≠ r2 := by
          rcases hr2 with h | h
          · rintro rfl; exact HRD.out h
          · have := HQ3.out.row_lt rfl; omega
        have HQ4 : Hid (IsQ 65 69 w4 g (some r) ((rd l k, (k : Int)) :: ents (l.take k))) := q_other (by decide) HQ3.out HP3.out hk2 hgg (fun r' e e2 => by cases e; exact HRD.out e2)
        have H4 : Hid (Below B w w4) := Kp.below_trans H3.out hk2 (by have := HB.out; omega) (by
          rintro i (rfl | h)
          · exact hgB
          · exact HO'.out i h.symm)
        clear hq2 hr2 hk2
        go_wp2_with fail
        go_roundw
        case rel =>
          refine ⟨k + 1, some r, some r2, _, by go_num, by omega, ?_, HP4, ?_, ?_, ?_, ?_, H4⟩
          · refine HQ4.out.perm ?_
            rw [ents_take l k hlt]
            have e : rd l (k : Int) = l[k] := by simp [rd, hlt]
            rw [e]
            exact List.perm_append_comm (l₁ := [(l[k], (k : Int))])
          · refine ⟨fun h => absurd h (by omega), ?_⟩
            intro t' ht'
            have : t' = t := by have := HT.out; omega
            subst this
            rw [rot_succ, ← HQE.out]
            exact ((HM.out.2 t' HT.out).cons _).trans (List.perm_append_comm (l₁ := [(rd l q, (q : Int))]))
          · intro r' e; cases e; exact hrB
          · intro r' e; cases e; exact hrB2
          · intro r' e e2; cases e; cases e2; exact hrd2 rfl
        case measure => simp [intOf]; omega
      · have hke : k = l.length := by omega
        subst hke
        have HQ' : Hid (IsQ 65 69 wr g ro (ents l)) := by have := HQ.out; rw [List.take_length] at this; exact this
        have HP' : Hid (IsQ 65 69 wr g' ro' (ents l)) := by
          refine HP.out.perm ?_
          by_cases h0 : l.length = 0
          · have e1 : ents l = [] := List.eq_nil_of_length_eq_zero (by rw [ents_length]; exact h0)
            rw [e1]
            rw [HM.out.1 h0]
          · obtain ⟨t, ht, hT⟩ := turn_nat n l.length (by omega) hb
            exact (HM.out.2 t hT).trans (rot_perm l t ht)
        clear HQ HP HM hlt hk
        obtain ⟨ws, hws⟩ : ∃ ws : World, ws = wr := ⟨_, rfl⟩
        subst hws
        go_wp2_with fail
        go_loopw [10, 11, 12] (fun x y z wr => ∃ (i : Nat) (p q : Int) (m : List Ent), x = .int .i64 p ∧ y = .int .i64 q ∧ z = .int .i64 i ∧ Hid (m.length + i = l.length) ∧ i ≤ l.length ∧ Hid (m.Nodup) ∧ Hid (0 < i → ∀ e, e ∈ m → lt (p, q) e = true) ∧ Hid (IsQ 65 69 wr g ro m) ∧ Hid (IsQ 65 69 wr g' ro' m) ∧ Hid (Below B w wr)) (fun _ _ z _ => l.length - (intOf z).toNat)
        case atStart => exact ⟨0, 0, 0, ents l, rfl, rfl, rfl, by show _ = _; rw [ents_length]; rfl, Nat.zero_le _, ents_nodup l, fun h => absurd h (by omega), HQ', HP', HW⟩
        case round =>
          obtain ⟨i, p, q, m, rfl, rfl, rfl, HL2, hi, HN, HS, HQ, HP, HW⟩ := hrel
          by_cases hlt : i < l.length
          · have hm : 0 < m.length := by have := HL2.out; omega
            have hm2 : m.length ≤ 2000000000 := by have := HL2.out; omega
            go_wp2_with fail
            refine (pop_calls HQ.out hm hm2).mono ?_
            rintro e w3 ⟨x, m1, rfl, h1, h2, h3, h4⟩
            have HP3 : Hid (IsQ 65 69 w3 g' ro' m) := q_other (by decide) HP.out HQ.out h4 (fun e => hgg e.symm) (fun r e e2 => HD.out r e2 e)
            have H3 : Hid (Below B w w3) := Kp.below_trans HW.out h4 (by have := HB.out; omega) (by
              rintro i (rfl | h)
              · exact hg
              · exact HO.out i h.symm)
            have HQ3 : Hid (IsQ 65 69 w3 g ro m1) := h3
            have HX := Aside0.mk h1
            have HX2 := Aside0.mk h2
            clear h1 h2 h3 h4
            go_wp2_with fail
            refine (pop_calls HP3.out hm hm2).mono ?_
            rintro e w4 ⟨y, m2, rfl, h1, h2, h3, h4⟩
            obtain rfl : x = y := first_unique (HX.out.symm.subset List.mem_cons_self) (h1.symm.subset List.mem_cons_self) HX2.out h2
            have HQ4 : Hid (IsQ 65 69 w4 g ro m1) := q_other (by decide) HQ3.out HP3.out h4 hgg (fun r e e2 => HD.out r e e2)
            have HP4 : Hid (IsQ 65 69 w4 g' ro' m1) := h3.perm ((List.perm_cons x).1 (h1.symm.trans HX.out))
            have H4 : Hid (Below B w w4) := Kp.below_trans H3.out h4 (by have := HB.out; omega) (by
              rintro i (rfl | h)
              · exact hgB
              · exact HO'.out i h.symm)
            have HND : Hid ((x :: m1).Nodup) := (HX.out.nodup_iff).1 HN.out
            have HS1 : Hid (∀ e, e ∈ m1 → lt x e = true) := fun e he =>
              lt_of_ne (HX2.out e (HX.out.symm.subset (List.mem_cons_of_mem _ he))) (fun e2 => (List.nodup_cons.1 HND.out).1 (e2 ▸ he))
            have hlen1 : m1.length + 1 = m.length := by have := HX.out.length_eq; simp at this; omega
            have HLL : Hid (m1.length + (i + 1) = l.length) := by have := HL2.out; show _ = _; omega
            have n1 : (x.1 != x.1) = false := by simp
            have n2 : (x.2 != x.2) = false := by simp
            clear h1 h2 h3 h4 hlen1
            by_cases hi0 : 0 < i
            · have d0 : decide (0 < i) = true := decide_eq_true hi0
              have hs := HS.out hi0 x (HX.out.symm.subset List.mem_cons_self)
              rw [lt_iff] at hs
              by_cases hp : p = x.1
              · have hq : q < x.2 := by
                  rcases hs with h | h
                  · exact absurd h (by show ¬ x.1 < p; omega)
                  · exact h.2
                have d1 : decide (p < x.1) = false := by simp; omega
                have d2 : (x.1 == p) = true := by simp [hp]
                have d3 : decide (x.2 ≤ q) = false := by simp; omega
                clear hp hs hi0
                go_wp2
                go_roundw
                case rel => exact ⟨i + 1, x.1, x.2, m1, rfl, rfl, by go_num, HLL, by omega, (List.nodup_cons.1 HND.out).2, fun _ => HS1.out, HQ4, HP4, H4⟩
                case measure => simp [intOf]; omega
              · have hx : x.1 < p := by
                  rcases hs with h | h
                  · exact h
                  · exact absurd h.1 hp
                have d1 : decide (p < x.1) = false := by simp; omega
                have d2 : (x.1 == p) = false := by simp; omega
                clear hp hs hi0
                go_wp2
                go_roundw
                case rel => exact ⟨i + 1, x.1, x.2, m1, rfl, rfl, by go_num, HLL, by omega, (List.nodup_cons.1 HND.out).2, fun _ => HS1.out, HQ4, HP4, H4⟩
                case measure => simp [intOf]; omega
            · have d0 : decide (0 < i) = false := decide_eq_false hi0
              clear hi0
              go_wp2
              go_roundw
              case rel => exact ⟨i + 1, x.1, x.2, m1, rfl, rfl, by go_num, HLL, by omega, (List.nodup_cons.1 HND.out).2, fun _ => HS1.out, HQ4, HP4, H4⟩
              case measure => simp [intOf]; omega
          · have hm0 : m = [] := List.eq_nil_of_length_eq_zero (by have := HL2.out; omega)
            have HQ6 : Hid (IsQ 65 69 wr g ro []) := by have := HQ.out; rw [hm0] at this; exact this
            clear hm0
            go_wp2_with fail
            refine (pop_empty HQ6.out).mono ?_
            rintro e w' ⟨rfl, rfl⟩
            go_wp2_with fail
            refine (qlen_calls HQ6.out).mono ?_
            rintro e w' ⟨rfl, rfl⟩
            go_wp2
            go_ret
            exact ⟨ret_bool rfl, HW.out⟩

theorem queueSorts_law (a : Option Addr) (c : Nat) (l : List Int) (n : Int) (w : World) (hl : Kd.C (Kd.int .i64) w a l.length l) (hc : l.length ≤ c) (_ : l.length ≤ maxLen) (_ : l.length * 8 ≤ 140737488351232) (_ : ∀ x ∈ l, (Lit.int .i64 x).wf = true) (_ : (Lit.int .i64 n).wf = true) :
    Calls Try.prog 4 #[.slice a l.length c, .int .i64 n] w fun e w' => e = .returned (.bool true) ∧ Below w.heap.size w w' := queueSorts' n _ rfl hl hc
end Go.Proofs.Ytonpcolkmecddaa.QL
