/- The statement TenderRaw: any rows, orders, kinds and amounts, or why not; nothing is turned. -/
import Derived.Test.YtegjbbblpnenfaaProg
import Derived.Below
import Derived.Deep.Draws
import Derived.Deep.AppendLies
import Derived.Maps.AppendAt
import Derived.OwnWalk
import Derived.Laws.BytesArg
import Derived.Laws.MakeOwn
import Derived.Laws.OwnMore
import Derived.Deep.OwnRows
import Derived.Tactics
import Derived.Lib.ConvBytes
import Derived.Laws.Slices
import Derived.WalkKit
import Derived.KernelRfl
import Derived.RowKit3
import Derived.Deep.LoopGhost
import Derived.Deep.QuietTactic
import Derived.BigQuiet
import Derived.WideLaws
import Derived.Deep.DeepCutAuto
import Derived.Deep.CutBlock
import Derived.Deep.RegionHeld3
import Derived.Laws.Rows
import Derived.Lib.AppendStr
import Derived.ArgAppend
import Derived.Laws.IdiomCopy
import Derived.OrdersHeld
import Derived.Laws.BitsLemmas
import Derived.RowKit
import Derived.BigRegion
import Derived.Outline
import Derived.RegionTactic
import Derived.StillTailTactics
import Derived.Deep.RegionLaw
import Derived.Test.YtegjbbblpnenfaaVKeptTen
import Derived.Test.YtegjbbblpnenfaaVStay
set_option linter.unusedVariables false
set_option linter.unusedSimpArgs false
namespace Go.Proofs.Ytegjbbblpnenfaa.LTR
open Go Go.RowKit Go.Proofs.YtegjbbblpnenfaaW.PrintWords Go.Proofs.Ytegjbbblpnenfaa.Rw Go.Proofs.Ytegjbbblpnenfaa.SP Go.Proofs.Ytegjbbblpnenfaa.ST Go.Proofs.Ytegjbbblpnenfaa.QR Go.Proofs.Ytegjbbblpnenfaa.HP Go.Proofs.Ytegjbbblpnenfaa.LT Go.Proofs.Ytegjbbblpnenfaa.Stay

theorem giveL_length (bs : List Bak) : ∀ l : List Ten, (giveL l bs).1.length ≤ l.length := by
  induction bs with
  | nil => intro l; exact Nat.le_refl _
  | cons b bs ih =>
    intro l
    unfold giveL
    split
    · simp
    split
    · simp
    split
    · simp
    · have := ih (l.set b.f0.toNat (addG (l.getD b.f0.toNat zT) b.f1)); simpa using this
theorem give_length (l : List Ten) (bs : List Bak) : (give l bs).1.length ≤ l.length := by
  unfold give; split
  · exact giveL_length bs l
  · simp
theorem take_length (l : List Ten) (k a : Int) : (take l k a).1.length ≤ l.length + 1 := by
  unfold take; split
  · simp
  split
  · simp
  · simp
theorem split_length (l : List Ten) (o cr : List Int) (a : Int) : (split l o cr a).1.length ≤ 6 := by
  unfold split
  by_cases h : tall l = true
  · split
    · simp
    split
    · simp
    · exact gives_len l o cr a h
  · rw [if_pos (.inl (by simpa using h))]; simp

set_option maxRecDepth 100000 in
set_option maxHeartbeats 8000000 in
theorem tenderRaw' {A0 A1 A2 A4 : Option Addr} {c0 c1 c2 c4 : Nat} {l : List Ten} {o cr : List Int} {bs : List Bak} {w : World} (x kd : Int) (B : Nat) (hB : w.heap.size = B)
    (h0 : Kd.C k39 w A0 l.length l) (hc0 : l.length ≤ c0) (h1 : Kd.C (Kd.int .i64) w A1 o.length o) (hc1 : o.length ≤ c1) (h2 : Kd.C (Kd.int .i64) w A2 cr.length cr) (hc2 : cr.length ≤ c2) (h4 : Kd.C k34 w A4 bs.length bs) (hc4 : bs.length ≤ c4) :
    Calls Try.prog 6 #[.slice A0 l.length c0, .slice A1 o.length c1, .slice A2 cr.length c2, .int .i64 x, .slice A4 bs.length c4, .int .i64 kd] w fun e w' => e = .returned (.bool true) ∧ Below B w w' := by
  have HB : Hid (w.heap.size = B) := hB
  obtain ⟨ka, hka⟩ := awake_ev.rounds
  have HKA := Aside0.mk hka
  clear hka
  by_cases hbig : 40 < l.length ∨ 40 < o.length ∨ 40 < cr.length ∨ 40 < bs.length
  · have hd : (decide ((40 : Int) < (l.length : Int)) || (decide ((40 : Int) < (o.length : Int)) || (decide ((40 : Int) < (cr.length : Int)) || decide ((40 : Int) < (bs.length : Int))))) = true := by
      simp only [Bool.or_eq_true, decide_eq_true_eq]; omega
    cases e0 : decide ((40 : Int) < (l.length : Int)) with
    | true =>
      clear hB h0 h1 h2 h4 hbig hd
      go_enter Try.func6, Try.ntmps6
      go_wp2_with fail
      refine (haberdashlaw22_awake.calls ka true _ HKA.out).mono ?_
      rintro e w' ⟨rfl, hk⟩
      go_wp2
      go_ret
      exact ⟨rfl, by rw [← HB.out]; exact hk⟩
    | false =>
      cases e1 : decide ((40 : Int) < (o.length : Int)) with
      | true =>
        clear hB h0 h1 h2 h4 hbig hd
        go_enter Try.func6, Try.ntmps6
        go_wp2_with fail
        refine (haberdashlaw22_awake.calls ka true _ HKA.out).mono ?_
        rintro e w' ⟨rfl, hk⟩
        go_wp2
        go_ret
        exact ⟨rfl, by rw [← HB.out]; exact hk⟩
      | false =>
        cases e2 : decide ((40 : Int) < (cr.length : Int)) with
        | true =>
          clear hB h0 h1 h2 h4 hbig hd
          go_enter Try.func6, Try.ntmps6
          go_wp2_with fail
          refine (haberdashlaw22_awake.calls ka true _ HKA.out).mono ?_
          rintro e w' ⟨rfl, hk⟩
          go_wp2
          go_ret
          exact ⟨rfl, by rw [← HB.out]; exact hk⟩
        | false =>
          have e4 : decide ((40 : Int) < (bs.length : Int)) = true := by rw [e0, e1, e2] at hd; simpa using hd
          clear hB h0 h1 h2 h4 hbig hd
          go_enter Try.func6, Try.ntmps6
          go_wp2_with fail
          refine (haberdashlaw22_awake.calls ka true _ HKA.out).mono ?_
          rintro e w' ⟨rfl, hk⟩
          go_wp2
          go_ret
          exact ⟨rfl, by rw [← HB.out]; exact hk⟩
  · have b0 : l.length ≤ 40 := by omega
    have b1 : o.length ≤ 40 := by omega
    have b2 : cr.length ≤ 40 := by omega
    have b4 : bs.length ≤ 40 := by omega
    have d0 : decide ((40 : Int) < (l.length : Int)) = false := by simp; omega
    have d1 : decide ((40 : Int) < (o.length : Int)) = false := by simp; omega
    have d2 : decide ((40 : Int) < (cr.length : Int)) = false := by simp; omega
    have d4 : decide ((40 : Int) < (bs.length : Int)) = false := by simp; omega
    -- what all of them come to
    obtain ⟨⟨sa, se⟩, hs⟩ : ∃ p, p = split l o cr x := ⟨_, rfl⟩
    obtain ⟨⟨ga, ge⟩, hg⟩ : ∃ p, p = give l bs := ⟨_, rfl⟩
    obtain ⟨⟨ta, te⟩, ht⟩ : ∃ p, p = take l kd x := ⟨_, rfl⟩
    have ls : sa.length ≤ 6 := by have := split_length l o cr x; rw [← hs] at this; exact this
    have lg : ga.length ≤ 40 := by have := give_length l bs; rw [← hg] at this; exact Nat.le_trans this b0
    have lt : ta.length ≤ 41 := by have := take_length l kd x; rw [← ht] at this; have h : ta.length ≤ l.length + 1 := this; omega
    have f1 : tender_Split.f l o cr x = some (sa, se) := by rw [split_t _ _ _ _ (by omega) (by omega), hs]
    obtain ⟨k2, f2⟩ := (RT.split_f l o cr x (by omega) (by omega) (by omega)).rounds
    obtain ⟨k3, f3⟩ := (GT.give_t l bs (by omega)).rounds
    obtain ⟨k4, f4⟩ := (GT.give_r l bs (by omega) (by omega)).rounds
    obtain ⟨k5, f5⟩ := (GT.take_t l kd x).rounds
    obtain ⟨k6, f6⟩ := (GT.take_r l kd x (by omega)).rounds
    have f7 := TP.right_t l 11 (by omega)
    obtain ⟨k8, f8⟩ := (RT.tens_f l (by omega)).rounds
    have f9 := TP.left_t l 11 (by omega)
    obtain ⟨k10, f10⟩ := (RT.left_f l (by omega)).rounds
    obtain ⟨k11, f11⟩ := (backs_ev sa (by omega)).rounds
    obtain ⟨k12, f12⟩ := (tens_ev ga (by omega)).rounds
    obtain ⟨k13, f13⟩ := (tens_ev ta (by omega)).rounds
    rw [← hs] at f2
    rw [← hg] at f3 f4
    rw [← ht] at f5 f6
    have F1 := Aside0.mk f1
    have F2 := Aside0.mk f2
    have F3 := Aside0.mk f3
    have F4 := Aside0.mk f4
    have F5 := Aside0.mk f5
    have F6 := Aside0.mk f6
    have F7 := Aside0.mk f7
    have F8 := Aside0.mk f8
    have F9 := Aside0.mk f9
    have F10 := Aside0.mk f10
    have F11 := Aside0.mk f11
    have F12 := Aside0.mk f12
    have F13 := Aside0.mk f13
    have LS := Aside0.mk ls
    have LG := Aside0.mk lg
    have LT' := Aside0.mk lt
    have S0 := Aside0.mk ((((St.c h0).and (St.c h1)).and (St.c h2)).and ((St.c h4).and (St.below (Below.refl w.heap.size w) (Nat.le_refl _))))
    have C0 := Aside0.mk hc0
    have C1 := Aside0.mk hc1
    have C2 := Aside0.mk hc2
    have C4 := Aside0.mk hc4
    clear f1 f2 f3 f4 f5 f6 f7 f8 f9 f10 f11 f12 f13 hs hg ht ls lg lt h0 h1 h2 h4 hc0 hc1 hc2 hc4 hB hbig
    go_enter Try.func6, Try.ntmps6
    go_wp2_with fail
    refine (own_ten 71 0 0 S0.out.now.1.1.1 (by omega)).mono ?_
    rintro e w1 ⟨r, rfl, hr, ho, hk⟩
    have S1 := Aside0.mk ((S0.out.step hk).and (St.heap ho))
    clear hr ho hk
    go_wp2_with fail
    refine (own_int 71 S1.out.now.1.1.1.2 (by omega)).mono ?_
    rintro e w2 ⟨r2, rfl, hr, ho, hk⟩
    have S2 := Aside0.mk ((S1.out.step hk).and (St.heap ho))
    clear hr ho hk
    -- S2: l, o, cr; bs, Below; the copy of l; the copy of o
    go_wp2_with fail
    refine (tender_Split.calls (some ⟨r, 0, none⟩) (l.length + 3) l (some ⟨r2, 0, none⟩) (o.length + 3) o A2 c2 cr x sa se _ (reads_ten S2.out.now.1.2 (by omega)) (by omega) (reads_int S2.out.now.2 (by omega)) (by omega) S2.out.now.1.1.1.2 C2.out F1.out).mono ?_
    rintro e w3 ⟨v, rfl, hv, hk⟩
    obtain ⟨P1, q1, rfl, hq1, hP1⟩ := St.r hv
    have S3 := Aside0.mk ((S2.out.step hk).and hP1)
    have Q1 := Aside0.mk hq1
    clear hv hk hP1 hq1
    go_wp2_with fail
    refine (haberdashref21_Split.calls k2 A0 c0 l A1 c1 o A2 c2 cr x sa se _ S3.out.now.1.1.1.1.1.1 C0.out S3.out.now.1.1.1.1.1.2 C1.out S3.out.now.1.1.1.1.2 C2.out F2.out).mono ?_
    rintro e w4 ⟨v, rfl, hv, hk⟩
    obtain ⟨P2, q2, rfl, hq2, hP2⟩ := St.r hv
    have S4 := Aside0.mk ((S3.out.step hk).and hP2)
    have Q2 := Aside0.mk hq2
    clear hv hk hP2 hq2
    go_wp2_with fail
    refine (tender_Give.calls k3 (some ⟨r, 0, none⟩) (l.length + 3) l A4 c4 bs ga ge _ (reads_ten S4.out.now.1.1.1.2 (by omega)) (by omega) S4.out.now.1.1.1.1.2.1 C4.out F3.out).mono ?_
    rintro e w5 ⟨v, rfl, hv, hk⟩
    obtain ⟨P3, q3, rfl, hq3, hP3⟩ := St.r hv
    have S5 := Aside0.mk ((S4.out.step hk).and hP3)
    have Q3 := Aside0.mk hq3
    clear hv hk hP3 hq3
    go_wp2_with fail
    refine (haberdashref21_Give.calls k4 A0 c0 l A4 c4 bs ga ge _ S5.out.now.1.1.1.1.1.1.1.1 C0.out S5.out.now.1.1.1.1.1.2.1 C4.out F4.out).mono ?_
    rintro e w6 ⟨v, rfl, hv, hk⟩
    obtain ⟨P4, q4, rfl, hq4, hP4⟩ := St.r hv
    have S6 := Aside0.mk ((S5.out.step hk).and hP4)
    have Q4 := Aside0.mk hq4
    clear hv hk hP4 hq4
    go_wp2_with fail
    refine (tender_Take.calls k5 (some ⟨r, 0, none⟩) (l.length + 3) l kd x ta te _ (reads_ten S6.out.now.1.1.1.1.1.2 (by omega)) (by omega) F5.out).mono ?_
    rintro e w7 ⟨v, rfl, hv, hk⟩
    obtain ⟨P5, q5, rfl, hq5, hP5⟩ := St.r hv
    have S7 := Aside0.mk ((S6.out.step hk).and hP5)
    have Q5 := Aside0.mk hq5
    clear hv hk hP5 hq5
    go_wp2_with fail
    refine (haberdashref21_Take.calls k6 A0 c0 l kd x ta te _ S7.out.now.1.1.1.1.1.1.1.1.1.1 C0.out F6.out).mono ?_
    rintro e w8 ⟨v, rfl, hv, hk⟩
    obtain ⟨P6, q6, rfl, hq6, hP6⟩ := St.r hv
    have S8 := Aside0.mk ((S7.out.step hk).and hP6)
    have Q6 := Aside0.mk hq6
    clear hv hk hP6 hq6
    clear S0 S1 S2 S3 S4 S5 S6 S7
    have n1 : ∀ z : Int, (z == z) = true := fun z => by simp
    have n2 : ∀ z : Bool, (z == z) = true := fun z => by simp
    go_wp2_with fail
    refine (haberdashlaw22_awake.calls ka true _ HKA.out).mono ?_
    rintro e w9 ⟨rfl, hk⟩
    have S9 := Aside0.mk (S8.out.step hk)
    clear hk
    go_wp2_with fail
    refine (tender_Right.calls 11 (some ⟨r, 0, none⟩) (l.length + 3) l (tall l) _ (reads_ten S9.out.now.1.1.1.1.1.1.1.2 (by omega)) (by omega) F7.out).mono ?_
    rintro e w10 ⟨rfl, hk⟩
    have S10 := Aside0.mk (S9.out.step hk)
    clear hk S8
    go_wp2_with fail
    refine (haberdashref21_Tenders.calls k8 A0 c0 l (tall l) _ S10.out.now.1.1.1.1.1.1.1.1.1.1.1 C0.out F8.out).mono ?_
    rintro e w11 ⟨rfl, hk⟩
    have S11 := Aside0.mk (S10.out.step hk)
    clear hk S9
    go_wp2_with fail
    refine (tender_Left.calls 11 (some ⟨r, 0, none⟩) (l.length + 3) l (tleft l) _ (reads_ten S11.out.now.1.1.1.1.1.1.1.2 (by omega)) (by omega) F9.out).mono ?_
    rintro e w12 ⟨rfl, hk⟩
    have S12 := Aside0.mk (S11.out.step hk)
    clear hk S10
    go_wp2_with fail
    refine (haberdashref21_Left.calls k10 A0 c0 l (tleft l) _ S12.out.now.1.1.1.1.1.1.1.1.1.1.1 C0.out F10.out).mono ?_
    rintro e w13 ⟨rfl, hk⟩
    have S13 := Aside0.mk (S12.out.step hk)
    clear hk S11
    go_wp2_with fail
    refine (api_Back_21.calls k11 P1 q1 sa P2 q2 sa true _ S13.out.now.1.1.1.1.1.2 Q1.out S13.out.now.1.1.1.1.2 Q2.out F11.out).mono ?_
    rintro e w14 ⟨rfl, hk⟩
    have S14 := Aside0.mk (S13.out.step hk)
    clear hk S12
    go_wp2_with fail
    refine (api_Tender_26.calls k12 P3 q3 ga P4 q4 ga true _ S14.out.now.1.1.1.2 Q3.out S14.out.now.1.1.2 Q4.out F12.out).mono ?_
    rintro e w15 ⟨rfl, hk⟩
    have S15 := Aside0.mk (S14.out.step hk)
    clear hk S13
    go_wp2_with fail
    refine (api_Tender_26.calls k13 P5 q5 ta P6 q6 ta true _ S15.out.now.1.2 Q5.out S15.out.now.2 Q6.out F13.out).mono ?_
    rintro e w16 ⟨rfl, hk⟩
    have S16 := Aside0.mk (S15.out.step hk)
    clear hk S14
    go_wp2_with fail
    refine (kept_ten S16.out.now.1.1.1.1.1.1.1.1.1.1.1 C0.out (by omega) S16.out.now.1.1.1.1.1.1.1.2).mono ?_
    rintro e w17 ⟨rfl, hk⟩
    have S17 := Aside0.mk (S16.out.step hk)
    clear hk S15
    go_wp2_with fail
    refine (kept_int S17.out.now.1.1.1.1.1.1.1.1.1.1.2 (by omega) S17.out.now.1.1.1.1.1.1.2).mono ?_
    rintro e w18 ⟨rfl, k18, rfl⟩
    have HW := Aside0.mk ((S17.out.step (Ch.drewN _ k18)).now.1.1.1.1.1.1.1.1.2.2)
    clear S16 S17
    go_wp2
    go_ret
    exact ⟨by simp, by rw [← HB.out]; exact HW.out⟩
def f (k : Nat) (l : List Ten) (o cr : List Int) (x : Int) (bs : List Bak) (kd : Int) : Option Bool := some true
theorem calls (k : Nat) (A0 : Option Addr) (c0 : Nat) (l : List Ten) (A1 : Option Addr) (c1 : Nat) (o : List Int) (A2 : Option Addr) (c2 : Nat) (cr : List Int) (x : Int) (A4 : Option Addr) (c4 : Nat) (bs : List Bak) (kd : Int) (y : Bool) (w : World)
    (h0 : Kd.C k39 w A0 l.length l) (hc0 : l.length ≤ c0) (h1 : Kd.C (Kd.int .i64) w A1 o.length o) (hc1 : o.length ≤ c1) (h2 : Kd.C (Kd.int .i64) w A2 cr.length cr) (hc2 : cr.length ≤ c2) (h4 : Kd.C k34 w A4 bs.length bs) (hc4 : bs.length ≤ c4) (h : f k l o cr x bs kd = some y) :
    Calls Try.prog 6 #[.slice A0 l.length c0, .slice A1 o.length c1, .slice A2 cr.length c2, .int .i64 x, .slice A4 bs.length c4, .int .i64 kd] w fun e w' => e = .returned (.bool y) ∧ Below w.heap.size w w' := by
  obtain rfl : y = true := by injection h with h; exact h.symm
  exact tenderRaw' x kd _ rfl h0 hc0 h1 hc1 h2 hc2 h4 hc4
theorem Pure (l : List Ten) (o cr : List Int) (x : Int) (bs : List Bak) (kd : Int) : ∃ k, f k l o cr x bs kd = some true := ⟨0, rfl⟩
end Go.Proofs.Ytegjbbblpnenfaa.LTR
