/- (promo.one).plain: what a promo's kind does not name is zero. -/
import Derived.Test.YtdmeepjefccpgaaProg
import Derived.Below
import Derived.Deep.Draws
import Derived.Deep.AppendLies
import Derived.Maps.AppendAt
import Derived.OwnWalk
import Derived.Laws.BytesArg
import Derived.Laws.MakeOwn
import Derived.Laws.OwnMore
import Derived.Deep.OwnRows
import Derived.Tactics
import Derived.Lib.ConvBytes
import Derived.Laws.Slices
import Derived.WalkKit
import Derived.KernelRfl
import Derived.RowKit3
import Derived.Deep.LoopGhost
import Derived.Deep.QuietTactic
import Derived.BigQuiet
import Derived.WideLaws
import Derived.Deep.DeepCutAuto
import Derived.Deep.CutBlock
import Derived.Deep.RegionHeld3
import Derived.Laws.Rows
import Derived.Lib.AppendStr
import Derived.ArgAppend
import Derived.Laws.IdiomCopy
import Derived.OrdersHeld
import Derived.Laws.BitsLemmas
import Derived.RowKit
import Derived.BigRegion
import Derived.Outline
import Derived.RegionTactic
import Derived.StillTailTactics
import Derived.Deep.RegionLaw
import Derived.Test.YtdmeepjefccpgaaVRwA
set_option linter.unusedVariables false
set_option linter.unusedSimpArgs false
namespace Go.Proofs.Ytdmeepjefccpgaa.Rw
open Go Go.RowKit Go.Proofs.YtdmeepjefccpgaaW.PrintWords Go.Proofs.YtdmeepjefccpgaaW.PrintMore
section
variable {P : Program} {ops : Array Oper} {Q Q' : Exit → Act → World → Prop}
theorem wp_mono2 {o : Oper} {a : Act} {w : World} {K K' : Act → World → Prop} (h : ∀ a w, K a w → K' a w) (hq : ∀ e a w, e ≠ .normal → Q e a w → Q' e a w) (hh : o.wp P a w K Q) : o.wp P a w K' Q' := by
  have hl : LetsOut Q → LetsOut Q' := fun ⟨a, w, q⟩ => ⟨a, w, hq _ _ _ (by simp) q⟩
  unfold Oper.wp at *
  generalize (execOp a.eval o).run P w = r at *
  cases r with
  | ok n w' =>
    cases n <;> simp only [Oper.upon] at hh ⊢ <;>
      first
        | exact h _ _ hh
        | exact Calls.mono hh (fun e w'' he => by cases e <;> first | exact h _ _ he | exact hl he | exact hq _ _ _ (by simp) he)
        | exact Rows.mono hh (fun _ _ he => h _ _ he)
  | halt x w' => cases x <;> simp only [Oper.upon] at hh ⊢ <;> first | exact hh | exact hq _ _ _ (by simp) hh
/-- Operations one behind the other are taken in two parts. -/
theorem wpList_cut : ∀ (l : List Oper) (n : Nat) (a : Act) (w : World), wpList P ops (fun e a w => match e with | .normal => wpList P ops Q (l.drop n) a w | e => Q e a w) (l.take n) a w → wpList P ops Q l a w
  | [], n, a, w, h => by cases n <;> simpa [wpList] using h
  | o :: l, 0, a, w, h => by simpa [wpList] using h
  | o :: l, n + 1, a, w, h => by
    rw [List.take_succ_cons] at h
    unfold wpList at h ⊢
    split
    · rename_i hw
      rw [if_pos hw] at h
      rcases h with h | ⟨h1, h2⟩
      · exact .inl (wp_mono2 (fun a w hk => wpList_cut l n a w hk) (fun e a w he hq => by cases e <;> first | exact absurd rfl he | exact hq) h)
      · exact .inr ⟨h1, h2.elim fun a h => h.elim fun w h => ⟨a, w, h⟩⟩
    · rename_i hw
      rw [if_neg hw] at h
      exact wpList_cut l n _ w h
/-- A part that leads from one kind of frames to another; and what comes behind it. -/
theorem chunk {l : List Oper} {S S' : Act → Prop} {a : Act} {w : World} (n : Nat) (hS : S a) (h : ∀ Q' : Exit → Act → World → Prop, (∀ a, S' a → Q' .normal a w) → ∀ a, S a → wpList P ops Q' (l.take n) a w) (rest : ∀ a, S' a → wpList P ops Q (l.drop n) a w) : wpList P ops Q l a w :=
  wpList_cut l n a w (h _ rest a hS)
end
set_option maxRecDepth 100000 in
theorem frameF {l : Array Value} (h : l.size = 115) : ∃ f : Nat → Value, l = #[f 0, f 1, f 2, f 3, f 4, f 5, f 6, f 7, f 8, f 9, f 10, f 11, f 12, f 13, f 14, f 15, f 16, f 17, f 18, f 19, f 20, f 21, f 22, f 23, f 24, f 25, f 26, f 27, f 28, f 29, f 30, f 31, f 32, f 33, f 34, f 35, f 36, f 37, f 38, f 39, f 40, f 41, f 42, f 43, f 44, f 45, f 46, f 47, f 48, f 49, f 50, f 51, f 52, f 53, f 54, f 55, f 56, f 57, f 58, f 59, f 60, f 61, f 62, f 63, f 64, f 65, f 66, f 67, f 68, f 69, f 70, f 71, f 72, f 73, f 74, f 75, f 76, f 77, f 78, f 79, f 80, f 81, f 82, f 83, f 84, f 85, f 86, f 87, f 88, f 89, f 90, f 91, f 92, f 93, f 94, f 95, f 96, f 97, f 98, f 99, f 100, f 101, f 102, f 103, f 104, f 105, f 106, f 107, f 108, f 109, f 110, f 111, f 112, f 113, f 114] := by
  obtain ⟨l⟩ := l
  replace h : l.length = 115 := h
  refine ⟨fun i => l.getD i undef, ?_⟩
  have e : l = (List.range 115).map (fun i => l.getD i undef) := by
    apply List.ext_getElem
    · simp [h]
    · intro i h1 h2
      simp [List.getD, h1]
  have e2 : (List.range 115).map (fun i => l.getD i undef) = [l.getD 0 undef, l.getD 1 undef, l.getD 2 undef, l.getD 3 undef, l.getD 4 undef, l.getD 5 undef, l.getD 6 undef, l.getD 7 undef, l.getD 8 undef, l.getD 9 undef, l.getD 10 undef, l.getD 11 undef, l.getD 12 undef, l.getD 13 undef, l.getD 14 undef, l.getD 15 undef, l.getD 16 undef, l.getD 17 undef, l.getD 18 undef, l.getD 19 undef, l.getD 20 undef, l.getD 21 undef, l.getD 22 undef, l.getD 23 undef, l.getD 24 undef, l.getD 25 undef, l.getD 26 undef, l.getD 27 undef, l.getD 28 undef, l.getD 29 undef, l.getD 30 undef, l.getD 31 undef, l.getD 32 undef, l.getD 33 undef, l.getD 34 undef, l.getD 35 undef, l.getD 36 undef, l.getD 37 undef, l.getD 38 undef, l.getD 39 undef, l.getD 40 undef, l.getD 41 undef, l.getD 42 undef, l.getD 43 undef, l.getD 44 undef, l.getD 45 undef, l.getD 46 undef, l.getD 47 undef, l.getD 48 undef, l.getD 49 undef, l.getD 50 undef, l.getD 51 undef, l.getD 52 undef, l.getD 53 undef, l.getD 54 undef, l.getD 55 undef, l.getD 56 undef, l.getD 57 undef, l.getD 58 undef, l.getD 59 undef, l.getD 60 undef, l.getD 61 undef, l.getD 62 undef, l.getD 63 undef, l.getD 64 undef, l.getD 65 undef, l.getD 66 undef, l.getD 67 undef, l.getD 68 undef, l.getD 69 undef, l.getD 70 undef, l.getD 71 undef, l.getD 72 undef, l.getD 73 undef, l.getD 74 undef, l.getD 75 undef, l.getD 76 undef, l.getD 77 undef, l.getD 78 undef, l.getD 79 undef, l.getD 80 undef, l.getD 81 undef, l.getD 82 undef, l.getD 83 undef, l.getD 84 undef, l.getD 85 undef, l.getD 86 undef, l.getD 87 undef, l.getD 88 undef, l.getD 89 undef, l.getD 90 undef, l.getD 91 undef, l.getD 92 undef, l.getD 93 undef, l.getD 94 undef, l.getD 95 undef, l.getD 96 undef, l.getD 97 undef, l.getD 98 undef, l.getD 99 undef, l.getD 100 undef, l.getD 101 undef, l.getD 102 undef, l.getD 103 undef, l.getD 104 undef, l.getD 105 undef, l.getD 106 undef, l.getD 107 undef, l.getD 108 undef, l.getD 109 undef, l.getD 110 undef, l.getD 111 undef, l.getD 112 undef, l.getD 113 undef, l.getD 114 undef] := rfl
  rw [← e2, ← e]
structure Hid_ (p : Prop) : Prop where
  mk ::
  out : p
structure Slots (g : Nat) (k : Int) (ra op : Bool) (c : Nat) (x : Bool) (a : Act) : Prop where
  defers : a.defers = []
  size : a.tmps.size = 115
  s1 : a.tmps[1]? = some (.pointer (some ⟨g, 0, none⟩))
  s3 : a.tmps[3]? = some (.int .i64 k)
  s4 : a.tmps[4]? = some (.bool ra)
  s5 : a.tmps[5]? = some (.bool op)
  sc : a.tmps[c]? = some (.bool x)
def plain_rated (k : Int) : Bool := k == 1 || k == 7 || k == 3
def plain_open (k : Int) : Bool := k != 4 && k != 7
def plain_1 (k a9 : Int) : Bool := plain_rated k || a9 == 0
def plain_2 (k a10 : Int) : Bool := k == 2 || k == 4 || a10 == 0
def plain_3 (k a11 a12 : Int) : Bool := k == 3 || (a11 == 0 && a12 == 0)
def plain_4 (k n13 : Int) : Bool := k == 4 || n13 == 0
def plain_5 (k n14 : Int) : Bool := k == 5 || k == 6 || n14 == 0
def plain_6 (k n6 n7 : Int) : Bool := plain_open k || wrap64 (n6 + n7) == 0
def plain_7 (k : Int) (cl : Bool) : Bool := k != 7 || !cl
set_option maxRecDepth 100000 in
set_option maxHeartbeats 16000000 in
theorem plain_walk (a0_0 : ByteArray) (k : Int) (a0_2 : Int) (a0_3 : ByteArray) (a0_4 : ByteArray) (a0_5 : Bool) (A0_6 : Option Addr) (n6 c0_6 : Nat) (A0_7 : Option Addr) (n7 c0_7 : Nat) (a0_8 : Int) (a0_9 : Int) (a0_10 : Int) (a0_11 : Int) (a0_12 : Int) (A0_13 : Option Addr) (n13 c0_13 : Nat) (A0_14 : Option Addr) (n14 c0_14 : Nat) (w : World) :
    Calls Try.prog 71 #[.agg #[.string a0_0, .int .i64 k, .int .i64 a0_2, .string a0_3, .string a0_4, .bool a0_5, .slice A0_6 n6 c0_6, .slice A0_7 n7 c0_7, .int .i64 a0_8, .int .i64 a0_9, .int .i64 a0_10, .int .i64 a0_11, .int .i64 a0_12, .slice A0_13 n13 c0_13, .slice A0_14 n14 c0_14]] w fun e w' => e = .returned (.bool ((((((plain_1 k a0_9 && plain_2 k a0_10) && plain_3 k a0_11 a0_12) && plain_4 k n13) && plain_5 k n14) && plain_6 k n6 n7) && plain_7 k a0_5)) ∧ Below w.heap.size w w' := by
  go_enter Try.func71, Try.ntmps71
  go_upto_region 2 with (fail)
  have hb : Below w.heap.size w (w.alloc (.cells #[.string a0_0, .int .i64 k, .int .i64 a0_2, .string a0_3, .string a0_4, .bool a0_5, .slice A0_6 n6 c0_6, .slice A0_7 n7 c0_7, .int .i64 a0_8, .int .i64 a0_9, .int .i64 a0_10, .int .i64 a0_11, .int .i64 a0_12, .slice A0_13 n13 c0_13, .slice A0_14 n14 c0_14] 99)) := (Below.refl _ _).alloc (Nat.le_refl _) _
  have hbl : (w.alloc (.cells #[.string a0_0, .int .i64 k, .int .i64 a0_2, .string a0_3, .string a0_4, .bool a0_5, .slice A0_6 n6 c0_6, .slice A0_7 n7 c0_7, .int .i64 a0_8, .int .i64 a0_9, .int .i64 a0_10, .int .i64 a0_11, .int .i64 a0_12, .slice A0_13 n13 c0_13, .slice A0_14 n14 c0_14] 99)).heap[w.heap.size]? = some (.cells #[.string a0_0, .int .i64 k, .int .i64 a0_2, .string a0_3, .string a0_4, .bool a0_5, .slice A0_6 n6 c0_6, .slice A0_7 n7 c0_7, .int .i64 a0_8, .int .i64 a0_9, .int .i64 a0_10, .int .i64 a0_11, .int .i64 a0_12, .slice A0_13 n13 c0_13, .slice A0_14 n14 c0_14] 99 (0, 0)) := by show (w.heap.push _)[w.heap.size]? = _; simp
  have HB := Aside0.mk hb
  have HBL := Aside0.mk hbl
  clear hb hbl
  go_cut [4] (fun v4 wc => v4 = .bool (plain_rated k) ∧ Aside0 (Below w.heap.size w wc) ∧ Aside0 (wc.heap[w.heap.size]? = some (.cells #[.string a0_0, .int .i64 k, .int .i64 a0_2, .string a0_3, .string a0_4, .bool a0_5, .slice A0_6 n6 c0_6, .slice A0_7 n7 c0_7, .int .i64 a0_8, .int .i64 a0_9, .int .i64 a0_10, .int .i64 a0_11, .int .i64 a0_12, .slice A0_13 n13 c0_13, .slice A0_14 n14 c0_14] 99 (0, 0))))
  case first =>
    rcases hx : plain_rated k with _ | _ <;> rcases e1 : (k == 1) with _ | _ <;> rcases e7 : (k == 7) with _ | _ <;> rcases e3 : (k == 3) with _ | _
    all_goals
      (try (exfalso; revert hx; unfold plain_rated; rw [e1, e7, e3]; decide))
    all_goals
      have HX := Aside0.mk hx
      clear hx
      go_wp2
      go_meet
      case rel => exact ⟨by rw [HX.out], HB, HBL⟩
  case rest =>
    obtain ⟨rfl, HB1, HBL1⟩ := hcut
    go_upto_region 3 with (fail)
    go_cut [5] (fun v5 wd => v5 = .bool (plain_open k) ∧ Aside0 (Below w.heap.size w wd) ∧ Aside0 (wd.heap[w.heap.size]? = some (.cells #[.string a0_0, .int .i64 k, .int .i64 a0_2, .string a0_3, .string a0_4, .bool a0_5, .slice A0_6 n6 c0_6, .slice A0_7 n7 c0_7, .int .i64 a0_8, .int .i64 a0_9, .int .i64 a0_10, .int .i64 a0_11, .int .i64 a0_12, .slice A0_13 n13 c0_13, .slice A0_14 n14 c0_14] 99 (0, 0))))
    case first =>
      rcases hx : plain_open k with _ | _ <;> rcases e4 : (k != 4) with _ | _ <;> rcases e7 : (k != 7) with _ | _
      all_goals
        (try (exfalso; revert hx; unfold plain_open; rw [e4, e7]; decide))
      all_goals
        have HX := Aside0.mk hx
        clear hx
        go_wp2
        go_meet
        case rel => exact ⟨by rw [HX.out], HB1, HBL1⟩
    case rest =>
      obtain ⟨rfl, HB2, HBL2⟩ := hcut
      go_upto_region 4 with (fail)
      refine wp_region_lit ?_
      simp only [List.append_eq, List.cons_append, List.nil_append]
      refine chunk (S := Slots w.heap.size k (plain_rated k) (plain_open k) 4 (plain_rated k)) (S' := Slots w.heap.size k (plain_rated k) (plain_open k) 31 (plain_1 k a0_9)) 7 ⟨rfl, rfl, rfl, rfl, rfl, rfl, rfl⟩ ?_ ?_
      · simp only [List.take_succ_cons, List.take_zero]
        intro Q1 hq1 a hS
        have HQ1 := Hid_.mk hq1
        clear hq1
        obtain ⟨tm, df⟩ := a
        obtain rfl : df = [] := hS.defers
        obtain ⟨f, rfl⟩ := frameF hS.size
        have f1 : f 1 = .pointer (some ⟨w.heap.size, 0, none⟩) := Option.some.inj hS.s1
        have f3 : f 3 = .int .i64 k := Option.some.inj hS.s3
        have f4 : f 4 = .bool (plain_rated k) := Option.some.inj hS.s4
        have f5 : f 5 = .bool (plain_open k) := Option.some.inj hS.s5
        rw [f1, f3, f4, f5]
        clear f1 f3 f4 f5
        clear hS
        have hc9 : wc.cell? ⟨w.heap.size, 9, none⟩ = some (.int .i64 a0_9) := (blk_cell HBL2.out 9).trans rfl
        rcases hx : (plain_rated k) with _ | _
        ·
          rcases z9 : (a0_9 == 0) with _ | _
          ·
            have hr : (plain_1 k a0_9) = false := by simp [hx, plain_1, z9]
            have HR := Aside0.mk hr
            have HX := Aside0.mk hx
            clear hr hx
            go_wp2
            exact HQ1.out _ ⟨rfl, rfl, rfl, rfl, by rw [HX.out]; rfl, rfl, by rw [HR.out]; rfl⟩
          ·
            have hr : (plain_1 k a0_9) = true := by simp [hx, plain_1, z9]
            have HR := Aside0.mk hr
            have HX := Aside0.mk hx
            clear hr hx
            go_wp2
            exact HQ1.out _ ⟨rfl, rfl, rfl, rfl, by rw [HX.out]; rfl, rfl, by rw [HR.out]; rfl⟩
        ·
          have hr : (plain_1 k a0_9) = true := by simp [hx, plain_1]
          have HR := Aside0.mk hr
          have HX := Aside0.mk hx
          clear hr hx
          go_wp2
          exact HQ1.out _ ⟨rfl, rfl, rfl, rfl, by rw [HX.out]; rfl, rfl, by rw [HR.out]; rfl⟩
      simp only [List.drop_succ_cons, List.drop_zero]
      intro a hS
      refine chunk (S := Slots w.heap.size k (plain_rated k) (plain_open k) 31 (plain_1 k a0_9)) (S' := Slots w.heap.size k (plain_rated k) (plain_open k) 45 ((plain_1 k a0_9 && plain_2 k a0_10))) 14 hS ?_ ?_
      · simp only [List.take_succ_cons, List.take_zero]
        intro Q1 hq1 a hS
        have HQ1 := Hid_.mk hq1
        clear hq1
        obtain ⟨tm, df⟩ := a
        obtain rfl : df = [] := hS.defers
        obtain ⟨f, rfl⟩ := frameF hS.size
        have f1 : f 1 = .pointer (some ⟨w.heap.size, 0, none⟩) := Option.some.inj hS.s1
        have f3 : f 3 = .int .i64 k := Option.some.inj hS.s3
        have f4 : f 4 = .bool (plain_rated k) := Option.some.inj hS.s4
        have f5 : f 5 = .bool (plain_open k) := Option.some.inj hS.s5
        have fc : f 31 = .bool (plain_1 k a0_9) := Option.some.inj hS.sc
        rw [f1, f3, f4, f5, fc]
        clear f1 f3 f4 f5 fc
        clear hS
        have hc10 : wc.cell? ⟨w.heap.size, 10, none⟩ = some (.int .i64 a0_10) := (blk_cell HBL2.out 10).trans rfl
        rcases hx : (plain_1 k a0_9) with _ | _
        ·
          have hr : ((plain_1 k a0_9 && plain_2 k a0_10)) = false := by simp [hx, plain_2]
          have HR := Aside0.mk hr
          have HX := Aside0.mk hx
          clear hr hx
          go_wp2
          exact HQ1.out _ ⟨rfl, rfl, rfl, rfl, rfl, rfl, by rw [HR.out]; rfl⟩
        ·
          rcases e2 : (k == 2) with _ | _
          ·
            rcases e4 : (k == 4) with _ | _
            ·
              rcases z10 : (a0_10 == 0) with _ | _
              ·
                have hr : ((plain_1 k a0_9 && plain_2 k a0_10)) = false := by simp [hx, plain_2, e2, e4, z10]
                have HR := Aside0.mk hr
                have HX := Aside0.mk hx
                clear hr hx
                go_wp2
                exact HQ1.out _ ⟨rfl, rfl, rfl, rfl, rfl, rfl, by rw [HR.out]; rfl⟩
              ·
                have hr : ((plain_1 k a0_9 && plain_2 k a0_10)) = true := by simp [hx, plain_2, e2, e4, z10]
                have HR := Aside0.mk hr
                have HX := Aside0.mk hx
                clear hr hx
                go_wp2
                exact HQ1.out _ ⟨rfl, rfl, rfl, rfl, rfl, rfl, by rw [HR.out]; rfl⟩
            ·
              have hr : ((plain_1 k a0_9 && plain_2 k a0_10)) = true := by simp [hx, plain_2, e2, e4]
              have HR := Aside0.mk hr
              have HX := Aside0.mk hx
              clear hr hx
              go_wp2
              exact HQ1.out _ ⟨rfl, rfl, rfl, rfl, rfl, rfl, by rw [HR.out]; rfl⟩
          ·
            have hr : ((plain_1 k a0_9 && plain_2 k a0_10)) = true := by simp [hx, plain_2, e2]
            have HR := Aside0.mk hr
            have HX := Aside0.mk hx
            clear hr hx
            go_wp2
            exact HQ1.out _ ⟨rfl, rfl, rfl, rfl, rfl, rfl, by rw [HR.out]; rfl⟩
      simp only [List.drop_succ_cons, List.drop_zero]
      intro a hS
      refine chunk (S := Slots w.heap.size k (plain_rated k) (plain_open k) 45 ((plain_1 k a0_9 && plain_2 k a0_10))) (S' := Slots w.heap.size k (plain_rated k) (plain_open k) 61 (((plain_1 k a0_9 && plain_2 k a0_10) && plain_3 k a0_11 a0_12))) 16 hS ?_ ?_
      · simp only [List.take_succ_cons, List.take_zero]
        intro Q1 hq1 a hS
        have HQ1 := Hid_.mk hq1
        clear hq1
        obtain ⟨tm, df⟩ := a
        obtain rfl : df = [] := hS.defers
        obtain ⟨f, rfl⟩ := frameF hS.size
        have f1 : f 1 = .pointer (some ⟨w.heap.size, 0, none⟩) := Option.some.inj hS.s1
        have f3 : f 3 = .int .i64 k := Option.some.inj hS.s3
        have f4 : f 4 = .bool (plain_rated k) := Option.some.inj hS.s4
        have f5 : f 5 = .bool (plain_open k) := Option.some.inj hS.s5
        have fc : f 45 = .bool ((plain_1 k a0_9 && plain_2 k a0_10)) := Option.some.inj hS.sc
        rw [f1, f3, f4, f5, fc]
        clear f1 f3 f4 f5 fc
        clear hS
        have hc11 : wc.cell? ⟨w.heap.size, 11, none⟩ = some (.int .i64 a0_11) := (blk_cell HBL2.out 11).trans rfl
        have hc12 : wc.cell? ⟨w.heap.size, 12, none⟩ = some (.int .i64 a0_12) := (blk_cell HBL2.out 12).trans rfl
        rcases hx : ((plain_1 k a0_9 && plain_2 k a0_10)) with _ | _
        ·
          have hr : (((plain_1 k a0_9 && plain_2 k a0_10) && plain_3 k a0_11 a0_12)) = false := by simp [hx, plain_3]
          have HR := Aside0.mk hr
          have HX := Aside0.mk hx
          clear hr hx
          go_wp2
          exact HQ1.out _ ⟨rfl, rfl, rfl, rfl, rfl, rfl, by rw [HR.out]; rfl⟩
        ·
          rcases e3 : (k == 3) with _ | _
          ·
            rcases z11 : (a0_11 == 0) with _ | _
            ·
              have hr : (((plain_1 k a0_9 && plain_2 k a0_10) && plain_3 k a0_11 a0_12)) = false := by simp [hx, plain_3, e3, z11]
              have HR := Aside0.mk hr
              have HX := Aside0.mk hx
              clear hr hx
              go_wp2
              exact HQ1.out _ ⟨rfl, rfl, rfl, rfl, rfl, rfl, by rw [HR.out]; rfl⟩
            ·
              rcases z12 : (a0_12 == 0) with _ | _
              ·
                have hr : (((plain_1 k a0_9 && plain_2 k a0_10) && plain_3 k a0_11 a0_12)) = false := by simp [hx, plain_3, e3, z11, z12]
                have HR := Aside0.mk hr
                have HX := Aside0.mk hx
                clear hr hx
                go_wp2
                exact HQ1.out _ ⟨rfl, rfl, rfl, rfl, rfl, rfl, by rw [HR.out]; rfl⟩
              ·
                have hr : (((plain_1 k a0_9 && plain_2 k a0_10) && plain_3 k a0_11 a0_12)) = true := by simp [hx, plain_3, e3, z11, z12]
                have HR := Aside0.mk hr
                have HX := Aside0.mk hx
                clear hr hx
                go_wp2
                exact HQ1.out _ ⟨rfl, rfl, rfl, rfl, rfl, rfl, by rw [HR.out]; rfl⟩
          ·
            have hr : (((plain_1 k a0_9 && plain_2 k a0_10) && plain_3 k a0_11 a0_12)) = true := by simp [hx, plain_3, e3]
            have HR := Aside0.mk hr
            have HX := Aside0.mk hx
            clear hr hx
            go_wp2
            exact HQ1.out _ ⟨rfl, rfl, rfl, rfl, rfl, rfl, by rw [HR.out]; rfl⟩
      simp only [List.drop_succ_cons, List.drop_zero]
      intro a hS
      refine chunk (S := Slots w.heap.size k (plain_rated k) (plain_open k) 61 (((plain_1 k a0_9 && plain_2 k a0_10) && plain_3 k a0_11 a0_12))) (S' := Slots w.heap.size k (plain_rated k) (plain_open k) 72 ((((plain_1 k a0_9 && plain_2 k a0_10) && plain_3 k a0_11 a0_12) && plain_4 k n13))) 11 hS ?_ ?_
      · simp only [List.take_succ_cons, List.take_zero]
        intro Q1 hq1 a hS
        have HQ1 := Hid_.mk hq1
        clear hq1
        obtain ⟨tm, df⟩ := a
        obtain rfl : df = [] := hS.defers
        obtain ⟨f, rfl⟩ := frameF hS.size
        have f1 : f 1 = .pointer (some ⟨w.heap.size, 0, none⟩) := Option.some.inj hS.s1
        have f3 : f 3 = .int .i64 k := Option.some.inj hS.s3
        have f4 : f 4 = .bool (plain_rated k) := Option.some.inj hS.s4
        have f5 : f 5 = .bool (plain_open k) := Option.some.inj hS.s5
        have fc : f 61 = .bool (((plain_1 k a0_9 && plain_2 k a0_10) && plain_3 k a0_11 a0_12)) := Option.some.inj hS.sc
        rw [f1, f3, f4, f5, fc]
        clear f1 f3 f4 f5 fc
        clear hS
        have hc13 : wc.cell? ⟨w.heap.size, 13, none⟩ = some (.slice A0_13 n13 c0_13) := (blk_cell HBL2.out 13).trans rfl
        rcases hx : (((plain_1 k a0_9 && plain_2 k a0_10) && plain_3 k a0_11 a0_12)) with _ | _
        ·
          have hr : ((((plain_1 k a0_9 && plain_2 k a0_10) && plain_3 k a0_11 a0_12) && plain_4 k n13)) = false := by simp [hx, plain_4]
          have HR := Aside0.mk hr
          have HX := Aside0.mk hx
          clear hr hx
          go_wp2
          exact HQ1.out _ ⟨rfl, rfl, rfl, rfl, rfl, rfl, by rw [HR.out]; rfl⟩
        ·
          rcases e4 : (k == 4) with _ | _
          ·
            rcases z13 : ((n13 : Int) == 0) with _ | _
            ·
              have hr : ((((plain_1 k a0_9 && plain_2 k a0_10) && plain_3 k a0_11 a0_12) && plain_4 k n13)) = false := by simp [hx, plain_4, e4, z13]
              have HR := Aside0.mk hr
              have HX := Aside0.mk hx
              clear hr hx
              go_wp2
              exact HQ1.out _ ⟨rfl, rfl, rfl, rfl, rfl, rfl, by rw [HR.out]; rfl⟩
            ·
              have hr : ((((plain_1 k a0_9 && plain_2 k a0_10) && plain_3 k a0_11 a0_12) && plain_4 k n13)) = true := by simp [hx, plain_4, e4, z13]
              have HR := Aside0.mk hr
              have HX := Aside0.mk hx
              clear hr hx
              go_wp2
              exact HQ1.out _ ⟨rfl, rfl, rfl, rfl, rfl, rfl, by rw [HR.out]; rfl⟩
          ·
            have hr : ((((plain_1 k a0_9 && plain_2 k a0_10) && plain_3 k a0_11 a0_12) && plain_4 k n13)) = true := by simp [hx, plain_4, e4]
            have HR := Aside0.mk hr
            have HX := Aside0.mk hx
            clear hr hx
            go_wp2
            exact HQ1.out _ ⟨rfl, rfl, rfl, rfl, rfl, rfl, by rw [HR.out]; rfl⟩
      simp only [List.drop_succ_cons, List.drop_zero]
      intro a hS
      refine chunk (S := Slots w.heap.size k (plain_rated k) (plain_open k) 72 ((((plain_1 k a0_9 && plain_2 k a0_10) && plain_3 k a0_11 a0_12) && plain_4 k n13))) (S' := Slots w.heap.size k (plain_rated k) (plain_open k) 87 (((((plain_1 k a0_9 && plain_2 k a0_10) && plain_3 k a0_11 a0_12) && plain_4 k n13) && plain_5 k n14))) 15 hS ?_ ?_
      · simp only [List.take_succ_cons, List.take_zero]
        intro Q1 hq1 a hS
        have HQ1 := Hid_.mk hq1
        clear hq1
        obtain ⟨tm, df⟩ := a
        obtain rfl : df = [] := hS.defers
        obtain ⟨f, rfl⟩ := frameF hS.size
        have f1 : f 1 = .pointer (some ⟨w.heap.size, 0, none⟩) := Option.some.inj hS.s1
        have f3 : f 3 = .int .i64 k := Option.some.inj hS.s3
        have f4 : f 4 = .bool (plain_rated k) := Option.some.inj hS.s4
        have f5 : f 5 = .bool (plain_open k) := Option.some.inj hS.s5
        have fc : f 72 = .bool ((((plain_1 k a0_9 && plain_2 k a0_10) && plain_3 k a0_11 a0_12) && plain_4 k n13)) := Option.some.inj hS.sc
        rw [f1, f3, f4, f5, fc]
        clear f1 f3 f4 f5 fc
        clear hS
        have hc14 : wc.cell? ⟨w.heap.size, 14, none⟩ = some (.slice A0_14 n14 c0_14) := (blk_cell HBL2.out 14).trans rfl
        rcases hx : ((((plain_1 k a0_9 && plain_2 k a0_10) && plain_3 k a0_11 a0_12) && plain_4 k n13)) with _ | _
        ·
          have hr : (((((plain_1 k a0_9 && plain_2 k a0_10) && plain_3 k a0_11 a0_12) && plain_4 k n13) && plain_5 k n14)) = false := by simp [hx, plain_5]
          have HR := Aside0.mk hr
          have HX := Aside0.mk hx
          clear hr hx
          go_wp2
          exact HQ1.out _ ⟨rfl, rfl, rfl, rfl, rfl, rfl, by rw [HR.out]; rfl⟩
        ·
          rcases e5 : (k == 5) with _ | _
          ·
            rcases e6 : (k == 6) with _ | _
            ·
              rcases z14 : ((n14 : Int) == 0) with _ | _
              ·
                have hr : (((((plain_1 k a0_9 && plain_2 k a0_10) && plain_3 k a0_11 a0_12) && plain_4 k n13) && plain_5 k n14)) = false := by simp [hx, plain_5, e5, e6, z14]
                have HR := Aside0.mk hr
                have HX := Aside0.mk hx
                clear hr hx
                go_wp2
                exact HQ1.out _ ⟨rfl, rfl, rfl, rfl, rfl, rfl, by rw [HR.out]; rfl⟩
              ·
                have hr : (((((plain_1 k a0_9 && plain_2 k a0_10) && plain_3 k a0_11 a0_12) && plain_4 k n13) && plain_5 k n14)) = true := by simp [hx, plain_5, e5, e6, z14]
                have HR := Aside0.mk hr
                have HX := Aside0.mk hx
                clear hr hx
                go_wp2
                exact HQ1.out _ ⟨rfl, rfl, rfl, rfl, rfl, rfl, by rw [HR.out]; rfl⟩
            ·
              have hr : (((((plain_1 k a0_9 && plain_2 k a0_10) && plain_3 k a0_11 a0_12) && plain_4 k n13) && plain_5 k n14)) = true := by simp [hx, plain_5, e5, e6]
              have HR := Aside0.mk hr
              have HX := Aside0.mk hx
              clear hr hx
              go_wp2
              exact HQ1.out _ ⟨rfl, rfl, rfl, rfl, rfl, rfl, by rw [HR.out]; rfl⟩
          ·
            have hr : (((((plain_1 k a0_9 && plain_2 k a0_10) && plain_3 k a0_11 a0_12) && plain_4 k n13) && plain_5 k n14)) = true := by simp [hx, plain_5, e5]
            have HR := Aside0.mk hr
            have HX := Aside0.mk hx
            clear hr hx
            go_wp2
            exact HQ1.out _ ⟨rfl, rfl, rfl, rfl, rfl, rfl, by rw [HR.out]; rfl⟩
      simp only [List.drop_succ_cons, List.drop_zero]
      intro a hS
      refine chunk (S := Slots w.heap.size k (plain_rated k) (plain_open k) 87 (((((plain_1 k a0_9 && plain_2 k a0_10) && plain_3 k a0_11 a0_12) && plain_4 k n13) && plain_5 k n14))) (S' := Slots w.heap.size k (plain_rated k) (plain_open k) 104 ((((((plain_1 k a0_9 && plain_2 k a0_10) && plain_3 k a0_11 a0_12) && plain_4 k n13) && plain_5 k n14) && plain_6 k n6 n7))) 17 hS ?_ ?_
      · simp only [List.take_succ_cons, List.take_zero]
        intro Q1 hq1 a hS
        have HQ1 := Hid_.mk hq1
        clear hq1
        obtain ⟨tm, df⟩ := a
        obtain rfl : df = [] := hS.defers
        obtain ⟨f, rfl⟩ := frameF hS.size
        have f1 : f 1 = .pointer (some ⟨w.heap.size, 0, none⟩) := Option.some.inj hS.s1
        have f3 : f 3 = .int .i64 k := Option.some.inj hS.s3
        have f4 : f 4 = .bool (plain_rated k) := Option.some.inj hS.s4
        have f5 : f 5 = .bool (plain_open k) := Option.some.inj hS.s5
        have fc : f 87 = .bool (((((plain_1 k a0_9 && plain_2 k a0_10) && plain_3 k a0_11 a0_12) && plain_4 k n13) && plain_5 k n14)) := Option.some.inj hS.sc
        rw [f1, f3, f4, f5, fc]
        clear f1 f3 f4 f5 fc
        clear hS
        have hc6 : wc.cell? ⟨w.heap.size, 6, none⟩ = some (.slice A0_6 n6 c0_6) := (blk_cell HBL2.out 6).trans rfl
        have hc7 : wc.cell? ⟨w.heap.size, 7, none⟩ = some (.slice A0_7 n7 c0_7) := (blk_cell HBL2.out 7).trans rfl
        rcases hx : (((((plain_1 k a0_9 && plain_2 k a0_10) && plain_3 k a0_11 a0_12) && plain_4 k n13) && plain_5 k n14)) with _ | _
        ·
          have hr : ((((((plain_1 k a0_9 && plain_2 k a0_10) && plain_3 k a0_11 a0_12) && plain_4 k n13) && plain_5 k n14) && plain_6 k n6 n7)) = false := by simp [hx, plain_6]
          have HR := Aside0.mk hr
          have HX := Aside0.mk hx
          clear hr hx
          go_wp2
          exact HQ1.out _ ⟨rfl, rfl, rfl, rfl, rfl, rfl, by rw [HR.out]; rfl⟩
        ·
          rcases op : plain_open k with _ | _
          ·
            rcases z6 : (wrap64 ((n6 : Int) + (n7 : Int)) == 0) with _ | _
            ·
              have hr : ((((((plain_1 k a0_9 && plain_2 k a0_10) && plain_3 k a0_11 a0_12) && plain_4 k n13) && plain_5 k n14) && plain_6 k n6 n7)) = false := by simp [hx, plain_6, op, z6]
              have HR := Aside0.mk hr
              have HX := Aside0.mk hx
              have HOP := Aside0.mk op
              clear hr hx op
              go_wp2
              exact HQ1.out _ ⟨rfl, rfl, rfl, rfl, rfl, by rw [HOP.out]; rfl, by rw [HR.out]; rfl⟩
            ·
              have hr : ((((((plain_1 k a0_9 && plain_2 k a0_10) && plain_3 k a0_11 a0_12) && plain_4 k n13) && plain_5 k n14) && plain_6 k n6 n7)) = true := by simp [hx, plain_6, op, z6]
              have HR := Aside0.mk hr
              have HX := Aside0.mk hx
              have HOP := Aside0.mk op
              clear hr hx op
              go_wp2
              exact HQ1.out _ ⟨rfl, rfl, rfl, rfl, rfl, by rw [HOP.out]; rfl, by rw [HR.out]; rfl⟩
          ·
            have hr : ((((((plain_1 k a0_9 && plain_2 k a0_10) && plain_3 k a0_11 a0_12) && plain_4 k n13) && plain_5 k n14) && plain_6 k n6 n7)) = true := by simp [hx, plain_6, op]
            have HR := Aside0.mk hr
            have HX := Aside0.mk hx
            have HOP := Aside0.mk op
            clear hr hx op
            go_wp2
            exact HQ1.out _ ⟨rfl, rfl, rfl, rfl, rfl, by rw [HOP.out]; rfl, by rw [HR.out]; rfl⟩
      simp only [List.drop_succ_cons, List.drop_zero]
      intro a hS
      obtain ⟨tm, df⟩ := a
      obtain rfl : df = [] := hS.defers
      obtain ⟨f, rfl⟩ := frameF hS.size
      have f1 : f 1 = .pointer (some ⟨w.heap.size, 0, none⟩) := Option.some.inj hS.s1
      have f3 : f 3 = .int .i64 k := Option.some.inj hS.s3
      have f4 : f 4 = .bool (plain_rated k) := Option.some.inj hS.s4
      have f5 : f 5 = .bool (plain_open k) := Option.some.inj hS.s5
      have fc : f 104 = .bool ((((((plain_1 k a0_9 && plain_2 k a0_10) && plain_3 k a0_11 a0_12) && plain_4 k n13) && plain_5 k n14) && plain_6 k n6 n7)) := Option.some.inj hS.sc
      rw [f1, f3, f4, f5, fc]
      clear f1 f3 f4 f5 fc
      clear hS
      have hc5 : wc.cell? ⟨w.heap.size, 5, none⟩ = some (.bool a0_5) := (blk_cell HBL2.out 5).trans rfl
      rcases hx : ((((((plain_1 k a0_9 && plain_2 k a0_10) && plain_3 k a0_11 a0_12) && plain_4 k n13) && plain_5 k n14) && plain_6 k n6 n7)) with _ | _
      ·
        have hr : (((((((plain_1 k a0_9 && plain_2 k a0_10) && plain_3 k a0_11 a0_12) && plain_4 k n13) && plain_5 k n14) && plain_6 k n6 n7) && plain_7 k a0_5)) = false := by simp [hx, plain_7]
        have HR := Aside0.mk hr
        have HX := Aside0.mk hx
        clear hr hx
        go_wp2
        go_ret
        exact ⟨by rw [HR.out] <;> rfl, HB2.out⟩
      ·
        rcases e7 : (k != 7) with _ | _
        ·
          rcases cl : a0_5 with _ | _
          ·
            have hr : (((((((plain_1 k a0_9 && plain_2 k a0_10) && plain_3 k a0_11 a0_12) && plain_4 k n13) && plain_5 k n14) && plain_6 k n6 n7) && plain_7 k a0_5)) = true := by simp [hx, plain_7, e7, cl]
            have HR := Aside0.mk hr
            have HX := Aside0.mk hx
            clear hr hx
            go_wp2
            go_ret
            exact ⟨by rw [HR.out] <;> rfl, HB2.out⟩
          ·
            have hr : (((((((plain_1 k a0_9 && plain_2 k a0_10) && plain_3 k a0_11 a0_12) && plain_4 k n13) && plain_5 k n14) && plain_6 k n6 n7) && plain_7 k a0_5)) = false := by simp [hx, plain_7, e7, cl]
            have HR := Aside0.mk hr
            have HX := Aside0.mk hx
            clear hr hx
            go_wp2
            go_ret
            exact ⟨by rw [HR.out] <;> rfl, HB2.out⟩
        ·
          have hr : (((((((plain_1 k a0_9 && plain_2 k a0_10) && plain_3 k a0_11 a0_12) && plain_4 k n13) && plain_5 k n14) && plain_6 k n6 n7) && plain_7 k a0_5)) = true := by simp [hx, plain_7, e7]
          have HR := Aside0.mk hr
          have HX := Aside0.mk hx
          clear hr hx
          go_wp2
          go_ret
          exact ⟨by rw [HR.out] <;> rfl, HB2.out⟩
def promo_one_plain.f (a0_0 : ByteArray) (a0_1 : Int) (a0_2 : Int) (a0_3 : ByteArray) (a0_4 : ByteArray) (a0_5 : Bool) (l0_6 : List ByteArray) (l0_7 : List ByteArray) (a0_8 : Int) (a0_9 : Int) (a0_10 : Int) (a0_11 : Int) (a0_12 : Int) (l0_13 : List (S65)) (l0_14 : List (S67)) : Option (Bool) :=
  some ((((((plain_1 a0_1 a0_9 && plain_2 a0_1 a0_10) && plain_3 a0_1 a0_11 a0_12) && plain_4 a0_1 l0_13.length) && plain_5 a0_1 l0_14.length) && plain_6 a0_1 l0_6.length l0_7.length) && plain_7 a0_1 a0_5)
theorem promo_one_plain.calls (a0_0 : ByteArray) (a0_1 : Int) (a0_2 : Int) (a0_3 : ByteArray) (a0_4 : ByteArray) (a0_5 : Bool) (A0_6 : Option Addr) (c0_6 : Nat) (l0_6 : List ByteArray) (A0_7 : Option Addr) (c0_7 : Nat) (l0_7 : List ByteArray) (a0_8 : Int) (a0_9 : Int) (a0_10 : Int) (a0_11 : Int) (a0_12 : Int) (A0_13 : Option Addr) (c0_13 : Nat) (l0_13 : List (S65)) (A0_14 : Option Addr) (c0_14 : Nat) (l0_14 : List (S67)) (r : Bool) (w : World) (h : promo_one_plain.f a0_0 a0_1 a0_2 a0_3 a0_4 a0_5 l0_6 l0_7 a0_8 a0_9 a0_10 a0_11 a0_12 l0_13 l0_14 = some r) :
    Calls Try.prog 71 #[.agg #[.string a0_0, .int .i64 a0_1, .int .i64 a0_2, .string a0_3, .string a0_4, .bool a0_5, .slice A0_6 l0_6.length c0_6, .slice A0_7 l0_7.length c0_7, .int .i64 a0_8, .int .i64 a0_9, .int .i64 a0_10, .int .i64 a0_11, .int .i64 a0_12, .slice A0_13 l0_13.length c0_13, .slice A0_14 l0_14.length c0_14]] w fun e w' => e = .returned (.bool r) ∧ Below w.heap.size w w' := by
  unfold promo_one_plain.f at h
  obtain rfl := Option.some.inj h
  exact plain_walk a0_0 a0_1 a0_2 a0_3 a0_4 a0_5 A0_6 l0_6.length c0_6 A0_7 l0_7.length c0_7 a0_8 a0_9 a0_10 a0_11 a0_12 A0_13 l0_13.length c0_13 A0_14 l0_14.length c0_14 w
end Go.Proofs.Ytdmeepjefccpgaa.Rw
